import Derived.Shelf.Strconv.Itoa3
import Derived.Shelf.Strconv.ErrVarAll
import Derived.Shelf.Pu.ParseUintPublic10
import Derived.Shelf.Bits.Mul64
import Derived.Shelf.Strings.OnBuilder
import Derived.Test.YtkncmbklkhjmgaaGreatDoorProg
import Derived.Lib.ParseIntB
import Derived.Lib.Join
import Derived.Lib.Bytealg
import Derived.Shelf.Strconv.Clone
import Derived.Test.YtkncmbklkhjmgaaGreatDoorJ3
set_option linter.unusedVariables false
set_option linter.unusedSimpArgs false
set_option maxRecDepth 100000
set_option maxHeartbeats 4000000
namespace Go.Ax.Bg
/-- So many limbs of a number. -/
def zAq : Nat → Nat → List Int
 | 0, _ => []
 | k + 1, v => ((v % 4294967296 : Nat) : Int) :: zAq k (v / 4294967296)
theorem zAr : ∀ (k v : Nat), (zAq k v).length = k
 | 0, _ => rfl
 | k + 1, v => by rw [zAq, List.length_cons, zAr]
theorem zDV : ∀ (k v : Nat), Lim (zAq k v)
 | 0, _ => Lim.nil
 | k + 1, v => by rw [zAq, Lim.cons]; exact ⟨zCD v, zDV k _⟩
theorem zFT : ∀ (k v : Nat), v < B ^ k → zP (zAq k v) = v
 | 0, v, h => by simp at h; subst h; rfl
 | k + 1, v, h => by
  rw [zAq, zP, Int.toNat_natCast, zFT k]
  ·unfold B; omega
  ·rw [Nat.pow_succ, Nat.mul_comm] at h
   exact Nat.div_lt_of_lt_mul h
theorem zEg : ∀ {l : List Int} {k v : Nat}, Lim l → l.length = k → zP l = v → l = zAq k v
 | [], k, v, _, hk, _ => by simp at hk; subst hk; rfl
 | x :: r, k, v, h, hk, hv => by
  rw [Lim.cons] at h
  obtain ⟨m, rfl⟩ : ∃ m, k = m + 1 := ⟨r.length, by simpa using hk.symm⟩
  rw [zP] at hv
  subst hv
  have hx : x.toNat < 4294967296 := by omega
  rw [zAq, Nat.add_mul_mod_self_left, Nat.mod_eq_of_lt hx, Nat.add_mul_div_left _ _ (by decide), Nat.div_eq_of_lt hx, Nat.zero_add]
  rw [← zEg h.2 (by simpa using hk) rfl]
  congr 1
  omega
theorem zEI {A U C : List Int} {j i : Nat} (hj : A.length = j) (h : i < U.length) : (A ++ (U ++ C)).getD (j + i) 0 = U.getD i 0 := by
 subst hj
 simp only [List.getD]
 rw [List.getElem?_append_right (by omega), Nat.add_sub_cancel_left, List.getElem?_append_left h]
theorem zLh {A U C : List Int} {j i : Nat} {x : Int} (hj : A.length = j) (h : i < U.length) : (A ++ (U ++ C)).set (j + i) x = A ++ (U.set i x ++ C) := by
 subst hj
 rw [List.set_append_right _ _ (by omega), Nat.add_sub_cancel_left, List.set_append_left _ _ h]
theorem zDN {l : List Int} {i : Nat} {x : Int} (h : i < l.length) : (l.set i x).take (i + 1) = l.take i ++ [x] := by
 have h2 : i < (l.set i x).length := by simpa using h
 rw [zAJ (l.set i x) 0 i h2]
 congr 1
 ·rw [List.take_set_of_le (Nat.le_refl _)]
 ·simp [List.getD, h]
/-- The three limbs on top. -/
theorem top3 {U : List Int} {s u0 u1 u2 : Nat} (hs : 2 ≤ s) (hl : U.length = s + 1) (h : Lim U) (h0 : U.getD s 0 = (u0 : Int)) (h1 : U.getD (s - 1) 0 = (u1 : Int)) (h2 : U.getD (s - 2) 0 = (u2 : Int)) :
 ∃ low, low < B ^ (s - 2) ∧ zP U = low + ((u0 * 4294967296 + u1) * 4294967296 + u2) * B ^ (s - 2) := by
 refine ⟨zP (U.take (s - 2)), ?_, ?_⟩
 ·have := zAE (h.take (s - 2))
  rwa [List.length_take, Nat.min_eq_left (by omega)] at this
 ·have e : zP U = zP (U.take (s - 2 + 1 + 1 + 1)) := by rw [List.take_of_length_le (by omega)]
  rw [e, zX, zX, zX, show s - 2 + 1 + 1 = s by omega, show s - 2 + 1 = s - 1 by omega, h0, h1, h2]
  simp only [Int.toNat_natCast]
  have p1 : B ^ (s - 1) = B ^ (s - 2) * 4294967296 := by rw [show s - 1 = s - 2 + 1 by omega, Nat.pow_succ]
  have p0 : B ^ s = B ^ (s - 2) * 4294967296 * 4294967296 := by rw [show s = s - 2 + 1 + 1 by omega, Nat.pow_succ, Nat.pow_succ]; rfl
  rw [p1, p0]
  generalize B ^ (s - 2) = p
  rw [Nat.add_mul, Nat.add_mul, Nat.add_mul]
  rw [show p * 4294967296 * 4294967296 * u0 = u0 * 4294967296 * 4294967296 * p by ac_rfl, show p * 4294967296 * u1 = u1 * 4294967296 * p by ac_rfl, Nat.mul_comm p u2]
  omega
theorem top2 {V : List Int} {s v1 v2 : Nat} (hs : 2 ≤ s) (hl : V.length = s) (h : Lim V) (h1 : V.getD (s - 1) 0 = (v1 : Int)) (h2 : V.getD (s - 2) 0 = (v2 : Int)) :
 ∃ low, low < B ^ (s - 2) ∧ zP V = low + (v1 * 4294967296 + v2) * B ^ (s - 2) := by
 refine ⟨zP (V.take (s - 2)), ?_, ?_⟩
 ·have := zAE (h.take (s - 2))
  rwa [List.length_take, Nat.min_eq_left (by omega)] at this
 ·have e : zP V = zP (V.take (s - 2 + 1 + 1)) := by rw [List.take_of_length_le (by omega)]
  rw [e, zX, zX, show s - 2 + 1 = s - 1 by omega, h1, h2]
  simp only [Int.toNat_natCast]
  have p1 : B ^ (s - 1) = B ^ (s - 2) * 4294967296 := by rw [show s - 1 = s - 2 + 1 by omega, Nat.pow_succ]
  rw [p1]
  generalize B ^ (s - 2) = p
  rw [Nat.add_mul, show p * 4294967296 * v1 = v1 * 4294967296 * p by ac_rfl, Nat.mul_comm p v2]
  omega
theorem est0 {u v U3 V2 P g lu lv : Nat} (hP : 0 < P) (hlu : lu < P) (eu : u = lu + U3 * P) (hlv : lv < P) (ev : v = lv + V2 * P) (hV2 : 4294967296 ≤ V2) (hlt : u < 4294967296 * v) (hg : g ≤ 4294967295) (hgV : g * V2 ≤ U3)
 (hmax : ∀ g', g' ≤ 4294967295 → g' * V2 ≤ U3 → g' ≤ g) : u / v ≤ g ∧ g ≤ u / v + 1 := by
 have hv0 : 0 < v := by
  have : 1 * P ≤ V2 * P := Nat.mul_le_mul_right _ (by omega)
  omega
 have hq : u / v ≤ 4294967295 := by
  have := Nat.div_lt_of_lt_mul (n := v) (k := 4294967296) (m := u) (by rw [Nat.mul_comm]; exact hlt)
  omega
 constructor
 ·refine hmax _ hq (est_ge (u := u) (v := v) hP ?_ ?_ (Nat.div_mul_le_self u v))
  ·rw [Nat.add_mul]; omega
  ·omega
 ·rcases Nat.eq_zero_or_pos g with q | q
  ·rw [q]; exact Nat.zero_le _
  ·have := est_le (u := u) (v := v) (P := P) hP (by omega) (by rw [Nat.add_mul]; omega) hgV (by omega) q
   have h3 : g - 1 ≤ u / v := by rw [Nat.le_div_iff_mul_le hv0]; exact this
   omega
/-- The estimate is the zAa or one more. -/
theorem est {U V : List Int} {s u0 u1 u2 v1 v2 g : Nat} (hs : 2 ≤ s) (hl : U.length = s + 1) (hlv : V.length = s) (h : Lim U) (hv : Lim V) (h0 : U.getD s 0 = (u0 : Int)) (h1 : U.getD (s - 1) 0 = (u1 : Int)) (h2 : U.getD (s - 2) 0 = (u2 : Int))
 (k1 : V.getD (s - 1) 0 = (v1 : Int)) (k2 : V.getD (s - 2) 0 = (v2 : Int)) (htop : 2147483648 ≤ v1) (hlt : zP U < 4294967296 * zP V) (hg : g ≤ 4294967295) (hgV : g * (v1 * 4294967296 + v2) ≤ (u0 * 4294967296 + u1) * 4294967296 + u2)
 (hmax : ∀ g', g' ≤ 4294967295 → g' * (v1 * 4294967296 + v2) ≤ (u0 * 4294967296 + u1) * 4294967296 + u2 → g' ≤ g) : zP U / zP V ≤ g ∧ g ≤ zP U / zP V + 1 := by
 obtain ⟨lu, hlu, eu⟩ := top3 hs hl h h0 h1 h2
 obtain ⟨lv, hlv', ev⟩ := top2 hs hlv hv k1 k2
 exact est0 (bpos _) hlu eu hlv' ev (by omega) hlt hg hgV hmax
theorem and_low (m : Nat) : m &&& 4294967295 = m % 4294967296 := by
 have := Nat.and_two_pow_sub_one_eq_mod m 32
 have e : 2 ^ 32 - 1 = 4294967295 := by decide
 rw [e, p32] at this
 exact this
/-- One limb of the subtraction. -/
theorem zJ1 {Uc U V : List Int} {i g cr br ui vi yv b' : Nat} (hi : i < Uc.length) (h : zP (Uc.take i) + g * zP (V.take i) = zP (U.take i) + B ^ i * (cr + br)) (hu : U.getD i 0 = (ui : Int)) (hv : V.getD i 0 = (vi : Int))
 (hy : yv + ((cr + g * vi) % 4294967296 + br) = ui + 4294967296 * b') :
 zP ((Uc.set i (yv : Int)).take (i + 1)) + g * zP (V.take (i + 1)) = zP (U.take (i + 1)) + B ^ (i + 1) * ((cr + g * vi) / 4294967296 + b') := by
 rw [zDN hi, zCA, List.length_take, Nat.min_eq_left (by omega), zX, zX, hu, hv, Int.toNat_natCast, Int.toNat_natCast, Int.toNat_natCast, Nat.pow_succ]
 have := sub_step (P := B ^ i) h b' (t := g * vi) (y := yv) (ui := ui) (by unfold B; omega)
 rw [Nat.mul_add, Nat.mul_left_comm g (B ^ i) vi]
 exact this
theorem zLn {a br e : Nat} (ha : a < 4294967296) (he : e < 4294967296) (hb : br ≤ 1) : ∃ yv b' : Nat, yv + (e + br) = a + 4294967296 * b' ∧ b' ≤ 1 ∧ yv < 4294967296 ∧ ((a : Int) - e - br < 0 → b' = 1 ∧ (yv : Int) = a - e - br + 4294967296) ∧ (¬ (a : Int) - e - br < 0 → b' = 0 ∧ (yv : Int) = a - e - br) := by
 rcases Nat.lt_or_ge a (e + br) with q | q
 ·exact ⟨a + 4294967296 - (e + br), 1, by omega, by omega, by omega, fun h => ⟨Y, by omega⟩, fun h => by omega⟩
 ·exact ⟨a - (e + br), 0, by omega, by omega, by omega, fun h => by omega, fun h => ⟨Y, by omega⟩⟩
/-- One limb of the sum in place. -/
theorem zLm {Uc U V : List Int} {i sm ui vi : Nat} (hi : i < Uc.length) (h : zP (Uc.take i) + B ^ i * sm = zP (U.take i) + zP (V.take i)) (hu : U.getD i 0 = (ui : Int)) (hv : V.getD i 0 = (vi : Int)) :
 zP ((Uc.set i (((sm + ui + vi) % 4294967296 : Nat) : Int)).take (i + 1)) + B ^ (i + 1) * ((sm + ui + vi) / 4294967296) = zP (U.take (i + 1)) + zP (V.take (i + 1)) := by
 rw [zDN hi]
 exact zIm (by simp; omega) h hu hv
end Go.Ax.Bg
namespace Go.Proofs.YtkncmbklkhjmgaaGreatDoor
open Go.Ax Go.Ax.Bg Go.RowKit
attribute [local irreducible] Ax zAO QOp zK
theorem zKK (a b : Nat) (ha : (zL a).length ≤ 100000000) (hb : (zL b).length ≤ 100000000) : zN Tryz.prog 202 [zg a, zg b] (zg (a * b)) := by
 refine zK.value0 (zC (P := Tryz.prog) (fn := Tryz.f202) Y Y (by kernel_rfl) Y (fun c hR hfix => ?_)) (fix := fun _ => False) (fun _ h => h) Y Y
 have hx := zo a
 have hy := zo b
 have hv : zP (zL a) * zP (zL b) = a * b := by rw [zb, zb]
 unfold zg
 rw [← hv] at hR
 generalize zL a = x at *
 generalize zL b = y at *
 refine rn3 ?_
 refine zBl Y Y Y Y Y Y Y Y (by show (0 : Int) ≤ _ ∧ _ ≤ _ ∧ (4 : Int) * _ ≤ _ ∧ _; omega) ?_
 rw [show ((x.length : Int) + (y.length : Int)).toNat = x.length + y.length by omega]
 refine rn3 ?_
 refine zY (ι := Nat × List Int) (fun p => [(1, .ro (.ints .u32 y) 0 y.length), (5, .sl 0 0 (x.length + y.length)), (17, .ro (.ints .u32 x) 0 x.length), (18, .int .i64 (x.length : Nat)), (19, .int .i64 (p.1 : Nat))]) (fun p => [some ⟨223, .ints .u32 p.2⟩])
  (fun p => p.1 ≤ x.length ∧ p.2.length = x.length + y.length ∧ Lim p.2 ∧ zP p.2 = zP (x.take p.1) * zP y ∧ ∀ q, p.1 + y.length ≤ q → p.2.getD q 0 = 0) (fun p => x.length - p.1) (0, List.replicate (x.length + y.length) 0) ⟨⟨rfl, rfl, rfl, rfl, rfl, trivial⟩, rfl, Nat.zero_le _, by simp, Lim.zeros _, by simp [zP, zFF], fun q _ => zJp _ _⟩ ?_
 rintro ⟨i, out⟩ ⟨h1, h2, h3, h4, h5⟩
 simp only at *
 refine rn4 ?_
 refine zB Y (fun h6 => ?_) (fun h6 => ?_)
 ·have hil : i < x.length := by omega
  obtain ⟨d, hd, hdB⟩ := hx.nat i
  refine rn6 ?_
  refine zAS 7 (.int .u32 (d : Nat)) Y (AEq.of_eq (by rw [hd])) ?_
  refine zY (ι := Nat × List Int × Nat) (fun p => [(1, .ro (.ints .u32 y) 0 y.length), (5, .sl 0 0 (x.length + y.length)), (6, .int .i64 (i : Nat)), (7, .int .u32 (d : Nat)), (8, .int .u64 (p.2.2 : Nat)), (17, .ro (.ints .u32 x) 0 x.length), (18, .int .i64 (x.length : Nat)), (19, .int .i64 (i : Nat)), (24, .ro (.ints .u32 y) 0 y.length), (25, .int .i64 (y.length : Nat)), (26, .int .i64 (p.1 : Nat))]) (fun p => [some ⟨223, .ints .u32 p.2.1⟩])
   (fun p => p.1 ≤ y.length ∧ p.2.1.length = x.length + y.length ∧ Lim p.2.1 ∧ p.2.2 < 4294967296 ∧ zP p.2.1 + B ^ (i + p.1) * p.2.2 = zP (x.take i) * zP y + B ^ i * (d * zP (y.take p.1)) ∧ ∀ q, i + y.length ≤ q → p.2.1.getD q 0 = 0) (fun p => y.length - p.1) (0, out, 0) ⟨⟨rfl, rfl, rfl, rfl, rfl, rfl, rfl, rfl, rfl, rfl, rfl, trivial⟩, rfl, Nat.zero_le _, h2, h3, Nat.zero_lt_succ _, by simp [zP, h4], h5⟩ ?_
  rintro ⟨j, o2, cr⟩ ⟨k1, k2, k3, k4, k5, k6⟩
  simp only at *
  refine rn4 ?_
  refine zB Y (fun k7 => ?_) (fun k7 => ?_)
  ·have hjl : j < y.length := by omega
   obtain ⟨e, he, heB⟩ := hy.nat j
   obtain ⟨f, hf, hfB⟩ := k3.nat (i + j)
   have hb1 : d * e ≤ 4294967295 * 4294967295 := Nat.mul_le_mul (by omega) (by omega)
   refine rn6 ?_
   refine zF (zp (m := d) Y Y Y zAQ (by omega)) ?_
   repeat (refine zF (zU rfl) ?_)
   refine zG 34 (.int .u32 (e : Nat)) Y (AEq.of_eq (by rw [he])) ?_
   refine zF (zp (m := e) Y Y Y zAQ (by omega)) ?_
   refine zF (zF3 Y Y zAQ (by omega)) ?_
   refine rn3 ?_
   refine zG 40 (.int .i64 (i + j : Nat)) Y (AEq.of_eq (by rw [Int.natCast_add])) ?_
   refine rn7 ?_
   refine zG 42 (.int .u32 (f : Nat)) Y (AEq.of_eq (by rw [hf])) ?_
   refine zF (zp (m := f) Y Y Y zAQ (by omega)) ?_
   refine zF (zDL Y Y zAQ (by omega)) ?_
   refine zF (zDL Y Y zAQ (by omega)) ?_
   refine rn3 ?_
   refine zF (zDr Y Y Y zC5) ?_
   refine zG 49 (.int .i64 (i + j : Nat)) Y (AEq.of_eq (by rw [Int.natCast_add])) ?_
   refine rn7 ?_
   refine zF (zDs (s := 32) Y Y Y) ?_
   refine rn5 ?_
   refine zM ⟨(j + 1, o2.set (i + j) (((cr + (d * e + f)) % 4294967296 : Nat) : Int), (cr + (d * e + f)) / 4294967296), ⟨by simp only; omega, by simp [k2], k3.set (zCD _), by simp only; omega, ?_, fun q hq => ?_⟩, by simp only; omega, ⟨Y, Y, Y, Y, Y, Y, Y, Y, Y, Y, Y, trivial⟩, Y⟩
   ·have := mul_step (cr := cr) (a := d) (b := e) (p := i + j) (by omega) k5 hf
    simp only
    rw [show i + (j + 1) = i + j + 1 from rfl, this, zX y j, he, Int.toNat_natCast, Nat.add_assoc]
    congr 1
    rw [Nat.mul_add, Nat.mul_add, Nat.pow_add]
    congr 1
    ac_rfl
   ·simp only
    rw [zBq (by omega)]; exact k6 q hq
  ·have hje : j = y.length := by omega
   subst hje
   rw [List.take_length] at k5
   have hz := k6 (i + y.length) (Nat.le_refl _)
   have hset := zHP (x := (cr : Int)) (show i + y.length < o2.length by omega)
   rw [hz, Int.toNat_natCast] at hset
   refine rn5 ?_
   refine zF (zp (m := cr) Y Y Y zC5 k4) ?_
   refine zG 60 (.int .i64 (i + y.length : Nat)) Y (AEq.of_eq (by rw [Int.natCast_add])) ?_
   refine rn7 ?_
   refine zM ⟨(i + 1, o2.set (i + y.length) (cr : Int)), ⟨by simp only; omega, by simp [k2], k3.set (by omega), ?_, fun q hq => ?_⟩, by simp only; omega, ⟨Y, Y, Y, Y, Y, trivial⟩, Y⟩
   ·simp only
    rw [zX x i, hd, Int.toNat_natCast, Nat.add_mul, Nat.mul_assoc, ← k5]
    have : (0 : Int).toNat = 0 := rfl
    rw [this] at hset
    omega
   ·simp only at hq ⊢
    rw [zBq (by omega)]; exact k6 q (by omega)
 ·have hie : i = x.length := by omega
  subst hie
  rw [List.take_length] at h4
  have hc := zCE _ h3 (by omega)
  rw [h4] at hc
  refine rn5 ?_
  refine zCB 0 65 (x.length + y.length) [] Y zl Y (by show _ ≤ out.length; omega) trivial ?_
  refine zA Y Y (zBh h2) hc ?_
  refine rn0 ?_
  exact zE hR Y Y
/-- shift: limbs of one's own. -/
theorem zJh (n : List Int) (s : Nat) (hn : Lim n) (hlen : n.length ≤ 100000000) (hs : s < 32) :
 FCall Tryz.prog 228 [zDl n, .int .i64 (s : Nat)] (fun h => .sl h 0 (n.length + 1)) ⟨223, .ints .u32 (zAq (n.length + 1) (zP n * 2 ^ s))⟩ := by
 refine zK.fresh (K := fun r H => r = .sl 0 0 (n.length + 1) ∧ H = [some ⟨223, .ints .u32 (zAq (n.length + 1) (zP n * 2 ^ s))⟩]) (zC (P := Tryz.prog) (fn := Tryz.f228) Y Y (by kernel_rfl) Y (fun c hR hfix => ?_)) (fix := fun _ => False) (fun _ h => h) Y (fun H => ⟨Y, trivial, trivial, trivial⟩) ?_
 ·have hp : 2 ^ s ≤ 2147483648 := by
   have := Nat.pow_le_pow_right (show 0 < 2 by decide) (show s ≤ 31 by omega)
   exact Nat.le_trans this (by decide)
  have hp1 : 0 < 2 ^ s := Nat.pow_pos (by decide)
  unfold zDl
  refine rn3 ?_
  refine zBl Y Y Y Y Y Y Y Y (by show (0 : Int) ≤ 0 ∧ _ ≤ _ ∧ (4 : Int) * _ ≤ _ ∧ _; omega) ?_
  refine rn3 ?_
  refine zGh 0 (.ints .u32 []) Y ⟨Nat.zero_le _, Y, fun i j hi _ => absurd hi (Nat.not_lt_zero _)⟩ ?_
  refine zY (ι := Nat × List Int × Nat) (fun p => [(1, .int .i64 (s : Nat)), (5, .sl 0 0 p.1), (6, .int .u64 (p.2.2 : Nat)), (13, .ro (.ints .u32 n) 0 n.length), (14, .int .i64 (n.length : Nat)), (15, .int .i64 (p.1 : Nat))]) (fun p => [some ⟨223, .ints .u32 p.2.1⟩])
   (fun p => p.1 ≤ n.length ∧ p.2.1.length = p.1 ∧ Lim p.2.1 ∧ p.2.2 < 2 ^ s ∧ zP p.2.1 + B ^ p.1 * p.2.2 = zP (n.take p.1) * 2 ^ s) (fun p => n.length - p.1) (0, [], 0) ⟨⟨rfl, rfl, rfl, rfl, rfl, rfl, trivial⟩, rfl, Nat.zero_le _, rfl, Lim.nil, hp1, by simp [zP]⟩ ?_
  rintro ⟨i, out, cr⟩ ⟨h1, h2, h3, h4, h5⟩
  simp only at *
  refine rn4 ?_
  refine zB Y (fun h6 => ?_) (fun h6 => ?_)
  ·have hil : i < n.length := by omega
   obtain ⟨d, hd, hdB⟩ := hn.nat i
   have hor : cr ||| d * 2 ^ s = cr + d * 2 ^ s := by
    have := Nat.two_pow_add_eq_or_of_lt h4 d
    rw [Nat.or_comm, Nat.mul_comm d, ← this, Nat.add_comm]
   have hdm : d * 2 ^ s ≤ 4294967295 * 2147483648 := Nat.mul_le_mul (by omega) hp
   have hq : (cr + d * 2 ^ s) / 4294967296 < 2 ^ s := by
    refine Nat.div_lt_of_lt_mul ?_
    have : (d + 1) * 2 ^ s ≤ 4294967296 * 2 ^ s := Nat.mul_le_mul_right _ (by omega)
    rw [Nat.add_mul] at this
    omega
   refine rn6 ?_
   refine zG 20 (.int .u32 (d : Nat)) Y (AEq.of_eq (by rw [hd])) ?_
   refine zF (zp (m := d) Y Y Y zAQ (by omega)) ?_
   repeat (refine zF (zU rfl) ?_)
   refine zF (zHA (m := d) (s := s) Y Y (by show s ≤ 64; omega) zAQ (by omega)) ?_
   refine zF (QOp.res (zJb Y Y zAQ Y (by omega) (by omega)) (by rw [hor])) ?_
   refine rn0 ?_
   refine zF (zDr Y Y Y zC5) ?_
   repeat (refine zd rfl rfl rfl rfl rfl rfl rfl rfl rfl rfl rfl ?_)
   refine zS Y Y Y Y Y Y Y Y Y h2 Y Y (Nat.le_refl 1) Y (by show (i + 1) * 4 ≤ _ ∧ _; omega) (fun i j _ _ => rfl) (by rw [hfix]; exact fun h => h) ?_
   refine rn0 ?_
   refine zF (zDs (s := 32) Y Y Y) ?_
   refine rn5 ?_
   refine zM ⟨(i + 1, out ++ [(((cr + d * 2 ^ s) % 4294967296 : Nat) : Int)], (cr + d * 2 ^ s) / 4294967296), ⟨by simp only; omega, by simp [h2], Lim.append.2 ⟨h3, Lim.one (zCD _)⟩, hq, ?_⟩, by simp only; omega, ⟨Y, Y, Y, Y, Y, Y, trivial⟩, Y⟩
   have := zFB h2 h5 (c := cr + d * 2 ^ s) (d := d * 2 ^ s) rfl
   simp only at this ⊢
   rw [this, zX n i, hd, Int.toNat_natCast, Nat.add_mul, Nat.mul_assoc]
  ·have hie : i = n.length := by omega
   subst hie
   rw [List.take_length] at h5
   refine rn5 ?_
   refine zF (zp (m := cr) Y Y Y zC5 (by omega)) ?_
   repeat (refine zd rfl rfl rfl rfl rfl rfl rfl rfl rfl rfl rfl ?_)
   refine zS Y Y Y Y Y Y Y Y Y h2 Y Y (Nat.le_refl 1) Y (by show (n.length + 1) * 4 ≤ _ ∧ _; omega) (fun i j _ _ => rfl) (by rw [hfix]; exact fun h => h) ?_
   have hl : Lim (out ++ [(cr : Int)]) := Lim.append.2 ⟨h3, Lim.one (by omega)⟩
   have hv : zP (out ++ [(cr : Int)]) = zP n * 2 ^ s := by
    rw [zCA, h2, Int.toNat_natCast]; exact h5
   have hfx := zEg hl (k := n.length + 1) (by simp [h2]) hv
   refine rn0 ?_
   refine zE hR Y ⟨Y, ?_⟩
   show ([some ⟨223, .ints .u32 (out ++ [(cr : Int)])⟩] : zH) = _
   rw [hfx]
 ·rintro r H ⟨rfl, rfl⟩
  refine ⟨fun o ho => by simp at ho; subst ho; show 0 + (n.length + 1) ≤ (zAq _ _).length; rw [zAr]; omega, refl1 zl, 0, rfl, fun k => rfl⟩
theorem digit_ok (A U C V : List Int) (j s : Nat) (Hr : zH) (hj : A.length = j) (hs : 2 ≤ s) (hl : U.length = s + 1) (hlv : V.length = s) (hU : Lim U) (hV : Lim V) (htop : 2147483648 ≤ V.getD (s - 1) 0) (hlt : zP U < 4294967296 * zP V)
 (hsz : (A ++ (U ++ C)).length ≤ 1000000000) :
 zK Tryz.prog 229 [.sl 0 j (s + 1), zDl V] (some ⟨223, .ints .u32 (A ++ (U ++ C))⟩ :: Hr) (fun h => h < Hr.length + 1)
  (fun r H => r = .int .u32 (zP U / zP V : Nat) ∧ H = some ⟨223, .ints .u32 (A ++ (zAq (s + 1) (zP U % zP V) ++ C))⟩ :: Hr) := by
 refine zC (P := Tryz.prog) (fn := Tryz.f229) Y Y (by kernel_rfl) Y (fun c hR hfix => ?_)
 have hsd := hlv
 obtain ⟨u0, h0, b0⟩ := hU.nat s
 obtain ⟨u1, h1, b1⟩ := hU.nat (s - 1)
 obtain ⟨u2, h2, b2⟩ := hU.nat (s - 2)
 obtain ⟨v1, k1, c1⟩ := hV.nat (s - 1)
 obtain ⟨v2, k2, c2⟩ := hV.nat (s - 2)
 have htop' : 2147483648 ≤ v1 := by omega
 have hest := fun g => est (g := g) hs hl hsd hU hV h0 h1 h2 k1 k2 htop' hlt
 have g0 := zEI (C := C) hj (show s < U.length by omega)
 have g1 := zEI (C := C) hj (show s - 1 < U.length by omega)
 have g2 := zEI (C := C) hj (show s - 2 < U.length by omega)
 rw [h0] at g0; rw [h1] at g1; rw [h2] at g2
 have hlen : (A ++ (U ++ C)).length = j + (s + 1) + C.length := by simp [hj, hl]; omega
 have hv0 : 0 < zP V := by
  have := zX V (s - 1)
  rw [show s - 1 + 1 = V.length by omega, List.take_length, k1, Int.toNat_natCast] at this
  have h3 : B ^ (s - 1) * 1 ≤ B ^ (s - 1) * v1 := Nat.mul_le_mul_left _ (by omega)
  have := bpos (s - 1)
  omega
 unfold zDl
 rw [hsd]
 refine rn3 ?_
 refine zBy (by kernel_rfl) (by kernel_rfl) Y ?_
 refine rn7 ?_
 refine zG 20 (.int .u32 (u0 : Nat)) Y (AEq.of_eq (by rw [g0])) ?_
 refine zF (zp (m := u0) Y Y Y zAQ (by omega)) ?_
 refine zF (zHA (m := u0) (s := 32) Y Y (by decide) zAQ (zF7 b0)) ?_
 refine rn8 ?_
 refine zG 25 (.int .i64 (s - 1 : Nat)) Y (AEq.of_eq (by congr 1; omega)) ?_
 refine rn7 ?_
 refine zG 27 (.int .u32 (u1 : Nat)) Y (AEq.of_eq (by rw [g1])) ?_
 refine zF (zp (m := u1) Y Y Y zAQ (by omega)) ?_
 refine zF (QOp.res (zJb Y Y zAQ Y (zF7 b0) (by omega)) (by rw [zKQ b1])) ?_
 have htb : u0 * 4294967296 + u1 < 18446744073709551616 := by omega
 obtain ⟨top, htp⟩ : ∃ top, u0 * 4294967296 + u1 = top := ⟨_, rfl⟩
 rw [htp] at hest htb ⊢
 refine rn7 ?_
 refine zG 33 (.int .i64 (s - 1 : Nat)) Y (AEq.of_eq (by congr 1; omega)) ?_
 refine rn6 ?_
 refine zG 35 (.int .u32 (v1 : Nat)) Y (AEq.of_eq (by rw [k1])) ?_
 refine zF (zp (m := v1) Y Y Y zAQ (by omega)) ?_
 refine zF (q_uquo Y Y zAQ htb (by omega)) ?_
 obtain ⟨gs, hgs, hg1, hg2⟩ : ∃ gs : Nat, (if ((4294967295 : Int) < ((top / v1 : Nat) : Int)) then (4294967295 : Int) else ((top / v1 : Nat) : Int)) = (gs : Int) ∧ gs ≤ 4294967295 ∧ (gs = 4294967295 ∨ gs = top / v1) ∧ gs ≤ top / v1 := by
  generalize top / v1 = z
  by_cases hz : (4294967295 : Int) < (z : Int)
  ·exact ⟨4294967295, by rw [if_pos hz]; rfl, by omega, by omega, by omega⟩
  ·exact ⟨z, by rw [if_neg hz], by omega, by omega, by omega⟩
 obtain ⟨hg2, hg3⟩ := hg2
 have hgm : gs * v1 ≤ top := Nat.le_trans (Nat.mul_le_mul_right _ hg3) (Nat.div_mul_le_self top v1)
 have hb0 := zIa (a := gs) (b := v1) (c := 0) (by omega) c1 (by decide)
 refine zF (q_min Y Y) ?_
 refine zG 38 (.int .u64 (gs : Nat)) Y (AEq.of_eq (by rw [← hgs])) ?_
 refine rn7 ?_
 refine zG 43 (.int .i64 (s - 1 : Nat)) Y (AEq.of_eq (by congr 1; omega)) ?_
 refine rn6 ?_
 refine zG 45 (.int .u32 (v1 : Nat)) Y (AEq.of_eq (by rw [k1])) ?_
 refine zF (zp (m := v1) Y Y Y zAQ (by omega)) ?_
 refine zF (zF3 Y Y zAQ hb0.1) ?_
 refine zF (zKd Y Y zAQ htb hgm) ?_
 refine rn1 ?_
 refine zY (ι := Nat × Nat) (fun p => [(0, .sl 0 j (s + 1)), (1, .ro (.ints .u32 V) 0 s), (5, .int .i64 (s : Nat)), (7, .int .u64 (p.1 : Nat)), (8, .int .u64 (p.2 : Nat))]) (fun _ => some ⟨223, .ints .u32 (A ++ (U ++ C))⟩ :: Hr)
  (fun p => p.1 ≤ 4294967295 ∧ p.2 + p.1 * v1 = top ∧ ∀ g', g' ≤ 4294967295 → g' * (v1 * 4294967296 + v2) ≤ top * 4294967296 + u2 → g' ≤ p.1) (fun p => p.1) (gs, top - gs * v1) ⟨⟨rfl, rfl, rfl, rfl, rfl, trivial⟩, rfl, hg1, by simp only; omega, fun g' q1 q2 => ?_⟩ ?_
 ·have := guess_ge (by omega) b2 q2
  rcases hg2 with h | h
  ·show g' ≤ gs; omega
  ·show g' ≤ gs; rw [h]; exact this
 rintro ⟨g, r⟩ ⟨i1, i2, i3⟩
 simp only at *
 have htest := zKA (B := 4294967296) (u2 := u2) (v2 := v2) i2 (by omega) c2
 have hbg := zIa (a := g) (b := v2) (c := 0) (by omega) c2 (by decide)
 apply zAD (H := some ⟨223, .ints .u32 (A ++ (U ++ C))⟩ :: Hr) [(0, .sl 0 j (s + 1)), (1, .ro (.ints .u32 V) 0 s), (5, .int .i64 (s : Nat)), (7, .int .u64 (g : Nat)), (8, .int .u64 (r : Nat)), (70, .bool (decide (r < 4294967296 ∧ r * 4294967296 + u2 < g * v2)))]
 ·intro fin
  repeat (refine zAA ?_)
  refine zBy (by kernel_rfl) (by kernel_rfl) Y ?_
  repeat (first | refine zF (zU rfl) ?_ | refine zF (zIB rfl rfl) ?_)
  refine zW Y Y (fun q0 => ?_) (fun q0 => ?_)
  ·have q0' : r < 4294967296 := by omega
   refine rn8 ?_
   refine zG 55 (.int .i64 (s - 2 : Nat)) Y (AEq.of_eq (by congr 1; omega)) ?_
   refine rn6 ?_
   refine zG 57 (.int .u32 (v2 : Nat)) Y (AEq.of_eq (by rw [k2])) ?_
   refine zF (zp (m := v2) Y Y Y zAQ (by omega)) ?_
   refine zAF Y Y ?_
   refine zF (zF3 Y Y zAQ hbg.1) ?_
   refine rn2 ?_
   refine zF (zHA (m := r) (s := 32) Y Y (by decide) zAQ (zF7 q0')) ?_
   refine rn8 ?_
   refine zG 64 (.int .i64 (s - 2 : Nat)) Y (AEq.of_eq (by congr 1; omega)) ?_
   refine zCM ?_
   refine zG 66 (.int .u32 (u2 : Nat)) Y (AEq.of_eq (by rw [g2])) ?_
   refine zF (zp (m := u2) Y Y Y zAQ (by omega)) ?_
   refine zAF Y Y ?_
   refine zF (QOp.res (zJb Y Y zAQ Y (zF7 q0') (by omega)) (by rw [zKQ b2])) ?_
   refine zDc ?_
   refine fin _ ⟨Y, Y, Y, Y, Y, ?_, trivial⟩
   show some (AV.bool (decide (((r * 4294967296 + u2 : Nat) : Int) < ((g * v2 : Nat) : Int)))) = _
   congr 2
   rw [decide_eq_decide]
   constructor
   ·intro h; exact ⟨q0', by omega⟩
   ·intro h; exact Int.ofNat_lt.2 h.2
  ·refine zDc ?_
   refine fin _ ⟨Y, Y, Y, Y, Y, ?_, trivial⟩
   show some (AV.bool false) = _
   rw [decide_eq_false]
   intro h
   exact q0 (by omega)
 refine zB Y (fun q0 => ?_) (fun q0 => ?_)
 ·have q1 := htest.1 q0
  have hg0 : 0 < g := by
   rcases Nat.eq_zero_or_pos g with z | z
   ·subst z; rw [Nat.zero_mul] at q1; omega
   ·exact z
  obtain ⟨g, rfl⟩ : ∃ m, g = m + 1 := ⟨g - 1, by omega⟩
  rw [Nat.add_mul, Nat.one_mul] at i2
  refine rn1 ?_
  refine zF (zKd (m := g + 1) (n := 1) Y Y zAQ (by omega) (by omega)) ?_
  refine rn7 ?_
  refine zG 74 (.int .i64 (s - 1 : Nat)) Y (AEq.of_eq (by congr 1; omega)) ?_
  refine rn6 ?_
  refine zG 76 (.int .u32 (v1 : Nat)) Y (AEq.of_eq (by rw [k1])) ?_
  refine zF (zp (m := v1) Y Y Y zAQ (by omega)) ?_
  refine zF (zDL Y Y zAQ (by omega)) ?_
  refine rn0 ?_
  refine zM ⟨(g, r + v1), ⟨by simp only; omega, by simp only; omega, fun g' z1 z2 => ?_⟩, by simp only; omega, ⟨Y, Y, Y, Y, Y, trivial⟩, Y⟩
  have z3 := i3 g' z1 z2
  show g' ≤ g
  rcases Nat.lt_or_ge g g' with z | z
  ·exfalso
   have : g' = g + 1 := by omega
   subst this
   omega
  ·exact z
 ·have q1 : g * (v1 * 4294967296 + v2) ≤ top * 4294967296 + u2 := by
   rcases Nat.lt_or_ge (top * 4294967296 + u2) (g * (v1 * 4294967296 + v2)) with z | z
   ·exact absurd (htest.2 z) q0
   ·exact z
  obtain ⟨e1, e2⟩ := hest g i1 q1 i3
  clear hest htest i3 q0
  have hmB : zP U % zP V < B ^ (s + 1) := Nat.lt_of_le_of_lt (Nat.mod_le _ _) (by have := zAE hU; rwa [hl] at this)
  have hdone := fun (w b : Nat) (hw : w < B ^ (s + 1)) => zJ0 (u := zP U) (v := zP V) (g := g) (w := w) (n := s + 1) (b := b) hw (by have := zAE hV; rw [hsd] at this; exact Nat.lt_of_lt_of_le this (Nat.pow_le_pow_right (by decide) (by omega))) (by have := zAE hU; rwa [hl] at this)
  generalize zP U / zP V = q at *
  generalize hme : zP U % zP V = m at *
  refine rn5 ?_
  have hAl : ∀ W : List Int, W.length = s + 1 → ∀ i, i < s + 1 → i + j < (A ++ (W ++ C)).length := fun W hW i hi => by simp [hj, hW]; omega
  refine zY (ι := Nat × List Int × Nat × Nat) (fun p => [(0, .sl 0 j (s + 1)), (1, .ro (.ints .u32 V) 0 s), (5, .int .i64 (s : Nat)), (7, .int .u64 (g : Nat)), (9, .int .u64 (p.2.2.1 : Nat)), (10, .int .i64 (p.2.2.2 : Nat)), (82, .int .i64 (s + 1 : Nat)), (83, .int .i64 (p.1 : Nat))]) (fun p => some ⟨223, .ints .u32 (A ++ (p.2.1 ++ C))⟩ :: Hr)
   (fun p => p.1 ≤ s + 1 ∧ p.2.1.length = s + 1 ∧ Lim p.2.1 ∧ (∀ x, p.1 ≤ x → p.2.1.getD x 0 = U.getD x 0) ∧ p.2.2.1 < 4294967296 ∧ p.2.2.2 ≤ 1 ∧ (p.1 = s + 1 → p.2.2.1 = 0) ∧ zP (p.2.1.take p.1) + g * zP (V.take p.1) = zP (U.take p.1) + B ^ p.1 * (p.2.2.1 + p.2.2.2)) (fun p => s + 1 - p.1) (0, U, 0, 0)
   ⟨⟨rfl, rfl, rfl, rfl, rfl, rfl, rfl, rfl, trivial⟩, rfl, Nat.zero_le _, hl, hU, fun _ _ => rfl, Nat.zero_lt_succ _, Nat.zero_le _, fun _ => rfl, by simp [zP]⟩ ?_
  rintro ⟨i, Uc, cr, br⟩ ⟨w1, w2, w3, w4, w5, w6, w7, w8⟩
  simp only at *
  refine rn4 ?_
  refine zB Y (fun w9 => ?_) (fun w9 => ?_)
  ·have his : i < s + 1 := by omega
   obtain ⟨ui, hui, hub⟩ := hU.nat i
   obtain ⟨vi, hvi, hvb⟩ := hV.nat i
   have hmb := zIa (a := g) (b := vi) (c := cr) (by omega) hvb w5
   have hsl := hAl Uc w2 i his
   have hcur := zEI (C := C) hj (show i < Uc.length by omega)
   rw [w4 i (Nat.le_refl _), hui] at hcur
   have hlm : (cr + g * vi) % 4294967296 < 4294967296 := Nat.mod_lt _ (by decide)
   have hdb : (cr + g * vi) / 4294967296 < 4294967296 := by omega
   obtain ⟨yv, b', y1, y2, y3, y4, y5⟩ := zLn hub hlm w6
   have hstep := zJ1 (g := g) (cr := cr) (yv := yv) (b' := b') (show i < Uc.length by omega) w8 hui hvi y1
   have hlast : i + 1 = s + 1 → (cr + g * vi) / 4294967296 = 0 := fun h => by
    have : V.getD i 0 = 0 := by simp [List.getD, List.getElem?_eq_none (show V.length ≤ i by omega)]
    have : vi = 0 := by omega
    subst this
    rw [Nat.mul_zero, Nat.add_zero]
    exact Nat.div_eq_of_lt w5
   refine rn4 ?_
   apply zAD (H := some ⟨223, .ints .u32 (A ++ (Uc ++ C))⟩ :: Hr) [(0, .sl 0 j (s + 1)), (1, .ro (.ints .u32 V) 0 s), (5, .int .i64 (s : Nat)), (7, .int .u64 (g : Nat)), (9, .int .u64 (cr + g * vi : Nat)), (10, .int .i64 (br : Nat)), (11, .int .i64 (i : Nat)), (82, .int .i64 (s + 1 : Nat)), (83, .int .i64 (i : Nat))]
   ·intro fin
    refine zB Y (fun q0 => ?_) (fun q0 => ?_)
    ·refine rn6 ?_
     refine zG 94 (.int .u32 (vi : Nat)) Y (AEq.of_eq (by rw [hvi])) ?_
     refine zF (zp (m := vi) Y Y Y zAQ (by omega)) ?_
     refine zF (zF3 Y Y zAQ hmb.1) ?_
     refine zF (zDL Y Y zAQ hmb.2) ?_
     refine zCN ?_
     exact fin _ ⟨Y, Y, Y, Y, Y, Y, Y, Y, Y, trivial⟩
    ·have hv0 : vi = 0 := by
      have : V.getD i 0 = 0 := by simp [List.getD, List.getElem?_eq_none (show V.length ≤ i by omega)]
      omega
     subst hv0
     refine zCN ?_
     exact fin _ ⟨Y, Y, Y, Y, Y, Y, Y, Y, Y, trivial⟩
   refine rn7 ?_
   refine zG 101 (.int .u32 (ui : Nat)) Y (AEq.of_eq (by rw [hcur])) ?_
   refine zF (zDa (m := ui) Y Y Y (by omega)) ?_
   repeat (refine zF (zU rfl) ?_)
   refine zF (QOp.res (q_uand (n := 4294967295) Y Y zAQ Y hmb.2 (by decide)) (by rw [and_low])) ?_
   obtain ⟨lo, hlo⟩ : ∃ lo, (cr + g * vi) % 4294967296 = lo := ⟨_, rfl⟩
   rw [hlo] at hlm y1 y4 y5 ⊢
   refine zF (zDa (m := lo) Y Y Y (by omega)) ?_
   refine rn7 ?_
   refine zF (zDs (s := 32) Y Y Y) ?_
   refine rn4 ?_
   apply zAD (H := some ⟨223, .ints .u32 (A ++ (Uc ++ C))⟩ :: Hr) [(0, .sl 0 j (s + 1)), (1, .ro (.ints .u32 V) 0 s), (5, .int .i64 (s : Nat)), (7, .int .u64 (g : Nat)), (9, .int .u64 ((cr + g * vi) / 4294967296 : Nat)), (10, .int .i64 (b' : Nat)), (11, .int .i64 (i : Nat)), (12, .int .i64 (yv : Nat)), (82, .int .i64 (s + 1 : Nat)), (83, .int .i64 (i : Nat))]
   ·intro fin
    refine zB Y (fun q0 => ?_) (fun q0 => ?_)
    ·obtain ⟨z1, z2⟩ := y4 q0
     subst z1
     skip
     refine zZ Y ?_
     refine zCN ?_
     exact fin _ ⟨Y, Y, Y, Y, Y, Y, Y, by rw [z2]; rfl, Y, Y, trivial⟩
    ·obtain ⟨z1, z2⟩ := y5 q0
     subst z1
     refine zCN ?_
     exact fin _ ⟨Y, Y, Y, Y, Y, Y, Y, by rw [z2]; rfl, Y, Y, trivial⟩
   refine rn0 ?_
   refine zF (zp (m := yv) Y Y Y zC5 y3) ?_
   have hset := zLh (x := (yv : Int)) (C := C) hj (show i < Uc.length by omega)
   refine rn7 ?_
   refine zM ⟨(i + 1, Uc.set i (yv : Int), (cr + g * vi) / 4294967296, b'), ⟨by simp only; omega, by simp [w2], w3.set (by omega), fun x hx => ?_, hdb, y2, hlast, hstep⟩, by simp only; omega, ⟨Y, Y, Y, Y, Y, Y, Y, Y, trivial⟩, ?_⟩
   ·simp only at hx ⊢
    rw [zBq (by omega)]; exact w4 x (by omega)
   ·show some (⟨_, .ints .u32 ((A ++ (Uc ++ C)).set (j + i) (yv : Int))⟩ : AObj) :: Hr = _
    rw [hset]
  ·have hie : i = s + 1 := by omega
   subst hie
   have hcr := w7 rfl
   subst hcr
   rw [List.take_of_length_le (by omega), List.take_of_length_le (by omega), List.take_of_length_le (by omega), Nat.zero_add] at w8
   have hUcb := zAE w3
   rw [w2] at hUcb
   obtain ⟨d0, d1⟩ := hdone (zP Uc) br hUcb w6 w8 e1 e2 hv0
   refine rn5 ?_
   refine zB Y (fun q0 => ?_) (fun q0 => ?_)
   ·obtain ⟨z1, z2⟩ := d0 (by omega)
    subst z1
    have hfx := zEg w3 w2 z2
    refine rn0 ?_
    refine zF (zp (m := g) Y Y Y zC5 (by omega)) ?_
    refine rn2 ?_
    refine zE hR Y ⟨Y, ?_⟩
    rw [hfx]
   ·obtain ⟨z1, z2⟩ := d1 (by omega)
    refine rn3 ?_
    refine zY (ι := Nat × List Int × Nat) (fun p => [(0, .sl 0 j (s + 1)), (1, .ro (.ints .u32 V) 0 s), (5, .int .i64 (s : Nat)), (7, .int .u64 (g : Nat)), (13, .int .u64 (p.2.2 : Nat)), (126, .int .i64 (s + 1 : Nat)), (127, .int .i64 (p.1 : Nat))]) (fun p => some ⟨223, .ints .u32 (A ++ (p.2.1 ++ C))⟩ :: Hr)
     (fun p => p.1 ≤ s + 1 ∧ p.2.1.length = s + 1 ∧ Lim p.2.1 ∧ (∀ x, p.1 ≤ x → p.2.1.getD x 0 = Uc.getD x 0) ∧ p.2.2 < 4294967296 ∧ zP (p.2.1.take p.1) + B ^ p.1 * p.2.2 = zP (Uc.take p.1) + zP (V.take p.1)) (fun p => s + 1 - p.1) (0, Uc, 0)
     ⟨⟨rfl, rfl, rfl, rfl, rfl, rfl, rfl, trivial⟩, rfl, Nat.zero_le _, w2, w3, fun _ _ => rfl, Nat.zero_lt_succ _, by simp [zP]⟩ ?_
    rintro ⟨i, Ud, sm⟩ ⟨x1, x2, x3, x4, x5, x6⟩
    simp only at *
    refine rn4 ?_
    refine zB Y (fun x9 => ?_) (fun x9 => ?_)
    ·have his : i < s + 1 := by omega
     obtain ⟨ui, hui, hub⟩ := w3.nat i
     obtain ⟨vi, hvi, hvb⟩ := hV.nat i
     have hcur := zEI (C := C) hj (show i < Ud.length by omega)
     rw [x4 i (Nat.le_refl _), hui] at hcur
     have hsl := hAl Ud x2 i his
     have hstep := zLm (sm := sm) (show i < Ud.length by omega) x6 hui hvi
     refine rn7 ?_
     refine zG 134 (.int .u32 (ui : Nat)) Y (AEq.of_eq (by rw [hcur])) ?_
     refine zF (zp (m := ui) Y Y Y zAQ (by omega)) ?_
     refine zF (zDL Y Y zAQ (by omega)) ?_
     refine rn4 ?_
     apply zAD (H := some ⟨223, .ints .u32 (A ++ (Ud ++ C))⟩ :: Hr) [(0, .sl 0 j (s + 1)), (1, .ro (.ints .u32 V) 0 s), (5, .int .i64 (s : Nat)), (7, .int .u64 (g : Nat)), (13, .int .u64 (sm + ui + vi : Nat)), (14, .int .i64 (i : Nat)), (126, .int .i64 (s + 1 : Nat)), (127, .int .i64 (i : Nat))]
     ·intro fin
      refine zB Y (fun q1 => ?_) (fun q1 => ?_)
      ·refine rn6 ?_
       refine zG 144 (.int .u32 (vi : Nat)) Y (AEq.of_eq (by rw [hvi])) ?_
       refine zF (zp (m := vi) Y Y Y zAQ (by omega)) ?_
       refine zF (zDL Y Y zAQ (by omega)) ?_
       refine zCN ?_
       exact fin _ ⟨Y, Y, Y, Y, Y, Y, Y, Y, trivial⟩
      ·have hv0 : vi = 0 := by
        have : V.getD i 0 = 0 := by simp [List.getD, List.getElem?_eq_none (show V.length ≤ i by omega)]
        omega
       subst hv0
       refine zCN ?_
       exact fin _ ⟨Y, Y, Y, Y, Y, Y, Y, Y, trivial⟩
     refine rn0 ?_
     refine zF (zDr Y Y Y zC5) ?_
     have hset := zLh (x := (((sm + ui + vi) % 4294967296 : Nat) : Int)) (C := C) hj (show i < Ud.length by omega)
     refine rn7 ?_
     refine zF (zDs (s := 32) Y Y Y) ?_
     refine rn5 ?_
     refine zM ⟨(i + 1, Ud.set i (((sm + ui + vi) % 4294967296 : Nat) : Int), (sm + ui + vi) / 4294967296), ⟨by simp only; omega, by simp [x2], x3.set (zCD _), fun x hx => ?_, by simp only; omega, hstep⟩, by simp only; omega, ⟨Y, Y, Y, Y, Y, Y, Y, trivial⟩, ?_⟩
     ·simp only at hx ⊢
      rw [zBq (by omega)]; exact x4 x (by omega)
     ·show some (⟨_, .ints .u32 ((A ++ (Ud ++ C)).set (j + i) (((sm + ui + vi) % 4294967296 : Nat) : Int))⟩ : AObj) :: Hr = _
      rw [hset]
    ·have hie : i = s + 1 := by omega
     subst hie
     rw [List.take_of_length_le (by omega), List.take_of_length_le (by omega), List.take_of_length_le (by omega), z2] at x6
     have hUdb := zAE x3
     rw [x2] at hUdb
     have hv : zP Ud = m := by
      rcases Nat.lt_trichotomy sm 1 with z | z | z
      ·have : sm = 0 := by omega
       subst this
       omega
      ·subst z; omega
      ·have : B ^ (s + 1) * 2 ≤ B ^ (s + 1) * sm := Nat.mul_le_mul_left _ z
       omega
     have hfx := zEg x3 x2 hv
     refine rn5 ?_
     refine zF (zKd (m := g) (n := 1) Y Y zAQ (by omega) (by omega)) ?_
     refine zF (zp (m := g - 1) Y Y Y zC5 (by omega)) ?_
     refine rn0 ?_
     refine zE hR Y ⟨?_, ?_⟩
     ·rw [show g - 1 = q by omega]; rfl
     ·rw [hfx]
end Go.Proofs.YtkncmbklkhjmgaaGreatDoor
namespace Go.Ax.Bg
theorem zDU : ∀ (a b v : Nat), zAq (a + b) v = zAq a v ++ zAq b (v / B ^ a)
 | 0, b, v => by simp [zAq]
 | a + 1, b, v => by
  rw [show a + 1 + b = a + b + 1 by omega, zAq, zAq, zDU a b, List.cons_append, Nat.pow_succ, Nat.mul_comm (B ^ a), ← Nat.div_div_eq_div_mul]
theorem zDj : ∀ (k v : Nat), zP (zAq k v) = v % B ^ k
 | 0, v => by simp [zAq, zP, Nat.mod_one]
 | k + 1, v => by
  rw [zAq, zP, Int.toNat_natCast, zDj k, Nat.pow_succ, Nat.mul_comm (B ^ k), Nat.mod_mul]
theorem zJ6 {k v w : Nat} (h : v % B ^ k = w % B ^ k) : zAq k v = zAq k w := by
 have h1 := zEg (zDV k v) (zAr k v) (zDj k v)
 have h2 := zEg (zDV k w) (zAr k w) (zDj k w)
 rw [h1, h2, h]
/-- The top limb. -/
theorem zEX {v s : Nat} (hs : 1 ≤ s) (h : (zL v).length = s) : ∃ t low : Nat, (zL v).getD (s - 1) 0 = (t : Int) ∧ t < 4294967296 ∧ 0 < t ∧ v = low + B ^ (s - 1) * t ∧ low < B ^ (s - 1) := by
 obtain ⟨t, ht, hb⟩ := (zo v).nat (s - 1)
 refine ⟨t, zP ((zL v).take (s - 1)), ht, hb, ?_, ?_, ?_⟩
 ·rcases zHz (n := v) with q | q
  ·rw [q] at h; simp at h; omega
  ·rw [h, ht] at q; omega
 ·have := zX (zL v) (s - 1)
  rw [show s - 1 + 1 = (zL v).length by omega, List.take_length, zb, ht, Int.toNat_natCast] at this
  exact this
 ·have := zAE ((zo v).take (s - 1))
  rwa [List.length_take, Nat.min_eq_left (by omega)] at this
theorem bexp {s : Nat} (hs : 1 ≤ s) : B ^ s = B ^ (s - 1) * 4294967296 := by
 rw [show s = s - 1 + 1 by omega, Nat.pow_succ]; rfl
/-- The divisor, shifted to the top. -/
theorem norm_top {m k s t : Nat} (hs : 1 ≤ s) (h : (zL m).length = s) (ht : (zL m).getD (s - 1) 0 = (t : Int)) (h1 : 2147483648 ≤ t * 2 ^ k) (h2 : t * 2 ^ k < 4294967296) (hk : k ≤ 31) :
 (zL (m * 2 ^ k)).length = s ∧ 2147483648 ≤ (zL (m * 2 ^ k)).getD (s - 1) 0 := by
 obtain ⟨t', low, e, hb, hp, hv, hlow⟩ := zEX hs h
 have : t' = t := by omega
 subst this
 have hP := bpos (s - 1)
 have hpk : 0 < 2 ^ k := Nat.pow_pos (by decide)
 have hd : ∃ q, 4294967296 = q * 2 ^ k := ⟨2 ^ (32 - k), by rw [← Nat.pow_add, show 32 - k + k = 32 by omega]⟩
 obtain ⟨q, hq⟩ := hd
 have h3 : t' + 1 ≤ q := by
  have : t' * 2 ^ k < q * 2 ^ k := by omega
  exact Nat.lt_of_mul_lt_mul_right this
 have h4 : (t' + 1) * 2 ^ k ≤ 4294967296 := by rw [hq]; exact Nat.mul_le_mul_right _ h3
 have hup : m * 2 ^ k < B ^ s := by
  rw [bexp hs]
  have h5 : m < B ^ (s - 1) * (t' + 1) := by rw [Nat.mul_add]; omega
  have h6 : m * 2 ^ k < B ^ (s - 1) * (t' + 1) * 2 ^ k := Nat.mul_lt_mul_of_pos_right h5 hpk
  have h7 : B ^ (s - 1) * ((t' + 1) * 2 ^ k) ≤ B ^ (s - 1) * 4294967296 := Nat.mul_le_mul_left _ h4
  rw [Nat.mul_assoc] at h6
  omega
 have hlo : B ^ (s - 1) * 2147483648 ≤ m * 2 ^ k := by
  have h5 : B ^ (s - 1) * (t' * 2 ^ k) ≤ m * 2 ^ k := by
   rw [← Nat.mul_assoc]; exact Nat.mul_le_mul_right _ (by omega)
  exact Nat.le_trans (Nat.mul_le_mul_left _ h1) h5
 have hlen : (zL (m * 2 ^ k)).length = s := by
  have a := z8 hup
  have b : B ^ (s - 1) ≤ m * 2 ^ k := by
   have : B ^ (s - 1) * 1 ≤ B ^ (s - 1) * 2147483648 := Nat.mul_le_mul_left _ (by decide)
   omega
  have c := zJH b
  omega
 refine ⟨hlen, ?_⟩
 obtain ⟨t2, low2, e2, _, _, hv2, hlow2⟩ := zEX hs hlen
 rw [e2]
 rcases Nat.lt_or_ge t2 2147483648 with z | z
 ·exfalso
  have : B ^ (s - 1) * (t2 + 1) ≤ B ^ (s - 1) * 2147483648 := Nat.mul_le_mul_left _ (by omega)
  rw [Nat.mul_add] at this
  omega
 ·omega
theorem k_more {t k : Nat} (ht : 0 < t) (h : t * 2 ^ k < 4294967296) (hk : k ≤ 31) (h0 : t * 2 ^ k / 2 ^ 31 = 0) : t * 2 ^ (k + 1) < 4294967296 ∧ k + 1 ≤ 31 := by
 have h1 : t * 2 ^ k < 2147483648 := by
  rcases Nat.lt_or_ge (t * 2 ^ k) 2147483648 with q | q
  ·exact q
  ·have := Nat.div_le_div_right (c := 2 ^ 31) q
   rw [h0] at this
   exact absurd this (by decide)
 refine ⟨by rw [Nat.pow_succ, ← Nat.mul_assoc]; omega, ?_⟩
 rcases Nat.lt_or_ge k 31 with q | q
 ·exact q
 ·exfalso
  have : k = 31 := by omega
  subst this
  have : 1 * 2 ^ 31 ≤ t * 2 ^ 31 := Nat.mul_le_mul_right _ ht
  have e : (2 : Nat) ^ 31 = 2147483648 := by decide
  rw [e] at this h1
  omega
theorem k_stop {t k : Nat} (h0 : ¬ t * 2 ^ k / 2 ^ 31 = 0) : 2147483648 ≤ t * 2 ^ k := by
 rcases Nat.lt_or_ge (t * 2 ^ k) 2147483648 with q | q
 ·exact absurd (Nat.div_eq_of_lt (by have e : (2 : Nat) ^ 31 = 2147483648 := by decide
                                     rw [e]; exact q)) h0
 ·exact q
/-- Where the quotient's digits begin. -/
theorem zME {n ln v s k : Nat} (hn : n < B ^ ln) (hk : k ≤ 31) (hs : 1 ≤ s) (hsl : s ≤ ln) (hv : B ^ (s - 1) * 2147483648 ≤ v) : n * 2 ^ k < v * B ^ (ln + 1 - s) := by
 have hp : 2 ^ k ≤ 2147483648 := Nat.le_trans (Nat.pow_le_pow_right (show 0 < 2 by decide) hk) (by decide)
 have h1 : n * 2 ^ k ≤ n * 2147483648 := Nat.mul_le_mul_left _ hp
 have h2 : B ^ (s - 1) * 2147483648 * B ^ (ln + 1 - s) ≤ v * B ^ (ln + 1 - s) := Nat.mul_le_mul_right _ hv
 have h3 : B ^ (s - 1) * 2147483648 * B ^ (ln + 1 - s) = B ^ ln * 2147483648 := by
  have e : B ^ ln = B ^ (s - 1) * B ^ (ln + 1 - s) := by rw [← Nat.pow_add]; congr 1; omega
  rw [e]; ac_rfl
 omega
theorem top_ge {v s : Nat} (hs : 1 ≤ s) (hl : (zL v).length = s) (h : 2147483648 ≤ (zL v).getD (s - 1) 0) : B ^ (s - 1) * 2147483648 ≤ v := by
 obtain ⟨t, low, e, _, _, hv, _⟩ := zEX hs hl
 have : B ^ (s - 1) * 2147483648 ≤ B ^ (s - 1) * t := Nat.mul_le_mul_left _ (by omega)
 omega
/-- One zAa: the rest. -/
theorem quo_step {W v s j N : Nat} (hv0 : 0 < v) (hv : v < B ^ s) (hW : W < v * B ^ (j + 1)) (hN : j + (s + 1) ≤ N) :
 zAq N W = zAq j W ++ (zAq (s + 1) (W / B ^ j) ++ zAq (N - (j + (s + 1))) (W / B ^ j / B ^ (s + 1))) ∧ zP (zAq (s + 1) (W / B ^ j)) = W / B ^ j ∧ W / B ^ j < 4294967296 * v ∧
  ∃ W', zAq j W ++ (zAq (s + 1) (W / B ^ j % v) ++ zAq (N - (j + (s + 1))) (W / B ^ j / B ^ (s + 1))) = zAq N W' ∧ W' < v * B ^ j ∧ W' + B ^ j * (v * (W / B ^ j / v)) = W := by
 have hP := bpos j
 have h1 : W / B ^ j < 4294967296 * v := by
  refine Nat.div_lt_of_lt_mul ?_
  have : v * B ^ (j + 1) = B ^ j * (4294967296 * v) := by rw [Nat.pow_succ]; unfold B; ac_rfl
  rw [← this]; exact hW
 have h2 : W / B ^ j < B ^ (s + 1) := by
  have : 4294967296 * v ≤ 4294967296 * B ^ s := Nat.mul_le_mul_left _ (by omega)
  rw [Nat.pow_succ, Nat.mul_comm (B ^ s)]
  exact Nat.lt_of_lt_of_le h1 this
 have h3 : W / B ^ j / B ^ (s + 1) = 0 := Nat.div_eq_of_lt h2
 have hr : W / B ^ j % v < v := Nat.mod_lt _ hv0
 have hvs : v < B ^ (s + 1) := Nat.lt_of_lt_of_le hv (Nat.pow_le_pow_right (by decide) (by omega))
 refine ⟨?_, zFT _ _ h2, h1, W % B ^ j + B ^ j * (W / B ^ j % v), ?_, ?_, ?_⟩
 ·rw [← zDU, ← zDU]
  congr 1; omega
 ·have e1 : (W % B ^ j + B ^ j * (W / B ^ j % v)) / B ^ j = W / B ^ j % v := by
   rw [Nat.add_mul_div_left _ _ hP, Nat.div_eq_of_lt (Nat.mod_lt _ hP), Nat.zero_add]
  have e2 : (W % B ^ j + B ^ j * (W / B ^ j % v)) % B ^ j = W % B ^ j := by
   rw [Nat.add_mul_mod_self_left, Nat.mod_mod]
  rw [show N = j + ((s + 1) + (N - (j + (s + 1)))) by omega, zDU j, zDU (s + 1), e1, h3, zJ6 e2.symm]
  rw [show j + (s + 1 + (N - (j + (s + 1)))) - (j + (s + 1)) = N - (j + (s + 1)) by omega, Nat.div_eq_of_lt (Nat.lt_trans hr hvs)]
 ·have h5 : B ^ j * (W / B ^ j % v + 1) ≤ B ^ j * v := Nat.mul_le_mul_left _ hr
  have h6 := Nat.mod_lt W hP
  rw [Nat.mul_add] at h5
  rw [Nat.mul_comm v]
  omega
 ·have a := Nat.div_add_mod W (B ^ j)
  have b := Nat.div_add_mod (W / B ^ j) v
  have c : B ^ j * (v * (W / B ^ j / v)) + B ^ j * (W / B ^ j % v) = B ^ j * (W / B ^ j) := by rw [← Nat.mul_add, b]
  omega
theorem quo_end {n m k W Q : Nat} (hm : 0 < m) (h : Q * (m * 2 ^ k) + W = n * 2 ^ k) (hW : W < m * 2 ^ k) : Q = n / m ∧ W = n % m * 2 ^ k := by
 have hk : 0 < 2 ^ k := Nat.pow_pos (by decide)
 have h0 : 0 < m * 2 ^ k := Nat.mul_pos hm hk
 have e1 : n * 2 ^ k / (m * 2 ^ k) = n / m := Nat.mul_div_mul_right _ _ hk
 have e2 : n * 2 ^ k % (m * 2 ^ k) = n % m * 2 ^ k := Nat.mul_mod_mul_right ..
 rw [← h] at e1 e2
 rw [Nat.add_comm, Nat.add_mul_div_right _ _ h0, Nat.div_eq_of_lt hW, Nat.zero_add] at e1
 rw [Nat.add_comm, Nat.add_mul_mod_self_right, Nat.mod_eq_of_lt hW] at e2
 exact ⟨e1, e2⟩
/-- A limb shifted back by k bits. -/
theorem zLl {d e k : Nat} (hd : d < 4294967296) (hk : k ≤ 31) : d / 2 ^ k ||| e * 2 ^ (32 - k) % 4294967296 = d / 2 ^ k + e % 2 ^ k * 2 ^ (32 - k) := by
 have hp : 0 < 2 ^ (32 - k) := Nat.pow_pos (by decide)
 have e1 : (4294967296 : Nat) = 2 ^ k * 2 ^ (32 - k) := by rw [← Nat.pow_add, show k + (32 - k) = 32 by omega]
 have e2 : e * 2 ^ (32 - k) % 4294967296 = e % 2 ^ k * 2 ^ (32 - k) := by
  rw [e1]; exact Nat.mul_mod_mul_right ..
 have h1 : d / 2 ^ k < 2 ^ (32 - k) := by
  refine Nat.div_lt_of_lt_mul ?_
  rw [← e1]; exact hd
 rw [e2]
 have := Nat.two_pow_add_eq_or_of_lt h1 (e % 2 ^ k)
 rw [Nat.or_comm, Nat.mul_comm (e % 2 ^ k), ← this, Nat.add_comm]
theorem back_lim {d e k : Nat} (hd : d < 4294967296) (hk : k ≤ 31) : d / 2 ^ k + e % 2 ^ k * 2 ^ (32 - k) < 4294967296 := by
 have e1 : (4294967296 : Nat) = 2 ^ k * 2 ^ (32 - k) := by rw [← Nat.pow_add, show k + (32 - k) = 32 by omega]
 have h1 : d / 2 ^ k < 2 ^ (32 - k) := by
  refine Nat.div_lt_of_lt_mul ?_
  rw [← e1]; exact hd
 have h2 : (e % 2 ^ k + 1) * 2 ^ (32 - k) ≤ 2 ^ k * 2 ^ (32 - k) := Nat.mul_le_mul_right _ (Nat.mod_lt _ (Nat.pow_pos (by decide)))
 rw [Nat.add_mul, ← e1] at h2
 omega
theorem back_val {out r : List Int} {i k d e : Nat} (hk : k ≤ 31) (hl : out.length = i) (hd : r.getD i 0 = (d : Int)) {d0 : Nat} (h : zP out * 2 ^ k + d0 = zP (r.take i) + (d % 2 ^ k) * B ^ i) :
 zP (out ++ [((d / 2 ^ k + e % 2 ^ k * 2 ^ (32 - k) : Nat) : Int)]) * 2 ^ k + d0 = zP (r.take (i + 1)) + (e % 2 ^ k) * B ^ (i + 1) := by
 rw [zCA, hl, Int.toNat_natCast, zX, hd, Int.toNat_natCast, Nat.pow_succ]
 have e1 : (4294967296 : Nat) = 2 ^ (32 - k) * 2 ^ k := by rw [← Nat.pow_add, show 32 - k + k = 32 by omega]
 have e2 := Nat.div_add_mod d (2 ^ k)
 have e3 : B ^ i * (d / 2 ^ k + e % 2 ^ k * 2 ^ (32 - k)) * 2 ^ k = B ^ i * (2 ^ k * (d / 2 ^ k)) + e % 2 ^ k * (B ^ i * B) := by
  rw [show B = 2 ^ (32 - k) * 2 ^ k from e1]
  generalize (2 ^ (32 - k) * 2 ^ k) ^ i = p
  rw [Nat.mul_add, Nat.add_mul]
  congr 1 <;> ac_rfl
 have e4 : B ^ i * (2 ^ k * (d / 2 ^ k)) + (d % 2 ^ k) * B ^ i = B ^ i * d := by
  rw [Nat.mul_comm (d % 2 ^ k), ← Nat.mul_add, e2]
 rw [Nat.add_mul, e3]
 omega
end Go.Ax.Bg
namespace Go.Proofs.YtkncmbklkhjmgaaGreatDoor
open Go.Ax Go.Ax.Bg Go.RowKit
attribute [local irreducible] Ax zAO QOp zK
theorem clone_ok (n : Nat) (h : (zL n).length ≤ 1000000) : zN Tryz.prog 225 [zg n] (zg n) := by
 unfold zg
 generalize zL n = l at *
 refine zK.value (K := fun r H => r = .sl 0 0 l.length ∧ H = [some ⟨223, .ints .u32 l⟩]) (zC (P := Tryz.prog) (fn := Tryz.f225) Y Y (by kernel_rfl) Y (fun c hR hfix => ?_)) (fix := fun _ => False) (fun _ h => h) Y ?_
 ·refine rn0 ?_
  refine ax_eqnil Y Y Y (fun b hb => ?_)
  refine rn0 ?_
  refine zDA Y (fun h => ?_) (fun h => ?_)
  ·have := hb h
   have hn : l = [] := List.length_eq_zero_iff.mp this
   subst hn
   refine rn7 ?_
   refine zBN 2 ⟨223, .ints .u32 []⟩ Y Y ?_
   refine rn2 ?_
   exact zE hR Y ⟨Y, Y⟩
  ·refine rn1 ?_
   refine zHS Y Y Y Y Y Y Y Y Y Y ?_
   refine zAI [some ⟨223, .ints .u32 []⟩] (zq.eqv ⟨Y, Y, fun i j hi => absurd hi (Nat.not_lt_zero _)⟩ zq.nil) ?_
   repeat (refine zF (zU rfl) ?_)
   refine zS Y Y Y Y Y Y Y Y Y Y Y Y (by show 0 + l.length ≤ l.length; omega) Y (by show (0 + l.length) * 4 ≤ _ ∧ _; omega) (fun i j _ _ => rfl) (by rw [hfix]; exact fun h => h) ?_
   refine rn0 ?_
   refine zE hR Y ⟨?_, ?_⟩
   ·show AV.sl 0 0 (0 + l.length) = _; rw [Nat.zero_add]
   ·show ([some ⟨223, .ints .u32 ([] ++ List.take l.length (List.drop 0 l))⟩] : zH) = _
    simp
 ·rintro r H ⟨rfl, rfl⟩
  exact ⟨rfl, fun o ho => by simp at ho; subst ho; exact Nat.le_of_eq (by simp [Cells.len]), refl1 zl⟩
theorem div_less (n m : Nat) (h : n < m) (hn : (zL n).length ≤ 1000000) (hm : (zL m).length ≤ 1000000) : zN Tryz.prog 163 [zg n, zg m] (.tup [.nil, zg n]) := by
 have hc := zIR n m (by omega) (by omega)
 rw [zFO (Int.ofNat_lt.2 h)] at hc
 have hcl := clone_ok n hn
 refine zK.value0 (zC (P := Tryz.prog) (fn := Tryz.f163) Y Y (by kernel_rfl) Y (fun c hR hfix => ?_)) (fix := fun _ => False) (fun _ h => h) Y Y
 refine rn0 ?_
 refine zA Y Y Y hc ?_
 refine rn5 ?_
 refine zA Y Y Y hcl ?_
 refine rn2 ?_
 exact zE hR Y Y
theorem zK1 {n m : Nat} (h : m ≤ n) : ¬ zCG n m < 0 := by
 rcases Nat.lt_or_ge m n with q | q
 ·rw [zFN (Int.ofNat_lt.2 q)]; decide
 ·rw [zKz (by omega)]; decide
theorem div_one (n m : Nat) (h : m ≤ n) (hn : (zL n).length ≤ 1000000) (hm : (zL m).length = 1) : zN Tryz.prog 163 [zg n, zg m] (.tup [zg (n / m), zg (n % m)]) := by
 have hc := zIR n m (by omega) (by omega)
 have hcn := zK1 h
 obtain ⟨t, low, ht, htb, htp, hv, hlow⟩ := zEX (Nat.le_refl 1) hm
 have hmt : m = t := by
  simp at hv hlow
  subst hlow
  rw [hv]; simp
 subst hmt
 have hds := zGF (zL n) m (zo n) (by omega) ⟨htp, htb⟩
 rw [zb] at hds
 have hr : n % m < 4294967296 := Nat.lt_trans (Nat.mod_lt _ htp) htb
 have hsm := zHI (n % m) (by omega)
 refine zK.value0 (zC (P := Tryz.prog) (fn := Tryz.f163) Y Y (by kernel_rfl) Y (fun c hR hfix => ?_)) (fix := fun _ => False) (fun _ h => h) Y Y
 refine rn0 ?_
 refine zA Y Y Y hc ?_
 refine rn4 ?_
 refine zB Y (fun q => absurd q hcn) (fun q => ?_)
 unfold zg
 refine rn4 ?_
 rw [hm]
 refine rn6 ?_
 refine zG 31 (.int .u32 (m : Nat)) Y (AEq.of_eq (by congr 1)) ?_
 refine zA Y Y Y hds ?_
 refine rn2 ?_
 refine zF (zp (m := n % m) Y Y Y zAQ (by omega)) ?_
 refine zA Y Y Y hsm ?_
 refine rn2 ?_
 exact zE hR Y Y
theorem div_many (n m : Nat) (h : m ≤ n) (hn : (zL n).length ≤ 1000000) (hm2 : 2 ≤ (zL m).length) : zN Tryz.prog 163 [zg n, zg m] (.tup [zg (n / m), zg (n % m)]) := by
 have hlm : (zL m).length ≤ (zL n).length := z8 (by have := zAE (zo n); rw [zb] at this; omega)
 have hc := zIR n m (by omega) (by omega)
 have hcn := zK1 h
 have hm0 : 0 < m := by
  rcases Nat.eq_zero_or_pos m with q | q
  ·subst q; rw [zAf] at hm2; simp at hm2
  ·exact q
 have hnB : n < B ^ (zL n).length := by have := zAE (zo n); rwa [zb] at this
 obtain ⟨s, hs⟩ : ∃ s, (zL m).length = s := ⟨_, rfl⟩
 obtain ⟨ln, hln⟩ : ∃ ln, (zL n).length = ln := ⟨_, rfl⟩
 rw [hs] at hm2 hlm
 rw [hln] at hn hnB hlm
 obtain ⟨t, low, ht, htb, htp, hv, hlow⟩ := zEX (show 1 ≤ s by omega) hs
 refine zK.value0 (zC (P := Tryz.prog) (fn := Tryz.f163) Y Y (by kernel_rfl) Y (fun c hR hfix => ?_)) (fix := fun _ => False) (fun _ h => h) Y Y
 refine rn0 ?_
 refine zA Y Y Y hc ?_
 refine rn4 ?_
 refine zB Y (fun q => absurd q hcn) (fun q => ?_)
 have en : zg n = .ro (.ints .u32 (zL n)) 0 ln := by unfold zg; rw [hln]
 have em : zg m = .ro (.ints .u32 (zL m)) 0 s := by unfold zg; rw [hs]
 rw [en, em]
 refine rn4 ?_
 refine zB Y (fun q => absurd q (by omega)) (fun q => ?_)
 refine rn1 ?_
 refine zY (ι := Nat) (fun k => [(0, .ro (.ints .u32 (zL n)) 0 ln), (1, .ro (.ints .u32 (zL m)) 0 s), (8, .int .i64 (k : Nat))]) (fun _ => []) (fun k => k ≤ 31 ∧ t * 2 ^ k < 4294967296) (fun k => 32 - k) 0 ⟨⟨Y, Y, Y, trivial⟩, Y, by omega, by rw [Nat.pow_zero, Nat.mul_one]; exact htb⟩ ?_
 rintro k ⟨hk1, hk2⟩
 refine rn7 ?_
 refine zG 42 (.int .i64 (s - 1 : Nat)) Y (AEq.of_eq (by congr 1; omega)) ?_
 refine rn6 ?_
 refine zG 44 (.int .u32 (t : Nat)) Y (AEq.of_eq (by rw [ht])) ?_
 skip
 refine zF (zHA (m := t) (s := k) Y Y (by show k ≤ 32; omega) zC5 hk2) ?_
 refine zF (zDs (s := 31) Y Y Y) ?_
 refine rn4 ?_
 refine zB Y (fun q1 => ?_) (fun q1 => ?_)
 ·have hmore := k_more htp hk2 hk1 (by omega)
  refine rn5 ?_
  exact zM ⟨k + 1, ⟨hmore.2, hmore.1⟩, by omega, ⟨Y, Y, Y, trivial⟩, Y⟩
 have hstop := k_stop (t := t) (k := k) (by omega)
 obtain ⟨hnl, hnt⟩ := norm_top (show 1 ≤ s by omega) hs ht hstop hk2 hk1
 have hsn := zJh (zL n) k (zo n) (by omega) (by omega)
 have hsm := zJh (zL m) k (zo m) (by omega) (by omega)
 rw [zb, hln] at hsn
 rw [zb, hs] at hsm
 have hvB : m * 2 ^ k < B ^ s := by have := zAE (zo (m * 2 ^ k)); rwa [zb, hnl] at this
 have hvB1 : m * 2 ^ k < B ^ (s + 1) := Nat.lt_of_lt_of_le hvB (Nat.pow_le_pow_right (by decide) (by omega))
 have hnorm := zCE (zAq (s + 1) (m * 2 ^ k)) (zDV _ _) (by rw [zAr]; omega)
 rw [zFT _ _ hvB1] at hnorm
 have hstart := zME hnB hk1 (show 1 ≤ s by omega) hlm (top_ge (show 1 ≤ s by omega) hnl hnt)
 have hv0 : 0 < m * 2 ^ k := Nat.mul_pos hm0 (Nat.pow_pos (by decide))
 have ev : zg (m * 2 ^ k) = .ro (.ints .u32 (zL (m * 2 ^ k))) 0 s := by unfold zg; rw [hnl]
 have hdig := fun (A U C : List Int) (j : Nat) (Hr : zH) (hj : A.length = j) (hl : U.length = s + 1) (hU : Lim U) => digit_ok A U C (zL (m * 2 ^ k)) j s Hr hj hm2 hl hnl hU (zo _) hnt
 rw [zb] at hdig
 have hend := fun Q W => quo_end (n := n) (m := m) (k := k) (W := W) (Q := Q) hm0
 obtain ⟨v, hve⟩ : ∃ v, m * 2 ^ k = v := ⟨_, rfl⟩
 rw [hve] at hsm hvB hvB1 hnorm hstart hv0 ev hdig hend hnl
 refine rn5 ?_
 have c1 : [AV.ro (.ints .u32 (zL n)) 0 ln, .int .i64 (k : Nat)] ++ [] = [zDl (zL n), .int .i64 (k : Nat)] := by unfold zDl; rw [hln]; rfl
 have c2 : [AV.ro (.ints .u32 (zL m)) 0 s, .int .i64 (k : Nat)] ++ [] = [zDl (zL m), .int .i64 (k : Nat)] := by unfold zDl; rw [hs]; rfl
 refine zIp Y Y c1 hsn ?_
 repeat (refine zF (zU rfl) ?_)
 refine zIp Y Y c2 hsm ?_
 refine zCB 1 56 (s + 1) [(0, .ro (.ints .u32 (zL n)) 0 ln), (8, .int .i64 (k : Nat)), (53, .sl 0 0 (ln + 1))] Y zl Y (by show _ ≤ (zAq _ _).length; rw [zAr]; omega) ⟨Y, Y, Y, trivial⟩ ?_
 refine zA Y Y (zBh (zAr _ _)) hnorm ?_
 rw [ev]
 refine rn7 ?_
 refine zBl Y Y Y Y Y Y Y Y (by show (0 : Int) ≤ _ ∧ _ ≤ _ ∧ (4 : Int) * _ ≤ _ ∧ _; omega) ?_
 obtain ⟨J, hJ⟩ : ∃ J, J + s = ln + 1 := ⟨ln + 1 - s, by omega⟩
 rw [show (((ln + 1 : Nat) : Int) - (s : Nat)).toNat = J by omega]
 rw [show ln + 1 - s = J by omega] at hstart
 refine rn7 ?_
 refine zY (ι := Nat × Nat × List Int) (fun p => [(8, .int .i64 (k : Nat)), (9, .sl 0 0 (ln + 1)), (10, .ro (.ints .u32 (zL v)) 0 s), (11, .int .i64 (s : Nat)), (12, .sl 2 0 J), (13, .int .i64 ((p.1 : Int) - 1))]) (fun p => [some ⟨223, .ints .u32 (zAq (ln + 1) p.2.1)⟩, none, some ⟨223, .ints .u32 p.2.2⟩])
  (fun p => p.1 ≤ J ∧ p.2.1 < v * B ^ p.1 ∧ p.2.2.length = J ∧ Lim p.2.2 ∧ (∀ x, x < p.1 → p.2.2.getD x 0 = 0) ∧ zP p.2.2 * v + p.2.1 = n * 2 ^ k) (fun p => p.1) (J, n * 2 ^ k, List.replicate J 0)
  ⟨⟨rfl, rfl, rfl, rfl, rfl, ?_, trivial⟩, rfl, Nat.le_refl _, hstart, by simp, Lim.zeros _, fun x _ => zJp _ _, by simp [zFF]⟩ ?_
 ·show some (AV.int .i64 _) = _
  congr 2
  omega
 rintro ⟨j1, W, Q⟩ ⟨w1, w2, w3, w4, w5, w6⟩
 simp only at *
 refine rn7 ?_
 refine zB Y (fun q2 => ?_) (fun q2 => ?_)
 ·obtain ⟨j, rfl⟩ : ∃ j, j1 = j + 1 := ⟨j1 - 1, by omega⟩
  obtain ⟨p1, p2, p3, W', p4, p5, p6⟩ := quo_step (N := ln + 1) hv0 hvB w2 (show j + (s + 1) ≤ ln + 1 by omega)
  have hd := hdig (zAq j W) (zAq (s + 1) (W / B ^ j)) (zAq (ln + 1 - (j + (s + 1))) (W / B ^ j / B ^ (s + 1))) j [none, some ⟨223, .ints .u32 Q⟩] (zAr _ _) (zAr _ _) (zDV _ _) (by rw [p2]; exact p3) (by rw [← p1, zAr]; omega)
  rw [p2, p4, ← p1] at hd
  have hq : W / B ^ j / v < 4294967296 := Nat.div_lt_of_lt_mul (by rw [Nat.mul_comm]; exact p3)
  obtain ⟨dg, hdg⟩ : ∃ dg, W / B ^ j / v = dg := ⟨_, rfl⟩
  rw [hdg] at hd hq p6
  refine rn17 ?_
  refine zG 82 (.sl 0 j (s + 1)) Y (AEq.of_eq (by congr 1 <;> omega)) ?_
  skip
  have c3 : [AV.sl 0 j (s + 1), .ro (.ints .u32 (zL v)) 0 s] ++ [] = [.sl 0 j (s + 1), zDl (zL v)] := by unfold zDl; rw [hnl]; rfl
  refine zD6 Y Y c3 hd (fun h hh => hh) (fun h hh => hh) ?_
  rintro r H ⟨rfl, rfl⟩
  refine zG 75 (.int .i64 (j : Nat)) Y (AEq.of_eq (by congr 1; omega)) ?_
  refine rn7 ?_
  have hz := w5 j (by omega)
  have hset := zHP (x := (dg : Int)) (show j < Q.length by omega)
  rw [hz, Int.toNat_natCast] at hset
  have z0 : (0 : Int).toNat = 0 := rfl
  rw [z0, Nat.mul_zero, Nat.add_zero] at hset
  refine zM ⟨(j, W', Q.set j (dg : Int)), ⟨by simp only; omega, p5, by simp [w3], w4.set (by omega), fun x hx => ?_, ?_⟩, by simp only; omega, ⟨Y, Y, Y, Y, Y, ?_, trivial⟩, Y⟩
  ·simp only at hx ⊢
   rw [zBq (by omega)]; exact w5 x (by omega)
  ·simp only
   rw [hset, Nat.add_mul, Nat.mul_assoc, Nat.mul_comm dg v]
   omega
  ·show some (AV.int .i64 _) = _
   congr 2
   omega
 ·have hj0 : j1 = 0 := by omega
  subst hj0
  rw [Nat.pow_zero, Nat.mul_one] at w2
  have he := hend (zP Q) W
  obtain ⟨hq, hW⟩ := he w6 w2
  clear he hend
  have hWB : W < B ^ s := Nat.lt_trans w2 hvB
  have htk : (zAq (ln + 1) W).take s = zAq s W := by
   rw [show ln + 1 = s + J by omega, zDU, List.take_left' (zAr _ _)]
  have hn1 := zCE (zAq s W) (zDV _ _) (by rw [zAr]; omega)
  rw [zFT _ _ hWB] at hn1
  refine rn5 ?_
  refine zF (zJZ Y Y Y Y Y Y Y Y ⟨Y, by omega, by omega⟩) ?_
  refine zG 88 (.sl 0 0 s) Y (AEq.of_eq (by rw [Int.toNat_natCast])) ?_
  refine zCB 0 88 s [(8, .int .i64 (k : Nat)), (12, .sl 2 0 J)] Y zl Y (by show _ ≤ (zAq _ _).length; rw [zAr]; omega) ⟨Y, Y, trivial⟩ ?_
  refine zG 88 (.ro (.ints .u32 (zAq s W)) 0 s) Y (AEq.trans AEq.take (AEq.of_eq (by rw [htk]))) ?_
  refine zA Y Y (zBh (zAr _ _)) hn1 ?_
  have hlW := zo W
  have hWv := zb W
  have hlWl : (zL W).length ≤ s := z8 hWB
  unfold zg
  obtain ⟨r, hr⟩ : ∃ r, zL W = r := ⟨_, rfl⟩
  rw [hr] at hlW hWv hlWl ⊢
  refine rn3 ?_
  refine zBl Y Y Y Y Y Y Y Y (by show (0 : Int) ≤ _ ∧ _ ≤ _ ∧ (4 : Int) * _ ≤ _ ∧ _; omega) ?_
  refine rn3 ?_
  have hd0 : ∃ d0 : Nat, r.getD 0 0 = (d0 : Int) ∧ d0 < 4294967296 := hlW.nat 0
  obtain ⟨d0, hd0, hd0b⟩ := hd0
  refine zY (ι := Nat × List Int) (fun p => [(8, .int .i64 (k : Nat)), (12, .sl 2 0 J), (14, .ro (.ints .u32 r) 0 r.length), (15, .sl 3 0 r.length), (93, .ro (.ints .u32 r) 0 r.length), (94, .int .i64 (r.length : Nat)), (95, .int .i64 (p.1 : Nat))]) (fun p => [none, none, some ⟨223, .ints .u32 Q⟩, some ⟨223, .ints .u32 p.2⟩])
   (fun p => p.1 ≤ r.length ∧ p.2.length = r.length ∧ Lim p.2 ∧ zP (p.2.take p.1) * 2 ^ k + d0 % 2 ^ k = zP (r.take p.1) + (r.getD p.1 0).toNat % 2 ^ k * B ^ p.1) (fun p => r.length - p.1) (0, List.replicate r.length 0)
   ⟨⟨rfl, rfl, rfl, rfl, rfl, rfl, rfl, trivial⟩, rfl, Nat.zero_le _, by simp, Lim.zeros _, by simp [zP]; rw [show r[0]?.getD 0 = (d0 : Int) from hd0]; simp⟩ ?_
  rintro ⟨i, O⟩ ⟨x1, x2, x3, x4⟩
  simp only at *
  refine rn4 ?_
  refine zB Y (fun x5 => ?_) (fun x5 => ?_)
  ·have hil : i < r.length := by omega
   obtain ⟨d, hd, hdb⟩ := hlW.nat i
   obtain ⟨e, he, heb⟩ := hlW.nat (i + 1)
   have hbl := zLl (e := e) hdb hk1
   have hbm := back_lim (e := e) hdb hk1
   have hdk : d / 2 ^ k < 4294967296 := Nat.lt_of_le_of_lt (Nat.div_le_self _ _) hdb
   rw [hd, Int.toNat_natCast] at x4
   have hstep := back_val (e := e) (out := O.take i) (i := i) hk1 (by simp; omega) hd x4
   refine rn6 ?_
   refine zG 102 (.int .u32 (d : Nat)) Y (AEq.of_eq (by rw [hd])) ?_
   skip
   refine zF (zDs (m := d) (s := k) Y Y (by rw [Nat.ble_eq]; show k ≤ 32; omega)) ?_
   refine rn7 ?_
   apply zAD (H := [none, none, some ⟨223, .ints .u32 Q⟩, some ⟨223, .ints .u32 (O.set i ((d / 2 ^ k + e % 2 ^ k * 2 ^ (32 - k) : Nat) : Int))⟩]) [(8, .int .i64 (k : Nat)), (12, .sl 2 0 J), (14, .ro (.ints .u32 r) 0 r.length), (15, .sl 3 0 r.length), (93, .ro (.ints .u32 r) 0 r.length), (94, .int .i64 (r.length : Nat)), (95, .int .i64 (i : Nat))]
   ·intro fin
    have noFin : (i + 1 = r.length ∨ k = 0) → e % 2 ^ k * 2 ^ (32 - k) = 0 := by
     rintro (h | h)
     ·have : r.getD (i + 1) 0 = 0 := by simp [List.getD, List.getElem?_eq_none (show r.length ≤ i + 1 by omega)]
      have : e = 0 := by omega
      subst this; simp
     ·subst h; rw [Nat.pow_zero, Nat.mod_one]; try simp
    refine zW Y Y (fun y1 => ?_) (fun y1 => ?_)
    ·refine rn6 ?_
     refine zB Y (fun y2 => ?_) (fun y2 => ?_)
     ·skip
      refine zz (by kernel_rfl) ?_
      refine zI 0 Y (by kernel_rfl) (by kernel_rfl) (by kernel_rfl) Y (zU Y) Y ?_
      refine zI 1 Y (by kernel_rfl) (by kernel_rfl) (by kernel_rfl) Y (zU Y) Y ?_
      refine zI 2 Y (by kernel_rfl) (by kernel_rfl) (by kernel_rfl) Y (zAB Y Y Y Y Y (by first | (simp only [Nat.zero_add, Int.toNat_natCast, Int.toNat_zero]; exact Y) | exact Y) (by omega)) Y ?_
      refine zI 4 Y (by kernel_rfl) (by kernel_rfl) (by kernel_rfl) Y (zU Y) Y ?_
      refine zI 5 Y (by kernel_rfl) (by kernel_rfl) (by kernel_rfl) Y (zU Y) Y ?_
      refine zI 6 Y (by kernel_rfl) (by kernel_rfl) (by kernel_rfl) Y (zCy Y Y (by omega)) Y ?_
      refine zI 7 Y (by kernel_rfl) (by kernel_rfl) (by kernel_rfl) Y (zx Y Y Y Y (by first | (simp only [Nat.zero_add, Int.toNat_natCast, Int.toNat_zero]; exact Y) | exact Y) (by omega)) Y ?_
      refine zI 9 Y (by kernel_rfl) (by kernel_rfl) (by kernel_rfl) Y (zU Y) Y ?_
      refine zI 10 Y (by kernel_rfl) (by kernel_rfl) (by kernel_rfl) Y (zG9 Y Y (by omega)) Y ?_
      apply zBf [(8, .int .i64 (k : Nat)), (12, .sl 2 0 J), (14, .ro (.ints .u32 r) 0 r.length), (15, .sl 3 0 r.length), (93, .ro (.ints .u32 r) 0 r.length), (94, .int .i64 (r.length : Nat)), (95, .int .i64 (i : Nat)), (118, .int .u32 (d / 2 ^ k : Nat)), (126, .int .u32 (e * 2 ^ (32 - k) % 4294967296 : Nat)), (115, .sl 3 0 r.length), (116, .int .i64 (i : Nat))]
      ·intro fin2
       have hsl : (O.set i ((d / 2 ^ k : Nat) : Int)).getD i 0 = ((d / 2 ^ k : Nat) : Int) := by simp [List.getD, show i < O.length by omega]
       have hil2 : i < (O.set i ((d / 2 ^ k : Nat) : Int)).length := by simp; omega
       refine zD (is := [3, 8]) (by kernel_rfl) (by simp) Y ⟨fun o ho => ?_, fun o ho => ?_, trivial⟩
       all_goals (cases ho)
       ·refine rn7 ?_
        refine zD (is := [8]) (by kernel_rfl) (by simp) Y ⟨fun o ho => ?_, trivial⟩
        all_goals (cases ho)
        refine rn6 ?_
        refine zBe 123 (.int .u32 (e : Nat)) Y (AEq.of_eq (by rw [show ((i : Int) + 1).toNat = i + 1 by omega, he])) ?_
        refine zBe 125 (.int .i64 (32 - k : Nat)) Y (AEq.of_eq (by congr 1; omega)) ?_
        refine zI 11 Y (by kernel_rfl) (by kernel_rfl) (by kernel_rfl) Y (zLa (m := e) (s := 32 - k) Y Y (by show 32 - k ≤ 32; omega) zC5) Y ?_
        refine fin2 _ ⟨Y, Y, Y, Y, Y, Y, Y, ?_, Y, Y, Y, trivial⟩
        show some (AV.int .u32 ((O.set i ((d / 2 ^ k : Nat) : Int)).getD i 0)) = _
        rw [hsl]
       ·refine rn6 ?_
        refine zBe 123 (.int .u32 (e : Nat)) Y (AEq.of_eq (by rw [show ((i : Int) + 1).toNat = i + 1 by omega, he])) ?_
        refine zBe 125 (.int .i64 (32 - k : Nat)) Y (AEq.of_eq (by congr 1; omega)) ?_
        refine zI 11 Y (by kernel_rfl) (by kernel_rfl) (by kernel_rfl) Y (zLa (m := e) (s := 32 - k) Y Y (by show 32 - k ≤ 32; omega) zC5) Y ?_
        refine zD (is := [3]) (by kernel_rfl) (by simp) Y ⟨fun o ho => ?_, trivial⟩
        all_goals (cases ho)
        refine rn7 ?_
        refine fin2 _ ⟨Y, Y, Y, Y, Y, Y, Y, ?_, Y, Y, Y, trivial⟩
        show some (AV.int .u32 ((O.set i ((d / 2 ^ k : Nat) : Int)).getD i 0)) = _
        rw [hsl]
      refine zI 12 Y (by kernel_rfl) (by kernel_rfl) (by kernel_rfl) Y (QOp.res (zJb Y Y zC5 Y hdk (Nat.mod_lt _ (by decide))) (by rw [hbl])) Y ?_
      have hil2 : i < (O.set i ((d / 2 ^ k : Nat) : Int)).length := by simp; omega
      refine zI 13 Y (by kernel_rfl) (by kernel_rfl) (by kernel_rfl) Y (zAB Y Y Y Y Y (by first | (simp only [Nat.zero_add, Int.toNat_natCast, Int.toNat_zero]; exact Y) | exact Y) (by omega)) Y ?_
      refine zD (is := [14]) (by kernel_rfl) (by simp) Y ⟨fun o ho => ?_, trivial⟩
      all_goals (cases ho)
      refine rn7 ?_
      refine zr (by kernel_rfl) ?_
      refine zCN ?_
      refine zBx _ (by show [none, none, _, some (⟨_, .ints .u32 ((O.set i _).set i _)⟩ : AObj)] = _; rw [List.set_set]) ?_
      exact fin _ ⟨Y, Y, Y, Y, Y, Y, Y, trivial⟩
     ·have hz := noFin (.inr (by omega))
      rw [hz, Nat.add_zero] at fin
      refine zCN ?_
      exact fin _ ⟨Y, Y, Y, Y, Y, Y, Y, trivial⟩
    ·have hz := noFin (.inl (by omega))
     rw [hz, Nat.add_zero] at fin
     refine zCN ?_
     exact fin _ ⟨Y, Y, Y, Y, Y, Y, Y, trivial⟩
   refine rn3 ?_
   refine zM ⟨(i + 1, O.set i ((d / 2 ^ k + e % 2 ^ k * 2 ^ (32 - k) : Nat) : Int)), ⟨by simp only; omega, by simp [x2], x3.set (by omega), ?_⟩, by simp only; omega, ⟨Y, Y, Y, Y, Y, Y, Y, trivial⟩, Y⟩
   simp only
   rw [zDN (by omega), he, Int.toNat_natCast]
   exact hstep
  ·have hie : i = r.length := by omega
   subst hie
   have hz : r.getD r.length 0 = 0 := by simp [List.getD]
   have z0 : (0 : Int).toNat = 0 := rfl
   rw [hz, z0, Nat.zero_mod, Nat.zero_mul, Nat.add_zero, List.take_of_length_le (by omega), List.take_length, hWv, hW] at x4
   have hpk : 0 < 2 ^ k := Nat.pow_pos (by decide)
   have hOv : zP O = n % m := by
    have h1 : d0 % 2 ^ k < 2 ^ k := Nat.mod_lt _ hpk
    have h2 : (zP O * 2 ^ k + d0 % 2 ^ k) / 2 ^ k = zP O := by rw [Nat.add_comm, Nat.add_mul_div_right _ _ hpk, Nat.div_eq_of_lt h1, Nat.zero_add]
    rw [x4, Nat.mul_div_cancel _ hpk] at h2
    exact h2.symm
   have nq := zCE Q w4 (by omega)
   have no := zCE O x3 (by omega)
   rw [hq] at nq
   rw [hOv] at no
   refine rn5 ?_
   refine zCB 2 130 J [(15, .sl 3 0 r.length)] Y zl Y (by show _ ≤ Q.length; omega) ⟨Y, trivial⟩ ?_
   refine zA Y Y (zBh w3) nq ?_
   repeat (refine zF (zU rfl) ?_)
   refine zCB 3 132 r.length [(131, zg (n / m))] Y zl Y (by show _ ≤ O.length; omega) ⟨Y, trivial⟩ ?_
   refine zA Y Y (zBh x2) no ?_
   refine rn0 ?_
   exact zE hR Y Y
end Go.Proofs.YtkncmbklkhjmgaaGreatDoor
namespace Go.Ax.Bg
theorem zDK {a b k : Nat} (h : a < b) (hb : (zL b).length ≤ k) : (zL a).length ≤ k := by
 have h1 := zAE (zo b)
 rw [zb] at h1
 have := z8 (Nat.lt_trans h h1)
 omega
theorem zDE {a b k : Nat} (h : a ≤ b) (hb : (zL b).length ≤ k) : (zL a).length ≤ k := by
 rcases Nat.lt_or_ge a b with q | q
 ·exact zDK q hb
 ·have : a = b := by omega
  subst this; exact hb
theorem zEL : zL 1 = [1] := by
 rw [zEM (by decide)]
 have : 1 / B = 0 := by decide
 rw [this, zAf]; rfl
theorem zL8 {n : Nat} : n = 1 ↔ (zL n).length = 1 ∧ (zL n).getD 0 0 = 1 := by
 constructor
 ·rintro rfl; rw [zEL]; exact ⟨rfl, rfl⟩
 ·rintro ⟨h1, h2⟩
  have h3 := zX (zL n) 0
  rw [List.take_of_length_le (by omega), zb, h2] at h3
  simpa [zP] using h3
/-- A row of which k elements on each side have changed places. -/
def zD1 (l : List (List UInt8)) (k : Nat) : List (List UInt8) := (List.range l.length).map fun i => if i < k ∨ l.length - k ≤ i then l.getD (l.length - 1 - i) [] else l.getD i []
theorem zBu (l : List (List UInt8)) (k : Nat) : (zD1 l k).length = l.length := by unfold zD1; simp
theorem zEl (l : List (List UInt8)) (k i : Nat) (hi : i < l.length) : (zD1 l k).getD i [] = if i < k ∨ l.length - k ≤ i then l.getD (l.length - 1 - i) [] else l.getD i [] := by
 unfold zD1
 simp only [List.getD, List.getElem?_map, List.getElem?_range hi, Option.map_some, Option.getD_some]
theorem zGs {l m : List (List UInt8)} (h : l.length = m.length) (he : ∀ i, i < l.length → l.getD i [] = m.getD i []) : l = m := by
 apply List.ext_getElem h
 intro i h1 h2
 have := he i h1
 rw [zCC [] h1, zCC [] h2] at this
 exact this
theorem zMI (l : List (List UInt8)) : zD1 l 0 = l := by
 refine zGs (zBu l 0) (fun i hi => ?_)
 rw [zBu] at hi
 rw [zEl l 0 i hi, if_neg (by omega)]
theorem zMG (l : List (List UInt8)) {k : Nat} (h : l.length ≤ 2 * k + 1) : zD1 l k = l.reverse := by
 refine zGs (by rw [zBu, List.length_reverse]) (fun i hi => ?_)
 rw [zBu] at hi
 have hr : l.reverse.getD i [] = l.getD (l.length - 1 - i) [] := by
  simp only [List.getD]
  rw [List.getElem?_reverse hi]
 rw [zEl l k i hi, hr]
 split
 ·rfl
 ·congr 1; omega
theorem zMH (l : List (List UInt8)) {k : Nat} (h : k + 1 + k < l.length) : ((zD1 l k).set k ((zD1 l k).getD (l.length - 1 - k) [])).set (l.length - 1 - k) ((zD1 l k).getD k []) = zD1 l (k + 1) := by
 refine zGs (by simp [zBu]) (fun i hi => ?_)
 simp only [List.length_set, zBu] at hi
 rw [zEl l (k + 1) i hi, zEl l k (l.length - 1 - k) (by omega), if_neg (by omega), zEl l k k (by omega), if_neg (by omega)]
 simp only [List.getD]
 by_cases h1 : i = l.length - 1 - k
 ·subst h1
  rw [List.getElem?_set_self (by simp [zBu]; omega), if_pos (by omega)]
  simp only [Option.getD_some]
  congr 2; omega
 ·rw [List.getElem?_set_ne (Ne.symm h1)]
  by_cases h2 : i = k
  ·subst h2
   rw [List.getElem?_set_self (by rw [zBu]; omega), if_pos (by omega)]
   simp only [Option.getD_some]
  ·rw [List.getElem?_set_ne (Ne.symm h2)]
   have := zEl l k i hi
   simp only [List.getD] at this
   rw [this]
   by_cases h3 : i < k ∨ l.length - k ≤ i
   ·rw [if_pos h3, if_pos (by omega)]
   ·rw [if_neg h3, if_neg (by omega)]
end Go.Ax.Bg
namespace Go.Proofs.YtkncmbklkhjmgaaGreatDoor
open Go.Ax Go.Ax.Bg Go.RowKit
attribute [local irreducible] Ax zAO QOp zK
theorem zJ2 (n m : Nat) (hm : 0 < m) (hn : (zL n).length ≤ 1000000) (hml : (zL m).length ≤ 1000000) : zN Tryz.prog 163 [zg n, zg m] (.tup [zg (n / m), zg (n % m)]) := by
 rcases Nat.lt_or_ge n m with h | h
 ·rw [Nat.div_eq_of_lt h, Nat.mod_eq_of_lt h]
  exact zN.res (div_less n m h hn hml) (AEq.tup2 AEq.natNil)
 ·have h1 : (zL m).length ≠ 0 := by
   have := zA4.2 (show m ≠ 0 by omega)
   omega
  rcases Nat.lt_or_ge (zL m).length 2 with q | q
  ·exact div_one n m h hn (by omega)
  ·exact div_many n m h hn q
theorem gcd_ok (n m : Nat) (hn : (zL n).length ≤ 1000000) (hm : (zL m).length ≤ 1000000) : zN Tryz.prog 81 [zg n, zg m] (zg (Nat.gcd n m)) := by
 refine zK.value0 (zC (P := Tryz.prog) (fn := Tryz.f81) Y Y (by kernel_rfl) Y (fun c hR hfix => ?_)) (fix := fun _ => False) (fun _ h => h) Y Y
 refine rn1 ?_
 refine zY (ι := Nat × Nat) (fun p => [(0, zg p.1), (1, zg p.2)]) (fun _ => []) (fun p => (zL p.1).length ≤ 1000000 ∧ (zL p.2).length ≤ 1000000 ∧ Nat.gcd p.1 p.2 = Nat.gcd n m) (fun p => p.2) (n, m) ⟨⟨Y, Y, trivial⟩, Y, hn, hm, Y⟩ ?_
 rintro ⟨a, b⟩ ⟨h1, h2, h3⟩
 simp only at *
 have hd := fun h => zJ2 a b h h1 h2
 have hpos : 0 < (zL b).length ↔ b ≠ 0 := zA4
 have en : zg b = .ro (.ints .u32 (zL b)) 0 (zL b).length := rfl
 rw [en] at hd ⊢
 refine rn6 ?_
 refine zB Y (fun h4 => ?_) (fun h4 => ?_)
 ·have hb : b ≠ 0 := hpos.1 (by omega)
  refine rn1 ?_
  refine zA Y Y Y (hd (by omega)) ?_
  refine rn5 ?_
  refine zM ⟨(b, a % b), ⟨h2, zDK (Nat.mod_lt a (by omega)) h2, ?_⟩, Nat.mod_lt a (by omega), ⟨Y, Y, trivial⟩, Y⟩
  show Nat.gcd b (a % b) = Nat.gcd n m
  rw [← h3, Nat.gcd_comm a b, Nat.gcd_rec b a, Nat.gcd_comm]
 ·have hb : b = 0 := by
   rcases Nat.eq_zero_or_pos b with q | q
   ·exact q
   ·have := hpos.2 (by omega); omega
  rw [hb, Nat.gcd_zero_right] at h3
  refine rn5 ?_
  refine zE hR Y ?_
  rw [← h3]; rfl
theorem one_ok (n : Nat) : zN Tryz.prog 82 [zg n] (.bool (decide (n = 1))) := by
 refine zK.value0 (zC (P := Tryz.prog) (fn := Tryz.f82) Y Y (by kernel_rfl) Y (fun c hR hfix => ?_)) (fix := fun _ => False) (fun _ h => h) Y Y
 have h1 : n = 1 ↔ (zL n).length = 1 ∧ (zL n).getD 0 0 = 1 := zL8
 unfold zg
 refine rn4 ?_
 refine zW Y Y (fun h2 => ?_) (fun h2 => ?_)
 ·refine rn6 ?_
  refine zE hR Y ?_
  show AV.bool (decide ((zL n).getD _ 0 = 1)) = _
  congr 1
  rw [decide_eq_decide, h1]
  exact ⟨fun h => ⟨by omega, h⟩, fun h => h.2⟩
 ·refine rn6 ?_
  refine zE hR Y ?_
  show AV.bool false = _
  rw [decide_eq_false]
  intro h
  exact h2 (by have := (h1.1 h).1; omega)
theorem zKi (l : List (List UInt8)) (hl : l.length ≤ 1000000000) :
 zK Tryz.prog 256 [.sl 0 0 l.length] [some ⟨9, .strs l⟩] (fun h => h < 1) (fun _ H => H = [some ⟨9, .strs l.reverse⟩]) := by
 refine zC (P := Tryz.prog) (fn := Tryz.f256) Y Y (by kernel_rfl) Y (fun c hR hfix => ?_)
 refine rn7 ?_
 refine zY (ι := Nat) (fun k => [(0, .sl 0 0 l.length), (2, .int .i64 (k : Nat)), (3, .int .i64 ((l.length : Int) - 1 - k))]) (fun k => [some ⟨9, .strs (zD1 l k)⟩]) (fun k => 2 * k ≤ l.length + 1) (fun k => l.length + 1 - k) 0 ⟨⟨Y, Y, ?_, trivial⟩, by rw [zMI], by omega⟩ ?_
 ·show some (AV.int .i64 _) = _
  congr 2; omega
 rintro k hk
 have hrl := zBu l k
 refine rn4 ?_
 refine zB Y (fun h1 => ?_) (fun h1 => ?_)
 ·have hk2 : k + 1 + k < l.length := by omega
  have e1 : ((l.length : Int) - 1 - (k : Nat)).toNat = l.length - 1 - k := by omega
  refine rn1 ?_
  refine zz (by kernel_rfl) ?_
  refine zI 0 Y (by kernel_rfl) (by kernel_rfl) (by kernel_rfl) Y (zU Y) Y ?_
  refine zI 1 Y (by kernel_rfl) (by kernel_rfl) (by kernel_rfl) Y (zU Y) Y ?_
  refine zI 2 Y (by kernel_rfl) (by kernel_rfl) (by kernel_rfl) Y (zU Y) Y ?_
  refine zI 3 Y (by kernel_rfl) (by kernel_rfl) (by kernel_rfl) Y (zU Y) Y ?_
  refine zI 4 Y (by kernel_rfl) (by kernel_rfl) (by kernel_rfl) Y (zU Y) Y ?_
  refine zI 5 Y (by kernel_rfl) (by kernel_rfl) (by kernel_rfl) Y (zU Y) Y ?_
  refine zI 6 Y (by kernel_rfl) (by kernel_rfl) (by kernel_rfl) Y (zAB Y Y Y Y Y (by first | (simp only [Nat.zero_add, Int.toNat_natCast, Int.toNat_zero]; exact Y) | exact Y) (by omega)) Y ?_
  refine zI 8 Y (by kernel_rfl) (by kernel_rfl) (by kernel_rfl) Y (zU Y) Y ?_
  refine zI 9 Y (by kernel_rfl) (by kernel_rfl) (by kernel_rfl) Y (zU Y) Y ?_
  refine zI 10 Y (by kernel_rfl) (by kernel_rfl) (by kernel_rfl) Y (zAB Y Y Y Y Y (by first | (simp only [Nat.zero_add, Int.toNat_natCast, Int.toNat_zero]; exact Y) | exact Y) (by omega)) Y ?_
  refine zBe 20 (.ptr 0 (l.length - 1 - k) 0) Y (AEq.of_eq (by rw [e1])) ?_
  have b1 : l.length - 1 - k < (zD1 l k).length := by omega
  have b2 : k < (zD1 l k).length := by omega
  apply zBf [(0, .sl 0 0 l.length), (2, .int .i64 (k : Nat)), (3, .int .i64 ((l.length : Int) - 1 - k)), (14, .sl 0 0 l.length), (15, .int .i64 (k : Nat)), (16, .sl 0 0 l.length), (17, .int .i64 ((l.length : Int) - 1 - k)), (21, .str ((zD1 l k).getD (l.length - 1 - k) [])), (25, .str ((zD1 l k).getD k []))]
  ·intro fin
   refine zD (is := [7, 11]) (by kernel_rfl) (by simp) Y ⟨fun o ho => ?_, fun o ho => ?_, trivial⟩
   all_goals (cases ho)
   ·refine zCM ?_
    refine zD (is := [11]) (by kernel_rfl) (by simp) Y ⟨fun o ho => ?_, trivial⟩
    all_goals (cases ho)
    refine zCM ?_
    exact fin _ ⟨Y, Y, Y, Y, Y, Y, Y, Y, Y, trivial⟩
   ·refine zCM ?_
    refine zD (is := [7]) (by kernel_rfl) (by simp) Y ⟨fun o ho => ?_, trivial⟩
    all_goals (cases ho)
    refine zCM ?_
    exact fin _ ⟨Y, Y, Y, Y, Y, Y, Y, Y, Y, trivial⟩
  refine zI 12 Y (by kernel_rfl) (by kernel_rfl) (by kernel_rfl) Y (zAB Y Y Y Y Y (by first | (simp only [Nat.zero_add, Int.toNat_natCast, Int.toNat_zero]; exact Y) | exact Y) (by omega)) Y ?_
  refine zD (is := [13]) (by kernel_rfl) (by simp) Y ⟨fun o ho => ?_, trivial⟩
  all_goals (cases ho)
  refine rn7 ?_
  refine zI 14 Y (by kernel_rfl) (by kernel_rfl) (by kernel_rfl) Y (zAB Y Y Y Y Y (by first | (simp only [Nat.zero_add, Int.toNat_natCast, Int.toNat_zero]; exact Y) | exact Y) (by omega)) Y ?_
  refine zBe 27 (.ptr 0 (l.length - 1 - k) 0) Y (AEq.of_eq (by rw [e1])) ?_
  have b3 : l.length - 1 - k < ((zD1 l k).set k ((zD1 l k).getD (l.length - 1 - k) [])).length := by simp; omega
  refine zD (is := [15]) (by kernel_rfl) (by simp) Y ⟨fun o ho => ?_, trivial⟩
  all_goals (cases ho)
  refine rn7 ?_
  refine zr (by kernel_rfl) ?_
  refine rn7 ?_
  refine zM ⟨k + 1, by omega, by omega, ⟨Y, Y, ?_, trivial⟩, ?_⟩
  ·show some (AV.int .i64 _) = _
   congr 2; omega
  ·show ([some ⟨_, .strs (((zD1 l k).set k _).set (l.length - 1 - k) _)⟩] : zH) = _
   rw [zMH l hk2]
 ·refine rn5 ?_
  refine zJs hR Y ?_
  rw [zMG l (by omega)]
end Go.Proofs.YtkncmbklkhjmgaaGreatDoor
namespace Go.Proofs
open Go.Shelf
def Tryz.lays156_ren : Go.Shelf.Ren := ⟨fun | 156 => 257 | 165 => 279 | 166 => 104 | 169 => 107 | 240 => 182 | 241 => 293 | 276 => 237 | 277 => 301 | n => n, fun | 31 => 154 | 9 => 9 | 3 => 3 | 4 => 4 | 0 => 0 | 20 => 20 | 72 => 161 | 76 => 164 | 70 => 158 | 37 => 159 | 75 => 163 | 127 => 250 | 164 => 303 | 5 => 5 | 80 => 167 | n => n, fun | n => n⟩
theorem Tryz.lays156 : Go.Proofs.Lays.n156 Tryz.prog Tryz.lays156_ren := {
 mixed := by kernel_rfl
 f156 := Tryz.func257.trans (congrArg some (by kernel_rfl))
 f165 := Tryz.func279.trans (congrArg some (by kernel_rfl))
 f166 := Tryz.func104.trans (congrArg some (by kernel_rfl))
 f169 := Tryz.func107.trans (congrArg some (by kernel_rfl))
 f240 := Tryz.func182.trans (congrArg some (by kernel_rfl))
 f241 := Tryz.func293.trans (congrArg some (by kernel_rfl))
 f276 := Tryz.func237.trans (congrArg some (by kernel_rfl))
 f277 := Tryz.func301.trans (congrArg some (by kernel_rfl))
 t0 := Tryz.underlying0
 a0 := Tryz.isAgg0
 z0 := Tryz.sizeOf0
 v0 := Tryz.zeroValue0
 t3 := Tryz.underlying3
 a3 := Tryz.isAgg3
 z3 := Tryz.sizeOf3
 v3 := Tryz.zeroValue3
 t4 := Tryz.underlying4
 a4 := Tryz.isAgg4
 z4 := Tryz.sizeOf4
 v4 := Tryz.zeroValue4
 t9 := Tryz.underlying9
 a9 := Tryz.isAgg9
 z9 := Tryz.sizeOf9
 v9 := Tryz.zeroValue9
 t20 := Tryz.underlying20
 a20 := Tryz.isAgg20
 z20 := Tryz.sizeOf20
 v20 := Tryz.zeroValue20
 t31 := Tryz.underlying154
 a31 := Tryz.isAgg154
 z31 := Tryz.sizeOf154
 v31 := Tryz.zeroValue154
 t37 := Tryz.underlying159
 a37 := Tryz.isAgg159
 z37 := Tryz.sizeOf159
 v37 := Tryz.zeroValue159
 t70 := Tryz.underlying158
 a70 := Tryz.isAgg158
 z70 := Tryz.sizeOf158
 v70 := Tryz.zeroValue158
 t72 := Tryz.underlying161
 a72 := Tryz.isAgg161
 z72 := Tryz.sizeOf161
 v72 := Tryz.zeroValue161
 t75 := Tryz.underlying163
 a75 := Tryz.isAgg163
 z75 := Tryz.sizeOf163
 v75 := Tryz.zeroValue163
 t76 := Tryz.underlying164
 a76 := Tryz.isAgg164
 z76 := Tryz.sizeOf164
 v76 := Tryz.zeroValue164
 t127 := Tryz.underlying250
 a127 := Tryz.isAgg250
 z127 := Tryz.sizeOf250
 v127 := Tryz.zeroValue250
 t164 := Tryz.underlying303
 a164 := Tryz.isAgg303
 z164 := Tryz.sizeOf303
 v164 := Tryz.zeroValue303 }
theorem Tryz.Builder_Extra_156 : Builder.Extra Tryz.prog Tryz.lays156_ren := {
 sizeBuilder := by kernel_rfl
 liesBuilder := by kernel_rfl
 t5 := Tryz.underlying5
 a5 := Tryz.isAgg5
 z5 := Tryz.sizeOf5
 v5 := Tryz.zeroValue5
 infoByte := by kernel_rfl
 cellsByte := by kernel_rfl
 sizeByte := by kernel_rfl
 neB5 := by decide }
open Go.RowKit in
/-- No element: the empty string; the world is as it was. (Whatever the slice's address and capacity: a nil slice too.) (LAID: no walk: one application.) -/
theorem Tryz.strings_Join_none (a : Option Addr) (c : Nat) (sep : ByteArray) (w : World) :
 Calls Tryz.prog 257 #[.slice a 0 c, .string sep] w fun e w' => e = .returned (.string ⟨#[]⟩) ∧ w' = w := Any.strings_Join_none Tryz.lays156 Tryz.Builder_Extra_156 a c sep w
open Go.RowKit in
/-- strings.Join: "Join concatenates the elements of its first argument to create a single string. The separator string sep is placed between elements in the resulting string.": HOWEVER MANY ELEMENTS. Below the heap's end the world is as it was. (LAID: no walk: one application.) -/
theorem Tryz.strings_Join (bk o c : Nat) (xs : List ByteArray) (sep : ByteArray) (w : World) (hcells : ∀ (j : Nat) x, xs[j]? = some x → w.cell? ⟨bk, o + j, none⟩ = some (.string x)) (hbk : bk < w.heap.size) (hN : xs.length ≤ 140737488355328) (hcap : xs.length ≤ c) (hlen : (Lib.join (xs.map (·.data.toList)) sep.data.toList).length ≤ 140737488355328) :
 Calls Tryz.prog 257 #[.slice (some ⟨bk, o, none⟩) xs.length c, .string sep] w fun e w' => e = .returned (.string ⟨(Lib.join (xs.map (·.data.toList)) sep.data.toList).toArray⟩) ∧ Below w.heap.size w w' := Any.strings_Join Tryz.lays156 Tryz.Builder_Extra_156 bk o c xs sep w hcells hbk hN hcap hlen
def Tryz.laysM171_ren : Go.Shelf.Ren := ⟨fun | 171 => 183 | 243 => 238 | 246 => 275 | 283 => 289 | 284 => 290 | 285 => 291 | 286 => 292 | 129 => 297 | 317 => 296 | 318 => 298 | 319 => 299 | 320 => 300 | 337 => 302 | 338 => 303 | n => n, fun | 3 => 3 | 9 => 9 | 2 => 2 | 4 => 4 | 171 => 342 | 0 => 0 | 53 => 228 | 37 => 159 | 5 => 5 | 173 => 345 | 212 => 356 | 51 => 223 | 20 => 20 | 213 => 357 | 46 => 292 | 232 => 361 | 233 => 362 | n => n, fun | 17 => 5 | 18 => 6 | 19 => 7 | n => n⟩
theorem Tryz.laysM171 : Go.Proofs.LaysM.n171 Tryz.prog Tryz.laysM171_ren := {
 mixed := by kernel_rfl
 f129 := Tryz.func297.trans (congrArg some (by kernel_rfl))
 f171 := Tryz.func183.trans (congrArg some (by kernel_rfl))
 f243 := Tryz.func238.trans (congrArg some (by kernel_rfl))
 f246 := Tryz.func275.trans (congrArg some (by kernel_rfl))
 f283 := Tryz.func289.trans (congrArg some (by kernel_rfl))
 f284 := Tryz.func290.trans (congrArg some (by kernel_rfl))
 f285 := Tryz.func291.trans (congrArg some (by kernel_rfl))
 f286 := Tryz.func292.trans (congrArg some (by kernel_rfl))
 f317 := Tryz.func296.trans (congrArg some (by kernel_rfl))
 f318 := Tryz.func298.trans (congrArg some (by kernel_rfl))
 f319 := Tryz.func299.trans (congrArg some (by kernel_rfl))
 f320 := Tryz.func300.trans (congrArg some (by kernel_rfl))
 f337 := Tryz.func302.trans (congrArg some (by kernel_rfl))
 f338 := Tryz.func303.trans (congrArg some (by kernel_rfl))
 t0 := Tryz.underlying0
 a0 := Tryz.isAgg0
 z0 := Tryz.sizeOf0
 v0 := Tryz.zeroValue0
 t2 := Tryz.underlying2
 a2 := Tryz.isAgg2
 z2 := Tryz.sizeOf2
 v2 := Tryz.zeroValue2
 t3 := Tryz.underlying3
 a3 := Tryz.isAgg3
 z3 := Tryz.sizeOf3
 v3 := Tryz.zeroValue3
 t4 := Tryz.underlying4
 a4 := Tryz.isAgg4
 z4 := Tryz.sizeOf4
 v4 := Tryz.zeroValue4
 t5 := Tryz.underlying5
 a5 := Tryz.isAgg5
 z5 := Tryz.sizeOf5
 v5 := Tryz.zeroValue5
 t9 := Tryz.underlying9
 a9 := Tryz.isAgg9
 z9 := Tryz.sizeOf9
 v9 := Tryz.zeroValue9
 t20 := Tryz.underlying20
 a20 := Tryz.isAgg20
 z20 := Tryz.sizeOf20
 v20 := Tryz.zeroValue20
 t37 := Tryz.underlying159
 a37 := Tryz.isAgg159
 z37 := Tryz.sizeOf159
 v37 := Tryz.zeroValue159
 t46 := Tryz.underlying292
 a46 := Tryz.isAgg292
 z46 := Tryz.sizeOf292
 v46 := Tryz.zeroValue292
 t51 := Tryz.underlying223
 a51 := Tryz.isAgg223
 z51 := Tryz.sizeOf223
 v51 := Tryz.zeroValue223
 t53 := Tryz.underlying228
 a53 := Tryz.isAgg228
 z53 := Tryz.sizeOf228
 v53 := Tryz.zeroValue228
 t171 := Tryz.underlying342
 a171 := Tryz.isAgg342
 z171 := Tryz.sizeOf342
 v171 := Tryz.zeroValue342
 t173 := Tryz.underlying345
 a173 := Tryz.isAgg345
 z173 := Tryz.sizeOf345
 v173 := Tryz.zeroValue345
 t212 := Tryz.underlying356
 a212 := Tryz.isAgg356
 z212 := Tryz.sizeOf356
 v212 := Tryz.zeroValue356
 t213 := Tryz.underlying357
 a213 := Tryz.isAgg357
 z213 := Tryz.sizeOf357
 t232 := Tryz.underlying361
 a232 := Tryz.isAgg361
 z232 := Tryz.sizeOf361
 v232 := Tryz.zeroValue361
 t233 := Tryz.underlying362
 a233 := Tryz.isAgg362
 z233 := Tryz.sizeOf362
 v233 := Tryz.zeroValue362
 g17 := by kernel_rfl
 g18 := by kernel_rfl
 g19 := by kernel_rfl
 i0 := by kernel_rfl
 i2 := by kernel_rfl
 i3 := by kernel_rfl
 i4 := by kernel_rfl
 i5 := by kernel_rfl
 i9 := by kernel_rfl
 i20 := by kernel_rfl
 i37 := by kernel_rfl
 i46 := by kernel_rfl
 i51 := by kernel_rfl
 i53 := by kernel_rfl
 i171 := by kernel_rfl
 i173 := by kernel_rfl
 i212 := by kernel_rfl
 i232 := by kernel_rfl
 i233 := by kernel_rfl
 m17 := by kernel_rfl
 m18 := by kernel_rfl
 m19 := by kernel_rfl }
open Go.RowKit Go.Sort Go.Lib in
/-- strconv.Itoa: "Itoa is equivalent to FormatInt(int64(i), 10).": i's DECIMAL NUMERAL ('Lib.itoa': a '-' where i is negative, then the digits), FOR EVERY int. The world behind the call: the world before it, new blocks behind the heap (the library's 'var a [24]byte'), draws. (LAID: no walk: one application.) -/
theorem Tryz.strconv_Itoa (n : Int) (h0 : -9223372036854775808 ≤ n) (h1 : n ≤ 9223372036854775807) (w : World) (htab : Lib.TabIs Tryz.prog w "internal/strconv.uint64pow10" .u64 Lib.pow10Tab) :
 Calls Tryz.prog 183 #[.int .i64 n] w fun e w' => e = .returned (.string ⟨(Lib.itoa n).toArray⟩) ∧ ∃ k os, w' = grow (w.drewN k) os := Any.strconv_Itoa Tryz.laysM171 n h0 h1 w htab
def Tryz.laysC172_ren : Go.Shelf.Ren := ⟨fun | 172 => 236 | 244 => 274 | 245 => 222 | 247 => 288 | 279 => 268 | 280 => 269 | 281 => 270 | 282 => 271 | 287 => 221 | 316 => 235 | 171 => 183 | 205 => 285 | 321 => 266 | 322 => 267 | 243 => 238 | 246 => 275 | 283 => 289 | 284 => 290 | 285 => 291 | 286 => 292 | 129 => 297 | 317 => 296 | 318 => 298 | 319 => 299 | 320 => 300 | 337 => 302 | 338 => 303 | n => n, fun | 9 => 9 | 3 => 3 | 75 => 163 | 76 => 164 | 4 => 4 | 5 => 5 | 167 => 321 | 37 => 159 | 0 => 0 | 85 => 340 | 2 => 2 | 168 => 323 | 53 => 228 | 175 => 229 | 46 => 292 | 210 => 337 | 127 => 250 | 145 => 354 | 143 => 352 | 21 => 21 | 171 => 342 | 173 => 345 | 212 => 356 | 51 => 223 | 20 => 20 | 213 => 357 | 232 => 361 | 233 => 362 | 80 => 167 | n => n, fun | 15 => 1 | 16 => 2 | 17 => 5 | 18 => 6 | 19 => 7 | n => n⟩
theorem Tryz.laysC172 : Go.Proofs.LaysC.n172 Tryz.prog Tryz.laysC172_ren := {
 mixed := by kernel_rfl
 f129 := Tryz.func297.trans (congrArg some (by kernel_rfl))
 f171 := Tryz.func183.trans (congrArg some (by kernel_rfl))
 f172 := Tryz.func236.trans (congrArg some (by kernel_rfl))
 f205 := Tryz.func285.trans (congrArg some (by kernel_rfl))
 f243 := Tryz.func238.trans (congrArg some (by kernel_rfl))
 f244 := Tryz.func274.trans (congrArg some (by kernel_rfl))
 f245 := Tryz.func222.trans (congrArg some (by kernel_rfl))
 f246 := Tryz.func275.trans (congrArg some (by kernel_rfl))
 f247 := Tryz.func288.trans (congrArg some (by kernel_rfl))
 f279 := Tryz.func268.trans (congrArg some (by kernel_rfl))
 f280 := Tryz.func269.trans (congrArg some (by kernel_rfl))
 f281 := Tryz.func270.trans (congrArg some (by kernel_rfl))
 f282 := Tryz.func271.trans (congrArg some (by kernel_rfl))
 f283 := Tryz.func289.trans (congrArg some (by kernel_rfl))
 f284 := Tryz.func290.trans (congrArg some (by kernel_rfl))
 f285 := Tryz.func291.trans (congrArg some (by kernel_rfl))
 f286 := Tryz.func292.trans (congrArg some (by kernel_rfl))
 f287 := Tryz.func221.trans (congrArg some (by kernel_rfl))
 f316 := Tryz.func235.trans (congrArg some (by kernel_rfl))
 f317 := Tryz.func296.trans (congrArg some (by kernel_rfl))
 f318 := Tryz.func298.trans (congrArg some (by kernel_rfl))
 f319 := Tryz.func299.trans (congrArg some (by kernel_rfl))
 f320 := Tryz.func300.trans (congrArg some (by kernel_rfl))
 f321 := Tryz.func266.trans (congrArg some (by kernel_rfl))
 f322 := Tryz.func267.trans (congrArg some (by kernel_rfl))
 f337 := Tryz.func302.trans (congrArg some (by kernel_rfl))
 f338 := Tryz.func303.trans (congrArg some (by kernel_rfl))
 t0 := Tryz.underlying0
 a0 := Tryz.isAgg0
 z0 := Tryz.sizeOf0
 v0 := Tryz.zeroValue0
 t2 := Tryz.underlying2
 a2 := Tryz.isAgg2
 z2 := Tryz.sizeOf2
 v2 := Tryz.zeroValue2
 t3 := Tryz.underlying3
 a3 := Tryz.isAgg3
 z3 := Tryz.sizeOf3
 v3 := Tryz.zeroValue3
 t4 := Tryz.underlying4
 a4 := Tryz.isAgg4
 z4 := Tryz.sizeOf4
 v4 := Tryz.zeroValue4
 t5 := Tryz.underlying5
 a5 := Tryz.isAgg5
 z5 := Tryz.sizeOf5
 v5 := Tryz.zeroValue5
 t9 := Tryz.underlying9
 a9 := Tryz.isAgg9
 z9 := Tryz.sizeOf9
 v9 := Tryz.zeroValue9
 t20 := Tryz.underlying20
 a20 := Tryz.isAgg20
 z20 := Tryz.sizeOf20
 v20 := Tryz.zeroValue20
 t21 := Tryz.underlying21
 a21 := Tryz.isAgg21
 z21 := Tryz.sizeOf21
 v21 := Tryz.zeroValue21
 t37 := Tryz.underlying159
 a37 := Tryz.isAgg159
 z37 := Tryz.sizeOf159
 v37 := Tryz.zeroValue159
 t46 := Tryz.underlying292
 a46 := Tryz.isAgg292
 z46 := Tryz.sizeOf292
 v46 := Tryz.zeroValue292
 t51 := Tryz.underlying223
 a51 := Tryz.isAgg223
 z51 := Tryz.sizeOf223
 v51 := Tryz.zeroValue223
 t53 := Tryz.underlying228
 a53 := Tryz.isAgg228
 z53 := Tryz.sizeOf228
 v53 := Tryz.zeroValue228
 t75 := Tryz.underlying163
 a75 := Tryz.isAgg163
 z75 := Tryz.sizeOf163
 v75 := Tryz.zeroValue163
 t76 := Tryz.underlying164
 a76 := Tryz.isAgg164
 z76 := Tryz.sizeOf164
 v76 := Tryz.zeroValue164
 t85 := Tryz.underlying340
 a85 := Tryz.isAgg340
 z85 := Tryz.sizeOf340
 v85 := Tryz.zeroValue340
 t127 := Tryz.underlying250
 a127 := Tryz.isAgg250
 z127 := Tryz.sizeOf250
 v127 := Tryz.zeroValue250
 t143 := Tryz.underlying352
 a143 := Tryz.isAgg352
 z143 := Tryz.sizeOf352
 v143 := Tryz.zeroValue352
 t145 := Tryz.underlying354
 a145 := Tryz.isAgg354
 z145 := Tryz.sizeOf354
 v145 := Tryz.zeroValue354
 t167 := Tryz.underlying321
 a167 := Tryz.isAgg321
 z167 := Tryz.sizeOf321
 v167 := Tryz.zeroValue321
 t168 := Tryz.underlying323
 a168 := Tryz.isAgg323
 z168 := Tryz.sizeOf323
 v168 := Tryz.zeroValue323
 t171 := Tryz.underlying342
 a171 := Tryz.isAgg342
 z171 := Tryz.sizeOf342
 v171 := Tryz.zeroValue342
 t173 := Tryz.underlying345
 a173 := Tryz.isAgg345
 z173 := Tryz.sizeOf345
 v173 := Tryz.zeroValue345
 t175 := Tryz.underlying229
 a175 := Tryz.isAgg229
 z175 := Tryz.sizeOf229
 v175 := Tryz.zeroValue229
 t210 := Tryz.underlying337
 a210 := Tryz.isAgg337
 z210 := Tryz.sizeOf337
 v210 := Tryz.zeroValue337
 t212 := Tryz.underlying356
 a212 := Tryz.isAgg356
 z212 := Tryz.sizeOf356
 v212 := Tryz.zeroValue356
 t213 := Tryz.underlying357
 a213 := Tryz.isAgg357
 z213 := Tryz.sizeOf357
 t232 := Tryz.underlying361
 a232 := Tryz.isAgg361
 z232 := Tryz.sizeOf361
 v232 := Tryz.zeroValue361
 t233 := Tryz.underlying362
 a233 := Tryz.isAgg362
 z233 := Tryz.sizeOf362
 v233 := Tryz.zeroValue362
 g15 := by kernel_rfl
 g16 := by kernel_rfl
 g17 := by kernel_rfl
 g18 := by kernel_rfl
 g19 := by kernel_rfl
 t80 := Tryz.underlying167
 a80 := Tryz.isAgg167
 z80 := Tryz.sizeOf167
 v80 := Tryz.zeroValue167
 i0 := by kernel_rfl
 i2 := by kernel_rfl
 i3 := by kernel_rfl
 i4 := by kernel_rfl
 i5 := by kernel_rfl
 i9 := by kernel_rfl
 i20 := by kernel_rfl
 i21 := by kernel_rfl
 i37 := by kernel_rfl
 i46 := by kernel_rfl
 i51 := by kernel_rfl
 i53 := by kernel_rfl
 i75 := by kernel_rfl
 i76 := by kernel_rfl
 i80 := by kernel_rfl
 i85 := by kernel_rfl
 i127 := by kernel_rfl
 i143 := by kernel_rfl
 i145 := by kernel_rfl
 i167 := by kernel_rfl
 i168 := by kernel_rfl
 i171 := by kernel_rfl
 i173 := by kernel_rfl
 i175 := by kernel_rfl
 i210 := by kernel_rfl
 i212 := by kernel_rfl
 i232 := by kernel_rfl
 i233 := by kernel_rfl
 m15 := by kernel_rfl
 m16 := by kernel_rfl
 m17 := by kernel_rfl
 m18 := by kernel_rfl
 m19 := by kernel_rfl
 c0 := by kernel_rfl
 c2 := by kernel_rfl
 c3 := by kernel_rfl
 c4 := by kernel_rfl
 c5 := by kernel_rfl
 c9 := by kernel_rfl
 c20 := by kernel_rfl
 c21 := by kernel_rfl
 c37 := by kernel_rfl
 c46 := by kernel_rfl
 c51 := by kernel_rfl
 c53 := by kernel_rfl
 c75 := by kernel_rfl
 c76 := by kernel_rfl
 c80 := by kernel_rfl
 c85 := by kernel_rfl
 c127 := by kernel_rfl
 c143 := by kernel_rfl
 c145 := by kernel_rfl
 c167 := by kernel_rfl
 c168 := by kernel_rfl
 c171 := by kernel_rfl
 c173 := by kernel_rfl
 c175 := by kernel_rfl
 c210 := by kernel_rfl
 c212 := by kernel_rfl
 c213 := by kernel_rfl
 c232 := by kernel_rfl
 c233 := by kernel_rfl }
open Go.RowKit in
/-- strconv.Atoi, AT EVERY STRING THAT SPELLS AN int ('Lib.atoiAll .. = .ok v'; of whatever length: leading zeros count): v, AND NO ERROR. The world: as it was, or with the one new row that '[]byte(..)' lays. (LAID: no walk: one application.) -/
theorem Tryz.strconv_Atoi_ok (s : ByteArray) (hmax : s.size ≤ 9223372036854775806) (v : Int) (h : Lib.atoiAll s.data.toList = .ok v) (w : World) :
 Calls Tryz.prog 236 #[.string s] w fun e w' => e = .returned (.tuple #[.int .i64 v, .nilIface]) ∧ (w' = w ∨ ∃ t, w' = Lib.bytesWorld w 5 t) := Any.strconv_Atoi_ok Tryz.laysC172 s hmax v h w
open Go.RowKit in
theorem Tryz.strconv_Atoi_syntax_var (s : ByteArray) (hlim : s.size ≤ 281474976710656) (h : Lib.atoiAll s.data.toList = .«syntax») (tp : TypeId) (p : Value) (w : World) (hvar : w.var? Tryz.prog "strconv.ErrSyntax" = some #[.iface tp p]) :
 Calls Tryz.prog 236 #[.string s] w fun e w' => ∃ N, e = .returned (.tuple #[.int .i64 0, .iface 323 (.pointer (some ⟨N, 0, none⟩))]) ∧ w.heap.size ≤ N ∧ w'.heap[N]? = some (.cells #[.string ⟨#[65, 116, 111, 105]⟩, .string s, .iface tp p] 337 (0, 0)) ∧ Below w.heap.size w w' := Any.strconv_Atoi_syntax_var Tryz.laysC172 s hlim h tp p w hvar
open Go.RowKit in
theorem Tryz.strconv_Atoi_range_var (s : ByteArray) (hlim : s.size ≤ 281474976710656) (h : Lib.atoiAll s.data.toList = .range) (tp : TypeId) (p : Value) (w : World) (hvar : w.var? Tryz.prog "strconv.ErrRange" = some #[.iface tp p]) :
 Calls Tryz.prog 236 #[.string s] w fun e w' => ∃ N, e = .returned (.tuple #[.int .i64 (Lib.atoiSat s.data.toList), .iface 323 (.pointer (some ⟨N, 0, none⟩))]) ∧ w.heap.size ≤ N ∧ w'.heap[N]? = some (.cells #[.string ⟨#[65, 116, 111, 105]⟩, .string s, .iface tp p] 337 (0, 0)) ∧ Below w.heap.size w w' := Any.strconv_Atoi_range_var Tryz.laysC172 s hlim h tp p w hvar
def Tryz.laysPu14_ren : Go.Shelf.Ren := ⟨fun | 14 => 161 | 16 => 221 | 17 => 222 | 19 => 266 | 20 => 267 | 21 => 268 | 22 => 269 | 23 => 270 | 24 => 271 | 25 => 235 | 27 => 183 | 26 => 285 | 28 => 238 | 29 => 275 | 30 => 289 | 31 => 290 | 32 => 291 | 33 => 292 | 35 => 297 | 34 => 296 | 36 => 298 | 37 => 299 | 38 => 300 | 39 => 302 | 40 => 303 | n => n, fun | 9 => 9 | 3 => 3 | 22 => 228 | 24 => 163 | 25 => 229 | 4 => 4 | 34 => 321 | 5 => 5 | 36 => 292 | 37 => 159 | 0 => 0 | 39 => 323 | 21 => 21 | 44 => 337 | 47 => 250 | 50 => 354 | 48 => 352 | 2 => 2 | 52 => 342 | 55 => 345 | 59 => 356 | 60 => 223 | 20 => 20 | 61 => 357 | 65 => 361 | 66 => 362 | 67 => 167 | n => n, fun | 0 => 1 | 1 => 2 | 2 => 5 | 3 => 6 | 4 => 7 | n => n⟩
theorem Tryz.laysPu14 : Go.Proofs.LaysPu.n14 Tryz.prog Tryz.laysPu14_ren := {
 mixed := by kernel_rfl
 f14 := Tryz.func161.trans (congrArg some (by kernel_rfl))
 f16 := Tryz.func221.trans (congrArg some (by kernel_rfl))
 f17 := Tryz.func222.trans (congrArg some (by kernel_rfl))
 f19 := Tryz.func266.trans (congrArg some (by kernel_rfl))
 f20 := Tryz.func267.trans (congrArg some (by kernel_rfl))
 f21 := Tryz.func268.trans (congrArg some (by kernel_rfl))
 f22 := Tryz.func269.trans (congrArg some (by kernel_rfl))
 f23 := Tryz.func270.trans (congrArg some (by kernel_rfl))
 f24 := Tryz.func271.trans (congrArg some (by kernel_rfl))
 f25 := Tryz.func235.trans (congrArg some (by kernel_rfl))
 f26 := Tryz.func285.trans (congrArg some (by kernel_rfl))
 f27 := Tryz.func183.trans (congrArg some (by kernel_rfl))
 f28 := Tryz.func238.trans (congrArg some (by kernel_rfl))
 f29 := Tryz.func275.trans (congrArg some (by kernel_rfl))
 f30 := Tryz.func289.trans (congrArg some (by kernel_rfl))
 f31 := Tryz.func290.trans (congrArg some (by kernel_rfl))
 f32 := Tryz.func291.trans (congrArg some (by kernel_rfl))
 f33 := Tryz.func292.trans (congrArg some (by kernel_rfl))
 f34 := Tryz.func296.trans (congrArg some (by kernel_rfl))
 f35 := Tryz.func297.trans (congrArg some (by kernel_rfl))
 f36 := Tryz.func298.trans (congrArg some (by kernel_rfl))
 f37 := Tryz.func299.trans (congrArg some (by kernel_rfl))
 f38 := Tryz.func300.trans (congrArg some (by kernel_rfl))
 f39 := Tryz.func302.trans (congrArg some (by kernel_rfl))
 f40 := Tryz.func303.trans (congrArg some (by kernel_rfl))
 t0 := Tryz.underlying0
 a0 := Tryz.isAgg0
 z0 := Tryz.sizeOf0
 v0 := Tryz.zeroValue0
 i0 := by kernel_rfl
 t2 := Tryz.underlying2
 a2 := Tryz.isAgg2
 z2 := Tryz.sizeOf2
 v2 := Tryz.zeroValue2
 i2 := by kernel_rfl
 t3 := Tryz.underlying3
 a3 := Tryz.isAgg3
 z3 := Tryz.sizeOf3
 v3 := Tryz.zeroValue3
 i3 := by kernel_rfl
 t4 := Tryz.underlying4
 a4 := Tryz.isAgg4
 z4 := Tryz.sizeOf4
 v4 := Tryz.zeroValue4
 i4 := by kernel_rfl
 t5 := Tryz.underlying5
 a5 := Tryz.isAgg5
 z5 := Tryz.sizeOf5
 v5 := Tryz.zeroValue5
 i5 := by kernel_rfl
 t9 := Tryz.underlying9
 a9 := Tryz.isAgg9
 z9 := Tryz.sizeOf9
 v9 := Tryz.zeroValue9
 i9 := by kernel_rfl
 t20 := Tryz.underlying20
 a20 := Tryz.isAgg20
 z20 := Tryz.sizeOf20
 v20 := Tryz.zeroValue20
 i20 := by kernel_rfl
 t21 := Tryz.underlying21
 a21 := Tryz.isAgg21
 z21 := Tryz.sizeOf21
 v21 := Tryz.zeroValue21
 i21 := by kernel_rfl
 t22 := Tryz.underlying228
 a22 := Tryz.isAgg228
 z22 := Tryz.sizeOf228
 v22 := Tryz.zeroValue228
 i22 := by kernel_rfl
 t24 := Tryz.underlying163
 a24 := Tryz.isAgg163
 z24 := Tryz.sizeOf163
 v24 := Tryz.zeroValue163
 i24 := by kernel_rfl
 t25 := Tryz.underlying229
 a25 := Tryz.isAgg229
 z25 := Tryz.sizeOf229
 v25 := Tryz.zeroValue229
 i25 := by kernel_rfl
 t34 := Tryz.underlying321
 a34 := Tryz.isAgg321
 z34 := Tryz.sizeOf321
 v34 := Tryz.zeroValue321
 i34 := by kernel_rfl
 c34 := by kernel_rfl
 t36 := Tryz.underlying292
 a36 := Tryz.isAgg292
 z36 := Tryz.sizeOf292
 v36 := Tryz.zeroValue292
 i36 := by kernel_rfl
 t37 := Tryz.underlying159
 a37 := Tryz.isAgg159
 z37 := Tryz.sizeOf159
 v37 := Tryz.zeroValue159
 i37 := by kernel_rfl
 t39 := Tryz.underlying323
 a39 := Tryz.isAgg323
 z39 := Tryz.sizeOf323
 v39 := Tryz.zeroValue323
 i39 := by kernel_rfl
 t44 := Tryz.underlying337
 a44 := Tryz.isAgg337
 z44 := Tryz.sizeOf337
 v44 := Tryz.zeroValue337
 i44 := by kernel_rfl
 t47 := Tryz.underlying250
 a47 := Tryz.isAgg250
 z47 := Tryz.sizeOf250
 v47 := Tryz.zeroValue250
 i47 := by kernel_rfl
 t48 := Tryz.underlying352
 a48 := Tryz.isAgg352
 z48 := Tryz.sizeOf352
 v48 := Tryz.zeroValue352
 i48 := by kernel_rfl
 t50 := Tryz.underlying354
 a50 := Tryz.isAgg354
 z50 := Tryz.sizeOf354
 v50 := Tryz.zeroValue354
 i50 := by kernel_rfl
 t52 := Tryz.underlying342
 a52 := Tryz.isAgg342
 z52 := Tryz.sizeOf342
 v52 := Tryz.zeroValue342
 i52 := by kernel_rfl
 t55 := Tryz.underlying345
 a55 := Tryz.isAgg345
 z55 := Tryz.sizeOf345
 v55 := Tryz.zeroValue345
 i55 := by kernel_rfl
 t59 := Tryz.underlying356
 a59 := Tryz.isAgg356
 z59 := Tryz.sizeOf356
 v59 := Tryz.zeroValue356
 i59 := by kernel_rfl
 t60 := Tryz.underlying223
 a60 := Tryz.isAgg223
 z60 := Tryz.sizeOf223
 v60 := Tryz.zeroValue223
 i60 := by kernel_rfl
 t61 := Tryz.underlying357
 a61 := Tryz.isAgg357
 z61 := Tryz.sizeOf357
 t65 := Tryz.underlying361
 a65 := Tryz.isAgg361
 z65 := Tryz.sizeOf361
 v65 := Tryz.zeroValue361
 i65 := by kernel_rfl
 t66 := Tryz.underlying362
 a66 := Tryz.isAgg362
 z66 := Tryz.sizeOf362
 v66 := Tryz.zeroValue362
 i66 := by kernel_rfl
 t67 := Tryz.underlying167
 a67 := Tryz.isAgg167
 z67 := Tryz.sizeOf167
 v67 := Tryz.zeroValue167
 i67 := by kernel_rfl
 g0 := by kernel_rfl
 m0 := by kernel_rfl
 g1 := by kernel_rfl
 m1 := by kernel_rfl
 g2 := by kernel_rfl
 m2 := by kernel_rfl
 g3 := by kernel_rfl
 m3 := by kernel_rfl
 g4 := by kernel_rfl
 m4 := by kernel_rfl }
open Go.RowKit in
/-- strconv.ParseUint(s, 10, 32), AT EVERY STRING THAT SPELLS A uint32 ('Lib.parseUintB 32 s.data.toList = .ok u'): u, AND NO ERROR. (LAID: no walk: one application.) -/
theorem Tryz.strconv_ParseUint_10_at32_ok (s : ByteArray) (hmax : s.size ≤ 9223372036854775806) (u : Nat) (h : Lib.parseUintB 32 s.data.toList = .ok u) (w : World) :
 Calls Tryz.prog 161 #[.string s, .int .i64 10, .int .i64 32] w fun e w' => e = .returned (.tuple #[.int .u64 u, .nilIface]) ∧ (w' = w ∨ w' = Lib.bytesWorld w 5 s) := Any.strconv_ParseUint_10_at32_ok Tryz.laysPu14 s hmax u h w
def Tryz.lays212_ren : Go.Shelf.Ren := ⟨fun | 212 => 251 | 263 => 277 | 264 => 278 | n => n, fun | 46 => 292 | 51 => 223 | 146 => 329 | 53 => 228 | 148 => 331 | n => n, fun | n => n⟩
theorem Tryz.lays212 : Go.Proofs.Lays.n212 Tryz.prog Tryz.lays212_ren := {
 mixed := by kernel_rfl
 f212 := Tryz.func251.trans (congrArg some (by kernel_rfl))
 f263 := Tryz.func277.trans (congrArg some (by kernel_rfl))
 f264 := Tryz.func278.trans (congrArg some (by kernel_rfl))
 t46 := Tryz.underlying292
 a46 := Tryz.isAgg292
 z46 := Tryz.sizeOf292
 v46 := Tryz.zeroValue292
 t51 := Tryz.underlying223
 a51 := Tryz.isAgg223
 z51 := Tryz.sizeOf223
 v51 := Tryz.zeroValue223
 t53 := Tryz.underlying228
 a53 := Tryz.isAgg228
 z53 := Tryz.sizeOf228
 v53 := Tryz.zeroValue228
 t146 := Tryz.underlying329
 a146 := Tryz.isAgg329
 z146 := Tryz.sizeOf329
 v146 := Tryz.zeroValue329
 t148 := Tryz.underlying331
 a148 := Tryz.isAgg331
 z148 := Tryz.sizeOf331
 v148 := Tryz.zeroValue331 }
open Go.RowKit Go.Lib in
/-- math/bits.Mul: "Mul returns the full-width product of x and y": on a machine of 64 bits: Mul64's. (LAID: no walk: one application.) -/
theorem Tryz.bits_Mul (x y : Nat) (hx : x < 18446744073709551616) (hy : y < 18446744073709551616) (w : World) :
 Calls Tryz.prog 251 #[.int .u64 x, .int .u64 y] w fun e w' => e = .returned (.tuple #[.int .u64 ((x * y / 18446744073709551616 : Nat) : Int), .int .u64 ((x * y % 18446744073709551616 : Nat) : Int)]) ∧ w' = w := Any.bits_Mul Tryz.lays212 x y hx hy w
end Go.Proofs
namespace Go.Ax.Bg
open Go.Ax.Tb (zAa)
def dg (c : UInt8) : Bool := decide (48 ≤ c.toNat ∧ c.toNat < 58)
theorem dg_iff {c : UInt8} : dg c = true ↔ zAa c := by
 unfold dg zAa
 simp only [decide_eq_true_eq]
 constructor <;> intro h <;> exact ⟨by omega, by omega⟩
def trR (s : List UInt8) : List UInt8 := (s.reverse.dropWhile dg).reverse
def trL (s : List UInt8) : List UInt8 := s.dropWhile dg
theorem zED {l m : List UInt8} (h : l.all dg = true) : (l ++ m).dropWhile dg = m.dropWhile dg := by
 induction l with
 | nil => rfl
 | cons x r ih =>
  simp only [List.all_cons, Bool.and_eq_true] at h
  rw [List.cons_append, List.dropWhile_cons_of_pos h.1, ih h.2]
theorem trR_of {s : List UInt8} {k : Nat} (hk : k ≤ s.length) (h : (s.drop k).all dg = true) (h2 : k = 0 ∨ dg (s.getD (k - 1) 0) = false) : trR s = s.take k := by
 unfold trR
 conv => lhs; rw [← List.take_append_drop k s]
 rw [List.reverse_append, zED (by rw [List.all_reverse]; exact h)]
 rcases h2 with h2 | h2
 ·subst h2; rfl
 ·rcases Nat.eq_zero_or_pos k with q | q
  ·subst q; rfl
  ·have e : s.take k = s.take (k - 1) ++ [s.getD (k - 1) 0] := by
    have := zAJ s 0 (k - 1) (by omega)
    rwa [show k - 1 + 1 = k by omega] at this
   rw [e, List.reverse_append, List.reverse_singleton, List.singleton_append, List.dropWhile_cons_of_neg (by rw [h2]; decide)]
   simp
theorem trL_of {s : List UInt8} {k : Nat} (h : (s.take k).all dg = true) (h2 : s.length ≤ k ∨ dg (s.getD k 0) = false) : trL s = s.drop k := by
 unfold trL
 conv => lhs; rw [← List.take_append_drop k s]
 rw [zED h]
 rcases h2 with h2 | h2
 ·rw [List.drop_of_length_le h2]; rfl
 ·rcases Nat.lt_or_ge k s.length with q | q
  ·rw [zA9 s 0 k q, List.dropWhile_cons_of_neg (by rw [h2]; decide)]
  ·rw [List.drop_of_length_le q]; rfl
theorem zJ3 {l : List UInt8} : l.dropWhile dg = [] ↔ l.all dg = true := by
 induction l with
 | nil => simp
 | cons x r ih =>
  cases h : dg x with
  | true => rw [List.dropWhile_cons_of_pos h, ih]; simp [h]
  | false => rw [List.dropWhile_cons_of_neg (by rw [h]; decide)]; simp [h]
theorem dw_head {l : List UInt8} {x : UInt8} {r : List UInt8} (h : l.dropWhile dg = x :: r) : dg x = false := by
 induction l with
 | nil => cases h
 | cons y q ih =>
  cases hy : dg y with
  | true => rw [List.dropWhile_cons_of_pos hy] at h; exact ih h
  | false =>
   rw [List.dropWhile_cons_of_neg (by rw [hy]; decide)] at h
   cases h; exact hy
theorem trR_nil {s : List UInt8} : trL (trR s) = [] ↔ s.all dg = true := by
 unfold trL trR
 rw [zJ3, List.all_reverse]
 constructor
 ·intro h
  cases hq : s.reverse.dropWhile dg with
  | nil => rw [zJ3, List.all_reverse] at hq; exact hq
  | cons x r =>
   rw [hq] at h
   have := dw_head hq
   simp [this] at h
 ·intro h
  have : s.reverse.dropWhile dg = [] := by rw [zJ3, List.all_reverse]; exact h
  rw [this]; rfl
/-- Up to nine digits as a number. -/
theorem parse_go {l : List UInt8} (hd : ∀ c ∈ l, zAa c) : ∀ (a : Nat), zAG a l ≤ 4294967295 → Lib.parseUintM 4294967295 a l = .ok (zAG a l) := by
 induction l with
 | nil => intro a _; rfl
 | cons c r ih =>
  intro a h
  have hc := hd c (by simp)
  unfold zAa at hc
  rw [zBg] at h ⊢
  have h1 : a * 10 + (c.toNat - 48) ≤ 4294967295 := by
   refine Nat.le_trans ?_ h
   rw [zEA r]
   have : (a * 10 + (c.toNat - 48)) * 1 ≤ (a * 10 + (c.toNat - 48)) * 10 ^ r.length := Nat.mul_le_mul_left _ (Nat.one_le_pow _ _ (by decide))
   omega
  have i := ih (fun x hx => hd x (by simp [hx])) _ h
  unfold Lib.parseUintM
  rw [if_pos (by omega), if_neg (by omega), if_neg (by omega)]
  exact i
theorem zG1 {l : List UInt8} (h0 : l ≠ []) (hd : ∀ c ∈ l, zAa c) (h9 : l.length ≤ 9) : Lib.parseUintB 32 l = .ok (zAG 0 l) ∧ zAG 0 l < 1000000000 := by
 have hlt := zFP hd
 have hp : 10 ^ l.length ≤ 10 ^ 9 := Nat.pow_le_pow_right (by decide) h9
 have e9 : (10 : Nat) ^ 9 = 1000000000 := by decide
 rw [e9] at hp
 unfold Lib.parseUintB
 rw [if_neg h0]
 have e32 : (2 : Nat) ^ 32 - 1 = 4294967295 := by decide
 rw [e32]
 exact ⟨parse_go hd 0 (by omega), by omega⟩
theorem zHx : ∀ (ls : List (List UInt8)), Lib.join ls [] = ls.flatten
 | [] => rfl
 | x :: r => by
  rw [Lib.join_cons, List.flatten_cons]
  congr 1
  unfold Lib.joinTail
  congr 1
  simp
end Go.Ax.Bg
namespace Go.Proofs.YtkncmbklkhjmgaaGreatDoor
open Go.Ax Go.Ax.Bg Go.RowKit
theorem zIr (w : World) (q : Nat) (os : Array Obj) : Below w.heap.size w (Go.Sort.grow (w.drewN q) os) := by
 refine ⟨Y, Y, Y, ?_, fun k hk => ?_⟩
 ·show w.heap.size ≤ (w.heap ++ os).size
  simp
 ·show (w.heap ++ os)[k]? = w.heap[k]?
  rw [Array.getElem?_append_left hk]
theorem vals1 {w : World} {S : Nat → Prop} {σ : Nat → Option Blk} {a : AV} {vals : Array Value} (hv : VRs w S σ [a] vals) : ∃ x, vals = #[x] ∧ VR w S σ a x := by
 obtain ⟨h1, h2⟩ := hv
 have q := h2 0 (by simp)
 have hl : vals.toList.length = 1 := by simpa using h1
 match hq : vals.toList, hl with
 | [x], _ =>
  have e : vals = #[x] := by rw [← Array.toArray_toList (xs := vals), hq]
  subst e
  exact ⟨x, Y, by simpa using q⟩
theorem vals2 {w : World} {S : Nat → Prop} {σ : Nat → Option Blk} {a b : AV} {vals : Array Value} (hv : VRs w S σ [a, b] vals) : ∃ x y, vals = #[x, y] ∧ VR w S σ a x ∧ VR w S σ b y := by
 obtain ⟨h1, h2⟩ := hv
 have q := h2 0 (by simp)
 have q1 := h2 1 (by simp)
 have hl : vals.toList.length = 2 := by simpa using h1
 match hq : vals.toList, hl with
 | [x, y], _ =>
  have e : vals = #[x, y] := by rw [← Array.toArray_toList (xs := vals), hq]
  subst e
  exact ⟨x, y, Y, by simpa using q, by simpa using q1⟩
theorem vals3 {w : World} {S : Nat → Prop} {σ : Nat → Option Blk} {a b c : AV} {vals : Array Value} (hv : VRs w S σ [a, b, c] vals) : ∃ x y z, vals = #[x, y, z] ∧ VR w S σ a x ∧ VR w S σ b y ∧ VR w S σ c z := by
 obtain ⟨h1, h2⟩ := hv
 have q := h2 0 (by simp)
 have q1 := h2 1 (by simp)
 have q2 := h2 2 (by simp)
 have hl : vals.toList.length = 3 := by simpa using h1
 match hq : vals.toList, hl with
 | [x, y, z], _ =>
  have e : vals = #[x, y, z] := by rw [← Array.toArray_toList (xs := vals), hq]
  subst e
  exact ⟨x, y, z, Y, by simpa using q, by simpa using q1, by simpa using q2⟩
theorem itoa (n : Int) (h : -9223372036854775808 ≤ n ∧ n ≤ 9223372036854775807) : zN Tryz.prog 183 [.int .i64 n] (.str (Lib.itoa n)) := by
 refine zN.of_below ⟨Tryz.f183, Y, by kernel_rfl, Y⟩ Y Y (fun w S vals hG hS hv => ?_)
 obtain ⟨x, rfl, a⟩ := vals1 hv
 have hx : x = .int .i64 n := by cases a; rfl
 subst hx
 have hp : pinG w := hG
 refine (Tryz.strconv_Itoa n h.1 h.2 w hp.2.1).mono ?_
 rintro e w' ⟨rfl, k, os, rfl⟩
 exact ⟨_, Y, zIr w k os, .str _ _⟩
theorem itoaN (n : Nat) (h : n ≤ 9223372036854775807) : zN Tryz.prog 183 [.int .i64 (n : Nat)] (.str (Lib.decDigits n)) := by
 have := itoa n ⟨by omega, by omega⟩
 rwa [Go.Ax.Tb.itoa_nat] at this
theorem mulB (a b : Nat) (ha : a < 18446744073709551616) (hb : b < 18446744073709551616) : zN Tryz.prog 251 [.int .u64 (a : Nat), .int .u64 (b : Nat)] (.tup [.int .u64 (a * b / 18446744073709551616 : Nat), .int .u64 (a * b % 18446744073709551616 : Nat)]) := by
 refine zN.of_below ⟨Tryz.f251, Y, by kernel_rfl, Y⟩ Y Y (fun w S vals hG hS hv => ?_)
 obtain ⟨x, y, rfl, p, q⟩ := vals2 hv
 have hx : x = .int .u64 (a : Nat) := by cases p; rfl
 have hy : y = .int .u64 (b : Nat) := by cases q; rfl
 subst hx hy
 refine (Tryz.bits_Mul a b ha hb w).mono ?_
 rintro e w' ⟨rfl, rfl⟩
 refine ⟨_, Y, Below.refl _ _, .tup _ _ _ Y (fun i hi => ?_)⟩
 match i, hi with
 | 0, _ => exact .int _ _ _
 | 1, _ => exact .int _ _ _
theorem parse32 (s : List UInt8) (u : Nat) (hl : s.length ≤ 1000) (h : Lib.parseUintB 32 s = .ok u) : zN Tryz.prog 161 [.str s, .int .i64 10, .int .i64 32] (.tup [.int .u64 (u : Nat), .nilif]) := by
 refine zN.of_below ⟨Tryz.f161, Y, by kernel_rfl, Y⟩ Y Y (fun w S vals hG hS hv => ?_)
 obtain ⟨x, y, z, rfl, p, q, r⟩ := vals3 hv
 have hx : x = zD2 s := by cases p; rfl
 have hy : y = .int .i64 10 := by cases q; rfl
 have hz : z = .int .i64 32 := by cases r; rfl
 subst hx hy hz
 have hd : (⟨s.toArray⟩ : ByteArray).data.toList = s := by simp
 have hsz : (⟨s.toArray⟩ : ByteArray).size = s.length := by simp [ByteArray.size]
 refine (Tryz.strconv_ParseUint_10_at32_ok ⟨s.toArray⟩ (by rw [hsz]; omega) u (by rw [hd]; exact h) w).mono ?_
 rintro e w' ⟨rfl, hw⟩
 refine ⟨_, Y, ?_, .tup _ _ _ Y (fun i hi => ?_)⟩
 ·rcases hw with rfl | rfl
  ·exact Below.refl _ _
  ·exact Lib.bytesWorld_below _ _ _
 ·match i, hi with
  | 0, _ => exact .int _ _ _
  | 1, _ => exact .nilif _
theorem join (ls : List (List UInt8)) (sep : List UInt8) (hN : ls.length ≤ 140737488355328) (hj : (Lib.join ls sep).length ≤ 140737488355328) : zN Tryz.prog 257 [.ro (.strs ls) 0 ls.length, .str sep] (.str (Lib.join ls sep)) := by
 refine zN.of_below ⟨Tryz.f257, Y, by kernel_rfl, Y⟩ Y Y (fun w S vals hG hS hv => ?_)
 obtain ⟨x, y, rfl, a, b⟩ := vals2 hv
 have hy : y = zD2 sep := by cases b; rfl
 subst hy
 have hsep : (⟨sep.toArray⟩ : ByteArray).data.toList = sep := by simp
 have hbyte : ∀ l : List UInt8, (⟨l.toArray⟩ : ByteArray).data.toList = l := fun l => by simp
 generalize hn : ls.length = n at a
 cases a with
 | ro0 _ _ _ ad cap =>
  have : ls = [] := List.length_eq_zero_iff.mp hn
  subst this
  refine (Tryz.strings_Join_none ad cap ⟨sep.toArray⟩ w).mono ?_
  rintro e w' ⟨rfl, rfl⟩
  exact ⟨_, Y, Below.refl _ _, .str _ []⟩
 | ro _ _ _ _ bk o cap val hSb hlen hc hvv h1' =>
  subst hn
  have hxs : (ls.map (fun l => (⟨l.toArray⟩ : ByteArray))).length = ls.length := by simp
  have c := Tryz.strings_Join bk o cap (ls.map (fun l => (⟨l.toArray⟩ : ByteArray))) ⟨sep.toArray⟩ w (fun j x hx => ?_) (hS _ hSb) (by simpa using hN) (by simpa using hlen) ?_
  ·rw [hxs] at c
   refine c.mono ?_
   rintro e w' ⟨rfl, hb⟩
   have e2 : ((ls.map (fun l => (⟨l.toArray⟩ : ByteArray))).map (fun x => x.data.toList)) = ls := by rw [List.map_map]; exact (List.map_congr_left (fun x _ => rfl)).trans (List.map_id _)
   rw [e2, hsep]
   exact ⟨_, Y, hb, .str _ _⟩
  ·simp only [List.getElem?_map, Option.map_eq_some_iff] at hx
   obtain ⟨l, hl, rfl⟩ := hx
   have hlt : j < ls.length := (List.getElem?_eq_some_iff.1 hl).1
   have q := hc j 0 hlt (by simp [Cells.sz])
   have v := hvv j 0 hlt (by simp [Cells.sz])
   simp only [Cells.sz, Nat.mul_one, Nat.add_zero] at q
   simp only [Cells.at, Nat.zero_add, List.getD, hl, Option.getD_some] at v
   rw [q]
   generalize val j 0 = z at v
   cases v; rfl
  ·have e2 : ((ls.map (fun l => (⟨l.toArray⟩ : ByteArray))).map (fun x => x.data.toList)) = ls := by rw [List.map_map]; exact (List.map_congr_left (fun x _ => rfl)).trans (List.map_id _)
   rw [e2, hsep]; exact hj
end Go.Proofs.YtkncmbklkhjmgaaGreatDoor
namespace Go.Proofs.YtkncmbklkhjmgaaGreatDoor
open Go.Ax Go.Ax.Bg Go.RowKit
attribute [local irreducible] Ax zAO QOp zK
def zFZ (s p : List UInt8) : Bool := decide (p.length ≤ s.length ∧ s.take p.length = p)
theorem zLX (s p : List UInt8) (hs : s.length ≤ 9223372036854775807) (hp : p.length ≤ 9223372036854775807) : zN Tryz.prog 212 [.str s, .str p] (.bool (zFZ s p)) := by
 refine zK.value0 (zC (P := Tryz.prog) (fn := Tryz.f212) Y Y (by kernel_rfl) Y (fun c hR hfix => ?_)) (fix := fun _ => False) (fun _ h => h) Y Y
 refine rn8 ?_
 refine zW Y Y (fun h0 => ?_) (fun h0 => ?_)
 ·refine zDc ?_
  refine zE hR Y ?_
  show AV.bool (decide ((List.drop _ s).take _ = p)) = _
  unfold zFZ
  congr 1
  rw [decide_eq_decide]
  simp only [Int.toNat_zero, List.drop_zero, Int.toNat_natCast, Nat.sub_zero]
  exact ⟨fun h => ⟨by omega, h⟩, fun h => h.2⟩
 ·refine rn6 ?_
  refine zE hR Y ?_
  show AV.bool false = _
  unfold zFZ
  rw [decide_eq_false]
  exact fun h => h0 (by omega)
theorem zGX (s p : List UInt8) (hs : s.length ≤ 9223372036854775807) (hp : p.length ≤ 9223372036854775807) : zN Tryz.prog 254 [.str s, .str p] (.bool (zFZ s p)) := by
 have hc := zLX s p hs hp
 refine zK.value0 (zC (P := Tryz.prog) (fn := Tryz.f254) Y Y (by kernel_rfl) Y (fun c hR hfix => ?_)) (fix := fun _ => False) (fun _ h => h) Y Y
 generalize zFZ s p = b at *
 refine rn0 ?_
 refine zA Y Y Y hc ?_
 refine rn0 ?_
 exact zE hR Y Y
/-- strings.Repeat("0", n), n small. -/
theorem repeat0 (n : Nat) (hn : n ≤ 60) : zN Tryz.prog 255 [.str [48], .int .i64 (n : Nat)] (.str (List.replicate n 48)) := by
 refine zK.value0 (zC (P := Tryz.prog) (fn := Tryz.f255) Y Y (by kernel_rfl) Y (fun c hR hfix => ?_)) (fix := fun _ => False) (fun _ h => h) Y Y
 refine rn4 ?_
 refine zB Y (fun h0 => ?_) (fun h0 => ?_)
 ·have : n = 0 := by omega
  subst this
  refine rn6 ?_
  exact zE hR Y Y
 refine rn4 ?_
 refine zB Y (fun h1 => ?_) (fun h1 => ?_)
 ·have : n = 1 := by omega
  subst this
  refine rn6 ?_
  exact zE hR Y Y
 refine rn6 ?_
 have hm := mulB 1 n (by omega) (by omega)
 rw [Nat.one_mul, Nat.div_eq_of_lt (by omega), Nat.mod_eq_of_lt (by omega)] at hm
 have p1 : zN Tryz.prog 254 [.str (List.replicate 128 32), .str [48]] (.bool false) := zGX _ _ (by decide) (by decide)
 have p2 : zN Tryz.prog 254 [.str (List.replicate 128 45), .str [48]] (.bool false) := zGX _ _ (by decide) (by decide)
 have p3 : zN Tryz.prog 254 [.str (List.replicate 64 48), .str [48]] (.bool true) := zGX _ _ (by decide) (by decide)
 refine zF (zp (m := 1) Y Y Y zAQ (by decide)) ?_
 repeat (refine zF (zU rfl) ?_)
 refine zF (zp (m := n) Y Y Y zAQ (by omega)) ?_
 refine zA Y Y Y hm ?_
 refine rn6 ?_
 refine zB Y (fun h => absurd h (by omega)) (fun h => ?_)
 refine rn1 ?_
 refine zF (zDa (m := n) Y Y Y (by omega)) ?_
 refine zHC ?_
 refine zW Y Y (fun h3 => ?_) (fun h3 => absurd (show (n : Int) ≤ 128 by omega) h3)
 refine rn2 ?_
 refine zA Y Y Y p1 ?_
 refine rn8 ?_
 refine zW Y Y (fun h4 => ?_) (fun h4 => absurd (show (n : Int) ≤ 128 by omega) h4)
 refine rn2 ?_
 refine zA Y Y Y p2 ?_
 refine rn8 ?_
 refine zW Y Y (fun h5 => ?_) (fun h5 => absurd (show (n : Int) ≤ 64 by omega) h5)
 refine rn2 ?_
 refine zA Y Y Y p3 ?_
 refine rn5 ?_
 refine zF (zB5 Y Y Y Y Y Y (by show (0 : Int) ≤ 0 ∧ (0 : Int) ≤ (n : Nat) ∧ ((n : Nat) : Int) ≤ ((64 : Nat) : Int); omega)) ?_
 refine rn6 ?_
 refine zE hR Y ?_
 show AV.str ((List.drop 0 (List.replicate 64 48)).take (n - 0)) = _
 rw [List.drop_zero, Nat.sub_zero, List.take_replicate, Nat.min_eq_left (by omega)]
/-- strings.asciiSet: the digits. -/
def zCU (k : Nat) : List AV := (List.range 256).map fun j => AV.bool (decide (48 ≤ j ∧ j < 48 + k))
theorem zA7 (k : Nat) : (zCU k).length = 256 := by unfold zCU; simp
theorem zGZ (k j : Nat) (hj : j < 256) : (zCU k)[j]? = some (AV.bool (decide (48 ≤ j ∧ j < 48 + k))) := by
 unfold zCU
 rw [List.getElem?_map, List.getElem?_range hj]; rfl
theorem setL_set (k : Nat) (hk : k < 10) : (zCU k).set (48 + k) (.bool true) = zCU (k + 1) := by
 apply List.ext_getElem?
 intro i
 rcases Nat.lt_or_ge i 256 with hi | hi
 ·rw [zGZ (k + 1) i hi]
  by_cases h : i = 48 + k
  ·subst h
   rw [List.getElem?_set_self (by rw [zA7]; exact hi)]
   congr 2
   exact (decide_eq_true (by omega)).symm
  ·rw [List.getElem?_set_ne (Ne.symm h), zGZ k i hi]
   congr 2
   rw [decide_eq_decide]; omega
 ·rw [List.getElem?_eq_none (by rw [List.length_set, zA7]; exact hi), List.getElem?_eq_none (by rw [zA7]; exact hi)]
def digS : List UInt8 := [48, 49, 50, 51, 52, 53, 54, 55, 56, 57]
theorem zK6 (k : Nat) (hk : k < 10) : (digS.getD k 0).toNat = 48 + k := by
 have : k = 0 ∨ k = 1 ∨ k = 2 ∨ k = 3 ∨ k = 4 ∨ k = 5 ∨ k = 6 ∨ k = 7 ∨ k = 8 ∨ k = 9 := by omega
 rcases this with rfl | rfl | rfl | rfl | rfl | rfl | rfl | rfl | rfl | rfl <;> rfl
theorem box_all (l : List AV) : (List.range (Cells.box l).sz).map ((Cells.box l).at 0) = l := by
 apply List.ext_getElem?
 intro i
 rcases Nat.lt_or_ge i l.length with h | h
 ·rw [List.getElem?_map, List.getElem?_range (by exact h)]
  show some (l.getD i .any) = _
  rw [List.getD, List.getElem?_eq_getElem h]; rfl
 ·rw [List.getElem?_eq_none (by simpa [Cells.sz] using h), List.getElem?_eq_none h]
theorem set_ok : zN Tryz.prog 216 [.str digS] (.tup [.agg (zCU 10), .bool true]) := by
 refine zK.value0 (zC (P := Tryz.prog) (fn := Tryz.f216) Y Y (by kernel_rfl) Y (fun c hR hfix => ?_)) (fix := fun _ => False) (fun _ h => h) Y (by kernel_rfl)
 refine rn4 ?_
 refine zBx [some ⟨286, .box (zCU 0)⟩] (by kernel_rfl) ?_
 refine zY (ι := Nat) (fun k => [(0, .str digS), (2, .ptr 0 0 0), (4, .int .i64 (k : Nat))]) (fun k => [some ⟨286, .box (zCU k)⟩]) (fun k => k ≤ 10) (fun k => 10 - k) 0 ⟨⟨Y, Y, Y, trivial⟩, Y, by omega⟩ ?_
 rintro k hk
 have hdl : digS.length = 10 := rfl
 refine rn6 ?_
 refine zB Y (fun h1 => ?_) (fun h1 => ?_)
 ·have hk2 : k < 10 := by omega
  refine zHC ?_
  refine zB Y (fun h2 => absurd h2 (by rw [Int.toNat_natCast, zK6 k hk2]; omega)) (fun h2 => ?_)
  refine rn1 ?_
  refine zG 18 (.int .u8 (48 + k : Nat)) Y (AEq.of_eq (by rw [Int.toNat_natCast, zK6 k hk2])) ?_
  refine zF (zFa (m := ((48 + k : Nat) : Int)) (jx := 48 + k) Y Y Y Y (by rw [Int.toNat_natCast, Nat.zero_add]) (by omega)) ?_
  refine zBm Y Y Y Y Y (by rw [show (Cells.box (zCU k)).sz = 256 from zA7 k]; exact Nat.ble_eq.symm ▸ (by omega : 48 + k + 1 ≤ 256)) Y Nat.zero_lt_one ?_
  refine rn5 ?_
  refine zM ⟨k + 1, by omega, by omega, ⟨Y, Y, Y, trivial⟩, ?_⟩
  show ([some ⟨_, .box ((zCU k).set (48 + k) (.bool true))⟩] : zH) = _
  rw [setL_set k hk2]
 ·have hke : k = 10 := by omega
  subst hke
  refine rn5 ?_
  refine zF (zEs (ob := ⟨286, .box (zCU 10)⟩) Y Y Y (zA7 10).symm Y Y (box_all _) Nat.zero_lt_one) ?_
  refine zA0 (c' := .box (zCU 10)) Y Y (by rw [show (Cells.box (zCU 10)).sz = 256 from zA7 10]; rfl) Y (by rw [show (Cells.box (zCU 10)).sz = 256 from zA7 10]; exact zA7 10) Nat.zero_lt_one Y Y (fun i' j' hi' hj' => ?_) ?_
  ·rw [if_pos (Nat.lt_one_iff.1 hi')]; rfl
  refine rn0 ?_
  exact zE hR Y Y
theorem zGE (ch : UInt8) : zN Tryz.prog 262 [.rp (.box (zCU 10)) 0 0, .int .u8 (ch.toNat : Nat)] (.bool (dg ch)) := by
 have hlt := ch.toNat_lt
 have hat := zGZ 10 ch.toNat (by simpa using hlt)
 refine zK.value0 (zC (P := Tryz.prog) (fn := Tryz.f262) Y Y (by kernel_rfl) Y (fun c hR hfix => ?_)) (fix := fun _ => False) (fun _ h => h) Y Y
 refine rn15 ?_
 refine zF (zJV (m := ((ch.toNat : Nat) : Int)) (jx := ch.toNat) Y Y Y Y (by rw [Int.toNat_natCast, Nat.zero_add]) (by omega)) ?_
 refine zF (zB3 Y Y Y hat) ?_
 refine rn0 ?_
 exact zE hR Y Y
theorem right_ok (s : List UInt8) (hs : s.length ≤ 9223372036854775807) : zN Tryz.prog 218 [.str s, .rp (.box (zCU 10)) 0 0] (.str (trR s)) := by
 refine zK.value0 (zC (P := Tryz.prog) (fn := Tryz.f218) Y Y (by kernel_rfl) Y (fun c hR hfix => ?_)) (fix := fun _ => False) (fun _ h => h) Y Y
 refine rn1 ?_
 refine zY (ι := Nat) (fun k => [(0, .str (s.take k)), (1, .rp (.box (zCU 10)) 0 0)]) (fun _ => []) (fun k => k ≤ s.length ∧ (s.drop k).all dg = true) (fun k => k) s.length ⟨⟨by rw [List.take_length]; rfl, Y, trivial⟩, Y, Nat.le_refl _, by simp⟩ ?_
 rintro k ⟨hk, hd⟩
 have hlen : (s.take k).length = k := by simp; omega
 have hof := trR_of hk hd
 refine rn6 ?_
 refine zB Y (fun h1 => ?_) (fun h1 => ?_)
 ·have hk1 : 0 < k := by omega
  have hg : (s.take k).getD (k - 1) 0 = s.getD (k - 1) 0 := by
   simp only [List.getD, List.getElem?_take, show k - 1 < k by omega, if_true]
  have e1 : ((k : Int) - 1).toNat = k - 1 := by omega
  have hc := zGE (s.getD (k - 1) 0)
  refine rn19 ?_
  refine zG 13 (.int .u8 ((s.getD (k - 1) 0).toNat : Nat)) Y (AEq.of_eq (by rw [hlen, e1, hg])) ?_
  refine zA Y Y Y hc ?_
  refine rn5 ?_
  refine zDA Y (fun h2 => ?_) (fun h2 => ?_)
  ·have h3 : dg (s.getD (k - 1) 0) = false := by simpa using h2
   refine zHD ?_
   refine zE hR Y ?_
   rw [hof (.inr h3)]; rfl
  ·have h3 : dg (s.getD (k - 1) 0) = true := by simpa using h2
   refine rn8 ?_
   refine zF (zB5 Y Y Y Y Y Y (by omega)) ?_
   refine rn5 ?_
   refine zM ⟨k - 1, ⟨by omega, ?_⟩, by omega, ⟨?_, Y, trivial⟩, Y⟩
   ·rw [zA9 s 0 (k - 1) (by omega), show k - 1 + 1 = k by omega, List.all_cons, h3, hd]; rfl
   ·show some (AV.str ((List.drop 0 (s.take k)).take ((((s.take k).length : Int) - 1).toNat - 0))) = _
    rw [List.drop_zero, hlen, e1, Nat.sub_zero, List.take_take, Nat.min_eq_left (by omega)]
 ·have hk0 : k = 0 := by omega
  subst hk0
  refine rn5 ?_
  refine zE hR Y ?_
  rw [hof (.inl rfl)]; rfl
theorem left_ok (s : List UInt8) (hs : s.length ≤ 9223372036854775807) : zN Tryz.prog 217 [.str s, .rp (.box (zCU 10)) 0 0] (.str (trL s)) := by
 refine zK.value0 (zC (P := Tryz.prog) (fn := Tryz.f217) Y Y (by kernel_rfl) Y (fun c hR hfix => ?_)) (fix := fun _ => False) (fun _ h => h) Y Y
 refine rn1 ?_
 refine zY (ι := Nat) (fun k => [(0, .str (s.drop k)), (1, .rp (.box (zCU 10)) 0 0)]) (fun _ => []) (fun k => k ≤ s.length ∧ (s.take k).all dg = true) (fun k => s.length - k) 0 ⟨⟨by rw [List.drop_zero]; rfl, Y, trivial⟩, Y, Nat.zero_le _, by simp⟩ ?_
 rintro k ⟨hk, hd⟩
 have hlen : (s.drop k).length = s.length - k := by simp
 have hof := trL_of hd
 refine rn6 ?_
 refine zB Y (fun h1 => ?_) (fun h1 => ?_)
 ·have hk1 : k < s.length := by omega
  have hg : (s.drop k).getD 0 0 = s.getD k 0 := by simp [List.getD]
  have hc := zGE (s.getD k 0)
  refine zHC ?_
  refine zG 10 (.int .u8 ((s.getD k 0).toNat : Nat)) Y (AEq.of_eq (by rw [Int.toNat_zero, hg])) ?_
  refine zA Y Y Y hc ?_
  refine rn5 ?_
  refine zDA Y (fun h2 => ?_) (fun h2 => ?_)
  ·have h3 : dg (s.getD k 0) = false := by simpa using h2
   refine zHD ?_
   refine zE hR Y ?_
   rw [hof (.inr h3)]; rfl
  ·have h3 : dg (s.getD k 0) = true := by simpa using h2
   refine rn1 ?_
   refine zF (zB5 Y Y Y Y Y Y (by omega)) ?_
   refine rn5 ?_
   refine zM ⟨k + 1, ⟨by omega, ?_⟩, by omega, ⟨?_, Y, trivial⟩, Y⟩
   ·rw [zAJ s 0 k hk1, List.all_append, hd]; simp only [List.all_cons, List.all_nil, h3, Bool.and_true]
   ·show some (AV.str ((List.drop 1 (s.drop k)).take ((s.drop k).length - 1))) = _
    rw [List.drop_drop, List.take_of_length_le (by simp; omega)]
 ·have hk0 : s.length ≤ k := by omega
  refine rn5 ?_
  refine zE hR Y ?_
  rw [hof (.inl hk0)]; rfl
theorem trim_ok (s : List UInt8) (hs : s.length ≤ 9223372036854775807) : zN Tryz.prog 160 [.str s, .str digS] (.str (trL (trR s))) := by
 have h1 := set_ok
 have h2 := right_ok s hs
 have hle : (trR s).length ≤ s.length := by
  unfold trR
  rw [List.length_reverse]
  have := (List.dropWhile_sublist (p := dg) (l := s.reverse)).length_le
  simpa using this
 have h3 := left_ok (trR s) (by omega)
 refine zK.value0 (zC (P := Tryz.prog) (fn := Tryz.f160) Y Y (by kernel_rfl) Y (fun c hR hfix => ?_)) (fix := fun _ => False) (fun _ h => h) Y Y
 have hl := zA7 10
 refine rn6 ?_
 by_cases h0 : s = []
 ·subst h0
  refine rn6 ?_
  exact zE hR Y Y
 rw [show decide (s = _) = false from decide_eq_false h0]
 refine rn6 ?_
 refine zA Y Y Y h1 ?_
 refine rn4 ?_
 refine zA0 (c' := .box (zCU 10)) Y Y Y Y (zA7 10) Nat.zero_lt_one Y (zA7 10) (fun i' j' hi' hj' => ?_) ?_
 ·rw [if_pos (Nat.lt_one_iff.1 hi')]; rfl
 refine rn5 ?_
 have hrl : ∀ (h : Nat) (o : AObj), ([some ⟨286, .box (zCU 10)⟩] : zH)[h]? = some (some o) → zj o.c := refl1 (fun i j hi hj => by
  show noRef ((zCU 10).getD j .any) = true
  rw [List.getD, zGZ 10 j (by have : j < (zCU 10).length := hj; rwa [zA7] at this)]; rfl)
 refine zAu [some ⟨286, .box (zCU 10)⟩] Y ?_
 refine zFI rfl rfl rfl rfl h2 hrl ⟨trivial, fun o ho => by simp at ho; subst ho; exact Nat.zero_lt_one, trivial⟩ rfl rfl rfl ?_
 skip
 refine zFI rfl rfl rfl rfl h3 hrl ⟨trivial, fun o ho => by simp at ho; subst ho; exact Nat.zero_lt_one, trivial⟩ rfl rfl rfl ?_
 refine rn2 ?_
 exact zE hR Y Y
end Go.Proofs.YtkncmbklkhjmgaaGreatDoor
namespace Go.Proofs.YtkncmbklkhjmgaaGreatDoor
open Go.Ax Go.Ax.Bg Go.RowKit
open Go.Ax.Tb (zAa zBX zAd zAv)
attribute [local irreducible] Ax zAO QOp zK
theorem zLV {i : Nat} (h : i ≤ 9) : 10 ^ i ≤ 1000000000 := by
 have := Nat.pow_le_pow_right (show 0 < 10 by decide) h
 exact Nat.le_trans this (by decide)
theorem zGY (S : List UInt8) (hd : ∀ c ∈ S, zAa c) (hl : S.length ≤ 1000000) : zN Tryz.prog 80 [.str S] (zg (zAG 0 S)) := by
 refine zK.value0 (zC (P := Tryz.prog) (fn := Tryz.f80) Y Y (by kernel_rfl) Y (fun c hR hfix => ?_)) (fix := fun _ => False) (fun _ h => h) Y Y
 refine rn0 ?_
 refine zAS 3 (zg 0) Y AEq.natNil ?_
 refine zt ?_
 refine zY (ι := Nat × List UInt8) (fun p => [(0, .str p.2), (3, zg p.1)]) (fun _ => []) (fun p => p.2.length ≤ S.length ∧ (∀ c ∈ p.2, zAa c) ∧ zAG p.1 p.2 = zAG 0 S ∧ p.1 < 10 ^ (S.length - p.2.length)) (fun p => p.2.length) (0, S) ⟨⟨Y, Y, trivial⟩, Y, Nat.le_refl _, hd, Y, by simp⟩ ?_
 rintro ⟨v, s⟩ ⟨h1, h2, h3, h4⟩
 simp only at *
 refine rn6 ?_
 refine zB Y (fun h5 => ?_) (fun h5 => ?_)
 ·have hs0 : s ≠ [] := by rintro rfl; simp at h5
  obtain ⟨k, hk, hk1, hk9, hks⟩ : ∃ k : Nat, (if (9 : Int) < (s.length : Nat) then (9 : Int) else (s.length : Nat)) = (k : Int) ∧ 1 ≤ k ∧ k ≤ 9 ∧ k ≤ s.length := by
   have : 0 < s.length := List.length_pos_iff.2 hs0
   by_cases hz : (9 : Int) < (s.length : Nat)
   ·exact ⟨9, by rw [if_pos hz]; rfl, by omega, by omega, by omega⟩
   ·exact ⟨s.length, by rw [if_neg hz], by omega, by omega, Nat.le_refl _⟩
  have ht0 : s.take k ≠ [] := by
   intro e
   have := congrArg List.length e
   rw [List.length_take, Nat.min_eq_left hks] at this
   simp at this; omega
  have htl : (s.take k).length = k := by rw [List.length_take, Nat.min_eq_left hks]
  obtain ⟨hp, hplt⟩ := zG1 ht0 (fun c hc => h2 c (List.mem_of_mem_take hc)) (by omega)
  have hp32 := parse32 (s.take k) _ (by omega) hp
  have hdv : zAG (v * 10 ^ k + zAG 0 (s.take k)) (s.drop k) = zAG 0 S := by
   rw [← h3]
   conv => rhs; rw [← List.take_append_drop k s]
   rw [zEB, zEA (s.take k) v, htl]
  have hxlt := zFP (l := s.take k) (fun c hc => h2 c (List.mem_of_mem_take hc))
  rw [htl] at hxlt
  have hvn : v * 10 ^ k + zAG 0 (s.take k) < 10 ^ (S.length - (s.drop k).length) := by
   rw [List.length_drop, show S.length - (s.length - k) = (S.length - s.length) + k by omega, Nat.pow_add]
   have : (v + 1) * 10 ^ k ≤ 10 ^ (S.length - s.length) * 10 ^ k := Nat.mul_le_mul_right _ h4
   rw [Nat.add_mul] at this
   omega
  obtain ⟨x, hx⟩ : ∃ x, zAG 0 (s.take k) = x := ⟨_, rfl⟩
  rw [hx] at hplt hp32 hdv hvn
  have hvl : (zL v).length ≤ S.length - s.length := z8 (Nat.lt_of_lt_of_le h4 (Nat.pow_le_pow_left (by decide) _))
  have hma := zL5 (zL v) (10 ^ k) x (zo v) (by omega) (by have := zLV hk9; omega) (by omega)
  rw [zb] at hma
  refine zHC ?_
  rw [hk]
  refine zG 17 (.str (s.take k)) Y (AEq.of_eq (by
   show AV.str ((List.drop 0 s).take (k - 0)) = _
   rw [List.drop_zero, Nat.sub_zero])) ?_
  refine zA Y Y Y hp32 ?_
  refine rn2 ?_
  refine zY (ι := Nat) (fun i => [(0, .str s), (3, zg v), (4, .int .i64 (k : Nat)), (5, .int .u64 (x : Nat)), (7, .int .u32 (10 ^ i : Nat)), (21, .int .i64 (k : Nat)), (22, .int .i64 (i : Nat))]) (fun _ => []) (fun i => i ≤ k) (fun i => k - i) 0 ⟨⟨Y, Y, Y, Y, Y, Y, Y, trivial⟩, Y, Nat.zero_le _⟩ ?_
  rintro i hi
  refine rn4 ?_
  refine zB Y (fun h6 => ?_) (fun h6 => ?_)
  ·have hpw := zLV (show i + 1 ≤ 9 by omega)
   rw [Nat.pow_succ] at hpw
   refine rn1 ?_
   refine zF (zF3 (m := 10 ^ i) (n := 10) Y Y zC5 (by omega)) ?_
   refine rn5 ?_
   exact zM ⟨i + 1, by omega, by omega, ⟨Y, Y, Y, Y, Y, Y, Y, trivial⟩, Y⟩
  ·have hie : i = k := by omega
   subst hie
   refine rn5 ?_
   refine zF (zp (m := x) Y Y Y zC5 (by omega)) ?_
   refine zA Y Y Y hma ?_
   refine zHC ?_
   refine zM ⟨(v * 10 ^ i + x, s.drop i), ⟨by simp only [List.length_drop]; omega, fun c hc => h2 c (List.mem_of_mem_drop hc), hdv, hvn⟩, by simp only [List.length_drop]; omega, ⟨?_, Y, trivial⟩, Y⟩
   show some (AV.str ((List.drop i s).take (s.length - i))) = _
   rw [List.take_of_length_le (by simp)]
 ·have hs0 : s = [] := by
   rcases s with _ | ⟨x, r⟩
   ·rfl
   ·exact absurd (by simp) h5
  subst hs0
  refine rn5 ?_
  refine zE hR Y ?_
  rw [← h3]; rfl
theorem zMT : zN Tryz.prog 210 [zg 0] (.str (Lib.decDigits 0)) := by
 refine zK.value0 (zC (P := Tryz.prog) (fn := Tryz.f210) Y Y (by kernel_rfl) Y (fun c hR hfix => ?_)) (fix := fun _ => False) (fun _ h => h) Y Y
 have en : zg 0 = .ro (.ints .u32 []) 0 0 := by unfold zg; rw [zAf]; rfl
 rw [en]
 refine rn5 ?_
 refine zE hR Y ?_
 rw [Lib.decDigits_one (by decide)]; rfl
theorem zBn {n L : Nat} (h : (zL n).length ≤ L) (hL : 1 ≤ L) : (Lib.decDigits n).length ≤ 10 * L := by
 have h1 := zAE (zo n)
 rw [zb] at h1
 have h2 : B ^ (zL n).length ≤ B ^ L := Nat.pow_le_pow_right (by decide) h
 have h3 : B ^ L ≤ (10 ^ 10) ^ L := Nat.pow_le_pow_left (by decide) L
 rw [← Nat.pow_mul] at h3
 exact zBY (by omega) (by omega)
theorem zGb (n : Nat) (h : (zL n).length ≤ 1000000) : zN Tryz.prog 210 [zg n] (.str (Lib.decDigits n)) := by
 rcases Nat.eq_zero_or_pos n with h0 | h0
 ·subst h0; exact zMT
 have hdl := zBn h (by decide)
 have hn0 : 0 < (zL n).length := zA4.2 (by omega)
 refine zK.value0 (zC (P := Tryz.prog) (fn := Tryz.f210) Y Y (by kernel_rfl) Y (fun c hR hfix => ?_)) (fix := fun _ => False) (fun _ h => h) Y Y
 unfold zg
 refine rn4 ?_
 refine zB Y (fun q => absurd q (by omega)) (fun q => ?_)
 refine rn8 ?_
 refine zBN 3 ⟨9, .strs []⟩ Y Y ?_
 refine zt ?_
 refine zY (ι := Nat × List (List UInt8)) (fun p => [(0, zg p.1), (3, .sl 0 0 p.2.length)]) (fun p => [some ⟨9, .strs p.2⟩]) (fun p => (zL p.1).length ≤ 1000000 ∧ p.2.length ≤ p.2.reverse.flatten.length ∧ (if p.1 = 0 then Lib.decDigits n = p.2.reverse.flatten else Lib.decDigits n = Lib.decDigits p.1 ++ p.2.reverse.flatten)) (fun p => p.1) (n, [])
  ⟨⟨rfl, rfl, trivial⟩, rfl, h, by simp, by rw [if_neg (by simp only; omega)]; simp⟩ ?_
 rintro ⟨m, ps⟩ ⟨h1, h2, h3⟩
 simp only at *
 have hpos : 0 < (zL m).length ↔ m ≠ 0 := zA4
 have hds := zGF (zL m) 1000000000 (zo m) (by omega) (by decide)
 rw [zb] at hds
 have hflen : ps.reverse.flatten.length ≤ 10000000 := by
  have e : ps.reverse.flatten.length ≤ (Lib.decDigits n).length := by
   split at h3
   ·rw [h3]; exact Nat.le_refl _
   ·rw [h3, List.length_append]; omega
  omega
 have en : zg m = .ro (.ints .u32 (zL m)) 0 (zL m).length := rfl
 rw [en]
 refine rn6 ?_
 refine zB Y (fun h4 => ?_) (fun h4 => ?_)
 ·have hm0 : m ≠ 0 := hpos.1 (by omega)
  rw [if_neg hm0] at h3
  have hr : m % 1000000000 < 1000000000 := Nat.mod_lt _ (by decide)
  have hlt : m / 1000000000 < m := Nat.div_lt_self (by omega) (by decide)
  have hit := itoaN (m % 1000000000) (by omega)
  have hpos2 : 0 < (zL (m / 1000000000)).length ↔ m / 1000000000 ≠ 0 := zA4
  have hlen2 := zDK hlt h1
  have hrl : (Lib.decDigits (m % 1000000000)).length ≤ 9 := zBY (by decide) (by have e9 : (10 : Nat) ^ 9 = 1000000000 := by decide
                                                                                rw [e9]; exact hr)
  have hrp := repeat0 (9 - (Lib.decDigits (m % 1000000000)).length) (by omega)
  obtain ⟨t, ht0, htl, htp, htn⟩ : ∃ t : List UInt8, t ≠ [] ∧ t.length ≤ 9 ∧ (m / 1000000000 ≠ 0 → t = List.replicate (9 - (Lib.decDigits (m % 1000000000)).length) 48 ++ Lib.decDigits (m % 1000000000)) ∧ (m / 1000000000 = 0 → t = Lib.decDigits (m % 1000000000)) := by
   by_cases z : m / 1000000000 = 0
   ·exact ⟨_, zAv _, hrl, fun h => absurd z h, fun _ => rfl⟩
   ·refine ⟨_, ?_, ?_, fun _ => rfl, fun h => absurd h z⟩
    ·simp [zAv]
    ·simp; omega
  have hsplit : m / 1000000000 ≠ 0 → Lib.decDigits m = Lib.decDigits (m / 1000000000) ++ t := fun z => by
   have e9 : (10 : Nat) ^ 9 = 1000000000 := by decide
   have hs := zIU (n := m) (k := 9) (by decide) (by rw [e9]; omega)
   rw [e9] at hs
   rw [hs, htp z]; rfl
  have hone : m / 1000000000 = 0 → Lib.decDigits m = t := fun z => by
   rw [htn z]
   congr 1
   have := Nat.div_add_mod m 1000000000
   omega
  have hnew : (if m / 1000000000 = 0 then Lib.decDigits n = (ps ++ [t]).reverse.flatten else Lib.decDigits n = Lib.decDigits (m / 1000000000) ++ (ps ++ [t]).reverse.flatten) := by
   rw [List.reverse_append, List.reverse_singleton, List.singleton_append, List.flatten_cons]
   split
   ·rename_i z; rw [h3, hone z]
   ·rename_i z; rw [h3, hsplit z, List.append_assoc]
  obtain ⟨r, hrr⟩ : ∃ r, m % 1000000000 = r := ⟨_, rfl⟩
  obtain ⟨d, hdd⟩ : ∃ d, m / 1000000000 = d := ⟨_, rfl⟩
  simp only [hrr, hdd] at *
  refine rn1 ?_
  refine zA Y Y Y hds ?_
  refine rn2 ?_
  refine zF (zDa (m := r) Y Y Y (by omega)) ?_
  refine zA Y Y Y hit ?_
  have en2 : zg d = .ro (.ints .u32 (zL d)) 0 (zL d).length := rfl
  rw [en2]
  refine rn6 ?_
  apply zAD (H := [some ⟨9, .strs ps⟩]) [(0, zg d), (3, .sl 0 0 ps.length), (5, .str t)]
  ·intro fin
   refine zB Y (fun q2 => ?_) (fun q2 => ?_)
   ·have hd0 : d ≠ 0 := hpos2.1 (by omega)
    refine rn8 ?_
    refine zG 25 (.int .i64 (9 - (Lib.decDigits r).length : Nat)) Y (AEq.of_eq (by congr 1; omega)) ?_
    refine zA Y Y Y hrp ?_
    repeat (refine zF (zU rfl) ?_)
    refine zF (zAP Y Y (by simp; omega)) ?_
    refine zCN ?_
    exact fin _ ⟨Y, Y, by rw [htp hd0]; rfl, trivial⟩
   ·have hd0 : d = 0 := by
     rcases Nat.eq_zero_or_pos d with z | z
     ·exact z
     ·exact absurd (by have := hpos2.2 (by omega); omega) q2
    refine zCN ?_
    exact fin _ ⟨Y, Y, by rw [htn hd0]; rfl, trivial⟩
  refine rn3 ?_
  refine zS Y Y Y Y Y Y Y Y Y Y Y Y (Nat.le_refl 1) Y (by show (ps.length + 1) * 16 ≤ _ ∧ _; omega) (fun i j _ _ => rfl) (by rw [hfix]; exact fun h => h) ?_
  refine rn5 ?_
  refine zM ⟨(d, ps ++ [t]), ⟨hlen2, ?_, hnew⟩, hlt, ⟨Y, ?_, trivial⟩, Y⟩
  ·simp only [List.reverse_append, List.reverse_singleton, List.singleton_append, List.flatten_cons, List.length_append, List.length_singleton]
   have := List.length_pos_iff.2 ht0
   omega
  ·show some (AV.sl 0 0 (ps.length + 1)) = _
   simp
 ·have hm0 : m = 0 := by
   rcases Nat.eq_zero_or_pos m with q | q
   ·exact q
   ·exact absurd (by have := hpos.2 (by omega); omega) h4
  rw [if_pos hm0] at h3
  have hrv := zKi ps (by omega)
  have hjl : (Lib.join ps.reverse []).length ≤ 140737488355328 := by rw [zHx]; omega
  have hjn := join ps.reverse [] (by rw [List.length_reverse]; omega) hjl
  rw [zHx, ← h3, List.length_reverse] at hjn
  refine rn5 ?_
  refine zD6 (fix := fun h => h < 1) Y Y Y hrv (fun h hh => hh) (fun h hh => hh) ?_
  rintro r H rfl
  refine rn0 ?_
  refine zCB 0 35 ps.length [] Y zDu Y (by show _ ≤ ps.reverse.length; simp) trivial ?_
  refine zA Y Y Y hjn ?_
  refine rn0 ?_
  exact zE hR Y Y
end Go.Proofs.YtkncmbklkhjmgaaGreatDoor
namespace Go.Ax.Idx
/-- The place of the first element with a property, or -1. -/
def zCK {α : Type} (p : α → Bool) : List α → Int
 | [] => -1
 | x :: r => if p x then 0 else if zCK p r < 0 then -1 else zCK p r + 1
theorem zJA {α : Type} (p : α → Bool) (l : List α) (h : zCK p l < 0) : zCK p l = -1 := by
 cases l with
 | nil => rfl
 | cons x r =>
  simp only [zCK] at h ⊢
  by_cases h1 : p x = true
  ·simp [h1] at h
  ·by_cases h2 : zCK p r < 0
   ·simp [h1, h2]
   ·simp only [h1, h2, if_false, Bool.false_eq_true] at h
    omega
theorem zBA {α : Type} (p : α → Bool) (l : List α) (k : Nat) (h : (l.take k).any p = false) (hk : k ≤ l.length) : zCK p l = if zCK p (l.drop k) < 0 then -1 else zCK p (l.drop k) + k := by
 induction k generalizing l with
 | zero =>
  simp only [List.drop_zero]
  split
  ·exact zJA p l (by assumption)
  ·omega
 | succ k ih => cases l with
  | nil => simp at hk
  | cons x r =>
   simp only [List.take_succ_cons, List.any_cons, Bool.or_eq_false_iff] at h
   have := ih r h.2 (by simpa using hk)
   simp only [zCK, h.1, List.drop_succ_cons, Bool.false_eq_true, if_false]
   rw [this]
   split <;> split <;> omega
theorem zEJ {α : Type} (p : α → Bool) (l : List α) : decide (0 ≤ zCK p l) = l.any p := by
 induction l with
 | nil => rfl
 | cons x r ih =>
  simp only [zCK, List.any_cons]
  by_cases h1 : p x = true
  ·simp [h1]
  ·simp only [Bool.not_eq_true] at h1
   simp only [h1, Bool.false_eq_true, if_false, Bool.false_or]
   rw [← ih]
   by_cases h2 : zCK p r < 0
   ·rw [if_pos h2]; simp; omega
   ·rw [if_neg h2]; congr 1; simp; omega
theorem getD_set {l : List Int} {i j : Nat} {v : Int} (hi : i < l.length) : (l.set i v).getD j 0 = if j = i then v else l.getD j 0 := by
 by_cases h : j = i
 ·subst h; simp [List.getD, hi]
 ·simp only [List.getD, h, if_false]
  rw [List.getElem?_set_ne (fun e => h e.symm)]
/-- One less of kind i. -/
def less (l : List Int) (i : Nat) : List Int := l.set i (l.getD i 0 - 1)
end Go.Ax.Idx
namespace Go.Ax.Cd
open Go.Ax.Idx
end Go.Ax.Cd
namespace Go.Ax.Cd
open Go.Ax.Idx
end Go.Ax.Cd
namespace Go.Ax.Cd
open Go.Ax.Idx
end Go.Ax.Cd
namespace Go.Proofs.YtkncmbklkhjmgaaGreatDoor
open Go.Ax Go.Ax.Idx Go.Ax.Cd
attribute [local irreducible] Ax zAO QOp zK
theorem zIX (a b : List Int) (hlen : a.length ≤ 9223372036854775807) (hlb : b.length ≤ 9223372036854775807) : zN Tryz.prog 56 [.ro (.ints .i64 a) 0 a.length, .ro (.ints .i64 b) 0 b.length] (.bool (decide (a = b))) := by
 refine zK.value0 (zC (P := Tryz.prog) (fn := Tryz.f56) Y Y (by kernel_rfl) Y (fun c hR hfix => ?_)) (fix := fun _ => False) (fun _ h => h) Y Y
 refine rn3 ?_
 refine zB Y (fun h => ?_) (fun h => ?_)
 ·refine rn2 ?_
  refine zE hR Y ?_
  have : ¬ a = b := by rintro rfl; exact h rfl
  simp [zAX, this]
 have hab : a.length = b.length := by omega
 refine rn3 ?_
 refine zY (ι := Nat) (fun k => [(0, .ro (.ints .i64 a) 0 a.length), (1, .ro (.ints .i64 b) 0 b.length), (12, .int .i64 (a.length : Nat)), (13, .int .i64 (k : Nat))]) (fun _ => [])
  (fun k => k ≤ a.length ∧ a.take k = b.take k) (fun k => a.length - k) 0 ⟨⟨rfl, rfl, rfl, rfl, trivial⟩, rfl, Nat.zero_le _, rfl⟩ ?_
 intro k ⟨hk, heq⟩
 refine rn4 ?_
 refine zB Y (fun h2 => ?_) (fun h2 => ?_)
 ·have hk' : k < a.length := by omega
  have ha := zAJ a 0 k hk'
  have hb := zAJ b 0 k (by omega)
  refine rn1 ?_
  refine zBy (by kernel_rfl) (by kernel_rfl) Y ?_
  refine rn6 ?_
  refine zB Y (fun h3 => ?_) (fun h3 => ?_)
  ·refine rn6 ?_
   refine zE hR Y ?_
   have : ¬ a = b := by rintro rfl; exact h3 rfl
   simp [zAX, this]
  ·refine rn5 ?_
   have h4 : a.getD k 0 = b.getD k 0 := by omega
   exact zM ⟨k + 1, ⟨by omega, by rw [ha, hb, heq, h4]⟩, by omega, ⟨Y, Y, Y, Y, trivial⟩, Y⟩
 ·have hk' : k = a.length := by omega
  subst hk'
  rw [List.take_length, hab, List.take_length] at heq
  refine rn5 ?_
  refine zE hR Y ?_
  simp [zAX, heq]
theorem zKD (l : List Int) (g : FuncId) (caps : List AV) (p : Int → Bool) (hc : noRef.noRefs caps = true) (hlen : l.length ≤ 9223372036854775807) (hp : ∀ x ∈ l, zN Tryz.prog g ([.int .i64 x] ++ caps) (.bool (p x))) :
 zN Tryz.prog 185 [.ro (.ints .i64 l) 0 l.length, .fn g caps] (.int .i64 (zCK p l)) := by
 refine zK.value0 (zC (P := Tryz.prog) (fn := Tryz.f185) Y Y (by kernel_rfl) Y (fun c hR hfix => ?_)) (fix := fun _ => False) (fun _ h => h) (by simp [noRef.noRefs, noRef, hc]) Y
 refine rn3 ?_
 refine zY (ι := Nat) (fun k => [(0, .ro (.ints .i64 l) 0 l.length), (1, .fn g caps), (7, .int .i64 (l.length : Nat)), (8, .int .i64 (k : Nat))]) (fun _ => [])
  (fun k => k ≤ l.length ∧ (l.take k).any p = false) (fun k => l.length - k) 0 ⟨⟨rfl, rfl, rfl, rfl, trivial⟩, rfl, Nat.zero_le _, rfl⟩ ?_
 intro k ⟨hk, hany⟩
 refine rn4 ?_
 refine zB Y (fun h => ?_) (fun h => ?_)
 ·have hk' : k < l.length := by omega
  have hanys := zBV p l 0 k hk'
  refine rn6 ?_
  refine zA Y Y Y (hp _ (zAx 0 hk')) ?_
  refine rn0 ?_
  refine zDA Y (fun h2 => ?_) (fun h2 => ?_)
  ·refine rn6 ?_
   refine zE hR Y ?_
   have := zBA p l k hany hk
   rw [zA9 l 0 k hk'] at this
   simp only [zCK, h2, if_true] at this
   rw [this]; simp [zAX]
  ·refine rn5 ?_
   refine zM ⟨k + 1, ⟨by omega, by rw [hanys, hany, h2]; rfl⟩, by omega, ⟨Y, Y, Y, Y, trivial⟩, Y⟩
 ·have hk' : k = l.length := by omega
  subst hk'
  refine rn5 ?_
  refine zE hR Y ?_
  have := zBA p l l.length hany hk
  rw [List.drop_length] at this
  rw [this]; rfl
theorem zHj (l : List Int) (g : FuncId) (caps : List AV) (p : Int → Bool) (hc : noRef.noRefs caps = true) (hlen : l.length ≤ 9223372036854775807) (hp : ∀ x ∈ l, zN Tryz.prog g ([.int .i64 x] ++ caps) (.bool (p x))) :
 zN Tryz.prog 109 [.ro (.ints .i64 l) 0 l.length, .fn g caps] (.bool (l.any p)) := by
 refine zK.value0 (zC (P := Tryz.prog) (fn := Tryz.f109) Y Y (by kernel_rfl) Y (fun c hR hfix => ?_)) (fix := fun _ => False) (fun _ h => h) (by simp [noRef.noRefs, noRef, hc]) Y
 refine rn0 ?_
 refine zA Y Y Y (zKD l g caps p hc hlen hp) ?_
 refine rn8 ?_
 refine zE hR Y ?_
 simp only [zAX, zEJ]
theorem zKC (l : List Int) (g : FuncId) (caps : List AV) (p : Int → Bool) (hc : noRef.noRefs caps = true) (hlen : l.length ≤ 9223372036854775807) (hp : ∀ x ∈ l, zN Tryz.prog g ([.int .i64 x] ++ caps) (.bool (p x))) :
 zN Tryz.prog 156 [.ro (.ints .i64 l) 0 l.length, .fn g caps] (.int .i64 (zCK p l)) := by
 refine zK.value0 (zC (P := Tryz.prog) (fn := Tryz.f156) Y Y (by kernel_rfl) Y (fun c hR hfix => ?_)) (fix := fun _ => False) (fun _ h => h) (by simp [noRef.noRefs, noRef, hc]) Y
 refine rn3 ?_
 refine zY (ι := Nat) (fun k => [(0, .ro (.ints .i64 l) 0 l.length), (1, .fn g caps), (7, .int .i64 (l.length : Nat)), (8, .int .i64 (k : Nat))]) (fun _ => [])
  (fun k => k ≤ l.length ∧ (l.take k).any p = false) (fun k => l.length - k) 0 ⟨⟨rfl, rfl, rfl, rfl, trivial⟩, rfl, Nat.zero_le _, rfl⟩ ?_
 intro k ⟨hk, hany⟩
 refine rn4 ?_
 refine zB Y (fun h => ?_) (fun h => ?_)
 ·have hk' : k < l.length := by omega
  have hanys := zBV p l 0 k hk'
  refine rn6 ?_
  refine zA Y Y Y (hp _ (zAx 0 hk')) ?_
  refine rn0 ?_
  refine zDA Y (fun h2 => ?_) (fun h2 => ?_)
  ·refine rn6 ?_
   refine zE hR Y ?_
   have := zBA p l k hany hk
   rw [zA9 l 0 k hk'] at this
   simp only [zCK, h2, if_true] at this
   rw [this]; simp [zAX]
  ·refine rn5 ?_
   refine zM ⟨k + 1, ⟨by omega, by rw [hanys, hany, h2]; rfl⟩, by omega, ⟨Y, Y, Y, Y, trivial⟩, Y⟩
 ·have hk' : k = l.length := by omega
  subst hk'
  refine rn5 ?_
  refine zE hR Y ?_
  have := zBA p l l.length hany hk
  rw [List.drop_length] at this
  rw [this]; rfl
theorem zLr (l : List Int) (g : FuncId) (caps : List AV) (p : Int → Bool) (hc : noRef.noRefs caps = true) (hlen : l.length ≤ 9223372036854775807) (hp : ∀ x ∈ l, zN Tryz.prog g ([.int .i64 x] ++ caps) (.bool (p x))) :
 zN Tryz.prog 74 [.ro (.ints .i64 l) 0 l.length, .fn g caps] (.bool (l.any p)) := by
 refine zK.value0 (zC (P := Tryz.prog) (fn := Tryz.f74) Y Y (by kernel_rfl) Y (fun c hR hfix => ?_)) (fix := fun _ => False) (fun _ h => h) (by simp [noRef.noRefs, noRef, hc]) Y
 refine rn0 ?_
 refine zA Y Y Y (zKC l g caps p hc hlen hp) ?_
 refine rn8 ?_
 refine zE hR Y ?_
 simp only [zAX, zEJ]
def notOk (e : Int) : Bool := decide (e ≠ 0)
theorem fine1 (n : Int) : zN Tryz.prog 75 [.int .i64 n] (.bool (notOk n)) := by
 refine zK.value0 (zC (P := Tryz.prog) (fn := Tryz.f75) Y Y (by kernel_rfl) Y (fun c hR hfix => ?_)) (fix := fun _ => False) (fun _ h => h) Y Y
 refine rn3 ?_
 refine zE hR Y ?_
 simp [zAX, notOk]
theorem fineI (l : List Int) (hlen : l.length ≤ 1000) : zN Tryz.prog 25 [.ro (.ints .i64 l) 0 l.length] (.bool (!(l.any notOk))) := by
 refine zK.value0 (zC (P := Tryz.prog) (fn := Tryz.f25) Y Y (by kernel_rfl) Y (fun c hR hfix => ?_)) (fix := fun _ => False) (fun _ h => h) Y Y
 refine rn0 ?_
 refine zA Y Y Y (zLr l 75 [] notOk Y (by omega) (fun x _ => fine1 x)) ?_
 refine rn5 ?_
 exact zE hR Y Y
end Go.Proofs.YtkncmbklkhjmgaaGreatDoor
namespace Go.Ax.Bg
open Go.Ax.Tb (zAa)
def zDH (s : List UInt8) : Bool := decide (s ≠ []) && s.all dg && (decide (s.getD 0 0 ≠ 48) || decide (s.length = 1))
theorem zCk {s : List UInt8} : zDH s = true ↔ zD3 s := by
 unfold zDH zD3
 simp only [Bool.and_eq_true, Bool.or_eq_true, decide_eq_true_eq, List.all_eq_true, dg_iff]
 constructor
 ·rintro ⟨⟨h1, h2⟩, h3⟩; exact ⟨h1, h2, h3⟩
 ·rintro ⟨h1, h2, h3⟩; exact ⟨⟨h1, h2⟩, h3⟩
def natE (s : List UInt8) : Int := if zDH s = false then 5 else if 2000 < s.length then 2 else 0
theorem zGc {s : List UInt8} (h : zD3 s) {k : Nat} (hl : s.length ≤ k) : (zL (zAG 0 s)).length ≤ k := by
 refine z8 (Nat.lt_of_lt_of_le (zFP h.2.1) ?_)
 exact Nat.le_trans (Nat.pow_le_pow_right (by decide) hl) (Nat.pow_le_pow_left (by decide) k)
end Go.Ax.Bg
namespace Go.Proofs.YtkncmbklkhjmgaaGreatDoor
open Go.Ax Go.Ax.Bg Go.RowKit
open Go.Ax.Tb (zAa zBX zAd zAv)
attribute [local irreducible] Ax zAO QOp zK
theorem zHl (s : List UInt8) (hs : s.length ≤ 9223372036854775807) : zN Tryz.prog 79 [.str s] (.bool (zDH s)) := by
 have ht := trim_ok s hs
 have hn := trR_nil (s := s)
 have hc : zDH s = (decide (s ≠ []) && s.all dg && (decide (s.getD 0 0 ≠ 48) || decide (s.length = 1))) := rfl
 refine zK.value0 (zC (P := Tryz.prog) (fn := Tryz.f79) Y Y (by kernel_rfl) Y (fun c hR hfix => ?_)) (fix := fun _ => False) (fun _ h => h) Y Y
 generalize trL (trR s) = u at *
 generalize zDH s = b at *
 by_cases h0 : s = []
 ·subst h0
  refine rn16 ?_
  refine zE hR Y ?_
  rw [hc]; rfl
 have hlen : 0 < s.length := List.length_pos_iff.2 h0
 refine rn8 ?_
 refine zW Y Y (fun h1 => ?_) (fun h1 => absurd h0 h1)
 refine rn2 ?_
 refine zA Y Y Y ht ?_
 refine rn6 ?_
 refine zW Y Y (fun h2 => ?_) (fun h2 => ?_)
 ·have ha : s.all dg = true := hn.1 h2
  rw [decide_eq_true h0, ha, Bool.true_and, Bool.true_and] at hc
  refine rn19 ?_
  refine zW Y Y (fun h3 => ?_) (fun h3 => ?_)
  ·have h4 : decide (s.getD 0 0 ≠ 48) = true := decide_eq_true (fun e => h3 (by simp only [Int.toNat_zero]; rw [e]; rfl))
   rw [h4, Bool.true_or] at hc
   refine rn6 ?_
   refine zE hR Y ?_
   rw [hc]; rfl
  ·have h5 : s.getD 0 0 = 48 := by
    simp only [Int.toNat_zero] at h3
    apply UInt8.toNat_inj.1
    have : ((s.getD 0 0).toNat : Int) = 48 := by omega
    show (s.getD 0 0).toNat = 48
    omega
   have h4 : decide (s.getD 0 0 ≠ 48) = false := decide_eq_false (fun e => e h5)
   rw [h4, Bool.false_or] at hc
   refine rn6 ?_
   refine zE hR Y ?_
   rw [hc]
   show AV.bool (decide ((s.length : Int) = 1)) = _
   congr 1
   rw [decide_eq_decide]; omega
 ·have ha : s.all dg = false := by
   cases hq : s.all dg with
   | false => rfl
   | true => exact absurd (hn.2 hq) h2
  rw [ha, Bool.and_false, Bool.false_and] at hc
  refine zHD ?_
  refine zE hR Y ?_
  rw [hc]; rfl
theorem zGV {a b k : Nat} (ha : (zL a).length ≤ k) (hb : (zL b).length ≤ k) : (zL (a * b)).length ≤ k + k := by
 have h1 := zAE (zo a)
 have h2 := zAE (zo b)
 rw [zb] at h1 h2
 refine z8 ?_
 rw [Nat.pow_add]
 refine Nat.mul_lt_mul'' (Nat.lt_of_lt_of_le h1 (Nat.pow_le_pow_right (by decide) ha)) (Nat.lt_of_lt_of_le h2 (Nat.pow_le_pow_right (by decide) hb))
theorem len_add {a b k : Nat} (ha : (zL a).length ≤ k) (hb : (zL b).length ≤ k) : (zL (a + b)).length ≤ k + 1 := by
 have h1 := zAE (zo a)
 have h2 := zAE (zo b)
 rw [zb] at h1 h2
 refine z8 ?_
 have h3 : B ^ (zL a).length ≤ B ^ k := Nat.pow_le_pow_right (by decide) ha
 have h4 : B ^ (zL b).length ≤ B ^ k := Nat.pow_le_pow_right (by decide) hb
 rw [Nat.pow_succ]
 have : B ^ k * 2 ≤ B ^ k * B := Nat.mul_le_mul_left _ (by decide)
 omega
end Go.Proofs.YtkncmbklkhjmgaaGreatDoor
namespace Go.Ax.Rt
open Go.Ax.Bg
/-- The quotient of integers, its parts. -/
theorem zFU (n : Int) (d : Nat) (hd : d ≠ 0) : (Rat.divInt n d).num.natAbs = n.natAbs / Nat.gcd n.natAbs d ∧ (Rat.divInt n d).den = d / Nat.gcd n.natAbs d ∧ ((Rat.divInt n d).num < 0 ↔ n < 0) := by
 have e : Rat.divInt n d = Rat.normalize n d hd := by rw [Rat.divInt_ofNat, ← Rat.normalize_eq_mkRat]
 have hg : 0 < Nat.gcd n.natAbs d := Nat.gcd_pos_of_pos_right _ (by omega)
 have hdv : (Nat.gcd n.natAbs d : Int) ∣ n := by
  rw [Int.ofNat_dvd_left]; exact Nat.gcd_dvd_left _ _
 rw [e, Rat.num_normalize, Rat.den_normalize]
 obtain ⟨q, hq⟩ := hdv
 generalize Nat.gcd n.natAbs d = g at *
 refine ⟨?_, Y, ?_⟩
 ·rw [hq, Int.mul_ediv_cancel_left _ (by omega), Int.natAbs_mul, Int.natAbs_natCast, Nat.mul_div_cancel_left _ hg]
 ·rw [hq, Int.mul_ediv_cancel_left _ (by omega)]
  constructor
  ·intro h; exact Int.mul_neg_of_pos_of_neg (by omega) h
  ·intro h
   rcases Int.lt_or_le q 0 with z | z
   ·exact z
   ·exact absurd h (Int.not_lt.2 (Int.mul_nonneg (by omega) z))
theorem zGt (n d : Int) (hd : d ≠ 0) : (Rat.divInt n d).num.natAbs = n.natAbs / Nat.gcd n.natAbs d.natAbs ∧ (Rat.divInt n d).den = d.natAbs / Nat.gcd n.natAbs d.natAbs ∧ ((Rat.divInt n d).num < 0 ↔ n ≠ 0 ∧ ((n < 0 ∧ ¬ d < 0) ∨ (¬ n < 0 ∧ d < 0))) := by
 rcases Int.lt_or_le d 0 with h | h
 ·obtain ⟨m, rfl⟩ : ∃ m : Nat, d = -(m : Int) := ⟨d.natAbs, by omega⟩
  have e : Rat.divInt n (-(m : Int)) = Rat.divInt (-n) m := Rat.divInt_neg' n m
  obtain ⟨h1, h2, h3⟩ := zFU (-n) m (by omega)
  rw [e]
  rw [Int.natAbs_neg] at h1 h2
  rw [Int.natAbs_neg, Int.natAbs_natCast]
  exact ⟨h1, h2, h3.trans (by omega)⟩
 ·obtain ⟨m, rfl⟩ : ∃ m : Nat, d = (m : Int) := ⟨d.natAbs, by omega⟩
  obtain ⟨h1, h2, h3⟩ := zFU n m (by omega)
  rw [Int.natAbs_natCast]
  exact ⟨h1, h2, h3.trans (by omega)⟩
theorem zIl (p q : Rat) : Rat.divInt (p.num * q.den + q.num * p.den) ((p.den * q.den : Nat) : Int) = p + q := by
 rw [Rat.add_def', Rat.divInt_ofNat]
theorem mul_frac (p q : Rat) : Rat.divInt (p.num * q.num) ((p.den * q.den : Nat) : Int) = p * q := by
 rw [Rat.mul_def', Rat.divInt_ofNat]
def sgn (x : Int) : Int := if x < 0 then -1 else if x = 0 then 0 else 1
def cmpQ (p q : Rat) : Int := if p < q then -1 else if p = q then 0 else 1
theorem sgn_cmp (p q : Rat) : sgn (p.num * q.den - q.num * p.den) = cmpQ p q := by
 unfold sgn cmpQ
 have h1 : p < q ↔ p.num * q.den - q.num * p.den < 0 := by rw [Rat.lt_iff]; omega
 have h2 : p = q ↔ p.num * q.den - q.num * p.den = 0 := by rw [Rat.eq_iff_mul_eq_mul]; omega
 simp only [h1, h2]
def zDM (b : Bool) (n : Nat) : Int := if b then -(n : Int) else n
theorem zC3 (b : Bool) (n : Nat) : (zDM b n).natAbs = n := by unfold zDM; split <;> omega
theorem zHG (b : Bool) (n : Nat) : decide (zDM b n < 0) = (b && decide (n ≠ 0)) := by
 unfold zDM
 cases b
 ·simp <;> try omega
 ·simp only [if_true, Bool.true_and]
  rw [decide_eq_decide]; omega
end Go.Ax.Rt
namespace Go.Proofs.YtkncmbklkhjmgaaGreatDoor
open Go.Ax Go.Ax.Bg Go.Ax.Rt Go.RowKit
attribute [local irreducible] Ax zAO QOp zK zAN
def zBC (x : Int) : AV := .agg [.bool (decide (x < 0)), zg x.natAbs]
theorem zDm (b : Bool) (n : Nat) : zN Tryz.prog 153 [.bool b, zg n] (zBC (zDM b n)) := by
 have hp : 0 < (zL n).length ↔ n ≠ 0 := zA4
 have hr : zBC (zDM b n) = .agg [.bool (b && decide (n ≠ 0)), zg n] := by unfold zBC; rw [zC3, zHG]
 rw [hr]
 refine zK.value0 (zC (P := Tryz.prog) (fn := Tryz.f153) Y Y (by kernel_rfl) Y (fun c hR hfix => ?_)) (fix := fun _ => False) (fun _ h => h) Y Y
 unfold zg at hR ⊢
 cases b
 ·refine zHD ?_
  refine sa1 (c' := .box [.bool false, .ro (.ints .u32 (zL n)) 0 (zL n).length]) Y Y Y Y Y Y Y ?_
  refine rn0 ?_
  exact zE hR Y Y
 ·refine zHD ?_
  have e : decide (0 < ((zL n).length : Int)) = decide (n ≠ 0) := by rw [decide_eq_decide, ← hp]; omega
  refine zA0 (c' := .box [.bool (decide (n ≠ 0)), .ro (.ints .u32 (zL n)) 0 (zL n).length]) Y Y Y Y Y Nat.zero_lt_one Y Y (fun i' j' hi' hj' => ?_) ?_
  ·rw [if_pos (Nat.lt_one_iff.1 hi'), ← e]; rfl
  refine rn0 ?_
  exact zE hR Y Y
theorem mul_sgn (x y : Int) : zDM (!(decide (x < 0) == decide (y < 0))) (x.natAbs * y.natAbs) = x * y := by
 have h : (x * y).natAbs = x.natAbs * y.natAbs := Int.natAbs_mul x y
 unfold zDM
 rcases Int.lt_trichotomy x 0 with hx | hx | hx <;> rcases Int.lt_trichotomy y 0 with hy | hy | hy
 ·have := Int.mul_pos_of_neg_of_neg hx hy
  simp only [hx, hy]; simp; omega
 ·subst hy; simp
 ·have := Int.mul_neg_of_neg_of_pos hx hy
  simp only [hx, show ¬ y < 0 by omega]; simp; omega
 ·subst hx; simp
 ·subst hx; simp
 ·subst hx; simp
 ·have := Int.mul_neg_of_pos_of_neg hx hy
  simp only [hy, show ¬ x < 0 by omega]; simp; omega
 ·subst hy; simp
 ·have := Int.mul_pos hx hy
  simp only [show ¬ x < 0 by omega, show ¬ y < 0 by omega]; simp; omega
theorem zFV (x y : Int) (hx : (zL x.natAbs).length ≤ 1000000) (hy : (zL y.natAbs).length ≤ 1000000) : zN Tryz.prog 154 [zBC x, zBC y] (zBC (x * y)) := by
 have h1 := zKK x.natAbs y.natAbs (by omega) (by omega)
 have h2 := zDm (!(decide (x < 0) == decide (y < 0))) (x.natAbs * y.natAbs)
 rw [mul_sgn] at h2
 refine zK.value0 (zC (P := Tryz.prog) (fn := Tryz.f154) Y Y (by kernel_rfl) Y (fun c hR hfix => ?_)) (fix := fun _ => False) (fun _ h => h) Y Y
 refine rn6 ?_
 refine zz (by kernel_rfl) ?_
 refine zAY (fuel := 1) [0, 1, 2, 3, 4, 5, 6, 7, 8, 9, 10] [(2, .ptr 0 0 0), (3, .ptr 1 0 0), (4, .ptr 2 0 0)] ⟨Y, Y, Y, trivial⟩ (by kernel_rfl) (by decide) Y Y ?_
 refine zn Y Y (zJ Y Y Y Y Y Y) ?_
 refine zn Y Y (zR Y Y Y Y Y) ?_
 refine zn Y Y (zJ Y Y Y Y Y Y) ?_
 refine zn Y Y (zR Y Y Y Y Y) ?_
 refine zn Y Y (zIA Y Y Y) ?_
 refine zn Y Y (zJ Y Y Y Y Y Y) ?_
 refine zn Y Y (zR Y Y Y Y Y) ?_
 refine zn Y Y (zJ Y Y Y Y Y Y) ?_
 refine zn Y Y (zR Y Y Y Y Y) ?_
 refine zBs Y Y Y Y Y h1 ?_
 refine zBs Y Y Y Y Y h2 ?_
 refine zBR ?_
 refine zD (is := [11]) (by kernel_rfl) (by simp) Y ⟨fun o ho => ?_, trivial⟩
 all_goals (cases ho)
 skip
 unfold zBC zg
 refine sa1 (c' := .box [.bool (decide (x * y < 0)), .ro (.ints .u32 (zL (x * y).natAbs)) 0 (zL (x * y).natAbs).length]) Y Y Y Y Y Y Y ?_
 refine rn1 ?_
 refine zr (by kernel_rfl) ?_
 refine rn0 ?_
 exact zE hR Y Y
theorem opp_sgn (x : Int) : zDM (!decide (x < 0)) x.natAbs = -x := by
 unfold zDM
 by_cases h : x < 0
 ·simp [h]; omega
 ·simp [h]; omega
theorem iopp_ok (x : Int) : zN Tryz.prog 164 [zBC x] (zBC (-x)) := by
 have h2 := zDm (!decide (x < 0)) x.natAbs
 rw [opp_sgn] at h2
 refine zK.value0 (zC (P := Tryz.prog) (fn := Tryz.f164) Y Y (by kernel_rfl) Y (fun c hR hfix => ?_)) (fix := fun _ => False) (fun _ h => h) Y Y
 refine rn6 ?_
 refine zA Y Y Y h2 ?_
 skip
 unfold zBC
 refine sa1 (c' := .box [.bool (decide (-x < 0)), zg (-x).natAbs]) Y Y Y Y Y Y Y ?_
 refine rn0 ?_
 exact zE hR Y Y
theorem isign_ok (x : Int) : zN Tryz.prog 157 [zBC x] (.int .i64 (sgn x)) := by
 have hp : 0 < (zL x.natAbs).length ↔ x.natAbs ≠ 0 := zA4
 unfold sgn
 refine zK.value0 (zC (P := Tryz.prog) (fn := Tryz.f157) Y Y (by kernel_rfl) Y (fun c hR hfix => ?_)) (fix := fun _ => False) (fun _ h => h) Y Y
 unfold zBC zg
 rcases Int.lt_trichotomy x 0 with h | h | h
 ·have e : decide (x < 0) = true := decide_eq_true h
  rw [e]
  rw [if_pos h] at hR
  refine rn6 ?_
  refine zB Y (fun h0 => absurd h0 (by omega)) (fun h0 => ?_)
  refine rn6 ?_
  exact zE hR Y Y
 ·subst h
  rw [if_neg (by omega), if_pos rfl] at hR
  have e0 : zL (0 : Int).natAbs = [] := zAf
  rw [e0]
  refine rn6 ?_
  exact zE hR Y Y
 ·have e : decide (x < 0) = false := decide_eq_false (by omega)
  rw [e]
  rw [if_neg (by omega), if_neg (by omega)] at hR
  refine rn6 ?_
  refine zB Y (fun h0 => absurd h0 (by omega)) (fun h0 => ?_)
  refine rn5 ?_
  exact zE hR Y Y
theorem add_sgn1 (x y : Int) (h : decide (x < 0) = decide (y < 0)) : zDM (decide (x < 0)) (x.natAbs + y.natAbs) = x + y := by
 unfold zDM
 rw [decide_eq_decide] at h
 by_cases h1 : x < 0
 ·simp [h1]; omega
 ·simp [h1]; omega
theorem add_sgn2 (x y : Int) (h : ¬ decide (x < 0) = decide (y < 0)) (h2 : y.natAbs ≤ x.natAbs) : zDM (decide (x < 0)) (x.natAbs - y.natAbs) = x + y := by
 unfold zDM
 rw [decide_eq_decide] at h
 by_cases h1 : x < 0
 ·simp [h1]; omega
 ·simp [h1]; omega
theorem add_sgn3 (x y : Int) (h : ¬ decide (x < 0) = decide (y < 0)) (h2 : ¬ y.natAbs ≤ x.natAbs) : zDM (decide (y < 0)) (y.natAbs - x.natAbs) = x + y := by
 unfold zDM
 rw [decide_eq_decide] at h
 by_cases h1 : y < 0
 ·simp [h1]; omega
 ·simp [h1]; omega
theorem zK0 {x y : Int} : 0 ≤ zCG x y ↔ y ≤ x := by
 unfold zCG
 split
 ·omega
 ·split <;> omega
theorem zLF (x y : Int) (hx : (zL x.natAbs).length ≤ 1000000) (hy : (zL y.natAbs).length ≤ 1000000) : zN Tryz.prog 197 [zBC x, zBC y] (zBC (x + y)) := by
 by_cases h : decide (x < 0) = decide (y < 0)
 ·have h1 := add_ok x.natAbs y.natAbs (by omega) (by omega)
  have h2 := zDm (decide (x < 0)) (x.natAbs + y.natAbs)
  rw [add_sgn1 x y h] at h2
  refine zK.value0 (zC (P := Tryz.prog) (fn := Tryz.f197) Y Y (by kernel_rfl) Y (fun c hR hfix => ?_)) (fix := fun _ => False) (fun _ h => h) Y Y
  unfold zBC at hR ⊢
  repeat (first | refine zV ?_ | refine zO ?_ | refine zAA ?_ | refine zZ rfl ?_ | refine zF (zR rfl rfl rfl rfl rfl) ?_ | refine zF (zJ rfl rfl rfl rfl rfl rfl) ?_ | refine zF (zG4 rfl rfl rfl) ?_ | refine zEv rfl rfl ?_ | refine zAh rfl rfl rfl ?_)
  refine zAS 9 (.bool true) Y (AEq.of_eq (by rw [h]; simp)) ?_
  refine rn5 ?_
  refine zz (by kernel_rfl) ?_
  refine zAY (fuel := 1) [0, 1, 2, 3, 4, 5, 6, 7] [(2, .ptr 0 0 0), (3, .ptr 1 0 0), (4, .ptr 2 0 0)] ⟨Y, Y, Y, trivial⟩ (by kernel_rfl) (by decide) Y Y ?_
  refine zn Y Y (zJ Y Y Y Y Y Y) ?_
  refine zn Y Y (zR Y Y Y Y Y) ?_
  refine zn Y Y (zJ Y Y Y Y Y Y) ?_
  refine zn Y Y (zR Y Y Y Y Y) ?_
  refine zn Y Y (zJ Y Y Y Y Y Y) ?_
  refine zn Y Y (zR Y Y Y Y Y) ?_
  refine zBs Y Y Y Y Y h1 ?_
  refine zBs Y Y Y Y Y h2 ?_
  refine zBR ?_
  refine zD (is := [8]) (by kernel_rfl) (by simp) Y ⟨fun o ho => ?_, trivial⟩
  all_goals (cases ho)
  skip
  unfold zBC
  refine sa1 (c' := .box [.bool (decide (x + y < 0)), zg (x + y).natAbs]) Y Y Y Y Y Y Y ?_
  refine rn1 ?_
  refine zr (by kernel_rfl) ?_
  refine rn2 ?_
  exact zE hR Y Y
 ·have h0 := zIR x.natAbs y.natAbs (by omega) (by omega)
  by_cases hc : y.natAbs ≤ x.natAbs
  ·have h1 := sub_ok x.natAbs y.natAbs hc (by omega)
   have h2 := zDm (decide (x < 0)) (x.natAbs - y.natAbs)
   rw [add_sgn2 x y h hc] at h2
   refine zK.value0 (zC (P := Tryz.prog) (fn := Tryz.f197) Y Y (by kernel_rfl) Y (fun c hR hfix => ?_)) (fix := fun _ => False) (fun _ h => h) Y Y
   unfold zBC at hR ⊢
   repeat (first | refine zV ?_ | refine zO ?_ | refine zAA ?_ | refine zZ rfl ?_ | refine zF (zR rfl rfl rfl rfl rfl) ?_ | refine zF (zJ rfl rfl rfl rfl rfl rfl) ?_ | refine zF (zG4 rfl rfl rfl) ?_ | refine zEv rfl rfl ?_ | refine zAh rfl rfl rfl ?_)
   refine zAS 9 (.bool false) Y (AEq.of_eq (by rw [beq_eq_false_iff_ne.2 h])) ?_
   refine rn5 ?_
   refine zA Y Y Y h0 ?_
   refine rn7 ?_
   refine zB Y (fun h5 => ?_) (fun h5 => absurd (zK0.2 (Int.ofNat_le.2 hc)) h5)
   repeat (refine zAA ?_)
   refine zz (by kernel_rfl) ?_
   refine zAY (fuel := 1) [0, 1, 2, 3, 4, 5, 6, 7] [(2, .ptr 0 0 0), (3, .ptr 1 0 0), (4, .ptr 2 0 0)] ⟨Y, Y, Y, trivial⟩ (by kernel_rfl) (by decide) Y Y ?_
   refine zn Y Y (zJ Y Y Y Y Y Y) ?_
   refine zn Y Y (zR Y Y Y Y Y) ?_
   refine zn Y Y (zJ Y Y Y Y Y Y) ?_
   refine zn Y Y (zR Y Y Y Y Y) ?_
   refine zn Y Y (zJ Y Y Y Y Y Y) ?_
   refine zn Y Y (zR Y Y Y Y Y) ?_
   refine zBs Y Y Y Y Y h1 ?_
   refine zBs Y Y Y Y Y h2 ?_
   refine zBR ?_
   refine zD (is := [8]) (by kernel_rfl) (by simp) Y ⟨fun o ho => ?_, trivial⟩
   all_goals (cases ho)
   skip
   unfold zBC
   refine sa1 (c' := .box [.bool (decide (x + y < 0)), zg (x + y).natAbs]) Y Y Y Y Y Y Y ?_
   refine rn1 ?_
   refine zr (by kernel_rfl) ?_
   refine rn2 ?_
   exact zE hR Y Y
  ·have h1 := sub_ok y.natAbs x.natAbs (by omega) (by omega)
   have h2 := zDm (decide (y < 0)) (y.natAbs - x.natAbs)
   rw [add_sgn3 x y h hc] at h2
   refine zK.value0 (zC (P := Tryz.prog) (fn := Tryz.f197) Y Y (by kernel_rfl) Y (fun c hR hfix => ?_)) (fix := fun _ => False) (fun _ h => h) Y Y
   unfold zBC at hR ⊢
   repeat (first | refine zV ?_ | refine zO ?_ | refine zAA ?_ | refine zZ rfl ?_ | refine zF (zR rfl rfl rfl rfl rfl) ?_ | refine zF (zJ rfl rfl rfl rfl rfl rfl) ?_ | refine zF (zG4 rfl rfl rfl) ?_ | refine zEv rfl rfl ?_ | refine zAh rfl rfl rfl ?_)
   refine zAS 9 (.bool false) Y (AEq.of_eq (by rw [beq_eq_false_iff_ne.2 h])) ?_
   refine rn5 ?_
   refine zA Y Y Y h0 ?_
   refine rn7 ?_
   refine zB Y (fun h5 => absurd (Int.ofNat_le.1 (zK0.1 h5)) hc) (fun h5 => ?_)
   refine rn1 ?_
   refine zz (by kernel_rfl) ?_
   refine zAY (fuel := 1) [0, 1, 2, 3, 4, 5, 6, 7] [(2, .ptr 0 0 0), (3, .ptr 1 0 0), (4, .ptr 2 0 0)] ⟨Y, Y, Y, trivial⟩ (by kernel_rfl) (by decide) Y Y ?_
   refine zn Y Y (zJ Y Y Y Y Y Y) ?_
   refine zn Y Y (zR Y Y Y Y Y) ?_
   refine zn Y Y (zJ Y Y Y Y Y Y) ?_
   refine zn Y Y (zR Y Y Y Y Y) ?_
   refine zn Y Y (zJ Y Y Y Y Y Y) ?_
   refine zn Y Y (zR Y Y Y Y Y) ?_
   refine zBs Y Y Y Y Y h1 ?_
   refine zBs Y Y Y Y Y h2 ?_
   refine zBR ?_
   refine zD (is := [8]) (by kernel_rfl) (by simp) Y ⟨fun o ho => ?_, trivial⟩
   all_goals (cases ho)
   skip
   unfold zBC
   refine sa1 (c' := .box [.bool (decide (x + y < 0)), zg (x + y).natAbs]) Y Y Y Y Y Y Y ?_
   refine rn1 ?_
   refine zr (by kernel_rfl) ?_
   refine rn0 ?_
   exact zE hR Y Y
theorem len_neg {x : Int} {k : Nat} (h : (zL x.natAbs).length ≤ k) : (zL (-x).natAbs).length ≤ k := by rw [Int.natAbs_neg]; exact h
theorem isub_ok (x y : Int) (hx : (zL x.natAbs).length ≤ 1000000) (hy : (zL y.natAbs).length ≤ 1000000) : zN Tryz.prog 211 [zBC x, zBC y] (zBC (x - y)) := by
 have h1 := iopp_ok y
 have h2 := zLF x (-y) hx (len_neg hy)
 rw [show x + -y = x - y from rfl] at h2
 refine zK.value0 (zC (P := Tryz.prog) (fn := Tryz.f211) Y Y (by kernel_rfl) Y (fun c hR hfix => ?_)) (fix := fun _ => False) (fun _ h => h) Y Y
 refine rn6 ?_
 refine zz (by kernel_rfl) ?_
 refine zAY (fuel := 1) [0, 1, 2, 3] [(2, .ptr 0 0 0), (3, .ptr 1 0 0), (4, .ptr 2 0 0)] ⟨Y, Y, Y, trivial⟩ (by kernel_rfl) (by decide) Y Y ?_
 refine zn Y Y (qpp Y Y Y Y Y Y Y) ?_
 refine zn Y Y (qpp Y Y Y Y Y Y Y) ?_
 refine zBs Y Y Y Y Y h1 ?_
 refine zBs Y Y Y Y Y h2 ?_
 refine zBR ?_
 refine zD (is := [4]) (by kernel_rfl) (by simp) Y ⟨fun o ho => ?_, trivial⟩
 all_goals (cases ho)
 skip
 unfold zBC
 refine sa1 (c' := .box [.bool (decide (x - y < 0)), zg (x - y).natAbs]) Y Y Y Y Y Y Y ?_
 refine rn1 ?_
 refine zr (by kernel_rfl) ?_
 refine rn0 ?_
 exact zE hR Y Y
theorem icmp_ok (x y : Int) (hx : (zL x.natAbs).length ≤ 1000000) (hy : (zL y.natAbs).length ≤ 1000000) : zN Tryz.prog 155 [zBC x, zBC y] (.int .i64 (sgn (x - y))) := by
 have h1 := isub_ok x y hx hy
 have h2 := isign_ok (x - y)
 refine zK.value0 (zC (P := Tryz.prog) (fn := Tryz.f155) Y Y (by kernel_rfl) Y (fun c hR hfix => ?_)) (fix := fun _ => False) (fun _ h => h) Y Y
 refine rn6 ?_
 refine zA Y Y Y h1 ?_
 skip
 refine zA Y Y Y h2 ?_
 refine rn0 ?_
 exact zE hR Y Y
theorem whole_ok (n : Int) (h : -9223372036854775808 ≤ n ∧ n < 9223372036854775808) : zN Tryz.prog 167 [.int .i64 n] (zBC n) := by
 refine zK.value0 (zC (P := Tryz.prog) (fn := Tryz.f167) Y Y (by kernel_rfl) Y (fun c hR hfix => ?_)) (fix := fun _ => False) (fun _ h => h) Y Y
 rcases Int.lt_or_le n 0 with hn | hn
 ·have h1 := zHI n.natAbs (by omega)
  refine rn4 ?_
  refine zB Y (fun _ => ?_) (fun h0 => absurd hn h0)
  refine rn3 ?_
  refine zF (q_neg Y (by omega)) ?_
  refine zG 7 (.int .i64 ((n.natAbs - 1 : Nat) : Int)) Y (AEq.of_eq (congrArg _ (by omega))) ?_
  refine zF (zp (m := n.natAbs - 1) Y Y Y zAQ (by omega)) ?_
  refine zF (zDL (m := n.natAbs - 1) (n := 1) Y Y zAQ (by omega)) ?_
  refine zG 9 (.int .u64 ((n.natAbs : Nat) : Int)) Y (AEq.of_eq (congrArg _ (by omega))) ?_
  skip
  refine zA Y Y Y h1 ?_
  repeat (refine zF (zBE rfl rfl rfl rfl rfl rfl) ?_)
  refine sa1 (c' := .box [.bool true, zg n.natAbs]) Y Y Y Y Y Y Y ?_
  refine rn2 ?_
  refine zE hR Y ?_
  unfold zBC
  rw [show decide (n < 0) = true from decide_eq_true hn]
  rfl
 ·have h1 := zHI n.natAbs (by omega)
  refine rn4 ?_
  refine zB Y (fun h0 => absurd h0 (by omega)) (fun h0 => ?_)
  refine rn1 ?_
  refine zG 12 (.int .i64 ((n.natAbs : Nat) : Int)) Y (AEq.of_eq (congrArg _ (by omega))) ?_
  refine zF (zp (m := n.natAbs) Y Y Y zAQ (by omega)) ?_
  skip
  refine zA Y Y Y h1 ?_
  repeat (refine zF (zBE rfl rfl rfl rfl rfl rfl) ?_)
  refine sa1 (c' := .box [.bool false, zg n.natAbs]) Y Y Y Y Y Y Y ?_
  refine rn0 ?_
  refine zE hR Y ?_
  unfold zBC
  rw [show decide (n < 0) = false from decide_eq_false (by omega)]
  rfl
def qA (q : Rat) : AV := .agg [.bool (decide (q.num < 0)), zg q.num.natAbs, zg q.den]
theorem zGU (n : Nat) : zBC (n : Int) = .agg [.bool false, zg n] := by
 unfold zBC
 rw [show decide ((n : Int) < 0) = false from decide_eq_false (by omega), Int.natAbs_natCast]
theorem bne_iff {x y z : Int} (h : z < 0 ↔ x ≠ 0 ∧ ((x < 0 ∧ ¬ y < 0) ∨ (¬ x < 0 ∧ y < 0))) (hz : x = 0 → z = 0) : zDM (!(decide (x < 0) == decide (y < 0))) z.natAbs = z := by
 unfold zDM
 by_cases h1 : x < 0 <;> by_cases h2 : y < 0
 ·simp [h1, h2]; have : ¬ z < 0 := fun q => by have := h.1 q; omega
  omega
 ·simp [h1, h2]; have : z < 0 := h.2 (by omega)
  omega
 ·simp [h1, h2]
  rcases Int.lt_or_le z 0 with q | q
  ·omega
  ·have : x = 0 := by
    rcases Int.lt_trichotomy x 0 with w | w | w
    ·exact absurd w h1
    ·exact w
    ·exact absurd (h.2 ⟨by omega, .inr ⟨h1, h2⟩⟩) (by omega)
   have := hz this
   omega
 ·simp [h1, h2]; have : ¬ z < 0 := fun q => by have := h.1 q; omega
  omega
theorem gcd_len {a b k : Nat} (ha : (zL a).length ≤ k) (hb : (zL b).length ≤ k) : (zL (Nat.gcd a b)).length ≤ k := by
 rcases Nat.eq_zero_or_pos a with h | h
 ·subst h; rw [Nat.gcd_zero_left]; exact hb
 ·exact zDE (Nat.gcd_le_left b h) ha
theorem zLC (n d : Int) (hd : d ≠ 0) (hn : (zL n.natAbs).length ≤ 1000000) (hdl : (zL d.natAbs).length ≤ 1000000) : zN Tryz.prog 166 [zBC n, zBC d] (qA (Rat.divInt n d)) := by
 obtain ⟨e1, e2, e3⟩ := zGt n d hd
 have hg := gcd_ok n.natAbs d.natAbs hn hdl
 have hgl := gcd_len hn hdl
 have hgp : 0 < Nat.gcd n.natAbs d.natAbs := Nat.gcd_pos_of_pos_right _ (by omega)
 have h1 := zJ2 n.natAbs _ hgp hn hgl
 have h2 := zJ2 d.natAbs _ hgp hdl hgl
 have h3 := zDm (!(decide (n < 0) == decide (d < 0))) (Rat.divInt n d).num.natAbs
 rw [bne_iff e3 (fun h0 => by rw [h0, Rat.zero_divInt]; rfl)] at h3
 rw [← e1] at h1
 rw [← e2] at h2
 refine zK.value0 (zC (P := Tryz.prog) (fn := Tryz.f166) Y Y (by kernel_rfl) Y (fun c hR hfix => ?_)) (fix := fun _ => False) (fun _ h => h) Y Y
 refine rn6 ?_
 refine zA Y Y Y hg ?_
 refine rn5 ?_
 refine zA Y Y Y h1 ?_
 refine rn5 ?_
 refine zA Y Y Y h2 ?_
 repeat (first | refine zF (zU rfl) ?_ | refine zF (zT rfl) ?_ | refine zV ?_ | refine zO ?_ | refine zAA ?_ | refine zZ rfl ?_ | refine zF (zR rfl rfl rfl rfl rfl) ?_ | refine zF (zAg rfl rfl) ?_ | refine zF (zJ rfl rfl rfl rfl rfl rfl) ?_ | refine zF (zIA rfl rfl rfl) ?_)
 refine zA Y Y Y h3 ?_
 refine rn8 ?_
 refine sa1 (c' := .box [.bool (decide ((Rat.divInt n d).num < 0)), zg (Rat.divInt n d).num.natAbs, zg (Rat.divInt n d).den]) Y Y Y Y Y Y Y ?_
 refine rn0 ?_
 exact zE hR Y Y
def Sz (k : Nat) (q : Rat) : Prop := (zL q.num.natAbs).length ≤ k ∧ (zL q.den).length ≤ k
theorem zCr {x y : Int} {k : Nat} (hx : (zL x.natAbs).length ≤ k) (hy : (zL y.natAbs).length ≤ k) : (zL (x * y).natAbs).length ≤ k + k := by
 rw [Int.natAbs_mul]; exact zGV hx hy
theorem zI9 {x y : Int} {k : Nat} (hx : (zL x.natAbs).length ≤ k) (hy : (zL y.natAbs).length ≤ k) : (zL (x + y).natAbs).length ≤ k + 1 :=
 zDE (Int.natAbs_add_le x y) (len_add hx hy)
theorem qadd_ok (p q : Rat) (hp : Sz 100000 p) (hq : Sz 100000 q) : zN Tryz.prog 148 [qA p, qA q] (qA (p + q)) := by
 have l1 : (zL (q.den : Int).natAbs).length ≤ 100000 := hq.2
 have l2 : (zL (p.den : Int).natAbs).length ≤ 100000 := hp.2
 have h1 := zFV p.num q.den (by have := hp.1; omega) (by omega)
 have h2 := zFV q.num p.den (by have := hq.1; omega) (by omega)
 have m1 := zCr hp.1 l1
 have m2 := zCr hq.1 l2
 have h3 := zLF (p.num * q.den) (q.num * p.den) (by omega) (by omega)
 have h4 := zKK p.den q.den (by have := hp.2; omega) (by have := hq.2; omega)
 have m3 := zI9 m1 m2
 have m4 := zGV hp.2 hq.2
 have h5 := zLC (p.num * q.den + q.num * p.den) ((p.den * q.den : Nat) : Int) (by have := Nat.mul_ne_zero p.den_nz q.den_nz; omega) (by omega) (by rw [Int.natAbs_natCast]; omega)
 rw [zGU, zIl] at h5
 rw [zGU] at h1 h2
 refine zK.value0 (zC (P := Tryz.prog) (fn := Tryz.f148) Y Y (by kernel_rfl) Y (fun c hR hfix => ?_)) (fix := fun _ => False) (fun _ h => h) Y Y
 refine rn6 ?_
 refine zz (by kernel_rfl) ?_
 refine zAY (fuel := 1) [0, 1, 2, 3, 4, 5, 6, 7, 8, 9, 10, 11, 12, 13, 14, 15, 16, 17, 18, 19] [(2, .ptr 0 0 0), (3, .ptr 1 0 0), (4, .ptr 2 0 0)] ⟨Y, Y, Y, trivial⟩ (by kernel_rfl) (by decide) Y Y ?_
 refine zn Y Y (zJ Y Y Y Y Y Y) ?_
 refine zn Y Y (qpp Y Y Y Y Y Y Y) ?_
 refine zn Y Y (zJ Y Y Y Y Y Y) ?_
 refine zn Y Y (zR Y Y Y Y Y) ?_
 refine zn Y Y (zBE Y Y Y Y Y Y) ?_
 refine zBs Y Y Y Y Y h1 ?_
 refine zn Y Y (zJ Y Y Y Y Y Y) ?_
 refine zn Y Y (qpp Y Y Y Y Y Y Y) ?_
 refine zn Y Y (zJ Y Y Y Y Y Y) ?_
 refine zn Y Y (zR Y Y Y Y Y) ?_
 refine zn Y Y (zBE Y Y Y Y Y Y) ?_
 refine zBs Y Y Y Y Y h2 ?_
 refine zBs Y Y Y Y Y h3 ?_
 refine zn Y Y (zJ Y Y Y Y Y Y) ?_
 refine zn Y Y (zR Y Y Y Y Y) ?_
 refine zn Y Y (zJ Y Y Y Y Y Y) ?_
 refine zn Y Y (zR Y Y Y Y Y) ?_
 refine zBs Y Y Y Y Y h4 ?_
 refine zn Y Y (zBE Y Y Y Y Y Y) ?_
 refine zBs Y Y Y Y Y h5 ?_
 refine zBR ?_
 refine zD (is := [20]) (by kernel_rfl) (by simp) Y ⟨fun o ho => ?_, trivial⟩
 all_goals (cases ho)
 skip
 unfold qA
 refine sa1 (c' := .box [.bool (decide ((p + q).num < 0)), zg (p + q).num.natAbs, zg (p + q).den]) Y Y Y Y Y Y Y ?_
 refine rn1 ?_
 refine zr (by kernel_rfl) ?_
 refine rn0 ?_
 exact zE hR Y Y
theorem qmul_ok (p q : Rat) (hp : Sz 100000 p) (hq : Sz 100000 q) : zN Tryz.prog 127 [qA p, qA q] (qA (p * q)) := by
 have h1 := zFV p.num q.num (by have := hp.1; omega) (by have := hq.1; omega)
 have m1 := zCr hp.1 hq.1
 have h4 := zKK p.den q.den (by have := hp.2; omega) (by have := hq.2; omega)
 have m4 := zGV hp.2 hq.2
 have h5 := zLC (p.num * q.num) ((p.den * q.den : Nat) : Int) (by have := Nat.mul_ne_zero p.den_nz q.den_nz; omega) (by omega) (by rw [Int.natAbs_natCast]; omega)
 rw [zGU, mul_frac] at h5
 refine zK.value0 (zC (P := Tryz.prog) (fn := Tryz.f127) Y Y (by kernel_rfl) Y (fun c hR hfix => ?_)) (fix := fun _ => False) (fun _ h => h) Y Y
 refine rn6 ?_
 refine zz (by kernel_rfl) ?_
 refine zAY (fuel := 1) [0, 1, 2, 3, 4, 5, 6, 7, 8, 9, 10, 11] [(2, .ptr 0 0 0), (3, .ptr 1 0 0), (4, .ptr 2 0 0)] ⟨Y, Y, Y, trivial⟩ (by kernel_rfl) (by decide) Y Y ?_
 refine zn Y Y (zJ Y Y Y Y Y Y) ?_
 refine zn Y Y (qpp Y Y Y Y Y Y Y) ?_
 refine zn Y Y (zJ Y Y Y Y Y Y) ?_
 refine zn Y Y (qpp Y Y Y Y Y Y Y) ?_
 refine zBs Y Y Y Y Y h1 ?_
 refine zn Y Y (zJ Y Y Y Y Y Y) ?_
 refine zn Y Y (zR Y Y Y Y Y) ?_
 refine zn Y Y (zJ Y Y Y Y Y Y) ?_
 refine zn Y Y (zR Y Y Y Y Y) ?_
 refine zBs Y Y Y Y Y h4 ?_
 refine zn Y Y (zBE Y Y Y Y Y Y) ?_
 refine zBs Y Y Y Y Y h5 ?_
 refine zBR ?_
 refine zD (is := [12]) (by kernel_rfl) (by simp) Y ⟨fun o ho => ?_, trivial⟩
 all_goals (cases ho)
 skip
 unfold qA
 refine sa1 (c' := .box [.bool (decide ((p * q).num < 0)), zg (p * q).num.natAbs, zg (p * q).den]) Y Y Y Y Y Y Y ?_
 refine rn1 ?_
 refine zr (by kernel_rfl) ?_
 refine rn0 ?_
 exact zE hR Y Y
theorem qcmp_ok (p q : Rat) (hp : Sz 100000 p) (hq : Sz 100000 q) : zN Tryz.prog 71 [qA p, qA q] (.int .i64 (cmpQ p q)) := by
 have l1 : (zL (q.den : Int).natAbs).length ≤ 100000 := hq.2
 have l2 : (zL (p.den : Int).natAbs).length ≤ 100000 := hp.2
 have h1 := zFV p.num q.den (by have := hp.1; omega) (by omega)
 have h2 := zFV q.num p.den (by have := hq.1; omega) (by omega)
 have m1 := zCr hp.1 l1
 have m2 := zCr hq.1 l2
 have h5 := icmp_ok (p.num * q.den) (q.num * p.den) (by omega) (by omega)
 rw [sgn_cmp p q] at h5
 rw [zGU] at h1 h2
 refine zK.value0 (zC (P := Tryz.prog) (fn := Tryz.f71) Y Y (by kernel_rfl) Y (fun c hR hfix => ?_)) (fix := fun _ => False) (fun _ h => h) Y Y
 refine rn6 ?_
 refine zz (by kernel_rfl) ?_
 refine zAY (fuel := 0) [0, 1, 2, 3, 4, 5, 6, 7, 8, 9, 10, 11, 12, 13] [(2, .ptr 0 0 0), (3, .ptr 1 0 0)] ⟨Y, Y, trivial⟩ (by kernel_rfl) (by decide) Y Y ?_
 refine zn Y Y (zJ Y Y Y Y Y Y) ?_
 refine zn Y Y (qpp Y Y Y Y Y Y Y) ?_
 refine zn Y Y (zJ Y Y Y Y Y Y) ?_
 refine zn Y Y (zR Y Y Y Y Y) ?_
 refine zn Y Y (zBE Y Y Y Y Y Y) ?_
 refine zBs Y Y Y Y Y h1 ?_
 refine zn Y Y (zJ Y Y Y Y Y Y) ?_
 refine zn Y Y (qpp Y Y Y Y Y Y Y) ?_
 refine zn Y Y (zJ Y Y Y Y Y Y) ?_
 refine zn Y Y (zR Y Y Y Y Y) ?_
 refine zn Y Y (zBE Y Y Y Y Y Y) ?_
 refine zBs Y Y Y Y Y h2 ?_
 refine zBs Y Y Y Y Y h5 ?_
 refine zn Y Y (zT Y) ?_
 refine zBR ?_
 refine zr (by kernel_rfl) ?_
 refine rn0 ?_
 exact zE hR Y Y
end Go.Proofs.YtkncmbklkhjmgaaGreatDoor
namespace Go.Proofs.YtkncmbklkhjmgaaGreatDoor
open Go.Ax Go.Ax.Bg Go.Ax.Rt Go.RowKit
attribute [local irreducible] Ax zAO QOp zK zAN
open Go.Ax.Tb (zAR zGp)
theorem zJG : zg 1 = .ro (.ints .u32 [1]) 0 1 := by unfold zg; rw [zEL]; rfl
theorem qA_int (z : Int) : qA (z : Rat) = .agg [.bool (decide (z < 0)), zg z.natAbs, zg 1] := rfl
theorem qof_ok (n : Int) (h : -9223372036854775808 ≤ n ∧ n < 9223372036854775808) : zN Tryz.prog 140 [.int .i64 n] (qA (n : Rat)) := by
 have h1 := whole_ok n h
 refine zK.value0 (zC (P := Tryz.prog) (fn := Tryz.f140) Y Y (by kernel_rfl) Y (fun c hR hfix => ?_)) (fix := fun _ => False) (fun _ h => h) Y Y
 refine rn4 ?_
 refine zA Y Y Y h1 ?_
 unfold zBC
 refine rn8 ?_
 refine sa1 (c' := .box [.bool (decide (n < 0)), zg n.natAbs, .ro (.ints .u32 [1]) 0 1]) Y Y Y Y Y Y Y ?_
 refine rn0 ?_
 refine zE hR Y ?_
 rw [qA_int, zJG]
 rfl
theorem zKB (s : List UInt8) (b : Int) : zN Tryz.prog 258 [.str s, .int .u8 b] (.int .i64 (Lib.indexByte s b.toNat.toUInt8)) := by
 refine zK.value0 (zC (P := Tryz.prog) (fn := Tryz.f258) Y Y (by kernel_rfl) Y (fun c hR hfix => ?_)) (fix := fun _ => False) (fun _ h => h) Y Y
 refine rn0 ?_
 refine zF (zJW Y Y Y Y (by kernel_rfl) (by kernel_rfl) (by kernel_rfl) (by kernel_rfl)) ?_
 refine rn0 ?_
 exact zE hR Y Y
theorem zLG (s : List UInt8) (b : UInt8) : zN Tryz.prog 213 [.str s, .str [b]] (.int .i64 (Lib.indexByte s b)) := by
 refine zK.value0 (zC (P := Tryz.prog) (fn := Tryz.f213) Y Y (by kernel_rfl) Y (fun c hR hfix => ?_)) (fix := fun _ => False) (fun _ h => h) Y Y
 refine rn6 ?_
 refine zB Y (fun h => ?_) (fun h => ?_)
 ·refine rn6 ?_
  refine zE hR Y ?_
  subst h
  simp [zAX, Lib.indexByte]
 refine zHC ?_
 refine zA Y Y Y (zKB s b.toNat) ?_
 refine rn6 ?_
 refine zE hR Y ?_
 simp [zAX]
theorem zIZ (l : List UInt8) (b : UInt8) : Lib.indexByte l b < l.length := by
 induction l with
 | nil => simp [Lib.indexByte]
 | cons c r ih =>
  rw [Lib.indexByte]
  simp only [List.length_cons]
  split
  ·omega
  ·split
   ·omega
   ·omega
theorem cutI (s : List UInt8) (b : UInt8) (h : s.length ≤ 9223372036854775807) : zN Tryz.prog 159 [.str s, .str [b]] (.tup [.str (zAR b s).1, .str (zAR b s).2.1, .bool (zAR b s).2.2]) := by
 have hc := zGp b s
 have hlt := zIZ s b
 have hge := Lib.indexByte_ge s b
 have ci := zLG s b
 refine zK.value0 (zC (P := Tryz.prog) (fn := Tryz.f159) Y Y (by kernel_rfl) Y (fun c hR hfix => ?_)) (fix := fun _ => False) (fun _ h => h) Y Y
 generalize Lib.indexByte s b = i at *
 refine rn0 ?_
 refine zA Y Y Y ci ?_
 refine rn7 ?_
 refine zB Y (fun h0 => ?_) (fun h0 => ?_)
 ·rw [if_pos h0] at hc
  rw [hc] at hR
  have hb1 : ([b] : List UInt8).length = 1 := rfl
  have hi1 : (i + 1).toNat = i.toNat + 1 := by omega
  repeat (refine zAA ?_)
  refine zBy (by kernel_rfl) (by kernel_rfl) Y ?_
  refine rn16 ?_
  refine zE hR Y ?_
  simp [zAX, hi1]
  exact List.take_of_length_le (by simp)
 ·rw [if_neg h0] at hc
  rw [hc] at hR
  refine rn1 ?_
  exact zE hR Y Y
theorem cutS (s : List UInt8) (b : UInt8) (h : s.length ≤ 9223372036854775807) : zN Tryz.prog 78 [.str s, .str [b]] (.tup [.str (zAR b s).1, .str (zAR b s).2.1, .bool (zAR b s).2.2]) := by
 have ci := cutI s b h
 refine zK.value0 (zC (P := Tryz.prog) (fn := Tryz.f78) Y Y (by kernel_rfl) Y (fun c hR hfix => ?_)) (fix := fun _ => False) (fun _ h => h) Y Y
 generalize zAR b s = q at *
 refine rn0 ?_
 refine zA Y Y Y ci ?_
 refine rn2 ?_
 exact zE hR Y Y
theorem cutP1 (s p : List UInt8) (hs : s.length ≤ 9223372036854775807) (hp : p.length ≤ 9223372036854775807) : zN Tryz.prog 158 [.str s, .str p] (.tup [.str (if zFZ s p then s.drop p.length else s), .bool (zFZ s p)]) := by
 have h1 := zLX s p hs hp
 refine zK.value0 (zC (P := Tryz.prog) (fn := Tryz.f158) Y Y (by kernel_rfl) Y (fun c hR hfix => ?_)) (fix := fun _ => False) (fun _ h => h) Y Y
 by_cases h : zFZ s p = true
 ·have hle : p.length ≤ s.length := by unfold zFZ at h; exact (of_decide_eq_true h).1
  rw [h] at h1 hR
  refine rn0 ?_
  refine zA Y Y Y h1 ?_
  refine rn16 ?_
  refine zE hR Y ?_
  simp only [zAX, Int.toNat_natCast]
  rw [List.take_of_length_le (by simp)]
  rfl
 ·rw [Bool.not_eq_true] at h
  rw [h] at h1 hR
  refine rn0 ?_
  refine zA Y Y Y h1 ?_
  refine rn5 ?_
  exact zE hR Y Y
theorem cutP (s p : List UInt8) (hs : s.length ≤ 9223372036854775807) (hp : p.length ≤ 9223372036854775807) : zN Tryz.prog 77 [.str s, .str p] (.tup [.str (if zFZ s p then s.drop p.length else s), .bool (zFZ s p)]) := by
 have h1 := cutP1 s p hs hp
 refine zK.value0 (zC (P := Tryz.prog) (fn := Tryz.f77) Y Y (by kernel_rfl) Y (fun c hR hfix => ?_)) (fix := fun _ => False) (fun _ h => h) Y Y
 generalize zFZ s p = b at *
 refine rn0 ?_
 refine zA Y Y Y h1 ?_
 refine rn2 ?_
 exact zE hR Y Y
end Go.Proofs.YtkncmbklkhjmgaaGreatDoor
namespace Go.Ax.Cd
open Go.Ax.Idx
/-- A text, cut at each of its bytes b. -/
def zh (b : UInt8) : List UInt8 → List (List UInt8)
 | [] => [[]]
 | x :: r => if x = b then [] :: zh b r else
  match zh b r with
  | [] => [[x]]
  | y :: q => (x :: y) :: q
theorem zDe (b : UInt8) (s : List UInt8) : zh b s ≠ [] := by
 cases s with
 | nil => simp [zh]
 | cons x r => simp only [zh]; split; · simp
               ·split <;> simp
theorem zBB (b : UInt8) (s : List UInt8) : (zh b s).length = s.count b + 1 := by
 induction s with
 | nil => rfl
 | cons x r ih =>
  simp only [zh]
  by_cases h : x = b
  ·subst h; simp [ih]
  ·have h2 : List.count b (x :: r) = List.count b r := by rw [List.count_cons]; simp [h]
   rw [if_neg h, h2]
   cases hq : zh b r with
   | nil => exact absurd hq (zDe b r)
   | cons y q => rw [hq] at ih; simpa using ih
theorem zID (b : UInt8) (s : List UInt8) (h : Lib.indexByte s b < 0) : zh b s = [s] := by
 induction s with
 | nil => rfl
 | cons x r ih =>
  unfold Lib.indexByte at h
  by_cases hx : x = b
  ·subst hx; simp at h
  ·have hb : (x == b) = false := by simpa using hx
   simp only [hb, Bool.false_eq_true, if_false] at h
   have hr : Lib.indexByte r b < 0 := by
    have := Lib.indexByte_ge r b
    by_cases h1 : Lib.indexByte r b = -1
    ·omega
    ·have : (Lib.indexByte r b == -1) = false := by simpa using h1
     simp only [this, Bool.false_eq_true, if_false] at h
     omega
   simp only [zh, hx, if_false, ih hr]
theorem zHJ (b : UInt8) (s : List UInt8) (h : 0 ≤ Lib.indexByte s b) : Lib.indexByte s b < s.length ∧ zh b s = s.take (Lib.indexByte s b).toNat :: zh b (s.drop ((Lib.indexByte s b).toNat + 1)) := by
 induction s with
 | nil => simp [Lib.indexByte] at h
 | cons x r ih =>
  unfold Lib.indexByte at h ⊢
  by_cases hx : x = b
  ·subst hx; simp [zh]
  ·have hb : (x == b) = false := by simpa using hx
   simp only [hb, Bool.false_eq_true, if_false] at h ⊢
   by_cases h1 : Lib.indexByte r b = -1
   ·have : (Lib.indexByte r b == -1) = true := by simpa using h1
    simp [this] at h
   ·have h2 : (Lib.indexByte r b == -1) = false := by simpa using h1
    simp only [h2, Bool.false_eq_true, if_false] at h ⊢
    have hge := Lib.indexByte_ge r b
    obtain ⟨i1, i2⟩ := ih (by omega)
    refine ⟨by simp; omega, ?_⟩
    simp only [zh, hx, if_false, i2]
    have e : (Lib.indexByte r b + 1).toNat = (Lib.indexByte r b).toNat + 1 := by omega
    rw [e]; simp
end Go.Ax.Cd
namespace Go.Ax.Cd
end Go.Ax.Cd
namespace Go.Proofs.YtkncmbklkhjmgaaGreatDoor
open Go.Ax Go.RowKit Go.Ax.Idx Go.Ax.Cd Go.Ax.Tb Go.Ax.Bg
attribute [local irreducible] Ax zAO QOp zK zAN
theorem atoi (s : List UInt8) (h : s.length ≤ 281474976710656) : zN Tryz.prog 236 [.str s] (.tup [.int .i64 (numV s), match Lib.atoiAll s with | .ok _ => .nilif | _ => .iface]) := by
 refine zN.of_below ⟨Tryz.f236, Y, by kernel_rfl, Y⟩ Y (by split <;> rfl) (fun w S vals hG hS hv => ?_)
 obtain ⟨x, rfl, a⟩ := vals1 hv
 have hx : x = zD2 s := by cases a; rfl
 subst hx
 obtain ⟨_, _, ⟨t1, p1, e1⟩, ⟨t2, p2, e2⟩, _⟩ : pinG w := hG
 have hd : (⟨s.toArray⟩ : ByteArray).data.toList = s := by simp
 have hsz : (⟨s.toArray⟩ : ByteArray).size = s.length := by simp [ByteArray.size]
 unfold numV
 cases hc : Lib.atoiAll s with
 | ok v =>
  refine (Tryz.strconv_Atoi_ok ⟨s.toArray⟩ (by rw [hsz]; omega) v (by rw [hd]; exact hc) w).mono ?_
  rintro e w' ⟨rfl, hw⟩
  refine ⟨_, Y, ?_, .tup _ _ _ Y (fun i hi => ?_)⟩
  ·rcases hw with rfl | ⟨t, rfl⟩
   ·exact Below.refl _ _
   ·exact Lib.bytesWorld_below _ _ _
  ·match i, hi with
   | 0, _ => exact .int _ _ _
   | 1, _ => exact .nilif _
 | «syntax» =>
  refine (Tryz.strconv_Atoi_syntax_var ⟨s.toArray⟩ (by rw [hsz]; omega) (by rw [hd]; exact hc) t1 p1 w e1).mono ?_
  rintro e w' ⟨N, rfl, _, _, hb⟩
  refine ⟨_, Y, hb, .tup _ _ _ Y (fun i hi => ?_)⟩
  match i, hi with
  | 0, _ => exact .int _ _ _
  | 1, _ => exact .iface _ _ _
 | range =>
  refine (Tryz.strconv_Atoi_range_var ⟨s.toArray⟩ (by rw [hsz]; omega) (by rw [hd]; exact hc) t2 p2 w e2).mono ?_
  rintro e w' ⟨N, rfl, _, _, hb⟩
  refine ⟨_, Y, hb, .tup _ _ _ Y (fun i hi => ?_)⟩
  match i, hi with
  | 0, _ => rw [hd]; exact .int _ _ _
  | 1, _ => exact .iface _ _ _
theorem zKu {s : List UInt8} {n : Int} (h : Lib.atoiAll s = .ok n) : -9223372036854775808 ≤ n ∧ n ≤ 9223372036854775807 := by
 unfold Lib.atoiAll at h
 split at h
 ·cases h
 ·simp only at h
  split at h
  ·cases h
  ·cases h
  ·split at h
   ·cases h
   ·split at h
    ·cases h
    ·simp only [Lib.NumEnd.ok.injEq] at h
     rename_i h1 h2
     subst h
     split
     ·rename_i h3
      simp only [h3, true_and, Nat.not_lt] at h2
      omega
     ·rename_i h3
      simp only [h3, not_false_eq_true, true_and, Nat.not_le] at h1
      omega
theorem indexS1 (s : List UInt8) (b : UInt8) : zN Tryz.prog 177 [.str s, .str [b]] (.int .i64 (Lib.indexByte s b)) := by
 refine zK.value0 (zC (P := Tryz.prog) (fn := Tryz.f177) Y Y (by kernel_rfl) Y (fun c hR hfix => ?_)) (fix := fun _ => False) (fun _ h => h) Y Y
 refine rn0 ?_
 refine zA Y Y Y (zLG s b) ?_
 refine rn0 ?_
 exact zE hR Y Y
theorem zK3 (s : List UInt8) (b : UInt8) : zN Tryz.prog 101 [.str s, .str [b]] (.int .i64 (s.count b : Nat)) := by
 refine zK.value0 (zC (P := Tryz.prog) (fn := Tryz.f101) Y Y (by kernel_rfl) Y (fun c hR hfix => ?_)) (fix := fun _ => False) (fun _ h => h) Y Y
 refine zHC ?_
 refine zF (zJS Y Y Y Y (by kernel_rfl) (by kernel_rfl) (by kernel_rfl) (by kernel_rfl)) ?_
 refine rn2 ?_
 refine zE hR Y ?_
 simp [zAX]
theorem zLw (s : List UInt8) (b : UInt8) (hs : s.length ≤ 1000000) :
 zN Tryz.prog 178 [.str s, .str [b], .int .i64 0, .int .i64 (-1)] (.ro (.strs (zh b s)) 0 (zh b s).length) := by
 have hc := List.count_le_length (a := b) (l := s)
 refine zK.value (K := fun r H => r = .sl 0 0 (zh b s).length ∧ H = [some ⟨9, .strs (zh b s)⟩]) (zC (P := Tryz.prog) (fn := Tryz.f178) Y Y (by kernel_rfl) Y (fun c hR hfix => ?_)) (fix := fun _ => False) (fun _ h => h) Y ?_
 ·refine rn6 ?_
  refine zA Y Y Y (zK3 s b) ?_
  refine zHC ?_
  have hmin : (if (s.length : Int) + 1 < (s.count b : Nat) + 1 then (s.length : Int) + 1 else (s.count b : Nat) + 1) = ((s.count b + 1 : Nat) : Int) := by rw [if_neg (by omega)]; simp
  rw [hmin]
  refine zBl Y Y Y Y Y Y Y Y (by show 0 ≤ _ ∧ _ ≤ _ ∧ (16 : Int) * _ ≤ _ ∧ _; omega) ?_
  refine rn8 ?_
  have hsl := zBB b s
  refine zt ?_
  refine zY (ι := Nat × List UInt8 × List (List UInt8)) (fun x => [(0, .str x.2.1), (1, .str [b]), (2, .int .i64 0), (3, .int .i64 (s.count b : Nat)), (9, .sl 0 0 (s.count b + 1)), (10, .int .i64 x.1)]) (fun x => [some ⟨9, .strs x.2.2⟩])
   (fun x => x.2.2.length = s.count b + 1 ∧ x.1 + (zh b x.2.1).length = s.count b + 1 ∧ x.2.2.take x.1 ++ zh b x.2.1 = zh b s ∧ x.2.1.length ≤ 1000000) (fun x => s.count b + 1 - x.1) (0, s, List.replicate (s.count b + 1) [])
   ⟨⟨rfl, rfl, rfl, by show some (AV.int _ _) = _; congr 2; simp, rfl, rfl, trivial⟩, rfl, by simp, by simp only; omega, by simp, hs⟩ ?_
  rintro ⟨i, r, out⟩ ⟨ho, hi, hsp, hrl⟩
  simp only at *
  have hrs := zBB b r
  have hge := Lib.indexByte_ge r b
  refine rn4 ?_
  refine zB Y (fun h1 => ?_) (fun h1 => ?_)
  ·refine rn1 ?_
   refine zA Y Y Y (indexS1 r b) ?_
   refine rn4 ?_
   refine zB Y (fun h2 => ?_) (fun h2 => ?_)
   ·exfalso
    have := zID b r h2
    rw [this] at hi
    simp at hi; omega
   ·obtain ⟨g1, g2⟩ := zHJ b r (by omega)
    rw [g2] at hi hsp
    simp only [List.length_cons] at hi
    generalize Lib.indexByte r b = m at *
    have hio : i < out.length := by omega
    refine rn16 ?_
    refine zF (zCy Y Y (by simp only [List.length_cons, List.length_nil]; omega)) ?_
    refine zG 54 (.int .i64 (m + 1)) Y AEq.rfl' ?_
    refine zHC ?_
    have e1 : (m + 0).toNat - (0 : Int).toNat = m.toNat := by omega
    refine zM ⟨(i + 1, r.drop (m.toNat + 1), out.set i (r.take m.toNat)), ⟨by simp only [List.length_set]; exact ho, by simp only; omega, ?_, by simp only [List.length_drop]; omega⟩, by simp only; omega, ⟨?_, Y, Y, Y, Y, Y, trivial⟩, ?_⟩
    ·simp only
     rw [← hsp, List.take_succ_eq_append_getElem (by simpa using hio)]
     simp [List.take_set_of_le (Nat.le_refl i)]
    ·show some (AV.str (List.take (r.length - (m + 1).toNat) (List.drop (m + 1).toNat r))) = _
     rw [show (m + 1).toNat = m.toNat + 1 by omega, List.take_of_length_le (by simp)]
    ·show ([some ⟨9, .strs (out.set i (List.take ((m + 0).toNat - (0 : Int).toNat) r))⟩] : zH) = _
     rw [e1]
  ·have hi1 : i = s.count b := by omega
   subst hi1
   have h0 : zh b r = [r] := by
    rcases Int.lt_or_le (Lib.indexByte r b) 0 with hq | hq
    ·exact zID b r hq
    ·obtain ⟨_, g2⟩ := zHJ b r hq
     have := zDe b (r.drop ((Lib.indexByte r b).toNat + 1))
     rw [g2] at hi
     cases hz : zh b (r.drop ((Lib.indexByte r b).toNat + 1)) with
     | nil => exact absurd hz this
     | cons y q => rw [hz] at hi; simp at hi
   rw [h0] at hsp
   have hio : s.count b < out.length := by omega
   have hset : out.set (s.count b) r = zh b s := by
    rw [← hsp, List.set_eq_take_append_cons_drop, if_pos hio, List.drop_eq_nil_of_le (by omega)]
   refine rn17 ?_
   refine zE hR Y ⟨?_, ?_⟩
   ·show AV.sl 0 0 ((s.count b : Int) + 1 - (0 : Nat)).toNat = _
    rw [hsl]; congr 1
   ·show ([some ⟨9, .strs (out.set (s.count b) r)⟩] : zH) = _
    rw [hset]
 ·rintro r H ⟨rfl, rfl⟩
  refine ⟨Y, ?_, fun h o ho => refl1 zDu h o ho⟩
  intro o ho; simp at ho; subst ho
  show 0 + (zh b s).length ≤ (zh b s).length
  omega
theorem split1 (s : List UInt8) (b : UInt8) (hs : s.length ≤ 1000000) : zN Tryz.prog 102 [.str s, .str [b]] (.ro (.strs (zh b s)) 0 (zh b s).length) := by
 intro H
 refine zC (P := Tryz.prog) (fn := Tryz.f102) Y Y (by kernel_rfl) Y (fun c hR hfix => ?_)
 refine rn0 ?_
 refine zA Y Y Y (zLw s b hs) ?_
 refine rn0 ?_
 exact zE hR Y ⟨Y, Y⟩
def zFS (b : UInt8) (s : List UInt8) : Bool := decide (s.drop (s.length - 1) = [b])
theorem suffixI (s : List UInt8) (b : UInt8) (h : s.length ≤ 281474976710656) : zN Tryz.prog 232 [.str s, .str [b]] (.bool (zFS b s)) := by
 refine zK.value0 (zC (P := Tryz.prog) (fn := Tryz.f232) Y Y (by kernel_rfl) Y (fun c hR hfix => ?_)) (fix := fun _ => False) (fun _ h => h) Y Y
 have hb1 : ([b] : List UInt8).length = 1 := rfl
 refine rn8 ?_
 refine zW Y Y (fun h0 => ?_) (fun h0 => ?_)
 ·refine zDc ?_
  refine zE hR Y ?_
  have e : ((s.length : Int) - ([b] : List UInt8).length).toNat = s.length - 1 := by omega
  have e2 : ((s.length : Int) - (((s.length : Int) - ([b] : List UInt8).length))).toNat = 1 := by omega
  unfold zFS
  simp [zAX]
  rw [List.take_of_length_le (by simp)]
 ·have hs : s = [] := List.length_eq_zero_iff.1 (by omega)
  subst hs
  refine rn6 ?_
  exact zE hR Y Y
/-- A builder that holds l; a: it has been written. -/
def adrB (a : Bool) : AV := if a then .ptr 0 0 0 else .nilp
def byI (s : List UInt8) : List Int := s.map (fun b => ((b.toNat : Nat) : Int))
theorem zEy (s t : List UInt8) : byI (s ++ t) = byI s ++ byI t := by simp [byI]
theorem zIN (s : List UInt8) : (byI s).length = s.length := by simp [byI]
theorem zIu (s : List UInt8) (i : Nat) (h : i < s.length) : (byI s).getD i 0 = ((s.getD i 0).toNat : Nat) := by simp [byI, List.getD, h]
abbrev bldH (a : Bool) (s : List UInt8) : zH := [some ⟨161, .box [adrB a, .sl 1 0 s.length]⟩, some ⟨5, .ints .u8 (byI s)⟩]
theorem zLu (a : Bool) (s : List UInt8) : zK Tryz.prog 182 [.ptr 0 0 0] (bldH a s) (fun h => h < 2) (fun r H => r = .tup [] ∧ H = bldH true s) := by
 refine zC (P := Tryz.prog) (fn := Tryz.f182) Y Y (by kernel_rfl) Y (fun c hR hfix => ?_)
 cases a with
 | true =>
  repeat (first | refine zF (zU rfl) ?_ | refine zV ?_ | refine zO ?_ | refine zAA ?_ | refine zZ rfl ?_ | refine zAC rfl ?_ | refine zF (zR rfl rfl rfl rfl rfl) ?_ | refine zF (zAW rfl) ?_ | refine zF (zJ rfl rfl rfl rfl rfl rfl) ?_ | refine zF (zLZ rfl rfl rfl rfl) ?_)
  refine zF (zIi Y Y Y Y) ?_
  refine rn4 ?_
  exact zJs hR Y ⟨Y, Y⟩
 | false =>
  repeat (first | refine zF (zU rfl) ?_ | refine zV ?_ | refine zO ?_ | refine zAA ?_ | refine zZ rfl ?_ | refine zAn rfl ?_ | refine zF (zR rfl rfl rfl rfl rfl) ?_ | refine zF (zAW rfl) ?_ | refine zF (zJ rfl rfl rfl rfl rfl rfl) ?_ | refine zF (zLZ rfl rfl rfl rfl) ?_)
  refine zF (zKc Y Y Y Y Y Y Nat.zero_lt_one (Nat.succ_pos _)) ?_
  skip
  refine zF (zKa Y Y Y (by kernel_rfl) (by kernel_rfl) (by kernel_rfl) (by kernel_rfl)) ?_
  skip
  refine zF (zIg Y Y Y Y Y Y Y Nat.zero_lt_one (Nat.succ_pos _)) ?_
  refine rn8 ?_
  exact zJs hR Y ⟨Y, Y⟩
theorem writeS (a : Bool) (s q : List UInt8) (h : s.length + q.length ≤ 140737488355328) : zK Tryz.prog 104 [.ptr 0 0 0, .str q] (bldH a s) (fun h => h = 0) (fun r H => r = .tup [.int .i64 (q.length : Nat), .nilif] ∧ H = bldH true (s ++ q)) := by
 refine zC (P := Tryz.prog) (fn := Tryz.f104) Y Y (by kernel_rfl) Y (fun c hR hfix => ?_)
 have hl := zIN s
 refine rn0 ?_
 refine zD6 Y Y Y (zLu a s) (fun _ h => h) (fun _ h => h) ?_
 rintro r H ⟨rfl, rfl⟩
 refine rn8 ?_
 refine zHR (o := ⟨5, .ints .u8 (byI s)⟩) (h := 1) (n := s.length) (s := q) (c' := .ints .u8 (byI (s ++ q))) Y Y Y Y Y Y Y Y Y hl Y Y Y Y ?_ (fun i j hi hj => ?_) (fun d j hd hj => ?_) (by show (s.length + q.length) * 1 ≤ _ ∧ _; omega) (fun _ _ _ _ => rfl) (by rw [hfix]; decide) ?_
 ·show (byI (s ++ q)).length = (byI s).length + q.length
  rw [zEy, List.length_append, zIN q]
 ·show AV.int .u8 ((byI (s ++ q)).getD i 0) = AV.int .u8 ((byI s).getD i 0)
  have hi' : i < (byI s).length := hi
  rw [zEy]
  simp [List.getD, List.getElem?_append, hi']
 ·show AV.int .u8 ((byI (s ++ q)).getD ((byI s).length + d) 0) = _
  rw [zEy]
  have : (byI s ++ byI q).getD ((byI s).length + d) 0 = (byI q).getD d 0 := by
   rw [List.getD, List.getElem?_append_right (by omega)]
   simp [List.getD]
  rw [this, zIu q d hd]
 refine rn8 ?_
 refine zE hR Y ⟨Y, ?_⟩
 show ([some ⟨161, .box [.ptr 0 0 0, .sl 1 0 (s.length + q.length)]⟩, some ⟨5, .ints .u8 (byI (s ++ q))⟩] : zH) = _
 rw [← List.length_append]
 rfl
theorem stringB (s : List UInt8) (h : s.length ≤ 140737488355328) (h0 : s ≠ []) : zK Tryz.prog 107 [.ptr 0 0 0] (bldH true s) (fun h => h < 2) (fun r H => r = .str s ∧ H = [some ⟨161, .box [.ptr 0 0 0, .sl 1 0 s.length]⟩, none]) := by
 refine zC (P := Tryz.prog) (fn := Tryz.f107) Y Y (by kernel_rfl) Y (fun c hR hfix => ?_)
 have hpos : 0 < s.length := List.length_pos_iff.2 h0
 refine rn0 ?_
 refine zz (by kernel_rfl) ?_
 refine zI 0 Y (by kernel_rfl) (by kernel_rfl) (by kernel_rfl) Y (zU Y) Y ?_
 refine zI 1 Y (by kernel_rfl) (by kernel_rfl) (by kernel_rfl) Y (zAW Y) Y ?_
 refine zI 2 Y (by kernel_rfl) (by kernel_rfl) (by kernel_rfl) Y (zJ Y Y Y Y Y Y) Y ?_
 refine zI 5 Y (by kernel_rfl) (by kernel_rfl) (by kernel_rfl) Y (zU Y) Y ?_
 refine zI 6 Y (by kernel_rfl) (by kernel_rfl) (by kernel_rfl) Y (zAW Y) Y ?_
 refine zI 7 Y (by kernel_rfl) (by kernel_rfl) (by kernel_rfl) Y (zJ Y Y Y Y Y Y) Y ?_
 apply zBf [(7, .ptr 1 0 0), (12, .int .i64 (s.length : Nat))]
 ·intro fin
  refine zD (is := [3, 8]) (by kernel_rfl) (by simp) Y ⟨fun o ho => ?_, fun o ho => ?_, trivial⟩
  all_goals (cases ho)
  ·refine zCM ?_
   refine zI 4 Y (by kernel_rfl) (by kernel_rfl) (by kernel_rfl) Y (zGN (h := 1) (n := s.length) Y hpos) Y ?_
   refine zD (is := [8]) (by kernel_rfl) (by simp) Y ⟨fun o ho => ?_, trivial⟩
   all_goals (cases ho)
   refine zCM ?_
   refine zI 9 Y (by kernel_rfl) (by kernel_rfl) (by kernel_rfl) Y (zBi Y Y Y) Y ?_
   exact fin _ ⟨Y, Y, trivial⟩
  ·refine zCM ?_
   refine zI 9 Y (by kernel_rfl) (by kernel_rfl) (by kernel_rfl) Y (zBi Y Y Y) Y ?_
   refine zD (is := [3]) (by kernel_rfl) (by simp) Y ⟨fun o ho => ?_, trivial⟩
   all_goals (cases ho)
   refine zCM ?_
   refine zI 4 Y (by kernel_rfl) (by kernel_rfl) (by kernel_rfl) Y (zGN (h := 1) (n := s.length) Y hpos) Y ?_
   exact fin _ ⟨Y, Y, trivial⟩
 refine zD (is := [10]) (by kernel_rfl) (by simp) Y ⟨fun o ho => ?_, trivial⟩
 all_goals (cases ho)
 skip
 refine ax_ustr (h := 1) (l := s) Y (by kernel_rfl) Y Y Y Y Y (zIN s) (fun i hi => congrArg (AV.int .u8) (zIu s i hi)) h0 (by omega) ?_
 refine zCM ?_
 refine zI 11 Y (by kernel_rfl) (by kernel_rfl) (by kernel_rfl) Y (zT Y) Y ?_
 refine zr (by kernel_rfl) ?_
 refine rn0 ?_
 exact zE hR Y ⟨Y, Y⟩
end Go.Proofs.YtkncmbklkhjmgaaGreatDoor
namespace Go.Proofs
open Go.Shelf
def Tryz.laysM316_ren : Go.Shelf.Ren := ⟨fun | 316 => 235 | n => n, fun | 9 => 9 | 3 => 3 | 4 => 4 | 37 => 159 | 0 => 0 | 127 => 250 | 5 => 5 | n => n, fun | n => n⟩
theorem Tryz.laysM316 : Go.Proofs.LaysM.n316 Tryz.prog Tryz.laysM316_ren := {
 mixed := by kernel_rfl
 f316 := Tryz.func235.trans (congrArg some (by kernel_rfl))
 t0 := Tryz.underlying0
 a0 := Tryz.isAgg0
 z0 := Tryz.sizeOf0
 v0 := Tryz.zeroValue0
 t3 := Tryz.underlying3
 a3 := Tryz.isAgg3
 z3 := Tryz.sizeOf3
 v3 := Tryz.zeroValue3
 t4 := Tryz.underlying4
 a4 := Tryz.isAgg4
 z4 := Tryz.sizeOf4
 v4 := Tryz.zeroValue4
 t9 := Tryz.underlying9
 a9 := Tryz.isAgg9
 z9 := Tryz.sizeOf9
 v9 := Tryz.zeroValue9
 t37 := Tryz.underlying159
 a37 := Tryz.isAgg159
 z37 := Tryz.sizeOf159
 v37 := Tryz.zeroValue159
 t127 := Tryz.underlying250
 a127 := Tryz.isAgg250
 z127 := Tryz.sizeOf250
 v127 := Tryz.zeroValue250
 t5 := Tryz.underlying5
 a5 := Tryz.isAgg5
 z5 := Tryz.sizeOf5
 v5 := Tryz.zeroValue5
 i0 := by kernel_rfl
 i3 := by kernel_rfl
 i4 := by kernel_rfl
 i5 := by kernel_rfl
 i9 := by kernel_rfl
 i37 := by kernel_rfl
 i127 := by kernel_rfl }
open Go.RowKit in
/-- internal/stringslite.Clone (what strings.Clone calls): "Clone returns a fresh copy of s.": THE SAME BYTES. Of what was there nothing has turned (a new row is laid, and frozen, where s is not empty). (LAID: no walk: one application.) -/
theorem Tryz.stringslite_Clone (s : ByteArray) (w : World) (hlim : s.size ≤ 281474976710656) :
 Calls Tryz.prog 235 #[.string s] w fun e w' => e = .returned (.string s) ∧ Below w.heap.size w w' := Any.stringslite_Clone Tryz.laysM316 s w hlim
end Go.Proofs
namespace Go.Proofs.YtkncmbklkhjmgaaGreatDoor
open Go.Ax Go.RowKit Go.Ax.Idx Go.Ax.Cd Go.Ax.Tb Go.Ax.Bg
attribute [local irreducible] Ax zAO QOp zK zAN
theorem sclone1 (s : List UInt8) (h : s.length ≤ 281474976710656) : zN Tryz.prog 235 [.str s] (.str s) := by
 refine zN.of_below ⟨Tryz.f235, Y, by kernel_rfl, Y⟩ Y Y (fun w S vals hG hS hv => ?_)
 obtain ⟨x, rfl, a⟩ := vals1 hv
 have hx : x = zD2 s := by cases a; rfl
 subst hx
 have hsz : (⟨s.toArray⟩ : ByteArray).size = s.length := by simp [ByteArray.size]
 refine (Tryz.stringslite_Clone ⟨s.toArray⟩ w (by rw [hsz]; exact h)).mono ?_
 rintro e w' ⟨rfl, hb⟩
 exact ⟨_, Y, hb, .str _ _⟩
theorem sclone (s : List UInt8) (h : s.length ≤ 281474976710656) : zN Tryz.prog 180 [.str s] (.str s) := by
 refine zK.value0 (zC (P := Tryz.prog) (fn := Tryz.f180) Y Y (by kernel_rfl) Y (fun c hR hfix => ?_)) (fix := fun _ => False) (fun _ h => h) Y Y
 refine rn0 ?_
 refine zA Y Y Y (sclone1 s h) ?_
 refine rn0 ?_
 exact zE hR Y Y
def cutE (b : UInt8) (s : List UInt8) : List UInt8 × Bool := if zFS b s = true then (s.take (s.length - 1), true) else (s, false)
theorem cutsuf1 (s : List UInt8) (b : UInt8) (h : s.length ≤ 281474976710656) : zN Tryz.prog 174 [.str s, .str [b]] (.tup [.str (cutE b s).1, .bool (cutE b s).2]) := by
 have c1 := suffixI s b h
 refine zK.value0 (zC (P := Tryz.prog) (fn := Tryz.f174) Y Y (by kernel_rfl) Y (fun c hR hfix => ?_)) (fix := fun _ => False) (fun _ h => h) Y Y
 unfold cutE at hR
 have hne : zFS b s = true → 0 < s.length := fun e => by
  unfold zFS at e
  rw [decide_eq_true_eq] at e
  have := congrArg List.length e
  rw [List.length_drop] at this
  have h1 : ([b] : List UInt8).length = 1 := rfl
  omega
 generalize zFS b s = e at *
 cases e
 ·refine rn0 ?_
  refine zA Y Y Y c1 ?_
  refine rn5 ?_
  exact zE hR Y Y
 ·have hpos := hne rfl
  have hb1 : ([b] : List UInt8).length = 1 := rfl
  refine rn0 ?_
  refine zA Y Y Y c1 ?_
  refine rn16 ?_
  refine zE hR Y ?_
  have e1 : ((s.length : Int) - ([b] : List UInt8).length).toNat = s.length - 1 := by omega
  simp [zAX]
theorem cutsuf (s : List UInt8) (b : UInt8) (h : s.length ≤ 281474976710656) : zN Tryz.prog 100 [.str s, .str [b]] (.tup [.str (cutE b s).1, .bool (cutE b s).2]) := by
 have c1 := cutsuf1 s b h
 refine zK.value0 (zC (P := Tryz.prog) (fn := Tryz.f100) Y Y (by kernel_rfl) Y (fun c hR hfix => ?_)) (fix := fun _ => False) (fun _ h => h) Y Y
 generalize cutE b s = q at *
 refine rn0 ?_
 refine zA Y Y Y c1 ?_
 refine rn2 ?_
 exact zE hR Y Y
theorem lenB (a : Bool) (s : List UInt8) : zK Tryz.prog 106 [.ptr 0 0 0] (bldH a s) (fun h => h < 2) (fun r H => r = .int .i64 (s.length : Nat) ∧ H = bldH a s) := by
 refine zC (P := Tryz.prog) (fn := Tryz.f106) Y Y (by kernel_rfl) Y (fun c hR hfix => ?_)
 refine rn8 ?_
 exact zE hR Y ⟨Y, Y⟩
end Go.Proofs.YtkncmbklkhjmgaaGreatDoor
namespace Go.Ax.Rt
open Go.Ax.Bg
open Go.Ax.Tb (zAa zAd zAv zAR cutF_no zK4 zBQ)
def zCR : List UInt8 → Bool
 | c :: _ => decide (c = 45)
 | [] => false
def zDQ (s : List UInt8) : List UInt8 := if zCR s then s.drop 1 else s
def zCw (s : List UInt8) : List UInt8 := (zAR 47 (zDQ s)).1
def zCo (s : List UInt8) : List UInt8 := (zAR 47 (zDQ s)).2.1
def zEq (s : List UInt8) : Bool := (zAR 47 (zDQ s)).2.2
/-- rat.Check -/
def zC7 (s : List UInt8) : Int :=
 if zDH (zCw s) = false ∨ (zEq s = true ∧ zDH (zCo s) = false) ∨ (zCR s = true ∧ zCw s = [48]) then 5
 else if 2000 < (zCw s).length ∨ 2000 < (zCo s).length then 2
 else if zEq s = true ∧ (zCo s = [48] ∨ zCo s = [49] ∨ Nat.gcd (zAG 0 (zCw s)) (zAG 0 (zCo s)) ≠ 1) then 3 else 0
def denV (s : List UInt8) : Nat := if zEq s then zAG 0 (zCo s) else 1
def zAl (s : List UInt8) : Rat := Rat.divInt (zDM (zCR s) (zAG 0 (zCw s))) (denV s : Nat)
def zAM (q : Rat) : List UInt8 := (if q.num < 0 then [45] else []) ++ (Lib.decDigits q.num.natAbs ++ (if q.den = 1 then [] else 47 :: Lib.decDigits q.den))
def zCJ (q : Rat) : Bool := decide ((Lib.decDigits q.num.natAbs).length ≤ 2000) && decide ((Lib.decDigits q.den).length ≤ 2000)
theorem zFx (b : UInt8) : ∀ l : List UInt8, l = (zAR b l).1 ++ (if (zAR b l).2.2 then b :: (zAR b l).2.1 else [])
 | [] => rfl
 | c :: r => by
  rw [zAR]
  split
  ·rename_i h; subst h; simp
  ·have := zFx b r
   simp only [List.cons_append, List.cons.injEq, true_and]
   exact this
theorem zI1 {b : UInt8} : ∀ {l : List UInt8}, (zAR b l).2.2 = false → (zAR b l).2.1 = []
 | [], _ => rfl
 | c :: r, h => by
  rw [zAR] at h ⊢
  split at h
  ·cases h
  ·rename_i h1
   rw [if_neg h1]
   exact zI1 (l := r) h
structure Parts (s : List UInt8) (q : Rat) : Prop where
 num : q.num = zDM (zCR s) (zAG 0 (zCw s))
 den : q.den = denV s
 cn : zD3 (zCw s)
 cd : zEq s = true → zD3 (zCo s) ∧ zAG 0 (zCo s) ≠ 0 ∧ zAG 0 (zCo s) ≠ 1
 ln : (zCw s).length ≤ 2000
 ld : (zCo s).length ≤ 2000
 ng : zCR s = true → zAG 0 (zCw s) ≠ 0
theorem zIc {s : List UInt8} {n : Nat} (hc : zD3 s) (hn : n < 10) (h : zAG 0 s = n) : s = [UInt8.ofNat (48 + n)] := by
 rw [← zCl hc, h, Lib.decDigits_one hn]
theorem zEd {s : List UInt8} (h : zEq s = false) : denV s = 1 := by unfold denV; rw [h]; rfl
theorem zDS {s : List UInt8} (h : zEq s = true) : denV s = zAG 0 (zCo s) := by unfold denV; rw [h]; rfl
theorem zCe {s : List UInt8} (h : zC7 s = 0) : Parts s (zAl s) := by
 unfold zC7 at h
 split at h
 ·omega
 split at h
 ·omega
 split at h
 ·omega
 rename_i h1 h2 h3
 simp only [not_or, not_and, Bool.not_eq_false] at h1 h2 h3
 obtain ⟨a1, a2, a3⟩ := h1
 have cn := zCk.1 a1
 have cd : zEq s = true → zD3 (zCo s) ∧ zAG 0 (zCo s) ≠ 0 ∧ zAG 0 (zCo s) ≠ 1 := fun hd => by
  have c := zCk.1 (a2 hd)
  exact ⟨c, fun e => (h3 hd).1 (zIc c (by decide) e), fun e => (h3 hd).2.1 (zIc c (by decide) e)⟩
 have hd0 : denV s ≠ 0 := by
  cases e : zEq s
  ·rw [zEd e]; decide
  ·rw [zDS e]; exact (cd e).2.1
 have hg : Nat.gcd (zAG 0 (zCw s)) (denV s) = 1 := by
  cases e : zEq s
  ·rw [zEd e]; exact Nat.gcd_one_right _
  ·rw [zDS e]; exact Classical.not_not.1 (h3 e).2.2
 obtain ⟨e1, e2, e3⟩ := zFU (zDM (zCR s) (zAG 0 (zCw s))) (denV s) hd0
 rw [zC3, hg, Nat.div_one] at e1
 rw [zC3, hg, Nat.div_one] at e2
 refine ⟨?_, e2, cn, cd, by omega, by omega, fun hn e => a3 hn (zIc cn (by decide) e)⟩
 show (Rat.divInt _ _).num = _
 have := zC3 (zCR s) (zAG 0 (zCw s))
 omega
theorem neg_body {s : List UInt8} : s = (if zCR s then [45] else []) ++ zDQ s := by
 unfold zDQ
 cases s with
 | nil => rfl
 | cons c r =>
  unfold zCR
  by_cases h : c = 45
  ·subst h; rfl
  ·simp [h]
theorem Parts.text {s : List UInt8} {q : Rat} (h : Parts s q) : zAM q = s := by
 conv => rhs; rw [neg_body (s := s), zFx 47 (zDQ s)]
 change zAM q = _ ++ (zCw s ++ if zEq s then 47 :: zCo s else [])
 unfold zAM
 rw [h.num, h.den, zC3, zCl h.cn]
 congr 1
 ·have := zHG (zCR s) (zAG 0 (zCw s))
  cases e : zCR s
  ·rw [e] at this; simp at this
   rw [if_neg (by simpa [e] using this)]; rfl
  ·rw [e] at this
   have hn := h.ng e
   simp [hn] at this
   rw [if_pos this]; rfl
 ·congr 1
  cases e : zEq s
  ·rw [zEd e]; rfl
  ·obtain ⟨c, c0, c1⟩ := h.cd e
   rw [zDS e, if_neg c1, zCl c]; rfl
/-- rat.CheckAll -/
def zD0 : List (List UInt8) → Int
 | [] => 0
 | s :: r => if zC7 s = 0 then zD0 r else zC7 s
theorem zDP : ∀ {l : List (List UInt8)}, zD0 l = 0 → ∀ s ∈ l, zC7 s = 0
 | [], _, s, h => by simp at h
 | a :: r, h, s, hs => by
  rw [zD0] at h
  split at h
  ·rename_i h1
   rcases List.mem_cons.1 hs with e | e
   ·rw [e]; exact h1
   ·exact zDP h s e
  ·contradiction
def zBb (l : List Rat) : List (List UInt8) × Int := if l.all zCJ then (l.map zAM, 0) else ([], 2)
def zHM : Rat → List Rat → Rat × Int
 | acc, [] => (acc, 0)
 | acc, q :: r => if zCJ (acc + q) then zHM (acc + q) r else (acc + q, 2)
def zFk (l : List (List UInt8)) : Rat × Int := if 256 < l.length then (0, 2) else if zD0 l = 0 then zHM 0 (l.map zAl) else (0, zD0 l)
def posE (l : List (List UInt8)) : Int := if (zFk l).2 = 0 ∧ l.any zCR = true then 4 else (zFk l).2
def zGK (l : List (List UInt8)) : Int := if posE l = 0 then (if cmpQ (zFk l).1 1 = 0 then 0 else 3) else posE l
theorem zLA {q : Rat} (h : zCJ q = true) : (zL q.num.natAbs).length ≤ 2000 ∧ (zL q.den).length ≤ 2000 := by
 unfold zCJ at h
 rw [Bool.and_eq_true, decide_eq_true_eq, decide_eq_true_eq] at h
 have key : ∀ (n m : Nat), (Lib.decDigits n).length ≤ m → (zL n).length ≤ m := fun n m hl => by
  refine z8 (Nat.lt_of_lt_of_le (zDT n) ?_)
  exact Nat.le_trans (Nat.pow_le_pow_right (by decide) hl) (Nat.pow_le_pow_left (by decide) m)
 exact ⟨key _ _ h.1, key _ _ h.2⟩
end Go.Ax.Rt
namespace Go.Proofs.YtkncmbklkhjmgaaGreatDoor
open Go.Ax Go.Ax.Bg Go.Ax.Rt Go.RowKit
attribute [local irreducible] Ax zAO QOp zK zAN
open Go.Ax.Tb (zAR zGp zI2)
theorem zLW (s : List UInt8) : zFZ s [45] = zCR s := by
 unfold zFZ zCR
 cases s with
 | nil => rfl
 | cons c r => simp
theorem zIt (s : List UInt8) : (zDQ s).length ≤ s.length := by
 unfold zDQ; split
 ·simp
 ·exact Nat.le_refl _
theorem zMC (s : List UInt8) : (zCw s).length ≤ s.length ∧ (zCo s).length ≤ s.length := by
 have h := zI2 47 (zDQ s)
 have h2 := zIt s
 unfold zCw zCo
 omega
theorem cutNeg (s : List UInt8) (hs : s.length ≤ 9223372036854775807) : zN Tryz.prog 77 [.str s, .str [45]] (.tup [.str (zDQ s), .bool (zCR s)]) := by
 have h := cutP s [45] hs (by decide)
 rw [zLW] at h
 exact h
theorem cutBar (s : List UInt8) (hs : s.length ≤ 9223372036854775807) : zN Tryz.prog 78 [.str (zDQ s), .str [47]] (.tup [.str (zCw s), .str (zCo s), .bool (zEq s)]) :=
 cutS (zDQ s) 47 (Nat.le_trans (zIt s) hs)
theorem zG1 (s : List UInt8) (hs : s.length ≤ 9223372036854775807) (h : zC7 s = 0) : zN Tryz.prog 70 [.str s] (qA (zAl s)) := by
 have hp := zCe h
 have h1 := cutNeg s (by omega)
 have h2 := cutBar s hs
 have h3 := zGY (zCw s) hp.cn.2.1 (by have := hp.ln; omega)
 have h4 := zDm (zCR s) (zAG 0 (zCw s))
 rw [← hp.num] at h4
 unfold qA
 rw [hp.den]
 cases e : zEq s
 ·rw [e] at h2
  rw [zEd e, zJG]
  refine zK.value0 (zC (P := Tryz.prog) (fn := Tryz.f70) Y Y (by kernel_rfl) Y (fun c hR hfix => ?_)) (fix := fun _ => False) (fun _ h => h) Y Y
  refine rn4 ?_
  refine zA Y Y Y h1 ?_
  refine rn2 ?_
  refine zA Y Y Y h2 ?_
  refine rn2 ?_
  refine zA Y Y Y h3 ?_
  skip
  refine zA Y Y Y h4 ?_
  unfold zBC
  refine rn8 ?_
  refine sa1 (c' := .box [.bool (decide ((zAl s).num < 0)), zg (zAl s).num.natAbs, .ro (.ints .u32 [1]) 0 1]) Y Y Y Y Y Y Y ?_
  refine rn6 ?_
  refine sa1 (c' := .box [.bool (decide ((zAl s).num < 0)), zg (zAl s).num.natAbs, .ro (.ints .u32 [1]) 0 1]) Y Y Y Y Y Y Y ?_
  refine rn0 ?_
  exact zE hR Y Y
 ·rw [e] at h2
  rw [zDS e]
  have h5 := zGY (zCo s) (hp.cd e).1.2.1 (by have := hp.ld; omega)
  refine zK.value0 (zC (P := Tryz.prog) (fn := Tryz.f70) Y Y (by kernel_rfl) Y (fun c hR hfix => ?_)) (fix := fun _ => False) (fun _ h => h) Y Y
  refine rn4 ?_
  refine zA Y Y Y h1 ?_
  refine rn2 ?_
  refine zA Y Y Y h2 ?_
  refine rn2 ?_
  refine zA Y Y Y h3 ?_
  skip
  refine zA Y Y Y h4 ?_
  unfold zBC
  refine rn8 ?_
  refine sa1 (c' := .box [.bool (decide ((zAl s).num < 0)), zg (zAl s).num.natAbs, .ro (.ints .u32 [1]) 0 1]) Y Y Y Y Y Y Y ?_
  refine rn5 ?_
  refine zA Y Y Y h5 ?_
  refine rn9 ?_
  refine sa1 (c' := .box [.bool (decide ((zAl s).num < 0)), zg (zAl s).num.natAbs, zg (zAG 0 (zCo s))]) Y Y Y Y Y Y Y ?_
  refine rn0 ?_
  exact zE hR Y Y
theorem qtext_ok (q : Rat) (hq : Sz 100000 q) : zN Tryz.prog 152 [qA q] (.str (zAM q)) := by
 have h1 := zGb q.num.natAbs (by have := hq.1; omega)
 have h2 := one_ok q.den
 have h3 := zGb q.den (by have := hq.2; omega)
 unfold zAM
 have l1 := zBn hq.1 (by decide)
 have l2 := zBn hq.2 (by decide)
 refine zK.value0 (zC (P := Tryz.prog) (fn := Tryz.f152) Y Y (by kernel_rfl) Y (fun c hR hfix => ?_)) (fix := fun _ => False) (fun _ h => h) Y Y
 by_cases hn : q.num < 0 <;> by_cases hd : q.den = 1
 ·rw [if_pos hn, if_pos hd] at hR
  rw [decide_eq_true hd] at h2
  unfold qA
  rw [decide_eq_true hn]
  refine rn6 ?_
  refine zA Y Y Y h1 ?_
  refine rn5 ?_
  refine zF (zAP Y Y (by show ([45] : List UInt8).length + _ ≤ _; simp only [List.length_cons, List.length_nil, List.length_append]; omega)) ?_
  refine rn5 ?_
  refine zA Y Y Y h2 ?_
  refine rn5 ?_
  refine zE hR Y ?_
  simp [zAX]
 ·rw [if_pos hn, if_neg hd] at hR
  rw [decide_eq_false hd] at h2
  unfold qA
  rw [decide_eq_true hn]
  refine rn6 ?_
  refine zA Y Y Y h1 ?_
  refine rn5 ?_
  refine zF (zAP Y Y (by show ([45] : List UInt8).length + _ ≤ _; simp only [List.length_cons, List.length_nil, List.length_append]; omega)) ?_
  refine rn5 ?_
  refine zA Y Y Y h2 ?_
  refine rn5 ?_
  refine zA Y Y Y h3 ?_
  skip
  refine zF (zAP Y Y (by show ([47] : List UInt8).length + _ ≤ _; simp only [List.length_cons, List.length_nil, List.length_append]; omega)) ?_
  refine zF (zAP (b := 47 :: Lib.decDigits q.den) Y Y (by simp only [List.length_cons, List.length_nil, List.length_append]; omega)) ?_
  refine rn0 ?_
  refine zE hR Y ?_
  simp [zAX]
 ·rw [if_neg hn, if_pos hd] at hR
  rw [decide_eq_true hd] at h2
  unfold qA
  rw [decide_eq_false hn]
  refine rn6 ?_
  refine zA Y Y Y h1 ?_
  refine rn5 ?_
  refine zA Y Y Y h2 ?_
  refine rn5 ?_
  refine zE hR Y ?_
  simp [zAX]
 ·rw [if_neg hn, if_neg hd] at hR
  rw [decide_eq_false hd] at h2
  unfold qA
  rw [decide_eq_false hn]
  refine rn6 ?_
  refine zA Y Y Y h1 ?_
  refine rn5 ?_
  refine zA Y Y Y h2 ?_
  refine rn5 ?_
  refine zA Y Y Y h3 ?_
  skip
  refine zF (zAP Y Y (by show ([47] : List UInt8).length + _ ≤ _; simp only [List.length_cons, List.length_nil, List.length_append]; omega)) ?_
  refine zF (zAP (b := 47 :: Lib.decDigits q.den) Y Y (by simp only [List.length_cons, List.length_nil, List.length_append]; omega)) ?_
  refine rn0 ?_
  refine zE hR Y ?_
  simp [zAX]
end Go.Proofs.YtkncmbklkhjmgaaGreatDoor
namespace Go.Proofs.YtkncmbklkhjmgaaGreatDoor
open Go.Ax Go.Ax.Bg Go.Ax.Rt Go.RowKit
attribute [local irreducible] Ax zAO QOp zK zAN
theorem zKx {n k m : Nat} (h : k < (zL n).length) (hm : m ≤ 9 * k) : m < (Lib.decDigits n).length := by
 rcases Nat.lt_or_ge m (Lib.decDigits n).length with q | q
 ·exact q
 exfalso
 have h1 := zDT n
 have h2 : 10 ^ (Lib.decDigits n).length ≤ 10 ^ (9 * k) := Nat.pow_le_pow_right (by decide) (by omega)
 have h3 : 10 ^ (9 * k) ≤ B ^ k := by rw [Nat.pow_mul]; exact Nat.pow_le_pow_left (by decide) k
 have h4 : ¬ n < B ^ k := fun h5 => by have := z8 h5; omega
 omega
theorem zIY (q : Rat) (hq : Sz 100000 q) : zN Tryz.prog 151 [qA q, .int .i64 2000] (.bool (zCJ q)) := by
 have h1 := zGb q.num.natAbs (by have := hq.1; omega)
 have h3 := zGb q.den (by have := hq.2; omega)
 have l1 := zBn hq.1 (by decide)
 have l2 := zBn hq.2 (by decide)
 have g1 := hq.1
 have g2 := hq.2
 have b1 := @zKx q.num.natAbs 224 2000
 have b2 := @zKx q.den 224 2000
 unfold zCJ
 refine zK.value0 (zC (P := Tryz.prog) (fn := Tryz.f151) Y Y (by kernel_rfl) Y (fun c hR hfix => ?_)) (fix := fun _ => False) (fun _ h => h) Y Y
 unfold qA
 unfold zg at h1 h3 ⊢
 refine rn15 ?_
 refine zB Y (fun h0 => ?_) (fun h0 => ?_)
 ·refine rn2 ?_
  refine zE hR Y ?_
  have h5 : 224 < (zL q.num.natAbs).length ∨ 224 < (zL q.den).length := by
   split at h0 <;> omega
  have h6 : ¬ ((Lib.decDigits q.num.natAbs).length ≤ 2000 ∧ (Lib.decDigits q.den).length ≤ 2000) := by
   rcases h5 with h5 | h5
   ·have := b1 h5 (by decide); omega
   ·have := b2 h5 (by decide); omega
  rw [← Bool.decide_and, decide_eq_false h6]
  rfl
 ·refine rn5 ?_
  refine zA Y Y Y h1 ?_
  refine rn8 ?_
  refine zW Y Y (fun h5 => ?_) (fun h5 => ?_)
  ·refine rn5 ?_
   refine zA Y Y Y h3 ?_
   refine rn8 ?_
   refine zE hR Y ?_
   rw [show decide ((Lib.decDigits q.num.natAbs).length ≤ 2000) = true from decide_eq_true (by omega), Bool.true_and]
   show AV.bool _ = AV.bool _
   rw [show decide (((Lib.decDigits q.den).length : Int) ≤ 2000) = decide ((Lib.decDigits q.den).length ≤ 2000) from by rw [decide_eq_decide]; omega]
  ·refine rn6 ?_
   refine zE hR Y ?_
   rw [show decide ((Lib.decDigits q.num.natAbs).length ≤ 2000) = false from decide_eq_false (by omega), Bool.false_and]
   rfl
theorem zLU (q : Rat) (hq : Sz 100000 q) (h : zCJ q = true) : zN Tryz.prog 69 [qA q] (.tup [.str (zAM q), .int .i64 0]) := by
 have h1 := zIY q hq
 have h2 := qtext_ok q hq
 rw [h] at h1
 refine zK.value0 (zC (P := Tryz.prog) (fn := Tryz.f69) Y Y (by kernel_rfl) Y (fun c hR hfix => ?_)) (fix := fun _ => False) (fun _ h => h) Y Y
 refine rn6 ?_
 refine zA Y Y Y h1 ?_
 refine rn6 ?_
 refine zA Y Y Y h2 ?_
 refine rn0 ?_
 exact zE hR Y Y
theorem out_no (q : Rat) (hq : Sz 100000 q) (h : zCJ q = false) : zN Tryz.prog 69 [qA q] (.tup [.str [], .int .i64 2]) := by
 have h1 := zIY q hq
 rw [h] at h1
 refine zK.value0 (zC (P := Tryz.prog) (fn := Tryz.f69) Y Y (by kernel_rfl) Y (fun c hR hfix => ?_)) (fix := fun _ => False) (fun _ h => h) Y Y
 refine rn6 ?_
 refine zA Y Y Y h1 ?_
 refine rn5 ?_
 exact zE hR Y Y
theorem zIC (s : List UInt8) (hs : s.length ≤ 9223372036854775807) : zN Tryz.prog 27 [.str s] (.int .i64 (zC7 s)) := by
 have h1 := cutNeg s (by omega)
 have h2 := cutBar s hs
 obtain ⟨ln, ld⟩ := zMC s
 have h3 := zHl (zCw s) (by omega)
 have h4 := zHl (zCo s) (by omega)
 have cn := @zCk (zCw s)
 have cd := @zCk (zCo s)
 unfold zC7
 generalize zCw s = n at *
 generalize zCo s = d at *
 generalize zEq s = ok at *
 generalize zCR s = ng at *
 generalize zDQ s = b at *
 generalize zDH n = p at *
 generalize zDH d = q at *
 refine zK.value0 (zC (P := Tryz.prog) (fn := Tryz.f27) Y Y (by kernel_rfl) Y (fun c hR hfix => ?_)) (fix := fun _ => False) (fun _ h => h) Y Y
 refine rn0 ?_
 refine zA Y Y Y h1 ?_
 refine rn2 ?_
 refine zA Y Y Y h2 ?_
 refine zCN ?_
 by_cases hsyn : p = false ∨ (ok = true ∧ q = false) ∨ (ng = true ∧ n = [48])
 ·rw [if_pos hsyn] at hR
  cases p
  ·refine rn0 ?_
   refine zA Y Y Y h3 ?_
   refine rn16 ?_
   exact zE hR Y Y
  ·cases ok
   ·obtain ⟨hng, hn⟩ : ng = true ∧ n = [48] := by simpa using hsyn
    subst hng
    subst hn
    refine rn0 ?_
    refine zA Y Y Y h3 ?_
    refine rn6 ?_
    exact zE hR Y Y
   ·cases q
    ·refine rn0 ?_
     refine zA Y Y Y h3 ?_
     refine rn5 ?_
     refine zA Y Y Y h4 ?_
     refine rn16 ?_
     exact zE hR Y Y
    ·obtain ⟨hng, hn⟩ : ng = true ∧ n = [48] := by simpa using hsyn
     subst hng
     subst hn
     refine rn0 ?_
     refine zA Y Y Y h3 ?_
     refine rn5 ?_
     refine zA Y Y Y h4 ?_
     refine rn6 ?_
     exact zE hR Y Y
 rw [if_neg hsyn] at hR
 apply zAD (H := []) [(5, .str n), (6, .str d), (7, .bool ok)]
 ·intro fin
  cases p
  ·exact absurd (.inl Y) hsyn
  cases ok
  ·cases ng
   ·refine rn0 ?_
    refine zA Y Y Y h3 ?_
    refine zCN ?_
    exact fin _ ⟨Y, Y, Y, trivial⟩
   ·refine rn0 ?_
    refine zA Y Y Y h3 ?_
    refine zCN ?_
    refine zB Y (fun h0 => absurd (.inr (.inr ⟨Y, h0⟩)) hsyn) (fun h0 => ?_)
    refine zCN ?_
    exact fin _ ⟨Y, Y, Y, trivial⟩
  ·cases q
   ·exact absurd (.inr (.inl ⟨Y, Y⟩)) hsyn
   cases ng
   ·refine rn0 ?_
    refine zA Y Y Y h3 ?_
    refine rn5 ?_
    refine zA Y Y Y h4 ?_
    refine zCN ?_
    exact fin _ ⟨Y, Y, Y, trivial⟩
   ·refine rn0 ?_
    refine zA Y Y Y h3 ?_
    refine rn5 ?_
    refine zA Y Y Y h4 ?_
    refine zCN ?_
    refine zB Y (fun h0 => absurd (.inr (.inr ⟨Y, h0⟩)) hsyn) (fun h0 => ?_)
    refine zCN ?_
    exact fin _ ⟨Y, Y, Y, trivial⟩
 by_cases hl : 2000 < n.length ∨ 2000 < d.length
 ·rw [if_pos hl] at hR
  refine rn6 ?_
  refine zW Y Y (fun h5 => ?_) (fun h5 => ?_)
  ·refine rn6 ?_
   exact zE hR Y Y
  ·refine rn6 ?_
   refine zB Y (fun h0 => ?_) (fun h0 => absurd hl (by omega))
   refine rn2 ?_
   exact zE hR Y Y
 rw [if_neg hl] at hR
 refine rn6 ?_
 refine zW Y Y (fun h5 => absurd hl (by omega)) (fun h5 => ?_)
 refine rn6 ?_
 refine zB Y (fun h0 => absurd hl (by omega)) (fun h0 => ?_)
 cases ok
 ·rw [if_neg (fun h => Bool.false_ne_true h.1)] at hR
  refine zHD ?_
  exact zE hR Y Y
 have hp : p = true := by cases p; exact absurd (.inl rfl) hsyn; rfl
 have hq : q = true := by cases q; exact absurd (.inr (.inl ⟨rfl, rfl⟩)) hsyn; rfl
 have c1 := cn.1 hp
 have c2 := cd.1 hq
 have h6 := zGY n c1.2.1 (by omega)
 have h7 := zGY d c2.2.1 (by omega)
 have v1 : (zL (zAG 0 n)).length ≤ 2000 := zGc c1 (by omega)
 have v2 : (zL (zAG 0 d)).length ≤ 2000 := zGc c2 (by omega)
 have h8 := gcd_ok (zAG 0 n) (zAG 0 d) (by omega) (by omega)
 have h9 := one_ok (Nat.gcd (zAG 0 n) (zAG 0 d))
 refine rn6 ?_
 refine zW Y Y (fun h10 => ?_) (fun h10 => ?_)
 ·rw [if_pos ⟨rfl, .inl h10⟩] at hR
  refine rn6 ?_
  exact zE hR Y Y
 ·refine rn6 ?_
  refine zW Y Y (fun h11 => ?_) (fun h11 => ?_)
  ·rw [if_pos ⟨rfl, .inr (.inl h11)⟩] at hR
   refine rn6 ?_
   exact zE hR Y Y
  ·by_cases hg : Nat.gcd (zAG 0 n) (zAG 0 d) = 1
   ·rw [decide_eq_true hg] at h9
    rw [if_neg (fun h => by rcases h.2 with e | e | e; exact h10 e; exact h11 e; exact e hg)] at hR
    refine rn2 ?_
    refine zA Y Y Y h6 ?_
    refine rn2 ?_
    refine zA Y Y Y h7 ?_
    repeat (refine zAF rfl rfl ?_)
    refine zA Y Y Y h8 ?_
    repeat (refine zAF rfl rfl ?_)
    refine zA Y Y Y h9 ?_
    refine rn5 ?_
    exact zE hR Y Y
   ·rw [decide_eq_false hg] at h9
    rw [if_pos ⟨rfl, .inr (.inr hg)⟩] at hR
    refine rn2 ?_
    refine zA Y Y Y h6 ?_
    refine rn2 ?_
    refine zA Y Y Y h7 ?_
    repeat (refine zAF rfl rfl ?_)
    refine zA Y Y Y h8 ?_
    repeat (refine zAF rfl rfl ?_)
    refine zA Y Y Y h9 ?_
    refine rn5 ?_
    exact zE hR Y Y
theorem zEe {α : Type} {l : List α} {d : α} {k : Nat} (h : k < l.length) : l.drop k = l.getD k d :: l.drop (k + 1) := by
 rw [List.drop_eq_getElem_cons h]; simp [List.getD, h]
theorem zIw (l : List (List UInt8)) (hlen : l.length ≤ 9223372036854775807) (hs : ∀ s ∈ l, s.length ≤ 9223372036854775807) : zN Tryz.prog 73 [.ro (.strs l) 0 l.length] (.int .i64 (zD0 l)) := by
 refine zK.value0 (zC (P := Tryz.prog) (fn := Tryz.f73) Y Y (by kernel_rfl) Y (fun c hR hfix => ?_)) (fix := fun _ => False) (fun _ h => h) Y Y
 refine rn3 ?_
 refine zY (ι := Nat) (fun k => [(0, .ro (.strs l) 0 l.length), (6, .ro (.strs l) 0 l.length), (7, .int .i64 (l.length : Nat)), (8, .int .i64 (k : Nat))]) (fun _ => [])
  (fun k => k ≤ l.length ∧ zD0 l = zD0 (l.drop k)) (fun k => l.length - k) 0 ⟨⟨rfl, rfl, rfl, rfl, trivial⟩, rfl, Nat.zero_le _, by rw [List.drop_zero]⟩ ?_
 intro k ⟨hk, hE⟩
 refine rn4 ?_
 refine zB Y (fun h => ?_) (fun h => ?_)
 ·have hk' : k < l.length := by omega
  have hd := zEe (d := []) hk'
  have hc := zIC (l.getD k []) (hs _ (zAx [] hk'))
  rw [hd, zD0] at hE
  refine rn9 ?_
  refine zA Y Y Y hc ?_
  refine rn3 ?_
  refine zB Y (fun h2 => ?_) (fun h2 => ?_)
  ·rw [if_neg h2] at hE
   refine rn6 ?_
   refine zE hR Y ?_
   rw [hE]; rfl
  ·rw [if_pos (Classical.not_not.1 h2)] at hE
   refine rn5 ?_
   refine zM ⟨k + 1, ⟨by omega, hE⟩, by omega, ⟨Y, Y, Y, Y, trivial⟩, Y⟩
 ·have hk' : k = l.length := by omega
  subst hk'
  rw [List.drop_length] at hE
  refine rn5 ?_
  refine zE hR Y ?_
  rw [hE]; rfl
theorem sz_v {s : List UInt8} (h : zC7 s = 0) : Sz 2000 (zAl s) := by
 have hp := zCe h
 refine ⟨?_, ?_⟩
 ·rw [hp.num, zC3]; exact zGc hp.cn hp.ln
 ·rw [hp.den]
  cases e : zEq s
  ·rw [zEd e, zEL]; decide
  ·rw [zDS e]; exact zGc (hp.cd e).1 hp.ld
theorem Sz.mono {j k : Nat} {q : Rat} (h : Sz j q) (hk : j ≤ k) : Sz k q := ⟨Nat.le_trans h.1 hk, Nat.le_trans h.2 hk⟩
theorem sz_frac {n d : Int} {k : Nat} (hd : d ≠ 0) (h1 : (zL n.natAbs).length ≤ k) (h2 : (zL d.natAbs).length ≤ k) : Sz k (Rat.divInt n d) := by
 obtain ⟨e1, e2, _⟩ := zGt n d hd
 refine ⟨?_, ?_⟩
 ·rw [e1]; exact zDE (Nat.div_le_self _ _) h1
 ·rw [e2]; exact zDE (Nat.div_le_self _ _) h2
theorem sz_add {p q : Rat} {k : Nat} (hp : Sz k p) (hq : Sz k q) : Sz (k + k + 1) (p + q) := by
 have l1 : (zL (q.den : Int).natAbs).length ≤ k := hq.2
 have l2 : (zL (p.den : Int).natAbs).length ≤ k := hp.2
 rw [← zIl]
 refine sz_frac (by have := Nat.mul_ne_zero p.den_nz q.den_nz; omega) (zI9 (zCr hp.1 l1) (zCr hq.1 l2)) ?_
 rw [Int.natAbs_natCast]
 have := zGV hp.2 hq.2
 omega
section
variable {α : Type}
theorem zJc (d : α) (n : Nat) (e : α → List AV) (ls : List α) (s : α) (cx : Cells) (h0 : ∀ j, j < n → cx.at 0 j = (e s).getD j .any) (i j : Nat) (hi : i < ls.length + 1) (hj : j < n) :
 (bif Nat.blt i ls.length then (rowE d n e ls).at i j else cx.at (0 + (i - ls.length)) j) = (rowE d n e (ls ++ [s])).at i j := by
 rcases Nat.lt_or_ge i ls.length with h | h
 ·have e1 : Nat.blt i ls.length = true := by rw [Nat.blt_eq]; exact h
  rw [e1]
  simp only [rowE, Cells.at, cond_true, List.getD, List.getElem?_append_left h]
 ·have hie : i = ls.length := by omega
  have e1 : Nat.blt i ls.length = false := by rw [← Bool.not_eq_true, Nat.blt_eq]; omega
  subst hie
  rw [e1]
  simp only [cond_false, Nat.sub_self, Nat.zero_add]
  rw [h0 j hj]
  simp [rowE, Cells.at, List.getD]
theorem zF5 (d : α) (n : Nat) (e : α → List AV) (ls : List α) (s : α) (cx : Cells) (h0 : ∀ j, j < n → cx.at 0 j = (e s).getD j .any) :
 CEq (.fn (ls.length + 1) n (fun i j => bif Nat.blt i ls.length then (rowE d n e ls).at i j else cx.at (0 + (i - ls.length)) j)) (rowE d n e (ls ++ [s])) := by
 refine ⟨by simp [rowE, Cells.len], Y, fun i j hi hj => ?_⟩
 exact (zJc d n e ls s cx h0 i j hi hj).symm
theorem zE6 (d : α) (n : Nat) (e : α → List AV) (hn : ∀ a j h, j < n → ((e a).getD j .any).forget h = (e a).getD j .any) (ls : List α) (s : α) (cx : Cells) (h0 : ∀ j, j < n → cx.at 0 j = (e s).getD j .any) (h i j : Nat) (hi : i < ls.length + 1) (hj : j < n) :
 (bif Nat.blt i ls.length then (rowE d n e ls).at i j else cx.at (0 + (i - ls.length)) j).forget h = (bif Nat.blt i ls.length then (rowE d n e ls).at i j else cx.at (0 + (i - ls.length)) j) := by
 rw [zJc d n e ls s cx h0 i j hi hj]; exact hn _ _ _ hj
theorem zDJ {β : Type} (f : α → β) (l : List α) (d : α) (k : Nat) (hk : k < l.length) : (l.take (k + 1)).map f = (l.take k).map f ++ [f (l.getD k d)] := by
 rw [List.take_succ_eq_append_getElem hk, List.map_append]; simp [List.getD, hk]
end
def zw (q : Rat) : List AV := [.bool (decide (q.num < 0)), zg q.num.natAbs, zg q.den]
abbrev qsC (l : List Rat) : Cells := rowE 0 3 zw l
theorem zFL (q : Rat) (j h : Nat) (hj : j < 3) : ((zw q).getD j .any).forget h = (zw q).getD j .any := by
 match j, hj with
 | 0, _ => rfl
 | 1, _ => rfl
 | 2, _ => rfl
theorem zE5 (l : List Rat) : zj (qsC l) := by
 intro i j _ hj
 show noRef ((zw (l.getD i 0)).getD j .any) = true
 have hj : j < 3 := hj
 match j, hj with
 | 0, _ => rfl
 | 1, _ => rfl
 | 2, _ => rfl
theorem rowQ1 (q : Rat) (j : Nat) (hj : j < 3) : (zFf 1 3 [.bool (decide (q.num < 0)), zg q.num.natAbs, zg q.den]).at 0 j = (zw q).getD j .any := by
 match j, hj with
 | 0, _ => rfl
 | 1, _ => rfl
 | 2, _ => rfl
theorem in_ok (l : List (List UInt8)) (hlen : l.length ≤ 1000000) (hs : ∀ s ∈ l, s.length ≤ 9223372036854775807 ∧ zC7 s = 0) : zN Tryz.prog 67 [.ro (.strs l) 0 l.length] (.ro (qsC (l.map zAl)) 0 l.length) := by
 refine zK.value0 (zC (P := Tryz.prog) (fn := Tryz.f67) Y Y (by kernel_rfl) Y (fun c hR hfix => ?_)) (fix := fun _ => False) (fun _ h => h) Y Y
 refine rn8 ?_
 refine zBN 3 ⟨104, qsC []⟩ Y Y ?_
 repeat (refine zt ?_)
 refine zY (ι := Nat) (fun k => [(0, .ro (.strs l) 0 l.length), (3, .sl 0 0 k), (6, .ro (.strs l) 0 l.length), (7, .int .i64 (l.length : Nat)), (8, .int .i64 (k : Nat))]) (fun k => [some ⟨104, qsC ((l.take k).map zAl)⟩])
  (fun k => k ≤ l.length) (fun k => l.length - k) 0 ⟨⟨rfl, rfl, rfl, rfl, rfl, trivial⟩, rfl, Nat.zero_le _⟩ ?_
 intro k hk
 refine rn4 ?_
 refine zB Y (fun h => ?_) (fun h => ?_)
 ·have hk' : k < l.length := by omega
  obtain ⟨b1, b2⟩ := hs _ (zAx [] hk')
  have hc := zG1 (l.getD k []) b1 b2
  have htk := zDJ zAl l [] k hk'
  have hml : ((l.take k).map zAl).length = k := by rw [List.length_map, List.length_take]; omega
  generalize (l.take k).map zAl = qs at *
  refine rn9 ?_
  refine zA Y Y Y hc ?_
  unfold qA
  repeat (refine zd rfl rfl rfl rfl rfl rfl rfl rfl rfl rfl rfl ?_)
  refine zS Y Y Y Y Y Y Y Y Y hml Y Y (by show 0 + 1 ≤ 1; omega) Y (by show (k + 1) * 56 ≤ _ ∧ _; omega) ?_ (by rw [hfix]; exact fun h => h) ?_
  ·intro i' j hi hj
   exact zE6 0 3 zw zFL qs (zAl (l.getD k [])) _ (rowQ1 _) 0 i' j hi hj
  refine zCM ?_
  refine zO ?_
  refine zFJ [some ⟨104, qsC ((l.take (k + 1)).map zAl)⟩] ?_ ?_
  ·rw [htk]
   exact zq.eqv (zF5 0 3 zw qs (zAl (l.getD k [])) _ (rowQ1 _)) zq.nil
  refine rn3 ?_
  exact zM ⟨k + 1, by omega, by omega, ⟨Y, Y, Y, Y, Y, trivial⟩, Y⟩
 ·have hk' : k = l.length := by omega
  subst hk'
  rw [List.take_length]
  refine zDc ?_
  refine zAb 0 3 l.length [] Y (zE5 _) Y (by show _ ≤ (l.map zAl).length; rw [List.length_map]; exact Nat.le_refl _) trivial ?_
  refine rn0 ?_
  exact zE hR Y Y
end Go.Proofs.YtkncmbklkhjmgaaGreatDoor
namespace Go.Proofs.YtkncmbklkhjmgaaGreatDoor
open Go.Ax Go.Ax.Bg Go.Ax.Rt Go.RowKit
attribute [local irreducible] Ax zAO QOp zK zAN
open Go.Ax.Idx Go.Ax.Cd
theorem zKE (l : List (List UInt8)) (g : FuncId) (caps : List AV) (p : List UInt8 → Bool) (hc : noRef.noRefs caps = true) (hlen : l.length ≤ 9223372036854775807) (hp : ∀ x ∈ l, zN Tryz.prog g ([.str x] ++ caps) (.bool (p x))) :
 zN Tryz.prog 189 [.ro (.strs l) 0 l.length, .fn g caps] (.int .i64 (zCK p l)) := by
 refine zK.value0 (zC (P := Tryz.prog) (fn := Tryz.f189) Y Y (by kernel_rfl) Y (fun c hR hfix => ?_)) (fix := fun _ => False) (fun _ h => h) (by simp [noRef.noRefs, noRef, hc]) Y
 refine rn3 ?_
 refine zY (ι := Nat) (fun k => [(0, .ro (.strs l) 0 l.length), (1, .fn g caps), (7, .int .i64 (l.length : Nat)), (8, .int .i64 (k : Nat))]) (fun _ => [])
  (fun k => k ≤ l.length ∧ (l.take k).any p = false) (fun k => l.length - k) 0 ⟨⟨rfl, rfl, rfl, rfl, trivial⟩, rfl, Nat.zero_le _, rfl⟩ ?_
 intro k ⟨hk, hany⟩
 refine rn4 ?_
 refine zB Y (fun h => ?_) (fun h => ?_)
 ·have hk' : k < l.length := by omega
  have hanys := zBV p l [] k hk'
  refine rn9 ?_
  refine zA Y Y Y (hp _ (zAx [] hk')) ?_
  refine rn0 ?_
  refine zDA Y (fun h2 => ?_) (fun h2 => ?_)
  ·refine rn6 ?_
   refine zE hR Y ?_
   have := zBA p l k hany hk
   rw [zA9 l [] k hk'] at this
   simp only [zCK, h2, if_true] at this
   rw [this]; simp [zAX]
  ·refine rn5 ?_
   refine zM ⟨k + 1, ⟨by omega, by rw [hanys, hany, h2]; rfl⟩, by omega, ⟨Y, Y, Y, Y, trivial⟩, Y⟩
 ·have hk' : k = l.length := by omega
  subst hk'
  refine rn5 ?_
  refine zE hR Y ?_
  have := zBA p l l.length hany hk
  rw [List.drop_length] at this
  rw [this]; rfl
theorem zLs (l : List (List UInt8)) (g : FuncId) (caps : List AV) (p : List UInt8 → Bool) (hc : noRef.noRefs caps = true) (hlen : l.length ≤ 9223372036854775807) (hp : ∀ x ∈ l, zN Tryz.prog g ([.str x] ++ caps) (.bool (p x))) :
 zN Tryz.prog 116 [.ro (.strs l) 0 l.length, .fn g caps] (.bool (l.any p)) := by
 refine zK.value0 (zC (P := Tryz.prog) (fn := Tryz.f116) Y Y (by kernel_rfl) Y (fun c hR hfix => ?_)) (fix := fun _ => False) (fun _ h => h) (by simp [noRef.noRefs, noRef, hc]) Y
 refine rn0 ?_
 refine zA Y Y Y (zKE l g caps p hc hlen hp) ?_
 refine rn8 ?_
 refine zE hR Y ?_
 simp only [zAX, zEJ]
theorem ratNeg1 (s : List UInt8) (hs : s.length ≤ 9223372036854775807) : zN Tryz.prog 253 [.str s] (.bool (zCR s)) := by
 have h1 := zGX s [45] hs (by decide)
 rw [zLW] at h1
 refine zK.value0 (zC (P := Tryz.prog) (fn := Tryz.f253) Y Y (by kernel_rfl) Y (fun c hR hfix => ?_)) (fix := fun _ => False) (fun _ h => h) Y Y
 refine rn0 ?_
 refine zA Y Y Y h1 ?_
 refine rn0 ?_
 exact zE hR Y Y
theorem zKR (l : List Rat) (hlen : l.length ≤ 1000000) (hs : ∀ q ∈ l, Sz 100000 q) (hall : l.all zCJ = true) : zN Tryz.prog 63 [.ro (qsC l) 0 l.length] (.tup [.ro (.strs (l.map zAM)) 0 l.length, .int .i64 0]) := by
 refine zK.value0 (zC (P := Tryz.prog) (fn := Tryz.f63) Y Y (by kernel_rfl) Y (fun c hR hfix => ?_)) (fix := fun _ => False) (fun _ h => h) Y Y
 refine rn8 ?_
 refine zBN 4 ⟨26, .strs []⟩ Y Y ?_
 repeat (refine zt ?_)
 refine zY (ι := Nat) (fun k => [(0, .ro (qsC l) 0 l.length), (4, .sl 0 0 k), (9, .ro (qsC l) 0 l.length), (10, .int .i64 (l.length : Nat)), (11, .int .i64 (k : Nat))]) (fun k => [some ⟨26, .strs ((l.take k).map zAM)⟩])
  (fun k => k ≤ l.length ∧ (l.drop k).all zCJ = true) (fun k => l.length - k) 0 ⟨⟨rfl, rfl, rfl, rfl, rfl, trivial⟩, rfl, Nat.zero_le _, hall⟩ ?_
 rintro k ⟨hk, hA⟩
 refine rn4 ?_
 refine zB Y (fun h => ?_) (fun h => ?_)
 ·have hk' : k < l.length := by omega
  have hz := hs _ (zAx 0 hk')
  have hd := zEe (d := (0 : Rat)) hk'
  rw [hd, List.all_cons] at hA
  have htk := zDJ zAM l 0 k hk'
  have hml : ((l.take k).map zAM).length = k := by rw [List.length_map, List.length_take]; omega
  generalize hX : (l.take k).map zAM = ts at *
  refine rn6 ?_
  refine zG 14 (.agg (zw (l.getD k 0))) Y (AEq.of_eq Y) ?_
  generalize l.getD k 0 = q at *
  refine sa1 (c' := .box (zw q)) Y Y Y Y Y Y Y ?_
  rw [Bool.and_eq_true] at hA
  have hc := zLU q hz hA.1
  refine rn6 ?_
  refine zA Y Y Y hc ?_
  refine rn4 ?_
  refine zS Y Y Y Y Y Y Y Y Y hml Y Y (by show 0 + 1 ≤ 1; omega) Y (by show (k + 1) * 16 ≤ _ ∧ _; omega) (fun i j _ _ => rfl) (by rw [hfix]; exact fun h => h) ?_
  refine zCM ?_
  refine zO ?_
  refine zFJ ([some ⟨26, .strs ((l.take (k + 1)).map zAM)⟩] ++ [none]) ?_ ?_
  ·rw [htk]
   exact zq.eqv (CEq.refl _) (zq.drop zq.nil)
  refine zIH (H1 := [some ⟨26, .strs ((l.take (k + 1)).map zAM)⟩]) Y (by rw [hfix]; exact fun h => h) ?_
  refine rn3 ?_
  exact zM ⟨k + 1, ⟨by omega, hA.2⟩, by omega, ⟨Y, Y, Y, Y, Y, trivial⟩, Y⟩
 ·have hk' : k = l.length := by omega
  subst hk'
  rw [List.take_length]
  refine zDc ?_
  refine zAb 0 4 l.length [] Y (fun _ _ _ _ => rfl) Y (by show _ ≤ (l.map zAM).length; rw [List.length_map]; exact Nat.le_refl _) trivial ?_
  refine rn0 ?_
  exact zE hR Y Y
theorem zL9 (l : List Rat) (hlen : l.length ≤ 1000000) (hs : ∀ q ∈ l, Sz 100000 q) (hall : l.all zCJ = false) : zN Tryz.prog 63 [.ro (qsC l) 0 l.length] (.tup [.nil, .int .i64 2]) := by
 refine zK.value0 (zC (P := Tryz.prog) (fn := Tryz.f63) Y Y (by kernel_rfl) Y (fun c hR hfix => ?_)) (fix := fun _ => False) (fun _ h => h) Y Y
 refine rn8 ?_
 refine zBN 4 ⟨26, .strs []⟩ Y Y ?_
 repeat (refine zt ?_)
 refine zY (ι := Nat) (fun k => [(0, .ro (qsC l) 0 l.length), (4, .sl 0 0 k), (9, .ro (qsC l) 0 l.length), (10, .int .i64 (l.length : Nat)), (11, .int .i64 (k : Nat))]) (fun k => [some ⟨26, .strs ((l.take k).map zAM)⟩])
  (fun k => k ≤ l.length ∧ (l.drop k).all zCJ = false) (fun k => l.length - k) 0 ⟨⟨rfl, rfl, rfl, rfl, rfl, trivial⟩, rfl, Nat.zero_le _, hall⟩ ?_
 rintro k ⟨hk, hA⟩
 refine rn4 ?_
 refine zB Y (fun h => ?_) (fun h => ?_)
 ·have hk' : k < l.length := by omega
  have hz := hs _ (zAx 0 hk')
  have hd := zEe (d := (0 : Rat)) hk'
  rw [hd, List.all_cons] at hA
  have htk := zDJ zAM l 0 k hk'
  have hml : ((l.take k).map zAM).length = k := by rw [List.length_map, List.length_take]; omega
  generalize hX : (l.take k).map zAM = ts at *
  refine rn6 ?_
  refine zG 14 (.agg (zw (l.getD k 0))) Y (AEq.of_eq Y) ?_
  generalize l.getD k 0 = q at *
  refine sa1 (c' := .box (zw q)) Y Y Y Y Y Y Y ?_
  cases hf : zCJ q
  ·have hc := out_no q hz hf
   refine rn6 ?_
   refine zA Y Y Y hc ?_
   refine rn6 ?_
   exact zE hR Y Y
  ·have hc := zLU q hz hf
   rw [hf, Bool.true_and] at hA
   refine rn6 ?_
   refine zA Y Y Y hc ?_
   refine rn4 ?_
   refine zS Y Y Y Y Y Y Y Y Y hml Y Y (by show 0 + 1 ≤ 1; omega) Y (by show (k + 1) * 16 ≤ _ ∧ _; omega) (fun i j _ _ => rfl) (by rw [hfix]; exact fun h => h) ?_
   refine zCM ?_
   refine zO ?_
   refine zFJ ([some ⟨26, .strs ((l.take (k + 1)).map zAM)⟩] ++ [none]) ?_ ?_
   ·rw [htk]
    exact zq.eqv (CEq.refl _) (zq.drop zq.nil)
   refine zIH (H1 := [some ⟨26, .strs ((l.take (k + 1)).map zAM)⟩]) Y (by rw [hfix]; exact fun h => h) ?_
   refine rn3 ?_
   exact zM ⟨k + 1, ⟨by omega, hA⟩, by omega, ⟨Y, Y, Y, Y, Y, trivial⟩, Y⟩
 ·have hk' : k = l.length := by omega
  subst hk'
  rw [List.drop_length] at hA
  exact absurd hA (by decide)
end Go.Proofs.YtkncmbklkhjmgaaGreatDoor
namespace Go.Proofs.YtkncmbklkhjmgaaGreatDoor
open Go.Ax Go.Ax.Bg Go.Ax.Rt Go.RowKit
attribute [local irreducible] Ax zAO QOp zK zAN
theorem zIb : zN Tryz.prog 140 [.int .i64 0] (qA 0) := qof_ok 0 (by decide)
theorem zKO : zN Tryz.prog 140 [.int .i64 1] (qA 1) := qof_ok 1 (by decide)
theorem sz_zero : Sz 2000 0 := by
 refine ⟨?_, ?_⟩
 ·show (zL 0).length ≤ 2000; rw [zAf]; decide
 ·show (zL 1).length ≤ 2000; rw [zEL]; decide
theorem sum_ok (l : List (List UInt8)) (hlen : l.length ≤ 9223372036854775807) (hs : ∀ s ∈ l, s.length ≤ 9223372036854775807) : zN Tryz.prog 252 [.ro (.strs l) 0 l.length] (.tup [qA (zFk l).1, .int .i64 (zFk l).2]) := by
 unfold zFk
 have h1 := zIw l hlen hs
 by_cases hl : 256 < l.length
 ·rw [if_pos hl]
  refine zK.value0 (zC (P := Tryz.prog) (fn := Tryz.f252) Y Y (by kernel_rfl) Y (fun c hR hfix => ?_)) (fix := fun _ => False) (fun _ h => h) Y Y
  refine rn4 ?_
  refine zA Y Y Y zIb ?_
  repeat (refine zAh rfl rfl rfl ?_)
  refine sa1 (c' := .box (zw 0)) Y Y Y Y Y Y Y ?_
  refine rn6 ?_
  refine zB Y (fun h0 => ?_) (fun h0 => absurd hl (by omega))
  refine rn6 ?_
  refine sa1 (c' := .box (zw 0)) Y Y Y Y Y Y Y ?_
  refine rn2 ?_
  exact zE hR Y Y
 rw [if_neg hl]
 by_cases hE : zD0 l = 0
 ·rw [if_pos hE]
  rw [hE] at h1
  have h2 := in_ok l (by omega) (fun s hm => ⟨hs s hm, zDP hE s hm⟩)
  have hz : ∀ q ∈ l.map zAl, Sz 2000 q := fun q hq => by
   obtain ⟨s, h3, rfl⟩ := List.mem_map.1 hq
   exact sz_v (zDP hE s h3)
  have hml : (l.map zAl).length = l.length := List.length_map _
  generalize l.map zAl = qs at *
  refine zK.value0 (zC (P := Tryz.prog) (fn := Tryz.f252) Y Y (by kernel_rfl) Y (fun c hR hfix => ?_)) (fix := fun _ => False) (fun _ h => h) Y Y
  refine rn4 ?_
  refine zA Y Y Y zIb ?_
  repeat (refine zAh rfl rfl rfl ?_)
  refine sa1 (c' := .box (zw 0)) Y Y Y Y Y Y Y ?_
  refine rn6 ?_
  refine zB Y (fun h0 => absurd hl (by omega)) (fun h0 => ?_)
  refine rn1 ?_
  refine zA Y Y Y h1 ?_
  refine rn4 ?_
  refine zA Y Y Y h2 ?_
  refine rn3 ?_
  refine zY (ι := Nat × Rat) (fun p => [(2, .ptr 0 0 0), (4, .ptr 1 0 0), (20, .ro (qsC qs) 0 l.length), (21, .int .i64 (l.length : Nat)), (22, .int .i64 (p.1 : Nat))]) (fun p => [some ⟨104, .box [.bool false, .nil, .nil]⟩, some ⟨104, .box (zw p.2)⟩])
   (fun p => p.1 ≤ l.length ∧ zHM 0 qs = zHM p.2 (qs.drop p.1) ∧ Sz 2000 p.2) (fun p => l.length - p.1) (0, 0) ⟨⟨rfl, rfl, rfl, rfl, rfl, trivial⟩, rfl, Nat.zero_le _, rfl, sz_zero⟩ ?_
  rintro ⟨k, acc⟩ ⟨hk, hS, hA⟩
  simp only at *
  refine rn4 ?_
  refine zB Y (fun h => ?_) (fun h => ?_)
  ·have hk' : k < qs.length := by omega
   have hq := hz _ (zAx 0 hk')
   have hd := zEe (d := (0 : Rat)) hk'
   rw [hd, zHM] at hS
   refine rn6 ?_
   refine zG 25 (.agg (zw (qs.getD k 0))) Y (AEq.of_eq Y) ?_
   generalize qs.getD k 0 = q at *
   have hc := qadd_ok acc q (hA.mono (by decide)) (hq.mono (by decide))
   have hf := zIY (acc + q) ((sz_add hA hq).mono (by decide))
   refine sa1 (c' := .box (zw q)) Y Y Y Y Y Y Y ?_
   refine rn6 ?_
   refine zA Y Y Y hc ?_
   skip
   refine sa1 (c' := .box (zw (acc + q))) Y Y Y Y Y Y Y ?_
   refine rn6 ?_
   refine zA Y Y Y hf ?_
   cases hb : zCJ (acc + q)
   ·rw [hb, if_neg Bool.false_ne_true] at hS
    rw [hS] at hR
    refine rn6 ?_
    refine sa1 (c' := .box (zw (acc + q))) Y Y Y Y Y Y Y ?_
    refine rn6 ?_
    exact zE hR Y Y
   ·rw [hb, if_pos rfl] at hS
    refine zCM ?_
    refine zO ?_
    refine zFJ ([some ⟨104, .box [.bool false, .nil, .nil]⟩, some ⟨104, .box (zw (acc + q))⟩] ++ [none]) ?_ ?_
    ·exact zq.eqv (CEq.refl _) (zq.eqv (CEq.refl _) (zq.drop zq.nil))
    refine zIH (H1 := [some ⟨104, .box [.bool false, .nil, .nil]⟩, some ⟨104, .box (zw (acc + q))⟩]) Y (by rw [hfix]; exact fun h => h) ?_
    refine rn5 ?_
    exact zM ⟨(k + 1, acc + q), ⟨by simp only; omega, hS, zLA hb⟩, by simp only; omega, ⟨Y, Y, Y, Y, Y, trivial⟩, Y⟩
  ·have hk' : k = l.length := by omega
   subst hk'
   rw [← hml, List.drop_length, zHM] at hS
   rw [hS] at hR
   refine rn6 ?_
   refine sa1 (c' := .box (zw acc)) Y Y Y Y Y Y Y ?_
   refine rn0 ?_
   exact zE hR Y Y
 ·rw [if_neg hE]
  generalize zD0 l = e at *
  refine zK.value0 (zC (P := Tryz.prog) (fn := Tryz.f252) Y Y (by kernel_rfl) Y (fun c hR hfix => ?_)) (fix := fun _ => False) (fun _ h => h) Y Y
  refine rn4 ?_
  refine zA Y Y Y zIb ?_
  repeat (refine zAh rfl rfl rfl ?_)
  refine sa1 (c' := .box (zw 0)) Y Y Y Y Y Y Y ?_
  refine rn6 ?_
  refine zB Y (fun h0 => absurd hl (by omega)) (fun h0 => ?_)
  refine rn1 ?_
  refine zA Y Y Y h1 ?_
  refine rn3 ?_
  refine zB Y (fun h2 => ?_) (fun h2 => absurd hE h2)
  refine rn6 ?_
  refine sa1 (c' := .box (zw 0)) Y Y Y Y Y Y Y ?_
  refine rn2 ?_
  exact zE hR Y Y
end Go.Proofs.YtkncmbklkhjmgaaGreatDoor
