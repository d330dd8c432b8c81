import Derived.Test.YtkncmbklkhjmgaaGreatDoorT5
set_option linter.unusedVariables false
set_option linter.unusedSimpArgs false
set_option maxRecDepth 100000
set_option maxHeartbeats 4000000
namespace Go.Proofs.YtkncmbklkhjmgaaGreatDoor
open Go.Ax Go.Ax.Bg Go.Ax.Rt Go.RowKit
attribute [local irreducible] Ax zBn QOp zQ zBX
theorem zHW : zU Tryz.prog 140 [.int .i64 0] (qA 0) := qof_ok 0 (by decide)
theorem zCL : zU Tryz.prog 140 [.int .i64 1] (qA 1) := qof_ok 1 (by decide)
theorem sz_zero : Sz 2000 0 := by
 refine ⟨?_, ?_⟩
 ·show (zS 0).length ≤ 2000; rw [zBq]; decide
 ·show (zS 1).length ≤ 2000; rw [zG1]; decide
theorem sum_ok (l : List (List UInt8)) (hlen : l.length ≤ 9223372036854775807) (hs : ∀ s ∈ l, s.length ≤ 9223372036854775807) : zU Tryz.prog 252 [.ro (.strs l) 0 l.length] (.tup [qA (zHE l).1, .int .i64 (zHE l).2]) := by
 unfold zHE
 have h1 := zGs l hlen hs
 by_cases hl : 256 < l.length
 ·rw [if_pos hl]
  refine zQ.value0 (zE (P := Tryz.prog) (fn := Tryz.f252) Z Z (by kernel_rfl) Z (fun c hR hfix => ?_)) (fix := fun _ => False) (fun _ h => h) Z Z
  refine rn4 ?_
  refine zB Z Z Z zHW ?_
  repeat (refine zBD rfl rfl rfl ?_)
  refine sa1 (c' := .box (zT 0)) Z Z Z Z Z Z Z ?_
  refine rn6 ?_
  refine zA Z (fun h0 => ?_) (fun h0 => absurd hl (by omega))
  refine rn6 ?_
  refine sa1 (c' := .box (zT 0)) Z Z Z Z Z Z Z ?_
  refine rn2 ?_
  exact zL hR Z Z
 rw [if_neg hl]
 by_cases hE : zDv l = 0
 ·rw [if_pos hE]
  rw [hE] at h1
  have h2 := in_ok l (by omega) (fun s hm => ⟨hs s hm, zCb hE s hm⟩)
  have hz : ∀ q ∈ l.map zv, Sz 2000 q := fun q hq => by
   obtain ⟨s, h3, rfl⟩ := List.mem_map.1 hq
   exact sz_v (zCb hE s h3)
  have hml : (l.map zv).length = l.length := List.length_map _
  generalize l.map zv = qs at *
  refine zQ.value0 (zE (P := Tryz.prog) (fn := Tryz.f252) Z Z (by kernel_rfl) Z (fun c hR hfix => ?_)) (fix := fun _ => False) (fun _ h => h) Z Z
  refine rn4 ?_
  refine zB Z Z Z zHW ?_
  repeat (refine zBD rfl rfl rfl ?_)
  refine sa1 (c' := .box (zT 0)) Z Z Z Z Z Z Z ?_
  refine rn6 ?_
  refine zA Z (fun h0 => absurd hl (by omega)) (fun h0 => ?_)
  refine rn1 ?_
  refine zB Z Z Z h1 ?_
  refine rn4 ?_
  refine zB Z Z Z h2 ?_
  refine rn3 ?_
  refine zZ (ι := Nat × Rat) (fun p => [(2, .ptr 0 0 0), (4, .ptr 1 0 0), (20, .ro (qsC qs) 0 l.length), (21, iN l.length), (22, iN p.1)]) (fun p => [some ⟨104, .box [.bool false, .nil, .nil]⟩, some ⟨104, .box (zT p.2)⟩])
   (fun p => p.1 ≤ l.length ∧ zHD 0 qs = zHD p.2 (qs.drop p.1) ∧ Sz 2000 p.2) (fun p => l.length - p.1) (0, 0) ⟨⟨rfl, rfl, rfl, rfl, rfl, trivial⟩, rfl, Nat.zero_le _, rfl, sz_zero⟩ ?_
  rintro ⟨k, acc⟩ ⟨hk, hS, hA⟩
  simp only at *
  refine rn4 ?_
  refine zA Z (fun h => ?_) (fun h => ?_)
  ·have hk' : k < qs.length := by omega
   have hq := hz _ (zAN 0 hk')
   have hd := zEs (d := (0 : Rat)) hk'
   rw [hd, zHD] at hS
   refine rn6 ?_
   refine zD 25 (.agg (zT (qs.getD k 0))) Z (AEq.of_eq Z) ?_
   generalize qs.getD k 0 = q at *
   have hc := zIq acc q (hA.mono (by decide)) (hq.mono (by decide))
   have hf := zMa (acc + q) ((zPY hA hq).mono (by decide))
   refine sa1 (c' := .box (zT q)) Z Z Z Z Z Z Z ?_
   refine rn6 ?_
   refine zB Z Z Z hc ?_
   skip
   refine sa1 (c' := .box (zT (acc + q))) Z Z Z Z Z Z Z ?_
   refine rn6 ?_
   refine zB Z Z Z hf ?_
   cases hb : zBp (acc + q)
   ·rw [hb, if_neg Bool.false_ne_true] at hS
    rw [hS] at hR
    refine rn6 ?_
    refine sa1 (c' := .box (zT (acc + q))) Z Z Z Z Z Z Z ?_
    refine rn6 ?_
    exact zL hR Z Z
   ·rw [hb, if_pos rfl] at hS
    refine zDt ?_
    refine zI ?_
    refine zBL ([some ⟨104, .box [.bool false, .nil, .nil]⟩, some ⟨104, .box (zT (acc + q))⟩] ++ [none]) ?_ ?_
    ·exact zP.eqv (CEq.refl _) (zP.eqv (CEq.refl _) (zP.drop zP.nil))
    refine zD9 (H1 := [some ⟨104, .box [.bool false, .nil, .nil]⟩, some ⟨104, .box (zT (acc + q))⟩]) Z (by rw [hfix]; exact fun h => h) ?_
    refine rn5 ?_
    exact zJ ⟨(k + 1, acc + q), ⟨by simp only; omega, hS, zP6 hb⟩, by simp only; omega, ⟨Z, Z, Z, Z, Z, trivial⟩, Z⟩
  ·have hk' : k = l.length := by omega
   subst hk'
   rw [← hml, List.drop_length, zHD] at hS
   rw [hS] at hR
   refine rn6 ?_
   refine sa1 (c' := .box (zT acc)) Z Z Z Z Z Z Z ?_
   refine rn0 ?_
   exact zL hR Z Z
 ·rw [if_neg hE]
  generalize zDv l = e at *
  refine zQ.value0 (zE (P := Tryz.prog) (fn := Tryz.f252) Z Z (by kernel_rfl) Z (fun c hR hfix => ?_)) (fix := fun _ => False) (fun _ h => h) Z Z
  refine rn4 ?_
  refine zB Z Z Z zHW ?_
  repeat (refine zBD rfl rfl rfl ?_)
  refine sa1 (c' := .box (zT 0)) Z Z Z Z Z Z Z ?_
  refine rn6 ?_
  refine zA Z (fun h0 => absurd hl (by omega)) (fun h0 => ?_)
  refine rn1 ?_
  refine zB Z Z Z h1 ?_
  refine rn3 ?_
  refine zA Z (fun h2 => ?_) (fun h2 => absurd hE h2)
  refine rn6 ?_
  refine sa1 (c' := .box (zT 0)) Z Z Z Z Z Z Z ?_
  refine rn2 ?_
  exact zL hR Z Z
theorem zQe : ∀ (qs : List Rat) (acc : Rat), Sz 2000 acc → (∀ q ∈ qs, Sz 2000 q) → Sz 4001 (zHD acc qs).1
 | [], acc, h, _ => h.mono (by decide)
 | q :: r, acc, h, hs => by
  rw [zHD]
  split
  ·rename_i hb
   exact zQe r _ (zP6 hb) (fun x hx => hs x (by simp [hx]))
  ·exact zPY h (hs q (by simp))
theorem sumR_sz (l : List (List UInt8)) : Sz 4001 (zHE l).1 := by
 unfold zHE
 split
 ·exact sz_zero.mono (by decide)
 ·split
  ·rename_i hE
   refine zQe _ _ sz_zero (fun q hq => ?_)
   obtain ⟨s, h3, rfl⟩ := List.mem_map.1 hq
   exact sz_v (zCb hE s h3)
  ·exact sz_zero.mono (by decide)
theorem zNr (l : List (List UInt8)) (hlen : l.length ≤ 9223372036854775807) (hs : ∀ s ∈ l, s.length ≤ 9223372036854775807) : zU Tryz.prog 209 [.ro (.strs l) 0 l.length] (.tup [qA (zHE l).1, .int .i64 (posE l)]) := by
 have h1 := sum_ok l hlen hs
 have h2 := zQu l 253 [] zDb rfl hlen (fun s hm => ratNeg1 s (hs s hm))
 unfold posE
 generalize (zHE l).1 = q at *
 generalize (zHE l).2 = e at *
 generalize l.any zDb = b at *
 by_cases he : e = 0
 ·subst he
  cases b
  ·rw [if_neg (fun h => Bool.false_ne_true h.2)]
   refine zQ.value0 (zE (P := Tryz.prog) (fn := Tryz.f209) Z Z (by kernel_rfl) Z (fun c hR hfix => ?_)) (fix := fun _ => False) (fun _ h => h) Z Z
   refine rn4 ?_
   refine zB Z Z Z h1 ?_
   unfold qA
   refine rn4 ?_
   refine sa1 (c' := .box (zT q)) Z Z Z Z Z Z Z ?_
   refine rn4 ?_
   refine zB Z Z Z h2 ?_
   refine rn6 ?_
   refine sa1 (c' := .box (zT q)) Z Z Z Z Z Z Z ?_
   refine rn0 ?_
   exact zL hR Z Z
  ·rw [if_pos ⟨rfl, rfl⟩]
   refine zQ.value0 (zE (P := Tryz.prog) (fn := Tryz.f209) Z Z (by kernel_rfl) Z (fun c hR hfix => ?_)) (fix := fun _ => False) (fun _ h => h) Z Z
   refine rn4 ?_
   refine zB Z Z Z h1 ?_
   unfold qA
   refine rn4 ?_
   refine sa1 (c' := .box (zT q)) Z Z Z Z Z Z Z ?_
   refine rn4 ?_
   refine zB Z Z Z h2 ?_
   refine rn6 ?_
   refine sa1 (c' := .box (zT q)) Z Z Z Z Z Z Z ?_
   refine rn0 ?_
   exact zL hR Z Z
 ·rw [if_neg (fun h => he h.1)]
  refine zQ.value0 (zE (P := Tryz.prog) (fn := Tryz.f209) Z Z (by kernel_rfl) Z (fun c hR hfix => ?_)) (fix := fun _ => False) (fun _ h => h) Z Z
  refine rn4 ?_
  refine zB Z Z Z h1 ?_
  unfold qA
  refine rn4 ?_
  refine sa1 (c' := .box (zT q)) Z Z Z Z Z Z Z ?_
  refine rn4 ?_
  refine zAi Z Z (fun h0 => absurd h0 he) (fun h0 => ?_)
  refine rn6 ?_
  refine sa1 (c' := .box (zT q)) Z Z Z Z Z Z Z ?_
  refine rn0 ?_
  exact zL hR Z Z
theorem zQL (l : List (List UInt8)) (hlen : l.length ≤ 9223372036854775807) (hs : ∀ s ∈ l, s.length ≤ 9223372036854775807) : zU Tryz.prog 150 [.ro (.strs l) 0 l.length] (.int .i64 (zEc l)) := by
 have h1 := zNr l hlen hs
 have hz := sumR_sz l
 unfold zEc
 generalize (zHE l).1 = q at *
 generalize posE l = e at *
 have h2 := zGV q 1 (hz.mono (by decide)) (by refine ⟨?_, ?_⟩ <;> (show (zS 1).length ≤ 100000; rw [zG1]; decide))
 by_cases he : e = 0
 ·rw [if_pos he]
  subst he
  generalize zC7 q 1 = t at *
  by_cases ht : t = 0
  ·rw [if_pos ht]
   subst ht
   refine zQ.value0 (zE (P := Tryz.prog) (fn := Tryz.f150) Z Z (by kernel_rfl) Z (fun c hR hfix => ?_)) (fix := fun _ => False) (fun _ h => h) Z Z
   refine rn0 ?_
   refine zB Z Z Z h1 ?_
   unfold qA
   refine rn4 ?_
   refine sa1 (c' := .box (zT q)) Z Z Z Z Z Z Z ?_
   refine rn4 ?_
   refine zi (by kernel_rfl) ?_
   refine zq (fuel := 0) [0, 1, 2, 3] [(3, .ptr 0 0 0)] ⟨Z, trivial⟩ (by kernel_rfl) (by decide) Z Z ?_
   refine zM Z Z (qpp Z Z Z Z Z Z Z) ?_
   refine zA8 Z Z Z Z Z zCL ?_
   refine zA8 Z Z Z Z Z h2 ?_
   refine zM Z Z (zIp Z Z) ?_
   refine zAC ?_
   refine zW (by kernel_rfl) ?_
   refine rn4 ?_
   exact zL hR Z Z
  ·rw [if_neg ht]
   refine zQ.value0 (zE (P := Tryz.prog) (fn := Tryz.f150) Z Z (by kernel_rfl) Z (fun c hR hfix => ?_)) (fix := fun _ => False) (fun _ h => h) Z Z
   refine rn0 ?_
   refine zB Z Z Z h1 ?_
   unfold qA
   refine rn4 ?_
   refine sa1 (c' := .box (zT q)) Z Z Z Z Z Z Z ?_
   refine rn4 ?_
   refine zi (by kernel_rfl) ?_
   refine zq (fuel := 0) [0, 1, 2, 3] [(3, .ptr 0 0 0)] ⟨Z, trivial⟩ (by kernel_rfl) (by decide) Z Z ?_
   refine zM Z Z (qpp Z Z Z Z Z Z Z) ?_
   refine zA8 Z Z Z Z Z zCL ?_
   refine zA8 Z Z Z Z Z h2 ?_
   refine zM Z Z (zIp Z Z) ?_
   refine zAC ?_
   refine zW (by kernel_rfl) ?_
   repeat (refine zI ?_)
   refine zA Z (fun h0 => ?_) (fun h0 => absurd ht h0)
   refine rn2 ?_
   exact zL hR Z Z
 ·rw [if_neg he]
  refine zQ.value0 (zE (P := Tryz.prog) (fn := Tryz.f150) Z Z (by kernel_rfl) Z (fun c hR hfix => ?_)) (fix := fun _ => False) (fun _ h => h) Z Z
  refine rn0 ?_
  refine zB Z Z Z h1 ?_
  unfold qA
  refine rn4 ?_
  refine sa1 (c' := .box (zT q)) Z Z Z Z Z Z Z ?_
  refine rn3 ?_
  refine zA Z (fun h0 => ?_) (fun h0 => absurd he h0)
  refine rn2 ?_
  exact zL hR Z Z
theorem zKz {l : List (List UInt8)} (h : (zHE l).2 = 0) : l.length ≤ 256 ∧ zDv l = 0 := by
 unfold zHE at h
 split at h
 ·exact absurd h (by decide)
 ·split at h
  ·exact ⟨by omega, by assumption⟩
  ·exact absurd h (by assumption)
theorem sgn_zero {q : Rat} : sgn q.num = 0 ↔ q = 0 := by
 rw [← Rat.num_eq_zero]
 unfold sgn
 split
 ·omega
 ·split <;> omega
def zHj (r : List zn) : List AV := [.ro (.strs r) 0 r.length]
def zCe (r : List Rat) : List AV := [.ro (qsC r) 0 r.length]
abbrev zAY (m : List (List zn)) : Cells := rowE [] 1 zHj m
abbrev zY (m : List (List Rat)) : Cells := rowE [] 1 zCe m
theorem zGr (r : List zn) (j h : Nat) (hj : j < 1) : ((zHj r).getD j .any).forget h = (zHj r).getD j .any := by
 obtain rfl : j = 0 := by omega
 rfl
theorem zBQ (r : List Rat) (j h : Nat) (hj : j < 1) : ((zCe r).getD j .any).forget h = (zCe r).getD j .any := by
 obtain rfl : j = 0 := by omega
 rfl
theorem zHn (m : List (List zn)) : zAd (zAY m) := by
 intro i j _ hj
 obtain rfl : j = 0 := by have hj : j < 1 := hj; omega
 rfl
theorem zFl (m : List (List Rat)) : zAd (zY m) := by
 intro i j _ hj
 obtain rfl : j = 0 := by have hj : j < 1 := hj; omega
 rfl
theorem zN4 (q : List Rat) (j : Nat) (hj : j < 1) : (zBt 1 1 [.ro (qsC q) 0 q.length]).at 0 j = (zCe q).getD j .any := by
 obtain rfl : j = 0 := by omega
 rfl
theorem rowS1 (q : List zn) (j : Nat) (hj : j < 1) : (zBt 1 1 [.ro (.strs q) 0 q.length]).at 0 j = (zHj q).getD j .any := by
 obtain rfl : j = 0 := by omega
 rfl
theorem vec_ok (v : List zn) (hlen : v.length ≤ 9223372036854775807) (hs : ∀ s ∈ v, s.length ≤ 9223372036854775807) : zU Tryz.prog 141 [.ro (.strs v) 0 v.length] (.int .i64 (vecE v)) := by
 have h1 := zGs v hlen hs
 unfold vecE
 refine zQ.value0 (zE (P := Tryz.prog) (fn := Tryz.f141) Z Z (by kernel_rfl) Z (fun c hR hfix => ?_)) (fix := fun _ => False) (fun _ h => h) Z Z
 refine rn6 ?_
 refine zA Z (fun h => ?_) (fun h => ?_)
 ·rw [if_pos (by omega)] at hR
  refine rn2 ?_
  exact zL hR Z Z
 ·rw [if_neg (by omega)] at hR
  refine rn1 ?_
  refine zB Z Z Z h1 ?_
  refine rn0 ?_
  exact zL hR Z Z
theorem zOS (m : List (List zn)) (hlen : m.length ≤ 9223372036854775807) : zU Tryz.prog 65 [.ro (zAY m) 0 m.length] (iN (zAJ m)) := by
 refine zQ.value0 (zE (P := Tryz.prog) (fn := Tryz.f65) Z Z (by kernel_rfl) Z (fun c hR hfix => ?_)) (fix := fun _ => False) (fun _ h => h) Z Z
 refine rn4 ?_
 refine zA Z (fun h => ?_) (fun h => ?_)
 ·obtain rfl : m = [] := List.length_eq_zero_iff.1 (by omega)
  refine rn2 ?_
  exact zL hR Z Z
 ·have hm : 0 < m.length := by omega
  refine rn6 ?_
  exact zL hR Z Z
theorem zLr (m : List (List zn)) (hlen : m.length ≤ 9223372036854775807) (hr : ∀ r ∈ m, r.length ≤ 9223372036854775807 ∧ ∀ s ∈ r, s.length ≤ 9223372036854775807) : zU Tryz.prog 64 [.ro (zAY m) 0 m.length] (.int .i64 (zGi m)) := by
 unfold zGi
 refine zQ.value0 (zE (P := Tryz.prog) (fn := Tryz.f64) Z Z (by kernel_rfl) Z (fun c hR hfix => ?_)) (fix := fun _ => False) (fun _ h => h) Z Z
 refine rn6 ?_
 refine zA Z (fun h => ?_) (fun h => ?_)
 ·rw [if_pos (by omega)] at hR
  refine rn2 ?_
  exact zL hR Z Z
 rw [if_neg (by omega)] at hR
 refine rn3 ?_
 refine zZ (ι := Nat) (fun k => [(0, .ro (zAY m) 0 m.length), (9, .ro (zAY m) 0 m.length), (10, iN m.length), (11, iN k)]) (fun _ => [])
  (fun k => k ≤ m.length ∧ zIs (zAJ m) m = zIs (zAJ m) (m.drop k)) (fun k => m.length - k) 0 ⟨⟨rfl, rfl, rfl, rfl, trivial⟩, rfl, Nat.zero_le _, by rw [List.drop_zero]⟩ ?_
 intro k ⟨hk, hE⟩
 refine rn4 ?_
 refine zA Z (fun h => ?_) (fun h => ?_)
 ·have hk' : k < m.length := by omega
  have hm : 0 < m.length := by omega
  have hd := zEs (d := []) hk'
  have hc := vec_ok (m.getD k []) (hr _ (zAN [] hk')).1 (hr _ (zAN [] hk')).2
  rw [hd, zIs] at hE
  refine rn6 ?_
  refine zA Z (fun h2 => ?_) (fun h2 => ?_)
  ·have h3 : ¬ (m.getD k []).length = zAJ m := fun e => h2 (by show (((m.getD k []).length : Nat) : Int) = ((zAJ m : Nat) : Int); omega)
   rw [if_neg h3] at hE
   rw [hE] at hR
   refine rn6 ?_
   exact zL hR Z Z
  ·have h3 : (m.getD k []).length = zAJ m := by
    have h4 : (((m.getD k []).length : Nat) : Int) = ((zAJ m : Nat) : Int) := Classical.not_not.1 h2
    omega
   rw [if_pos h3] at hE
   refine rn1 ?_
   refine zB Z Z Z hc ?_
   refine rn3 ?_
   refine zA Z (fun h5 => ?_) (fun h5 => ?_)
   ·rw [if_neg h5] at hE
    rw [hE] at hR
    refine rn6 ?_
    exact zL hR Z Z
   ·rw [if_pos (Classical.not_not.1 h5)] at hE
    refine rn5 ?_
    exact zJ ⟨k + 1, ⟨by omega, hE⟩, by omega, ⟨Z, Z, Z, Z, trivial⟩, Z⟩
 ·have hk' : k = m.length := by omega
  subst hk'
  rw [List.drop_length] at hE
  rw [hE] at hR
  refine rn5 ?_
  exact zL hR Z Z
theorem zKS (l : List zn) (hlen : l.length ≤ 1000000) (hs : ∀ s ∈ l, s.length ≤ 9223372036854775807 ∧ zCf s = 0) : zU Tryz.prog 67 [.ro (.strs l) 0 l.length] (.ro (qsC (l.map zv)) 0 (l.map zv).length) := by
 have := in_ok l hlen hs
 rwa [List.length_map]
theorem zKT (m : List (List zn)) (hlen : m.length ≤ 1000000) (hr : ∀ r ∈ m, r.length ≤ 1000000 ∧ ∀ s ∈ r, s.length ≤ 9223372036854775807 ∧ zCf s = 0) : zU Tryz.prog 62 [.ro (zAY m) 0 m.length] (.ro (zY (inM m)) 0 m.length) := by
 refine zQ.value0 (zE (P := Tryz.prog) (fn := Tryz.f62) Z Z (by kernel_rfl) Z (fun c hR hfix => ?_)) (fix := fun _ => False) (fun _ h => h) Z Z
 refine rn8 ?_
 refine zAb 3 ⟨105, zY []⟩ Z Z ?_
 repeat (refine zAA ?_)
 refine zZ (ι := Nat) (fun k => [(0, .ro (zAY m) 0 m.length), (3, .sl 0 0 k), (6, .ro (zAY m) 0 m.length), (7, iN m.length), (8, iN k)]) (fun k => [some ⟨105, zY ((m.take k).map (fun r => r.map zv))⟩])
  (fun k => k ≤ m.length) (fun k => m.length - k) 0 ⟨⟨rfl, rfl, rfl, rfl, rfl, trivial⟩, rfl, Nat.zero_le _⟩ ?_
 intro k hk
 refine rn4 ?_
 refine zA Z (fun h => ?_) (fun h => ?_)
 ·have hk' : k < m.length := by omega
  obtain ⟨b1, b2⟩ := hr _ (zAN [] hk')
  have hc := zKS (m.getD k []) b1 b2
  have htk := zCC (fun r : List zn => r.map zv) m [] k hk'
  have hml : ((m.take k).map (fun r : List zn => r.map zv)).length = k := by rw [List.length_map, List.length_take]; omega
  generalize (m.take k).map (fun r : List zn => r.map zv) = qs at *
  generalize (m.getD k []).map zv = q at *
  refine rn6 ?_
  refine zB Z Z Z hc ?_
  repeat (refine zf rfl rfl rfl rfl rfl rfl rfl rfl rfl rfl rfl ?_)
  refine zo Z Z Z Z Z Z Z Z Z hml Z Z (by show 0 + 1 ≤ 1; omega) Z (by show (k + 1) * 24 ≤ _ ∧ _; omega) ?_ (by rw [hfix]; exact fun h => h) ?_
  ·intro i' j hi hj
   exact zAH [] 1 zCe zBQ qs q _ (zN4 _) 0 i' j hi hj
  refine zDt ?_
  refine zI ?_
  refine zBL [some ⟨105, zY ((m.take (k + 1)).map (fun r => r.map zv))⟩] ?_ ?_
  ·rw [htk]
   exact zP.eqv (zAQ [] 1 zCe qs q _ (zN4 _)) zP.nil
  refine rn3 ?_
  exact zJ ⟨k + 1, by omega, by omega, ⟨Z, Z, Z, Z, Z, trivial⟩, Z⟩
 ·have hk' : k = m.length := by omega
  subst hk'
  rw [List.take_length]
  refine zF6 ?_
  refine zAL 0 3 m.length [] Z (zFl _) Z (by show _ ≤ (m.map _).length; rw [List.length_map]; exact Nat.le_refl _) trivial ?_
  refine rn0 ?_
  exact zL hR Z Z
theorem zFM {m : Nat} {q : Rat} (h : D (9 * m) q) : Sz m q := by
 have key : ∀ n : Nat, n < 10 ^ (9 * m) → (zS n).length ≤ m := fun n hn => by
  refine zAe (Nat.lt_of_lt_of_le hn ?_)
  rw [Nat.pow_mul]
  exact Nat.pow_le_pow_left (by decide) m
 exact ⟨key _ h.1, key _ h.2⟩
theorem zOq (a b : List Rat) (j k : Nat) (ha : ∀ q ∈ a, D j q) (hb : ∀ q ∈ b, D k q) (hl : a.length ≤ b.length) (hal : b.length ≤ 1000000) (hK : 1 + a.length * (j + k + 1) ≤ 900000) : zU Tryz.prog 68 [.ro (qsC a) 0 a.length, .ro (qsC b) 0 b.length] (qA (zAM a b)) := by
 refine zQ.value0 (zE (P := Tryz.prog) (fn := Tryz.f68) Z Z (by kernel_rfl) Z (fun c hR hfix => ?_)) (fix := fun _ => False) (fun _ h => h) Z Z
 refine rn4 ?_
 refine zB Z Z Z zHW ?_
 repeat (refine zBD rfl rfl rfl ?_)
 refine sa1 (c' := .box (zT 0)) Z Z Z Z Z Z Z ?_
 refine rn3 ?_
 refine zZ (ι := Nat × Rat) (fun p => [(0, .ro (qsC a) 0 a.length), (1, .ro (qsC b) 0 b.length), (4, .ptr 0 0 0), (5, .ptr 1 0 0), (9, .ro (qsC a) 0 a.length), (10, iN a.length), (11, iN p.1)]) (fun p => [some ⟨104, .box [.bool false, .nil, .nil]⟩, some ⟨104, .box (zT p.2)⟩])
  (fun p => p.1 ≤ a.length ∧ p.2 = zAU (fun i => a.getD i 0 * b.getD i 0) p.1) (fun p => a.length - p.1) (0, 0) ⟨⟨rfl, rfl, rfl, rfl, rfl, rfl, rfl, trivial⟩, rfl, Nat.zero_le _, rfl⟩ ?_
 rintro ⟨i, acc⟩ ⟨hi, hA⟩
 simp only at *
 have hterm : ∀ i', i' < a.length → D (j + k) (a.getD i' 0 * b.getD i' 0) := fun i' h' => (ha _ (zAN 0 h')).mul (hb _ (zAN 0 (by omega)))
 have hDa : D (1 + i * (j + k + 1)) acc := by rw [hA]; exact zPX (fun i' h' => hterm i' (by omega))
 have hb1 : i * (j + k + 1) ≤ a.length * (j + k + 1) := Nat.mul_le_mul_right _ hi
 refine rn4 ?_
 refine zA Z (fun h => ?_) (fun h => ?_)
 ·have hi' : i < a.length := by omega
  have hib : i < b.length := by omega
  have hm := hterm i hi'
  have hx := ha _ (zAN 0 hi')
  have hy := hb _ (zAN 0 hib)
  have hsz1 : Sz 100000 (a.getD i 0) := zFM (hx.mono (by have := Nat.le_mul_of_pos_left (j + k + 1) (show 0 < a.length by omega); omega))
  have hsz2 : Sz 100000 (b.getD i 0) := zFM (hy.mono (by have := Nat.le_mul_of_pos_left (j + k + 1) (show 0 < a.length by omega); omega))
  have hsz3 : Sz 100000 (a.getD i 0 * b.getD i 0) := zFM (hm.mono (by have := Nat.le_mul_of_pos_left (j + k + 1) (show 0 < a.length by omega); omega))
  have hsz4 : Sz 100000 acc := zFM (hDa.mono (by omega))
  have hnext : acc + a.getD i 0 * b.getD i 0 = zAU (fun i => a.getD i 0 * b.getD i 0) (i + 1) := by rw [zAU, hA]
  refine rn6 ?_
  refine zD 15 (.agg (zT (a.getD i 0))) Z (AEq.of_eq Z) ?_
  have e5 : b.getD i 0 = b.getD i 0 := rfl
  generalize hp : a.getD i 0 = p at *
  have g1 := zKk p
  refine sa1 (c' := .box (zT p)) Z Z Z Z Z Z Z ?_
  refine rn6 ?_
  refine zB Z Z Z g1 ?_
  refine rn3 ?_
  have hz : ∀ x : Rat, sgn x.num = 0 → x = 0 := fun x hx => sgn_zero.1 hx
  generalize hq : b.getD i 0 = q at *
  have g2 := zKk q
  have g3 := zMs p q hsz1 hsz2
  have g4 := zIq acc (p * q) hsz4 hsz3
  have g3' : zU Tryz.prog 127 [qA p, qA (b.getD i 0)] (qA (p * q)) := by rw [hq]; exact g3
  refine zAi Z Z (fun h1 => ?_) (fun h1 => ?_)
  ·refine rn6 ?_
   refine zD 23 (.agg (zT q)) Z (AEq.of_eq (by rw [← hq]; rfl)) ?_
   refine zB Z Z Z g2 ?_
   refine rn3 ?_
   refine zA Z (fun h2 => ?_) (fun h2 => ?_)
   ·skip
    refine zi (by kernel_rfl) ?_
    refine zq (fuel := 1) [0, 1, 2, 3, 4, 5, 6, 7] [(0, .ro (qsC a) 0 a.length), (1, .ro (qsC b) 0 b.length), (5, .ptr 1 0 0), (7, .ptr 2 0 0), (6, iN i), (4, .ptr 0 0 0), (9, .ro (qsC a) 0 a.length), (10, iN a.length), (11, iN i)] ⟨Z, Z, Z, Z, Z, Z, Z, Z, Z, trivial⟩ (by kernel_rfl) (by decide) Z Z ?_
    refine zM Z Z (qpp Z Z Z Z Z Z Z) ?_
    refine zM Z Z (qpp Z Z Z Z Z Z Z) ?_
    refine zM Z Z (zK Z) ?_
    refine zM Z Z (zK Z) ?_
    refine zM Z Z (zAE Z Z Z Z (by first | (simp only [Nat.zero_add, Int.toNat_natCast, Int.toNat_zero]; exact Z) | exact Z) (by omega)) ?_
    refine zM Z Z (zA9 Z Z Z Z Z Z) ?_
    refine zA8 Z Z Z Z Z g3' ?_
    refine zA8 Z Z Z Z Z g4 ?_
    refine zAC ?_
    refine zF (is := [8]) (by kernel_rfl) (by simp) Z ⟨fun o ho => ?_, trivial⟩
    all_goals (cases ho)
    skip
    unfold qA
    refine sa1 (c' := .box (zT (acc + p * q))) Z Z Z Z Z Z Z ?_
    refine rn1 ?_
    refine zW (by kernel_rfl) ?_
    repeat (refine zAP ?_)
    refine zI ?_
    refine zBL ([some ⟨104, .box [.bool false, .nil, .nil]⟩, some ⟨104, .box (zT (acc + p * q))⟩] ++ [none]) ?_ ?_
    ·exact zP.eqv (CEq.refl _) (zP.eqv (CEq.refl _) (zP.drop zP.nil))
    refine zD9 (H1 := [some ⟨104, .box [.bool false, .nil, .nil]⟩, some ⟨104, .box (zT (acc + p * q))⟩]) Z (by rw [hfix]; exact fun h => h) ?_
    refine rn3 ?_
    exact zJ ⟨(i + 1, (acc + p * q)), ⟨by simp only; omega, hnext⟩, by simp only; omega, ⟨Z, Z, Z, Z, Z, Z, Z, trivial⟩, Z⟩
   ·have e0 : q = 0 := hz q (Classical.not_not.1 h2)
    rw [e0, Rat.mul_zero, Rat.add_zero] at hnext
    refine zDt ?_
    refine zI ?_
    refine zBL ([some ⟨104, .box [.bool false, .nil, .nil]⟩, some ⟨104, .box (zT acc)⟩] ++ [none]) ?_ ?_
    ·exact zP.eqv (CEq.refl _) (zP.eqv (CEq.refl _) (zP.drop zP.nil))
    refine zD9 (H1 := [some ⟨104, .box [.bool false, .nil, .nil]⟩, some ⟨104, .box (zT acc)⟩]) Z (by rw [hfix]; exact fun h => h) ?_
    refine rn3 ?_
    exact zJ ⟨(i + 1, acc), ⟨by simp only; omega, hnext⟩, by simp only; omega, ⟨Z, Z, Z, Z, Z, Z, Z, trivial⟩, Z⟩
  ·have e0 : p = 0 := hz p (Classical.not_not.1 h1)
   rw [e0, Rat.zero_mul, Rat.add_zero] at hnext
   repeat (first | refine zR ?_ | refine zCO rfl rfl rfl ?_ | refine zG (zBJ rfl rfl) ?_)
   refine zI ?_
   refine zBL ([some ⟨104, .box [.bool false, .nil, .nil]⟩, some ⟨104, .box (zT acc)⟩] ++ [none]) ?_ ?_
   ·exact zP.eqv (CEq.refl _) (zP.eqv (CEq.refl _) (zP.drop zP.nil))
   refine zD9 (H1 := [some ⟨104, .box [.bool false, .nil, .nil]⟩, some ⟨104, .box (zT acc)⟩]) Z (by rw [hfix]; exact fun h => h) ?_
   refine rn5 ?_
   exact zJ ⟨(i + 1, acc), ⟨by simp only; omega, hnext⟩, by simp only; omega, ⟨Z, Z, Z, Z, Z, Z, Z, trivial⟩, Z⟩
 ·have hi' : i = a.length := by omega
  subst hi'
  have e : zAM a b = acc := hA.symm
  rw [e] at hR
  refine rn6 ?_
  refine sa1 (c' := .box (zT acc)) Z Z Z Z Z Z Z ?_
  refine rn0 ?_
  exact zL hR Z Z
theorem cols_ok (m : List (List Rat)) (w : Nat) (hlen : m.length ≤ 1000000) (hw : w ≤ 1000000) (hr : ∀ r ∈ m, r.length = w) : zU Tryz.prog 72 [.ro (zY m) 0 m.length, iN w] (.ro (zY (zC5 m w)) 0 w) := by
 refine zQ.value0 (zE (P := Tryz.prog) (fn := Tryz.f72) Z Z (by kernel_rfl) Z (fun c hR hfix => ?_)) (fix := fun _ => False) (fun _ h => h) Z Z
 refine rn0 ?_
 refine zAb 5 ⟨105, zY []⟩ Z Z ?_
 repeat (refine zAA ?_)
 refine zZ (ι := Nat) (fun k => [(0, .ro (zY m) 0 m.length), (5, .sl 0 0 k), (10, iN w), (11, iN k)]) (fun k => [some ⟨105, zY ((List.range k).map (zBo m))⟩])
  (fun k => k ≤ w) (fun k => w - k) 0 ⟨⟨rfl, rfl, rfl, rfl, trivial⟩, rfl, Nat.zero_le _⟩ ?_
 intro k hk
 refine rn4 ?_
 refine zA Z (fun h => ?_) (fun h => ?_)
 ·have hk' : k < w := by omega
  refine rn8 ?_
  refine zAA ?_
  refine rn8 ?_
  refine zAb 7 ⟨104, qsC []⟩ Z Z ?_
  repeat (refine zAA ?_)
  refine zZ (ι := Nat) (fun j => [(0, .ro (zY m) 0 m.length), (5, .sl 0 0 k), (6, iN k), (7, .sl 1 0 j), (10, iN w), (11, iN k), (14, .ro (zY m) 0 m.length), (15, iN m.length), (16, iN j)]) (fun j => [some ⟨105, zY ((List.range k).map (zBo m))⟩, some ⟨104, qsC (zBo (m.take j) k)⟩])
   (fun j => j ≤ m.length) (fun j => m.length - j) 0 ⟨⟨rfl, rfl, rfl, rfl, rfl, rfl, rfl, rfl, rfl, trivial⟩, rfl, Nat.zero_le _⟩ ?_
  intro j hj
  refine rn4 ?_
  refine zA Z (fun h2 => ?_) (fun h2 => ?_)
  ·have hj' : j < m.length := by omega
   have hrl := hr _ (zAN [] hj')
   have htk : zBo (m.take (j + 1)) k = zBo (m.take j) k ++ [(m.getD j []).getD k 0] := zCC (fun row : List Rat => row.getD k 0) m [] j hj'
   have hml : (zBo (m.take j) k).length = j := by rw [zCH, List.length_take]; omega
   generalize zBo (m.take j) k = qs at *
   generalize (List.range k).map (zBo m) = rs at *
   have hkr : k < (m.getD j []).length := by omega
   refine rn19 ?_
   refine zD 24 (.agg (zT ((m.getD j []).getD k 0))) Z (AEq.of_eq Z) ?_
   generalize (m.getD j []).getD k 0 = q at *
   repeat (refine zf rfl rfl rfl rfl rfl rfl rfl rfl rfl rfl rfl ?_)
   refine zo Z Z Z Z Z Z Z Z Z hml Z Z (by show 0 + 1 ≤ 1; omega) Z (by show (j + 1) * 56 ≤ _ ∧ _; omega) ?_ (by rw [hfix]; exact fun h => h) ?_
   ·intro i' j' hi hj'
    exact zAH 0 3 zT zAf qs q _ (zCh _) 1 i' j' hi hj'
   refine zDt ?_
   refine zI ?_
   refine zBL [some ⟨105, zY rs⟩, some ⟨104, qsC (zBo (m.take (j + 1)) k)⟩] ?_ ?_
   ·rw [htk]
    exact zP.eqv ⟨Z, Z, fun i j _ hj => (zBQ _ j _ hj).symm⟩ (zP.eqv (zAQ 0 3 zT qs q _ (zCh _)) zP.nil)
   refine rn3 ?_
   exact zJ ⟨j + 1, by omega, by omega, ⟨Z, Z, Z, Z, Z, Z, Z, Z, Z, trivial⟩, Z⟩
  ·have hj' : j = m.length := by omega
   subst hj'
   rw [List.take_length]
   have hcl : (zBo m k).length = m.length := zCH m k
   have hml : ((List.range k).map (zBo m)).length = k := by simp
   have htk : (List.range (k + 1)).map (zBo m) = (List.range k).map (zBo m) ++ [zBo m k] := by rw [List.range_succ, List.map_append]; rfl
   generalize (List.range k).map (zBo m) = rs at *
   generalize zBo m k = col at *
   refine zF6 ?_
   refine zAL 1 7 m.length [(0, .ro (zY m) 0 m.length), (5, .sl 0 0 k), (10, iN w), (11, iN k)] Z (zAv _) Z (by show _ ≤ col.length; omega) ⟨Z, Z, Z, Z, trivial⟩ ?_
   refine z8 7 (.ro (qsC col) 0 col.length) Z (AEq.of_eq (by rw [hcl])) ?_
   refine rn3 ?_
   refine zo Z Z Z Z Z Z Z Z Z hml Z Z (by show 0 + 1 ≤ 1; omega) Z (by show (k + 1) * 24 ≤ _ ∧ _; omega) ?_ (by rw [hfix]; exact fun h => h) ?_
   ·intro i' j hi hj
    exact zAH [] 1 zCe zBQ rs col _ (zN4 _) 0 i' j hi hj
   refine zDt ?_
   refine zI ?_
   refine zBL ([some ⟨105, zY ((List.range (k + 1)).map (zBo m))⟩] ++ [none]) ?_ ?_
   ·rw [htk]
    exact zP.eqv (zAQ [] 1 zCe rs col _ (zN4 _)) (zP.drop zP.nil)
   refine zD9 (H1 := [some ⟨105, zY ((List.range (k + 1)).map (zBo m))⟩]) Z (by rw [hfix]; exact fun h => h) ?_
   refine zBL [some ⟨105, zY ((List.range (k + 1)).map (zBo m))⟩] ?_ ?_
   ·exact zP.eqv ⟨Z, Z, fun i j _ hj => (zBQ _ j _ hj).symm⟩ zP.nil
   refine rn3 ?_
   exact zJ ⟨k + 1, by omega, by omega, ⟨Z, Z, Z, Z, trivial⟩, Z⟩
 ·have hk' : k = w := by omega
  subst hk'
  refine zF6 ?_
  refine zAL 0 5 k [] Z (zFl _) Z (by show _ ≤ (List.map _ _).length; simp) trivial ?_
  refine rn0 ?_
  exact zL hR Z Z
def matP (p : List (List zn) × Int) : AV := .tup [.ro (zAY p.1) 0 p.1.length, .int .i64 p.2]
theorem zNn (l : List Rat) (hlen : l.length ≤ 1000000) (hs : ∀ q ∈ l, Sz 100000 q) (hall : l.all zBp = true) : zU Tryz.prog 63 [.ro (qsC l) 0 l.length] (.tup [.ro (.strs (l.map zt)) 0 (l.map zt).length, .int .i64 0]) := by
 have := zPD l hlen hs hall
 rwa [List.length_map]
theorem zRO (l : List Rat) (hlen : l.length ≤ 1000000) (hs : ∀ q ∈ l, Sz 100000 q) : ∃ r : AV, zU Tryz.prog 63 [.ro (qsC l) 0 l.length] (.tup [r, .int .i64 (zED l).2]) ∧ AEq r (.ro (.strs (zED l).1) 0 (zED l).1.length) := by
 cases h : l.all zBp
 ·refine ⟨.nil, ?_, ?_⟩
  ·have := zRN l hlen hs h
   unfold zED; rw [h]; exact this
  ·unfold zED; rw [h]; exact AEq.nil
 ·refine ⟨_, ?_, AEq.rfl'⟩
  have := zNn l hlen hs h
  unfold zED; rw [h]; exact this
end Go.Proofs.YtkncmbklkhjmgaaGreatDoor
namespace Go.Proofs.YtkncmbklkhjmgaaGreatDoor
open Go.Ax Go.Ax.Bg Go.Ax.Rt Go.RowKit Go.Ax.Idx Go.Ax.Cd
attribute [local irreducible] Ax zBn QOp zQ zBX
theorem zO6 (l : List (List UInt8)) (g : FuncId) (caps : List AV) (p : List UInt8 → Bool) (hc : noRef.noRefs caps = true) (hlen : l.length ≤ 9223372036854775807) (hp : ∀ x ∈ l, zU Tryz.prog g ([.str x] ++ caps) (.bool (p x))) :
 zU Tryz.prog 146 [.ro (.strs l) 0 l.length, .fn g caps] (.int .i64 (idxF p l)) := by
 refine zQ.value0 (zE (P := Tryz.prog) (fn := Tryz.f146) Z Z (by kernel_rfl) Z (fun c hR hfix => ?_)) (fix := fun _ => False) (fun _ h => h) (by simp [noRef.noRefs, noRef, hc]) Z
 refine rn3 ?_
 refine zZ (ι := Nat) (fun k => [(0, .ro (.strs l) 0 l.length), (1, .fn g caps), (7, iN l.length), (8, iN k)]) (fun _ => [])
  (fun k => k ≤ l.length ∧ (l.take k).any p = false) (fun k => l.length - k) 0 ⟨⟨rfl, rfl, rfl, rfl, trivial⟩, rfl, Nat.zero_le _, rfl⟩ ?_
 intro k ⟨hk, hany⟩
 refine rn4 ?_
 refine zA Z (fun h => ?_) (fun h => ?_)
 ·have hk' : k < l.length := by omega
  have hanys := zC9 p l [] k hk'
  refine rn9 ?_
  refine zB Z Z Z (hp _ (zAN [] hk')) ?_
  refine rn0 ?_
  refine zEg Z (fun h2 => ?_) (fun h2 => ?_)
  ·refine rn6 ?_
   refine zL hR Z ?_
   have := idxF_take p l k hany hk
   rw [zCl l [] k hk'] at this
   simp only [idxF, h2, if_true] at this
   rw [this]; simp [zBw]
  ·refine rn5 ?_
   refine zJ ⟨k + 1, ⟨by omega, by rw [hanys, hany, h2]; rfl⟩, by omega, ⟨Z, Z, Z, Z, trivial⟩, Z⟩
 ·have hk' : k = l.length := by omega
  subst hk'
  refine rn5 ?_
  refine zL hR Z ?_
  have := idxF_take p l l.length hany hk
  rw [List.drop_length] at this
  rw [this]; rfl
theorem zNG (l : List (List UInt8)) (g : FuncId) (caps : List AV) (p : List UInt8 → Bool) (hc : noRef.noRefs caps = true) (hlen : l.length ≤ 9223372036854775807) (hp : ∀ x ∈ l, zU Tryz.prog g ([.str x] ++ caps) (.bool (p x))) :
 zU Tryz.prog 59 [.ro (.strs l) 0 l.length, .fn g caps] (.bool (l.any p)) := by
 refine zQ.value0 (zE (P := Tryz.prog) (fn := Tryz.f59) Z Z (by kernel_rfl) Z (fun c hR hfix => ?_)) (fix := fun _ => False) (fun _ h => h) (by simp [noRef.noRefs, noRef, hc]) Z
 refine rn0 ?_
 refine zB Z Z Z (zO6 l g caps p hc hlen hp) ?_
 refine rn8 ?_
 refine zL hR Z ?_
 simp only [zBw, zIe]
theorem equalV (a b : List (List UInt8)) (hlen : a.length ≤ 9223372036854775807) (hlb : b.length ≤ 9223372036854775807) : zU Tryz.prog 55 [.ro (.strs a) 0 a.length, .ro (.strs b) 0 b.length] (.bool (decide (a = b))) := by
 refine zQ.value0 (zE (P := Tryz.prog) (fn := Tryz.f55) Z Z (by kernel_rfl) Z (fun c hR hfix => ?_)) (fix := fun _ => False) (fun _ h => h) Z Z
 refine rn3 ?_
 refine zA Z (fun h => ?_) (fun h => ?_)
 ·refine rn2 ?_
  refine zL hR Z ?_
  have : ¬ a = b := by rintro rfl; exact h rfl
  simp [zBw, this]
 have hab : a.length = b.length := by omega
 refine rn3 ?_
 refine zZ (ι := Nat) (fun k => [(0, .ro (.strs a) 0 a.length), (1, .ro (.strs b) 0 b.length), (12, iN a.length), (13, iN k)]) (fun _ => [])
  (fun k => k ≤ a.length ∧ a.take k = b.take k) (fun k => a.length - k) 0 ⟨⟨rfl, rfl, rfl, rfl, trivial⟩, rfl, Nat.zero_le _, rfl⟩ ?_
 intro k ⟨hk, heq⟩
 refine rn4 ?_
 refine zA Z (fun h2 => ?_) (fun h2 => ?_)
 ·have hk' : k < a.length := by omega
  have ha := zBN a [] k hk'
  have hb := zBN b [] k (by omega)
  refine rn1 ?_
  refine zDw (by kernel_rfl) (by kernel_rfl) Z ?_
  refine rn18 ?_
  refine zA Z (fun h3 => ?_) (fun h3 => ?_)
  ·refine rn6 ?_
   refine zL hR Z ?_
   have : ¬ a = b := by rintro rfl; exact h3 rfl
   simp [zBw, this]
  ·refine rn5 ?_
   have h4 : a.getD k [] = b.getD k [] := Classical.not_not.1 h3
   exact zJ ⟨k + 1, ⟨by omega, by rw [ha, hb, heq, h4]⟩, by omega, ⟨Z, Z, Z, Z, trivial⟩, Z⟩
 ·have hk' : k = a.length := by omega
  subst hk'
  rw [List.take_length, hab, List.take_length] at heq
  refine rn5 ?_
  refine zL hR Z ?_
  simp [zBw, heq]
theorem zO4 (l : List (List zn)) (g : FuncId) (caps : List AV) (p : List zn → Bool) (hc : noRef.noRefs caps = true) (hlen : l.length ≤ 9223372036854775807) (hp : ∀ x ∈ l, zU Tryz.prog g ([.ro (.strs x) 0 x.length] ++ caps) (.bool (p x))) :
 zU Tryz.prog 145 [.ro (zAY l) 0 l.length, .fn g caps] (.int .i64 (idxF p l)) := by
 refine zQ.value0 (zE (P := Tryz.prog) (fn := Tryz.f145) Z Z (by kernel_rfl) Z (fun c hR hfix => ?_)) (fix := fun _ => False) (fun _ h => h) (by simp [noRef.noRefs, noRef, hc]) Z
 refine rn3 ?_
 refine zZ (ι := Nat) (fun k => [(0, .ro (zAY l) 0 l.length), (1, .fn g caps), (7, iN l.length), (8, iN k)]) (fun _ => [])
  (fun k => k ≤ l.length ∧ (l.take k).any p = false) (fun k => l.length - k) 0 ⟨⟨rfl, rfl, rfl, rfl, trivial⟩, rfl, Nat.zero_le _, rfl⟩ ?_
 intro k ⟨hk, hany⟩
 refine rn4 ?_
 refine zA Z (fun h => ?_) (fun h => ?_)
 ·have hk' : k < l.length := by omega
  have hanys := zC9 p l [] k hk'
  refine rn6 ?_
  refine zB Z Z Z (hp _ (zAN [] hk')) ?_
  refine rn0 ?_
  refine zEg Z (fun h2 => ?_) (fun h2 => ?_)
  ·refine rn6 ?_
   refine zL hR Z ?_
   have := idxF_take p l k hany hk
   rw [zCl l [] k hk'] at this
   simp only [idxF, h2, if_true] at this
   rw [this]; simp [zBw]
  ·refine rn5 ?_
   refine zJ ⟨k + 1, ⟨by omega, by rw [hanys, hany, h2]; rfl⟩, by omega, ⟨Z, Z, Z, Z, trivial⟩, Z⟩
 ·have hk' : k = l.length := by omega
  subst hk'
  refine rn5 ?_
  refine zL hR Z ?_
  have := idxF_take p l l.length hany hk
  rw [List.drop_length] at this
  rw [this]; rfl
theorem zQt (l : List (List zn)) (g : FuncId) (caps : List AV) (p : List zn → Bool) (hc : noRef.noRefs caps = true) (hlen : l.length ≤ 9223372036854775807) (hp : ∀ x ∈ l, zU Tryz.prog g ([.ro (.strs x) 0 x.length] ++ caps) (.bool (p x))) :
 zU Tryz.prog 57 [.ro (zAY l) 0 l.length, .fn g caps] (.bool (l.any p)) := by
 refine zQ.value0 (zE (P := Tryz.prog) (fn := Tryz.f57) Z Z (by kernel_rfl) Z (fun c hR hfix => ?_)) (fix := fun _ => False) (fun _ h => h) (by simp [noRef.noRefs, noRef, hc]) Z
 refine rn0 ?_
 refine zB Z Z Z (zO4 l g caps p hc hlen hp) ?_
 refine rn8 ?_
 refine zL hR Z ?_
 simp only [zBw, zIe]
theorem small11 (s : zn) (hs : s.length ≤ 9223372036854775807) : zU Tryz.prog 60 [.str s] (.bool (decide (12 < (s.length : Int)))) := by
 refine zQ.value0 (zE (P := Tryz.prog) (fn := Tryz.f60) Z Z (by kernel_rfl) Z (fun c hR hfix => ?_)) (fix := fun _ => False) (fun _ h => h) Z Z
 refine rn6 ?_
 exact zL hR Z Z
def zLq (n : Int) (v : List zn) : Bool := decide (n < (v.length : Int)) || v.any (fun s => decide (12 < (s.length : Int)))
theorem small1 (n : Int) (v : List zn) (hl : v.length ≤ 9223372036854775807) (hs : ∀ s ∈ v, s.length ≤ 9223372036854775807) : zU Tryz.prog 58 [.ro (.strs v) 0 v.length, .rp (.box [.int .i64 n]) 0 0] (.bool (zLq n v)) := by
 have hc := zNG v 60 [] (fun s => decide (12 < (s.length : Int))) rfl hl (fun s hm => small11 s (hs s hm))
 unfold zLq
 refine zQ.value0 (zE (P := Tryz.prog) (fn := Tryz.f58) Z Z (by kernel_rfl) Z (fun c hR hfix => ?_)) (fix := fun _ => False) (fun _ h => h) Z Z
 refine rn15 ?_
 refine zAi Z Z (fun h => ?_) (fun h => ?_)
 ·rw [decide_eq_true h, Bool.true_or] at hR
  refine rn6 ?_
  exact zL hR Z Z
 ·rw [decide_eq_false h, Bool.false_or] at hR
  refine rn2 ?_
  refine zB Z Z Z hc ?_
  refine rn2 ?_
  exact zL hR Z Z
theorem boxI1 (n : Int) : zAd (.box [.int .i64 n]) := by
 intro i j _ hj
 obtain rfl : j = 0 := by have hj : j < 1 := hj; omega
 rfl
def cellM (m : List (List zn)) : List AV := [.ro (zAY m) 0 m.length]
abbrev zNc (l : List (List (List zn))) : Cells := rowE [] 1 cellM l
theorem zRj (n : Nat) (l : List (List (List zn))) (hn : n ≤ 1000) (hl : l.length ≤ 9223372036854775807) (hm : ∀ m ∈ l, m.length ≤ 9223372036854775807 ∧ ∀ r ∈ m, r.length ≤ 9223372036854775807 ∧ ∀ s ∈ r, s.length ≤ 9223372036854775807) : zU Tryz.prog 16 [iN n, .ro (zNc l) 0 l.length] (.bool (l.all (zJX n 12))) := by
 have hbad : ∀ m : List (List zn), zJX n 12 m = !(decide ((n : Int) < (m.length : Int)) || m.any (zLq n)) := by
  intro m
  unfold zJX zLq
  rw [Bool.not_or, Bool.eq_iff_iff]
  simp only [Bool.and_eq_true, Bool.not_eq_true', decide_eq_true_eq, decide_eq_false_iff_not, List.all_eq_true, List.any_eq_false, Bool.or_eq_true, not_or, List.any_eq_true, not_exists]
  constructor
  ·rintro ⟨h1, h2⟩
   refine ⟨by omega, fun v hv => ?_⟩
   obtain ⟨h3, h4⟩ := h2 v hv
   refine ⟨by omega, fun s hs => ?_⟩
   have := h4 s hs.1
   have := hs.2
   omega
  ·rintro ⟨h1, h2⟩
   refine ⟨by omega, fun v hv => ?_⟩
   obtain ⟨h3, h4⟩ := h2 v hv
   refine ⟨by omega, fun s hs => ?_⟩
   have := h4 s
   simp only [hs, true_and] at this
   omega
 refine zQ.value0 (zE (P := Tryz.prog) (fn := Tryz.f16) Z Z (by kernel_rfl) Z (fun c hR hfix => ?_)) (fix := fun _ => False) (fun _ h => h) Z Z
 refine rn6 ?_
 refine zZ (ι := Nat) (fun k => [(0, iN n), (1, .ro (zNc l) 0 l.length), (2, .ptr 0 0 0), (7, .ro (zNc l) 0 l.length), (8, iN l.length), (9, iN k)]) (fun _ => [some ⟨3, .box [iN n]⟩])
  (fun k => k ≤ l.length ∧ l.all (zJX n 12) = (l.drop k).all (zJX n 12)) (fun k => l.length - k) 0 ⟨⟨rfl, rfl, rfl, rfl, rfl, rfl, trivial⟩, rfl, Nat.zero_le _, by rw [List.drop_zero]⟩ ?_
 rintro k ⟨hk, hA⟩
 refine rn4 ?_
 refine zA Z (fun h => ?_) (fun h => ?_)
 ·have hk' : k < l.length := by omega
  have hd := zEs (d := []) hk'
  rw [hd, List.all_cons, hbad] at hA
  obtain ⟨g1, g2⟩ := hm _ (zAN [] hk')
  have hc := zQt (l.getD k []) 58 [.rp (.box [iN n]) 0 0] (zLq n) rfl g1 (fun v hv => small1 n v (g2 v hv).1 (g2 v hv).2)
  refine rn6 ?_
  refine zAi Z Z (fun h2 => ?_) (fun h2 => ?_)
  ·rw [decide_eq_true h2, Bool.true_or, Bool.not_true, Bool.false_and] at hA
   rw [hA] at hR
   refine rn6 ?_
   exact zL hR Z Z
  ·rw [decide_eq_false h2, Bool.false_or] at hA
   cases hb : (l.getD k []).any (zLq (n : Nat))
   ·rw [hb] at hA hc
    refine zDt ?_
    refine zIK rfl rfl rfl rfl hc (zKl (o1 := ⟨3, .box [iN n]⟩) (boxI1 _)) ⟨trivial, ⟨fun o ho => by simp at ho; subst ho; exact Nat.zero_lt_one, trivial⟩, trivial⟩ rfl rfl rfl ?_
    refine rn5 ?_
    exact zJ ⟨k + 1, ⟨by omega, hA⟩, by omega, ⟨Z, Z, Z, Z, Z, Z, trivial⟩, Z⟩
   ·rw [hb] at hA hc
    rw [Bool.not_true, Bool.false_and] at hA
    rw [hA] at hR
    refine zDt ?_
    refine zIK rfl rfl rfl rfl hc (zKl (o1 := ⟨3, .box [iN n]⟩) (boxI1 _)) ⟨trivial, ⟨fun o ho => by simp at ho; subst ho; exact Nat.zero_lt_one, trivial⟩, trivial⟩ rfl rfl rfl ?_
    refine rn6 ?_
    exact zL hR Z Z
 ·have hk' : k = l.length := by omega
  subst hk'
  rw [List.drop_length] at hA
  rw [hA] at hR
  refine rn5 ?_
  exact zL hR Z Z
def zES (m : List (List zn)) (k : Nat) : List zn := m.map (fun r => r.getD k [])
theorem zNF (m : List (List zn)) (k : Nat) : (zES m k).length = m.length := by simp [zES]
theorem trans_ok (m : List (List zn)) (hlen : m.length ≤ 9223372036854775807) (hr : ∀ r ∈ m, r.length ≤ 9223372036854775807 ∧ ∀ s ∈ r, s.length ≤ 9223372036854775807) : zU Tryz.prog 29 [.ro (zAY m) 0 m.length] (matP (zGc m)) := by
 have cm := zLr m hlen hr
 have wm := zOS m hlen
 refine zQ.value0 (zE (P := Tryz.prog) (fn := Tryz.f29) Z Z (by kernel_rfl) Z (fun c hR hfix => ?_)) (fix := fun _ => False) (fun _ h => h) Z Z
 refine rn0 ?_
 refine zB Z Z Z cm ?_
 refine rn3 ?_
 refine zA Z (fun h1 => ?_) (fun h1 => ?_)
 ·have e : zGc m = ([], zGi m) := by unfold zGc; rw [if_pos h1]
  rw [e] at hR
  refine rn7 ?_
  refine z8 2 (.ro (zAY []) 0 0) Z AEq.nil ?_
  refine rn2 ?_
  exact zL hR Z Z
 have em := Classical.not_not.1 h1
 have im := zEu em
 have sm := im.sp
 have wle : zAJ m ≤ 40 := by
  cases m with
  | nil => exact Nat.zero_le _
  | cons r b' => exact im.sq (by simp)
 have e : zGc m = ((List.range (zAJ m)).map (zES m), 0) := by unfold zGc zAw zES; rw [if_neg h1]
 rw [e] at hR
 generalize hwm : zAJ m = w at *
 refine rn1 ?_
 refine zB Z Z Z wm ?_
 refine rn0 ?_
 refine zAb 5 ⟨28, zAY []⟩ Z Z ?_
 repeat (refine zAA ?_)
 refine zZ (ι := Nat) (fun k => [(0, .ro (zAY m) 0 m.length), (5, .sl 0 0 k), (16, iN w), (17, iN k)]) (fun k => [some ⟨28, zAY ((List.range k).map (zES m))⟩])
  (fun k => k ≤ w) (fun k => w - k) 0 ⟨⟨rfl, rfl, rfl, rfl, trivial⟩, rfl, Nat.zero_le _⟩ ?_
 intro k hk
 refine rn4 ?_
 refine zA Z (fun h => ?_) (fun h => ?_)
 ·have hk' : k < w := by omega
  refine rn8 ?_
  refine zAA ?_
  refine rn8 ?_
  refine zAb 7 ⟨26, .strs []⟩ Z Z ?_
  repeat (refine zAA ?_)
  refine zZ (ι := Nat) (fun j => [(0, .ro (zAY m) 0 m.length), (5, .sl 0 0 k), (6, iN k), (7, .sl 1 0 j), (16, iN w), (17, iN k), (20, .ro (zAY m) 0 m.length), (21, iN m.length), (22, iN j)]) (fun j => [some ⟨28, zAY ((List.range k).map (zES m))⟩, some ⟨26, .strs (zES (m.take j) k)⟩])
   (fun j => j ≤ m.length) (fun j => m.length - j) 0 ⟨⟨rfl, rfl, rfl, rfl, rfl, rfl, rfl, rfl, rfl, trivial⟩, rfl, Nat.zero_le _⟩ ?_
  intro j hj
  refine rn4 ?_
  refine zA Z (fun h2 => ?_) (fun h2 => ?_)
  ·have hj' : j < m.length := by omega
   have hrl := im.cols _ (zAN [] hj')
   have htk : zES (m.take (j + 1)) k = zES (m.take j) k ++ [(m.getD j []).getD k []] := zCC (fun row : List zn => row.getD k []) m [] j hj'
   have hml : (zES (m.take j) k).length = j := by rw [zNF, List.length_take]; omega
   generalize zES (m.take j) k = qs at *
   generalize (List.range k).map (zES m) = rs at *
   have hkr : k < (m.getD j []).length := by omega
   refine rn18 ?_
   refine zo Z Z Z Z Z Z Z Z Z hml Z Z (by show 0 + 1 ≤ 1; omega) Z (by show (j + 1) * 16 ≤ _ ∧ _; omega) (fun i j _ _ => rfl) (by rw [hfix]; exact fun h => h) ?_
   refine zDt ?_
   refine zI ?_
   refine zBL [some ⟨28, zAY rs⟩, some ⟨26, .strs (zES (m.take (j + 1)) k)⟩] ?_ ?_
   ·rw [htk]
    exact zP.eqv ⟨Z, Z, fun i j _ hj => (zGr _ j _ hj).symm⟩ (zP.eqv (CEq.refl _) zP.nil)
   refine rn3 ?_
   exact zJ ⟨j + 1, by omega, by omega, ⟨Z, Z, Z, Z, Z, Z, Z, Z, Z, trivial⟩, Z⟩
  ·have hj' : j = m.length := by omega
   subst hj'
   rw [List.take_length]
   have hcl : (zES m k).length = m.length := zNF m k
   have hml : ((List.range k).map (zES m)).length = k := by simp
   have htk : (List.range (k + 1)).map (zES m) = (List.range k).map (zES m) ++ [zES m k] := by rw [List.range_succ, List.map_append]; rfl
   generalize (List.range k).map (zES m) = rs at *
   generalize zES m k = col at *
   refine zF6 ?_
   refine zAL 1 7 m.length [(0, .ro (zAY m) 0 m.length), (5, .sl 0 0 k), (16, iN w), (17, iN k)] Z (fun _ _ _ _ => rfl) Z (by show _ ≤ col.length; omega) ⟨Z, Z, Z, Z, trivial⟩ ?_
   refine z8 7 (.ro (.strs col) 0 col.length) Z (AEq.of_eq (by rw [hcl])) ?_
   refine rn3 ?_
   refine zo Z Z Z Z Z Z Z Z Z hml Z Z (by show 0 + 1 ≤ 1; omega) Z (by show (k + 1) * 24 ≤ _ ∧ _; omega) ?_ (by rw [hfix]; exact fun h => h) ?_
   ·intro i' j hi hj
    exact zAH [] 1 zHj zGr rs col _ (rowS1 _) 0 i' j hi hj
   refine zDt ?_
   refine zI ?_
   refine zBL ([some ⟨28, zAY ((List.range (k + 1)).map (zES m))⟩] ++ [none]) ?_ ?_
   ·rw [htk]
    exact zP.eqv (zAQ [] 1 zHj rs col _ (rowS1 _)) (zP.drop zP.nil)
   refine zD9 (H1 := [some ⟨28, zAY ((List.range (k + 1)).map (zES m))⟩]) Z (by rw [hfix]; exact fun h => h) ?_
   refine zBL [some ⟨28, zAY ((List.range (k + 1)).map (zES m))⟩] ?_ ?_
   ·exact zP.eqv ⟨Z, Z, fun i j _ hj => (zGr _ j _ hj).symm⟩ zP.nil
   refine rn3 ?_
   exact zJ ⟨k + 1, by omega, by omega, ⟨Z, Z, Z, Z, trivial⟩, Z⟩
 ·have hk' : k = w := by omega
  subst hk'
  have hml : ((List.range k).map (zES m)).length = k := by simp
  generalize (List.range k).map (zES m) = rs at *
  refine zF6 ?_
  refine zAL 0 5 k [] Z (zHn _) Z (by show _ ≤ rs.length; omega) trivial ?_
  refine z8 5 (.ro (zAY rs) 0 rs.length) Z (AEq.of_eq (by rw [hml])) ?_
  refine rn0 ?_
  exact zL hR Z Z
theorem zGK (m : List (List zn)) (hlen : m.length ≤ 9223372036854775807) (hr : ∀ r ∈ m, r.length ≤ 9223372036854775807 ∧ ∀ s ∈ r, s.length ≤ 9223372036854775807) : zU Tryz.prog 18 [.ro (zAY m) 0 m.length] (.int .i64 (zAx m)) := by
 have cm := zLr m hlen hr
 have wm := zOS m hlen
 refine zQ.value0 (zE (P := Tryz.prog) (fn := Tryz.f18) Z Z (by kernel_rfl) Z (fun c hR hfix => ?_)) (fix := fun _ => False) (fun _ h => h) Z Z
 refine rn6 ?_
 refine zA Z (fun h1 => ?_) (fun h1 => ?_)
 ·have e : zAx m = 2 := by unfold zAx; rw [if_pos (by omega)]
  rw [e] at hR
  refine rn2 ?_
  exact zL hR Z Z
 have h1' : ¬ 12 < m.length := by omega
 refine rn1 ?_
 refine zB Z Z Z cm ?_
 refine rn3 ?_
 refine zA Z (fun h2 => ?_) (fun h2 => ?_)
 ·have e : zAx m = zGi m := by unfold zAx; rw [if_neg h1', if_pos h2]
  rw [e] at hR
  refine rn2 ?_
  exact zL hR Z Z
 refine rn1 ?_
 refine zB Z Z Z wm ?_
 refine rn4 ?_
 refine zA Z (fun h3 => ?_) (fun h3 => ?_)
 ·have e : zAx m = 8 := by unfold zAx; rw [if_neg h1', if_neg h2, if_pos (by omega)]
  rw [e] at hR
  refine rn2 ?_
  exact zL hR Z Z
 refine rn1 ?_
 refine zB Z Z Z wm ?_
 refine rn6 ?_
 refine zA Z (fun h4 => ?_) (fun h4 => ?_)
 ·have e : zAx m = 2 := by unfold zAx; rw [if_neg h1', if_neg h2, if_neg (by omega), if_pos (by omega)]
  rw [e] at hR
  refine rn2 ?_
  exact zL hR Z Z
 have e : zAx m = 0 := by unfold zAx; rw [if_neg h1', if_neg h2, if_neg (by omega), if_neg (by omega)]
 rw [e] at hR
 refine rn1 ?_
 exact zL hR Z Z
end Go.Proofs.YtkncmbklkhjmgaaGreatDoor
namespace Go.Proofs.YtkncmbklkhjmgaaGreatDoor
open Go.Ax Go.Ax.Bg Go.Ax.Rt Go.RowKit Go.Ax.Dt Go.Ax.Sx Go.Ax.Mg
attribute [local irreducible] Ax zBn QOp zQ zBX
abbrev zEf (l : List zn) : Prop := l.length ≤ 9223372036854775807 ∧ ∀ s ∈ l, s.length ≤ 9223372036854775807
abbrev zCo (m : List (List zn)) : Prop := m.length ≤ 9223372036854775807 ∧ ∀ r ∈ m, r.length ≤ 9223372036854775807 ∧ ∀ s ∈ r, s.length ≤ 9223372036854775807
theorem rat_D2 {s : zn} (h : zCf s = 0) : D 2000 (zv s) := by
 have hf := (IsQ.self h).fit
 unfold zBp at hf
 rw [Bool.and_eq_true, decide_eq_true_eq, decide_eq_true_eq] at hf
 exact dig_D hf.1 hf.2
theorem zHo (m : List (List zn)) (r y : List zn) (hm : 0 < m.length) (hm2 : m.length ≤ 9223372036854775807) (hw : zAJ m ≤ 9223372036854775807) (hr : zEf r) (hc : zEf y) :
 zU Tryz.prog 66 [.ro (zAY m) 0 m.length, .ro (.strs r) 0 r.length, .ro (.strs y) 0 y.length] (.int .i64 (zEp m r y)) := by
 have o1 := zQL r hr.1 hr.2
 have o2 := zQL y hc.1 hc.2
 have hwd : (m.getD 0 []).length = zAJ m := rfl
 have hl1 := hr.1
 have hl2 := hc.1
 refine zQ.value0 (zE (P := Tryz.prog) (fn := Tryz.f66) Z Z (by kernel_rfl) Z (fun c hR hfix => ?_)) (fix := fun _ => False) (fun _ h => h) Z Z
 unfold zEp at hR
 refine rn3 ?_
 refine zAi Z Z (fun h1 => ?_) (fun h1 => ?_)
 ·rw [if_pos (.inl (by omega))] at hR
  refine rn6 ?_
  exact zL hR Z Z
 refine rn6 ?_
 refine zA Z (fun h2 => ?_) (fun h2 => ?_)
 ·rw [if_pos (.inr (by omega))] at hR
  refine rn2 ?_
  exact zL hR Z Z
 rw [if_neg (by omega)] at hR
 refine rn1 ?_
 refine zB Z Z Z o1 ?_
 refine rn3 ?_
 refine zA Z (fun h3 => ?_) (fun h3 => ?_)
 ·rw [if_pos h3] at hR
  refine rn2 ?_
  exact zL hR Z Z
 rw [if_neg h3] at hR
 refine rn1 ?_
 refine zB Z Z Z o2 ?_
 refine rn0 ?_
 exact zL hR Z Z
theorem pay_ok (m : List (List zn)) (r y : List zn) (hm : zCo m) (hr : zEf r) (hc : zEf y) :
 zU Tryz.prog 19 [.ro (zAY m) 0 m.length, .ro (.strs r) 0 r.length, .ro (.strs y) 0 y.length] (zEN (payG m r y)) := by
 have cg := zGK m hm.1 hm.2
 refine zQ.value0 (zE (P := Tryz.prog) (fn := Tryz.f19) Z Z (by kernel_rfl) Z (fun c hR hfix => ?_)) (fix := fun _ => False) (fun _ h => h) Z Z
 unfold payG at hR
 refine rn0 ?_
 refine zB Z Z Z cg ?_
 refine rn3 ?_
 refine zA Z (fun h1 => ?_) (fun h1 => ?_)
 ·rw [if_pos h1] at hR
  refine rn2 ?_
  exact zL hR Z Z
 rw [if_neg h1] at hR
 obtain ⟨g1, g2, g3, g4, g5⟩ := zE7 (Classical.not_not.1 h1)
 have hM := zEu g1
 have hv := zI3 g1
 have hml : (inM m).length = m.length := zEA m
 have hm0 : 0 < m.length := List.length_pos_iff.2 g5
 have cs := zHo m r y hm0 hm.1 (by omega) hr hc
 refine rn1 ?_
 refine zB Z Z Z cs ?_
 refine rn3 ?_
 refine zA Z (fun h2 => ?_) (fun h2 => ?_)
 ·rw [if_pos h2] at hR
  refine rn2 ?_
  exact zL hR Z Z
 rw [if_neg h2] at hR
 obtain ⟨s1, s2, s3, s4⟩ := zL7 (Classical.not_not.1 h2)
 obtain ⟨p1, p2, _, p4⟩ := zHV s3
 obtain ⟨q1, q2, _, q4⟩ := zHV s4
 have nr := zKS r (by omega) (fun s hs => ⟨hr.2 s hs, p2 s hs⟩)
 have nc := zKS y (by omega) (fun s hs => ⟨hc.2 s hs, q2 s hs⟩)
 have nm := zKT m (by omega) (fun r h => ⟨by have := hM.cols r h; omega, fun s hs => ⟨(hm.2 r h).2 s hs, hM.ok r h s hs⟩⟩)
 have hcl : (y.map zv).length = zAJ m := by rw [List.length_map]; exact s2
 have hrl : (r.map zv).length = m.length := by rw [List.length_map]; exact s1
 have hcD : ∀ q ∈ y.map zv, D 2000 q := fun q hq => (q4 q hq).2
 have hrD : ∀ q ∈ r.map zv, D 2000 q := fun q hq => (p4 q hq).2
 obtain ⟨L, hL⟩ : ∃ L, L = zIX (y.map zv) (inM m) := ⟨_, rfl⟩
 have hLl : L.length = m.length := by rw [hL]; unfold zIX; rw [List.length_map]; exact hml
 have hLD : ∀ q ∈ L, D 48100 q := fun q hq => by
  rw [hL] at hq
  obtain ⟨row, hrow, rfl⟩ := List.mem_map.1 hq
  obtain ⟨v1, v2⟩ := hv row hrow
  exact (zOp v2 hcD (by omega)).mono (by rw [v1]; have : zAJ m * 4001 ≤ 12 * 4001 := Nat.mul_le_mul_right _ (by omega); omega)
 have dL := zOq (r.map zv) L 2000 48100 hrD hLD (by omega) (by omega) (by rw [hrl]; have : m.length * 50101 ≤ 12 * 50101 := Nat.mul_le_mul_right _ (by omega); omega)
 have oL := zPG (zAM (r.map zv) L) (zFM ((zOp hrD hLD (by omega)).mono (by rw [hrl]; have : m.length * 50101 ≤ 12 * 50101 := Nat.mul_le_mul_right _ (by omega); omega)))
 have dR : ∀ i, i < m.length → zU Tryz.prog 68 [.ro (qsC ((inM m).getD i [])) 0 ((inM m).getD i []).length, .ro (qsC (y.map zv)) 0 (y.map zv).length] (qA (zAM ((inM m).getD i []) (y.map zv))) := fun i hi => by
  obtain ⟨v1, v2⟩ := hv _ (zAN [] (show i < (inM m).length by omega))
  exact zOq _ _ 2000 2000 v2 hcD (by omega) (by omega) (by rw [v1]; have : zAJ m * 4001 ≤ 12 * 4001 := Nat.mul_le_mul_right _ (by omega); omega)
 have hsn : ∀ i, i < m.length → zIX (y.map zv) ((inM m).take (i + 1)) = zIX (y.map zv) ((inM m).take i) ++ [zAM ((inM m).getD i []) (y.map zv)] := fun i hi => zQ1 _ _ (by omega)
 have hd0 : zIX (y.map zv) ((inM m).take m.length) = L := by rw [hL, List.take_of_length_le (by omega)]
 have hlk : ∀ k, k ≤ m.length → (zIX (y.map zv) ((inM m).take k)).length = k := fun k hk => by unfold zIX; rw [List.length_map, List.length_take]; omega
 rw [show (inM m).map (fun row => zAM row (y.map zv)) = L from hL.symm] at hR
 have hs0 : zIX (y.map zv) ((inM m).take 0) = [] := rfl
 clear hv hM hL
 generalize inM m = M at *
 generalize y.map zv = C at *
 generalize hn : m.length = n at *
 refine rn1 ?_
 refine zLG 10 ⟨104, qsC []⟩ Z Z ?_
 skip
 refine zB Z Z Z nc ?_
 refine rn0 ?_
 refine zB Z Z Z nm ?_
 refine rn3 ?_
 refine zZ (ι := Nat) (fun k => [(1, .ro (.strs r) 0 r.length), (10, .sl 0 0 k), (11, .ro (qsC C) 0 C.length), (29, .ro (zY M) 0 n), (30, iN n), (31, iN k)]) (fun k => [some ⟨104, qsC (zIX C (M.take k))⟩])
  (fun k => k ≤ n) (fun k => n - k) 0 ⟨⟨rfl, rfl, rfl, rfl, rfl, rfl, trivial⟩, rfl, Nat.zero_le _⟩ ?_
 intro k hk
 refine rn4 ?_
 refine zA Z (fun h => ?_) (fun h => ?_)
 ·have hk' : k < n := by omega
  have cd := dR k hk'
  have hst := hsn k hk'
  have hll := hlk k hk
  have hrk : k < M.length := by omega
  generalize zIX C (M.take k) = qs at *
  refine rn12 ?_
  refine zD 36 (.ro (qsC (M.getD k [])) 0 (M.getD k []).length) Z (AEq.of_eq Z) ?_
  refine zB Z Z Z cd ?_
  generalize zAM (M.getD k []) C = q at *
  unfold qA
  repeat (refine zf rfl rfl rfl rfl rfl rfl rfl rfl rfl rfl rfl ?_)
  refine zo Z Z Z Z Z Z Z Z Z hll Z Z (by show 0 + 1 ≤ 1; omega) Z (by show (k + 1) * 56 ≤ _ ∧ _; omega) ?_ (by rw [hfix]; exact fun h => h) ?_
  ·intro i' j' hi hj'
   exact zAH 0 3 zT zAf qs q _ (zCh _) 0 i' j' hi hj'
  refine zDt ?_
  refine zI ?_
  refine zBL [some ⟨104, qsC (zIX C (M.take (k + 1)))⟩] ?_ ?_
  ·rw [hst]
   exact zP.eqv (zAQ 0 3 zT qs q _ (zCh _)) zP.nil
  refine rn3 ?_
  exact zJ ⟨k + 1, by omega, by omega, ⟨Z, Z, Z, Z, Z, Z, trivial⟩, Z⟩
 ·have hke : k = n := by omega
  subst hke
  rw [hd0]
  refine zF6 ?_
  refine zAL 0 10 k [(1, .ro (.strs r) 0 r.length)] Z (zAv _) Z (by show _ ≤ L.length; omega) ⟨Z, trivial⟩ ?_
  refine z8 10 (.ro (qsC L) 0 L.length) Z (AEq.of_eq (by rw [hLl])) ?_
  refine rn0 ?_
  refine zB Z Z Z nr ?_
  repeat (refine zG (zK rfl) ?_)
  refine zB Z Z Z dL ?_
  refine zB Z Z Z oL ?_
  unfold zEN
  refine rn2 ?_
  exact zL hR Z Z
theorem zKQ (m : List (List zn)) (v : zn) (r y : List zn) (hm : zCo m) (hvl : v.length ≤ 9223372036854775807) (hr : zEf r) (hc : zEf y) :
 zU Tryz.prog 20 [.ro (zAY m) 0 m.length, .agg [.str v, .ro (.strs r) 0 r.length, .ro (.strs y) 0 y.length]] (.int .i64 (verG m v r y)) := by
 have cg := zGK m hm.1 hm.2
 have cv := zJQ v hvl
 refine zQ.value0 (zE (P := Tryz.prog) (fn := Tryz.f20) Z Z (by kernel_rfl) Z (fun c hR hfix => ?_)) (fix := fun _ => False) (fun _ h => h) Z Z
 unfold verG at hR
 refine rn6 ?_
 refine zB Z Z Z cg ?_
 refine rn3 ?_
 refine zA Z (fun h1 => ?_) (fun h1 => ?_)
 ·rw [if_pos h1] at hR
  refine rn2 ?_
  exact zL hR Z Z
 rw [if_neg h1] at hR
 obtain ⟨g1, g2, g3, g4, g5⟩ := zE7 (Classical.not_not.1 h1)
 have hM := zEu g1
 have hv := zI3 g1
 have hml : (inM m).length = m.length := zEA m
 have hm0 : 0 < m.length := List.length_pos_iff.2 g5
 have cs := zHo m r y hm0 hm.1 (by omega) hr hc
 refine rn5 ?_
 refine zB Z Z Z cs ?_
 refine rn3 ?_
 refine zA Z (fun h2 => ?_) (fun h2 => ?_)
 ·rw [if_pos h2] at hR
  refine rn2 ?_
  exact zL hR Z Z
 rw [if_neg h2] at hR
 obtain ⟨s1, s2, s3, s4⟩ := zL7 (Classical.not_not.1 h2)
 refine rn5 ?_
 refine zB Z Z Z cv ?_
 refine rn3 ?_
 refine zA Z (fun h3 => ?_) (fun h3 => ?_)
 ·rw [if_pos h3] at hR
  refine rn2 ?_
  exact zL hR Z Z
 rw [if_neg h3] at hR
 have e3 := Classical.not_not.1 h3
 have cp := zFB v hvl e3
 obtain ⟨p1, p2, _, p4⟩ := zHV s3
 obtain ⟨q1, q2, _, q4⟩ := zHV s4
 have nr := zKS r (by omega) (fun s hs => ⟨hr.2 s hs, p2 s hs⟩)
 have nc := zKS y (by omega) (fun s hs => ⟨hc.2 s hs, q2 s hs⟩)
 have nm := zKT m (by omega) (fun r h => ⟨by have := hM.cols r h; omega, fun s hs => ⟨(hm.2 r h).2 s hs, hM.ok r h s hs⟩⟩)
 have hcl : (y.map zv).length = zAJ m := by rw [List.length_map]; exact s2
 have hrl : (r.map zv).length = m.length := by rw [List.length_map]; exact s1
 have hcD : ∀ q ∈ y.map zv, D 2000 q := fun q hq => (q4 q hq).2
 have hrD : ∀ q ∈ r.map zv, D 2000 q := fun q hq => (p4 q hq).2
 have hVs : Sz 100000 (zv v) := zFM ((rat_D2 e3).mono (by omega))
 have hcols : ∀ col ∈ zC5 (inM m) (y.map zv).length, col.length = m.length ∧ ∀ q ∈ col, D 2000 q := fun col hcol => by
  obtain ⟨j, hj, rfl⟩ := List.mem_map.1 hcol
  refine ⟨by rw [zCH]; exact hml, fun q hq => ?_⟩
  obtain ⟨row, hrow, rfl⟩ := List.mem_map.1 hq
  exact (hv row hrow).2 _ (zAD 0 (by rw [(hv row hrow).1]; exact hcl ▸ (show j < (y.map zv).length by simpa using hj)))
 have cc := cols_ok (inM m) (y.map zv).length (by omega) (by omega) (fun row h => by rw [(hv row h).1]; exact hcl.symm)
 rw [hml] at cc
 have hclen : (zC5 (inM m) (y.map zv).length).length = (y.map zv).length := by unfold zC5; rw [List.length_map, List.length_range]
 have dS : ∀ (a b : List Rat), (∀ q ∈ a, D 2000 q) → (∀ q ∈ b, D 2000 q) → a.length ≤ b.length → b.length ≤ 12 → zU Tryz.prog 68 [.ro (qsC a) 0 a.length, .ro (qsC b) 0 b.length] (qA (zAM a b)) ∧ Sz 100000 (zAM a b) := fun a b ha hb h1 h2 => by
  have h3 : a.length * 4001 ≤ 12 * 4001 := Nat.mul_le_mul_right _ (by omega)
  exact ⟨zOq a b 2000 2000 ha hb h1 (by omega) (by omega), zFM ((zOp ha hb h1).mono (by omega))⟩
 have dR := fun (i : Nat) (hi : i < m.length) => dS _ _ (hv _ (zAN [] (show i < (inM m).length by omega))).2 hcD (by rw [(hv _ (zAN [] (show i < (inM m).length by omega))).1]; omega) (by omega)
 have dC := fun (i : Nat) (hi : i < (y.map zv).length) => dS _ _ (hcols _ (zAN [] (show i < (zC5 (inM m) (y.map zv).length).length by omega))).2 hrD (by rw [(hcols _ (zAN [] (show i < (zC5 (inM m) (y.map zv).length).length by omega))).1]; omega) (by omega)
 have ecl : y.length = (y.map zv).length := (List.length_map ..).symm
 rw [ecl] at hR
 clear hv hM
 generalize zC5 (inM m) (y.map zv).length = K at *
 generalize inM m = M at *
 generalize y.map zv = C at *
 generalize r.map zv = R at *
 generalize zv v = V at *
 generalize m.length = n at *
 refine rn5 ?_
 refine zB Z Z Z cp ?_
 unfold qA
 repeat (refine zBD rfl rfl rfl ?_)
 refine sa1 (c' := .box (zT V)) Z Z Z Z Z Z Z ?_
 refine rn0 ?_
 refine zB Z Z Z nm ?_
 refine rn0 ?_
 refine zi (by kernel_rfl) ?_
 refine zq (fuel := 0) [0, 1, 2, 3, 4, 5, 6, 7] [(3, .ptr 0 0 0), (8, .ptr 1 0 0), (9, .ro (zY M) 0 n)] ⟨Z, Z, Z, trivial⟩ (by kernel_rfl) (by decide) Z Z ?_
 refine zM Z Z (zH Z Z Z Z Z Z) ?_
 refine zM Z Z (zX Z Z Z Z Z) ?_
 refine zA8 Z Z Z Z Z nr ?_
 refine zM Z Z (zH Z Z Z Z Z Z) ?_
 refine zM Z Z (zX Z Z Z Z Z) ?_
 refine zA8 Z Z Z Z Z nc ?_
 refine zM Z Z (zm Z) ?_
 refine zM Z Z (zm Z) ?_
 refine zAC ?_
 refine zW (by kernel_rfl) ?_
 refine rn3 ?_
 refine zZ (ι := Nat) (fun k => [(8, .ptr 1 0 0), (9, .ro (zY M) 0 n), (10, .ro (qsC R) 0 R.length), (11, .ro (qsC C) 0 C.length), (47, .ro (zY M) 0 n), (48, iN n), (49, iN k)]) (fun k => [some ⟨30, .box [.str v, .ro (.strs r) 0 r.length, .ro (.strs y) 0 y.length]⟩, some ⟨104, .box (zT V)⟩])
  (fun k => k ≤ n ∧ ∀ i, i < k → ¬ 0 < zC7 (zAM (M.getD i []) C) V) (fun k => n - k) 0 ⟨⟨rfl, rfl, rfl, rfl, rfl, rfl, rfl, trivial⟩, rfl, Nat.zero_le _, fun i h => absurd h (Nat.not_lt_zero _)⟩ ?_
 rintro k ⟨hk, hnk⟩
 refine rn4 ?_
 refine zA Z (fun h => ?_) (fun h => ?_)
 ·have hk' : k < n := by omega
  obtain ⟨cd, ds⟩ := dR k hk'
  have cq := zGV (zAM (M.getD k []) C) V ds hVs
  have hrk : k < M.length := by omega
  have hyes : 0 < zC7 (zAM (M.getD k []) C) V → M.any (fun row => decide (0 < zC7 (zAM row C) V)) = true := fun q => any_at _ [] M hrk (decide_eq_true q)
  generalize hqq : zAM (M.getD k []) C = q at *
  refine rn6 ?_
  refine zi (by kernel_rfl) ?_
  refine zq (fuel := 0) [0, 1, 2, 3, 4, 5] [(8, .ptr 1 0 0), (9, .ro (zY M) 0 n), (10, .ro (qsC R) 0 R.length), (11, .ro (qsC C) 0 C.length), (13, .ro (qsC (M.getD k [])) 0 (M.getD k []).length), (47, .ro (zY M) 0 n), (48, iN n), (49, iN k)] ⟨Z, Z, Z, Z, Z, Z, Z, Z, trivial⟩ (by kernel_rfl) (by decide) Z Z ?_
  refine zM Z Z (zK Z) ?_
  refine zM Z Z (zK Z) ?_
  refine zA8 Z Z Z Z Z cd ?_
  refine zM Z Z (qpp Z Z Z Z Z Z Z) ?_
  refine zA8 Z Z Z Z Z cq ?_
  refine zM Z Z (zKf Z Z) ?_
  refine zAC ?_
  refine zW (by kernel_rfl) ?_
  repeat (refine zI ?_)
  refine zA Z (fun h4 => ?_) (fun h4 => ?_)
  ·rw [if_pos (hyes h4)] at hR
   refine rn6 ?_
   exact zL hR Z Z
  ·refine rn5 ?_
   exact zJ ⟨k + 1, ⟨by omega, fun i hi => by
    rcases Nat.lt_or_ge i k with q | q
    ·exact hnk i q
    ·obtain rfl : i = k := by omega
     exact fun z => h4 (by rw [hqq] at z; exact z)⟩, by omega, ⟨Z, Z, Z, Z, Z, Z, Z, trivial⟩, Z⟩
 have hke : k = n := by omega
 subst hke
 have hno : ¬ M.any (fun row => decide (0 < zC7 (zAM row C) V)) = true := by
  rw [zPh _ [] M (fun i hi => decide_eq_false (hnk i (by omega)))]
  exact fun z => by cases z
 rw [if_neg hno] at hR
 refine rn5 ?_
 refine zB Z Z Z cc ?_
 refine rn3 ?_
 refine zZ (ι := Nat) (fun j => [(8, .ptr 1 0 0), (10, .ro (qsC R) 0 R.length), (63, .ro (zY K) 0 C.length), (64, iN C.length), (65, iN j)]) (fun j => [some ⟨30, .box [.str v, .ro (.strs r) 0 r.length, .ro (.strs y) 0 y.length]⟩, some ⟨104, .box (zT V)⟩])
  (fun j => j ≤ C.length ∧ ∀ i, i < j → ¬ zC7 (zAM (K.getD i []) R) V < 0) (fun j => C.length - j) 0 ⟨⟨rfl, rfl, rfl, rfl, rfl, trivial⟩, rfl, Nat.zero_le _, fun i h => absurd h (Nat.not_lt_zero _)⟩ ?_
 rintro j ⟨hj, hnj⟩
 refine rn4 ?_
 refine zA Z (fun h => ?_) (fun h => ?_)
 ·have hj' : j < C.length := by omega
  obtain ⟨cd, ds⟩ := dC j hj'
  have cq := zGV (zAM (K.getD j []) R) V ds hVs
  have hrk : j < K.length := by omega
  have hyes : zC7 (zAM (K.getD j []) R) V < 0 → K.any (fun col => decide (zC7 (zAM col R) V < 0)) = true := fun q => any_at _ [] K hrk (decide_eq_true q)
  generalize hqq : zAM (K.getD j []) R = q at *
  refine rn6 ?_
  refine zi (by kernel_rfl) ?_
  refine zq (fuel := 0) [0, 1, 2, 3, 4, 5] [(8, .ptr 1 0 0), (10, .ro (qsC R) 0 R.length), (15, .ro (qsC (K.getD j [])) 0 (K.getD j []).length), (63, .ro (zY K) 0 C.length), (64, iN C.length), (65, iN j)] ⟨Z, Z, Z, Z, Z, Z, trivial⟩ (by kernel_rfl) (by decide) Z Z ?_
  refine zM Z Z (zK Z) ?_
  refine zM Z Z (zK Z) ?_
  refine zA8 Z Z Z Z Z cd ?_
  refine zM Z Z (qpp Z Z Z Z Z Z Z) ?_
  refine zA8 Z Z Z Z Z cq ?_
  refine zM Z Z (zEd Z Z) ?_
  refine zAC ?_
  refine zW (by kernel_rfl) ?_
  repeat (refine zI ?_)
  refine zA Z (fun h4 => ?_) (fun h4 => ?_)
  ·rw [if_pos (hyes h4)] at hR
   refine rn6 ?_
   exact zL hR Z Z
  ·refine rn5 ?_
   exact zJ ⟨j + 1, ⟨by omega, fun i hi => by
    rcases Nat.lt_or_ge i j with q | q
    ·exact hnj i q
    ·obtain rfl : i = j := by omega
     exact fun z => h4 (by rw [hqq] at z; exact z)⟩, by omega, ⟨Z, Z, Z, Z, Z, trivial⟩, Z⟩
 ·have hje : j = C.length := by omega
  subst hje
  have hno2 : ¬ K.any (fun col => decide (zC7 (zAM col R) V < 0)) = true := by
   rw [zPh _ [] K (fun i hi => decide_eq_false (hnj i (by omega)))]
   exact fun z => by cases z
  rw [if_neg hno2] at hR
  refine rn5 ?_
  exact zL hR Z Z
theorem belowI {n : Nat} {o1 : AObj} (h1 : zAz n o1.c) : ∀ (h : Nat) (o : AObj), ([some o1] : zN)[h]? = some (some o) → zAz n o.c := by
 intro h o ho
 match h, ho with
 | 0, ho => cases ho; exact h1
 | _ + 1, ho => simp at ho
def domA (p : List Int × Int) : AV := .tup [.ro (.ints .i64 p.1) 0 p.1.length, .int .i64 p.2]
theorem zMW (m : List (List zn)) (hm : zCo m) : zU Tryz.prog 22 [.ro (zAY m) 0 m.length] (domA (domR m)) := by
 have cg := zGK m hm.1 hm.2
 refine zQ.value0 (zE (P := Tryz.prog) (fn := Tryz.f22) Z Z (by kernel_rfl) Z (fun c hR hfix => ?_)) (fix := fun _ => False) (fun _ h => h) Z Z
 unfold domR at hR
 refine rn0 ?_
 refine zB Z Z Z cg ?_
 refine rn3 ?_
 refine zA Z (fun h1 => ?_) (fun h1 => ?_)
 ·rw [if_pos h1] at hR
  refine rn7 ?_
  refine z8 2 (.ro (.ints .i64 []) 0 0) Z AEq.nil ?_
  refine rn2 ?_
  exact zL hR Z Z
 rw [if_neg h1] at hR
 obtain ⟨g1, g2, g3, g4, g5⟩ := zE7 (Classical.not_not.1 h1)
 have hM := zEu g1
 have hv := zI3 g1
 have hml : (inM m).length = m.length := zEA m
 have nm := zKT m (by omega) (fun r h => ⟨by have := hM.cols r h; omega, fun s hs => ⟨(hm.2 r h).2 s hs, hM.ok r h s hs⟩⟩)
 have hel : ∀ i j, i < m.length → j < zAJ m → Sz 100000 (((inM m).getD i []).getD j 0) := fun i j hi hj => by
  obtain ⟨v1, v2⟩ := hv _ (zAN [] (show i < (inM m).length by omega))
  exact zFM ((v2 _ (zAD 0 (by omega))).mono (by omega))
 have hrow : ∀ i, i < m.length → ((inM m).getD i []).length = zAJ m := fun i hi => (hv _ (zAN [] (show i < (inM m).length by omega))).1
 clear hv hM
 generalize inM m = M at *
 generalize zAJ m = w at *
 generalize m.length = n at *
 refine rn1 ?_
 refine zB Z Z Z nm ?_
 refine rn8 ?_
 refine zAb 6 ⟨3, .ints .i64 []⟩ Z Z ?_
 repeat (refine zAA ?_)
 refine zZ (ι := Nat) (fun i => [(5, .ro (zY M) 0 n), (6, .sl 0 0 (zIW M i).length), (21, .ro (zY M) 0 n), (22, iN n), (23, iN i)]) (fun i => [some ⟨3, .ints .i64 (zIW M i)⟩])
  (fun i => i ≤ n) (fun i => n - i) 0 ⟨⟨rfl, rfl, rfl, rfl, rfl, trivial⟩, rfl, Nat.zero_le _⟩ ?_
 intro i hi
 refine rn4 ?_
 refine zA Z (fun h => ?_) (fun h => ?_)
 ·have hi' : i < n := by omega
  have hiM : i < M.length := by omega
  have hsn := zQ0 M i
  have hdl := domI_len M i
  have hrl := hrow i hi'
  generalize hI2 : zIW M (i + 1) = I2 at *
  generalize zIW M i = I at *
  refine rn6 ?_
  refine z8 8 (.ro (qsC (M.getD i [])) 0 w) Z (AEq.of_eq (by show AV.ro (qsC (M.getD i [])) 0 (M.getD i []).length = _; rw [hrl])) ?_
  skip
  refine zZ (ι := Nat) (fun o => [(5, .ro (zY M) 0 n), (6, .sl 0 0 I.length), (7, iN i), (8, .ro (qsC (M.getD i [])) 0 w), (21, .ro (zY M) 0 n), (22, iN n), (23, iN i), (28, .ro (zY M) 0 n), (29, iN n), (30, iN o)]) (fun o => [some ⟨3, .ints .i64 I⟩])
   (fun o => o ≤ n ∧ ∀ a, a < o → zIC M i a = false) (fun o => n - o) 0 ⟨⟨rfl, rfl, rfl, rfl, rfl, rfl, rfl, rfl, rfl, rfl, trivial⟩, rfl, Nat.zero_le _, fun a h => absurd h (Nat.not_lt_zero _)⟩ ?_
  rintro o ⟨ho, hno⟩
  refine rn4 ?_
  refine zA Z (fun h => ?_) (fun h => ?_)
  ·have ho' : o < n := by omega
   have hol := hrow o ho'
   refine rn6 ?_
   refine z8 10 (.ro (qsC (M.getD o [])) 0 w) Z (AEq.of_eq (by show AV.ro (qsC (M.getD o [])) 0 (M.getD o []).length = _; rw [hol])) ?_
   skip
   refine zZ (ι := Nat) (fun k => [(5, .ro (zY M) 0 n), (6, .sl 0 0 I.length), (7, iN i), (8, .ro (qsC (M.getD i [])) 0 w), (10, .ro (qsC (M.getD o [])) 0 w), (11, .bool (zID M i o k)), (21, .ro (zY M) 0 n), (22, iN n), (23, iN i), (28, .ro (zY M) 0 n), (29, iN n), (30, iN o), (34, .ro (qsC (M.getD i [])) 0 w), (35, iN w), (36, iN k)]) (fun k => [some ⟨3, .ints .i64 I⟩])
    (fun k => k ≤ w) (fun k => w - k) 0 ⟨⟨rfl, rfl, rfl, rfl, rfl, rfl, rfl, rfl, rfl, rfl, rfl, rfl, rfl, rfl, rfl, trivial⟩, rfl, Nat.zero_le _⟩ ?_
   intro k hk
   refine rn4 ?_
   refine zA Z (fun h => ?_) (fun h => ?_)
   ·have hk' : k < w := by omega
    have cq := zGV ((M.getD o []).getD k 0) ((M.getD i []).getD k 0) (hel o k ho' hk') (hel i k hi' hk')
    have hsu := zOO M i o k
    refine rn6 ?_
    refine zD 40 (.agg (zT ((M.getD i []).getD k 0))) Z (AEq.of_eq Z) ?_
    skip
    refine sa1 (c' := .box (zT ((M.getD i []).getD k 0))) Z Z Z Z Z Z Z ?_
    generalize hu2 : zID M i o (k + 1) = u2 at *
    generalize zID M i o k = u at *
    cases u
    ·rw [Bool.false_and] at hsu
     refine rn0 ?_
     refine zi (by kernel_rfl) ?_
     refine zV 0 Z (by kernel_rfl) (by kernel_rfl) (by kernel_rfl) Z (zK Z) Z ?_
     refine zV 1 Z (by kernel_rfl) (by kernel_rfl) (by kernel_rfl) Z (zK Z) Z ?_
     refine zq (fuel := 0) [2, 3, 4, 5, 6, 7, 8, 9, 10] [(5, .ro (zY M) 0 n), (6, .sl 0 0 I.length), (7, iN i), (8, .ro (qsC (M.getD i [])) 0 w), (10, .ro (qsC (M.getD o [])) 0 w), (42, .bool false), (12, iN k), (13, .ptr 1 0 0), (21, .ro (zY M) 0 n), (22, iN n), (23, iN i), (28, .ro (zY M) 0 n), (29, iN n), (30, iN o), (34, .ro (qsC (M.getD i [])) 0 w), (35, iN w), (36, iN k)] ⟨Z, Z, Z, Z, Z, Z, Z, Z, Z, Z, Z, Z, Z, Z, Z, Z, Z, trivial⟩ (by kernel_rfl) (by decide) Z Z ?_
     refine zBi Z Z Z Z Z ?_
     refine zBi Z Z Z Z Z ?_
     refine zBi Z Z Z Z Z ?_
     refine zBi Z Z Z Z Z ?_
     refine zBi Z Z Z Z Z ?_
     refine zBi Z Z Z Z Z ?_
     refine zBi Z Z Z Z Z ?_
     refine zM Z Z (zBJ Z Z) ?_
     refine zM Z Z (zm Z) ?_
     refine zAC ?_
     refine zW (by kernel_rfl) ?_
     repeat (refine zAP ?_)
     refine zI ?_
     refine zA3 [some ⟨3, .ints .i64 I⟩] [some ⟨104, .box (zT ((M.getD i []).getD k 0))⟩] [(5, .ro (zY M) 0 n), (6, .sl 0 0 I.length), (7, iN i), (8, .ro (qsC (M.getD i [])) 0 w), (10, .ro (qsC (M.getD o [])) 0 w), (11, .bool false), (21, .ro (zY M) 0 n), (22, iN n), (23, iN i), (28, .ro (zY M) 0 n), (29, iN n), (30, iN o), (34, .ro (qsC (M.getD i [])) 0 w), (35, iN w), (36, iN k)] Z ⟨Z, Z, Z, Z, Z, Z, Z, Z, Z, Z, Z, Z, Z, Z, Z, trivial⟩ (fun h hh => by rw [hfix] at hh; exact absurd hh id) (belowI (fun _ _ _ _ => rfl)) Z ?_
     refine rn3 ?_
     exact zJ ⟨k + 1, by omega, by omega, ⟨Z, Z, Z, Z, Z, by rw [hu2, hsu]; rfl, Z, Z, Z, Z, Z, Z, Z, Z, Z, trivial⟩, Z⟩
    ·rw [Bool.true_and] at hsu
     refine rn0 ?_
     refine zi (by kernel_rfl) ?_
     refine zV 0 Z (by kernel_rfl) (by kernel_rfl) (by kernel_rfl) Z (zK Z) Z ?_
     refine zV 1 Z (by kernel_rfl) (by kernel_rfl) (by kernel_rfl) Z (zK Z) Z ?_
     refine zq (fuel := 0) [2, 3, 4, 5, 6, 7, 8, 9, 10] [(5, .ro (zY M) 0 n), (6, .sl 0 0 I.length), (7, iN i), (8, .ro (qsC (M.getD i [])) 0 w), (10, .ro (qsC (M.getD o [])) 0 w), (42, .bool true), (12, iN k), (13, .ptr 1 0 0), (21, .ro (zY M) 0 n), (22, iN n), (23, iN i), (28, .ro (zY M) 0 n), (29, iN n), (30, iN o), (34, .ro (qsC (M.getD i [])) 0 w), (35, iN w), (36, iN k)] ⟨Z, Z, Z, Z, Z, Z, Z, Z, Z, Z, Z, Z, Z, Z, Z, Z, Z, trivial⟩ (by kernel_rfl) (by decide) Z Z ?_
     refine zAS Z Z Z Z (zK Z) ?_
     refine zAS Z Z Z Z (zK Z) ?_
     refine zAS Z Z Z Z (zAE Z Z Z Z (by first | (simp only [Nat.zero_add, Int.toNat_natCast, Int.toNat_zero]; exact Z) | exact Z) (by omega)) ?_
     refine zAS Z Z Z Z (zA9 Z Z Z Z Z Z) ?_
     refine zAS Z Z Z Z (qpp Z Z Z Z Z Z Z) ?_
     refine zHl Z Z Z Z Z Z Z cq ?_
     refine zAS Z Z Z Z (zKf Z Z) ?_
     refine zM Z Z (zBJ Z Z) ?_
     refine zM Z Z (zm Z) ?_
     refine zAC ?_
     refine zW (by kernel_rfl) ?_
     repeat (refine zAP ?_)
     refine zI ?_
     refine zA3 [some ⟨3, .ints .i64 I⟩] [some ⟨104, .box (zT ((M.getD i []).getD k 0))⟩] [(5, .ro (zY M) 0 n), (6, .sl 0 0 I.length), (7, iN i), (8, .ro (qsC (M.getD i [])) 0 w), (10, .ro (qsC (M.getD o [])) 0 w), (11, .bool (decide (0 < zC7 ((M.getD o []).getD k 0) ((M.getD i []).getD k 0)))), (21, .ro (zY M) 0 n), (22, iN n), (23, iN i), (28, .ro (zY M) 0 n), (29, iN n), (30, iN o), (34, .ro (qsC (M.getD i [])) 0 w), (35, iN w), (36, iN k)] Z ⟨Z, Z, Z, Z, Z, Z, Z, Z, Z, Z, Z, Z, Z, Z, Z, trivial⟩ (fun h hh => by rw [hfix] at hh; exact absurd hh id) (belowI (fun _ _ _ _ => rfl)) Z ?_
     refine rn3 ?_
     exact zJ ⟨k + 1, by omega, by omega, ⟨Z, Z, Z, Z, Z, by rw [hu2, hsu]; rfl, Z, Z, Z, Z, Z, Z, Z, Z, Z, trivial⟩, Z⟩
   ·have hke : k = w := by omega
    have hub : zID M i o k = zIC M i o := by rw [hke, ← hrl]; rfl
    rw [hub]
    cases hb : zIC M i o
    ·refine rn5 ?_
     exact zJ ⟨o + 1, ⟨by omega, fun a ha => by
      rcases Nat.lt_or_ge a o with q | q
      ·exact hno a q
      ·obtain rfl : a = o := by omega
       exact hb⟩, by omega, ⟨Z, Z, Z, Z, Z, Z, Z, Z, Z, Z, trivial⟩, Z⟩
    ·rw [if_pos (domB_yes M (show o < M.length by omega) hb)] at hsn
     refine rn5 ?_
     refine zo Z Z Z Z Z Z Z Z Z Z Z Z (by show 0 + 1 ≤ 1; omega) Z (by show (I.length + 1) * 8 ≤ _ ∧ _; omega) (fun i j _ _ => rfl) (by rw [hfix]; exact fun h => h) ?_
     refine rn14 ?_
     exact zJ ⟨i + 1, by omega, by omega, ⟨Z, by rw [hI2, hsn, List.length_append]; rfl, Z, Z, Z, trivial⟩, by rw [hI2, hsn]; rfl⟩
  ·have hoe : o = n := by omega
   rw [if_neg (by rw [domB_no M (fun a ha => hno a (by omega))]; exact fun z => by cases z)] at hsn
   refine rn5 ?_
   exact zJ ⟨i + 1, by omega, by omega, ⟨Z, by rw [hI2, hsn]; rfl, Z, Z, Z, trivial⟩, by rw [hI2, hsn]⟩
 ·have hie : i = n := by omega
  subst hie
  refine zF6 ?_
  refine zAL 0 6 (zIW M i).length [] Z (zAs) Z (by show _ ≤ (zIW M i).length; omega) trivial ?_
  refine rn0 ?_
  exact zL hR Z Z
end Go.Proofs.YtkncmbklkhjmgaaGreatDoor
namespace Go.Proofs.YtkncmbklkhjmgaaGreatDoor
open Go.Ax Go.Ax.Bg Go.Ax.Rt Go.RowKit Go.Ax.Dt
attribute [local irreducible] Ax zBn QOp zQ zBX
theorem zFR {n m k : Nat} (h : n ≤ 10 ^ k) (hk : k + 1 ≤ 9 * m) : (zS n).length ≤ m := by
 refine zAe (Nat.lt_of_lt_of_le (m := 10 ^ (9 * m)) ?_ ?_)
 ·have h1 : 10 ^ (k + 1) ≤ 10 ^ (9 * m) := Nat.pow_le_pow_right (by decide) hk
  have h2 : 0 < 10 ^ k := Nat.pow_pos (by decide)
  rw [Nat.pow_succ] at h1
  omega
 ·rw [Nat.pow_mul]
  exact Nat.pow_le_pow_left (by decide) m
theorem zRE (x d : Int) (hd : d ≠ 0) (hx : (zS x.natAbs).length ≤ 1000000) (hdl : (zS d.natAbs).length ≤ 1000000) : zU Tryz.prog 276 [zA1 x, zA1 d] (zA1 (zDi x d)) := by
 have c1 := zJD x.natAbs d.natAbs (by omega) hx hdl
 have c2 := zFS (!(decide (x < 0) == decide (d < 0))) (x.natAbs / d.natAbs)
 have e : zEo (!(decide (x < 0) == decide (d < 0))) (x.natAbs / d.natAbs) = zDi x d := rfl
 rw [e] at c2
 refine zQ.value0 (zE (P := Tryz.prog) (fn := Tryz.f276) Z Z (by kernel_rfl) Z (fun c hR hfix => ?_)) (fix := fun _ => False) (fun _ h => h) Z Z
 unfold zA1 at *
 generalize zDi x d = q at *
 refine rn6 ?_
 refine zB Z Z Z c1 ?_
 repeat (first | refine zG (zK rfl) ?_ | refine zG (zm rfl) ?_ | refine zR ?_ | refine zI ?_ | refine z7 ?_ | refine zg rfl ?_ | refine zG (zX rfl rfl rfl rfl rfl) ?_ | refine zG (zBr rfl rfl) ?_ | refine zG (zH rfl rfl rfl rfl rfl rfl) ?_ | refine zG (zJO rfl rfl rfl) ?_)
 refine zB Z Z Z c2 ?_
 skip
 refine sa1 (c' := .box [.bool (decide (q < 0)), zh q.natAbs]) Z Z Z Z Z Z Z ?_
 refine rn0 ?_
 exact zL hR Z Z
def zj (x : Int) : List AV := [.bool (decide (x < 0)), zh x.natAbs]
abbrev zC (l : List Int) : Cells := rowE 0 2 zj l
theorem zIO (x : Int) (j h : Nat) (hj : j < 2) : ((zj x).getD j .any).forget h = (zj x).getD j .any := by
 match j, hj with
 | 0, _ => rfl
 | 1, _ => rfl
theorem rowI1 (x : Int) (j : Nat) (hj : j < 2) : (zBt 1 2 [.bool (decide (x < 0)), zh x.natAbs]).at 0 j = (zj x).getD j .any := by
 match j, hj with
 | 0, _ => rfl
 | 1, _ => rfl
theorem zLb (q : Rat) : ∀ (l : List Rat) (f : Nat), zCs f (l ++ [q]) = zCs f l * (q.den / Nat.gcd (zCs f l) q.den)
 | [], f => rfl
 | a :: r, f => by rw [List.cons_append, zCs, zCs, zLb q r]
theorem zLc {l : List Rat} {K k : Nat} (h : ∀ q ∈ l, D K q) : zCs 1 (l.take k) ≤ 10 ^ (K * l.length) := by
 refine Nat.le_trans (zIZ (k := K) (l.take k) 1 (fun q hq => (h q (List.mem_of_mem_take hq)).2)) ?_
 rw [Nat.one_mul]
 refine Nat.pow_le_pow_right (by decide) (Nat.mul_le_mul_left _ ?_)
 rw [List.length_take]; exact Nat.min_le_right _ _
theorem zR0 (l : List Rat) (K : Nat) (hD : ∀ q ∈ l, D K q) (hlen : l.length ≤ 1000) (hK : K * l.length + K ≤ 900000) :
 MCall Tryz.prog 245 [.ro (qsC l) 0 l.length] (.tup [.sl 0 0 l.length, zh (zCs 1 l)]) [some ⟨102, zC (zAk l)⟩] := by
 have hsz : ∀ n k : Nat, n ≤ 10 ^ k → k ≤ 900000 → (zS n).length ≤ 100001 := fun n k h hk => zFR h (by omega)
 have c0 := zHB 1 (by decide)
 refine zQ.many (zE (P := Tryz.prog) (fn := Tryz.f245) Z Z (by kernel_rfl) Z (fun c hR hfix => ?_)) (fix := fun _ => False) (fun _ h => h) Z
 refine rn0 ?_
 refine zB Z Z Z c0 ?_
 refine rn3 ?_
 refine zZ (ι := Nat) (fun k => [(0, .ro (qsC l) 0 l.length), (4, zh (zCs 1 (l.take k))), (16, .ro (qsC l) 0 l.length), (17, iN l.length), (18, iN k)]) (fun _ => [])
  (fun k => k ≤ l.length) (fun k => l.length - k) 0 ⟨⟨rfl, rfl, rfl, rfl, rfl, trivial⟩, rfl, Nat.zero_le _⟩ ?_
 intro k hk
 refine rn4 ?_
 refine zA Z (fun h => ?_) (fun h => ?_)
 ·have hk' : k < l.length := by omega
  have hq := hD _ (zAD 0 hk')
  have hsn : zCs 1 (l.take (k + 1)) = zCs 1 (l.take k) * ((l.getD k 0).den / Nat.gcd (zCs 1 (l.take k)) (l.getD k 0).den) := by
   rw [List.take_succ_eq_append_getElem hk', zLb, zDz 0 hk']
  have hF := hsz _ _ (zLc (k := k) hD) (by omega)
  have hp := zIa (l.take k) 1 (by decide)
  generalize zCs 1 (l.take k) = F at *
  generalize hqe : l.getD k 0 = q at *
  have hden := hsz q.den K (Nat.le_of_lt hq.2) (by omega)
  have hg : 0 < Nat.gcd F q.den := Nat.gcd_pos_of_pos_left _ hp
  have hgl : Nat.gcd F q.den ≤ 10 ^ K := Nat.le_trans (Nat.le_of_dvd q.den_pos (Nat.gcd_dvd_right F q.den)) (Nat.le_of_lt hq.2)
  have c1 := zO0 F q.den (by omega) (by omega)
  have c2 := zJD q.den (Nat.gcd F q.den) hg (by omega) (Nat.le_trans (hsz (Nat.gcd F q.den) K hgl (by omega)) (by decide))
  have c3 := zMj F (q.den / Nat.gcd F q.den) (by omega) (Nat.le_trans (hsz (q.den / Nat.gcd F q.den) K (Nat.le_trans (Nat.div_le_self _ _) (Nat.le_of_lt hq.2)) (by omega)) (by decide))
  refine rn6 ?_
  refine zD 21 (.agg (zT q)) Z (AEq.of_eq (by rw [← hqe]; rfl)) ?_
  refine sa1 (c' := .box (zT q)) Z Z Z Z Z Z Z ?_
  refine rn5 ?_
  refine zB Z Z Z c1 ?_
  refine rn5 ?_
  refine zB Z Z Z c2 ?_
  refine rn2 ?_
  refine zB Z Z Z c3 ?_
  refine zDt ?_
  refine zI ?_
  refine zBL [none] (zP.drop zP.nil) ?_
  refine zD9 (H1 := []) Z (by rw [hfix]; exact fun h => h) ?_
  refine rn3 ?_
  exact zJ ⟨k + 1, by omega, by omega, ⟨Z, by rw [hsn]; rfl, Z, Z, Z, trivial⟩, Z⟩
 have hke : k = l.length := by omega
 subst hke
 rw [List.take_length]
 have hFb := zLc (k := l.length) hD
 rw [List.take_length] at hFb
 have hF := hsz _ _ hFb (by omega)
 unfold zAk at hR
 generalize zCs 1 l = F at *
 have eg : ∃ g : Rat → Int, g = (fun q => q.num * ((F / q.den : Nat) : Int)) := ⟨_, rfl⟩
 obtain ⟨g, eg⟩ := eg
 rw [← eg] at hR
 refine rn14 ?_
 refine zAb 10 ⟨102, zC []⟩ Z Z ?_
 repeat (refine zAA ?_)
 refine zZ (ι := Nat) (fun k => [(4, zh F), (10, .sl 0 0 k), (37, .ro (qsC l) 0 l.length), (38, iN l.length), (39, iN k)]) (fun k => [some ⟨102, zC ((l.take k).map g)⟩])
  (fun k => k ≤ l.length) (fun k => l.length - k) 0 ⟨⟨rfl, rfl, rfl, rfl, rfl, trivial⟩, rfl, Nat.zero_le _⟩ ?_
 intro k hk
 refine rn4 ?_
 refine zA Z (fun h => ?_) (fun h => ?_)
 ·have hk' : k < l.length := by omega
  have hq := hD _ (zAD 0 hk')
  have htk := zCC g l 0 k hk'
  have hml : ((l.take k).map g).length = k := by rw [List.length_map, List.length_take]; omega
  generalize (l.take k).map g = zs at *
  generalize hqe : l.getD k 0 = q at *
  have hden := hsz q.den K (Nat.le_of_lt hq.2) (by omega)
  have hnum := hsz q.num.natAbs K (Nat.le_of_lt hq.1) (by omega)
  have hquo := hsz _ _ (Nat.le_trans (Nat.div_le_self F q.den) hFb) (by omega)
  have hgq : g q = q.num * ((F / q.den : Nat) : Int) := by rw [eg]
  have c1 := zJD F q.den q.den_pos (by omega) (by omega)
  have c2 := zCS q.num ((F / q.den : Nat) : Int) (by omega) (by rw [Int.natAbs_natCast]; omega)
  rw [← hgq] at c2
  refine rn6 ?_
  refine zD 42 (.agg (zT q)) Z (AEq.of_eq (by rw [← hqe]; rfl)) ?_
  refine sa1 (c' := .box (zT q)) Z Z Z Z Z Z Z ?_
  refine rn5 ?_
  refine zB Z Z Z c1 ?_
  refine rn9 ?_
  refine zD 54 (zA1 ((F / q.den : Nat) : Int)) Z (AEq.of_eq (by
   unfold zA1
   rw [decide_eq_false (Int.not_lt.2 (Int.natCast_nonneg (F / q.den))), Int.natAbs_natCast]; rfl)) ?_
  refine zB Z Z Z c2 ?_
  unfold zA1
  repeat (refine zf rfl rfl rfl rfl rfl rfl rfl rfl rfl rfl rfl ?_)
  refine zo Z Z Z Z Z Z Z Z Z hml Z Z (by show 0 + 1 ≤ 1; omega) Z (by show (k + 1) * 32 ≤ _ ∧ _; omega) ?_ (by rw [hfix]; exact fun h => h) ?_
  ·intro i' j hi hj
   exact zAH 0 2 zj zIO zs (g q) _ (rowI1 _) 0 i' j hi hj
  refine zDt ?_
  refine zI ?_
  refine zBL ([some ⟨102, zC ((l.take (k + 1)).map g)⟩] ++ [none]) ?_ ?_
  ·rw [htk]
   exact zP.eqv (zAQ 0 2 zj zs (g q) _ (rowI1 _)) (zP.drop zP.nil)
  refine zD9 (H1 := [some ⟨102, zC ((l.take (k + 1)).map g)⟩]) Z (by rw [hfix]; exact fun h => h) ?_
  refine zBL [some ⟨102, zC ((l.take (k + 1)).map g)⟩] ?_ ?_
  ·exact zP.eqv ⟨Z, Z, fun i j _ hj => (zIO _ j _ hj).symm⟩ zP.nil
  refine rn3 ?_
  exact zJ ⟨k + 1, by omega, by omega, ⟨Z, Z, Z, Z, Z, trivial⟩, Z⟩
 ·have hke : k = l.length := by omega
  subst hke
  rw [List.take_length]
  refine rn5 ?_
  exact zL hR Z ⟨Z, Z⟩
end Go.Proofs.YtkncmbklkhjmgaaGreatDoor
namespace Go.Proofs.YtkncmbklkhjmgaaGreatDoor
open Go.Ax Go.Ax.Bg Go.Ax.Rt Go.RowKit Go.Ax.Idx Go.Ax.Cd Go.Ax.Sx
attribute [local irreducible] Ax zBn QOp zQ zBX
end Go.Proofs.YtkncmbklkhjmgaaGreatDoor
namespace Go.Proofs.YtkncmbklkhjmgaaGreatDoor
open Go.Ax Go.Ax.Bg Go.Ax.Rt Go.RowKit Go.Ax.Dt Go.Ax.Sx
theorem zr {a b : Nat} (h : a ≠ b) : Nat.beq a b = false := by
 cases h' : Nat.beq a b
 ·rfl
 ·exact absurd (Nat.eq_of_beq_eq_true h') h
theorem zAq {h : Nat} {fr : Fr} : ∀ {L : Fr}, zCE fr L → (∀ p ∈ L, p.2.forget h = p.2) → zCE (zB7 h fr) L
 | [], _, _ => trivial
 | (t, v) :: r, hk, hp => by
  refine ⟨?_, zAq hk.2 (fun p hp' => hp p (List.mem_cons_of_mem _ hp'))⟩
  have h1 := hk.1
  have hv : v.forget h = v := hp (t, v) (List.mem_cons_self ..)
  clear hk hp
  induction fr with
  | nil => cases h1
  | cons q s ih =>
   obtain ⟨u, x⟩ := q
   show Go.Ax.look t ((u, x.forget h) :: zB7 h s) = some v
   simp only [Go.Ax.look] at h1 ⊢
   cases hq : Nat.beq t u with
   | true => rw [hq] at h1; simp at h1; subst h1; rw [hv]; rfl
   | false => rw [hq] at h1; exact ih (by simpa using h1)
section
variable {P : Program} {fn : Func} {c : Ctx} {fr : Fr} {H : zN} {k : List It}
theorem zPl {x : Code} (L : Fr) (hL : zCE fr L) (hk : Ax P fn c (.code x k) L H) : Ax P fn c (.code x k) fr H := fun w a σ S hr => hk w a σ S (hr.weaken hL)
theorem zBl {q : Bool} {all : Array Oper} {rest : List Oper} (L : Fr) (hL : zCE fr L) (hk : Ax P fn c (.ops q all rest k) L H) : Ax P fn c (.ops q all rest k) fr H := by
 cases q with
 | true => exact fun hd w a σ S hr => hk hd w a σ S (hr.weaken hL)
 | false => exact fun hd w a σ S hr => hk hd w a σ S (hr.weaken hL)
end
abbrev zB0 (l : List Nat) : Cells := .ints .i64 (l.map (fun a : Nat => (a : Int)))
theorem zJR (x : Int) : (sgn x = 0) = (x = 0) := by
 apply propext
 unfold sgn
 constructor
 ·intro h; split at h
  ·exact absurd h (by decide)
  ·split at h
   ·assumption
   ·exact absurd h (by decide)
 ·intro h; subst h; rfl
theorem zBO (h : Nat) (a : List Int) : (zC a).forget h = zC a := by
 show Cells.fn _ _ _ = Cells.fn _ _ _
 congr 1
 funext i j
 match j with
 | 0 => rfl
 | 1 => rfl
 | _ + 2 => rfl
theorem zMS (m : Nat) (x : Int) : zAz m (.box (zj x)) := by
 intro i j hi hj
 have hj' : j < 2 := hj
 match j, hj' with
 | 0, _ => rfl
 | 1, _ => rfl
theorem zLu (l : List Nat) (a : Nat) : CEq (.ints .i64 (l.map (fun a : Nat => (a : Int)) ++ [(a : Int)])) (zB0 (l ++ [a])) := by
 show CEq _ (.ints .i64 ((l ++ [a]).map (fun a : Nat => (a : Int))))
 rw [List.map_append]
 exact CEq.refl _
theorem zDL (l : List Int) (j : Nat) (v : Int) : ∀ i' j', i' < (zC l).len → j' < 2 → (zC (l.set j v)).at i' j' = if i' = j then (zj v).getD j' .any else (zC l).at i' j' := by
 intro i' j' hi' hj'
 show (zj ((l.set j v).getD i' 0)).getD j' .any = if i' = j then _ else (zj (l.getD i' 0)).getD j' .any
 rw [getD_set]
 have hl : i' < l.length := hi'
 by_cases h : i' = j
 ·rw [if_pos ⟨h, by omega⟩, if_pos h]
 ·rw [if_neg (fun q => h q.1), if_neg h]
theorem zOA {α : Type} (l : List α) (d : α) (i : Nat) (hi : i < l.length) : l.set i (l.getD i d) = l := by
 apply List.ext_getElem (by simp)
 intro a h1 h2
 rw [List.getElem_set]
 split
 ·rename_i e; subst e; rw [zDz d hi]
 ·rfl
theorem zKL {x p f y : Int} {E : Nat} (hx : x.natAbs ≤ 10 ^ E) (hp : p.natAbs ≤ 10 ^ E) (hf : f.natAbs ≤ 10 ^ E) (hy : y.natAbs ≤ 10 ^ E) (hE : E ≤ 3600000) :
 (zS (x * p).natAbs).length ≤ 1000000 ∧ (zS (f * y).natAbs).length ≤ 1000000 ∧ (zS (x * p - f * y).natAbs).length ≤ 1000000 := by
 have e1 : (x * p).natAbs ≤ 10 ^ (E + E) := by rw [Int.natAbs_mul, Nat.pow_add]; exact Nat.mul_le_mul hx hp
 have e2 : (f * y).natAbs ≤ 10 ^ (E + E) := by rw [Int.natAbs_mul, Nat.pow_add]; exact Nat.mul_le_mul hf hy
 have e3 : (x * p - f * y).natAbs ≤ 10 ^ (E + E + 1) := by
  refine Nat.le_trans (Int.natAbs_sub_le _ _) ?_
  rw [Nat.pow_succ]; omega
 exact ⟨zFR e1 (by omega), zFR e2 (by omega), zFR e3 (by omega)⟩
abbrev zBj (b n L : Nat) : Cells := .fn n 1 (fun i _ => .sl (b + 4 + i) 0 L)
abbrev zDu (b k m w : Nat) (d : Int) : Cells := .box [.sl (b + 3) 0 k, .bool (decide (d < 0)), zh d.natAbs, .sl (b + 2) 0 m, iN w]
/-- The memory of a tableau: what was there, the table, what is behind it. -/
abbrev zc (G : zN) (F : Option AObj) (L w k : Nat) (X : Tab) (d : Int) (β : List Nat) (T : zN) : zN :=
 G ++ (some ⟨270, zDu G.length k β.length w d⟩ :: F :: some ⟨3, zB0 β⟩ :: zAn ⟨265, zBj G.length X.length L⟩ 102 zC X T)
def OkG (G : zN) : Prop := ∀ m, G.length ≤ m → ∀ o : AObj, some o ∈ G → zAz m o.c
section
variable {G : zN} {F : Option AObj} {L w k : Nat} {X : Tab} {d : Int} {β : List Nat} {T : zN}
theorem zA2 : (zc G F L w k X d β T)[G.length]? = some (some ⟨270, zDu G.length k β.length w d⟩) := zD8 (i := 0) rfl
theorem tb_fac : (zc G F L w k X d β T)[G.length + 1]? = some F := zD8 (i := 1) rfl
theorem zFn : (zc G F L w k X d β T)[G.length + 2]? = some (some ⟨3, zB0 β⟩) := zD8 (i := 2) rfl
theorem zCn : (zc G F L w k X d β T)[G.length + 3]? = some (some ⟨265, zBj G.length X.length L⟩) := zD8 (i := 3) rfl
theorem zCZ {a : Nat} (ha : a < X.length) : (zc G F L w k X d β T)[G.length + 4 + a]? = some (some ⟨102, zC (X.getD a [])⟩) := by
 rw [show G.length + 4 + a = G.length + (3 + (a + 1)) by omega]
 refine (zD8 (i := 3 + (a + 1)) Z).trans ?_
 rw [show 3 + (a + 1) = (a + 1) + 3 by omega]
 exact nest_row (O := ⟨265, zBj G.length X.length L⟩) (t := 102) (f := zC) (X := X) (L := T) [] ha
theorem zAa (j : Nat) : (zc G F L w k X d β T)[G.length + 4 + X.length + j]? = T[j]? := by
 rw [show G.length + 4 + X.length + j = G.length + ((X.length + 1 + j) + 3) by omega]
 refine (zD8 (i := (X.length + 1 + j) + 3) Z).trans ?_
 exact nest_loc (O := ⟨265, zBj G.length X.length L⟩) (t := 102) (f := zC) (X := X) (L := T)
theorem zBC : (zc G F L w k X d β T).length = G.length + 4 + X.length + T.length := by
 unfold zc
 rw [List.length_append, List.length_cons, List.length_cons, List.length_cons, nest_len]; omega
theorem zAZ (T' : zN) : zc G F L w k X d β T ++ T' = zc G F L w k X d β (T ++ T') := by
 unfold zc
 rw [List.append_assoc, List.cons_append, List.cons_append, List.cons_append, nest_app]
theorem zIB (k' w' : Nat) (d' : Int) : (zc G F L w k X d β T).set G.length (some ⟨270, zDu G.length k' β.length w' d'⟩) = zc G F L w' k' X d' β T := zCA (i := 0) _ rfl
theorem zK7 {β' : List Nat} (hb : β'.length = β.length) : (zc G F L w k X d β T).set (G.length + 2) (some ⟨3, zB0 β'⟩) = zc G F L w k X d β' T := by
 refine (zCA (i := 2) _ Z).trans ?_
 show G ++ (some ⟨_, zDu G.length k β.length w d⟩ :: F :: some ⟨_, zB0 β'⟩ :: _) = _
 rw [← hb]
theorem zK8 {a : Nat} (ha : a < X.length) (x : List Int) : (zc G F L w k X d β T).set (G.length + 4 + a) (some ⟨102, zC x⟩) = zc G F L w k (X.set a x) d β T := by
 rw [show G.length + 4 + a = G.length + ((a + 1) + 3) by omega]
 refine (zCA (i := (a + 1) + 3) _ Z).trans ?_
 have h := zMl (O := ⟨265, zBj G.length X.length L⟩) (t := 102) (f := zC) (X := X) (L := T) x ha
 show G ++ (_ :: F :: _ :: (zAn _ _ _ X T).set (a + 1) _) = _
 rw [h]
 unfold zc
 rw [List.length_set]
theorem zAI (j : Nat) (x : Option AObj) : (zc G F L w k X d β T).set (G.length + 4 + X.length + j) x = zc G F L w k X d β (T.set j x) := by
 rw [show G.length + 4 + X.length + j = G.length + ((X.length + 1 + j) + 3) by omega]
 refine (zCA (i := (X.length + 1 + j) + 3) _ Z).trans ?_
 show G ++ (_ :: F :: _ :: (zAn _ _ _ X T).set (X.length + 1 + j) _) = _
 rw [zMk]
theorem zCN (hG : OkG G) (m : Nat) (hm : G.length + 4 + X.length ≤ m) (hF : ∀ o : AObj, F = some o → zAz m o.c) (hT : ∀ o : AObj, some o ∈ T → zAz m o.c) : ∀ (h : Nat) (o : AObj), (zc G F L w k X d β T)[h]? = some (some o) → zAz m o.c := by
 intro h o ho
 have hmem := List.mem_of_getElem? ho
 unfold zc zAn at hmem
 rw [List.mem_append] at hmem
 rcases hmem with hmem | hmem
 ·exact hG m (by omega) o hmem
 rw [List.mem_cons, List.mem_cons, List.mem_cons, List.mem_cons, List.mem_append] at hmem
 rcases hmem with e | e | e | e | hmem | hmem
 ·cases e
  intro i j hi hj
  have hj' : j < 5 := hj
  match j, hj' with
  | 0, _ => exact Nat.ble_eq_true_of_le (show G.length + 3 + 1 ≤ m by omega)
  | 1, _ => rfl
  | 2, _ => rfl
  | 3, _ => exact Nat.ble_eq_true_of_le (show G.length + 2 + 1 ≤ m by omega)
  | 4, _ => rfl
 ·exact hF o e.symm
 ·cases e
  exact fun i j _ _ => rfl
 ·cases e
  intro i j hi hj
  have hi' : i < X.length := hi
  exact Nat.ble_eq_true_of_le (show G.length + 4 + i + 1 ≤ m by omega)
 ·obtain ⟨a, _, e⟩ := List.mem_map.1 hmem
  cases e
  intro i j hi hj
  have hj' : j < 2 := hj
  match j, hj' with
  | 0, _ => rfl
  | 1, _ => rfl
 ·exact hT o hmem
theorem tabB_den (b k m w : Nat) (d v : Int) : ∀ i' j', i' < (zDu b k m w d).len → j' < (zDu b k m w d).sz → (zDu b k m w v).at i' j' = if i' = 0 ∧ 1 ≤ j' ∧ j' < 1 + 2 then (zj v).getD (j' - 1) .any else (zDu b k m w d).at i' j' := by
 intro i' j' hi' hj'
 obtain rfl := Nat.lt_one_iff.1 (show i' < 1 from hi')
 have hj2 : j' < 5 := hj'
 match j', hj2 with
 | 0, _ => rfl
 | 1, _ => rfl
 | 2, _ => rfl
 | 3, _ => rfl
 | 4, _ => rfl
end
end Go.Proofs.YtkncmbklkhjmgaaGreatDoor
namespace Go.Proofs.YtkncmbklkhjmgaaGreatDoor
open Go.Ax Go.Ax.Bg Go.Ax.Rt Go.RowKit Go.Ax.Dt Go.Ax.Sx
attribute [local irreducible] Ax zBn QOp zQ zBX
theorem zF9 (x : Int) : (sgn x < 0) = (x < 0) := by
 apply propext
 unfold sgn
 constructor
 ·intro h
  split at h
  ·assumption
  ·split at h <;> omega
 ·intro h
  rw [if_pos h]; decide
theorem zL0 {α β : Type} (f : α → β) (l : List α) (d : α) : (List.range l.length).map (fun i => f (l.getD i d)) = l.map f := by
 apply List.ext_getElem (by simp)
 intro i h1 h2
 simp [List.getD, List.getElem?_eq_getElem (by simpa using h2 : i < l.length)]
theorem zNp (G : zN) (hG : OkG G) (L w n : Nat) (X : Tab) (d : Int) (β : List Nat) (r cc : Nat) (E : Nat) (hn : X.length = n) (hn40 : n ≤ 1000000) (hL : ∀ x ∈ X, x.length = L) (hL40 : L ≤ 1000000) (hr : r < β.length) (hβ : β.length ≤ n) (hc : cc < L) (hd : d ≠ 0)
 (hX : ∀ i j, i < n → j < L → (at2 X i j).natAbs ≤ 10 ^ E) (hdE : d.natAbs ≤ 10 ^ E) (hE : E ≤ 3600000) :
 zQ Tryz.prog 244 [.ptr G.length 0 0, iN r, iN cc] (zc G none L w n X d β []) (fun h => h < (zc G none L w n X d β []).length)
  (fun r' H' => r' = .tup [] ∧ H' = zc G none L w n (zEn X r cc d) (if at2 X r cc < 0 then -(at2 X r cc) else at2 X r cc) (β.set r cc) []) := by
 refine zE (P := Tryz.prog) (fn := Tryz.f244) Z Z (by kernel_rfl) Z (fun c hR hfix => ?_)
 have hrn : r < n := Nat.lt_of_lt_of_le hr hβ
 have hlen : (zc G none L w n X d β []).length = G.length + 4 + n := by rw [zBC, hn]; rfl
 rw [hlen] at hfix
 have f1 := zA2 (G := G) (F := none) (L := L) (w := w) (k := n) (X := X) (d := d) (β := β) (T := [])
 have f2 := zCn (G := G) (F := none) (L := L) (w := w) (k := n) (X := X) (d := d) (β := β) (T := [])
 have f3 := zCZ (G := G) (F := none) (L := L) (w := w) (k := n) (X := X) (d := d) (β := β) (T := []) (a := r) (by rw [hn]; exact hrn)
 have lr : (X.getD r []).length = L := hL _ (zAD [] (by rw [hn]; exact hrn))
 have g1 : r < (zBj G.length X.length L).len := by show r < X.length; rw [hn]; exact hrn
 have g2 : cc < (zC (X.getD r [])).len := by show cc < (X.getD r []).length; rw [lr]; exact hc
 refine rn7 ?_
 refine zO (zc G none L w n X d β [some ⟨102, .box [.bool false, .nil]⟩]) (by rw [zAZ]; rfl) ?_
 refine zD 6 (.ptr (G.length + 4 + n) 0 0) Z (AEq.of_eq (by rw [hlen])) ?_
 refine zD 23 (zA1 (at2 X r cc)) Z (AEq.of_eq Z) ?_
 have q0 := zAa (G := G) (F := none) (L := L) (w := w) (k := n) (X := X) (d := d) (β := β) (T := [some ⟨102, .box [.bool false, .nil]⟩]) 0
 rw [hn] at q0
 refine zz (c' := .box (zj (at2 X r cc))) Z Z Z q0 Z Nat.zero_lt_one Z Z (fun i' j' hi' hj' => ?_) ?_
 ·rw [if_pos (Nat.lt_one_iff.1 hi')]; rfl
 refine zO (zc G none L w n X d β [some ⟨102, .box (zj (at2 X r cc))⟩]) (by have q := zAI (G := G) (F := none) (L := L) (w := w) (k := n) (X := X) (d := d) (β := β) (T := [some ⟨102, .box [.bool false, .nil]⟩]) 0 (some ⟨102, .box (zj (at2 X r cc))⟩); rw [hn] at q; exact q) ?_
 clear f1 f2 f3 q0
 have f1 := zA2 (G := G) (F := none) (L := L) (w := w) (k := n) (X := X) (d := d) (β := β) (T := [some ⟨102, .box (zj (at2 X r cc))⟩])
 have hsz : ∀ x : Int, x.natAbs ≤ 10 ^ E → (zS x.natAbs).length ≤ 400001 := fun x hx => zFR hx (by omega)
 have bp := hX r cc hrn hc
 refine rn7 ?_
 refine zZ (ι := Nat) (fun a => [(0, .ptr G.length 0 0), (1, iN r), (2, iN cc), (6, .ptr (G.length + 4 + n) 0 0), (27, .sl (G.length + 3) 0 n), (28, iN n), (29, iN a)]) (fun a => zc G none L w n (chg (zCQ X r cc d) [] X a) d β [some ⟨102, .box (zj (at2 X r cc))⟩]) (fun a => a ≤ n) (fun a => n - a) 0 ⟨⟨Z, Z, Z, Z, Z, Z, Z, trivial⟩, by rw [zDB], Nat.zero_le _⟩ ?_
 clear f1
 intro a ha
 have hXl : (chg (zCQ X r cc d) [] X a).length = n := by rw [zCp, hn]
 refine rn4 ?_
 refine zA Z (fun h7 => ?_) (fun h7 => ?_)
 ·have ha' : a < n := by omega
  have eA : (chg (zCQ X r cc d) [] X a).getD a [] = X.getD a [] := by rw [zC1 _ _ _ (by omega), if_neg (Nat.lt_irrefl a)]
  have eK : (chg (zCQ X r cc d) [] X a).getD r [] = X.getD r [] := by
   rw [zC1 _ _ _ (by omega)]
   split
   ·unfold zCQ; rw [if_pos rfl]
   ·rfl
  have lA : (X.getD a []).length = L := hL _ (zAD [] (by omega))
  have f2 := zCn (G := G) (F := none) (L := L) (w := w) (k := n) (X := (chg (zCQ X r cc d) [] X a)) (d := d) (β := β) (T := [some ⟨102, .box (zj (at2 X r cc))⟩])
  have f3 := zCZ (G := G) (F := none) (L := L) (w := w) (k := n) (X := (chg (zCQ X r cc d) [] X a)) (d := d) (β := β) (T := [some ⟨102, .box (zj (at2 X r cc))⟩]) (a := a) (by omega)
  rw [eA] at f3
  have g3 : a < (zBj G.length (chg (zCQ X r cc d) [] X a).length L).len := by show a < (chg (zCQ X r cc d) [] X a).length; omega
  have g4 : cc < (zC (X.getD a [])).len := by show cc < (X.getD a []).length; omega
  refine rn18 ?_
  refine zA Z (fun h8 => ?_) (fun h8 => ?_)
  ·have h8' : a = r := by omega
   refine rn5 ?_
   exact zJ ⟨a + 1, by omega, by omega, ⟨Z, Z, Z, Z, Z, Z, Z, trivial⟩, by rw [chg_same _ _ _ (by omega) (by rw [h8']; unfold zCQ; rw [if_pos rfl])]⟩
  ·have hne : ¬ a = r := by omega
   refine rn7 ?_
   have hl2 : (zc G none L w n (chg (zCQ X r cc d) [] X a) d β [some ⟨102, .box (zj (at2 X r cc))⟩]).length = G.length + 5 + n := by rw [zBC, hXl]; show _ + 1 = _; omega
   refine zO (zc G none L w n (chg (zCQ X r cc d) [] X a) d β [some ⟨102, .box (zj (at2 X r cc))⟩, some ⟨102, .box [.bool false, .nil]⟩]) (by rw [zAZ]; rfl) ?_
   refine zD 9 (.ptr (G.length + 5 + n) 0 0) Z (AEq.of_eq (by rw [hl2])) ?_
   refine zD 40 (zA1 (at2 X a cc)) Z (AEq.of_eq Z) ?_
   have q1 := zAa (G := G) (F := none) (L := L) (w := w) (k := n) (X := (chg (zCQ X r cc d) [] X a)) (d := d) (β := β) (T := [some ⟨102, .box (zj (at2 X r cc))⟩, some ⟨102, .box [.bool false, .nil]⟩]) 1
   rw [hXl, show G.length + 4 + n + 1 = G.length + 5 + n by omega] at q1
   refine zz (c' := .box (zj (at2 X a cc))) Z Z Z q1 Z Nat.zero_lt_one Z Z (fun i' j' hi' hj' => ?_) ?_
   ·rw [if_pos (Nat.lt_one_iff.1 hi')]; rfl
   refine zO (zc G none L w n (chg (zCQ X r cc d) [] X a) d β [some ⟨102, .box (zj (at2 X r cc))⟩, some ⟨102, .box (zj (at2 X a cc))⟩]) (by have q := zAI (G := G) (F := none) (L := L) (w := w) (k := n) (X := (chg (zCQ X r cc d) [] X a)) (d := d) (β := β) (T := [some ⟨102, .box (zj (at2 X r cc))⟩, some ⟨102, .box [.bool false, .nil]⟩]) 1 (some ⟨102, .box (zj (at2 X a cc))⟩); rw [hXl, show G.length + 4 + n + 1 = G.length + 5 + n by omega] at q; exact q) ?_
   clear f2 f3 q1
   refine rn3 ?_
   refine zZ (ι := Nat) (fun j => [(0, .ptr G.length 0 0), (1, iN r), (2, iN cc), (6, .ptr (G.length + 4 + n) 0 0), (7, iN a), (8, .sl (G.length + 4 + a) 0 L), (9, .ptr (G.length + 5 + n) 0 0), (27, .sl (G.length + 3) 0 n), (28, iN n), (29, iN a), (42, iN L), (43, iN j)]) (fun j => zc G none L w n ((chg (zCQ X r cc d) [] X a).set a (chg (rowG (X.getD a []) (X.getD r []) (at2 X r cc) (at2 X a cc) d) 0 (X.getD a []) j)) d β [some ⟨102, .box (zj (at2 X r cc))⟩, some ⟨102, .box (zj (at2 X a cc))⟩]) (fun j => j ≤ L) (fun j => L - j) 0 ⟨⟨Z, Z, Z, Z, Z, Z, Z, Z, Z, Z, Z, Z, trivial⟩, by rw [zDB, ← eA, zOA (chg (zCQ X r cc d) [] X a) [] _ (by omega)], Nat.zero_le _⟩ ?_
   intro j hj
   refine rn4 ?_
   refine zA Z (fun h9 => ?_) (fun h9 => ?_)
   ·have hj' : j < L := by omega
    have hgj := zC1 (rowG (X.getD a []) (X.getD r []) (at2 X r cc) (at2 X a cc) d) 0 (X.getD a []) (k := j) (i := j) (by omega)
    rw [if_neg (Nat.lt_irrefl j)] at hgj
    have hsj := zDf (rowG (X.getD a []) (X.getD r []) (at2 X r cc) (at2 X a cc) d) 0 (X.getD a []) (k := j) (by omega)
    have hlj := zCp (rowG (X.getD a []) (X.getD r []) (at2 X r cc) (at2 X a cc) d) 0 (X.getD a []) j
    have hgx : (rowG (X.getD a []) (X.getD r []) (at2 X r cc) (at2 X a cc) d) j = zDi ((X.getD a []).getD j 0 * at2 X r cc - at2 X a cc * (X.getD r []).getD j 0) d := rfl
    rw [← hgj] at hgx
    rw [hgx] at hsj
    have ex : ((chg (rowG (X.getD a []) (X.getD r []) (at2 X r cc) (at2 X a cc) d) 0 (X.getD a []) j).getD j 0).natAbs ≤ 10 ^ E := by rw [hgj]; exact hX a j ha' hj'
    clear hgj hgx
    generalize (chg (rowG (X.getD a []) (X.getD r []) (at2 X r cc) (at2 X a cc) d) 0 (X.getD a []) j) = row at *
    generalize hXA : (chg (zCQ X r cc d) [] X a) = XA at *
    have hXl2 : (XA.set a row).length = n := by rw [List.length_set]; exact hXl
    have rA : (XA.set a row).getD a [] = row := by rw [getD_set, if_pos ⟨rfl, by omega⟩]
    have rK : (XA.set a row).getD r [] = X.getD r [] := by rw [getD_set, if_neg (fun q => hne q.1.symm), eK]
    have q4 := zCn (G := G) (F := none) (L := L) (w := w) (k := n) (X := (XA.set a row)) (d := d) (β := β) (T := [some ⟨102, .box (zj (at2 X r cc))⟩, some ⟨102, .box (zj (at2 X a cc))⟩])
    have q5 := zCZ (G := G) (F := none) (L := L) (w := w) (k := n) (X := (XA.set a row)) (d := d) (β := β) (T := [some ⟨102, .box (zj (at2 X r cc))⟩, some ⟨102, .box (zj (at2 X a cc))⟩]) (a := a) (by omega)
    rw [rA] at q5
    have q6 := zCZ (G := G) (F := none) (L := L) (w := w) (k := n) (X := (XA.set a row)) (d := d) (β := β) (T := [some ⟨102, .box (zj (at2 X r cc))⟩, some ⟨102, .box (zj (at2 X a cc))⟩]) (a := r) (by omega)
    rw [rK] at q6
    have q7 := zA2 (G := G) (F := none) (L := L) (w := w) (k := n) (X := (XA.set a row)) (d := d) (β := β) (T := [some ⟨102, .box (zj (at2 X r cc))⟩, some ⟨102, .box (zj (at2 X a cc))⟩])
    have q8 := zAa (G := G) (F := none) (L := L) (w := w) (k := n) (X := (XA.set a row)) (d := d) (β := β) (T := [some ⟨102, .box (zj (at2 X r cc))⟩, some ⟨102, .box (zj (at2 X a cc))⟩]) 0
    rw [hXl2, Nat.add_zero] at q8
    have q9 := zAa (G := G) (F := none) (L := L) (w := w) (k := n) (X := (XA.set a row)) (d := d) (β := β) (T := [some ⟨102, .box (zj (at2 X r cc))⟩, some ⟨102, .box (zj (at2 X a cc))⟩]) 1
    rw [hXl2, show G.length + 4 + n + 1 = G.length + 5 + n by omega] at q9
    have g5 : r < (zBj G.length (XA.set a row).length L).len := by show r < (XA.set a row).length; omega
    have g6 : j < (zC row).len := by show j < row.length; omega
    have g7 : j < (zC (X.getD r [])).len := by show j < (X.getD r []).length; omega
    have bK : ((X.getD r []).getD j 0).natAbs ≤ 10 ^ E := hX r j hrn hj'
    have bf : (at2 X a cc).natAbs ≤ 10 ^ E := hX a cc ha' hc
    obtain ⟨s1, s2, s3⟩ := zKL ex bp bf bK hE
    have m1 := zCS (row.getD j 0) (at2 X r cc) (by have := hsz _ ex; omega) (by have := hsz _ bp; omega)
    have m2 := zCS (at2 X a cc) ((X.getD r []).getD j 0) (by have := hsz _ bf; omega) (by have := hsz _ bK; omega)
    have m3 := zMf (row.getD j 0 * at2 X r cc) (at2 X a cc * (X.getD r []).getD j 0) s1 s2
    have m4 := zRE (row.getD j 0 * at2 X r cc - at2 X a cc * (X.getD r []).getD j 0) d hd s3 (by have := hsz _ hdE; omega)
    refine rn1 ?_
    refine zi (by kernel_rfl) ?_
    refine zq (fuel := 1) [0, 1, 2, 3, 4, 5, 6, 7, 8, 9, 10, 11, 12, 13, 14, 15, 16, 17, 18, 19, 20, 21, 22, 23, 24, 25, 26] [(0, .ptr G.length 0 0), (1, iN r), (2, iN cc), (6, .ptr (G.length + 4 + n) 0 0), (7, iN a), (8, .sl (G.length + 4 + a) 0 L), (9, .ptr (G.length + 5 + n) 0 0), (27, .sl (G.length + 3) 0 n), (28, iN n), (29, iN a), (42, iN L), (43, iN j), (10, iN j)] ⟨Z, Z, Z, Z, Z, Z, Z, Z, Z, Z, Z, Z, Z, trivial⟩ (by kernel_rfl) (by decide) Z Z ?_
    refine zM Z Z (zK Z) ?_
    refine zM Z Z (zK Z) ?_
    refine zM Z Z (zK Z) ?_
    refine zM Z Z (zK Z) ?_
    refine zM Z Z (qis Z Z Z) ?_
    refine zM Z Z (qas Z Z Z Z) ?_
    refine zM Z Z (qas Z Z Z Z) ?_
    refine zA8 Z Z Z Z Z m1 ?_
    refine zM Z Z (qas Z Z Z Z) ?_
    refine zM Z Z (zK Z) ?_
    refine zM Z Z (zd Z) ?_
    refine zM Z Z (zH Z Z Z Z Z Z) ?_
    refine zM Z Z (zAB Z Z Z (by assumption) (by rfl)) ?_
    refine zM Z Z (zK Z) ?_
    refine zM Z Z (qis Z Z Z) ?_
    refine zM Z Z (zAy Z Z Z (by assumption) Z (by first | assumption | omega)) ?_
    refine zM Z Z (zK Z) ?_
    refine zM Z Z (qis Z Z Z) ?_
    refine zM Z Z (qas Z Z Z Z) ?_
    refine zA8 Z Z Z Z Z m2 ?_
    refine zA8 Z Z Z Z Z m3 ?_
    refine zM Z Z (zK Z) ?_
    refine zM Z Z (zd Z) ?_
    refine zM Z Z (zH Z Z Z Z Z Z) ?_
    refine zM Z Z (qps Z Z Z Z) ?_
    refine zA8 Z Z Z Z Z m4 ?_
    refine zM Z Z (qis Z Z Z) ?_
    refine zAC ?_
    generalize zDi (row.getD j 0 * at2 X r cc - at2 X a cc * (X.getD r []).getD j 0) d = v at *
    refine zF (is := [27]) (by kernel_rfl) (by simp) Z ⟨fun o ho => ?_, trivial⟩
    all_goals (cases ho)
    refine zz (c' := zC (row.set j v)) Z Z Z q5 Z g6 (List.length_set ..) Z (zDL row j v) ?_
    refine zO (zc G none L w n (XA.set a (row.set j v)) d β [some ⟨102, .box (zj (at2 X r cc))⟩, some ⟨102, .box (zj (at2 X a cc))⟩]) ((zK8 (by omega) _).trans (by rw [List.set_set])) ?_
    refine rn1 ?_
    refine zW (by kernel_rfl) ?_
    refine rn5 ?_
    exact zJ ⟨j + 1, by omega, by omega, ⟨Z, Z, Z, Z, Z, Z, Z, Z, Z, Z, Z, Z, trivial⟩, by rw [hsj]⟩
   ·have hje : L = j := by omega
    subst hje
    have hall := row_chg (X.getD a []) (X.getD r []) (at2 X r cc) (at2 X a cc) d
    rw [lA] at hall
    have hel : zCQ X r cc d a = zFP (X.getD a []) (X.getD r []) (at2 X r cc) (at2 X a cc) d := by unfold zCQ; rw [if_neg hne]
    rw [← hall, ← hel, zDf _ _ _ (by omega)]
    have hXl3 : (chg (zCQ X r cc d) [] X (a + 1)).length = n := by rw [zCp, hn]
    have hl3 : (zc G none L w n (chg (zCQ X r cc d) [] X (a + 1)) d β [some ⟨102, .box (zj (at2 X r cc))⟩]).length = G.length + 5 + n := by rw [zBC, hXl3]; show _ + 1 = _; omega
    refine zDt ?_
    refine zI ?_
    refine zA3 (zc G none L w n (chg (zCQ X r cc d) [] X (a + 1)) d β [some ⟨102, .box (zj (at2 X r cc))⟩]) [some ⟨102, .box (zj (at2 X a cc))⟩] [(0, .ptr G.length 0 0), (1, iN r), (2, iN cc), (6, .ptr (G.length + 4 + n) 0 0), (27, .sl (G.length + 3) 0 n), (28, iN n), (29, iN a)] (by rw [zAZ]; rfl) ⟨Z, Z, Z, Z, Z, Z, Z, trivial⟩ (fun h hh => by rw [hfix] at hh; rw [hl3]; omega)
     (by rw [hl3]; exact zCN hG _ (by omega) (fun o ho => by cases ho) (fun o ho => by cases List.mem_singleton.1 ho; exact zMS _ _)) (by rw [hl3]; simp [zDO, zCB]; omega) ?_
    refine rn3 ?_
    exact zJ ⟨a + 1, by omega, by omega, ⟨Z, Z, Z, Z, Z, Z, Z, trivial⟩, Z⟩
 have hae : n = a := by omega
 subst hae
 rw [show chg (zCQ X r cc d) [] X n = zEa X r cc d by rw [zKK, hn]]
 have hYL := zJF X r cc d (by omega) hL
 have hYl : (zEa X r cc d).length = n := by rw [zJE, hn]
 have eP : zEn X r cc d = if at2 X r cc < 0 then (zEa X r cc d).map (fun l => l.map (fun x => -x)) else zEa X r cc d := rfl
 have hEl : (zEn X r cc d).length = n := by rw [zKa, hn]
 clear ha hXl h7
 generalize zEa X r cc d = Y at *
 refine zBc ?_
 refine z7 ?_
 apply zAK (H := zc G none L w n (zEn X r cc d) d β [some ⟨102, .box (zj (if at2 X r cc < 0 then -(at2 X r cc) else at2 X r cc))⟩]) [(0, .ptr G.length 0 0), (1, iN r), (2, iN cc), (6, .ptr (G.length + 4 + n) 0 0)]
 ·intro fin
  have f1 := zA2 (G := G) (F := none) (L := L) (w := w) (k := n) (X := Y) (d := d) (β := β) (T := [some ⟨102, .box (zj (at2 X r cc))⟩])
  have q0 := zAa (G := G) (F := none) (L := L) (w := w) (k := n) (X := Y) (d := d) (β := β) (T := [some ⟨102, .box (zj (at2 X r cc))⟩]) 0
  rw [hYl, Nat.add_zero] at q0
  have cs := zEK (at2 X r cc)
  refine rn7 ?_
  refine zD 75 (zA1 (at2 X r cc)) Z (AEq.of_eq Z) ?_
  refine zB Z Z Z cs ?_
  refine zBc ?_
  refine zA Z (fun h1 => ?_) (fun h1 => ?_)
  ·rw [zF9] at h1
   rw [if_pos h1] at eP
   rw [if_pos h1] at fin
   have co := zGL (at2 X r cc)
   refine rn7 ?_
   refine zD 78 (zA1 (at2 X r cc)) Z (AEq.of_eq Z) ?_
   refine zB Z Z Z co ?_
   skip
   refine zz (c' := .box (zj (-(at2 X r cc)))) Z Z Z q0 Z Nat.zero_lt_one Z Z (fun i' j' hi' hj' => ?_) ?_
   ·rw [if_pos (Nat.lt_one_iff.1 hi')]; rfl
   refine zO (zc G none L w n Y d β [some ⟨102, .box (zj (-(at2 X r cc)))⟩]) (by have q := zAI (G := G) (F := none) (L := L) (w := w) (k := n) (X := Y) (d := d) (β := β) (T := [some ⟨102, .box (zj (at2 X r cc))⟩]) 0 (some ⟨102, .box (zj (-(at2 X r cc)))⟩); rw [hYl, Nat.add_zero] at q; exact q) ?_
   clear f1 q0
   have f1 := zA2 (G := G) (F := none) (L := L) (w := w) (k := n) (X := Y) (d := d) (β := β) (T := [some ⟨102, .box (zj (-(at2 X r cc)))⟩])
   refine rn7 ?_
   refine zZ (ι := Nat) (fun a => [(0, .ptr G.length 0 0), (1, iN r), (2, iN cc), (6, .ptr (G.length + 4 + n) 0 0), (83, .sl (G.length + 3) 0 n), (84, iN n), (85, iN a)]) (fun a => zc G none L w n (chg (fun i => (Y.getD i []).map (fun x => -x)) [] Y a) d β [some ⟨102, .box (zj (-(at2 X r cc)))⟩]) (fun a => a ≤ n) (fun a => n - a) 0 ⟨⟨Z, Z, Z, Z, Z, Z, Z, trivial⟩, by rw [zDB], Nat.zero_le _⟩ ?_
   clear f1
   intro a ha
   have hXl : (chg (fun i => (Y.getD i []).map (fun x => -x)) [] Y a).length = n := by rw [zCp, hYl]
   refine rn4 ?_
   refine zA Z (fun h7 => ?_) (fun h7 => ?_)
   ·have ha' : a < n := by omega
    have eA : (chg (fun i => (Y.getD i []).map (fun x => -x)) [] Y a).getD a [] = Y.getD a [] := by rw [zC1 _ _ _ (by omega), if_neg (Nat.lt_irrefl a)]
    have lA : (Y.getD a []).length = L := hYL _ (zAD [] (by omega))
    have hst := zDf (fun i => (Y.getD i []).map (fun x => -x)) [] Y (k := a) (by omega)
    have f2 := zCn (G := G) (F := none) (L := L) (w := w) (k := n) (X := (chg (fun i => (Y.getD i []).map (fun x => -x)) [] Y a)) (d := d) (β := β) (T := [some ⟨102, .box (zj (-(at2 X r cc)))⟩])
    have g3 : a < (zBj G.length (chg (fun i => (Y.getD i []).map (fun x => -x)) [] Y a).length L).len := by show a < (chg (fun i => (Y.getD i []).map (fun x => -x)) [] Y a).length; omega
    refine rn7 ?_
    generalize hZA : (chg (fun i => (Y.getD i []).map (fun x => -x)) [] Y a) = ZA at *
    generalize hy : Y.getD a [] = y at *
    refine zZ (ι := Nat) (fun j => [(0, .ptr G.length 0 0), (1, iN r), (2, iN cc), (6, .ptr (G.length + 4 + n) 0 0), (12, .sl (G.length + 4 + a) 0 L), (83, .sl (G.length + 3) 0 n), (84, iN n), (85, iN a), (90, iN L), (91, iN j)]) (fun j => zc G none L w n (ZA.set a (chg (fun j => -(y.getD j 0)) 0 y j)) d β [some ⟨102, .box (zj (-(at2 X r cc)))⟩]) (fun j => j ≤ L) (fun j => L - j) 0 ⟨⟨Z, Z, Z, Z, Z, Z, Z, Z, Z, Z, trivial⟩, by rw [zDB, ← eA, zOA ZA [] _ (by omega)], Nat.zero_le _⟩ ?_
    intro j hj
    refine rn4 ?_
    refine zA Z (fun h9 => ?_) (fun h9 => ?_)
    ·have hj' : j < L := by omega
     have hgj := zC1 (fun j => -(y.getD j 0)) 0 y (k := j) (i := j) (by omega)
     rw [if_neg (Nat.lt_irrefl j)] at hgj
     have hsj := zDf (fun j => -(y.getD j 0)) 0 y (k := j) (by omega)
     have hlj := zCp (fun j => -(y.getD j 0)) 0 y j
     rw [← hgj] at hsj
     generalize (chg (fun j => -(y.getD j 0)) 0 y j) = row at *
     have hXl2 : (ZA.set a row).length = n := by rw [List.length_set]; exact hXl
     have rA : (ZA.set a row).getD a [] = row := by rw [getD_set, if_pos ⟨rfl, by omega⟩]
     have q5 := zCZ (G := G) (F := none) (L := L) (w := w) (k := n) (X := (ZA.set a row)) (d := d) (β := β) (T := [some ⟨102, .box (zj (-(at2 X r cc)))⟩]) (a := a) (by omega)
     rw [rA] at q5
     have g6 : j < (zC row).len := by show j < row.length; omega
     have co := zGL (row.getD j 0)
     refine rn7 ?_
     refine zD 99 (zA1 (row.getD j 0)) Z (AEq.of_eq Z) ?_
     refine zB Z Z Z co ?_
     repeat (refine zG (qis rfl rfl rfl) ?_)
     refine zz (c' := zC (row.set j (-(row.getD j 0)))) Z Z Z q5 Z g6 (List.length_set ..) Z (zDL row j _) ?_
     refine zO (zc G none L w n (ZA.set a (row.set j (-(row.getD j 0)))) d β [some ⟨102, .box (zj (-(at2 X r cc)))⟩]) ((zK8 (by omega) _).trans (by rw [List.set_set])) ?_
     refine rn5 ?_
     exact zJ ⟨j + 1, by omega, by omega, ⟨Z, Z, Z, Z, Z, Z, Z, Z, Z, Z, trivial⟩, by rw [hsj]⟩
    ·have hje : L = j := by omega
     subst hje
     have hall : chg (fun j => -(y.getD j 0)) 0 y L = y.map (fun x => -x) := by rw [← lA, zEi, zL0 (fun x => -x) y 0]
     rw [hall, hst]
     refine rn5 ?_
     exact zJ ⟨a + 1, by omega, by omega, ⟨Z, Z, Z, Z, Z, Z, Z, trivial⟩, Z⟩
   ·have hae : a = n := by omega
    have hall : (chg (fun i => (Y.getD i []).map (fun x => -x)) [] Y a) = zEn X r cc d := by rw [hae, ← hYl, zEi, zL0 (fun l : List Int => l.map (fun x => -x)) Y [], eP]
    rw [hall]
    refine zBc ?_
    exact fin _ ⟨Z, Z, Z, Z, trivial⟩
  ·rw [zF9] at h1
   rw [if_neg h1] at eP
   rw [if_neg h1, eP] at fin
   refine zBc ?_
   exact fin _ ⟨Z, Z, Z, Z, trivial⟩
 clear eP hYl hYL
 clear Y
 generalize hPV : (if at2 X r cc < 0 then -(at2 X r cc) else at2 X r cc) = PV at *
 have f1 := zA2 (G := G) (F := none) (L := L) (w := w) (k := n) (X := (zEn X r cc d)) (d := d) (β := β) (T := [some ⟨102, .box (zj PV)⟩])
 have q0 := zAa (G := G) (F := none) (L := L) (w := w) (k := n) (X := (zEn X r cc d)) (d := d) (β := β) (T := [some ⟨102, .box (zj PV)⟩]) 0
 rw [hEl, Nat.add_zero] at q0
 refine rn7 ?_
 refine zD 105 (zA1 PV) Z (AEq.of_eq Z) ?_
 refine zMO (s := 2) (c' := zDu G.length n β.length w PV) Z Z Z f1 Z (show 1 + 2 ≤ 5 from by decide) Nat.zero_lt_one Z Z (tabB_den _ _ _ _ _ _) ?_
 refine zO (zc G none L w n (zEn X r cc d) PV β [some ⟨102, .box (zj PV)⟩]) (zIB n w PV) ?_
 refine zF6 ?_
 have hle : (zc G none L w n (zEn X r cc d) PV β []).length = G.length + 4 + n := by rw [zBC, hEl]; rfl
 refine zA3 (zc G none L w n (zEn X r cc d) PV β []) [some ⟨102, .box (zj PV)⟩] [(0, .ptr G.length 0 0), (1, iN r), (2, iN cc)] (by rw [zAZ]; rfl) ⟨Z, Z, Z, trivial⟩ (fun h hh => by rw [hfix] at hh; rw [hle]; exact hh)
  (by rw [hle]; exact zCN hG _ (by omega) (fun o ho => by cases ho) (fun o ho => by cases ho)) (by rw [hle]; simp [zDO, zCB]; omega) ?_
 clear f1 q0
 have f1 := zA2 (G := G) (F := none) (L := L) (w := w) (k := n) (X := zEn X r cc d) (d := PV) (β := β) (T := [])
 have f2 := zFn (G := G) (F := none) (L := L) (w := w) (k := n) (X := zEn X r cc d) (d := PV) (β := β) (T := [])
 refine rn7 ?_
 refine zBg Z Z Z Z f2 Z Z (by show r < (β.map _).length; rw [List.length_map]; exact hr) ?_
 refine zO (zc G none L w n (zEn X r cc d) PV (β.set r cc) []) (by
  rw [← zK7 (β := β) (List.length_set ..)]
  show _ = List.set _ _ (some (⟨3, .ints .i64 ((β.set r cc).map (fun a : Nat => (a : Int)))⟩ : AObj))
  rw [List.map_set]) ?_
 repeat (refine zR ?_)
 exact ax_end hR Z ⟨Z, Z⟩
theorem zEk (β : List Nat) (i : Nat) : (β.map (fun a : Nat => (a : Int))).getD i 0 = ((β.getD i 0 : Nat) : Int) := by
 simp only [List.getD, List.getElem?_map]
 cases β[i]? <;> rfl
theorem zOC (x : Int) : (sgn x ≤ 0) = (x ≤ 0) := by
 apply propext
 unfold sgn
 constructor
 ·intro h
  split at h
  ·omega
  ·split at h
   ·omega
   ·exact absurd h (by decide)
 ·intro h
  by_cases h1 : x < 0
  ·rw [if_pos h1]; decide
  ·rw [if_neg h1, if_pos (by omega)]; decide
theorem sgn_neg {x : Int} (h : x < 0) : sgn x = -1 := by unfold sgn; rw [if_pos h]
theorem sgn_zer {x : Int} (h : x = 0) : sgn x = 0 := by subst h; rfl
theorem sgn_pos {x : Int} (h : 0 < x) : sgn x = 1 := by unfold sgn; rw [if_neg (by omega), if_neg (by omega)]
theorem leave_ok (G : zN) (hG : OkG G) (N w n : Nat) (X : Tab) (d : Int) (β : List Nat) (cc : Nat) (E : Nat) (hn : X.length = n) (hn0 : 0 < n) (hn40 : n ≤ 1000000) (hL : ∀ x ∈ X, x.length = N + 1) (hL40 : N + 1 ≤ 1000000) (hβ : β.length ≤ n) (hc : cc < N + 1)
 (hX : ∀ i j, i < n → j < N + 1 → (at2 X i j).natAbs ≤ 10 ^ E) (hE : E ≤ 3600000) :
 zQ Tryz.prog 248 [.ptr G.length 0 0, iN cc] (zc G none (N + 1) w n X d β []) (fun h => h < (zc G none (N + 1) w n X d β []).length)
  (fun r' H' => r' = .int .i64 (optZ (zBb X β cc N β.length)) ∧ H' = zc G none (N + 1) w n X d β []) := by
 refine zE (P := Tryz.prog) (fn := Tryz.f248) Z Z (by kernel_rfl) Z (fun c hR hfix => ?_)
 have hlen : (zc G none (N + 1) w n X d β []).length = G.length + 4 + n := by rw [zBC, hn]; rfl
 rw [hlen] at hfix
 have f1 := zA2 (G := G) (F := none) (L := N + 1) (w := w) (k := n) (X := X) (d := d) (β := β) (T := [])
 have f2 := zCn (G := G) (F := none) (L := N + 1) (w := w) (k := n) (X := X) (d := d) (β := β) (T := [])
 have g1 : 0 < (zBj G.length X.length (N + 1)).len := by show 0 < X.length; omega
 refine rn0 ?_
 refine zi (by kernel_rfl) ?_
 refine zq (fuel := 0) [0, 1, 2, 3, 4, 5, 6, 7, 8, 9] [(0, .ptr G.length 0 0), (1, iN cc)] ⟨Z, Z, trivial⟩ (by kernel_rfl) (by decide) Z Z ?_
 refine zM Z Z (zK Z) ?_
 refine zM Z Z (zd Z) ?_
 refine zM Z Z (zH Z Z Z Z Z Z) ?_
 refine zM Z Z (zAB Z Z Z (by assumption) (by rfl)) ?_
 refine zM Z Z (qis Z Z Z) ?_
 refine zM Z Z (zAy Z Z Z (by assumption) Z (by first | assumption | omega)) ?_
 refine zM Z Z (zBy Z Z Z) ?_
 refine zM Z Z (zFD Z Z (by omega)) ?_
 refine zM Z Z (zm Z) ?_
 refine zM Z Z (zm Z) ?_
 refine zAC ?_
 refine zW (by kernel_rfl) ?_
 repeat (refine zI ?_)
 refine z8 6 (iN N) Z (AEq.of_eq (by show AV.int .i64 (((N + 1 : Nat) : Int) - 1) = _; rw [show ((N + 1 : Nat) : Int) - 1 = (N : Nat) by omega])) ?_
 have f3 := zFn (G := G) (F := none) (L := N + 1) (w := w) (k := n) (X := X) (d := d) (β := β) (T := [])
 refine rn7 ?_
 refine zZ (ι := Nat) (fun i => [(0, .ptr G.length 0 0), (1, iN cc), (5, .int .i64 (optZ (zBb X β cc N i))), (6, iN N), (22, iN β.length), (23, iN i)]) (fun i => zc G none (N + 1) w n X d β []) (fun i => i ≤ β.length) (fun i => β.length - i) 0 ⟨⟨Z, Z, Z, Z, Z, Z, trivial⟩, Z, Nat.zero_le _⟩ ?_
 clear f3
 intro i hi
 refine rn4 ?_
 refine zA Z (fun h => ?_) (fun h => ?_)
 ·have hi' : i < β.length := by omega
  have hin : i < n := by omega
  have lI : (X.getD i []).length = N + 1 := hL _ (zAD [] (by omega))
  have f3 := zCZ (G := G) (F := none) (L := N + 1) (w := w) (k := n) (X := X) (d := d) (β := β) (T := []) (a := i) (by omega)
  have g3 : i < (zBj G.length X.length (N + 1)).len := by show i < X.length; omega
  have g4 : cc < (zC (X.getD i [])).len := by show cc < (X.getD i []).length; omega
  refine rn7 ?_
  refine zO (zc G none (N + 1) w n X d β [some ⟨102, .box [.bool false, .nil]⟩]) (by rw [zAZ]; rfl) ?_
  refine zD 8 (.ptr (G.length + 4 + n) 0 0) Z (AEq.of_eq (by rw [hlen])) ?_
  refine zD 35 (zA1 (at2 X i cc)) Z (AEq.of_eq Z) ?_
  have q0 := zAa (G := G) (F := none) (L := N + 1) (w := w) (k := n) (X := X) (d := d) (β := β) (T := [some ⟨102, .box [.bool false, .nil]⟩]) 0
  rw [hn] at q0
  refine zz (c' := .box (zj (at2 X i cc))) Z Z Z q0 Z Nat.zero_lt_one Z Z (fun i' j' hi' hj' => ?_) ?_
  ·rw [if_pos (Nat.lt_one_iff.1 hi')]; rfl
  refine zO (zc G none (N + 1) w n X d β [some ⟨102, .box (zj (at2 X i cc))⟩]) (by have q := zAI (G := G) (F := none) (L := N + 1) (w := w) (k := n) (X := X) (d := d) (β := β) (T := [some ⟨102, .box [.bool false, .nil]⟩]) 0 (some ⟨102, .box (zj (at2 X i cc))⟩); rw [hn] at q; exact q) ?_
  clear f1 f2 f3 q0
  apply zAK (H := zc G none (N + 1) w n X d β [some ⟨102, .box (zj (at2 X i cc))⟩]) [(0, .ptr G.length 0 0), (1, iN cc), (5, .int .i64 (optZ (zBb X β cc N (i + 1)))), (6, iN N), (22, iN β.length), (23, iN i)]
  ·intro fin
   have f1 := zA2 (G := G) (F := none) (L := N + 1) (w := w) (k := n) (X := X) (d := d) (β := β) (T := [some ⟨102, .box (zj (at2 X i cc))⟩])
   have f2 := zCn (G := G) (F := none) (L := N + 1) (w := w) (k := n) (X := X) (d := d) (β := β) (T := [some ⟨102, .box (zj (at2 X i cc))⟩])
   have q0 := zAa (G := G) (F := none) (L := N + 1) (w := w) (k := n) (X := X) (d := d) (β := β) (T := [some ⟨102, .box (zj (at2 X i cc))⟩]) 0
   rw [hn, Nat.add_zero] at q0
   have cs := zEK (at2 X i cc)
   refine rn7 ?_
   refine zD 36 (zA1 (at2 X i cc)) Z (AEq.of_eq Z) ?_
   refine zB Z Z Z cs ?_
   refine rn8 ?_
   refine zA Z (fun h1 => ?_) (fun h1 => ?_)
   ·rw [zOC] at h1
    rw [zO8 h1] at fin
    refine zBc ?_
    exact fin _ ⟨Z, Z, Z, Z, Z, Z, trivial⟩
   ·rw [zOC] at h1
    refine rn4 ?_
    refine zA Z (fun h2 => ?_) (fun h2 => ?_)
    ·rw [zNm] at h2
     rw [zNa h1 h2] at fin
     skip
     refine z7 ?_
     refine zg Z ?_
     refine zBc ?_
     exact fin _ ⟨Z, Z, Z, Z, Z, Z, trivial⟩
    ·cases hl : zBb X β cc N i with
     | none => rw [hl] at h2; exact absurd (show (-1 : Int) < 0 by decide) h2
     | some b =>
      have hb := (zGO X β cc N i b hl).lt
      have hbn : b < n := by omega
      have hnx := zO7 (T := X) (β := β) (c := cc) (e := N) h1 hl
      rw [hnx] at fin
      have lB : (X.getD b []).length = N + 1 := hL _ (zAD [] (by omega))
      have f3 := zCZ (G := G) (F := none) (L := N + 1) (w := w) (k := n) (X := X) (d := d) (β := β) (T := [some ⟨102, .box (zj (at2 X i cc))⟩]) (a := i) (by omega)
      have f4 := zCZ (G := G) (F := none) (L := N + 1) (w := w) (k := n) (X := X) (d := d) (β := β) (T := [some ⟨102, .box (zj (at2 X i cc))⟩]) (a := b) (by omega)
      have g3 : i < (zBj G.length X.length (N + 1)).len := by show i < X.length; omega
      have g4 : b < (zBj G.length X.length (N + 1)).len := by show b < X.length; omega
      have g5 : cc < (zC (X.getD b [])).len := by show cc < (X.getD b []).length; omega
      have g6 : N < (zC (X.getD b [])).len := by show N < (X.getD b []).length; omega
      have g7 : N < (zC (X.getD i [])).len := by show N < (X.getD i []).length; omega
      have bi := hX i cc hin hc
      have bb := hX b cc hbn hc
      have ei := hX i N hin (Nat.lt_succ_self N)
      have eb := hX b N hbn (Nat.lt_succ_self N)
      have hsz : ∀ x : Int, x.natAbs ≤ 10 ^ E → (zS x.natAbs).length ≤ 400001 := fun x hx => zFR hx (by omega)
      obtain ⟨s1, s2, s3⟩ := zKL ei bb bi eb hE
      rw [Int.mul_comm (at2 X i cc) (at2 X b N)] at s2
      have m1 := zCS (at2 X i N) (at2 X b cc) (by have := hsz _ ei; omega) (by have := hsz _ bb; omega)
      have m2 := zCS (at2 X b N) (at2 X i cc) (by have := hsz _ eb; omega) (by have := hsz _ bi; omega)
      have m3 := zQB (at2 X i N * at2 X b cc) (at2 X b N * at2 X i cc) s1 s2
      refine rn20 ?_
      refine z8 5 (iN b) Z (AEq.of_eq Z) ?_
      refine zi (by kernel_rfl) ?_
      refine zq (fuel := 0) [0, 1, 2, 3, 4, 5, 6, 7, 8, 9, 10, 11, 12, 13, 14, 15, 16, 17, 18, 19, 20, 21, 22, 23, 24, 25, 26, 27, 28, 29, 30, 31, 32, 33, 34] [(0, .ptr G.length 0 0), (1, iN cc), (5, iN b), (6, iN N), (7, iN i), (8, .ptr (G.length + 4 + n) 0 0), (22, iN β.length), (23, iN i)] ⟨Z, Z, Z, Z, Z, Z, Z, Z, trivial⟩ (by kernel_rfl) (by decide) Z Z ?_
      refine zM Z Z (zK Z) ?_
      refine zM Z Z (zd Z) ?_
      refine zM Z Z (zH Z Z Z Z Z Z) ?_
      refine zM Z Z (zAB Z Z Z (by assumption) (by rfl)) ?_
      refine zM Z Z (zK Z) ?_
      refine zM Z Z (qis Z Z Z) ?_
      refine zM Z Z (zAy Z Z Z (by assumption) Z (by first | assumption | omega)) ?_
      refine zM Z Z (zK Z) ?_
      refine zM Z Z (qis Z Z Z) ?_
      refine zM Z Z (qas Z Z Z Z) ?_
      refine zM Z Z (zK Z) ?_
      refine zM Z Z (zd Z) ?_
      refine zM Z Z (zH Z Z Z Z Z Z) ?_
      refine zM Z Z (zAB Z Z Z (by assumption) (by rfl)) ?_
      refine zM Z Z (zK Z) ?_
      refine zM Z Z (qis Z Z Z) ?_
      refine zM Z Z (zAy Z Z Z (by assumption) Z (by first | assumption | omega)) ?_
      refine zM Z Z (zK Z) ?_
      refine zM Z Z (qis Z Z Z) ?_
      refine zM Z Z (qas Z Z Z Z) ?_
      refine zA8 Z Z Z Z Z m1 ?_
      refine zM Z Z (zK Z) ?_
      refine zM Z Z (zd Z) ?_
      refine zM Z Z (zH Z Z Z Z Z Z) ?_
      refine zM Z Z (zAB Z Z Z (by assumption) (by rfl)) ?_
      refine zM Z Z (zK Z) ?_
      refine zM Z Z (qis Z Z Z) ?_
      refine zM Z Z (zAy Z Z Z (by assumption) Z (by first | assumption | omega)) ?_
      refine zM Z Z (zK Z) ?_
      refine zM Z Z (qis Z Z Z) ?_
      refine zM Z Z (qas Z Z Z Z) ?_
      refine zM Z Z (qas Z Z Z Z) ?_
      refine zA8 Z Z Z Z Z m2 ?_
      refine zA8 Z Z Z Z Z m3 ?_
      refine zM Z Z (zm Z) ?_
      refine zAC ?_
      refine zW (by kernel_rfl) ?_
      repeat (refine zI ?_)
      have f5 := zFn (G := G) (F := none) (L := N + 1) (w := w) (k := n) (X := X) (d := d) (β := β) (T := [some ⟨102, .box (zj (at2 X i cc))⟩])
      have g8 : i < (β.map (fun a : Nat => (a : Int))).length := by rw [List.length_map]; exact hi'
      have g9 : b < (β.map (fun a : Nat => (a : Int))).length := by rw [List.length_map]; omega
      clear f2 f3 f4 m1 m2 m3
      rcases Int.lt_trichotomy (at2 X i N * at2 X b cc - at2 X b N * at2 X i cc) 0 with hD | hD | hD
      ·rw [if_pos (.inl (by omega))] at fin
       refine z8 9 (.int .i64 (-1)) Z (AEq.of_eq (by rw [sgn_neg hD])) ?_
       repeat (refine z7 ?_)
       refine zi (by kernel_rfl) ?_
       refine zq (fuel := 0) [0, 1, 2, 3, 4, 5, 6, 7, 8, 9, 10, 11, 12, 13, 14, 15, 16, 17, 18, 19, 20, 21, 22] [(0, .ptr G.length 0 0), (1, iN cc), (5, iN b), (6, iN N), (7, iN i), (8, .ptr (G.length + 4 + n) 0 0), (22, iN β.length), (23, iN i), (9, .int .i64 (-1))] ⟨Z, Z, Z, Z, Z, Z, Z, Z, Z, trivial⟩ (by kernel_rfl) (by decide) Z Z ?_
       refine zM Z Z (zK Z) ?_
       refine zM Z Z (zEd Z Z) ?_
       refine zM Z Z (zK Z) ?_
       refine zBi Z Z Z Z Z ?_
       refine zBi Z Z Z Z Z ?_
       refine zBi Z Z Z Z Z ?_
       refine zCW Z Z Z Z ?_
       refine zCW Z Z Z Z ?_
       refine zCW Z Z Z Z ?_
       refine zCW Z Z Z Z ?_
       refine zCW Z Z Z Z ?_
       refine zCW Z Z Z Z ?_
       refine zCW Z Z Z Z ?_
       refine zCW Z Z Z Z ?_
       refine zCW Z Z Z Z ?_
       refine zCW Z Z Z Z ?_
       refine zCW Z Z Z Z ?_
       refine zCW Z Z Z Z ?_
       refine zCW Z Z Z Z ?_
       refine zCW Z Z Z Z ?_
       refine zCW Z Z Z Z ?_
       refine zBi Z Z Z Z Z ?_
       refine zM Z Z (zBJ Z Z) ?_
       refine zAC ?_
       refine zW (by kernel_rfl) ?_
       repeat (first | refine zI ?_ | refine zBf rfl ?_)
       refine zg Z ?_
       refine zBc ?_
       exact fin _ ⟨Z, Z, Z, Z, Z, Z, trivial⟩
      ·refine z8 9 (.int .i64 0) Z (AEq.of_eq (by rw [sgn_zer hD])) ?_
       repeat (refine z7 ?_)
       refine zi (by kernel_rfl) ?_
       refine zq (fuel := 0) [0, 1, 2, 3, 4, 5, 6, 7, 8, 9, 10, 11, 12, 13, 14, 15, 16, 17, 18, 19, 20, 21, 22] [(0, .ptr G.length 0 0), (1, iN cc), (5, iN b), (6, iN N), (7, iN i), (8, .ptr (G.length + 4 + n) 0 0), (22, iN β.length), (23, iN i), (9, .int .i64 (0))] ⟨Z, Z, Z, Z, Z, Z, Z, Z, Z, trivial⟩ (by kernel_rfl) (by decide) Z Z ?_
       refine zM Z Z (zK Z) ?_
       refine zM Z Z (zEd Z Z) ?_
       refine zM Z Z (zK Z) ?_
       refine zAS Z Z Z Z (zK Z) ?_
       refine zAS Z Z Z Z (zEO Z Z) ?_
       refine zAS Z Z Z Z (zK Z) ?_
       refine zAS Z Z Z Z (zK Z) ?_
       refine zAS Z Z Z Z (zd Z) ?_
       refine zAS Z Z Z Z (zH Z Z Z Z Z Z) ?_
       refine zAS Z Z Z Z (zAB Z Z Z (by assumption) (by rfl)) ?_
       refine zAS Z Z Z Z (zK Z) ?_
       refine zAS Z Z Z Z (qis Z Z Z) ?_
       refine zAS Z Z Z Z (zG6 Z Z Z (by assumption) (by first | assumption | omega)) ?_
       refine zAS Z Z Z Z (zK Z) ?_
       refine zAS Z Z Z Z (zd Z) ?_
       refine zAS Z Z Z Z (zH Z Z Z Z Z Z) ?_
       refine zAS Z Z Z Z (zAB Z Z Z (by assumption) (by rfl)) ?_
       refine zAS Z Z Z Z (zK Z) ?_
       refine zAS Z Z Z Z (qis Z Z Z) ?_
       refine zAS Z Z Z Z (zG6 Z Z Z (by assumption) (by first | assumption | omega)) ?_
       refine zAS Z Z Z Z (zEd Z Z) ?_
       refine zAS Z Z Z Z (zBJ Z Z) ?_
       refine zM Z Z (zBJ Z Z) ?_
       refine zAC ?_
       refine zW (by kernel_rfl) ?_
       repeat (refine zI ?_)
       refine zA Z (fun h3 => ?_) (fun h3 => ?_)
       ·rw [zEk, zEk] at h3
        rw [if_pos (.inr ⟨by omega, by omega⟩)] at fin
        skip
        refine zg Z ?_
        refine zBc ?_
        exact fin _ ⟨Z, Z, Z, Z, Z, Z, trivial⟩
       ·rw [zEk, zEk] at h3
        rw [if_neg (by unfold zHr; omega)] at fin
        refine zBc ?_
        exact fin _ ⟨Z, Z, Z, Z, Z, Z, trivial⟩
      ·rw [if_neg (by unfold zHr; omega)] at fin
       refine z8 9 (.int .i64 1) Z (AEq.of_eq (by rw [sgn_pos hD])) ?_
       repeat (refine z7 ?_)
       refine zi (by kernel_rfl) ?_
       refine zq (fuel := 0) [0, 1, 2, 3, 4, 5, 6, 7, 8, 9, 10, 11, 12, 13, 14, 15, 16, 17, 18, 19, 20, 21, 22] [(0, .ptr G.length 0 0), (1, iN cc), (5, iN b), (6, iN N), (7, iN i), (8, .ptr (G.length + 4 + n) 0 0), (22, iN β.length), (23, iN i), (9, .int .i64 (1))] ⟨Z, Z, Z, Z, Z, Z, Z, Z, Z, trivial⟩ (by kernel_rfl) (by decide) Z Z ?_
       refine zM Z Z (zK Z) ?_
       refine zM Z Z (zEd Z Z) ?_
       refine zM Z Z (zK Z) ?_
       refine zAS Z Z Z Z (zK Z) ?_
       refine zAS Z Z Z Z (zEO Z Z) ?_
       refine zAS Z Z Z Z (zK Z) ?_
       refine zBi Z Z Z Z Z ?_
       refine zBi Z Z Z Z Z ?_
       refine zBi Z Z Z Z Z ?_
       refine zBi Z Z Z Z Z ?_
       refine zBi Z Z Z Z Z ?_
       refine zBi Z Z Z Z Z ?_
       refine zBi Z Z Z Z Z ?_
       refine zBi Z Z Z Z Z ?_
       refine zBi Z Z Z Z Z ?_
       refine zBi Z Z Z Z Z ?_
       refine zBi Z Z Z Z Z ?_
       refine zBi Z Z Z Z Z ?_
       refine zBi Z Z Z Z Z ?_
       refine zBi Z Z Z Z Z ?_
       refine zBi Z Z Z Z Z ?_
       refine zAS Z Z Z Z (zBJ Z Z) ?_
       refine zM Z Z (zBJ Z Z) ?_
       refine zAC ?_
       refine zW (by kernel_rfl) ?_
       refine zBc ?_
       exact fin _ ⟨Z, Z, Z, Z, Z, Z, trivial⟩
  ·refine zA3 (zc G none (N + 1) w n X d β []) [some ⟨102, .box (zj (at2 X i cc))⟩] [(0, .ptr G.length 0 0), (1, iN cc), (5, .int .i64 (optZ (zBb X β cc N (i + 1)))), (6, iN N), (22, iN β.length), (23, iN i)] (by rw [zAZ]; rfl) ⟨Z, Z, Z, Z, Z, Z, trivial⟩ (fun h hh => by rw [hfix] at hh; rw [hlen]; exact hh)
    (by rw [hlen]; exact zCN hG _ (by omega) (fun o ho => by cases ho) (fun o ho => by cases ho)) (by rw [hlen]; simp [zDO, zCB]; omega) ?_
   refine rn3 ?_
   exact zJ ⟨i + 1, by omega, by omega, ⟨Z, Z, Z, Z, Z, Z, trivial⟩, Z⟩
 ·have hie : i = β.length := by omega
  subst hie
  refine rn5 ?_
  exact zL hR Z ⟨Z, Z⟩
theorem zOB (x : Int) : (0 ≤ sgn x) = (¬ x < 0) := by
 apply propext
 unfold sgn
 constructor
 ·intro h
  split at h
  ·exact absurd h (by decide)
  ·assumption
 ·intro h
  rw [if_neg h]
  split <;> decide
/-- the tableau of a state -/
abbrev stH (G : zN) (N w n : Nat) (t : St) : zN := zc G none (N + 1) w n t.rows t.den t.basis []
theorem run_ok (G : zN) (hG : OkG G) (m N w : Nat) (M : Tab) (s : St) (hi : Inv m N M s) (hf : zDe m N s) (hw : w ≤ N) (K : Nat) (hK : zBz m N w (zAc m N w s K) = none) (E : Nat) (hm : m + 1 ≤ 1000000) (hN : N + 1 ≤ 1000000)
 (hB : ∀ t, Inv m N M t → (∀ i j, i < m + 1 → j < N + 1 → (at2 t.rows i j).natAbs ≤ 10 ^ E) ∧ t.den.natAbs ≤ 10 ^ E) (hE : E ≤ 3600000) :
 zQ Tryz.prog 198 [.ptr G.length 0 0] (stH G N w (m + 1) s) (fun h => h < (stH G N w (m + 1) s).length)
  (fun r' H' => r' = .int .i64 (resZ m w (zAc m N w s K)) ∧ H' = stH G N w (m + 1) (zAc m N w s K)) := by
 refine zE (P := Tryz.prog) (fn := Tryz.f198) Z Z (by kernel_rfl) Z (fun c hR hfix => ?_)
 have hlen : ∀ t : St, t.rows.length = m + 1 → (stH G N w (m + 1) t).length = G.length + 4 + (m + 1) := fun t ht => by rw [zBC, ht]; rfl
 rw [hlen s hi.n] at hfix
 refine rn1 ?_
 refine zZ (ι := Nat) (fun k => [(0, .ptr G.length 0 0)]) (fun k => stH G N w (m + 1) (zAc m N w s k)) (fun k => k ≤ K) (fun k => K - k) 0 ⟨⟨Z, trivial⟩, Z, Nat.zero_le _⟩ ?_
 intro k hk
 obtain ⟨hi', hf'⟩ := zEt hi hf hw k
 obtain ⟨hB1, hB2⟩ := hB _ hi'
 have hnx := fun s' => @zRF m N w s k s'
 have hen := @iter_end m N w s k K
 have hkK : zBz m N w (zAc m N w s k) ≠ none → k ≠ K := fun h e => h (by rw [e]; exact hK)
 generalize zAc m N w s k = t at *
 have hn := hi'.n
 have hβ := hi'.b
 have hrow := hi'.row
 have hd : t.den ≠ 0 := by have := hi'.dp; omega
 have lm : (t.rows.getD m []).length = N + 1 := hrow _ (zAD [] (by omega))
 have f1 := zA2 (G := G) (F := none) (L := N + 1) (w := w) (k := m + 1) (X := t.rows) (d := t.den) (β := t.basis) (T := [])
 have f2 := zCn (G := G) (F := none) (L := N + 1) (w := w) (k := m + 1) (X := t.rows) (d := t.den) (β := t.basis) (T := [])
 have f3 := zCZ (G := G) (F := none) (L := N + 1) (w := w) (k := m + 1) (X := t.rows) (d := t.den) (β := t.basis) (T := []) (a := m) (by omega)
 refine rn1 ?_
 refine zi (by kernel_rfl) ?_
 refine zq (fuel := 0) [0, 1, 2, 3, 4, 5, 6, 7, 8, 9, 10, 11, 12] [(0, .ptr G.length 0 0)] ⟨Z, trivial⟩ (by kernel_rfl) (by decide) Z Z ?_
 refine zM Z Z (zK Z) ?_
 refine zM Z Z (zd Z) ?_
 refine zM Z Z (zH Z Z Z Z Z Z) ?_
 refine zM Z Z (zAB Z Z Z (by assumption) (by rfl)) ?_
 refine zM Z Z (zK Z) ?_
 refine zM Z Z (zd Z) ?_
 refine zM Z Z (zH Z Z Z Z Z Z) ?_
 refine zM Z Z (zAB Z Z Z (by assumption) (by rfl)) ?_
 refine zM Z Z (zBy Z Z Z) ?_
 refine zM Z Z (zFD Z Z (by omega)) ?_
 refine zM Z Z (qis Z Z Z) ?_
 refine zM Z Z (zAy Z Z Z (by assumption) Z (by first | assumption | omega)) ?_
 refine zM Z Z (zm Z) ?_
 refine zAC ?_
 refine zW (by kernel_rfl) ?_
 repeat (refine zI ?_)
 refine z8 3 (.sl (G.length + 4 + m) 0 (N + 1)) Z (AEq.of_eq (by show AV.sl (G.length + 4 + (((m + 1 : Nat) : Int) - 1).toNat) 0 (N + 1) = _; rw [show (((m + 1 : Nat) : Int) - 1).toNat = m by omega])) ?_
 skip
 refine z7 ?_
 apply zAK (H := stH G N w (m + 1) t) [(0, .ptr G.length 0 0), (4, iN (zCG m w t))]
 ·intro fin
  refine rn1 ?_
  refine zZ (ι := Nat) (fun a => [(0, .ptr G.length 0 0), (3, .sl (G.length + 4 + m) 0 (N + 1)), (4, iN a)]) (fun _ => stH G N w (m + 1) t) (fun a => a ≤ w ∧ zCR t.rows m (w - a) a = zCG m w t) (fun a => w - a) 0 ⟨⟨Z, Z, Z, trivial⟩, Z, Nat.zero_le _, Z⟩ ?_
  rintro a ⟨ha, hcol⟩
  by_cases haw : a < w
  ·have g1 : a < (zC (t.rows.getD m [])).len := by show a < (t.rows.getD m []).length; omega
   have cs := zEK (at2 t.rows m a)
   refine rn7 ?_
   refine zD 24 (.bool true) Z (AEq.of_eq (by rw [decide_eq_true (by omega)])) ?_
   refine zDt ?_
   refine zD 28 (zA1 (at2 t.rows m a)) Z (AEq.of_eq Z) ?_
   refine zB Z Z Z cs ?_
   refine zBc ?_
   refine zA Z (fun h1 => ?_) (fun h1 => ?_)
   ·rw [zOB] at h1
    refine rn5 ?_
    exact zJ ⟨a + 1, ⟨by omega, by rw [← hcol, show w - a = (w - (a + 1)) + 1 by omega, enter_go h1]⟩, by omega, ⟨Z, Z, Z, trivial⟩, Z⟩
   ·rw [zOB] at h1
    rw [zOu (by omega)] at hcol
    refine zBc ?_
    exact fin _ ⟨Z, by rw [← hcol]; rfl, trivial⟩
  ·have haw' : a = w := by omega
   subst haw'
   rw [Nat.sub_self] at hcol
   have hcol : a = zCG m a t := hcol
   refine rn7 ?_
   refine zD 24 (.bool false) Z (AEq.of_eq (by rw [decide_eq_false (by omega)])) ?_
   refine zBc ?_
   exact fin _ ⟨Z, by rw [← hcol]; rfl, trivial⟩
 ·have hcl : zCG m w t ≤ w := Nat.le_trans (zE6 t.rows m w 0).2.1 (by omega)
  refine rn15 ?_
  refine zA Z (fun h1 => ?_) (fun h1 => ?_)
  ·have h1' : zCG m w t = w := by omega
   have e := hen (zRo h1') hk
   refine rn6 ?_
   exact zL hR Z ⟨by rw [e]; unfold resZ; rw [if_pos h1']; rfl, by rw [e]⟩
  ·have h1' : zCG m w t ≠ w := by omega
   have cl := leave_ok G hG N w (m + 1) t.rows t.den t.basis (zCG m w t) E hn (by omega) hm hrow hN (by omega) (by omega) hB1 hE
   rw [hβ] at cl
   refine rn1 ?_
   refine zCc Z Z Z cl (fun _ h => h) (fun _ h => h) ?_
   rintro r' H' ⟨rfl, rfl⟩
   refine rn4 ?_
   refine zA Z (fun h2 => ?_) (fun h2 => ?_)
   ·rw [zNm] at h2
    have e := hen (zRn h1' h2) hk
    refine rn6 ?_
    exact zL hR Z ⟨by rw [e]; unfold resZ; rw [if_neg h1']; rfl, by rw [e]⟩
   ·cases hl : zBb t.rows t.basis (zCG m w t) N m with
    | none => rw [hl] at h2; exact absurd (show (-1 : Int) < 0 by decide) h2
    | some r =>
     have hs := step_go h1' hl
     have hr := (zGO _ _ _ _ _ _ hl).lt
     have hkk := hkK (by rw [hs]; exact fun q => by cases q)
     have e := hnx _ hs
     have cp := zNp G hG (N + 1) w (m + 1) t.rows t.den t.basis r (zCG m w t) E hn hm hrow hN (by omega) (by omega) (by omega) hd hB1 hB2 hE
     refine rn1 ?_
     refine zCc Z Z Z cp (fun _ h => h) (fun _ h => h) ?_
     rintro r' H' ⟨rfl, rfl⟩
     refine rn5 ?_
     exact zJ ⟨k + 1, by omega, by omega, ⟨Z, trivial⟩, by rw [e]; rfl⟩
section
variable {G : zN} {F : Option AObj} {L w k : Nat} {X : Tab} {d : Int} {β : List Nat} {T : zN}
theorem zGb (o : Option AObj) : (zc G F L w k X d β (T ++ [o]))[G.length + 4 + X.length + T.length]? = some o := by
 rw [zAa, List.getElem?_append_right (Nat.le_refl _), Nat.sub_self]; rfl
theorem zCv (o o' : Option AObj) : (zc G F L w k X d β (T ++ [o])).set (G.length + 4 + X.length + T.length) o' = zc G F L w k X d β (T ++ [o']) := by
 rw [zAI]
 congr 1
 rw [List.set_append_right _ _ (Nat.le_refl _), Nat.sub_self]; rfl
end
theorem q_ok (G : zN) (hG : OkG G) (L w k : Nat) (X : Tab) (d : Int) (β : List Nat) (T : zN) (hT : ∀ o : AObj, some o ∈ T → zAz (zc G none L w k X d β T).length o.c) (x : Int) (hd : d ≠ 0) (hx : (zS x.natAbs).length ≤ 1000000) (hdl : (zS d.natAbs).length ≤ 1000000) :
 zQ Tryz.prog 243 [.ptr G.length 0 0, zA1 x] (zc G none L w k X d β T) (fun h => h < (zc G none L w k X d β T).length)
  (fun r' H' => r' = qA (Rat.divInt x d) ∧ H' = zc G none L w k X d β T) := by
 have hlen : (zc G none L w k X d β T).length = G.length + 4 + X.length + T.length := zBC
 refine zQ.cutR (K := fun r' H' => r' = qA (Rat.divInt x d) ∧ ∃ H1, H' = zc G none L w k X d β T ++ H1) ?_ (fun r' H' h => ?_)
 ·refine zE (P := Tryz.prog) (fn := Tryz.f243) Z Z (by kernel_rfl) Z (fun c hR hfix => ?_)
  have cf := zHR x d hd hx hdl
  refine rn6 ?_
  refine zAj (zc G none L w k X d β (T ++ [some ⟨102, .box (zj x)⟩] ++ [some ⟨104, .box [.bool false, .nil, .nil]⟩])) (by rw [zAZ, zAZ]; rfl) ?_
  refine z8 3 (.ptr (G.length + 4 + X.length + T.length) 0 0) Z (AEq.of_eq (by rw [hlen])) ?_
  refine z8 4 (.ptr (G.length + 4 + X.length + (T ++ [some (⟨102, .box (zj x)⟩ : AObj)]).length) 0 0) Z (AEq.of_eq (by rw [zAZ, zBC]; rfl)) ?_
  have f1 := zA2 (G := G) (F := none) (L := L) (w := w) (k := k) (X := X) (d := d) (β := β) (T := T ++ [some ⟨102, .box (zj x)⟩] ++ [some ⟨104, .box [.bool false, .nil, .nil]⟩])
  have f2 := zAa (G := G) (F := none) (L := L) (w := w) (k := k) (X := X) (d := d) (β := β) (T := T ++ ([some ⟨102, .box (zj x)⟩] ++ [some ⟨104, .box [.bool false, .nil, .nil]⟩])) T.length
  rw [List.getElem?_append_right (Nat.le_refl _), Nat.sub_self] at f2
  rw [← List.append_assoc] at f2
  have f3 := zGb (G := G) (F := none) (L := L) (w := w) (k := k) (X := X) (d := d) (β := β) (T := T ++ [some ⟨102, .box (zj x)⟩]) (some ⟨104, .box [.bool false, .nil, .nil]⟩)
  have f2 : (zc G none L w k X d β (T ++ [some ⟨102, .box (zj x)⟩] ++ [some ⟨104, .box [.bool false, .nil, .nil]⟩]))[G.length + 4 + X.length + T.length]? = some (some (⟨102, .box (zj x)⟩ : AObj)) := f2
  refine zi (by kernel_rfl) ?_
  refine zq (fuel := 1) [0, 1, 2, 3, 4, 5] [(0, .ptr G.length 0 0), (3, .ptr (G.length + 4 + X.length + T.length) 0 0), (4, .ptr (G.length + 4 + X.length + (T ++ [some (⟨102, .box (zj x)⟩ : AObj)]).length) 0 0)] ⟨Z, Z, Z, trivial⟩ (by kernel_rfl) (by decide) Z Z ?_
  refine zM Z Z (qas Z Z Z Z) ?_
  refine zM Z Z (zK Z) ?_
  refine zM Z Z (zd Z) ?_
  refine zM Z Z (zH Z Z Z Z Z Z) ?_
  refine zM Z Z (qps Z Z Z Z) ?_
  refine zA8 Z Z Z Z Z cf ?_
  refine zAC ?_
  unfold qA
  refine zF (is := [6]) (by kernel_rfl) (by simp) Z ⟨fun o ho => ?_, trivial⟩
  all_goals (cases ho)
  refine zz (c' := .box (zT (Rat.divInt x d))) Z Z Z f3 Z Nat.zero_lt_one Z Z (fun i' j' hi' hj' => ?_) ?_
  ·rw [if_pos (Nat.lt_one_iff.1 hi')]; rfl
  refine zO (zc G none L w k X d β (T ++ [some ⟨102, .box (zj x)⟩] ++ [some ⟨104, .box (zT (Rat.divInt x d))⟩])) (zCv _ _) ?_
  have f4 := zGb (G := G) (F := none) (L := L) (w := w) (k := k) (X := X) (d := d) (β := β) (T := T ++ [some ⟨102, .box (zj x)⟩]) (some ⟨104, .box (zT (Rat.divInt x d))⟩)
  refine rn1 ?_
  refine zW (by kernel_rfl) ?_
  refine rn0 ?_
  exact zL hR (zGD Z f4 Z Z Z) ⟨Z, _, by rw [zAZ, List.append_assoc]⟩
 ·obtain ⟨rfl, H1, rfl⟩ := h
  exact ⟨_, H1, rfl, fun h hh => hh, zCN hG _ (by omega) (fun o ho => by cases ho) hT, rfl, rfl, rfl⟩
end Go.Proofs.YtkncmbklkhjmgaaGreatDoor
namespace Go.Proofs.YtkncmbklkhjmgaaGreatDoor
open Go.Ax Go.Ax.Bg Go.Ax.Rt Go.RowKit Go.Ax.Dt Go.Ax.Sx
/-- A row of zeros. -/
theorem zIH {A : zN} {t : TypeId} {n : Nat} : ∀ (h : Nat) (o' : AObj), (A ++ [some ⟨t, zC (List.replicate n 0)⟩])[h]? = some (some o') → ∃ o : AObj, (A ++ [some ⟨t, zBG n [.bool false, .nil]⟩])[h]? = some (some o) ∧ o'.ty = o.ty ∧ o'.c.len = o.c.len ∧ o'.c.kd = o.c.kd ∧ ∀ i j, i < o.c.len → j < o.c.sz → AEq (o.c.at i j) (o'.c.at i j) := by
 intro h o' ho'
 by_cases hl : h < A.length
 ·rw [List.getElem?_append_left hl] at ho'
  refine ⟨o', by rw [List.getElem?_append_left hl]; exact ho', Z, Z, Z, fun i j _ _ => AEq.of_eq Z⟩
 ·have hh : h = A.length := by
   have h1 := (List.getElem?_eq_some_iff.1 ho').1
   rw [List.length_append] at h1
   have h1 : h < A.length + 1 := h1
   omega
  subst hh
  rw [List.getElem?_append_right (Nat.le_refl _), Nat.sub_self] at ho'
  cases ho'
  refine ⟨⟨t, zBG n [.bool false, .nil]⟩, by rw [List.getElem?_append_right (Nat.le_refl _), Nat.sub_self]; rfl, Z, ?_, Z, fun i j hi hj => ?_⟩
  ·simp [rowE, Cells.len, zBG]
  ·have hi : i < n := by simpa [Cells.len, zBG] using hi
   have hj : j < 2 := hj
   show AEq _ ((zj ((List.replicate n (0 : Int)).getD i 0)).getD j .any)
   rw [zDz 0 (by simpa using hi), List.getElem_replicate]
   match j, hj with
   | 0, _ => exact AEq.of_eq rfl
   | 1, _ => exact AEq.natNil
theorem zP.set {H H' : zN} (hs : zP H H') (h : Nat) {x x' : Option AObj} (hx : ∀ o', x' = some o' → ∃ o, x = some o ∧ o'.ty = o.ty ∧ CEq o.c o'.c) : zP (H.set h x) (H'.set h x') := by
 refine ⟨by rw [List.length_set, List.length_set, hs.1], fun i o' ho' => ?_⟩
 rw [List.getElem?_set] at ho' ⊢
 by_cases e : h = i
 ·rw [if_pos e] at ho' ⊢
  split at ho'
  ·rename_i hl
   rw [if_pos (by rw [← hs.1]; exact hl)]
   cases ho'
   obtain ⟨o, h1, h2⟩ := hx o' rfl
   exact ⟨o, by rw [h1], h2⟩
  ·cases ho'
 ·rw [if_neg e] at ho' ⊢
  exact hs.2 i o' ho'
theorem zP.trans' {A B C : zN} (h1 : zP A B) (h2 : zP B C) : zP A C := by
 refine ⟨h2.1.trans h1.1, fun h o ho => ?_⟩
 obtain ⟨o1, g1, g2, g3⟩ := h2.2 h o ho
 obtain ⟨o2, k1, k2, k3⟩ := h1.2 h o1 g1
 refine ⟨o2, k1, g2.trans k2, ?_⟩
 obtain ⟨a1, a2, a3⟩ := k3
 obtain ⟨b1, b2, b3⟩ := g3
 exact ⟨b1.trans a1, b2.trans a2, fun i j hi hj => (b3 i j (by rw [a1]; exact hi) (by rw [zLm a2]; exact hj)).trans (a3 i j hi hj)⟩
/-- The tableau while its rows are moved. -/
abbrev zK0 (G : zN) (L w : Nat) (X : Tab) (d : Int) (β : List Nat) (T : zN) : zN :=
 G ++ (some ⟨270, .box [.any, .bool (decide (d < 0)), zh d.natAbs, .sl (G.length + 2) 0 β.length, iN w]⟩ :: none :: some ⟨3, zB0 β⟩ :: zAn ⟨265, zBj G.length X.length L⟩ 102 zC X T)
theorem zPg {G : zN} {L w : Nat} {X : Tab} {d : Int} {β : List Nat} {T : zN} : (zK0 G L w X d β T)[G.length]? = some (some ⟨270, .box [.any, .bool (decide (d < 0)), zh d.natAbs, .sl (G.length + 2) 0 β.length, iN w]⟩) := zD8 (i := 0) rfl
theorem zPi {G : zN} {L w k : Nat} {X : Tab} {d : Int} {β : List Nat} {T : zN} : (zK0 G L w X d β T).set G.length (some ⟨270, zDu G.length k β.length w d⟩) = zc G none L w k X d β T := zCA (i := 0) _ rfl
theorem zJL {α : Type} {O : AObj} {t : TypeId} {f : α → Cells} {X : List α} {x : α} {T : zN} : zAn O t f X (some ⟨t, f x⟩ :: T) = zAn O t f (X ++ [x]) T := by
 unfold zAn
 congr 1
 show zCJ t f X ++ ([some ⟨t, f x⟩] ++ T) = _
 rw [← List.append_assoc, zO9]
/-- A row more: the outer row is moved. -/
theorem zMF {G : zN} {L w k : Nat} {X : Tab} {x : List Int} {d : Int} {β : List Nat} {a : Option AObj} {c' : Cells} (hG : zl (G.length + 3) G = G)
 (hc : CEq c' (zBj G.length (X.length + 1) L)) :
 zP ((zl (G.length + 3) (zc G none L w k X d β [some ⟨102, zC x⟩, a])).set (G.length + 3) (some ⟨265, c'⟩)) (zK0 G L w (X ++ [x]) d β [none]) := by
 unfold zc
 rw [zDR, hG]
 have e : zl (G.length + 3) (some (⟨270, zDu G.length k β.length w d⟩ : AObj) :: none :: some ⟨3, zB0 β⟩ :: zAn ⟨265, zBj G.length X.length L⟩ 102 zC X [some ⟨102, zC x⟩, a])
  = some ⟨270, .box [.any, .bool (decide (d < 0)), zh d.natAbs, .sl (G.length + 2) 0 β.length, iN w]⟩ :: none :: some ⟨3, zB0 β⟩ :: zAn ⟨265, (zBj G.length X.length L).forget (G.length + 3)⟩ 102 zC X (zl (G.length + 3) [some ⟨102, zC x⟩, a]) := by
  show some (⟨_, Cells.box (AV.forgets _ _)⟩ : AObj) :: none :: some (⟨_, zB0 β⟩ : AObj) :: zl (G.length + 3) (zAn _ _ _ X _) = _
  rw [zEJ (G.length + 3) (zBO (G.length + 3))]
  simp [AV.forgets, AV.forget, zh, zr]
 rw [e]
 refine zP.trans' (B := G ++ (some ⟨270, .box [.any, .bool (decide (d < 0)), zh d.natAbs, .sl (G.length + 2) 0 β.length, iN w]⟩ :: none :: some ⟨3, zB0 β⟩ :: zAn ⟨265, c'⟩ 102 zC X (zl (G.length + 3) [some ⟨102, zC x⟩, a]))) ?_ ?_
 ·rw [show (G ++ (some (⟨270, .box [.any, .bool (decide (d < 0)), zh d.natAbs, .sl (G.length + 2) 0 β.length, iN w]⟩ : AObj) :: none :: some ⟨3, zB0 β⟩ :: zAn ⟨265, (zBj G.length X.length L).forget (G.length + 3)⟩ 102 zC X (zl (G.length + 3) [some ⟨102, zC x⟩, a]))).set (G.length + 3) (some ⟨265, c'⟩) = _ from zCA (i := 3) _ rfl]
  exact zP.refl _
 ·refine zP.append (zP.refl _) (zP.same (zP.same (zP.same ?_)))
  have hl : zl (G.length + 3) [some (⟨102, zC x⟩ : AObj), a] = [some ⟨102, zC x⟩, zAp (G.length + 3) a] := by
   show [some (⟨102, (zC x).forget _⟩ : AObj), _] = _
   rw [zBO]
  rw [hl, zJL]
  refine zG3 ⟨Z, ?_⟩ (zP.drop zP.nil)
  show CEq c' (zBj G.length (X ++ [x]).length L)
  rw [List.length_append]; exact hc
theorem zEw (b n L : Nat) (cx : Cells) (h0 : cx.at 0 0 = .sl (b + 4 + n) 0 L) : CEq (.fn (n + 1) 1 (fun i j => bif Nat.blt i n then (zBj b n L).at i j else cx.at (0 + (i - n)) j)) (zBj b (n + 1) L) := by
 refine ⟨Z, Z, fun i j hi hj => ?_⟩
 obtain rfl := Nat.lt_one_iff.1 (show j < 1 from hj)
 have hi : i < n + 1 := hi
 show AV.sl (b + 4 + i) 0 L = bif Nat.blt i n then AV.sl (b + 4 + i) 0 L else cx.at (0 + (i - n)) 0
 by_cases e : i < n
 ·rw [show Nat.blt i n = true from Nat.ble_eq_true_of_le e]; rfl
 ·have e2 : i = n := by omega
  subst e2
  rw [show Nat.blt i i = false by
   cases h : Nat.blt i i with
   | false => rfl
   | true => exact absurd (Nat.le_of_ble_eq_true h) (Nat.not_succ_le_self i)]
  rw [Nat.sub_self, Nat.add_zero]
  exact h0.symm
theorem zIu {H : zN} {h i m : Nat} {o : AObj} (hh : H[h]? = some (some o)) : zL4 H (.sl h i m) = some (o.c, i, m) := by
 simp only [zL4, hh]
/-- forgetting what lies behind the tableau -/
theorem zJW {G : zN} {L w k : Nat} {X : Tab} {d : Int} {β : List Nat} {T T' : zN} (h : Nat) (hG : zl h G = G) (hh : G.length + 4 + X.length ≤ h) (hT : zP (zl h T) T') :
 zP (zl h (zc G none L w k X d β T)) (zc G none L w k X d β T') := by
 unfold zc
 rw [zDR, hG]
 refine zP.append (zP.refl _) ?_
 have e : zl h (some (⟨270, zDu G.length k β.length w d⟩ : AObj) :: none :: some ⟨3, zB0 β⟩ :: zAn ⟨265, zBj G.length X.length L⟩ 102 zC X T)
  = some ⟨270, zDu G.length k β.length w d⟩ :: none :: some ⟨3, zB0 β⟩ :: zAn ⟨265, (zBj G.length X.length L).forget h⟩ 102 zC X (zl h T) := by
  show some (⟨_, Cells.box (AV.forgets _ _)⟩ : AObj) :: none :: some (⟨_, zB0 β⟩ : AObj) :: zl h (zAn _ _ _ X _) = _
  rw [zEJ h (zBO h)]
  simp [AV.forgets, AV.forget, zh, zr (show G.length + 3 ≠ h by omega), zr (show G.length + 2 ≠ h by omega)]
 rw [e]
 refine zP.same (zP.same (zP.same (zG3 ⟨Z, Z, Z, fun i j hi hj => ?_⟩ hT)))
 obtain rfl := Nat.lt_one_iff.1 (show j < 1 from hj)
 have hi : i < X.length := hi
 show AV.sl (G.length + 4 + i) 0 L = AV.forget h (AV.sl (G.length + 4 + i) 0 L)
 unfold AV.forget
 rw [zr (show G.length + 4 + i ≠ h by omega)]; rfl
/-- an object behind the tableau grows -/
theorem zLN {G : zN} {L w k : Nat} {X : Tab} {d : Int} {β : List Nat} {y : Option AObj} {t : TypeId} {c' c'' : Cells} (hG : zl (G.length + 4 + X.length) G = G) (hc : CEq c' c'') :
 zP ((zl (G.length + 4 + X.length) (zc G none L w k X d β [y])).set (G.length + 4 + X.length) (some ⟨t, c'⟩)) (zc G none L w k X d β [some ⟨t, c''⟩]) := by
 have e : zc G none L w k X d β [some ⟨t, c''⟩] = (zc G none L w k X d β [none]).set (G.length + 4 + X.length) (some ⟨t, c''⟩) := by
  have q := zAI (G := G) (F := none) (L := L) (w := w) (k := k) (X := X) (d := d) (β := β) (T := [none]) 0 (some ⟨t, c''⟩)
  exact q.symm
 rw [e]
 exact zP.set (zJW (T := [y]) (T' := [none]) _ hG (Nat.le_refl _) (show zP [zAp _ y] [none] from zP.drop zP.nil)) _ (fun o ho => by cases ho; exact ⟨_, rfl, rfl, hc⟩)
theorem zRs {X : Tab} {m : Nat} (h : X.length = m + 1) : X.take m ++ [X.getD m []] = X := by
 apply List.ext_getElem (by rw [List.length_append, List.length_take, h]; show min m (m + 1) + 1 = m + 1; omega)
 intro i h1 h2
 by_cases e : i < m
 ·rw [List.getElem_append_left (by rw [List.length_take]; omega), List.getElem_take]
 ·have e2 : i = m := by omega
  subst e2
  rw [List.getElem_append_right (by rw [List.length_take]; omega)]
  simp [List.getD, h]
/-- without its last row -/
theorem tb_trunc {G : zN} {L w k m : Nat} {X : Tab} {d : Int} {β : List Nat} (h : X.length = m + 1) :
 (zc G none L w k X d β []).set (G.length + 3) (some ⟨265, zBj G.length m L⟩) = zc G none L w k (X.take m) d β [some ⟨102, zC (X.getD m [])⟩] := by
 refine (zCA (i := 3) _ Z).trans ?_
 show G ++ (_ :: _ :: _ :: zAn ⟨_, zBj G.length m L⟩ _ _ X []) = _
 have hl : (X.take m).length = m := by rw [List.length_take, h]; omega
 unfold zc
 rw [zJL, zRs h, hl]
end Go.Proofs.YtkncmbklkhjmgaaGreatDoor
namespace Go.Proofs.YtkncmbklkhjmgaaGreatDoor
open Go.Ax Go.Ax.Bg Go.Ax.Rt Go.RowKit Go.Ax.Dt Go.Ax.Sx
attribute [local irreducible] Ax zBn QOp zQ zBX
/-- rows of natural numbers -/
abbrev nsC (l : List Nat) : Cells := rowE 0 1 (fun n : Nat => [zh n]) l
def zJY (y : List Rat) (f : List Nat) (k : Nat) : List Rat := (List.range k).map (fun i => y.getD i 0 * ((f.getD i 0 : Nat) : Rat))
theorem zRw (y : List Rat) (f : List Nat) (k : Nat) : zJY y f (k + 1) = zJY y f k ++ [y.getD k 0 * ((f.getD k 0 : Nat) : Rat)] := by
 unfold zJY
 rw [List.range_succ, List.map_append]; rfl
theorem zOP (y : List Rat) (f : List Nat) (k : Nat) : (zJY y f k).length = k := by simp [zJY]
theorem qA_nat (n : Nat) : qA ((n : Nat) : Rat) = .agg [.bool false, zh n, zh 1] := by
 unfold qA
 have h1 : ((n : Nat) : Rat).num = (n : Int) := rfl
 have h2 : ((n : Nat) : Rat).den = 1 := rfl
 rw [h1, h2, Int.natAbs_natCast, decide_eq_false (by omega)]
theorem belowQ (l : List Rat) (n : Nat) : zAz n (qsC l) := by
 intro i j _ hj
 show zCB n ((zT (l.getD i 0)).getD j .any) = true
 have hj : j < 3 := hj
 match j, hj with
 | 0, _ => rfl
 | 1, _ => rfl
 | 2, _ => rfl
theorem zLA (y : List Rat) (f : List Nat) (K : Nat) (hl : y.length = f.length) (hy40 : y.length ≤ 1000000) (hy : ∀ q ∈ y, D K q) (hf : ∀ n ∈ f, n < 10 ^ K) (hK : K ≤ 800000) :
 zU Tryz.prog 195 [.ro (qsC y) 0 y.length, .ro (nsC f) 0 f.length] (.ro (qsC (zJY y f y.length)) 0 y.length) := by
 have c1 := zHB 1 (by decide)
 refine zQ.value (K := fun r H => r = .sl 0 0 y.length ∧ H = [some ⟨104, qsC (zJY y f y.length)⟩]) (zE (P := Tryz.prog) (fn := Tryz.f195) Z Z (by kernel_rfl) Z (fun c hR hfix => ?_)) (fix := fun _ => False) (fun _ h => h) Z ?_
 ·refine rn8 ?_
  refine zAb 5 ⟨104, qsC (zJY y f 0)⟩ Z Z ?_
  repeat (refine zAA ?_)
  refine zZ (ι := Nat) (fun k => [(1, .ro (nsC f) 0 f.length), (5, .sl 0 0 k), (8, .ro (qsC y) 0 y.length), (9, iN y.length), (10, iN k)]) (fun k => [some ⟨104, qsC (zJY y f k)⟩])
   (fun k => k ≤ y.length) (fun k => y.length - k) 0 ⟨⟨rfl, rfl, rfl, rfl, rfl, trivial⟩, rfl, Nat.zero_le _⟩ ?_
  intro k hk
  refine rn4 ?_
  refine zA Z (fun h => ?_) (fun h => ?_)
  ·have hk' : k < y.length := by omega
   have hkf : k < f.length := by omega
   have hs := zRw y f k
   have hul := zOP y f k
   have hDy := hy _ (zAD 0 hk')
   have hDf : D (K + 1) ((f.getD k 0 : Nat) : Rat) := nat_D (Nat.le_of_lt (hf _ (zAD 0 hkf)))
   have cm := zMs (y.getD k 0) ((f.getD k 0 : Nat) : Rat) (zFM (hDy.mono (by omega))) (zFM (hDf.mono (by omega)))
   rw [qA_nat] at cm
   generalize hU2 : zJY y f (k + 1) = U2 at *
   generalize zJY y f k = U at *
   refine rn6 ?_
   refine zO [some ⟨104, qsC U⟩, some ⟨104, .box [.bool false, .nil, .nil]⟩] Z ?_
   refine zD 7 (.ptr 1 0 0) Z (AEq.of_eq Z) ?_
   refine zD 14 (.agg (zT (y.getD k 0))) Z (AEq.of_eq Z) ?_
   refine sa1 (c' := .box (zT (y.getD k 0))) Z Z Z Z Z Z Z ?_
   refine rn0 ?_
   refine zAj [some ⟨104, qsC U⟩, some ⟨104, .box (zT (y.getD k 0))⟩] Z ?_
   refine zi (by kernel_rfl) ?_
   refine zV 0 Z (by kernel_rfl) (by kernel_rfl) (by kernel_rfl) Z (zK Z) Z ?_
   refine zCr (fuel := 3) [1, 2, 3, 4, 5, 6, 7, 8, 9] [(15, .sl 0 0 k), (1, .ro (nsC f) 0 f.length), (5, .sl 0 0 k), (8, .ro (qsC y) 0 y.length), (9, iN y.length), (10, iN k), (6, iN k), (7, .ptr 1 0 0)] ⟨Z, Z, Z, Z, Z, Z, Z, Z, trivial⟩ (by kernel_rfl) (by decide) Z Z ?_
   refine zM Z Z (qpp Z Z Z Z Z Z Z) ?_
   refine zM Z Z (zK Z) ?_
   refine zM Z Z (zK Z) ?_
   refine zM Z Z (zAE Z Z Z Z (by first | (simp only [Nat.zero_add, Int.toNat_natCast, Int.toNat_zero]; exact Z) | exact Z) (by omega)) ?_
   refine zM Z Z (zCX Z Z Z Z) ?_
   refine zM Z Z (zBH Z Z Z Z Z Z) ?_
   refine zA8 Z Z Z Z Z c1 ?_
   refine zM Z Z (zBH Z Z Z Z Z Z) ?_
   refine zA8 Z Z Z Z Z cm ?_
   refine zAC ?_
   unfold qA
   refine zF (is := [10]) (by kernel_rfl) (by simp) Z ⟨fun o ho => ?_, trivial⟩
   all_goals (cases ho)
   refine rn3 ?_
   refine zF (is := [11]) (by kernel_rfl) (by simp) Z ⟨fun o ho => ?_, trivial⟩
   all_goals (cases ho)
   refine zo Z Z Z Z Z Z Z Z Z hul Z Z (by show 0 + 1 ≤ 1; omega) Z (by show (k + 1) * 56 ≤ _ ∧ _; omega) ?_ (by rw [hfix]; exact fun h => h) ?_
   ·intro i' j hi hj
    exact zAH 0 3 zT zAf U _ _ (zCh _) 0 i' j hi hj
   refine zu [some ⟨104, qsC U2⟩, some ⟨104, .box (zT (y.getD k 0))⟩] ?_ ?_
   ·rw [hs]
    exact zP.eqv (zAQ 0 3 zT U _ _ (zCh _)) (zP.eqv (CEq.refl _) zP.nil)
   refine rn1 ?_
   refine zV 12 Z (by kernel_rfl) (by kernel_rfl) (by kernel_rfl) Z (zm Z) Z ?_
   refine zW (by kernel_rfl) ?_
   repeat (refine zAP ?_)
   refine zI ?_
   refine zA3 [some ⟨104, qsC U2⟩] [some ⟨104, .box (zT (y.getD k 0))⟩] [(1, .ro (nsC f) 0 f.length), (5, .sl 0 0 (k + 1)), (8, .ro (qsC y) 0 y.length), (9, iN y.length), (10, iN k)] Z ⟨Z, Z, Z, Z, Z, trivial⟩ (fun h hh => by rw [hfix] at hh; exact hh.elim) (fun h o ho => by
    match h, ho with
    | 0, ho => cases ho; exact belowQ U2 _) rfl ?_
   refine rn3 ?_
   exact zJ ⟨k + 1, by omega, by omega, ⟨Z, Z, Z, Z, Z, trivial⟩, by rw [hU2]⟩
  ·have hke : k = y.length := by omega
   subst hke
   refine rn5 ?_
   exact zL hR Z ⟨Z, Z⟩
 ·rintro r H ⟨rfl, rfl⟩
  exact ⟨rfl, fun o ho => by simp at ho; subst ho; exact Nat.le_of_eq (by simp [Cells.len, rowE, zOP]), zKl (zAv _)⟩
theorem zEy {α : Type} (d : α) (n : Nat) (e : α → List AV) (a b : List α) : CEq (.fn (a.length + b.length) n (fun i j => bif Nat.blt i a.length then (rowE d n e a).at i j else (rowE d n e b).at (0 + (i - a.length)) j)) (rowE d n e (a ++ b)) := by
 refine ⟨by simp [rowE, Cells.len], Z, fun i j hi hj => ?_⟩
 show (e ((a ++ b).getD i d)).getD j .any = bif Nat.blt i a.length then (e (a.getD i d)).getD j .any else (e (b.getD (0 + (i - a.length)) d)).getD j .any
 by_cases h : i < a.length
 ·rw [show Nat.blt i a.length = true from Nat.ble_eq_true_of_le h, zJz d h]; rfl
 ·have h2 : Nat.blt i a.length = false := by
   cases e : Nat.blt i a.length with
   | false => rfl
   | true => have : i + 1 ≤ a.length := Nat.le_of_ble_eq_true e
             omega
  rw [h2, Nat.zero_add]
  have : (a ++ b).getD i d = b.getD (i - a.length) d := by
   simp only [List.getD]
   rw [List.getElem?_append_right (by omega)]
  rw [this]; rfl
theorem cloneQ (l : List Rat) (hl : l.length ≤ 1000000) : FCall Tryz.prog 241 [.ro (qsC l) 0 l.length] (fun N => .sl N 0 l.length) ⟨104, qsC l⟩ := by
 refine zQ.fresh (K := fun r H => r = .sl 0 0 l.length ∧ H = [some ⟨104, qsC l⟩]) (zE (P := Tryz.prog) (fn := Tryz.f241) Z Z (by kernel_rfl) Z (fun c hR hfix => ?_)) (fix := fun _ => False) (fun _ h => h) Z (fun H => ⟨Z, by simp [zJJ, inB]⟩) ?_
 ·refine rn0 ?_
  refine zM9 Z Z Z (fun b hb => ?_)
  refine rn0 ?_
  refine zEg Z (fun h => ?_) (fun h => ?_)
  ·have := hb h
   have hn : l = [] := List.length_eq_zero_iff.mp this
   subst hn
   refine rn7 ?_
   refine zAb 2 ⟨104, qsC []⟩ Z Z ?_
   refine rn2 ?_
   exact zL hR Z ⟨Z, Z⟩
  ·refine rn1 ?_
   refine zCj Z Z Z Z Z Z Z Z Z Z ?_
   refine zu [some ⟨104, qsC []⟩] (zP.eqv ⟨Z, Z, fun i j hi => absurd hi (Nat.not_lt_zero _)⟩ zP.nil) ?_
   repeat (refine zG (zK rfl) ?_)
   refine zo Z Z Z Z Z Z Z Z Z Z Z Z (by show 0 + l.length ≤ l.length; omega) Z (by show (0 + l.length) * 56 ≤ _ ∧ _; omega) ?_ (by rw [hfix]; exact fun h => h) ?_
   ·intro i' j' hi' hj'
    have q := (zEy 0 3 zT [] l).2.2 i' j' hi' hj'
    refine (congrArg (AV.forget 0) q.symm).trans (Eq.trans ?_ q)
    exact zAf _ j' 0 hj'
   refine zu [some ⟨104, qsC l⟩] (zP.eqv (zEy 0 3 zT [] l) zP.nil) ?_
   refine rn0 ?_
   refine zL hR Z ⟨?_, Z⟩
   show AV.sl 0 0 (0 + l.length) = _; rw [Nat.zero_add]
 ·rintro r H ⟨rfl, rfl⟩
  refine ⟨?_, fun h o ho => zKl (zAv _) h o ho, 0, Z, fun n => rfl⟩
  intro o ho; simp at ho; subst ho; show 0 + l.length ≤ l.length; omega
theorem zHf (N : Nat) (a : List Int) : (zC a).shift N = zC a := by
 show Cells.fn _ _ _ = Cells.fn _ _ _
 congr 1
 funext i j
 match j with
 | 0 => rfl
 | 1 => rfl
 | _ + 2 => rfl
theorem zM0 (l : List Rat) (K : Nat) (hD : ∀ q ∈ l, D K q) (hlen : l.length ≤ 1000) (hK : K * l.length + K ≤ 900000) :
 MCall Tryz.prog 196 [.ro (qsC l) 0 l.length] (.tup [.sl 0 0 l.length, zh (zCs 1 l)]) [some ⟨102, zC (zAk l)⟩] := by
 have c1 := zR0 l K hD hlen hK
 refine zQ.many (zE (P := Tryz.prog) (fn := Tryz.f196) Z Z (by kernel_rfl) Z (fun c hR hfix => ?_)) (fix := fun _ => False) (fun _ h => h) Z
 refine rn0 ?_
 refine zIL (.tup [.sl 0 0 l.length, zh (zCs 1 l)]) [some ⟨102, zC (zAk l)⟩] Z Z Z c1 Z (by show [] ++ [some (⟨_, (zC (zAk l)).shift 0⟩ : AObj)] = _; rw [zHf]; rfl) ?_
 refine rn2 ?_
 exact zL hR Z ⟨Z, Z⟩
/-- where an unknown stands among those that need an artificial one -/
theorem zKW (B : List Rat) (i : Nat) (hi : (B.getD i 0).num < 0) : ∀ d, ∃ r, zAW B (i + 1 + d) = zAW B i ++ i :: r
 | 0 => ⟨[], by show zAW B (i + 1) = _; rw [zAW, if_pos hi]⟩
 | d + 1 => by
  obtain ⟨r, hr⟩ := zKW B i hi d
  show ∃ r, zAW B (i + 1 + d + 1) = _
  rw [zAW]
  split
  ·exact ⟨r ++ [i + 1 + d], by rw [hr]; simp⟩
  ·exact ⟨r, hr⟩
theorem need_idx (B : List Rat) {i m : Nat} (hi : i < m) : Go.Ax.Idx.idxF (Go.Ax.Cd.eqp (i : Int)) ((zAW B m).map (fun a : Nat => (a : Int))) = if (B.getD i 0).num < 0 then ((zBe B i : Nat) : Int) else -1 := by
 have hany : ∀ l : List Nat, i ∉ l → (l.map (fun a : Nat => (a : Int))).any (Go.Ax.Cd.eqp (i : Int)) = false := by
  intro l hl
  rw [List.any_eq_false]
  intro x hx
  obtain ⟨a, ha, rfl⟩ := List.mem_map.1 hx
  simp only [Go.Ax.Cd.eqp, decide_eq_true_eq]
  intro e
  have : i = a := by omega
  exact hl (this ▸ ha)
 by_cases h : (B.getD i 0).num < 0
 ·rw [if_pos h]
  obtain ⟨r, hr⟩ := zKW B i h (m - (i + 1))
  rw [show i + 1 + (m - (i + 1)) = m by omega] at hr
  have hni : i ∉ zAW B i := fun q => absurd (zIj.1 q).1 (Nat.lt_irrefl i)
  have hl : (zAW B i).length ≤ ((zAW B m).map (fun a : Nat => (a : Int))).length := by rw [hr]; simp
  have ht : ((zAW B m).map (fun a : Nat => (a : Int))).take (zAW B i).length = (zAW B i).map (fun a : Nat => (a : Int)) := by rw [hr, List.map_append, List.take_left' (by simp)]
  have hd : ((zAW B m).map (fun a : Nat => (a : Int))).drop (zAW B i).length = (i : Int) :: r.map (fun a : Nat => (a : Int)) := by rw [hr, List.map_append, List.drop_left' (by simp)]; rfl
  rw [Go.Ax.Idx.idxF_take _ _ (zAW B i).length (by rw [ht]; exact hany _ hni) hl, hd]
  have e0 : Go.Ax.Idx.idxF (Go.Ax.Cd.eqp (i : Int)) ((i : Int) :: r.map (fun a : Nat => (a : Int))) = 0 := by
   rw [Go.Ax.Idx.idxF, if_pos (by simp [Go.Ax.Cd.eqp])]
  rw [e0, if_neg (by omega)]
  show (0 : Int) + ((zAW B i).length : Nat) = _
  rw [Int.zero_add]
 ·rw [if_neg h]
  have hni : i ∉ zAW B m := fun q => h (zIj.1 q).2
  rw [Go.Ax.Idx.idxF_take _ _ ((zAW B m).map (fun a : Nat => (a : Int))).length (by rw [List.take_length]; exact hany _ hni) (Nat.le_refl _), List.drop_length]
  rfl
section
variable {G : zN} {F : Option AObj} {L w k : Nat} {X : Tab} {d : Int} {β : List Nat} {T T' : zN}
abbrev zJ8 (G : zN) (F : Option AObj) (L w : Nat) (X : Tab) (d : Int) (β : List Nat) (T : zN) : zN :=
 G ++ (some ⟨270, .box [.any, .bool (decide (d < 0)), zh d.natAbs, .sl (G.length + 2) 0 β.length, iN w]⟩ :: F :: some ⟨3, zB0 β⟩ :: zAn ⟨265, zBj G.length X.length L⟩ 102 zC X T)
theorem anyF_box : (zJ8 G F L w X d β T)[G.length]? = some (some ⟨270, .box [.any, .bool (decide (d < 0)), zh d.natAbs, .sl (G.length + 2) 0 β.length, iN w]⟩) := zD8 (i := 0) rfl
theorem anyF_set : (zJ8 G F L w X d β T).set G.length (some ⟨270, zDu G.length k β.length w d⟩) = zc G F L w k X d β T := zCA (i := 0) _ rfl
/-- the basis while it is moved -/
abbrev zK1 (G : zN) (F : Option AObj) (L w k : Nat) (X : Tab) (d : Int) (β : List Nat) (T : zN) : zN :=
 G ++ (some ⟨270, .box [.sl (G.length + 3) 0 k, .bool (decide (d < 0)), zh d.natAbs, .any, iN w]⟩ :: F :: some ⟨3, zB0 β⟩ :: zAn ⟨265, zBj G.length X.length L⟩ 102 zC X T)
theorem bas_box : (zK1 G F L w k X d β T)[G.length]? = some (some ⟨270, .box [.sl (G.length + 3) 0 k, .bool (decide (d < 0)), zh d.natAbs, .any, iN w]⟩) := zD8 (i := 0) rfl
theorem bas_set : (zK1 G F L w k X d β T).set G.length (some ⟨270, zDu G.length k β.length w d⟩) = zc G F L w k X d β T := zCA (i := 0) _ rfl
theorem zP5 (h : Nat) (B : Cells) (hG : zl h G = G) (hF : zAp h F = F) {O : Cells} (hO : CEq (O.forget h) O) (hT : zP (zl h T) T') :
 zP (zl h (G ++ (some ⟨270, B⟩ :: F :: some ⟨3, zB0 β⟩ :: zAn ⟨265, O⟩ 102 zC X T))) (G ++ (some ⟨270, B.forget h⟩ :: F :: some ⟨3, zB0 β⟩ :: zAn ⟨265, O⟩ 102 zC X T')) := by
 rw [zDR, hG]
 refine zP.append (zP.refl _) ?_
 have e : zl h (some (⟨270, B⟩ : AObj) :: F :: some ⟨3, zB0 β⟩ :: zAn ⟨265, O⟩ 102 zC X T)
  = some ⟨270, B.forget h⟩ :: F :: some ⟨3, zB0 β⟩ :: zAn ⟨265, O.forget h⟩ 102 zC X (zl h T) := by
  show some (⟨_, B.forget h⟩ : AObj) :: zAp h F :: some (⟨_, zB0 β⟩ : AObj) :: zl h (zAn _ _ _ X _) = _
  rw [zEJ h (zBO h), hF]
 rw [e]
 exact zP.same (zP.same (zP.same (zG3 ⟨Z, hO⟩ hT)))
theorem zMn (b n L h : Nat) (hh : b + 4 + n ≤ h ∨ h < b + 4) : CEq ((zBj b n L).forget h) (zBj b n L) := by
 refine ⟨Z, Z, fun i j hi hj => ?_⟩
 obtain rfl := Nat.lt_one_iff.1 (show j < 1 from hj)
 have hi : i < n := hi
 show AV.sl (b + 4 + i) 0 L = AV.forget h (AV.sl (b + 4 + i) 0 L)
 unfold AV.forget
 rw [zr (show b + 4 + i ≠ h by omega)]; rfl
theorem zQg (b k m w h : Nat) (d : Int) (h1 : b + 3 ≠ h) (h2 : b + 2 ≠ h) : (zDu b k m w d).forget h = zDu b k m w d := by
 show Cells.box (AV.forgets h _) = _
 simp [AV.forgets, AV.forget, zh, zr h1, zr h2]
theorem tabB_fgR (b k m w : Nat) (d : Int) : (zDu b k m w d).forget (b + 3) = .box [.any, .bool (decide (d < 0)), zh d.natAbs, .sl (b + 2) 0 m, iN w] := by
 show Cells.box (AV.forgets _ _) = _
 simp [AV.forgets, AV.forget, zh, zr (show b + 2 ≠ b + 3 by omega)]
theorem tabB_fgB (b k m w : Nat) (d : Int) : (zDu b k m w d).forget (b + 2) = .box [.sl (b + 3) 0 k, .bool (decide (d < 0)), zh d.natAbs, .any, iN w] := by
 show Cells.box (AV.forgets _ _) = _
 simp [AV.forgets, AV.forget, zh, zr (show b + 3 ≠ b + 2 by omega)]
/-- forgetting what lies behind the tableau, or where the factors lie -/
theorem zK6 (h : Nat) (hh : G.length + 4 + X.length ≤ h ∨ h = G.length + 1) (hG : zl h G = G) (hF : zAp h F = F) (hT : zP (zl h T) T') : zP (zl h (zc G F L w k X d β T)) (zc G F L w k X d β T') := by
 have q := zP5 (X := X) (β := β) h (zDu G.length k β.length w d) hG hF (zMn G.length X.length L h (by omega)) hT
 rw [zQg _ _ _ _ _ _ (by omega) (by omega)] at q
 exact q
/-- an object behind the tableau grows -/
theorem zK5 {y : Option AObj} {t : TypeId} {c' c'' : Cells} (hG : zl (G.length + 4 + X.length) G = G) (hF : zAp (G.length + 4 + X.length) F = F) (hc : CEq c' c'') :
 zP ((zl (G.length + 4 + X.length) (zc G F L w k X d β [y])).set (G.length + 4 + X.length) (some ⟨t, c'⟩)) (zc G F L w k X d β [some ⟨t, c''⟩]) := by
 have e : zc G F L w k X d β [some ⟨t, c''⟩] = (zc G F L w k X d β [none]).set (G.length + 4 + X.length) (some ⟨t, c''⟩) := by
  have q := zAI (G := G) (F := F) (L := L) (w := w) (k := k) (X := X) (d := d) (β := β) (T := [none]) 0 (some ⟨t, c''⟩)
  exact q.symm
 rw [e]
 exact zP.set (zK6 (T := [y]) (T' := [none]) _ (.inl (Nat.le_refl _)) hG hF (show zP [zAp _ y] [none] from zP.drop zP.nil)) _ (fun o ho => by cases ho; exact ⟨_, rfl, rfl, hc⟩)
/-- the factors grow -/
theorem zK4 {c' c'' : Cells} {t : TypeId} (hG : zl (G.length + 1) G = G) (hc : CEq c' c'') (hT : zP (zl (G.length + 1) T) T') :
 zP ((zl (G.length + 1) (zc G F L w k X d β T)).set (G.length + 1) (some ⟨t, c'⟩)) (zc G (some ⟨t, c''⟩) L w k X d β T') := by
 have e : zc G (some ⟨t, c''⟩) L w k X d β T' = (zc G none L w k X d β T').set (G.length + 1) (some ⟨t, c''⟩) := by
  refine Eq.symm ((zCA (i := 1) _ Z).trans ?_)
  rfl
 rw [e]
 have e2 : zl (G.length + 1) (zc G F L w k X d β T) = G ++ (some ⟨270, zDu G.length k β.length w d⟩ :: zAp (G.length + 1) F :: some ⟨3, zB0 β⟩ :: zAn ⟨265, (zBj G.length X.length L).forget (G.length + 1)⟩ 102 zC X (zl (G.length + 1) T)) := by
  unfold zc
  rw [zDR, hG]
  show G ++ (some (⟨_, (zDu G.length k β.length w d).forget (G.length + 1)⟩ : AObj) :: zAp (G.length + 1) F :: some (⟨_, zB0 β⟩ : AObj) :: zl (G.length + 1) (zAn _ _ _ X _)) = _
  rw [zEJ (G.length + 1) (zBO (G.length + 1)), zQg _ _ _ _ _ _ (by omega) (by omega)]
 rw [e2]
 have q : zP (G ++ (some ⟨270, zDu G.length k β.length w d⟩ :: zAp (G.length + 1) F :: some ⟨3, zB0 β⟩ :: zAn ⟨265, (zBj G.length X.length L).forget (G.length + 1)⟩ 102 zC X (zl (G.length + 1) T))) (zc G none L w k X d β T') :=
  zP.append (zP.refl _) (zP.same (zP.drop (zP.same (zG3 (O := ⟨265, (zBj G.length X.length L).forget (G.length + 1)⟩) (O' := ⟨265, zBj G.length X.length L⟩) ⟨rfl, zMn G.length X.length L (G.length + 1) (.inr (by omega))⟩ hT))))
 exact zP.set q _ (fun o ho => by cases ho; exact ⟨_, rfl, rfl, hc⟩)
/-- the basis grows -/
theorem zK3 {c' : Cells} {β' : List Nat} (hG : zl (G.length + 2) G = G) (hF : zAp (G.length + 2) F = F) (hc : CEq c' (zB0 β')) (hT : zP (zl (G.length + 2) T) T') :
 zP ((zl (G.length + 2) (zc G F L w k X d β T)).set (G.length + 2) (some ⟨3, c'⟩)) (zK1 G F L w k X d β' T') := by
 have q := zP5 (X := X) (β := β) (G.length + 2) (zDu G.length k β.length w d) hG hF (zMn G.length X.length L _ (by omega)) hT
 rw [tabB_fgB] at q
 have e : zK1 G F L w k X d β' T' = (G ++ (some ⟨270, .box [.sl (G.length + 3) 0 k, .bool (decide (d < 0)), zh d.natAbs, .any, iN w]⟩ :: F :: some ⟨3, zB0 β⟩ :: zAn ⟨265, zBj G.length X.length L⟩ 102 zC X T')).set (G.length + 2) (some ⟨3, zB0 β'⟩) := by
  refine Eq.symm ((zCA (i := 2) _ Z).trans ?_)
  rfl
 rw [e]
 exact zP.set q _ (fun o ho => by cases ho; exact ⟨_, rfl, rfl, hc⟩)
/-- a row more -/
theorem zPa {x : List Int} {a : Option AObj} {c' : Cells} (hG : zl (G.length + 3) G = G) (hF : zAp (G.length + 3) F = F) (hc : CEq c' (zBj G.length (X.length + 1) L)) :
 zP ((zl (G.length + 3) (zc G F L w k X d β [some ⟨102, zC x⟩, a])).set (G.length + 3) (some ⟨265, c'⟩)) (zJ8 G F L w (X ++ [x]) d β [none]) := by
 have e2 : zl (G.length + 3) (zc G F L w k X d β [some ⟨102, zC x⟩, a]) = G ++ (some ⟨270, .box [.any, .bool (decide (d < 0)), zh d.natAbs, .sl (G.length + 2) 0 β.length, iN w]⟩ :: F :: some ⟨3, zB0 β⟩ :: zAn ⟨265, (zBj G.length X.length L).forget (G.length + 3)⟩ 102 zC X [some ⟨102, zC x⟩, zAp (G.length + 3) a]) := by
  unfold zc
  rw [zDR, hG]
  show G ++ (some (⟨_, (zDu G.length k β.length w d).forget (G.length + 3)⟩ : AObj) :: zAp (G.length + 3) F :: some (⟨_, zB0 β⟩ : AObj) :: zl (G.length + 3) (zAn _ _ _ X _)) = _
  rw [zEJ (G.length + 3) (zBO (G.length + 3)), tabB_fgR, hF]
  show _ = G ++ (_ :: _ :: _ :: zAn _ _ _ X [some (⟨102, zC x⟩ : AObj), _])
  rw [show zl (G.length + 3) [some (⟨102, zC x⟩ : AObj), a] = [some ⟨102, (zC x).forget (G.length + 3)⟩, zAp (G.length + 3) a] from rfl, zBO]
 rw [e2, show ∀ O' : Option AObj, (G ++ (some (⟨270, .box [.any, .bool (decide (d < 0)), zh d.natAbs, .sl (G.length + 2) 0 β.length, iN w]⟩ : AObj) :: F :: some ⟨3, zB0 β⟩ :: zAn ⟨265, (zBj G.length X.length L).forget (G.length + 3)⟩ 102 zC X [some ⟨102, zC x⟩, zAp (G.length + 3) a])).set (G.length + 3) O' = _ from fun O' => zCA (i := 3) _ rfl]
 refine zP.append (zP.refl _) (zP.same (zP.same (zP.same ?_)))
 show zP (zAn ⟨265, c'⟩ 102 zC X _) _
 rw [zJL]
 refine zG3 ⟨Z, ?_⟩ (zP.drop zP.nil)
 show CEq c' (zBj G.length (X ++ [x]).length L)
 rw [List.length_append]; exact hc
end
theorem nsC_fg (h : Nat) (l : List Nat) : (nsC l).forget h = nsC l := by
 show Cells.fn _ _ _ = Cells.fn _ _ _
 congr 1
 funext i j
 match j with
 | 0 => rfl
 | _ + 1 => rfl
theorem zPP (l : List Nat) : zAd (nsC l) := by
 intro i j _ hj
 obtain rfl := Nat.lt_one_iff.1 (show j < 1 from hj)
 rfl
end Go.Proofs.YtkncmbklkhjmgaaGreatDoor
