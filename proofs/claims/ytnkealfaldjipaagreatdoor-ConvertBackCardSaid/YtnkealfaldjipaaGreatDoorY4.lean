import Derived.Test.YtnkealfaldjipaaGreatDoorY3
set_option linter.unusedVariables false
set_option linter.unusedSimpArgs false
namespace Go.Proofs.YtnkealfaldjipaaGreatDoor
open Go.Ax Go.Ax.Bg Go.Ax.Rt Go.RowKit
attribute [local irreducible] Ax zAM QOp zO zo
set_option maxRecDepth 100000
set_option maxHeartbeats 4000000
theorem zFp : zW Tryz.prog 85 [.int .i64 0] (qA 0) := qof_ok 0 (by decide)
theorem zJV : zW Tryz.prog 85 [.int .i64 1] (qA 1) := qof_ok 1 (by decide)
theorem sz_zero : Sz 2000 0 := by
 refine ⟨?_, ?_⟩
 · show (zY 0).length ≤ 2000; rw [zBa]; decide
 · show (zY 1).length ≤ 2000; rw [zGd]; decide
theorem sum_ok (l : List (List UInt8)) (hlen : l.length ≤ 9223372036854775807) (hs : ∀ s ∈ l, s.length ≤ 9223372036854775807) : zW Tryz.prog 82 [.ro (.strs l) 0 l.length] (.tup [qA (zEi l).1, .int .i64 (zEi l).2]) := by
 unfold zEi
 have h1 := zNX l hlen hs
 by_cases hl : 256 < l.length
 · rw [if_pos hl]
   refine zO.value0 (zF (P := Tryz.prog) (fn := Tryz.f82) rfl rfl (by kernel_rfl) rfl (fun c hR hfix => ?_)) (fix := fun _ => False) (fun _ h => h) rfl rfl
   refine rn4 ?_
   refine zE rfl rfl rfl zFp ?_
   repeat (refine zBI rfl rfl rfl ?_)
   refine zQ (c' := .box (zAD 0)) rfl rfl rfl rfl rfl Nat.zero_lt_one rfl rfl (fun i' j' hi' hj' => ?_) ?_
   · rw [if_pos (Nat.lt_one_iff.1 hi')]; rfl
   refine rn6 ?_
   refine zD rfl (fun h0 => ?_) (fun h0 => absurd hl (by omega))
   refine rn6 ?_
   refine zQ (c' := .box (zAD 0)) rfl rfl rfl rfl rfl Nat.zero_lt_one rfl rfl (fun i' j' hi' hj' => ?_) ?_
   · rw [if_pos (Nat.lt_one_iff.1 hi')]; rfl
   refine rn2 ?_
   exact zH hR rfl rfl
 rw [if_neg hl]
 by_cases hE : zEI l = 0
 · rw [if_pos hE]
   rw [hE] at h1
   have h2 := in_ok l (by omega) (fun s hm => ⟨hs s hm, zGD hE s hm⟩)
   have hz : ∀ q ∈ l.map zAB, Sz 2000 q := fun q hq => by
     obtain ⟨s, h3, rfl⟩ := List.mem_map.1 hq
     exact sz_v (zGD hE s h3)
   have hml : (l.map zAB).length = l.length := List.length_map _
   generalize l.map zAB = qs at *
   refine zO.value0 (zF (P := Tryz.prog) (fn := Tryz.f82) rfl rfl (by kernel_rfl) rfl (fun c hR hfix => ?_)) (fix := fun _ => False) (fun _ h => h) rfl rfl
   refine rn4 ?_
   refine zE rfl rfl rfl zFp ?_
   repeat (refine zBI rfl rfl rfl ?_)
   refine zQ (c' := .box (zAD 0)) rfl rfl rfl rfl rfl Nat.zero_lt_one rfl rfl (fun i' j' hi' hj' => ?_) ?_
   · rw [if_pos (Nat.lt_one_iff.1 hi')]; rfl
   refine rn6 ?_
   refine zD rfl (fun h0 => absurd hl (by omega)) (fun h0 => ?_)
   refine rn1 ?_
   refine zE rfl rfl rfl h1 ?_
   refine rn4 ?_
   refine zE rfl rfl rfl h2 ?_
   refine rn3 ?_
   refine zg (ι := Nat × Rat) (fun p => [(2, .ptr 0 0 0), (4, .ptr 1 0 0), (20, .ro (qsC qs) 0 l.length), (21, .int .i64 (l.length : Nat)), (22, .int .i64 (p.1 : Nat))]) (fun p => [some ⟨122, .box [.bool false, .nil, .nil]⟩, some ⟨122, .box (zAD p.2)⟩])
     (fun p => p.1 ≤ l.length ∧ zIe 0 qs = zIe p.2 (qs.drop p.1) ∧ Sz 2000 p.2) (fun p => l.length - p.1) (0, 0) ⟨⟨rfl, rfl, rfl, rfl, rfl, trivial⟩, rfl, Nat.zero_le _, rfl, sz_zero⟩ ?_
   rintro ⟨k, acc⟩ ⟨hk, hS, hA⟩
   simp only at *
   refine rn4 ?_
   refine zD rfl (fun h => ?_) (fun h => ?_)
   · have hk' : k < qs.length := by omega
     have hq := hz _ (zBH 0 hk')
     have hd := zGf (d := (0 : Rat)) hk'
     rw [hd, zIe] at hS
     refine rn6 ?_
     refine zN 25 (.agg (zAD (qs.getD k 0))) rfl (AEq.of_eq rfl) ?_
     generalize qs.getD k 0 = q at *
     have hc := zHr acc q (hA.mono (by decide)) (hq.mono (by decide))
     have hf := zLu (acc + q) ((sz_add hA hq).mono (by decide))
     refine zQ (c' := .box (zAD q)) rfl rfl rfl rfl rfl Nat.zero_lt_one rfl rfl (fun i' j' hi' hj' => ?_) ?_
     · rw [if_pos (Nat.lt_one_iff.1 hi')]; rfl
     refine rn6 ?_
     refine zE rfl rfl rfl hc ?_
     skip
     refine zQ (c' := .box (zAD (acc + q))) rfl rfl rfl rfl rfl Nat.zero_lt_one rfl rfl (fun i' j' hi' hj' => ?_) ?_
     · rw [if_pos (Nat.lt_one_iff.1 hi')]; rfl
     refine rn6 ?_
     refine zE rfl rfl rfl hf ?_
     cases hb : zA3 (acc + q)
     · rw [hb, if_neg Bool.false_ne_true] at hS
       rw [hS] at hR
       refine rn6 ?_
       refine zQ (c' := .box (zAD (acc + q))) rfl rfl rfl rfl rfl Nat.zero_lt_one rfl rfl (fun i' j' hi' hj' => ?_) ?_
       · rw [if_pos (Nat.lt_one_iff.1 hi')]; rfl
       refine rn6 ?_
       exact zH hR rfl rfl
     · rw [hb, if_pos rfl] at hS
       repeat (first | refine zB ?_ | refine zC (zEB rfl) ?_)
       refine zA ?_
       refine zB5 ([some ⟨122, .box [.bool false, .nil, .nil]⟩, some ⟨122, .box (zAD (acc + q))⟩] ++ [none]) ?_ ?_
       · exact zAG.eqv (CEq.refl _) (zAG.eqv (CEq.refl _) (zAG.drop zAG.nil))
       refine zEN (H1 := [some ⟨122, .box [.bool false, .nil, .nil]⟩, some ⟨122, .box (zAD (acc + q))⟩]) rfl (by rw [hfix]; exact fun h => h) ?_
       refine rn5 ?_
       exact zM ⟨(k + 1, acc + q), ⟨by simp only; omega, hS, zPQ hb⟩, by simp only; omega, ⟨rfl, rfl, rfl, rfl, rfl, trivial⟩, rfl⟩
   · have hk' : k = l.length := by omega
     subst hk'
     rw [← hml, List.drop_length, zIe] at hS
     rw [hS] at hR
     refine rn6 ?_
     refine zQ (c' := .box (zAD acc)) rfl rfl rfl rfl rfl Nat.zero_lt_one rfl rfl (fun i' j' hi' hj' => ?_) ?_
     · rw [if_pos (Nat.lt_one_iff.1 hi')]; rfl
     refine rn0 ?_
     exact zH hR rfl rfl
 · rw [if_neg hE]
   generalize zEI l = e at *
   refine zO.value0 (zF (P := Tryz.prog) (fn := Tryz.f82) rfl rfl (by kernel_rfl) rfl (fun c hR hfix => ?_)) (fix := fun _ => False) (fun _ h => h) rfl rfl
   refine rn4 ?_
   refine zE rfl rfl rfl zFp ?_
   repeat (refine zBI rfl rfl rfl ?_)
   refine zQ (c' := .box (zAD 0)) rfl rfl rfl rfl rfl Nat.zero_lt_one rfl rfl (fun i' j' hi' hj' => ?_) ?_
   · rw [if_pos (Nat.lt_one_iff.1 hi')]; rfl
   refine rn6 ?_
   refine zD rfl (fun h0 => absurd hl (by omega)) (fun h0 => ?_)
   refine rn1 ?_
   refine zE rfl rfl rfl h1 ?_
   refine rn3 ?_
   refine zD rfl (fun h2 => ?_) (fun h2 => absurd hE h2)
   refine rn6 ?_
   refine zQ (c' := .box (zAD 0)) rfl rfl rfl rfl rfl Nat.zero_lt_one rfl rfl (fun i' j' hi' hj' => ?_) ?_
   · rw [if_pos (Nat.lt_one_iff.1 hi')]; rfl
   refine rn2 ?_
   exact zH hR rfl rfl
end Go.Proofs.YtnkealfaldjipaaGreatDoor
namespace Go.Proofs.YtnkealfaldjipaaGreatDoor
open Go.Ax Go.Ax.Bg Go.Ax.Rt Go.RowKit
attribute [local irreducible] Ax zAM QOp zO zo
set_option maxRecDepth 100000
set_option maxHeartbeats 4000000
theorem zPF : ∀ (qs : List Rat) (acc : Rat), Sz 2000 acc → (∀ q ∈ qs, Sz 2000 q) → Sz 4001 (zIe acc qs).1
 | [], acc, h, _ => h.mono (by decide)
 | q :: r, acc, h, hs => by
   rw [zIe]
   split
   · rename_i hb
     exact zPF r _ (zPQ hb) (fun x hx => hs x (by simp [hx]))
   · exact sz_add h (hs q (by simp))
theorem sumR_sz (l : List (List UInt8)) : Sz 4001 (zEi l).1 := by
 unfold zEi
 split
 · exact sz_zero.mono (by decide)
 · split
   · rename_i hE
     refine zPF _ _ sz_zero (fun q hq => ?_)
     obtain ⟨s, h3, rfl⟩ := List.mem_map.1 hq
     exact sz_v (zGD hE s h3)
   · exact sz_zero.mono (by decide)
theorem zMd (l : List (List UInt8)) (hlen : l.length ≤ 9223372036854775807) (hs : ∀ s ∈ l, s.length ≤ 9223372036854775807) : zW Tryz.prog 83 [.ro (.strs l) 0 l.length] (.tup [qA (zEi l).1, .int .i64 (zKU l)]) := by
 have h1 := sum_ok l hlen hs
 have h2 := zIZ l 142 [] zCw rfl hlen (fun s hm => ratNeg1 s (hs s hm))
 unfold zKU
 generalize (zEi l).1 = q at *
 generalize (zEi l).2 = e at *
 generalize l.any zCw = b at *
 by_cases he : e = 0
 · subst he
   cases b
   · rw [if_neg (fun h => Bool.false_ne_true h.2)]
     refine zO.value0 (zF (P := Tryz.prog) (fn := Tryz.f83) rfl rfl (by kernel_rfl) rfl (fun c hR hfix => ?_)) (fix := fun _ => False) (fun _ h => h) rfl rfl
     refine rn4 ?_
     refine zE rfl rfl rfl h1 ?_
     unfold qA
     refine rn4 ?_
     refine zQ (c' := .box (zAD q)) rfl rfl rfl rfl rfl Nat.zero_lt_one rfl rfl (fun i' j' hi' hj' => ?_) ?_
     · rw [if_pos (Nat.lt_one_iff.1 hi')]; rfl
     refine rn4 ?_
     refine zE rfl rfl rfl h2 ?_
     refine rn6 ?_
     refine zQ (c' := .box (zAD q)) rfl rfl rfl rfl rfl Nat.zero_lt_one rfl rfl (fun i' j' hi' hj' => ?_) ?_
     · rw [if_pos (Nat.lt_one_iff.1 hi')]; rfl
     refine rn0 ?_
     exact zH hR rfl rfl
   · rw [if_pos ⟨rfl, rfl⟩]
     refine zO.value0 (zF (P := Tryz.prog) (fn := Tryz.f83) rfl rfl (by kernel_rfl) rfl (fun c hR hfix => ?_)) (fix := fun _ => False) (fun _ h => h) rfl rfl
     refine rn4 ?_
     refine zE rfl rfl rfl h1 ?_
     unfold qA
     refine rn4 ?_
     refine zQ (c' := .box (zAD q)) rfl rfl rfl rfl rfl Nat.zero_lt_one rfl rfl (fun i' j' hi' hj' => ?_) ?_
     · rw [if_pos (Nat.lt_one_iff.1 hi')]; rfl
     refine rn4 ?_
     refine zE rfl rfl rfl h2 ?_
     refine rn6 ?_
     refine zQ (c' := .box (zAD q)) rfl rfl rfl rfl rfl Nat.zero_lt_one rfl rfl (fun i' j' hi' hj' => ?_) ?_
     · rw [if_pos (Nat.lt_one_iff.1 hi')]; rfl
     refine rn0 ?_
     exact zH hR rfl rfl
 · rw [if_neg (fun h => he h.1)]
   refine zO.value0 (zF (P := Tryz.prog) (fn := Tryz.f83) rfl rfl (by kernel_rfl) rfl (fun c hR hfix => ?_)) (fix := fun _ => False) (fun _ h => h) rfl rfl
   refine rn4 ?_
   refine zE rfl rfl rfl h1 ?_
   unfold qA
   refine rn4 ?_
   refine zQ (c' := .box (zAD q)) rfl rfl rfl rfl rfl Nat.zero_lt_one rfl rfl (fun i' j' hi' hj' => ?_) ?_
   · rw [if_pos (Nat.lt_one_iff.1 hi')]; rfl
   refine rn4 ?_
   refine z8 rfl rfl (fun h0 => absurd h0 he) (fun h0 => ?_)
   refine rn6 ?_
   refine zQ (c' := .box (zAD q)) rfl rfl rfl rfl rfl Nat.zero_lt_one rfl rfl (fun i' j' hi' hj' => ?_) ?_
   · rw [if_pos (Nat.lt_one_iff.1 hi')]; rfl
   refine rn0 ?_
   exact zH hR rfl rfl
theorem zL8 (l : List (List UInt8)) (hlen : l.length ≤ 9223372036854775807) (hs : ∀ s ∈ l, s.length ≤ 9223372036854775807) : zW Tryz.prog 23 [.ro (.strs l) 0 l.length] (.int .i64 (zCV l)) := by
 have h1 := zMd l hlen hs
 have hz := sumR_sz l
 unfold zCV
 generalize (zEi l).1 = q at *
 generalize zKU l = e at *
 have h2 := qcmp_ok q 1 (hz.mono (by decide)) (by refine ⟨?_, ?_⟩ <;> (show (zY 1).length ≤ 100000; rw [zGd]; decide))
 by_cases he : e = 0
 · rw [if_pos he]
   subst he
   generalize cmpQ q 1 = t at *
   by_cases ht : t = 0
   · rw [if_pos ht]
     subst ht
     refine zO.value0 (zF (P := Tryz.prog) (fn := Tryz.f23) rfl rfl (by kernel_rfl) rfl (fun c hR hfix => ?_)) (fix := fun _ => False) (fun _ h => h) rfl rfl
     refine rn0 ?_
     refine zE rfl rfl rfl h1 ?_
     unfold qA
     refine rn4 ?_
     refine zQ (c' := .box (zAD q)) rfl rfl rfl rfl rfl Nat.zero_lt_one rfl rfl (fun i' j' hi' hj' => ?_) ?_
     · rw [if_pos (Nat.lt_one_iff.1 hi')]; rfl
     refine rn4 ?_
     refine zn (by kernel_rfl) ?_
     refine zr (fuel := 0) [0, 1, 2, 3] [(3, .ptr 0 0 0)] ⟨rfl, trivial⟩ (by kernel_rfl) (by decide) rfl rfl ?_
     refine zX rfl rfl (zAC rfl rfl rfl rfl rfl rfl rfl (by first | exact Nat.zero_lt_one | assumption | omega)) ?_
     refine zBc rfl rfl rfl rfl rfl zJV ?_
     refine zBc rfl rfl rfl rfl rfl h2 ?_
     refine zX rfl rfl (zDw rfl rfl) ?_
     refine zAc ?_
     refine zh (by kernel_rfl) ?_
     refine rn4 ?_
     exact zH hR rfl rfl
   · rw [if_neg ht]
     refine zO.value0 (zF (P := Tryz.prog) (fn := Tryz.f23) rfl rfl (by kernel_rfl) rfl (fun c hR hfix => ?_)) (fix := fun _ => False) (fun _ h => h) rfl rfl
     refine rn0 ?_
     refine zE rfl rfl rfl h1 ?_
     unfold qA
     refine rn4 ?_
     refine zQ (c' := .box (zAD q)) rfl rfl rfl rfl rfl Nat.zero_lt_one rfl rfl (fun i' j' hi' hj' => ?_) ?_
     · rw [if_pos (Nat.lt_one_iff.1 hi')]; rfl
     refine rn4 ?_
     refine zn (by kernel_rfl) ?_
     refine zr (fuel := 0) [0, 1, 2, 3] [(3, .ptr 0 0 0)] ⟨rfl, trivial⟩ (by kernel_rfl) (by decide) rfl rfl ?_
     refine zX rfl rfl (zAC rfl rfl rfl rfl rfl rfl rfl (by first | exact Nat.zero_lt_one | assumption | omega)) ?_
     refine zBc rfl rfl rfl rfl rfl zJV ?_
     refine zBc rfl rfl rfl rfl rfl h2 ?_
     refine zX rfl rfl (zDw rfl rfl) ?_
     refine zAc ?_
     refine zh (by kernel_rfl) ?_
     repeat (refine zA ?_)
     refine zD rfl (fun h0 => ?_) (fun h0 => absurd ht h0)
     refine rn2 ?_
     exact zH hR rfl rfl
 · rw [if_neg he]
   refine zO.value0 (zF (P := Tryz.prog) (fn := Tryz.f23) rfl rfl (by kernel_rfl) rfl (fun c hR hfix => ?_)) (fix := fun _ => False) (fun _ h => h) rfl rfl
   refine rn0 ?_
   refine zE rfl rfl rfl h1 ?_
   unfold qA
   refine rn4 ?_
   refine zQ (c' := .box (zAD q)) rfl rfl rfl rfl rfl Nat.zero_lt_one rfl rfl (fun i' j' hi' hj' => ?_) ?_
   · rw [if_pos (Nat.lt_one_iff.1 hi')]; rfl
   refine rn3 ?_
   refine zD rfl (fun h0 => ?_) (fun h0 => absurd he h0)
   refine rn2 ?_
   exact zH hR rfl rfl
end Go.Proofs.YtnkealfaldjipaaGreatDoor
namespace Go.Proofs.YtnkealfaldjipaaGreatDoor
open Go.Ax Go.Ax.Bg Go.Ax.Rt Go.RowKit
attribute [local irreducible] Ax zAM QOp zO zo
set_option maxRecDepth 100000
set_option maxHeartbeats 4000000
theorem zMi {q : Rat} : sgn q.num = 0 ↔ q = 0 := by
 rw [← Rat.num_eq_zero]
 unfold sgn
 split
 · omega
 · split <;> omega
end Go.Proofs.YtnkealfaldjipaaGreatDoor
namespace Go.Ax.Rt
open Go.Ax.Bg
theorem Parts.fit {s : List UInt8} {q : Rat} (h : Parts s q) : zA3 q = true := by
 unfold zA3
 rw [Bool.and_eq_true, decide_eq_true_eq, decide_eq_true_eq, h.num, h.den, zEY, zEV h.cn]
 refine ⟨h.ln, ?_⟩
 cases e : zF4 s
 · rw [zGq e, Lib.decDigits_one (by decide)]; decide
 · rw [zFb e, zEV (h.cd e).1]; exact h.ld
/-- A text that spells q. -/
def IsQ (s : List UInt8) (q : Rat) : Prop := zCi s = 0 ∧ zAB s = q
instance (s : List UInt8) (q : Rat) : Decidable (IsQ s q) := inferInstanceAs (Decidable (_ ∧ _))
theorem IsQ.self {s : List UInt8} (h : zCi s = 0) : IsQ s (zAB s) := ⟨h, rfl⟩
theorem IsQ.text {s : List UInt8} {q : Rat} (h : IsQ s q) : zt q = s := by
 have := (zET h.1).text
 rwa [h.2] at this
theorem IsQ.fit {s : List UInt8} {q : Rat} (h : IsQ s q) : zA3 q = true := by
 have := (zET h.1).fit
 rwa [h.2] at this
theorem zJ9 {q : Rat} (h : zA3 q = true) : IsQ (zt q) q := zN0 h
theorem IsQ.out {s : List UInt8} {q : Rat} (h : IsQ s q) : zFI q = (s, 0) := by
 unfold zFI
 rw [if_pos h.fit, h.text]
theorem IsQ.inj {a b : List UInt8} {q : Rat} (ha : IsQ a q) (hb : IsQ b q) : a = b := by rw [← ha.text, hb.text]
theorem IsQ.all2 {a b : List UInt8} {x y : Rat} (ha : IsQ a x) (hb : IsQ b y) : zEI [a, b] = 0 := by
 refine zMI (fun s hs => ?_)
 simp at hs
 rcases hs with rfl | rfl
 · exact ha.1
 · exact hb.1
theorem IsQ.two {a b : List UInt8} {x y : Rat} (F : Rat → Rat → Rat) (ha : IsQ a x) (hb : IsQ b y) : twoR F a b = zFI (F x y) := by
 unfold twoR
 rw [if_pos (ha.all2 hb), ha.2, hb.2]
theorem IsQ.one {a : List UInt8} {x : Rat} (F : Rat → Rat) (ha : IsQ a x) : oneR F a = zFI (F x) := by
 unfold oneR
 rw [if_pos ha.1, ha.2]
theorem IsQ.zero {a : List UInt8} {x : Rat} (ha : IsQ a x) : x = 0 ↔ a = [48] := by rw [← ha.2]; exact Parts.zero ha.1
theorem IsQ.div {a b : List UInt8} {x y : Rat} (ha : IsQ a x) (hb : IsQ b y) : divR a b = if y = 0 then ([], 18) else zFI (x / y) := by
 unfold divR
 rw [if_pos (ha.all2 hb), ha.2, hb.2]
 by_cases h : b = [48]
 · rw [if_pos h, if_pos (hb.zero.2 h)]
 · rw [if_neg h, if_neg (fun e => h (hb.zero.1 e))]
theorem IsQ.sign {a : List UInt8} {x : Rat} (ha : IsQ a x) : signR a = (sgn x.num, 0) := by
 unfold signR
 rw [if_pos ha.1, ha.2]
/-- Numbers of at most so many digits. -/
def D (k : Nat) (q : Rat) : Prop := q.num.natAbs < 10 ^ k ∧ q.den < 10 ^ k
theorem D.mono {j k : Nat} {q : Rat} (h : D j q) (hk : j ≤ k) : D k q :=
 ⟨Nat.lt_of_lt_of_le h.1 (Nat.pow_le_pow_right (by decide) hk), Nat.lt_of_lt_of_le h.2 (Nat.pow_le_pow_right (by decide) hk)⟩
theorem D.fit {k : Nat} {q : Rat} (h : D k q) (hk : k ≤ 2000) : zA3 q = true := by
 unfold zA3
 rw [Bool.and_eq_true, decide_eq_true_eq, decide_eq_true_eq]
 exact ⟨zOf (lt_big h.1 hk), zOf (lt_big h.2 hk)⟩
theorem D.out {k : Nat} {q : Rat} (h : D k q) (hk : k ≤ 2000) : zFI q = (zt q, 0) ∧ IsQ (zt q) q := ⟨(zJ9 (h.fit hk)).out, zJ9 (h.fit hk)⟩
theorem IsQ.dig {s : List UInt8} {q : Rat} (h : IsQ s q) {k : Nat} (hk : s.length ≤ k) (h1 : 1 ≤ k) : D k q := by
 have ht := h.text
 have hl : (zt q).length ≤ k := by rw [ht]; exact hk
 unfold zt at hl
 rw [List.length_append, List.length_append] at hl
 refine ⟨Nat.lt_of_lt_of_le (zEQ _) (Nat.pow_le_pow_right (by decide) (by omega)), ?_⟩
 by_cases hd : q.den = 1
 · rw [hd]
   exact Nat.lt_of_lt_of_le (show 1 < 10 ^ 1 by decide) (Nat.pow_le_pow_right (by decide) h1)
 · rw [if_neg hd, List.length_cons] at hl
   exact Nat.lt_of_lt_of_le (zEQ _) (Nat.pow_le_pow_right (by decide) (by omega))
theorem zN8 {n d : Int} {k : Nat} (hd : d ≠ 0) (h1 : n.natAbs < 10 ^ k) (h2 : d.natAbs < 10 ^ k) : D k (Rat.divInt n d) := by
 obtain ⟨e1, e2, _⟩ := zHV n d hd
 refine ⟨?_, ?_⟩
 · rw [e1]; exact Nat.lt_of_le_of_lt (Nat.div_le_self _ _) h1
 · rw [e2]; exact Nat.lt_of_le_of_lt (Nat.div_le_self _ _) h2
theorem D.add {p q : Rat} {j k : Nat} (hp : D j p) (hq : D k q) : D (j + k + 1) (p + q) := by
 rw [← zJU]
 have a1 := zFl hp.1 hq.2
 have a2 := zFl hq.1 hp.2
 rw [Nat.add_comm k j] at a2
 have a3 := zFl hp.2 hq.2
 refine zN8 (by have := Nat.mul_ne_zero p.den_nz q.den_nz; omega) ?_ ?_
 · have h := Int.natAbs_add_le (p.num * q.den) (q.num * p.den)
   rw [Int.natAbs_mul, Int.natAbs_mul, Int.natAbs_natCast, Int.natAbs_natCast] at h
   exact Nat.lt_of_le_of_lt h (add_big a1 a2)
 · rw [Int.natAbs_natCast]
   exact Nat.lt_of_lt_of_le a3 (Nat.pow_le_pow_right (by decide) (by omega))
theorem D.neg {q : Rat} {k : Nat} (h : D k q) : D k (-q) := by
 refine ⟨?_, h.2⟩
 show (-q.num).natAbs < _
 rw [Int.natAbs_neg]; exact h.1
theorem D.sub {p q : Rat} {j k : Nat} (hp : D j p) (hq : D k q) : D (j + k + 1) (p - q) := by
 rw [Rat.sub_eq_add_neg]; exact hp.add hq.neg
theorem D.mul {p q : Rat} {j k : Nat} (hp : D j p) (hq : D k q) : D (j + k) (p * q) := by
 rw [← zNl]
 refine zN8 (by have := Nat.mul_ne_zero p.den_nz q.den_nz; omega) ?_ ?_
 · rw [Int.natAbs_mul]; exact zFl hp.1 hq.1
 · rw [Int.natAbs_natCast]; exact zFl hp.2 hq.2
theorem D.div {p q : Rat} {j k : Nat} (hp : D j p) (hq : D k q) (h0 : q ≠ 0) : D (j + k) (p / q) := by
 have hn : q.num ≠ 0 := fun h => h0 (Rat.num_eq_zero.1 h)
 rw [← zMp p q h0]
 refine zN8 (Int.mul_ne_zero hn (by have := p.den_nz; omega)) ?_ ?_
 · rw [Int.natAbs_mul, Int.natAbs_natCast]; exact zFl hp.1 hq.2
 · rw [Int.natAbs_mul, Int.natAbs_natCast, Nat.add_comm]; exact zFl hq.1 hp.2
end Go.Ax.Rt
namespace Go.Ax.Rt
open Go.Ax.Bg
end Go.Ax.Rt
namespace Go.Ax.Rt
open Go.Ax.Bg
theorem div_one (q : Rat) : q / 1 = q := by
 have := Rat.mul_div_cancel (a := q) (b := 1) (by decide)
 rwa [Rat.mul_one] at this
theorem zK2 {s : List UInt8} (h : zCi s = 0) : zCw s = false ↔ 0 ≤ zAB s := by
 have hp := zET h
 have h1 := zKH (zCw s) (zAf 0 (zD9 s))
 rw [← hp.num] at h1
 rw [← Rat.num_nonneg]
 cases e : zCw s
 · rw [e] at h1; simp at h1; simpa using h1
 · have h2 : (zAB s).num < 0 := by
     have h3 := hp.ng e
     rw [e] at h1
     simpa [h3] using h1
   exact ⟨fun q => absurd q (by decide), fun q => absurd h2 (by omega)⟩
structure Shared (l : List (List UInt8)) (v : List (List UInt8)) : Prop where
 len : v.length = l.length
 pos : zKU v = 0
 one : (zEi v).1 = 1
 again : ((v.map zAB).map (fun q => q / (zEi v).1)).map zt = v
 fits : ((v.map zAB).map (fun q => q / (zEi v).1)).all zA3 = true
 odds : zCV v = 0
 best : zKz v = zKz l ∧ (zKz l).2 = 0
end Go.Ax.Rt
namespace Go.Ax.Rt
open Go.Ax.Bg
def zA7 (f : Nat → Rat) : Nat → Rat
 | 0 => 0
 | n + 1 => zA7 f n + f n
theorem zAs {f g : Nat → Rat} : ∀ {n : Nat}, (∀ i, i < n → f i = g i) → zA7 f n = zA7 g n
 | 0, _ => rfl
 | n + 1, h => by rw [zA7, zA7, zAs (fun i hi => h i (by omega)), h n (by omega)]
theorem zIO : ∀ n : Nat, zA7 (fun _ => 0) n = 0
 | 0 => rfl
 | n + 1 => by rw [zA7, zIO n, Rat.add_zero]
theorem zHk (f g : Nat → Rat) : ∀ n : Nat, zA7 (fun i => f i + g i) n = zA7 f n + zA7 g n
 | 0 => by rw [zA7, zA7, zA7, Rat.add_zero]
 | n + 1 => by
   rw [zA7, zA7, zA7, zHk f g n]
   rw [Rat.add_assoc, Rat.add_assoc, ← Rat.add_assoc (zA7 g n), Rat.add_comm (zA7 g n) (f n), Rat.add_assoc]
theorem zHx (c : Rat) (f : Nat → Rat) : ∀ n : Nat, zA7 (fun i => c * f i) n = c * zA7 f n
 | 0 => by rw [zA7, zA7, Rat.mul_zero]
 | n + 1 => by rw [zA7, zA7, zHx c f n, Rat.mul_add]
theorem zIh (c : Rat) (f : Nat → Rat) : ∀ n : Nat, zA7 (fun i => f i * c) n = zA7 f n * c
 | 0 => by rw [zA7, zA7, Rat.zero_mul]
 | n + 1 => by rw [zA7, zA7, zIh c f n, Rat.add_mul]
theorem zIy {f : Nat → Rat} : ∀ {n : Nat}, (∀ i, i < n → 0 ≤ f i) → 0 ≤ zA7 f n
 | 0, _ => Rat.le_refl
 | n + 1, h => by rw [zA7]; exact Rat.add_nonneg (zIy (fun i hi => h i (by omega))) (h n (by omega))
/-- The sum of the products. -/
def dotQ (a b : List Rat) : Rat := zA7 (fun i => a.getD i 0 * b.getD i 0) a.length
def colQ (m : List (List Rat)) (k : Nat) : List Rat := m.map (fun row => row.getD k 0)
def colsQ (m : List (List Rat)) (w : Nat) : List (List Rat) := (List.range w).map (colQ m)
def mulQ (a b : List (List Rat)) (w : Nat) : List (List Rat) := a.map (fun row => (colsQ b w).map (dotQ row))
def applyQ (m : List (List Rat)) (v : List Rat) : List Rat := m.map (fun row => dotQ row v)
theorem zQN (m : List (List Rat)) (w : Nat) : (colsQ m w).length = w := by simp [colsQ]
theorem zBY {α β : Type} (f : α → β) (l : List α) (d : α) (e : β) (i : Nat) (hi : i < l.length) : (l.map f).getD i e = f (l.getD i d) := by simp [List.getD, hi]
end Go.Ax.Rt
namespace Go.Ax.Rt
open Go.Ax.Bg
abbrev zAK := List UInt8
def zJG (v : List zAK) : Int := if 40 < v.length then 2 else zEI v
def rowsE (w : Nat) : List (List zAK) → Int
 | [] => 0
 | r :: rs => if r.length = w then (if zJG r = 0 then rowsE w rs else zJG r) else 3
def zEG (m : List (List zAK)) : Nat := (m.getD 0 []).length
/-- matrix.Check -/
def zHq (m : List (List zAK)) : Int := if 40 < m.length then 2 else rowsE (zEG m) m
def inM (m : List (List zAK)) : List (List Rat) := m.map (fun r => r.map zAB)
def outM (q : List (List Rat)) : List (List zAK) × Int := if q.all (fun r => r.all zA3) then (q.map (fun r => r.map zt), 0) else ([], 2)
def dotR (a b : List zAK) : zAK × Int := if zJG a ≠ 0 then ([], zJG a) else if zJG b ≠ 0 then ([], zJG b) else if a.length = b.length then zFI (dotQ (a.map zAB) (b.map zAB)) else ([], 3)
def applyR (m : List (List zAK)) (v : List zAK) : List zAK × Int := if zHq m ≠ 0 then ([], zHq m) else if zJG v ≠ 0 then ([], zJG v) else if m ≠ [] ∧ zEG m ≠ v.length then ([], 3) else zBG (applyQ (inM m) (v.map zAB))
def mulR (a b : List (List zAK)) : List (List zAK) × Int := if zHq a ≠ 0 then ([], zHq a) else if zHq b ≠ 0 then ([], zHq b) else if zEG a = b.length then outM (mulQ (inM a) (inM b) (zEG b)) else ([], 3)
def transT (m : List (List zAK)) : List (List zAK) := (List.range (zEG m)).map (fun k => m.map (fun r => r.getD k []))
def transR (m : List (List zAK)) : List (List zAK) × Int := if zHq m ≠ 0 then ([], zHq m) else (transT m, 0)
/-- A valid matrix of so many rows and columns. -/
structure IsM (m : List (List zAK)) (p q : Nat) : Prop where
 rows : m.length = p
 cols : ∀ r ∈ m, r.length = q
 sp : p ≤ 40
 sq : m ≠ [] → q ≤ 40
 ok : ∀ r ∈ m, ∀ s ∈ r, zCi s = 0
theorem IsM.wid {m : List (List zAK)} {p q : Nat} (h : IsM m p q) (hne : m ≠ []) : zEG m = q := by
 obtain ⟨a, m', rfl⟩ := List.exists_cons_of_ne_nil hne
 exact h.cols a (by simp)
/-- Short texts. -/
def tiny (n k : Nat) (m : List (List zAK)) : Bool := decide (m.length ≤ n) && m.all (fun v => decide (v.length ≤ n) && v.all (fun s => decide (s.length ≤ k)))
end Go.Ax.Rt
namespace Go.Ax.Rt
open Go.Ax.Bg
/-- The product of short valid matrices. -/
structure Prod (a b : List (List zAK)) (t : List (List zAK)) (p q r K : Nat) : Prop where
 res : mulR a b = (t, 0)
 ok : IsM t p r
 val : inM t = mulQ (inM a) (inM b) r
 dig : ∀ x ∈ inM t, ∀ y ∈ x, D K y
end Go.Ax.Rt
namespace Go.Ax.Dt
def zCa (f : Nat → Int) : Nat → Int
 | 0 => 0
 | n + 1 => zCa f n + f n
theorem zBT {f g : Nat → Int} : ∀ {n : Nat}, (∀ i, i < n → f i = g i) → zCa f n = zCa g n
 | 0, _ => rfl
 | n + 1, h => by rw [zCa, zCa, zBT (fun i hi => h i (by omega)), h n (by omega)]
theorem zLA {f : Nat → Int} : ∀ {n : Nat}, (∀ i, i < n → f i = 0) → zCa f n = 0
 | 0, _ => rfl
 | n + 1, h => by rw [zCa, zLA (fun i hi => h i (by omega)), h n (by omega)]; rfl
theorem zDx (f g : Nat → Int) : ∀ n, zCa (fun i => f i + g i) n = zCa f n + zCa g n
 | 0 => rfl
 | n + 1 => by rw [zCa, zCa, zCa, zDx f g n]; omega
theorem zGR (c : Int) (f : Nat → Int) : ∀ n, zCa (fun i => c * f i) n = c * zCa f n
 | 0 => by rw [zCa, zCa, Int.mul_zero]
 | n + 1 => by rw [zCa, zCa, zGR c f n, Int.mul_add]
theorem zDz {f : Nat → Int} {n : Nat} (k : Nat) (hk : k < n) (h : ∀ i, i < n → i ≠ k → f i = 0) : zCa f n = f k := by
 induction n with
 | zero => omega
 | succ n ih =>
   rw [zCa]
   by_cases hkn : k = n
   · subst hkn
     rw [zLA (fun i hi => h i (by omega) (by omega))]; omega
   · rw [ih (by omega) (fun i hi hne => h i (by omega) hne), h n (by omega) (fun e => hkn e.symm)]; omega
theorem sumZ_two {f : Nat → Int} {n : Nat} (k l : Nat) (hk : k < n) (hl : l < n) (hkl : k ≠ l) (h : ∀ i, i < n → i ≠ k → i ≠ l → f i = 0) : zCa f n = f k + f l := by
 have e : zCa f n = zCa (fun i => (if i = k then f k else 0) + (if i = k then 0 else f i)) n := by
   refine zBT (fun i hi => ?_)
   by_cases hik : i = k
   · subst hik; simp
   · simp [hik]
 rw [e, zDx]
 rw [zDz k hk (fun i hi hne => by simp [hne]), zDz l hl (fun i hi hne => by
   by_cases hik : i = k
   · simp [hik]
   · simp [hik]; exact h i hi hik hne)]
 have : ¬ l = k := fun e => hkl e.symm
 simp [this]
abbrev V := Nat → Int
abbrev Mx := Nat → V
def sg : Nat → Int
 | 0 => 1
 | n + 1 => -sg n
def skip (i : Nat) (D : Mx) : Mx := fun a c => D (if a < i then a else a + 1) (c + 1)
def det : Nat → Mx → Int
 | 0, _ => 1
 | n + 1, D => zCa (fun i => sg i * (D i 0 * det n (skip i D))) (n + 1)
def put (D : Mx) (r : Nat) (v : V) : Mx := fun a => if a = r then v else D a
theorem zGe : ∀ {n : Nat} {D E : Mx}, (∀ a c, a < n → c < n → D a c = E a c) → det n D = det n E
 | 0, _, _, _ => rfl
 | n + 1, D, E, h => by
   rw [det, det]
   refine zBT (fun i hi => ?_)
   rw [h i 0 hi (by omega), zGe (D := skip i D) (E := skip i E) (fun a c ha hc => ?_)]
   unfold skip
   exact h _ _ (by split <;> omega) (by omega)
theorem zCq (D : Mx) (r : Nat) (v : V) : skip r (put D r v) = skip r D := by
 funext a c
 unfold skip put
 have : ¬ (if a < r then a else a + 1) = r := by split <;> omega
 rw [if_neg this]
theorem zGN {D : Mx} {i r : Nat} {v : V} (h : i ≠ r) : skip i (put D r v) = put (skip i D) (if r < i then r else r - 1) (fun c => v (c + 1)) := by
 funext a c
 unfold skip put
 by_cases hri : r < i
 · rw [if_pos hri]
   by_cases ha : a = r
   · subst ha; rw [if_pos hri]; simp
   · by_cases hai : a < i
     · simp [hai, ha]
     · have : ¬ a + 1 = r := by omega
       simp [hai, ha, this]
 · rw [if_neg hri]
   by_cases ha : a = r - 1
   · subst ha
     have h1 : ¬ r - 1 < i := by omega
     have h2 : r - 1 + 1 = r := by omega
     simp [h1, h2]
   · by_cases hai : a < i
     · have : ¬ a = r := by omega
       simp [hai, ha, this]
     · have : ¬ a + 1 = r := by omega
       simp [hai, ha, this]
/-- The determinant is linear in each row. -/
theorem zGi : ∀ (n : Nat) (D : Mx) (r : Nat) (u v : V), r < n → det n (put D r (fun c => u c + v c)) = det n (put D r u) + det n (put D r v)
 | 0, _, _, _, _, h => absurd h (Nat.not_lt_zero _)
 | n + 1, D, r, u, v, h => by
   rw [det, det, det, ← zDx]
   refine zBT (fun i hi => ?_)
   by_cases hir : i = r
   · subst hir
     rw [zCq, zCq, zCq]
     have e : ∀ w : V, put D i w i 0 = w 0 := fun w => by simp [put]
     rw [e, e, e, Int.add_mul, Int.mul_add]
   · have e : ∀ w : V, put D r w i 0 = D i 0 := fun w => by simp [put, hir]
     rw [zGN hir, zGN hir, zGN hir, e, e, e, zGi n _ _ _ _ (by split <;> omega), Int.mul_add, Int.mul_add]
theorem zGZ : ∀ (n : Nat) (D : Mx) (r : Nat) (k : Int) (v : V), r < n → det n (put D r (fun c => k * v c)) = k * det n (put D r v)
 | 0, _, _, _, _, h => absurd h (Nat.not_lt_zero _)
 | n + 1, D, r, k, v, h => by
   rw [det, det, ← zGR]
   refine zBT (fun i hi => ?_)
   by_cases hir : i = r
   · subst hir
     rw [zCq, zCq]
     have e : ∀ w : V, put D i w i 0 = w 0 := fun w => by simp [put]
     rw [e, e, Int.mul_left_comm k, Int.mul_assoc]
   · have e : ∀ w : V, put D r w i 0 = D i 0 := fun w => by simp [put, hir]
     rw [zGN hir, zGN hir, e, e, zGZ n _ _ _ _ (by split <;> omega), Int.mul_left_comm k, Int.mul_left_comm k]
theorem zLt (n : Nat) (D : Mx) (r : Nat) (h : r < n) : det n (put D r (fun _ => 0)) = 0 := by
 have := zGZ n D r 0 (fun _ => 0) h
 simpa using this
/-- Two rows beside each other that are equal. -/
theorem zMR : ∀ (n : Nat) (D : Mx) (r : Nat), r + 1 < n → (∀ c, c < n → D r c = D (r + 1) c) → det n D = 0
 | 0, _, _, h, _ => absurd h (Nat.not_lt_zero _)
 | n + 1, D, r, h, he => by
   rw [det, sumZ_two r (r + 1) (by omega) h (by omega) (fun i hi h1 h2 => ?_)]
   · have e : det n (skip r D) = det n (skip (r + 1) D) := zGe (fun a c ha hc => by
       unfold skip
       by_cases h1 : a < r
       · rw [if_pos h1, if_pos (by omega)]
       · rw [if_neg h1]
         by_cases h2 : a < r + 1
         · have : a = r := by omega
           subst this
           rw [if_pos h2]; exact (he _ (by omega)).symm
         · rw [if_neg h2])
     rw [e, he 0 (by omega), sg, Int.neg_mul]
     omega
   · have := zMR n (skip i D) (if r < i then r else r - 1) (by split <;> omega) (fun c hc => by
       unfold skip
       by_cases hri : r < i
       · rw [if_pos hri, if_pos (show r < i from hri), if_pos (show r + 1 < i by omega)]
         exact he _ (by omega)
       · have e1 : ¬ r - 1 < i := by omega
         have e2 : ¬ r - 1 + 1 < i := by omega
         rw [if_neg hri, if_neg e1, if_neg e2, show r - 1 + 1 = r by omega]
         exact he _ (by omega))
     rw [this, Int.mul_zero, Int.mul_zero]
theorem zEj (D : Mx) {r s : Nat} (u v : V) (h : r ≠ s) : put (put D r u) s v = put (put D s v) r u := by
 funext a
 unfold put
 by_cases h1 : a = s
 · have : ¬ a = r := fun e => h (e.symm.trans h1)
   simp [h1]
   intro e; exact absurd e.symm h
 · simp [h1]
theorem zGb (D : Mx) (r : Nat) : put D r (D r) = D := by
 funext a; unfold put; split
 · rename_i h; rw [h]
 · rfl
/-- Exchange of two rows beside each other. -/
theorem det_swap (n : Nat) (D : Mx) (r : Nat) (u v : V) (h : r + 1 < n) : det n (put (put D r u) (r + 1) v) = - det n (put (put D r v) (r + 1) u) := by
 have key : ∀ w : V, det n (put (put D r w) (r + 1) w) = 0 := fun w => zMR n _ r h (fun c _ => by unfold put; simp)
 have h0 := key (fun c => u c + v c)
 have add0 : ∀ w : V, det n (put (put D r (fun c => u c + v c)) (r + 1) w) = det n (put (put D r u) (r + 1) w) + det n (put (put D r v) (r + 1) w) := fun w => by
   rw [zEj D _ w (by omega), zGi n _ _ _ _ (by omega), zEj D u w (by omega), zEj D v w (by omega)]
 rw [zGi n _ _ _ _ h, add0, add0] at h0
 have h1 := key u
 have h2 := key v
 omega
theorem zOi : ∀ (k : Nat) (n : Nat) (D : Mx) (r : Nat), r + (k + 1) < n → (∀ c, c < n → D r c = D (r + (k + 1)) c) → det n D = 0
 | 0, n, D, r, h, he => zMR n D r h he
 | k + 1, n, D, r, h, he => by
   have e : D = put (put D (r + (k + 1)) (D (r + (k + 1)))) (r + (k + 1) + 1) (D (r + (k + 1) + 1)) := by
     rw [zGb, zGb]
   rw [e, det_swap n D (r + (k + 1)) _ _ (by omega), zOi k n _ r (by omega) (fun c hc => ?_)]
   · rfl
   · have h1 : ¬ r = r + (k + 1) + 1 := by omega
     have h2 : ¬ r = r + (k + 1) := by omega
     have h3 : ¬ r + (k + 1) = r + (k + 1) + 1 := by omega
     unfold put
     rw [if_neg h1, if_neg h2, if_neg h3, if_pos rfl]
     exact he c hc
theorem zPx (n : Nat) (D : Mx) {r s : Nat} (hr : r < n) (hs : s < n) (hne : r ≠ s) : det n (put D r (D s)) = 0 := by
 rcases Nat.lt_or_gt_of_ne hne with h | h
 · refine zOi (s - r - 1) n _ r (by omega) (fun c _ => ?_)
   rw [show r + (s - r - 1 + 1) = s by omega]
   have : ¬ s = r := fun e => hne e.symm
   simp [put, this]
 · refine zOi (r - s - 1) n _ s (by omega) (fun c _ => ?_)
   rw [show s + (r - s - 1 + 1) = r by omega]
   have : ¬ s = r := fun e => hne e.symm
   simp [put, this]
/-- A row that is a sum of multiples of the rows. -/
theorem zMl (n : Nat) (D : Mx) (r : Nat) (hr : r < n) (t : V) : ∀ k, k ≤ n → det n (put D r (fun c => zCa (fun i => t i * D i c) k)) = if r < k then t r * det n D else 0
 | 0, _ => by
   rw [if_neg (Nat.not_lt_zero _)]
   exact zLt n D r hr
 | k + 1, hk => by
   have ih := zMl n D r hr t k (by omega)
   have e : (fun c => zCa (fun i => t i * D i c) (k + 1)) = (fun c => (fun c => zCa (fun i => t i * D i c) k) c + (fun c => t k * D k c) c) := rfl
   rw [e, zGi n D r _ _ hr, ih, zGZ n D r _ _ hr]
   by_cases hkr : k = r
   · subst hkr
     rw [if_neg (by omega), if_pos (by omega), zGb]; omega
   · rw [zPx n D hr (by omega) (fun e => hkr e.symm), Int.mul_zero, Int.add_zero]
     by_cases h1 : r < k
     · rw [if_pos h1, if_pos (by omega)]
     · rw [if_neg h1, if_neg (by omega)]
theorem zHW {n : Nat} {D : Mx} {r : Nat} (hr : r < n) {t w : V} (h : ∀ c, c < n → w c = zCa (fun i => t i * D i c) n) : det n (put D r w) = t r * det n D := by
 have := zMl n D r hr t n (Nat.le_refl _)
 rw [if_pos hr] at this
 rw [← this]
 refine zGe (fun a c _ hc => ?_)
 unfold put
 split
 · exact h c hc
 · rfl
def zG4 : Mx := fun a c => if a = c then 1 else 0
theorem zMw : ∀ n : Nat, det n zG4 = 1
 | 0 => rfl
 | n + 1 => by
   rw [det, zDz 0 (by omega) (fun i hi hne => by simp [zG4, hne])]
   have : det n (skip 0 zG4) = det n zG4 := zGe (fun a c _ _ => by simp [skip, zG4])
   rw [this, zMw n]; simp [sg, zG4]
def fct : Nat → Nat
 | 0 => 1
 | n + 1 => (n + 1) * fct n
/-- A column of the table, and the column of the beginning that it stands for. -/
def Sol (n : Nat) (D : Mx) (d : Int) (t0 t : V) : Prop := ∀ c, c < n → zCa (fun i => t i * D i c) n = d * t0 c
theorem sol_det {n : Nat} {D : Mx} {d s : Int} {t0 t : V} (hd : d ≠ 0) (hs : s * s = 1) (hD : det n D = s * d) (h : Sol n D d t0 t) {i : Nat} (hi : i < n) : t i = s * det n (put D i t0) := by
 have h1 := zHW (w := fun c => d * t0 c) hi (fun c hc => (h c hc).symm)
 rw [zGZ n D i d t0 hi, hD] at h1
 have h2 : d * det n (put D i t0) = d * (s * t i) := by rw [h1, Int.mul_left_comm, Int.mul_comm (t i) d, Int.mul_left_comm]
 have h3 := Int.eq_of_mul_eq_mul_left hd h2
 rw [h3, ← Int.mul_assoc, hs, Int.one_mul]
/-- The pivot: the determinant of the new rows, and exact quotients. -/
theorem zLU {n : Nat} {D : Mx} {d s : Int} {t0 t : V} (hd : d ≠ 0) (hs : s * s = 1) (hD : det n D = s * d) (h : Sol n D d t0 t) {r : Nat} (hr : r < n) : det n (put D r t0) = s * t r := by
 rw [sol_det hd hs hD h hr, ← Int.mul_assoc, hs, Int.one_mul]
theorem sumZ_put {n : Nat} {D : Mx} {r : Nat} (hr : r < n) (v : V) (t : V) (c : Nat) : zCa (fun i => t i * put D r v i c) n = zCa (fun i => t i * D i c) n - t r * D r c + t r * v c := by
 have e : ∀ i, i < n → t i * put D r v i c = t i * D i c + (if i = r then t r * v c - t r * D r c else 0) := by
   intro i hi
   by_cases hir : i = r
   · subst hir; simp [put]; omega
   · simp [put, hir]
 rw [zBT e, zDx, zDz (f := fun i => if i = r then t r * v c - t r * D r c else 0) r hr (fun i hi hne => by simp [hne])]
 simp; omega
theorem zK5 {n : Nat} {D : Mx} {d s : Int} {tc0 tc tj0 tj : V} (hd : d ≠ 0) (hs : s * s = 1) (hD : det n D = s * d) (hc : Sol n D d tc0 tc) (hj : Sol n D d tj0 tj) {r : Nat} (hr : r < n) (hp : tc r ≠ 0) :
   (∀ i, i < n → i ≠ r → d ∣ tj i * tc r - tc i * tj r) ∧ Sol n (put D r tc0) (tc r) tj0 (fun i => if i = r then tj r else (tj i * tc r - tc i * tj r) / d) := by
 have hD' := zLU hd hs hD hc hr
 -- the numerators are a solution of d times the new equation
 let N : V := fun i => if i = r then d * tj r else tj i * tc r - tc i * tj r
 have hN : ∀ c, c < n → zCa (fun i => N i * put D r tc0 i c) n = d * tc r * tj0 c := by
   intro c hcn
   rw [sumZ_put hr]
   have e : ∀ i, i < n → N i * D i c = (tc r * (tj i * D i c) + (-(tj r)) * (tc i * D i c)) + (if i = r then d * tj r * D r c else 0) := by
     intro i hi
     by_cases hir : i = r
     · subst hir
       simp only [N, if_true]
       have : tc i * (tj i * D i c) + -tj i * (tc i * D i c) = 0 := by
         rw [Int.neg_mul, Int.mul_left_comm]; omega
       omega
     · simp only [N, hir, if_false, Int.add_zero]
       rw [Int.sub_mul, Int.neg_mul, Int.mul_comm (tj i) (tc r), Int.mul_assoc, Int.mul_comm (tc i) (tj r), Int.mul_assoc]; omega
   rw [zBT e, zDx, zDx, zGR, zGR, hj c hcn, hc c hcn, zDz (f := fun i => if i = r then d * tj r * D r c else 0) r hr (fun i hi hne => by simp [hne])]
   simp only [N, if_true]
   have e1 : tc r * (d * tj0 c) = d * tc r * tj0 c := by rw [← Int.mul_assoc, Int.mul_comm (tc r) d]
   have e2 : -tj r * (d * tc0 c) = -(d * tj r * tc0 c) := by rw [Int.neg_mul, ← Int.mul_assoc, Int.mul_comm (tj r) d]
   rw [e1, e2]; omega
 have hex : ∀ i, i < n → N i = d * (s * det n (put (put D r tc0) i tj0)) := by
   intro i hi
   have h1 := zHW (D := put D r tc0) (w := fun c => d * tc r * tj0 c) hi (fun c hcn => (hN c hcn).symm)
   rw [zGZ n _ i (d * tc r) tj0 hi, hD'] at h1
   have h2 : tc r * (d * (s * det n (put (put D r tc0) i tj0))) = tc r * N i := by
     have h3 : s * (d * tc r * det n (put (put D r tc0) i tj0)) = s * (N i * (s * tc r)) := by rw [h1]
     have h4 : s * (N i * (s * tc r)) = tc r * N i := by
       rw [Int.mul_left_comm, ← Int.mul_assoc s s, hs, Int.one_mul, Int.mul_comm]
     rw [h4] at h3
     rw [← h3]
     rw [Int.mul_assoc d, Int.mul_left_comm s d, Int.mul_left_comm s (tc r), Int.mul_left_comm d (tc r)]
   exact (Int.eq_of_mul_eq_mul_left hp h2).symm
 refine ⟨fun i hi hne => ?_, ?_⟩
 · have := hex i hi
   simp only [N, hne, if_false] at this
   exact ⟨_, this⟩
 · intro c hcn
   have h1 := hN c hcn
   have h2 : ∀ i, i < n → N i * put D r tc0 i c = d * ((fun i => if i = r then tj r else (tj i * tc r - tc i * tj r) / d) i * put D r tc0 i c) := by
     intro i hi
     by_cases hir : i = r
     · subst hir; simp only [N, if_true]; rw [Int.mul_assoc]
     · have h3 := hex i hi
       simp only [N, hir, if_false] at h3 ⊢
       have h4 : (tj i * tc r - tc i * tj r) / d = s * det n (put (put D r tc0) i tj0) := by rw [h3, Int.mul_ediv_cancel_left _ hd]
       rw [h4, ← Int.mul_assoc, ← h3]
   rw [zBT h2, zGR, Int.mul_assoc d] at h1
   exact Int.eq_of_mul_eq_mul_left hd h1
end Go.Ax.Dt
namespace Go.Ax.Dt
/-- The quotient of the absolute values, with the sign of the quotient. -/
def zKV (x d : Int) : Int := if (decide (x < 0) != decide (d < 0)) = true then -((x.natAbs / d.natAbs : Nat) : Int) else ((x.natAbs / d.natAbs : Nat) : Int)
theorem zQt {q d : Int} (hd : d ≠ 0) : zKV (d * q) d = q := by
 have hn : (d * q).natAbs / d.natAbs = q.natAbs := by rw [Int.natAbs_mul, Nat.mul_div_cancel_left _ (by omega)]
 unfold zKV
 rw [hn]
 rcases Int.lt_trichotomy q 0 with hq | hq | hq
 · rcases Int.lt_or_gt_of_ne hd with h | h
   · have h1 : ¬ d * q < 0 := Int.not_lt.2 (Int.le_of_lt (Int.mul_pos_of_neg_of_neg h hq))
     simp [h, h1]; omega
   · have h1 : d * q < 0 := Int.mul_neg_of_pos_of_neg h hq
     have h2 : ¬ d < 0 := by omega
     simp [h1, h2]; omega
 · subst hq; simp
 · rcases Int.lt_or_gt_of_ne hd with h | h
   · have h1 : d * q < 0 := Int.mul_neg_of_neg_of_pos h hq
     simp [h, h1]; omega
   · have h1 : ¬ d * q < 0 := Int.not_lt.2 (Int.le_of_lt (Int.mul_pos h hq))
     have h2 : ¬ d < 0 := by omega
     simp [h1, h2]; omega
theorem zRT {x d : Int} (hd : d ≠ 0) (h : d ∣ x) : zKV x d = x / d := by
 obtain ⟨q, rfl⟩ := h
 rw [zQt hd, Int.mul_ediv_cancel_left _ hd]
abbrev Tab := List (List Int)
def at2 (T : Tab) (i j : Nat) : Int := (T.getD i []).getD j 0
/-- The first row at or behind i that has no 0 in a column. -/
def zFe (T : Tab) (c : Nat) : Nat → Nat → Nat
 | 0, i => i
 | f + 1, i => if at2 T i c = 0 then zFe T c f (i + 1) else i
theorem zII (T : Tab) (c : Nat) : ∀ f i, i ≤ zFe T c f i ∧ zFe T c f i ≤ i + f ∧ (∀ a, i ≤ a → a < zFe T c f i → at2 T a c = 0) ∧ (zFe T c f i < i + f → at2 T (zFe T c f i) c ≠ 0)
 | 0, i => ⟨Nat.le_refl _, Nat.le_refl _, fun a h1 h2 => absurd h2 (by rw [zFe]; omega), fun h => absurd h (by rw [zFe]; omega)⟩
 | f + 1, i => by
   rw [zFe]
   by_cases h : at2 T i c = 0
   · rw [if_pos h]
     obtain ⟨h1, h2, h3, h4⟩ := zII T c f (i + 1)
     refine ⟨by omega, by omega, fun a ha hb => ?_, fun hb => h4 (by omega)⟩
     by_cases e : a = i
     · rw [e]; exact h
     · exact h3 a (by omega) hb
   · rw [if_neg h]
     exact ⟨Nat.le_refl _, by omega, fun a h1 h2 => absurd h2 (by omega), fun _ => h⟩
def zBK (T : Tab) (i k : Nat) : Tab := (T.set i (T.getD k [])).set k (T.getD i [])
def swp (i k a : Nat) : Nat := if a = k then i else if a = i then k else a
def zHe (R K : List Int) (p f d : Int) : List Int := (List.range R.length).map (fun j => zKV (R.getD j 0 * p - f * K.getD j 0) d)
def zDR (T : Tab) (k c : Nat) (d : Int) : Tab := (List.range T.length).map (fun i => if i = k then T.getD k [] else zHe (T.getD i []) (T.getD k []) (at2 T k c) (at2 T i c) d)
structure Red where
 T : Tab
 piv : List Nat
 last : Int
 neg : Bool
def zIS (r : Red) (c : Nat) : Red :=
 if r.T.length ≤ r.piv.length then r
 else if zFe r.T c (r.T.length - r.piv.length) r.piv.length = r.T.length then r
 else ⟨zDR (zBK r.T (zFe r.T c (r.T.length - r.piv.length) r.piv.length) r.piv.length) r.piv.length c r.last, r.piv ++ [c], at2 (zBK r.T (zFe r.T c (r.T.length - r.piv.length) r.piv.length) r.piv.length) r.piv.length c, if zFe r.T c (r.T.length - r.piv.length) r.piv.length = r.piv.length then r.neg else !r.neg⟩
def redN (M : Tab) : Nat → Red
 | 0 => ⟨M, [], 1, false⟩
 | c + 1 => zIS (redN M c) c
theorem getD_set {α : Type} (l : List α) (d x : α) (i j : Nat) : (l.set i x).getD j d = if j = i ∧ i < l.length then x else l.getD j d := by
 by_cases h : j = i
 · subst h
   by_cases h2 : j < l.length
   · simp [List.getD, h2]
   · have : l.length ≤ j := by omega
     simp [List.getD, h2, this]
 · have : ¬ i = j := fun e => h e.symm
   simp [List.getD, h, List.getElem?_set, this]
theorem zFW (T : Tab) (i k : Nat) : (zBK T i k).length = T.length := by simp [zBK]
theorem zIG (T : Tab) {i k : Nat} (hi : i < T.length) (hk : k < T.length) (a : Nat) : (zBK T i k).getD a [] = T.getD (swp i k a) [] := by
 unfold zBK swp
 rw [getD_set, List.length_set, getD_set]
 by_cases h1 : a = k
 · simp [h1, hk]
 · by_cases h2 : a = i
   · have h3 : ¬ i = k := fun e => h1 (h2.trans e)
     simp [h1, h2, hi, h3]
   · simp [h1, h2]
theorem zPB (T : Tab) {k : Nat} (hk : k < T.length) : zBK T k k = T := by
 refine List.ext_getElem (zFW _ _ _) (fun a h1 h2 => ?_)
 have := zIG T hk hk a
 have e : swp k k a = a := by unfold swp; split <;> simp_all
 rw [e] at this
 simpa [List.getD, h1, h2] using this
theorem zEc (T : Tab) {i k : Nat} (hi : i < T.length) (hk : k < T.length) (a j : Nat) : at2 (zBK T i k) a j = at2 T (swp i k a) j := by
 unfold at2; rw [zIG T hi hk]
theorem zRC (T : Tab) (k c : Nat) (d : Int) : (zDR T k c d).length = T.length := by simp [zDR]
theorem zRW (T : Tab) (k c : Nat) (d : Int) {i : Nat} (hi : i < T.length) : (zDR T k c d).getD i [] = if i = k then T.getD k [] else zHe (T.getD i []) (T.getD k []) (at2 T k c) (at2 T i c) d := by
 unfold zDR
 simp [List.getD, hi]
theorem zJ1 (T : Tab) (k c : Nat) (d : Int) {L : Nat} (hT : ∀ x ∈ T, x.length = L) {i j : Nat} (hi : i < T.length) (hj : j < L) : at2 (zDR T k c d) i j = if i = k then at2 T k j else zKV (at2 T i j * at2 T k c - at2 T i c * at2 T k j) d := by
 unfold at2
 rw [zRW T k c d hi]
 have hl : (T.getD i []).length = L := hT _ (by simp [List.getD, hi])
 by_cases h : i = k
 · rw [if_pos h, if_pos h]
 · rw [if_neg h, if_neg h]
   unfold zHe
   rw [hl]
   have : ∀ f : Nat → Int, ((List.range L).map f).getD j 0 = f j := fun f => by simp [List.getD, hj]
   rw [this]; rfl
theorem zNj (R K : List Int) (p f d : Int) : (zHe R K p f d).length = R.length := by simp [zHe]
theorem zQH (T : Tab) (k c : Nat) (d : Int) {L : Nat} (hk : k < T.length) (hT : ∀ x ∈ T, x.length = L) : ∀ x ∈ zDR T k c d, x.length = L := by
 intro x hx
 obtain ⟨i, hi, rfl⟩ := List.mem_map.1 hx
 have hi : i < T.length := by simpa using hi
 split
 · exact hT _ (by simp [List.getD, hk])
 · rw [zNj]; exact hT _ (by simp [List.getD, hi])
theorem zRL (T : Tab) {i k : Nat} (hi : i < T.length) (hk : k < T.length) {L : Nat} (hT : ∀ x ∈ T, x.length = L) : ∀ x ∈ zBK T i k, x.length = L := by
 intro x hx
 obtain ⟨a, ha, rfl⟩ := List.getElem_of_mem hx
 have h1 := zIG T hi hk a
 have h2 : swp i k a < T.length := by rw [zFW] at ha; unfold swp; split; exact hi; split; exact hk; exact ha
 have h3 : (zBK T i k).getD a [] = (zBK T i k)[a] := by simp [List.getD, ha]
 rw [h3] at h1
 rw [h1]; exact hT _ (by simp [List.getD, h2])
/-- Exchange of two rows. -/
theorem det_exch (n : Nat) (D : Mx) {r s : Nat} (hr : r < n) (hs : s < n) (hne : r ≠ s) (u v : V) : det n (put (put D r u) s v) = - det n (put (put D r v) s u) := by
 have key : ∀ w : V, det n (put (put D r w) s w) = 0 := fun w => by
   have := zPx n (put D s w) hr hs hne
   rw [show put D s w s = w by simp [put]] at this
   rwa [zEj D w w hne]
 have h0 := key (fun c => u c + v c)
 have add0 : ∀ w : V, det n (put (put D r (fun c => u c + v c)) s w) = det n (put (put D r u) s w) + det n (put (put D r v) s w) := fun w => by
   rw [zEj D _ w hne, zGi n _ _ _ _ hr, zEj D u w hne, zEj D v w hne]
 rw [zGi n _ _ _ _ hs, add0, add0] at h0
 have h1 := key u
 have h2 := key v
 omega
theorem det_swp (n : Nat) (D : Mx) {i k : Nat} (hi : i < n) (hk : k < n) (hne : i ≠ k) : det n (fun a => D (swp i k a)) = - det n D := by
 have e1 : (fun a => D (swp i k a)) = put (put D i (D k)) k (D i) := by
   funext a
   unfold put swp
   by_cases h1 : a = k
   · rw [if_pos h1, if_pos h1]
   · by_cases h2 : a = i
     · rw [if_neg h1, if_pos h2, if_neg h1, if_pos h2]
     · rw [if_neg h1, if_neg h2, if_neg h1, if_neg h2]
 rw [e1, det_exch n D hi hk hne, zGb, zGb]
theorem sumZ_swp (f : Nat → Int) (n : Nat) {i k : Nat} (hi : i < n) (hk : k < n) : zCa (fun a => f (swp i k a)) n = zCa f n := by
 by_cases hne : i = k
 · subst hne
   refine zBT (fun a _ => ?_)
   unfold swp; split <;> simp_all
 have e : ∀ a, a < n → f (swp i k a) = f a + ((if a = i then f k - f i else 0) + (if a = k then f i - f k else 0)) := by
   intro a _
   unfold swp
   by_cases h1 : a = k
   · have h2 : ¬ a = i := fun e => hne (e.symm.trans h1)
     rw [if_pos h1, if_neg h2, if_pos h1, h1]; omega
   · by_cases h2 : a = i
     · rw [if_neg h1, if_pos h2, if_pos h2, if_neg h1, h2]; omega
     · rw [if_neg h1, if_neg h2, if_neg h2, if_neg h1]; omega
 rw [zBT e, zDx, zDx, zDz (f := fun a => if a = i then f k - f i else 0) i hi (fun a _ h => by simp [h]), zDz (f := fun a => if a = k then f i - f k else 0) k hk (fun a _ h => by simp [h])]
 simp; omega
/-- The table during the elimination, after so many columns. -/
structure RInv (n L B : Nat) (M : Tab) (c : Nat) (r : Red) : Prop where
 len : r.T.length = n
 row : ∀ x ∈ r.T, x.length = L
 pl : r.piv.length ≤ n
 pc : r.piv.length ≤ c
 full : r.piv.length = c → r.piv = List.range c
 last : r.last ≠ 0
 zero : ∀ i j, r.piv.length ≤ i → i < n → j < c → at2 r.T i j = 0
 base : ∃ (D : Mx) (s : Int), s * s = 1 ∧ det n D = s * r.last ∧ (∀ j, j < L → Sol n D r.last (fun a => at2 M a j) (fun i => at2 r.T i j)) ∧ (∀ a, a < r.piv.length → ∀ e, D a e = at2 M e (r.piv.getD a 0)) ∧ (∀ a e, a < n → e < n → (D a e).natAbs ≤ B)
theorem RInv.init {n L B : Nat} {M : Tab} (h1 : M.length = n) (h2 : ∀ x ∈ M, x.length = L) (hB : 1 ≤ B) : RInv n L B M 0 (redN M 0) where
 len := h1
 row := h2
 pl := Nat.zero_le _
 pc := Nat.zero_le _
 full := fun _ => rfl
 last := by show (1 : Int) ≠ 0; decide
 zero := fun i j _ _ hj => absurd hj (Nat.not_lt_zero _)
 base := by
   refine ⟨zG4, 1, rfl, by rw [zMw]; rfl, fun j _ e he => ?_, fun a ha => absurd ha (Nat.not_lt_zero _), fun a e _ _ => ?_⟩
   · rw [zDz e he (fun i _ hne => by simp [zG4, hne])]
     simp [zG4, redN]
   · unfold zG4; split <;> simp <;> omega
/-- Rows exchanged. -/
theorem RInv.swap {n L B c : Nat} {M : Tab} {r : Red} (h : RInv n L B M c r) {i : Nat} (hk : r.piv.length < n) (hki : r.piv.length ≤ i) (hi : i < n) : RInv n L B M c { r with T := zBK r.T i r.piv.length } where
 len := by rw [zFW]; exact h.len
 row := zRL _ (by rw [h.len]; exact hi) (by rw [h.len]; exact hk) h.row
 pl := h.pl
 pc := h.pc
 full := h.full
 last := h.last
 zero := fun a j h1 h2 h3 => by
   show at2 (zBK r.T i r.piv.length) a j = 0
   rw [zEc _ (by rw [h.len]; exact hi) (by rw [h.len]; exact hk)]
   have h1 : r.piv.length ≤ a := h1
   refine h.zero _ j ?_ ?_ h3
   · unfold swp; split; exact hki; split; exact Nat.le_refl _; exact h1
   · unfold swp; split; exact hi; split; exact hk; exact h2
 base := by
   obtain ⟨D, s, hs, hD, hS, hp, hB⟩ := h.base
   by_cases e : i = r.piv.length
   · have : zBK r.T i r.piv.length = r.T := by rw [e]; exact zPB _ (by rw [h.len]; exact hk)
     show ∃ (D : Mx) (s : Int), s * s = 1 ∧ det n D = s * r.last ∧ (∀ j, j < L → Sol n D r.last (fun a => at2 M a j) (fun a => at2 (zBK r.T i r.piv.length) a j)) ∧ (∀ a, a < r.piv.length → ∀ e, D a e = at2 M e (r.piv.getD a 0)) ∧ (∀ a e, a < n → e < n → (D a e).natAbs ≤ B)
     rw [this]
     exact ⟨D, s, hs, hD, hS, hp, hB⟩
   · refine ⟨fun a => D (swp i r.piv.length a), -s, by rw [Int.neg_mul_neg]; exact hs, by rw [det_swp n D hi hk e, hD, Int.neg_mul], fun j hj e he => ?_, fun a ha e => ?_, fun a e ha he => ?_⟩
     · have := hS j hj e he
       show zCa (fun a => at2 (zBK r.T i r.piv.length) a j * D (swp i r.piv.length a) e) n = r.last * at2 M e j
       rw [← this, ← sumZ_swp (fun a => at2 r.T a j * D a e) n hi hk]
       refine zBT (fun a _ => ?_)
       rw [zEc _ (by rw [h.len]; exact hi) (by rw [h.len]; exact hk)]
     · have ha : a < r.piv.length := ha
       have : swp i r.piv.length a = a := by unfold swp; rw [if_neg (by omega), if_neg (by omega)]
       show D (swp i r.piv.length a) e = _
       rw [this]; exact hp a ha e
     · refine hB _ e ?_ he
       unfold swp; split; exact hi; split; exact hk; exact ha
/-- One elimination. -/
theorem RInv.elim {n L B c : Nat} {M : Tab} {r : Red} (h : RInv n L B M c r) (hk : r.piv.length < n) (hc : c < L) (hp : at2 r.T r.piv.length c ≠ 0) (hB : ∀ a j, a < n → j < L → (at2 M a j).natAbs ≤ B) (b : Bool) :
   RInv n L B M (c + 1) ⟨zDR r.T r.piv.length c r.last, r.piv ++ [c], at2 r.T r.piv.length c, b⟩ ∧
   ∀ i j, i < n → i ≠ r.piv.length → j < L → at2 (zDR r.T r.piv.length c r.last) i j * r.last = at2 r.T i j * at2 r.T r.piv.length c - at2 r.T i c * at2 r.T r.piv.length j := by
 obtain ⟨D, s, hs, hD, hS, hpv, hBD⟩ := h.base
 have hl := h.len
 have hex : ∀ i j, i < n → i ≠ r.piv.length → j < L → r.last ∣ at2 r.T i j * at2 r.T r.piv.length c - at2 r.T i c * at2 r.T r.piv.length j := fun i j hi hne hj =>
   (zK5 h.last hs hD (hS c hc) (hS j hj) hk hp).1 i hi hne
 have hat : ∀ i j, i < n → j < L → at2 (zDR r.T r.piv.length c r.last) i j = if i = r.piv.length then at2 r.T r.piv.length j else (at2 r.T i j * at2 r.T r.piv.length c - at2 r.T i c * at2 r.T r.piv.length j) / r.last := by
   intro i j hi hj
   rw [zJ1 _ _ _ _ h.row (by omega) hj]
   by_cases e : i = r.piv.length
   · rw [if_pos e, if_pos e]
   · rw [if_neg e, if_neg e, zRT h.last (hex i j hi e hj)]
 refine ⟨⟨by rw [zRC]; exact hl, zQH _ _ _ _ (by omega) h.row, by simp; omega, by have := h.pc; simp; omega, fun hf => ?_, hp, fun i j h1 h2 h3 => ?_, ?_⟩, fun i j hi hne hj => ?_⟩
 · have hf : (r.piv ++ [c]).length = c + 1 := hf
   rw [List.length_append, List.length_singleton] at hf
   show r.piv ++ [c] = _
   rw [h.full (by omega), List.range_succ]
 · have h1 : (r.piv ++ [c]).length ≤ i := h1
   rw [List.length_append, List.length_singleton] at h1
   show at2 (zDR r.T r.piv.length c r.last) i j = 0
   rw [hat i j h2 (by omega), if_neg (by omega)]
   by_cases e : j = c
   · subst e
     rw [Int.sub_self, Int.zero_ediv]
   · rw [h.zero i j (by omega) h2 (by omega), h.zero r.piv.length j (Nat.le_refl _) hk (by omega), Int.zero_mul, Int.mul_zero, Int.sub_self, Int.zero_ediv]
 · refine ⟨put D r.piv.length (fun a => at2 M a c), s, hs, zLU h.last hs hD (hS c hc) hk, fun j hj e he => ?_, fun a ha e => ?_, fun a e ha he => ?_⟩
   · have h1 := (zK5 h.last hs hD (hS c hc) (hS j hj) hk hp).2 e he
     rw [← h1]
     refine zBT (fun i hi => ?_)
     show at2 (zDR r.T r.piv.length c r.last) i j * _ = _
     rw [hat i j hi hj]
   · have ha : a < (r.piv ++ [c]).length := ha
     rw [List.length_append, List.length_singleton] at ha
     show put D r.piv.length (fun a => at2 M a c) a e = at2 M e ((r.piv ++ [c]).getD a 0)
     by_cases e1 : a = r.piv.length
     · subst e1
       simp [put, List.getD]
     · have h2 : a < r.piv.length := by omega
       have h3 := hpv a h2 e
       simp only [put, e1, if_false]
       rw [h3]
       simp [List.getD, List.getElem?_append_left h2]
   · unfold put
     split
     · exact hB e c he hc
     · exact hBD a e ha he
 · rw [hat i j hi hj, if_neg hne, Int.ediv_mul_cancel (hex i j hi hne hj)]
/-- A column without a pivot. -/
theorem RInv.none {n L B c : Nat} {M : Tab} {r : Red} (h : RInv n L B M c r) (hz : ∀ i, r.piv.length ≤ i → i < n → at2 r.T i c = 0) : RInv n L B M (c + 1) r where
 len := h.len
 row := h.row
 pl := h.pl
 pc := by have := h.pc; omega
 full := fun e => absurd e (by have := h.pc; omega)
 last := h.last
 zero := fun i j h1 h2 h3 => by
   by_cases e : j = c
   · subst e; exact hz i h1 h2
   · exact h.zero i j h1 h2 (by omega)
 base := h.base
theorem RInv.col {n L B c : Nat} {M : Tab} {r : Red} (h : RInv n L B M c r) (hc : c < L) (hB : ∀ a j, a < n → j < L → (at2 M a j).natAbs ≤ B) : RInv n L B M (c + 1) (zIS r c) := by
 unfold zIS
 by_cases h1 : r.T.length ≤ r.piv.length
 · rw [if_pos h1]
   exact h.none (fun i h2 h3 => absurd h3 (by have := h.len; omega))
 rw [if_neg h1]
 have hl := h.len
 have hk : r.piv.length < n := by omega
 obtain ⟨p1, p2, p3, p4⟩ := zII r.T c (r.T.length - r.piv.length) r.piv.length
 rw [show r.piv.length + (r.T.length - r.piv.length) = r.T.length by omega] at p2 p4
 by_cases h2 : zFe r.T c (r.T.length - r.piv.length) r.piv.length = r.T.length
 · rw [if_pos h2]
   exact h.none (fun i h3 h4 => p3 i h3 (by omega))
 rw [if_neg h2]
 have hi : zFe r.T c (r.T.length - r.piv.length) r.piv.length < n := by omega
 have hs := h.swap hk p1 hi
 refine (hs.elim hk hc ?_ hB _).1
 show at2 (zBK r.T _ r.piv.length) r.piv.length c ≠ 0
 rw [zEc _ (by omega) (by omega)]
 have : ∀ i k, swp i k k = i := fun i k => by unfold swp; rw [if_pos rfl]
 rw [this]
 exact p4 (by omega)
theorem RInv.all {n L B w : Nat} {M : Tab} (h1 : M.length = n) (h2 : ∀ x ∈ M, x.length = L) (h3 : 1 ≤ B) (hw : w ≤ L) (hB : ∀ a j, a < n → j < L → (at2 M a j).natAbs ≤ B) : RInv n L B M w (redN M w) := by
 induction w with
 | zero => exact RInv.init h1 h2 h3
 | succ c ih => exact (ih (by omega)).col (by omega) hB
/-- Rows that are proportional have their pivots in the same places. -/
structure Prop2 (n w : Nat) (r r' : Red) : Prop where
 piv : r'.piv = r.piv
 rows : ∀ i, i < n → ∃ α β : Int, α ≠ 0 ∧ β ≠ 0 ∧ ∀ j, j < w → α * at2 r'.T i j = β * at2 r.T i j
theorem zKt {n : Nat} {T T' : Tab} {c : Nat} (h : ∀ i, i < n → (at2 T' i c = 0 ↔ at2 T i c = 0)) : ∀ f i, i + f ≤ n → zFe T' c f i = zFe T c f i
 | 0, i, _ => rfl
 | f + 1, i, hi => by
   rw [zFe, zFe]
   by_cases e : at2 T i c = 0
   · rw [if_pos e, if_pos ((h i (by omega)).2 e)]
     exact zKt h f (i + 1) (by omega)
   · rw [if_neg e, if_neg (fun q => e ((h i (by omega)).1 q))]
theorem Prop2.zero {n w : Nat} {r r' : Red} (h : Prop2 n w r r') {i j : Nat} (hi : i < n) (hj : j < w) : at2 r'.T i j = 0 ↔ at2 r.T i j = 0 := by
 obtain ⟨α, β, ha, hb, he⟩ := h.rows i hi
 have := he j hj
 constructor
 · intro e; rw [e, Int.mul_zero] at this
   rcases Int.mul_eq_zero.1 this.symm with q | q
   · exact absurd q hb
   · exact q
 · intro e; rw [e, Int.mul_zero] at this
   rcases Int.mul_eq_zero.1 this with q | q
   · exact absurd q ha
   · exact q
theorem Prop2.col {n w L L' B B' c : Nat} {M M' : Tab} {r r' : Red} (h : Prop2 n w r r') (hr : RInv n L B M c r) (hr' : RInv n L' B' M' c r') (hc : c < w) (hw : w ≤ L) (hw' : w ≤ L')
   (hB : ∀ a j, a < n → j < L → (at2 M a j).natAbs ≤ B) (hB' : ∀ a j, a < n → j < L' → (at2 M' a j).natAbs ≤ B') : Prop2 n w (zIS r c) (zIS r' c) := by
 have hl := hr.len
 have hl' := hr'.len
 have hpp := h.piv
 unfold zIS
 rw [hpp, hl, hl']
 by_cases h1 : n ≤ r.piv.length
 · rw [if_pos h1, if_pos h1]; exact h
 rw [if_neg h1, if_neg h1]
 have hk : r.piv.length < n := by omega
 have hsame := zKt (fun i hi => h.zero (j := c) hi hc) (n - r.piv.length) r.piv.length (by omega)
 rw [hsame]
 obtain ⟨p1, p2, p3, p4⟩ := zII r.T c (n - r.piv.length) r.piv.length
 rw [show r.piv.length + (n - r.piv.length) = n by omega] at p2 p4
 generalize zFe r.T c (n - r.piv.length) r.piv.length = i at *
 by_cases h2 : i = n
 · rw [if_pos h2, if_pos h2]; exact h
 rw [if_neg h2, if_neg h2]
 have hi : i < n := by omega
 have hsw : ∀ i k, swp i k k = i := fun i k => by unfold swp; rw [if_pos rfl]
 have hs := hr.swap hk p1 hi
 have hs' := hr'.swap (by rw [hpp]; exact hk) (by rw [hpp]; exact p1) hi
 have n1 : at2 (zBK r.T i r.piv.length) r.piv.length c ≠ 0 := by
   rw [zEc _ (by omega) (by omega), hsw]; exact p4 hi
 have n2 : at2 (zBK r'.T i r'.piv.length) r'.piv.length c ≠ 0 := by
   rw [zEc _ (by omega) (by rw [hpp]; omega), hsw]
   exact fun q => p4 hi ((h.zero hi hc).1 q)
 have e1 := (hs.elim hk (by omega) n1 hB true).2
 have e2 := (hs'.elim (by rw [hpp]; exact hk) (by omega) n2 hB' true).2
 simp only [hpp] at e2 n2
 have hsr : ∀ a, a < n → ∃ α β : Int, α ≠ 0 ∧ β ≠ 0 ∧ ∀ j, j < w → α * at2 (zBK r'.T i r.piv.length) a j = β * at2 (zBK r.T i r.piv.length) a j := by
   intro a ha
   have hb : swp i r.piv.length a < n := by unfold swp; split; exact hi; split; exact hk; exact ha
   obtain ⟨α, β, q1, q2, q3⟩ := h.rows _ hb
   refine ⟨α, β, q1, q2, fun j hj => ?_⟩
   rw [zEc _ (by omega) (by omega), zEc _ (by omega) (by omega)]
   exact q3 j hj
 refine ⟨rfl, fun a ha => ?_⟩
 obtain ⟨α, β, q1, q2, q3⟩ := hsr a ha
 by_cases hak : a = r.piv.length
 · refine ⟨α, β, q1, q2, fun j hj => ?_⟩
   show α * at2 (zDR (zBK r'.T i r.piv.length) r.piv.length c r'.last) a j = β * at2 (zDR (zBK r.T i r.piv.length) r.piv.length c r.last) a j
   rw [zJ1 _ _ _ _ hs.row (by rw [zFW]; omega) (by omega), zJ1 (zBK r'.T i r.piv.length) _ _ _ (by have := hs'.row; simp only [hpp] at this; exact this) (by rw [zFW]; omega) (by omega : j < L'), if_pos hak, if_pos hak]
   rw [hak] at q3
   exact q3 j hj
 · obtain ⟨γ, δ, k1, k2, k3⟩ := hsr r.piv.length hk
   refine ⟨α * γ * r'.last, β * δ * r.last, Int.mul_ne_zero (Int.mul_ne_zero q1 k1) hr'.last, Int.mul_ne_zero (Int.mul_ne_zero q2 k2) hr.last, fun j hj => ?_⟩
   have z1 := e1 a j ha hak (by omega)
   have z2 := e2 a j ha hak (by omega)
   have aj := q3 j hj
   have ac := q3 c hc
   have kj := k3 j hj
   have kc := k3 c hc
   show α * γ * r'.last * at2 (zDR (zBK r'.T i r.piv.length) r.piv.length c r'.last) a j = β * δ * r.last * at2 (zDR (zBK r.T i r.piv.length) r.piv.length c r.last) a j
   generalize at2 (zDR (zBK r'.T i r.piv.length) r.piv.length c r'.last) a j = X' at *
   generalize at2 (zDR (zBK r.T i r.piv.length) r.piv.length c r.last) a j = X at *
   generalize at2 (zBK r'.T i r.piv.length) a j = A' at *
   generalize at2 (zBK r.T i r.piv.length) a j = A at *
   generalize at2 (zBK r'.T i r.piv.length) a c = C' at *
   generalize at2 (zBK r.T i r.piv.length) a c = C at *
   generalize at2 (zBK r'.T i r.piv.length) r.piv.length j = K' at *
   generalize at2 (zBK r.T i r.piv.length) r.piv.length j = K at *
   generalize at2 (zBK r'.T i r.piv.length) r.piv.length c = P' at *
   generalize at2 (zBK r.T i r.piv.length) r.piv.length c = P at *
   generalize r'.last = l' at *
   generalize r.last = l at *
   have w1 : α * γ * l' * X' = (α * A') * (γ * P') - (α * C') * (γ * K') := by
     rw [show α * γ * l' * X' = α * γ * (X' * l') by grind, z2]; grind
   have w2 : β * δ * l * X = (β * A) * (δ * P) - (β * C) * (δ * K) := by
     rw [show β * δ * l * X = β * δ * (X * l) by grind, z1]; grind
   rw [w1, w2, aj, ac, kj, kc]
theorem Prop2.all {n w L L' B B' : Nat} {M M' : Tab} (h1 : M.length = n) (h2 : ∀ x ∈ M, x.length = L) (h1' : M'.length = n) (h2' : ∀ x ∈ M', x.length = L') (h3 : 1 ≤ B) (h3' : 1 ≤ B') (hw : w ≤ L) (hw' : w ≤ L')
   (hB : ∀ a j, a < n → j < L → (at2 M a j).natAbs ≤ B) (hB' : ∀ a j, a < n → j < L' → (at2 M' a j).natAbs ≤ B') (hs : ∀ i, i < n → ∃ α β : Int, α ≠ 0 ∧ β ≠ 0 ∧ ∀ j, j < w → α * at2 M' i j = β * at2 M i j) :
   ∀ c, c ≤ w → Prop2 n w (redN M c) (redN M' c)
 | 0, _ => ⟨rfl, hs⟩
 | c + 1, hc => (Prop2.all h1 h2 h1' h2' h3 h3' hw hw' hB hB' hs c (by omega)).col (RInv.all h1 h2 h3 (by omega) hB) (RInv.all h1' h2' h3' (by omega) hB') (by omega) hw hw' hB hB'
end Go.Ax.Dt
namespace Go.Ax.Rt
open Go.Ax.Bg Go.Ax.Dt
theorem zu {α : Type} {l : List α} {j : Nat} (d : α) (h : j < l.length) : l.getD j d = l[j] := by simp [List.getD, h]
theorem zAR {α : Type} {l : List α} {j : Nat} (d : α) (h : j < l.length) : l.getD j d ∈ l := by rw [zu d h]; exact List.getElem_mem h
theorem zHm {α : Type} {l r : List α} {j : Nat} (d : α) (h : j < l.length) : (l ++ r).getD j d = l.getD j d := by simp [List.getD, List.getElem?_append_left h]
theorem zPN {α : Type} {l : List α} {x d : α} : (l ++ [x]).getD l.length d = x := by simp [List.getD]
theorem num_den (q : Rat) : q * (q.den : Rat) = (q.num : Rat) := by
 have h : ((q.den : Int) : Rat) ≠ 0 := fun e => q.den_nz (by
   have := congrArg Rat.num e
   simpa using this)
 have h2 := Rat.num_divInt_den q
 rw [Rat.divInt_eq_div] at h2
 conv => lhs; lhs; rw [← h2]
 rw [← Rat.intCast_natCast, Rat.div_mul_cancel h]
/-- The factor that makes a row whole. -/
def facF : Nat → List Rat → Nat
 | f, [] => f
 | f, q :: r => facF (f * (q.den / Nat.gcd f q.den)) r
def wholeL (l : List Rat) : List Int := l.map (fun q => q.num * ((facF 1 l / q.den : Nat) : Int))
/-- SolveOf: rows with the right side at their end. -/
def solT (rows : List (List Rat)) (w : Nat) : Red := redN (rows.map wholeL) w
def zO0 (rows : List (List Rat)) (w : Nat) : List Rat × Int :=
 if ((solT rows w).T.drop (solT rows w).piv.length).any (fun r => decide (r.getD w 0 ≠ 0)) then ([], 8)
 else if (solT rows w).piv.length < w then ([], 18)
 else ((List.range w).map (fun k => Rat.divInt (at2 (solT rows w).T k w) (at2 (solT rows w).T k k)), 0)
def augQ (m : List (List Rat)) (b : List Rat) : List (List Rat) := (List.range m.length).map (fun i => m.getD i [] ++ [b.getD i 0])
/-- matrix.Solve -/
def solveR (m : List (List zAK)) (b : List zAK) : List zAK × Int :=
 if zHq m ≠ 0 then ([], zHq m) else if zJG b ≠ 0 then ([], zJG b) else if b.length ≠ m.length then ([], 3)
 else if (zO0 (augQ (inM m) (b.map zAB)) (zEG m)).2 ≠ 0 then ([], (zO0 (augQ (inM m) (b.map zAB)) (zEG m)).2) else zBG (zO0 (augQ (inM m) (b.map zAB)) (zEG m)).1
def zPu : Nat → List (List Rat) → Nat
 | f, [] => f
 | f, r :: rs => zPu (f * facF 1 r) rs
def detQ (rows : List (List Rat)) : Rat := Rat.divInt (if (solT rows rows.length).neg then -(solT rows rows.length).last else (solT rows rows.length).last) (zPu 1 rows : Nat)
/-- matrix.Det -/
def detR (m : List (List zAK)) : zAK × Int :=
 if zHq m ≠ 0 then ([], zHq m) else if m.length ≠ zEG m then ([], 3)
 else if (solT (inM m) m.length).piv.length < m.length then ([48], 0) else zFI (detQ (inM m))
theorem zOh {a x y : Rat} (ha : a ≠ 0) (h : a * x = a * y) : x = y := by
 have h1 : a⁻¹ * (a * x) = a⁻¹ * (a * y) := by rw [h]
 rwa [← Rat.mul_assoc, ← Rat.mul_assoc, Rat.inv_mul_cancel a ha, Rat.one_mul, Rat.one_mul] at h1
theorem intc_ne {x : Int} (h : x ≠ 0) : (x : Rat) ≠ 0 := fun e => h (by
 have := congrArg Rat.num e
 simpa using this)
end Go.Ax.Rt
namespace Go.Ax.Rt
open Go.Ax.Bg Go.Ax.Dt
theorem dig_D {k : Nat} {q : Rat} (h1 : (Lib.decDigits q.num.natAbs).length ≤ k) (h2 : (Lib.decDigits q.den).length ≤ k) : D k q :=
 ⟨Nat.lt_of_lt_of_le (zEQ _) (Nat.pow_le_pow_right (by decide) h1), Nat.lt_of_lt_of_le (zEQ _) (Nat.pow_le_pow_right (by decide) h2)⟩
end Go.Ax.Rt
namespace Go.Ax.Rt
open Go.Ax.Bg
structure TNode where
 kind : Int
 player : Int
 info : Int
 next : List Int
 odds : List zAK
 pay : zAK
 deriving DecidableEq
def node0 : TNode := ⟨0, 0, 0, [], [], []⟩
abbrev zS := List TNode
def zEW (N i : Nat) (k : Int) : Bool := decide (k ≤ (i : Int)) || decide ((N : Int) ≤ k)
/-- the error of the children of a node -/
def zGA (N i : Nat) (l : List Int) : Int := if l.length = 0 then 3 else if 6 < l.length then 2 else if l.any (zEW N i) = true then 3 else 0
def zEE (N i : Nat) (n : TNode) : Int :=
 if n.kind = 0 then (if n.player ≠ 0 ∨ n.info ≠ 0 ∨ n.next ≠ [] ∨ n.odds ≠ [] then 3 else zCi n.pay)
 else if n.kind = 1 then (if n.player ≠ 0 ∨ n.info ≠ 0 ∨ n.pay ≠ [] then 3 else if zGA N i n.next ≠ 0 then zGA N i n.next else if n.odds.length ≠ n.next.length then 3 else zCV n.odds)
 else if n.kind = 2 then (if n.odds ≠ [] ∨ n.pay ≠ [] then 3 else if (n.player ≠ 0 ∧ n.player ≠ 1) ∨ n.info < 0 ∨ 10 ≤ n.info then 4 else zGA N i n.next)
 else 1
def zEn (N : Nat) : Nat → zS → Int
 | _, [] => 0
 | i, n :: r => if zEE N i n = 0 then zEn N (i + 1) r else zEE N i n
/-- how often a node is named -/
def named (t : zS) (k : Nat) : Nat := ((t.flatMap TNode.next).filter (fun x => decide (x = (k : Int)))).length
def zG3 (a b : TNode) : Bool := decide (a.kind = 2) && (decide (b.kind = 2) && (decide (a.player = b.player) && (decide (a.info = b.info) && decide (a.next.length ≠ b.next.length))))
def zJA (t : zS) : Int :=
 if 120 < t.length then 2 else if t.length = 0 then 8 else if zEn t.length 0 t ≠ 0 then zEn t.length 0 t
 else if (List.range t.length).any (fun k => decide (k ≠ 0) && decide (named t k ≠ 1)) = true then 3
 else if t.any (fun a => t.any (zG3 a)) = true then 3 else 0
def zAh (t : zS) (p : Int) : Int := if zJA t ≠ 0 then zJA t else if p ≠ 0 ∧ p ≠ 1 then 4 else 0
/-- Is it the player's move, in an information set? -/
def own (p : Int) (n : TNode) : Bool := decide (n.kind = 2) && decide (n.player = p)
def zBJ (p i : Int) (n : TNode) : Bool := own p n && decide (n.info = i)
/-- the first node of an information set -/
def zJR (t : zS) (p i : Int) : Nat := t.findIdx (zBJ p i)
def zJ (t : zS) (p : Int) : List Int := ((List.range 10).map (fun i : Nat => (i : Int))).filter (fun i => t.any (zBJ p i))
def zT (t : zS) (p i : Int) : Nat := (t.getD (zJR t p i) node0).next.length
def zAE (t : zS) (p : Int) : List Int := (zJ t p).map (fun i => ((zT t p i : Nat) : Int))
/-- What a valid game is. -/
structure Valid (t : zS) : Prop where
 le : t.length ≤ 120
 ne : t.length ≠ 0
 nodes : ∀ i, i < t.length → zEE t.length i (t.getD i node0) = 0
 once : ∀ k, k < t.length → k ≠ 0 → named t k = 1
 same : ∀ a ∈ t, ∀ b ∈ t, zG3 a b = false
theorem zLe (N : Nat) : ∀ (t : zS) (i : Nat), zEn N i t = 0 → ∀ j, j < t.length → zEE N (i + j) (t.getD j node0) = 0
 | [], i, _, j, hj => absurd hj (Nat.not_lt_zero _)
 | n :: r, i, h, j, hj => by
   rw [zEn] at h
   split at h
   · rename_i h0
     cases j with
     | zero => exact h0
     | succ j =>
       have := zLe N r (i + 1) h j (by simpa using hj)
       rw [show i + (j + 1) = i + 1 + j by omega]
       exact this
   · rename_i h0; exact absurd h h0
theorem zMc {t : zS} (h : zJA t = 0) : Valid t := by
 unfold zJA at h
 split at h
 · cases h
 split at h
 · cases h
 split at h
 · rename_i h3; exact absurd h h3
 split at h
 · cases h
 split at h
 · cases h
 rename_i h1 h2 h3 h4 h5
 refine ⟨by omega, h2, fun i hi => ?_, fun k hk h0 => ?_, fun a ha b hb => ?_⟩
 · have := zLe t.length t 0 (Classical.not_not.1 h3) i hi
   rwa [Nat.zero_add] at this
 · rw [Bool.not_eq_true, List.any_eq_false] at h4
   have := h4 k (by simpa using hk)
   simp only [Bool.and_eq_true, decide_eq_true_eq, not_and] at this
   exact Classical.not_not.1 (this h0)
 · rw [Bool.not_eq_true, List.any_eq_false] at h5
   have := h5 a ha
   rw [List.any_eq_true] at this
   cases hc : zG3 a b
   · rfl
   · exact absurd ⟨b, hb, hc⟩ this
/-- The children stand behind their parent. -/
theorem zB2 {N i : Nat} {l : List Int} (h : zGA N i l = 0) : 1 ≤ l.length ∧ l.length ≤ 6 ∧ ∀ k ∈ l, (i : Int) < k ∧ k < N := by
 unfold zGA at h
 split at h
 · cases h
 split at h
 · cases h
 split at h
 · cases h
 rename_i h1 h2 h3
 refine ⟨by omega, by omega, fun k hk => ?_⟩
 rw [Bool.not_eq_true, List.any_eq_false] at h3
 have := h3 k hk
 unfold zEW at this
 simp only [Bool.or_eq_true, decide_eq_true_eq, not_or] at this
 omega
theorem Valid.child {t : zS} (h : Valid t) {i : Nat} (hi : i < t.length) : ((t.getD i node0).kind = 0 ∧ (t.getD i node0).next = []) ∨ (((t.getD i node0).kind = 1 ∨ (t.getD i node0).kind = 2) ∧ zGA t.length i (t.getD i node0).next = 0) := by
 have hn := h.nodes i hi
 unfold zEE at hn
 split at hn
 · rename_i h0
   split at hn
   · cases hn
   · rename_i h1
     simp only [not_or] at h1
     exact .inl ⟨h0, Classical.not_not.1 h1.2.2.1⟩
 · split at hn
   · rename_i h1
     split at hn
     · cases hn
     split at hn
     · rename_i h2; exact absurd hn h2
     rename_i h2 h3
     exact .inr ⟨.inl h1, Classical.not_not.1 h3⟩
   · split at hn
     · rename_i h2
       split at hn
       · cases hn
       split at hn
       · cases hn
       exact .inr ⟨.inr h2, hn⟩
     · cases hn
theorem Valid.behind {t : zS} (h : Valid t) {i : Nat} (hi : i < t.length) : ∀ k ∈ (t.getD i node0).next, (i : Int) < k ∧ k < t.length := by
 rcases h.child hi with ⟨_, h2⟩ | ⟨_, h2⟩
 · rw [h2]; intro k hk; simp at hk
 · exact (zB2 h2).2.2
theorem Valid.few {t : zS} (h : Valid t) {i : Nat} (hi : i < t.length) : (t.getD i node0).next.length ≤ 6 := by
 rcases h.child hi with ⟨_, h2⟩ | ⟨_, h2⟩
 · rw [h2]; exact Nat.zero_le _
 · exact (zB2 h2).2.1
theorem Valid.mine {t : zS} (h : Valid t) {i : Nat} (hi : i < t.length) {p : Int} (ho : own p (t.getD i node0) = true) : 0 ≤ (t.getD i node0).info ∧ (t.getD i node0).info < 10 ∧ 1 ≤ (t.getD i node0).next.length := by
 unfold own at ho
 rw [Bool.and_eq_true, decide_eq_true_eq, decide_eq_true_eq] at ho
 have hn := h.nodes i hi
 unfold zEE at hn
 rw [if_neg (by rw [ho.1]; decide), if_neg (by rw [ho.1]; decide), if_pos ho.1] at hn
 split at hn
 · cases hn
 split at hn
 · cases hn
 rename_i h1 h2
 simp only [not_or] at h2
 have := zB2 hn
 exact ⟨by omega, by omega, this.1⟩
/-- Nodes of one set have equally many choices. -/
theorem Valid.width {t : zS} (h : Valid t) {i j : Nat} (hi : i < t.length) (hj : j < t.length) {p : Int} (hio : own p (t.getD i node0) = true) (hjo : own p (t.getD j node0) = true) (he : (t.getD i node0).info = (t.getD j node0).info) : (t.getD i node0).next.length = (t.getD j node0).next.length := by
 have hc := h.same _ (zAR node0 hi) _ (zAR node0 hj)
 unfold own at hio hjo
 rw [Bool.and_eq_true, decide_eq_true_eq, decide_eq_true_eq] at hio hjo
 unfold zG3 at hc
 rw [decide_eq_true hio.1, decide_eq_true hjo.1, decide_eq_true (by rw [hio.2, hjo.2]), decide_eq_true he, Bool.true_and, Bool.true_and, Bool.true_and, Bool.true_and, decide_eq_false_iff_not] at hc
 exact Classical.not_not.1 hc
end Go.Ax.Rt
namespace Go.Ax.Rt
open Go.Ax.Bg
/-- how often 0, 1, .. N-1 occur -/
def zDy (N : Nat) (l : List Int) : List Int := (List.range N).map (fun k : Nat => (((l.filter (fun x => decide (x = (k : Int)))).length : Nat) : Int))
theorem zEl (N : Nat) (l : List Int) : (zDy N l).length = N := by simp [zDy]
theorem zKd {N : Nat} {l : List Int} {k : Nat} (hk : k < N) : (zDy N l).getD k 0 = (((l.filter (fun x => decide (x = (k : Int)))).length : Nat) : Int) := by simp [zDy, List.getD, hk]
theorem cntT_nil (N : Nat) : zDy N [] = List.replicate N 0 := by
 apply List.ext_getElem (by simp [zDy])
 intro i h1 h2
 simp [zDy]
theorem zQ8 {N : Nat} (l : List Int) {x : Int} (h0 : 0 ≤ x) (h1 : x < N) : zDy N (l ++ [x]) = (zDy N l).set x.toNat ((zDy N l).getD x.toNat 0 + 1) := by
 rw [zKd (by omega)]
 apply List.ext_getElem (by simp [zDy])
 intro i i1 i2
 rw [List.getElem_set]
 have hi : i < N := by simpa [zDy] using i1
 simp only [zDy, List.getElem_map, List.getElem_range, List.filter_append, List.length_append]
 by_cases h : x.toNat = i
 · rw [if_pos h, h]
   have : x = (i : Int) := by omega
   simp [this]
 · rw [if_neg h]
   have : ¬ x = (i : Int) := by omega
   simp [this]
theorem cntT_le (N : Nat) (l : List Int) (k : Nat) : 0 ≤ (zDy N l).getD k 0 ∧ (zDy N l).getD k 0 ≤ l.length := by
 by_cases hk : k < N
 · rw [zKd hk]
   have := List.length_filter_le (fun x => decide (x = (k : Int))) l
   omega
 · have : (zDy N l).getD k 0 = 0 := by simp [zDy, List.getD, hk]
   rw [this]; omega
theorem zJT (t : zS) {k : Nat} (hk : k < t.length) : (zDy t.length (t.flatMap TNode.next)).getD k 0 = ((named t k : Nat) : Int) := zKd hk
/-- All but the first are named once. -/
theorem zQG {t : zS} (h0 : t.length ≠ 0) : ((zDy t.length (t.flatMap TNode.next)).drop 1).any (fun n => decide (n ≠ 1)) = (List.range t.length).any (fun k => decide (k ≠ 0) && decide (named t k ≠ 1)) := by
 rw [Bool.eq_iff_iff, List.any_eq_true, List.any_eq_true]
 constructor
 · rintro ⟨x, hx, h⟩
   obtain ⟨i, hi, rfl⟩ := List.mem_iff_getElem.1 hx
   rw [List.length_drop, zEl] at hi
   refine ⟨1 + i, by simp; omega, ?_⟩
   rw [List.getElem_drop] at h
   have e := zJT t (k := 1 + i) (by omega)
   rw [zu 0 (by rw [zEl]; omega)] at e
   rw [e] at h
   simp only [Bool.and_eq_true, decide_eq_true_eq] at h ⊢
   exact ⟨by omega, by omega⟩
 · rintro ⟨k, hk, h⟩
   have hk : k < t.length := by simpa using hk
   simp only [Bool.and_eq_true, decide_eq_true_eq] at h
   have e := zJT t hk
   refine ⟨_, List.mem_iff_getElem.2 ⟨k - 1, by rw [List.length_drop, zEl]; omega, rfl⟩, ?_⟩
   rw [List.getElem_drop]
   rw [zu 0 (by rw [zEl]; omega)] at e
   have e2 : (zDy t.length (t.flatMap TNode.next))[1 + (k - 1)]'(by rw [zEl]; omega) = ((named t k : Nat) : Int) := by
     rw [← e]; congr 1; omega
   rw [e2, decide_eq_true_eq]
   omega
/-- the sizes of the information sets, as the loop finds them -/
abbrev KSz := List (Int × Int × Nat)
def kstep (S : KSz) (n : TNode) : KSz := if n.kind = 2 ∧ ∀ e ∈ S, ¬ (e.1 = n.player ∧ e.2.1 = n.info) then S ++ [(n.player, n.info, n.next.length)] else S
def ktab (t : zS) : KSz := t.foldl kstep []
def zJP (t : zS) : Prop := ∀ a ∈ t, ∀ b ∈ t, zG3 a b = false
structure KInv (t : zS) (S : KSz) : Prop where
 free : zJP t
 from_ : ∀ e ∈ S, ∃ b ∈ t, b.kind = 2 ∧ b.player = e.1 ∧ b.info = e.2.1 ∧ b.next.length = e.2.2
 all : ∀ a ∈ t, a.kind = 2 → ∃ e ∈ S, e.1 = a.player ∧ e.2.1 = a.info
theorem zM1 {a b : TNode} : zG3 a b = true ↔ a.kind = 2 ∧ b.kind = 2 ∧ a.player = b.player ∧ a.info = b.info ∧ a.next.length ≠ b.next.length := by
 unfold zG3
 simp only [Bool.and_eq_true, decide_eq_true_eq]
theorem zKA {a b : TNode} : zG3 a b = false ↔ (a.kind = 2 → b.kind = 2 → a.player = b.player → a.info = b.info → a.next.length = b.next.length) := by
 rw [← Bool.not_eq_true, zM1]
 constructor
 · intro h h1 h2 h3 h4
   exact Classical.not_not.1 (fun h5 => h ⟨h1, h2, h3, h4, h5⟩)
 · rintro h ⟨h1, h2, h3, h4, h5⟩
   exact h5 (h h1 h2 h3 h4)
theorem KInv.nil : KInv [] [] := ⟨fun a ha => by simp at ha, fun e he => by simp at he, fun a ha => by simp at ha⟩
theorem zFr {t : zS} {n : TNode} (h : zJP t) (hn : ∀ a ∈ t, n.kind = 2 → a.kind = 2 → a.player = n.player → a.info = n.info → a.next.length = n.next.length) : zJP (t ++ [n]) := by
 intro a ha0 b hb0
 rw [zKA]
 intro k1 k2 k3 k4
 rcases List.mem_append.1 ha0 with ha | ha <;> rcases List.mem_append.1 hb0 with hb | hb
 · exact zKA.1 (h a ha b hb) k1 k2 k3 k4
 · have e := List.mem_singleton.1 hb
   rw [e] at k2 k3 k4 ⊢
   exact hn a ha k2 k1 k3 k4
 · have e := List.mem_singleton.1 ha
   rw [e] at k1 k3 k4 ⊢
   exact (hn b hb k1 k2 k3.symm k4.symm).symm
 · rw [List.mem_singleton.1 ha, List.mem_singleton.1 hb]
theorem KInv.skip {t : zS} {S : KSz} {n : TNode} (h : KInv t S) (hk : n.kind ≠ 2) : KInv (t ++ [n]) S :=
 ⟨zFr h.free (fun a _ h1 => absurd h1 hk), fun e he => by
   obtain ⟨b, hb, q⟩ := h.from_ e he
   exact ⟨b, List.mem_append_left _ hb, q⟩, fun a ha h1 => by
   rcases List.mem_append.1 ha with ha | ha
   · exact h.all a ha h1
   · rw [List.mem_singleton.1 ha] at h1; exact absurd h1 hk⟩
theorem KInv.hit {t : zS} {S : KSz} {n : TNode} {e : Int × Int × Nat} (h : KInv t S) (he : e ∈ S) (h1 : e.1 = n.player) (h2 : e.2.1 = n.info) (h3 : e.2.2 = n.next.length) : KInv (t ++ [n]) S :=
 ⟨zFr h.free (fun a ha q1 q2 q3 q4 => by
   obtain ⟨b, hb, p1, p2, p3, p4⟩ := h.from_ e he
   have := zKA.1 (h.free a ha b hb) q2 p1 (by rw [q3, p2, h1]) (by rw [q4, p3, h2])
   rw [this, p4, h3]), fun e he => by
   obtain ⟨b, hb, q⟩ := h.from_ e he
   exact ⟨b, List.mem_append_left _ hb, q⟩, fun a ha q1 => by
   rcases List.mem_append.1 ha with ha | ha
   · exact h.all a ha q1
   · rw [List.mem_singleton.1 ha]; exact ⟨e, he, h1, h2⟩⟩
theorem KInv.miss {t : zS} {S : KSz} {n : TNode} (h : KInv t S) (hk : n.kind = 2) (hm : ∀ e ∈ S, ¬ (e.1 = n.player ∧ e.2.1 = n.info)) : KInv (t ++ [n]) (S ++ [(n.player, n.info, n.next.length)]) :=
 ⟨zFr h.free (fun a ha q1 q2 q3 q4 => by
   obtain ⟨e, he, p1, p2⟩ := h.all a ha q2
   exact absurd ⟨by rw [p1, q3], by rw [p2, q4]⟩ (hm e he)), fun e he => by
   rcases List.mem_append.1 he with he | he
   · obtain ⟨b, hb, q⟩ := h.from_ e he
     exact ⟨b, List.mem_append_left _ hb, q⟩
   · rw [List.mem_singleton.1 he]
     exact ⟨n, by simp, hk, rfl, rfl, rfl⟩, fun a ha q1 => by
   rcases List.mem_append.1 ha with ha | ha
   · obtain ⟨e, he, q⟩ := h.all a ha q1
     exact ⟨e, List.mem_append_left _ he, q⟩
   · rw [List.mem_singleton.1 ha]; exact ⟨_, List.mem_append_right _ (List.mem_singleton.2 rfl), rfl, rfl⟩⟩
theorem KInv.bad {t T : zS} {S : KSz} {n : TNode} {e : Int × Int × Nat} (h : KInv t S) (hT : ∀ a ∈ t, a ∈ T) (hn : n ∈ T) (hk : n.kind = 2) (he : e ∈ S) (h1 : e.1 = n.player) (h2 : e.2.1 = n.info) (h3 : e.2.2 ≠ n.next.length) : T.any (fun a => T.any (zG3 a)) = true := by
 obtain ⟨b, hb, p1, p2, p3, p4⟩ := h.from_ e he
 rw [List.any_eq_true]
 refine ⟨b, hT b hb, ?_⟩
 rw [List.any_eq_true]
 exact ⟨n, hn, zM1.2 ⟨p1, hk, by rw [p2, h1], by rw [p3, h2], by rw [p4]; exact h3⟩⟩
theorem zMz {t : zS} (h : zJP t) : t.any (fun a => t.any (zG3 a)) = false := by
 rw [List.any_eq_false]
 intro a ha h1
 obtain ⟨b, hb, h2⟩ := List.any_eq_true.1 h1
 rw [h a ha b hb] at h2
 cases h2
theorem zMa {N i : Nat} {t : zS} (hi : i < t.length) : zEn N i (t.drop i) = if zEE N i (t.getD i node0) = 0 then zEn N (i + 1) (t.drop (i + 1)) else zEE N i (t.getD i node0) := by
 rw [List.drop_eq_getElem_cons hi, ← zu node0 hi, zEn]
theorem zG8 {N i : Nat} {n : TNode} (h : zEE N i n = 0) : (∀ k ∈ n.next, (i : Int) < k ∧ k < N) ∧ n.next.length ≤ 6 := by
 unfold zEE at h
 split at h
 · split at h
   · cases h
   · rename_i h1
     simp only [not_or] at h1
     have := Classical.not_not.1 h1.2.2.1
     rw [this]
     exact ⟨fun k hk => by simp at hk, Nat.zero_le _⟩
 · split at h
   · split at h
     · cases h
     split at h
     · rename_i h2; exact absurd h h2
     rename_i h2 h3
     obtain ⟨q1, q2, q3⟩ := zB2 (Classical.not_not.1 h3)
     exact ⟨q3, q2⟩
   · split at h
     · split at h
       · cases h
       split at h
       · cases h
       obtain ⟨q1, q2, q3⟩ := zB2 h
       exact ⟨q3, q2⟩
     · cases h
/-- the nodes named by the first nodes -/
def zEs (t : zS) (i : Nat) : List Int := (t.take i).flatMap TNode.next
theorem zN9 {t : zS} {i : Nat} (hi : i < t.length) : zEs t (i + 1) = zEs t i ++ (t.getD i node0).next := by
 unfold zEs
 rw [List.take_succ_eq_append_getElem hi, List.flatMap_append, zu node0 hi]
 simp
theorem zCx {l : List Int} {j : Nat} (hj : j < l.length) : l.take (j + 1) = l.take j ++ [l.getD j 0] := by
 rw [List.take_succ_eq_append_getElem hj, zu 0 hj]
theorem zN2 {l : zS} {j : Nat} (hj : j < l.length) : l.take (j + 1) = l.take j ++ [l.getD j node0] := by
 rw [List.take_succ_eq_append_getElem hj, zu node0 hj]
def keyA (e : Int × Int × Nat) : Int × Int := (e.1, e.2.1)
end Go.Ax.Rt
namespace Go.Ax.Rt
open Go.Ax.Bg
structure RSeq where
 info : Int
 choice : Int
 before : Int
 deriving DecidableEq
def seq0 : RSeq := ⟨-1, -1, -1⟩
structure RForm where
 seqs : List RSeq
 pos : List Int
 first : List (Int × Nat)
def zCN (m : List (Int × Nat)) (k : Int) : Option Nat := (m.find? (fun x => decide (x.1 = k))).map Prod.snd
def zDp (n : TNode) (b : Int) : List RSeq := (List.range n.next.length).map (fun k : Nat => ⟨n.info, (k : Int), b⟩)
def zAg (p : Int) (n : TNode) (i : Nat) (f : RForm) : RForm :=
 if own p n = true ∧ zCN f.first n.info = none then ⟨f.seqs ++ zDp n (f.pos.getD i 0), f.pos, f.first ++ [(n.info, f.seqs.length)]⟩ else f
def zDl (v : Nat → Int) : List Int → Nat → List Int → List Int
 | [], _, a => a
 | c :: r, k, a => zDl v r (k + 1) (a.set c.toNat (v k))
def zI1 (p : Int) (n : TNode) (i : Nat) (f : RForm) (k : Nat) : Int := if own p n = true then (((zCN f.first n.info).getD 0 : Nat) : Int) + (k : Int) else f.pos.getD i 0
def zKF (p : Int) (n : TNode) (i : Nat) (f : RForm) : RForm := ⟨(zAg p n i f).seqs, zDl (zI1 p n i (zAg p n i f)) n.next 0 (zAg p n i f).pos, (zAg p n i f).first⟩
def zBA (t : zS) (p : Int) : Nat → RForm
 | 0 => ⟨[seq0], List.replicate t.length 0, []⟩
 | i + 1 => zKF p (t.getD i node0) i (zBA t p i)
theorem zHL {m : List (Int × Nat)} {k : Int} (h : zCN m k = none) : k ∉ m.map Prod.fst := by
 unfold zCN at h
 rw [Option.map_eq_none_iff, List.find?_eq_none] at h
 intro hk
 obtain ⟨x, hx, rfl⟩ := List.mem_map.1 hk
 exact h x hx (by simp)
theorem zCy {m : List (Int × Nat)} {k : Int} {s : Nat} (h : zCN m k = some s) : (k, s) ∈ m := by
 unfold zCN at h
 obtain ⟨x, hx, rfl⟩ := Option.map_eq_some_iff.1 h
 have h1 := List.mem_of_find?_eq_some hx
 have h2 := List.find?_some hx
 have h3 : x.1 = k := by simpa using h2
 rw [← h3]; exact h1
theorem zI2 (v : Nat → Int) : ∀ (l : List Int) (k : Nat) (a : List Int), (zDl v l k a).length = a.length
 | [], _, a => rfl
 | c :: r, k, a => by rw [zDl, zI2 v r]; simp
theorem zIt {v : Nat → Int} {P : Int → Prop} : ∀ (l : List Int) (k : Nat) (a : List Int), (∀ x ∈ a, P x) → (∀ j, k ≤ j → j < k + l.length → P (v j)) → ∀ x ∈ zDl v l k a, P x
 | [], _, a, h, _ => h
 | c :: r, k, a, h, hv => by
   rw [zDl]
   refine zIt r (k + 1) _ (fun x hx => ?_) (fun j h1 h2 => hv j (by omega) (by simp; omega))
   rcases List.mem_or_eq_of_mem_set hx with q | q
   · exact h x q
   · rw [q]; exact hv k (Nat.le_refl _) (by simp)
theorem zDL {t : zS} (h : Valid t) {p x : Int} {i : Nat} (hi : i < t.length) (hs : zBJ p x (t.getD i node0) = true) : zT t p x = (t.getD i node0).next.length := by
 have hex : ∃ y ∈ t, zBJ p x y = true := ⟨_, zAR node0 hi, hs⟩
 have hlt : zJR t p x < t.length := List.findIdx_lt_length_of_exists hex
 have hin : zBJ p x (t.getD (zJR t p x) node0) = true := by
   rw [zu node0 hlt]
   exact List.findIdx_getElem
 unfold zBJ at hs hin
 rw [Bool.and_eq_true, decide_eq_true_eq] at hs hin
 exact h.width hlt hi hin.1 hs.1 (by rw [hin.2, hs.2])
structure RI (t : zS) (p : Int) (i : Nat) (f : RForm) : Prop where
 s0 : f.seqs.getD 0 seq0 = seq0 ∧ 0 < f.seqs.length
 pl : f.pos.length = t.length
 pb : ∀ x ∈ f.pos, 0 ≤ x ∧ x < f.seqs.length
 keys : ∀ x, x ∈ f.first.map Prod.fst ↔ ∃ j, j < i ∧ zBJ p x (t.getD j node0) = true
 nd : (f.first.map Prod.fst).Nodup
 sl : f.seqs.length = 1 + (f.first.map (fun x => zT t p x.1)).sum
 fst : ∀ x ∈ f.first, 1 ≤ x.2 ∧ x.2 + zT t p x.1 ≤ f.seqs.length ∧ ∃ b : Int, 0 ≤ b ∧ b < x.2 ∧ ∀ k, k < zT t p x.1 → f.seqs.getD (x.2 + k) seq0 = ⟨x.1, k, b⟩
 all : ∀ k, 1 ≤ k → k < f.seqs.length → ∃ x ∈ f.first, x.2 ≤ k ∧ k < x.2 + zT t p x.1
theorem RI.init (t : zS) (p : Int) : RI t p 0 (zBA t p 0) where
 s0 := ⟨rfl, Nat.zero_lt_one⟩
 pl := List.length_replicate
 pb := fun x hx => by
   obtain ⟨_, rfl⟩ := List.mem_replicate.1 hx
   exact ⟨by decide, by show (0 : Int) < ((1 : Nat) : Int); decide⟩
 keys := fun x => ⟨fun h => by simp [zBA] at h, fun ⟨j, hj, _⟩ => absurd hj (Nat.not_lt_zero _)⟩
 nd := List.nodup_nil
 sl := rfl
 fst := fun x hx => by simp [zBA] at hx
 all := fun k h1 h2 => by
   have : (zBA t p 0).seqs.length = 1 := rfl
   omega
/-- A new information set. -/
theorem RI.add {t : zS} (hv : Valid t) {p : Int} {i : Nat} {f : RForm} (h : RI t p i f) (hi : i < t.length) :
   RI t p i f → (f.seqs.getD 0 seq0 = seq0) → let n := t.getD i node0; let g := zAg p n i f
   g.seqs.getD 0 seq0 = seq0 ∧ 0 < g.seqs.length ∧ g.pos = f.pos ∧ f.seqs.length ≤ g.seqs.length ∧ (∀ x, x ∈ g.first.map Prod.fst ↔ ∃ j, j < i + 1 ∧ zBJ p x (t.getD j node0) = true) ∧ (g.first.map Prod.fst).Nodup ∧
   g.seqs.length = 1 + (g.first.map (fun x => zT t p x.1)).sum ∧
   (∀ x ∈ g.first, 1 ≤ x.2 ∧ x.2 + zT t p x.1 ≤ g.seqs.length ∧ ∃ b : Int, 0 ≤ b ∧ b < x.2 ∧ ∀ k, k < zT t p x.1 → g.seqs.getD (x.2 + k) seq0 = ⟨x.1, k, b⟩) ∧
   (∀ k, 1 ≤ k → k < g.seqs.length → ∃ x ∈ g.first, x.2 ≤ k ∧ k < x.2 + zT t p x.1) ∧ (own p n = true → ∃ s, zCN g.first n.info = some s) := by
 intro _ _
 obtain ⟨h0, h0l⟩ := h.s0
 intro n g
 have hkey : ∀ x, (∃ j, j < i + 1 ∧ zBJ p x (t.getD j node0) = true) ↔ ((∃ j, j < i ∧ zBJ p x (t.getD j node0) = true) ∨ zBJ p x n = true) := by
   intro x
   constructor
   · rintro ⟨j, h1, h2⟩
     by_cases e : j = i
     · subst e; exact .inr h2
     · exact .inl ⟨j, by omega, h2⟩
   · rintro (⟨j, h1, h2⟩ | h2)
     · exact ⟨j, by omega, h2⟩
     · exact ⟨i, by omega, h2⟩
 by_cases hc : own p n = true ∧ zCN f.first n.info = none
 · have eg : g = ⟨f.seqs ++ zDp n (f.pos.getD i 0), f.pos, f.first ++ [(n.info, f.seqs.length)]⟩ := by
     show zAg p n i f = _
     unfold zAg; rw [if_pos hc]
   have hin : zBJ p n.info n = true := by unfold zBJ; rw [hc.1]; simp
   have hw : zT t p n.info = n.next.length := zDL hv hi hin
   have hnl : (zDp n (f.pos.getD i 0)).length = n.next.length := by simp [zDp]
   have hno := zHL hc.2
   have hb := h.pb (f.pos.getD i 0) (zAR 0 (by rw [h.pl]; exact hi))
   rw [eg]
   refine ⟨by rw [zHm _ h0l]; exact h0, by rw [List.length_append]; omega, rfl, by rw [List.length_append]; omega, fun x => ?_, ?_, ?_, fun x hx => ?_, fun k h1 h2 => ?_, fun _ => ?_⟩
   · rw [hkey, List.map_append, List.mem_append, h.keys x]
     constructor
     · rintro (q | q)
       · exact .inl q
       · right
         have : x = n.info := by simpa using q
         rw [this]; exact hin
     · rintro (q | q)
       · exact .inl q
       · right
         unfold zBJ at q
         rw [Bool.and_eq_true, decide_eq_true_eq] at q
         simp [q.2]
   · rw [List.map_append, List.nodup_append]
     refine ⟨h.nd, by simp, fun a ha b hb e => ?_⟩
     have : b = n.info := by simpa using hb
     rw [← this, ← e] at hno
     exact hno ha
   · rw [List.length_append, hnl, List.map_append, List.sum_append, h.sl]
     simp [hw]
     omega
   · rcases List.mem_append.1 hx with q | q
     · obtain ⟨a1, a2, b, b1, b2, b3⟩ := h.fst x q
       refine ⟨a1, by rw [List.length_append]; omega, b, b1, b2, fun k hk => ?_⟩
       rw [zHm _ (by omega)]
       exact b3 k hk
     · have hx' : x = (n.info, f.seqs.length) := by simpa using q
       subst hx'
       refine ⟨h0l, by rw [List.length_append, hnl]; show _ + zT t p n.info ≤ _; omega, f.pos.getD i 0, hb.1, hb.2, fun k hk => ?_⟩
       have hk : k < n.next.length := by
         have : k < zT t p n.info := hk
         omega
       show (f.seqs ++ zDp n (f.pos.getD i 0)).getD (f.seqs.length + k) seq0 = _
       have e : (f.seqs ++ zDp n (f.pos.getD i 0)).getD (f.seqs.length + k) seq0 = (zDp n (f.pos.getD i 0)).getD k seq0 := by
         simp only [List.getD]
         rw [List.getElem?_append_right (by omega), Nat.add_sub_cancel_left]
       rw [e]
       unfold zDp
       rw [zBY _ _ 0 _ _ (by simpa using hk)]
       simp [List.getD, hk]
   · rw [List.length_append, hnl] at h2
     by_cases hk : k < f.seqs.length
     · obtain ⟨x, x1, x2, x3⟩ := h.all k h1 hk
       exact ⟨x, List.mem_append_left _ x1, x2, x3⟩
     · refine ⟨(n.info, f.seqs.length), by simp, by show f.seqs.length ≤ k; omega, by show k < f.seqs.length + zT t p n.info; omega⟩
   · refine ⟨f.seqs.length, ?_⟩
     unfold zCN at hc ⊢
     rw [Option.map_eq_none_iff] at hc
     rw [List.find?_append, hc.2]
     simp
 · have eg : g = f := by
     show zAg p n i f = _
     unfold zAg; rw [if_neg hc]
   rw [eg]
   have hold : own p n = true → ∃ s, zCN f.first n.info = some s := by
     intro ho
     cases e : zCN f.first n.info with
     | none => exact absurd ⟨ho, e⟩ hc
     | some s => exact ⟨s, rfl⟩
   refine ⟨h0, h0l, rfl, Nat.le_refl _, fun x => ?_, h.nd, h.sl, h.fst, h.all, hold⟩
   rw [hkey, h.keys x]
   constructor
   · exact .inl
   · rintro (q | q)
     · exact q
     · unfold zBJ at q
       rw [Bool.and_eq_true, decide_eq_true_eq] at q
       obtain ⟨s, hs⟩ := hold q.1
       refine (h.keys x).1 ?_
       rw [← q.2]
       exact List.mem_map.2 ⟨_, zCy hs, rfl⟩
theorem RI.step {t : zS} (hv : Valid t) {p : Int} {i : Nat} {f : RForm} (h : RI t p i f) (hi : i < t.length) : RI t p (i + 1) (zKF p (t.getD i node0) i f) := by
 obtain ⟨a1, a2, a3, a4, a5, a6, a7, a8, a9, a10⟩ := RI.add hv h hi h h.s0.1
 generalize hn : t.getD i node0 = n at *
 generalize hg : zAg p n i f = g at *
 have est : zKF p n i f = ⟨g.seqs, zDl (zI1 p n i g) n.next 0 g.pos, g.first⟩ := by unfold zKF; rw [hg]
 rw [est]
 refine ⟨⟨a1, a2⟩, by rw [zI2, a3]; exact h.pl, zIt _ _ _ (fun x hx => ?_) (fun j h1 h2 => ?_), a5, a6, a7, a8, a9⟩
 · rw [a3] at hx
   have := h.pb x hx
   show 0 ≤ x ∧ x < ((g.seqs.length : Nat) : Int)
   omega
 · show 0 ≤ zI1 p n i g j ∧ zI1 p n i g j < ((g.seqs.length : Nat) : Int)
   unfold zI1
   split
   · rename_i ho
     obtain ⟨s, hs⟩ := a10 ho
     obtain ⟨b1, b2, _⟩ := a8 _ (zCy hs)
     have hw : zT t p n.info = n.next.length := by
       rw [← hn]
       refine zDL hv hi ?_
       unfold zBJ
       rw [hn, ho]; simp
     rw [hs]
     simp only [Option.getD_some] at *
     omega
   · rw [a3]
     have := h.pb (f.pos.getD i 0) (zAR 0 (by rw [h.pl]; exact hi))
     omega
theorem RI.all_n {t : zS} (hv : Valid t) (p : Int) : ∀ i, i ≤ t.length → RI t p i (zBA t p i)
 | 0, _ => RI.init t p
 | i + 1, hi => (RI.all_n hv p i (by omega)).step hv (by omega)
def zb (t : zS) (p : Int) : List RSeq := (zBA t p t.length).seqs
theorem zBh {t : zS} (hv : Valid t) {p x : Int} : x ∈ zJ t p ↔ ∃ j, j < t.length ∧ zBJ p x (t.getD j node0) = true := by
 unfold zJ
 rw [List.mem_filter, List.any_eq_true]
 constructor
 · rintro ⟨_, y, hy, h2⟩
   obtain ⟨j, hj, rfl⟩ := List.getElem_of_mem hy
   exact ⟨j, hj, by rw [zu node0 hj]; exact h2⟩
 · rintro ⟨j, hj, h2⟩
   refine ⟨?_, t.getD j node0, zAR node0 hj, h2⟩
   unfold zBJ at h2
   rw [Bool.and_eq_true, decide_eq_true_eq] at h2
   have hm := hv.mine hj h2.1
   rw [h2.2] at hm
   refine List.mem_map.2 ⟨x.toNat, List.mem_range.2 (by omega), by omega⟩
theorem zBM (t : zS) (p : Int) : (zJ t p).Nodup := by
 unfold zJ
 refine List.Nodup.sublist List.filter_sublist ?_
 rw [List.nodup_iff_pairwise_ne, List.pairwise_map]
 exact (List.nodup_iff_pairwise_ne.1 List.nodup_range).imp (fun h => by omega)
/-- RecallNumbers: how the sequences are numbered. -/
theorem zAi {t : zS} (hv : Valid t) (p : Int) :
   (zb t p).length = 1 + ((zJ t p).map (zT t p)).sum ∧ (zb t p).getD 0 seq0 = seq0 ∧ 0 < (zb t p).length ∧
   ∀ k, k + 1 < (zb t p).length → ((zb t p).getD (k + 1) seq0).info ∈ zJ t p ∧ 0 ≤ ((zb t p).getD (k + 1) seq0).before ∧ ((zb t p).getD (k + 1) seq0).before ≤ k ∧
     (0 < ((zb t p).getD (k + 1) seq0).choice → (zb t p).getD k seq0 = ⟨((zb t p).getD (k + 1) seq0).info, ((zb t p).getD (k + 1) seq0).choice - 1, ((zb t p).getD (k + 1) seq0).before⟩) := by
 have h := RI.all_n hv p t.length (Nat.le_refl _)
 have hperm : ((zBA t p t.length).first.map Prod.fst).Perm (zJ t p) :=
   (List.perm_ext_iff_of_nodup h.nd (zBM t p)).2 (fun x => by rw [h.keys x, zBh hv])
 refine ⟨?_, h.s0.1, h.s0.2, fun k hk => ?_⟩
 · show (zBA t p t.length).seqs.length = _
   rw [h.sl, ← (hperm.map (zT t p)).sum_nat, List.map_map]
   rfl
 · obtain ⟨x, x1, x2, x3⟩ := h.all (k + 1) (by omega) hk
   obtain ⟨y1, y2, b, b1, b2, b3⟩ := h.fst x x1
   have e1 := b3 (k + 1 - x.2) (by omega)
   rw [show x.2 + (k + 1 - x.2) = k + 1 by omega] at e1
   have e1' : (zb t p).getD (k + 1) seq0 = ⟨x.1, ((k + 1 - x.2 : Nat) : Int), b⟩ := e1
   rw [e1']
   refine ⟨hperm.mem_iff.1 (List.mem_map.2 ⟨x, x1, rfl⟩), b1, by show b ≤ (k : Int); omega, fun hc => ?_⟩
   have hc : (0 : Int) < ((k + 1 - x.2 : Nat) : Int) := hc
   have e2 := b3 (k - x.2) (by omega)
   rw [show x.2 + (k - x.2) = k by omega] at e2
   have e2' : (zb t p).getD k seq0 = ⟨x.1, ((k - x.2 : Nat) : Int), b⟩ := e2
   rw [e2']
   show (⟨x.1, _, b⟩ : RSeq) = ⟨x.1, ((k + 1 - x.2 : Nat) : Int) - 1, b⟩
   congr 1
   omega
end Go.Ax.Rt
namespace Go.Ax.Rt
open Go.Ax.Bg
/-- What is left of a number that may be negative. -/
def posQ (q : Rat) : Rat := if q.num < 0 then 0 else q
def zAF : Rat → List Rat → Rat
 | acc, [] => acc
 | acc, q :: r => zAF (acc + q) r
def matchQ (x : List Rat) : List Rat :=
 if zAF 0 (x.map posQ) = 0 then (x.map posQ).map (fun _ => Rat.divInt 1 x.length) else (x.map posQ).map (fun q => q / zAF 0 (x.map posQ))
/-- regret.Match -/
def matchR (v : List zAK) : List zAK × Int :=
 if v = [] then ([], 8) else if 12 < v.length then ([], 2) else if zJG v ≠ 0 then ([], zJG v) else zBG (matchQ (v.map zAB))
theorem zHY : ∀ (qs : List Rat) (acc : Rat), (∀ q ∈ qs, 0 ≤ q) → acc ≤ zAF acc qs
 | [], acc, _ => Rat.le_refl
 | q :: r, acc, h => by
   rw [zAF]
   refine Rat.le_trans ?_ (zHY r _ (fun x hx => h x (by simp [hx])))
   have := (Rat.add_le_add_left (c := acc)).2 (h q (by simp))
   rwa [Rat.add_zero] at this
structure Matched (v p : List zAK) : Prop where
 res : matchR v = (p, 0)
 len : p.length = v.length
 odds : zCV p = 0
 zero : (∃ s ∈ v, 0 < zAB s) → ∀ i, i < v.length → (p.getD i [] ≠ [48] ↔ 0 < zAB (v.getD i []))
 good : ∀ s ∈ v, zCi s = 0
end Go.Ax.Rt
namespace Go.Ax.Rt
open Go.Ax.Bg
abbrev zCZ := List (Int × Int)
/-- matgame.Check -/
def gameE (m : List (List zAK)) : Int := if 12 < m.length then 2 else if zHq m ≠ 0 then zHq m else if zEG m = 0 then 8 else if 12 < zEG m then 2 else 0
def outside (m : List (List zAK)) (x : Int × Int) : Bool := decide (x.1 < 0) || (decide ((m.length : Int) ≤ x.1) || (decide (x.2 < 0) || decide ((zEG m : Int) ≤ x.2)))
/-- regret.Check -/
def zLm (m : List (List zAK)) (l : zCZ) : Int := if gameE m ≠ 0 then gameE m else if 200 < l.length then 2 else if l.any (outside m) = true then 4 else 0
/-- How often a row, a column was played. -/
def cnt (f : Int × Int → Int) (l : zCZ) (i : Nat) : Nat := (l.filter (fun x => decide (f x = (i : Int)))).length
def cntQ (f : Int × Int → Int) (l : zCZ) (n : Nat) : List Rat := (List.range n).map (fun i => ((cnt f l i : Nat) : Rat))
def rowsS (m : List (List Rat)) (l : zCZ) (w : Nat) : List Rat := m.map (fun r => dotQ r (cntQ Prod.snd l w))
def colsS (m : List (List Rat)) (l : zCZ) (w : Nat) : List Rat := (colsQ m w).map (fun c => dotQ c (cntQ Prod.fst l m.length))
def elQ (m : List (List Rat)) (x : Int × Int) : Rat := (m.getD x.1.toNat []).getD x.2.toNat 0
def gotQ (m : List (List Rat)) (l : zCZ) : Rat := zAF 0 (l.map (elQ m))
def regA (m : List (List Rat)) (l : zCZ) (w : Nat) : List Rat := (rowsS m l w).map (fun q => q - gotQ m l)
def regB (m : List (List Rat)) (l : zCZ) (w : Nat) : List Rat := (colsS m l w).map (fun q => gotQ m l - q)
def bothR (a b : List Rat) : (List zAK × List zAK) × Int := if (zBG a).2 ≠ 0 then (([], []), 2) else if (zBG b).2 ≠ 0 then (([], []), 2) else ((a.map zt, b.map zt), 0)
/-- regret.Regrets -/
def regretsR (m : List (List zAK)) (l : zCZ) : (List zAK × List zAK) × Int := if zLm m l ≠ 0 then (([], []), zLm m l) else bothR (regA (inM m) l (zEG m)) (regB (inM m) l (zEG m))
/-- The first greatest number, or the first least one. -/
def zLN (sg : Int) (x : List Rat) : Nat → Nat
 | 0 => 0
 | k + 1 => if 0 < cmpQ (x.getD k 0) (x.getD (zLN sg x k) 0) * sg then k else zLN sg x k
def lowQ (m : List (List Rat)) (l : zCZ) (w : Nat) : Rat := (colsS m l w).getD (zLN (-1) (colsS m l w) w) 0
def highQ (m : List (List Rat)) (l : zCZ) (w : Nat) : Rat := (rowsS m l w).getD (zLN 1 (rowsS m l w) m.length) 0
/-- regret.Bounds -/
def boundsR (m : List (List zAK)) (l : zCZ) : (zAK × zAK) × Int :=
 if zLm m l ≠ 0 then (([], []), zLm m l) else if l = [] then (([], []), 8)
 else if zA3 (lowQ (inM m) l (zEG m) / (l.length : Nat)) && zA3 (highQ (inM m) l (zEG m) / (l.length : Nat)) then ((zt (lowQ (inM m) l (zEG m) / (l.length : Nat)), zt (highQ (inM m) l (zEG m) / (l.length : Nat))), 0) else (([], []), 2)
/-- The law. -/
structure Zero (m : List (List zAK)) (l : zCZ) (a b : List zAK) (lo hi : zAK) : Prop where
 reg : regretsR m l = ((a, b), 0)
 bnd : boundsR m l = ((lo, hi), 0)
 ga : ∀ s ∈ a, zCi s = 0
 gb : ∀ s ∈ b, zCi s = 0
 la : a.length = m.length
 lb : b.length = zEG m
 best : ∃ i k s q, zKz a = (((i : Nat) : Int), 0) ∧ zKz b = (((k : Nat) : Int), 0) ∧ i < a.length ∧ k < b.length ∧ twoR (fun x y => x + y) (a.getD i []) (b.getD k []) = (s, 0) ∧ divR s (zt ((l.length : Nat) : Rat)) = (q, 0) ∧ twoR (fun x y => x - y) hi lo = (q, 0)
/-- One round more. -/
structure PlaySt where
 rows : List Rat
 cols : List Rat
 out : List (Nat × Nat)
def playStep (m : List (List Rat)) (s : PlaySt) : PlaySt :=
 let i := zLN 1 s.rows s.rows.length
 let k := zLN (-1) s.cols s.cols.length
 ⟨(List.range s.rows.length).map (fun j => s.rows.getD j 0 + (m.getD j []).getD k 0), (List.range s.cols.length).map (fun j => s.cols.getD j 0 + (m.getD i []).getD j 0), s.out ++ [(i, k)]⟩
def playN (m : List (List Rat)) (w : Nat) : Nat → PlaySt
 | 0 => ⟨List.replicate m.length 0, List.replicate w 0, []⟩
 | n + 1 => playStep m (playN m w n)
def histOf (l : List (Nat × Nat)) : zCZ := l.map (fun x => ((x.1 : Int), (x.2 : Int)))
/-- regret.Play -/
def playR (m : List (List zAK)) (n : Int) : zCZ × Int := if gameE m ≠ 0 then ([], gameE m) else if n < 0 ∨ 200 < n then ([], 4) else (histOf (playN (inM m) (zEG m) n.toNat).out, 0)
end Go.Ax.Rt
namespace Go.Ax.Rt
open Go.Ax.Bg
theorem zER (q : Rat) : ∀ (l : List Rat) (acc : Rat), zAF acc (l ++ [q]) = zAF acc l + q
 | [], acc => rfl
 | a :: r, acc => by rw [List.cons_append, zAF, zAF, zER q r]
theorem zML {k : Nat} {l : List Rat} (h : ∀ q ∈ l, D k q) : ∀ {acc : Rat} {j : Nat}, D j acc → D (j + l.length * (k + 1)) (zAF acc l) := by
 induction l with
 | nil => intro acc j ha; rw [List.length_nil, Nat.zero_mul]; exact ha
 | cons a r ih =>
   intro acc j ha
   rw [zAF, List.length_cons, Nat.add_mul]
   exact (ih (fun q hq => h q (by simp [hq])) (ha.add (h a (by simp)))).mono (by omega)
/-- The first k elements are changed. -/
def mixL {α : Type} (f : α → α) (x : List α) (k : Nat) : List α := (x.take k).map f ++ x.drop k
/-- The counters, as integers. -/
def cntI (f : Int × Int → Int) (l : zCZ) (n : Nat) : List Int := (List.range n).map (fun i => ((cnt f l i : Nat) : Int))
/-- The first k elements have something added. -/
def updL (g : Nat → Rat) (x : List Rat) (k : Nat) : List Rat := (List.range x.length).map (fun j => if j < k then x.getD j 0 + g j else x.getD j 0)
end Go.Ax.Rt
namespace Go.Ax.Rt
open Go.Ax.Bg
theorem zGh : ∀ (m : Nat) (l : List Rat), m ≤ l.length → zA7 (fun c => l.getD c 0) m = zAF 0 (l.take m)
 | 0, l, _ => rfl
 | m + 1, l, h => by
   rw [zA7, zGh m l (by omega), List.take_succ_eq_append_getElem (by omega), zER, zu 0 (by omega)]
def zDu (o : Int → List Rat) (s : RSeq) (P : List Rat) : Rat := if s.before < 0 then 1 else P.getD s.before.toNat 0 * (o s.info).getD s.choice.toNat 0
def zEt (l : List RSeq) (o : Int → List Rat) : Nat → List Rat
 | 0 => []
 | k + 1 => zEt l o k ++ [zDu o (l.getD k seq0) (zEt l o k)]
theorem zIP (l : List RSeq) (o : Int → List Rat) : ∀ k, (zEt l o k).length = k
 | 0 => rfl
 | k + 1 => by rw [zEt, List.length_append, zIP l o k]; rfl
theorem zDV (l : List RSeq) (o : Int → List Rat) {j : Nat} : ∀ {k : Nat}, j < k → (zEt l o k).getD j 0 = zDu o (l.getD j seq0) (zEt l o j)
 | 0, h => absurd h (Nat.not_lt_zero _)
 | k + 1, h => by
   rw [zEt]
   by_cases e : j = k
   · subst e
     have : (zEt l o j ++ [zDu o (l.getD j seq0) (zEt l o j)]).getD j 0 = zDu o (l.getD j seq0) (zEt l o j) := by
       have h2 := zPN (l := zEt l o j) (x := zDu o (l.getD j seq0) (zEt l o j)) (d := 0)
       rwa [zIP] at h2
     exact this
   · rw [zHm 0 (by rw [zIP]; omega)]
     exact zDV l o (by omega)
theorem zHS (l : List RSeq) (o : Int → List Rat) {j k n : Nat} (h1 : j < k) (h2 : j < n) : (zEt l o k).getD j 0 = (zEt l o n).getD j 0 := by
 rw [zDV l o h1, zDV l o h2]
theorem zMK {m : List (Int × Nat)} (h : (m.map Prod.fst).Nodup) {x y : Int × Nat} (hx : x ∈ m) (hy : y ∈ m) (e : x.1 = y.1) : x = y := by
 obtain ⟨i, hi, rfl⟩ := List.getElem_of_mem hx
 obtain ⟨j, hj, rfl⟩ := List.getElem_of_mem hy
 have hp := List.pairwise_iff_getElem.1 h
 rcases Nat.lt_trichotomy i j with q | q | q
 · exact absurd (by rw [List.getElem_map, List.getElem_map]; exact e) (hp i j (by simpa using hi) (by simpa using hj) q)
 · subst q; rfl
 · exact absurd (by rw [List.getElem_map, List.getElem_map]; exact e.symm) (hp j i (by simpa using hj) (by simpa using hi) q)
theorem zJh {t : zS} (hv : Valid t) (p : Int) : (zb t p).length ≤ 61 := by
 have h := (zAi hv p).1
 rw [h]
 have h1 : (zJ t p).length ≤ 10 := by
   unfold zJ
   refine Nat.le_trans (List.length_filter_le _ _) (by simp)
 have h2 : ∀ x ∈ zJ t p, zT t p x ≤ 6 := by
   intro x hx
   obtain ⟨j, hj, hs⟩ := (zBh hv).1 hx
   rw [zDL hv hj hs]
   exact hv.few hj
 have key : ∀ l : List Int, (∀ x ∈ l, zT t p x ≤ 6) → (l.map (zT t p)).sum ≤ 6 * l.length := by
   intro l
   induction l with
   | nil => intro _; exact Nat.le_refl _
   | cons a r ih =>
     intro hl
     have h3 := hl a (by simp)
     have h4 := ih (fun x hx => hl x (by simp [hx]))
     simp only [List.map_cons, List.sum_cons, List.length_cons]
     omega
 have := key _ h2
 omega
/-- The probabilities that belong to a strategy. -/
structure Strat (t : zS) (p : Int) (o : Int → List Rat) (k : Nat) : Prop where
 len : ∀ x ∈ zJ t p, (o x).length = zT t p x
 sum : ∀ x ∈ zJ t p, zAF 0 (o x) = 1
 nn : ∀ x ∈ zJ t p, ∀ q ∈ o x, 0 ≤ q
 dig : ∀ x ∈ zJ t p, ∀ q ∈ o x, D k q
def zAk (t : zS) (p : Int) (o : Int → List Rat) : List Rat := zEt (zb t p) o (zb t p).length
/-- What stands at a sequence that is not the first one. -/
theorem zFB {t : zS} (hv : Valid t) {p : Int} {k : Nat} (h1 : 1 ≤ k) (hk : k < (zb t p).length) : ∃ (x : Int × Nat) (b : Nat), x ∈ (zBA t p t.length).first ∧ x.1 ∈ zJ t p ∧ x.2 ≤ k ∧ k < x.2 + zT t p x.1 ∧ b < x.2 ∧ 1 ≤ x.2 ∧ x.2 + zT t p x.1 ≤ (zb t p).length ∧
   ∀ c, c < zT t p x.1 → (zb t p).getD (x.2 + c) seq0 = ⟨x.1, (c : Int), (b : Int)⟩ := by
 have h := RI.all_n hv p t.length (Nat.le_refl _)
 obtain ⟨x, x1, x2, x3⟩ := h.all k h1 hk
 obtain ⟨y1, y2, b, b1, b2, b3⟩ := h.fst x x1
 obtain ⟨n, rfl⟩ := Int.eq_ofNat_of_zero_le b1
 exact ⟨x, n, x1, (zBh hv).2 ((h.keys x.1).1 (List.mem_map.2 ⟨x, x1, rfl⟩)), x2, x3, by omega, y1, y2, b3⟩
end Go.Ax.Rt
namespace Go.Ax.Rt
open Go.Ax.Bg
abbrev Way := List (Int × Int)
def zGg (v : Nat → Way) : List Int → Nat → List Way → List Way
 | [], _, a => a
 | c :: r, k, a => zGg v r (k + 1) (a.set c.toNat (v k))
theorem zI7 (v : Nat → Way) : ∀ (l : List Int) (k : Nat) (a : List Way), (zGg v l k a).length = a.length
 | [], _, a => rfl
 | c :: r, k, a => by rw [zGg, zI7 v r]; simp
def wayV (p : Int) (n : TNode) (w : Way) (k : Nat) : Way := if own p n = true then w ++ [(n.info, (k : Int))] else w
def zDO (t : zS) (p : Int) : Nat → List Way
 | 0 => List.replicate t.length []
 | i + 1 => zGg (wayV p (t.getD i node0) ((zDO t p i).getD i [])) (t.getD i node0).next 0 (zDO t p i)
theorem zGo (t : zS) (p : Int) : ∀ i, (zDO t p i).length = t.length
 | 0 => List.length_replicate
 | i + 1 => by rw [zDO, zI7, zGo t p i]
def zBm (t : zS) (p : Int) : Nat → List (Int × Nat)
 | 0 => []
 | i + 1 => if own p (t.getD i node0) = true ∧ zCN (zBm t p i) (t.getD i node0).info = none then zBm t p i ++ [((t.getD i node0).info, i)] else zBm t p i
def zF2 (t : zS) (p : Int) (W : List Way) : Nat → Bool
 | 0 => true
 | i + 1 => zF2 t p W i && (if own p (t.getD i node0) = true then (match zCN (zBm t p i) (t.getD i node0).info with | none => true | some k => decide (W.getD i [] = W.getD k [])) else true)
def zCm (t : zS) (p : Int) : Bool := zF2 t p (zDO t p t.length) t.length
theorem zEx {t : zS} {p : Int} : ∀ {i : Nat} {x : Int × Nat}, x ∈ zBm t p i → x.2 < i ∧ own p (t.getD x.2 node0) = true ∧ (t.getD x.2 node0).info = x.1
 | 0, x, h => by simp [zBm] at h
 | i + 1, x, h => by
   rw [zBm] at h
   split at h
   · rename_i hc
     rcases List.mem_append.1 h with q | q
     · obtain ⟨h1, h2⟩ := zEx q
       exact ⟨by omega, h2⟩
     · have : x = ((t.getD i node0).info, i) := by simpa using q
       subst this
       exact ⟨Nat.lt_succ_self _, hc.1, rfl⟩
   · obtain ⟨h1, h2⟩ := zEx h
     exact ⟨by omega, h2⟩
/-- RecallAlone: with at most one node in each set. -/
theorem alone {t : zS} {p : Int} (h : ∀ i j, i < j → j < t.length → own p (t.getD i node0) = true → own p (t.getD j node0) = true → (t.getD i node0).info ≠ (t.getD j node0).info) : zCm t p = true := by
 unfold zCm
 have key : ∀ (W : List Way) (i : Nat), i ≤ t.length → zF2 t p W i = true := by
   intro W i
   induction i with
   | zero => intro _; rfl
   | succ i ih =>
     intro hi
     rw [zF2, ih (by omega), Bool.true_and]
     split
     · rename_i ho
       cases e : zCN (zBm t p i) (t.getD i node0).info with
       | none => rfl
       | some k =>
         obtain ⟨h1, h2, h3⟩ := zEx (zCy e)
         exact absurd h3 (h k i h1 (by omega) h2 ho)
     · rfl
 exact key _ _ (Nat.le_refl _)
end Go.Ax.Rt
namespace Go.Ax.Rt
open Go.Ax.Bg
/-- The probabilities of the children of a node: none where a node has no own ones. -/
abbrev zAS := Nat → Option (List Rat)
def setQ (v : Nat → Rat) : List Int → Nat → List Rat → List Rat
 | [], _, a => a
 | c :: r, k, a => setQ v r (k + 1) (a.set c.toNat (v k))
theorem zNT (v : Nat → Rat) : ∀ (l : List Int) (k : Nat) (a : List Rat), (setQ v l k a).length = a.length
 | [], _, a => rfl
 | c :: r, k, a => by rw [setQ, zNT v r]; simp
def zMZ (o : Option (List Rat)) (q : Rat) (k : Nat) : Rat := match o with | none => q | some l => q * l.getD k 0
def zCl (t : zS) (o : zAS) : Nat → List Rat
 | 0 => (List.replicate t.length 0).set 0 1
 | i + 1 => setQ (zMZ (o i) ((zCl t o i).getD i 0)) (t.getD i node0).next 0 (zCl t o i)
def zk (t : zS) (o : zAS) : List Rat := zCl t o t.length
theorem zEf (t : zS) (o : zAS) : ∀ i, (zCl t o i).length = t.length
 | 0 => by simp [zCl]
 | i + 1 => by rw [zCl, zNT, zEf t o i]
theorem zFv (v : Nat → Rat) {j : Nat} : ∀ (l : List Int) (k : Nat) (a : List Rat), (∀ c ∈ l, c.toNat ≠ j) → (setQ v l k a).getD j 0 = a.getD j 0
 | [], _, a, _ => rfl
 | c :: r, k, a, h => by
   rw [setQ, zFv v r (k + 1) _ (fun c hc => h c (by simp [hc])), Go.Ax.Dt.getD_set, if_neg]
   exact fun q => h c (by simp) q.1.symm
theorem zPc (v : Nat → Rat) : ∀ (l : List Int) (k : Nat) (a : List Rat) (m : Nat), m < l.length → (l.map Int.toNat).Nodup → (∀ c ∈ l, c.toNat < a.length) → (setQ v l k a).getD (l.getD m 0).toNat 0 = v (k + m)
 | [], _, a, m, h, _, _ => absurd h (Nat.not_lt_zero _)
 | c :: r, k, a, m, h, hn, hl => by
   rw [List.map_cons, List.nodup_cons] at hn
   rw [setQ]
   cases m with
   | zero =>
     have : (c :: r).getD 0 0 = c := rfl
     rw [this, zFv, Go.Ax.Dt.getD_set, if_pos ⟨rfl, hl c (by simp)⟩, Nat.add_zero]
     intro x hx e
     exact hn.1 (List.mem_map.2 ⟨x, hx, e⟩)
   | succ m =>
     have : (c :: r).getD (m + 1) 0 = r.getD m 0 := rfl
     rw [this, zPc v r (k + 1) _ m (by simpa using h) hn.2 (fun x hx => by rw [List.length_set]; exact hl x (by simp [hx]))]
     congr 1; omega
/-- Who names whom. -/
def kid (t : zS) (i : Nat) (c : Nat) : Prop := (c : Int) ∈ (t.getD i node0).next
theorem zJz (l : List Int) (k : Int) : (l.filter (fun x => decide (x = k))).length = l.count k := by
 rw [List.count_eq_length_filter]
 congr 1
theorem zLn (t : zS) (k : Nat) : named t k = (t.map (fun n => n.next.count (k : Int))).sum := by
 unfold named
 rw [zJz]
 induction t with
 | nil => rfl
 | cons n r ih => rw [List.flatMap_cons, List.count_append, List.map_cons, List.sum_cons, ih]
theorem sum_one {l : List Nat} (h : l.sum = 1) {i j : Nat} (hi : i < l.length) (hj : j < l.length) (hij : i ≠ j) (h1 : 1 ≤ l[i]) (h2 : 1 ≤ l[j]) : False := by
 induction l generalizing i j with
 | nil => simp at hi
 | cons a r ih =>
   have mem_le : ∀ (r : List Nat) (k : Nat) (hk : k < r.length), r[k] ≤ r.sum := by
     intro r
     induction r with
     | nil => intro k hk; simp at hk
     | cons b q ihq =>
       intro k hk
       cases k with
       | zero => simp
       | succ k =>
         have := ihq k (by simpa using hk)
         simp only [List.getElem_cons_succ, List.sum_cons]
         omega
   rw [List.sum_cons] at h
   cases i with
   | zero =>
     cases j with
     | zero => exact hij rfl
     | succ j =>
       have := mem_le r j (by simpa using hj)
       simp only [List.getElem_cons_zero, List.getElem_cons_succ] at h1 h2
       omega
   | succ i =>
     cases j with
     | zero =>
       have := mem_le r i (by simpa using hi)
       simp only [List.getElem_cons_zero, List.getElem_cons_succ] at h1 h2
       omega
     | succ j =>
       simp only [List.getElem_cons_succ] at h1 h2
       have := mem_le r i (by simpa using hi)
       refine ih (by omega) (by simpa using hi) (by simpa using hj) (by omega) h1 h2
/-- Each node but the first has one parent, and is named once there. -/
theorem Valid.parent {t : zS} (h : Valid t) {c i j : Nat} (hc : c < t.length) (h0 : c ≠ 0) (hi : i < t.length) (hj : j < t.length) (k1 : kid t i c) (k2 : kid t j c) : i = j := by
 have hn := h.once c hc h0
 rw [zLn] at hn
 apply Classical.byContradiction
 intro hij
 refine sum_one hn (i := i) (j := j) (by simpa using hi) (by simpa using hj) hij ?_ ?_
 · rw [List.getElem_map, ← zu node0 hi]
   exact List.count_pos_iff.2 k1
 · rw [List.getElem_map, ← zu node0 hj]
   exact List.count_pos_iff.2 k2
theorem Valid.has {t : zS} (h : Valid t) {c : Nat} (hc : c < t.length) (h0 : c ≠ 0) : ∃ i, i < t.length ∧ kid t i c := by
 have hn := h.once c hc h0
 unfold named at hn
 have hne : (t.flatMap TNode.next).filter (fun x => decide (x = (c : Int))) ≠ [] := by intro e; rw [e] at hn; cases hn
 obtain ⟨x, hx⟩ := List.exists_mem_of_ne_nil _ hne
 obtain ⟨h1, h2⟩ := List.mem_filter.1 hx
 obtain ⟨n, hn1, hn2⟩ := List.mem_flatMap.1 h1
 obtain ⟨i, hi, rfl⟩ := List.getElem_of_mem hn1
 refine ⟨i, hi, ?_⟩
 unfold kid
 rw [zu node0 hi]
 have : x = (c : Int) := by simpa using h2
 rw [← this]; exact hn2
theorem Valid.kid_lt {t : zS} (h : Valid t) {c i : Nat} (hi : i < t.length) (k : kid t i c) : i < c ∧ c < t.length := by
 have := h.behind hi _ k
 omega
theorem Valid.kids_nodup {t : zS} (h : Valid t) {i : Nat} (hi : i < t.length) : ((t.getD i node0).next.map Int.toNat).Nodup := by
 rw [List.nodup_iff_pairwise_ne, List.pairwise_map, List.pairwise_iff_getElem]
 intro a b ha hb hab e
 have ma := List.getElem_mem ha
 have mb := List.getElem_mem hb
 have b1 := h.behind hi _ ma
 have b2 := h.behind hi _ mb
 have e2 : (t.getD i node0).next[a] = (t.getD i node0).next[b] := by omega
 obtain ⟨c, hc⟩ := Int.eq_ofNat_of_zero_le (show 0 ≤ (t.getD i node0).next[a] by omega)
 have hn := h.once c (by omega) (by omega)
 rw [zLn] at hn
 have h2 : 2 ≤ (t.getD i node0).next.count (c : Int) := by
   have hs : [(c : Int), (c : Int)].Sublist (t.getD i node0).next := by
     have h3 : (t.getD i node0).next = (t.getD i node0).next.take b ++ (t.getD i node0).next.drop b := (List.take_append_drop b _).symm
     rw [h3]
     have h4 : (c : Int) ∈ (t.getD i node0).next.take b := by
       rw [List.mem_take_iff_getElem]
       exact ⟨a, by omega, hc⟩
     have h5 : (c : Int) ∈ (t.getD i node0).next.drop b := by
       rw [List.mem_drop_iff_getElem]
       exact ⟨0, by simpa using hb, by simp only [Nat.add_zero]; rw [← e2]; exact hc⟩
     have := List.Sublist.append (List.singleton_sublist.2 h4) (List.singleton_sublist.2 h5)
     simpa using this
   have := hs.count_le (c : Int)
   simpa using this
 have h6 : (t.map (fun n => n.next.count (c : Int)))[i]'(by simpa using hi) ≤ (t.map (fun n => n.next.count (c : Int))).sum := by
   have mem_le : ∀ (r : List Nat) (k : Nat) (hk : k < r.length), r[k] ≤ r.sum := by
     intro r
     induction r with
     | nil => intro k hk; simp at hk
     | cons b q ihq =>
       intro k hk
       cases k with
       | zero => simp
       | succ k =>
         have := ihq k (by simpa using hk)
         simp only [List.getElem_cons_succ, List.sum_cons]
         omega
   exact mem_le _ _ _
 rw [List.getElem_map, ← zu node0 hi] at h6
 omega
/-- What does not change any more. -/
theorem zHK {t : zS} (h : Valid t) (o : zAS) {j : Nat} (hj : j < t.length) : ∀ d i, j ≤ i → i + d ≤ t.length → (zCl t o (i + d)).getD j 0 = (zCl t o i).getD j 0
 | 0, i, _, _ => rfl
 | d + 1, i, h1, h2 => by
   rw [← Nat.add_assoc, zCl, zFv, zHK h o hj d i h1 (by omega)]
   intro c hc e
   have := h.behind (show i + d < t.length by omega) c hc
   omega
theorem zFt {t : zS} (h : Valid t) (o : zAS) : (zk t o).getD 0 0 = 1 := by
 have hn := h.ne
 have := zHK h o (j := 0) (by omega) t.length 0 (Nat.le_refl _) (by omega)
 rw [Nat.zero_add] at this
 unfold zk
 rw [this, zCl, Go.Ax.Dt.getD_set, if_pos ⟨rfl, by simp; omega⟩]
/-- Each child's probability is that of its parent, times that of the choice. -/
theorem zGt {t : zS} (h : Valid t) (o : zAS) {i m : Nat} (hi : i < t.length) (hm : m < (t.getD i node0).next.length) : (zk t o).getD ((t.getD i node0).next.getD m 0).toNat 0 = zMZ (o i) ((zk t o).getD i 0) m := by
 have hb := h.behind hi _ (zAR 0 hm)
 have hc : ((t.getD i node0).next.getD m 0).toNat < t.length := by omega
 have h1 : (zCl t o (i + 1)).getD ((t.getD i node0).next.getD m 0).toNat 0 = zMZ (o i) ((zCl t o i).getD i 0) m := by
   rw [zCl, zPc _ _ _ _ m hm (h.kids_nodup hi) (fun c hc => by rw [zEf]; have := h.behind hi c hc; omega), Nat.zero_add]
 have h2 := zHK h o (j := i) hi (t.length - i) i (Nat.le_refl _) (by omega)
 rw [show i + (t.length - i) = t.length by omega] at h2
 -- the child is not touched again
 have key : ∀ d, i + 1 + d ≤ t.length → (zCl t o (i + 1 + d)).getD ((t.getD i node0).next.getD m 0).toNat 0 = (zCl t o (i + 1)).getD ((t.getD i node0).next.getD m 0).toNat 0 := by
   intro d
   induction d with
   | zero => intro _; rfl
   | succ d ih =>
     intro hd
     rw [← Nat.add_assoc, zCl, zFv, ih (by omega)]
     intro c hc2 e
     have hc3 := h.behind (show i + 1 + d < t.length by omega) c hc2
     have k1 : kid t i ((t.getD i node0).next.getD m 0).toNat := by
       unfold kid
       rw [show ((((t.getD i node0).next.getD m 0).toNat : Nat) : Int) = (t.getD i node0).next.getD m 0 by omega]
       exact zAR 0 hm
     have k2 : kid t (i + 1 + d) ((t.getD i node0).next.getD m 0).toNat := by
       unfold kid
       rw [← e, show ((c.toNat : Nat) : Int) = c by omega]
       exact hc2
     have := h.parent hc (by omega) hi (by omega) k1 k2
     omega
 have h3 := key (t.length - (i + 1)) (by omega)
 rw [show i + 1 + (t.length - (i + 1)) = t.length by omega] at h3
 unfold zk
 rw [h3, h1, h2]
end Go.Ax.Rt
namespace Go.Ax.Rt
open Go.Ax.Bg
theorem zEP {f : Nat → Rat} {a : Nat} : ∀ {n : Nat}, a < n → zA7 (fun j => if j = a then f j else 0) n = f a
 | 0, h => absurd h (Nat.not_lt_zero _)
 | n + 1, h => by
   rw [zA7]
   by_cases e : n = a
   · subst e
     have : zA7 (fun j => if j = n then f j else 0) n = 0 := by
       rw [zAs (g := fun _ => 0) (fun i hi => by rw [if_neg (by omega)]), zIO]
     rw [this, if_pos rfl, Rat.zero_add]
   · rw [zEP (n := n) (by omega), if_neg e, Rat.add_zero]
theorem zA9 : ∀ (l : List Rat) (a : Rat), zAF a l = a + zAF 0 l
 | [], a => by rw [zAF, zAF, Rat.add_zero]
 | q :: r, a => by rw [zAF, zAF, zA9 r (a + q), zA9 r (0 + q), Rat.zero_add, Rat.add_assoc]
/-- A sum over some of the indices. -/
theorem zKe {f : Nat → Rat} {n : Nat} : ∀ (ks : List Nat), ks.Nodup → (∀ k ∈ ks, k < n) → zA7 (fun j => if j ∈ ks then f j else 0) n = zAF 0 (ks.map f)
 | [], _, _ => by
   rw [zAs (g := fun _ => 0) (fun i hi => by rw [if_neg (by simp)]), zIO]; rfl
 | a :: r, hn, hl => by
   rw [List.nodup_cons] at hn
   rw [List.map_cons, zAF, zA9, Rat.zero_add, ← zKe r hn.2 (fun k hk => hl k (by simp [hk])), ← zEP (f := f) (hl a (by simp)), ← zHk]
   refine zAs (fun j hj => ?_)
   by_cases h1 : j = a
   · subst h1
     rw [if_pos (by simp), if_pos rfl, if_neg hn.1, Rat.add_zero]
   · by_cases h2 : j ∈ r
     · rw [if_pos (by simp [h2]), if_neg h1, if_pos h2, Rat.zero_add]
     · rw [if_neg (by simp [h1, h2]), if_neg h1, if_neg h2, Rat.zero_add]
/-- The probabilities at each node that is no end. -/
structure OddsOK (t : zS) (o : zAS) (d : Nat) : Prop where
 at' : ∀ i, i < t.length → (t.getD i node0).kind ≠ 0 → ∃ l, o i = some l ∧ l.length = (t.getD i node0).next.length ∧ zAF 0 l = 1 ∧ ∀ q ∈ l, 0 ≤ q ∧ D d q
def zIk (t : zS) (i : Nat) : List Nat := (t.getD i node0).next.map Int.toNat
theorem zKD {t : zS} (h : Valid t) {i j : Nat} (hi : i < t.length) : j ∈ zIk t i ↔ kid t i j := by
 unfold zIk kid
 rw [List.mem_map]
 constructor
 · rintro ⟨x, hx, rfl⟩
   have := h.behind hi x hx
   rw [show ((x.toNat : Nat) : Int) = x by omega]; exact hx
 · intro hx; exact ⟨_, hx, Int.toNat_natCast j⟩
theorem zNq {t : zS} (h : Valid t) {i : Nat} (hi : i < t.length) (hk : (t.getD i node0).kind = 0) : zIk t i = [] := by
 rcases h.child hi with ⟨_, h2⟩ | ⟨h1, _⟩
 · unfold zIk; rw [h2]; rfl
 · rcases h1 with h1 | h1 <;> rw [hk] at h1 <;> exact absurd h1 (by decide)
/-- The children together are as probable as their parent. -/
theorem kids_sum {t : zS} (h : Valid t) {o : zAS} {d : Nat} (ho : OddsOK t o d) {i : Nat} (hi : i < t.length) (hk : (t.getD i node0).kind ≠ 0) : zAF 0 ((zIk t i).map (fun j => (zk t o).getD j 0)) = (zk t o).getD i 0 := by
 obtain ⟨l, h1, h2, h3, h4⟩ := ho.at' i hi hk
 have e : (zIk t i).map (fun j => (zk t o).getD j 0) = l.map (fun q => (zk t o).getD i 0 * q) := by
   apply List.ext_getElem (by simp [zIk, h2])
   intro m hm1 hm2
   have hm : m < (t.getD i node0).next.length := by simpa [zIk] using hm1
   have := zGt h o hi hm
   rw [h1] at this
   simp only [List.getElem_map]
   have e1 : (zIk t i)[m]'(by simpa [zIk] using hm) = ((t.getD i node0).next.getD m 0).toNat := by
     simp only [zIk, List.getElem_map]
     rw [zu 0 hm]
   have hml : m < l.length := by rw [h2]; exact hm
   rw [e1, this]
   exact congrArg (fun x => (zk t o).getD i 0 * x) (zu 0 hml)
 have key : ∀ (q : Rat) (l : List Rat) (a : Rat), zAF (q * a) (l.map (fun x => q * x)) = q * zAF a l := by
   intro q l
   induction l with
   | nil => intro a; rfl
   | cons x r ih => intro a; rw [List.map_cons, zAF, zAF, ← Rat.mul_add, ih]
 rw [e]
 have := key ((zk t o).getD i 0) l 0
 rw [Rat.mul_zero] at this
 rw [this, h3, Rat.mul_one]
def zFH (t : zS) (i j : Nat) : Prop := (j < i ∧ (t.getD j node0).kind = 0) ∨ (i ≤ j ∧ (j = 0 ∨ ∃ a, a < i ∧ kid t a j))
open Classical in
theorem zLM {t : zS} (h : Valid t) {o : zAS} {d : Nat} (ho : OddsOK t o d) : ∀ i, i ≤ t.length → zA7 (fun j => if zFH t i j then (zk t o).getD j 0 else 0) t.length = 1
 | 0, _ => by
   have hn := h.ne
   rw [zAs (g := fun j => if j = 0 then (zk t o).getD j 0 else 0) (fun j hj => ?_), zEP (by omega), zFt h]
   by_cases e : j = 0
   · rw [if_pos e, if_pos (.inr ⟨Nat.zero_le _, .inl e⟩)]
   · rw [if_neg e, if_neg]
     rintro (⟨q, _⟩ | ⟨_, q | ⟨a, q, _⟩⟩)
     · omega
     · exact e q
     · omega
 | i + 1, hi => by
   have ih := zLM h ho i (by omega)
   have hi' : i < t.length := by omega
   have hfi : zFH t i i := by
     right
     refine ⟨Nat.le_refl _, ?_⟩
     by_cases e : i = 0
     · exact .inl e
     · obtain ⟨a, ha, hk⟩ := h.has hi' e
       exact .inr ⟨a, (h.kid_lt ha hk).1, hk⟩
   have hkn : ∀ j, kid t i j → j < t.length → ¬ zFH t i j := by
     intro j hk hj
     have := h.kid_lt hi' hk
     rintro (⟨q, _⟩ | ⟨_, q | ⟨a, q, hk2⟩⟩)
     · omega
     · omega
     · have := h.parent hj (by omega) hi' (by omega) hk hk2
       omega
   have split1 : zA7 (fun j => if zFH t (i + 1) j then (zk t o).getD j 0 else 0) t.length
       = zA7 (fun j => (if zFH t i j then (zk t o).getD j 0 else 0) + ((if j ∈ zIk t i then (zk t o).getD j 0 else 0) + (if j = i then (if (t.getD i node0).kind = 0 then 0 else - (zk t o).getD i 0) else 0))) t.length := by
     refine zAs (fun j hj => ?_)
     have hmk := zKD h hi' (j := j)
     by_cases e : j = i
     · subst e
       have hnk : ¬ kid t j j := fun hk => by have := h.kid_lt hi' hk; omega
       rw [if_pos hfi, if_neg (fun q => hnk (hmk.1 q)), if_pos rfl, Rat.zero_add]
       by_cases hk : (t.getD j node0).kind = 0
       · rw [if_pos hk, if_pos (.inl ⟨Nat.lt_succ_self _, hk⟩), Rat.add_zero]
       · rw [if_neg hk, if_neg, Rat.add_neg_cancel]
         rintro (⟨_, q⟩ | ⟨q, _⟩)
         · exact hk q
         · omega
     · rw [if_neg e, Rat.add_zero]
       by_cases hk : kid t i j
       · rw [if_pos (hmk.2 hk), if_neg (hkn j hk hj), Rat.zero_add, if_pos]
         have := h.kid_lt hi' hk
         exact .inr ⟨by omega, .inr ⟨i, Nat.lt_succ_self _, hk⟩⟩
       · rw [if_neg (fun q => hk (hmk.1 q)), Rat.add_zero]
         have : zFH t (i + 1) j ↔ zFH t i j := by
           constructor
           · rintro (⟨q1, q2⟩ | ⟨q1, q2 | ⟨a, q2, q3⟩⟩)
             · exact .inl ⟨by omega, q2⟩
             · omega
             · by_cases ea : a = i
               · subst ea; exact absurd q3 hk
               · exact .inr ⟨by omega, .inr ⟨a, by omega, q3⟩⟩
           · rintro (⟨q1, q2⟩ | ⟨q1, q2 | ⟨a, q2, q3⟩⟩)
             · exact .inl ⟨by omega, q2⟩
             · subst q2
               have : i = 0 := by omega
               exact absurd this.symm e
             · exact .inr ⟨by omega, .inr ⟨a, by omega, q3⟩⟩
         by_cases hf : zFH t i j
         · rw [if_pos hf, if_pos (this.2 hf)]
         · rw [if_neg hf, if_neg (fun q => hf (this.1 q))]
   rw [split1, zHk, zHk, ih, zKe (zIk t i) (h.kids_nodup hi') (fun k hk => (h.kid_lt hi' ((zKD h hi').1 hk)).2)]
   have e2 : zA7 (fun j => if j = i then (if (t.getD i node0).kind = 0 then 0 else - (zk t o).getD i 0) else 0) t.length = (if (t.getD i node0).kind = 0 then 0 else - (zk t o).getD i 0) :=
     zEP (f := fun _ => if (t.getD i node0).kind = 0 then 0 else - (zk t o).getD i 0) hi'
   rw [e2]
   by_cases hk : (t.getD i node0).kind = 0
   · rw [if_pos hk, zNq h hi' hk]
     show (1 : Rat) + (0 + 0) = 1
     rw [Rat.add_zero, Rat.add_zero]
   · rw [if_neg hk, kids_sum h ho hi' hk, Rat.add_neg_cancel, Rat.add_zero]
def zAd (t : zS) : List Nat := (List.range t.length).filter (fun i => decide ((t.getD i node0).kind = 0))
theorem ends_sum {t : zS} (h : Valid t) {o : zAS} {d : Nat} (ho : OddsOK t o d) : zAF 0 ((zAd t).map (fun j => (zk t o).getD j 0)) = 1 := by
 classical
 have h1 := zLM h ho t.length (Nat.le_refl _)
 rw [← zKe (n := t.length) (zAd t) (List.Nodup.sublist List.filter_sublist List.nodup_range) (fun k hk => by
   have := (List.mem_filter.1 hk).1
   simpa using this), ← h1]
 refine zAs (fun j hj => ?_)
 have : j ∈ zAd t ↔ zFH t t.length j := by
   unfold zAd zFH
   rw [List.mem_filter, List.mem_range, decide_eq_true_eq]
   constructor
   · exact .inl
   · rintro (q | ⟨q, _⟩)
     · exact q
     · omega
 by_cases hf : j ∈ zAd t
 · rw [if_pos hf, if_pos (this.1 hf)]
 · rw [if_neg hf, if_neg (fun q => hf (this.2 q))]
end Go.Ax.Rt
namespace Go.Ax.Rt
open Go.Ax.Bg
theorem zJd : ∀ (N : Nat) (l : List Nat), l.Nodup → (∀ x ∈ l, x < N) → l.length ≤ N
 | 0, [], _, _ => Nat.le_refl _
 | 0, a :: r, _, h => absurd (h a (by simp)) (Nat.not_lt_zero _)
 | N + 1, l, hn, h => by
   by_cases hN : N ∈ l
   · have h1 := zJd N (l.erase N) (hn.erase N) (fun x hx => by
       have h2 := (hn.mem_erase_iff).1 hx
       have := h x h2.2
       omega)
     rw [List.length_erase_of_mem hN] at h1
     omega
   · have h1 := zJd N l hn (fun x hx => by
       have := h x hx
       have : x ≠ N := fun e => hN (e ▸ hx)
       omega)
     omega
theorem zNY {t : zS} (h : Valid t) : (t.flatMap TNode.next).length ≤ t.length := by
 have hb : ∀ x ∈ t.flatMap TNode.next, 0 < x ∧ x < t.length := by
   intro x hx
   obtain ⟨n, hn1, hn2⟩ := List.mem_flatMap.1 hx
   obtain ⟨i, hi, rfl⟩ := List.getElem_of_mem hn1
   have := h.behind hi x (by rw [zu node0 hi]; exact hn2)
   omega
 have hnd : (t.flatMap TNode.next).Nodup := by
   rw [List.nodup_iff_count]
   intro a
   by_cases ha : a ∈ t.flatMap TNode.next
   · have hb' := hb a ha
     have h1 := h.once a.toNat (by omega) (by omega)
     unfold named at h1
     rw [zJz, show ((a.toNat : Nat) : Int) = a by omega] at h1
     omega
   · rw [List.count_eq_zero_of_not_mem ha]; omega
 have hl := zJd t.length ((t.flatMap TNode.next).map Int.toNat) (by
   rw [List.nodup_iff_pairwise_ne, List.pairwise_map]
   refine List.Pairwise.imp_of_mem ?_ (List.nodup_iff_pairwise_ne.1 hnd)
   intro a b ha hb2 hab e
   have := hb a ha
   have := hb b hb2
   omega) (fun x hx => by
   obtain ⟨y, hy, rfl⟩ := List.mem_map.1 hx
   have := hb y hy
   omega)
 simpa using hl
/-- A number whose multiple by B is whole. -/
def Dv (B : Nat) (q : Rat) : Prop := ∃ z : Int, q * (B : Rat) = (z : Rat)
theorem Dv.den {B : Nat} {q : Rat} (h : Dv B q) (hB : B ≠ 0) : q.den ∣ B := by
 obtain ⟨z, hz⟩ := h
 have hB' : ((B : Int) : Rat) ≠ 0 := intc_ne (by omega)
 have e : q = Rat.divInt z B := by
   rw [Rat.divInt_eq_div, ← hz, ← Rat.intCast_natCast]
   have h1 := Rat.div_mul_cancel (a := q * ((B : Int) : Rat)) hB'
   refine zOh hB' ?_
   rw [Rat.mul_comm _ (q * ((B : Int) : Rat) / ((B : Int) : Rat)), h1, Rat.mul_comm]
 rw [e, (zHt z B hB).2.1]
 exact Nat.div_dvd_of_dvd (Nat.gcd_dvd_right _ _)
theorem Dv.of_den {q : Rat} : Dv q.den q := ⟨q.num, num_den q⟩
theorem Dv.mono {A B : Nat} {q : Rat} (h : Dv A q) (hd : A ∣ B) : Dv B q := by
 obtain ⟨z, hz⟩ := h
 obtain ⟨k, rfl⟩ := hd
 refine ⟨z * k, ?_⟩
 rw [Rat.natCast_mul, ← Rat.mul_assoc, hz, Rat.intCast_mul, Rat.intCast_natCast]
theorem Dv.add {B : Nat} {a b : Rat} (ha : Dv B a) (hb : Dv B b) : Dv B (a + b) := by
 obtain ⟨x, hx⟩ := ha
 obtain ⟨y, hy⟩ := hb
 exact ⟨x + y, by rw [Rat.add_mul, hx, hy, Rat.intCast_add]⟩
theorem Dv.mul {A B : Nat} {a b : Rat} (ha : Dv A a) (hb : Dv B b) : Dv (A * B) (a * b) := by
 obtain ⟨x, hx⟩ := ha
 obtain ⟨y, hy⟩ := hb
 refine ⟨x * y, ?_⟩
 rw [Rat.intCast_mul, ← hx, ← hy, Rat.natCast_mul]
 grind
theorem Dv.zero (B : Nat) : Dv B 0 := ⟨0, by rw [Rat.zero_mul]; rfl⟩
theorem Dv.one (B : Nat) : Dv B 1 := ⟨B, by rw [Rat.one_mul, Rat.intCast_natCast]⟩
/-- A number from 0 to 1 is not longer than its denominator. -/
theorem zLx {B K : Nat} {q : Rat} (h : Dv B q) (hB : B ≠ 0) (h0 : 0 ≤ q) (h1 : q ≤ 1) (hK : B < 10 ^ K) : D K q := by
 have hd := Nat.le_of_dvd (by omega) (h.den hB)
 refine ⟨?_, by omega⟩
 have hn : q.num ≤ q.den := by
   have h2 := Rat.not_lt.2 h1
   rw [Rat.lt_iff] at h2
   have h3 : ¬ ((1 : Int) * (q.den : Int) < q.num * 1) := h2
   omega
 have := Rat.num_nonneg.2 h0
 omega
def zEZ : List Nat → Nat
 | [] => 1
 | a :: r => a * zEZ r
theorem zGr {l : List Nat} (h : ∀ x ∈ l, 0 < x) : 0 < zEZ l := by
 induction l with
 | nil => exact Nat.one_pos
 | cons a r ih => rw [zEZ]; exact Nat.mul_pos (h a (by simp)) (ih (fun x hx => h x (by simp [hx])))
theorem zGm {l : List Nat} {x : Nat} (h : x ∈ l) : x ∣ zEZ l := by
 induction l with
 | nil => simp at h
 | cons a r ih =>
   rw [zEZ]
   rcases List.mem_cons.1 h with rfl | q
   · exact Nat.dvd_mul_right _ _
   · exact Nat.dvd_trans (ih q) (Nat.dvd_mul_left _ _)
theorem zH1 {l : List Nat} {d : Nat} (h : ∀ x ∈ l, x ≤ 10 ^ d) : zEZ l ≤ 10 ^ (d * l.length) := by
 induction l with
 | nil => rw [zEZ, List.length_nil, Nat.mul_zero, Nat.pow_zero]; exact Nat.le_refl _
 | cons a r ih =>
   rw [zEZ, List.length_cons, Nat.mul_add, Nat.mul_one, Nat.add_comm, Nat.pow_add]
   exact Nat.mul_le_mul (h a (by simp)) (ih (fun x hx => h x (by simp [hx])))
def pden (o : Option (List Rat)) : Nat := match o with | none => 1 | some l => zEZ (l.map Rat.den)
theorem pden_pos (o : Option (List Rat)) : 0 < pden o := by
 cases o with
 | none => exact Nat.one_pos
 | some l => exact zGr (fun x hx => by obtain ⟨q, _, rfl⟩ := List.mem_map.1 hx; exact q.den_pos)
def Bd (o : zAS) : Nat → Nat
 | 0 => 1
 | i + 1 => Bd o i * pden (o i)
theorem zLs (o : zAS) : ∀ i, 0 < Bd o i
 | 0 => Nat.one_pos
 | i + 1 => Nat.mul_pos (zLs o i) (pden_pos _)
theorem zG9 (o : zAS) {i : Nat} : ∀ d, Bd o i ∣ Bd o (i + d)
 | 0 => Nat.dvd_refl _
 | d + 1 => Nat.dvd_trans (zG9 o d) (Nat.dvd_mul_right _ _)
/-- An end has no probabilities of its own. -/
structure OddsAll (t : zS) (o : zAS) (d : Nat) : Prop extends OddsOK t o d where
 none : ∀ i, i < t.length → (t.getD i node0).kind = 0 → o i = none
theorem zOp {t : zS} {i j : Nat} (h : Valid t) (hi : i < t.length) (hk : kid t i j) : ∃ m, m < (t.getD i node0).next.length ∧ ((t.getD i node0).next.getD m 0).toNat = j := by
 obtain ⟨m, hm, he⟩ := List.getElem_of_mem hk
 exact ⟨m, hm, by rw [zu 0 hm, he]; exact Int.toNat_natCast j⟩
theorem kid_kind {t : zS} {i j : Nat} (h : Valid t) (hi : i < t.length) (hk : kid t i j) : (t.getD i node0).kind ≠ 0 := by
 intro e
 have := zNq h hi e
 have h2 := (zKD h hi).2 hk
 rw [this] at h2; simp at h2
theorem zHJ {t : zS} (h : Valid t) {o : zAS} {d : Nat} (ho : OddsAll t o d) : ∀ j, j < t.length → Dv (Bd o j) ((zk t o).getD j 0) ∧ 0 ≤ (zk t o).getD j 0 := by
 intro j
 induction j using Nat.strongRecOn with
 | ind j ih =>
   intro hj
   by_cases h0 : j = 0
   · subst h0
     rw [zFt h]
     exact ⟨Dv.one _, by decide +kernel⟩
   · obtain ⟨i, hi, hk⟩ := h.has hj h0
     have hlt := h.kid_lt hi hk
     obtain ⟨m, hm, he⟩ := zOp h hi hk
     obtain ⟨l, l1, l2, l3, l4⟩ := ho.at' i hi (kid_kind h hi hk)
     have hr := zGt h o hi hm
     rw [he, l1] at hr
     have hr : (zk t o).getD j 0 = (zk t o).getD i 0 * l.getD m 0 := hr
     obtain ⟨g1, g2⟩ := ih i (by omega) hi
     have hq := l4 (l.getD m 0) (zAR 0 (by omega))
     rw [hr]
     refine ⟨?_, Rat.mul_nonneg g2 hq.1⟩
     have h5 : Dv (Bd o (i + 1)) ((zk t o).getD i 0 * l.getD m 0) := by
       refine (g1.mul (Dv.of_den (q := l.getD m 0))).mono ?_
       show _ ∣ Bd o i * pden (o i)
       rw [l1]
       exact Nat.mul_dvd_mul (Nat.dvd_refl _) (zGm (List.mem_map.2 ⟨_, zAR 0 (by omega), rfl⟩))
     have h6 := zG9 o (i := i + 1) (j - (i + 1))
     rw [show i + 1 + (j - (i + 1)) = j by omega] at h6
     exact h5.mono h6
theorem Bd_le {t : zS} (h : Valid t) {o : zAS} {d : Nat} (ho : OddsAll t o d) : ∀ i, i ≤ t.length → Bd o i ≤ 10 ^ (d * ((t.take i).flatMap TNode.next).length)
 | 0, _ => by simp [Bd]
 | i + 1, hi => by
   have ih := Bd_le h ho i (by omega)
   have hi' : i < t.length := by omega
   have hp : pden (o i) ≤ 10 ^ (d * (t.getD i node0).next.length) := by
     by_cases hk : (t.getD i node0).kind = 0
     · rw [ho.none i hi' hk]
       exact Nat.pow_pos (by decide)
     · obtain ⟨l, l1, l2, l3, l4⟩ := ho.at' i hi' hk
       rw [l1, ← l2]
       have := zH1 (l := l.map Rat.den) (d := d) (fun x hx => by
         obtain ⟨q, hq, rfl⟩ := List.mem_map.1 hx
         exact Nat.le_of_lt (l4 q hq).2.2)
       rwa [List.length_map] at this
   rw [Bd, List.take_succ_eq_append_getElem hi', List.flatMap_append, List.length_append, Nat.mul_add, Nat.pow_add]
   refine Nat.mul_le_mul ih ?_
   rw [zu node0 hi'] at hp
   simpa using hp
/-- The ends' probabilities, one after the other, never grow too long. -/
theorem zNo {B : Nat} (hB : B ≠ 0) {K : Nat} (hK : B < 10 ^ K) (hK2 : K ≤ 2000) : ∀ (qs : List Rat) (acc : Rat), Dv B acc → 0 ≤ acc → (∀ q ∈ qs, Dv B q ∧ 0 ≤ q) → zAF acc qs ≤ 1 → (zIe acc qs).2 = 0
 | [], _, _, _, _, _ => rfl
 | q :: r, acc, h1, h2, h3, h4 => by
   rw [zAF] at h4
   have hq := h3 q (by simp)
   have g1 := h1.add hq.1
   have g2 : 0 ≤ acc + q := Rat.add_nonneg h2 hq.2
   have g3 : acc + q ≤ 1 := Rat.le_trans (zHY r (acc + q) (fun x hx => (h3 x (by simp [hx])).2)) h4
   rw [zIe, if_pos ((zLx g1 hB g2 g3 hK).fit hK2)]
   exact zNo hB hK hK2 r _ g1 g2 (fun x hx => h3 x (by simp [hx])) h4
/-- ReplyEnds. -/
theorem zPW {t : zS} (h : Valid t) {o : zAS} {d : Nat} (ho : OddsAll t o d) (hn : t.length ≤ 40) {j : Nat} (hj : j < t.length) : Dv (Bd o t.length) ((zk t o).getD j 0) ∧ Bd o t.length < 10 ^ (d * 40 + 1) := by
 obtain ⟨g1, g2⟩ := zHJ h ho j hj
 have h6 := zG9 o (i := j) (t.length - j)
 rw [show j + (t.length - j) = t.length by omega] at h6
 refine ⟨g1.mono h6, ?_⟩
 have h7 := Bd_le h ho t.length (Nat.le_refl _)
 rw [List.take_length] at h7
 have h8 := zNY h
 have h9 : d * (t.flatMap TNode.next).length ≤ d * 40 := Nat.mul_le_mul_left _ (by omega)
 have h10 : 10 ^ (d * (t.flatMap TNode.next).length) ≤ 10 ^ (d * 40) := Nat.pow_le_pow_right (by decide) h9
 have : 0 < 10 ^ (d * 40) := Nat.pow_pos (by decide)
 rw [Nat.pow_succ]
 omega
end Go.Ax.Rt
namespace Go.Ax.Rt
open Go.Ax.Bg
def zAy {α : Type} (v : Nat → α) : List Int → Nat → List α → List α
 | [], _, a => a
 | c :: r, k, a => zAy v r (k + 1) (a.set c.toNat (v k))
theorem zDH {α : Type} (v : Nat → α) : ∀ (l : List Int) (k : Nat) (a : List α), (zAy v l k a).length = a.length
 | [], _, a => rfl
 | c :: r, k, a => by rw [zAy, zDH v r]; simp
theorem zDa {α : Type} (v : Nat → α) (x : Int) : ∀ (l : List Int) (k : Nat) (a : List α), zAy v (l ++ [x]) k a = (zAy v l k a).set x.toNat (v (k + l.length))
 | [], k, a => rfl
 | c :: r, k, a => by
   rw [List.cons_append, zAy, zAy, zDa v x r (k + 1)]
   congr 2
   rw [List.length_cons]; omega
theorem zCG {α : Type} (v : Nat → α) (d : α) {j : Nat} : ∀ (l : List Int) (k : Nat) (a : List α), (∀ c ∈ l, c.toNat ≠ j) → (zAy v l k a).getD j d = a.getD j d
 | [], _, a, _ => rfl
 | c :: r, k, a, h => by
   rw [zAy, zCG v d r (k + 1) _ (fun c hc => h c (by simp [hc])), Go.Ax.Dt.getD_set, if_neg]
   exact fun q => h c (by simp) q.1.symm
theorem zPq {α : Type} (v : Nat → α) (d : α) : ∀ (l : List Int) (k : Nat) (a : List α) (m : Nat), m < l.length → (l.map Int.toNat).Nodup → (∀ c ∈ l, c.toNat < a.length) → (zAy v l k a).getD (l.getD m 0).toNat d = v (k + m)
 | [], _, a, m, h, _, _ => absurd h (Nat.not_lt_zero _)
 | c :: r, k, a, m, h, hn, hl => by
   rw [List.map_cons, List.nodup_cons] at hn
   rw [zAy]
   cases m with
   | zero =>
     have : (c :: r).getD 0 0 = c := rfl
     rw [this, zCG, Go.Ax.Dt.getD_set, if_pos ⟨rfl, hl c (by simp)⟩, Nat.add_zero]
     intro x hx e
     exact hn.1 (List.mem_map.2 ⟨x, hx, e⟩)
   | succ m =>
     have : (c :: r).getD (m + 1) 0 = r.getD m 0 := rfl
     rw [this, zPq v d r (k + 1) _ m (by simpa using h) hn.2 (fun x hx => by rw [List.length_set]; exact hl x (by simp [hx]))]
     congr 1; omega
theorem zIT (v : Nat → Int) : ∀ (l : List Int) (k : Nat) (a : List Int), zDl v l k a = zAy v l k a
 | [], _, a => rfl
 | c :: r, k, a => by rw [zDl, zAy, zIT v r]
theorem zIU (v : Nat → Way) : ∀ (l : List Int) (k : Nat) (a : List Way), zGg v l k a = zAy v l k a
 | [], _, a => rfl
 | c :: r, k, a => by rw [zGg, zAy, zIU v r]
/-- the sequence of each node -/
def zNt (t : zS) (p : Int) : List Int := (zBA t p t.length).pos
def zHN (t : zS) (p : Int) : List Way := zDO t p t.length
abbrev zIl (t : zS) (p : Int) : List (Int × Nat) := (zBA t p t.length).first
theorem zIw (p : Int) (n : TNode) (i : Nat) (f : RForm) : (zAg p n i f).pos = f.pos := by
 unfold zAg; split <;> rfl
theorem form_pos (t : zS) (p : Int) (i : Nat) : (zBA t p (i + 1)).pos = zAy (zI1 p (t.getD i node0) i (zAg p (t.getD i node0) i (zBA t p i))) (t.getD i node0).next 0 (zBA t p i).pos := by
 rw [zBA, zKF]
 show zDl _ _ _ (zAg _ _ _ _).pos = _
 rw [zIT, zIw]
theorem zNE (t : zS) (p : Int) : ∀ i, (zBA t p i).pos.length = t.length
 | 0 => List.length_replicate
 | i + 1 => by rw [form_pos, zDH, zNE t p i]
abbrev zE5 (t : zS) (p x : Int) : Nat := (zCN (zIl t p) x).getD 0
def posW (F : Int → Nat) (w : Way) : Int := match w.getLast? with
 | none => 0
 | some x => ((F x.1 : Nat) : Int) + x.2
/-- the probabilities of both players, and chance -/
def bothO (t : zS) (p : Int) (u : Int → List Rat) (o : zAS) : zAS := fun i => if own p (t.getD i node0) = true then some (u (t.getD i node0).info) else o i
theorem zBb {t : zS} (hv : Valid t) (p : Int) (u : Int → List Rat) : (zAk t p u).getD 0 0 = 1 := by
 obtain ⟨_, h1, h2, _⟩ := zAi hv p
 unfold zAk
 rw [zDV _ _ h2, h1]
 rfl
end Go.Ax.Rt
namespace Go.Ax.Rt
open Go.Ax.Bg
def zIj (t : zS) (r : List Rat) (i : Nat) : Rat := r.getD i 0 * zAB (t.getD i node0).pay
/-- what the first player receives on average -/
def zCS (t : zS) (o : zAS) : Rat := zAF 0 ((zAd t).map (zIj t (zk t o)))
def endG (t : zS) (p : Int) (r : List Rat) (i : Nat) : Rat := if p = 1 then -(zIj t r i) else zIj t r i
def zG7 (g : Nat → Rat) (pos : List Int) : List Nat → List Rat → List Rat
 | [], S => S
 | i :: r, S => zG7 g pos r (S.set (pos.getD i 0).toNat (S.getD (pos.getD i 0).toNat 0 + g i))
theorem zJZ (g : Nat → Rat) (pos : List Int) (x : Nat) : ∀ (ks : List Nat) (S : List Rat), zG7 g pos (ks ++ [x]) S = (zG7 g pos ks S).set (pos.getD x 0).toNat ((zG7 g pos ks S).getD (pos.getD x 0).toNat 0 + g x)
 | [], S => rfl
 | i :: r, S => by rw [List.cons_append, zG7, zG7, zJZ g pos x r]
theorem zLD (g : Nat → Rat) (pos : List Int) : ∀ (ks : List Nat) (S : List Rat), (zG7 g pos ks S).length = S.length
 | [], S => rfl
 | i :: r, S => by rw [zG7, zLD g pos r, List.length_set]
def dotP (P S : List Rat) (n : Nat) : Rat := zA7 (fun k => P.getD k 0 * S.getD k 0) n
theorem zNB (f : Nat → Rat) : ∀ ks : List Nat, zAF 0 (ks.map (fun i => -(f i))) = -(zAF 0 (ks.map f))
 | [] => by rw [List.map_nil, List.map_nil, zAF]; rfl
 | a :: r => by
   rw [List.map_cons, List.map_cons, zAF, zAF, zA9, zA9 (r.map f), zNB f r, Rat.zero_add, Rat.zero_add, Rat.neg_add]
theorem zFP {t : zS} {i : Nat} (h : i ∈ zAd t) : i < t.length ∧ (t.getD i node0).kind = 0 := by
 have := List.mem_filter.1 h
 exact ⟨by simpa using this.1, by simpa using this.2⟩
/-- what the sequences are worth, before the choices are made -/
def zKQ (t : zS) (p : Int) (o : zAS) : List Rat := zG7 (endG t p (zk t o)) (zNt t p) (zAd t) (List.replicate (zb t p).length 0)
def zDD (S : List Rat) (s : Nat) : Nat → Nat
 | 0 => s
 | m + 1 => if S.getD (zDD S s m) 0 < S.getD (s + m) 0 then s + m else zDD S s m
theorem zIi (S : List Rat) (s : Nat) : ∀ m, s ≤ zDD S s m ∧ zDD S s m < s + m + 1 ∧ (1 ≤ m → zDD S s m < s + m)
 | 0 => ⟨Nat.le_refl _, Nat.lt_succ_self _, fun h => absurd h (by decide)⟩
 | m + 1 => by
   obtain ⟨h1, h2, h3⟩ := zIi S s m
   rw [zDD]
   split
   · exact ⟨by omega, by omega, fun _ => by omega⟩
   · exact ⟨h1, by omega, fun _ => by omega⟩
abbrev BSt := Nat × List Rat × List (Int × Int)
def zKB (l : List RSeq) (st : BSt) : BSt :=
 let s := st.1 - 1 - (l.getD (st.1 - 1) seq0).choice.toNat
 let b := zDD st.2.1 s (st.1 - s)
 let q := l.getD b seq0
 (s, st.2.1.set q.before.toNat (st.2.1.getD q.before.toNat 0 + st.2.1.getD b 0), st.2.2 ++ [(q.info, q.choice)])
def backN (l : List RSeq) : Nat → BSt → BSt
 | 0, st => st
 | f + 1, st => if 1 < st.1 then backN l f (zKB l st) else st
/-- The choices from e on belong to whole sets. -/
structure Bnd (t : zS) (p : Int) (e : Nat) : Prop where
 one : 1 ≤ e
 le : e ≤ (zb t p).length
 whole : ∀ x ∈ zIl t p, x.2 < e → x.2 + zT t p x.1 ≤ e
theorem Bnd.top {t : zS} (hv : Valid t) (p : Int) : Bnd t p (zb t p).length :=
 ⟨(zAi hv p).2.2.1, Nat.le_refl _, fun x hx _ => ((RI.all_n hv p t.length (Nat.le_refl _)).fst x hx).2.1⟩
structure Blk (t : zS) (p : Int) (e : Nat) (x : Int × Nat) (b : Nat) : Prop where
 mem : x ∈ zIl t p
 info : x.1 ∈ zJ t p
 one : 1 ≤ x.2
 w1 : 1 ≤ zT t p x.1
 fin : x.2 + zT t p x.1 = e
 lt : b < x.2
 bnd : Bnd t p x.2
 seqs : ∀ c, c < zT t p x.1 → (zb t p).getD (x.2 + c) seq0 = ⟨x.1, (c : Int), (b : Int)⟩
theorem Bnd.blk {t : zS} (hv : Valid t) {p : Int} {e : Nat} (h : Bnd t p e) (he : 1 < e) : ∃ x b, Blk t p e x b := by
 have hl := h.le
 obtain ⟨x, b, x0, x1, x2, x3, x4, x5, x6, x7⟩ := zFB hv (p := p) (k := e - 1) (by omega) (by omega)
 have hw := h.whole x x0 (by omega)
 refine ⟨x, b, x0, x1, x5, by omega, by omega, x4, ⟨x5, by omega, fun y hy hlt => ?_⟩, x7⟩
 rcases Nat.lt_or_ge x.2 (y.2 + zT t p y.1) with q | q
 · obtain ⟨y1, y2, b', b1, b2, b3⟩ := (RI.all_n hv p t.length (Nat.le_refl _)).fst y hy
   have e1 := b3 (x.2 - y.2) (by omega)
   rw [show y.2 + (x.2 - y.2) = x.2 by omega] at e1
   have e2 := x7 0 (by omega)
   rw [Nat.add_zero] at e2
   have e1 : (zb t p).getD x.2 seq0 = ⟨y.1, ((x.2 - y.2 : Nat) : Int), b'⟩ := e1
   rw [e2] at e1
   have := congrArg RSeq.choice e1
   have : ((0 : Nat) : Int) = ((x.2 - y.2 : Nat) : Int) := this
   omega
 · exact q
theorem Blk.step {t : zS} {p : Int} {e : Nat} {x : Int × Nat} {b : Nat} (h : Blk t p e x b) (S : List Rat) (C : List (Int × Int)) :
   zKB (zb t p) (e, S, C) = (x.2, S.set b (S.getD b 0 + S.getD (zDD S x.2 (zT t p x.1)) 0), C ++ [(x.1, ((zDD S x.2 (zT t p x.1) - x.2 : Nat) : Int))]) := by
 have h1 := h.fin
 have h2 := h.w1
 have hs := h.seqs (zT t p x.1 - 1) (by omega)
 rw [show x.2 + (zT t p x.1 - 1) = e - 1 by omega] at hs
 obtain ⟨q1, _, q3⟩ := zIi S x.2 (zT t p x.1)
 have q3 := q3 h2
 have hb := h.seqs (zDD S x.2 (zT t p x.1) - x.2) (by omega)
 rw [show x.2 + (zDD S x.2 (zT t p x.1) - x.2) = zDD S x.2 (zT t p x.1) by omega] at hb
 have e1 : e - 1 - ((zT t p x.1 - 1 : Nat) : Int).toNat = x.2 := by omega
 unfold zKB
 simp only [hs]
 rw [e1, show e - x.2 = zT t p x.1 by omega, hb]
 simp only [Int.toNat_natCast]
theorem Blk.plan {t : zS} {p : Int} {e : Nat} {x : Int × Nat} {b : Nat} (h : Blk t p e x b) (hl : e ≤ (zb t p).length) (u : Int → List Rat) : ∀ c, c < zT t p x.1 → (zAk t p u).getD (x.2 + c) 0 = (zAk t p u).getD b 0 * (u x.1).getD c 0 := by
 intro c hc
 have h1 := h.fin
 have h2 := h.lt
 unfold zAk
 rw [zDV _ _ (show x.2 + c < (zb t p).length by omega), h.seqs c hc]
 unfold zDu
 simp only
 rw [if_neg (by omega), Int.toNat_natCast, Int.toNat_natCast, zHS _ _ (show b < x.2 + c by omega) (show b < (zb t p).length by omega)]
/-- a strategy that need not have short zAi -/
structure Mix (t : zS) (p : Int) (u : Int → List Rat) : Prop where
 len : ∀ x ∈ zJ t p, (u x).length = zT t p x
 sum : ∀ x ∈ zJ t p, zAF 0 (u x) = 1
 nn : ∀ x ∈ zJ t p, ∀ q ∈ u x, 0 ≤ q
theorem plan_nn {t : zS} (hv : Valid t) {p : Int} {u : Int → List Rat} (hu : Mix t p u) : ∀ k, k < (zb t p).length → 0 ≤ (zAk t p u).getD k 0 := by
 intro k
 induction k using Nat.strongRecOn with
 | ind k ih =>
   intro hk
   rcases Nat.eq_zero_or_pos k with e | e
   · subst e
     rw [zBb hv]; decide +kernel
   · obtain ⟨x, b, x0, x1, x2, x3, x4, x5, x6, x7⟩ := zFB hv e hk
     have hs := x7 (k - x.2) (by omega)
     rw [show x.2 + (k - x.2) = k by omega] at hs
     have h2 := ih b (by omega) (by omega)
     unfold zAk at h2 ⊢
     rw [zDV _ _ hk, hs]
     unfold zDu
     simp only
     rw [if_neg (by omega), Int.toNat_natCast, Int.toNat_natCast]
     rw [zHS _ _ (show b < (zb t p).length by omega) (show b < k by omega)] at h2
     exact Rat.mul_nonneg h2 (hu.nn x.1 x1 _ (zAR 0 (by rw [hu.len x.1 x1]; omega)))
theorem zPO {t : zS} {p : Int} {u : Int → List Rat} (hu : Mix t p u) {x : Int} (hx : x ∈ zJ t p) : zA7 (fun c => (u x).getD c 0) (zT t p x) = 1 := by
 rw [zGh _ _ (by rw [hu.len x hx]; exact Nat.le_refl _), List.take_of_length_le (by rw [hu.len x hx]; exact Nat.le_refl _), hu.sum x hx]
def zAx (w c : Nat) : List Rat := (List.replicate w 0).set c 1
theorem unit_sum {w c : Nat} (hc : c < w) (M : Nat → Rat) : zA7 (fun j => (zAx w c).getD j 0 * M j) w = M c := by
 rw [← zEP (f := M) hc]
 refine zAs (fun j hj => ?_)
 unfold zAx
 rw [Go.Ax.Dt.getD_set, List.length_replicate]
 by_cases h : j = c
 · subst h
   rw [if_pos ⟨rfl, hc⟩, if_pos rfl, Rat.one_mul]
 · have : (List.replicate w (0 : Rat)).getD j 0 = 0 := by
     simp only [List.getD, List.getElem?_replicate]
     split <;> rfl
   rw [if_neg (fun q => h q.1), if_neg h, this, Rat.zero_mul]
/-- What the found choices are: one for each set. -/
structure Chosen (t : zS) (p : Int) (e : Nat) (C : List (Int × Int)) : Prop where
 nd : (C.map Prod.fst).Nodup
 old : ∀ y ∈ C, ∃ x ∈ zIl t p, x.1 = y.1 ∧ e ≤ x.2
 all : ∀ x ∈ zIl t p, e ≤ x.2 → x.1 ∈ C.map Prod.fst
 rng : ∀ y ∈ C, 0 ≤ y.2 ∧ y.2.toNat < zT t p y.1
theorem Chosen.top {t : zS} (hv : Valid t) (p : Int) : Chosen t p (zb t p).length [] :=
 ⟨List.nodup_nil, fun y hy => by simp at hy, fun x hx h => by
   obtain ⟨h1, h2, _⟩ := (RI.all_n hv p t.length (Nat.le_refl _)).fst x hx
   have hk : x.1 ∈ zJ t p := (zBh hv).2 (((RI.all_n hv p t.length (Nat.le_refl _)).keys x.1).1 (List.mem_map.2 ⟨x, hx, rfl⟩))
   obtain ⟨j, hj, hs⟩ := (zBh hv).1 hk
   have hw := zDL hv hj hs
   unfold zBJ at hs
   rw [Bool.and_eq_true] at hs
   have := (hv.mine hj hs.1).2.2
   have e : (zb t p).length = (zBA t p t.length).seqs.length := rfl
   omega, fun y hy => by simp at hy⟩
theorem Blk.new {t : zS} (hv : Valid t) {p : Int} {e : Nat} {x : Int × Nat} {b : Nat} (h : Blk t p e x b) {C : List (Int × Int)} (hC : Chosen t p e C) : x.1 ∉ C.map Prod.fst := by
 intro hm
 obtain ⟨y, hy, hyx⟩ := List.mem_map.1 hm
 obtain ⟨z, hz, hzy, hze⟩ := hC.old y hy
 have := zMK (RI.all_n hv p t.length (Nat.le_refl _)).nd hz h.mem (by rw [hzy, hyx])
 subst this
 have := h.fin
 have := h.w1
 omega
theorem Blk.chosen {t : zS} (hv : Valid t) {p : Int} {e : Nat} {x : Int × Nat} {b c : Nat} (h : Blk t p e x b) {C : List (Int × Int)} (hC : Chosen t p e C) (hc : c < zT t p x.1) : Chosen t p x.2 (C ++ [(x.1, (c : Int))]) := by
 have h1 := h.fin
 have h2 := h.w1
 refine ⟨?_, fun y hy => ?_, fun z hz hle => ?_, fun y hy => ?_⟩
 · rw [List.map_append, List.nodup_append]
   refine ⟨hC.nd, by simp, fun a ha b' hb' e' => ?_⟩
   have : b' = x.1 := by simpa using hb'
   rw [e', this] at ha
   exact h.new hv hC ha
 · rcases List.mem_append.1 hy with q | q
   · obtain ⟨z, z1, z2, z3⟩ := hC.old y q
     exact ⟨z, z1, z2, by omega⟩
   · rw [List.mem_singleton.1 q]
     exact ⟨x, h.mem, rfl, Nat.le_refl _⟩
 · rw [List.map_append, List.mem_append]
   by_cases he : e ≤ z.2
   · exact .inl (hC.all z hz he)
   · right
     -- a set that begins in the block of x is x itself
     obtain ⟨z1, z2, b', b1, b2, b3⟩ := (RI.all_n hv p t.length (Nat.le_refl _)).fst z hz
     have hzi : z.1 ∈ zJ t p := (zBh hv).2 (((RI.all_n hv p t.length (Nat.le_refl _)).keys z.1).1 (List.mem_map.2 ⟨z, hz, rfl⟩))
     obtain ⟨j, hj, hs⟩ := (zBh hv).1 hzi
     have hw := zDL hv hj hs
     unfold zBJ at hs
     rw [Bool.and_eq_true] at hs
     have hw1 := (hv.mine hj hs.1).2.2
     have e1 : (zb t p).getD z.2 seq0 = ⟨z.1, ((0 : Nat) : Int), b'⟩ := b3 0 (by omega)
     have e2 := h.seqs (z.2 - x.2) (by omega)
     rw [show x.2 + (z.2 - x.2) = z.2 by omega, e1] at e2
     have := congrArg RSeq.info e2
     have : z.1 = x.1 := this
     simp [this]
 · rcases List.mem_append.1 hy with q | q
   · exact hC.rng y q
   · rw [List.mem_singleton.1 q]
     exact ⟨Int.natCast_nonneg _, by rw [Int.toNat_natCast]; exact hc⟩
/-- reply.BestOf -/
def zJq (t : zS) (p : Int) (o : zAS) : BSt := backN (zb t p) (zb t p).length ((zb t p).length, zKQ t p o, [])
def lookC (C : List (Int × Int)) (x : Int) : Option Int := (C.find? (fun y => decide (y.1 = x))).map Prod.snd
/-- the strategy of the best choices -/
def bestU (t : zS) (p : Int) (o : zAS) (x : Int) : List Rat := zAx (zT t p x) ((lookC (zJq t p o).2.2 x).getD 0).toNat
theorem zBo {w c : Nat} (hc : c < w) : (zAx w c).length = w ∧ zAF 0 (zAx w c) = 1 ∧ (∀ q ∈ zAx w c, 0 ≤ q ∧ D 1 q) := by
 have hl : (zAx w c).length = w := by unfold zAx; rw [List.length_set, List.length_replicate]
 refine ⟨hl, ?_, fun q hq => ?_⟩
 · have h1 := unit_sum hc (fun _ => 1)
   rw [zAs (g := fun j => (zAx w c).getD j 0) (fun j _ => Rat.mul_one _), zGh _ _ (by rw [hl]; exact Nat.le_refl _), List.take_of_length_le (by rw [hl]; exact Nat.le_refl _)] at h1
   exact h1
 · unfold zAx at hq
   rcases List.mem_or_eq_of_mem_set hq with h | h
   · rw [(List.mem_replicate.1 h).2]
     exact ⟨Rat.le_refl, by decide, by decide⟩
   · rw [h]; exact ⟨by decide +kernel, by decide, by decide⟩
theorem zQz (t : zS) (p : Int) (o : zAS) : (zKQ t p o).length = (zb t p).length := by
 unfold zKQ; rw [zLD, List.length_replicate]
end Go.Ax.Rt
namespace Go.Proofs.YtnkealfaldjipaaGreatDoor
open Go.Ax Go.Ax.Bg Go.Ax.Rt Go.RowKit Go.Ax.Idx Go.Ax.Cd
attribute [local irreducible] Ax zAM QOp zO zo
set_option maxRecDepth 100000
set_option maxHeartbeats 4000000
def zBz (n : TNode) : List AV := [.int .i64 n.kind, .int .i64 n.player, .int .i64 n.info, .ro (.ints .i64 n.next) 0 n.next.length, .ro (.strs n.odds) 0 n.odds.length, .str n.pay]
abbrev zd (t : zS) : Cells := zCf node0 6 zBz t
structure ShortN (n : TNode) : Prop where
 next : n.next.length ≤ 9223372036854775807
 odds : n.odds.length ≤ 9223372036854775807
 each : ∀ s ∈ n.odds, s.length ≤ 9223372036854775807
 pay : n.pay.length ≤ 9223372036854775807
structure ShortT (t : zS) : Prop where
 len : t.length ≤ 9223372036854775807
 node : ∀ n ∈ t, ShortN n
theorem zRN (t : zS) (i : Nat) (k : Int) (hi : i ≤ 9223372036854775807) (hlen : t.length ≤ 9223372036854775807) : zW Tryz.prog 236 [.int .i64 k, .rp (.box [.int .i64 (i : Nat)]) 0 0, .rp (.box [.ro (zd t) 0 t.length]) 0 0] (.bool (zEW t.length i k)) := by
 refine zO.value0 (zF (P := Tryz.prog) (fn := Tryz.f236) rfl rfl (by kernel_rfl) rfl (fun c hR hfix => ?_)) (fix := fun _ => False) (fun _ h => h) rfl rfl
 repeat (first | refine zC (zI rfl) ?_ | refine zC (zK rfl) ?_ | refine zB ?_ | refine zA ?_ | refine zZ ?_ | refine zL rfl ?_ | refine zC (zJl rfl rfl) ?_ | refine zC (zBu rfl rfl rfl rfl) ?_)
 refine z8 rfl rfl (fun h => ?_) (fun h => ?_)
 · refine rn6 ?_
   refine zH hR rfl ?_
   unfold zEW
   rw [decide_eq_true h]; rfl
 · repeat (first | refine zC (zI rfl) ?_ | refine zC (zK rfl) ?_ | refine zB ?_ | refine zA ?_ | refine zAL rfl rfl ?_ | refine zAQ ?_ | refine zC (zCX rfl rfl) ?_ | refine zC (zAe rfl rfl) ?_ | refine zC (zBE rfl rfl rfl) ?_ | refine zC (zBu rfl rfl rfl rfl) ?_)
   refine zH hR rfl ?_
   unfold zEW
   rw [decide_eq_false h, Bool.false_or]; rfl
theorem boxT1 (t : zS) : z7 (.box [.ro (zd t) 0 t.length]) := by
 intro i j _ hj
 obtain rfl : j = 0 := by have hj : j < 1 := hj; omega
 rfl
theorem boxIU (n : Int) : z7 (.box [.int .i64 n]) := by
 intro i j _ hj
 obtain rfl : j = 0 := by have hj : j < 1 := hj; omega
 rfl
theorem refl2 {o1 o2 : AObj} (h1 : z7 o1.c) (h2 : z7 o2.c) : ∀ (h : Nat) (o : AObj), ([some o1, some o2] : zV)[h]? = some (some o) → z7 o.c := by
 intro h o ho
 match h, ho with
 | 0, ho => cases ho; exact h1
 | 1, ho => cases ho; exact h2
 | _ + 2, ho => simp at ho
theorem zNN (t : zS) (i : Nat) (hi : i < t.length) (hlen : t.length ≤ 9223372036854775807) (hn : (t.getD i node0).next.length ≤ 9223372036854775807) : zW Tryz.prog 214 [.ro (zd t) 0 t.length, .int .i64 (i : Nat)] (.int .i64 (zGA t.length i (t.getD i node0).next)) := by
 have hc := zK3 (t.getD i node0).next 236 [.rp (.box [.int .i64 (i : Nat)]) 0 0, .rp (.box [.ro (zd t) 0 t.length]) 0 0] (zEW t.length i) rfl hn (fun k _ => zRN t i k (by omega) hlen)
 refine zO.value0 (zF (P := Tryz.prog) (fn := Tryz.f214) rfl rfl (by kernel_rfl) rfl (fun c hR hfix => ?_)) (fix := fun _ => False) (fun _ h => h) rfl rfl
 repeat (first | refine zC (zK rfl) ?_ | refine zB ?_ | refine zA ?_ | refine zZ ?_ | refine zL rfl ?_ | refine zC (zCA rfl rfl rfl rfl) ?_ | refine zC (zU rfl rfl rfl rfl rfl) ?_ | refine zC (zf rfl rfl rfl rfl (by first | (simp only [Nat.zero_add, Int.toNat_natCast, Int.toNat_zero]; exact rfl) | exact rfl) (by omega)) ?_ | refine zC (zCD rfl rfl rfl rfl rfl rfl) ?_ | refine zF9 rfl rfl ?_)
 refine zAO 5 (.ro (.ints .i64 (t.getD i node0).next) 0 (t.getD i node0).next.length) rfl (AEq.of_eq rfl) ?_
 generalize (t.getD i node0).next = l at *
 unfold zGA at hR
 refine rn4 ?_
 refine zD rfl (fun h1 => ?_) (fun h1 => ?_)
 · rw [if_pos (by omega)] at hR
   refine rn6 ?_
   exact zH hR rfl rfl
 rw [if_neg (by omega)] at hR
 refine rn6 ?_
 refine zD rfl (fun h2 => ?_) (fun h2 => ?_)
 · rw [if_pos (by omega)] at hR
   refine rn6 ?_
   exact zH hR rfl rfl
 rw [if_neg (by omega)] at hR
 repeat (first | refine zC (zI rfl) ?_ | refine zZ ?_ | refine zL rfl ?_ | refine zC (zKE rfl) ?_)
 refine zGU rfl rfl rfl rfl hc (refl2 (o1 := ⟨22, .box [.ro (zd t) 0 t.length]⟩) (o2 := ⟨3, .box [.int .i64 (i : Nat)]⟩) (boxT1 _) (boxIU _)) ⟨trivial, ⟨fun o ho => by simp at ho; subst ho; exact Nat.zero_lt_one, fun o ho => by simp at ho; subst ho; exact Nat.zero_lt_one, trivial⟩, trivial⟩ rfl rfl rfl ?_
 generalize l.any (zEW t.length i) = b at *
 cases b
 · rw [if_neg (by decide)] at hR
   refine rn5 ?_
   exact zH hR rfl rfl
 · rw [if_pos rfl] at hR
   refine rn6 ?_
   exact zH hR rfl rfl
end Go.Proofs.YtnkealfaldjipaaGreatDoor
namespace Go.Proofs.YtnkealfaldjipaaGreatDoor
open Go.Ax Go.Ax.Bg Go.Ax.Rt Go.RowKit Go.Ax.Idx Go.Ax.Cd
attribute [local irreducible] Ax zAM QOp zO zo
set_option maxRecDepth 100000
set_option maxHeartbeats 4000000
theorem node_ok (t : zS) (i : Nat) (hi : i < t.length) (hlen : t.length ≤ 9223372036854775807) (hs : ShortN (t.getD i node0)) : zW Tryz.prog 180 [.ro (zd t) 0 t.length, .int .i64 (i : Nat)] (.int .i64 (zEE t.length i (t.getD i node0))) := by
 have cc := zNN t i hi hlen hs.next
 have cp := zLd (t.getD i node0).pay hs.pay
 have co := zL8 (t.getD i node0).odds hs.odds hs.each
 obtain ⟨s1, s2, s3, s4⟩ := hs
 refine zO.value0 (zF (P := Tryz.prog) (fn := Tryz.f180) rfl rfl (by kernel_rfl) rfl (fun c hR hfix => ?_)) (fix := fun _ => False) (fun _ h => h) rfl rfl
 refine rn6 ?_
 refine zN 10 (.agg (zBz (t.getD i node0))) rfl (AEq.of_eq rfl) ?_
 generalize t.getD i node0 = n at *
 obtain ⟨kd, pl, nf, nx, od, py⟩ := n
 simp only at *
 unfold zEE at hR
 refine zQ (c' := .box [.int .i64 kd, .int .i64 pl, .int .i64 nf, .ro (.ints .i64 nx) 0 nx.length, .ro (.strs od) 0 od.length, .str py]) rfl rfl rfl rfl rfl Nat.zero_lt_one rfl rfl (fun i' j' hi' hj' => ?_) ?_
 · rw [if_pos (Nat.lt_one_iff.1 hi')]; rfl
 simp only at hR
 refine rn5 ?_
 refine zD rfl (fun h0 => ?_) (fun h0 => ?_)
 · rw [if_pos h0] at hR
   refine rn5 ?_
   refine z8 rfl rfl (fun g1 => ?_) (fun g1 => ?_)
   · rw [if_pos (.inl g1)] at hR
     refine rn6 ?_
     exact zH hR rfl rfl
   refine rn5 ?_
   refine z8 rfl rfl (fun g2 => ?_) (fun g2 => ?_)
   · rw [if_pos (.inr (.inl g2))] at hR
     refine rn6 ?_
     exact zH hR rfl rfl
   refine rn6 ?_
   refine z8 rfl rfl (fun g3 => ?_) (fun g3 => ?_)
   · rw [if_pos (.inr (.inr (.inl (by rintro rfl; simp at g3))))] at hR
     refine rn6 ?_
     exact zH hR rfl rfl
   refine rn6 ?_
   refine zD rfl (fun g4 => ?_) (fun g4 => ?_)
   · rw [if_pos (.inr (.inr (.inr (by rintro rfl; simp at g4))))] at hR
     refine rn6 ?_
     exact zH hR rfl rfl
   rw [if_neg (by
     rintro (q | q | q | q)
     · exact g1 q
     · exact g2 q
     · have := List.length_pos_iff.2 q; omega
     · have := List.length_pos_iff.2 q; omega)] at hR
   refine rn5 ?_
   refine zE rfl rfl rfl cp ?_
   refine rn6 ?_
   exact zH hR rfl rfl
 rw [if_neg h0] at hR
 refine rn4 ?_
 refine zD rfl (fun h1 => ?_) (fun h1 => ?_)
 · rw [if_pos h1] at hR
   refine rn5 ?_
   refine z8 rfl rfl (fun g1 => ?_) (fun g1 => ?_)
   · rw [if_pos (.inl g1)] at hR
     refine rn6 ?_
     exact zH hR rfl rfl
   refine rn5 ?_
   refine z8 rfl rfl (fun g2 => ?_) (fun g2 => ?_)
   · rw [if_pos (.inr (.inl g2))] at hR
     refine rn6 ?_
     exact zH hR rfl rfl
   repeat (first | refine zB ?_ | refine zA ?_ | refine zAL rfl rfl ?_ | refine zC (zU rfl rfl rfl rfl rfl) ?_ | refine zC (zAe rfl rfl) ?_ | refine zC (zGG rfl rfl) ?_ | refine zC (zP rfl rfl rfl rfl rfl rfl) ?_)
   refine zD rfl (fun g3 => ?_) (fun g3 => ?_)
   · rw [if_pos (.inr (.inr g3))] at hR
     refine rn6 ?_
     exact zH hR rfl rfl
   rw [if_neg (by
     rintro (q | q | q)
     · exact g1 q
     · exact g2 q
     · exact g3 q)] at hR
   refine rn1 ?_
   refine zE rfl rfl rfl cc ?_
   refine rn3 ?_
   refine zD rfl (fun h3 => ?_) (fun h3 => ?_)
   · rw [if_pos h3] at hR
     refine rn6 ?_
     exact zH hR rfl rfl
   rw [if_neg h3] at hR
   refine rn5 ?_
   refine zD rfl (fun h4 => ?_) (fun h4 => ?_)
   · rw [if_pos (by omega)] at hR
     refine rn6 ?_
     exact zH hR rfl rfl
   rw [if_neg (by omega)] at hR
   refine rn5 ?_
   refine zE rfl rfl rfl co ?_
   refine rn6 ?_
   exact zH hR rfl rfl
 rw [if_neg h1] at hR
 refine rn4 ?_
 refine zD rfl (fun h2 => ?_) (fun h2 => ?_)
 · rw [if_pos h2] at hR
   refine rn6 ?_
   refine z8 rfl rfl (fun g1 => ?_) (fun g1 => ?_)
   · rw [if_pos (.inl (by rintro rfl; simp at g1))] at hR
     refine rn6 ?_
     exact zH hR rfl rfl
   repeat (first | refine zB ?_ | refine zA ?_ | refine zAL rfl rfl ?_ | refine zC (zU rfl rfl rfl rfl rfl) ?_ | refine zC (zAe rfl rfl) ?_ | refine zC (zGG rfl rfl) ?_ | refine zC (zP rfl rfl rfl rfl rfl rfl) ?_)
   refine zD rfl (fun g2 => ?_) (fun g2 => ?_)
   · rw [if_pos (.inr g2)] at hR
     refine rn6 ?_
     exact zH hR rfl rfl
   rw [if_neg (by
     rintro (q | q)
     · have := List.length_pos_iff.2 q; omega
     · exact g2 q)] at hR
   refine rn5 ?_
   refine z8 rfl rfl (fun g3 => ?_) (fun g3 => ?_)
   · refine rn5 ?_
     refine z8 rfl rfl (fun g4 => ?_) (fun g4 => ?_)
     · rw [if_pos (.inl ⟨g3, g4⟩)] at hR
       refine rn6 ?_
       exact zH hR rfl rfl
     refine rn5 ?_
     refine z8 rfl rfl (fun g5 => ?_) (fun g5 => ?_)
     · rw [if_pos (.inr (.inl g5))] at hR
       refine rn6 ?_
       exact zH hR rfl rfl
     repeat (first | refine zB ?_ | refine zA ?_ | refine zAL rfl rfl ?_ | refine zC (zU rfl rfl rfl rfl rfl) ?_ | refine zC (zCX rfl rfl) ?_ | refine zC (zAe rfl rfl) ?_ | refine zC (zP rfl rfl rfl rfl rfl rfl) ?_)
     refine zD rfl (fun g6 => ?_) (fun g6 => ?_)
     · rw [if_pos (.inr (.inr g6))] at hR
       refine rn6 ?_
       exact zH hR rfl rfl
     rw [if_neg (by
       rintro (q | q | q)
       · exact g4 q.2
       · exact g5 q
       · exact g6 q)] at hR
     refine rn1 ?_
     refine zE rfl rfl rfl cc ?_
     refine rn6 ?_
     exact zH hR rfl rfl
   · refine rn6 ?_
     refine z8 rfl rfl (fun g5 => ?_) (fun g5 => ?_)
     · rw [if_pos (.inr (.inl g5))] at hR
       refine rn6 ?_
       exact zH hR rfl rfl
     repeat (first | refine zB ?_ | refine zA ?_ | refine zAL rfl rfl ?_ | refine zC (zU rfl rfl rfl rfl rfl) ?_ | refine zC (zCX rfl rfl) ?_ | refine zC (zAe rfl rfl) ?_ | refine zC (zP rfl rfl rfl rfl rfl rfl) ?_)
     refine zD rfl (fun g6 => ?_) (fun g6 => ?_)
     · rw [if_pos (.inr (.inr g6))] at hR
       refine rn6 ?_
       exact zH hR rfl rfl
     rw [if_neg (by
       rintro (q | q | q)
       · exact g3 q.1
       · exact g5 q
       · exact g6 q)] at hR
     refine rn1 ?_
     refine zE rfl rfl rfl cc ?_
     refine rn6 ?_
     exact zH hR rfl rfl
 · rw [if_neg h2] at hR
   refine rn5 ?_
   exact zH hR rfl rfl
end Go.Proofs.YtnkealfaldjipaaGreatDoor
namespace Go.Proofs.YtnkealfaldjipaaGreatDoor
open Go.Ax Go.Ax.Bg Go.Ax.Rt Go.RowKit Go.Ax.Idx Go.Ax.Cd
attribute [local irreducible] Ax zAM QOp zO zo
set_option maxRecDepth 100000
set_option maxHeartbeats 4000000
theorem chk1_ok (n : Int) : zW Tryz.prog 182 [.int .i64 n] (.bool (decide (n ≠ 1))) := by
 refine zO.value0 (zF (P := Tryz.prog) (fn := Tryz.f182) rfl rfl (by kernel_rfl) rfl (fun c hR hfix => ?_)) (fix := fun _ => False) (fun _ h => h) rfl rfl
 refine rn3 ?_
 exact zH hR rfl rfl
def zIH (e : Int × Int × Nat) : AV := .agg [.int .i64 e.1, .int .i64 e.2.1]
def lenV (e : Int × Int × Nat) : AV := .int .i64 (e.2.2 : Nat)
abbrev szC (S : KSz) : Cells := .mp (S.map zIH) (S.map lenV)
theorem keysV (S : KSz) : ∀ x ∈ S.map zIH, zDS (.pair .i64) x = true := by
 intro x hx
 obtain ⟨e, _, rfl⟩ := List.mem_map.1 hx
 rfl
theorem set_same {l : List AV} {j : Nat} {v : AV} (h : l[j]? = some v) : l.set j v = l := by
 apply List.ext_getElem?
 intro i
 by_cases e : j = i
 · subst e
   obtain ⟨hj, _⟩ := List.getElem?_eq_some_iff.1 h
   rw [List.getElem?_set_self hj, h]
 · rw [List.getElem?_set_ne e]
theorem zCz {α : Type} {n : Nat} {f : α → AV} (hf : ∀ x, zCn n (f x) = true) : ∀ l : List α, zBw n (l.map f) = true
 | [] => rfl
 | a :: r => by
   show (zCn n (f a) && zBw n (r.map f)) = true
   rw [hf a, zCz hf r]; rfl
theorem zHM {α : Type} {f : α → AV} (hf : ∀ x, noRef (f x) = true) : ∀ l : List α, noRef.noRefs (l.map f) = true
 | [] => rfl
 | a :: r => by
   show (noRef (f a) && noRef.noRefs (r.map f)) = true
   rw [hf a, zHM hf r]; rfl
theorem zBg {n : Nat} {t : TypeId} {c : Cells} (hc : zA6 n c) : ∀ (h : Nat) (o : AObj), ([some ⟨t, c⟩] : zV)[h]? = some (some o) → zA6 n o.c := by
 intro h o ho
 match h, ho with
 | 0, ho => cases ho; exact hc
 | _ + 1, ho => simp at ho
theorem zJ7 (S : KSz) (n : Nat) : zA6 n (szC S) := ⟨zCz (fun _ => rfl) S, zCz (fun _ => rfl) S⟩
theorem zRD (t : zS) (hT : ShortT t) : zW Tryz.prog 126 [.ro (zd t) 0 t.length] (.int .i64 (zJA t)) := by
 have hlen := hT.len
 refine zO.value0 (zF (P := Tryz.prog) (fn := Tryz.f126) rfl rfl (by kernel_rfl) rfl (fun c hR hfix => ?_)) (fix := fun _ => False) (fun _ h => h) rfl rfl
 unfold zJA at hR
 refine rn6 ?_
 refine zD rfl (fun h1 => ?_) (fun h1 => ?_)
 · rw [if_pos (by omega)] at hR
   refine rn2 ?_
   exact zH hR rfl rfl
 rw [if_neg (by omega)] at hR
 refine rn4 ?_
 refine zD rfl (fun h2 => ?_) (fun h2 => ?_)
 · rw [if_pos (by omega)] at hR
   refine rn2 ?_
   exact zH hR rfl rfl
 rw [if_neg (by omega)] at hR
 have hN : t.length ≤ 120 := by omega
 have hN0 : t.length ≠ 0 := by omega
 refine rn3 ?_
 refine zCC rfl rfl rfl rfl rfl rfl rfl rfl (by show 0 ≤ _ ∧ _ ≤ _ ∧ (8 : Int) * _ ≤ _ ∧ _; omega) ?_
 refine rn3 ?_
 refine zg (ι := Nat) (fun i => [(0, .ro (zd t) 0 t.length), (3, .sl 0 0 t.length), (23, .ro (zd t) 0 t.length), (24, .int .i64 (t.length : Nat)), (25, .int .i64 (i : Nat))]) (fun i => [some ⟨3, .ints .i64 (zDy t.length (zEs t i))⟩])
   (fun i => i ≤ t.length ∧ zEn t.length 0 t = zEn t.length i (t.drop i) ∧ (zEs t i).length ≤ 6 * i) (fun i => t.length - i) 0 ⟨⟨rfl, rfl, rfl, rfl, rfl, trivial⟩, by show [some (⟨3, .ints .i64 (List.replicate _ 0)⟩ : AObj)] = [some ⟨3, .ints .i64 (zDy t.length [])⟩]; rw [cntT_nil]; rfl, Nat.zero_le _, by rw [List.drop_zero], by simp [zEs]⟩ ?_
 rintro i ⟨hi, hE, hF⟩
 refine rn4 ?_
 refine zD rfl (fun h3 => ?_) (fun h3 => ?_)
 · have hi' : i < t.length := by omega
   have hmem := zBH node0 hi'
   have cn := node_ok t i hi' hlen (hT.node _ hmem)
   rw [zMa hi'] at hE
   have hfs := zN9 hi'
   refine rn1 ?_
   refine zE rfl rfl rfl cn ?_
   refine rn3 ?_
   refine zD rfl (fun h4 => ?_) (fun h4 => ?_)
   · rw [if_neg h4] at hE
     rw [if_pos (by rw [hE]; exact h4), hE] at hR
     refine rn6 ?_
     exact zH hR rfl rfl
   rw [if_pos (Classical.not_not.1 h4)] at hE
   obtain ⟨q1, q2⟩ := zG8 (Classical.not_not.1 h4)
   have hl9 : (t.getD i node0).next.length ≤ 9223372036854775807 := by omega
   repeat (first | refine zA ?_ | refine zZ ?_ | refine zi ?_)
   refine zL rfl ?_
   repeat (first | refine zC (zI rfl) ?_ | refine zB ?_ | refine zA ?_ | refine zC (zCA rfl rfl rfl rfl) ?_ | refine zC (zBE rfl rfl rfl) ?_ | refine zC (zf rfl rfl rfl rfl (by first | (simp only [Nat.zero_add, Int.toNat_natCast, Int.toNat_zero]; exact rfl) | exact rfl) (by omega)) ?_ | refine zC (zCD rfl rfl rfl rfl rfl rfl) ?_)
   refine zAO 38 (.ro (.ints .i64 (t.getD i node0).next) 0 (t.getD i node0).next.length) rfl (AEq.of_eq rfl) ?_
   generalize (t.getD i node0).next = l at *
   repeat (refine zw ?_)
   refine zg (ι := Nat) (fun j => [(0, .ro (zd t) 0 t.length), (3, .sl 0 0 t.length), (23, .ro (zd t) 0 t.length), (24, .int .i64 (t.length : Nat)), (25, .int .i64 (i : Nat)), (38, .ro (.ints .i64 l) 0 l.length), (39, .int .i64 (l.length : Nat)), (40, .int .i64 (j : Nat))]) (fun j => [some ⟨3, .ints .i64 (zDy t.length (zEs t i ++ l.take j))⟩])
     (fun j => j ≤ l.length) (fun j => l.length - j) 0 ⟨⟨rfl, rfl, rfl, rfl, rfl, rfl, rfl, rfl, trivial⟩, by rw [List.take_zero, List.append_nil], Nat.zero_le _⟩ ?_
   intro j hj
   refine rn4 ?_
   refine zD rfl (fun h5 => ?_) (fun h5 => ?_)
   · have hj' : j < l.length := by omega
     obtain ⟨b1, b2⟩ := q1 _ (zAR 0 hj')
     have hs := zQ8 (zEs t i ++ l.take j) (x := l.getD j 0) (by omega) b2
     rw [List.append_assoc, ← zCx hj'] at hs
     have hb := cntT_le t.length (zEs t i ++ l.take j) (l.getD j 0).toNat
     have hll : (zEs t i ++ l.take j).length ≤ 6 * i + 6 := by rw [List.length_append, List.length_take]; omega
     have hcl := zEl t.length (zEs t i ++ l.take j)
     have hlt : (l.getD j 0).toNat < (zDy t.length (zEs t i ++ l.take j)).length := by omega
     generalize zDy t.length (zEs t i ++ l.take j) = C at *
     repeat (first | refine zC (zI rfl) ?_ | refine zC (zK rfl) ?_ | refine zC (zAr rfl rfl rfl) ?_ | refine zB ?_ | refine zA ?_ | refine zZ ?_ | refine zL rfl ?_ | refine za ?_ | refine zw ?_ | refine zi ?_ | refine zC (zDJ rfl rfl (by omega)) ?_ | refine zC (zf rfl rfl rfl rfl (by first | (simp only [Nat.zero_add, Int.toNat_natCast, Int.toNat_zero]; exact rfl) | exact rfl) (by omega)) ?_ | refine zC (ze rfl rfl rfl rfl rfl (by first | (simp only [Nat.zero_add, Int.toNat_natCast, Int.toNat_zero]; exact rfl) | exact rfl) (by omega)) ?_ | refine zC (zAN rfl rfl rfl rfl (by first | assumption | omega)) ?_ | refine zAt rfl rfl rfl rfl rfl rfl rfl (by first | assumption | (show _ < List.length _; first | assumption | omega)) ?_)
     exact zM ⟨j + 1, by omega, by omega, ⟨rfl, rfl, rfl, rfl, rfl, rfl, rfl, rfl, trivial⟩, by rw [hs]; rfl⟩
   · have hje : j = l.length := by omega
     subst hje
     rw [List.take_length, ← hfs]
     refine rn5 ?_
     exact zM ⟨i + 1, ⟨by omega, hE, by rw [hfs, List.length_append]; omega⟩, by omega, ⟨rfl, rfl, rfl, rfl, rfl, trivial⟩, rfl⟩
 have hie : i = t.length := by omega
 subst hie
 rw [List.drop_length] at hE
 have hE0 : zEn t.length 0 t = 0 := hE
 rw [if_neg (by rw [hE0]; exact fun q => q rfl)] at hR
 have hfl : zEs t t.length = t.flatMap TNode.next := by unfold zEs; rw [List.take_length]
 rw [hfl]
 have hall := zQG hN0
 rw [← hall] at hR
 have hcl := zEl t.length (t.flatMap TNode.next)
 generalize zDy t.length (t.flatMap TNode.next) = C at *
 have cc := zK3 (C.drop 1) 182 [] (fun n => decide (n ≠ 1)) rfl (by rw [List.length_drop]; omega) (fun n _ => chk1_ok n)
 repeat (first | refine zA ?_ | refine zZ ?_ | refine zAq ?_ | refine zq ?_ | refine zp ?_ | refine zAH ?_)
 refine zAY 0 3 t.length [(0, .ro (zd t) 0 t.length)] rfl zAW rfl (by show t.length ≤ C.length; omega) ⟨rfl, trivial⟩ ?_
 refine zAa [] [none] [(0, .ro (zd t) 0 t.length), (3, .ro (.ints .i64 C) 0 t.length)] rfl ⟨rfl, rfl, trivial⟩ (fun h hh => by rw [hfix] at hh; exact absurd hh id) (fun h o ho => by simp at ho) rfl ?_
 repeat (first | refine zC (zI rfl) ?_ | refine zL rfl ?_ | refine zC (zJv rfl rfl rfl rfl rfl rfl rfl (by omega)) ?_)
 refine zN 53 (.ro (.ints .i64 (C.drop 1)) 0 (C.drop 1).length) rfl (AEq.trans (AEq.drop (k := .i64) (l := C) (i := 1) (n := ((t.length : Int) - 1).toNat)) (AEq.of_eq (by rw [List.length_drop, hcl]; congr 1; omega))) ?_
 refine zE rfl rfl rfl cc ?_
 generalize (C.drop 1).any (fun n => decide (n ≠ 1)) = b at *
 cases b
 case true =>
   rw [if_pos rfl] at hR
   refine rn5 ?_
   exact zH hR rfl rfl
 rw [if_neg (by decide)] at hR
 refine rn4 ?_
 refine zFh ?_
 refine rn3 ?_
 refine zg (ι := Nat × KSz) (fun x => [(0, .ro (zd t) 0 t.length), (8, .mp 0), (56, .ro (zd t) 0 t.length), (57, .int .i64 (t.length : Nat)), (58, .int .i64 (x.1 : Nat))]) (fun x => [some ⟨262, szC x.2⟩])
   (fun x => x.1 ≤ t.length ∧ KInv (t.take x.1) x.2) (fun x => t.length - x.1) (0, []) ⟨⟨rfl, rfl, rfl, rfl, rfl, trivial⟩, rfl, Nat.zero_le _, KInv.nil⟩ ?_
 rintro ⟨k, S⟩ ⟨hk, hK⟩
 simp only at hk hK
 refine rn4 ?_
 refine zD rfl (fun h5 => ?_) (fun h5 => ?_)
 · have hk' : k < t.length := by omega
   have hmem := zBH node0 hk'
   have hsn := hT.node _ hmem
   have htk := zN2 hk'
   have hpre : ∀ a ∈ t.take k, a ∈ t := fun a ha => List.mem_of_mem_take ha
   have hskip := @KInv.skip (t.take k) S (t.getD k node0) hK
   have hhit := fun e => @KInv.hit (t.take k) S (t.getD k node0) e hK
   have hmiss := @KInv.miss (t.take k) S (t.getD k node0) hK
   have hbad := fun e => @KInv.bad (t.take k) t S (t.getD k node0) e hK hpre hmem
   rw [← htk] at hskip hhit hmiss
   obtain ⟨s1, s2, s3, s4⟩ := hsn
   refine rn6 ?_
   refine zN 61 (.agg (zBz (t.getD k node0))) rfl (AEq.of_eq rfl) ?_
   generalize t.getD k node0 = n at *
   obtain ⟨kd, pl, nf, nx, od, py⟩ := n
   simp only at *
   refine zQ (c' := .box [.int .i64 kd, .int .i64 pl, .int .i64 nf, .ro (.ints .i64 nx) 0 nx.length, .ro (.strs od) 0 od.length, .str py]) rfl rfl rfl rfl rfl Nat.zero_lt_one rfl rfl (fun i' j' hi' hj' => ?_) ?_
   · rw [if_pos (Nat.lt_one_iff.1 hi')]; rfl
   refine rn5 ?_
   refine zD rfl (fun g1 => ?_) (fun g1 => ?_)
   · repeat (first | refine zAq ?_ | refine zq ?_ | refine zp ?_)
     refine zA ?_
     refine zAa [some ⟨262, szC S⟩] [some ⟨40, .box [.int .i64 kd, .int .i64 pl, .int .i64 nf, .ro (.ints .i64 nx) 0 nx.length, .ro (.strs od) 0 od.length, .str py]⟩] [(0, .ro (zd t) 0 t.length), (8, .mp 0), (56, .ro (zd t) 0 t.length), (57, .int .i64 (t.length : Nat)), (58, .int .i64 (k : Nat))] rfl ⟨rfl, rfl, rfl, rfl, rfl, trivial⟩ (fun h hh => by rw [hfix] at hh; exact absurd hh id) (zBg (zJ7 S 1)) rfl ?_
     refine rn3 ?_
     exact zM ⟨(k + 1, S), ⟨by simp only; omega, hskip g1⟩, by simp only; omega, ⟨rfl, rfl, rfl, rfl, rfl, trivial⟩, rfl⟩
   · have hk2 : kd = 2 := Classical.not_not.1 g1
     repeat (first | refine zA ?_ | refine zZ ?_ | refine zL rfl ?_ | refine zi ?_ | refine zC (zU rfl rfl rfl rfl rfl) ?_ | refine zC (zAU rfl rfl rfl rfl rfl rfl) ?_ | refine zC (zP rfl rfl rfl rfl rfl rfl) ?_ | refine zBI rfl rfl rfl ?_)
     refine zN 69 (.agg [.int .i64 pl, .int .i64 nf]) rfl (AEq.of_eq rfl) ?_
     refine zQ (c' := .box [.int .i64 pl, .int .i64 nf]) rfl rfl rfl rfl rfl Nat.zero_lt_one rfl rfl (fun i' j' hi' hj' => ?_) ?_
     · rw [if_pos (Nat.lt_one_iff.1 hi')]; rfl
     refine rn6 ?_
     refine zN 72 (zIH (pl, nf, 0)) rfl (AEq.of_eq rfl) ?_
     by_cases hm : ∃ e ∈ S, e.1 = pl ∧ e.2.1 = nf
     · obtain ⟨e, he, e1, e2⟩ := hm
       obtain ⟨j, hj, hje⟩ := List.getElem_of_mem he
       have i1 : (S.map zIH)[j]? = some (zIH (pl, nf, 0)) := by
         rw [List.getElem?_map, List.getElem?_eq_getElem hj, hje]
         show some (zIH e) = _
         unfold zIH; rw [e1, e2]
       have i2 : (S.map lenV)[j]? = some (.int .i64 (e.2.2 : Nat)) := by
         rw [List.getElem?_map, List.getElem?_eq_getElem hj, hje]; rfl
       refine zC (zB7 rfl (.pair rfl rfl rfl) rfl rfl rfl rfl (keysV S) j i1 i2) ?_
       refine rn5 ?_
       refine zD rfl (fun h7 => ?_) (fun h7 => ?_)
       · rw [if_pos (hbad e hk2 he e1 e2 (by omega))] at hR
         refine rn6 ?_
         exact zH hR rfl rfl
       · have h8 : e.2.2 = nx.length := by omega
         have hset : (S.map lenV).set j (.int .i64 (nx.length : Nat)) = S.map lenV := set_same (by rw [i2, h8])
         refine rn6 ?_
         refine zN 85 (zIH (pl, nf, 0)) rfl (AEq.of_eq rfl) ?_
         refine zKm rfl (.pair rfl rfl rfl) rfl rfl rfl rfl rfl (keysV S) j i1 ?_
         refine zAb [some ⟨262, szC (S)⟩, some ⟨40, .box [.int .i64 kd, .int .i64 pl, .int .i64 nf, .ro (.ints .i64 nx) 0 nx.length, .ro (.strs od) 0 od.length, .str py]⟩, some ⟨208, .box [.int .i64 pl, .int .i64 nf]⟩] (by rw [← hset]; rw [hset]; exact (congrArg (fun l => [some (⟨262, .mp (S.map zIH) l⟩ : AObj), some ⟨40, .box [.int .i64 kd, .int .i64 pl, .int .i64 nf, .ro (.ints .i64 nx) 0 nx.length, .ro (.strs od) 0 od.length, .str py]⟩, some ⟨208, .box [.int .i64 pl, .int .i64 nf]⟩]) hset)) ?_
         repeat (first | refine zB ?_ | refine za ?_)
         refine zA ?_
         refine zAa [some ⟨262, szC (S)⟩] [some ⟨40, .box [.int .i64 kd, .int .i64 pl, .int .i64 nf, .ro (.ints .i64 nx) 0 nx.length, .ro (.strs od) 0 od.length, .str py]⟩, some ⟨208, .box [.int .i64 pl, .int .i64 nf]⟩] [(0, .ro (zd t) 0 t.length), (8, .mp 0), (56, .ro (zd t) 0 t.length), (57, .int .i64 (t.length : Nat)), (58, .int .i64 (k : Nat))] rfl ⟨rfl, rfl, rfl, rfl, rfl, trivial⟩ (fun h hh => by rw [hfix] at hh; exact absurd hh id) (zBg (zJ7 _ 1)) rfl ?_
         refine rn3 ?_
         exact zM ⟨(k + 1, S), ⟨by simp only; omega, hhit e he e1 e2 h8⟩, by simp only; omega, ⟨rfl, rfl, rfl, rfl, rfl, trivial⟩, rfl⟩
     · have hnew : zIH (pl, nf, 0) ∉ S.map zIH := by
         intro q
         obtain ⟨e, he, ee⟩ := List.mem_map.1 q
         simp only [zIH, AV.agg.injEq, List.cons.injEq, AV.int.injEq, true_and, and_true] at ee
         exact hm ⟨e, he, ee.1, ee.2⟩
       refine zC (zFA rfl (.pair rfl rfl rfl) rfl rfl rfl rfl rfl rfl rfl rfl (keysV S) hnew) ?_
       refine rn6 ?_
       refine zN 85 (zIH (pl, nf, 0)) rfl (AEq.of_eq rfl) ?_
       refine zDB rfl (.pair rfl rfl rfl) rfl rfl rfl rfl rfl (keysV S) hnew ?_
       refine zAb [some ⟨262, szC (S ++ [(pl, nf, nx.length)])⟩, some ⟨40, .box [.int .i64 kd, .int .i64 pl, .int .i64 nf, .ro (.ints .i64 nx) 0 nx.length, .ro (.strs od) 0 od.length, .str py]⟩, some ⟨208, .box [.int .i64 pl, .int .i64 nf]⟩] (by unfold szC; rw [List.map_append, List.map_append]; rfl) ?_
       repeat (first | refine zB ?_ | refine za ?_)
       refine zA ?_
       refine zAa [some ⟨262, szC (S ++ [(pl, nf, nx.length)])⟩] [some ⟨40, .box [.int .i64 kd, .int .i64 pl, .int .i64 nf, .ro (.ints .i64 nx) 0 nx.length, .ro (.strs od) 0 od.length, .str py]⟩, some ⟨208, .box [.int .i64 pl, .int .i64 nf]⟩] [(0, .ro (zd t) 0 t.length), (8, .mp 0), (56, .ro (zd t) 0 t.length), (57, .int .i64 (t.length : Nat)), (58, .int .i64 (k : Nat))] rfl ⟨rfl, rfl, rfl, rfl, rfl, trivial⟩ (fun h hh => by rw [hfix] at hh; exact absurd hh id) (zBg (zJ7 _ 1)) rfl ?_
       refine rn3 ?_
       exact zM ⟨(k + 1, S ++ [(pl, nf, nx.length)]), ⟨by simp only; omega, hmiss hk2 (fun e he q => hm ⟨e, he, q⟩)⟩, by simp only; omega, ⟨rfl, rfl, rfl, rfl, rfl, trivial⟩, rfl⟩
 · have hke : k = t.length := by omega
   subst hke
   rw [List.take_length] at hK
   rw [zMz hK.free, if_neg (by decide)] at hR
   refine rn5 ?_
   exact zH hR rfl rfl
end Go.Proofs.YtnkealfaldjipaaGreatDoor
namespace Go.Ax.Rt
open Go.Ax.Bg Go.Ax.Idx
theorem zIM {α : Type} (p : α → Bool) : ∀ l : List α, l.any p = true → zCr p l = (l.findIdx p : Nat)
 | [], h => by simp at h
 | x :: r, h => by
   rw [zCr, List.findIdx_cons]
   cases hx : p x
   · have hr : r.any p = true := by simpa [hx] using h
     rw [zIM p r hr]
     simp only [cond_false, Bool.false_eq_true, if_false]
     rw [if_neg (by omega)]
     omega
   · rfl
theorem zQd {α : Type} (p : α → Bool) (l : List α) (h : l.any p = false) : zCr p l = -1 := by
 have := zEr p l
 rw [h, decide_eq_false_iff_not] at this
 exact zNs p l (by omega)
def zBf (t : zS) (p : Int) (k : Nat) : List Int := ((List.range k).map (fun i : Nat => (i : Int))).filter (fun i => t.any (zBJ p i))
def zDe (t : zS) (p : Int) (k : Nat) : List Int := (zBf t p k).map (fun i => ((zT t p i : Nat) : Int))
theorem zI3 (t : zS) (p : Int) (k : Nat) : zBf t p (k + 1) = if t.any (zBJ p (k : Int)) = true then zBf t p k ++ [(k : Int)] else zBf t p k := by
 unfold zBf
 rw [List.range_succ, List.map_append, List.filter_append]
 split
 · rename_i h; simp [h]
 · rename_i h; simp [h]
theorem zNr (t : zS) (p : Int) (k : Nat) : zDe t p (k + 1) = if t.any (zBJ p (k : Int)) = true then zDe t p k ++ [((zT t p (k : Int) : Nat) : Int)] else zDe t p k := by
 unfold zDe
 rw [zI3]
 split
 · simp
 · rfl
theorem zPC (t : zS) (p : Int) (k : Nat) : (zBf t p k).length ≤ k := by
 unfold zBf
 refine Nat.le_trans (List.length_filter_le _ _) (by simp)
theorem zJg (t : zS) (p : Int) (k : Nat) : (zDe t p k).length = (zBf t p k).length := by unfold zDe; simp
theorem zN7 (t : zS) (p : Int) : zBf t p 10 = zJ t p := rfl
theorem zNy (t : zS) (p : Int) : zDe t p 10 = zAE t p := rfl
theorem zOP {t : zS} {p i : Int} (h : t.any (zBJ p i) = true) : zJR t p i < t.length := by
 obtain ⟨x, hx, h2⟩ := List.any_eq_true.1 h
 exact List.findIdx_lt_length_of_exists ⟨x, hx, h2⟩
end Go.Ax.Rt
namespace Go.Proofs.YtnkealfaldjipaaGreatDoor
open Go.Ax Go.Ax.Bg Go.Ax.Rt Go.RowKit Go.Ax.Idx Go.Ax.Cd
attribute [local irreducible] Ax zAM QOp zO zo
set_option maxRecDepth 100000
set_option maxHeartbeats 4000000
theorem zLL (t : zS) (p : Int) (hT : ShortT t) : zW Tryz.prog 71 [.ro (zd t) 0 t.length, .int .i64 p] (.int .i64 (zAh t p)) := by
 have cc := zRD t hT
 refine zO.value0 (zF (P := Tryz.prog) (fn := Tryz.f71) rfl rfl (by kernel_rfl) rfl (fun c hR hfix => ?_)) (fix := fun _ => False) (fun _ h => h) rfl rfl
 unfold zAh at hR
 refine rn0 ?_
 refine zE rfl rfl rfl cc ?_
 refine rn3 ?_
 refine zD rfl (fun h1 => ?_) (fun h1 => ?_)
 · rw [if_pos h1] at hR
   refine rn2 ?_
   exact zH hR rfl rfl
 rw [if_neg h1] at hR
 refine rn3 ?_
 refine z8 rfl rfl (fun g1 => ?_) (fun g1 => ?_)
 · refine rn3 ?_
   refine zD rfl (fun g2 => ?_) (fun g2 => ?_)
   · rw [if_pos ⟨g1, g2⟩] at hR
     refine rn2 ?_
     exact zH hR rfl rfl
   · rw [if_neg (fun q => g2 q.2)] at hR
     refine rn1 ?_
     exact zH hR rfl rfl
 · rw [if_neg (fun q => g1 q.1)] at hR
   refine rn6 ?_
   exact zH hR rfl rfl
theorem zKP (l : zS) (g : FuncId) (caps : List AV) (p : TNode → Bool) (hc : noRef.noRefs caps = true) (hlen : l.length ≤ 9223372036854775807) (hp : ∀ x ∈ l, zW Tryz.prog g ([.agg (zBz x)] ++ caps) (.bool (p x))) :
   zW Tryz.prog 127 [.ro (zd l) 0 l.length, .fn g caps] (.int .i64 (zCr p l)) := by
 refine zO.value0 (zF (P := Tryz.prog) (fn := Tryz.f127) rfl rfl (by kernel_rfl) rfl (fun c hR hfix => ?_)) (fix := fun _ => False) (fun _ h => h) (by simp [noRef.noRefs, noRef, hc]) rfl
 refine rn3 ?_
 refine zg (ι := Nat) (fun k => [(0, .ro (zd l) 0 l.length), (1, .fn g caps), (7, .int .i64 (l.length : Nat)), (8, .int .i64 (k : Nat))]) (fun _ => [])
   (fun k => k ≤ l.length ∧ (l.take k).any p = false) (fun k => l.length - k) 0 ⟨⟨rfl, rfl, rfl, rfl, trivial⟩, rfl, Nat.zero_le _, rfl⟩ ?_
 intro k ⟨hk, hany⟩
 refine rn4 ?_
 refine zD rfl (fun h => ?_) (fun h => ?_)
 · have hk' : k < l.length := by omega
   have hanys := zBt p l node0 k hk'
   refine rn6 ?_
   refine zN 15 (.agg (zBz (l.getD k node0))) rfl (AEq.of_eq rfl) ?_
   refine zE rfl rfl rfl (hp _ (zBH node0 hk')) ?_
   refine rn0 ?_
   refine zDM rfl (fun h2 => ?_) (fun h2 => ?_)
   · refine rn6 ?_
     refine zH hR rfl ?_
     have := zBP p l k hany hk
     rw [zBi l node0 k hk'] at this
     simp only [zCr, h2, if_true] at this
     rw [this]; simp [zBF]
   · refine rn5 ?_
     refine zM ⟨k + 1, ⟨by omega, by rw [hanys, hany, h2]; rfl⟩, by omega, ⟨rfl, rfl, rfl, rfl, trivial⟩, rfl⟩
 · have hk' : k = l.length := by omega
   subst hk'
   refine rn5 ?_
   refine zH hR rfl ?_
   have := zBP p l l.length hany hk
   rw [List.drop_length] at this
   rw [this]; rfl
theorem sets1_ok (n : TNode) (p i : Int) : zW Tryz.prog 138 [.agg (zBz n), .rp (.box [.int .i64 p]) 0 0, .rp (.box [.int .i64 i]) 0 0] (.bool (zBJ p i n)) := by
 obtain ⟨kd, pl, nf, nx, od, py⟩ := n
 refine zO.value0 (zF (P := Tryz.prog) (fn := Tryz.f138) rfl rfl (by kernel_rfl) rfl (fun c hR hfix => ?_)) (fix := fun _ => False) (fun _ h => h) rfl rfl
 unfold zBJ own at hR
 unfold zBz
 simp only at hR ⊢
 refine rn6 ?_
 refine z8 rfl rfl (fun g1 => ?_) (fun g1 => ?_)
 · rw [decide_eq_true g1, Bool.true_and] at hR
   repeat (first | refine zC (zI rfl) ?_ | refine zAL rfl rfl ?_ | refine zC (zU rfl rfl rfl rfl rfl) ?_ | refine zC (zGa rfl rfl) ?_ | refine zC (zAe rfl rfl) ?_ | refine zC (zBu rfl rfl rfl rfl) ?_ | refine zC (zP rfl rfl rfl rfl rfl rfl) ?_)
   refine z8 rfl rfl (fun g2 => ?_) (fun g2 => ?_)
   · rw [decide_eq_true g2, Bool.true_and] at hR
     repeat (first | refine zC (zK rfl) ?_ | refine zB ?_ | refine zA ?_ | refine zAL rfl rfl ?_ | refine zAQ ?_ | refine zC (zU rfl rfl rfl rfl rfl) ?_ | refine zC (zGa rfl rfl) ?_ | refine zC (zAe rfl rfl) ?_ | refine zC (zBu rfl rfl rfl rfl) ?_ | refine zC (zP rfl rfl rfl rfl rfl rfl) ?_)
     exact zH hR rfl rfl
   · rw [decide_eq_false g2, Bool.false_and] at hR
     refine rn6 ?_
     exact zH hR rfl rfl
 · rw [decide_eq_false g1, Bool.false_and, Bool.false_and] at hR
   refine rn6 ?_
   exact zH hR rfl rfl
theorem refl4 {o1 o2 o3 o4 : AObj} (h1 : z7 o1.c) (h2 : z7 o2.c) (h3 : z7 o3.c) (h4 : z7 o4.c) : ∀ (h : Nat) (o : AObj), ([some o1, some o2, some o3, some o4] : zV)[h]? = some (some o) → z7 o.c := by
 intro h o ho
 match h, ho with
 | 0, ho => cases ho; exact h1
 | 1, ho => cases ho; exact h2
 | 2, ho => cases ho; exact h3
 | 3, ho => cases ho; exact h4
 | _ + 4, ho => simp at ho
theorem below3 {n : Nat} {o1 o2 o3 : AObj} (h1 : zA6 n o1.c) (h2 : zA6 n o2.c) (h3 : zA6 n o3.c) : ∀ (h : Nat) (o : AObj), ([some o1, some o2, some o3] : zV)[h]? = some (some o) → zA6 n o.c := by
 intro h o ho
 match h, ho with
 | 0, ho => cases ho; exact h1
 | 1, ho => cases ho; exact h2
 | 2, ho => cases ho; exact h3
 | _ + 3, ho => simp at ho
theorem zC1 (k : IntKind) (l : List Int) (n : Nat) : zA6 n (.ints k l) := fun _ _ _ _ => rfl
theorem zKW (x : Int) (n : Nat) : zA6 n (.box [.int .i64 x]) := by
 intro i j _ hj
 obtain rfl : j = 0 := by have hj : j < 1 := hj; omega
 rfl
theorem zJO (t : zS) (p : Int) (hlen : t.length ≤ 9223372036854775807) : zW Tryz.prog 75 [.ro (zd t) 0 t.length, .int .i64 p] (.tup [.ro (.ints .i64 (zJ t p)) 0 (zJ t p).length, .ro (.ints .i64 (zAE t p)) 0 (zAE t p).length]) := by
 refine zO.value0 (zF (P := Tryz.prog) (fn := Tryz.f75) rfl rfl (by kernel_rfl) rfl (fun c hR hfix => ?_)) (fix := fun _ => False) (fun _ h => h) rfl rfl
 rw [← zN7, ← zNy] at hR
 repeat (first | refine zC (zI rfl) ?_ | refine zC (zK rfl) ?_ | refine zB ?_ | refine zA ?_ | refine zZ ?_ | refine zL rfl ?_ | refine zF9 rfl rfl ?_)
 refine zA1 6 ⟨3, .ints .i64 []⟩ rfl rfl ?_
 refine zA1 7 ⟨3, .ints .i64 []⟩ rfl rfl ?_
 repeat (refine zw ?_)
 refine zg (ι := Nat) (fun k => [(0, .ro (zd t) 0 t.length), (3, .ptr 0 0 0), (6, .sl 1 0 (zBf t p k).length), (7, .sl 2 0 (zBf t p k).length), (10, .int .i64 (k : Nat))]) (fun k => [some ⟨3, .box [.int .i64 p]⟩, some ⟨3, .ints .i64 (zBf t p k)⟩, some ⟨3, .ints .i64 (zDe t p k)⟩])
   (fun k => k ≤ 10) (fun k => 10 - k) 0 ⟨⟨rfl, rfl, rfl, rfl, rfl, trivial⟩, rfl, Nat.zero_le _⟩ ?_
 intro k hk
 refine rn4 ?_
 refine zD rfl (fun h => ?_) (fun h => ?_)
 · have hk' : k < 10 := by omega
   have ci := zKP t 138 [.rp (.box [.int .i64 p]) 0 0, .rp (.box [.int .i64 (k : Nat)]) 0 0] (zBJ p (k : Int)) rfl hlen (fun n _ => sets1_ok n p k)
   have is := zI3 t p k
   have ss := zNr t p k
   have hll := zPC t p k
   have hsl := zJg t p k
   generalize hI2 : zBf t p (k + 1) = I2 at *
   generalize hS2 : zDe t p (k + 1) = S2 at *
   generalize zBf t p k = I at *
   generalize zDe t p k = S at *
   repeat (first | refine zC (zI rfl) ?_ | refine zB ?_ | refine zA ?_ | refine zZ ?_ | refine zL rfl ?_ | refine zw ?_ | refine zi ?_ | refine zC (zKE rfl) ?_ | refine zAt rfl rfl rfl rfl rfl rfl rfl Nat.zero_lt_one ?_ | refine zBI rfl rfl rfl ?_)
   refine zAb [some ⟨3, .box [.int .i64 p]⟩, some ⟨3, .ints .i64 I⟩, some ⟨3, .ints .i64 S⟩, some ⟨3, .box [.int .i64 (k : Nat)]⟩] rfl ?_
   refine zN 8 (.ptr 3 0 0) rfl (AEq.of_eq rfl) ?_
   refine zN 14 (.fn 138 [.ptr 0 0 0, .ptr 3 0 0]) rfl (AEq.of_eq rfl) ?_
   refine zGU rfl rfl rfl rfl ci (refl4 (o1 := ⟨3, .box [.int .i64 p]⟩) (o2 := ⟨3, .ints .i64 I⟩) (o3 := ⟨3, .ints .i64 S⟩) (o4 := ⟨3, .box [.int .i64 (k : Nat)]⟩) (boxIU _) zAW zAW (boxIU _)) ⟨trivial, ⟨fun o ho => by simp at ho; subst ho; exact Nat.zero_lt_one, fun o ho => by simp at ho; subst ho; exact Nat.zero_lt_one, trivial⟩, trivial⟩ rfl rfl rfl ?_
   cases hany : t.any (zBJ p (k : Int))
   · rw [hany, if_neg (by decide)] at is ss
     rw [zQd _ _ hany]
     repeat (first | refine zC (zK rfl) ?_ | refine zB ?_)
     refine zA ?_
     refine zAa [some ⟨3, .box [.int .i64 p]⟩, some ⟨3, .ints .i64 I⟩, some ⟨3, .ints .i64 S⟩] [some ⟨3, .box [.int .i64 (k : Nat)]⟩] [(0, .ro (zd t) 0 t.length), (3, .ptr 0 0 0), (6, .sl 1 0 I.length), (7, .sl 2 0 I.length), (9, .int .i64 (-1)), (10, .int .i64 (k : Nat))] rfl ⟨rfl, rfl, rfl, rfl, rfl, rfl, trivial⟩ (fun h hh => by rw [hfix] at hh; exact absurd hh id) (below3 (zKW _ _) (zC1 _ _ _) (zC1 _ _ _)) rfl ?_
     repeat (first | refine zC (zI rfl) ?_ | refine zB ?_ | refine zA ?_ | refine zZ ?_ | refine zL rfl ?_ | refine zx rfl ?_ | refine za ?_ | refine zi ?_ | refine zC (zCX rfl rfl) ?_ | refine zC (zDJ rfl rfl (by omega)) ?_)
     exact zM ⟨k + 1, by omega, by omega, ⟨rfl, rfl, by rw [hI2, is]; rfl, by rw [hI2, is]; rfl, rfl, trivial⟩, by rw [hI2, hS2, is, ss]⟩
   · rw [hany, if_pos rfl] at is ss
     have hfl := zOP hany
     rw [zIM _ _ hany]
     have hw : zT t p (k : Int) = (t.getD (t.findIdx (zBJ p (k : Int))) node0).next.length := rfl
     have hfl : t.findIdx (zBJ p (k : Int)) < t.length := hfl
     generalize zT t p (k : Int) = wd at *
     generalize t.findIdx (zBJ p (k : Int)) = f at *
     repeat (first | refine zC (zI rfl) ?_ | refine zC (zK rfl) ?_ | refine zB ?_ | refine zA ?_ | refine zZ ?_ | refine zL rfl ?_ | refine zAV rfl ?_ | refine zC (zCX rfl rfl) ?_)
     refine zn (by kernel_rfl) ?_
     refine zR 0 rfl (by kernel_rfl) (by kernel_rfl) (by kernel_rfl) rfl (zI rfl) rfl ?_
     refine zR 4 rfl (by kernel_rfl) (by kernel_rfl) (by kernel_rfl) rfl (zI rfl) rfl ?_
     refine zR 5 rfl (by kernel_rfl) (by kernel_rfl) (by kernel_rfl) rfl (zI rfl) rfl ?_
     refine zR 6 rfl (by kernel_rfl) (by kernel_rfl) (by kernel_rfl) rfl (zI rfl) rfl ?_
     refine zR 7 rfl (by kernel_rfl) (by kernel_rfl) (by kernel_rfl) rfl (zf rfl rfl rfl rfl (by first | (simp only [Nat.zero_add, Int.toNat_natCast, Int.toNat_zero]; exact rfl) | exact rfl) (by omega)) rfl ?_
     refine zR 8 rfl (by kernel_rfl) (by kernel_rfl) (by kernel_rfl) rfl (zCD rfl rfl rfl rfl rfl rfl) rfl ?_
     apply zC4 (H := [some ⟨3, .box [.int .i64 p]⟩, some ⟨3, .ints .i64 (I ++ [(k : Int)])⟩, some ⟨3, .ints .i64 (S ++ [(wd : Int)])⟩, some ⟨3, .box [.int .i64 (k : Nat)]⟩]) [(0, .ro (zd t) 0 t.length), (3, .ptr 0 0 0), (6, .sl 1 0 (I.length + 1)), (7, .sl 2 0 (I.length + 1)), (10, .int .i64 (k : Nat))]
     · intro fin2
       subst hw
       refine zG (is := [1, 9]) (by kernel_rfl) (by simp) rfl ⟨fun o ho => ?_, fun o ho => ?_, trivial⟩
       all_goals (cases ho)
       · refine rn4 ?_
         refine zG (is := [2, 9]) (by kernel_rfl) (by simp) rfl ⟨fun o ho => ?_, fun o ho => ?_, trivial⟩
         all_goals (cases ho)
         · refine rn3 ?_
           refine zG (is := [3, 9]) (by kernel_rfl) (by simp) rfl ⟨fun o ho => ?_, fun o ho => ?_, trivial⟩
           all_goals (cases ho)
           · refine zm rfl rfl rfl rfl rfl rfl rfl rfl rfl rfl rfl rfl (by show 0 + 1 ≤ 1; omega) rfl (by show (I.length + 1) * 8 ≤ _ ∧ _; omega) (fun i j _ _ => rfl) (by rw [hfix]; exact fun h => h) ?_
             refine rn1 ?_
             refine zG (is := [9]) (by kernel_rfl) (by simp) rfl ⟨fun o ho => ?_, trivial⟩
             all_goals (cases ho)
             refine rn6 ?_
             refine zR 10 rfl (by kernel_rfl) (by kernel_rfl) (by kernel_rfl) rfl (zBE rfl rfl rfl) rfl ?_
             refine zG (is := [11]) (by kernel_rfl) (by simp) rfl ⟨fun o ho => ?_, trivial⟩
             all_goals (cases ho)
             refine rn3 ?_
             refine zG (is := [12]) (by kernel_rfl) (by simp) rfl ⟨fun o ho => ?_, trivial⟩
             all_goals (cases ho)
             refine zm rfl rfl rfl rfl rfl rfl rfl rfl rfl hsl rfl rfl (by show 0 + 1 ≤ 1; omega) rfl (by show (I.length + 1) * 8 ≤ _ ∧ _; omega) (fun i j _ _ => rfl) (by rw [hfix]; exact fun h => h) ?_
             refine rn1 ?_
             refine zR 13 rfl (by kernel_rfl) (by kernel_rfl) (by kernel_rfl) rfl (zK rfl) rfl ?_
             refine zR 14 rfl (by kernel_rfl) (by kernel_rfl) (by kernel_rfl) rfl (zK rfl) rfl ?_
             exact fin2 _ ⟨rfl, rfl, rfl, rfl, rfl, trivial⟩
           · refine rn6 ?_
             refine zR 10 rfl (by kernel_rfl) (by kernel_rfl) (by kernel_rfl) rfl (zBE rfl rfl rfl) rfl ?_
             refine zG (is := [3, 11]) (by kernel_rfl) (by simp) rfl ⟨fun o ho => ?_, fun o ho => ?_, trivial⟩
             all_goals (cases ho)
             · refine zm rfl rfl rfl rfl rfl rfl rfl rfl rfl rfl rfl rfl (by show 0 + 1 ≤ 1; omega) rfl (by show (I.length + 1) * 8 ≤ _ ∧ _; omega) (fun i j _ _ => rfl) (by rw [hfix]; exact fun h => h) ?_
               refine rn1 ?_
               refine zG (is := [11]) (by kernel_rfl) (by simp) rfl ⟨fun o ho => ?_, trivial⟩
               all_goals (cases ho)
               refine rn3 ?_
               refine zG (is := [12]) (by kernel_rfl) (by simp) rfl ⟨fun o ho => ?_, trivial⟩
               all_goals (cases ho)
               refine zm rfl rfl rfl rfl rfl rfl rfl rfl rfl hsl rfl rfl (by show 0 + 1 ≤ 1; omega) rfl (by show (I.length + 1) * 8 ≤ _ ∧ _; omega) (fun i j _ _ => rfl) (by rw [hfix]; exact fun h => h) ?_
               refine rn1 ?_
               refine zR 13 rfl (by kernel_rfl) (by kernel_rfl) (by kernel_rfl) rfl (zK rfl) rfl ?_
               refine zR 14 rfl (by kernel_rfl) (by kernel_rfl) (by kernel_rfl) rfl (zK rfl) rfl ?_
               exact fin2 _ ⟨rfl, rfl, rfl, rfl, rfl, trivial⟩
             · refine rn3 ?_
               refine zG (is := [3]) (by kernel_rfl) (by simp) rfl ⟨fun o ho => ?_, trivial⟩
               all_goals (cases ho)
               refine zm rfl rfl rfl rfl rfl rfl rfl rfl rfl rfl rfl rfl (by show 0 + 1 ≤ 1; omega) rfl (by show (I.length + 1) * 8 ≤ _ ∧ _; omega) (fun i j _ _ => rfl) (by rw [hfix]; exact fun h => h) ?_
               refine rn1 ?_
               refine zG (is := [12]) (by kernel_rfl) (by simp) rfl ⟨fun o ho => ?_, trivial⟩
               all_goals (cases ho)
               refine zm rfl rfl rfl rfl rfl rfl rfl rfl rfl hsl rfl rfl (by show 0 + 1 ≤ 1; omega) rfl (by show (I.length + 1) * 8 ≤ _ ∧ _; omega) (fun i j _ _ => rfl) (by rw [hfix]; exact fun h => h) ?_
               refine rn1 ?_
               refine zR 13 rfl (by kernel_rfl) (by kernel_rfl) (by kernel_rfl) rfl (zK rfl) rfl ?_
               refine zR 14 rfl (by kernel_rfl) (by kernel_rfl) (by kernel_rfl) rfl (zK rfl) rfl ?_
               exact fin2 _ ⟨rfl, rfl, rfl, rfl, rfl, trivial⟩
         · refine rn6 ?_
           refine zR 10 rfl (by kernel_rfl) (by kernel_rfl) (by kernel_rfl) rfl (zBE rfl rfl rfl) rfl ?_
           refine zG (is := [2, 11]) (by kernel_rfl) (by simp) rfl ⟨fun o ho => ?_, fun o ho => ?_, trivial⟩
           all_goals (cases ho)
           · refine rn3 ?_
             refine zG (is := [3, 11]) (by kernel_rfl) (by simp) rfl ⟨fun o ho => ?_, fun o ho => ?_, trivial⟩
             all_goals (cases ho)
             · refine zm rfl rfl rfl rfl rfl rfl rfl rfl rfl rfl rfl rfl (by show 0 + 1 ≤ 1; omega) rfl (by show (I.length + 1) * 8 ≤ _ ∧ _; omega) (fun i j _ _ => rfl) (by rw [hfix]; exact fun h => h) ?_
               refine rn1 ?_
               refine zG (is := [11]) (by kernel_rfl) (by simp) rfl ⟨fun o ho => ?_, trivial⟩
               all_goals (cases ho)
               refine rn3 ?_
               refine zG (is := [12]) (by kernel_rfl) (by simp) rfl ⟨fun o ho => ?_, trivial⟩
               all_goals (cases ho)
               refine zm rfl rfl rfl rfl rfl rfl rfl rfl rfl hsl rfl rfl (by show 0 + 1 ≤ 1; omega) rfl (by show (I.length + 1) * 8 ≤ _ ∧ _; omega) (fun i j _ _ => rfl) (by rw [hfix]; exact fun h => h) ?_
               refine rn1 ?_
               refine zR 13 rfl (by kernel_rfl) (by kernel_rfl) (by kernel_rfl) rfl (zK rfl) rfl ?_
               refine zR 14 rfl (by kernel_rfl) (by kernel_rfl) (by kernel_rfl) rfl (zK rfl) rfl ?_
               exact fin2 _ ⟨rfl, rfl, rfl, rfl, rfl, trivial⟩
             · refine rn3 ?_
               refine zG (is := [3]) (by kernel_rfl) (by simp) rfl ⟨fun o ho => ?_, trivial⟩
               all_goals (cases ho)
               refine zm rfl rfl rfl rfl rfl rfl rfl rfl rfl rfl rfl rfl (by show 0 + 1 ≤ 1; omega) rfl (by show (I.length + 1) * 8 ≤ _ ∧ _; omega) (fun i j _ _ => rfl) (by rw [hfix]; exact fun h => h) ?_
               refine rn1 ?_
               refine zG (is := [12]) (by kernel_rfl) (by simp) rfl ⟨fun o ho => ?_, trivial⟩
               all_goals (cases ho)
               refine zm rfl rfl rfl rfl rfl rfl rfl rfl rfl hsl rfl rfl (by show 0 + 1 ≤ 1; omega) rfl (by show (I.length + 1) * 8 ≤ _ ∧ _; omega) (fun i j _ _ => rfl) (by rw [hfix]; exact fun h => h) ?_
               refine rn1 ?_
               refine zR 13 rfl (by kernel_rfl) (by kernel_rfl) (by kernel_rfl) rfl (zK rfl) rfl ?_
               refine zR 14 rfl (by kernel_rfl) (by kernel_rfl) (by kernel_rfl) rfl (zK rfl) rfl ?_
               exact fin2 _ ⟨rfl, rfl, rfl, rfl, rfl, trivial⟩
           · refine rn3 ?_
             refine zG (is := [2]) (by kernel_rfl) (by simp) rfl ⟨fun o ho => ?_, trivial⟩
             all_goals (cases ho)
             refine rn3 ?_
             refine zG (is := [3]) (by kernel_rfl) (by simp) rfl ⟨fun o ho => ?_, trivial⟩
             all_goals (cases ho)
             refine zm rfl rfl rfl rfl rfl rfl rfl rfl rfl rfl rfl rfl (by show 0 + 1 ≤ 1; omega) rfl (by show (I.length + 1) * 8 ≤ _ ∧ _; omega) (fun i j _ _ => rfl) (by rw [hfix]; exact fun h => h) ?_
             refine rn1 ?_
             refine zG (is := [12]) (by kernel_rfl) (by simp) rfl ⟨fun o ho => ?_, trivial⟩
             all_goals (cases ho)
             refine zm rfl rfl rfl rfl rfl rfl rfl rfl rfl hsl rfl rfl (by show 0 + 1 ≤ 1; omega) rfl (by show (I.length + 1) * 8 ≤ _ ∧ _; omega) (fun i j _ _ => rfl) (by rw [hfix]; exact fun h => h) ?_
             refine rn1 ?_
             refine zR 13 rfl (by kernel_rfl) (by kernel_rfl) (by kernel_rfl) rfl (zK rfl) rfl ?_
             refine zR 14 rfl (by kernel_rfl) (by kernel_rfl) (by kernel_rfl) rfl (zK rfl) rfl ?_
             exact fin2 _ ⟨rfl, rfl, rfl, rfl, rfl, trivial⟩
       · refine rn6 ?_
         refine zR 10 rfl (by kernel_rfl) (by kernel_rfl) (by kernel_rfl) rfl (zBE rfl rfl rfl) rfl ?_
         refine zG (is := [1, 11]) (by kernel_rfl) (by simp) rfl ⟨fun o ho => ?_, fun o ho => ?_, trivial⟩
         all_goals (cases ho)
         · refine rn4 ?_
           refine zG (is := [2, 11]) (by kernel_rfl) (by simp) rfl ⟨fun o ho => ?_, fun o ho => ?_, trivial⟩
           all_goals (cases ho)
           · refine rn3 ?_
             refine zG (is := [3, 11]) (by kernel_rfl) (by simp) rfl ⟨fun o ho => ?_, fun o ho => ?_, trivial⟩
             all_goals (cases ho)
             · refine zm rfl rfl rfl rfl rfl rfl rfl rfl rfl rfl rfl rfl (by show 0 + 1 ≤ 1; omega) rfl (by show (I.length + 1) * 8 ≤ _ ∧ _; omega) (fun i j _ _ => rfl) (by rw [hfix]; exact fun h => h) ?_
               refine rn1 ?_
               refine zG (is := [11]) (by kernel_rfl) (by simp) rfl ⟨fun o ho => ?_, trivial⟩
               all_goals (cases ho)
               refine rn3 ?_
               refine zG (is := [12]) (by kernel_rfl) (by simp) rfl ⟨fun o ho => ?_, trivial⟩
               all_goals (cases ho)
               refine zm rfl rfl rfl rfl rfl rfl rfl rfl rfl hsl rfl rfl (by show 0 + 1 ≤ 1; omega) rfl (by show (I.length + 1) * 8 ≤ _ ∧ _; omega) (fun i j _ _ => rfl) (by rw [hfix]; exact fun h => h) ?_
               refine rn1 ?_
               refine zR 13 rfl (by kernel_rfl) (by kernel_rfl) (by kernel_rfl) rfl (zK rfl) rfl ?_
               refine zR 14 rfl (by kernel_rfl) (by kernel_rfl) (by kernel_rfl) rfl (zK rfl) rfl ?_
               exact fin2 _ ⟨rfl, rfl, rfl, rfl, rfl, trivial⟩
             · refine rn3 ?_
               refine zG (is := [3]) (by kernel_rfl) (by simp) rfl ⟨fun o ho => ?_, trivial⟩
               all_goals (cases ho)
               refine zm rfl rfl rfl rfl rfl rfl rfl rfl rfl rfl rfl rfl (by show 0 + 1 ≤ 1; omega) rfl (by show (I.length + 1) * 8 ≤ _ ∧ _; omega) (fun i j _ _ => rfl) (by rw [hfix]; exact fun h => h) ?_
               refine rn1 ?_
               refine zG (is := [12]) (by kernel_rfl) (by simp) rfl ⟨fun o ho => ?_, trivial⟩
               all_goals (cases ho)
               refine zm rfl rfl rfl rfl rfl rfl rfl rfl rfl hsl rfl rfl (by show 0 + 1 ≤ 1; omega) rfl (by show (I.length + 1) * 8 ≤ _ ∧ _; omega) (fun i j _ _ => rfl) (by rw [hfix]; exact fun h => h) ?_
               refine rn1 ?_
               refine zR 13 rfl (by kernel_rfl) (by kernel_rfl) (by kernel_rfl) rfl (zK rfl) rfl ?_
               refine zR 14 rfl (by kernel_rfl) (by kernel_rfl) (by kernel_rfl) rfl (zK rfl) rfl ?_
               exact fin2 _ ⟨rfl, rfl, rfl, rfl, rfl, trivial⟩
           · refine rn3 ?_
             refine zG (is := [2]) (by kernel_rfl) (by simp) rfl ⟨fun o ho => ?_, trivial⟩
             all_goals (cases ho)
             refine rn3 ?_
             refine zG (is := [3]) (by kernel_rfl) (by simp) rfl ⟨fun o ho => ?_, trivial⟩
             all_goals (cases ho)
             refine zm rfl rfl rfl rfl rfl rfl rfl rfl rfl rfl rfl rfl (by show 0 + 1 ≤ 1; omega) rfl (by show (I.length + 1) * 8 ≤ _ ∧ _; omega) (fun i j _ _ => rfl) (by rw [hfix]; exact fun h => h) ?_
             refine rn1 ?_
             refine zG (is := [12]) (by kernel_rfl) (by simp) rfl ⟨fun o ho => ?_, trivial⟩
             all_goals (cases ho)
             refine zm rfl rfl rfl rfl rfl rfl rfl rfl rfl hsl rfl rfl (by show 0 + 1 ≤ 1; omega) rfl (by show (I.length + 1) * 8 ≤ _ ∧ _; omega) (fun i j _ _ => rfl) (by rw [hfix]; exact fun h => h) ?_
             refine rn1 ?_
             refine zR 13 rfl (by kernel_rfl) (by kernel_rfl) (by kernel_rfl) rfl (zK rfl) rfl ?_
             refine zR 14 rfl (by kernel_rfl) (by kernel_rfl) (by kernel_rfl) rfl (zK rfl) rfl ?_
             exact fin2 _ ⟨rfl, rfl, rfl, rfl, rfl, trivial⟩
         · refine rn3 ?_
           refine zG (is := [1]) (by kernel_rfl) (by simp) rfl ⟨fun o ho => ?_, trivial⟩
           all_goals (cases ho)
           refine rn4 ?_
           refine zG (is := [2]) (by kernel_rfl) (by simp) rfl ⟨fun o ho => ?_, trivial⟩
           all_goals (cases ho)
           refine rn3 ?_
           refine zG (is := [3]) (by kernel_rfl) (by simp) rfl ⟨fun o ho => ?_, trivial⟩
           all_goals (cases ho)
           refine zm rfl rfl rfl rfl rfl rfl rfl rfl rfl rfl rfl rfl (by show 0 + 1 ≤ 1; omega) rfl (by show (I.length + 1) * 8 ≤ _ ∧ _; omega) (fun i j _ _ => rfl) (by rw [hfix]; exact fun h => h) ?_
           refine rn1 ?_
           refine zG (is := [12]) (by kernel_rfl) (by simp) rfl ⟨fun o ho => ?_, trivial⟩
           all_goals (cases ho)
           refine zm rfl rfl rfl rfl rfl rfl rfl rfl rfl hsl rfl rfl (by show 0 + 1 ≤ 1; omega) rfl (by show (I.length + 1) * 8 ≤ _ ∧ _; omega) (fun i j _ _ => rfl) (by rw [hfix]; exact fun h => h) ?_
           refine rn1 ?_
           refine zR 13 rfl (by kernel_rfl) (by kernel_rfl) (by kernel_rfl) rfl (zK rfl) rfl ?_
           refine zR 14 rfl (by kernel_rfl) (by kernel_rfl) (by kernel_rfl) rfl (zK rfl) rfl ?_
           exact fin2 _ ⟨rfl, rfl, rfl, rfl, rfl, trivial⟩
     · refine zh (by kernel_rfl) ?_
       repeat (refine za ?_)
       refine zA ?_
       refine zAa [some ⟨3, .box [.int .i64 p]⟩, some ⟨3, .ints .i64 (I ++ [(k : Int)])⟩, some ⟨3, .ints .i64 (S ++ [(wd : Int)])⟩] [some ⟨3, .box [.int .i64 (k : Nat)]⟩] [(0, .ro (zd t) 0 t.length), (3, .ptr 0 0 0), (6, .sl 1 0 (I.length + 1)), (7, .sl 2 0 (I.length + 1)), (10, .int .i64 (k : Nat))] rfl ⟨rfl, rfl, rfl, rfl, rfl, trivial⟩ (fun h hh => by rw [hfix] at hh; exact absurd hh id) (below3 (zKW _ _) (zC1 _ _ _) (zC1 _ _ _)) rfl ?_
       refine rn3 ?_
       have il : I2.length = I.length + 1 := by rw [is, List.length_append]; rfl
       exact zM ⟨k + 1, by omega, by omega, ⟨rfl, rfl, by rw [hI2, il]; rfl, by rw [hI2, il]; rfl, rfl, trivial⟩, by rw [hI2, hS2, is, ss]⟩
 · have hke10 : k = 10 := by omega
   subst hke10
   have hsl := zJg t p 10
   repeat (first | refine zA ?_ | refine zZ ?_ | refine zAq ?_ | refine zq ?_ | refine zp ?_ | refine zAH ?_)
   refine zAY 1 6 (zBf t p 10).length [(7, .sl 2 0 (zBf t p 10).length)] rfl zAW rfl (by show (zBf t p 10).length ≤ (zBf t p 10).length; exact Nat.le_refl _) ⟨rfl, trivial⟩ ?_
   refine zAY 2 7 (zBf t p 10).length [(6, .ro (.ints .i64 (zBf t p 10)) 0 (zBf t p 10).length)] rfl zAW rfl (by show (zBf t p 10).length ≤ (zDe t p 10).length; omega) ⟨rfl, trivial⟩ ?_
   refine zAO 7 (.ro (.ints .i64 (zDe t p 10)) 0 (zDe t p 10).length) rfl (AEq.of_eq (by rw [hsl])) ?_
   refine rn0 ?_
   exact zH hR rfl rfl
end Go.Proofs.YtnkealfaldjipaaGreatDoor
namespace Go.Proofs.YtnkealfaldjipaaGreatDoor
open Go.Ax Go.Ax.Bg Go.Ax.Rt Go.RowKit
attribute [local irreducible] Ax zAM QOp zO zo
set_option maxRecDepth 100000
set_option maxHeartbeats 4000000
def cellS (r : List zAK) : List AV := [.ro (.strs r) 0 r.length]
def zLi (r : List Rat) : List AV := [.ro (qsC r) 0 r.length]
abbrev rowsT (m : List (List zAK)) : Cells := zCf [] 1 cellS m
abbrev zF0 (m : List (List Rat)) : Cells := zCf [] 1 zLi m
theorem zNf (r : List Rat) (j h : Nat) (hj : j < 1) : ((zLi r).getD j .any).forget h = (zLi r).getD j .any := by
 obtain rfl : j = 0 := by omega
 rfl
theorem zKr (m : List (List Rat)) : z7 (zF0 m) := by
 intro i j _ hj
 obtain rfl : j = 0 := by have hj : j < 1 := hj; omega
 rfl
theorem rowR1 (q : List Rat) (j : Nat) (hj : j < 1) : (zED 1 1 [.ro (qsC q) 0 q.length]).at 0 j = (zLi q).getD j .any := by
 obtain rfl : j = 0 := by omega
 rfl
theorem zO1 (l : List zAK) (hlen : l.length ≤ 1000000) (hs : ∀ s ∈ l, s.length ≤ 9223372036854775807 ∧ zCi s = 0) : zW Tryz.prog 104 [.ro (.strs l) 0 l.length] (.ro (qsC (l.map zAB)) 0 (l.map zAB).length) := by
 have := in_ok l hlen hs
 rwa [List.length_map]
end Go.Proofs.YtnkealfaldjipaaGreatDoor
namespace Go.Proofs.YtnkealfaldjipaaGreatDoor
open Go.Ax Go.Ax.Bg Go.Ax.Rt Go.RowKit
attribute [local irreducible] Ax zAM QOp zO zo
set_option maxRecDepth 100000
set_option maxHeartbeats 4000000
theorem zEg {m : Nat} {q : Rat} (h : D (9 * m) q) : Sz m q := by
 have key : ∀ n : Nat, n < 10 ^ (9 * m) → (zY n).length ≤ m := fun n hn => by
   refine zAp (Nat.lt_of_lt_of_le hn ?_)
   rw [Nat.pow_mul]
   exact Nat.pow_le_pow_left (by decide) m
 exact ⟨key _ h.1, key _ h.2⟩
end Go.Proofs.YtnkealfaldjipaaGreatDoor
namespace Go.Proofs.YtnkealfaldjipaaGreatDoor
open Go.Ax Go.Ax.Bg Go.Ax.Rt Go.RowKit
attribute [local irreducible] Ax zAM QOp zO zo
set_option maxRecDepth 100000
set_option maxHeartbeats 4000000
end Go.Proofs.YtnkealfaldjipaaGreatDoor
namespace Go.Proofs.YtnkealfaldjipaaGreatDoor
open Go.Ax Go.Ax.Bg Go.Ax.Rt Go.RowKit
attribute [local irreducible] Ax zAM QOp zO zo
set_option maxRecDepth 100000
set_option maxHeartbeats 4000000
def matP (p : List (List zAK) × Int) : AV := .tup [.ro (rowsT p.1) 0 p.1.length, .int .i64 p.2]
theorem zNW (l : List Rat) (hlen : l.length ≤ 1000000) (hs : ∀ q ∈ l, Sz 100000 q) (hall : l.all zA3 = true) : zW Tryz.prog 80 [.ro (qsC l) 0 l.length] (.tup [.ro (.strs (l.map zt)) 0 (l.map zt).length, .int .i64 0]) := by
 have := zOj l hlen hs hall
 rwa [List.length_map]
end Go.Proofs.YtnkealfaldjipaaGreatDoor
namespace Go.Proofs.YtnkealfaldjipaaGreatDoor
open Go.Ax Go.Ax.Bg Go.Ax.Rt Go.RowKit
attribute [local irreducible] Ax zAM QOp zO zo
set_option maxRecDepth 100000
set_option maxHeartbeats 4000000
end Go.Proofs.YtnkealfaldjipaaGreatDoor
namespace Go.Proofs.YtnkealfaldjipaaGreatDoor
open Go.Ax Go.Ax.Bg Go.Ax.Rt Go.RowKit
attribute [local irreducible] Ax zAM QOp zO zo
set_option maxRecDepth 100000
set_option maxHeartbeats 4000000
def vecP (p : List zAK × Int) : AV := .tup [.ro (.strs p.1) 0 p.1.length, .int .i64 p.2]
theorem zRG (l : List Rat) (hlen : l.length ≤ 1000000) (hs : ∀ q ∈ l, Sz 100000 q) : ∃ r : AV, zW Tryz.prog 80 [.ro (qsC l) 0 l.length] (.tup [r, .int .i64 (zBG l).2]) ∧ AEq r (.ro (.strs (zBG l).1) 0 (zBG l).1.length) := by
 cases h : l.all zA3
 · refine ⟨.nil, ?_, ?_⟩
   · have := zRY l hlen hs h
     unfold zBG; rw [h]; exact this
   · unfold zBG; rw [h]; exact AEq.nil
 · refine ⟨_, ?_, AEq.rfl'⟩
   have := zNW l hlen hs h
   unfold zBG; rw [h]; exact this
end Go.Proofs.YtnkealfaldjipaaGreatDoor
namespace Go.Proofs.YtnkealfaldjipaaGreatDoor
open Go.Ax Go.Ax.Bg Go.Ax.Rt Go.RowKit Go.Ax.Idx Go.Ax.Cd
attribute [local irreducible] Ax zAM QOp zO zo
set_option maxRecDepth 100000
set_option maxHeartbeats 4000000
def longV (n : Int) (v : List zAK) : Bool := decide (n < (v.length : Int)) || v.any (fun s => decide (12 < (s.length : Int)))
def cellM (m : List (List zAK)) : List AV := [.ro (rowsT m) 0 m.length]
abbrev matsT (l : List (List (List zAK))) : Cells := zCf [] 1 cellM l
end Go.Proofs.YtnkealfaldjipaaGreatDoor
namespace Go.Proofs.YtnkealfaldjipaaGreatDoor
open Go.Ax Go.Ax.Bg Go.Ax.Rt Go.RowKit Go.Ax.Idx Go.Ax.Cd
attribute [local irreducible] Ax zAM QOp zO zo
set_option maxRecDepth 100000
set_option maxHeartbeats 4000000
def colT (m : List (List zAK)) (k : Nat) : List zAK := m.map (fun r => r.getD k [])
end Go.Proofs.YtnkealfaldjipaaGreatDoor
namespace Go.Proofs.YtnkealfaldjipaaGreatDoor
open Go.Ax Go.Ax.Bg Go.Ax.Rt Go.RowKit Go.Ax.Idx Go.Ax.Cd
attribute [local irreducible] Ax zAM QOp zO zo
set_option maxRecDepth 100000
set_option maxHeartbeats 4000000
end Go.Proofs.YtnkealfaldjipaaGreatDoor
namespace Go.Proofs.YtnkealfaldjipaaGreatDoor
open Go.Ax Go.Ax.Bg Go.Ax.Rt Go.RowKit Go.Ax.Idx Go.Ax.Cd
attribute [local irreducible] Ax zAM QOp zO zo
set_option maxRecDepth 100000
set_option maxHeartbeats 4000000
end Go.Proofs.YtnkealfaldjipaaGreatDoor
namespace Go.Proofs.YtnkealfaldjipaaGreatDoor
open Go.Ax Go.Ax.Bg Go.Ax.Rt Go.RowKit Go.Ax.Idx Go.Ax.Cd
attribute [local irreducible] Ax zAM QOp zO zo
set_option maxRecDepth 100000
set_option maxHeartbeats 4000000
def zHG (x : Int × Int) : List AV := [.int .i64 x.1, .int .i64 x.2]
abbrev zBR (l : zCZ) : Cells := zCf (0, 0) 2 zHG l
end Go.Proofs.YtnkealfaldjipaaGreatDoor
namespace Go.Proofs.YtnkealfaldjipaaGreatDoor
open Go.Ax Go.Ax.Bg Go.Ax.Rt Go.RowKit Go.Ax.Idx Go.Ax.Cd
attribute [local irreducible] Ax zAM QOp zO zo
set_option maxRecDepth 100000
set_option maxHeartbeats 4000000
end Go.Proofs.YtnkealfaldjipaaGreatDoor
namespace Go.Proofs.YtnkealfaldjipaaGreatDoor
open Go.Ax Go.Ax.Bg Go.Ax.Rt Go.RowKit Go.Ax.Idx Go.Ax.Cd
attribute [local irreducible] Ax zAM QOp zO zo
set_option maxRecDepth 100000
set_option maxHeartbeats 4000000
end Go.Proofs.YtnkealfaldjipaaGreatDoor
namespace Go.Proofs.YtnkealfaldjipaaGreatDoor
open Go.Ax Go.Ax.Bg Go.Ax.Rt Go.RowKit Go.Ax.Idx Go.Ax.Cd
attribute [local irreducible] Ax zAM QOp zO zo
set_option maxRecDepth 100000
set_option maxHeartbeats 4000000
end Go.Proofs.YtnkealfaldjipaaGreatDoor
namespace Go.Proofs.YtnkealfaldjipaaGreatDoor
open Go.Ax Go.Ax.Bg Go.Ax.Rt Go.RowKit Go.Ax.Idx Go.Ax.Cd
attribute [local irreducible] Ax zAM QOp zO zo
set_option maxRecDepth 100000
set_option maxHeartbeats 4000000
end Go.Proofs.YtnkealfaldjipaaGreatDoor
namespace Go.Proofs.YtnkealfaldjipaaGreatDoor
open Go.Ax Go.Ax.Bg Go.Ax.Rt Go.RowKit Go.Ax.Idx Go.Ax.Cd
attribute [local irreducible] Ax zAM QOp zO zo
set_option maxRecDepth 100000
set_option maxHeartbeats 4000000
def bothA (p : (List zAK × List zAK) × Int) : AV := .tup [.ro (.strs p.1.1) 0 p.1.1.length, .ro (.strs p.1.2) 0 p.1.2.length, .int .i64 p.2]
end Go.Proofs.YtnkealfaldjipaaGreatDoor
namespace Go.Proofs.YtnkealfaldjipaaGreatDoor
open Go.Ax Go.Ax.Bg Go.Ax.Rt Go.RowKit Go.Ax.Idx Go.Ax.Cd
attribute [local irreducible] Ax zAM QOp zO zo
set_option maxRecDepth 100000
set_option maxHeartbeats 4000000
end Go.Proofs.YtnkealfaldjipaaGreatDoor
namespace Go.Proofs.YtnkealfaldjipaaGreatDoor
open Go.Ax Go.Ax.Bg Go.Ax.Rt Go.RowKit Go.Ax.Idx Go.Ax.Cd
attribute [local irreducible] Ax zAM QOp zO zo
set_option maxRecDepth 100000
set_option maxHeartbeats 4000000
def averageR (m : List (List zAK)) (l : zCZ) : (List zAK × List zAK) × Int :=
 if zLm m l ≠ 0 then (([], []), zLm m l) else if l = [] then (([], []), 8)
 else bothR ((cntQ Prod.fst l m.length).map (fun q => q / (l.length : Rat))) ((cntQ Prod.snd l (zEG m)).map (fun q => q / (l.length : Rat)))
def boundsA (p : (zAK × zAK) × Int) : AV := .tup [.str p.1.1, .str p.1.2, .int .i64 p.2]
end Go.Proofs.YtnkealfaldjipaaGreatDoor
namespace Go.Proofs.YtnkealfaldjipaaGreatDoor
open Go.Ax Go.Ax.Bg Go.Ax.Rt Go.RowKit Go.Ax.Idx Go.Ax.Cd
attribute [local irreducible] Ax zAM QOp zO zo
set_option maxRecDepth 100000
set_option maxHeartbeats 4000000
/-- Numbers that may not be there yet. -/
def zBU : Option Rat → List AV
 | some q => zAD q
 | none => [.bool false, .nil, .nil]
abbrev zsC (l : List (Option Rat)) : Cells := zCf none 3 zBU l
theorem zLv (n : Nat) : CEq (zA4 n [.bool false, .nil, .nil]) (zsC (List.replicate n none)) := by
 refine ⟨by simp [zCf, Cells.len, zA4], rfl, fun i j hi hj => ?_⟩
 have hi : i < n := by simpa [Cells.len, zA4] using hi
 show (zBU ((List.replicate n (none : Option Rat)).getD i none)).getD j .any = _
 rw [zu none (by simpa using hi), List.getElem_replicate]
 rfl
theorem zDN {α : Type} (d : α) (n : Nat) (e : α → List AV) (zs : List α) (k : Nat) (a : α) (hk : k < zs.length) (i' j' : Nat) (hi' : i' < zs.length) (hj' : j' < n) : (zCf d n e (zs.set k a)).at i' j' = if i' = k then (e a).getD j' .any else (zCf d n e zs).at i' j' := by
 show (e ((zs.set k a).getD i' d)).getD j' .any = if i' = k then (e a).getD j' .any else (e (zs.getD i' d)).getD j' .any
 rw [Go.Ax.Dt.getD_set]
 by_cases h : i' = k
 · rw [if_pos h, if_pos ⟨h, hk⟩]
 · rw [if_neg h, if_neg (fun q => h q.1)]
def histA (p : zCZ × Int) : AV := .tup [.ro (zBR p.1) 0 p.1.length, .int .i64 p.2]
theorem zG2 (l : zCZ) : z7 (zBR l) := by
 intro i j _ hj
 have hj : j < 2 := hj
 match j, hj with
 | 0, _ => rfl
 | 1, _ => rfl
end Go.Proofs.YtnkealfaldjipaaGreatDoor
namespace Go.Ax
variable [Pins]
open Go.RowKit
def eqIs (P : Program) (e : TypeId) (L M : List AV) : List Nat → Option Bool
 | [] => some true
 | i :: is => match eqIs P e L M is, L[i]?, M[i]? with
   | some r, some x, some y => (sclEq P e x y).map (· && r)
   | _, _, _ => none
theorem zNg {P : Program} {w w' : World} {S : Nat → Prop} {σ : Nat → Option Blk} {L M : List AV} {xs ys : Array Value} {d : Nat} {e : TypeId} (h1 : xs.size = L.length) (h2 : ∀ i, i < L.length → VR w S σ (L.getD i .any) (xs.getD i undef)) (h3 : ys.size = M.length) (h4 : ∀ i, i < M.length → VR w S σ (M.getD i .any) (ys.getD i undef)) :
   ∀ (is : List Nat) (b : Bool), eqIs P e L M is = some b → (Op.eqItems (d + 1) e 1 xs ys is).run P w' = .ok b w'
 | [], b, h => by simp [eqIs] at h; subst h; simp [Op.eqItems]
 | i :: is, b, h => by
   simp only [eqIs] at h
   split at h
   · rename_i r x y hr hL hM
     have ih := zNg (d := d) (w' := w') h1 h2 h3 h4 is r hr
     obtain ⟨v1, e1, r1⟩ := zPJ h1 h2 hL
     obtain ⟨v2, e2, r2⟩ := zPJ h3 h4 hM
     obtain ⟨q, hq, hb⟩ := Option.map_eq_some_iff.1 h
     obtain ⟨hp, hrun⟩ := zQk (w' := w') hq r1 r2 d
     simp only [Op.eqItems, Nat.mul_one]
     simp only [Sem.run_bind, run_part_plain w' hp e1, Result.andThen_ok, run_part_plain w' hp e2, hrun]
     subst hb
     cases q with
     | false => simp
     | true => simpa using ih
   · cases h
section
variable {P : Program} {fn : Func} {c : Ctx} {fr : Fr} {H : zV} {k : List It} {ind : Bool} {d : Option Nat} {ty : TypeId} {pos : String} {after : Array Edge} {g : Option (Nat × Bool)}
theorem q_arrneq {x y : Operand} {t t' e : TypeId} {n : Nat} {inf : TypeInfo} {L M : List AV} {b : Bool} (hx : ev fr x = some (.agg L)) (hy : ev fr y = some (.agg M)) (ht : P.underlying t = some (.array n e)) (hi : P.info? e = some inf) (hc : P.cellsOf e = 1) (hg : P.eqGuardType P.depth t = false)
   (he : eqIs P e L M (List.range n) = some b) : QOp ind P fn c fr H ⟨d, .binOp .neq t x y t', ty, pos, after, g⟩ (.bool (!b)) := by
 intro w a σ S hr
 have h1 := hr.evAt hx
 have h2 := hr.evAt hy
 generalize hz : a.eval x = z at h1
 generalize hzy : a.eval y = zy at h2
 cases h1 with
 | agg _ _ xs a1 a2 a3 =>
   cases h2 with
   | agg _ _ ys b1 b2 b3 =>
     refine ⟨_, .bool _ _, fun w' _ => ?_⟩
     have hr := zNg (d := 9998) (w' := w') a1 a2 b1 b2 _ b he
     simp only [execOp, hz, hzy, Sem.run_bind, run_eqGuard_agg w' _ _ _ _ _ _ hg, Result.andThen_ok, run_neq_struct, show (10000 : Nat) = 9999 + 1 from rfl, run_equalIn_array w' 9999 _ _ ht hi, hc, hr]
     rfl
end
end Go.Ax
namespace Go.Proofs.YtnkealfaldjipaaGreatDoor
open Go.Ax Go.Ax.Bg Go.Ax.Rt Go.RowKit Go.Ax.Idx Go.Ax.Cd
attribute [local irreducible] Ax zAM QOp zO zo
set_option maxRecDepth 100000
set_option maxHeartbeats 4000000
theorem equalP (a b : zCZ) (hlen : a.length ≤ 9223372036854775807) (hlb : b.length ≤ 9223372036854775807) : zW Tryz.prog 131 [.ro (zBR a) 0 a.length, .ro (zBR b) 0 b.length] (.bool (decide (a = b))) := by
 refine zO.value0 (zF (P := Tryz.prog) (fn := Tryz.f131) rfl rfl (by kernel_rfl) rfl (fun c hR hfix => ?_)) (fix := fun _ => False) (fun _ h => h) rfl rfl
 refine rn3 ?_
 refine zD rfl (fun h => ?_) (fun h => ?_)
 · refine rn2 ?_
   refine zH hR rfl ?_
   have : ¬ a = b := by rintro rfl; exact h rfl
   simp [zBF, this]
 have hab : a.length = b.length := by omega
 refine rn3 ?_
 refine zg (ι := Nat) (fun k => [(0, .ro (zBR a) 0 a.length), (1, .ro (zBR b) 0 b.length), (12, .int .i64 (a.length : Nat)), (13, .int .i64 (k : Nat))]) (fun _ => [])
   (fun k => k ≤ a.length ∧ a.take k = b.take k) (fun k => a.length - k) 0 ⟨⟨rfl, rfl, rfl, rfl, trivial⟩, rfl, Nat.zero_le _, rfl⟩ ?_
 intro k ⟨hk, heq⟩
 refine rn4 ?_
 refine zD rfl (fun h2 => ?_) (fun h2 => ?_)
 · have hk' : k < a.length := by omega
   have hkb : k < b.length := by omega
   have ha := zAj a (0, 0) k hk'
   have hb := zAj b (0, 0) k hkb
   refine rn1 ?_
   refine zn (by kernel_rfl) ?_
   refine zr (fuel := 0) [0, 1, 2, 3, 4, 5, 6, 7, 8] [(0, .ro (zBR a) 0 a.length), (1, .ro (zBR b) 0 b.length), (5, .int .i64 (k : Nat)), (12, .int .i64 (a.length : Nat)), (13, .int .i64 (k : Nat))] ⟨rfl, rfl, rfl, rfl, rfl, trivial⟩ (by kernel_rfl) (by decide) rfl rfl ?_
   refine zX rfl rfl (zI rfl) ?_
   refine zX rfl rfl (zI rfl) ?_
   refine zX rfl rfl (zf rfl rfl rfl rfl (by first | (simp only [Nat.zero_add, Int.toNat_natCast, Int.toNat_zero]; exact rfl) | exact rfl) (by omega)) ?_
   refine zX rfl rfl (zBj rfl rfl rfl rfl rfl rfl) ?_
   refine zX rfl rfl (zI rfl) ?_
   refine zX rfl rfl (zI rfl) ?_
   refine zX rfl rfl (zf rfl rfl rfl rfl (by first | (simp only [Nat.zero_add, Int.toNat_natCast, Int.toNat_zero]; exact rfl) | exact rfl) (by omega)) ?_
   refine zX rfl rfl (zBj rfl rfl rfl rfl rfl rfl) ?_
   refine zX rfl rfl (q_arrneq (L := zHG (a.getD k (0, 0))) (M := zHG (b.getD k (0, 0))) (b := decide ((a.getD k (0, 0)).1 = (b.getD k (0, 0)).1) && (decide ((a.getD k (0, 0)).2 = (b.getD k (0, 0)).2) && true)) rfl rfl rfl rfl (by kernel_rfl) (by kernel_rfl) rfl) ?_
   refine zAc ?_
   refine zh (by kernel_rfl) ?_
   repeat (refine zA ?_)
   by_cases h3 : a.getD k (0, 0) = b.getD k (0, 0)
   · rw [h3, decide_eq_true rfl, decide_eq_true rfl]
     refine rn5 ?_
     exact zM ⟨k + 1, ⟨by omega, by rw [ha, hb, heq, h3]⟩, by omega, ⟨rfl, rfl, rfl, rfl, trivial⟩, rfl⟩
   · have h4 : (decide ((a.getD k (0, 0)).1 = (b.getD k (0, 0)).1) && (decide ((a.getD k (0, 0)).2 = (b.getD k (0, 0)).2) && true)) = false := by
       rw [Bool.and_true, ← Bool.not_eq_true, Bool.and_eq_true, decide_eq_true_eq, decide_eq_true_eq]
       rintro ⟨e1, e2⟩
       exact h3 (Prod.ext e1 e2)
     rw [h4]
     refine rn6 ?_
     refine zH hR rfl ?_
     have : ¬ a = b := by rintro rfl; exact h3 rfl
     simp [zBF, this]
 · have hk' : k = a.length := by omega
   subst hk'
   rw [List.take_length, hab, List.take_length] at heq
   refine rn5 ?_
   refine zH hR rfl ?_
   simp [zBF, heq]
def pennT : List (List zAK) := [[[49], [45, 49]], [[45, 49], [49]]]
def allQ : List zAK → List Rat → Bool
 | [], [] => true
 | s :: r, q :: t => decide (IsQ s q) && allQ r t
 | _, _ => false
def histT : zCZ := [(0, 0), (0, 1)]
end Go.Proofs.YtnkealfaldjipaaGreatDoor
namespace Go.Proofs.YtnkealfaldjipaaGreatDoor
open Go.Ax Go.Ax.Bg Go.Ax.Rt Go.RowKit Go.Ax.Idx Go.Ax.Cd
attribute [local irreducible] Ax zAM QOp zO zo
set_option maxRecDepth 100000
set_option maxHeartbeats 4000000
theorem zH0 {α : Type} (d : α) (n : Nat) (e : α → List AV) (a b : List α) : CEq (.fn (a.length + b.length) n (fun i j => bif Nat.blt i a.length then (zCf d n e a).at i j else (zCf d n e b).at (0 + (i - a.length)) j)) (zCf d n e (a ++ b)) := by
 refine ⟨by simp [zCf, Cells.len], rfl, fun i j hi hj => ?_⟩
 show (e ((a ++ b).getD i d)).getD j .any = bif Nat.blt i a.length then (e (a.getD i d)).getD j .any else (e (b.getD (0 + (i - a.length)) d)).getD j .any
 by_cases h : i < a.length
 · rw [show Nat.blt i a.length = true from Nat.ble_eq_true_of_le h, zHm d h]; rfl
 · have h2 : Nat.blt i a.length = false := by
     cases e : Nat.blt i a.length with
     | false => rfl
     | true => have : i + 1 ≤ a.length := Nat.le_of_ble_eq_true e
               omega
   rw [h2, Nat.zero_add]
   have : (a ++ b).getD i d = b.getD (i - a.length) d := by
     simp only [List.getD]
     rw [List.getElem?_append_right (by omega)]
   rw [this]; rfl
theorem zIb (l : zCZ) (hl : l.length ≤ 1000000) : zIx Tryz.prog 183 [.ro (zBR l) 0 l.length] (fun N => .sl N 0 l.length) ⟨208, zBR l⟩ := by
 refine zO.fresh (K := fun r H => r = .sl 0 0 l.length ∧ H = [some ⟨208, zBR l⟩]) (zF (P := Tryz.prog) (fn := Tryz.f183) rfl rfl (by kernel_rfl) rfl (fun c hR hfix => ?_)) (fix := fun _ => False) (fun _ h => h) rfl (fun H => ⟨rfl, by simp [zHH, inB]⟩) ?_
 · refine rn0 ?_
   refine zJX rfl rfl rfl (fun b hb => ?_)
   refine rn0 ?_
   refine zDM rfl (fun h => ?_) (fun h => ?_)
   · have := hb h
     have hn : l = [] := List.length_eq_zero_iff.mp this
     subst hn
     repeat (first | refine zC (zK rfl) ?_ | refine zB ?_ | refine zA ?_ | refine zZ ?_ | refine zL rfl ?_)
     refine zA1 2 ⟨208, zBR []⟩ rfl rfl ?_
     refine rn2 ?_
     exact zH hR rfl ⟨rfl, rfl⟩
   · refine rn1 ?_
     refine zDn rfl rfl rfl rfl rfl rfl rfl rfl rfl rfl ?_
     refine zAz [some ⟨208, zBR []⟩] (zAG.eqv ⟨rfl, rfl, fun i j hi => absurd hi (Nat.not_lt_zero _)⟩ zAG.nil) ?_
     repeat (refine zC (zI rfl) ?_)
     refine zm rfl rfl rfl rfl rfl rfl rfl rfl rfl rfl rfl rfl (by show 0 + l.length ≤ l.length; omega) rfl (by show (0 + l.length) * 16 ≤ _ ∧ _; omega) ?_ (by rw [hfix]; exact fun h => h) ?_
     · intro i' j' hi' hj'
       have q := (zH0 (0, 0) 2 zHG [] l).2.2 i' j' hi' hj'
       refine (congrArg (AV.forget 0) q.symm).trans (Eq.trans ?_ q)
       match j', hj' with
       | 0, _ => rfl
       | 1, _ => rfl
     refine zAz [some ⟨208, zBR l⟩] (zAG.eqv (zH0 (0, 0) 2 zHG [] l) zAG.nil) ?_
     refine rn0 ?_
     refine zH hR rfl ⟨?_, rfl⟩
     show AV.sl 0 0 (0 + l.length) = _; rw [Nat.zero_add]
 · rintro r H ⟨rfl, rfl⟩
   refine ⟨?_, fun h o ho => zGE (zG2 _) h o ho, 0, rfl, fun n => rfl⟩
   intro o ho; simp at ho; subst ho; show 0 + l.length ≤ l.length; omega
def zKK (w : zCZ) : List AV := [.ro (zBR w) 0 w.length]
abbrev zB3 (W : List zCZ) : Cells := zCf [] 1 zKK W
theorem zLh {α : Type} (d : α) (e : α → List AV) (l : List α) (x : Nat) (a : α) (v : AV) (hx : x < l.length) (hv : v = (e a).getD 0 .any) : CEq (.fn l.length 1 (fun i' j' => bif Nat.beq i' x && Nat.beq j' 0 then v else (e (l.getD i' d)).getD j' .any)) (zCf d 1 e (l.set x a)) := by
 refine ⟨by simp [zCf, Cells.len], rfl, fun i j hi hj => ?_⟩
 obtain rfl := Nat.lt_one_iff.1 (show j < 1 from hj)
 show (e ((l.set x a).getD i d)).getD 0 .any = bif Nat.beq i x && Nat.beq 0 0 then v else (e (l.getD i d)).getD 0 .any
 rw [Go.Ax.Dt.getD_set]
 by_cases h : i = x
 · subst h
   rw [if_pos ⟨rfl, hx⟩, hv, show Nat.beq i i = true from Nat.beq_refl i]; rfl
 · rw [if_neg (fun q => h q.1), zBr h]; rfl
theorem zNA {α : Type} {v : Nat → α} {P : α → Prop} : ∀ (l : List Int) (k : Nat) (a : List α), (∀ x ∈ a, P x) → (∀ j, k ≤ j → j < k + l.length → P (v j)) → ∀ x ∈ zAy v l k a, P x
 | [], _, a, h, _ => h
 | c :: r, k, a, h, hv => by
   rw [zAy]
   refine zNA r (k + 1) _ (fun x hx => ?_) (fun j h1 h2 => hv j (by omega) (by simp; omega))
   rcases List.mem_or_eq_of_mem_set hx with q | q
   · exact h x q
   · rw [q]; exact hv k (Nat.le_refl _) (by simp)
theorem zJn {α : Type} {P : α → Prop} {l : List α} {d : α} (h : ∀ x ∈ l, P x) (hd : P d) (i : Nat) : P (l.getD i d) := by
 rcases Nat.lt_or_ge i l.length with q | q
 · exact h _ (zAR d q)
 · have : l.getD i d = d := by simp [List.getD, q]
   rw [this]; exact hd
theorem wayV_len (p : Int) (n : TNode) (w : zCZ) (k : Nat) : (wayV p n w k).length ≤ w.length + 1 := by
 unfold wayV
 split
 · rw [List.length_append]; exact Nat.le_refl _
 · omega
theorem zJW (t : zS) (p : Int) : ∀ i, ∀ w ∈ zDO t p i, w.length ≤ i
 | 0, w, hw => by
   rw [(List.mem_replicate.1 hw).2]; exact Nat.le_refl _
 | i + 1, w, hw => by
   have ih := zJW t p i
   rw [zDO, zIU] at hw
   refine zNA (P := fun w : zCZ => w.length ≤ i + 1) _ _ _ (fun x hx => Nat.le_succ_of_le (ih x hx)) (fun j _ _ => ?_) w hw
   have h1 := wayV_len p (t.getD i node0) ((zDO t p i).getD i []) j
   have h2 : ((zDO t p i).getD i []).length ≤ i := zJn (P := fun w : zCZ => w.length ≤ i) ih (Nat.zero_le _) i
   omega
theorem zOK {t : zS} (hv : Valid t) (p : Int) : ∀ w ∈ zHN t p, w.length ≤ 120 := fun w hw => Nat.le_trans (zJW t p t.length w hw) hv.le
theorem zL7 (W : List zCZ) : z7 (zB3 W) := by
 intro i j _ hj
 obtain rfl : j = 0 := by have hj : j < 1 := hj; omega
 rfl
theorem zJ3 (W : List zCZ) (n : Nat) : zA6 n (zB3 W) := by
 intro i j _ hj
 obtain rfl : j = 0 := by have hj : j < 1 := hj; omega
 rfl
theorem zJy {n : Nat} {o1 o2 : AObj} (h1 : zA6 n o1.c) (h2 : zA6 n o2.c) : ∀ (h : Nat) (o : AObj), ([some o1, some o2] : zV)[h]? = some (some o) → zA6 n o.c := by
 intro h o ho
 match h, ho with
 | 0, ho => cases ho; exact h1
 | 1, ho => cases ho; exact h2
 | _ + 2, ho => simp at ho
theorem zOD (n : Nat) (kd pl nf : Int) (nx : List Int) (od : List zAK) (py : zAK) : zA6 n (.box [.int .i64 kd, .int .i64 pl, .int .i64 nf, .ro (.ints .i64 nx) 0 nx.length, .ro (.strs od) 0 od.length, .str py]) := by
 intro i j _ hj
 have hj : j < 6 := hj
 match j, hj with
 | 0, _ => rfl
 | 1, _ => rfl
 | 2, _ => rfl
 | 3, _ => rfl
 | 4, _ => rfl
 | 5, _ => rfl
theorem zMe (W : List zCZ) (h : Nat) : CEq ((zB3 W).forget h) (zB3 W) := by
 refine ⟨rfl, rfl, fun i j _ hj => ?_⟩
 have hj : j < 1 := hj
 match j, hj with
 | 0, _ => rfl
theorem ways_ok (t : zS) (p : Int) (hT : ShortT t) (hv : Valid t) : zW Tryz.prog 130 [.ro (zd t) 0 t.length, .int .i64 p] (.ro (zB3 (zHN t p)) 0 t.length) := by
 have hlen := hT.len
 have h120 := hv.le
 refine zO.value0 (zF (P := Tryz.prog) (fn := Tryz.f130) rfl rfl (by kernel_rfl) rfl (fun c hR hfix => ?_)) (fix := fun _ => False) (fun _ h => h) rfl rfl
 refine rn3 ?_
 refine zCC rfl rfl rfl rfl rfl rfl rfl rfl (by show 0 ≤ _ ∧ _ ≤ _ ∧ (24 : Int) * _ ≤ _ ∧ _; omega) ?_
 refine zL4 [some ⟨207, zB3 (zDO t p 0)⟩] rfl (fun h o' ho' => ?_) ?_
 · match h, ho' with
   | 0, ho' =>
     cases ho'
     refine ⟨_, rfl, rfl, ?_, rfl, fun i j hi hj => ?_⟩
     · show (List.replicate t.length ([] : zCZ)).length = ((t.length : Nat) : Int).toNat
       rw [List.length_replicate]; omega
     · obtain rfl := Nat.lt_one_iff.1 (show j < 1 from hj)
       have e : (List.replicate t.length ([] : zCZ)).getD i [] = [] := by
         simp only [List.getD, List.getElem?_replicate]
         split <;> rfl
       show AEq .nil ((zKK ((List.replicate t.length ([] : zCZ)).getD i [])).getD 0 .any)
       rw [e]; exact AEq.nil
   | _ + 1, ho' => simp at ho'
 refine rn3 ?_
 refine zg (ι := Nat) (fun i => [(0, .ro (zd t) 0 t.length), (1, .int .i64 p), (5, .sl 0 0 t.length), (13, .ro (zd t) 0 t.length), (14, .int .i64 (t.length : Nat)), (15, .int .i64 (i : Nat))]) (fun i => [some ⟨207, zB3 (zDO t p i)⟩])
   (fun i => i ≤ t.length) (fun i => t.length - i) 0 ⟨⟨rfl, rfl, rfl, rfl, rfl, rfl, trivial⟩, rfl, Nat.zero_le _⟩ ?_
 intro i hi
 refine rn4 ?_
 refine zD rfl (fun h => ?_) (fun h => ?_)
 · have hi' : i < t.length := by omega
   have hsn := hT.node _ (zBH node0 hi')
   have hbh := hv.behind hi'
   have hWl := zGo t p i
   have hWs := zJW t p i
   have hnx : zDO t p (i + 1) = zAy (wayV p (t.getD i node0) ((zDO t p i).getD i [])) (t.getD i node0).next 0 (zDO t p i) := by rw [zDO, zIU]
   generalize hW2 : zDO t p (i + 1) = W2 at *
   generalize zDO t p i = W at *
   obtain ⟨s1, s2, s3, s4⟩ := hsn
   refine rn6 ?_
   refine zN 19 (.agg (zBz (t.getD i node0))) rfl (AEq.of_eq rfl) ?_
   generalize hn : t.getD i node0 = n at *
   have hown : own p n = (decide (n.kind = 2) && decide (n.player = p)) := rfl
   obtain ⟨kd, pl, nf, nx, od, py⟩ := n
   simp only at *
   refine zQ (c' := .box [.int .i64 kd, .int .i64 pl, .int .i64 nf, .ro (.ints .i64 nx) 0 nx.length, .ro (.strs od) 0 od.length, .str py]) rfl rfl rfl rfl rfl Nat.zero_lt_one rfl rfl (fun i' j' hi' hj' => ?_) ?_
   · rw [if_pos (Nat.lt_one_iff.1 hi')]; rfl
   refine zAb [some ⟨207, zB3 W⟩, some ⟨40, .box [.int .i64 kd, .int .i64 pl, .int .i64 nf, .ro (.ints .i64 nx) 0 nx.length, .ro (.strs od) 0 od.length, .str py]⟩] rfl ?_
   generalize hv : wayV p ⟨kd, pl, nf, nx, od, py⟩ (W.getD i []) = v at *
   refine rn5 ?_
   refine zg (ι := Nat) (fun j => [(0, .ro (zd t) 0 t.length), (1, .int .i64 p), (5, .sl 0 0 t.length), (6, .int .i64 (i : Nat)), (7, .ptr 1 0 0), (13, .ro (zd t) 0 t.length), (14, .int .i64 (t.length : Nat)), (15, .int .i64 (i : Nat)), (21, .ro (.ints .i64 nx) 0 nx.length), (22, .int .i64 (nx.length : Nat)), (23, .int .i64 (j : Nat))]) (fun j => [some ⟨207, zB3 (zAy v (nx.take j) 0 W)⟩, some ⟨40, .box [.int .i64 kd, .int .i64 pl, .int .i64 nf, .ro (.ints .i64 nx) 0 nx.length, .ro (.strs od) 0 od.length, .str py]⟩])
     (fun j => j ≤ nx.length) (fun j => nx.length - j) 0 ⟨⟨rfl, rfl, rfl, rfl, rfl, rfl, rfl, rfl, rfl, rfl, rfl, trivial⟩, rfl, Nat.zero_le _⟩ ?_
   intro j hj
   refine rn4 ?_
   refine zD rfl (fun h5 => ?_) (fun h5 => ?_)
   · have hj' : j < nx.length := by omega
     obtain ⟨b1, b2⟩ := hbh _ (zAR 0 hj')
     have hAl : (zAy v (nx.take j) 0 W).length = t.length := by rw [zDH]; exact hWl
     have hAi : (zAy v (nx.take j) 0 W).getD i [] = W.getD i [] := zCG v [] _ _ _ (fun c hc => by have := hbh c (List.mem_of_mem_take hc); omega)
     have hst : zAy v (nx.take (j + 1)) 0 W = (zAy v (nx.take j) 0 W).set (nx.getD j 0).toNat (v j) := by
       rw [zCx hj', zDa, List.length_take, Nat.min_eq_left hj, Nat.zero_add]
     have hw0 : (W.getD i []).length ≤ i := zJn (P := fun w : zCZ => w.length ≤ i) hWs (Nat.zero_le _) i
     have hvj : v j = wayV p ⟨kd, pl, nf, nx, od, py⟩ (W.getD i []) j := by rw [hv]
     unfold wayV at hvj
     rw [hown] at hvj
     simp only at hvj
     generalize hA2 : zAy v (nx.take (j + 1)) 0 W = A2 at *
     generalize zAy v (nx.take j) 0 W = A at *
     generalize W.getD i [] = w0 at *
     obtain ⟨x, hx⟩ := Int.eq_ofNat_of_zero_le (show 0 ≤ nx.getD j 0 by omega)
     rw [hx] at b1 b2 hst
     rw [Int.toNat_natCast] at hst
     have hxl : x < A.length := by omega
     have gi : i < (zB3 A).len := by show i < A.length; omega
     have gx : x < (zB3 A).len := hxl
     have hA1i : (A.set x w0).getD i [] = w0 := by rw [Go.Ax.Dt.getD_set, if_neg (by omega)]; exact hAi
     have hA1l : (A.set x w0).length = t.length := by rw [List.length_set]; exact hAl
     have gi1 : i < (zB3 (A.set x w0)).len := by show i < (A.set x w0).length; omega
     have gx1 : x < (zB3 (A.set x w0)).len := by show x < (A.set x w0).length; omega
     have hw0l : w0.length ≤ 1000000 := by omega
     repeat (first | refine zC (zI rfl) ?_ | refine zC (zK rfl) ?_ | refine zC (zAr rfl rfl rfl) ?_ | refine zB ?_ | refine zA ?_ | refine zZ ?_ | refine zL rfl ?_ | refine zw ?_ | refine zi ?_ | refine zC (zU rfl rfl rfl rfl rfl) ?_ | refine zC (zGa rfl rfl) ?_ | refine zC (zf rfl rfl rfl rfl (by first | (simp only [Nat.zero_add, Int.toNat_natCast, Int.toNat_zero]; exact rfl) | exact rfl) (by omega)) ?_ | refine zC (ze rfl rfl rfl rfl rfl (by first | (simp only [Nat.zero_add, Int.toNat_natCast, Int.toNat_zero]; exact rfl) | exact rfl) (by omega)) ?_ | refine zC (zEz rfl rfl rfl rfl rfl (by first | assumption | omega)) ?_ | refine zC (zP rfl rfl rfl rfl rfl rfl) ?_ | refine zAt rfl rfl rfl rfl rfl rfl rfl (by first | assumption | (show _ < List.length _; first | assumption | omega)) ?_)
     refine zN 33 (.ro (zBR w0) 0 w0.length) rfl (AEq.of_eq (by rw [← hAi]; rfl)) ?_
     refine zN 29 (.int .i64 (x : Nat)) rfl (AEq.of_eq (by rw [hx])) ?_
     refine zN 9 (.int .i64 (x : Nat)) rfl (AEq.of_eq (by rw [hx])) ?_
     have hxn : (nx.getD j 0).toNat = x := by rw [hx, Int.toNat_natCast]
     refine zAz [some ⟨207, zB3 (A.set x w0)⟩, some ⟨40, .box [.int .i64 kd, .int .i64 pl, .int .i64 nf, .ro (.ints .i64 nx) 0 nx.length, .ro (.strs od) 0 od.length, .str py]⟩] (by rw [← hxn]; exact zAG.eqv (zLh [] zKK A (nx.getD j 0).toNat w0 _ (by omega) (by rw [← hAi])) (zAG.refl _)) ?_
     refine z8 rfl rfl (fun g1 => ?_) (fun g1 => ?_)
     · refine rn5 ?_
       refine zD rfl (fun g2 => ?_) (fun g2 => ?_)
       · rw [decide_eq_true g1, decide_eq_true g2, Bool.true_and, if_pos rfl] at hvj
         skip
         refine zn (by kernel_rfl) ?_
         apply zC4 (H := [some ⟨207, zB3 (A.set x w0)⟩, some ⟨40, .box [.int .i64 kd, .int .i64 pl, .int .i64 nf, .ro (.ints .i64 nx) 0 nx.length, .ro (.strs od) 0 od.length, .str py]⟩, some ⟨208, zBR w0⟩]) [(0, .ro (zd t) 0 t.length), (1, .int .i64 p), (5, .sl 0 0 t.length), (6, .int .i64 (i : Nat)), (7, .ptr 1 0 0), (13, .ro (zd t) 0 t.length), (14, .int .i64 (t.length : Nat)), (15, .int .i64 (i : Nat)), (21, .ro (.ints .i64 nx) 0 nx.length), (22, .int .i64 (nx.length : Nat)), (23, .int .i64 (j : Nat)), (44, .sl 0 0 t.length), (45, .int .i64 (x : Nat)), (50, .sl 2 0 w0.length), (55, .ro (zED 1 2 [.int .i64 nf, .int .i64 (j : Nat)]) 0 1)]
         · intro fin2
           refine zR 0 rfl (by kernel_rfl) (by kernel_rfl) (by kernel_rfl) rfl (zI rfl) rfl ?_
           refine zR 1 rfl (by kernel_rfl) (by kernel_rfl) (by kernel_rfl) rfl (zI rfl) rfl ?_
           refine zR 2 rfl (by kernel_rfl) (by kernel_rfl) (by kernel_rfl) rfl (zI rfl) rfl ?_
           refine zR 3 rfl (by kernel_rfl) (by kernel_rfl) (by kernel_rfl) rfl (zI rfl) rfl ?_
           refine zR 7 rfl (by kernel_rfl) (by kernel_rfl) (by kernel_rfl) rfl (zP rfl rfl rfl rfl rfl rfl) rfl ?_
           refine zR 9 rfl (by kernel_rfl) (by kernel_rfl) (by kernel_rfl) rfl (zI rfl) rfl ?_
           refine zR 4 rfl (by kernel_rfl) (by kernel_rfl) (by kernel_rfl) rfl (ze rfl rfl rfl rfl rfl (by first | (simp only [Nat.zero_add, Int.toNat_natCast, Int.toNat_zero]; exact rfl) | exact rfl) (by omega)) rfl ?_
           refine zG (is := [5, 8]) (by kernel_rfl) (by simp) rfl ⟨fun o ho => ?_, fun o ho => ?_, trivial⟩
           all_goals (cases ho)
           · repeat (first | refine zB ?_ | refine zj ?_ | refine zC (zEz rfl rfl rfl rfl rfl (by first | assumption | omega)) ?_)
             refine zBL 49 (.ro (zBR w0) 0 w0.length) rfl (AEq.of_eq (show (zKK ((A.set x w0).getD i [])).getD 0 .any = .ro (zBR w0) 0 w0.length by rw [hA1i]; rfl)) ?_
             refine zG (is := [6, 8]) (by kernel_rfl) (by simp) rfl ⟨fun o ho => ?_, fun o ho => ?_, trivial⟩
             all_goals (cases ho)
             · refine zCJ rfl rfl rfl (zIb w0 hw0l) ?_
               refine rn1 ?_
               refine zG (is := [8]) (by kernel_rfl) (by simp) rfl ⟨fun o ho => ?_, trivial⟩
               all_goals (cases ho)
               refine rn4 ?_
               refine zR 10 rfl (by kernel_rfl) (by kernel_rfl) (by kernel_rfl) rfl (zAU rfl rfl rfl rfl rfl rfl) rfl ?_
               refine zG (is := [11]) (by kernel_rfl) (by simp) rfl ⟨fun o ho => ?_, trivial⟩
               all_goals (cases ho)
               refine rn3 ?_
               exact fin2 _ ⟨rfl, rfl, rfl, rfl, rfl, rfl, rfl, rfl, rfl, rfl, rfl, rfl, rfl, rfl, rfl, trivial⟩
             · refine rn4 ?_
               refine zR 10 rfl (by kernel_rfl) (by kernel_rfl) (by kernel_rfl) rfl (zAU rfl rfl rfl rfl rfl rfl) rfl ?_
               refine zG (is := [6, 11]) (by kernel_rfl) (by simp) rfl ⟨fun o ho => ?_, fun o ho => ?_, trivial⟩
               all_goals (cases ho)
               · refine zCJ rfl rfl rfl (zIb w0 hw0l) ?_
                 refine rn1 ?_
                 refine zG (is := [11]) (by kernel_rfl) (by simp) rfl ⟨fun o ho => ?_, trivial⟩
                 all_goals (cases ho)
                 refine rn3 ?_
                 exact fin2 _ ⟨rfl, rfl, rfl, rfl, rfl, rfl, rfl, rfl, rfl, rfl, rfl, rfl, rfl, rfl, rfl, trivial⟩
               · refine rn3 ?_
                 refine zG (is := [6]) (by kernel_rfl) (by simp) rfl ⟨fun o ho => ?_, trivial⟩
                 all_goals (cases ho)
                 refine zCJ rfl rfl rfl (zIb w0 hw0l) ?_
                 refine rn1 ?_
                 exact fin2 _ ⟨rfl, rfl, rfl, rfl, rfl, rfl, rfl, rfl, rfl, rfl, rfl, rfl, rfl, rfl, rfl, trivial⟩
           · refine rn4 ?_
             refine zR 10 rfl (by kernel_rfl) (by kernel_rfl) (by kernel_rfl) rfl (zAU rfl rfl rfl rfl rfl rfl) rfl ?_
             refine zG (is := [5, 11]) (by kernel_rfl) (by simp) rfl ⟨fun o ho => ?_, fun o ho => ?_, trivial⟩
             all_goals (cases ho)
             · repeat (first | refine zB ?_ | refine zj ?_ | refine zC (zEz rfl rfl rfl rfl rfl (by first | assumption | omega)) ?_)
               refine zBL 49 (.ro (zBR w0) 0 w0.length) rfl (AEq.of_eq (show (zKK ((A.set x w0).getD i [])).getD 0 .any = .ro (zBR w0) 0 w0.length by rw [hA1i]; rfl)) ?_
               refine zG (is := [6, 11]) (by kernel_rfl) (by simp) rfl ⟨fun o ho => ?_, fun o ho => ?_, trivial⟩
               all_goals (cases ho)
               · refine zCJ rfl rfl rfl (zIb w0 hw0l) ?_
                 refine rn1 ?_
                 refine zG (is := [11]) (by kernel_rfl) (by simp) rfl ⟨fun o ho => ?_, trivial⟩
                 all_goals (cases ho)
                 refine rn3 ?_
                 exact fin2 _ ⟨rfl, rfl, rfl, rfl, rfl, rfl, rfl, rfl, rfl, rfl, rfl, rfl, rfl, rfl, rfl, trivial⟩
               · refine rn3 ?_
                 refine zG (is := [6]) (by kernel_rfl) (by simp) rfl ⟨fun o ho => ?_, trivial⟩
                 all_goals (cases ho)
                 refine zCJ rfl rfl rfl (zIb w0 hw0l) ?_
                 refine rn1 ?_
                 exact fin2 _ ⟨rfl, rfl, rfl, rfl, rfl, rfl, rfl, rfl, rfl, rfl, rfl, rfl, rfl, rfl, rfl, trivial⟩
             · refine rn3 ?_
               refine zG (is := [5]) (by kernel_rfl) (by simp) rfl ⟨fun o ho => ?_, trivial⟩
               all_goals (cases ho)
               repeat (first | refine zB ?_ | refine zj ?_ | refine zC (zEz rfl rfl rfl rfl rfl (by first | assumption | omega)) ?_)
               refine zBL 49 (.ro (zBR w0) 0 w0.length) rfl (AEq.of_eq (show (zKK ((A.set x w0).getD i [])).getD 0 .any = .ro (zBR w0) 0 w0.length by rw [hA1i]; rfl)) ?_
               refine zG (is := [6]) (by kernel_rfl) (by simp) rfl ⟨fun o ho => ?_, trivial⟩
               all_goals (cases ho)
               refine zCJ rfl rfl rfl (zIb w0 hw0l) ?_
               refine rn1 ?_
               exact fin2 _ ⟨rfl, rfl, rfl, rfl, rfl, rfl, rfl, rfl, rfl, rfl, rfl, rfl, rfl, rfl, rfl, trivial⟩
         · refine zG (is := [12]) (by kernel_rfl) (by simp) rfl ⟨fun o ho => ?_, trivial⟩
           all_goals (cases ho)
           refine zm rfl rfl rfl rfl rfl rfl rfl rfl rfl rfl rfl rfl (by show 0 + 1 ≤ 1; omega) rfl (by show (w0.length + 1) * 16 ≤ _ ∧ _; omega) ?_ (by rw [hfix]; exact fun h => h) ?_
           · intro i' j' hi' hj'
             have q := (zC5 (0, 0) 2 zHG w0 (nf, (j : Int)) (zED 1 2 [.int .i64 nf, .int .i64 (j : Nat)]) (fun j hj => by
               match j, hj with
               | 0, _ => rfl
               | 1, _ => rfl)).2.2 i' j' hi' hj'
             refine (congrArg (AV.forget 2) q.symm).trans (Eq.trans ?_ q)
             match j', hj' with
             | 0, _ => rfl
             | 1, _ => rfl
           refine zAz [some ⟨207, zB3 (A.set x w0)⟩, some ⟨40, .box [.int .i64 kd, .int .i64 pl, .int .i64 nf, .ro (.ints .i64 nx) 0 nx.length, .ro (.strs od) 0 od.length, .str py]⟩, some ⟨208, zBR (w0 ++ [(nf, (j : Int))])⟩] ?_ ?_
           · exact zAG.eqv (zMe (A.set x w0) 2) (zAG.eqv (CEq.refl _) (zAG.eqv (zC5 (0, 0) 2 zHG w0 (nf, (j : Int)) (zED 1 2 [.int .i64 nf, .int .i64 (j : Nat)]) (fun j hj => by
               match j, hj with
               | 0, _ => rfl
               | 1, _ => rfl)) zAG.nil))
           refine zCu 2 56 (w0.length + 1) [(0, .ro (zd t) 0 t.length), (1, .int .i64 p), (5, .sl 0 0 t.length), (6, .int .i64 (i : Nat)), (7, .ptr 1 0 0), (13, .ro (zd t) 0 t.length), (14, .int .i64 (t.length : Nat)), (15, .int .i64 (i : Nat)), (21, .ro (.ints .i64 nx) 0 nx.length), (22, .int .i64 (nx.length : Nat)), (23, .int .i64 (j : Nat)), (44, .sl 0 0 t.length), (45, .int .i64 (x : Nat))] rfl (zG2 _) rfl (by show w0.length + 1 ≤ (w0 ++ [(nf, (j : Int))]).length; rw [List.length_append]; exact Nat.le_refl _) ⟨rfl, rfl, rfl, rfl, rfl, rfl, rfl, rfl, rfl, rfl, rfl, rfl, rfl, trivial⟩ ?_
           refine zAb [some ⟨207, zB3 (A.set x w0)⟩, some ⟨40, .box [.int .i64 kd, .int .i64 pl, .int .i64 nf, .ro (.ints .i64 nx) 0 nx.length, .ro (.strs od) 0 od.length, .str py]⟩, none] rfl ?_
           have hl9 : (w0 ++ [(nf, (j : Int))]).length = w0.length + 1 := by rw [List.length_append]; rfl
           refine zN 56 (.ro (zBR (w0 ++ [(nf, (j : Int))])) 0 (w0 ++ [(nf, (j : Int))]).length) rfl (AEq.of_eq (by rw [hl9])) ?_
           generalize w0 ++ [(nf, (j : Int))] = w1 at *
           refine rn1 ?_
           refine zR 13 rfl (by kernel_rfl) (by kernel_rfl) (by kernel_rfl) rfl (ze rfl rfl rfl rfl rfl (by first | (simp only [Nat.zero_add, Int.toNat_natCast, Int.toNat_zero]; exact rfl) | exact rfl) (by omega)) rfl ?_
           refine zG (is := [14]) (by kernel_rfl) (by simp) rfl ⟨fun o ho => ?_, trivial⟩
           all_goals (cases ho)
           refine zAt rfl rfl rfl rfl rfl rfl rfl gx1 ?_
           refine zAz [some ⟨207, zB3 ((A.set x w0).set x w1)⟩, some ⟨40, .box [.int .i64 kd, .int .i64 pl, .int .i64 nf, .ro (.ints .i64 nx) 0 nx.length, .ro (.strs od) 0 od.length, .str py]⟩, none] (zAG.eqv (zLh [] zKK (A.set x w0) x w1 _ gx1 rfl) (zAG.refl _)) ?_
           refine rn1 ?_
           refine zh (by kernel_rfl) ?_
           repeat (refine za ?_)
           refine zA ?_
           refine zAa [some ⟨207, zB3 ((A.set x w0).set x w1)⟩, some ⟨40, .box [.int .i64 kd, .int .i64 pl, .int .i64 nf, .ro (.ints .i64 nx) 0 nx.length, .ro (.strs od) 0 od.length, .str py]⟩] [none] [(0, .ro (zd t) 0 t.length), (1, .int .i64 p), (5, .sl 0 0 t.length), (6, .int .i64 (i : Nat)), (7, .ptr 1 0 0), (13, .ro (zd t) 0 t.length), (14, .int .i64 (t.length : Nat)), (15, .int .i64 (i : Nat)), (21, .ro (.ints .i64 nx) 0 nx.length), (22, .int .i64 (nx.length : Nat)), (23, .int .i64 (j : Nat))] rfl ⟨rfl, rfl, rfl, rfl, rfl, rfl, rfl, rfl, rfl, rfl, rfl, trivial⟩ (fun h hh => by rw [hfix] at hh; exact absurd hh id) (zJy (zJ3 _ _) (zOD _ _ _ _ _ _ _)) rfl ?_
           refine rn3 ?_
           exact zM ⟨j + 1, by omega, by omega, ⟨rfl, rfl, rfl, rfl, rfl, rfl, rfl, rfl, rfl, rfl, rfl, trivial⟩, by rw [hA2, hst, hvj, List.set_set]⟩
       · rw [decide_eq_true g1, decide_eq_false g2, if_neg (by decide)] at hvj
         refine rn5 ?_
         exact zM ⟨j + 1, by omega, by omega, ⟨rfl, rfl, rfl, rfl, rfl, rfl, rfl, rfl, rfl, rfl, rfl, trivial⟩, by rw [hA2, hst, hvj]⟩
     · rw [decide_eq_false g1, Bool.false_and, if_neg (by decide)] at hvj
       refine rn6 ?_
       exact zM ⟨j + 1, by omega, by omega, ⟨rfl, rfl, rfl, rfl, rfl, rfl, rfl, rfl, rfl, rfl, rfl, trivial⟩, by rw [hA2, hst, hvj]⟩
   · have hje : j = nx.length := by omega
     subst hje
     rw [List.take_length, ← hnx]
     repeat (first | refine za ?_ | refine zAq ?_ | refine zq ?_ | refine zp ?_ | refine zAH ?_)
     refine zA ?_
     refine zAa [some ⟨207, zB3 W2⟩] [some ⟨40, .box [.int .i64 kd, .int .i64 pl, .int .i64 nf, .ro (.ints .i64 nx) 0 nx.length, .ro (.strs od) 0 od.length, .str py]⟩] [(0, .ro (zd t) 0 t.length), (1, .int .i64 p), (5, .sl 0 0 t.length), (13, .ro (zd t) 0 t.length), (14, .int .i64 (t.length : Nat)), (15, .int .i64 (i : Nat))] rfl ⟨rfl, rfl, rfl, rfl, rfl, rfl, trivial⟩ (fun h hh => by rw [hfix] at hh; exact absurd hh id) (zBg (zJ3 _ _)) rfl ?_
     refine rn3 ?_
     exact zM ⟨i + 1, by omega, by omega, ⟨rfl, rfl, rfl, rfl, rfl, rfl, trivial⟩, by rw [hW2]⟩
 · have hie : i = t.length := by omega
   subst hie
   repeat (first | refine zA ?_ | refine zZ ?_ | refine zAq ?_ | refine zq ?_ | refine zp ?_ | refine zAH ?_)
   refine zAY 0 5 t.length [] rfl (zL7 _) rfl (by show t.length ≤ (zDO t p t.length).length; rw [zGo]; exact Nat.le_refl _) trivial ?_
   refine rn0 ?_
   exact zH hR rfl rfl
end Go.Proofs.YtnkealfaldjipaaGreatDoor
