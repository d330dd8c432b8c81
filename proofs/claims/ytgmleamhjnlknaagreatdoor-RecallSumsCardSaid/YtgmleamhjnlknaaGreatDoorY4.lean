import Derived.MapKept
import Derived.Test.YtgmleamhjnlknaaGreatDoorY3
set_option linter.unusedVariables false
set_option linter.unusedSimpArgs false
namespace Go.Proofs.YtgmleamhjnlknaaGreatDoor
open Go.Ax Go.Ax.Bg Go.Ax.Rt Go.RowKit
attribute [local irreducible] Ax zAV QOp zV zAJ
set_option maxRecDepth 100000
set_option maxHeartbeats 4000000
theorem zI0 : zk Tryz.prog 65 [.int .i64 0] (qA 0) := qof_ok 0 (by decide)
theorem zKr : zk Tryz.prog 65 [.int .i64 1] (qA 1) := qof_ok 1 (by decide)
theorem sz_zero : Sz 2000 0 := by
 refine ⟨?_, ?_⟩
 · show (zh 0).length ≤ 2000; rw [zBK]; decide
 · show (zh 1).length ≤ 2000; rw [zE6]; decide
theorem sum_ok (l : List (List UInt8)) (hlen : l.length ≤ 9223372036854775807) (hs : ∀ s ∈ l, s.length ≤ 9223372036854775807) : zk Tryz.prog 135 [.ro (.strs l) 0 l.length] (.tup [qA (zD2 l).1, .int .i64 (zD2 l).2]) := by
 unfold zD2
 have h1 := zGw l hlen hs
 by_cases hl : 256 < l.length
 · rw [if_pos hl]
   refine zV.value0 (zN (P := Tryz.prog) (fn := Tryz.f135) rfl rfl (by kernel_rfl) rfl (fun c hR hfix => ?_)) (fix := fun _ => False) (fun _ h => h) rfl rfl
   repeat (first | refine zD (zE rfl) ?_ | refine zB ?_ | refine zA ?_ | refine zG ?_ | refine zC rfl ?_ | refine z8 rfl rfl rfl ?_)
   refine zM rfl rfl rfl zI0 ?_
   repeat (refine z8 rfl rfl rfl ?_)
   refine zl (c' := .box (zAg 0)) rfl rfl rfl rfl rfl Nat.zero_lt_one rfl rfl (fun i' j' hi' hj' => ?_) ?_
   · rw [if_pos (Nat.lt_one_iff.1 hi')]; rfl
   repeat (first | refine zD (zF rfl) ?_ | refine zB ?_ | refine zA ?_ | refine zG ?_ | refine zC rfl ?_ | refine zD (zBU rfl rfl) ?_ | refine zD (zw rfl rfl rfl) ?_)
   refine zK rfl (fun h0 => ?_) (fun h0 => absurd hl (by omega))
   repeat (first | refine zG ?_ | refine zC rfl ?_ | refine zD (zq rfl rfl rfl rfl rfl rfl rfl (by first | exact Nat.zero_lt_one | assumption | omega)) ?_)
   refine zl (c' := .box (zAg 0)) rfl rfl rfl rfl rfl Nat.zero_lt_one rfl rfl (fun i' j' hi' hj' => ?_) ?_
   · rw [if_pos (Nat.lt_one_iff.1 hi')]; rfl
   repeat (first | refine zD (zE rfl) ?_ | refine zB ?_ | refine zA ?_ | refine zH ?_ | refine zQ ?_)
   exact zR hR rfl rfl
 rw [if_neg hl]
 by_cases hE : zC4 l = 0
 · rw [if_pos hE]
   rw [hE] at h1
   have h2 := in_ok l (by omega) (fun s hm => ⟨hs s hm, zCX hE s hm⟩)
   have hz : ∀ q ∈ l.map zAi, Sz 2000 q := fun q hq => by
     obtain ⟨s, h3, rfl⟩ := List.mem_map.1 hq
     exact sz_v (zCX hE s h3)
   have hml : (l.map zAi).length = l.length := List.length_map _
   generalize l.map zAi = qs at *
   refine zV.value0 (zN (P := Tryz.prog) (fn := Tryz.f135) rfl rfl (by kernel_rfl) rfl (fun c hR hfix => ?_)) (fix := fun _ => False) (fun _ h => h) rfl rfl
   repeat (first | refine zD (zE rfl) ?_ | refine zB ?_ | refine zA ?_ | refine zG ?_ | refine zC rfl ?_ | refine z8 rfl rfl rfl ?_)
   refine zM rfl rfl rfl zI0 ?_
   repeat (refine z8 rfl rfl rfl ?_)
   refine zl (c' := .box (zAg 0)) rfl rfl rfl rfl rfl Nat.zero_lt_one rfl rfl (fun i' j' hi' hj' => ?_) ?_
   · rw [if_pos (Nat.lt_one_iff.1 hi')]; rfl
   repeat (first | refine zD (zF rfl) ?_ | refine zB ?_ | refine zA ?_ | refine zG ?_ | refine zC rfl ?_ | refine zD (zBU rfl rfl) ?_ | refine zD (zw rfl rfl rfl) ?_)
   refine zK rfl (fun h0 => absurd hl (by omega)) (fun h0 => ?_)
   repeat (first | refine zD (zF rfl) ?_ | refine zA ?_ | refine zG ?_ | refine zC rfl ?_ | refine zP ?_)
   refine zM rfl rfl rfl h1 ?_
   repeat (first | refine zD (zF rfl) ?_ | refine zD (zE rfl) ?_ | refine zB ?_ | refine zA ?_ | refine zG ?_ | refine zC rfl ?_ | refine ze rfl ?_ | refine zP ?_ | refine zD (zAb rfl rfl) ?_)
   refine zM rfl rfl rfl h2 ?_
   repeat (first | refine zD (zF rfl) ?_ | refine zB ?_ | refine zA ?_ | refine zT ?_ | refine zD (zw rfl rfl rfl) ?_)
   refine zAC (ι := Nat × Rat) (fun p => [(2, .ptr 0 0 0), (4, .ptr 1 0 0), (20, .ro (qsC qs) 0 l.length), (21, .int .i64 (l.length : Nat)), (22, .int .i64 (p.1 : Nat))]) (fun p => [some ⟨108, .box [.bool false, .nil, .nil]⟩, some ⟨108, .box (zAg p.2)⟩])
     (fun p => p.1 ≤ l.length ∧ zHR 0 qs = zHR p.2 (qs.drop p.1) ∧ Sz 2000 p.2) (fun p => l.length - p.1) (0, 0) ⟨⟨rfl, rfl, rfl, rfl, rfl, trivial⟩, rfl, Nat.zero_le _, rfl, sz_zero⟩ ?_
   rintro ⟨k, acc⟩ ⟨hk, hS, hA⟩
   simp only at *
   repeat (first | refine zB ?_ | refine zA ?_ | refine zG ?_ | refine zC rfl ?_ | refine zD (zAQ rfl rfl) ?_)
   refine zK rfl (fun h => ?_) (fun h => ?_)
   · have hk' : k < qs.length := by omega
     have hq := hz _ (zA6 0 hk')
     have hd := zFV (d := (0 : Rat)) hk'
     rw [hd, zHR] at hS
     repeat (first | refine zA ?_ | refine zG ?_ | refine zC rfl ?_ | refine zT ?_ | refine zP ?_ | refine zD (zY rfl rfl rfl rfl (by first | (simp only [Nat.zero_add, Int.toNat_natCast, Int.toNat_zero]; exact rfl) | exact rfl) (by omega)) ?_ | refine zD (zAS rfl rfl rfl rfl rfl rfl) ?_ | refine z8 rfl rfl rfl ?_)
     refine zU 25 (.agg (zAg (qs.getD k 0))) rfl (AEq.of_eq rfl) ?_
     generalize qs.getD k 0 = q at *
     have hc := zLR acc q (hA.mono (by decide)) (hq.mono (by decide))
     have hf := zI2 (acc + q) ((zKv hA hq).mono (by decide))
     refine zl (c' := .box (zAg q)) rfl rfl rfl rfl rfl Nat.zero_lt_one rfl rfl (fun i' j' hi' hj' => ?_) ?_
     · rw [if_pos (Nat.lt_one_iff.1 hi')]; rfl
     repeat (first | refine zB ?_ | refine zA ?_ | refine zG ?_ | refine zC rfl ?_ | refine zD (zq rfl rfl rfl rfl rfl rfl rfl (by first | exact Nat.zero_lt_one | assumption | omega)) ?_)
     refine zM rfl rfl rfl hc ?_
     skip
     refine zl (c' := .box (zAg (acc + q))) rfl rfl rfl rfl rfl Nat.zero_lt_one rfl rfl (fun i' j' hi' hj' => ?_) ?_
     · rw [if_pos (Nat.lt_one_iff.1 hi')]; rfl
     repeat (first | refine zB ?_ | refine zA ?_ | refine zG ?_ | refine zC rfl ?_ | refine zD (zq rfl rfl rfl rfl rfl rfl rfl (by first | exact Nat.zero_lt_one | assumption | omega)) ?_)
     refine zM rfl rfl rfl hf ?_
     cases hb : zBd (acc + q)
     · rw [hb, if_neg Bool.false_ne_true] at hS
       rw [hS] at hR
       repeat (first | refine zB ?_ | refine zA ?_ | refine zG ?_ | refine zC rfl ?_ | refine zf rfl ?_ | refine zD (zAw rfl) ?_ | refine zD (zq rfl rfl rfl rfl rfl rfl rfl (by first | exact Nat.zero_lt_one | assumption | omega)) ?_)
       refine zl (c' := .box (zAg (acc + q))) rfl rfl rfl rfl rfl Nat.zero_lt_one rfl rfl (fun i' j' hi' hj' => ?_) ?_
       · rw [if_pos (Nat.lt_one_iff.1 hi')]; rfl
       repeat (first | refine zD (zE rfl) ?_ | refine zB ?_ | refine zA ?_ | refine zH ?_ | refine zQ ?_ | refine zo ?_ | refine zAf ?_)
       exact zR hR rfl rfl
     · rw [hb, if_pos rfl] at hS
       repeat (first | refine zB ?_ | refine zD (zAw rfl) ?_)
       refine zA ?_
       refine zHD ([some ⟨108, .box [.bool false, .nil, .nil]⟩, some ⟨108, .box (zAg (acc + q))⟩] ++ [none]) ?_ ?_
       · exact zAk.eqv (CEq.refl _) (zAk.eqv (CEq.refl _) (zAk.drop zAk.nil))
       refine zJD (H1 := [some ⟨108, .box [.bool false, .nil, .nil]⟩, some ⟨108, .box (zAg (acc + q))⟩]) rfl (by rw [hfix]; exact fun h => h) ?_
       repeat (first | refine zD (zF rfl) ?_ | refine zB ?_ | refine zA ?_ | refine zC rfl ?_ | refine ze rfl ?_ | refine zZ ?_ | refine zP ?_ | refine zD (zAK rfl rfl (by omega)) ?_)
       exact zd ⟨(k + 1, acc + q), ⟨by simp only; omega, hS, zLO hb⟩, by simp only; omega, ⟨rfl, rfl, rfl, rfl, rfl, trivial⟩, rfl⟩
   · have hk' : k = l.length := by omega
     subst hk'
     rw [← hml, List.drop_length, zHR] at hS
     rw [hS] at hR
     repeat (first | refine zA ?_ | refine zG ?_ | refine zC rfl ?_ | refine zx ?_ | refine zW ?_ | refine zX ?_ | refine zi ?_ | refine zD (zq rfl rfl rfl rfl rfl rfl rfl (by first | exact Nat.zero_lt_one | assumption | omega)) ?_)
     refine zl (c' := .box (zAg acc)) rfl rfl rfl rfl rfl Nat.zero_lt_one rfl rfl (fun i' j' hi' hj' => ?_) ?_
     · rw [if_pos (Nat.lt_one_iff.1 hi')]; rfl
     repeat (first | refine zD (zE rfl) ?_ | refine zB ?_ | refine zA ?_ | refine zH ?_)
     exact zR hR rfl rfl
 · rw [if_neg hE]
   generalize zC4 l = e at *
   refine zV.value0 (zN (P := Tryz.prog) (fn := Tryz.f135) rfl rfl (by kernel_rfl) rfl (fun c hR hfix => ?_)) (fix := fun _ => False) (fun _ h => h) rfl rfl
   repeat (first | refine zD (zE rfl) ?_ | refine zB ?_ | refine zA ?_ | refine zG ?_ | refine zC rfl ?_ | refine z8 rfl rfl rfl ?_)
   refine zM rfl rfl rfl zI0 ?_
   repeat (refine z8 rfl rfl rfl ?_)
   refine zl (c' := .box (zAg 0)) rfl rfl rfl rfl rfl Nat.zero_lt_one rfl rfl (fun i' j' hi' hj' => ?_) ?_
   · rw [if_pos (Nat.lt_one_iff.1 hi')]; rfl
   repeat (first | refine zD (zF rfl) ?_ | refine zB ?_ | refine zA ?_ | refine zG ?_ | refine zC rfl ?_ | refine zD (zBU rfl rfl) ?_ | refine zD (zw rfl rfl rfl) ?_)
   refine zK rfl (fun h0 => absurd hl (by omega)) (fun h0 => ?_)
   repeat (first | refine zD (zF rfl) ?_ | refine zA ?_ | refine zG ?_ | refine zC rfl ?_ | refine zP ?_)
   refine zM rfl rfl rfl h1 ?_
   repeat (first | refine zD (zF rfl) ?_ | refine zD (zE rfl) ?_ | refine zB ?_ | refine zA ?_ | refine zG ?_ | refine zC rfl ?_ | refine zD (zAb rfl rfl) ?_)
   refine zK rfl (fun h2 => ?_) (fun h2 => absurd hE h2)
   repeat (first | refine zD (zF rfl) ?_ | refine zG ?_ | refine zC rfl ?_ | refine zD (zq rfl rfl rfl rfl rfl rfl rfl (by first | exact Nat.zero_lt_one | assumption | omega)) ?_)
   refine zl (c' := .box (zAg 0)) rfl rfl rfl rfl rfl Nat.zero_lt_one rfl rfl (fun i' j' hi' hj' => ?_) ?_
   · rw [if_pos (Nat.lt_one_iff.1 hi')]; rfl
   repeat (first | refine zD (zE rfl) ?_ | refine zB ?_ | refine zA ?_ | refine zH ?_ | refine zQ ?_)
   exact zR hR rfl rfl
end Go.Proofs.YtgmleamhjnlknaaGreatDoor
namespace Go.Proofs.YtgmleamhjnlknaaGreatDoor
open Go.Ax Go.Ax.Bg Go.Ax.Rt Go.RowKit
attribute [local irreducible] Ax zAV QOp zV zAJ
set_option maxRecDepth 100000
set_option maxHeartbeats 4000000
theorem zLr : ∀ (qs : List Rat) (acc : Rat), Sz 2000 acc → (∀ q ∈ qs, Sz 2000 q) → Sz 4001 (zHR acc qs).1
 | [], acc, h, _ => h.mono (by decide)
 | q :: r, acc, h, hs => by
   rw [zHR]
   split
   · rename_i hb
     exact zLr r _ (zLO hb) (fun x hx => hs x (by simp [hx]))
   · exact zKv h (hs q (by simp))
theorem sumR_sz (l : List (List UInt8)) : Sz 4001 (zD2 l).1 := by
 unfold zD2
 split
 · exact sz_zero.mono (by decide)
 · split
   · rename_i hE
     refine zLr _ _ sz_zero (fun q hq => ?_)
     obtain ⟨s, h3, rfl⟩ := List.mem_map.1 hq
     exact sz_v (zCX hE s h3)
   · exact sz_zero.mono (by decide)
theorem zKD (l : List (List UInt8)) (hlen : l.length ≤ 9223372036854775807) (hs : ∀ s ∈ l, s.length ≤ 9223372036854775807) : zk Tryz.prog 77 [.ro (.strs l) 0 l.length] (.tup [qA (zD2 l).1, .int .i64 (posE l)]) := by
 have h1 := sum_ok l hlen hs
 have h2 := zIK l 145 [] zCL rfl hlen (fun s hm => ratNeg1 s (hs s hm))
 unfold posE
 generalize (zD2 l).1 = q at *
 generalize (zD2 l).2 = e at *
 generalize l.any zCL = b at *
 by_cases he : e = 0
 · subst he
   cases b
   · rw [if_neg (fun h => Bool.false_ne_true h.2)]
     refine zV.value0 (zN (P := Tryz.prog) (fn := Tryz.f77) rfl rfl (by kernel_rfl) rfl (fun c hR hfix => ?_)) (fix := fun _ => False) (fun _ h => h) rfl rfl
     repeat (first | refine zD (zF rfl) ?_ | refine zD (zE rfl) ?_ | refine zB ?_ | refine zA ?_ | refine zG ?_ | refine zC rfl ?_ | refine z8 rfl rfl rfl ?_)
     refine zM rfl rfl rfl h1 ?_
     unfold qA
     repeat (first | refine zD (zF rfl) ?_ | refine zD (zz rfl rfl) ?_ | refine z8 rfl rfl rfl ?_)
     refine zl (c' := .box (zAg q)) rfl rfl rfl rfl rfl Nat.zero_lt_one rfl rfl (fun i' j' hi' hj' => ?_) ?_
     · rw [if_pos (Nat.lt_one_iff.1 hi')]; rfl
     repeat (first | refine zD (zF rfl) ?_ | refine zD (zE rfl) ?_ | refine zB ?_ | refine zA ?_ | refine zG ?_ | refine zC rfl ?_ | refine zj rfl rfl ?_ | refine zD (zA0 rfl rfl) ?_)
     refine zM rfl rfl rfl h2 ?_
     repeat (first | refine zD (zF rfl) ?_ | refine zB ?_ | refine zA ?_ | refine zG ?_ | refine zC rfl ?_ | refine ze rfl ?_ | refine zP ?_ | refine zD (zr rfl rfl) ?_ | refine zD (zq rfl rfl rfl rfl rfl rfl rfl (by first | exact Nat.zero_lt_one | assumption | omega)) ?_)
     refine zl (c' := .box (zAg q)) rfl rfl rfl rfl rfl Nat.zero_lt_one rfl rfl (fun i' j' hi' hj' => ?_) ?_
     · rw [if_pos (Nat.lt_one_iff.1 hi')]; rfl
     repeat (first | refine zD (zE rfl) ?_ | refine zB ?_ | refine zA ?_ | refine zH ?_)
     exact zR hR rfl rfl
   · rw [if_pos ⟨rfl, rfl⟩]
     refine zV.value0 (zN (P := Tryz.prog) (fn := Tryz.f77) rfl rfl (by kernel_rfl) rfl (fun c hR hfix => ?_)) (fix := fun _ => False) (fun _ h => h) rfl rfl
     repeat (first | refine zD (zF rfl) ?_ | refine zD (zE rfl) ?_ | refine zB ?_ | refine zA ?_ | refine zG ?_ | refine zC rfl ?_ | refine z8 rfl rfl rfl ?_)
     refine zM rfl rfl rfl h1 ?_
     unfold qA
     repeat (first | refine zD (zF rfl) ?_ | refine zD (zz rfl rfl) ?_ | refine z8 rfl rfl rfl ?_)
     refine zl (c' := .box (zAg q)) rfl rfl rfl rfl rfl Nat.zero_lt_one rfl rfl (fun i' j' hi' hj' => ?_) ?_
     · rw [if_pos (Nat.lt_one_iff.1 hi')]; rfl
     repeat (first | refine zD (zF rfl) ?_ | refine zD (zE rfl) ?_ | refine zB ?_ | refine zA ?_ | refine zG ?_ | refine zC rfl ?_ | refine zj rfl rfl ?_ | refine zD (zA0 rfl rfl) ?_)
     refine zM rfl rfl rfl h2 ?_
     repeat (first | refine zD (zF rfl) ?_ | refine zD (zE rfl) ?_ | refine zB ?_ | refine zA ?_ | refine zG ?_ | refine zC rfl ?_ | refine zf rfl ?_ | refine zD (zr rfl rfl) ?_ | refine zD (zq rfl rfl rfl rfl rfl rfl rfl (by first | exact Nat.zero_lt_one | assumption | omega)) ?_)
     refine zl (c' := .box (zAg q)) rfl rfl rfl rfl rfl Nat.zero_lt_one rfl rfl (fun i' j' hi' hj' => ?_) ?_
     · rw [if_pos (Nat.lt_one_iff.1 hi')]; rfl
     repeat (first | refine zD (zE rfl) ?_ | refine zB ?_ | refine zA ?_ | refine zH ?_)
     exact zR hR rfl rfl
 · rw [if_neg (fun h => he h.1)]
   refine zV.value0 (zN (P := Tryz.prog) (fn := Tryz.f77) rfl rfl (by kernel_rfl) rfl (fun c hR hfix => ?_)) (fix := fun _ => False) (fun _ h => h) rfl rfl
   repeat (first | refine zD (zF rfl) ?_ | refine zD (zE rfl) ?_ | refine zB ?_ | refine zA ?_ | refine zG ?_ | refine zC rfl ?_ | refine z8 rfl rfl rfl ?_)
   refine zM rfl rfl rfl h1 ?_
   unfold qA
   repeat (first | refine zD (zF rfl) ?_ | refine zD (zz rfl rfl) ?_ | refine z8 rfl rfl rfl ?_)
   refine zl (c' := .box (zAg q)) rfl rfl rfl rfl rfl Nat.zero_lt_one rfl rfl (fun i' j' hi' hj' => ?_) ?_
   · rw [if_pos (Nat.lt_one_iff.1 hi')]; rfl
   repeat (first | refine zD (zF rfl) ?_ | refine zD (zE rfl) ?_ | refine zB ?_ | refine zA ?_ | refine zG ?_ | refine zC rfl ?_ | refine zD (zA0 rfl rfl) ?_)
   refine zAH rfl rfl (fun h0 => absurd h0 he) (fun h0 => ?_)
   repeat (first | refine zD (zF rfl) ?_ | refine zB ?_ | refine zA ?_ | refine zG ?_ | refine zC rfl ?_ | refine zp rfl rfl rfl ?_ | refine ze rfl ?_ | refine zP ?_ | refine zD (zr rfl rfl) ?_ | refine zD (zq rfl rfl rfl rfl rfl rfl rfl (by first | exact Nat.zero_lt_one | assumption | omega)) ?_)
   refine zl (c' := .box (zAg q)) rfl rfl rfl rfl rfl Nat.zero_lt_one rfl rfl (fun i' j' hi' hj' => ?_) ?_
   · rw [if_pos (Nat.lt_one_iff.1 hi')]; rfl
   repeat (first | refine zD (zE rfl) ?_ | refine zB ?_ | refine zA ?_ | refine zH ?_)
   exact zR hR rfl rfl
theorem zLQ (l : List (List UInt8)) (hlen : l.length ≤ 9223372036854775807) (hs : ∀ s ∈ l, s.length ≤ 9223372036854775807) : zk Tryz.prog 24 [.ro (.strs l) 0 l.length] (.int .i64 (zDv l)) := by
 have h1 := zKD l hlen hs
 have hz := sumR_sz l
 unfold zDv
 generalize (zD2 l).1 = q at *
 generalize posE l = e at *
 have h2 := qcmp_ok q 1 (hz.mono (by decide)) (by refine ⟨?_, ?_⟩ <;> (show (zh 1).length ≤ 100000; rw [zE6]; decide))
 by_cases he : e = 0
 · rw [if_pos he]
   subst he
   generalize cmpQ q 1 = t at *
   by_cases ht : t = 0
   · rw [if_pos ht]
     subst ht
     refine zV.value0 (zN (P := Tryz.prog) (fn := Tryz.f24) rfl rfl (by kernel_rfl) rfl (fun c hR hfix => ?_)) (fix := fun _ => False) (fun _ h => h) rfl rfl
     repeat (first | refine zD (zF rfl) ?_ | refine zD (zE rfl) ?_ | refine zB ?_ | refine zA ?_ | refine zG ?_ | refine zC rfl ?_)
     refine zM rfl rfl rfl h1 ?_
     unfold qA
     repeat (first | refine zD (zF rfl) ?_ | refine zD (zz rfl rfl) ?_ | refine z8 rfl rfl rfl ?_)
     refine zl (c' := .box (zAg q)) rfl rfl rfl rfl rfl Nat.zero_lt_one rfl rfl (fun i' j' hi' hj' => ?_) ?_
     · rw [if_pos (Nat.lt_one_iff.1 hi')]; rfl
     repeat (first | refine zD (zF rfl) ?_ | refine zD (zE rfl) ?_ | refine zB ?_ | refine zA ?_ | refine zG ?_ | refine zC rfl ?_ | refine ze rfl ?_ | refine zP ?_ | refine zD (zAb rfl rfl) ?_)
     refine zAI (by kernel_rfl) ?_
     refine zAR (fuel := 0) [0, 1, 2, 3] [(3, .ptr 0 0 0)] ⟨rfl, trivial⟩ (by kernel_rfl) (by decide) rfl rfl ?_
     refine zn rfl rfl (zq rfl rfl rfl rfl rfl rfl rfl (by first | exact Nat.zero_lt_one | assumption | omega)) ?_
     refine zCb rfl rfl rfl rfl rfl zKr ?_
     refine zCb rfl rfl rfl rfl rfl h2 ?_
     refine zn rfl rfl (zAb rfl rfl) ?_
     refine zAs ?_
     refine zAB (by kernel_rfl) ?_
     repeat (first | refine zD (zE rfl) ?_ | refine zB ?_ | refine zA ?_ | refine zG ?_ | refine zC rfl ?_ | refine ze rfl ?_ | refine zP ?_ | refine zH ?_)
     exact zR hR rfl rfl
   · rw [if_neg ht]
     refine zV.value0 (zN (P := Tryz.prog) (fn := Tryz.f24) rfl rfl (by kernel_rfl) rfl (fun c hR hfix => ?_)) (fix := fun _ => False) (fun _ h => h) rfl rfl
     repeat (first | refine zD (zF rfl) ?_ | refine zD (zE rfl) ?_ | refine zB ?_ | refine zA ?_ | refine zG ?_ | refine zC rfl ?_)
     refine zM rfl rfl rfl h1 ?_
     unfold qA
     repeat (first | refine zD (zF rfl) ?_ | refine zD (zz rfl rfl) ?_ | refine z8 rfl rfl rfl ?_)
     refine zl (c' := .box (zAg q)) rfl rfl rfl rfl rfl Nat.zero_lt_one rfl rfl (fun i' j' hi' hj' => ?_) ?_
     · rw [if_pos (Nat.lt_one_iff.1 hi')]; rfl
     repeat (first | refine zD (zF rfl) ?_ | refine zD (zE rfl) ?_ | refine zB ?_ | refine zA ?_ | refine zG ?_ | refine zC rfl ?_ | refine ze rfl ?_ | refine zP ?_ | refine zD (zAb rfl rfl) ?_)
     refine zAI (by kernel_rfl) ?_
     refine zAR (fuel := 0) [0, 1, 2, 3] [(3, .ptr 0 0 0)] ⟨rfl, trivial⟩ (by kernel_rfl) (by decide) rfl rfl ?_
     refine zn rfl rfl (zq rfl rfl rfl rfl rfl rfl rfl (by first | exact Nat.zero_lt_one | assumption | omega)) ?_
     refine zCb rfl rfl rfl rfl rfl zKr ?_
     refine zCb rfl rfl rfl rfl rfl h2 ?_
     refine zn rfl rfl (zAb rfl rfl) ?_
     refine zAs ?_
     refine zAB (by kernel_rfl) ?_
     repeat (refine zA ?_)
     refine zK rfl (fun h0 => ?_) (fun h0 => absurd ht h0)
     repeat (first | refine zD (zE rfl) ?_ | refine zB ?_ | refine zA ?_ | refine zG ?_ | refine zC rfl ?_ | refine zH ?_ | refine zQ ?_)
     exact zR hR rfl rfl
 · rw [if_neg he]
   refine zV.value0 (zN (P := Tryz.prog) (fn := Tryz.f24) rfl rfl (by kernel_rfl) rfl (fun c hR hfix => ?_)) (fix := fun _ => False) (fun _ h => h) rfl rfl
   repeat (first | refine zD (zF rfl) ?_ | refine zD (zE rfl) ?_ | refine zB ?_ | refine zA ?_ | refine zG ?_ | refine zC rfl ?_)
   refine zM rfl rfl rfl h1 ?_
   unfold qA
   repeat (first | refine zD (zF rfl) ?_ | refine zD (zz rfl rfl) ?_ | refine z8 rfl rfl rfl ?_)
   refine zl (c' := .box (zAg q)) rfl rfl rfl rfl rfl Nat.zero_lt_one rfl rfl (fun i' j' hi' hj' => ?_) ?_
   · rw [if_pos (Nat.lt_one_iff.1 hi')]; rfl
   repeat (first | refine zD (zF rfl) ?_ | refine zD (zE rfl) ?_ | refine zB ?_ | refine zA ?_ | refine zG ?_ | refine zC rfl ?_ | refine zD (zAb rfl rfl) ?_)
   refine zK rfl (fun h0 => ?_) (fun h0 => absurd he h0)
   repeat (first | refine zD (zF rfl) ?_ | refine zD (zE rfl) ?_ | refine zB ?_ | refine zA ?_ | refine zG ?_ | refine zC rfl ?_ | refine zH ?_ | refine zQ ?_)
   exact zR hR rfl rfl
end Go.Proofs.YtgmleamhjnlknaaGreatDoor
namespace Go.Proofs.YtgmleamhjnlknaaGreatDoor
open Go.Ax Go.Ax.Bg Go.Ax.Rt Go.RowKit
attribute [local irreducible] Ax zAV QOp zV zAJ
set_option maxRecDepth 100000
set_option maxHeartbeats 4000000
end Go.Proofs.YtgmleamhjnlknaaGreatDoor
namespace Go.Ax.Rt
open Go.Ax.Bg
theorem Parts.fit {s : List UInt8} {q : Rat} (h : Parts s q) : zBd q = true := by
 unfold zBd
 rw [Bool.and_eq_true, decide_eq_true_eq, decide_eq_true_eq, h.num, h.den, zDb, zDQ h.cn]
 refine ⟨h.ln, ?_⟩
 cases e : zEq s
 · rw [zFU e, Lib.decDigits_one (by decide)]; decide
 · rw [zEJ e, zDQ (h.cd e).1]; exact h.ld
/-- A text that spells q. -/
def IsQ (s : List UInt8) (q : Rat) : Prop := zCW s = 0 ∧ zAi s = q
instance (s : List UInt8) (q : Rat) : Decidable (IsQ s q) := inferInstanceAs (Decidable (_ ∧ _))
theorem IsQ.self {s : List UInt8} (h : zCW s = 0) : IsQ s (zAi s) := ⟨h, rfl⟩
theorem IsQ.text {s : List UInt8} {q : Rat} (h : IsQ s q) : zAM q = s := by
 have := (zDO h.1).text
 rwa [h.2] at this
theorem IsQ.fit {s : List UInt8} {q : Rat} (h : IsQ s q) : zBd q = true := by
 have := (zDO h.1).fit
 rwa [h.2] at this
theorem zHI {q : Rat} (h : zBd q = true) : IsQ (zAM q) q := rat_of h
theorem IsQ.out {s : List UInt8} {q : Rat} (h : IsQ s q) : zFr q = (s, 0) := by
 unfold zFr
 rw [if_pos h.fit, h.text]
theorem IsQ.inj {a b : List UInt8} {q : Rat} (ha : IsQ a q) (hb : IsQ b q) : a = b := by rw [← ha.text, hb.text]
theorem IsQ.all2 {a b : List UInt8} {x y : Rat} (ha : IsQ a x) (hb : IsQ b y) : zC4 [a, b] = 0 := by
 refine zLh (fun s hs => ?_)
 simp at hs
 rcases hs with rfl | rfl
 · exact ha.1
 · exact hb.1
theorem IsQ.two {a b : List UInt8} {x y : Rat} (F : Rat → Rat → Rat) (ha : IsQ a x) (hb : IsQ b y) : twoR F a b = zFr (F x y) := by
 unfold twoR
 rw [if_pos (ha.all2 hb), ha.2, hb.2]
theorem IsQ.one {a : List UInt8} {x : Rat} (F : Rat → Rat) (ha : IsQ a x) : oneR F a = zFr (F x) := by
 unfold oneR
 rw [if_pos ha.1, ha.2]
theorem IsQ.zero {a : List UInt8} {x : Rat} (ha : IsQ a x) : x = 0 ↔ a = [48] := by rw [← ha.2]; exact Parts.zero ha.1
theorem IsQ.sign {a : List UInt8} {x : Rat} (ha : IsQ a x) : signR a = (sgn x.num, 0) := by
 unfold signR
 rw [if_pos ha.1, ha.2]
/-- Numbers of at most so many digits. -/
def D (k : Nat) (q : Rat) : Prop := q.num.natAbs < 10 ^ k ∧ q.den < 10 ^ k
theorem D.mono {j k : Nat} {q : Rat} (h : D j q) (hk : j ≤ k) : D k q :=
 ⟨Nat.lt_of_lt_of_le h.1 (Nat.pow_le_pow_right (by decide) hk), Nat.lt_of_lt_of_le h.2 (Nat.pow_le_pow_right (by decide) hk)⟩
theorem D.fit {k : Nat} {q : Rat} (h : D k q) (hk : k ≤ 2000) : zBd q = true := by
 unfold zBd
 rw [Bool.and_eq_true, decide_eq_true_eq, decide_eq_true_eq]
 exact ⟨zKY (lt_big h.1 hk), zKY (lt_big h.2 hk)⟩
theorem D.out {k : Nat} {q : Rat} (h : D k q) (hk : k ≤ 2000) : zFr q = (zAM q, 0) ∧ IsQ (zAM q) q := ⟨(zHI (h.fit hk)).out, zHI (h.fit hk)⟩
theorem IsQ.dig {s : List UInt8} {q : Rat} (h : IsQ s q) {k : Nat} (hk : s.length ≤ k) (h1 : 1 ≤ k) : D k q := by
 have ht := h.text
 have hl : (zAM q).length ≤ k := by rw [ht]; exact hk
 unfold zAM at hl
 rw [List.length_append, List.length_append] at hl
 refine ⟨Nat.lt_of_lt_of_le (zDK _) (Nat.pow_le_pow_right (by decide) (by omega)), ?_⟩
 by_cases hd : q.den = 1
 · rw [hd]
   exact Nat.lt_of_lt_of_le (show 1 < 10 ^ 1 by decide) (Nat.pow_le_pow_right (by decide) h1)
 · rw [if_neg hd, List.length_cons] at hl
   exact Nat.lt_of_lt_of_le (zDK _) (Nat.pow_le_pow_right (by decide) (by omega))
theorem d_frac {n d : Int} {k : Nat} (hd : d ≠ 0) (h1 : n.natAbs < 10 ^ k) (h2 : d.natAbs < 10 ^ k) : D k (Rat.divInt n d) := by
 obtain ⟨e1, e2, _⟩ := zFx n d hd
 refine ⟨?_, ?_⟩
 · rw [e1]; exact Nat.lt_of_le_of_lt (Nat.div_le_self _ _) h1
 · rw [e2]; exact Nat.lt_of_le_of_lt (Nat.div_le_self _ _) h2
theorem D.add {p q : Rat} {j k : Nat} (hp : D j p) (hq : D k q) : D (j + k + 1) (p + q) := by
 rw [← zHf]
 have a1 := zGG hp.1 hq.2
 have a2 := zGG hq.1 hp.2
 rw [Nat.add_comm k j] at a2
 have a3 := zGG hp.2 hq.2
 refine d_frac (by have := Nat.mul_ne_zero p.den_nz q.den_nz; omega) ?_ ?_
 · have h := Int.natAbs_add_le (p.num * q.den) (q.num * p.den)
   rw [Int.natAbs_mul, Int.natAbs_mul, Int.natAbs_natCast, Int.natAbs_natCast] at h
   exact Nat.lt_of_le_of_lt h (add_big a1 a2)
 · rw [Int.natAbs_natCast]
   exact Nat.lt_of_lt_of_le a3 (Nat.pow_le_pow_right (by decide) (by omega))
theorem D.neg {q : Rat} {k : Nat} (h : D k q) : D k (-q) := by
 refine ⟨?_, h.2⟩
 show (-q.num).natAbs < _
 rw [Int.natAbs_neg]; exact h.1
theorem D.sub {p q : Rat} {j k : Nat} (hp : D j p) (hq : D k q) : D (j + k + 1) (p - q) := by
 rw [Rat.sub_eq_add_neg]; exact hp.add hq.neg
theorem D.mul {p q : Rat} {j k : Nat} (hp : D j p) (hq : D k q) : D (j + k) (p * q) := by
 rw [← zJ0]
 refine d_frac (by have := Nat.mul_ne_zero p.den_nz q.den_nz; omega) ?_ ?_
 · rw [Int.natAbs_mul]; exact zGG hp.1 hq.1
 · rw [Int.natAbs_natCast]; exact zGG hp.2 hq.2
end Go.Ax.Rt
namespace Go.Ax.Rt
open Go.Ax.Bg
end Go.Ax.Rt
namespace Go.Ax.Rt
open Go.Ax.Bg
theorem div_one (q : Rat) : q / 1 = q := by
 have := Rat.mul_div_cancel (a := q) (b := 1) (by decide)
 rwa [Rat.mul_one] at this
theorem zMZ {s : List UInt8} (h : zCW s = 0) : zCL s = false ↔ 0 ≤ zAi s := by
 have hp := zDO h
 have h1 := zHZ (zCL s) (zAc 0 (zC9 s))
 rw [← hp.num] at h1
 rw [← Rat.num_nonneg]
 cases e : zCL s
 · rw [e] at h1; simp at h1; simpa using h1
 · have h2 : (zAi s).num < 0 := by
     have h3 := hp.ng e
     rw [e] at h1
     simpa [h3] using h1
   exact ⟨fun q => absurd q (by decide), fun q => absurd h2 (by omega)⟩
structure Shared (l : List (List UInt8)) (v : List (List UInt8)) : Prop where
 len : v.length = l.length
 pos : posE v = 0
 one : (zD2 v).1 = 1
 again : ((v.map zAi).map (fun q => q / (zD2 v).1)).map zAM = v
 fits : ((v.map zAi).map (fun q => q / (zD2 v).1)).all zBd = true
 odds : zDv v = 0
 best : zJ6 v = zJ6 l ∧ (zJ6 l).2 = 0
end Go.Ax.Rt
namespace Go.Ax.Rt
open Go.Ax.Bg
def zCK (f : Nat → Rat) : Nat → Rat
 | 0 => 0
 | n + 1 => zCK f n + f n
theorem zHx {f g : Nat → Rat} : ∀ {n : Nat}, (∀ i, i < n → f i = g i) → zCK f n = zCK g n
 | 0, _ => rfl
 | n + 1, h => by rw [zCK, zCK, zHx (fun i hi => h i (by omega)), h n (by omega)]
theorem zJn (c : Rat) (f : Nat → Rat) : ∀ n : Nat, zCK (fun i => c * f i) n = c * zCK f n
 | 0 => by rw [zCK, zCK, Rat.mul_zero]
 | n + 1 => by rw [zCK, zCK, zJn c f n, Rat.mul_add]
theorem sumN_D {j : Nat} {f : Nat → Rat} : ∀ {n : Nat}, (∀ i, i < n → D j (f i)) → D (1 + n * (j + 1)) (zCK f n)
 | 0, _ => by
   rw [Nat.zero_mul]
   exact ⟨by show (0 : Rat).num.natAbs < _; decide, by show (0 : Rat).den < _; decide⟩
 | n + 1, h => by
   rw [zCK]
   have := (sumN_D (n := n) (fun i hi => h i (by omega))).add (h n (by omega))
   refine this.mono ?_
   rw [Nat.add_mul]; omega
/-- The sum of the products. -/
def dotQ (a b : List Rat) : Rat := zCK (fun i => a.getD i 0 * b.getD i 0) a.length
def colQ (m : List (List Rat)) (k : Nat) : List Rat := m.map (fun row => row.getD k 0)
def colsQ (m : List (List Rat)) (w : Nat) : List (List Rat) := (List.range w).map (colQ m)
def mulQ (a b : List (List Rat)) (w : Nat) : List (List Rat) := a.map (fun row => (colsQ b w).map (dotQ row))
def applyQ (m : List (List Rat)) (v : List Rat) : List Rat := m.map (fun row => dotQ row v)
theorem zMm (m : List (List Rat)) (w : Nat) : (colsQ m w).length = w := by simp [colsQ]
theorem zHc {α β : Type} (f : α → β) (l : List α) (d : α) (e : β) (i : Nat) (hi : i < l.length) : (l.map f).getD i e = f (l.getD i d) := by simp [List.getD, hi]
end Go.Ax.Rt
namespace Go.Ax.Rt
open Go.Ax.Bg
abbrev zAZ := List UInt8
def zG3 (v : List zAZ) : Int := if 40 < v.length then 2 else zC4 v
def rowsE (w : Nat) : List (List zAZ) → Int
 | [] => 0
 | r :: rs => if r.length = w then (if zG3 r = 0 then rowsE w rs else zG3 r) else 3
def zDC (m : List (List zAZ)) : Nat := (m.getD 0 []).length
/-- matrix.Check -/
def zF9 (m : List (List zAZ)) : Int := if 40 < m.length then 2 else rowsE (zDC m) m
def inM (m : List (List zAZ)) : List (List Rat) := m.map (fun r => r.map zAi)
def outM (q : List (List Rat)) : List (List zAZ) × Int := if q.all (fun r => r.all zBd) then (q.map (fun r => r.map zAM), 0) else ([], 2)
def dotR (a b : List zAZ) : zAZ × Int := if zG3 a ≠ 0 then ([], zG3 a) else if zG3 b ≠ 0 then ([], zG3 b) else if a.length = b.length then zFr (dotQ (a.map zAi) (b.map zAi)) else ([], 3)
def applyR (m : List (List zAZ)) (v : List zAZ) : List zAZ × Int := if zF9 m ≠ 0 then ([], zF9 m) else if zG3 v ≠ 0 then ([], zG3 v) else if m ≠ [] ∧ zDC m ≠ v.length then ([], 3) else zAq (applyQ (inM m) (v.map zAi))
def mulR (a b : List (List zAZ)) : List (List zAZ) × Int := if zF9 a ≠ 0 then ([], zF9 a) else if zF9 b ≠ 0 then ([], zF9 b) else if zDC a = b.length then outM (mulQ (inM a) (inM b) (zDC b)) else ([], 3)
def transT (m : List (List zAZ)) : List (List zAZ) := (List.range (zDC m)).map (fun k => m.map (fun r => r.getD k []))
def transR (m : List (List zAZ)) : List (List zAZ) × Int := if zF9 m ≠ 0 then ([], zF9 m) else (transT m, 0)
/-- A valid matrix of so many rows and columns. -/
structure IsM (m : List (List zAZ)) (p q : Nat) : Prop where
 rows : m.length = p
 cols : ∀ r ∈ m, r.length = q
 sp : p ≤ 40
 sq : m ≠ [] → q ≤ 40
 ok : ∀ r ∈ m, ∀ s ∈ r, zCW s = 0
theorem IsM.wid {m : List (List zAZ)} {p q : Nat} (h : IsM m p q) (hne : m ≠ []) : zDC m = q := by
 obtain ⟨a, m', rfl⟩ := List.exists_cons_of_ne_nil hne
 exact h.cols a (by simp)
/-- Short texts. -/
def tiny (n k : Nat) (m : List (List zAZ)) : Bool := decide (m.length ≤ n) && m.all (fun v => decide (v.length ≤ n) && v.all (fun s => decide (s.length ≤ k)))
end Go.Ax.Rt
namespace Go.Ax.Rt
open Go.Ax.Bg
/-- The product of short valid matrices. -/
structure Prod (a b : List (List zAZ)) (t : List (List zAZ)) (p q r K : Nat) : Prop where
 res : mulR a b = (t, 0)
 ok : IsM t p r
 val : inM t = mulQ (inM a) (inM b) r
 dig : ∀ x ∈ inM t, ∀ y ∈ x, D K y
end Go.Ax.Rt
namespace Go.Ax.Dt
def zBu (f : Nat → Int) : Nat → Int
 | 0 => 0
 | n + 1 => zBu f n + f n
theorem zBE {f g : Nat → Int} : ∀ {n : Nat}, (∀ i, i < n → f i = g i) → zBu f n = zBu g n
 | 0, _ => rfl
 | n + 1, h => by rw [zBu, zBu, zBE (fun i hi => h i (by omega)), h n (by omega)]
theorem zIm {f : Nat → Int} : ∀ {n : Nat}, (∀ i, i < n → f i = 0) → zBu f n = 0
 | 0, _ => rfl
 | n + 1, h => by rw [zBu, zIm (fun i hi => h i (by omega)), h n (by omega)]; rfl
theorem zC1 (f g : Nat → Int) : ∀ n, zBu (fun i => f i + g i) n = zBu f n + zBu g n
 | 0 => rfl
 | n + 1 => by rw [zBu, zBu, zBu, zC1 f g n]; omega
theorem zE8 (c : Int) (f : Nat → Int) : ∀ n, zBu (fun i => c * f i) n = c * zBu f n
 | 0 => by rw [zBu, zBu, Int.mul_zero]
 | n + 1 => by rw [zBu, zBu, zE8 c f n, Int.mul_add]
theorem zC0 {f : Nat → Int} {n : Nat} (k : Nat) (hk : k < n) (h : ∀ i, i < n → i ≠ k → f i = 0) : zBu f n = f k := by
 induction n with
 | zero => omega
 | succ n ih =>
   rw [zBu]
   by_cases hkn : k = n
   · subst hkn
     rw [zIm (fun i hi => h i (by omega) (by omega))]; omega
   · rw [ih (by omega) (fun i hi hne => h i (by omega) hne), h n (by omega) (fun e => hkn e.symm)]; omega
theorem sumZ_two {f : Nat → Int} {n : Nat} (k l : Nat) (hk : k < n) (hl : l < n) (hkl : k ≠ l) (h : ∀ i, i < n → i ≠ k → i ≠ l → f i = 0) : zBu f n = f k + f l := by
 have e : zBu f n = zBu (fun i => (if i = k then f k else 0) + (if i = k then 0 else f i)) n := by
   refine zBE (fun i hi => ?_)
   by_cases hik : i = k
   · subst hik; simp
   · simp [hik]
 rw [e, zC1]
 rw [zC0 k hk (fun i hi hne => by simp [hne]), zC0 l hl (fun i hi hne => by
   by_cases hik : i = k
   · simp [hik]
   · simp [hik]; exact h i hi hik hne)]
 have : ¬ l = k := fun e => hkl e.symm
 simp [this]
abbrev V := Nat → Int
abbrev Mx := Nat → V
def sg : Nat → Int
 | 0 => 1
 | n + 1 => -sg n
def skip (i : Nat) (D : Mx) : Mx := fun a c => D (if a < i then a else a + 1) (c + 1)
def det : Nat → Mx → Int
 | 0, _ => 1
 | n + 1, D => zBu (fun i => sg i * (D i 0 * det n (skip i D))) (n + 1)
def put (D : Mx) (r : Nat) (v : V) : Mx := fun a => if a = r then v else D a
theorem zFR : ∀ {n : Nat} {D E : Mx}, (∀ a c, a < n → c < n → D a c = E a c) → det n D = det n E
 | 0, _, _, _ => rfl
 | n + 1, D, E, h => by
   rw [det, det]
   refine zBE (fun i hi => ?_)
   rw [h i 0 hi (by omega), zFR (D := skip i D) (E := skip i E) (fun a c ha hc => ?_)]
   unfold skip
   exact h _ _ (by split <;> omega) (by omega)
theorem zCB (D : Mx) (r : Nat) (v : V) : skip r (put D r v) = skip r D := by
 funext a c
 unfold skip put
 have : ¬ (if a < r then a else a + 1) = r := by split <;> omega
 rw [if_neg this]
theorem zE4 {D : Mx} {i r : Nat} {v : V} (h : i ≠ r) : skip i (put D r v) = put (skip i D) (if r < i then r else r - 1) (fun c => v (c + 1)) := by
 funext a c
 unfold skip put
 by_cases hri : r < i
 · rw [if_pos hri]
   by_cases ha : a = r
   · subst ha; rw [if_pos hri]; simp
   · by_cases hai : a < i
     · simp [hai, ha]
     · have : ¬ a + 1 = r := by omega
       simp [hai, ha, this]
 · rw [if_neg hri]
   by_cases ha : a = r - 1
   · subst ha
     have h1 : ¬ r - 1 < i := by omega
     have h2 : r - 1 + 1 = r := by omega
     simp [h1, h2]
   · by_cases hai : a < i
     · have : ¬ a = r := by omega
       simp [hai, ha, this]
     · have : ¬ a + 1 = r := by omega
       simp [hai, ha, this]
/-- The determinant is linear in each row. -/
theorem zFa : ∀ (n : Nat) (D : Mx) (r : Nat) (u v : V), r < n → det n (put D r (fun c => u c + v c)) = det n (put D r u) + det n (put D r v)
 | 0, _, _, _, _, h => absurd h (Nat.not_lt_zero _)
 | n + 1, D, r, u, v, h => by
   rw [det, det, det, ← zC1]
   refine zBE (fun i hi => ?_)
   by_cases hir : i = r
   · subst hir
     rw [zCB, zCB, zCB]
     have e : ∀ w : V, put D i w i 0 = w 0 := fun w => by simp [put]
     rw [e, e, e, Int.add_mul, Int.mul_add]
   · have e : ∀ w : V, put D r w i 0 = D i 0 := fun w => by simp [put, hir]
     rw [zE4 hir, zE4 hir, zE4 hir, e, e, e, zFa n _ _ _ _ (by split <;> omega), Int.mul_add, Int.mul_add]
theorem zEv : ∀ (n : Nat) (D : Mx) (r : Nat) (k : Int) (v : V), r < n → det n (put D r (fun c => k * v c)) = k * det n (put D r v)
 | 0, _, _, _, _, h => absurd h (Nat.not_lt_zero _)
 | n + 1, D, r, k, v, h => by
   rw [det, det, ← zE8]
   refine zBE (fun i hi => ?_)
   by_cases hir : i = r
   · subst hir
     rw [zCB, zCB]
     have e : ∀ w : V, put D i w i 0 = w 0 := fun w => by simp [put]
     rw [e, e, Int.mul_left_comm k, Int.mul_assoc]
   · have e : ∀ w : V, put D r w i 0 = D i 0 := fun w => by simp [put, hir]
     rw [zE4 hir, zE4 hir, e, e, zEv n _ _ _ _ (by split <;> omega), Int.mul_left_comm k, Int.mul_left_comm k]
theorem zIt (n : Nat) (D : Mx) (r : Nat) (h : r < n) : det n (put D r (fun _ => 0)) = 0 := by
 have := zEv n D r 0 (fun _ => 0) h
 simpa using this
/-- Two rows beside each other that are equal. -/
theorem zI4 : ∀ (n : Nat) (D : Mx) (r : Nat), r + 1 < n → (∀ c, c < n → D r c = D (r + 1) c) → det n D = 0
 | 0, _, _, h, _ => absurd h (Nat.not_lt_zero _)
 | n + 1, D, r, h, he => by
   rw [det, sumZ_two r (r + 1) (by omega) h (by omega) (fun i hi h1 h2 => ?_)]
   · have e : det n (skip r D) = det n (skip (r + 1) D) := zFR (fun a c ha hc => by
       unfold skip
       by_cases h1 : a < r
       · rw [if_pos h1, if_pos (by omega)]
       · rw [if_neg h1]
         by_cases h2 : a < r + 1
         · have : a = r := by omega
           subst this
           rw [if_pos h2]; exact (he _ (by omega)).symm
         · rw [if_neg h2])
     rw [e, he 0 (by omega), sg, Int.neg_mul]
     omega
   · have := zI4 n (skip i D) (if r < i then r else r - 1) (by split <;> omega) (fun c hc => by
       unfold skip
       by_cases hri : r < i
       · rw [if_pos hri, if_pos (show r < i from hri), if_pos (show r + 1 < i by omega)]
         exact he _ (by omega)
       · have e1 : ¬ r - 1 < i := by omega
         have e2 : ¬ r - 1 + 1 < i := by omega
         rw [if_neg hri, if_neg e1, if_neg e2, show r - 1 + 1 = r by omega]
         exact he _ (by omega))
     rw [this, Int.mul_zero, Int.mul_zero]
theorem zDn (D : Mx) {r s : Nat} (u v : V) (h : r ≠ s) : put (put D r u) s v = put (put D s v) r u := by
 funext a
 unfold put
 by_cases h1 : a = s
 · have : ¬ a = r := fun e => h (e.symm.trans h1)
   simp [h1]
   intro e; exact absurd e.symm h
 · simp [h1]
theorem zFG (D : Mx) (r : Nat) : put D r (D r) = D := by
 funext a; unfold put; split
 · rename_i h; rw [h]
 · rfl
/-- Exchange of two rows beside each other. -/
theorem det_swap (n : Nat) (D : Mx) (r : Nat) (u v : V) (h : r + 1 < n) : det n (put (put D r u) (r + 1) v) = - det n (put (put D r v) (r + 1) u) := by
 have key : ∀ w : V, det n (put (put D r w) (r + 1) w) = 0 := fun w => zI4 n _ r h (fun c _ => by unfold put; simp)
 have h0 := key (fun c => u c + v c)
 have add0 : ∀ w : V, det n (put (put D r (fun c => u c + v c)) (r + 1) w) = det n (put (put D r u) (r + 1) w) + det n (put (put D r v) (r + 1) w) := fun w => by
   rw [zDn D _ w (by omega), zFa n _ _ _ _ (by omega), zDn D u w (by omega), zDn D v w (by omega)]
 rw [zFa n _ _ _ _ h, add0, add0] at h0
 have h1 := key u
 have h2 := key v
 omega
theorem zLB : ∀ (k : Nat) (n : Nat) (D : Mx) (r : Nat), r + (k + 1) < n → (∀ c, c < n → D r c = D (r + (k + 1)) c) → det n D = 0
 | 0, n, D, r, h, he => zI4 n D r h he
 | k + 1, n, D, r, h, he => by
   have e : D = put (put D (r + (k + 1)) (D (r + (k + 1)))) (r + (k + 1) + 1) (D (r + (k + 1) + 1)) := by
     rw [zFG, zFG]
   rw [e, det_swap n D (r + (k + 1)) _ _ (by omega), zLB k n _ r (by omega) (fun c hc => ?_)]
   · rfl
   · have h1 : ¬ r = r + (k + 1) + 1 := by omega
     have h2 : ¬ r = r + (k + 1) := by omega
     have h3 : ¬ r + (k + 1) = r + (k + 1) + 1 := by omega
     unfold put
     rw [if_neg h1, if_neg h2, if_neg h3, if_pos rfl]
     exact he c hc
theorem zLU (n : Nat) (D : Mx) {r s : Nat} (hr : r < n) (hs : s < n) (hne : r ≠ s) : det n (put D r (D s)) = 0 := by
 rcases Nat.lt_or_gt_of_ne hne with h | h
 · refine zLB (s - r - 1) n _ r (by omega) (fun c _ => ?_)
   rw [show r + (s - r - 1 + 1) = s by omega]
   have : ¬ s = r := fun e => hne e.symm
   simp [put, this]
 · refine zLB (r - s - 1) n _ s (by omega) (fun c _ => ?_)
   rw [show s + (r - s - 1 + 1) = r by omega]
   have : ¬ s = r := fun e => hne e.symm
   simp [put, this]
/-- A row that is a sum of multiples of the rows. -/
theorem zKC (n : Nat) (D : Mx) (r : Nat) (hr : r < n) (t : V) : ∀ k, k ≤ n → det n (put D r (fun c => zBu (fun i => t i * D i c) k)) = if r < k then t r * det n D else 0
 | 0, _ => by
   rw [if_neg (Nat.not_lt_zero _)]
   exact zIt n D r hr
 | k + 1, hk => by
   have ih := zKC n D r hr t k (by omega)
   have e : (fun c => zBu (fun i => t i * D i c) (k + 1)) = (fun c => (fun c => zBu (fun i => t i * D i c) k) c + (fun c => t k * D k c) c) := rfl
   rw [e, zFa n D r _ _ hr, ih, zEv n D r _ _ hr]
   by_cases hkr : k = r
   · subst hkr
     rw [if_neg (by omega), if_pos (by omega), zFG]; omega
   · rw [zLU n D hr (by omega) (fun e => hkr e.symm), Int.mul_zero, Int.add_zero]
     by_cases h1 : r < k
     · rw [if_pos h1, if_pos (by omega)]
     · rw [if_neg h1, if_neg (by omega)]
theorem zGE {n : Nat} {D : Mx} {r : Nat} (hr : r < n) {t w : V} (h : ∀ c, c < n → w c = zBu (fun i => t i * D i c) n) : det n (put D r w) = t r * det n D := by
 have := zKC n D r hr t n (Nat.le_refl _)
 rw [if_pos hr] at this
 rw [← this]
 refine zFR (fun a c _ hc => ?_)
 unfold put
 split
 · exact h c hc
 · rfl
def zFh : Mx := fun a c => if a = c then 1 else 0
theorem zJe : ∀ n : Nat, det n zFh = 1
 | 0 => rfl
 | n + 1 => by
   rw [det, zC0 0 (by omega) (fun i hi hne => by simp [zFh, hne])]
   have : det n (skip 0 zFh) = det n zFh := zFR (fun a c _ _ => by simp [skip, zFh])
   rw [this, zJe n]; simp [sg, zFh]
def fct : Nat → Nat
 | 0 => 1
 | n + 1 => (n + 1) * fct n
/-- A column of the table, and the column of the beginning that it stands for. -/
def Sol (n : Nat) (D : Mx) (d : Int) (t0 t : V) : Prop := ∀ c, c < n → zBu (fun i => t i * D i c) n = d * t0 c
theorem sol_det {n : Nat} {D : Mx} {d s : Int} {t0 t : V} (hd : d ≠ 0) (hs : s * s = 1) (hD : det n D = s * d) (h : Sol n D d t0 t) {i : Nat} (hi : i < n) : t i = s * det n (put D i t0) := by
 have h1 := zGE (w := fun c => d * t0 c) hi (fun c hc => (h c hc).symm)
 rw [zEv n D i d t0 hi, hD] at h1
 have h2 : d * det n (put D i t0) = d * (s * t i) := by rw [h1, Int.mul_left_comm, Int.mul_comm (t i) d, Int.mul_left_comm]
 have h3 := Int.eq_of_mul_eq_mul_left hd h2
 rw [h3, ← Int.mul_assoc, hs, Int.one_mul]
/-- The pivot: the determinant of the new rows, and exact quotients. -/
theorem zIa {n : Nat} {D : Mx} {d s : Int} {t0 t : V} (hd : d ≠ 0) (hs : s * s = 1) (hD : det n D = s * d) (h : Sol n D d t0 t) {r : Nat} (hr : r < n) : det n (put D r t0) = s * t r := by
 rw [sol_det hd hs hD h hr, ← Int.mul_assoc, hs, Int.one_mul]
theorem sumZ_put {n : Nat} {D : Mx} {r : Nat} (hr : r < n) (v : V) (t : V) (c : Nat) : zBu (fun i => t i * put D r v i c) n = zBu (fun i => t i * D i c) n - t r * D r c + t r * v c := by
 have e : ∀ i, i < n → t i * put D r v i c = t i * D i c + (if i = r then t r * v c - t r * D r c else 0) := by
   intro i hi
   by_cases hir : i = r
   · subst hir; simp [put]; omega
   · simp [put, hir]
 rw [zBE e, zC1, zC0 (f := fun i => if i = r then t r * v c - t r * D r c else 0) r hr (fun i hi hne => by simp [hne])]
 simp; omega
theorem zIQ {n : Nat} {D : Mx} {d s : Int} {tc0 tc tj0 tj : V} (hd : d ≠ 0) (hs : s * s = 1) (hD : det n D = s * d) (hc : Sol n D d tc0 tc) (hj : Sol n D d tj0 tj) {r : Nat} (hr : r < n) (hp : tc r ≠ 0) :
   (∀ i, i < n → i ≠ r → d ∣ tj i * tc r - tc i * tj r) ∧ Sol n (put D r tc0) (tc r) tj0 (fun i => if i = r then tj r else (tj i * tc r - tc i * tj r) / d) := by
 have hD' := zIa hd hs hD hc hr
 -- the numerators are a solution of d times the new equation
 let N : V := fun i => if i = r then d * tj r else tj i * tc r - tc i * tj r
 have hN : ∀ c, c < n → zBu (fun i => N i * put D r tc0 i c) n = d * tc r * tj0 c := by
   intro c hcn
   rw [sumZ_put hr]
   have e : ∀ i, i < n → N i * D i c = (tc r * (tj i * D i c) + (-(tj r)) * (tc i * D i c)) + (if i = r then d * tj r * D r c else 0) := by
     intro i hi
     by_cases hir : i = r
     · subst hir
       simp only [N, if_true]
       have : tc i * (tj i * D i c) + -tj i * (tc i * D i c) = 0 := by
         rw [Int.neg_mul, Int.mul_left_comm]; omega
       omega
     · simp only [N, hir, if_false, Int.add_zero]
       rw [Int.sub_mul, Int.neg_mul, Int.mul_comm (tj i) (tc r), Int.mul_assoc, Int.mul_comm (tc i) (tj r), Int.mul_assoc]; omega
   rw [zBE e, zC1, zC1, zE8, zE8, hj c hcn, hc c hcn, zC0 (f := fun i => if i = r then d * tj r * D r c else 0) r hr (fun i hi hne => by simp [hne])]
   simp only [N, if_true]
   have e1 : tc r * (d * tj0 c) = d * tc r * tj0 c := by rw [← Int.mul_assoc, Int.mul_comm (tc r) d]
   have e2 : -tj r * (d * tc0 c) = -(d * tj r * tc0 c) := by rw [Int.neg_mul, ← Int.mul_assoc, Int.mul_comm (tj r) d]
   rw [e1, e2]; omega
 have hex : ∀ i, i < n → N i = d * (s * det n (put (put D r tc0) i tj0)) := by
   intro i hi
   have h1 := zGE (D := put D r tc0) (w := fun c => d * tc r * tj0 c) hi (fun c hcn => (hN c hcn).symm)
   rw [zEv n _ i (d * tc r) tj0 hi, hD'] at h1
   have h2 : tc r * (d * (s * det n (put (put D r tc0) i tj0))) = tc r * N i := by
     have h3 : s * (d * tc r * det n (put (put D r tc0) i tj0)) = s * (N i * (s * tc r)) := by rw [h1]
     have h4 : s * (N i * (s * tc r)) = tc r * N i := by
       rw [Int.mul_left_comm, ← Int.mul_assoc s s, hs, Int.one_mul, Int.mul_comm]
     rw [h4] at h3
     rw [← h3]
     rw [Int.mul_assoc d, Int.mul_left_comm s d, Int.mul_left_comm s (tc r), Int.mul_left_comm d (tc r)]
   exact (Int.eq_of_mul_eq_mul_left hp h2).symm
 refine ⟨fun i hi hne => ?_, ?_⟩
 · have := hex i hi
   simp only [N, hne, if_false] at this
   exact ⟨_, this⟩
 · intro c hcn
   have h1 := hN c hcn
   have h2 : ∀ i, i < n → N i * put D r tc0 i c = d * ((fun i => if i = r then tj r else (tj i * tc r - tc i * tj r) / d) i * put D r tc0 i c) := by
     intro i hi
     by_cases hir : i = r
     · subst hir; simp only [N, if_true]; rw [Int.mul_assoc]
     · have h3 := hex i hi
       simp only [N, hir, if_false] at h3 ⊢
       have h4 : (tj i * tc r - tc i * tj r) / d = s * det n (put (put D r tc0) i tj0) := by rw [h3, Int.mul_ediv_cancel_left _ hd]
       rw [h4, ← Int.mul_assoc, ← h3]
   rw [zBE h2, zE8, Int.mul_assoc d] at h1
   exact Int.eq_of_mul_eq_mul_left hd h1
end Go.Ax.Dt
namespace Go.Ax.Dt
/-- The quotient of the absolute values, with the sign of the quotient. -/
def zHe (x d : Int) : Int := if (decide (x < 0) != decide (d < 0)) = true then -((x.natAbs / d.natAbs : Nat) : Int) else ((x.natAbs / d.natAbs : Nat) : Int)
theorem zMN {q d : Int} (hd : d ≠ 0) : zHe (d * q) d = q := by
 have hn : (d * q).natAbs / d.natAbs = q.natAbs := by rw [Int.natAbs_mul, Nat.mul_div_cancel_left _ (by omega)]
 unfold zHe
 rw [hn]
 rcases Int.lt_trichotomy q 0 with hq | hq | hq
 · rcases Int.lt_or_gt_of_ne hd with h | h
   · have h1 : ¬ d * q < 0 := Int.not_lt.2 (Int.le_of_lt (Int.mul_pos_of_neg_of_neg h hq))
     simp [h, h1]; omega
   · have h1 : d * q < 0 := Int.mul_neg_of_pos_of_neg h hq
     have h2 : ¬ d < 0 := by omega
     simp [h1, h2]; omega
 · subst hq; simp
 · rcases Int.lt_or_gt_of_ne hd with h | h
   · have h1 : d * q < 0 := Int.mul_neg_of_neg_of_pos h hq
     simp [h, h1]; omega
   · have h1 : ¬ d * q < 0 := Int.not_lt.2 (Int.le_of_lt (Int.mul_pos h hq))
     have h2 : ¬ d < 0 := by omega
     simp [h1, h2]; omega
theorem zMq {x d : Int} (hd : d ≠ 0) (h : d ∣ x) : zHe x d = x / d := by
 obtain ⟨q, rfl⟩ := h
 rw [zMN hd, Int.mul_ediv_cancel_left _ hd]
abbrev Tab := List (List Int)
def at2 (T : Tab) (i j : Nat) : Int := (T.getD i []).getD j 0
/-- The first row at or behind i that has no 0 in a column. -/
def zEQ (T : Tab) (c : Nat) : Nat → Nat → Nat
 | 0, i => i
 | f + 1, i => if at2 T i c = 0 then zEQ T c f (i + 1) else i
theorem zGd (T : Tab) (c : Nat) : ∀ f i, i ≤ zEQ T c f i ∧ zEQ T c f i ≤ i + f ∧ (∀ a, i ≤ a → a < zEQ T c f i → at2 T a c = 0) ∧ (zEQ T c f i < i + f → at2 T (zEQ T c f i) c ≠ 0)
 | 0, i => ⟨Nat.le_refl _, Nat.le_refl _, fun a h1 h2 => absurd h2 (by rw [zEQ]; omega), fun h => absurd h (by rw [zEQ]; omega)⟩
 | f + 1, i => by
   rw [zEQ]
   by_cases h : at2 T i c = 0
   · rw [if_pos h]
     obtain ⟨h1, h2, h3, h4⟩ := zGd T c f (i + 1)
     refine ⟨by omega, by omega, fun a ha hb => ?_, fun hb => h4 (by omega)⟩
     by_cases e : a = i
     · rw [e]; exact h
     · exact h3 a (by omega) hb
   · rw [if_neg h]
     exact ⟨Nat.le_refl _, by omega, fun a h1 h2 => absurd h2 (by omega), fun _ => h⟩
def zA3 (T : Tab) (i k : Nat) : Tab := (T.set i (T.getD k [])).set k (T.getD i [])
def swp (i k a : Nat) : Nat := if a = k then i else if a = i then k else a
def zGK (R K : List Int) (p f d : Int) : List Int := (List.range R.length).map (fun j => zHe (R.getD j 0 * p - f * K.getD j 0) d)
def zCd (T : Tab) (k c : Nat) (d : Int) : Tab := (List.range T.length).map (fun i => if i = k then T.getD k [] else zGK (T.getD i []) (T.getD k []) (at2 T k c) (at2 T i c) d)
structure Red where
 T : Tab
 piv : List Nat
 last : Int
 neg : Bool
def zGf (r : Red) (c : Nat) : Red :=
 if r.T.length ≤ r.piv.length then r
 else if zEQ r.T c (r.T.length - r.piv.length) r.piv.length = r.T.length then r
 else ⟨zCd (zA3 r.T (zEQ r.T c (r.T.length - r.piv.length) r.piv.length) r.piv.length) r.piv.length c r.last, r.piv ++ [c], at2 (zA3 r.T (zEQ r.T c (r.T.length - r.piv.length) r.piv.length) r.piv.length) r.piv.length c, if zEQ r.T c (r.T.length - r.piv.length) r.piv.length = r.piv.length then r.neg else !r.neg⟩
def redN (M : Tab) : Nat → Red
 | 0 => ⟨M, [], 1, false⟩
 | c + 1 => zGf (redN M c) c
theorem getD_set {α : Type} (l : List α) (d x : α) (i j : Nat) : (l.set i x).getD j d = if j = i ∧ i < l.length then x else l.getD j d := by
 by_cases h : j = i
 · subst h
   by_cases h2 : j < l.length
   · simp [List.getD, h2]
   · have : l.length ≤ j := by omega
     simp [List.getD, h2, this]
 · have : ¬ i = j := fun e => h e.symm
   simp [List.getD, h, List.getElem?_set, this]
theorem zEC (T : Tab) (i k : Nat) : (zA3 T i k).length = T.length := by simp [zA3]
theorem zGa (T : Tab) {i k : Nat} (hi : i < T.length) (hk : k < T.length) (a : Nat) : (zA3 T i k).getD a [] = T.getD (swp i k a) [] := by
 unfold zA3 swp
 rw [getD_set, List.length_set, getD_set]
 by_cases h1 : a = k
 · simp [h1, hk]
 · by_cases h2 : a = i
   · have h3 : ¬ i = k := fun e => h1 (h2.trans e)
     simp [h1, h2, hi, h3]
   · simp [h1, h2]
theorem zKd (T : Tab) {k : Nat} (hk : k < T.length) : zA3 T k k = T := by
 refine List.ext_getElem (zEC _ _ _) (fun a h1 h2 => ?_)
 have := zGa T hk hk a
 have e : swp k k a = a := by unfold swp; split <;> simp_all
 rw [e] at this
 simpa [List.getD, h1, h2] using this
theorem zDf (T : Tab) {i k : Nat} (hi : i < T.length) (hk : k < T.length) (a j : Nat) : at2 (zA3 T i k) a j = at2 T (swp i k a) j := by
 unfold at2; rw [zGa T hi hk]
theorem zMb (T : Tab) (k c : Nat) (d : Int) : (zCd T k c d).length = T.length := by simp [zCd]
theorem zMp (T : Tab) (k c : Nat) (d : Int) {i : Nat} (hi : i < T.length) : (zCd T k c d).getD i [] = if i = k then T.getD k [] else zGK (T.getD i []) (T.getD k []) (at2 T k c) (at2 T i c) d := by
 unfold zCd
 simp [List.getD, hi]
theorem zHW (T : Tab) (k c : Nat) (d : Int) {L : Nat} (hT : ∀ x ∈ T, x.length = L) {i j : Nat} (hi : i < T.length) (hj : j < L) : at2 (zCd T k c d) i j = if i = k then at2 T k j else zHe (at2 T i j * at2 T k c - at2 T i c * at2 T k j) d := by
 unfold at2
 rw [zMp T k c d hi]
 have hl : (T.getD i []).length = L := hT _ (by simp [List.getD, hi])
 by_cases h : i = k
 · rw [if_pos h, if_pos h]
 · rw [if_neg h, if_neg h]
   unfold zGK
   rw [hl]
   have : ∀ f : Nat → Int, ((List.range L).map f).getD j 0 = f j := fun f => by simp [List.getD, hj]
   rw [this]; rfl
theorem zKB (R K : List Int) (p f d : Int) : (zGK R K p f d).length = R.length := by simp [zGK]
theorem zMr (T : Tab) (k c : Nat) (d : Int) {L : Nat} (hk : k < T.length) (hT : ∀ x ∈ T, x.length = L) : ∀ x ∈ zCd T k c d, x.length = L := by
 intro x hx
 obtain ⟨i, hi, rfl⟩ := List.mem_map.1 hx
 have hi : i < T.length := by simpa using hi
 split
 · exact hT _ (by simp [List.getD, hk])
 · rw [zKB]; exact hT _ (by simp [List.getD, hi])
theorem zMf (T : Tab) {i k : Nat} (hi : i < T.length) (hk : k < T.length) {L : Nat} (hT : ∀ x ∈ T, x.length = L) : ∀ x ∈ zA3 T i k, x.length = L := by
 intro x hx
 obtain ⟨a, ha, rfl⟩ := List.getElem_of_mem hx
 have h1 := zGa T hi hk a
 have h2 : swp i k a < T.length := by rw [zEC] at ha; unfold swp; split; exact hi; split; exact hk; exact ha
 have h3 : (zA3 T i k).getD a [] = (zA3 T i k)[a] := by simp [List.getD, ha]
 rw [h3] at h1
 rw [h1]; exact hT _ (by simp [List.getD, h2])
/-- Exchange of two rows. -/
theorem det_exch (n : Nat) (D : Mx) {r s : Nat} (hr : r < n) (hs : s < n) (hne : r ≠ s) (u v : V) : det n (put (put D r u) s v) = - det n (put (put D r v) s u) := by
 have key : ∀ w : V, det n (put (put D r w) s w) = 0 := fun w => by
   have := zLU n (put D s w) hr hs hne
   rw [show put D s w s = w by simp [put]] at this
   rwa [zDn D w w hne]
 have h0 := key (fun c => u c + v c)
 have add0 : ∀ w : V, det n (put (put D r (fun c => u c + v c)) s w) = det n (put (put D r u) s w) + det n (put (put D r v) s w) := fun w => by
   rw [zDn D _ w hne, zFa n _ _ _ _ hr, zDn D u w hne, zDn D v w hne]
 rw [zFa n _ _ _ _ hs, add0, add0] at h0
 have h1 := key u
 have h2 := key v
 omega
theorem det_swp (n : Nat) (D : Mx) {i k : Nat} (hi : i < n) (hk : k < n) (hne : i ≠ k) : det n (fun a => D (swp i k a)) = - det n D := by
 have e1 : (fun a => D (swp i k a)) = put (put D i (D k)) k (D i) := by
   funext a
   unfold put swp
   by_cases h1 : a = k
   · rw [if_pos h1, if_pos h1]
   · by_cases h2 : a = i
     · rw [if_neg h1, if_pos h2, if_neg h1, if_pos h2]
     · rw [if_neg h1, if_neg h2, if_neg h1, if_neg h2]
 rw [e1, det_exch n D hi hk hne, zFG, zFG]
theorem sumZ_swp (f : Nat → Int) (n : Nat) {i k : Nat} (hi : i < n) (hk : k < n) : zBu (fun a => f (swp i k a)) n = zBu f n := by
 by_cases hne : i = k
 · subst hne
   refine zBE (fun a _ => ?_)
   unfold swp; split <;> simp_all
 have e : ∀ a, a < n → f (swp i k a) = f a + ((if a = i then f k - f i else 0) + (if a = k then f i - f k else 0)) := by
   intro a _
   unfold swp
   by_cases h1 : a = k
   · have h2 : ¬ a = i := fun e => hne (e.symm.trans h1)
     rw [if_pos h1, if_neg h2, if_pos h1, h1]; omega
   · by_cases h2 : a = i
     · rw [if_neg h1, if_pos h2, if_pos h2, if_neg h1, h2]; omega
     · rw [if_neg h1, if_neg h2, if_neg h2, if_neg h1]; omega
 rw [zBE e, zC1, zC1, zC0 (f := fun a => if a = i then f k - f i else 0) i hi (fun a _ h => by simp [h]), zC0 (f := fun a => if a = k then f i - f k else 0) k hk (fun a _ h => by simp [h])]
 simp; omega
/-- The table during the elimination, after so many columns. -/
structure RInv (n L B : Nat) (M : Tab) (c : Nat) (r : Red) : Prop where
 len : r.T.length = n
 row : ∀ x ∈ r.T, x.length = L
 pl : r.piv.length ≤ n
 pc : r.piv.length ≤ c
 full : r.piv.length = c → r.piv = List.range c
 last : r.last ≠ 0
 zero : ∀ i j, r.piv.length ≤ i → i < n → j < c → at2 r.T i j = 0
 base : ∃ (D : Mx) (s : Int), s * s = 1 ∧ det n D = s * r.last ∧ (∀ j, j < L → Sol n D r.last (fun a => at2 M a j) (fun i => at2 r.T i j)) ∧ (∀ a, a < r.piv.length → ∀ e, D a e = at2 M e (r.piv.getD a 0)) ∧ (∀ a e, a < n → e < n → (D a e).natAbs ≤ B)
theorem RInv.init {n L B : Nat} {M : Tab} (h1 : M.length = n) (h2 : ∀ x ∈ M, x.length = L) (hB : 1 ≤ B) : RInv n L B M 0 (redN M 0) where
 len := h1
 row := h2
 pl := Nat.zero_le _
 pc := Nat.zero_le _
 full := fun _ => rfl
 last := by show (1 : Int) ≠ 0; decide
 zero := fun i j _ _ hj => absurd hj (Nat.not_lt_zero _)
 base := by
   refine ⟨zFh, 1, rfl, by rw [zJe]; rfl, fun j _ e he => ?_, fun a ha => absurd ha (Nat.not_lt_zero _), fun a e _ _ => ?_⟩
   · rw [zC0 e he (fun i _ hne => by simp [zFh, hne])]
     simp [zFh, redN]
   · unfold zFh; split <;> simp <;> omega
/-- Rows exchanged. -/
theorem RInv.swap {n L B c : Nat} {M : Tab} {r : Red} (h : RInv n L B M c r) {i : Nat} (hk : r.piv.length < n) (hki : r.piv.length ≤ i) (hi : i < n) : RInv n L B M c { r with T := zA3 r.T i r.piv.length } where
 len := by rw [zEC]; exact h.len
 row := zMf _ (by rw [h.len]; exact hi) (by rw [h.len]; exact hk) h.row
 pl := h.pl
 pc := h.pc
 full := h.full
 last := h.last
 zero := fun a j h1 h2 h3 => by
   show at2 (zA3 r.T i r.piv.length) a j = 0
   rw [zDf _ (by rw [h.len]; exact hi) (by rw [h.len]; exact hk)]
   have h1 : r.piv.length ≤ a := h1
   refine h.zero _ j ?_ ?_ h3
   · unfold swp; split; exact hki; split; exact Nat.le_refl _; exact h1
   · unfold swp; split; exact hi; split; exact hk; exact h2
 base := by
   obtain ⟨D, s, hs, hD, hS, hp, hB⟩ := h.base
   by_cases e : i = r.piv.length
   · have : zA3 r.T i r.piv.length = r.T := by rw [e]; exact zKd _ (by rw [h.len]; exact hk)
     show ∃ (D : Mx) (s : Int), s * s = 1 ∧ det n D = s * r.last ∧ (∀ j, j < L → Sol n D r.last (fun a => at2 M a j) (fun a => at2 (zA3 r.T i r.piv.length) a j)) ∧ (∀ a, a < r.piv.length → ∀ e, D a e = at2 M e (r.piv.getD a 0)) ∧ (∀ a e, a < n → e < n → (D a e).natAbs ≤ B)
     rw [this]
     exact ⟨D, s, hs, hD, hS, hp, hB⟩
   · refine ⟨fun a => D (swp i r.piv.length a), -s, by rw [Int.neg_mul_neg]; exact hs, by rw [det_swp n D hi hk e, hD, Int.neg_mul], fun j hj e he => ?_, fun a ha e => ?_, fun a e ha he => ?_⟩
     · have := hS j hj e he
       show zBu (fun a => at2 (zA3 r.T i r.piv.length) a j * D (swp i r.piv.length a) e) n = r.last * at2 M e j
       rw [← this, ← sumZ_swp (fun a => at2 r.T a j * D a e) n hi hk]
       refine zBE (fun a _ => ?_)
       rw [zDf _ (by rw [h.len]; exact hi) (by rw [h.len]; exact hk)]
     · have ha : a < r.piv.length := ha
       have : swp i r.piv.length a = a := by unfold swp; rw [if_neg (by omega), if_neg (by omega)]
       show D (swp i r.piv.length a) e = _
       rw [this]; exact hp a ha e
     · refine hB _ e ?_ he
       unfold swp; split; exact hi; split; exact hk; exact ha
/-- One elimination. -/
theorem RInv.elim {n L B c : Nat} {M : Tab} {r : Red} (h : RInv n L B M c r) (hk : r.piv.length < n) (hc : c < L) (hp : at2 r.T r.piv.length c ≠ 0) (hB : ∀ a j, a < n → j < L → (at2 M a j).natAbs ≤ B) (b : Bool) :
   RInv n L B M (c + 1) ⟨zCd r.T r.piv.length c r.last, r.piv ++ [c], at2 r.T r.piv.length c, b⟩ ∧
   ∀ i j, i < n → i ≠ r.piv.length → j < L → at2 (zCd r.T r.piv.length c r.last) i j * r.last = at2 r.T i j * at2 r.T r.piv.length c - at2 r.T i c * at2 r.T r.piv.length j := by
 obtain ⟨D, s, hs, hD, hS, hpv, hBD⟩ := h.base
 have hl := h.len
 have hex : ∀ i j, i < n → i ≠ r.piv.length → j < L → r.last ∣ at2 r.T i j * at2 r.T r.piv.length c - at2 r.T i c * at2 r.T r.piv.length j := fun i j hi hne hj =>
   (zIQ h.last hs hD (hS c hc) (hS j hj) hk hp).1 i hi hne
 have hat : ∀ i j, i < n → j < L → at2 (zCd r.T r.piv.length c r.last) i j = if i = r.piv.length then at2 r.T r.piv.length j else (at2 r.T i j * at2 r.T r.piv.length c - at2 r.T i c * at2 r.T r.piv.length j) / r.last := by
   intro i j hi hj
   rw [zHW _ _ _ _ h.row (by omega) hj]
   by_cases e : i = r.piv.length
   · rw [if_pos e, if_pos e]
   · rw [if_neg e, if_neg e, zMq h.last (hex i j hi e hj)]
 refine ⟨⟨by rw [zMb]; exact hl, zMr _ _ _ _ (by omega) h.row, by simp; omega, by have := h.pc; simp; omega, fun hf => ?_, hp, fun i j h1 h2 h3 => ?_, ?_⟩, fun i j hi hne hj => ?_⟩
 · have hf : (r.piv ++ [c]).length = c + 1 := hf
   rw [List.length_append, List.length_singleton] at hf
   show r.piv ++ [c] = _
   rw [h.full (by omega), List.range_succ]
 · have h1 : (r.piv ++ [c]).length ≤ i := h1
   rw [List.length_append, List.length_singleton] at h1
   show at2 (zCd r.T r.piv.length c r.last) i j = 0
   rw [hat i j h2 (by omega), if_neg (by omega)]
   by_cases e : j = c
   · subst e
     rw [Int.sub_self, Int.zero_ediv]
   · rw [h.zero i j (by omega) h2 (by omega), h.zero r.piv.length j (Nat.le_refl _) hk (by omega), Int.zero_mul, Int.mul_zero, Int.sub_self, Int.zero_ediv]
 · refine ⟨put D r.piv.length (fun a => at2 M a c), s, hs, zIa h.last hs hD (hS c hc) hk, fun j hj e he => ?_, fun a ha e => ?_, fun a e ha he => ?_⟩
   · have h1 := (zIQ h.last hs hD (hS c hc) (hS j hj) hk hp).2 e he
     rw [← h1]
     refine zBE (fun i hi => ?_)
     show at2 (zCd r.T r.piv.length c r.last) i j * _ = _
     rw [hat i j hi hj]
   · have ha : a < (r.piv ++ [c]).length := ha
     rw [List.length_append, List.length_singleton] at ha
     show put D r.piv.length (fun a => at2 M a c) a e = at2 M e ((r.piv ++ [c]).getD a 0)
     by_cases e1 : a = r.piv.length
     · subst e1
       simp [put, List.getD]
     · have h2 : a < r.piv.length := by omega
       have h3 := hpv a h2 e
       simp only [put, e1, if_false]
       rw [h3]
       simp [List.getD, List.getElem?_append_left h2]
   · unfold put
     split
     · exact hB e c he hc
     · exact hBD a e ha he
 · rw [hat i j hi hj, if_neg hne, Int.ediv_mul_cancel (hex i j hi hne hj)]
/-- A column without a pivot. -/
theorem RInv.none {n L B c : Nat} {M : Tab} {r : Red} (h : RInv n L B M c r) (hz : ∀ i, r.piv.length ≤ i → i < n → at2 r.T i c = 0) : RInv n L B M (c + 1) r where
 len := h.len
 row := h.row
 pl := h.pl
 pc := by have := h.pc; omega
 full := fun e => absurd e (by have := h.pc; omega)
 last := h.last
 zero := fun i j h1 h2 h3 => by
   by_cases e : j = c
   · subst e; exact hz i h1 h2
   · exact h.zero i j h1 h2 (by omega)
 base := h.base
theorem RInv.col {n L B c : Nat} {M : Tab} {r : Red} (h : RInv n L B M c r) (hc : c < L) (hB : ∀ a j, a < n → j < L → (at2 M a j).natAbs ≤ B) : RInv n L B M (c + 1) (zGf r c) := by
 unfold zGf
 by_cases h1 : r.T.length ≤ r.piv.length
 · rw [if_pos h1]
   exact h.none (fun i h2 h3 => absurd h3 (by have := h.len; omega))
 rw [if_neg h1]
 have hl := h.len
 have hk : r.piv.length < n := by omega
 obtain ⟨p1, p2, p3, p4⟩ := zGd r.T c (r.T.length - r.piv.length) r.piv.length
 rw [show r.piv.length + (r.T.length - r.piv.length) = r.T.length by omega] at p2 p4
 by_cases h2 : zEQ r.T c (r.T.length - r.piv.length) r.piv.length = r.T.length
 · rw [if_pos h2]
   exact h.none (fun i h3 h4 => p3 i h3 (by omega))
 rw [if_neg h2]
 have hi : zEQ r.T c (r.T.length - r.piv.length) r.piv.length < n := by omega
 have hs := h.swap hk p1 hi
 refine (hs.elim hk hc ?_ hB _).1
 show at2 (zA3 r.T _ r.piv.length) r.piv.length c ≠ 0
 rw [zDf _ (by omega) (by omega)]
 have : ∀ i k, swp i k k = i := fun i k => by unfold swp; rw [if_pos rfl]
 rw [this]
 exact p4 (by omega)
theorem RInv.all {n L B w : Nat} {M : Tab} (h1 : M.length = n) (h2 : ∀ x ∈ M, x.length = L) (h3 : 1 ≤ B) (hw : w ≤ L) (hB : ∀ a j, a < n → j < L → (at2 M a j).natAbs ≤ B) : RInv n L B M w (redN M w) := by
 induction w with
 | zero => exact RInv.init h1 h2 h3
 | succ c ih => exact (ih (by omega)).col (by omega) hB
/-- Rows that are proportional have their pivots in the same places. -/
structure Prop2 (n w : Nat) (r r' : Red) : Prop where
 piv : r'.piv = r.piv
 rows : ∀ i, i < n → ∃ α β : Int, α ≠ 0 ∧ β ≠ 0 ∧ ∀ j, j < w → α * at2 r'.T i j = β * at2 r.T i j
theorem zIU {n : Nat} {T T' : Tab} {c : Nat} (h : ∀ i, i < n → (at2 T' i c = 0 ↔ at2 T i c = 0)) : ∀ f i, i + f ≤ n → zEQ T' c f i = zEQ T c f i
 | 0, i, _ => rfl
 | f + 1, i, hi => by
   rw [zEQ, zEQ]
   by_cases e : at2 T i c = 0
   · rw [if_pos e, if_pos ((h i (by omega)).2 e)]
     exact zIU h f (i + 1) (by omega)
   · rw [if_neg e, if_neg (fun q => e ((h i (by omega)).1 q))]
theorem Prop2.zero {n w : Nat} {r r' : Red} (h : Prop2 n w r r') {i j : Nat} (hi : i < n) (hj : j < w) : at2 r'.T i j = 0 ↔ at2 r.T i j = 0 := by
 obtain ⟨α, β, ha, hb, he⟩ := h.rows i hi
 have := he j hj
 constructor
 · intro e; rw [e, Int.mul_zero] at this
   rcases Int.mul_eq_zero.1 this.symm with q | q
   · exact absurd q hb
   · exact q
 · intro e; rw [e, Int.mul_zero] at this
   rcases Int.mul_eq_zero.1 this with q | q
   · exact absurd q ha
   · exact q
theorem Prop2.col {n w L L' B B' c : Nat} {M M' : Tab} {r r' : Red} (h : Prop2 n w r r') (hr : RInv n L B M c r) (hr' : RInv n L' B' M' c r') (hc : c < w) (hw : w ≤ L) (hw' : w ≤ L')
   (hB : ∀ a j, a < n → j < L → (at2 M a j).natAbs ≤ B) (hB' : ∀ a j, a < n → j < L' → (at2 M' a j).natAbs ≤ B') : Prop2 n w (zGf r c) (zGf r' c) := by
 have hl := hr.len
 have hl' := hr'.len
 have hpp := h.piv
 unfold zGf
 rw [hpp, hl, hl']
 by_cases h1 : n ≤ r.piv.length
 · rw [if_pos h1, if_pos h1]; exact h
 rw [if_neg h1, if_neg h1]
 have hk : r.piv.length < n := by omega
 have hsame := zIU (fun i hi => h.zero (j := c) hi hc) (n - r.piv.length) r.piv.length (by omega)
 rw [hsame]
 obtain ⟨p1, p2, p3, p4⟩ := zGd r.T c (n - r.piv.length) r.piv.length
 rw [show r.piv.length + (n - r.piv.length) = n by omega] at p2 p4
 generalize zEQ r.T c (n - r.piv.length) r.piv.length = i at *
 by_cases h2 : i = n
 · rw [if_pos h2, if_pos h2]; exact h
 rw [if_neg h2, if_neg h2]
 have hi : i < n := by omega
 have hsw : ∀ i k, swp i k k = i := fun i k => by unfold swp; rw [if_pos rfl]
 have hs := hr.swap hk p1 hi
 have hs' := hr'.swap (by rw [hpp]; exact hk) (by rw [hpp]; exact p1) hi
 have n1 : at2 (zA3 r.T i r.piv.length) r.piv.length c ≠ 0 := by
   rw [zDf _ (by omega) (by omega), hsw]; exact p4 hi
 have n2 : at2 (zA3 r'.T i r'.piv.length) r'.piv.length c ≠ 0 := by
   rw [zDf _ (by omega) (by rw [hpp]; omega), hsw]
   exact fun q => p4 hi ((h.zero hi hc).1 q)
 have e1 := (hs.elim hk (by omega) n1 hB true).2
 have e2 := (hs'.elim (by rw [hpp]; exact hk) (by omega) n2 hB' true).2
 simp only [hpp] at e2 n2
 have hsr : ∀ a, a < n → ∃ α β : Int, α ≠ 0 ∧ β ≠ 0 ∧ ∀ j, j < w → α * at2 (zA3 r'.T i r.piv.length) a j = β * at2 (zA3 r.T i r.piv.length) a j := by
   intro a ha
   have hb : swp i r.piv.length a < n := by unfold swp; split; exact hi; split; exact hk; exact ha
   obtain ⟨α, β, q1, q2, q3⟩ := h.rows _ hb
   refine ⟨α, β, q1, q2, fun j hj => ?_⟩
   rw [zDf _ (by omega) (by omega), zDf _ (by omega) (by omega)]
   exact q3 j hj
 refine ⟨rfl, fun a ha => ?_⟩
 obtain ⟨α, β, q1, q2, q3⟩ := hsr a ha
 by_cases hak : a = r.piv.length
 · refine ⟨α, β, q1, q2, fun j hj => ?_⟩
   show α * at2 (zCd (zA3 r'.T i r.piv.length) r.piv.length c r'.last) a j = β * at2 (zCd (zA3 r.T i r.piv.length) r.piv.length c r.last) a j
   rw [zHW _ _ _ _ hs.row (by rw [zEC]; omega) (by omega), zHW (zA3 r'.T i r.piv.length) _ _ _ (by have := hs'.row; simp only [hpp] at this; exact this) (by rw [zEC]; omega) (by omega : j < L'), if_pos hak, if_pos hak]
   rw [hak] at q3
   exact q3 j hj
 · obtain ⟨γ, δ, k1, k2, k3⟩ := hsr r.piv.length hk
   refine ⟨α * γ * r'.last, β * δ * r.last, Int.mul_ne_zero (Int.mul_ne_zero q1 k1) hr'.last, Int.mul_ne_zero (Int.mul_ne_zero q2 k2) hr.last, fun j hj => ?_⟩
   have z1 := e1 a j ha hak (by omega)
   have z2 := e2 a j ha hak (by omega)
   have aj := q3 j hj
   have ac := q3 c hc
   have kj := k3 j hj
   have kc := k3 c hc
   show α * γ * r'.last * at2 (zCd (zA3 r'.T i r.piv.length) r.piv.length c r'.last) a j = β * δ * r.last * at2 (zCd (zA3 r.T i r.piv.length) r.piv.length c r.last) a j
   generalize at2 (zCd (zA3 r'.T i r.piv.length) r.piv.length c r'.last) a j = X' at *
   generalize at2 (zCd (zA3 r.T i r.piv.length) r.piv.length c r.last) a j = X at *
   generalize at2 (zA3 r'.T i r.piv.length) a j = A' at *
   generalize at2 (zA3 r.T i r.piv.length) a j = A at *
   generalize at2 (zA3 r'.T i r.piv.length) a c = C' at *
   generalize at2 (zA3 r.T i r.piv.length) a c = C at *
   generalize at2 (zA3 r'.T i r.piv.length) r.piv.length j = K' at *
   generalize at2 (zA3 r.T i r.piv.length) r.piv.length j = K at *
   generalize at2 (zA3 r'.T i r.piv.length) r.piv.length c = P' at *
   generalize at2 (zA3 r.T i r.piv.length) r.piv.length c = P at *
   generalize r'.last = l' at *
   generalize r.last = l at *
   have w1 : α * γ * l' * X' = (α * A') * (γ * P') - (α * C') * (γ * K') := by
     rw [show α * γ * l' * X' = α * γ * (X' * l') by grind, z2]; grind
   have w2 : β * δ * l * X = (β * A) * (δ * P) - (β * C) * (δ * K) := by
     rw [show β * δ * l * X = β * δ * (X * l) by grind, z1]; grind
   rw [w1, w2, aj, ac, kj, kc]
theorem Prop2.all {n w L L' B B' : Nat} {M M' : Tab} (h1 : M.length = n) (h2 : ∀ x ∈ M, x.length = L) (h1' : M'.length = n) (h2' : ∀ x ∈ M', x.length = L') (h3 : 1 ≤ B) (h3' : 1 ≤ B') (hw : w ≤ L) (hw' : w ≤ L')
   (hB : ∀ a j, a < n → j < L → (at2 M a j).natAbs ≤ B) (hB' : ∀ a j, a < n → j < L' → (at2 M' a j).natAbs ≤ B') (hs : ∀ i, i < n → ∃ α β : Int, α ≠ 0 ∧ β ≠ 0 ∧ ∀ j, j < w → α * at2 M' i j = β * at2 M i j) :
   ∀ c, c ≤ w → Prop2 n w (redN M c) (redN M' c)
 | 0, _ => ⟨rfl, hs⟩
 | c + 1, hc => (Prop2.all h1 h2 h1' h2' h3 h3' hw hw' hB hB' hs c (by omega)).col (RInv.all h1 h2 h3 (by omega) hB) (RInv.all h1' h2' h3' (by omega) hB') (by omega) hw hw' hB hB'
end Go.Ax.Dt
namespace Go.Ax.Rt
open Go.Ax.Bg Go.Ax.Dt
theorem zBW {α : Type} {l : List α} {j : Nat} (d : α) (h : j < l.length) : l.getD j d = l[j] := by simp [List.getD, h]
theorem zBp {α : Type} {l : List α} {j : Nat} (d : α) (h : j < l.length) : l.getD j d ∈ l := by rw [zBW d h]; exact List.getElem_mem h
theorem zG5 {α : Type} {l r : List α} {j : Nat} (d : α) (h : j < l.length) : (l ++ r).getD j d = l.getD j d := by simp [List.getD, List.getElem?_append_left h]
theorem get_end {α : Type} {l : List α} {x d : α} : (l ++ [x]).getD l.length d = x := by simp [List.getD]
/-- The factor that makes a row whole. -/
def facF : Nat → List Rat → Nat
 | f, [] => f
 | f, q :: r => facF (f * (q.den / Nat.gcd f q.den)) r
def wholeL (l : List Rat) : List Int := l.map (fun q => q.num * ((facF 1 l / q.den : Nat) : Int))
/-- SolveOf: rows with the right side at their end. -/
def solT (rows : List (List Rat)) (w : Nat) : Red := redN (rows.map wholeL) w
def zK9 (rows : List (List Rat)) (w : Nat) : List Rat × Int :=
 if ((solT rows w).T.drop (solT rows w).piv.length).any (fun r => decide (r.getD w 0 ≠ 0)) then ([], 8)
 else if (solT rows w).piv.length < w then ([], 18)
 else ((List.range w).map (fun k => Rat.divInt (at2 (solT rows w).T k w) (at2 (solT rows w).T k k)), 0)
def augQ (m : List (List Rat)) (b : List Rat) : List (List Rat) := (List.range m.length).map (fun i => m.getD i [] ++ [b.getD i 0])
/-- matrix.Solve -/
def solveR (m : List (List zAZ)) (b : List zAZ) : List zAZ × Int :=
 if zF9 m ≠ 0 then ([], zF9 m) else if zG3 b ≠ 0 then ([], zG3 b) else if b.length ≠ m.length then ([], 3)
 else if (zK9 (augQ (inM m) (b.map zAi)) (zDC m)).2 ≠ 0 then ([], (zK9 (augQ (inM m) (b.map zAi)) (zDC m)).2) else zAq (zK9 (augQ (inM m) (b.map zAi)) (zDC m)).1
def zLg : Nat → List (List Rat) → Nat
 | f, [] => f
 | f, r :: rs => zLg (f * facF 1 r) rs
def detQ (rows : List (List Rat)) : Rat := Rat.divInt (if (solT rows rows.length).neg then -(solT rows rows.length).last else (solT rows rows.length).last) (zLg 1 rows : Nat)
/-- matrix.Det -/
def detR (m : List (List zAZ)) : zAZ × Int :=
 if zF9 m ≠ 0 then ([], zF9 m) else if m.length ≠ zDC m then ([], 3)
 else if (solT (inM m) m.length).piv.length < m.length then ([48], 0) else zFr (detQ (inM m))
theorem zK2 {a x y : Rat} (ha : a ≠ 0) (h : a * x = a * y) : x = y := by
 have h1 : a⁻¹ * (a * x) = a⁻¹ * (a * y) := by rw [h]
 rwa [← Rat.mul_assoc, ← Rat.mul_assoc, Rat.inv_mul_cancel a ha, Rat.one_mul, Rat.one_mul] at h1
theorem intc_ne {x : Int} (h : x ≠ 0) : (x : Rat) ≠ 0 := fun e => h (by
 have := congrArg Rat.num e
 simpa using this)
end Go.Ax.Rt
namespace Go.Ax.Rt
open Go.Ax.Bg Go.Ax.Dt
theorem zK3 {l : List Rat} (h : ∀ q ∈ l, zBd q = true) : zAq l = (l.map zAM, 0) := by
 unfold zAq
 rw [if_pos (List.all_eq_true.2 h)]
theorem zJZ {l : List Rat} (h : (zAq l).2 = 0) : ∀ q ∈ l, zBd q = true := by
 unfold zAq at h
 split at h
 · rename_i h1; exact List.all_eq_true.1 h1
 · cases h
theorem dig_D {k : Nat} {q : Rat} (h1 : (Lib.decDigits q.num.natAbs).length ≤ k) (h2 : (Lib.decDigits q.den).length ≤ k) : D k q :=
 ⟨Nat.lt_of_lt_of_le (zDK _) (Nat.pow_le_pow_right (by decide) h1), Nat.lt_of_lt_of_le (zDK _) (Nat.pow_le_pow_right (by decide) h2)⟩
end Go.Ax.Rt
namespace Go.Ax.Rt
open Go.Ax.Bg
structure TNode where
 kind : Int
 player : Int
 info : Int
 next : List Int
 odds : List zAZ
 pay : zAZ
 deriving DecidableEq
def node0 : TNode := ⟨0, 0, 0, [], [], []⟩
abbrev zAD := List TNode
def zDg (N i : Nat) (k : Int) : Bool := decide (k ≤ (i : Int)) || decide ((N : Int) ≤ k)
/-- the error of the children of a node -/
def zE7 (N i : Nat) (l : List Int) : Int := if l.length = 0 then 3 else if 6 < l.length then 2 else if l.any (zDg N i) = true then 3 else 0
def zEo (N i : Nat) (n : TNode) : Int :=
 if n.kind = 0 then (if n.player ≠ 0 ∨ n.info ≠ 0 ∨ n.next ≠ [] ∨ n.odds ≠ [] then 3 else zCW n.pay)
 else if n.kind = 1 then (if n.player ≠ 0 ∨ n.info ≠ 0 ∨ n.pay ≠ [] then 3 else if zE7 N i n.next ≠ 0 then zE7 N i n.next else if n.odds.length ≠ n.next.length then 3 else zDv n.odds)
 else if n.kind = 2 then (if n.odds ≠ [] ∨ n.pay ≠ [] then 3 else if (n.player ≠ 0 ∧ n.player ≠ 1) ∨ n.info < 0 ∨ 10 ≤ n.info then 4 else zE7 N i n.next)
 else 1
def zDU (N : Nat) : Nat → zAD → Int
 | _, [] => 0
 | i, n :: r => if zEo N i n = 0 then zDU N (i + 1) r else zEo N i n
/-- how often a node is named -/
def named (t : zAD) (k : Nat) : Nat := ((t.flatMap TNode.next).filter (fun x => decide (x = (k : Int)))).length
def zFk (a b : TNode) : Bool := decide (a.kind = 2) && (decide (b.kind = 2) && (decide (a.player = b.player) && (decide (a.info = b.info) && decide (a.next.length ≠ b.next.length))))
def zIl (t : zAD) : Int :=
 if 120 < t.length then 2 else if t.length = 0 then 8 else if zDU t.length 0 t ≠ 0 then zDU t.length 0 t
 else if (List.range t.length).any (fun k => decide (k ≠ 0) && decide (named t k ≠ 1)) = true then 3
 else if t.any (fun a => t.any (zFk a)) = true then 3 else 0
def zCC (t : zAD) (p : Int) : Int := if zIl t ≠ 0 then zIl t else if p ≠ 0 ∧ p ≠ 1 then 4 else 0
/-- Is it the player's move, in an information set? -/
def own (p : Int) (n : TNode) : Bool := decide (n.kind = 2) && decide (n.player = p)
def zBO (p i : Int) (n : TNode) : Bool := own p n && decide (n.info = i)
/-- the first node of an information set -/
def zHG (t : zAD) (p i : Int) : Nat := t.findIdx (zBO p i)
def zAe (t : zAD) (p : Int) : List Int := ((List.range 10).map (fun i : Nat => (i : Int))).filter (fun i => t.any (zBO p i))
def zAA (t : zAD) (p i : Int) : Nat := (t.getD (zHG t p i) node0).next.length
def zDG (t : zAD) (p : Int) : List Int := (zAe t p).map (fun i => ((zAA t p i : Nat) : Int))
/-- What a valid game is. -/
structure Valid (t : zAD) : Prop where
 le : t.length ≤ 120
 ne : t.length ≠ 0
 nodes : ∀ i, i < t.length → zEo t.length i (t.getD i node0) = 0
 once : ∀ k, k < t.length → k ≠ 0 → named t k = 1
 same : ∀ a ∈ t, ∀ b ∈ t, zFk a b = false
theorem zIW (N : Nat) : ∀ (t : zAD) (i : Nat), zDU N i t = 0 → ∀ j, j < t.length → zEo N (i + j) (t.getD j node0) = 0
 | [], i, _, j, hj => absurd hj (Nat.not_lt_zero _)
 | n :: r, i, h, j, hj => by
   rw [zDU] at h
   split at h
   · rename_i h0
     cases j with
     | zero => exact h0
     | succ j =>
       have := zIW N r (i + 1) h j (by simpa using hj)
       rw [show i + (j + 1) = i + 1 + j by omega]
       exact this
   · rename_i h0; exact absurd h h0
theorem valid_of {t : zAD} (h : zIl t = 0) : Valid t := by
 unfold zIl at h
 split at h
 · cases h
 split at h
 · cases h
 split at h
 · rename_i h3; exact absurd h h3
 split at h
 · cases h
 split at h
 · cases h
 rename_i h1 h2 h3 h4 h5
 refine ⟨by omega, h2, fun i hi => ?_, fun k hk h0 => ?_, fun a ha b hb => ?_⟩
 · have := zIW t.length t 0 (Classical.not_not.1 h3) i hi
   rwa [Nat.zero_add] at this
 · rw [Bool.not_eq_true, List.any_eq_false] at h4
   have := h4 k (by simpa using hk)
   simp only [Bool.and_eq_true, decide_eq_true_eq, not_and] at this
   exact Classical.not_not.1 (this h0)
 · rw [Bool.not_eq_true, List.any_eq_false] at h5
   have := h5 a ha
   rw [List.any_eq_true] at this
   cases hc : zFk a b
   · rfl
   · exact absurd ⟨b, hb, hc⟩ this
/-- The children stand behind their parent. -/
theorem zC3 {N i : Nat} {l : List Int} (h : zE7 N i l = 0) : 1 ≤ l.length ∧ l.length ≤ 6 ∧ ∀ k ∈ l, (i : Int) < k ∧ k < N := by
 unfold zE7 at h
 split at h
 · cases h
 split at h
 · cases h
 split at h
 · cases h
 rename_i h1 h2 h3
 refine ⟨by omega, by omega, fun k hk => ?_⟩
 rw [Bool.not_eq_true, List.any_eq_false] at h3
 have := h3 k hk
 unfold zDg at this
 simp only [Bool.or_eq_true, decide_eq_true_eq, not_or] at this
 omega
theorem Valid.child {t : zAD} (h : Valid t) {i : Nat} (hi : i < t.length) : ((t.getD i node0).kind = 0 ∧ (t.getD i node0).next = []) ∨ (((t.getD i node0).kind = 1 ∨ (t.getD i node0).kind = 2) ∧ zE7 t.length i (t.getD i node0).next = 0) := by
 have hn := h.nodes i hi
 unfold zEo at hn
 split at hn
 · rename_i h0
   split at hn
   · cases hn
   · rename_i h1
     simp only [not_or] at h1
     exact .inl ⟨h0, Classical.not_not.1 h1.2.2.1⟩
 · split at hn
   · rename_i h1
     split at hn
     · cases hn
     split at hn
     · rename_i h2; exact absurd hn h2
     rename_i h2 h3
     exact .inr ⟨.inl h1, Classical.not_not.1 h3⟩
   · split at hn
     · rename_i h2
       split at hn
       · cases hn
       split at hn
       · cases hn
       exact .inr ⟨.inr h2, hn⟩
     · cases hn
theorem Valid.behind {t : zAD} (h : Valid t) {i : Nat} (hi : i < t.length) : ∀ k ∈ (t.getD i node0).next, (i : Int) < k ∧ k < t.length := by
 rcases h.child hi with ⟨_, h2⟩ | ⟨_, h2⟩
 · rw [h2]; intro k hk; simp at hk
 · exact (zC3 h2).2.2
theorem Valid.few {t : zAD} (h : Valid t) {i : Nat} (hi : i < t.length) : (t.getD i node0).next.length ≤ 6 := by
 rcases h.child hi with ⟨_, h2⟩ | ⟨_, h2⟩
 · rw [h2]; exact Nat.zero_le _
 · exact (zC3 h2).2.1
theorem Valid.mine {t : zAD} (h : Valid t) {i : Nat} (hi : i < t.length) {p : Int} (ho : own p (t.getD i node0) = true) : 0 ≤ (t.getD i node0).info ∧ (t.getD i node0).info < 10 ∧ 1 ≤ (t.getD i node0).next.length := by
 unfold own at ho
 rw [Bool.and_eq_true, decide_eq_true_eq, decide_eq_true_eq] at ho
 have hn := h.nodes i hi
 unfold zEo at hn
 rw [if_neg (by rw [ho.1]; decide), if_neg (by rw [ho.1]; decide), if_pos ho.1] at hn
 split at hn
 · cases hn
 split at hn
 · cases hn
 rename_i h1 h2
 simp only [not_or] at h2
 have := zC3 hn
 exact ⟨by omega, by omega, this.1⟩
/-- Nodes of one set have equally many choices. -/
theorem Valid.width {t : zAD} (h : Valid t) {i j : Nat} (hi : i < t.length) (hj : j < t.length) {p : Int} (hio : own p (t.getD i node0) = true) (hjo : own p (t.getD j node0) = true) (he : (t.getD i node0).info = (t.getD j node0).info) : (t.getD i node0).next.length = (t.getD j node0).next.length := by
 have hc := h.same _ (zBp node0 hi) _ (zBp node0 hj)
 unfold own at hio hjo
 rw [Bool.and_eq_true, decide_eq_true_eq, decide_eq_true_eq] at hio hjo
 unfold zFk at hc
 rw [decide_eq_true hio.1, decide_eq_true hjo.1, decide_eq_true (by rw [hio.2, hjo.2]), decide_eq_true he, Bool.true_and, Bool.true_and, Bool.true_and, Bool.true_and, decide_eq_false_iff_not] at hc
 exact Classical.not_not.1 hc
end Go.Ax.Rt
namespace Go.Ax.Rt
open Go.Ax.Bg
/-- how often 0, 1, .. N-1 occur -/
def zCy (N : Nat) (l : List Int) : List Int := (List.range N).map (fun k : Nat => (((l.filter (fun x => decide (x = (k : Int)))).length : Nat) : Int))
theorem zDW (N : Nat) (l : List Int) : (zCy N l).length = N := by simp [zCy]
theorem zHa {N : Nat} {l : List Int} {k : Nat} (hk : k < N) : (zCy N l).getD k 0 = (((l.filter (fun x => decide (x = (k : Int)))).length : Nat) : Int) := by simp [zCy, List.getD, hk]
theorem cntT_nil (N : Nat) : zCy N [] = List.replicate N 0 := by
 apply List.ext_getElem (by simp [zCy])
 intro i h1 h2
 simp [zCy]
theorem zMn {N : Nat} (l : List Int) {x : Int} (h0 : 0 ≤ x) (h1 : x < N) : zCy N (l ++ [x]) = (zCy N l).set x.toNat ((zCy N l).getD x.toNat 0 + 1) := by
 rw [zHa (by omega)]
 apply List.ext_getElem (by simp [zCy])
 intro i i1 i2
 rw [List.getElem_set]
 have hi : i < N := by simpa [zCy] using i1
 simp only [zCy, List.getElem_map, List.getElem_range, List.filter_append, List.length_append]
 by_cases h : x.toNat = i
 · rw [if_pos h, h]
   have : x = (i : Int) := by omega
   simp [this]
 · rw [if_neg h]
   have : ¬ x = (i : Int) := by omega
   simp [this]
theorem cntT_le (N : Nat) (l : List Int) (k : Nat) : 0 ≤ (zCy N l).getD k 0 ∧ (zCy N l).getD k 0 ≤ l.length := by
 by_cases hk : k < N
 · rw [zHa hk]
   have := List.length_filter_le (fun x => decide (x = (k : Int))) l
   omega
 · have : (zCy N l).getD k 0 = 0 := by simp [zCy, List.getD, hk]
   rw [this]; omega
theorem zHj (t : zAD) {k : Nat} (hk : k < t.length) : (zCy t.length (t.flatMap TNode.next)).getD k 0 = ((named t k : Nat) : Int) := zHa hk
/-- All but the first are named once. -/
theorem zMI {t : zAD} (h0 : t.length ≠ 0) : ((zCy t.length (t.flatMap TNode.next)).drop 1).any (fun n => decide (n ≠ 1)) = (List.range t.length).any (fun k => decide (k ≠ 0) && decide (named t k ≠ 1)) := by
 rw [Bool.eq_iff_iff, List.any_eq_true, List.any_eq_true]
 constructor
 · rintro ⟨x, hx, h⟩
   obtain ⟨i, hi, rfl⟩ := List.mem_iff_getElem.1 hx
   rw [List.length_drop, zDW] at hi
   refine ⟨1 + i, by simp; omega, ?_⟩
   rw [List.getElem_drop] at h
   have e := zHj t (k := 1 + i) (by omega)
   rw [zBW 0 (by rw [zDW]; omega)] at e
   rw [e] at h
   simp only [Bool.and_eq_true, decide_eq_true_eq] at h ⊢
   exact ⟨by omega, by omega⟩
 · rintro ⟨k, hk, h⟩
   have hk : k < t.length := by simpa using hk
   simp only [Bool.and_eq_true, decide_eq_true_eq] at h
   have e := zHj t hk
   refine ⟨_, List.mem_iff_getElem.2 ⟨k - 1, by rw [List.length_drop, zDW]; omega, rfl⟩, ?_⟩
   rw [List.getElem_drop]
   rw [zBW 0 (by rw [zDW]; omega)] at e
   have e2 : (zCy t.length (t.flatMap TNode.next))[1 + (k - 1)]'(by rw [zDW]; omega) = ((named t k : Nat) : Int) := by
     rw [← e]; congr 1; omega
   rw [e2, decide_eq_true_eq]
   omega
/-- the sizes of the information sets, as the loop finds them -/
abbrev KSz := List (Int × Int × Nat)
def kstep (S : KSz) (n : TNode) : KSz := if n.kind = 2 ∧ ∀ e ∈ S, ¬ (e.1 = n.player ∧ e.2.1 = n.info) then S ++ [(n.player, n.info, n.next.length)] else S
def ktab (t : zAD) : KSz := t.foldl kstep []
def zG4 (t : zAD) : Prop := ∀ a ∈ t, ∀ b ∈ t, zFk a b = false
structure KInv (t : zAD) (S : KSz) : Prop where
 free : zG4 t
 from_ : ∀ e ∈ S, ∃ b ∈ t, b.kind = 2 ∧ b.player = e.1 ∧ b.info = e.2.1 ∧ b.next.length = e.2.2
 all : ∀ a ∈ t, a.kind = 2 → ∃ e ∈ S, e.1 = a.player ∧ e.2.1 = a.info
theorem zKR {a b : TNode} : zFk a b = true ↔ a.kind = 2 ∧ b.kind = 2 ∧ a.player = b.player ∧ a.info = b.info ∧ a.next.length ≠ b.next.length := by
 unfold zFk
 simp only [Bool.and_eq_true, decide_eq_true_eq]
theorem zHK {a b : TNode} : zFk a b = false ↔ (a.kind = 2 → b.kind = 2 → a.player = b.player → a.info = b.info → a.next.length = b.next.length) := by
 rw [← Bool.not_eq_true, zKR]
 constructor
 · intro h h1 h2 h3 h4
   exact Classical.not_not.1 (fun h5 => h ⟨h1, h2, h3, h4, h5⟩)
 · rintro h ⟨h1, h2, h3, h4, h5⟩
   exact h5 (h h1 h2 h3 h4)
theorem KInv.nil : KInv [] [] := ⟨fun a ha => by simp at ha, fun e he => by simp at he, fun a ha => by simp at ha⟩
theorem zER {t : zAD} {n : TNode} (h : zG4 t) (hn : ∀ a ∈ t, n.kind = 2 → a.kind = 2 → a.player = n.player → a.info = n.info → a.next.length = n.next.length) : zG4 (t ++ [n]) := by
 intro a ha0 b hb0
 rw [zHK]
 intro k1 k2 k3 k4
 rcases List.mem_append.1 ha0 with ha | ha <;> rcases List.mem_append.1 hb0 with hb | hb
 · exact zHK.1 (h a ha b hb) k1 k2 k3 k4
 · have e := List.mem_singleton.1 hb
   rw [e] at k2 k3 k4 ⊢
   exact hn a ha k2 k1 k3 k4
 · have e := List.mem_singleton.1 ha
   rw [e] at k1 k3 k4 ⊢
   exact (hn b hb k1 k2 k3.symm k4.symm).symm
 · rw [List.mem_singleton.1 ha, List.mem_singleton.1 hb]
theorem KInv.skip {t : zAD} {S : KSz} {n : TNode} (h : KInv t S) (hk : n.kind ≠ 2) : KInv (t ++ [n]) S :=
 ⟨zER h.free (fun a _ h1 => absurd h1 hk), fun e he => by
   obtain ⟨b, hb, q⟩ := h.from_ e he
   exact ⟨b, List.mem_append_left _ hb, q⟩, fun a ha h1 => by
   rcases List.mem_append.1 ha with ha | ha
   · exact h.all a ha h1
   · rw [List.mem_singleton.1 ha] at h1; exact absurd h1 hk⟩
theorem KInv.hit {t : zAD} {S : KSz} {n : TNode} {e : Int × Int × Nat} (h : KInv t S) (he : e ∈ S) (h1 : e.1 = n.player) (h2 : e.2.1 = n.info) (h3 : e.2.2 = n.next.length) : KInv (t ++ [n]) S :=
 ⟨zER h.free (fun a ha q1 q2 q3 q4 => by
   obtain ⟨b, hb, p1, p2, p3, p4⟩ := h.from_ e he
   have := zHK.1 (h.free a ha b hb) q2 p1 (by rw [q3, p2, h1]) (by rw [q4, p3, h2])
   rw [this, p4, h3]), fun e he => by
   obtain ⟨b, hb, q⟩ := h.from_ e he
   exact ⟨b, List.mem_append_left _ hb, q⟩, fun a ha q1 => by
   rcases List.mem_append.1 ha with ha | ha
   · exact h.all a ha q1
   · rw [List.mem_singleton.1 ha]; exact ⟨e, he, h1, h2⟩⟩
theorem KInv.miss {t : zAD} {S : KSz} {n : TNode} (h : KInv t S) (hk : n.kind = 2) (hm : ∀ e ∈ S, ¬ (e.1 = n.player ∧ e.2.1 = n.info)) : KInv (t ++ [n]) (S ++ [(n.player, n.info, n.next.length)]) :=
 ⟨zER h.free (fun a ha q1 q2 q3 q4 => by
   obtain ⟨e, he, p1, p2⟩ := h.all a ha q2
   exact absurd ⟨by rw [p1, q3], by rw [p2, q4]⟩ (hm e he)), fun e he => by
   rcases List.mem_append.1 he with he | he
   · obtain ⟨b, hb, q⟩ := h.from_ e he
     exact ⟨b, List.mem_append_left _ hb, q⟩
   · rw [List.mem_singleton.1 he]
     exact ⟨n, by simp, hk, rfl, rfl, rfl⟩, fun a ha q1 => by
   rcases List.mem_append.1 ha with ha | ha
   · obtain ⟨e, he, q⟩ := h.all a ha q1
     exact ⟨e, List.mem_append_left _ he, q⟩
   · rw [List.mem_singleton.1 ha]; exact ⟨_, List.mem_append_right _ (List.mem_singleton.2 rfl), rfl, rfl⟩⟩
theorem KInv.bad {t T : zAD} {S : KSz} {n : TNode} {e : Int × Int × Nat} (h : KInv t S) (hT : ∀ a ∈ t, a ∈ T) (hn : n ∈ T) (hk : n.kind = 2) (he : e ∈ S) (h1 : e.1 = n.player) (h2 : e.2.1 = n.info) (h3 : e.2.2 ≠ n.next.length) : T.any (fun a => T.any (zFk a)) = true := by
 obtain ⟨b, hb, p1, p2, p3, p4⟩ := h.from_ e he
 rw [List.any_eq_true]
 refine ⟨b, hT b hb, ?_⟩
 rw [List.any_eq_true]
 exact ⟨n, hn, zKR.2 ⟨p1, hk, by rw [p2, h1], by rw [p3, h2], by rw [p4]; exact h3⟩⟩
theorem zJp {t : zAD} (h : zG4 t) : t.any (fun a => t.any (zFk a)) = false := by
 rw [List.any_eq_false]
 intro a ha h1
 obtain ⟨b, hb, h2⟩ := List.any_eq_true.1 h1
 rw [h a ha b hb] at h2
 cases h2
theorem zJm {N i : Nat} {t : zAD} (hi : i < t.length) : zDU N i (t.drop i) = if zEo N i (t.getD i node0) = 0 then zDU N (i + 1) (t.drop (i + 1)) else zEo N i (t.getD i node0) := by
 rw [List.drop_eq_getElem_cons hi, ← zBW node0 hi, zDU]
theorem zKU {N i : Nat} {n : TNode} (h : zEo N i n = 0) : (∀ k ∈ n.next, (i : Int) < k ∧ k < N) ∧ n.next.length ≤ 6 := by
 unfold zEo at h
 split at h
 · split at h
   · cases h
   · rename_i h1
     simp only [not_or] at h1
     have := Classical.not_not.1 h1.2.2.1
     rw [this]
     exact ⟨fun k hk => by simp at hk, Nat.zero_le _⟩
 · split at h
   · split at h
     · cases h
     split at h
     · rename_i h2; exact absurd h h2
     rename_i h2 h3
     obtain ⟨q1, q2, q3⟩ := zC3 (Classical.not_not.1 h3)
     exact ⟨q3, q2⟩
   · split at h
     · split at h
       · cases h
       split at h
       · cases h
       obtain ⟨q1, q2, q3⟩ := zC3 h
       exact ⟨q3, q2⟩
     · cases h
/-- the nodes named by the first nodes -/
def zDe (t : zAD) (i : Nat) : List Int := (t.take i).flatMap TNode.next
theorem zK1 {t : zAD} {i : Nat} (hi : i < t.length) : zDe t (i + 1) = zDe t i ++ (t.getD i node0).next := by
 unfold zDe
 rw [List.take_succ_eq_append_getElem hi, List.flatMap_append, zBW node0 hi]
 simp
theorem zDZ {l : List Int} {j : Nat} (hj : j < l.length) : l.take (j + 1) = l.take j ++ [l.getD j 0] := by
 rw [List.take_succ_eq_append_getElem hj, zBW 0 hj]
theorem zKZ {l : zAD} {j : Nat} (hj : j < l.length) : l.take (j + 1) = l.take j ++ [l.getD j node0] := by
 rw [List.take_succ_eq_append_getElem hj, zBW node0 hj]
def keyA (e : Int × Int × Nat) : Int × Int := (e.1, e.2.1)
end Go.Ax.Rt
namespace Go.Ax.Rt
open Go.Ax.Bg
structure RSeq where
 info : Int
 choice : Int
 before : Int
 deriving DecidableEq
def zAn : RSeq := ⟨-1, -1, -1⟩
structure RForm where
 seqs : List RSeq
 pos : List Int
 first : List (Int × Nat)
def zBw (m : List (Int × Nat)) (k : Int) : Option Nat := (m.find? (fun x => decide (x.1 = k))).map Prod.snd
def zCt (n : TNode) (b : Int) : List RSeq := (List.range n.next.length).map (fun k : Nat => ⟨n.info, (k : Int), b⟩)
def zAd (p : Int) (n : TNode) (i : Nat) (f : RForm) : RForm :=
 if own p n = true ∧ zBw f.first n.info = none then ⟨f.seqs ++ zCt n (f.pos.getD i 0), f.pos, f.first ++ [(n.info, f.seqs.length)]⟩ else f
def zCr (v : Nat → Int) : List Int → Nat → List Int → List Int
 | [], _, a => a
 | c :: r, k, a => zCr v r (k + 1) (a.set c.toNat (v k))
def zG1 (p : Int) (n : TNode) (i : Nat) (f : RForm) (k : Nat) : Int := if own p n = true then (((zBw f.first n.info).getD 0 : Nat) : Int) + (k : Int) else f.pos.getD i 0
def zHS (p : Int) (n : TNode) (i : Nat) (f : RForm) : RForm := ⟨(zAd p n i f).seqs, zCr (zG1 p n i (zAd p n i f)) n.next 0 (zAd p n i f).pos, (zAd p n i f).first⟩
def zAz (t : zAD) (p : Int) : Nat → RForm
 | 0 => ⟨[zAn], List.replicate t.length 0, []⟩
 | i + 1 => zHS p (t.getD i node0) i (zAz t p i)
theorem zHb {m : List (Int × Nat)} {k : Int} (h : zBw m k = none) : k ∉ m.map Prod.fst := by
 unfold zBw at h
 rw [Option.map_eq_none_iff, List.find?_eq_none] at h
 intro hk
 obtain ⟨x, hx, rfl⟩ := List.mem_map.1 hk
 exact h x hx (by simp)
theorem zDp {m : List (Int × Nat)} {k : Int} {s : Nat} (h : zBw m k = some s) : (k, s) ∈ m := by
 unfold zBw at h
 obtain ⟨x, hx, rfl⟩ := Option.map_eq_some_iff.1 h
 have h1 := List.mem_of_find?_eq_some hx
 have h2 := List.find?_some hx
 have h3 : x.1 = k := by simpa using h2
 rw [← h3]; exact h1
theorem zGq (v : Nat → Int) : ∀ (l : List Int) (k : Nat) (a : List Int), (zCr v l k a).length = a.length
 | [], _, a => rfl
 | c :: r, k, a => by rw [zCr, zGq v r]; simp
theorem zGn {v : Nat → Int} {P : Int → Prop} : ∀ (l : List Int) (k : Nat) (a : List Int), (∀ x ∈ a, P x) → (∀ j, k ≤ j → j < k + l.length → P (v j)) → ∀ x ∈ zCr v l k a, P x
 | [], _, a, h, _ => h
 | c :: r, k, a, h, hv => by
   rw [zCr]
   refine zGn r (k + 1) _ (fun x hx => ?_) (fun j h1 h2 => hv j (by omega) (by simp; omega))
   rcases List.mem_or_eq_of_mem_set hx with q | q
   · exact h x q
   · rw [q]; exact hv k (Nat.le_refl _) (by simp)
theorem zE9 {t : zAD} (h : Valid t) {p x : Int} {i : Nat} (hi : i < t.length) (hs : zBO p x (t.getD i node0) = true) : zAA t p x = (t.getD i node0).next.length := by
 have hex : ∃ y ∈ t, zBO p x y = true := ⟨_, zBp node0 hi, hs⟩
 have hlt : zHG t p x < t.length := List.findIdx_lt_length_of_exists hex
 have hin : zBO p x (t.getD (zHG t p x) node0) = true := by
   rw [zBW node0 hlt]
   exact List.findIdx_getElem
 unfold zBO at hs hin
 rw [Bool.and_eq_true, decide_eq_true_eq] at hs hin
 exact h.width hlt hi hin.1 hs.1 (by rw [hin.2, hs.2])
structure RI (t : zAD) (p : Int) (i : Nat) (f : RForm) : Prop where
 s0 : f.seqs.getD 0 zAn = zAn ∧ 0 < f.seqs.length
 pl : f.pos.length = t.length
 pb : ∀ x ∈ f.pos, 0 ≤ x ∧ x < f.seqs.length
 keys : ∀ x, x ∈ f.first.map Prod.fst ↔ ∃ j, j < i ∧ zBO p x (t.getD j node0) = true
 nd : (f.first.map Prod.fst).Nodup
 sl : f.seqs.length = 1 + (f.first.map (fun x => zAA t p x.1)).sum
 fst : ∀ x ∈ f.first, 1 ≤ x.2 ∧ x.2 + zAA t p x.1 ≤ f.seqs.length ∧ ∃ b : Int, 0 ≤ b ∧ b < x.2 ∧ ∀ k, k < zAA t p x.1 → f.seqs.getD (x.2 + k) zAn = ⟨x.1, k, b⟩
 all : ∀ k, 1 ≤ k → k < f.seqs.length → ∃ x ∈ f.first, x.2 ≤ k ∧ k < x.2 + zAA t p x.1
theorem RI.init (t : zAD) (p : Int) : RI t p 0 (zAz t p 0) where
 s0 := ⟨rfl, Nat.zero_lt_one⟩
 pl := List.length_replicate
 pb := fun x hx => by
   obtain ⟨_, rfl⟩ := List.mem_replicate.1 hx
   exact ⟨by decide, by show (0 : Int) < ((1 : Nat) : Int); decide⟩
 keys := fun x => ⟨fun h => by simp [zAz] at h, fun ⟨j, hj, _⟩ => absurd hj (Nat.not_lt_zero _)⟩
 nd := List.nodup_nil
 sl := rfl
 fst := fun x hx => by simp [zAz] at hx
 all := fun k h1 h2 => by
   have : (zAz t p 0).seqs.length = 1 := rfl
   omega
/-- A new information set. -/
theorem RI.add {t : zAD} (hv : Valid t) {p : Int} {i : Nat} {f : RForm} (h : RI t p i f) (hi : i < t.length) :
   RI t p i f → (f.seqs.getD 0 zAn = zAn) → let n := t.getD i node0; let g := zAd p n i f
   g.seqs.getD 0 zAn = zAn ∧ 0 < g.seqs.length ∧ g.pos = f.pos ∧ f.seqs.length ≤ g.seqs.length ∧ (∀ x, x ∈ g.first.map Prod.fst ↔ ∃ j, j < i + 1 ∧ zBO p x (t.getD j node0) = true) ∧ (g.first.map Prod.fst).Nodup ∧
   g.seqs.length = 1 + (g.first.map (fun x => zAA t p x.1)).sum ∧
   (∀ x ∈ g.first, 1 ≤ x.2 ∧ x.2 + zAA t p x.1 ≤ g.seqs.length ∧ ∃ b : Int, 0 ≤ b ∧ b < x.2 ∧ ∀ k, k < zAA t p x.1 → g.seqs.getD (x.2 + k) zAn = ⟨x.1, k, b⟩) ∧
   (∀ k, 1 ≤ k → k < g.seqs.length → ∃ x ∈ g.first, x.2 ≤ k ∧ k < x.2 + zAA t p x.1) ∧ (own p n = true → ∃ s, zBw g.first n.info = some s) := by
 intro _ _
 obtain ⟨h0, h0l⟩ := h.s0
 intro n g
 have hkey : ∀ x, (∃ j, j < i + 1 ∧ zBO p x (t.getD j node0) = true) ↔ ((∃ j, j < i ∧ zBO p x (t.getD j node0) = true) ∨ zBO p x n = true) := by
   intro x
   constructor
   · rintro ⟨j, h1, h2⟩
     by_cases e : j = i
     · subst e; exact .inr h2
     · exact .inl ⟨j, by omega, h2⟩
   · rintro (⟨j, h1, h2⟩ | h2)
     · exact ⟨j, by omega, h2⟩
     · exact ⟨i, by omega, h2⟩
 by_cases hc : own p n = true ∧ zBw f.first n.info = none
 · have eg : g = ⟨f.seqs ++ zCt n (f.pos.getD i 0), f.pos, f.first ++ [(n.info, f.seqs.length)]⟩ := by
     show zAd p n i f = _
     unfold zAd; rw [if_pos hc]
   have hin : zBO p n.info n = true := by unfold zBO; rw [hc.1]; simp
   have hw : zAA t p n.info = n.next.length := zE9 hv hi hin
   have hnl : (zCt n (f.pos.getD i 0)).length = n.next.length := by simp [zCt]
   have hno := zHb hc.2
   have hb := h.pb (f.pos.getD i 0) (zBp 0 (by rw [h.pl]; exact hi))
   rw [eg]
   refine ⟨by rw [zG5 _ h0l]; exact h0, by rw [List.length_append]; omega, rfl, by rw [List.length_append]; omega, fun x => ?_, ?_, ?_, fun x hx => ?_, fun k h1 h2 => ?_, fun _ => ?_⟩
   · rw [hkey, List.map_append, List.mem_append, h.keys x]
     constructor
     · rintro (q | q)
       · exact .inl q
       · right
         have : x = n.info := by simpa using q
         rw [this]; exact hin
     · rintro (q | q)
       · exact .inl q
       · right
         unfold zBO at q
         rw [Bool.and_eq_true, decide_eq_true_eq] at q
         simp [q.2]
   · rw [List.map_append, List.nodup_append]
     refine ⟨h.nd, by simp, fun a ha b hb e => ?_⟩
     have : b = n.info := by simpa using hb
     rw [← this, ← e] at hno
     exact hno ha
   · rw [List.length_append, hnl, List.map_append, List.sum_append, h.sl]
     simp [hw]
     omega
   · rcases List.mem_append.1 hx with q | q
     · obtain ⟨a1, a2, b, b1, b2, b3⟩ := h.fst x q
       refine ⟨a1, by rw [List.length_append]; omega, b, b1, b2, fun k hk => ?_⟩
       rw [zG5 _ (by omega)]
       exact b3 k hk
     · have hx' : x = (n.info, f.seqs.length) := by simpa using q
       subst hx'
       refine ⟨h0l, by rw [List.length_append, hnl]; show _ + zAA t p n.info ≤ _; omega, f.pos.getD i 0, hb.1, hb.2, fun k hk => ?_⟩
       have hk : k < n.next.length := by
         have : k < zAA t p n.info := hk
         omega
       show (f.seqs ++ zCt n (f.pos.getD i 0)).getD (f.seqs.length + k) zAn = _
       have e : (f.seqs ++ zCt n (f.pos.getD i 0)).getD (f.seqs.length + k) zAn = (zCt n (f.pos.getD i 0)).getD k zAn := by
         simp only [List.getD]
         rw [List.getElem?_append_right (by omega), Nat.add_sub_cancel_left]
       rw [e]
       unfold zCt
       rw [zHc _ _ 0 _ _ (by simpa using hk)]
       simp [List.getD, hk]
   · rw [List.length_append, hnl] at h2
     by_cases hk : k < f.seqs.length
     · obtain ⟨x, x1, x2, x3⟩ := h.all k h1 hk
       exact ⟨x, List.mem_append_left _ x1, x2, x3⟩
     · refine ⟨(n.info, f.seqs.length), by simp, by show f.seqs.length ≤ k; omega, by show k < f.seqs.length + zAA t p n.info; omega⟩
   · refine ⟨f.seqs.length, ?_⟩
     unfold zBw at hc ⊢
     rw [Option.map_eq_none_iff] at hc
     rw [List.find?_append, hc.2]
     simp
 · have eg : g = f := by
     show zAd p n i f = _
     unfold zAd; rw [if_neg hc]
   rw [eg]
   have hold : own p n = true → ∃ s, zBw f.first n.info = some s := by
     intro ho
     cases e : zBw f.first n.info with
     | none => exact absurd ⟨ho, e⟩ hc
     | some s => exact ⟨s, rfl⟩
   refine ⟨h0, h0l, rfl, Nat.le_refl _, fun x => ?_, h.nd, h.sl, h.fst, h.all, hold⟩
   rw [hkey, h.keys x]
   constructor
   · exact .inl
   · rintro (q | q)
     · exact q
     · unfold zBO at q
       rw [Bool.and_eq_true, decide_eq_true_eq] at q
       obtain ⟨s, hs⟩ := hold q.1
       refine (h.keys x).1 ?_
       rw [← q.2]
       exact List.mem_map.2 ⟨_, zDp hs, rfl⟩
theorem RI.step {t : zAD} (hv : Valid t) {p : Int} {i : Nat} {f : RForm} (h : RI t p i f) (hi : i < t.length) : RI t p (i + 1) (zHS p (t.getD i node0) i f) := by
 obtain ⟨a1, a2, a3, a4, a5, a6, a7, a8, a9, a10⟩ := RI.add hv h hi h h.s0.1
 generalize hn : t.getD i node0 = n at *
 generalize hg : zAd p n i f = g at *
 have est : zHS p n i f = ⟨g.seqs, zCr (zG1 p n i g) n.next 0 g.pos, g.first⟩ := by unfold zHS; rw [hg]
 rw [est]
 refine ⟨⟨a1, a2⟩, by rw [zGq, a3]; exact h.pl, zGn _ _ _ (fun x hx => ?_) (fun j h1 h2 => ?_), a5, a6, a7, a8, a9⟩
 · rw [a3] at hx
   have := h.pb x hx
   show 0 ≤ x ∧ x < ((g.seqs.length : Nat) : Int)
   omega
 · show 0 ≤ zG1 p n i g j ∧ zG1 p n i g j < ((g.seqs.length : Nat) : Int)
   unfold zG1
   split
   · rename_i ho
     obtain ⟨s, hs⟩ := a10 ho
     obtain ⟨b1, b2, _⟩ := a8 _ (zDp hs)
     have hw : zAA t p n.info = n.next.length := by
       rw [← hn]
       refine zE9 hv hi ?_
       unfold zBO
       rw [hn, ho]; simp
     rw [hs]
     simp only [Option.getD_some] at *
     omega
   · rw [a3]
     have := h.pb (f.pos.getD i 0) (zBp 0 (by rw [h.pl]; exact hi))
     omega
theorem RI.all_n {t : zAD} (hv : Valid t) (p : Int) : ∀ i, i ≤ t.length → RI t p i (zAz t p i)
 | 0, _ => RI.init t p
 | i + 1, hi => (RI.all_n hv p i (by omega)).step hv (by omega)
def zt (t : zAD) (p : Int) : List RSeq := (zAz t p t.length).seqs
theorem zDN {t : zAD} (hv : Valid t) {p x : Int} : x ∈ zAe t p ↔ ∃ j, j < t.length ∧ zBO p x (t.getD j node0) = true := by
 unfold zAe
 rw [List.mem_filter, List.any_eq_true]
 constructor
 · rintro ⟨_, y, hy, h2⟩
   obtain ⟨j, hj, rfl⟩ := List.getElem_of_mem hy
   exact ⟨j, hj, by rw [zBW node0 hj]; exact h2⟩
 · rintro ⟨j, hj, h2⟩
   refine ⟨?_, t.getD j node0, zBp node0 hj, h2⟩
   unfold zBO at h2
   rw [Bool.and_eq_true, decide_eq_true_eq] at h2
   have hm := hv.mine hj h2.1
   rw [h2.2] at hm
   refine List.mem_map.2 ⟨x.toNat, List.mem_range.2 (by omega), by omega⟩
theorem zFD (t : zAD) (p : Int) : (zAe t p).Nodup := by
 unfold zAe
 refine List.Nodup.sublist List.filter_sublist ?_
 rw [List.nodup_iff_pairwise_ne, List.pairwise_map]
 exact (List.nodup_iff_pairwise_ne.1 List.nodup_range).imp (fun h => by omega)
/-- RecallNumbers: how the sequences are numbered. -/
theorem zAm {t : zAD} (hv : Valid t) (p : Int) :
   (zt t p).length = 1 + ((zAe t p).map (zAA t p)).sum ∧ (zt t p).getD 0 zAn = zAn ∧ 0 < (zt t p).length ∧
   ∀ k, k + 1 < (zt t p).length → ((zt t p).getD (k + 1) zAn).info ∈ zAe t p ∧ 0 ≤ ((zt t p).getD (k + 1) zAn).before ∧ ((zt t p).getD (k + 1) zAn).before ≤ k ∧
     (0 < ((zt t p).getD (k + 1) zAn).choice → (zt t p).getD k zAn = ⟨((zt t p).getD (k + 1) zAn).info, ((zt t p).getD (k + 1) zAn).choice - 1, ((zt t p).getD (k + 1) zAn).before⟩) := by
 have h := RI.all_n hv p t.length (Nat.le_refl _)
 have hperm : ((zAz t p t.length).first.map Prod.fst).Perm (zAe t p) :=
   (List.perm_ext_iff_of_nodup h.nd (zFD t p)).2 (fun x => by rw [h.keys x, zDN hv])
 refine ⟨?_, h.s0.1, h.s0.2, fun k hk => ?_⟩
 · show (zAz t p t.length).seqs.length = _
   rw [h.sl, ← (hperm.map (zAA t p)).sum_nat, List.map_map]
   rfl
 · obtain ⟨x, x1, x2, x3⟩ := h.all (k + 1) (by omega) hk
   obtain ⟨y1, y2, b, b1, b2, b3⟩ := h.fst x x1
   have e1 := b3 (k + 1 - x.2) (by omega)
   rw [show x.2 + (k + 1 - x.2) = k + 1 by omega] at e1
   have e1' : (zt t p).getD (k + 1) zAn = ⟨x.1, ((k + 1 - x.2 : Nat) : Int), b⟩ := e1
   rw [e1']
   refine ⟨hperm.mem_iff.1 (List.mem_map.2 ⟨x, x1, rfl⟩), b1, by show b ≤ (k : Int); omega, fun hc => ?_⟩
   have hc : (0 : Int) < ((k + 1 - x.2 : Nat) : Int) := hc
   have e2 := b3 (k - x.2) (by omega)
   rw [show x.2 + (k - x.2) = k by omega] at e2
   have e2' : (zt t p).getD k zAn = ⟨x.1, ((k - x.2 : Nat) : Int), b⟩ := e2
   rw [e2']
   show (⟨x.1, _, b⟩ : RSeq) = ⟨x.1, ((k + 1 - x.2 : Nat) : Int) - 1, b⟩
   congr 1
   omega
end Go.Ax.Rt
namespace Go.Ax.Rt
open Go.Ax.Bg
/-- What is left of a number that may be negative. -/
def posQ (q : Rat) : Rat := if q.num < 0 then 0 else q
def zFf : Rat → List Rat → Rat
 | acc, [] => acc
 | acc, q :: r => zFf (acc + q) r
def matchQ (x : List Rat) : List Rat :=
 if zFf 0 (x.map posQ) = 0 then (x.map posQ).map (fun _ => Rat.divInt 1 x.length) else (x.map posQ).map (fun q => q / zFf 0 (x.map posQ))
/-- regret.Match -/
def matchR (v : List zAZ) : List zAZ × Int :=
 if v = [] then ([], 8) else if 12 < v.length then ([], 2) else if zG3 v ≠ 0 then ([], zG3 v) else zAq (matchQ (v.map zAi))
structure Matched (v p : List zAZ) : Prop where
 res : matchR v = (p, 0)
 len : p.length = v.length
 odds : zDv p = 0
 zero : (∃ s ∈ v, 0 < zAi s) → ∀ i, i < v.length → (p.getD i [] ≠ [48] ↔ 0 < zAi (v.getD i []))
 good : ∀ s ∈ v, zCW s = 0
end Go.Ax.Rt
namespace Go.Ax.Rt
open Go.Ax.Bg
abbrev zBt := List (Int × Int)
/-- matgame.Check -/
def gameE (m : List (List zAZ)) : Int := if 12 < m.length then 2 else if zF9 m ≠ 0 then zF9 m else if zDC m = 0 then 8 else if 12 < zDC m then 2 else 0
def outside (m : List (List zAZ)) (x : Int × Int) : Bool := decide (x.1 < 0) || (decide ((m.length : Int) ≤ x.1) || (decide (x.2 < 0) || decide ((zDC m : Int) ≤ x.2)))
/-- regret.Check -/
def zIR (m : List (List zAZ)) (l : zBt) : Int := if gameE m ≠ 0 then gameE m else if 200 < l.length then 2 else if l.any (outside m) = true then 4 else 0
/-- How often a row, a column was played. -/
def cnt (f : Int × Int → Int) (l : zBt) (i : Nat) : Nat := (l.filter (fun x => decide (f x = (i : Int)))).length
def cntQ (f : Int × Int → Int) (l : zBt) (n : Nat) : List Rat := (List.range n).map (fun i => ((cnt f l i : Nat) : Rat))
def rowsS (m : List (List Rat)) (l : zBt) (w : Nat) : List Rat := m.map (fun r => dotQ r (cntQ Prod.snd l w))
def colsS (m : List (List Rat)) (l : zBt) (w : Nat) : List Rat := (colsQ m w).map (fun c => dotQ c (cntQ Prod.fst l m.length))
def elQ (m : List (List Rat)) (x : Int × Int) : Rat := (m.getD x.1.toNat []).getD x.2.toNat 0
def gotQ (m : List (List Rat)) (l : zBt) : Rat := zFf 0 (l.map (elQ m))
def regA (m : List (List Rat)) (l : zBt) (w : Nat) : List Rat := (rowsS m l w).map (fun q => q - gotQ m l)
def regB (m : List (List Rat)) (l : zBt) (w : Nat) : List Rat := (colsS m l w).map (fun q => gotQ m l - q)
def bothR (a b : List Rat) : (List zAZ × List zAZ) × Int := if (zAq a).2 ≠ 0 then (([], []), 2) else if (zAq b).2 ≠ 0 then (([], []), 2) else ((a.map zAM, b.map zAM), 0)
/-- regret.Regrets -/
def regretsR (m : List (List zAZ)) (l : zBt) : (List zAZ × List zAZ) × Int := if zIR m l ≠ 0 then (([], []), zIR m l) else bothR (regA (inM m) l (zDC m)) (regB (inM m) l (zDC m))
/-- The first greatest number, or the first least one. -/
def zIY (sg : Int) (x : List Rat) : Nat → Nat
 | 0 => 0
 | k + 1 => if 0 < cmpQ (x.getD k 0) (x.getD (zIY sg x k) 0) * sg then k else zIY sg x k
def lowQ (m : List (List Rat)) (l : zBt) (w : Nat) : Rat := (colsS m l w).getD (zIY (-1) (colsS m l w) w) 0
def highQ (m : List (List Rat)) (l : zBt) (w : Nat) : Rat := (rowsS m l w).getD (zIY 1 (rowsS m l w) m.length) 0
/-- regret.Bounds -/
def boundsR (m : List (List zAZ)) (l : zBt) : (zAZ × zAZ) × Int :=
 if zIR m l ≠ 0 then (([], []), zIR m l) else if l = [] then (([], []), 8)
 else if zBd (lowQ (inM m) l (zDC m) / (l.length : Nat)) && zBd (highQ (inM m) l (zDC m) / (l.length : Nat)) then ((zAM (lowQ (inM m) l (zDC m) / (l.length : Nat)), zAM (highQ (inM m) l (zDC m) / (l.length : Nat))), 0) else (([], []), 2)
/-- The law. -/
structure Zero (m : List (List zAZ)) (l : zBt) (a b : List zAZ) (lo hi : zAZ) : Prop where
 reg : regretsR m l = ((a, b), 0)
 bnd : boundsR m l = ((lo, hi), 0)
 ga : ∀ s ∈ a, zCW s = 0
 gb : ∀ s ∈ b, zCW s = 0
 la : a.length = m.length
 lb : b.length = zDC m
 best : ∃ i k s q, zJ6 a = (((i : Nat) : Int), 0) ∧ zJ6 b = (((k : Nat) : Int), 0) ∧ i < a.length ∧ k < b.length ∧ twoR (fun x y => x + y) (a.getD i []) (b.getD k []) = (s, 0) ∧ divR s (zAM ((l.length : Nat) : Rat)) = (q, 0) ∧ twoR (fun x y => x - y) hi lo = (q, 0)
/-- One round more. -/
structure PlaySt where
 rows : List Rat
 cols : List Rat
 out : List (Nat × Nat)
def playStep (m : List (List Rat)) (s : PlaySt) : PlaySt :=
 let i := zIY 1 s.rows s.rows.length
 let k := zIY (-1) s.cols s.cols.length
 ⟨(List.range s.rows.length).map (fun j => s.rows.getD j 0 + (m.getD j []).getD k 0), (List.range s.cols.length).map (fun j => s.cols.getD j 0 + (m.getD i []).getD j 0), s.out ++ [(i, k)]⟩
def playN (m : List (List Rat)) (w : Nat) : Nat → PlaySt
 | 0 => ⟨List.replicate m.length 0, List.replicate w 0, []⟩
 | n + 1 => playStep m (playN m w n)
def histOf (l : List (Nat × Nat)) : zBt := l.map (fun x => ((x.1 : Int), (x.2 : Int)))
/-- regret.Play -/
def playR (m : List (List zAZ)) (n : Int) : zBt × Int := if gameE m ≠ 0 then ([], gameE m) else if n < 0 ∨ 200 < n then ([], 4) else (histOf (playN (inM m) (zDC m) n.toNat).out, 0)
end Go.Ax.Rt
namespace Go.Ax.Rt
open Go.Ax.Bg
theorem zIP (q : Rat) : ∀ (l : List Rat) (acc : Rat), zFf acc (l ++ [q]) = zFf acc l + q
 | [], acc => rfl
 | a :: r, acc => by rw [List.cons_append, zFf, zFf, zIP q r]
/-- The first k elements are changed. -/
def mixL {α : Type} (f : α → α) (x : List α) (k : Nat) : List α := (x.take k).map f ++ x.drop k
/-- The counters, as integers. -/
def cntI (f : Int × Int → Int) (l : zBt) (n : Nat) : List Int := (List.range n).map (fun i => ((cnt f l i : Nat) : Int))
/-- The first k elements have something added. -/
def updL (g : Nat → Rat) (x : List Rat) (k : Nat) : List Rat := (List.range x.length).map (fun j => if j < k then x.getD j 0 + g j else x.getD j 0)
end Go.Ax.Rt
namespace Go.Ax.Rt
open Go.Ax.Bg
theorem zIM : ∀ (m : Nat) (l : List Rat), m ≤ l.length → zCK (fun c => l.getD c 0) m = zFf 0 (l.take m)
 | 0, l, _ => rfl
 | m + 1, l, h => by
   rw [zCK, zIM m l (by omega), List.take_succ_eq_append_getElem (by omega), zIP, zBW 0 (by omega)]
def zB6 (o : Int → List Rat) (s : RSeq) (P : List Rat) : Rat := if s.before < 0 then 1 else P.getD s.before.toNat 0 * (o s.info).getD s.choice.toNat 0
def zBk (l : List RSeq) (o : Int → List Rat) : Nat → List Rat
 | 0 => []
 | k + 1 => zBk l o k ++ [zB6 o (l.getD k zAn) (zBk l o k)]
theorem zDP (l : List RSeq) (o : Int → List Rat) : ∀ k, (zBk l o k).length = k
 | 0 => rfl
 | k + 1 => by rw [zBk, List.length_append, zDP l o k]; rfl
theorem zDM (l : List RSeq) (o : Int → List Rat) {j : Nat} : ∀ {k : Nat}, j < k → (zBk l o k).getD j 0 = zB6 o (l.getD j zAn) (zBk l o j)
 | 0, h => absurd h (Nat.not_lt_zero _)
 | k + 1, h => by
   rw [zBk]
   by_cases e : j = k
   · subst e
     have : (zBk l o j ++ [zB6 o (l.getD j zAn) (zBk l o j)]).getD j 0 = zB6 o (l.getD j zAn) (zBk l o j) := by
       have h2 := get_end (l := zBk l o j) (x := zB6 o (l.getD j zAn) (zBk l o j)) (d := 0)
       rwa [zDP] at h2
     exact this
   · rw [zG5 0 (by rw [zDP]; omega)]
     exact zDM l o (by omega)
theorem zFy (l : List RSeq) (o : Int → List Rat) {j k n : Nat} (h1 : j < k) (h2 : j < n) : (zBk l o k).getD j 0 = (zBk l o n).getD j 0 := by
 rw [zDM l o h1, zDM l o h2]
theorem zLa {m : List (Int × Nat)} (h : (m.map Prod.fst).Nodup) {x y : Int × Nat} (hx : x ∈ m) (hy : y ∈ m) (e : x.1 = y.1) : x = y := by
 obtain ⟨i, hi, rfl⟩ := List.getElem_of_mem hx
 obtain ⟨j, hj, rfl⟩ := List.getElem_of_mem hy
 have hp := List.pairwise_iff_getElem.1 h
 rcases Nat.lt_trichotomy i j with q | q | q
 · exact absurd (by rw [List.getElem_map, List.getElem_map]; exact e) (hp i j (by simpa using hi) (by simpa using hj) q)
 · subst q; rfl
 · exact absurd (by rw [List.getElem_map, List.getElem_map]; exact e.symm) (hp j i (by simpa using hj) (by simpa using hi) q)
theorem zGB {t : zAD} (hv : Valid t) (p : Int) : (zt t p).length ≤ 61 := by
 have h := (zAm hv p).1
 rw [h]
 have h1 : (zAe t p).length ≤ 10 := by
   unfold zAe
   refine Nat.le_trans (List.length_filter_le _ _) (by simp)
 have h2 : ∀ x ∈ zAe t p, zAA t p x ≤ 6 := by
   intro x hx
   obtain ⟨j, hj, hs⟩ := (zDN hv).1 hx
   rw [zE9 hv hj hs]
   exact hv.few hj
 have key : ∀ l : List Int, (∀ x ∈ l, zAA t p x ≤ 6) → (l.map (zAA t p)).sum ≤ 6 * l.length := by
   intro l
   induction l with
   | nil => intro _; exact Nat.le_refl _
   | cons a r ih =>
     intro hl
     have h3 := hl a (by simp)
     have h4 := ih (fun x hx => hl x (by simp [hx]))
     simp only [List.map_cons, List.sum_cons, List.length_cons]
     omega
 have := key _ h2
 omega
/-- The probabilities that belong to a strategy. -/
structure Strat (t : zAD) (p : Int) (o : Int → List Rat) (k : Nat) : Prop where
 len : ∀ x ∈ zAe t p, (o x).length = zAA t p x
 sum : ∀ x ∈ zAe t p, zFf 0 (o x) = 1
 nn : ∀ x ∈ zAe t p, ∀ q ∈ o x, 0 ≤ q
 dig : ∀ x ∈ zAe t p, ∀ q ∈ o x, D k q
def zBL (t : zAD) (p : Int) (o : Int → List Rat) : List Rat := zBk (zt t p) o (zt t p).length
/-- What stands at a sequence that is not the first one. -/
theorem zHU {t : zAD} (hv : Valid t) {p : Int} {k : Nat} (h1 : 1 ≤ k) (hk : k < (zt t p).length) : ∃ (x : Int × Nat) (b : Nat), x ∈ (zAz t p t.length).first ∧ x.1 ∈ zAe t p ∧ x.2 ≤ k ∧ k < x.2 + zAA t p x.1 ∧ b < x.2 ∧ 1 ≤ x.2 ∧ x.2 + zAA t p x.1 ≤ (zt t p).length ∧
   ∀ c, c < zAA t p x.1 → (zt t p).getD (x.2 + c) zAn = ⟨x.1, (c : Int), (b : Int)⟩ := by
 have h := RI.all_n hv p t.length (Nat.le_refl _)
 obtain ⟨x, x1, x2, x3⟩ := h.all k h1 hk
 obtain ⟨y1, y2, b, b1, b2, b3⟩ := h.fst x x1
 obtain ⟨n, rfl⟩ := Int.eq_ofNat_of_zero_le b1
 exact ⟨x, n, x1, (zDN hv).2 ((h.keys x.1).1 (List.mem_map.2 ⟨x, x1, rfl⟩)), x2, x3, by omega, y1, y2, b3⟩
theorem plan_D {t : zAD} (hv : Valid t) {p : Int} {o : Int → List Rat} {d : Nat} (ho : Strat t p o d) : ∀ k, k < (zt t p).length → D (d * k + 1) ((zBL t p o).getD k 0) := by
 intro k
 induction k using Nat.strongRecOn with
 | ind k ih =>
   intro hk
   unfold zBL
   rw [zDM _ _ hk]
   rcases Nat.eq_zero_or_pos k with e | e
   · subst e
     have h0 := (zAm hv p).2.1
     rw [h0]
     unfold zB6 zAn
     rw [if_pos (by decide)]
     exact D.mono (j := 1) ⟨by decide, by decide⟩ (by omega)
   · obtain ⟨x, b, x0, x1, x2, x3, x4, x5, x6, x7⟩ := zHU hv e hk
     have hs := x7 (k - x.2) (by omega)
     rw [show x.2 + (k - x.2) = k by omega] at hs
     rw [hs]
     unfold zB6
     simp only
     rw [if_neg (by omega), Int.toNat_natCast, Int.toNat_natCast]
     have h2 := ih b (by omega) (by omega)
     unfold zBL at h2
     rw [zFy _ _ (show b < (zt t p).length by omega) (show b < k by omega)] at h2
     have h3 := ho.dig x.1 x1 ((o x.1).getD (k - x.2) 0) (zBp 0 (by rw [ho.len x.1 x1]; omega))
     have h4 := h2.mul h3
     refine h4.mono ?_
     have : d * (b + 1) ≤ d * k := Nat.mul_le_mul_left d (by omega)
     rw [Nat.mul_add, Nat.mul_one] at this
     omega
theorem zMo {w : Nat} {f : Nat → Rat} {d : Nat} (h : ∀ c, c < w → D d (f c)) {m : Nat} (hm : m ≤ w) : D (1 + w * (d + 1)) (zCK f m) := by
 refine (sumN_D (j := d) (n := m) (fun i hi => h i (by omega))).mono ?_
 have := Nat.mul_le_mul_right (d + 1) hm
 omega
/-- RecallSums: the choices of a set have together the probability of the sequence before it. -/
theorem sums_law {t : zAD} (hv : Valid t) {p : Int} {o : Int → List Rat} (ho : Strat t p o 12) {k : Nat} (hk : k < (zt t p).length) (hc : ((zt t p).getD k zAn).choice = 0) :
   ∃ w b : Nat, 1 ≤ w ∧ k + w ≤ (zt t p).length ∧ (∀ c, c < w → ((zt t p).getD (k + c) zAn).info = ((zt t p).getD k zAn).info) ∧ (k + w < (zt t p).length → ((zt t p).getD (k + w) zAn).info ≠ ((zt t p).getD k zAn).info) ∧
     ((zt t p).getD k zAn).before = (b : Int) ∧ b < (zt t p).length ∧ (∀ m, m ≤ w → zBd (zCK (fun c => (zBL t p o).getD (k + c) 0) m) = true) ∧ zCK (fun c => (zBL t p o).getD (k + c) 0) w = (zBL t p o).getD b 0 := by
 have hfew := zGB hv p
 rcases Nat.eq_zero_or_pos k with e | e
 · subst e
   rw [(zAm hv p).2.1] at hc
   exact absurd hc (by decide)
 obtain ⟨x, b, x0, x1, x2, x3, x4, x5, x6, x7⟩ := zHU hv e hk
 have hs := x7 (k - x.2) (by omega)
 rw [show x.2 + (k - x.2) = k by omega] at hs
 rw [hs] at hc ⊢
 have hc : ((k - x.2 : Nat) : Int) = 0 := hc
 have hkx : k = x.2 := by omega
 subst hkx
 have hw6 : zAA t p x.1 ≤ 6 := by
   obtain ⟨j, hj, hsj⟩ := (zDN hv).1 x1
   rw [zE9 hv hj hsj]
   exact hv.few hj
 have hP : ∀ c, c < zAA t p x.1 → (zBL t p o).getD (x.2 + c) 0 = (zBL t p o).getD b 0 * (o x.1).getD c 0 := by
   intro c hcw
   unfold zBL
   rw [zDM _ _ (show x.2 + c < (zt t p).length by omega), x7 c hcw]
   unfold zB6
   simp only
   rw [if_neg (by omega), Int.toNat_natCast, Int.toNat_natCast, zFy _ _ (show b < x.2 + c by omega) (show b < (zt t p).length by omega)]
 have hsum : ∀ m, m ≤ zAA t p x.1 → zCK (fun c => (zBL t p o).getD (x.2 + c) 0) m = (zBL t p o).getD b 0 * zCK (fun c => (o x.1).getD c 0) m := by
   intro m hm
   rw [← zJn]
   exact zHx (fun c hc2 => hP c (by omega))
 have hbD := plan_D hv ho b (by omega)
 refine ⟨zAA t p x.1, b, by omega, x6, fun c hcw => by rw [x7 c hcw], fun hlt => ?_, rfl, by omega, fun m hm => ?_, ?_⟩
 · obtain ⟨y, b', y0, y1, y2, y3, y4, y5, y6, y7⟩ := zHU hv (k := x.2 + zAA t p x.1) (by omega) hlt
   have hs2 := y7 (x.2 + zAA t p x.1 - y.2) (by omega)
   rw [show y.2 + (x.2 + zAA t p x.1 - y.2) = x.2 + zAA t p x.1 by omega] at hs2
   rw [hs2]
   show y.1 ≠ x.1
   intro ee
   have h := RI.all_n hv p t.length (Nat.le_refl _)
   have := zLa h.nd y0 x0 ee
   subst this
   omega
 · rw [hsum m hm]
   have h1 := zMo (w := zAA t p x.1) (f := fun c => (o x.1).getD c 0) (d := 12) (fun c hcw => ho.dig x.1 x1 _ (zBp 0 (by rw [ho.len x.1 x1]; exact hcw))) hm
   refine (hbD.mul h1).fit ?_
   have h2 : zAA t p x.1 * (12 + 1) ≤ 6 * 13 := Nat.mul_le_mul_right _ hw6
   omega
 · rw [hsum _ (Nat.le_refl _)]
   have h1 := zIM (zAA t p x.1) (o x.1) (by rw [ho.len x.1 x1]; exact Nat.le_refl _)
   rw [h1, List.take_of_length_le (by rw [ho.len x.1 x1]; exact Nat.le_refl _), ho.sum x.1 x1, Rat.mul_one]
end Go.Ax.Rt
namespace Go.Ax.Rt
open Go.Ax.Bg
abbrev Way := List (Int × Int)
def zFY (v : Nat → Way) : List Int → Nat → List Way → List Way
 | [], _, a => a
 | c :: r, k, a => zFY v r (k + 1) (a.set c.toNat (v k))
theorem zGk (v : Nat → Way) : ∀ (l : List Int) (k : Nat) (a : List Way), (zFY v l k a).length = a.length
 | [], _, a => rfl
 | c :: r, k, a => by rw [zFY, zGk v r]; simp
def wayV (p : Int) (n : TNode) (w : Way) (k : Nat) : Way := if own p n = true then w ++ [(n.info, (k : Int))] else w
def zCV (t : zAD) (p : Int) : Nat → List Way
 | 0 => List.replicate t.length []
 | i + 1 => zFY (wayV p (t.getD i node0) ((zCV t p i).getD i [])) (t.getD i node0).next 0 (zCV t p i)
theorem zFZ (t : zAD) (p : Int) : ∀ i, (zCV t p i).length = t.length
 | 0 => List.length_replicate
 | i + 1 => by rw [zCV, zGk, zFZ t p i]
def zBV (t : zAD) (p : Int) : Nat → List (Int × Nat)
 | 0 => []
 | i + 1 => if own p (t.getD i node0) = true ∧ zBw (zBV t p i) (t.getD i node0).info = none then zBV t p i ++ [((t.getD i node0).info, i)] else zBV t p i
def zFg (t : zAD) (p : Int) (W : List Way) : Nat → Bool
 | 0 => true
 | i + 1 => zFg t p W i && (if own p (t.getD i node0) = true then (match zBw (zBV t p i) (t.getD i node0).info with | none => true | some k => decide (W.getD i [] = W.getD k [])) else true)
def zGT (t : zAD) (p : Int) : Bool := zFg t p (zCV t p t.length) t.length
theorem zEy {t : zAD} {p : Int} : ∀ {i : Nat} {x : Int × Nat}, x ∈ zBV t p i → x.2 < i ∧ own p (t.getD x.2 node0) = true ∧ (t.getD x.2 node0).info = x.1
 | 0, x, h => by simp [zBV] at h
 | i + 1, x, h => by
   rw [zBV] at h
   split at h
   · rename_i hc
     rcases List.mem_append.1 h with q | q
     · obtain ⟨h1, h2⟩ := zEy q
       exact ⟨by omega, h2⟩
     · have : x = ((t.getD i node0).info, i) := by simpa using q
       subst this
       exact ⟨Nat.lt_succ_self _, hc.1, rfl⟩
   · obtain ⟨h1, h2⟩ := zEy h
     exact ⟨by omega, h2⟩
end Go.Ax.Rt
namespace Go.Ax.Rt
open Go.Ax.Bg
/-- The probabilities of the children of a node: none where a node has no own ones. -/
abbrev zFC := Nat → Option (List Rat)
def setQ (v : Nat → Rat) : List Int → Nat → List Rat → List Rat
 | [], _, a => a
 | c :: r, k, a => setQ v r (k + 1) (a.set c.toNat (v k))
def childV (o : Option (List Rat)) (q : Rat) (k : Nat) : Rat := match o with | none => q | some l => q * l.getD k 0
def zKs (t : zAD) (o : zFC) : Nat → List Rat
 | 0 => (List.replicate t.length 0).set 0 1
 | i + 1 => setQ (childV (o i) ((zKs t o i).getD i 0)) (t.getD i node0).next 0 (zKs t o i)
def zLs (t : zAD) (o : zFC) : List Rat := zKs t o t.length
/-- Who names whom. -/
def kid (t : zAD) (i : Nat) (c : Nat) : Prop := (c : Int) ∈ (t.getD i node0).next
theorem Valid.has {t : zAD} (h : Valid t) {c : Nat} (hc : c < t.length) (h0 : c ≠ 0) : ∃ i, i < t.length ∧ kid t i c := by
 have hn := h.once c hc h0
 unfold named at hn
 have hne : (t.flatMap TNode.next).filter (fun x => decide (x = (c : Int))) ≠ [] := by intro e; rw [e] at hn; cases hn
 obtain ⟨x, hx⟩ := List.exists_mem_of_ne_nil _ hne
 obtain ⟨h1, h2⟩ := List.mem_filter.1 hx
 obtain ⟨n, hn1, hn2⟩ := List.mem_flatMap.1 h1
 obtain ⟨i, hi, rfl⟩ := List.getElem_of_mem hn1
 refine ⟨i, hi, ?_⟩
 unfold kid
 rw [zBW node0 hi]
 have : x = (c : Int) := by simpa using h2
 rw [← this]; exact hn2
end Go.Ax.Rt
namespace Go.Ax.Rt
open Go.Ax.Bg
/-- The probabilities at each node that is no end. -/
structure OddsOK (t : zAD) (o : zFC) (d : Nat) : Prop where
 at' : ∀ i, i < t.length → (t.getD i node0).kind ≠ 0 → ∃ l, o i = some l ∧ l.length = (t.getD i node0).next.length ∧ zFf 0 l = 1 ∧ ∀ q ∈ l, 0 ≤ q ∧ D d q
def kids (t : zAD) (i : Nat) : List Nat := (t.getD i node0).next.map Int.toNat
def frontB (t : zAD) (i j : Nat) : Prop := (j < i ∧ (t.getD j node0).kind = 0) ∨ (i ≤ j ∧ (j = 0 ∨ ∃ a, a < i ∧ kid t a j))
def endsOf (t : zAD) : List Nat := (List.range t.length).filter (fun i => decide ((t.getD i node0).kind = 0))
end Go.Ax.Rt
namespace Go.Ax.Rt
open Go.Ax.Bg
/-- A number whose multiple by B is whole. -/
def Dv (B : Nat) (q : Rat) : Prop := ∃ z : Int, q * (B : Rat) = (z : Rat)
theorem Dv.den {B : Nat} {q : Rat} (h : Dv B q) (hB : B ≠ 0) : q.den ∣ B := by
 obtain ⟨z, hz⟩ := h
 have hB' : ((B : Int) : Rat) ≠ 0 := intc_ne (by omega)
 have e : q = Rat.divInt z B := by
   rw [Rat.divInt_eq_div, ← hz, ← Rat.intCast_natCast]
   have h1 := Rat.div_mul_cancel (a := q * ((B : Int) : Rat)) hB'
   refine zK2 hB' ?_
   rw [Rat.mul_comm _ (q * ((B : Int) : Rat) / ((B : Int) : Rat)), h1, Rat.mul_comm]
 rw [e, (zGI z B hB).2.1]
 exact Nat.div_dvd_of_dvd (Nat.gcd_dvd_right _ _)
theorem Dv.mono {A B : Nat} {q : Rat} (h : Dv A q) (hd : A ∣ B) : Dv B q := by
 obtain ⟨z, hz⟩ := h
 obtain ⟨k, rfl⟩ := hd
 refine ⟨z * k, ?_⟩
 rw [Rat.natCast_mul, ← Rat.mul_assoc, hz, Rat.intCast_mul, Rat.intCast_natCast]
theorem Dv.add {B : Nat} {a b : Rat} (ha : Dv B a) (hb : Dv B b) : Dv B (a + b) := by
 obtain ⟨x, hx⟩ := ha
 obtain ⟨y, hy⟩ := hb
 exact ⟨x + y, by rw [Rat.add_mul, hx, hy, Rat.intCast_add]⟩
theorem Dv.mul {A B : Nat} {a b : Rat} (ha : Dv A a) (hb : Dv B b) : Dv (A * B) (a * b) := by
 obtain ⟨x, hx⟩ := ha
 obtain ⟨y, hy⟩ := hb
 refine ⟨x * y, ?_⟩
 rw [Rat.intCast_mul, ← hx, ← hy, Rat.natCast_mul]
 grind
theorem Dv.zero (B : Nat) : Dv B 0 := ⟨0, by rw [Rat.zero_mul]; rfl⟩
theorem Dv.one (B : Nat) : Dv B 1 := ⟨B, by rw [Rat.one_mul, Rat.intCast_natCast]⟩
def prodN : List Nat → Nat
 | [] => 1
 | a :: r => a * prodN r
def pden (o : Option (List Rat)) : Nat := match o with | none => 1 | some l => prodN (l.map Rat.den)
def Bd (o : zFC) : Nat → Nat
 | 0 => 1
 | i + 1 => Bd o i * pden (o i)
/-- An end has no probabilities of its own. -/
structure OddsAll (t : zAD) (o : zFC) (d : Nat) : Prop extends OddsOK t o d where
 none : ∀ i, i < t.length → (t.getD i node0).kind = 0 → o i = none
end Go.Ax.Rt
namespace Go.Ax.Rt
open Go.Ax.Bg
def zBI {α : Type} (v : Nat → α) : List Int → Nat → List α → List α
 | [], _, a => a
 | c :: r, k, a => zBI v r (k + 1) (a.set c.toNat (v k))
theorem zEI {α : Type} (v : Nat → α) : ∀ (l : List Int) (k : Nat) (a : List α), (zBI v l k a).length = a.length
 | [], _, a => rfl
 | c :: r, k, a => by rw [zBI, zEI v r]; simp
theorem zEK {α : Type} (v : Nat → α) (x : Int) : ∀ (l : List Int) (k : Nat) (a : List α), zBI v (l ++ [x]) k a = (zBI v l k a).set x.toNat (v (k + l.length))
 | [], k, a => rfl
 | c :: r, k, a => by
   rw [List.cons_append, zBI, zBI, zEK v x r (k + 1)]
   congr 2
   rw [List.length_cons]; omega
theorem zDi {α : Type} (v : Nat → α) (d : α) {j : Nat} : ∀ (l : List Int) (k : Nat) (a : List α), (∀ c ∈ l, c.toNat ≠ j) → (zBI v l k a).getD j d = a.getD j d
 | [], _, a, _ => rfl
 | c :: r, k, a, h => by
   rw [zBI, zDi v d r (k + 1) _ (fun c hc => h c (by simp [hc])), Go.Ax.Dt.getD_set, if_neg]
   exact fun q => h c (by simp) q.1.symm
theorem zGY (v : Nat → Int) : ∀ (l : List Int) (k : Nat) (a : List Int), zCr v l k a = zBI v l k a
 | [], _, a => rfl
 | c :: r, k, a => by rw [zCr, zBI, zGY v r]
theorem zGS (v : Nat → Way) : ∀ (l : List Int) (k : Nat) (a : List Way), zFY v l k a = zBI v l k a
 | [], _, a => rfl
 | c :: r, k, a => by rw [zFY, zBI, zGS v r]
/-- the sequence of each node -/
def zHn (t : zAD) (p : Int) : List Int := (zAz t p t.length).pos
def zFn (t : zAD) (p : Int) : List Way := zCV t p t.length
abbrev zHi (t : zAD) (p : Int) : List (Int × Nat) := (zAz t p t.length).first
theorem zGx (p : Int) (n : TNode) (i : Nat) (f : RForm) : (zAd p n i f).pos = f.pos := by
 unfold zAd; split <;> rfl
theorem form_pos (t : zAD) (p : Int) (i : Nat) : (zAz t p (i + 1)).pos = zBI (zG1 p (t.getD i node0) i (zAd p (t.getD i node0) i (zAz t p i))) (t.getD i node0).next 0 (zAz t p i).pos := by
 rw [zAz, zHS]
 show zCr _ _ _ (zAd _ _ _ _).pos = _
 rw [zGY, zGx]
theorem zGP (t : zAD) (p : Int) : ∀ i, (zAz t p i).pos.length = t.length
 | 0 => List.length_replicate
 | i + 1 => by rw [form_pos, zEI, zGP t p i]
abbrev startOf (t : zAD) (p x : Int) : Nat := (zBw (zHi t p) x).getD 0
def posW (F : Int → Nat) (w : Way) : Int := match w.getLast? with
 | none => 0
 | some x => ((F x.1 : Nat) : Int) + x.2
/-- the probabilities of both players, and chance -/
def bothO (t : zAD) (p : Int) (u : Int → List Rat) (o : zFC) : zFC := fun i => if own p (t.getD i node0) = true then some (u (t.getD i node0).info) else o i
theorem zMY {t : zAD} (hv : Valid t) (p : Int) (u : Int → List Rat) : (zBL t p u).getD 0 0 = 1 := by
 obtain ⟨_, h1, h2, _⟩ := zAm hv p
 unfold zBL
 rw [zDM _ _ h2, h1]
 rfl
end Go.Ax.Rt
namespace Go.Ax.Rt
open Go.Ax.Bg
def endV (t : zAD) (r : List Rat) (i : Nat) : Rat := r.getD i 0 * zAi (t.getD i node0).pay
/-- what the first player receives on average -/
def valueQ (t : zAD) (o : zFC) : Rat := zFf 0 ((endsOf t).map (endV t (zLs t o)))
def endG (t : zAD) (p : Int) (r : List Rat) (i : Nat) : Rat := if p = 1 then -(endV t r i) else endV t r i
def sumsE (g : Nat → Rat) (pos : List Int) : List Nat → List Rat → List Rat
 | [], S => S
 | i :: r, S => sumsE g pos r (S.set (pos.getD i 0).toNat (S.getD (pos.getD i 0).toNat 0 + g i))
def dotP (P S : List Rat) (n : Nat) : Rat := zCK (fun k => P.getD k 0 * S.getD k 0) n
/-- what the sequences are worth, before the choices are made -/
def sums0 (t : zAD) (p : Int) (o : zFC) : List Rat := sumsE (endG t p (zLs t o)) (zHn t p) (endsOf t) (List.replicate (zt t p).length 0)
def zC8 (S : List Rat) (s : Nat) : Nat → Nat
 | 0 => s
 | m + 1 => if S.getD (zC8 S s m) 0 < S.getD (s + m) 0 then s + m else zC8 S s m
theorem zIf (S : List Rat) (s : Nat) : ∀ m, s ≤ zC8 S s m ∧ zC8 S s m < s + m + 1 ∧ (1 ≤ m → zC8 S s m < s + m)
 | 0 => ⟨Nat.le_refl _, Nat.lt_succ_self _, fun h => absurd h (by decide)⟩
 | m + 1 => by
   obtain ⟨h1, h2, h3⟩ := zIf S s m
   rw [zC8]
   split
   · exact ⟨by omega, by omega, fun _ => by omega⟩
   · exact ⟨h1, by omega, fun _ => by omega⟩
abbrev BSt := Nat × List Rat × List (Int × Int)
def zHu (l : List RSeq) (st : BSt) : BSt :=
 let s := st.1 - 1 - (l.getD (st.1 - 1) zAn).choice.toNat
 let b := zC8 st.2.1 s (st.1 - s)
 let q := l.getD b zAn
 (s, st.2.1.set q.before.toNat (st.2.1.getD q.before.toNat 0 + st.2.1.getD b 0), st.2.2 ++ [(q.info, q.choice)])
def backN (l : List RSeq) : Nat → BSt → BSt
 | 0, st => st
 | f + 1, st => if 1 < st.1 then backN l f (zHu l st) else st
/-- The choices from e on belong to whole sets. -/
structure Bnd (t : zAD) (p : Int) (e : Nat) : Prop where
 one : 1 ≤ e
 le : e ≤ (zt t p).length
 whole : ∀ x ∈ zHi t p, x.2 < e → x.2 + zAA t p x.1 ≤ e
theorem Bnd.top {t : zAD} (hv : Valid t) (p : Int) : Bnd t p (zt t p).length :=
 ⟨(zAm hv p).2.2.1, Nat.le_refl _, fun x hx _ => ((RI.all_n hv p t.length (Nat.le_refl _)).fst x hx).2.1⟩
structure Blk (t : zAD) (p : Int) (e : Nat) (x : Int × Nat) (b : Nat) : Prop where
 mem : x ∈ zHi t p
 info : x.1 ∈ zAe t p
 one : 1 ≤ x.2
 w1 : 1 ≤ zAA t p x.1
 fin : x.2 + zAA t p x.1 = e
 lt : b < x.2
 bnd : Bnd t p x.2
 seqs : ∀ c, c < zAA t p x.1 → (zt t p).getD (x.2 + c) zAn = ⟨x.1, (c : Int), (b : Int)⟩
theorem Bnd.blk {t : zAD} (hv : Valid t) {p : Int} {e : Nat} (h : Bnd t p e) (he : 1 < e) : ∃ x b, Blk t p e x b := by
 have hl := h.le
 obtain ⟨x, b, x0, x1, x2, x3, x4, x5, x6, x7⟩ := zHU hv (p := p) (k := e - 1) (by omega) (by omega)
 have hw := h.whole x x0 (by omega)
 refine ⟨x, b, x0, x1, x5, by omega, by omega, x4, ⟨x5, by omega, fun y hy hlt => ?_⟩, x7⟩
 rcases Nat.lt_or_ge x.2 (y.2 + zAA t p y.1) with q | q
 · obtain ⟨y1, y2, b', b1, b2, b3⟩ := (RI.all_n hv p t.length (Nat.le_refl _)).fst y hy
   have e1 := b3 (x.2 - y.2) (by omega)
   rw [show y.2 + (x.2 - y.2) = x.2 by omega] at e1
   have e2 := x7 0 (by omega)
   rw [Nat.add_zero] at e2
   have e1 : (zt t p).getD x.2 zAn = ⟨y.1, ((x.2 - y.2 : Nat) : Int), b'⟩ := e1
   rw [e2] at e1
   have := congrArg RSeq.choice e1
   have : ((0 : Nat) : Int) = ((x.2 - y.2 : Nat) : Int) := this
   omega
 · exact q
theorem Blk.step {t : zAD} {p : Int} {e : Nat} {x : Int × Nat} {b : Nat} (h : Blk t p e x b) (S : List Rat) (C : List (Int × Int)) :
   zHu (zt t p) (e, S, C) = (x.2, S.set b (S.getD b 0 + S.getD (zC8 S x.2 (zAA t p x.1)) 0), C ++ [(x.1, ((zC8 S x.2 (zAA t p x.1) - x.2 : Nat) : Int))]) := by
 have h1 := h.fin
 have h2 := h.w1
 have hs := h.seqs (zAA t p x.1 - 1) (by omega)
 rw [show x.2 + (zAA t p x.1 - 1) = e - 1 by omega] at hs
 obtain ⟨q1, _, q3⟩ := zIf S x.2 (zAA t p x.1)
 have q3 := q3 h2
 have hb := h.seqs (zC8 S x.2 (zAA t p x.1) - x.2) (by omega)
 rw [show x.2 + (zC8 S x.2 (zAA t p x.1) - x.2) = zC8 S x.2 (zAA t p x.1) by omega] at hb
 have e1 : e - 1 - ((zAA t p x.1 - 1 : Nat) : Int).toNat = x.2 := by omega
 unfold zHu
 simp only [hs]
 rw [e1, show e - x.2 = zAA t p x.1 by omega, hb]
 simp only [Int.toNat_natCast]
/-- a strategy that need not have short zAm -/
structure Mix (t : zAD) (p : Int) (u : Int → List Rat) : Prop where
 len : ∀ x ∈ zAe t p, (u x).length = zAA t p x
 sum : ∀ x ∈ zAe t p, zFf 0 (u x) = 1
 nn : ∀ x ∈ zAe t p, ∀ q ∈ u x, 0 ≤ q
def unitQ (w c : Nat) : List Rat := (List.replicate w 0).set c 1
/-- What the found choices are: one for each set. -/
structure Chosen (t : zAD) (p : Int) (e : Nat) (C : List (Int × Int)) : Prop where
 nd : (C.map Prod.fst).Nodup
 old : ∀ y ∈ C, ∃ x ∈ zHi t p, x.1 = y.1 ∧ e ≤ x.2
 all : ∀ x ∈ zHi t p, e ≤ x.2 → x.1 ∈ C.map Prod.fst
 rng : ∀ y ∈ C, 0 ≤ y.2 ∧ y.2.toNat < zAA t p y.1
theorem Chosen.top {t : zAD} (hv : Valid t) (p : Int) : Chosen t p (zt t p).length [] :=
 ⟨List.nodup_nil, fun y hy => by simp at hy, fun x hx h => by
   obtain ⟨h1, h2, _⟩ := (RI.all_n hv p t.length (Nat.le_refl _)).fst x hx
   have hk : x.1 ∈ zAe t p := (zDN hv).2 (((RI.all_n hv p t.length (Nat.le_refl _)).keys x.1).1 (List.mem_map.2 ⟨x, hx, rfl⟩))
   obtain ⟨j, hj, hs⟩ := (zDN hv).1 hk
   have hw := zE9 hv hj hs
   unfold zBO at hs
   rw [Bool.and_eq_true] at hs
   have := (hv.mine hj hs.1).2.2
   have e : (zt t p).length = (zAz t p t.length).seqs.length := rfl
   omega, fun y hy => by simp at hy⟩
theorem Blk.new {t : zAD} (hv : Valid t) {p : Int} {e : Nat} {x : Int × Nat} {b : Nat} (h : Blk t p e x b) {C : List (Int × Int)} (hC : Chosen t p e C) : x.1 ∉ C.map Prod.fst := by
 intro hm
 obtain ⟨y, hy, hyx⟩ := List.mem_map.1 hm
 obtain ⟨z, hz, hzy, hze⟩ := hC.old y hy
 have := zLa (RI.all_n hv p t.length (Nat.le_refl _)).nd hz h.mem (by rw [hzy, hyx])
 subst this
 have := h.fin
 have := h.w1
 omega
/-- reply.BestOf -/
def bestOf (t : zAD) (p : Int) (o : zFC) : BSt := backN (zt t p) (zt t p).length ((zt t p).length, sums0 t p o, [])
def lookC (C : List (Int × Int)) (x : Int) : Option Int := (C.find? (fun y => decide (y.1 = x))).map Prod.snd
/-- the strategy of the best choices -/
def bestU (t : zAD) (p : Int) (o : zFC) (x : Int) : List Rat := unitQ (zAA t p x) ((lookC (bestOf t p o).2.2 x).getD 0).toNat
end Go.Ax.Rt
namespace Go.Proofs.YtgmleamhjnlknaaGreatDoor
open Go.Ax Go.Ax.Bg Go.Ax.Rt Go.RowKit Go.Ax.Idx Go.Ax.Cd
attribute [local irreducible] Ax zAV QOp zV zAJ
set_option maxRecDepth 100000
set_option maxHeartbeats 4000000
def zDY (n : TNode) : List AV := [.int .i64 n.kind, .int .i64 n.player, .int .i64 n.info, .ro (.ints .i64 n.next) 0 n.next.length, .ro (.strs n.odds) 0 n.odds.length, .str n.pay]
abbrev z7 (t : zAD) : Cells := zCN node0 6 zDY t
structure ShortN (n : TNode) : Prop where
 next : n.next.length ≤ 9223372036854775807
 odds : n.odds.length ≤ 9223372036854775807
 each : ∀ s ∈ n.odds, s.length ≤ 9223372036854775807
 pay : n.pay.length ≤ 9223372036854775807
structure ShortT (t : zAD) : Prop where
 len : t.length ≤ 9223372036854775807
 node : ∀ n ∈ t, ShortN n
theorem zMD (t : zAD) (i : Nat) (k : Int) (hi : i ≤ 9223372036854775807) (hlen : t.length ≤ 9223372036854775807) : zk Tryz.prog 231 [.int .i64 k, .rp (.box [.int .i64 (i : Nat)]) 0 0, .rp (.box [.ro (z7 t) 0 t.length]) 0 0] (.bool (zDg t.length i k)) := by
 refine zV.value0 (zN (P := Tryz.prog) (fn := Tryz.f231) rfl rfl (by kernel_rfl) rfl (fun c hR hfix => ?_)) (fix := fun _ => False) (fun _ h => h) rfl rfl
 repeat (first | refine zD (zF rfl) ?_ | refine zD (zE rfl) ?_ | refine zB ?_ | refine zA ?_ | refine zG ?_ | refine zC rfl ?_ | refine zD (zIT rfl rfl) ?_ | refine zD (zDa rfl rfl rfl rfl) ?_)
 refine zAH rfl rfl (fun h => ?_) (fun h => ?_)
 · repeat (first | refine zD (zE rfl) ?_ | refine zB ?_ | refine zA ?_ | refine zp rfl rfl rfl ?_ | refine zH ?_ | refine zD (zr rfl rfl) ?_)
   refine zR hR rfl ?_
   unfold zDg
   rw [decide_eq_true h]; rfl
 · repeat (first | refine zD (zF rfl) ?_ | refine zD (zE rfl) ?_ | refine zB ?_ | refine zA ?_ | refine zj rfl rfl ?_ | refine zH ?_ | refine zD (zC2 rfl rfl) ?_ | refine zD (zr rfl rfl) ?_ | refine zD (zw rfl rfl rfl) ?_ | refine zD (zDa rfl rfl rfl rfl) ?_)
   refine zR hR rfl ?_
   unfold zDg
   rw [decide_eq_false h, Bool.false_or]; rfl
theorem boxT1 (t : zAD) : zAO (.box [.ro (z7 t) 0 t.length]) := by
 intro i j _ hj
 obtain rfl : j = 0 := by have hj : j < 1 := hj; omega
 rfl
theorem boxIU (n : Int) : zAO (.box [.int .i64 n]) := by
 intro i j _ hj
 obtain rfl : j = 0 := by have hj : j < 1 := hj; omega
 rfl
theorem refl2 {o1 o2 : AObj} (h1 : zAO o1.c) (h2 : zAO o2.c) : ∀ (h : Nat) (o : AObj), ([some o1, some o2] : zg)[h]? = some (some o) → zAO o.c := by
 intro h o ho
 match h, ho with
 | 0, ho => cases ho; exact h1
 | 1, ho => cases ho; exact h2
 | _ + 2, ho => simp at ho
theorem zKN (t : zAD) (i : Nat) (hi : i < t.length) (hlen : t.length ≤ 9223372036854775807) (hn : (t.getD i node0).next.length ≤ 9223372036854775807) : zk Tryz.prog 208 [.ro (z7 t) 0 t.length, .int .i64 (i : Nat)] (.int .i64 (zE7 t.length i (t.getD i node0).next)) := by
 have hc := zIe (t.getD i node0).next 231 [.rp (.box [.int .i64 (i : Nat)]) 0 0, .rp (.box [.ro (z7 t) 0 t.length]) 0 0] (zDg t.length i) rfl hn (fun k _ => zMD t i k (by omega) hlen)
 refine zV.value0 (zN (P := Tryz.prog) (fn := Tryz.f208) rfl rfl (by kernel_rfl) rfl (fun c hR hfix => ?_)) (fix := fun _ => False) (fun _ h => h) rfl rfl
 repeat (first | refine zD (zE rfl) ?_ | refine zB ?_ | refine zA ?_ | refine zG ?_ | refine zC rfl ?_ | refine zD (zBD rfl rfl rfl rfl) ?_ | refine zD (zI rfl rfl rfl rfl rfl) ?_ | refine zD (zY rfl rfl rfl rfl (by first | (simp only [Nat.zero_add, Int.toNat_natCast, Int.toNat_zero]; exact rfl) | exact rfl) (by omega)) ?_ | refine zD (zDh rfl rfl rfl rfl rfl rfl) ?_ | refine zA8 rfl rfl ?_)
 refine zAv 5 (.ro (.ints .i64 (t.getD i node0).next) 0 (t.getD i node0).next.length) rfl (AEq.of_eq rfl) ?_
 generalize (t.getD i node0).next = l at *
 unfold zE7 at hR
 repeat (first | refine zD (zF rfl) ?_ | refine zD (zE rfl) ?_ | refine zB ?_ | refine zA ?_ | refine zG ?_ | refine zC rfl ?_ | refine zT ?_ | refine zD (zA0 rfl rfl) ?_ | refine zD (zw rfl rfl rfl) ?_)
 refine zK rfl (fun h1 => ?_) (fun h1 => ?_)
 · rw [if_pos (by omega)] at hR
   repeat (first | refine zD (zE rfl) ?_ | refine zB ?_ | refine zA ?_ | refine zG ?_ | refine zC rfl ?_ | refine zH ?_ | refine zQ ?_ | refine zo ?_)
   exact zR hR rfl rfl
 rw [if_neg (by omega)] at hR
 repeat (first | refine zD (zF rfl) ?_ | refine zD (zE rfl) ?_ | refine zB ?_ | refine zA ?_ | refine zG ?_ | refine zC rfl ?_ | refine zD (zBU rfl rfl) ?_ | refine zD (zw rfl rfl rfl) ?_)
 refine zK rfl (fun h2 => ?_) (fun h2 => ?_)
 · rw [if_pos (by omega)] at hR
   repeat (first | refine zD (zE rfl) ?_ | refine zB ?_ | refine zA ?_ | refine zG ?_ | refine zC rfl ?_ | refine zH ?_ | refine zQ ?_ | refine zo ?_)
   exact zR hR rfl rfl
 rw [if_neg (by omega)] at hR
 repeat (first | refine zD (zF rfl) ?_ | refine zG ?_ | refine zC rfl ?_ | refine zD (zJk rfl) ?_)
 refine zEs rfl rfl rfl rfl hc (refl2 (o1 := ⟨66, .box [.ro (z7 t) 0 t.length]⟩) (o2 := ⟨3, .box [.int .i64 (i : Nat)]⟩) (boxT1 _) (boxIU _)) ⟨trivial, ⟨fun o ho => by simp at ho; subst ho; exact Nat.zero_lt_one, fun o ho => by simp at ho; subst ho; exact Nat.zero_lt_one, trivial⟩, trivial⟩ rfl rfl rfl ?_
 generalize l.any (zDg t.length i) = b at *
 cases b
 · rw [if_neg (by decide)] at hR
   repeat (first | refine zD (zE rfl) ?_ | refine zB ?_ | refine zA ?_ | refine zG ?_ | refine zC rfl ?_ | refine ze rfl ?_ | refine zZ ?_ | refine zP ?_ | refine zH ?_)
   exact zR hR rfl rfl
 · rw [if_pos rfl] at hR
   repeat (first | refine zD (zE rfl) ?_ | refine zB ?_ | refine zA ?_ | refine zG ?_ | refine zC rfl ?_ | refine zf rfl ?_ | refine zH ?_ | refine zQ ?_ | refine zo ?_)
   exact zR hR rfl rfl
end Go.Proofs.YtgmleamhjnlknaaGreatDoor
namespace Go.Proofs.YtgmleamhjnlknaaGreatDoor
open Go.Ax Go.Ax.Bg Go.Ax.Rt Go.RowKit Go.Ax.Idx Go.Ax.Cd
attribute [local irreducible] Ax zAV QOp zV zAJ
set_option maxRecDepth 100000
set_option maxHeartbeats 4000000
theorem node_ok (t : zAD) (i : Nat) (hi : i < t.length) (hlen : t.length ≤ 9223372036854775807) (hs : ShortN (t.getD i node0)) : zk Tryz.prog 186 [.ro (z7 t) 0 t.length, .int .i64 (i : Nat)] (.int .i64 (zEo t.length i (t.getD i node0))) := by
 have cc := zKN t i hi hlen hs.next
 have cp := zIh (t.getD i node0).pay hs.pay
 have co := zLQ (t.getD i node0).odds hs.odds hs.each
 obtain ⟨s1, s2, s3, s4⟩ := hs
 refine zV.value0 (zN (P := Tryz.prog) (fn := Tryz.f186) rfl rfl (by kernel_rfl) rfl (fun c hR hfix => ?_)) (fix := fun _ => False) (fun _ h => h) rfl rfl
 repeat (first | refine zD (zF rfl) ?_ | refine zD (zE rfl) ?_ | refine zB ?_ | refine zA ?_ | refine zG ?_ | refine zC rfl ?_ | refine zD (zY rfl rfl rfl rfl (by first | (simp only [Nat.zero_add, Int.toNat_natCast, Int.toNat_zero]; exact rfl) | exact rfl) (by omega)) ?_ | refine zD (zAS rfl rfl rfl rfl rfl rfl) ?_ | refine z8 rfl rfl rfl ?_)
 refine zU 10 (.agg (zDY (t.getD i node0))) rfl (AEq.of_eq rfl) ?_
 generalize t.getD i node0 = n at *
 obtain ⟨kd, pl, nf, nx, od, py⟩ := n
 simp only at *
 unfold zEo at hR
 refine zl (c' := .box [.int .i64 kd, .int .i64 pl, .int .i64 nf, .ro (.ints .i64 nx) 0 nx.length, .ro (.strs od) 0 od.length, .str py]) rfl rfl rfl rfl rfl Nat.zero_lt_one rfl rfl (fun i' j' hi' hj' => ?_) ?_
 · rw [if_pos (Nat.lt_one_iff.1 hi')]; rfl
 simp only at hR
 repeat (first | refine zD (zE rfl) ?_ | refine zB ?_ | refine zA ?_ | refine zG ?_ | refine zC rfl ?_ | refine zT ?_ | refine zD (zI rfl rfl rfl rfl rfl) ?_ | refine zD (zA0 rfl rfl) ?_ | refine zD (zL rfl rfl rfl rfl rfl rfl) ?_)
 refine zK rfl (fun h0 => ?_) (fun h0 => ?_)
 · rw [if_pos h0] at hR
   repeat (first | refine zD (zF rfl) ?_ | refine zG ?_ | refine zC rfl ?_ | refine zD (zI rfl rfl rfl rfl rfl) ?_ | refine zD (zAb rfl rfl) ?_ | refine zD (zL rfl rfl rfl rfl rfl rfl) ?_)
   refine zAH rfl rfl (fun g1 => ?_) (fun g1 => ?_)
   · rw [if_pos (.inl g1)] at hR
     repeat (first | refine zD (zF rfl) ?_ | refine zD (zE rfl) ?_ | refine zB ?_ | refine zA ?_ | refine zG ?_ | refine zC rfl ?_ | refine zp rfl rfl rfl ?_ | refine zf rfl ?_ | refine zH ?_ | refine zQ ?_ | refine zo ?_ | refine zD (zr rfl rfl) ?_)
     exact zR hR rfl rfl
   repeat (first | refine zD (zF rfl) ?_ | refine zj rfl rfl ?_ | refine zD (zI rfl rfl rfl rfl rfl) ?_ | refine zD (zAb rfl rfl) ?_ | refine zD (zr rfl rfl) ?_ | refine zD (zL rfl rfl rfl rfl rfl rfl) ?_)
   refine zAH rfl rfl (fun g2 => ?_) (fun g2 => ?_)
   · rw [if_pos (.inr (.inl g2))] at hR
     repeat (first | refine zD (zF rfl) ?_ | refine zD (zE rfl) ?_ | refine zB ?_ | refine zA ?_ | refine zG ?_ | refine zC rfl ?_ | refine zp rfl rfl rfl ?_ | refine zf rfl ?_ | refine zH ?_ | refine zQ ?_ | refine zo ?_ | refine zD (zr rfl rfl) ?_)
     exact zR hR rfl rfl
   repeat (first | refine zD (zF rfl) ?_ | refine zj rfl rfl ?_ | refine zD (zI rfl rfl rfl rfl rfl) ?_ | refine zD (zBU rfl rfl) ?_ | refine zD (zr rfl rfl) ?_ | refine zD (zw rfl rfl rfl) ?_ | refine zD (zL rfl rfl rfl rfl rfl rfl) ?_)
   refine zAH rfl rfl (fun g3 => ?_) (fun g3 => ?_)
   · rw [if_pos (.inr (.inr (.inl (by rintro rfl; simp at g3))))] at hR
     repeat (first | refine zD (zE rfl) ?_ | refine zB ?_ | refine zA ?_ | refine zG ?_ | refine zC rfl ?_ | refine zp rfl rfl rfl ?_ | refine zf rfl ?_ | refine zH ?_ | refine zQ ?_ | refine zo ?_ | refine zD (zr rfl rfl) ?_)
     exact zR hR rfl rfl
   repeat (first | refine zB ?_ | refine zA ?_ | refine zj rfl rfl ?_ | refine zD (zI rfl rfl rfl rfl rfl) ?_ | refine zD (zBU rfl rfl) ?_ | refine zD (zr rfl rfl) ?_ | refine zD (zw rfl rfl rfl) ?_ | refine zD (zL rfl rfl rfl rfl rfl rfl) ?_)
   refine zK rfl (fun g4 => ?_) (fun g4 => ?_)
   · rw [if_pos (.inr (.inr (.inr (by rintro rfl; simp at g4))))] at hR
     repeat (first | refine zD (zE rfl) ?_ | refine zB ?_ | refine zA ?_ | refine zG ?_ | refine zC rfl ?_ | refine zH ?_ | refine zQ ?_ | refine zo ?_)
     exact zR hR rfl rfl
   rw [if_neg (by
     rintro (q | q | q | q)
     · exact g1 q
     · exact g2 q
     · have := List.length_pos_iff.2 q; omega
     · have := List.length_pos_iff.2 q; omega)] at hR
   repeat (first | refine zA ?_ | refine zG ?_ | refine zC rfl ?_ | refine zP ?_ | refine zD (zI rfl rfl rfl rfl rfl) ?_ | refine zD (zL rfl rfl rfl rfl rfl rfl) ?_)
   refine zM rfl rfl rfl cp ?_
   repeat (first | refine zD (zE rfl) ?_ | refine zB ?_ | refine zA ?_ | refine zH ?_ | refine zQ ?_ | refine zo ?_)
   exact zR hR rfl rfl
 rw [if_neg h0] at hR
 repeat (first | refine zD (zE rfl) ?_ | refine zB ?_ | refine zA ?_ | refine zG ?_ | refine zC rfl ?_ | refine zD (zA0 rfl rfl) ?_)
 refine zK rfl (fun h1 => ?_) (fun h1 => ?_)
 · rw [if_pos h1] at hR
   repeat (first | refine zD (zF rfl) ?_ | refine zG ?_ | refine zC rfl ?_ | refine zD (zI rfl rfl rfl rfl rfl) ?_ | refine zD (zAb rfl rfl) ?_ | refine zD (zL rfl rfl rfl rfl rfl rfl) ?_)
   refine zAH rfl rfl (fun g1 => ?_) (fun g1 => ?_)
   · rw [if_pos (.inl g1)] at hR
     repeat (first | refine zD (zF rfl) ?_ | refine zD (zE rfl) ?_ | refine zB ?_ | refine zA ?_ | refine zG ?_ | refine zC rfl ?_ | refine zp rfl rfl rfl ?_ | refine zf rfl ?_ | refine zH ?_ | refine zQ ?_ | refine zo ?_ | refine zD (zr rfl rfl) ?_)
     exact zR hR rfl rfl
   repeat (first | refine zD (zF rfl) ?_ | refine zj rfl rfl ?_ | refine zD (zI rfl rfl rfl rfl rfl) ?_ | refine zD (zAb rfl rfl) ?_ | refine zD (zr rfl rfl) ?_ | refine zD (zL rfl rfl rfl rfl rfl rfl) ?_)
   refine zAH rfl rfl (fun g2 => ?_) (fun g2 => ?_)
   · rw [if_pos (.inr (.inl g2))] at hR
     repeat (first | refine zD (zE rfl) ?_ | refine zB ?_ | refine zA ?_ | refine zG ?_ | refine zC rfl ?_ | refine zp rfl rfl rfl ?_ | refine zf rfl ?_ | refine zH ?_ | refine zQ ?_ | refine zo ?_ | refine zD (zr rfl rfl) ?_)
     exact zR hR rfl rfl
   repeat (first | refine zB ?_ | refine zA ?_ | refine zj rfl rfl ?_ | refine zD (zI rfl rfl rfl rfl rfl) ?_ | refine zD (zr rfl rfl) ?_ | refine zD (zCz rfl rfl) ?_ | refine zD (zL rfl rfl rfl rfl rfl rfl) ?_)
   refine zK rfl (fun g3 => ?_) (fun g3 => ?_)
   · rw [if_pos (.inr (.inr g3))] at hR
     repeat (first | refine zD (zE rfl) ?_ | refine zB ?_ | refine zA ?_ | refine zG ?_ | refine zC rfl ?_ | refine zH ?_ | refine zQ ?_ | refine zo ?_)
     exact zR hR rfl rfl
   rw [if_neg (by
     rintro (q | q | q)
     · exact g1 q
     · exact g2 q
     · exact g3 q)] at hR
   repeat (first | refine zD (zF rfl) ?_ | refine zA ?_ | refine zG ?_ | refine zC rfl ?_ | refine zP ?_)
   refine zM rfl rfl rfl cc ?_
   repeat (first | refine zD (zF rfl) ?_ | refine zD (zE rfl) ?_ | refine zB ?_ | refine zA ?_ | refine zG ?_ | refine zC rfl ?_ | refine zD (zAb rfl rfl) ?_)
   refine zK rfl (fun h3 => ?_) (fun h3 => ?_)
   · rw [if_pos h3] at hR
     repeat (first | refine zD (zF rfl) ?_ | refine zD (zE rfl) ?_ | refine zB ?_ | refine zA ?_ | refine zG ?_ | refine zC rfl ?_ | refine zH ?_ | refine zQ ?_ | refine zo ?_)
     exact zR hR rfl rfl
   rw [if_neg h3] at hR
   repeat (first | refine zB ?_ | refine zA ?_ | refine zG ?_ | refine zC rfl ?_ | refine zP ?_ | refine zD (zI rfl rfl rfl rfl rfl) ?_ | refine zD (zAb rfl rfl) ?_ | refine zD (zw rfl rfl rfl) ?_ | refine zD (zL rfl rfl rfl rfl rfl rfl) ?_)
   refine zK rfl (fun h4 => ?_) (fun h4 => ?_)
   · rw [if_pos (by omega)] at hR
     repeat (first | refine zD (zE rfl) ?_ | refine zB ?_ | refine zA ?_ | refine zG ?_ | refine zC rfl ?_ | refine zH ?_ | refine zQ ?_ | refine zo ?_)
     exact zR hR rfl rfl
   rw [if_neg (by omega)] at hR
   repeat (first | refine zA ?_ | refine zG ?_ | refine zC rfl ?_ | refine zP ?_ | refine zD (zI rfl rfl rfl rfl rfl) ?_ | refine zD (zL rfl rfl rfl rfl rfl rfl) ?_)
   refine zM rfl rfl rfl co ?_
   repeat (first | refine zD (zE rfl) ?_ | refine zB ?_ | refine zA ?_ | refine zH ?_ | refine zQ ?_ | refine zo ?_)
   exact zR hR rfl rfl
 rw [if_neg h1] at hR
 repeat (first | refine zD (zE rfl) ?_ | refine zB ?_ | refine zA ?_ | refine zG ?_ | refine zC rfl ?_ | refine zD (zA0 rfl rfl) ?_)
 refine zK rfl (fun h2 => ?_) (fun h2 => ?_)
 · rw [if_pos h2] at hR
   repeat (first | refine zD (zF rfl) ?_ | refine zG ?_ | refine zC rfl ?_ | refine zD (zI rfl rfl rfl rfl rfl) ?_ | refine zD (zBU rfl rfl) ?_ | refine zD (zw rfl rfl rfl) ?_ | refine zD (zL rfl rfl rfl rfl rfl rfl) ?_)
   refine zAH rfl rfl (fun g1 => ?_) (fun g1 => ?_)
   · rw [if_pos (.inl (by rintro rfl; simp at g1))] at hR
     repeat (first | refine zD (zE rfl) ?_ | refine zB ?_ | refine zA ?_ | refine zG ?_ | refine zC rfl ?_ | refine zp rfl rfl rfl ?_ | refine zf rfl ?_ | refine zH ?_ | refine zQ ?_ | refine zo ?_ | refine zD (zr rfl rfl) ?_)
     exact zR hR rfl rfl
   repeat (first | refine zB ?_ | refine zA ?_ | refine zj rfl rfl ?_ | refine zD (zI rfl rfl rfl rfl rfl) ?_ | refine zD (zr rfl rfl) ?_ | refine zD (zCz rfl rfl) ?_ | refine zD (zL rfl rfl rfl rfl rfl rfl) ?_)
   refine zK rfl (fun g2 => ?_) (fun g2 => ?_)
   · rw [if_pos (.inr g2)] at hR
     repeat (first | refine zD (zE rfl) ?_ | refine zB ?_ | refine zA ?_ | refine zG ?_ | refine zC rfl ?_ | refine zH ?_ | refine zQ ?_ | refine zo ?_)
     exact zR hR rfl rfl
   rw [if_neg (by
     rintro (q | q)
     · have := List.length_pos_iff.2 q; omega
     · exact g2 q)] at hR
   repeat (first | refine zD (zF rfl) ?_ | refine zA ?_ | refine zG ?_ | refine zC rfl ?_ | refine zP ?_ | refine zD (zI rfl rfl rfl rfl rfl) ?_ | refine zD (zAb rfl rfl) ?_ | refine zD (zL rfl rfl rfl rfl rfl rfl) ?_)
   refine zAH rfl rfl (fun g3 => ?_) (fun g3 => ?_)
   · repeat (first | refine zD (zF rfl) ?_ | refine zj rfl rfl ?_ | refine zD (zI rfl rfl rfl rfl rfl) ?_ | refine zD (zAb rfl rfl) ?_ | refine zD (zr rfl rfl) ?_ | refine zD (zL rfl rfl rfl rfl rfl rfl) ?_)
     refine zAH rfl rfl (fun g4 => ?_) (fun g4 => ?_)
     · rw [if_pos (.inl ⟨g3, g4⟩)] at hR
       repeat (first | refine zD (zF rfl) ?_ | refine zD (zE rfl) ?_ | refine zB ?_ | refine zA ?_ | refine zG ?_ | refine zC rfl ?_ | refine zp rfl rfl rfl ?_ | refine zf rfl ?_ | refine zH ?_ | refine zQ ?_ | refine zo ?_ | refine zD (zr rfl rfl) ?_)
       exact zR hR rfl rfl
     repeat (first | refine zD (zF rfl) ?_ | refine zj rfl rfl ?_ | refine zD (zI rfl rfl rfl rfl rfl) ?_ | refine zD (zAQ rfl rfl) ?_ | refine zD (zr rfl rfl) ?_ | refine zD (zL rfl rfl rfl rfl rfl rfl) ?_)
     refine zAH rfl rfl (fun g5 => ?_) (fun g5 => ?_)
     · rw [if_pos (.inr (.inl g5))] at hR
       repeat (first | refine zD (zE rfl) ?_ | refine zB ?_ | refine zA ?_ | refine zG ?_ | refine zC rfl ?_ | refine zp rfl rfl rfl ?_ | refine zf rfl ?_ | refine zH ?_ | refine zQ ?_ | refine zo ?_ | refine zD (zr rfl rfl) ?_)
       exact zR hR rfl rfl
     repeat (first | refine zB ?_ | refine zA ?_ | refine zj rfl rfl ?_ | refine zD (zI rfl rfl rfl rfl rfl) ?_ | refine zD (zC2 rfl rfl) ?_ | refine zD (zr rfl rfl) ?_ | refine zD (zL rfl rfl rfl rfl rfl rfl) ?_)
     refine zK rfl (fun g6 => ?_) (fun g6 => ?_)
     · rw [if_pos (.inr (.inr g6))] at hR
       repeat (first | refine zD (zE rfl) ?_ | refine zB ?_ | refine zA ?_ | refine zG ?_ | refine zC rfl ?_ | refine zH ?_ | refine zQ ?_ | refine zo ?_)
       exact zR hR rfl rfl
     rw [if_neg (by
       rintro (q | q | q)
       · exact g4 q.2
       · exact g5 q
       · exact g6 q)] at hR
     repeat (first | refine zD (zF rfl) ?_ | refine zA ?_ | refine zG ?_ | refine zC rfl ?_ | refine zP ?_)
     refine zM rfl rfl rfl cc ?_
     repeat (first | refine zD (zE rfl) ?_ | refine zB ?_ | refine zA ?_ | refine zH ?_ | refine zQ ?_ | refine zo ?_)
     exact zR hR rfl rfl
   · repeat (first | refine zD (zF rfl) ?_ | refine zj rfl rfl ?_ | refine zp rfl rfl rfl ?_ | refine zD (zI rfl rfl rfl rfl rfl) ?_ | refine zD (zAQ rfl rfl) ?_ | refine zD (zr rfl rfl) ?_ | refine zD (zL rfl rfl rfl rfl rfl rfl) ?_)
     refine zAH rfl rfl (fun g5 => ?_) (fun g5 => ?_)
     · rw [if_pos (.inr (.inl g5))] at hR
       repeat (first | refine zD (zE rfl) ?_ | refine zB ?_ | refine zA ?_ | refine zG ?_ | refine zC rfl ?_ | refine zp rfl rfl rfl ?_ | refine zf rfl ?_ | refine zH ?_ | refine zQ ?_ | refine zo ?_ | refine zD (zr rfl rfl) ?_)
       exact zR hR rfl rfl
     repeat (first | refine zB ?_ | refine zA ?_ | refine zj rfl rfl ?_ | refine zD (zI rfl rfl rfl rfl rfl) ?_ | refine zD (zC2 rfl rfl) ?_ | refine zD (zr rfl rfl) ?_ | refine zD (zL rfl rfl rfl rfl rfl rfl) ?_)
     refine zK rfl (fun g6 => ?_) (fun g6 => ?_)
     · rw [if_pos (.inr (.inr g6))] at hR
       repeat (first | refine zD (zE rfl) ?_ | refine zB ?_ | refine zA ?_ | refine zG ?_ | refine zC rfl ?_ | refine zH ?_ | refine zQ ?_ | refine zo ?_)
       exact zR hR rfl rfl
     rw [if_neg (by
       rintro (q | q | q)
       · exact g3 q.1
       · exact g5 q
       · exact g6 q)] at hR
     repeat (first | refine zD (zF rfl) ?_ | refine zA ?_ | refine zG ?_ | refine zC rfl ?_ | refine zP ?_)
     refine zM rfl rfl rfl cc ?_
     repeat (first | refine zD (zE rfl) ?_ | refine zB ?_ | refine zA ?_ | refine zH ?_ | refine zQ ?_ | refine zo ?_)
     exact zR hR rfl rfl
 · rw [if_neg h2] at hR
   repeat (first | refine zD (zE rfl) ?_ | refine zB ?_ | refine zA ?_ | refine zG ?_ | refine zC rfl ?_ | refine zZ ?_ | refine zP ?_ | refine zH ?_)
   exact zR hR rfl rfl
end Go.Proofs.YtgmleamhjnlknaaGreatDoor
namespace Go.Ax
variable [Pins]
open Go.RowKit
/-- What keys a map has. -/
inductive KSort where
 | int (k : IntKind)
 | str
 | pair (k : IntKind)
inductive KV : KSort → Value → Prop
 | int (k n) : KV (.int k) (.int k n)
 | str (s) : KV .str (.string s)
 | pair (k a b) : KV (.pair k) (.agg #[.int k a, .int k b])
inductive KFit (P : Program) (kt : TypeId) : KSort → Prop
 | int {k} (h : P.underlying kt = some (.int k)) : KFit P kt (.int k)
 | str (h : P.underlying kt = some .string) : KFit P kt .str
 | pair {k e} (h : P.underlying kt = some (.array 2 e)) (he : P.underlying e = some (.int k)) (h1 : (P.info? e).map (·.size) = some 1) : KFit P kt (.pair k)
theorem KV.isKey {s : KSort} {v : Value} (hv : KV s v) : (∀ k, s = .int k → MapKept.IsKey (.int k) v) ∧ (s = .str → MapKept.IsKey .string v) := by
 have _pin := (inferInstance : Pins)
 cases hv
 · refine ⟨fun k h => ?_, fun h => ?_⟩
   · cases h; trivial
   · cases h
 · refine ⟨fun k h => ?_, fun h => ?_⟩
   · cases h
   · trivial
 · refine ⟨fun k h => ?_, fun h => ?_⟩
   · cases h
   · cases h
section
variable {P : Program} {kt : TypeId} {s : KSort}
theorem zDr {e : TypeId} {q : IntKind} (he : P.underlying e = some (.int q)) (w : World) (cs : Array Value) (o : Nat) {v : Value} (hv : cs[o]? = some v) : (part e cs o).run P w = .ok v w := by
 have _pin := (inferInstance : Pins)
 simp [part, isAgg, Sem.run_bind, run_underlying he, hv]
theorem zIB {e : TypeId} {q : IntKind} (h : P.underlying kt = some (.array 2 e)) (he : P.underlying e = some (.int q)) (h1 : (P.info? e).map (·.size) = some 1) (w : World) (a b c d : Int) :
   (Op.equal kt (.agg #[.int q a, .int q b]) (.agg #[.int q c, .int q d])).run P w = .ok (decide (a = c ∧ b = d)) w := by
 have _pin := (inferInstance : Pins)
 have p0 : ∀ x y : Int, (part e #[.int q x, .int q y] 0).run P w = .ok (.int q x) w := fun x y => zDr he w _ 0 rfl
 have p1 : ∀ x y : Int, (part e #[.int q x, .int q y] 1).run P w = .ok (.int q y) w := fun x y => zDr he w _ 1 rfl
 have z0 : (sizeOf e).run P w = .ok 1 w := zFb h1
 have e0 : ∀ x y : Int, (Op.equalIn 9999 e (.int q x) (.int q y)).run P w = .ok (x == y) w := fun x y => run_equalIn_int w 9998 e q q x y he
 unfold Op.equal Op.maxDepth
 rw [show (10000 : Nat) = 9999 + 1 from rfl, Op.equalIn]
 simp only [Sem.run_bind, run_underlying h, Result.andThen_ok, zFb h1]
 simp only [Std.Legacy.Range.forIn_eq_forIn_range', Std.Legacy.Range.size, Nat.sub_zero, Nat.add_sub_cancel, Nat.div_one, List.range'_succ, List.range'_zero, List.forIn_cons, List.forIn_nil]
 simp [Sem.run_bind, Result.andThen, p0, p1, z0, e0]
 by_cases g1 : a = c <;> by_cases g2 : b = d <;> simp [g1, g2, Sem.run_bind, Result.andThen, p0, p1, z0, e0]
theorem zCx (hf : KFit P kt s) {v : Value} (hv : KV s v) (w : World) (em : Bool) : (Instr.checkKey em 10000 kt v).run P w = .ok () w := by
 have _pin := (inferInstance : Pins)
 cases hv with
 | int k n => cases hf with | int h => exact MapKept.run_checkKey h (by trivial) em 9999
 | str x => cases hf with | str h => exact MapKept.run_checkKey h (by trivial) em 9999
 | pair k a b =>
   cases hf with
   | pair h he h1 =>
     rename_i e
     have p0 : ∀ x y : Int, (part e #[.int k x, .int k y] 0).run P w = .ok (.int k x) w := fun x y => zDr he w _ 0 rfl
     have p1 : ∀ x y : Int, (part e #[.int k x, .int k y] 1).run P w = .ok (.int k y) w := fun x y => zDr he w _ 1 rfl
     have z0 : (sizeOf e).run P w = .ok 1 w := zFb h1
     have c0 : ∀ x : Int, (Instr.checkKey em 9999 e (.int k x)).run P w = .ok () w := fun x => MapKept.run_checkKey he (by trivial) em 9998
     rw [show (10000 : Nat) = 9999 + 1 from rfl, Instr.checkKey]
     simp only [Sem.run_bind, run_underlying h, Result.andThen_ok, zFb h1]
     simp only [Std.Legacy.Range.forIn_eq_forIn_range', Std.Legacy.Range.size, Nat.sub_zero, Nat.add_sub_cancel, Nat.div_one, List.range'_succ, List.range'_zero, List.forIn_cons, List.forIn_nil]
     simp [Sem.run_bind, Result.andThen, p0, p1, z0, c0]
theorem zDH (hf : KFit P kt s) {x : Value} (hx : KV s x) (w : World) (es : List MapEntry) (hes : ∀ e ∈ es, KV s e.key) :
   ((Instr.findKey kt x es).run P w = .ok none w ∧ ∀ e ∈ es, e.key ≠ x) ∨ ∃ j e, (Instr.findKey kt x es).run P w = .ok (some (j, e.val)) w ∧ es[j]? = some e ∧ e.key = x := by
 have _pin := (inferInstance : Pins)
 have flat : ∀ d, P.underlying kt = some d → MapKept.IsKey d x → (∀ e ∈ es, MapKept.IsKey d e.key) → ((Instr.findKey kt x es).run P w = .ok none w ∧ ∀ e ∈ es, e.key ≠ x) ∨ ∃ j e, (Instr.findKey kt x es).run P w = .ok (some (j, e.val)) w ∧ es[j]? = some e ∧ e.key = x := by
   intro d hd hk hks
   rcases MapKept.findNow_spec hk es 0 hks with ⟨h1, h2⟩ | ⟨j, e, h1, h2, h3⟩
   · exact .inl ⟨MapKept.run_findKey hd h1, h2⟩
   · exact .inr ⟨j, e, by rw [Nat.zero_add] at h1; exact MapKept.run_findKey hd h1, h2, h3⟩
 cases hf with
 | int h => exact flat _ h (hx.isKey.1 _ rfl) (fun e he => (hes e he).isKey.1 _ rfl)
 | str h => exact flat _ h (hx.isKey.2 rfl) (fun e he => (hes e he).isKey.2 rfl)
 | pair h he h1 =>
   rename_i k e
   have hnow : ∀ (l : List MapEntry), Instr.findNow (.array 2 e) x l 0 = none ∨ l = [] := by
     intro l
     cases l with
     | nil => exact .inr rfl
     | cons a r => left; cases hx; simp [Instr.findNow, Instr.sameNow]
   have hask : ∀ (l : List MapEntry) (i : Nat), (∀ e ∈ l, KV (.pair k) e.key) → ((Instr.findAsking kt x l i).run P w = .ok none w ∧ ∀ e ∈ l, e.key ≠ x) ∨ ∃ j e, (Instr.findAsking kt x l i).run P w = .ok (some (i + j, e.val)) w ∧ l[j]? = some e ∧ e.key = x := by
     intro l
     induction l with
     | nil => intro i _; exact .inl ⟨rfl, fun e he => by cases he⟩
     | cons y r ih =>
       intro i hl
       obtain ⟨yk, yv, yb⟩ := y
       have hy : KV (.pair k) yk := hl _ (List.mem_cons_self ..)
       cases hx with
       | pair _ a b =>
         cases hy with
         | pair _ c d =>
           have heq := zIB (P := P) h he h1 w a b c d
           by_cases hac : a = c ∧ b = d
           · obtain ⟨rfl, rfl⟩ := hac
             exact .inr ⟨0, _, by simp [Instr.findAsking, Sem.run_bind, heq, Result.andThen], rfl, rfl⟩
           · have hne : (Value.agg #[.int k c, .int k d]) ≠ .agg #[.int k a, .int k b] := by
               intro q; simp at q; exact hac ⟨q.1.symm, q.2.symm⟩
             rcases ih (i + 1) (fun e he => hl e (List.mem_cons_of_mem _ he)) with ⟨g1, g2⟩ | ⟨j, e', g1, g2, g3⟩
             · refine .inl ⟨by simp [Instr.findAsking, Sem.run_bind, heq, Result.andThen, hac, g1], fun e he => ?_⟩
               rcases List.mem_cons.1 he with rfl | he
               · exact hne
               · exact g2 e he
             · exact .inr ⟨j + 1, e', by simp [Instr.findAsking, Sem.run_bind, heq, Result.andThen, hac, g1]; omega, by simpa using g2, g3⟩
   have hrun : (Instr.findKey kt x es).run P w = (Instr.findAsking kt x es 0).run P w := by
     rcases hnow es with hn | rfl
     · simp [Instr.findKey, Sem.run_bind, run_underlying h, Result.andThen, hn]
     · simp [Instr.findKey, Sem.run_bind, run_underlying h, Result.andThen, Instr.findNow, Instr.findAsking]
   rw [hrun]
   rcases hask es 0 hes with h2 | ⟨j, e', g1, g2, g3⟩
   · exact .inl h2
   · exact .inr ⟨j, e', by rw [Nat.zero_add] at g1; exact g1, g2, g3⟩
theorem zMd {v : Value} (hv : KV s v) : Instr.sameBits 10000 v v = true := by
 have _pin := (inferInstance : Pins)
 cases hv with
 | int => simp [Instr.sameBits]
 | str => simp [Instr.sameBits]; exact (MapKept.bytes_beq _ _).2 rfl
 | pair => rw [show (10000 : Nat) = 9998 + 1 + 1 from rfl]; simp [Instr.sameBits]
theorem zKh {v : Value} (hv : KV s v) (w : World) : (Instr.keyThatStays v v).run P w = .ok v w := by
 have _pin := (inferInstance : Pins)
 simp [Instr.keyThatStays, zMd hv]
end
/-- Keys, told. -/
def zCc : KSort → AV → Bool
 | .int .i64, .int .i64 _ => true
 | .str, .str _ => true
 | .pair .i64, .agg [.int .i64 _, .int .i64 _] => true
 | _, _ => false
theorem zE0 {s : KSort} {x : AV} (h : zCc s x = true) : ∃ u : Value, KV s u ∧ (∀ (w : World) (S : Nat → Prop) (σ : Nat → Option Blk) (v : Value), VR w S σ x v → v = u) ∧ (∀ y : AV, zCc s y = true → ∀ (w : World) (S : Nat → Prop) (σ : Nat → Option Blk), VR w S σ y u → y = x) := by
 have _pin := (inferInstance : Pins)
 unfold zCc at h
 split at h
 · rename_i n
   refine ⟨.int .i64 n, .int _ _, fun w S σ v hv => by cases hv; rfl, fun y hy w S σ hv => ?_⟩
   unfold zCc at hy
   split at hy <;> first | (cases hy; done) | (cases hv; rfl) | (rename_i q _; cases q; done) | (rename_i q; cases q; done) | skip
 · rename_i n
   refine ⟨zFd n, .str _, fun w S σ v hv => by cases hv; rfl, fun y hy w S σ hv => ?_⟩
   unfold zCc at hy
   split at hy <;> first | (cases hy; done) | (rename_i q _; cases q; done) | (rename_i q; cases q; done) | skip
   rename_i m _
   generalize hz : zFd n = z at hv
   cases hv
   unfold zFd at hz
   simp at hz
   rw [hz]
 · rename_i a b
   refine ⟨.agg #[.int .i64 a, .int .i64 b], .pair _ _ _, fun w S σ v hv => ?_, fun y hy w S σ hv => ?_⟩
   · cases hv with
     | agg _ _ vs hl hv h1 =>
       obtain ⟨l⟩ := vs
       have hl' : l.length = 2 := by simpa using hl
       match l, hl' with
       | [x, y], _ =>
         have q0 := hv 0 (by simp)
         have q1 := hv 1 (by simp)
         simp at q0 q1
         cases q0; cases q1; rfl
   · unfold zCc at hy
     split at hy <;> first | (cases hy; done) | (rename_i q _; cases q; done) | (rename_i q; cases q; done) | skip
     cases hv with
     | agg _ _ vs hl hv h1 =>
       have q0 := hv 0 (by simp)
       have q1 := hv 1 (by simp)
       simp at q0 q1
       cases q0; cases q1; rfl
 · cases h
/-- What a map holds. -/
def zJv (H : zg) : AV → Option (List AV × List AV)
 | .mp h => match H[h]? with
   | some (some o) => match o.c with
     | .mp ks vs => some (ks, vs)
     | _ => none
   | _ => none
 | .rom ks vs => some (ks, vs)
 | _ => none
theorem Rep.map {c : Ctx} {w : World} {a : Act} {σ : Nat → Option Blk} {S : Nat → Prop} {n : Nat} {fr : Fr} {H : zg} (hr : Rep c w a σ S n fr H) {x : AV} {v : Value} {ks vs : List AV} (hv : VR w S σ x v) (hm : zJv H x = some (ks, vs)) :
   ∃ b es clock, v = .map (some b) ∧ w.heap[b]? = some (.map es clock) ∧ es.size = ks.length ∧ vs.length = ks.length ∧ es.toList.Pairwise (fun x y => x.key ≠ y.key) ∧ ∀ i, i < ks.length → ∃ e, es[i]? = some e ∧ VR w S σ (ks.getD i .any) e.key ∧ VR w S σ (vs.getD i .any) e.val := by
 cases hv <;> simp only [zJv] at hm <;> try (cases hm; done)
 case mp h b hσ =>
   cases hq : H[h]? with
   | none => simp [hq] at hm
   | some oo => cases oo with
     | none => simp [hq] at hm
     | some o =>
       simp only [hq] at hm
       rcases hr.hr.live h o hq with ⟨hn, _⟩ | ⟨b', C', cur, hσ', g1, g2, g3, g4, g5, g6⟩
       · rw [hσ] at hn; cases hn
       · rw [hσ] at hσ'
         simp only [Option.some.injEq, Blk.at.injEq] at hσ'
         obtain ⟨rfl, hsz, rfl⟩ := hσ'
         cases g1 with
         | row mk _ _ hC => omega
         | map ks' vs' es clock hc _ hb hn hl hd he =>
           rw [hc] at hm
           simp only [Option.some.injEq, Prod.mk.injEq] at hm
           obtain ⟨rfl, rfl⟩ := hm
           exact ⟨b, es, clock, rfl, hb, hn, hl, hd, he⟩
 case rom ks' vs' b es clock e hS hb hn hl hd he hk hv =>
   simp only [Option.some.injEq, Prod.mk.injEq] at hm
   obtain ⟨rfl, rfl⟩ := hm
   exact ⟨b, es, clock, rfl, hb, hn, hl, hd, fun i hi => ⟨e i, he i hi, (hk i hi).mono (fun _ h => h) (fun _ _ => rfl) _ (fun _ _ h => by cases h), (hv i hi).mono (fun _ h => h) (fun _ _ => rfl) _ (fun _ _ h => by cases h)⟩⟩
section
variable {ind : Bool} {P : Program} {fn : Func} {c : Ctx} {fr : Fr} {H : zg} {k : List It} {d : Option Nat} {ty : TypeId} {pos : String} {after : Array Edge} {g : Option (Nat × Bool)}
theorem zF8 {w : World} {S : Nat → Prop} {σ : Nat → Option Blk} {s : KSort} {ks : List AV} {es : Array MapEntry} (hks : ∀ x ∈ ks, zCc s x = true) (hn : es.size = ks.length) (he : ∀ i, i < ks.length → ∃ e, es[i]? = some e ∧ VR w S σ (ks.getD i .any) e.key) : ∀ e ∈ es.toList, KV s e.key := by
 have _pin := (inferInstance : Pins)
 intro e hm
 obtain ⟨i, hi, rfl⟩ := List.getElem_of_mem hm
 have hi' : i < ks.length := by simpa [hn] using hi
 obtain ⟨e', e1, e2⟩ := he i hi'
 have hmem : ks.getD i .any ∈ ks := by simp [List.getD, hi']
 obtain ⟨u, u1, u2, _⟩ := zE0 (hks _ hmem)
 have : es.toList[i] = e' := by
   have h3 : es.toList[i]? = some e' := by simpa using e1
   rw [List.getElem?_eq_getElem hi] at h3
   exact Option.some.inj h3
 rw [this, u2 _ _ _ _ e2]
 exact u1
/-- m[key], where the key is there. -/
theorem zB3 {t kt et : TypeId} {x ix : Operand} {ok : Bool} {m kk v : AV} {ks vs : List AV} {s : KSort} (ht : P.underlying t = some (.map kt et)) (hf : KFit P kt s) (hx : ev fr x = some m) (hm : zJv H m = some (ks, vs)) (hi : ev fr ix = some kk) (hk : zCc s kk = true) (hks : ∀ x ∈ ks, zCc s x = true)
   (i : Nat) (h1 : ks[i]? = some kk) (h2 : vs[i]? = some v) : QOp false P fn c fr H ⟨d, .lookup t x ix ok, ty, pos, after, g⟩ (bif ok then .tup [v, .bool true] else v) := by
 intro w a σ S hr
 have e1 := hr.evAt hx
 have e2 := hr.evAt hi
 obtain ⟨b, es, clock, q1, q2, q3, q4, q5, q6⟩ := hr.map e1 hm
 obtain ⟨u, u1, u2, u3⟩ := zE0 hk
 have q7 := u2 _ _ _ _ e2
 have hil : i < ks.length := (List.getElem?_eq_some_iff.1 h1).1
 obtain ⟨e0, p1, p2, p3⟩ := q6 i hil
 have g1 : ks.getD i .any = kk := by simp [List.getD, h1]
 have g2 : vs.getD i .any = v := by simp [List.getD, h2]
 rw [g1] at p2
 rw [g2] at p3
 have p4 := u2 _ _ _ _ p2
 have hkeys := zF8 hks q3 (fun i hi => let ⟨e, a, b, _⟩ := q6 i hi; ⟨e, a, b⟩)
 have hval : ∀ w' : World, w'.heap = w.heap → (Instr.lookup t (a.eval x) (a.eval ix) ok).run P w' = .ok (if ok then .tuple #[e0.val, .bool true] else e0.val) w' := by
   intro w' hw
   have hb' : w'.heap[b]? = some (.map es clock) := by rw [hw]; exact q2
   rw [q1, q7]
   rcases zDH hf u1 w' es.toList hkeys with ⟨r1, r2⟩ | ⟨j, e', r1, r2, r3⟩
   · exact absurd p4 (r2 e0 (by have := List.mem_of_getElem? (l := es.toList) (by simpa using p1); exact this))
   · have : e' = e0 := by
       have hj := List.getElem?_eq_some_iff.1 r2
       have hi3 := List.getElem?_eq_some_iff.1 (show es.toList[i]? = some e0 by simpa using p1)
       obtain ⟨j1, j2⟩ := hj
       obtain ⟨i1, i2⟩ := hi3
       rcases Nat.lt_trichotomy i j with hlt | rfl | hlt
       · exact absurd (by rw [i2, j2, p4, r3]) (List.pairwise_iff_getElem.1 q5 i j i1 j1 hlt)
       · rw [← i2, ← j2]
       · exact absurd (by rw [i2, j2, p4, r3]) (List.pairwise_iff_getElem.1 q5 j i j1 i1 hlt)
     subst this
     simp [Instr.lookup, Sem.run_bind, run_underlying ht, Result.andThen, MapKept.run_getObj_map hb', zCx hf u1, r1]
 refine ⟨if ok then .tuple #[e0.val, .bool true] else e0.val, ?_, fun w' hw => ?_⟩
 · cases ok with
   | false => exact p3
   | true =>
     refine .tup _ _ _ rfl (fun j hj => ?_)
     match j, hj with
     | 0, _ => exact p3
     | 1, _ => exact .bool _ _
 · have hw := hw.resolve_left (by decide)
   simp only [execOp, Sem.run_bind, hval w' hw]
   rfl
/-- .. where it is not. -/
theorem zD7 {t kt et : TypeId} {x ix : Operand} {ok : Bool} {m kk zv : AV} {ks vs : List AV} {s : KSort} {inf : TypeInfo} {z : Value} (ht : P.underlying t = some (.map kt et)) (hf : KFit P kt s) (hinf : P.info? et = some inf) (hz : inf.zero = some z) (hzv : zav z = some [zv]) (hz1 : z.cells = #[z]) (hx : ev fr x = some m) (hm : zJv H m = some (ks, vs)) (hi : ev fr ix = some kk) (hk : zCc s kk = true) (hks : ∀ x ∈ ks, zCc s x = true)
   (h1 : kk ∉ ks) : QOp false P fn c fr H ⟨d, .lookup t x ix ok, ty, pos, after, g⟩ (bif ok then .tup [zv, .bool false] else zv) := by
 intro w a σ S hr
 have e1 := hr.evAt hx
 have e2 := hr.evAt hi
 obtain ⟨b, es, clock, q1, q2, q3, q4, q5, q6⟩ := hr.map e1 hm
 obtain ⟨u, u1, u2, u3⟩ := zE0 hk
 have q7 := u2 _ _ _ _ e2
 have hkeys := zF8 hks q3 (fun i hi => let ⟨e, a, b, _⟩ := q6 i hi; ⟨e, a, b⟩)
 have hno : ∀ e ∈ es.toList, e.key ≠ u := by
   intro e hm' he
   obtain ⟨i, hi', rfl⟩ := List.getElem_of_mem hm'
   have hil : i < ks.length := by simpa [q3] using hi'
   obtain ⟨e', p1, p2, _⟩ := q6 i hil
   have : es.toList[i] = e' := by
     have h3 : es.toList[i]? = some e' := by simpa using p1
     rw [List.getElem?_eq_getElem hi'] at h3
     exact Option.some.inj h3
   rw [this] at he
   rw [he] at p2
   have hmem : ks.getD i .any ∈ ks := by simp [List.getD, hil]
   have := u3 _ (hks _ hmem) _ _ _ p2
   rw [this] at hmem
   exact h1 hmem
 have hval : ∀ w' : World, w'.heap = w.heap → (Instr.lookup t (a.eval x) (a.eval ix) ok).run P w' = .ok (if ok then .tuple #[z, .bool false] else z) w' := by
   intro w' hw
   have hb' : w'.heap[b]? = some (.map es clock) := by rw [hw]; exact q2
   have hzr : (zeroValue et).run P w' = .ok z w' := by simp [zeroValue, Sem.run_bind, typeInfo, hinf, hz]
   rw [q1, q7]
   rcases zDH hf u1 w' es.toList hkeys with ⟨r1, r2⟩ | ⟨j, e', r1, r2, r3⟩
   · simp [Instr.lookup, Sem.run_bind, run_underlying ht, Result.andThen, MapKept.run_getObj_map hb', zCx hf u1, r1, hzr]
   · exact absurd r3 (hno e' (List.mem_of_getElem? r2))
 have hzz : VR w S σ zv z := by
   have := (zEM (w := w) (S := S) (σ := σ) hzv).2 0 (by simp)
   rw [hz1] at this
   simpa using this.1
 refine ⟨if ok then .tuple #[z, .bool false] else z, ?_, fun w' hw => ?_⟩
 · cases ok with
   | false => exact hzz
   | true =>
     refine .tup _ _ _ rfl (fun j hj => ?_)
     match j, hj with
     | 0, _ => exact hzz
     | 1, _ => exact .bool _ _
 · have hw := hw.resolve_left (by decide)
   simp only [execOp, Sem.run_bind, hval w' hw]
   rfl
end
theorem Rep.allocL {c : Ctx} {w : World} {a : Act} {σ : Nat → Option Blk} {S : Nat → Prop} {n : Nat} {fr : Fr} {H : zg} (hr : Rep c w a σ S n fr H) {o : AObj} {C : Nat} {cur : Array Value} (ob : Obj) (hlen : o.c.len ≤ C) (hC : C ≤ maxLen + 1) (hcur : cur.size = C * o.c.sz) (hL : Lays (w.alloc ob) S (upσ σ H.length (.at w.heap.size o.c.sz C)) o w.heap.size cur C)
   (hc : ∀ i j, i < o.c.len → j < o.c.sz → ∃ v, cur[i * o.c.sz + j]? = some v ∧ VR w S σ (o.c.at i j) v ∧ v.oneCell' = true) :
   Rep c (w.alloc ob) a (upσ σ H.length (.at w.heap.size o.c.sz C)) S n fr (H ++ [some o]) := by
 have hold : ∀ b, b < w.heap.size → (w.alloc ob).heap[b]? = w.heap[b]? := fun b hb => Below.heap_alloc _ _ b hb
 have hext : ∀ h B, σ h = some B → upσ σ H.length (.at w.heap.size o.c.sz C) h = some B := by
   intro h B hB
   unfold upσ
   split
   · rename_i he; rw [he, hr.hr.dom _ (Nat.le_refl _)] at hB; cases hB
   · exact hB
 have hv : ∀ {x v}, VR w S σ x v → VR (w.alloc ob) S (upσ σ H.length (.at w.heap.size o.c.sz C)) x v :=
   fun h => h.mono (fun _ h => h) (fun b hb => hold b (hr.hr.small b hb)) _ hext
 have hset : ∀ h' o', (H ++ [some o])[h']? = some (some o') → (h' = H.length ∧ o' = o) ∨ (h' < H.length ∧ H[h']? = some (some o')) := by
   intro h' o' ho
   by_cases he : h' < H.length
   · rw [List.getElem?_append_left he] at ho; exact .inr ⟨he, ho⟩
   · by_cases he2 : h' = H.length
     · subst he2; simp at ho; exact .inl ⟨rfl, ho.symm⟩
     · have : (H ++ [some o]).length ≤ h' := by simp; omega
       rw [List.getElem?_eq_none this] at ho; cases ho
 have hσlt : ∀ h o' b s C', h < H.length → H[h]? = some (some o') → σ h = some (.at b s C') → b < w.heap.size := by
   intro h o' b s C' _ ho hb
   obtain ⟨_, cu, g, _⟩ := hr.obj ho hb
   exact g.lt
 refine ⟨⟨?_, ?_, fun b hb => by have := hr.hr.small b hb; simp; omega, fun h hl => ?_⟩, ?_, hr.defers, hr.size, fun t v hl => ⟨(hr.slots t v hl).1, hv (hr.slots t v hl).2⟩⟩
 · intro h' o' ho
   rcases hset h' o' ho with ⟨rfl, rfl⟩ | ⟨hlt, ho'⟩
   · right
     refine ⟨w.heap.size, C, cur, by simp [upσ], hL, hcur, hC, hlen, fun hs => Nat.lt_irrefl _ (hr.hr.small _ hs), fun i j hi hj => ?_⟩
     obtain ⟨v, e1, e2, e3⟩ := hc i j hi hj
     exact ⟨v, e1, hv e2, e3⟩
   · rcases hr.hr.live h' o' ho' with ⟨hn, hl0⟩ | ⟨b', C', cu, g1, g2, g3, g4, g5, g6, g7⟩
     · exact .inl ⟨hext _ _ hn, hl0⟩
     · right
       refine ⟨b', C', cu, hext _ _ g1, g2.mono (hold b' g2.lt) hv, g3, g4, g5, g6, fun i j hi hj => ?_⟩
       obtain ⟨v, e1, e2, e3⟩ := g7 i j hi hj
       exact ⟨v, e1, hv e2, e3⟩
 · intro h1 h2 o1 o2 b s1 C1 s2 C2 g1 g2 e1 e2
   rcases hset h1 o1 g1 with ⟨rfl, rfl⟩ | ⟨l1, g1'⟩ <;> rcases hset h2 o2 g2 with ⟨rfl, rfl⟩ | ⟨l2, g2'⟩
   · rfl
   · simp only [upσ, if_true, Option.some.injEq, Blk.at.injEq] at e1
     simp only [upσ, Nat.ne_of_lt l2, if_false] at e2
     have := hσlt h2 o2 b s2 C2 l2 g2' e2
     omega
   · simp only [upσ, if_true, Option.some.injEq, Blk.at.injEq] at e2
     simp only [upσ, Nat.ne_of_lt l1, if_false] at e1
     have := hσlt h1 o1 b s1 C1 l1 g1' e1
     omega
   · simp only [upσ, Nat.ne_of_lt l1, Nat.ne_of_lt l2, if_false] at e1 e2
     exact hr.hr.dist h1 h2 o1 o2 b s1 C1 s2 C2 g1' g2' e1 e2
 · simp only [List.length_append, List.length_cons, List.length_nil] at hl
   have : ¬ h = H.length := by omega
   simp only [upσ, this, if_false]
   exact hr.hr.dom h (by omega)
 · refine ⟨hr.kp.os, hr.kp.output, hr.kp.tape, by have := hr.kp.size; simp; omega, fun b hb ho => ?_, hr.kp.S1, hr.kp.S2, fun h hf => ?_, fun h hf => by have := hr.kp.fixlt h hf; simp; omega, ?_⟩
   · rw [hold b (by have := hr.kp.size; omega)]; exact hr.kp.block b hb ho
   · have := hr.kp.fixlt h hf
     have h2 : ¬ h = H.length := by omega
     simp only [upσ, h2, if_false]
     exact hr.kp.fixed h hf
   · intro h' o' b s C' ho hb
     rcases hset h' o' ho with ⟨rfl, rfl⟩ | ⟨hlt, ho'⟩
     · simp only [upσ, if_true, Option.some.injEq, Blk.at.injEq] at hb
       have := hr.kp.size
       omega
     · simp only [upσ, Nat.ne_of_lt hlt, if_false] at hb
       exact hr.kp.own h' o' b s C' ho' hb
theorem Rep.reobj {c : Ctx} {w : World} {a : Act} {σ : Nat → Option Blk} {S : Nat → Prop} {n : Nat} {fr : Fr} {H : zg} (hr : Rep c w a σ S n fr H) {h b s C : Nat} {o : AObj} (hh : H[h]? = some (some o)) (hσ : σ h = some (.at b s C))
   {c' : Cells} {cur' : Array Value} (w' : World) (hos : w'.os = w.os) (hout : w'.output = w.output) (htape : w'.tape = w.tape) (hsize : w'.heap.size = w.heap.size) (hoth : ∀ b', b' ≠ b → w'.heap[b']? = w.heap[b']?) (hsz : c'.sz = o.c.sz) (hlen : c'.len ≤ C) (hcur : cur'.size = C * o.c.sz)
   (hc : ∀ i j, i < c'.len → j < c'.sz → ∃ v, cur'[i * c'.sz + j]? = some v ∧ VR w S σ (c'.at i j) v ∧ v.oneCell' = true) (hL : Lays w' S σ ⟨o.ty, c'⟩ b cur' C) :
   Rep c w' a σ S n fr (H.set h (some ⟨o.ty, c'⟩)) := by
 obtain ⟨hs, cur, h1, h2, h3, h4, h5, h6⟩ := hr.obj hh hσ
 have hlt : h < H.length := (List.getElem?_eq_some_iff.1 hh).1
 have hS : ∀ b', S b' → w'.heap[b']? = w.heap[b']? := fun b' hb => hoth b' (fun e => h5 (e ▸ hb))
 have hv : ∀ {σ' : Nat → Option Blk} {x v}, VR w S σ' x v → VR w' S σ' x v := fun h => h.mono (fun _ h => h) hS _ (fun _ _ h => h)
 have hset : ∀ h' o', (H.set h (some ⟨o.ty, c'⟩))[h']? = some (some o') → (h' = h ∧ o' = ⟨o.ty, c'⟩) ∨ (h' ≠ h ∧ H[h']? = some (some o')) := by
   intro h' o' ho
   by_cases he : h' = h
   · subst he
     simp only [List.getElem?_set_self hlt, Option.some.injEq] at ho
     exact .inl ⟨rfl, ho.symm⟩
   · rw [List.getElem?_set_ne (Ne.symm he)] at ho
     exact .inr ⟨he, ho⟩
 have hown := hr.kp.own h o b s C hh hσ
 refine ⟨⟨?_, ?_, fun b' hb => by rw [hsize]; exact hr.hr.small b' hb, fun h' hl => hr.hr.dom h' (by simpa using hl)⟩, ?_, hr.defers, hr.size, fun t v hl => ⟨(hr.slots t v hl).1, hv (hr.slots t v hl).2⟩⟩
 · intro h' o' ho
   rcases hset h' o' ho with ⟨rfl, rfl⟩ | ⟨hne, ho'⟩
   · right
     refine ⟨b, C, cur', ?_, hL, by simpa [hsz] using hcur, h3, hlen, h5, fun i j hi hj => ?_⟩
     · rw [hσ, hs, hsz]
     · obtain ⟨v, e1, e2, e3⟩ := hc i j hi hj
       exact ⟨v, e1, hv e2, e3⟩
   · rcases hr.hr.live h' o' ho' with hn | ⟨b', C', cu, g1, g2, g3, g4, g5, g6, g7⟩
     · exact .inl hn
     · right
       have hbb : b' ≠ b := fun e => hne (hr.hr.dist h' h o' o b' o'.c.sz C' s C ho' hh g1 (by rw [hσ, e]))
       refine ⟨b', C', cu, g1, g2.mono (hoth b' hbb) hv, g3, g4, g5, g6, fun i j hi hj => ?_⟩
       obtain ⟨v, e1, e2, e3⟩ := g7 i j hi hj
       exact ⟨v, e1, hv e2, e3⟩
 · intro h1' h2' o1 o2 b' s1 C1 s2 C2 g1 g2 e1 e2
   have t1 : ∃ o, H[h1']? = some (some o) := by
     rcases hset h1' o1 g1 with ⟨rfl, _⟩ | ⟨_, g⟩
     · exact ⟨_, hh⟩
     · exact ⟨_, g⟩
   have t2 : ∃ o, H[h2']? = some (some o) := by
     rcases hset h2' o2 g2 with ⟨rfl, _⟩ | ⟨_, g⟩
     · exact ⟨_, hh⟩
     · exact ⟨_, g⟩
   obtain ⟨_, t1⟩ := t1
   obtain ⟨_, t2⟩ := t2
   exact hr.hr.dist h1' h2' _ _ b' s1 C1 s2 C2 t1 t2 e1 e2
 · refine ⟨hos.trans hr.kp.os, hout.trans hr.kp.output, htape.trans hr.kp.tape, by rw [hsize]; exact hr.kp.size, fun b' hb ho => ?_, hr.kp.S1, hr.kp.S2, hr.kp.fixed, fun h' hf => by simpa using hr.kp.fixlt h' hf, ?_⟩
   · have hbb : b' ≠ b := by
       rintro rfl
       rcases hown with h | h
       · exact ho h
       · omega
     rw [hoth b' hbb]
     exact hr.kp.block b' hb ho
   · intro h' o' b' s' C' ho hb
     rcases hset h' o' ho with ⟨rfl, _⟩ | ⟨_, g⟩
     · exact hr.kp.own _ _ b' s' C' hh hb
     · exact hr.kp.own h' o' b' s' C' g hb
section
variable {ind : Bool} {P : Program} {fn : Func} {c : Ctx} {fr : Fr} {H : zg} {k : List It} {d : Option Nat} {ty : TypeId} {pos : String} {after : Array Edge} {g : Option (Nat × Bool)}
/-- A new map. -/
theorem zES {all : Array Oper} {d : Nat} {t : TypeId} {rest : List Oper} (hk : Ax P fn c (.ops false all rest k) ((d, .mp H.length) :: fr) (H ++ [some ⟨t, .mp [] []⟩])) : Ax P fn c (.ops false all (⟨some d, .makeMap t none, ty, pos, after, none⟩ :: rest) k) fr H := by
 refine ax_w (fun w a σ S hr => ?_) hk
 have hrun : (execOp a.eval ⟨some d, .makeMap t none, ty, pos, after, none⟩).run P w = .ok (.value (.map (some w.heap.size))) (w.alloc (.map #[] 0)) := by
   simp [execOp, Instr.makeMap, Sem.run_bind, newObj, Sem.run, Result.andThen]
 refine ⟨_, _, _, S, hrun, hr.allocL (o := ⟨t, .mp [] []⟩) (C := maxLen + 1) (cur := #[]) (.map #[] 0) (Nat.zero_le _) (Nat.le_refl _) rfl (.map [] [] #[] 0 rfl rfl (MapKept.heap_alloc w _).1 rfl rfl (by simp) (fun i hi => absurd hi (Nat.not_lt_zero _))) (fun i j hi => absurd hi (Nat.not_lt_zero _)), ?_⟩
 exact .mp _ _ _ (by simp [upσ, Cells.sz])
theorem Rep.own_map {w : World} {a : Act} {σ : Nat → Option Blk} {S : Nat → Prop} {n : Nat} (hr : Rep c w a σ S n fr H) {h : Nat} {x : Value} {t : TypeId} {ks vs : List AV} (hv : VR w S σ (.mp h) x) (hh : H[h]? = some (some ⟨t, .mp ks vs⟩)) :
   ∃ b es clock, x = .map (some b) ∧ σ h = some (.at b 0 (maxLen + 1)) ∧ w.heap[b]? = some (.map es clock) ∧ es.size = ks.length ∧ vs.length = ks.length ∧ es.toList.Pairwise (fun x y => x.key ≠ y.key) ∧ ∀ i, i < ks.length → ∃ e, es[i]? = some e ∧ VR w S σ (ks.getD i .any) e.key ∧ VR w S σ (vs.getD i .any) e.val := by
 have hσ : ∃ b, x = .map (some b) ∧ σ h = some (.at b 0 (maxLen + 1)) := by cases hv with | mp _ _ b hσ => exact ⟨b, rfl, hσ⟩
 obtain ⟨b, rfl, hσ⟩ := hσ
 obtain ⟨b2, es, clock, q1, q2⟩ := hr.map (ks := ks) (vs := vs) hv (by simp only [zJv, hh])
 simp at q1
 subst q1
 exact ⟨_, es, clock, rfl, hσ, q2⟩
theorem find_at {es : Array MapEntry} {u : Value} {i j : Nat} {e e' : MapEntry} (hd : es.toList.Pairwise (fun x y => x.key ≠ y.key)) (h1 : es[i]? = some e) (h2 : e.key = u) (h3 : es.toList[j]? = some e') (h4 : e'.key = u) : i = j := by
 have _pin := (inferInstance : Pins)
 obtain ⟨j1, j2⟩ := List.getElem?_eq_some_iff.1 h3
 obtain ⟨i1, i2⟩ := List.getElem?_eq_some_iff.1 (show es.toList[i]? = some e by simpa using h1)
 rcases Nat.lt_trichotomy i j with hlt | rfl | hlt
 · exact absurd (by rw [i2, j2, h2, h4]) (List.pairwise_iff_getElem.1 hd i j i1 j1 hlt)
 · rfl
 · exact absurd (by rw [i2, j2, h2, h4]) (List.pairwise_iff_getElem.1 hd j i j1 i1 hlt)
/-- m[key] = v, where the key is there. -/
theorem zIA {all : Array Oper} {t kt et t' : TypeId} {x ix y : Operand} {rest : List Oper} {h : Nat} {kk v : AV} {ks vs : List AV} {s : KSort} (ht : P.underlying t = some (.map kt et)) (hf : KFit P kt s) (hx : ev fr x = some (.mp h)) (hh : H[h]? = some (some ⟨t', .mp ks vs⟩)) (hi : ev fr ix = some kk) (hy : ev fr y = some v) (hk : zCc s kk = true) (hks : ∀ x ∈ ks, zCc s x = true)
   (i : Nat) (h1 : ks[i]? = some kk) (hk' : Ax P fn c (.ops false all rest k) fr (H.set h (some ⟨t', .mp ks (vs.set i v)⟩))) : Ax P fn c (.ops false all (⟨none, .mapUpdate t x ix y, ty, pos, after, none⟩ :: rest) k) fr H := by
 refine ax_w0 (fun w a σ S hr => ?_) hk'
 have e1 := hr.evAt hx
 have e2 := hr.evAt hi
 have e3 := hr.evAt hy
 obtain ⟨b, es, clock, q1, hσ, q2, q3, q4, q5, q6⟩ := hr.own_map e1 hh
 obtain ⟨u, u1, u2, u3⟩ := zE0 hk
 have q7 := u2 _ _ _ _ e2
 have hil : i < ks.length := (List.getElem?_eq_some_iff.1 h1).1
 obtain ⟨e0, p1, p2, p3⟩ := q6 i hil
 have g1 : ks.getD i .any = kk := by simp [List.getD, h1]
 rw [g1] at p2
 have p4 := u2 _ _ _ _ p2
 have hkeys := zF8 hks q3 (fun i hi => let ⟨e, a, b, _⟩ := q6 i hi; ⟨e, a, b⟩)
 have hie : i < es.size := by omega
 have hrun : (Instr.mapUpdate t (a.eval x) (a.eval ix) (a.eval y)).run P w = .ok () { w with heap := w.heap.setIfInBounds b (.map (es.modify i fun e => { e with key := u, val := a.eval y }) clock) } := by
   rw [q1, q7]
   rcases zDH hf u1 w es.toList hkeys with ⟨r1, r2⟩ | ⟨j, e', r1, r2, r3⟩
   · exact absurd p4 (r2 e0 (List.mem_of_getElem? (l := es.toList) (by simpa using p1)))
   · have hij := find_at q5 p1 p4 r2 r3
     subst hij
     have : ((es[i]?).map (·.key)).getD u = u := by rw [p1]; simpa using p4
     simp only [Instr.mapUpdate, Sem.run_bind, run_underlying ht, Result.andThen_ok, MapKept.run_getObj_map q2, zCx hf u1, r1, this, zKh u1, MapKept.run_setObj_map _ q2]
 have hset := MapKept.heap_set (o' := .map (es.modify i fun e => { e with key := u, val := a.eval y }) clock) q2
 generalize hw' : ({ w with heap := w.heap.setIfInBounds b (.map (es.modify i fun e => { e with key := u, val := a.eval y }) clock) } : World) = w' at hrun
 have hwh : w'.heap = w.heap.setIfInBounds b (.map (es.modify i fun e => { e with key := u, val := a.eval y }) clock) := by rw [← hw']
 have hnS : ¬ S b := (hr.obj hh hσ).2.choose_spec.2.2.2.2.1
 have hoth : ∀ b', b' ≠ b → w'.heap[b']? = w.heap[b']? := fun b' hb => by rw [hwh]; exact hset.2 b' hb
 have hv : ∀ {x v}, VR w S σ x v → VR w' S σ x v := fun hv => hv.mono (fun _ h => h) (fun b' hb => hoth b' (fun e => hnS (e ▸ hb))) _ (fun _ _ h => h)
 have hkey : ∀ (j : Nat) (e : MapEntry), es[j]? = some e → (if j = i then ({ e with key := u, val := a.eval y } : MapEntry) else e).key = e.key := by
   intro j e hj
   split
   · rename_i hji; subst hji; rw [p1] at hj; cases hj; exact p4.symm
   · rfl
 have hmod : ∀ j : Nat, (es.modify i fun e => { e with key := u, val := a.eval y })[j]? = (es[j]?).map (fun e => if j = i then ({ e with key := u, val := a.eval y } : MapEntry) else e) := by
   intro j
   rw [Array.getElem?_modify]
   by_cases hij : i = j
   · subst hij; simp
   · have : ¬ j = i := fun e => hij e.symm
     simp [hij, this]
 refine ⟨w', σ, S, by simp only [execOp, Sem.run_bind, hrun]; rfl, hr.reobj (o := ⟨t', .mp ks vs⟩) hh hσ (c' := .mp ks (vs.set i v)) (cur' := #[]) w' (by rw [← hw']) (by rw [← hw']) (by rw [← hw']) (by rw [hwh]; simp) hoth rfl (Nat.zero_le _) rfl (fun i j hi => absurd hi (Nat.not_lt_zero _))
   (.map ks (vs.set i v) _ clock rfl rfl (by rw [hwh]; exact hset.1) (by simpa using q3) (by simpa using q4) ?_ (fun j hj => ?_))⟩
 · rw [List.pairwise_iff_getElem] at q5 ⊢
   intro a1 b1 ha hb hab
   have hsz : (es.modify i fun e => { e with key := u, val := a.eval y }).toList.length = es.toList.length := by simp
   have ka : ∀ (j : Nat) (hj : j < (es.modify i fun e => { e with key := u, val := a.eval y }).toList.length) (hj2 : j < es.toList.length), ((es.modify i fun e => { e with key := u, val := a.eval y }).toList[j]).key = (es.toList[j]).key := by
     intro j hj hj2
     have h5 := hmod j
     have hj3 : es[j]? = some (es.toList[j]) := by
       have h8 : es.toList[j]? = some (es.toList[j]) := List.getElem?_eq_getElem hj2
       rw [Array.getElem?_toList] at h8
       exact h8
     rw [hj3] at h5
     simp only [Option.map_some] at h5
     have h6 : (es.modify i fun e => { e with key := u, val := a.eval y }).toList[j]? = some ((es.modify i fun e => { e with key := u, val := a.eval y }).toList[j]) := List.getElem?_eq_getElem hj
     have h7 : (es.modify i fun e => { e with key := u, val := a.eval y }).toList[j]? = some (if j = i then ({ es.toList[j] with key := u, val := a.eval y } : MapEntry) else es.toList[j]) := by
       rw [Array.getElem?_toList]; exact h5
     rw [h6] at h7
     rw [Option.some.inj h7]
     exact hkey j _ hj3
   rw [ka a1 ha (by omega), ka b1 hb (by omega)]
   exact q5 a1 b1 (by omega) (by omega) hab
 · obtain ⟨e, r1, r2, r3⟩ := q6 j hj
   refine ⟨if j = i then ({ e with key := u, val := a.eval y } : MapEntry) else e, by rw [hmod j, r1]; rfl, ?_, ?_⟩
   · rw [hkey j e r1]; exact hv r2
   · by_cases hji : j = i
     · subst hji
       simp only [if_true]
       have : (vs.set j v).getD j .any = v := by simp [List.getD, show j < vs.length by omega]
       rw [this]; exact hv e3
     · simp only [hji, if_false]
       have : (vs.set i v).getD j .any = vs.getD j .any := by simp [List.getD, List.getElem?_set_ne (Ne.symm hji)]
       rw [this]; exact hv r3
/-- .. where it is not. -/
theorem zCP {all : Array Oper} {t kt et t' : TypeId} {x ix y : Operand} {rest : List Oper} {h : Nat} {kk v : AV} {ks vs : List AV} {s : KSort} (ht : P.underlying t = some (.map kt et)) (hf : KFit P kt s) (hx : ev fr x = some (.mp h)) (hh : H[h]? = some (some ⟨t', .mp ks vs⟩)) (hi : ev fr ix = some kk) (hy : ev fr y = some v) (hk : zCc s kk = true) (hks : ∀ x ∈ ks, zCc s x = true)
   (h1 : kk ∉ ks) (hk' : Ax P fn c (.ops false all rest k) fr (H.set h (some ⟨t', .mp (ks ++ [kk]) (vs ++ [v])⟩))) : Ax P fn c (.ops false all (⟨none, .mapUpdate t x ix y, ty, pos, after, none⟩ :: rest) k) fr H := by
 refine ax_w0 (fun w a σ S hr => ?_) hk'
 have e1 := hr.evAt hx
 have e2 := hr.evAt hi
 have e3 := hr.evAt hy
 obtain ⟨b, es, clock, q1, hσ, q2, q3, q4, q5, q6⟩ := hr.own_map e1 hh
 obtain ⟨u, u1, u2, u3⟩ := zE0 hk
 have q7 := u2 _ _ _ _ e2
 have hkeys := zF8 hks q3 (fun i hi => let ⟨e, a, b, _⟩ := q6 i hi; ⟨e, a, b⟩)
 have hno : ∀ e ∈ es.toList, e.key ≠ u := by
   intro e hm' he
   obtain ⟨i, hi', rfl⟩ := List.getElem_of_mem hm'
   have hil : i < ks.length := by simpa [q3] using hi'
   obtain ⟨e', p1, p2, _⟩ := q6 i hil
   have : es.toList[i] = e' := by
     have h3 : es.toList[i]? = some e' := by simpa using p1
     rw [List.getElem?_eq_getElem hi'] at h3
     exact Option.some.inj h3
   rw [this] at he
   rw [he] at p2
   have hmem : ks.getD i .any ∈ ks := by simp [List.getD, hil]
   have := u3 _ (hks _ hmem) _ _ _ p2
   rw [this] at hmem
   exact h1 hmem
 have hrun : (Instr.mapUpdate t (a.eval x) (a.eval ix) (a.eval y)).run P w = .ok () { w with heap := w.heap.setIfInBounds b (.map (es.push { key := u, val := a.eval y, born := clock }) (clock + 1)) } := by
   rw [q1, q7]
   rcases zDH hf u1 w es.toList hkeys with ⟨r1, r2⟩ | ⟨j, e', r1, r2, r3⟩
   · simp only [Instr.mapUpdate, Sem.run_bind, run_underlying ht, Result.andThen_ok, MapKept.run_getObj_map q2, zCx hf u1, r1, MapKept.run_setObj_map _ q2]
   · exact absurd r3 (hno e' (List.mem_of_getElem? r2))
 have hset := MapKept.heap_set (o' := .map (es.push { key := u, val := a.eval y, born := clock }) (clock + 1)) q2
 generalize hw' : ({ w with heap := w.heap.setIfInBounds b (.map (es.push { key := u, val := a.eval y, born := clock }) (clock + 1)) } : World) = w' at hrun
 have hwh : w'.heap = w.heap.setIfInBounds b (.map (es.push { key := u, val := a.eval y, born := clock }) (clock + 1)) := by rw [← hw']
 have hnS : ¬ S b := (hr.obj hh hσ).2.choose_spec.2.2.2.2.1
 have hoth : ∀ b', b' ≠ b → w'.heap[b']? = w.heap[b']? := fun b' hb => by rw [hwh]; exact hset.2 b' hb
 have hv : ∀ {x v}, VR w S σ x v → VR w' S σ x v := fun hv => hv.mono (fun _ h => h) (fun b' hb => hoth b' (fun e => hnS (e ▸ hb))) _ (fun _ _ h => h)
 refine ⟨w', σ, S, by simp only [execOp, Sem.run_bind, hrun]; rfl, hr.reobj (o := ⟨t', .mp ks vs⟩) hh hσ (c' := .mp (ks ++ [kk]) (vs ++ [v])) (cur' := #[]) w' (by rw [← hw']) (by rw [← hw']) (by rw [← hw']) (by rw [hwh]; simp) hoth rfl (Nat.zero_le _) rfl (fun i j hi => absurd hi (Nat.not_lt_zero _))
   (.map _ _ _ (clock + 1) rfl rfl (by rw [hwh]; exact hset.1) (by simp [q3]) (by simp [q4]) ?_ (fun j hj => ?_))⟩
 · rw [Array.toList_push, List.pairwise_append]
   exact ⟨q5, by simp, fun x hx y hy => by simp at hy; subst hy; exact hno x hx⟩
 · simp only [List.length_append, List.length_cons, List.length_nil] at hj
   by_cases hl : j < ks.length
   · obtain ⟨e, r1, r2, r3⟩ := q6 j hl
     refine ⟨e, by rw [Array.getElem?_push, if_neg (by omega)]; exact r1, ?_, ?_⟩
     · have : (ks ++ [kk]).getD j .any = ks.getD j .any := by simp [List.getD, List.getElem?_append_left hl]
       rw [this]; exact hv r2
     · have : (vs ++ [v]).getD j .any = vs.getD j .any := by simp [List.getD, List.getElem?_append_left (show j < vs.length by omega)]
       rw [this]; exact hv r3
   · have hje : j = es.size := by omega
     refine ⟨{ key := u, val := a.eval y, born := clock }, by rw [Array.getElem?_push, if_pos hje], ?_, ?_⟩
     · have : (ks ++ [kk]).getD j .any = kk := by simp [List.getD, hje, q3]
       rw [this]
       have := hv e2
       rw [q7] at this
       exact this
     · have : (vs ++ [v]).getD j .any = v := by simp [List.getD, hje, q3, ← q4]
       rw [this]; exact hv e3
end
end Go.Ax
namespace Go.Proofs.YtgmleamhjnlknaaGreatDoor
open Go.Ax Go.Ax.Bg Go.Ax.Rt Go.RowKit Go.Ax.Idx Go.Ax.Cd
attribute [local irreducible] Ax zAV QOp zV zAJ
set_option maxRecDepth 100000
set_option maxHeartbeats 4000000
theorem chk1_ok (n : Int) : zk Tryz.prog 188 [.int .i64 n] (.bool (decide (n ≠ 1))) := by
 refine zV.value0 (zN (P := Tryz.prog) (fn := Tryz.f188) rfl rfl (by kernel_rfl) rfl (fun c hR hfix => ?_)) (fix := fun _ => False) (fun _ h => h) rfl rfl
 repeat (first | refine zD (zF rfl) ?_ | refine zD (zE rfl) ?_ | refine zB ?_ | refine zA ?_ | refine zG ?_ | refine zC rfl ?_ | refine zH ?_ | refine zD (zAb rfl rfl) ?_)
 exact zR hR rfl rfl
def zGg (e : Int × Int × Nat) : AV := .agg [.int .i64 e.1, .int .i64 e.2.1]
def lenV (e : Int × Int × Nat) : AV := .int .i64 (e.2.2 : Nat)
abbrev szC (S : KSz) : Cells := .mp (S.map zGg) (S.map lenV)
theorem keysV (S : KSz) : ∀ x ∈ S.map zGg, zCc (.pair .i64) x = true := by
 intro x hx
 obtain ⟨e, _, rfl⟩ := List.mem_map.1 hx
 rfl
theorem set_same {l : List AV} {j : Nat} {v : AV} (h : l[j]? = some v) : l.set j v = l := by
 apply List.ext_getElem?
 intro i
 by_cases e : j = i
 · subst e
   obtain ⟨hj, _⟩ := List.getElem?_eq_some_iff.1 h
   rw [List.getElem?_set_self hj, h]
 · rw [List.getElem?_set_ne e]
theorem zCE {α : Type} {n : Nat} {f : α → AV} (hf : ∀ x, zD1 n (f x) = true) : ∀ l : List α, zB0 n (l.map f) = true
 | [] => rfl
 | a :: r => by
   show (zD1 n (f a) && zB0 n (r.map f)) = true
   rw [hf a, zCE hf r]; rfl
theorem zF2 {α : Type} {f : α → AV} (hf : ∀ x, noRef (f x) = true) : ∀ l : List α, noRef.noRefs (l.map f) = true
 | [] => rfl
 | a :: r => by
   show (noRef (f a) && noRef.noRefs (r.map f)) = true
   rw [hf a, zF2 hf r]; rfl
theorem zDj {n : Nat} {t : TypeId} {c : Cells} (hc : zBB n c) : ∀ (h : Nat) (o : AObj), ([some ⟨t, c⟩] : zg)[h]? = some (some o) → zBB n o.c := by
 intro h o ho
 match h, ho with
 | 0, ho => cases ho; exact hc
 | _ + 1, ho => simp at ho
theorem zHX (S : KSz) (n : Nat) : zBB n (szC S) := ⟨zCE (fun _ => rfl) S, zCE (fun _ => rfl) S⟩
theorem zMK (t : zAD) (hT : ShortT t) : zk Tryz.prog 159 [.ro (z7 t) 0 t.length] (.int .i64 (zIl t)) := by
 have hlen := hT.len
 refine zV.value0 (zN (P := Tryz.prog) (fn := Tryz.f159) rfl rfl (by kernel_rfl) rfl (fun c hR hfix => ?_)) (fix := fun _ => False) (fun _ h => h) rfl rfl
 unfold zIl at hR
 repeat (first | refine zD (zF rfl) ?_ | refine zD (zE rfl) ?_ | refine zB ?_ | refine zA ?_ | refine zG ?_ | refine zC rfl ?_ | refine zD (zBU rfl rfl) ?_ | refine zD (zw rfl rfl rfl) ?_)
 refine zK rfl (fun h1 => ?_) (fun h1 => ?_)
 · rw [if_pos (by omega)] at hR
   repeat (first | refine zD (zE rfl) ?_ | refine zB ?_ | refine zA ?_ | refine zG ?_ | refine zC rfl ?_ | refine zH ?_ | refine zQ ?_)
   exact zR hR rfl rfl
 rw [if_neg (by omega)] at hR
 repeat (first | refine zD (zF rfl) ?_ | refine zB ?_ | refine zA ?_ | refine zG ?_ | refine zC rfl ?_ | refine zP ?_ | refine zD (zA0 rfl rfl) ?_ | refine zD (zw rfl rfl rfl) ?_)
 refine zK rfl (fun h2 => ?_) (fun h2 => ?_)
 · rw [if_pos (by omega)] at hR
   repeat (first | refine zD (zE rfl) ?_ | refine zB ?_ | refine zA ?_ | refine zG ?_ | refine zC rfl ?_ | refine zH ?_ | refine zQ ?_)
   exact zR hR rfl rfl
 rw [if_neg (by omega)] at hR
 have hN : t.length ≤ 120 := by omega
 have hN0 : t.length ≠ 0 := by omega
 repeat (first | refine zD (zF rfl) ?_ | refine zA ?_ | refine zG ?_ | refine zC rfl ?_ | refine zP ?_ | refine zD (zw rfl rfl rfl) ?_)
 refine zCS rfl rfl rfl rfl rfl rfl rfl rfl (by show 0 ≤ _ ∧ _ ≤ _ ∧ (8 : Int) * _ ≤ _ ∧ _; omega) ?_
 repeat (first | refine zD (zF rfl) ?_ | refine zD (zE rfl) ?_ | refine zB ?_ | refine zA ?_ | refine zG ?_ | refine zC rfl ?_ | refine zT ?_ | refine zD (zw rfl rfl rfl) ?_)
 refine zAC (ι := Nat) (fun i => [(0, .ro (z7 t) 0 t.length), (3, .sl 0 0 t.length), (23, .ro (z7 t) 0 t.length), (24, .int .i64 (t.length : Nat)), (25, .int .i64 (i : Nat))]) (fun i => [some ⟨3, .ints .i64 (zCy t.length (zDe t i))⟩])
   (fun i => i ≤ t.length ∧ zDU t.length 0 t = zDU t.length i (t.drop i) ∧ (zDe t i).length ≤ 6 * i) (fun i => t.length - i) 0 ⟨⟨rfl, rfl, rfl, rfl, rfl, trivial⟩, by show [some (⟨3, .ints .i64 (List.replicate _ 0)⟩ : AObj)] = [some ⟨3, .ints .i64 (zCy t.length [])⟩]; rw [cntT_nil]; rfl, Nat.zero_le _, by rw [List.drop_zero], by simp [zDe]⟩ ?_
 rintro i ⟨hi, hE, hF⟩
 repeat (first | refine zB ?_ | refine zA ?_ | refine zG ?_ | refine zC rfl ?_ | refine zD (zAQ rfl rfl) ?_)
 refine zK rfl (fun h3 => ?_) (fun h3 => ?_)
 · have hi' : i < t.length := by omega
   have hmem := zA6 node0 hi'
   have cn := node_ok t i hi' hlen (hT.node _ hmem)
   rw [zJm hi'] at hE
   have hfs := zK1 hi'
   repeat (first | refine zD (zF rfl) ?_ | refine zD (zE rfl) ?_ | refine zB ?_ | refine zA ?_ | refine zG ?_ | refine zC rfl ?_ | refine zT ?_ | refine zP ?_)
   refine zM rfl rfl rfl cn ?_
   repeat (first | refine zD (zF rfl) ?_ | refine zD (zE rfl) ?_ | refine zB ?_ | refine zA ?_ | refine zG ?_ | refine zC rfl ?_ | refine zD (zAb rfl rfl) ?_)
   refine zK rfl (fun h4 => ?_) (fun h4 => ?_)
   · rw [if_neg h4] at hE
     rw [if_pos (by rw [hE]; exact h4), hE] at hR
     repeat (first | refine zD (zF rfl) ?_ | refine zD (zE rfl) ?_ | refine zB ?_ | refine zA ?_ | refine zG ?_ | refine zC rfl ?_ | refine zH ?_ | refine zQ ?_ | refine zo ?_ | refine zAf ?_)
     exact zR hR rfl rfl
   rw [if_pos (Classical.not_not.1 h4)] at hE
   obtain ⟨q1, q2⟩ := zKU (Classical.not_not.1 h4)
   have hl9 : (t.getD i node0).next.length ≤ 9223372036854775807 := by omega
   repeat (first | refine zA ?_ | refine zG ?_ | refine zP ?_)
   refine zC rfl ?_
   repeat (first | refine zD (zF rfl) ?_ | refine zB ?_ | refine zA ?_ | refine zD (zBD rfl rfl rfl rfl) ?_ | refine zD (zw rfl rfl rfl) ?_ | refine zD (zY rfl rfl rfl rfl (by first | (simp only [Nat.zero_add, Int.toNat_natCast, Int.toNat_zero]; exact rfl) | exact rfl) (by omega)) ?_ | refine zD (zDh rfl rfl rfl rfl rfl rfl) ?_)
   refine zAv 38 (.ro (.ints .i64 (t.getD i node0).next) 0 (t.getD i node0).next.length) rfl (AEq.of_eq rfl) ?_
   generalize (t.getD i node0).next = l at *
   repeat (refine zT ?_)
   refine zAC (ι := Nat) (fun j => [(0, .ro (z7 t) 0 t.length), (3, .sl 0 0 t.length), (23, .ro (z7 t) 0 t.length), (24, .int .i64 (t.length : Nat)), (25, .int .i64 (i : Nat)), (38, .ro (.ints .i64 l) 0 l.length), (39, .int .i64 (l.length : Nat)), (40, .int .i64 (j : Nat))]) (fun j => [some ⟨3, .ints .i64 (zCy t.length (zDe t i ++ l.take j))⟩])
     (fun j => j ≤ l.length) (fun j => l.length - j) 0 ⟨⟨rfl, rfl, rfl, rfl, rfl, rfl, rfl, rfl, trivial⟩, by rw [List.take_zero, List.append_nil], Nat.zero_le _⟩ ?_
   intro j hj
   repeat (first | refine zB ?_ | refine zA ?_ | refine zG ?_ | refine zC rfl ?_ | refine zD (zAQ rfl rfl) ?_)
   refine zK rfl (fun h5 => ?_) (fun h5 => ?_)
   · have hj' : j < l.length := by omega
     obtain ⟨b1, b2⟩ := q1 _ (zBp 0 hj')
     have hs := zMn (zDe t i ++ l.take j) (x := l.getD j 0) (by omega) b2
     rw [List.append_assoc, ← zDZ hj'] at hs
     have hb := cntT_le t.length (zDe t i ++ l.take j) (l.getD j 0).toNat
     have hll : (zDe t i ++ l.take j).length ≤ 6 * i + 6 := by rw [List.length_append, List.length_take]; omega
     have hcl := zDW t.length (zDe t i ++ l.take j)
     have hlt : (l.getD j 0).toNat < (zCy t.length (zDe t i ++ l.take j)).length := by omega
     generalize zCy t.length (zDe t i ++ l.take j) = C at *
     repeat (first | refine zD (zF rfl) ?_ | refine zD (zE rfl) ?_ | refine zD (z6 rfl rfl rfl) ?_ | refine zB ?_ | refine zA ?_ | refine zG ?_ | refine zC rfl ?_ | refine zZ ?_ | refine zT ?_ | refine zP ?_ | refine zD (zAK rfl rfl (by omega)) ?_ | refine zD (zY rfl rfl rfl rfl (by first | (simp only [Nat.zero_add, Int.toNat_natCast, Int.toNat_zero]; exact rfl) | exact rfl) (by omega)) ?_ | refine zD (zu rfl rfl rfl rfl rfl (by first | (simp only [Nat.zero_add, Int.toNat_natCast, Int.toNat_zero]; exact rfl) | exact rfl) (by omega)) ?_ | refine zD (zAP rfl rfl rfl rfl (by first | assumption | omega)) ?_ | refine zAr rfl rfl rfl rfl rfl rfl rfl (by first | assumption | (show _ < List.length _; first | assumption | omega)) ?_)
     exact zd ⟨j + 1, by omega, by omega, ⟨rfl, rfl, rfl, rfl, rfl, rfl, rfl, rfl, trivial⟩, by rw [hs]; rfl⟩
   · have hje : j = l.length := by omega
     subst hje
     rw [List.take_length, ← hfs]
     repeat (first | refine zD (zF rfl) ?_ | refine zB ?_ | refine zA ?_ | refine zC rfl ?_ | refine zZ ?_ | refine zx ?_ | refine zW ?_ | refine zX ?_ | refine zi ?_ | refine zD (zAK rfl rfl (by omega)) ?_)
     exact zd ⟨i + 1, ⟨by omega, hE, by rw [hfs, List.length_append]; omega⟩, by omega, ⟨rfl, rfl, rfl, rfl, rfl, trivial⟩, rfl⟩
 have hie : i = t.length := by omega
 subst hie
 rw [List.drop_length] at hE
 have hE0 : zDU t.length 0 t = 0 := hE
 rw [if_neg (by rw [hE0]; exact fun q => q rfl)] at hR
 have hfl : zDe t t.length = t.flatMap TNode.next := by unfold zDe; rw [List.take_length]
 rw [hfl]
 have hall := zMI hN0
 rw [← hall] at hR
 have hcl := zDW t.length (t.flatMap TNode.next)
 generalize zCy t.length (t.flatMap TNode.next) = C at *
 have cc := zIe (C.drop 1) 188 [] (fun n => decide (n ≠ 1)) rfl (by rw [List.length_drop]; omega) (fun n _ => chk1_ok n)
 repeat (first | refine zA ?_ | refine zG ?_ | refine zx ?_ | refine zW ?_ | refine zX ?_ | refine zi ?_)
 refine zA4 0 3 t.length [(0, .ro (z7 t) 0 t.length)] rfl zAY rfl (by show t.length ≤ C.length; omega) ⟨rfl, trivial⟩ ?_
 refine zAy [] [none] [(0, .ro (z7 t) 0 t.length), (3, .ro (.ints .i64 C) 0 t.length)] rfl ⟨rfl, rfl, trivial⟩ (fun h hh => by rw [hfix] at hh; exact absurd hh id) (fun h o ho => by simp at ho) rfl ?_
 repeat (first | refine zD (zF rfl) ?_ | refine zC rfl ?_ | refine zD (zHJ rfl rfl rfl rfl rfl rfl rfl (by omega)) ?_)
 refine zU 53 (.ro (.ints .i64 (C.drop 1)) 0 (C.drop 1).length) rfl (AEq.trans (AEq.drop (k := .i64) (l := C) (i := 1) (n := ((t.length : Int) - 1).toNat)) (AEq.of_eq (by rw [List.length_drop, hcl]; congr 1; omega))) ?_
 refine zM rfl rfl rfl cc ?_
 generalize (C.drop 1).any (fun n => decide (n ≠ 1)) = b at *
 cases b
 case true =>
   rw [if_pos rfl] at hR
   repeat (first | refine zD (zE rfl) ?_ | refine zB ?_ | refine zA ?_ | refine zG ?_ | refine zC rfl ?_ | refine zf rfl ?_ | refine zH ?_ | refine zQ ?_)
   exact zR hR rfl rfl
 rw [if_neg (by decide)] at hR
 repeat (first | refine zB ?_ | refine zA ?_ | refine zG ?_ | refine zC rfl ?_ | refine ze rfl ?_ | refine zP ?_)
 refine zES ?_
 repeat (first | refine zD (zF rfl) ?_ | refine zD (zE rfl) ?_ | refine zB ?_ | refine zA ?_ | refine zG ?_ | refine zC rfl ?_ | refine zT ?_ | refine zD (zw rfl rfl rfl) ?_)
 refine zAC (ι := Nat × KSz) (fun x => [(0, .ro (z7 t) 0 t.length), (8, .mp 0), (56, .ro (z7 t) 0 t.length), (57, .int .i64 (t.length : Nat)), (58, .int .i64 (x.1 : Nat))]) (fun x => [some ⟨238, szC x.2⟩])
   (fun x => x.1 ≤ t.length ∧ KInv (t.take x.1) x.2) (fun x => t.length - x.1) (0, []) ⟨⟨rfl, rfl, rfl, rfl, rfl, trivial⟩, rfl, Nat.zero_le _, KInv.nil⟩ ?_
 rintro ⟨k, S⟩ ⟨hk, hK⟩
 simp only at hk hK
 repeat (first | refine zB ?_ | refine zA ?_ | refine zG ?_ | refine zC rfl ?_ | refine zD (zAQ rfl rfl) ?_)
 refine zK rfl (fun h5 => ?_) (fun h5 => ?_)
 · have hk' : k < t.length := by omega
   have hmem := zA6 node0 hk'
   have hsn := hT.node _ hmem
   have htk := zKZ hk'
   have hpre : ∀ a ∈ t.take k, a ∈ t := fun a ha => List.mem_of_mem_take ha
   have hskip := @KInv.skip (t.take k) S (t.getD k node0) hK
   have hhit := fun e => @KInv.hit (t.take k) S (t.getD k node0) e hK
   have hmiss := @KInv.miss (t.take k) S (t.getD k node0) hK
   have hbad := fun e => @KInv.bad (t.take k) t S (t.getD k node0) e hK hpre hmem
   rw [← htk] at hskip hhit hmiss
   obtain ⟨s1, s2, s3, s4⟩ := hsn
   repeat (first | refine zA ?_ | refine zG ?_ | refine zC rfl ?_ | refine zT ?_ | refine zP ?_ | refine zD (zY rfl rfl rfl rfl (by first | (simp only [Nat.zero_add, Int.toNat_natCast, Int.toNat_zero]; exact rfl) | exact rfl) (by omega)) ?_ | refine zD (zAS rfl rfl rfl rfl rfl rfl) ?_ | refine z8 rfl rfl rfl ?_)
   refine zU 61 (.agg (zDY (t.getD k node0))) rfl (AEq.of_eq rfl) ?_
   generalize t.getD k node0 = n at *
   obtain ⟨kd, pl, nf, nx, od, py⟩ := n
   simp only at *
   refine zl (c' := .box [.int .i64 kd, .int .i64 pl, .int .i64 nf, .ro (.ints .i64 nx) 0 nx.length, .ro (.strs od) 0 od.length, .str py]) rfl rfl rfl rfl rfl Nat.zero_lt_one rfl rfl (fun i' j' hi' hj' => ?_) ?_
   · rw [if_pos (Nat.lt_one_iff.1 hi')]; rfl
   repeat (first | refine zB ?_ | refine zA ?_ | refine zG ?_ | refine zC rfl ?_ | refine zD (zI rfl rfl rfl rfl rfl) ?_ | refine zD (zAb rfl rfl) ?_ | refine zD (zL rfl rfl rfl rfl rfl rfl) ?_)
   refine zK rfl (fun g1 => ?_) (fun g1 => ?_)
   · repeat (first | refine zx ?_ | refine zW ?_ | refine zX ?_)
     refine zA ?_
     refine zAy [some ⟨238, szC S⟩] [some ⟨71, .box [.int .i64 kd, .int .i64 pl, .int .i64 nf, .ro (.ints .i64 nx) 0 nx.length, .ro (.strs od) 0 od.length, .str py]⟩] [(0, .ro (z7 t) 0 t.length), (8, .mp 0), (56, .ro (z7 t) 0 t.length), (57, .int .i64 (t.length : Nat)), (58, .int .i64 (k : Nat))] rfl ⟨rfl, rfl, rfl, rfl, rfl, trivial⟩ (fun h hh => by rw [hfix] at hh; exact absurd hh id) (zDj (zHX S 1)) rfl ?_
     repeat (first | refine zD (zF rfl) ?_ | refine zB ?_ | refine zC rfl ?_ | refine zD (zAK rfl rfl (by omega)) ?_)
     exact zd ⟨(k + 1, S), ⟨by simp only; omega, hskip g1⟩, by simp only; omega, ⟨rfl, rfl, rfl, rfl, rfl, trivial⟩, rfl⟩
   · have hk2 : kd = 2 := Classical.not_not.1 g1
     repeat (first | refine zA ?_ | refine zG ?_ | refine zC rfl ?_ | refine zP ?_ | refine zD (zI rfl rfl rfl rfl rfl) ?_ | refine zD (zAa rfl rfl rfl rfl rfl rfl) ?_ | refine zD (zL rfl rfl rfl rfl rfl rfl) ?_ | refine z8 rfl rfl rfl ?_)
     refine zU 69 (.agg [.int .i64 pl, .int .i64 nf]) rfl (AEq.of_eq rfl) ?_
     refine zl (c' := .box [.int .i64 pl, .int .i64 nf]) rfl rfl rfl rfl rfl Nat.zero_lt_one rfl rfl (fun i' j' hi' hj' => ?_) ?_
     · rw [if_pos (Nat.lt_one_iff.1 hi')]; rfl
     repeat (first | refine zD (zF rfl) ?_ | refine zB ?_ | refine zA ?_ | refine zG ?_ | refine zC rfl ?_ | refine zD (zq rfl rfl rfl rfl rfl rfl rfl (by first | exact Nat.zero_lt_one | assumption | omega)) ?_)
     refine zU 72 (zGg (pl, nf, 0)) rfl (AEq.of_eq rfl) ?_
     by_cases hm : ∃ e ∈ S, e.1 = pl ∧ e.2.1 = nf
     · obtain ⟨e, he, e1, e2⟩ := hm
       obtain ⟨j, hj, hje⟩ := List.getElem_of_mem he
       have i1 : (S.map zGg)[j]? = some (zGg (pl, nf, 0)) := by
         rw [List.getElem?_map, List.getElem?_eq_getElem hj, hje]
         show some (zGg e) = _
         unfold zGg; rw [e1, e2]
       have i2 : (S.map lenV)[j]? = some (.int .i64 (e.2.2 : Nat)) := by
         rw [List.getElem?_map, List.getElem?_eq_getElem hj, hje]; rfl
       refine zD (zB3 rfl (.pair rfl rfl rfl) rfl rfl rfl rfl (keysV S) j i1 i2) ?_
       repeat (first | refine zD (zF rfl) ?_ | refine zD (zE rfl) ?_ | refine zB ?_ | refine zA ?_ | refine zG ?_ | refine zC rfl ?_ | refine zj rfl rfl ?_ | refine zD (zI rfl rfl rfl rfl rfl) ?_ | refine zD (zAb rfl rfl) ?_ | refine zD (zr rfl rfl) ?_ | refine zD (zz rfl rfl) ?_ | refine zD (zw rfl rfl rfl) ?_ | refine zD (zL rfl rfl rfl rfl rfl rfl) ?_)
       refine zK rfl (fun h7 => ?_) (fun h7 => ?_)
       · rw [if_pos (hbad e hk2 he e1 e2 (by omega))] at hR
         repeat (first | refine zD (zE rfl) ?_ | refine zB ?_ | refine zA ?_ | refine zG ?_ | refine zC rfl ?_ | refine zH ?_ | refine zQ ?_ | refine zo ?_ | refine zAf ?_)
         exact zR hR rfl rfl
       · have h8 : e.2.2 = nx.length := by omega
         have hset : (S.map lenV).set j (.int .i64 (nx.length : Nat)) = S.map lenV := set_same (by rw [i2, h8])
         repeat (first | refine zD (zF rfl) ?_ | refine zA ?_ | refine zC rfl ?_ | refine zP ?_ | refine zD (zI rfl rfl rfl rfl rfl) ?_ | refine zD (zw rfl rfl rfl) ?_ | refine zD (zL rfl rfl rfl rfl rfl rfl) ?_ | refine zD (zq rfl rfl rfl rfl rfl rfl rfl (by first | exact Nat.zero_lt_one | assumption | omega)) ?_)
         refine zU 85 (zGg (pl, nf, 0)) rfl (AEq.of_eq rfl) ?_
         refine zIA rfl (.pair rfl rfl rfl) rfl rfl rfl rfl rfl (keysV S) j i1 ?_
         refine zAx [some ⟨238, szC (S)⟩, some ⟨71, .box [.int .i64 kd, .int .i64 pl, .int .i64 nf, .ro (.ints .i64 nx) 0 nx.length, .ro (.strs od) 0 od.length, .str py]⟩, some ⟨32, .box [.int .i64 pl, .int .i64 nf]⟩] (by rw [← hset]; rw [hset]; exact (congrArg (fun l => [some (⟨238, .mp (S.map zGg) l⟩ : AObj), some ⟨71, .box [.int .i64 kd, .int .i64 pl, .int .i64 nf, .ro (.ints .i64 nx) 0 nx.length, .ro (.strs od) 0 od.length, .str py]⟩, some ⟨32, .box [.int .i64 pl, .int .i64 nf]⟩]) hset)) ?_
         repeat (first | refine zB ?_ | refine zZ ?_)
         refine zA ?_
         refine zAy [some ⟨238, szC (S)⟩] [some ⟨71, .box [.int .i64 kd, .int .i64 pl, .int .i64 nf, .ro (.ints .i64 nx) 0 nx.length, .ro (.strs od) 0 od.length, .str py]⟩, some ⟨32, .box [.int .i64 pl, .int .i64 nf]⟩] [(0, .ro (z7 t) 0 t.length), (8, .mp 0), (56, .ro (z7 t) 0 t.length), (57, .int .i64 (t.length : Nat)), (58, .int .i64 (k : Nat))] rfl ⟨rfl, rfl, rfl, rfl, rfl, trivial⟩ (fun h hh => by rw [hfix] at hh; exact absurd hh id) (zDj (zHX _ 1)) rfl ?_
         repeat (first | refine zD (zF rfl) ?_ | refine zB ?_ | refine zC rfl ?_ | refine zD (zAK rfl rfl (by omega)) ?_)
         exact zd ⟨(k + 1, S), ⟨by simp only; omega, hhit e he e1 e2 h8⟩, by simp only; omega, ⟨rfl, rfl, rfl, rfl, rfl, trivial⟩, rfl⟩
     · have hnew : zGg (pl, nf, 0) ∉ S.map zGg := by
         intro q
         obtain ⟨e, he, ee⟩ := List.mem_map.1 q
         simp only [zGg, AV.agg.injEq, List.cons.injEq, AV.int.injEq, true_and, and_true] at ee
         exact hm ⟨e, he, ee.1, ee.2⟩
       refine zD (zD7 rfl (.pair rfl rfl rfl) rfl rfl rfl rfl rfl rfl rfl rfl (keysV S) hnew) ?_
       repeat (first | refine zD (zF rfl) ?_ | refine zD (zE rfl) ?_ | refine zB ?_ | refine zA ?_ | refine zG ?_ | refine zC rfl ?_ | refine zp rfl rfl rfl ?_ | refine ze rfl ?_ | refine zP ?_ | refine zD (zI rfl rfl rfl rfl rfl) ?_ | refine zD (zr rfl rfl) ?_ | refine zD (zz rfl rfl) ?_ | refine zD (zw rfl rfl rfl) ?_ | refine zD (zL rfl rfl rfl rfl rfl rfl) ?_ | refine zD (zq rfl rfl rfl rfl rfl rfl rfl (by first | exact Nat.zero_lt_one | assumption | omega)) ?_)
       refine zU 85 (zGg (pl, nf, 0)) rfl (AEq.of_eq rfl) ?_
       refine zCP rfl (.pair rfl rfl rfl) rfl rfl rfl rfl rfl (keysV S) hnew ?_
       refine zAx [some ⟨238, szC (S ++ [(pl, nf, nx.length)])⟩, some ⟨71, .box [.int .i64 kd, .int .i64 pl, .int .i64 nf, .ro (.ints .i64 nx) 0 nx.length, .ro (.strs od) 0 od.length, .str py]⟩, some ⟨32, .box [.int .i64 pl, .int .i64 nf]⟩] (by unfold szC; rw [List.map_append, List.map_append]; rfl) ?_
       repeat (first | refine zB ?_ | refine zZ ?_)
       refine zA ?_
       refine zAy [some ⟨238, szC (S ++ [(pl, nf, nx.length)])⟩] [some ⟨71, .box [.int .i64 kd, .int .i64 pl, .int .i64 nf, .ro (.ints .i64 nx) 0 nx.length, .ro (.strs od) 0 od.length, .str py]⟩, some ⟨32, .box [.int .i64 pl, .int .i64 nf]⟩] [(0, .ro (z7 t) 0 t.length), (8, .mp 0), (56, .ro (z7 t) 0 t.length), (57, .int .i64 (t.length : Nat)), (58, .int .i64 (k : Nat))] rfl ⟨rfl, rfl, rfl, rfl, rfl, trivial⟩ (fun h hh => by rw [hfix] at hh; exact absurd hh id) (zDj (zHX _ 1)) rfl ?_
       repeat (first | refine zD (zF rfl) ?_ | refine zB ?_ | refine zC rfl ?_ | refine zD (zAK rfl rfl (by omega)) ?_)
       exact zd ⟨(k + 1, S ++ [(pl, nf, nx.length)]), ⟨by simp only; omega, hmiss hk2 (fun e he q => hm ⟨e, he, q⟩)⟩, by simp only; omega, ⟨rfl, rfl, rfl, rfl, rfl, trivial⟩, rfl⟩
 · have hke : k = t.length := by omega
   subst hke
   rw [List.take_length] at hK
   rw [zJp hK.free, if_neg (by decide)] at hR
   repeat (first | refine zD (zE rfl) ?_ | refine zB ?_ | refine zA ?_ | refine zG ?_ | refine zC rfl ?_ | refine zx ?_ | refine zW ?_ | refine zX ?_ | refine zi ?_ | refine zH ?_)
   exact zR hR rfl rfl
end Go.Proofs.YtgmleamhjnlknaaGreatDoor
namespace Go.Ax.Rt
open Go.Ax.Bg Go.Ax.Idx
theorem zIg {α : Type} (p : α → Bool) : ∀ l : List α, l.any p = true → zCa p l = (l.findIdx p : Nat)
 | [], h => by simp at h
 | x :: r, h => by
   rw [zCa, List.findIdx_cons]
   cases hx : p x
   · have hr : r.any p = true := by simpa [hx] using h
     rw [zIg p r hr]
     simp only [cond_false, Bool.false_eq_true, if_false]
     rw [if_neg (by omega)]
     omega
   · rfl
theorem zL9 {α : Type} (p : α → Bool) (l : List α) (h : l.any p = false) : zCa p l = -1 := by
 have := zEz p l
 rw [h, decide_eq_false_iff_not] at this
 exact zKH p l (by omega)
def zBP (t : zAD) (p : Int) (k : Nat) : List Int := ((List.range k).map (fun i : Nat => (i : Int))).filter (fun i => t.any (zBO p i))
def zCk (t : zAD) (p : Int) (k : Nat) : List Int := (zBP t p k).map (fun i => ((zAA t p i : Nat) : Int))
theorem zGz (t : zAD) (p : Int) (k : Nat) : zBP t p (k + 1) = if t.any (zBO p (k : Int)) = true then zBP t p k ++ [(k : Int)] else zBP t p k := by
 unfold zBP
 rw [List.range_succ, List.map_append, List.filter_append]
 split
 · rename_i h; simp [h]
 · rename_i h; simp [h]
theorem zJh (t : zAD) (p : Int) (k : Nat) : zCk t p (k + 1) = if t.any (zBO p (k : Int)) = true then zCk t p k ++ [((zAA t p (k : Int) : Nat) : Int)] else zCk t p k := by
 unfold zCk
 rw [zGz]
 split
 · simp
 · rfl
theorem zH3 (t : zAD) (p : Int) (k : Nat) : (zBP t p k).length ≤ k := by
 unfold zBP
 refine Nat.le_trans (List.length_filter_le _ _) (by simp)
theorem zHk (t : zAD) (p : Int) (k : Nat) : (zCk t p k).length = (zBP t p k).length := by unfold zCk; simp
theorem zHs (t : zAD) (p : Int) : zBP t p 10 = zAe t p := rfl
theorem zKW (t : zAD) (p : Int) : zCk t p 10 = zDG t p := rfl
theorem zKl {t : zAD} {p i : Int} (h : t.any (zBO p i) = true) : zHG t p i < t.length := by
 obtain ⟨x, hx, h2⟩ := List.any_eq_true.1 h
 exact List.findIdx_lt_length_of_exists ⟨x, hx, h2⟩
end Go.Ax.Rt
namespace Go.Proofs.YtgmleamhjnlknaaGreatDoor
open Go.Ax Go.Ax.Bg Go.Ax.Rt Go.RowKit Go.Ax.Idx Go.Ax.Cd
attribute [local irreducible] Ax zAV QOp zV zAJ
set_option maxRecDepth 100000
set_option maxHeartbeats 4000000
theorem zIJ (t : zAD) (p : Int) (hT : ShortT t) : zk Tryz.prog 111 [.ro (z7 t) 0 t.length, .int .i64 p] (.int .i64 (zCC t p)) := by
 have cc := zMK t hT
 refine zV.value0 (zN (P := Tryz.prog) (fn := Tryz.f111) rfl rfl (by kernel_rfl) rfl (fun c hR hfix => ?_)) (fix := fun _ => False) (fun _ h => h) rfl rfl
 unfold zCC at hR
 repeat (first | refine zD (zF rfl) ?_ | refine zD (zE rfl) ?_ | refine zB ?_ | refine zA ?_ | refine zG ?_ | refine zC rfl ?_)
 refine zM rfl rfl rfl cc ?_
 repeat (first | refine zD (zF rfl) ?_ | refine zD (zE rfl) ?_ | refine zB ?_ | refine zA ?_ | refine zG ?_ | refine zC rfl ?_ | refine zD (zAb rfl rfl) ?_)
 refine zK rfl (fun h1 => ?_) (fun h1 => ?_)
 · rw [if_pos h1] at hR
   repeat (first | refine zD (zF rfl) ?_ | refine zD (zE rfl) ?_ | refine zB ?_ | refine zA ?_ | refine zG ?_ | refine zC rfl ?_ | refine zH ?_ | refine zQ ?_)
   exact zR hR rfl rfl
 rw [if_neg h1] at hR
 repeat (first | refine zD (zF rfl) ?_ | refine zA ?_ | refine zG ?_ | refine zC rfl ?_ | refine zP ?_ | refine zD (zAb rfl rfl) ?_)
 refine zAH rfl rfl (fun g1 => ?_) (fun g1 => ?_)
 · repeat (first | refine zD (zF rfl) ?_ | refine zB ?_ | refine zA ?_ | refine zj rfl rfl ?_ | refine zD (zAb rfl rfl) ?_ | refine zD (zr rfl rfl) ?_)
   refine zK rfl (fun g2 => ?_) (fun g2 => ?_)
   · rw [if_pos ⟨g1, g2⟩] at hR
     repeat (first | refine zD (zE rfl) ?_ | refine zB ?_ | refine zA ?_ | refine zG ?_ | refine zC rfl ?_ | refine zH ?_ | refine zQ ?_)
     exact zR hR rfl rfl
   · rw [if_neg (fun q => g2 q.2)] at hR
     repeat (first | refine zD (zE rfl) ?_ | refine zB ?_ | refine zA ?_ | refine zG ?_ | refine zC rfl ?_ | refine zP ?_ | refine zH ?_)
     exact zR hR rfl rfl
 · rw [if_neg (fun q => g1 q.1)] at hR
   repeat (first | refine zD (zE rfl) ?_ | refine zB ?_ | refine zA ?_ | refine zG ?_ | refine zC rfl ?_ | refine zp rfl rfl rfl ?_ | refine ze rfl ?_ | refine zP ?_ | refine zH ?_ | refine zD (zr rfl rfl) ?_)
   exact zR hR rfl rfl
theorem zKb (l : zAD) (g : FuncId) (caps : List AV) (p : TNode → Bool) (hc : noRef.noRefs caps = true) (hlen : l.length ≤ 9223372036854775807) (hp : ∀ x ∈ l, zk Tryz.prog g ([.agg (zDY x)] ++ caps) (.bool (p x))) :
   zk Tryz.prog 161 [.ro (z7 l) 0 l.length, .fn g caps] (.int .i64 (zCa p l)) := by
 refine zV.value0 (zN (P := Tryz.prog) (fn := Tryz.f161) rfl rfl (by kernel_rfl) rfl (fun c hR hfix => ?_)) (fix := fun _ => False) (fun _ h => h) (by simp [noRef.noRefs, noRef, hc]) rfl
 repeat (first | refine zD (zF rfl) ?_ | refine zD (zE rfl) ?_ | refine zB ?_ | refine zA ?_ | refine zG ?_ | refine zC rfl ?_ | refine zT ?_ | refine zD (zw rfl rfl rfl) ?_)
 refine zAC (ι := Nat) (fun k => [(0, .ro (z7 l) 0 l.length), (1, .fn g caps), (7, .int .i64 (l.length : Nat)), (8, .int .i64 (k : Nat))]) (fun _ => [])
   (fun k => k ≤ l.length ∧ (l.take k).any p = false) (fun k => l.length - k) 0 ⟨⟨rfl, rfl, rfl, rfl, trivial⟩, rfl, Nat.zero_le _, rfl⟩ ?_
 intro k ⟨hk, hany⟩
 repeat (first | refine zB ?_ | refine zA ?_ | refine zG ?_ | refine zC rfl ?_ | refine zD (zAQ rfl rfl) ?_)
 refine zK rfl (fun h => ?_) (fun h => ?_)
 · have hk' : k < l.length := by omega
   have hanys := zCA p l node0 k hk'
   repeat (first | refine zD (zF rfl) ?_ | refine zD (zE rfl) ?_ | refine zB ?_ | refine zA ?_ | refine zG ?_ | refine zC rfl ?_ | refine zT ?_ | refine zP ?_ | refine zD (zY rfl rfl rfl rfl (by first | (simp only [Nat.zero_add, Int.toNat_natCast, Int.toNat_zero]; exact rfl) | exact rfl) (by omega)) ?_ | refine zD (zAS rfl rfl rfl rfl rfl rfl) ?_)
   refine zU 15 (.agg (zDY (l.getD k node0))) rfl (AEq.of_eq rfl) ?_
   refine zM rfl rfl rfl (hp _ (zA6 node0 hk')) ?_
   repeat (first | refine zB ?_ | refine zA ?_)
   refine zCv rfl (fun h2 => ?_) (fun h2 => ?_)
   · repeat (first | refine zD (zF rfl) ?_ | refine zD (zE rfl) ?_ | refine zB ?_ | refine zA ?_ | refine zG ?_ | refine zC rfl ?_ | refine zH ?_ | refine zQ ?_ | refine zo ?_ | refine zAf ?_)
     refine zR hR rfl ?_
     have := zBo p l k hany hk
     rw [zBm l node0 k hk'] at this
     simp only [zCa, h2, if_true] at this
     rw [this]; simp [zA1]
   · repeat (first | refine zD (zF rfl) ?_ | refine zB ?_ | refine zA ?_ | refine zC rfl ?_ | refine zZ ?_ | refine zP ?_ | refine zD (zAK rfl rfl (by omega)) ?_)
     refine zd ⟨k + 1, ⟨by omega, by rw [hanys, hany, h2]; rfl⟩, by omega, ⟨rfl, rfl, rfl, rfl, trivial⟩, rfl⟩
 · have hk' : k = l.length := by omega
   subst hk'
   repeat (first | refine zD (zE rfl) ?_ | refine zB ?_ | refine zA ?_ | refine zG ?_ | refine zC rfl ?_ | refine zx ?_ | refine zW ?_ | refine zX ?_ | refine zi ?_ | refine zH ?_)
   refine zR hR rfl ?_
   have := zBo p l l.length hany hk
   rw [List.drop_length] at this
   rw [this]; rfl
theorem sets1_ok (n : TNode) (p i : Int) : zk Tryz.prog 162 [.agg (zDY n), .rp (.box [.int .i64 p]) 0 0, .rp (.box [.int .i64 i]) 0 0] (.bool (zBO p i n)) := by
 obtain ⟨kd, pl, nf, nx, od, py⟩ := n
 refine zV.value0 (zN (P := Tryz.prog) (fn := Tryz.f162) rfl rfl (by kernel_rfl) rfl (fun c hR hfix => ?_)) (fix := fun _ => False) (fun _ h => h) rfl rfl
 unfold zBO own at hR
 unfold zDY
 simp only at hR ⊢
 repeat (first | refine zD (zF rfl) ?_ | refine zD (zE rfl) ?_ | refine zB ?_ | refine zA ?_ | refine zG ?_ | refine zC rfl ?_ | refine zD (zI rfl rfl rfl rfl rfl) ?_ | refine zD (zA0 rfl rfl) ?_ | refine zD (zL rfl rfl rfl rfl rfl rfl) ?_ | refine zA8 rfl rfl ?_)
 refine zAH rfl rfl (fun g1 => ?_) (fun g1 => ?_)
 · rw [decide_eq_true g1, Bool.true_and] at hR
   repeat (first | refine zD (zF rfl) ?_ | refine zj rfl rfl ?_ | refine zD (zI rfl rfl rfl rfl rfl) ?_ | refine zD (zA0 rfl rfl) ?_ | refine zD (zr rfl rfl) ?_ | refine zD (zDa rfl rfl rfl rfl) ?_ | refine zD (zL rfl rfl rfl rfl rfl rfl) ?_)
   refine zAH rfl rfl (fun g2 => ?_) (fun g2 => ?_)
   · rw [decide_eq_true g2, Bool.true_and] at hR
     repeat (first | refine zD (zE rfl) ?_ | refine zB ?_ | refine zA ?_ | refine zj rfl rfl ?_ | refine zH ?_ | refine zD (zI rfl rfl rfl rfl rfl) ?_ | refine zD (zA0 rfl rfl) ?_ | refine zD (zr rfl rfl) ?_ | refine zD (zDa rfl rfl rfl rfl) ?_ | refine zD (zL rfl rfl rfl rfl rfl rfl) ?_)
     exact zR hR rfl rfl
   · rw [decide_eq_false g2, Bool.false_and] at hR
     repeat (first | refine zD (zE rfl) ?_ | refine zB ?_ | refine zA ?_ | refine zp rfl rfl rfl ?_ | refine zH ?_ | refine zD (zr rfl rfl) ?_)
     exact zR hR rfl rfl
 · rw [decide_eq_false g1, Bool.false_and, Bool.false_and] at hR
   repeat (first | refine zD (zF rfl) ?_ | refine zD (zE rfl) ?_ | refine zB ?_ | refine zA ?_ | refine zp rfl rfl rfl ?_ | refine zH ?_ | refine zD (zr rfl rfl) ?_)
   exact zR hR rfl rfl
theorem refl4 {o1 o2 o3 o4 : AObj} (h1 : zAO o1.c) (h2 : zAO o2.c) (h3 : zAO o3.c) (h4 : zAO o4.c) : ∀ (h : Nat) (o : AObj), ([some o1, some o2, some o3, some o4] : zg)[h]? = some (some o) → zAO o.c := by
 intro h o ho
 match h, ho with
 | 0, ho => cases ho; exact h1
 | 1, ho => cases ho; exact h2
 | 2, ho => cases ho; exact h3
 | 3, ho => cases ho; exact h4
 | _ + 4, ho => simp at ho
theorem below3 {n : Nat} {o1 o2 o3 : AObj} (h1 : zBB n o1.c) (h2 : zBB n o2.c) (h3 : zBB n o3.c) : ∀ (h : Nat) (o : AObj), ([some o1, some o2, some o3] : zg)[h]? = some (some o) → zBB n o.c := by
 intro h o ho
 match h, ho with
 | 0, ho => cases ho; exact h1
 | 1, ho => cases ho; exact h2
 | 2, ho => cases ho; exact h3
 | _ + 3, ho => simp at ho
theorem zDX (k : IntKind) (l : List Int) (n : Nat) : zBB n (.ints k l) := fun _ _ _ _ => rfl
theorem zHl (x : Int) (n : Nat) : zBB n (.box [.int .i64 x]) := by
 intro i j _ hj
 obtain rfl : j = 0 := by have hj : j < 1 := hj; omega
 rfl
theorem sets_ok (t : zAD) (p : Int) (hlen : t.length ≤ 9223372036854775807) : zk Tryz.prog 116 [.ro (z7 t) 0 t.length, .int .i64 p] (.tup [.ro (.ints .i64 (zAe t p)) 0 (zAe t p).length, .ro (.ints .i64 (zDG t p)) 0 (zDG t p).length]) := by
 refine zV.value0 (zN (P := Tryz.prog) (fn := Tryz.f116) rfl rfl (by kernel_rfl) rfl (fun c hR hfix => ?_)) (fix := fun _ => False) (fun _ h => h) rfl rfl
 rw [← zHs, ← zKW] at hR
 repeat (first | refine zD (zF rfl) ?_ | refine zD (zE rfl) ?_ | refine zB ?_ | refine zA ?_ | refine zG ?_ | refine zC rfl ?_ | refine zA8 rfl rfl ?_)
 refine zBn 6 ⟨3, .ints .i64 []⟩ rfl rfl ?_
 refine zBn 7 ⟨3, .ints .i64 []⟩ rfl rfl ?_
 repeat (refine zT ?_)
 refine zAC (ι := Nat) (fun k => [(0, .ro (z7 t) 0 t.length), (3, .ptr 0 0 0), (6, .sl 1 0 (zBP t p k).length), (7, .sl 2 0 (zBP t p k).length), (10, .int .i64 (k : Nat))]) (fun k => [some ⟨3, .box [.int .i64 p]⟩, some ⟨3, .ints .i64 (zBP t p k)⟩, some ⟨3, .ints .i64 (zCk t p k)⟩])
   (fun k => k ≤ 10) (fun k => 10 - k) 0 ⟨⟨rfl, rfl, rfl, rfl, rfl, trivial⟩, rfl, Nat.zero_le _⟩ ?_
 intro k hk
 repeat (first | refine zB ?_ | refine zA ?_ | refine zG ?_ | refine zC rfl ?_ | refine zD (zAQ rfl rfl) ?_)
 refine zK rfl (fun h => ?_) (fun h => ?_)
 · have hk' : k < 10 := by omega
   have ci := zKb t 162 [.rp (.box [.int .i64 p]) 0 0, .rp (.box [.int .i64 (k : Nat)]) 0 0] (zBO p (k : Int)) rfl hlen (fun n _ => sets1_ok n p k)
   have is := zGz t p k
   have ss := zJh t p k
   have hll := zH3 t p k
   have hsl := zHk t p k
   generalize hI2 : zBP t p (k + 1) = I2 at *
   generalize hS2 : zCk t p (k + 1) = S2 at *
   generalize zBP t p k = I at *
   generalize zCk t p k = S at *
   repeat (first | refine zD (zF rfl) ?_ | refine zB ?_ | refine zA ?_ | refine zG ?_ | refine zC rfl ?_ | refine zT ?_ | refine zP ?_ | refine zD (zJk rfl) ?_ | refine zAr rfl rfl rfl rfl rfl rfl rfl Nat.zero_lt_one ?_ | refine z8 rfl rfl rfl ?_)
   refine zAx [some ⟨3, .box [.int .i64 p]⟩, some ⟨3, .ints .i64 I⟩, some ⟨3, .ints .i64 S⟩, some ⟨3, .box [.int .i64 (k : Nat)]⟩] rfl ?_
   refine zU 8 (.ptr 3 0 0) rfl (AEq.of_eq rfl) ?_
   refine zU 14 (.fn 162 [.ptr 0 0 0, .ptr 3 0 0]) rfl (AEq.of_eq rfl) ?_
   refine zEs rfl rfl rfl rfl ci (refl4 (o1 := ⟨3, .box [.int .i64 p]⟩) (o2 := ⟨3, .ints .i64 I⟩) (o3 := ⟨3, .ints .i64 S⟩) (o4 := ⟨3, .box [.int .i64 (k : Nat)]⟩) (boxIU _) zAY zAY (boxIU _)) ⟨trivial, ⟨fun o ho => by simp at ho; subst ho; exact Nat.zero_lt_one, fun o ho => by simp at ho; subst ho; exact Nat.zero_lt_one, trivial⟩, trivial⟩ rfl rfl rfl ?_
   cases hany : t.any (zBO p (k : Int))
   · rw [hany, if_neg (by decide)] at is ss
     rw [zL9 _ _ hany]
     repeat (first | refine zD (zE rfl) ?_ | refine zB ?_)
     refine zA ?_
     refine zAy [some ⟨3, .box [.int .i64 p]⟩, some ⟨3, .ints .i64 I⟩, some ⟨3, .ints .i64 S⟩] [some ⟨3, .box [.int .i64 (k : Nat)]⟩] [(0, .ro (z7 t) 0 t.length), (3, .ptr 0 0 0), (6, .sl 1 0 I.length), (7, .sl 2 0 I.length), (9, .int .i64 (-1)), (10, .int .i64 (k : Nat))] rfl ⟨rfl, rfl, rfl, rfl, rfl, rfl, trivial⟩ (fun h hh => by rw [hfix] at hh; exact absurd hh id) (below3 (zHl _ _) (zDX _ _ _) (zDX _ _ _)) rfl ?_
     repeat (first | refine zD (zF rfl) ?_ | refine zB ?_ | refine zA ?_ | refine zG ?_ | refine zC rfl ?_ | refine ze rfl ?_ | refine zZ ?_ | refine zP ?_ | refine zD (zC2 rfl rfl) ?_ | refine zD (zAK rfl rfl (by omega)) ?_)
     exact zd ⟨k + 1, by omega, by omega, ⟨rfl, rfl, by rw [hI2, is]; rfl, by rw [hI2, is]; rfl, rfl, trivial⟩, by rw [hI2, hS2, is, ss]⟩
   · rw [hany, if_pos rfl] at is ss
     have hfl := zKl hany
     rw [zIg _ _ hany]
     have hw : zAA t p (k : Int) = (t.getD (t.findIdx (zBO p (k : Int))) node0).next.length := rfl
     have hfl : t.findIdx (zBO p (k : Int)) < t.length := hfl
     generalize zAA t p (k : Int) = wd at *
     generalize t.findIdx (zBO p (k : Int)) = f at *
     repeat (first | refine zD (zF rfl) ?_ | refine zD (zE rfl) ?_ | refine zB ?_ | refine zA ?_ | refine zG ?_ | refine zC rfl ?_ | refine zf rfl ?_ | refine zD (zC2 rfl rfl) ?_)
     refine zAI (by kernel_rfl) ?_
     refine zc 0 rfl (by kernel_rfl) (by kernel_rfl) (by kernel_rfl) rfl (zF rfl) rfl ?_
     refine zc 4 rfl (by kernel_rfl) (by kernel_rfl) (by kernel_rfl) rfl (zF rfl) rfl ?_
     refine zc 5 rfl (by kernel_rfl) (by kernel_rfl) (by kernel_rfl) rfl (zF rfl) rfl ?_
     refine zc 6 rfl (by kernel_rfl) (by kernel_rfl) (by kernel_rfl) rfl (zF rfl) rfl ?_
     refine zc 7 rfl (by kernel_rfl) (by kernel_rfl) (by kernel_rfl) rfl (zY rfl rfl rfl rfl (by first | (simp only [Nat.zero_add, Int.toNat_natCast, Int.toNat_zero]; exact rfl) | exact rfl) (by omega)) rfl ?_
     refine zc 8 rfl (by kernel_rfl) (by kernel_rfl) (by kernel_rfl) rfl (zDh rfl rfl rfl rfl rfl rfl) rfl ?_
     apply zCI (H := [some ⟨3, .box [.int .i64 p]⟩, some ⟨3, .ints .i64 (I ++ [(k : Int)])⟩, some ⟨3, .ints .i64 (S ++ [(wd : Int)])⟩, some ⟨3, .box [.int .i64 (k : Nat)]⟩]) [(0, .ro (z7 t) 0 t.length), (3, .ptr 0 0 0), (6, .sl 1 0 (I.length + 1)), (7, .sl 2 0 (I.length + 1)), (10, .int .i64 (k : Nat))]
     · intro fin2
       subst hw
       refine zO (is := [1, 9]) (by kernel_rfl) (by simp) rfl ⟨fun o ho => ?_, fun o ho => ?_, trivial⟩
       all_goals (cases ho)
       · repeat (first | refine zB ?_ | refine zJ ?_ | refine zD (zI rfl rfl rfl rfl rfl) ?_)
         refine zO (is := [2, 9]) (by kernel_rfl) (by simp) rfl ⟨fun o ho => ?_, fun o ho => ?_, trivial⟩
         all_goals (cases ho)
         · repeat (first | refine zB ?_ | refine zJ ?_ | refine zS rfl rfl rfl rfl rfl rfl rfl rfl rfl rfl rfl ?_)
           refine zO (is := [3, 9]) (by kernel_rfl) (by simp) rfl ⟨fun o ho => ?_, fun o ho => ?_, trivial⟩
           all_goals (cases ho)
           · refine zAE rfl rfl rfl rfl rfl rfl rfl rfl rfl rfl rfl rfl (by show 0 + 1 ≤ 1; omega) rfl (by show (I.length + 1) * 8 ≤ _ ∧ _; omega) (fun i j _ _ => rfl) (by rw [hfix]; exact fun h => h) ?_
             repeat (first | refine zB ?_ | refine zJ ?_)
             refine zO (is := [9]) (by kernel_rfl) (by simp) rfl ⟨fun o ho => ?_, trivial⟩
             all_goals (cases ho)
             repeat (first | refine zB ?_ | refine zJ ?_ | refine zD (zBD rfl rfl rfl rfl) ?_)
             refine zc 10 rfl (by kernel_rfl) (by kernel_rfl) (by kernel_rfl) rfl (zw rfl rfl rfl) rfl ?_
             refine zO (is := [11]) (by kernel_rfl) (by simp) rfl ⟨fun o ho => ?_, trivial⟩
             all_goals (cases ho)
             repeat (first | refine zB ?_ | refine zJ ?_ | refine zS rfl rfl rfl rfl rfl rfl rfl rfl rfl rfl rfl ?_)
             refine zO (is := [12]) (by kernel_rfl) (by simp) rfl ⟨fun o ho => ?_, trivial⟩
             all_goals (cases ho)
             refine zAE rfl rfl rfl rfl rfl rfl rfl rfl rfl hsl rfl rfl (by show 0 + 1 ≤ 1; omega) rfl (by show (I.length + 1) * 8 ≤ _ ∧ _; omega) (fun i j _ _ => rfl) (by rw [hfix]; exact fun h => h) ?_
             repeat (first | refine zB ?_ | refine zJ ?_)
             refine zc 13 rfl (by kernel_rfl) (by kernel_rfl) (by kernel_rfl) rfl (zE rfl) rfl ?_
             refine zc 14 rfl (by kernel_rfl) (by kernel_rfl) (by kernel_rfl) rfl (zE rfl) rfl ?_
             exact fin2 _ ⟨rfl, rfl, rfl, rfl, rfl, trivial⟩
           · repeat (first | refine zB ?_ | refine zJ ?_ | refine zD (zBD rfl rfl rfl rfl) ?_)
             refine zc 10 rfl (by kernel_rfl) (by kernel_rfl) (by kernel_rfl) rfl (zw rfl rfl rfl) rfl ?_
             refine zO (is := [3, 11]) (by kernel_rfl) (by simp) rfl ⟨fun o ho => ?_, fun o ho => ?_, trivial⟩
             all_goals (cases ho)
             · refine zAE rfl rfl rfl rfl rfl rfl rfl rfl rfl rfl rfl rfl (by show 0 + 1 ≤ 1; omega) rfl (by show (I.length + 1) * 8 ≤ _ ∧ _; omega) (fun i j _ _ => rfl) (by rw [hfix]; exact fun h => h) ?_
               repeat (first | refine zB ?_ | refine zJ ?_)
               refine zO (is := [11]) (by kernel_rfl) (by simp) rfl ⟨fun o ho => ?_, trivial⟩
               all_goals (cases ho)
               repeat (first | refine zB ?_ | refine zJ ?_ | refine zS rfl rfl rfl rfl rfl rfl rfl rfl rfl rfl rfl ?_)
               refine zO (is := [12]) (by kernel_rfl) (by simp) rfl ⟨fun o ho => ?_, trivial⟩
               all_goals (cases ho)
               refine zAE rfl rfl rfl rfl rfl rfl rfl rfl rfl hsl rfl rfl (by show 0 + 1 ≤ 1; omega) rfl (by show (I.length + 1) * 8 ≤ _ ∧ _; omega) (fun i j _ _ => rfl) (by rw [hfix]; exact fun h => h) ?_
               repeat (first | refine zB ?_ | refine zJ ?_)
               refine zc 13 rfl (by kernel_rfl) (by kernel_rfl) (by kernel_rfl) rfl (zE rfl) rfl ?_
               refine zc 14 rfl (by kernel_rfl) (by kernel_rfl) (by kernel_rfl) rfl (zE rfl) rfl ?_
               exact fin2 _ ⟨rfl, rfl, rfl, rfl, rfl, trivial⟩
             · repeat (first | refine zB ?_ | refine zJ ?_ | refine zS rfl rfl rfl rfl rfl rfl rfl rfl rfl rfl rfl ?_)
               refine zO (is := [3]) (by kernel_rfl) (by simp) rfl ⟨fun o ho => ?_, trivial⟩
               all_goals (cases ho)
               refine zAE rfl rfl rfl rfl rfl rfl rfl rfl rfl rfl rfl rfl (by show 0 + 1 ≤ 1; omega) rfl (by show (I.length + 1) * 8 ≤ _ ∧ _; omega) (fun i j _ _ => rfl) (by rw [hfix]; exact fun h => h) ?_
               repeat (first | refine zB ?_ | refine zJ ?_)
               refine zO (is := [12]) (by kernel_rfl) (by simp) rfl ⟨fun o ho => ?_, trivial⟩
               all_goals (cases ho)
               refine zAE rfl rfl rfl rfl rfl rfl rfl rfl rfl hsl rfl rfl (by show 0 + 1 ≤ 1; omega) rfl (by show (I.length + 1) * 8 ≤ _ ∧ _; omega) (fun i j _ _ => rfl) (by rw [hfix]; exact fun h => h) ?_
               repeat (first | refine zB ?_ | refine zJ ?_)
               refine zc 13 rfl (by kernel_rfl) (by kernel_rfl) (by kernel_rfl) rfl (zE rfl) rfl ?_
               refine zc 14 rfl (by kernel_rfl) (by kernel_rfl) (by kernel_rfl) rfl (zE rfl) rfl ?_
               exact fin2 _ ⟨rfl, rfl, rfl, rfl, rfl, trivial⟩
         · repeat (first | refine zB ?_ | refine zJ ?_ | refine zD (zBD rfl rfl rfl rfl) ?_)
           refine zc 10 rfl (by kernel_rfl) (by kernel_rfl) (by kernel_rfl) rfl (zw rfl rfl rfl) rfl ?_
           refine zO (is := [2, 11]) (by kernel_rfl) (by simp) rfl ⟨fun o ho => ?_, fun o ho => ?_, trivial⟩
           all_goals (cases ho)
           · repeat (first | refine zB ?_ | refine zJ ?_ | refine zS rfl rfl rfl rfl rfl rfl rfl rfl rfl rfl rfl ?_)
             refine zO (is := [3, 11]) (by kernel_rfl) (by simp) rfl ⟨fun o ho => ?_, fun o ho => ?_, trivial⟩
             all_goals (cases ho)
             · refine zAE rfl rfl rfl rfl rfl rfl rfl rfl rfl rfl rfl rfl (by show 0 + 1 ≤ 1; omega) rfl (by show (I.length + 1) * 8 ≤ _ ∧ _; omega) (fun i j _ _ => rfl) (by rw [hfix]; exact fun h => h) ?_
               repeat (first | refine zB ?_ | refine zJ ?_)
               refine zO (is := [11]) (by kernel_rfl) (by simp) rfl ⟨fun o ho => ?_, trivial⟩
               all_goals (cases ho)
               repeat (first | refine zB ?_ | refine zJ ?_ | refine zS rfl rfl rfl rfl rfl rfl rfl rfl rfl rfl rfl ?_)
               refine zO (is := [12]) (by kernel_rfl) (by simp) rfl ⟨fun o ho => ?_, trivial⟩
               all_goals (cases ho)
               refine zAE rfl rfl rfl rfl rfl rfl rfl rfl rfl hsl rfl rfl (by show 0 + 1 ≤ 1; omega) rfl (by show (I.length + 1) * 8 ≤ _ ∧ _; omega) (fun i j _ _ => rfl) (by rw [hfix]; exact fun h => h) ?_
               repeat (first | refine zB ?_ | refine zJ ?_)
               refine zc 13 rfl (by kernel_rfl) (by kernel_rfl) (by kernel_rfl) rfl (zE rfl) rfl ?_
               refine zc 14 rfl (by kernel_rfl) (by kernel_rfl) (by kernel_rfl) rfl (zE rfl) rfl ?_
               exact fin2 _ ⟨rfl, rfl, rfl, rfl, rfl, trivial⟩
             · repeat (first | refine zB ?_ | refine zJ ?_ | refine zS rfl rfl rfl rfl rfl rfl rfl rfl rfl rfl rfl ?_)
               refine zO (is := [3]) (by kernel_rfl) (by simp) rfl ⟨fun o ho => ?_, trivial⟩
               all_goals (cases ho)
               refine zAE rfl rfl rfl rfl rfl rfl rfl rfl rfl rfl rfl rfl (by show 0 + 1 ≤ 1; omega) rfl (by show (I.length + 1) * 8 ≤ _ ∧ _; omega) (fun i j _ _ => rfl) (by rw [hfix]; exact fun h => h) ?_
               repeat (first | refine zB ?_ | refine zJ ?_)
               refine zO (is := [12]) (by kernel_rfl) (by simp) rfl ⟨fun o ho => ?_, trivial⟩
               all_goals (cases ho)
               refine zAE rfl rfl rfl rfl rfl rfl rfl rfl rfl hsl rfl rfl (by show 0 + 1 ≤ 1; omega) rfl (by show (I.length + 1) * 8 ≤ _ ∧ _; omega) (fun i j _ _ => rfl) (by rw [hfix]; exact fun h => h) ?_
               repeat (first | refine zB ?_ | refine zJ ?_)
               refine zc 13 rfl (by kernel_rfl) (by kernel_rfl) (by kernel_rfl) rfl (zE rfl) rfl ?_
               refine zc 14 rfl (by kernel_rfl) (by kernel_rfl) (by kernel_rfl) rfl (zE rfl) rfl ?_
               exact fin2 _ ⟨rfl, rfl, rfl, rfl, rfl, trivial⟩
           · repeat (first | refine zB ?_ | refine zJ ?_ | refine zS rfl rfl rfl rfl rfl rfl rfl rfl rfl rfl rfl ?_)
             refine zO (is := [2]) (by kernel_rfl) (by simp) rfl ⟨fun o ho => ?_, trivial⟩
             all_goals (cases ho)
             repeat (first | refine zB ?_ | refine zJ ?_ | refine zS rfl rfl rfl rfl rfl rfl rfl rfl rfl rfl rfl ?_)
             refine zO (is := [3]) (by kernel_rfl) (by simp) rfl ⟨fun o ho => ?_, trivial⟩
             all_goals (cases ho)
             refine zAE rfl rfl rfl rfl rfl rfl rfl rfl rfl rfl rfl rfl (by show 0 + 1 ≤ 1; omega) rfl (by show (I.length + 1) * 8 ≤ _ ∧ _; omega) (fun i j _ _ => rfl) (by rw [hfix]; exact fun h => h) ?_
             repeat (first | refine zB ?_ | refine zJ ?_)
             refine zO (is := [12]) (by kernel_rfl) (by simp) rfl ⟨fun o ho => ?_, trivial⟩
             all_goals (cases ho)
             refine zAE rfl rfl rfl rfl rfl rfl rfl rfl rfl hsl rfl rfl (by show 0 + 1 ≤ 1; omega) rfl (by show (I.length + 1) * 8 ≤ _ ∧ _; omega) (fun i j _ _ => rfl) (by rw [hfix]; exact fun h => h) ?_
             repeat (first | refine zB ?_ | refine zJ ?_)
             refine zc 13 rfl (by kernel_rfl) (by kernel_rfl) (by kernel_rfl) rfl (zE rfl) rfl ?_
             refine zc 14 rfl (by kernel_rfl) (by kernel_rfl) (by kernel_rfl) rfl (zE rfl) rfl ?_
             exact fin2 _ ⟨rfl, rfl, rfl, rfl, rfl, trivial⟩
       · repeat (first | refine zB ?_ | refine zJ ?_ | refine zD (zBD rfl rfl rfl rfl) ?_)
         refine zc 10 rfl (by kernel_rfl) (by kernel_rfl) (by kernel_rfl) rfl (zw rfl rfl rfl) rfl ?_
         refine zO (is := [1, 11]) (by kernel_rfl) (by simp) rfl ⟨fun o ho => ?_, fun o ho => ?_, trivial⟩
         all_goals (cases ho)
         · repeat (first | refine zB ?_ | refine zJ ?_ | refine zD (zI rfl rfl rfl rfl rfl) ?_)
           refine zO (is := [2, 11]) (by kernel_rfl) (by simp) rfl ⟨fun o ho => ?_, fun o ho => ?_, trivial⟩
           all_goals (cases ho)
           · repeat (first | refine zB ?_ | refine zJ ?_ | refine zS rfl rfl rfl rfl rfl rfl rfl rfl rfl rfl rfl ?_)
             refine zO (is := [3, 11]) (by kernel_rfl) (by simp) rfl ⟨fun o ho => ?_, fun o ho => ?_, trivial⟩
             all_goals (cases ho)
             · refine zAE rfl rfl rfl rfl rfl rfl rfl rfl rfl rfl rfl rfl (by show 0 + 1 ≤ 1; omega) rfl (by show (I.length + 1) * 8 ≤ _ ∧ _; omega) (fun i j _ _ => rfl) (by rw [hfix]; exact fun h => h) ?_
               repeat (first | refine zB ?_ | refine zJ ?_)
               refine zO (is := [11]) (by kernel_rfl) (by simp) rfl ⟨fun o ho => ?_, trivial⟩
               all_goals (cases ho)
               repeat (first | refine zB ?_ | refine zJ ?_ | refine zS rfl rfl rfl rfl rfl rfl rfl rfl rfl rfl rfl ?_)
               refine zO (is := [12]) (by kernel_rfl) (by simp) rfl ⟨fun o ho => ?_, trivial⟩
               all_goals (cases ho)
               refine zAE rfl rfl rfl rfl rfl rfl rfl rfl rfl hsl rfl rfl (by show 0 + 1 ≤ 1; omega) rfl (by show (I.length + 1) * 8 ≤ _ ∧ _; omega) (fun i j _ _ => rfl) (by rw [hfix]; exact fun h => h) ?_
               repeat (first | refine zB ?_ | refine zJ ?_)
               refine zc 13 rfl (by kernel_rfl) (by kernel_rfl) (by kernel_rfl) rfl (zE rfl) rfl ?_
               refine zc 14 rfl (by kernel_rfl) (by kernel_rfl) (by kernel_rfl) rfl (zE rfl) rfl ?_
               exact fin2 _ ⟨rfl, rfl, rfl, rfl, rfl, trivial⟩
             · repeat (first | refine zB ?_ | refine zJ ?_ | refine zS rfl rfl rfl rfl rfl rfl rfl rfl rfl rfl rfl ?_)
               refine zO (is := [3]) (by kernel_rfl) (by simp) rfl ⟨fun o ho => ?_, trivial⟩
               all_goals (cases ho)
               refine zAE rfl rfl rfl rfl rfl rfl rfl rfl rfl rfl rfl rfl (by show 0 + 1 ≤ 1; omega) rfl (by show (I.length + 1) * 8 ≤ _ ∧ _; omega) (fun i j _ _ => rfl) (by rw [hfix]; exact fun h => h) ?_
               repeat (first | refine zB ?_ | refine zJ ?_)
               refine zO (is := [12]) (by kernel_rfl) (by simp) rfl ⟨fun o ho => ?_, trivial⟩
               all_goals (cases ho)
               refine zAE rfl rfl rfl rfl rfl rfl rfl rfl rfl hsl rfl rfl (by show 0 + 1 ≤ 1; omega) rfl (by show (I.length + 1) * 8 ≤ _ ∧ _; omega) (fun i j _ _ => rfl) (by rw [hfix]; exact fun h => h) ?_
               repeat (first | refine zB ?_ | refine zJ ?_)
               refine zc 13 rfl (by kernel_rfl) (by kernel_rfl) (by kernel_rfl) rfl (zE rfl) rfl ?_
               refine zc 14 rfl (by kernel_rfl) (by kernel_rfl) (by kernel_rfl) rfl (zE rfl) rfl ?_
               exact fin2 _ ⟨rfl, rfl, rfl, rfl, rfl, trivial⟩
           · repeat (first | refine zB ?_ | refine zJ ?_ | refine zS rfl rfl rfl rfl rfl rfl rfl rfl rfl rfl rfl ?_)
             refine zO (is := [2]) (by kernel_rfl) (by simp) rfl ⟨fun o ho => ?_, trivial⟩
             all_goals (cases ho)
             repeat (first | refine zB ?_ | refine zJ ?_ | refine zS rfl rfl rfl rfl rfl rfl rfl rfl rfl rfl rfl ?_)
             refine zO (is := [3]) (by kernel_rfl) (by simp) rfl ⟨fun o ho => ?_, trivial⟩
             all_goals (cases ho)
             refine zAE rfl rfl rfl rfl rfl rfl rfl rfl rfl rfl rfl rfl (by show 0 + 1 ≤ 1; omega) rfl (by show (I.length + 1) * 8 ≤ _ ∧ _; omega) (fun i j _ _ => rfl) (by rw [hfix]; exact fun h => h) ?_
             repeat (first | refine zB ?_ | refine zJ ?_)
             refine zO (is := [12]) (by kernel_rfl) (by simp) rfl ⟨fun o ho => ?_, trivial⟩
             all_goals (cases ho)
             refine zAE rfl rfl rfl rfl rfl rfl rfl rfl rfl hsl rfl rfl (by show 0 + 1 ≤ 1; omega) rfl (by show (I.length + 1) * 8 ≤ _ ∧ _; omega) (fun i j _ _ => rfl) (by rw [hfix]; exact fun h => h) ?_
             repeat (first | refine zB ?_ | refine zJ ?_)
             refine zc 13 rfl (by kernel_rfl) (by kernel_rfl) (by kernel_rfl) rfl (zE rfl) rfl ?_
             refine zc 14 rfl (by kernel_rfl) (by kernel_rfl) (by kernel_rfl) rfl (zE rfl) rfl ?_
             exact fin2 _ ⟨rfl, rfl, rfl, rfl, rfl, trivial⟩
         · repeat (first | refine zB ?_ | refine zJ ?_ | refine zS rfl rfl rfl rfl rfl rfl rfl rfl rfl rfl rfl ?_)
           refine zO (is := [1]) (by kernel_rfl) (by simp) rfl ⟨fun o ho => ?_, trivial⟩
           all_goals (cases ho)
           repeat (first | refine zB ?_ | refine zJ ?_ | refine zD (zI rfl rfl rfl rfl rfl) ?_)
           refine zO (is := [2]) (by kernel_rfl) (by simp) rfl ⟨fun o ho => ?_, trivial⟩
           all_goals (cases ho)
           repeat (first | refine zB ?_ | refine zJ ?_ | refine zS rfl rfl rfl rfl rfl rfl rfl rfl rfl rfl rfl ?_)
           refine zO (is := [3]) (by kernel_rfl) (by simp) rfl ⟨fun o ho => ?_, trivial⟩
           all_goals (cases ho)
           refine zAE rfl rfl rfl rfl rfl rfl rfl rfl rfl rfl rfl rfl (by show 0 + 1 ≤ 1; omega) rfl (by show (I.length + 1) * 8 ≤ _ ∧ _; omega) (fun i j _ _ => rfl) (by rw [hfix]; exact fun h => h) ?_
           repeat (first | refine zB ?_ | refine zJ ?_)
           refine zO (is := [12]) (by kernel_rfl) (by simp) rfl ⟨fun o ho => ?_, trivial⟩
           all_goals (cases ho)
           refine zAE rfl rfl rfl rfl rfl rfl rfl rfl rfl hsl rfl rfl (by show 0 + 1 ≤ 1; omega) rfl (by show (I.length + 1) * 8 ≤ _ ∧ _; omega) (fun i j _ _ => rfl) (by rw [hfix]; exact fun h => h) ?_
           repeat (first | refine zB ?_ | refine zJ ?_)
           refine zc 13 rfl (by kernel_rfl) (by kernel_rfl) (by kernel_rfl) rfl (zE rfl) rfl ?_
           refine zc 14 rfl (by kernel_rfl) (by kernel_rfl) (by kernel_rfl) rfl (zE rfl) rfl ?_
           exact fin2 _ ⟨rfl, rfl, rfl, rfl, rfl, trivial⟩
     · refine zAB (by kernel_rfl) ?_
       repeat (refine zZ ?_)
       refine zA ?_
       refine zAy [some ⟨3, .box [.int .i64 p]⟩, some ⟨3, .ints .i64 (I ++ [(k : Int)])⟩, some ⟨3, .ints .i64 (S ++ [(wd : Int)])⟩] [some ⟨3, .box [.int .i64 (k : Nat)]⟩] [(0, .ro (z7 t) 0 t.length), (3, .ptr 0 0 0), (6, .sl 1 0 (I.length + 1)), (7, .sl 2 0 (I.length + 1)), (10, .int .i64 (k : Nat))] rfl ⟨rfl, rfl, rfl, rfl, rfl, trivial⟩ (fun h hh => by rw [hfix] at hh; exact absurd hh id) (below3 (zHl _ _) (zDX _ _ _) (zDX _ _ _)) rfl ?_
       repeat (first | refine zD (zF rfl) ?_ | refine zB ?_ | refine zC rfl ?_ | refine zD (zAK rfl rfl (by omega)) ?_)
       have il : I2.length = I.length + 1 := by rw [is, List.length_append]; rfl
       exact zd ⟨k + 1, by omega, by omega, ⟨rfl, rfl, by rw [hI2, il]; rfl, by rw [hI2, il]; rfl, rfl, trivial⟩, by rw [hI2, hS2, is, ss]⟩
 · have hke10 : k = 10 := by omega
   subst hke10
   have hsl := zHk t p 10
   repeat (first | refine zA ?_ | refine zG ?_ | refine zx ?_ | refine zW ?_ | refine zX ?_ | refine zi ?_)
   refine zA4 1 6 (zBP t p 10).length [(7, .sl 2 0 (zBP t p 10).length)] rfl zAY rfl (by show (zBP t p 10).length ≤ (zBP t p 10).length; exact Nat.le_refl _) ⟨rfl, trivial⟩ ?_
   refine zA4 2 7 (zBP t p 10).length [(6, .ro (.ints .i64 (zBP t p 10)) 0 (zBP t p 10).length)] rfl zAY rfl (by show (zBP t p 10).length ≤ (zCk t p 10).length; omega) ⟨rfl, trivial⟩ ?_
   refine zAv 7 (.ro (.ints .i64 (zCk t p 10)) 0 (zCk t p 10).length) rfl (AEq.of_eq (by rw [hsl])) ?_
   repeat (first | refine zD (zF rfl) ?_ | refine zD (zE rfl) ?_ | refine zB ?_ | refine zA ?_ | refine zC rfl ?_ | refine zH ?_)
   exact zR hR rfl rfl
end Go.Proofs.YtgmleamhjnlknaaGreatDoor
namespace Go.Proofs.YtgmleamhjnlknaaGreatDoor
open Go.Ax Go.Ax.Bg Go.Ax.Rt Go.RowKit
attribute [local irreducible] Ax zAV QOp zV zAJ
set_option maxRecDepth 100000
set_option maxHeartbeats 4000000
def cellS (r : List zAZ) : List AV := [.ro (.strs r) 0 r.length]
def cellR (r : List Rat) : List AV := [.ro (qsC r) 0 r.length]
abbrev rowsT (m : List (List zAZ)) : Cells := zCN [] 1 cellS m
abbrev rowsQ (m : List (List Rat)) : Cells := zCN [] 1 cellR m
theorem in_ok' (l : List zAZ) (hlen : l.length ≤ 1000000) (hs : ∀ s ∈ l, s.length ≤ 9223372036854775807 ∧ zCW s = 0) : zk Tryz.prog 70 [.ro (.strs l) 0 l.length] (.ro (qsC (l.map zAi)) 0 (l.map zAi).length) := by
 have := in_ok l hlen hs
 rwa [List.length_map]
end Go.Proofs.YtgmleamhjnlknaaGreatDoor
namespace Go.Proofs.YtgmleamhjnlknaaGreatDoor
open Go.Ax Go.Ax.Bg Go.Ax.Rt Go.RowKit
attribute [local irreducible] Ax zAV QOp zV zAJ
set_option maxRecDepth 100000
set_option maxHeartbeats 4000000
theorem sz_D {m : Nat} {q : Rat} (h : D (9 * m) q) : Sz m q := by
 have key : ∀ n : Nat, n < 10 ^ (9 * m) → (zh n).length ≤ m := fun n hn => by
   refine zAj (Nat.lt_of_lt_of_le hn ?_)
   rw [Nat.pow_mul]
   exact Nat.pow_le_pow_left (by decide) m
 exact ⟨key _ h.1, key _ h.2⟩
end Go.Proofs.YtgmleamhjnlknaaGreatDoor
namespace Go.Proofs.YtgmleamhjnlknaaGreatDoor
open Go.Ax Go.Ax.Bg Go.Ax.Rt Go.RowKit
attribute [local irreducible] Ax zAV QOp zV zAJ
set_option maxRecDepth 100000
set_option maxHeartbeats 4000000
end Go.Proofs.YtgmleamhjnlknaaGreatDoor
namespace Go.Proofs.YtgmleamhjnlknaaGreatDoor
open Go.Ax Go.Ax.Bg Go.Ax.Rt Go.RowKit
attribute [local irreducible] Ax zAV QOp zV zAJ
set_option maxRecDepth 100000
set_option maxHeartbeats 4000000
def matP (p : List (List zAZ) × Int) : AV := .tup [.ro (rowsT p.1) 0 p.1.length, .int .i64 p.2]
theorem zJX (l : List Rat) (hlen : l.length ≤ 1000000) (hs : ∀ q ∈ l, Sz 100000 q) (hall : l.all zBd = true) : zk Tryz.prog 75 [.ro (qsC l) 0 l.length] (.tup [.ro (.strs (l.map zAM)) 0 (l.map zAM).length, .int .i64 0]) := by
 have := zKx l hlen hs hall
 rwa [List.length_map]
end Go.Proofs.YtgmleamhjnlknaaGreatDoor
namespace Go.Proofs.YtgmleamhjnlknaaGreatDoor
open Go.Ax Go.Ax.Bg Go.Ax.Rt Go.RowKit
attribute [local irreducible] Ax zAV QOp zV zAJ
set_option maxRecDepth 100000
set_option maxHeartbeats 4000000
end Go.Proofs.YtgmleamhjnlknaaGreatDoor
namespace Go.Proofs.YtgmleamhjnlknaaGreatDoor
open Go.Ax Go.Ax.Bg Go.Ax.Rt Go.RowKit
attribute [local irreducible] Ax zAV QOp zV zAJ
set_option maxRecDepth 100000
set_option maxHeartbeats 4000000
def vecP (p : List zAZ × Int) : AV := .tup [.ro (.strs p.1) 0 p.1.length, .int .i64 p.2]
theorem zMg (l : List Rat) (hlen : l.length ≤ 1000000) (hs : ∀ q ∈ l, Sz 100000 q) : ∃ r : AV, zk Tryz.prog 75 [.ro (qsC l) 0 l.length] (.tup [r, .int .i64 (zAq l).2]) ∧ AEq r (.ro (.strs (zAq l).1) 0 (zAq l).1.length) := by
 cases h : l.all zBd
 · refine ⟨.nil, ?_, ?_⟩
   · have := zMJ l hlen hs h
     unfold zAq; rw [h]; exact this
   · unfold zAq; rw [h]; exact AEq.nil
 · refine ⟨_, ?_, AEq.rfl'⟩
   have := zJX l hlen hs h
   unfold zAq; rw [h]; exact this
end Go.Proofs.YtgmleamhjnlknaaGreatDoor
namespace Go.Proofs.YtgmleamhjnlknaaGreatDoor
open Go.Ax Go.Ax.Bg Go.Ax.Rt Go.RowKit Go.Ax.Idx Go.Ax.Cd
attribute [local irreducible] Ax zAV QOp zV zAJ
set_option maxRecDepth 100000
set_option maxHeartbeats 4000000
theorem equalV (a b : List (List UInt8)) (hlen : a.length ≤ 9223372036854775807) (hlb : b.length ≤ 9223372036854775807) : zk Tryz.prog 38 [.ro (.strs a) 0 a.length, .ro (.strs b) 0 b.length] (.bool (decide (a = b))) := by
 refine zV.value0 (zN (P := Tryz.prog) (fn := Tryz.f38) rfl rfl (by kernel_rfl) rfl (fun c hR hfix => ?_)) (fix := fun _ => False) (fun _ h => h) rfl rfl
 repeat (first | refine zD (zF rfl) ?_ | refine zD (zE rfl) ?_ | refine zB ?_ | refine zA ?_ | refine zG ?_ | refine zC rfl ?_ | refine zD (zAb rfl rfl) ?_ | refine zD (zw rfl rfl rfl) ?_)
 refine zK rfl (fun h => ?_) (fun h => ?_)
 · repeat (first | refine zD (zE rfl) ?_ | refine zB ?_ | refine zA ?_ | refine zG ?_ | refine zC rfl ?_ | refine zH ?_ | refine zQ ?_)
   refine zR hR rfl ?_
   have : ¬ a = b := by rintro rfl; exact h rfl
   simp [zA1, this]
 have hab : a.length = b.length := by omega
 repeat (first | refine zD (zF rfl) ?_ | refine zB ?_ | refine zA ?_ | refine zG ?_ | refine zC rfl ?_ | refine zT ?_ | refine zP ?_ | refine zD (zw rfl rfl rfl) ?_)
 refine zAC (ι := Nat) (fun k => [(0, .ro (.strs a) 0 a.length), (1, .ro (.strs b) 0 b.length), (12, .int .i64 (a.length : Nat)), (13, .int .i64 (k : Nat))]) (fun _ => [])
   (fun k => k ≤ a.length ∧ a.take k = b.take k) (fun k => a.length - k) 0 ⟨⟨rfl, rfl, rfl, rfl, trivial⟩, rfl, Nat.zero_le _, rfl⟩ ?_
 intro k ⟨hk, heq⟩
 repeat (first | refine zB ?_ | refine zA ?_ | refine zG ?_ | refine zC rfl ?_ | refine zD (zAQ rfl rfl) ?_)
 refine zK rfl (fun h2 => ?_) (fun h2 => ?_)
 · have hk' : k < a.length := by omega
   have ha := zAU a [] k hk'
   have hb := zAU b [] k (by omega)
   repeat (first | refine zD (zF rfl) ?_ | refine zD (zE rfl) ?_ | refine zB ?_ | refine zA ?_ | refine zG ?_ | refine zC rfl ?_ | refine zT ?_ | refine zP ?_)
   refine zCp (by kernel_rfl) (by kernel_rfl) rfl ?_
   repeat (first | refine zD (zF rfl) ?_ | refine zB ?_ | refine zA ?_ | refine zD (zBx rfl rfl rfl) ?_ | refine zD (zY rfl rfl rfl rfl (by first | (simp only [Nat.zero_add, Int.toNat_natCast, Int.toNat_zero]; exact rfl) | exact rfl) (by omega)) ?_ | refine zD (zCz rfl rfl) ?_)
   refine zK rfl (fun h3 => ?_) (fun h3 => ?_)
   · repeat (first | refine zD (zE rfl) ?_ | refine zB ?_ | refine zA ?_ | refine zG ?_ | refine zC rfl ?_ | refine zH ?_ | refine zQ ?_ | refine zo ?_ | refine zAf ?_)
     refine zR hR rfl ?_
     have : ¬ a = b := by rintro rfl; exact h3 rfl
     simp [zA1, this]
   · repeat (first | refine zD (zF rfl) ?_ | refine zB ?_ | refine zA ?_ | refine zC rfl ?_ | refine zZ ?_ | refine zP ?_ | refine zD (zAK rfl rfl (by omega)) ?_)
     have h4 : a.getD k [] = b.getD k [] := Classical.not_not.1 h3
     exact zd ⟨k + 1, ⟨by omega, by rw [ha, hb, heq, h4]⟩, by omega, ⟨rfl, rfl, rfl, rfl, trivial⟩, rfl⟩
 · have hk' : k = a.length := by omega
   subst hk'
   rw [List.take_length, hab, List.take_length] at heq
   repeat (first | refine zD (zE rfl) ?_ | refine zB ?_ | refine zA ?_ | refine zG ?_ | refine zC rfl ?_ | refine zx ?_ | refine zW ?_ | refine zX ?_ | refine zi ?_ | refine zH ?_)
   refine zR hR rfl ?_
   simp [zA1, heq]
def longV (n : Int) (v : List zAZ) : Bool := decide (n < (v.length : Int)) || v.any (fun s => decide (12 < (s.length : Int)))
def cellM (m : List (List zAZ)) : List AV := [.ro (rowsT m) 0 m.length]
abbrev matsT (l : List (List (List zAZ))) : Cells := zCN [] 1 cellM l
end Go.Proofs.YtgmleamhjnlknaaGreatDoor
namespace Go.Proofs.YtgmleamhjnlknaaGreatDoor
open Go.Ax Go.Ax.Bg Go.Ax.Rt Go.RowKit Go.Ax.Idx Go.Ax.Cd
attribute [local irreducible] Ax zAV QOp zV zAJ
set_option maxRecDepth 100000
set_option maxHeartbeats 4000000
def colT (m : List (List zAZ)) (k : Nat) : List zAZ := m.map (fun r => r.getD k [])
end Go.Proofs.YtgmleamhjnlknaaGreatDoor
namespace Go.Proofs.YtgmleamhjnlknaaGreatDoor
open Go.Ax Go.Ax.Bg Go.Ax.Rt Go.RowKit Go.Ax.Idx Go.Ax.Cd
attribute [local irreducible] Ax zAV QOp zV zAJ
set_option maxRecDepth 100000
set_option maxHeartbeats 4000000
end Go.Proofs.YtgmleamhjnlknaaGreatDoor
