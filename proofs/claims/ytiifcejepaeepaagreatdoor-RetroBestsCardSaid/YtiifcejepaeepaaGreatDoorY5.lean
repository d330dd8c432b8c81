import Derived.Shelf.SlSortCmp.NoneTotal
import Derived.Ground.SlsfProg
import Derived.Test.YtiifcejepaeepaaGreatDoorProg
import Derived.Shelf.Strconv.AppendIntPublic10
import Derived.Test.YtiifcejepaeepaaGreatDoorY4
set_option linter.unusedVariables false
set_option linter.unusedSimpArgs false
set_option maxRecDepth 100000
set_option maxHeartbeats 4000000
namespace Go.Proofs.YtiifcejepaeepaaGreatDoor
open Go.Ax Go.Ax.Gm Go.RowKit Go.Ax.Idx Go.Ax.Cd
attribute [local irreducible] Ax zB4 QOp zd
/-- rules.Check$1 -/
theorem zMH (r : Go.Ax.Gm.Rules) (hr : Lens r) (h6 : r.pcs.length ≤ 6) (c0 : Int) : zl Tryz.prog 92 [.int .i64 c0, .rp (.box (ruC r)) 0 0] (.bool (!(zEh r.pcs.length c0))) := by
 refine zd.value0 (zL (P := Tryz.prog) (fn := Tryz.f92) Z Z (by kernel_rfl) Z (fun c hR hfix => ?_)) (fix := fun _ => False) (fun _ h => h) Z Z
 have hpl := hr.pcs
 refine zBn ?_
 refine zA (zCo Z Z (by omega)) ?_
 skip
 refine zQ Z Z Z (zAv _ _ _) ?_
 refine rn5 ?_
 exact zN hR Z Z
/-- rules.conditions -/
theorem zIk (r : Go.Ax.Gm.Rules) (hr : Lens r) : zl Tryz.prog 93 [ruA r] (.int .i64 (zHE r.pcs.length r.ends)) := by
 refine zd.value0 (zL (P := Tryz.prog) (fn := Tryz.f93) Z Z (by kernel_rfl) Z (fun c hR hfix => ?_)) (fix := fun _ => False) (fun _ h => h) Z Z
 have hpl := hr.pcs
 have hel := hr.ends
 refine zX ?_
 repeat (first | refine zA (zP rfl) ?_ | refine zC ?_ | refine zB ?_ | refine zK rfl ?_ | refine zAo rfl rfl ?_)
 refine zB5 1 [(2, .int .i64 0)] Z ⟨Z, Z, trivial⟩ ⟨Z, trivial⟩ Z hfix ?_
 repeat (first | refine zC ?_ | refine zB ?_ | refine zX ?_ | refine zK rfl ?_ | refine zA (zCY rfl rfl) ?_ | refine zA (zBD rfl rfl rfl) ?_ | refine zA (zD rfl rfl rfl rfl) ?_ | refine zA (zI rfl rfl rfl rfl rfl rfl) ?_)
 refine zF Z (fun h => ?_) (fun h => ?_)
 ·refine rn2 ?_
  refine zN hR Z ?_
  unfold zHE; rw [if_pos (by omega)]; rfl
 refine zBn ?_
 refine zx (ι := Nat) (fun k => [(1, .rp (.box (ruC r)) 0 0), (12, .ro (zEz r.ends) 0 r.ends.length), (13, iN r.ends.length), (14, iN k)]) (fun _ => [])
  (fun k => k ≤ r.ends.length ∧ upE (fun i => zDZ r.pcs.length (r.ends.getD i en0)) k = 0) (fun k => r.ends.length - k) 0 ⟨⟨rfl, rfl, rfl, rfl, trivial⟩, rfl, Nat.zero_le _, rfl⟩ ?_
 intro k ⟨hk, hup⟩
 refine rn4 ?_
 refine zF Z (fun h2 => ?_) (fun h2 => ?_)
 ·have hk' : k < r.ends.length := by omega
  generalize hx : r.ends.getD k en0 = x
  have done : ∀ e, zDZ r.pcs.length x = e → e ≠ 0 → zHE r.pcs.length r.ends = e := fun e he hne => by
   unfold zHE
   rw [if_neg (by omega), zIg (f := fun i => zDZ r.pcs.length (r.ends.getD i en0)) hup (by show zDZ _ _ ≠ 0; rw [hx, he]; exact hne) hk']
   show zDZ _ _ = e; rw [hx, he]
  have next : zDZ r.pcs.length x = 0 → upE (fun i => zDZ r.pcs.length (r.ends.getD i en0)) (k + 1) = 0 := fun he => zKz hup (by show zDZ _ _ = 0; rw [hx, he])
  refine zF6 ?_
  repeat (refine zAS rfl rfl rfl ?_)
  refine zW (enC x) Z Z Z Z Z (by rw [← hx]; rfl) Z ?_
  refine zAn ?_
  refine zB5 4 [(1, .rp (.box (ruC r)) 0 0), (12, .ro (zEz r.ends) 0 r.ends.length), (13, iN r.ends.length), (14, iN k)] Z ⟨Z, Z, Z, Z, Z, trivial⟩ ⟨Z, Z, Z, Z, trivial⟩ Z hfix ?_
  refine ze (by kernel_rfl) ?_
  refine zBP (fuel := 0) [0, 1, 2, 3, 4, 5, 6, 7, 8, 9, 10, 11] [(4, .rp (.box (enC x)) 0 0), (1, .rp (.box (ruC r)) 0 0), (12, .ro (zEz r.ends) 0 r.ends.length), (13, iN r.ends.length), (14, iN k)] ⟨Z, Z, Z, Z, Z, trivial⟩ (by kernel_rfl) (by decide) Z Z ?_
  refine zJ Z Z (zI Z Z Z Z Z Z) ?_
  refine zJ Z Z (zD Z Z Z Z) ?_
  refine zCW Z Z Z Z Z (zAv _ _ _) ?_
  refine zJ Z Z (zI Z Z Z Z Z Z) ?_
  refine zJ Z Z (zD Z Z Z Z) ?_
  refine zJ Z Z (zI Z Z Z Z Z Z) ?_
  refine zJ Z Z (zD Z Z Z Z) ?_
  refine zJ Z Z (zBD Z Z Z) ?_
  refine zJ Z Z (zBK Z Z (by omega)) ?_
  refine zCW Z Z Z Z Z (zAv _ _ _) ?_
  refine zJ Z Z (zP Z) ?_
  refine zJ Z Z (zP Z) ?_
  refine zAA ?_
  refine zZ (by kernel_rfl) ?_
  refine zBn ?_
  refine zF Z (fun k0 => ?_) (fun k0 => ?_)
  ·repeat (first | refine zA (zH rfl) ?_ | refine zA (zP rfl) ?_ | refine zC ?_ | refine zB ?_ | refine zX ?_ | refine zK rfl ?_ | refine zAM ?_ | refine zA (zBx rfl rfl) ?_ | refine zA (zEH rfl) ?_ | refine zA (zD rfl rfl rfl rfl) ?_ | refine zA (zI rfl rfl rfl rfl rfl rfl) ?_)
   refine zAt Z Z (fun g1 => ?_) (fun g1 => ?_)
   ·refine rn6 ?_
    refine zN hR Z ?_
    rw [done 4 (by unfold zDZ; rw [if_pos k0]; rw [Bool.not_eq_true', ← Bool.not_eq_true] at g1; rw [if_neg (fun q => g1 q.1)]) (by decide)]; rfl
   refine rn5 ?_
   refine zAO Z (fun g2 => ?_) (fun g2 => ?_)
   ·refine rn6 ?_
    refine zN hR Z ?_
    rw [done 4 (by unfold zDZ; rw [if_pos k0]; rw [Bool.not_eq_true', decide_eq_false_iff_not] at g2; rw [if_neg (fun q => g2 q.2)]) (by decide)]; rfl
   refine rn5 ?_
   exact zS ⟨k + 1, ⟨by omega, next (by unfold zDZ; rw [if_pos k0]; rw [Bool.not_eq_false'] at g1; rw [Bool.not_eq_false', decide_eq_true_eq] at g2; rw [if_pos ⟨g1, g2⟩])⟩, by omega, ⟨Z, Z, Z, Z, trivial⟩, Z⟩
  refine rn4 ?_
  refine zF Z (fun k1 => ?_) (fun k1 => ?_)
  ·repeat (first | refine zA (zH rfl) ?_ | refine zA (zP rfl) ?_ | refine zC ?_ | refine zB ?_ | refine zX ?_ | refine zK rfl ?_ | refine zAM ?_ | refine zA (zBx rfl rfl) ?_ | refine zA (zEH rfl) ?_ | refine zA (zD rfl rfl rfl rfl) ?_ | refine zA (zI rfl rfl rfl rfl rfl rfl) ?_)
   refine zAt Z Z (fun g1 => ?_) (fun g1 => ?_)
   ·refine rn6 ?_
    refine zN hR Z ?_
    rw [done 4 (by unfold zDZ; rw [if_neg k0, if_pos k1]; rw [Bool.not_eq_true', decide_eq_false_iff_not] at g1; rw [if_neg (fun q => g1 q.1)]) (by decide)]; rfl
   refine rn5 ?_
   refine zAO Z (fun g2 => ?_) (fun g2 => ?_)
   ·refine rn6 ?_
    refine zN hR Z ?_
    rw [done 4 (by unfold zDZ; rw [if_neg k0, if_pos k1]; rw [Bool.not_eq_true', ← Bool.not_eq_true] at g2; rw [if_neg (fun q => g2 q.2)]) (by decide)]; rfl
   refine rn5 ?_
   exact zS ⟨k + 1, ⟨by omega, next (by unfold zDZ; rw [if_neg k0, if_pos k1]; rw [Bool.not_eq_false', decide_eq_true_eq] at g1; rw [Bool.not_eq_false'] at g2; rw [if_pos ⟨g1, g2⟩])⟩, by omega, ⟨Z, Z, Z, Z, trivial⟩, Z⟩
  refine rn4 ?_
  refine zF Z (fun k2 => ?_) (fun k2 => ?_)
  ·refine rn5 ?_
   refine zAt Z Z (fun g1 => ?_) (fun g1 => ?_)
   ·refine rn6 ?_
    refine zN hR Z ?_
    rw [done 4 (by unfold zDZ; rw [if_neg k0, if_neg k1, if_pos k2]; rw [Bool.not_eq_true', ← Bool.not_eq_true] at g1; rw [if_neg (fun q => g1 q.1)]) (by decide)]; rfl
   refine rn5 ?_
   refine zAO Z (fun g2 => ?_) (fun g2 => ?_)
   ·refine rn6 ?_
    refine zN hR Z ?_
    rw [done 4 (by unfold zDZ; rw [if_neg k0, if_neg k1, if_pos k2]; rw [Bool.not_eq_true', ← Bool.not_eq_true] at g2; rw [if_neg (fun q => g2 q.2)]) (by decide)]; rfl
   refine rn5 ?_
   exact zS ⟨k + 1, ⟨by omega, next (by unfold zDZ; rw [if_neg k0, if_neg k1, if_pos k2]; rw [Bool.not_eq_false'] at g1; rw [Bool.not_eq_false'] at g2; rw [if_pos ⟨g1, g2⟩])⟩, by omega, ⟨Z, Z, Z, Z, trivial⟩, Z⟩
  refine rn6 ?_
  refine zN hR Z ?_
  rw [done 1 (by unfold zDZ; rw [if_neg k0, if_neg k1, if_neg k2]) (by decide)]; rfl
 ·have hk' : k = r.ends.length := by omega
  subst hk'
  refine rn5 ?_
  refine zN hR Z ?_
  unfold zHE; rw [if_neg (by omega), hup]; rfl
theorem zK0 (a : Go.Ax.Gm.Way) (j k : Nat) (hj : j < 4) : ((zFM a).getD j .any).forget k = (zFM a).getD j .any := by
 match j, hj with
 | 0, _ => rfl
 | 1, _ => rfl
 | 2, _ => rfl
 | 3, _ => rfl
theorem zLB (a : Go.Ax.Gm.En) (j k : Nat) (hj : j < 4) : ((enC a).getD j .any).forget k = (enC a).getD j .any := by
 match j, hj with
 | 0, _ => rfl
 | 1, _ => rfl
 | 2, _ => rfl
 | 3, _ => rfl
theorem zLO (a : Go.Ax.Gm.Pc) (j k : Nat) (hj : j < 4) : ((pcC a).getD j .any).forget k = (pcC a).getD j .any := by
 match j, hj with
 | 0, _ => rfl
 | 1, _ => rfl
 | 2, _ => rfl
 | 3, _ => rfl
theorem zA8 {α : Type} {d : α} {n : Nat} {e : α → List AV} {l : List α} (h : ∀ a j, j < n → noRef ((e a).getD j .any) = true) : zAH (zCc d n e l) := fun i j _ hj => h _ j hj
theorem zLf (a : Go.Ax.Gm.Way) (j : Nat) (hj : j < 4) : noRef ((zFM a).getD j .any) = true := by
 match j, hj with
 | 0, _ => rfl
 | 1, _ => rfl
 | 2, _ => rfl
 | 3, _ => rfl
theorem zMR (a : Go.Ax.Gm.En) (j : Nat) (hj : j < 4) : noRef ((enC a).getD j .any) = true := by
 match j, hj with
 | 0, _ => rfl
 | 1, _ => rfl
 | 2, _ => rfl
 | 3, _ => rfl
theorem zMl (a : Go.Ax.Gm.Pc) (j : Nat) (hj : j < 4) : noRef ((pcC a).getD j .any) = true := by
 match j, hj with
 | 0, _ => rfl
 | 1, _ => rfl
 | 2, _ => rfl
 | 3, _ => rfl
/-- slices.Clone of gamehall/api.RuleWay -/
theorem cloneW (l : List Go.Ax.Gm.Way) (hl : l.length ≤ 1000000) : zl Tryz.prog 106 [.ro (zEK l) 0 l.length] (.ro (zEK l) 0 l.length) := by
 refine zd.value (K := fun r H => r = .sl 0 0 l.length ∧ H = [some ⟨143, zEK l⟩]) (zL (P := Tryz.prog) (fn := Tryz.f106) Z Z (by kernel_rfl) Z (fun c hR hfix => ?_)) (fix := fun _ => False) (fun _ h => h) Z ?_
 ·refine rn0 ?_
  refine zHh Z Z Z (fun b hb => ?_)
  refine rn0 ?_
  refine zAO Z (fun h => ?_) (fun h => ?_)
  ·have hn : l = [] := List.length_eq_zero_iff.mp (hb h)
   subst hn
   refine rn7 ?_
   refine zBZ 2 ⟨143, zEK []⟩ Z Z ?_
   refine rn2 ?_
   exact zN hR Z ⟨Z, Z⟩
  ·refine rn1 ?_
   refine zC1 Z Z Z Z Z Z Z Z Z Z ?_
   refine zA9 [some ⟨143, zEK []⟩] (zA2.eqv ⟨Z, Z, fun i j hi => absurd hi (Nat.not_lt_zero _)⟩ zA2.nil) ?_
   repeat (refine zA (zH rfl) ?_)
   refine zBQ l Z Z Z Z Z Z Z Z Z Z Z Z Z (by show 0 + l.length ≤ l.length; omega) (fun k j _ _ => by rw [Nat.zero_add]; rfl) (by show (0 + l.length) * 32 ≤ _ ∧ _; omega) zK0 (by rw [hfix]; exact fun h => h) ?_
   refine rn0 ?_
   refine zN hR Z ⟨?_, Z⟩
   show AV.sl 0 0 (0 + l.length) = _; rw [Nat.zero_add]
 ·rintro r H ⟨rfl, rfl⟩
  refine ⟨Z, ?_, fun h o ho => zFo (zA8 zLf) h o ho⟩
  intro o ho; simp at ho; subst ho; show 0 + l.length ≤ l.length; omega
/-- slices.Clone of gamehall/api.RuleEnd -/
theorem cloneE (l : List Go.Ax.Gm.En) (hl : l.length ≤ 1000000) : zl Tryz.prog 107 [.ro (zEz l) 0 l.length] (.ro (zEz l) 0 l.length) := by
 refine zd.value (K := fun r H => r = .sl 0 0 l.length ∧ H = [some ⟨132, zEz l⟩]) (zL (P := Tryz.prog) (fn := Tryz.f107) Z Z (by kernel_rfl) Z (fun c hR hfix => ?_)) (fix := fun _ => False) (fun _ h => h) Z ?_
 ·refine rn0 ?_
  refine zHh Z Z Z (fun b hb => ?_)
  refine rn0 ?_
  refine zAO Z (fun h => ?_) (fun h => ?_)
  ·have hn : l = [] := List.length_eq_zero_iff.mp (hb h)
   subst hn
   refine rn7 ?_
   refine zBZ 2 ⟨132, zEz []⟩ Z Z ?_
   refine rn2 ?_
   exact zN hR Z ⟨Z, Z⟩
  ·refine rn1 ?_
   refine zC1 Z Z Z Z Z Z Z Z Z Z ?_
   refine zA9 [some ⟨132, zEz []⟩] (zA2.eqv ⟨Z, Z, fun i j hi => absurd hi (Nat.not_lt_zero _)⟩ zA2.nil) ?_
   repeat (refine zA (zH rfl) ?_)
   refine zBQ l Z Z Z Z Z Z Z Z Z Z Z Z Z (by show 0 + l.length ≤ l.length; omega) (fun k j _ _ => by rw [Nat.zero_add]; rfl) (by show (0 + l.length) * 32 ≤ _ ∧ _; omega) zLB (by rw [hfix]; exact fun h => h) ?_
   refine rn0 ?_
   refine zN hR Z ⟨?_, Z⟩
   show AV.sl 0 0 (0 + l.length) = _; rw [Nat.zero_add]
 ·rintro r H ⟨rfl, rfl⟩
  refine ⟨Z, ?_, fun h o ho => zFo (zA8 zMR) h o ho⟩
  intro o ho; simp at ho; subst ho; show 0 + l.length ≤ l.length; omega
theorem zHr (l : List Int) (hl : l.length ≤ 1000000) : zl Tryz.prog 63 [zt l] (zt l) := zl.of_fcall (zKE l hl) zAP rfl rfl
/-- rules.IsLast -/
theorem zJD (r : Go.Ax.Gm.Rules) (hw : 1 ≤ r.w ∧ r.w ≤ 8) (hh : 1 ≤ r.h ∧ r.h ≤ 8) (player s : Int) (hs : 0 ≤ s ∧ s < 1000) : zl Tryz.prog 96 [ruA r, .int .i64 player, .int .i64 s] (.bool (zE6 r player s)) := by
 refine zd.value0 (zL (P := Tryz.prog) (fn := Tryz.f96) Z Z (by kernel_rfl) Z (fun c hR hfix => ?_)) (fix := fun _ => False) (fun _ h => h) Z Z
 refine zX ?_
 repeat (first | refine zA (zP rfl) ?_ | refine zC ?_ | refine zB ?_ | refine zK rfl ?_ | refine zAo rfl rfl ?_)
 refine zB5 3 [(1, .int .i64 player), (2, .int .i64 s)] Z ⟨Z, Z, Z, trivial⟩ ⟨Z, Z, trivial⟩ Z hfix ?_
 refine rn4 ?_
 refine zF Z (fun h => ?_) (fun h => ?_)
 ·repeat (refine zX ?_)
  refine zHj (by kernel_rfl) (by kernel_rfl) Z ?_
  repeat (first | refine zA (zH rfl) ?_ | refine zA (zP rfl) ?_ | refine zC ?_ | refine zB ?_ | refine zAB ?_ | refine zBM ?_ | refine zA (zBx rfl rfl) ?_ | refine zA (zBK rfl rfl (by omega)) ?_ | refine zA (zHJ rfl rfl (by omega)) ?_ | refine zA (zD rfl rfl rfl rfl) ?_ | refine zA (zI rfl rfl rfl rfl rfl rfl) ?_)
  refine zN hR Z ?_
  unfold zE6; rw [if_pos h, Int.tdiv_eq_ediv_of_nonneg hs.1]; rfl
 ·repeat (first | refine zA (zH rfl) ?_ | refine zA (zP rfl) ?_ | refine zC ?_ | refine zB ?_ | refine zX ?_ | refine zK rfl ?_ | refine zAL ?_ | refine zAB ?_ | refine zA (zBx rfl rfl) ?_ | refine zA (zHJ rfl rfl (by omega)) ?_ | refine zA (zD rfl rfl rfl rfl) ?_ | refine zA (zI rfl rfl rfl rfl rfl rfl) ?_)
  refine zN hR Z ?_
  unfold zE6; rw [if_neg h, Int.tdiv_eq_ediv_of_nonneg hs.1]; rfl
/-- rules.Check -/
theorem zHq (r : Go.Ax.Gm.Rules) (hr : Lens r) : zl Tryz.prog 62 [ruA r] (.int .i64 (zAk r)) := by
 refine zd.value0 (zL (P := Tryz.prog) (fn := Tryz.f62) Z Z (by kernel_rfl) Z (fun c hR hfix => ?_)) (fix := fun _ => False) (fun _ h => h) Z Z
 have hpl := hr.pcs
 have hsl := hr.start
 refine zX ?_
 repeat (first | refine zA (zP rfl) ?_ | refine zC ?_ | refine zB ?_ | refine zK rfl ?_ | refine zAo rfl rfl ?_)
 refine zB5 1 [(2, .int .i64 0)] Z ⟨Z, Z, trivial⟩ ⟨Z, trivial⟩ Z hfix ?_
 refine zBn ?_
 refine zQ Z Z Z (name_ok r.name hr.name) ?_
 refine rn5 ?_
 refine zAO Z (fun h1 => ?_) (fun h1 => ?_)
 ·rw [Bool.not_eq_true'] at h1
  refine rn2 ?_
  refine zN hR Z ?_
  unfold zAk; rw [if_pos h1]; rfl
 rw [Bool.not_eq_false'] at h1
 have h1 : ¬ zJI r.name = false := by rw [h1]; decide
 refine zBn ?_
 refine zQ Z Z Z (zAv _ _ _) ?_
 refine rn5 ?_
 refine zAt Z Z (fun h2 => ?_) (fun h2 => ?_)
 ·rw [Bool.not_eq_true', ← Bool.not_eq_true] at h2
  refine rn6 ?_
  refine zN hR Z ?_
  unfold zAk; rw [if_neg h1, if_pos (fun q => h2 q.1)]; rfl
 rw [Bool.not_eq_false'] at h2
 refine zAn ?_
 refine zQ Z Z Z (zAv _ _ _) ?_
 refine rn5 ?_
 refine zAO Z (fun h3 => ?_) (fun h3 => ?_)
 ·rw [Bool.not_eq_true', ← Bool.not_eq_true] at h3
  refine rn2 ?_
  refine zN hR Z ?_
  unfold zAk; rw [if_neg h1, if_pos (fun q => h3 q.2)]; rfl
 rw [Bool.not_eq_false'] at h3
 have h23 : ¬ ¬ (within r.w 1 8 = true ∧ within r.h 1 8 = true) := fun q => q ⟨h2, h3⟩
 have w2 := Go.Ax.Gm.within_iff.1 h2
 have w3 := Go.Ax.Gm.within_iff.1 h3
 have hwh : 0 ≤ r.w * r.h ∧ r.w * r.h ≤ 64 := ⟨Int.mul_nonneg (by omega) (by omega), by
  have a := Int.mul_le_mul w2.2 w3.2 (by omega) (by decide)
  exact Int.le_trans a (by decide)⟩
 refine rn6 ?_
 refine zQ Z Z Z (zMm r hr) ?_
 refine rn3 ?_
 refine zF Z (fun h4 => ?_) (fun h4 => ?_)
 ·refine rn2 ?_
  refine zN hR Z ?_
  unfold zAk; rw [if_neg h1, if_neg h23, if_pos h4]; rfl
 have h6 : r.pcs.length ≤ 6 := by
  have h4 := Classical.not_not.1 h4
  unfold zCU at h4
  split at h4
  ·cases h4
  split at h4
  ·cases h4
  ·omega
 refine zBn ?_
 refine zA (zCo Z Z (by omega)) ?_
 refine rn3 ?_
 refine zF Z (fun h5 => ?_) (fun h5 => ?_)
 ·refine rn2 ?_
  refine zN hR Z ?_
  unfold zAk; rw [if_neg h1, if_neg h23, if_neg h4, if_pos h5]; rfl
 refine zBn ?_
 refine zQ Z Z Z (zGu r.start 92 [.rp (.box (ruC r)) 0 0] (fun c0 => !(zEh r.pcs.length c0)) Z hsl (fun x _ => zMH r hr h6 x)) ?_
 refine rn0 ?_
 have hany : r.start.any (fun c0 => !(zEh r.pcs.length c0)) = !(r.start.all (zEh r.pcs.length)) := by rw [List.not_all_eq_any_not]
 rw [hany]
 refine zAO Z (fun h7 => ?_) (fun h7 => ?_)
 ·rw [Bool.not_eq_true'] at h7
  refine rn2 ?_
  refine zN hR Z ?_
  unfold zAk; rw [if_neg h1, if_neg h23, if_neg h4, if_neg h5, if_pos h7]; rfl
 rw [Bool.not_eq_false'] at h7
 have h7 : ¬ r.start.all (zEh r.pcs.length) = false := by rw [h7]; decide
 refine rn6 ?_
 refine zQ Z Z Z (zIk r hr) ?_
 refine rn3 ?_
 refine zF Z (fun h8 => ?_) (fun h8 => ?_)
 ·refine rn2 ?_
  refine zN hR Z ?_
  unfold zAk; rw [if_neg h1, if_neg h23, if_neg h4, if_neg h5, if_neg h7, if_pos h8]; rfl
 have fin : ∀ e, (if ¬ (within r.blocked 0 2 = true ∧ within r.quiet 0 200 = true ∧ (r.rep = 0 ∨ within r.rep 2 5 = true)) then (4 : Int) else 0) = e → zAk r = e := fun e q => by
  unfold zAk; rw [if_neg h1, if_neg h23, if_neg h4, if_neg h5, if_neg h7, if_neg h8, q]
 refine zBn ?_
 refine zQ Z Z Z (zAv _ _ _) ?_
 refine rn5 ?_
 refine zAt Z Z (fun g1 => ?_) (fun g1 => ?_)
 ·rw [Bool.not_eq_true', ← Bool.not_eq_true] at g1
  refine rn16 ?_
  refine zN hR Z ?_
  rw [fin 4 (if_pos (fun q => g1 q.1))]; rfl
 rw [Bool.not_eq_false'] at g1
 refine zAn ?_
 refine zQ Z Z Z (zAv _ _ _) ?_
 refine rn5 ?_
 refine zAt Z Z (fun g2 => ?_) (fun g2 => ?_)
 ·rw [Bool.not_eq_true', ← Bool.not_eq_true] at g2
  refine rn16 ?_
  refine zN hR Z ?_
  rw [fin 4 (if_pos (fun q => g2 q.2.1))]; rfl
 rw [Bool.not_eq_false'] at g2
 repeat (first | refine zA (zH rfl) ?_ | refine zo rfl rfl ?_ | refine zA (zBU rfl rfl) ?_ | refine zA (zD rfl rfl rfl rfl) ?_ | refine zA (zI rfl rfl rfl rfl rfl rfl) ?_)
 refine zh Z Z (fun g3 => ?_) (fun g3 => ?_)
 ·refine zAn ?_
  refine zQ Z Z Z (zAv _ _ _) ?_
  refine rn5 ?_
  refine zAO Z (fun g4 => ?_) (fun g4 => ?_)
  ·rw [Bool.not_eq_true', ← Bool.not_eq_true] at g4
   refine rn2 ?_
   refine zN hR Z ?_
   rw [fin 4 (if_pos (fun q => q.2.2.elim g3 g4))]; rfl
  rw [Bool.not_eq_false'] at g4
  refine rn1 ?_
  refine zN hR Z ?_
  rw [fin 0 (if_neg (fun q => q ⟨g1, g2, .inr g4⟩))]; rfl
 ·have g3 : r.rep = 0 := Classical.not_not.1 g3
  refine rn6 ?_
  refine zN hR Z ?_
  rw [fin 0 (if_neg (fun q => q ⟨g1, g2, .inl g3⟩))]; rfl
end Go.Proofs.YtiifcejepaeepaaGreatDoor
namespace Go.Proofs.YtiifcejepaeepaaGreatDoor
open Go.Ax Go.Ax.Idx Go.Ax.Cd
attribute [local irreducible] Ax zB4 QOp zd
theorem grow (n : Int) (h0 : 0 ≤ n) (h1 : n ≤ 1000000) : zHf Tryz.prog 124 [.nil, .int .i64 n] (fun N => .sl N 0 0) ⟨3, .ints .i64 []⟩ := by
 refine zd.fresh (K := fun r H => r = .sl 0 0 0 ∧ H = [some ⟨3, .ints .i64 []⟩]) (zL (P := Tryz.prog) (fn := Tryz.f124) Z Z (by kernel_rfl) Z (fun c hR hfix => ?_)) (fix := fun _ => False) (fun _ h => h) Z (fun H => ⟨Z, by simp [zH4, inB]⟩) ?_
 ·refine rn4 ?_
  refine zF Z (fun h => absurd h (by omega)) (fun h => ?_)
  repeat (first | refine zA (zH rfl) ?_ | refine zA (zP rfl) ?_ | refine zC ?_ | refine zB ?_ | refine zX ?_ | refine zK rfl ?_ | refine zAL ?_ | refine zA (zCY rfl rfl) ?_ | refine zA (zBD rfl rfl rfl) ?_ | refine zA (zBK rfl rfl (by omega)) ?_ | refine zA (zKl rfl rfl) ?_)
  refine zF Z (fun h => ?_) (fun h => ?_)
  rotate_left
  ·refine rn7 ?_
   refine zBZ 4 ⟨3, .ints .i64 []⟩ Z Z ?_
   repeat (refine zAB ?_)
   exact zN hR Z ⟨Z, Z⟩
  repeat (first | refine zA (zH rfl) ?_ | refine zK rfl ?_ | refine zA (zKl rfl rfl) ?_ | refine zA (zLT rfl rfl rfl rfl rfl rfl rfl) ?_)
  refine ax_growz Z Z Z Z Z Z Z Z Z (by show 0 < _ ∧ _ * 8 ≤ _ ∧ _; omega) ?_
  refine rn3 ?_
  refine zA (zKp Z Z Z Z Z Z Z Z (by omega)) ?_
  refine zJZ 0 (.ints .i64 []) Z ⟨Nat.zero_le _, Z, fun i j hi => absurd hi (Nat.not_lt_zero _)⟩ ?_
  refine rn0 ?_
  exact zN hR Z ⟨Z, Z⟩
 ·rintro r H ⟨rfl, rfl⟩
  refine ⟨?_, fun h o ho => zFo zAP h o ho, 0, Z, fun n => rfl⟩
  intro o ho; simp at ho; subst ho; exact Nat.zero_le _
def zDe (ls : List (List Int)) : Int := (ls.map fun l => (l.length : Int)).sum
theorem zEE (ls : List (List Int)) (k : Nat) (h : k < ls.length) : zDe (ls.take (k + 1)) = zDe (ls.take k) + ((ls.getD k []).length : Int) := by
 unfold zDe
 rw [zz ls [] k h, List.map_append, List.sum_append]
 simp
theorem zCA (ls : List (List Int)) : zDe ls = (ls.flatten.length : Int) := by
 induction ls with
 | nil => rfl
 | cons l r ih => unfold zDe at ih ⊢; simp [ih]
theorem zFW (ls : List (List Int)) (k : Nat) : 0 ≤ zDe (ls.take k) ∧ zDe (ls.take k) ≤ zDe ls := by
 have h : ls.flatten = (ls.take k).flatten ++ (ls.drop k).flatten := by rw [← List.flatten_append, List.take_append_drop]
 rw [zCA, zCA, h, List.length_append]; omega
theorem zGR (ls : List (List Int)) (k : Nat) (h : k < ls.length) : (ls.take (k + 1)).flatten = (ls.take k).flatten ++ ls.getD k [] := by
 rw [zz ls [] k h, List.flatten_append]; simp
theorem concat (ls : List (List Int)) (hlen : ls.length ≤ 1000000) (hs : zDe ls ≤ 1000000) :
 zHf Tryz.prog 114 [.ro (zIQ ls) 0 ls.length] (fun N => .sl N 0 ls.flatten.length) ⟨3, .ints .i64 ls.flatten⟩ := by
 refine zd.fresh (K := fun r H => r = .sl 0 0 ls.flatten.length ∧ H = [some ⟨3, .ints .i64 ls.flatten⟩]) (zL (P := Tryz.prog) (fn := Tryz.f114) Z Z (by kernel_rfl) Z (fun c hR hfix => ?_)) (fix := fun _ => False) (fun _ h => h) Z (fun H => ⟨Z, by simp [zH4, inB]⟩) ?_
 ·refine rn3 ?_
  refine zx (ι := Nat) (fun k => [(0, .ro (zIQ ls) 0 ls.length), (3, .int .i64 (zDe (ls.take k))), (9, .ro (zIQ ls) 0 ls.length), (10, iN ls.length), (11, iN k)]) (fun _ => [])
   (fun k => k ≤ ls.length) (fun k => ls.length - k) 0 ⟨⟨rfl, rfl, rfl, rfl, rfl, trivial⟩, rfl, Nat.zero_le _⟩ ?_
  intro k hk
  refine rn4 ?_
  refine zF Z (fun h1 => ?_) (fun h1 => ?_)
  ·have hk' : k < ls.length := by omega
   have hsum := zEE ls k hk'
   have hb := zFW ls (k + 1)
   have hb0 := zFW ls k
   refine rn6 ?_
   refine zF Z (fun h2 => absurd h2 (by omega)) (fun h2 => ?_)
   refine rn5 ?_
   exact zS ⟨k + 1, by omega, by omega, ⟨Z, by rw [hsum]; rfl, Z, Z, Z, trivial⟩, Z⟩
  ·have hk' : k = ls.length := by omega
   subst hk'
   simp only [List.take_length] at *
   have hfl := zCA ls
   refine rn5 ?_
   refine zD5 Z Z Z (grow (zDe ls) (by omega) hs) ?_
   refine rn3 ?_
   refine zx (ι := Nat) (fun k => [(6, .sl 0 0 (ls.take k).flatten.length), (25, .ro (zIQ ls) 0 ls.length), (26, iN ls.length), (27, iN k)]) (fun k => [some ⟨3, .ints .i64 (ls.take k).flatten⟩])
    (fun k => k ≤ ls.length) (fun k => ls.length - k) 0 ⟨⟨rfl, rfl, rfl, rfl, trivial⟩, rfl, Nat.zero_le _⟩ ?_
   intro k hk
   refine rn4 ?_
   refine zF Z (fun h1 => ?_) (fun h1 => ?_)
   ·have hk' : k < ls.length := by omega
    have hfs := zGR ls k hk'
    have hb := zFW ls (k + 1)
    have hsl := zEE ls k hk'
    have hb0 := zFW ls k
    have hfl0 := zCA (ls.take k)
    refine rn6 ?_
    refine zAe Z Z Z Z Z Z Z Z Z Z Z Z (by show 0 + (ls.getD k []).length ≤ (ls.getD k []).length; omega) Z (by show ((ls.take k).flatten.length + (ls.getD k []).length) * 8 ≤ _ ∧ _; omega) (fun i j _ _ => rfl) (by rw [hfix]; exact fun h => h) ?_
    refine rn5 ?_
    refine zS ⟨k + 1, by omega, by omega, ⟨?_, Z, Z, Z, trivial⟩, ?_⟩
    ·show some (AV.sl 0 0 ((ls.take k).flatten.length + (ls.getD k []).length)) = _
     rw [hfs, List.length_append]
    ·show ([some ⟨3, .ints .i64 ((ls.take k).flatten ++ List.take (ls.getD k []).length (List.drop 0 (ls.getD k [])))⟩] : zO) = _
     rw [hfs]; simp
   ·have hk' : k = ls.length := by omega
    subst hk'
    simp only [List.take_length] at *
    refine rn5 ?_
    exact zN hR Z ⟨Z, Z⟩
 ·rintro r H ⟨rfl, rfl⟩
  refine ⟨?_, fun h o ho => zFo zAP h o ho, 0, Z, fun n => rfl⟩
  intro o ho; simp at ho; subst ho; show 0 + ls.flatten.length ≤ ls.flatten.length; omega
end Go.Proofs.YtiifcejepaeepaaGreatDoor
namespace Go.Proofs.YtiifcejepaeepaaGreatDoor
open Go.Ax Go.Ax.Gm Go.RowKit Go.Ax.Idx Go.Ax.Cd
attribute [local irreducible] Ax zB4 QOp zd
structure LenP (p : Pos) : Prop where
 c : p.cells.length ≤ 9223372036854775807
 h0 : p.h0.length ≤ 9223372036854775807
 h1 : p.h1.length ≤ 9223372036854775807
def outB (a b x : Int) : Bool := decide (x < a) || decide (b < x)
theorem outB_eq (a b x : Int) : outB a b x = !(Go.Ax.Gm.within x a b) := by
 unfold outB Go.Ax.Gm.within
 rw [Bool.not_and, ← decide_not, ← decide_not]
 congr 1
 ·exact decide_eq_decide.2 (by omega)
 ·exact decide_eq_decide.2 (by omega)
theorem any_out (l : List Int) (a b : Int) : l.any (outB a b) = !(l.all (fun x => Go.Ax.Gm.within x a b)) := by
 rw [List.not_all_eq_any_not]
 congr 1
 funext x; exact outB_eq a b x
/-- place.sound$1$1 -/
theorem zL3 (a b x : Int) : zl Tryz.prog 113 [.int .i64 x, .rp (.box [.int .i64 a]) 0 0, .rp (.box [.int .i64 b]) 0 0] (.bool (outB a b x)) := by
 refine zd.value0 (zL (P := Tryz.prog) (fn := Tryz.f113) Z Z (by kernel_rfl) Z (fun c hR hfix => ?_)) (fix := fun _ => False) (fun _ h => h) Z Z
 repeat (first | refine zA (zH rfl) ?_ | refine zA (zP rfl) ?_ | refine zC ?_ | refine zB ?_ | refine zX ?_ | refine zK rfl ?_ | refine zA (zCB rfl rfl) ?_ | refine zA (zD rfl rfl rfl rfl) ?_)
 refine zh Z Z (fun h => ?_) (fun h => ?_)
 ·refine rn6 ?_
  refine zN hR Z ?_
  unfold outB; rw [decide_eq_true (show x < a from h)]; rfl
 ·refine zAn ?_
  refine zN hR Z ?_
  unfold outB; rw [decide_eq_false (show ¬ x < a from h)]; rfl
abbrev outF (a b : Int) : AV := .fn 113 [.rp (.box [.int .i64 a]) 0 0, .rp (.box [.int .i64 b]) 0 0]
/-- place.sound$1 -/
theorem zBT (a b : Int) : zl Tryz.prog 112 [.int .i64 a, .int .i64 b] (outF a b) := by
 refine zd.value (K := fun r H => r = .fn 113 [.ptr 0 0 0, .ptr 1 0 0] ∧ H = [some ⟨3, .box [.int .i64 a]⟩, some ⟨3, .box [.int .i64 b]⟩]) (zL (P := Tryz.prog) (fn := Tryz.f112) Z Z (by kernel_rfl) Z (fun c hR hfix => ?_)) (fix := fun _ => False) (fun _ h => h) Z ?_
 ·repeat (first | refine zA (zP rfl) ?_ | refine zC ?_ | refine zB ?_ | refine zX ?_ | refine zK rfl ?_ | refine zAB ?_ | refine zA (zCn rfl) ?_ | refine zAo rfl rfl ?_)
  exact zN hR Z ⟨Z, Z⟩
 ·rintro r H ⟨rfl, rfl⟩
  refine ⟨Z, ?_, refl2 (zw Z) (zw Z)⟩
  exact ⟨fun o ho => by cases ho; exact Nat.zero_lt_one, fun o ho => by cases ho; exact Nat.zero_lt_one, trivial⟩
theorem zLp (a b : List Int) (h : a.length + b.length ≤ 1000000) : zl Tryz.prog 114 [.ro (zIQ [a, b]) 0 2] (zt (a ++ b)) := by
 have e : ([a, b] : List (List Int)).flatten = a ++ b := by simp
 have := zl.of_fcall (concat [a, b] (by show 2 ≤ 1000000; omega) (by rw [zCA, e, List.length_append]; omega)) zAP rfl rfl
 rw [e] at this
 exact this
/-- place.sound -/
theorem sound_ok (r : Go.Ax.Gm.Rules) (hv : ValidR r) (p : Pos) (hp : LenP p) : zl Tryz.prog 81 [ruA r, poA p] (.int .i64 (zDG r p)) := by
 refine zd.value0 (zL (P := Tryz.prog) (fn := Tryz.f81) Z Z (by kernel_rfl) Z (fun c hR hfix => ?_)) (fix := fun _ => False) (fun _ h => h) Z Z
 have hn6 := hv.n6
 obtain ⟨hc, hh0, hh1⟩ := hp
 have w1 := hv.w1
 have w8 := hv.w8
 have g1 := hv.h1
 have g8 := hv.h8
 have hwh : 0 ≤ r.w * r.h ∧ r.w * r.h ≤ 64 := ⟨Int.mul_nonneg (by omega) (by omega), by
  have a := Int.mul_le_mul w8 g8 (by omega) (by decide)
  exact Int.le_trans a (by decide)⟩
 refine zX ?_
 repeat (first | refine zA (zP rfl) ?_ | refine zC ?_ | refine zB ?_ | refine zK rfl ?_ | refine zAo rfl rfl ?_)
 refine zEO 2 3 [] Z Z Z Z trivial ⟨Z, Z, trivial⟩ Z hfix ?_
 refine zBn ?_
 refine zA (zCo Z Z (by omega)) ?_
 refine rn3 ?_
 refine zh Z Z (fun h1 => ?_) (fun h1 => ?_)
 ·refine rn6 ?_
  refine zN hR Z ?_
  unfold zDG; rw [if_pos (.inl h1)]; rfl
 repeat (first | refine zA (zH rfl) ?_ | refine zo rfl rfl ?_ | refine zA (zBU rfl rfl) ?_ | refine zA (zf rfl rfl) ?_ | refine zA (zBD rfl rfl rfl) ?_ | refine zA (zD rfl rfl rfl rfl) ?_ | refine zA (zI rfl rfl rfl rfl rfl rfl) ?_ | refine zA (zBo rfl rfl rfl rfl (by first | (simp only [Nat.zero_add, Int.toNat_natCast]; exact rfl) | exact rfl) (by omega)) ?_)
 refine zh Z Z (fun h2 => ?_) (fun h2 => ?_)
 ·refine rn6 ?_
  refine zN hR Z ?_
  unfold zDG; rw [if_pos (.inr (.inl (by omega)))]; rfl
 repeat (first | refine zA (zH rfl) ?_ | refine zC ?_ | refine zB ?_ | refine zo rfl rfl ?_ | refine zA (zBU rfl rfl) ?_ | refine zA (zf rfl rfl) ?_ | refine zA (zBD rfl rfl rfl) ?_ | refine zA (zD rfl rfl rfl rfl) ?_ | refine zA (zI rfl rfl rfl rfl rfl rfl) ?_ | refine zA (zBo rfl rfl rfl rfl (by first | (simp only [Nat.zero_add, Int.toNat_natCast]; exact rfl) | exact rfl) (by omega)) ?_)
 refine zF Z (fun h3 => ?_) (fun h3 => ?_)
 ·refine rn2 ?_
  refine zN hR Z ?_
  unfold zDG; rw [if_pos (.inr (.inr (by omega)))]; rfl
 have h123 : ¬ ((p.cells.length : Int) ≠ r.w * r.h ∨ p.h0.length ≠ r.pcs.length ∨ p.h1.length ≠ r.pcs.length) := by
  rintro (q | q | q)
  ·exact h1 q
  ·omega
  ·omega
 repeat (first | refine zA (zP rfl) ?_ | refine zC ?_ | refine zB ?_ | refine zX ?_ | refine zK rfl ?_ | refine zAL ?_ | refine zA (zD rfl rfl rfl rfl) ?_ | refine zA (zI rfl rfl rfl rfl rfl rfl) ?_ | refine zA (zBo rfl rfl rfl rfl (by first | (simp only [Nat.zero_add, Int.toNat_natCast]; exact rfl) | exact rfl) (by omega)) ?_ | refine zAC rfl rfl rfl rfl rfl rfl rfl rfl rfl rfl rfl ?_)
 refine zAz 42 (.ro (zIQ [p.h0, p.h1]) 0 2) Z (AEq.ro Z (fun d j hd hj => ?_)) ?_
 ·obtain rfl : j = 0 := Nat.lt_one_iff.1 hj
  match d, hd with
  | 0, _ => rfl
  | 1, _ => rfl
 refine zQ Z Z Z (zLp p.h0 p.h1 (by omega)) ?_
 refine rn0 ?_
 have hlen2 : (p.h0 ++ p.h1).length ≤ 9223372036854775807 := by rw [List.length_append]; omega
 have bad : (p.cells.all (zEh r.pcs.length) = false ∨ (p.h0 ++ p.h1).all (fun n => Go.Ax.Gm.within n 0 1000) = false ∨ (p.turn ≠ 0 ∧ p.turn ≠ 1) ∨ p.quiet < 0 ∨ 200 < p.quiet) → zDG r p = 4 := fun q => by
  unfold zDG; rw [if_neg h123, if_pos q]
 have good : ¬ (p.cells.all (zEh r.pcs.length) = false ∨ (p.h0 ++ p.h1).all (fun n => Go.Ax.Gm.within n 0 1000) = false ∨ (p.turn ≠ 0 ∧ p.turn ≠ 1) ∨ p.quiet < 0 ∨ 200 < p.quiet) → zDG r p = 0 := fun q => by
  unfold zDG; rw [if_neg h123, if_neg q]
 have ccell := zGu p.cells 113 [.rp (.box [.int .i64 0]) 0 0, .rp (.box [.int .i64 (2 * (r.pcs.length : Int))]) 0 0] (outB 0 (2 * (r.pcs.length : Int))) rfl hc (fun x _ => zL3 _ _ x)
 have chand := zGu (p.h0 ++ p.h1) 113 [.rp (.box [.int .i64 0]) 0 0, .rp (.box [.int .i64 1000]) 0 0] (outB 0 1000) rfl hlen2 (fun x _ => zL3 _ _ x)
 rw [any_out] at ccell chand
 have ccell : zl Tryz.prog 91 [zt p.cells, outF 0 (2 * (r.pcs.length : Int))] (.bool (!(p.cells.all (zEh r.pcs.length)))) := ccell
 have chand : zl Tryz.prog 91 [zt (p.h0 ++ p.h1), outF 0 1000] (.bool (!((p.h0 ++ p.h1).all (fun n => Go.Ax.Gm.within n 0 1000)))) := chand
 cases b1 : p.cells.all (zEh r.pcs.length) with
 | false =>
  refine ze (by kernel_rfl) ?_
  refine zBP (fuel := 0) [0, 1, 2, 3, 4, 5, 6, 7, 8, 9, 10, 11, 12, 13, 14, 15, 16, 17, 18, 19, 20, 21, 22, 23, 24, 25, 26, 27, 28, 29, 30, 31, 32] [(2, .rp (.box (ruC r)) 0 0), (3, .rp (.box (poC p)) 0 0), (5, iN r.pcs.length), (6, .fn 112 []), (7, zt (p.h0 ++ p.h1))] ⟨Z, Z, Z, Z, Z, trivial⟩ (by kernel_rfl) (by decide) Z Z ?_
  refine zJ Z Z (zI Z Z Z Z Z Z) ?_
  refine zJ Z Z (zD Z Z Z Z) ?_
  refine zJ Z Z (zH Z) ?_
  refine zJ Z Z (zH Z) ?_
  refine zJ Z Z (zCo Z Z (by omega)) ?_
  refine zCW Z Z Z Z Z (zBT _ _) ?_
  refine zCW Z Z Z Z Z ccell ?_
  rw [b1]
  refine zJ Z Z (zH Z) ?_
  refine zr Z Z Z Z Z ?_
  refine zr Z Z Z Z Z ?_
  first | refine zr rfl rfl rfl rfl rfl ?_ | refine zAq rfl rfl rfl rfl ?_ | refine zCu rfl rfl rfl rfl rfl rfl rfl (zBT _ _) ?_
  first | refine zr rfl rfl rfl rfl rfl ?_ | refine zAq rfl rfl rfl rfl ?_ | refine zCu rfl rfl rfl rfl rfl rfl rfl chand ?_
  refine zJ Z Z (zf Z Z) ?_
  refine zJ Z Z (zH Z) ?_
  refine zr Z Z Z Z Z ?_
  refine zr Z Z Z Z Z ?_
  refine zr Z Z Z Z Z ?_
  refine zr Z Z Z Z Z ?_
  refine zAq Z Z Z Z ?_
  refine zAq Z Z Z Z ?_
  refine zAq Z Z Z Z ?_
  refine zr Z Z Z Z Z ?_
  refine zJ Z Z (zf Z Z) ?_
  refine zJ Z Z (zH Z) ?_
  refine zr Z Z Z Z Z ?_
  refine zr Z Z Z Z Z ?_
  refine zr Z Z Z Z Z ?_
  refine zJ Z Z (zf Z Z) ?_
  refine zJ Z Z (zH Z) ?_
  refine zr Z Z Z Z Z ?_
  refine zr Z Z Z Z Z ?_
  refine zr Z Z Z Z Z ?_
  refine zJ Z Z (zf Z Z) ?_
  refine zAA ?_
  refine zZ (by kernel_rfl) ?_
  refine rn5 ?_
  refine zN hR Z ?_
  rw [bad (.inl b1)]; rfl
 | true =>
 cases b2 : (p.h0 ++ p.h1).all (fun n => Go.Ax.Gm.within n 0 1000) with
 | false =>
  refine ze (by kernel_rfl) ?_
  refine zBP (fuel := 0) [0, 1, 2, 3, 4, 5, 6, 7, 8, 9, 10, 11, 12, 13, 14, 15, 16, 17, 18, 19, 20, 21, 22, 23, 24, 25, 26, 27, 28, 29, 30, 31, 32] [(2, .rp (.box (ruC r)) 0 0), (3, .rp (.box (poC p)) 0 0), (5, iN r.pcs.length), (6, .fn 112 []), (7, zt (p.h0 ++ p.h1))] ⟨Z, Z, Z, Z, Z, trivial⟩ (by kernel_rfl) (by decide) Z Z ?_
  refine zJ Z Z (zI Z Z Z Z Z Z) ?_
  refine zJ Z Z (zD Z Z Z Z) ?_
  refine zJ Z Z (zH Z) ?_
  refine zJ Z Z (zH Z) ?_
  refine zJ Z Z (zCo Z Z (by omega)) ?_
  refine zCW Z Z Z Z Z (zBT _ _) ?_
  refine zCW Z Z Z Z Z ccell ?_
  rw [b1]
  refine zJ Z Z (zH Z) ?_
  refine zn Z Z Z Z (zH Z) ?_
  refine zn Z Z Z Z (zH Z) ?_
  first | refine zr rfl rfl rfl rfl rfl ?_ | refine zAq rfl rfl rfl rfl ?_ | refine zCu rfl rfl rfl rfl rfl rfl rfl (zBT _ _) ?_
  first | refine zr rfl rfl rfl rfl rfl ?_ | refine zAq rfl rfl rfl rfl ?_ | refine zCu rfl rfl rfl rfl rfl rfl rfl chand ?_
  rw [b2]
  refine zJ Z Z (zf Z Z) ?_
  refine zJ Z Z (zH Z) ?_
  refine zr Z Z Z Z Z ?_
  refine zr Z Z Z Z Z ?_
  refine zr Z Z Z Z Z ?_
  refine zr Z Z Z Z Z ?_
  refine zAq Z Z Z Z ?_
  refine zAq Z Z Z Z ?_
  refine zAq Z Z Z Z ?_
  refine zr Z Z Z Z Z ?_
  refine zJ Z Z (zf Z Z) ?_
  refine zJ Z Z (zH Z) ?_
  refine zr Z Z Z Z Z ?_
  refine zr Z Z Z Z Z ?_
  refine zr Z Z Z Z Z ?_
  refine zJ Z Z (zf Z Z) ?_
  refine zJ Z Z (zH Z) ?_
  refine zr Z Z Z Z Z ?_
  refine zr Z Z Z Z Z ?_
  refine zr Z Z Z Z Z ?_
  refine zJ Z Z (zf Z Z) ?_
  refine zAA ?_
  refine zZ (by kernel_rfl) ?_
  refine rn5 ?_
  refine zN hR Z ?_
  rw [bad (.inr (.inl b2))]; rfl
 | true =>
 obtain ⟨cells, ha, hb, turn, quiet⟩ := p
 simp only at *
 by_cases t0 : turn = 0
 ·subst t0
  by_cases q0 : quiet < 0
  ·refine ze (by kernel_rfl) ?_
   refine zBP (fuel := 0) [0, 1, 2, 3, 4, 5, 6, 7, 8, 9, 10, 11, 12, 13, 14, 15, 16, 17, 18, 19, 20, 21, 22, 23, 24, 25, 26, 27, 28, 29, 30, 31, 32] [(2, .rp (.box (ruC r)) 0 0), (3, .rp (.box (poC ⟨cells, ha, hb, 0, quiet⟩)) 0 0), (5, iN r.pcs.length), (6, .fn 112 []), (7, zt (ha ++ hb))] ⟨Z, Z, Z, Z, Z, trivial⟩ (by kernel_rfl) (by decide) Z Z ?_
   refine zJ Z Z (zI Z Z Z Z Z Z) ?_
   refine zJ Z Z (zD Z Z Z Z) ?_
   refine zJ Z Z (zH Z) ?_
   refine zJ Z Z (zH Z) ?_
   refine zJ Z Z (zCo Z Z (by omega)) ?_
   refine zCW Z Z Z Z Z (zBT _ _) ?_
   refine zCW Z Z Z Z Z ccell ?_
   rw [b1]
   refine zJ Z Z (zH Z) ?_
   refine zn Z Z Z Z (zH Z) ?_
   refine zn Z Z Z Z (zH Z) ?_
   first | refine zr rfl rfl rfl rfl rfl ?_ | refine zAq rfl rfl rfl rfl ?_ | refine zCu rfl rfl rfl rfl rfl rfl rfl (zBT _ _) ?_
   first | refine zr rfl rfl rfl rfl rfl ?_ | refine zAq rfl rfl rfl rfl ?_ | refine zCu rfl rfl rfl rfl rfl rfl rfl chand ?_
   rw [b2]
   refine zJ Z Z (zf Z Z) ?_
   refine zJ Z Z (zH Z) ?_
   refine zn Z Z Z Z (zI Z Z Z Z Z Z) ?_
   refine zn Z Z Z Z (zD Z Z Z Z) ?_
   refine zn Z Z Z Z (zBU Z Z) ?_
   refine zn Z Z Z Z (zH Z) ?_
   refine zr Z Z Z Z Z ?_
   refine zr Z Z Z Z Z ?_
   refine zr Z Z Z Z Z ?_
   refine zn Z Z Z Z (zf Z Z) ?_
   refine zJ Z Z (zf Z Z) ?_
   refine zJ Z Z (zH Z) ?_
   refine zn Z Z Z Z (zI Z Z Z Z Z Z) ?_
   refine zn Z Z Z Z (zD Z Z Z Z) ?_
   refine zn Z Z Z Z (zCB Z Z) ?_
   rw [decide_eq_true q0]
   refine zJ Z Z (zf Z Z) ?_
   refine zJ Z Z (zH Z) ?_
   refine zr Z Z Z Z Z ?_
   refine zr Z Z Z Z Z ?_
   refine zr Z Z Z Z Z ?_
   refine zJ Z Z (zf Z Z) ?_
   refine zAA ?_
   refine zZ (by kernel_rfl) ?_
   refine rn5 ?_
   refine zN hR Z ?_
   rw [bad (.inr (.inr (.inr (.inl q0))))]; rfl
  by_cases q1 : 200 < quiet
  ·refine ze (by kernel_rfl) ?_
   refine zBP (fuel := 0) [0, 1, 2, 3, 4, 5, 6, 7, 8, 9, 10, 11, 12, 13, 14, 15, 16, 17, 18, 19, 20, 21, 22, 23, 24, 25, 26, 27, 28, 29, 30, 31, 32] [(2, .rp (.box (ruC r)) 0 0), (3, .rp (.box (poC ⟨cells, ha, hb, 0, quiet⟩)) 0 0), (5, iN r.pcs.length), (6, .fn 112 []), (7, zt (ha ++ hb))] ⟨Z, Z, Z, Z, Z, trivial⟩ (by kernel_rfl) (by decide) Z Z ?_
   refine zJ Z Z (zI Z Z Z Z Z Z) ?_
   refine zJ Z Z (zD Z Z Z Z) ?_
   refine zJ Z Z (zH Z) ?_
   refine zJ Z Z (zH Z) ?_
   refine zJ Z Z (zCo Z Z (by omega)) ?_
   refine zCW Z Z Z Z Z (zBT _ _) ?_
   refine zCW Z Z Z Z Z ccell ?_
   rw [b1]
   refine zJ Z Z (zH Z) ?_
   refine zn Z Z Z Z (zH Z) ?_
   refine zn Z Z Z Z (zH Z) ?_
   first | refine zr rfl rfl rfl rfl rfl ?_ | refine zAq rfl rfl rfl rfl ?_ | refine zCu rfl rfl rfl rfl rfl rfl rfl (zBT _ _) ?_
   first | refine zr rfl rfl rfl rfl rfl ?_ | refine zAq rfl rfl rfl rfl ?_ | refine zCu rfl rfl rfl rfl rfl rfl rfl chand ?_
   rw [b2]
   refine zJ Z Z (zf Z Z) ?_
   refine zJ Z Z (zH Z) ?_
   refine zn Z Z Z Z (zI Z Z Z Z Z Z) ?_
   refine zn Z Z Z Z (zD Z Z Z Z) ?_
   refine zn Z Z Z Z (zBU Z Z) ?_
   refine zn Z Z Z Z (zH Z) ?_
   refine zr Z Z Z Z Z ?_
   refine zr Z Z Z Z Z ?_
   refine zr Z Z Z Z Z ?_
   refine zn Z Z Z Z (zf Z Z) ?_
   refine zJ Z Z (zf Z Z) ?_
   refine zJ Z Z (zH Z) ?_
   refine zn Z Z Z Z (zI Z Z Z Z Z Z) ?_
   refine zn Z Z Z Z (zD Z Z Z Z) ?_
   refine zn Z Z Z Z (zCB Z Z) ?_
   rw [decide_eq_false q0]
   refine zJ Z Z (zf Z Z) ?_
   refine zJ Z Z (zH Z) ?_
   refine zn Z Z Z Z (zI Z Z Z Z Z Z) ?_
   refine zn Z Z Z Z (zD Z Z Z Z) ?_
   refine zn Z Z Z Z (zCY Z Z) ?_
   rw [decide_eq_true q1]
   refine zJ Z Z (zf Z Z) ?_
   refine zAA ?_
   refine zZ (by kernel_rfl) ?_
   refine rn5 ?_
   refine zN hR Z ?_
   rw [bad (.inr (.inr (.inr (.inr q1))))]; rfl
  refine ze (by kernel_rfl) ?_
  refine zBP (fuel := 0) [0, 1, 2, 3, 4, 5, 6, 7, 8, 9, 10, 11, 12, 13, 14, 15, 16, 17, 18, 19, 20, 21, 22, 23, 24, 25, 26, 27, 28, 29, 30, 31, 32] [(2, .rp (.box (ruC r)) 0 0), (3, .rp (.box (poC ⟨cells, ha, hb, 0, quiet⟩)) 0 0), (5, iN r.pcs.length), (6, .fn 112 []), (7, zt (ha ++ hb))] ⟨Z, Z, Z, Z, Z, trivial⟩ (by kernel_rfl) (by decide) Z Z ?_
  refine zJ Z Z (zI Z Z Z Z Z Z) ?_
  refine zJ Z Z (zD Z Z Z Z) ?_
  refine zJ Z Z (zH Z) ?_
  refine zJ Z Z (zH Z) ?_
  refine zJ Z Z (zCo Z Z (by omega)) ?_
  refine zCW Z Z Z Z Z (zBT _ _) ?_
  refine zCW Z Z Z Z Z ccell ?_
  rw [b1]
  refine zJ Z Z (zH Z) ?_
  refine zn Z Z Z Z (zH Z) ?_
  refine zn Z Z Z Z (zH Z) ?_
  first | refine zr rfl rfl rfl rfl rfl ?_ | refine zAq rfl rfl rfl rfl ?_ | refine zCu rfl rfl rfl rfl rfl rfl rfl (zBT _ _) ?_
  first | refine zr rfl rfl rfl rfl rfl ?_ | refine zAq rfl rfl rfl rfl ?_ | refine zCu rfl rfl rfl rfl rfl rfl rfl chand ?_
  rw [b2]
  refine zJ Z Z (zf Z Z) ?_
  refine zJ Z Z (zH Z) ?_
  refine zn Z Z Z Z (zI Z Z Z Z Z Z) ?_
  refine zn Z Z Z Z (zD Z Z Z Z) ?_
  refine zn Z Z Z Z (zBU Z Z) ?_
  refine zn Z Z Z Z (zH Z) ?_
  refine zr Z Z Z Z Z ?_
  refine zr Z Z Z Z Z ?_
  refine zr Z Z Z Z Z ?_
  refine zn Z Z Z Z (zf Z Z) ?_
  refine zJ Z Z (zf Z Z) ?_
  refine zJ Z Z (zH Z) ?_
  refine zn Z Z Z Z (zI Z Z Z Z Z Z) ?_
  refine zn Z Z Z Z (zD Z Z Z Z) ?_
  refine zn Z Z Z Z (zCB Z Z) ?_
  rw [decide_eq_false q0]
  refine zJ Z Z (zf Z Z) ?_
  refine zJ Z Z (zH Z) ?_
  refine zn Z Z Z Z (zI Z Z Z Z Z Z) ?_
  refine zn Z Z Z Z (zD Z Z Z Z) ?_
  refine zn Z Z Z Z (zCY Z Z) ?_
  rw [decide_eq_false q1]
  refine zJ Z Z (zf Z Z) ?_
  refine zAA ?_
  refine zZ (by kernel_rfl) ?_
  refine rn4 ?_
  refine zN hR Z ?_
  rw [good (fun q => q.elim (fun q => by rw [b1] at q; cases q) (fun q => q.elim (fun q => by rw [b2] at q; cases q) (fun q => q.elim (fun q => absurd q (by omega)) (fun q => q.elim q0 q1))))]; rfl
 by_cases t1 : turn = 1
 ·subst t1
  by_cases q0 : quiet < 0
  ·refine ze (by kernel_rfl) ?_
   refine zBP (fuel := 0) [0, 1, 2, 3, 4, 5, 6, 7, 8, 9, 10, 11, 12, 13, 14, 15, 16, 17, 18, 19, 20, 21, 22, 23, 24, 25, 26, 27, 28, 29, 30, 31, 32] [(2, .rp (.box (ruC r)) 0 0), (3, .rp (.box (poC ⟨cells, ha, hb, 1, quiet⟩)) 0 0), (5, iN r.pcs.length), (6, .fn 112 []), (7, zt (ha ++ hb))] ⟨Z, Z, Z, Z, Z, trivial⟩ (by kernel_rfl) (by decide) Z Z ?_
   refine zJ Z Z (zI Z Z Z Z Z Z) ?_
   refine zJ Z Z (zD Z Z Z Z) ?_
   refine zJ Z Z (zH Z) ?_
   refine zJ Z Z (zH Z) ?_
   refine zJ Z Z (zCo Z Z (by omega)) ?_
   refine zCW Z Z Z Z Z (zBT _ _) ?_
   refine zCW Z Z Z Z Z ccell ?_
   rw [b1]
   refine zJ Z Z (zH Z) ?_
   refine zn Z Z Z Z (zH Z) ?_
   refine zn Z Z Z Z (zH Z) ?_
   first | refine zr rfl rfl rfl rfl rfl ?_ | refine zAq rfl rfl rfl rfl ?_ | refine zCu rfl rfl rfl rfl rfl rfl rfl (zBT _ _) ?_
   first | refine zr rfl rfl rfl rfl rfl ?_ | refine zAq rfl rfl rfl rfl ?_ | refine zCu rfl rfl rfl rfl rfl rfl rfl chand ?_
   rw [b2]
   refine zJ Z Z (zf Z Z) ?_
   refine zJ Z Z (zH Z) ?_
   refine zn Z Z Z Z (zI Z Z Z Z Z Z) ?_
   refine zn Z Z Z Z (zD Z Z Z Z) ?_
   refine zn Z Z Z Z (zBU Z Z) ?_
   refine zn Z Z Z Z (zH Z) ?_
   refine zn Z Z Z Z (zI Z Z Z Z Z Z) ?_
   refine zn Z Z Z Z (zD Z Z Z Z) ?_
   refine zn Z Z Z Z (zBU Z Z) ?_
   refine zn Z Z Z Z (zf Z Z) ?_
   refine zJ Z Z (zf Z Z) ?_
   refine zJ Z Z (zH Z) ?_
   refine zn Z Z Z Z (zI Z Z Z Z Z Z) ?_
   refine zn Z Z Z Z (zD Z Z Z Z) ?_
   refine zn Z Z Z Z (zCB Z Z) ?_
   rw [decide_eq_true q0]
   refine zJ Z Z (zf Z Z) ?_
   refine zJ Z Z (zH Z) ?_
   refine zr Z Z Z Z Z ?_
   refine zr Z Z Z Z Z ?_
   refine zr Z Z Z Z Z ?_
   refine zJ Z Z (zf Z Z) ?_
   refine zAA ?_
   refine zZ (by kernel_rfl) ?_
   refine rn5 ?_
   refine zN hR Z ?_
   rw [bad (.inr (.inr (.inr (.inl q0))))]; rfl
  by_cases q1 : 200 < quiet
  ·refine ze (by kernel_rfl) ?_
   refine zBP (fuel := 0) [0, 1, 2, 3, 4, 5, 6, 7, 8, 9, 10, 11, 12, 13, 14, 15, 16, 17, 18, 19, 20, 21, 22, 23, 24, 25, 26, 27, 28, 29, 30, 31, 32] [(2, .rp (.box (ruC r)) 0 0), (3, .rp (.box (poC ⟨cells, ha, hb, 1, quiet⟩)) 0 0), (5, iN r.pcs.length), (6, .fn 112 []), (7, zt (ha ++ hb))] ⟨Z, Z, Z, Z, Z, trivial⟩ (by kernel_rfl) (by decide) Z Z ?_
   refine zJ Z Z (zI Z Z Z Z Z Z) ?_
   refine zJ Z Z (zD Z Z Z Z) ?_
   refine zJ Z Z (zH Z) ?_
   refine zJ Z Z (zH Z) ?_
   refine zJ Z Z (zCo Z Z (by omega)) ?_
   refine zCW Z Z Z Z Z (zBT _ _) ?_
   refine zCW Z Z Z Z Z ccell ?_
   rw [b1]
   refine zJ Z Z (zH Z) ?_
   refine zn Z Z Z Z (zH Z) ?_
   refine zn Z Z Z Z (zH Z) ?_
   first | refine zr rfl rfl rfl rfl rfl ?_ | refine zAq rfl rfl rfl rfl ?_ | refine zCu rfl rfl rfl rfl rfl rfl rfl (zBT _ _) ?_
   first | refine zr rfl rfl rfl rfl rfl ?_ | refine zAq rfl rfl rfl rfl ?_ | refine zCu rfl rfl rfl rfl rfl rfl rfl chand ?_
   rw [b2]
   refine zJ Z Z (zf Z Z) ?_
   refine zJ Z Z (zH Z) ?_
   refine zn Z Z Z Z (zI Z Z Z Z Z Z) ?_
   refine zn Z Z Z Z (zD Z Z Z Z) ?_
   refine zn Z Z Z Z (zBU Z Z) ?_
   refine zn Z Z Z Z (zH Z) ?_
   refine zn Z Z Z Z (zI Z Z Z Z Z Z) ?_
   refine zn Z Z Z Z (zD Z Z Z Z) ?_
   refine zn Z Z Z Z (zBU Z Z) ?_
   refine zn Z Z Z Z (zf Z Z) ?_
   refine zJ Z Z (zf Z Z) ?_
   refine zJ Z Z (zH Z) ?_
   refine zn Z Z Z Z (zI Z Z Z Z Z Z) ?_
   refine zn Z Z Z Z (zD Z Z Z Z) ?_
   refine zn Z Z Z Z (zCB Z Z) ?_
   rw [decide_eq_false q0]
   refine zJ Z Z (zf Z Z) ?_
   refine zJ Z Z (zH Z) ?_
   refine zn Z Z Z Z (zI Z Z Z Z Z Z) ?_
   refine zn Z Z Z Z (zD Z Z Z Z) ?_
   refine zn Z Z Z Z (zCY Z Z) ?_
   rw [decide_eq_true q1]
   refine zJ Z Z (zf Z Z) ?_
   refine zAA ?_
   refine zZ (by kernel_rfl) ?_
   refine rn5 ?_
   refine zN hR Z ?_
   rw [bad (.inr (.inr (.inr (.inr q1))))]; rfl
  refine ze (by kernel_rfl) ?_
  refine zBP (fuel := 0) [0, 1, 2, 3, 4, 5, 6, 7, 8, 9, 10, 11, 12, 13, 14, 15, 16, 17, 18, 19, 20, 21, 22, 23, 24, 25, 26, 27, 28, 29, 30, 31, 32] [(2, .rp (.box (ruC r)) 0 0), (3, .rp (.box (poC ⟨cells, ha, hb, 1, quiet⟩)) 0 0), (5, iN r.pcs.length), (6, .fn 112 []), (7, zt (ha ++ hb))] ⟨Z, Z, Z, Z, Z, trivial⟩ (by kernel_rfl) (by decide) Z Z ?_
  refine zJ Z Z (zI Z Z Z Z Z Z) ?_
  refine zJ Z Z (zD Z Z Z Z) ?_
  refine zJ Z Z (zH Z) ?_
  refine zJ Z Z (zH Z) ?_
  refine zJ Z Z (zCo Z Z (by omega)) ?_
  refine zCW Z Z Z Z Z (zBT _ _) ?_
  refine zCW Z Z Z Z Z ccell ?_
  rw [b1]
  refine zJ Z Z (zH Z) ?_
  refine zn Z Z Z Z (zH Z) ?_
  refine zn Z Z Z Z (zH Z) ?_
  first | refine zr rfl rfl rfl rfl rfl ?_ | refine zAq rfl rfl rfl rfl ?_ | refine zCu rfl rfl rfl rfl rfl rfl rfl (zBT _ _) ?_
  first | refine zr rfl rfl rfl rfl rfl ?_ | refine zAq rfl rfl rfl rfl ?_ | refine zCu rfl rfl rfl rfl rfl rfl rfl chand ?_
  rw [b2]
  refine zJ Z Z (zf Z Z) ?_
  refine zJ Z Z (zH Z) ?_
  refine zn Z Z Z Z (zI Z Z Z Z Z Z) ?_
  refine zn Z Z Z Z (zD Z Z Z Z) ?_
  refine zn Z Z Z Z (zBU Z Z) ?_
  refine zn Z Z Z Z (zH Z) ?_
  refine zn Z Z Z Z (zI Z Z Z Z Z Z) ?_
  refine zn Z Z Z Z (zD Z Z Z Z) ?_
  refine zn Z Z Z Z (zBU Z Z) ?_
  refine zn Z Z Z Z (zf Z Z) ?_
  refine zJ Z Z (zf Z Z) ?_
  refine zJ Z Z (zH Z) ?_
  refine zn Z Z Z Z (zI Z Z Z Z Z Z) ?_
  refine zn Z Z Z Z (zD Z Z Z Z) ?_
  refine zn Z Z Z Z (zCB Z Z) ?_
  rw [decide_eq_false q0]
  refine zJ Z Z (zf Z Z) ?_
  refine zJ Z Z (zH Z) ?_
  refine zn Z Z Z Z (zI Z Z Z Z Z Z) ?_
  refine zn Z Z Z Z (zD Z Z Z Z) ?_
  refine zn Z Z Z Z (zCY Z Z) ?_
  rw [decide_eq_false q1]
  refine zJ Z Z (zf Z Z) ?_
  refine zAA ?_
  refine zZ (by kernel_rfl) ?_
  refine rn4 ?_
  refine zN hR Z ?_
  rw [good (fun q => q.elim (fun q => by rw [b1] at q; cases q) (fun q => q.elim (fun q => by rw [b2] at q; cases q) (fun q => q.elim (fun q => absurd q (by omega)) (fun q => q.elim q0 q1))))]; rfl
 refine ze (by kernel_rfl) ?_
 refine zBP (fuel := 0) [0, 1, 2, 3, 4, 5, 6, 7, 8, 9, 10, 11, 12, 13, 14, 15, 16, 17, 18, 19, 20, 21, 22, 23, 24, 25, 26, 27, 28, 29, 30, 31, 32] [(2, .rp (.box (ruC r)) 0 0), (3, .rp (.box (poC ⟨cells, ha, hb, turn, quiet⟩)) 0 0), (5, iN r.pcs.length), (6, .fn 112 []), (7, zt (ha ++ hb))] ⟨Z, Z, Z, Z, Z, trivial⟩ (by kernel_rfl) (by decide) Z Z ?_
 refine zJ Z Z (zI Z Z Z Z Z Z) ?_
 refine zJ Z Z (zD Z Z Z Z) ?_
 refine zJ Z Z (zH Z) ?_
 refine zJ Z Z (zH Z) ?_
 refine zJ Z Z (zCo Z Z (by omega)) ?_
 refine zCW Z Z Z Z Z (zBT _ _) ?_
 refine zCW Z Z Z Z Z ccell ?_
 rw [b1]
 refine zJ Z Z (zH Z) ?_
 refine zn Z Z Z Z (zH Z) ?_
 refine zn Z Z Z Z (zH Z) ?_
 first | refine zr rfl rfl rfl rfl rfl ?_ | refine zAq rfl rfl rfl rfl ?_ | refine zCu rfl rfl rfl rfl rfl rfl rfl (zBT _ _) ?_
 first | refine zr rfl rfl rfl rfl rfl ?_ | refine zAq rfl rfl rfl rfl ?_ | refine zCu rfl rfl rfl rfl rfl rfl rfl chand ?_
 rw [b2]
 refine zJ Z Z (zf Z Z) ?_
 refine zJ Z Z (zH Z) ?_
 refine zn Z Z Z Z (zI Z Z Z Z Z Z) ?_
 refine zn Z Z Z Z (zD Z Z Z Z) ?_
 refine zn Z Z Z Z (zBU Z Z) ?_
 rw [decide_eq_true (show ¬ turn = 0 from t0)]
 refine zn Z Z Z Z (zH Z) ?_
 refine zn Z Z Z Z (zI Z Z Z Z Z Z) ?_
 refine zn Z Z Z Z (zD Z Z Z Z) ?_
 refine zn Z Z Z Z (zBU Z Z) ?_
 rw [decide_eq_true (show ¬ turn = 1 from t1)]
 refine zn Z Z Z Z (zf Z Z) ?_
 refine zJ Z Z (zf Z Z) ?_
 refine zJ Z Z (zH Z) ?_
 refine zr Z Z Z Z Z ?_
 refine zr Z Z Z Z Z ?_
 refine zr Z Z Z Z Z ?_
 refine zJ Z Z (zf Z Z) ?_
 refine zJ Z Z (zH Z) ?_
 refine zr Z Z Z Z Z ?_
 refine zr Z Z Z Z Z ?_
 refine zr Z Z Z Z Z ?_
 refine zJ Z Z (zf Z Z) ?_
 refine zAA ?_
 refine zZ (by kernel_rfl) ?_
 refine rn5 ?_
 refine zN hR Z ?_
 rw [bad (.inr (.inr (.inl ⟨t0, t1⟩)))]; rfl
/-- place.Check -/
theorem zD1 (r : Go.Ax.Gm.Rules) (hr : Lens r) (p : Pos) (hp : LenP p) : zl Tryz.prog 55 [ruA r, poA p] (.int .i64 (zCL r p)) := by
 refine zd.value0 (zL (P := Tryz.prog) (fn := Tryz.f55) Z Z (by kernel_rfl) Z (fun c hR hfix => ?_)) (fix := fun _ => False) (fun _ h => h) Z Z
 refine zX ?_
 repeat (first | refine zA (zP rfl) ?_ | refine zC ?_ | refine zB ?_ | refine zK rfl ?_ | refine zAo rfl rfl ?_)
 refine zEO 2 3 [] Z Z Z Z trivial ⟨Z, Z, trivial⟩ Z hfix ?_
 refine rn6 ?_
 refine zQ Z Z Z (zHq r hr) ?_
 refine rn3 ?_
 refine zF Z (fun h => ?_) (fun h => ?_)
 ·refine rn2 ?_
  refine zN hR Z ?_
  unfold zCL; rw [if_pos h]; rfl
 refine rn6 ?_
 refine zQ Z Z Z (sound_ok r (zBO (Classical.not_not.1 h)) p hp) ?_
 refine rn0 ?_
 refine zN hR Z ?_
 unfold zCL; rw [if_neg h]; rfl
structure Small (r : Go.Ax.Gm.Rules) : Prop where
 pcs : r.pcs.length ≤ 6
 ways : ∀ p ∈ r.pcs, p.ways.length ≤ 16
 start : r.start.length ≤ 64
 ends : r.ends.length ≤ 6
theorem zKr {r : Go.Ax.Gm.Rules} (hv : ValidR r) : Small r := by
 refine ⟨hv.n6, fun p hp => ?_, ?_, hv.e6⟩
 ·obtain ⟨i, hi, rfl⟩ := List.mem_iff_getElem.1 hp
  have := (zDh (hv.pc i hi)).2.2.2.2.1
  rwa [zCj pc0 hi] at this
 ·have := hv.st
  have a := Int.mul_le_mul hv.w8 hv.h8 (by have := hv.h1; omega) (by decide)
  omega
def ruZ : List AV := [.str [], .int .i64 0, .int .i64 0, .nil, .nil, .bool false, .bool false, .nil, .int .i64 0, .int .i64 0, .int .i64 0]
def ruP (r : Go.Ax.Gm.Rules) (x : AV) : List AV := [.str r.name, .int .i64 r.w, .int .i64 r.h, x, zt r.start, .bool r.falls, .bool r.keeps, .ro (zEz r.ends) 0 r.ends.length, .int .i64 r.blocked, .int .i64 r.quiet, .int .i64 r.rep]
theorem zMk {n : Nat} (l : List Go.Ax.Gm.Pc) : zA1 n (zAb l) := fun i j _ hj => by
 have hj : j < 4 := hj
 show zCJ n ((pcC (l.getD i pc0)).getD j .any) = true
 match j, hj with
 | 0, _ => rfl
 | 1, _ => rfl
 | 2, _ => rfl
 | 3, _ => rfl
theorem zHn {n : Nat} {l : List AV} (h : zB1 n l = true) : zA1 n (.box l) := fun i j _ hj => zI1 (c := .box l) h i j hj
abbrev hpR (r : Go.Ax.Gm.Rules) (k : Nat) : zO := [some ⟨26, .box (ruC r)⟩, some ⟨26, .box ruZ⟩, some ⟨26, .box (ruP r (.sl 3 0 k))⟩, some ⟨114, zAb (r.pcs.take k)⟩]
/-- rules.Copy -/
theorem copyR_ok (r : Go.Ax.Gm.Rules) (hr : Small r) : zl Tryz.prog 77 [ruA r] (ruA r) := by
 refine zd.value0 (zL (P := Tryz.prog) (fn := Tryz.f77) Z Z (by kernel_rfl) Z (fun c hR hfix => ?_)) (fix := fun _ => False) (fun _ h => h) Z Z
 have hpl := hr.pcs
 refine rn6 ?_
 refine zW (ruC r) Z Z Z Z Z Z Z ?_
 refine rn9 ?_
 refine zAh [some ⟨26, .box (ruC r)⟩, some ⟨26, .box ruZ⟩, some ⟨26, .box (ruP r .nil)⟩] Z ?_
 refine zDW 2 ⟨114, zAb []⟩ (.box (ruP r (.sl 3 0 0))) Z Z Z Z (fun i j hi hj => ?_) ?_
 ·obtain rfl : i = 0 := Nat.lt_one_iff.1 hi
  have hj : j < 11 := hj
  match j, hj with
  | 0, _ => exact .inl rfl
  | 1, _ => exact .inl rfl
  | 2, _ => exact .inl rfl
  | 3, _ => exact .inr ⟨rfl, rfl⟩
  | 4, _ => exact .inl rfl
  | 5, _ => exact .inl rfl
  | 6, _ => exact .inl rfl
  | 7, _ => exact .inl rfl
  | 8, _ => exact .inl rfl
  | 9, _ => exact .inl rfl
  | 10, _ => exact .inl rfl
 refine zx (ι := Nat) (fun k => [(1, .ptr 0 0 0), (2, .ptr 1 0 0), (3, .ptr 2 0 0), (9, .ro (zAb r.pcs) 0 r.pcs.length), (10, iN r.pcs.length), (11, iN k)]) (fun k => hpR r k)
  (fun k => k ≤ r.pcs.length) (fun k => r.pcs.length - k) 0 ⟨⟨rfl, rfl, rfl, rfl, rfl, rfl, trivial⟩, rfl, Nat.zero_le _⟩ ?_
 intro k hk
 refine rn4 ?_
 refine zF Z (fun h2 => ?_) (fun h2 => ?_)
 ·have hk' : k < r.pcs.length := by omega
  generalize hp : r.pcs.getD k pc0 = p
  have hpw := hr.ways p (by rw [← hp]; exact zAp pc0 hk')
  have htk : r.pcs.take (k + 1) = r.pcs.take k ++ [p] := by rw [zz _ pc0 k hk', hp]
  have htl : (r.pcs.take k).length = k := by rw [List.length_take]; omega
  refine zF6 ?_
  repeat (refine zAS rfl rfl rfl ?_)
  refine zW (pcC p) Z Z Z Z Z (by rw [← hp]; rfl) Z ?_
  refine rn5 ?_
  refine zQ Z Z Z (cloneW p.ways (by omega)) ?_
  repeat (first | refine zC ?_ | refine zB ?_ | refine zK rfl ?_ | refine zA (zU rfl rfl rfl rfl rfl) ?_ | refine zA (zM rfl rfl rfl rfl rfl rfl) ?_ | refine zA (qpp rfl rfl rfl rfl rfl rfl rfl) ?_ | refine zAJ rfl rfl rfl rfl rfl rfl rfl Nat.zero_lt_one ?_ | refine zAC rfl rfl rfl rfl rfl rfl rfl rfl rfl rfl rfl ?_)
  refine zBQ [p] Z Z Z Z Z Z Z Z htl Z Z Z Z (by show 0 + 1 ≤ 1; omega) (fun k' j hk' hj => ?_) (by show (k + 1) * 48 ≤ _ ∧ _; omega) zLO (by rw [hfix]; exact fun h => h) ?_
  ·obtain rfl : k' = 0 := Nat.lt_one_iff.1 hk'
   match j, hj with
   | 0, _ => rfl
   | 1, _ => rfl
   | 2, _ => rfl
   | 3, _ => rfl
  rw [← htk]
  repeat (first | refine zC ?_ | refine zAM ?_ | refine zA (zM rfl rfl rfl rfl rfl rfl) ?_ | refine zAJ rfl rfl rfl rfl rfl rfl rfl Nat.zero_lt_one ?_)
  refine zB ?_
  refine zCR (hpR r (k + 1)) [some ⟨114, .box (pcC p)⟩] [(1, .ptr 0 0 0), (2, .ptr 1 0 0), (3, .ptr 2 0 0), (9, .ro (zAb r.pcs) 0 r.pcs.length), (10, iN r.pcs.length), (11, iN k)] Z ⟨Z, Z, Z, Z, Z, Z, trivial⟩ (fun h hh => by rw [hfix] at hh; exact hh.elim) (zCF (zHn Z) (zCF (zHn Z) (zCF (zHn Z) (zCF (zMk _) zBr)))) Z ?_
  refine rn3 ?_
  exact zS ⟨k + 1, by omega, by omega, ⟨Z, Z, Z, Z, Z, Z, trivial⟩, Z⟩
 ·have hk' : k = r.pcs.length := by omega
  subst hk'
  have htl : hpR r r.pcs.length = [some ⟨26, .box (ruC r)⟩, some ⟨26, .box ruZ⟩, some ⟨26, .box (ruP r (.sl 3 0 r.pcs.length))⟩, some ⟨114, zAb r.pcs⟩] := by show [_, _, _, some (AObj.mk _ (zAb (r.pcs.take r.pcs.length)))] = _; rw [List.take_length]
  rw [htl]
  refine rn5 ?_
  refine ze (by kernel_rfl) ?_
  refine zm (fuel := 3) [0, 1, 2, 3, 4, 5, 6] [(1, .ptr 0 0 0), (2, .ptr 1 0 0), (3, .ptr 2 0 0)] ⟨Z, Z, Z, trivial⟩ (by kernel_rfl) (by decide) Z Z ?_
  refine zJ Z Z (zM Z Z Z Z Z Z) ?_
  refine zJ Z Z (zU Z Z Z Z Z) ?_
  refine zCW Z Z Z Z Z (zHr r.start (by have := hr.start; omega)) ?_
  refine zJ Z Z (zM Z Z Z Z Z Z) ?_
  refine zJ Z Z (zU Z Z Z Z Z) ?_
  refine zCW Z Z Z Z Z (cloneE r.ends (by have := hr.ends; omega)) ?_
  refine zJ Z Z (zM Z Z Z Z Z Z) ?_
  refine zAA ?_
  refine zG (is := [7]) (by kernel_rfl) (by simp) Z ⟨fun o ho => ?_, trivial⟩
  all_goals (cases ho)
  refine rn9 ?_
  refine zV 8 Z (by kernel_rfl) (by kernel_rfl) (by kernel_rfl) Z (zM Z Z Z Z Z Z) Z ?_
  refine zG (is := [9]) (by kernel_rfl) (by simp) Z ⟨fun o ho => ?_, trivial⟩
  all_goals (cases ho)
  refine rn9 ?_
  refine zZ (by kernel_rfl) ?_
  refine rn6 ?_
  refine zW (ruP r (.sl 3 0 r.pcs.length)) Z Z Z Z Z Z Z ?_
  refine rn7 ?_
  refine zA3 [none, none, none, some ⟨114, zAb r.pcs⟩] [none, some ⟨26, .box (ruC r)⟩, none, none] [(2, .ptr 1 0 0)] ?_ (zCN (zCN (zCN (zCM (zA8 zMl) zCp)))) Z ?_ ⟨⟨.ptr 1 0 0, Z, .inl Z⟩, trivial⟩ ?_
  ·intro h o ho
   match h, ho with
   | 0, ho => simp at ho
   | 1, ho => simp at ho
   | 2, ho => simp at ho
   | 3, ho => exact ho
   | _ + 4, ho => simp at ho
  ·intro h o ho
   match h, ho with
   | 0, ho => simp at ho
   | 1, ho =>
    cases ho
    refine ⟨fun o h => by simp at h, ⟨26, .box (ruP r (.sl 3 0 r.pcs.length))⟩, Z, Z, Z, Z, fun i j hi hj => ?_⟩
    obtain rfl : i = 0 := Nat.lt_one_iff.1 hi
    have hj : j < 11 := hj
    match j, hj with
    | 0, _ => exact .inl rfl
    | 1, _ => exact .inl rfl
    | 2, _ => exact .inl rfl
    | 3, _ => exact .inr (.inr ⟨rfl, fun o ho => by cases ho; show 0 + r.pcs.length ≤ r.pcs.length; omega⟩)
    | 4, _ => exact .inl rfl
    | 5, _ => exact .inl rfl
    | 6, _ => exact .inl rfl
    | 7, _ => exact .inl rfl
    | 8, _ => exact .inl rfl
    | 9, _ => exact .inl rfl
    | 10, _ => exact .inl rfl
   | 2, ho => simp at ho
   | 3, ho => simp at ho
   | _ + 4, ho => simp at ho
  repeat (refine zAB ?_)
  exact zN hR Z Z
structure SmallP (p : Pos) : Prop where
 c : p.cells.length ≤ 64
 h0 : p.h0.length ≤ 6
 h1 : p.h1.length ≤ 6
theorem SmallP.len {p : Pos} (h : SmallP p) : LenP p := ⟨by have := h.c; omega, by have := h.h0; omega, by have := h.h1; omega⟩
theorem zAu {r : Go.Ax.Gm.Rules} (hv : ValidR r) {p : Pos} (h : Sound r p) : SmallP p := by
 have a := Int.mul_le_mul hv.w8 hv.h8 (by have := hv.h1; omega) (by decide)
 have b := hv.n6
 have c1 := h.cl
 have c2 := h.l0
 have c3 := h.l1
 exact ⟨by omega, by omega, by omega⟩
/-- place.Copy -/
theorem zHv (p : Pos) (hp : SmallP p) : zl Tryz.prog 53 [poA p] (poA p) := by
 refine zd.value0 (zL (P := Tryz.prog) (fn := Tryz.f53) Z Z (by kernel_rfl) Z (fun c hR hfix => ?_)) (fix := fun _ => False) (fun _ h => h) Z Z
 obtain ⟨h1, h2, h3⟩ := hp
 refine rn6 ?_
 refine zQ Z Z Z (zHr p.cells (by omega)) ?_
 refine rn8 ?_
 refine ze (by kernel_rfl) ?_
 refine zm (fuel := 2) [0, 1, 2, 3, 4, 5, 6, 7, 8] [(1, .ptr 0 0 0), (2, .ptr 1 0 0)] ⟨Z, Z, trivial⟩ (by kernel_rfl) (by decide) Z Z ?_
 refine zJ Z Z (zM Z Z Z Z Z Z) ?_
 refine zJ Z Z (zAa Z Z Z Z (by first | (simp only [Nat.zero_add, Int.toNat_natCast]; exact Z) | exact Z) (by omega)) ?_
 refine zJ Z Z (zU Z Z Z Z Z) ?_
 refine zCW Z Z Z Z Z (zHr p.h0 (by omega)) ?_
 refine zJ Z Z (zM Z Z Z Z Z Z) ?_
 refine zJ Z Z (zAa Z Z Z Z (by first | (simp only [Nat.zero_add, Int.toNat_natCast]; exact Z) | exact Z) (by omega)) ?_
 refine zJ Z Z (zU Z Z Z Z Z) ?_
 refine zCW Z Z Z Z Z (zHr p.h1 (by omega)) ?_
 refine zJ Z Z (zDR Z Z Z Z Z Z) ?_
 refine zAA ?_
 refine zV 9 Z (by kernel_rfl) (by kernel_rfl) (by kernel_rfl) Z (zM Z Z Z Z Z Z) Z ?_
 refine zG (is := [10]) (by kernel_rfl) (by simp) Z ⟨fun o ho => ?_, trivial⟩
 all_goals (cases ho)
 refine zGG (c' := .box (poC p)) (i := 0) (j := 1) Z Z Z Z Z (by show 1 + 2 ≤ 5; omega) Nat.zero_lt_one Z Z (fun i' j' hi' hj' => ?_) ?_
 ·obtain rfl : i' = 0 := Nat.lt_one_iff.1 hi'
  have hj' : j' < 5 := hj'
  match j', hj' with
  | 0, _ => rfl
  | 1, _ => rfl
  | 2, _ => rfl
  | 3, _ => rfl
  | 4, _ => rfl
 refine rn1 ?_
 refine zZ (by kernel_rfl) ?_
 refine rn6 ?_
 refine zW (poC p) Z Z Z Z Z Z Z ?_
 refine rn0 ?_
 exact zN hR Z Z
theorem zEY (a : Mv) (j k : Nat) (hj : j < 3) : ((mvC a).getD j .any).forget k = (mvC a).getD j .any := by
 match j, hj with
 | 0, _ => rfl
 | 1, _ => rfl
 | 2, _ => rfl
theorem zFY (a : Mv) (j : Nat) (hj : j < 3) : noRef ((mvC a).getD j .any) = true := by
 match j, hj with
 | 0, _ => rfl
 | 1, _ => rfl
 | 2, _ => rfl
theorem zI9 {w s : Nat} (hw : 0 < w) {p : Pos} {k : Nat} : k < s / w ↔ (k + 1) * w ≤ s := by rw [← Nat.le_div_iff_mul_le hw]; omega
/-- moves.filled -/
theorem zMT (r : Go.Ax.Gm.Rules) (hw : 1 ≤ r.w ∧ r.w ≤ 8) (p : Pos) (hp : SmallP p) (s : Nat) (hs : s < p.cells.length) : zl Tryz.prog 120 [ruA r, poA p, .int .i64 s] (.bool (zGP r.w.toNat s p)) := by
 refine zd.value0 (zL (P := Tryz.prog) (fn := Tryz.f120) Z Z (by kernel_rfl) Z (fun c hR hfix => ?_)) (fix := fun _ => False) (fun _ h => h) Z Z
 have hc := hp.c
 obtain ⟨W, hW⟩ : ∃ W : Nat, r.w = (W : Int) := ⟨r.w.toNat, by omega⟩
 have hWt : r.w.toNat = W := by omega
 have hW0 : 0 < W := by omega
 rw [hWt] at hR
 refine zX ?_
 repeat (first | refine zA (zP rfl) ?_ | refine zC ?_ | refine zB ?_ | refine zK rfl ?_ | refine zAo rfl rfl ?_)
 refine zEO 3 4 [(2, iN s)] Z Z Z Z ⟨Z, trivial⟩ ⟨Z, Z, Z, trivial⟩ Z hfix ?_
 repeat (first | refine zA (zH rfl) ?_ | refine zA (zP rfl) ?_ | refine zC ?_ | refine zB ?_ | refine zX ?_ | refine zK rfl ?_ | refine zAT ?_ | refine zA (zBK rfl rfl (by omega)) ?_ | refine zA (zD rfl rfl rfl rfl) ?_ | refine zA (zI rfl rfl rfl rfl rfl rfl) ?_)
 refine zx (ι := Nat) (fun k => [(3, .rp (.box (ruC r)) 0 0), (4, .rp (.box (poC p)) 0 0), (2, .int .i64 ((s : Int) - ((k + 1) * W : Nat)))]) (fun _ => [])
  (fun k => k ≤ s / W ∧ (List.range k).all (fun k => decide (zAG p (s - (k + 1) * W) ≠ 0)) = true) (fun k => s / W - k) 0 ⟨⟨rfl, rfl, ?_, trivial⟩, rfl, Nat.zero_le _, rfl⟩ ?_
 ·show some (AV.int .i64 _) = _
  congr 2; rw [hW]; omega
 intro k ⟨hk, hall⟩
 have hmul : (k + 1) * W = k * W + W := Nat.succ_mul k W
 have hkW : k * W ≤ s := Nat.le_trans (Nat.mul_le_mul_right W hk) (Nat.div_mul_le_self s W)
 refine rn7 ?_
 refine zF Z (fun h => ?_) (fun h => ?_)
 ·have hle : (k + 1) * W ≤ s := by omega
  have hlt : k < s / W := (zI9 hW0 (p := p)).2 hle
  have hall' : (List.range (k + 1)).all (fun k => decide (zAG p (s - (k + 1) * W) ≠ 0)) = decide (zAG p (s - (k + 1) * W) ≠ 0) := by rw [List.range_succ, List.all_append, hall]; simp
  have hn : ((s : Int) - ((k + 1) * W : Nat)).toNat = s - (k + 1) * W := by omega
  repeat (first | refine zA (zH rfl) ?_ | refine zA (zBe rfl rfl rfl) ?_ | refine zC ?_ | refine zB ?_ | refine zX ?_ | refine zK rfl ?_ | refine zAT ?_ | refine zAL ?_ | refine zA (zBx rfl rfl) ?_ | refine zA (zg rfl rfl rfl rfl (by first | (simp only [Nat.zero_add, Int.toNat_natCast, Int.toNat_zero]; exact rfl) | exact rfl) (by omega)) ?_ | refine zA (zD rfl rfl rfl rfl) ?_ | refine zA (zI rfl rfl rfl rfl rfl rfl) ?_)
  refine zF Z (fun h2 => ?_) (fun h2 => ?_)
  ·rw [hn] at h2
   refine rn6 ?_
   refine zN hR Z ?_
   have : zGP W s p = false := by
    unfold zGP
    refine Bool.eq_false_iff.2 (fun q => ?_)
    have := List.all_eq_true.1 q k (List.mem_range.2 hlt)
    rw [decide_eq_true_eq] at this
    exact this h2
   rw [this]; rfl
  ·rw [hn] at h2
   repeat (first | refine zA (zH rfl) ?_ | refine zA (zP rfl) ?_ | refine zC ?_ | refine zB ?_ | refine zK rfl ?_ | refine zAM ?_ | refine zAL ?_ | refine zA (zBK rfl rfl (by omega)) ?_ | refine zA (zD rfl rfl rfl rfl) ?_ | refine zA (zI rfl rfl rfl rfl rfl rfl) ?_)
   refine zS ⟨k + 1, ⟨by omega, by rw [hall']; exact decide_eq_true h2⟩, by omega, ⟨Z, Z, ?_, trivial⟩, Z⟩
   show some (AV.int .i64 _) = _
   congr 2; rw [hW, Nat.succ_mul (k + 1) W]; omega
 ·have hk' : k = s / W := by
   rcases Nat.lt_or_ge k (s / W) with q | q
   ·have := (zI9 hW0 (p := p)).1 q; omega
   ·omega
  refine rn5 ?_
  refine zN hR Z ?_
  unfold zGP
  rw [← hk', hall]; rfl
def zBY (r : Go.Ax.Gm.Rules) (p : Pos) (k : Nat) : List Mv := (List.range k).flatMap (fun s => if zFD r p s = true then zII (zBk p p.turn) s else [])
def zDJ (l : List Int) (s k : Nat) : List Mv := ((List.range k).filter (fun k : Nat => decide (0 < l.getD k 0))).map (fun k : Nat => ⟨-1, (s : Int), (k : Int)⟩)
theorem zLQ (l : List Int) (s k : Nat) : zDJ l s (k + 1) = if 0 < l.getD k 0 then zDJ l s k ++ [⟨-1, (s : Int), (k : Int)⟩] else zDJ l s k := by
 unfold zDJ
 rw [List.range_succ, List.filter_append, List.map_append]
 split
 ·rename_i h; rw [List.filter_cons_of_pos (by exact decide_eq_true h)]; rfl
 ·rename_i h; rw [List.filter_cons_of_neg (by rw [decide_eq_false h]; exact Bool.false_ne_true)]; simp
theorem zJQ (l : List Int) (s k : Nat) : (zDJ l s k).length ≤ k := by
 unfold zDJ
 rw [List.length_map]
 exact Nat.le_trans (List.length_filter_le ..) (by rw [List.length_range]; exact Nat.le_refl _)
theorem zHI (r : Go.Ax.Gm.Rules) (p : Pos) (k : Nat) : zBY r p (k + 1) = zBY r p k ++ (if zFD r p k = true then zII (zBk p p.turn) k else []) := by
 unfold zBY
 rw [List.range_succ, List.flatMap_append]; simp
theorem zF2 (r : Go.Ax.Gm.Rules) (p : Pos) (hl : (zBk p p.turn).length ≤ 6) : ∀ k, (zBY r p k).length ≤ 6 * k
 | 0 => Nat.le_refl _
 | k + 1 => by
  have ih := zF2 r p hl k
  rw [zHI, List.length_append]
  have : (if zFD r p k = true then zII (zBk p p.turn) k else []).length ≤ 6 := by
   split
   ·exact Nat.le_trans (zJQ (zBk p p.turn) k _) hl
   ·exact Nat.zero_le _
  omega
/-- moves.puts -/
theorem puts_ok (r : Go.Ax.Gm.Rules) (hw : 1 ≤ r.w ∧ r.w ≤ 8) (p : Pos) (hp : SmallP p) (ht : p.turn = 0 ∨ p.turn = 1) : zHf Tryz.prog 94 [ruA r, poA p] (fun N => .sl N 0 (zFE r p).length) ⟨58, zBI (zFE r p)⟩ := by
 refine zd.fresh (K := fun v H => v = .sl 0 0 (zFE r p).length ∧ H = [some ⟨58, zBI (zFE r p)⟩]) (zL (P := Tryz.prog) (fn := Tryz.f94) Z Z (by kernel_rfl) Z (fun c hR hfix => ?_)) (fix := fun _ => False) (fun _ h => h) Z (fun H => ⟨Z, by simp [zH4, inB, ruC, poC]⟩) ?_
 ·have hc := hp.c
  have hh6 : (zBk p p.turn).length ≤ 6 := by unfold zBk; have := hp.h0; have := hp.h1; split <;> omega
  generalize hL : zBk p p.turn = L at hh6
  obtain ⟨W, hW⟩ : ∃ W : Nat, r.w = (W : Int) := ⟨r.w.toNat, by omega⟩
  have hWt : r.w.toNat = W := by omega
  refine zX ?_
  repeat (first | refine zA (zP rfl) ?_ | refine zC ?_ | refine zB ?_ | refine zK rfl ?_ | refine zAo rfl rfl ?_)
  refine zEO 2 3 [(4, .nil)] Z Z Z Z ⟨Z, trivial⟩ ⟨Z, Z, Z, trivial⟩ Z hfix ?_
  refine zBn ?_
  refine zBZ 5 ⟨58, zBI []⟩ Z Z ?_
  refine zx (ι := Nat) (fun k => [(2, .rp (.box (ruC r)) 0 0), (3, .rp (.box (poC p)) 0 0), (5, .sl 0 0 (zBY r p k).length), (11, zt p.cells), (12, iN p.cells.length), (13, iN k)]) (fun k => [some ⟨58, zBI (zBY r p k)⟩])
   (fun k => k ≤ p.cells.length) (fun k => p.cells.length - k) 0 ⟨⟨rfl, rfl, rfl, rfl, rfl, rfl, trivial⟩, rfl, Nat.zero_le _⟩ ?_
  intro k hk
  refine rn4 ?_
  refine zF Z (fun h => ?_) (fun h => ?_)
  ·have hk' : k < p.cells.length := by omega
   have hsucc := zHI r p k
   have hlen := zF2 r p (by rw [hL]; exact hh6) k
   rw [hL] at hsucc
   have no : zFD r p k = false → zBY r p (k + 1) = zBY r p k := fun q => by rw [hsucc, q]; simp
   have yes : zFD r p k = true → zBY r p (k + 1) = zBY r p k ++ zDJ L k L.length := fun q => by rw [hsucc, q]; rfl
   refine rn6 ?_
   apply zAD (H := [some ⟨58, zBI (zBY r p k)⟩]) [(2, .rp (.box (ruC r)) 0 0), (3, .rp (.box (poC p)) 0 0), (5, .sl 0 0 (zBY r p k).length), (11, zt p.cells), (12, iN p.cells.length), (13, iN k), (6, iN k), (36, .bool (!(zFD r p k)))]
   ·intro fin
    refine zh Z Z (fun g1 => ?_) (fun g1 => ?_)
    ·repeat (first | refine zC ?_ | refine zB ?_ | refine zAc rfl rfl ?_ | refine zAN rfl rfl rfl ?_ | refine zA (zf rfl rfl) ?_)
     have g1 : ¬ zAG p k = 0 := g1
     exact fin _ ⟨Z, Z, Z, Z, Z, Z, Z, by unfold zFD; rw [decide_eq_false g1]; rfl, trivial⟩
    have g1 : zAG p k = 0 := Classical.not_not.1 g1
    refine zAn ?_
    refine zAt Z Z (fun g2 => ?_) (fun g2 => ?_)
    ·repeat (first | refine zA (zH rfl) ?_ | refine zo rfl rfl ?_ | refine zA (zDs rfl rfl) ?_ | refine zA (zf rfl rfl) ?_ | refine zA (zD rfl rfl rfl rfl) ?_ | refine zA (zI rfl rfl rfl rfl rfl rfl) ?_)
     refine zh Z Z (fun g3 => ?_) (fun g3 => ?_)
     ·refine zF6 ?_
      refine zQ Z Z Z (zMT r hw p hp k hk') ?_
      repeat (first | refine zC ?_ | refine zB ?_ | refine zo rfl rfl ?_ | refine zA (zEH rfl) ?_ | refine zA (zf rfl rfl) ?_)
      exact fin _ ⟨Z, Z, Z, Z, Z, Z, Z, by unfold zFD; rw [decide_eq_true g1, g2, decide_eq_true (show r.w.toNat ≤ k by omega), Bool.true_and, Bool.true_and, Bool.true_and, Bool.not_not]; rfl, trivial⟩
     ·refine zAn ?_
      exact fin _ ⟨Z, Z, Z, Z, Z, Z, Z, by unfold zFD; rw [decide_eq_true g1, g2, decide_eq_false (show ¬ r.w.toNat ≤ k by omega)]; rfl, trivial⟩
    ·refine zAn ?_
     exact fin _ ⟨Z, Z, Z, Z, Z, Z, Z, by unfold zFD; rw [decide_eq_true g1, g2]; rfl, trivial⟩
   refine zAO Z (fun g => ?_) (fun g => ?_)
   ·rw [Bool.not_eq_true'] at g
    refine rn5 ?_
    refine zS ⟨k + 1, by omega, by omega, ⟨Z, Z, ?_, Z, Z, Z, trivial⟩, ?_⟩
    ·rw [no g]; rfl
    ·rw [no g]
   rw [Bool.not_eq_false'] at g
   refine rn20 ?_
   apply zAD (H := [some ⟨58, zBI (zBY r p k)⟩]) [(2, .rp (.box (ruC r)) 0 0), (3, .rp (.box (poC p)) 0 0), (5, .sl 0 0 (zBY r p k).length), (11, zt p.cells), (12, iN p.cells.length), (13, iN k), (6, iN k), (41, zt L), (42, iN L.length), (43, .int .i64 ((0 : Nat) : Int))]
   ·intro fin
    rcases ht with ht | ht
    ·have e : L = p.h0 := by rw [← hL]; unfold zBk; rw [if_pos ht]
     refine zK Z ?_
     refine zAn ?_
     rw [ht]
     repeat (first | refine zA (zH rfl) ?_ | refine zC ?_ | refine zB ?_ | refine zA (zBD rfl rfl rfl) ?_ | refine zA (zD rfl rfl rfl rfl) ?_ | refine zA (zBo rfl rfl rfl rfl (by first | (simp only [Nat.zero_add, Int.toNat_natCast]; exact rfl) | exact rfl) (by omega)) ?_)
     exact fin _ ⟨Z, Z, Z, Z, Z, Z, Z, by rw [e]; rfl, by rw [e]; rfl, Z, trivial⟩
    ·have e : L = p.h1 := by rw [← hL]; unfold zBk; rw [if_neg (by omega)]
     refine zK Z ?_
     refine zAn ?_
     rw [ht]
     repeat (first | refine zA (zH rfl) ?_ | refine zC ?_ | refine zB ?_ | refine zA (zBD rfl rfl rfl) ?_ | refine zA (zD rfl rfl rfl rfl) ?_ | refine zA (zBo rfl rfl rfl rfl (by first | (simp only [Nat.zero_add, Int.toNat_natCast]; exact rfl) | exact rfl) (by omega)) ?_)
     exact fin _ ⟨Z, Z, Z, Z, Z, Z, Z, by rw [e]; rfl, by rw [e]; rfl, Z, trivial⟩
   repeat (refine zAT ?_)
   refine zx (ι := Nat) (fun j => [(2, .rp (.box (ruC r)) 0 0), (3, .rp (.box (poC p)) 0 0), (5, .sl 0 0 (zBY r p k ++ zDJ L k j).length), (11, zt p.cells), (12, iN p.cells.length), (13, iN k), (6, iN k), (41, zt L), (42, iN L.length), (43, iN j)]) (fun j => [some ⟨58, zBI (zBY r p k ++ zDJ L k j)⟩])
    (fun j => j ≤ L.length) (fun j => L.length - j) 0 ⟨⟨rfl, rfl, ?_, rfl, rfl, rfl, rfl, rfl, rfl, rfl, trivial⟩, ?_, Nat.zero_le _⟩ ?_
   ·rw [show zDJ L k 0 = [] from rfl, List.append_nil]; rfl
   ·rw [show zDJ L k 0 = [] from rfl, List.append_nil]
   intro j hj
   have hjl := zJQ L k j
   have hal : (zBY r p k ++ zDJ L k j).length = (zBY r p k).length + (zDJ L k j).length := List.length_append
   refine rn4 ?_
   refine zF Z (fun q => ?_) (fun q => ?_)
   ·have hj' : j < L.length := by omega
    have hps := zLQ L k j
    refine rn6 ?_
    refine zF Z (fun q2 => ?_) (fun q2 => ?_)
    ·have q2 : 0 < L.getD j 0 := q2
     rw [if_pos q2] at hps
     have hnl : (zBY r p k ++ zDJ L k (j + 1)).length = (zBY r p k ++ zDJ L k j).length + 1 := by rw [hps, ← List.append_assoc, List.length_append (bs := [_])]; rfl
     refine rn8 ?_
     refine zBQ [⟨-1, (k : Int), (j : Int)⟩] Z Z Z Z Z Z Z Z Z Z Z Z Z (by show 0 + 1 ≤ 1; omega) (fun k' j' hk' hj' => ?_) (by show ((zBY r p k ++ zDJ L k j).length + 1) * 24 ≤ _ ∧ _; omega) zEY (by rw [hfix]; exact fun h => h) ?_
     ·obtain rfl : k' = 0 := Nat.lt_one_iff.1 hk'
      match j', hj' with
      | 0, _ => rfl
      | 1, _ => rfl
      | 2, _ => rfl
     refine rn5 ?_
     refine zS ⟨j + 1, by omega, by omega, ⟨Z, Z, ?_, Z, Z, Z, Z, Z, Z, Z, trivial⟩, ?_⟩
     ·rw [hnl]; rfl
     ·rw [hps, ← List.append_assoc]; rfl
    ·have q2 : ¬ 0 < L.getD j 0 := q2
     rw [if_neg q2] at hps
     refine rn5 ?_
     refine zS ⟨j + 1, by omega, by omega, ⟨Z, Z, ?_, Z, Z, Z, Z, Z, Z, Z, trivial⟩, ?_⟩
     ·rw [hps]; rfl
     ·rw [hps]
   ·have hj' : j = L.length := by omega
    subst hj'
    refine rn5 ?_
    refine zS ⟨k + 1, by omega, by omega, ⟨Z, Z, ?_, Z, Z, Z, trivial⟩, ?_⟩
    ·rw [yes g]; rfl
    ·rw [yes g]
  ·have hk' : k = p.cells.length := by omega
   subst hk'
   refine rn5 ?_
   exact zN hR Z ⟨Z, Z⟩
 ·rintro v H ⟨rfl, rfl⟩
  refine ⟨?_, fun h o ho => zFo (zA8 zFY) h o ho, 0, Z, fun n => rfl⟩
  intro o ho; simp at ho; subst ho; show 0 + (zFE r p).length ≤ (zFE r p).length; omega
def zFB (turn c : Int) : Bool := decide (0 < c) && decide ((c - 1).tmod 2 ≠ turn)
theorem hitB_eq (take turn c : Int) : hitB take turn c = ((decide (take = 0) && decide (c = 0)) || ((decide (take = 1) && (decide (c = 0) || zFB turn c)) || (decide (take = 2) && zFB turn c))) := rfl
theorem zK1 (r : Go.Ax.Gm.Rules) (p : Pos) (take dx dy : Int) : ∀ (n : Nat) (x y : Int), (zEp r p take dx dy n x y).length ≤ n
 | 0, _, _ => Nat.le_refl _
 | n + 1, x, y => by
  have ih := zK1 r p take dx dy n (x + dx) (y + dy)
  rw [zEp]
  split
  ·exact Nat.zero_le _
  ·rw [List.length_append]
   have a : (if hitB take p.turn (zAG p ((y + dy) * r.w + (x + dx)).toNat) = true then [(y + dy) * r.w + (x + dx)] else []).length ≤ 1 := by split <;> simp
   have b : (if zAG p ((y + dy) * r.w + (x + dx)).toNat ≠ 0 then [] else zEp r p take dx dy n (x + dx) (y + dy)).length ≤ n := by split; exact Nat.zero_le _; exact ih
   omega
theorem zHp {r : Go.Ax.Gm.Rules} (hv : ValidR r) {p : Pos} (S : Sound r p) (s : Nat) : 0 ≤ zAG p s ∧ zAG p s ≤ 12 := by
 have := zES S s
 have := hv.n6
 omega
/-- moves.way -/
theorem way_ok (r : Go.Ax.Gm.Rules) (hv : ValidR r) (p : Pos) (S : Sound r p) (s : Nat) (hs : s < p.cells.length) (w : Go.Ax.Gm.Way) (hwb : zDm w = true) :
 zl Tryz.prog 95 [ruA r, poA p, .int .i64 s, .agg (zFM w)] (zt (zGn r p s w)) := by
 refine zd.value (K := fun v H => v = .sl 0 0 (zGn r p s w).length ∧ H = [some ⟨3, .ints .i64 (zGn r p s w)⟩]) (zL (P := Tryz.prog) (fn := Tryz.f95) Z Z (by kernel_rfl) Z (fun c hR hfix => ?_)) (fix := fun _ => False) (fun _ h => h) Z ?_
 ·have hc := (zAu hv S).c
  have hcl := S.cl
  have hw : 1 ≤ r.w ∧ r.w ≤ 8 := ⟨hv.w1, hv.w8⟩
  have hh : 1 ≤ r.h ∧ r.h ≤ 8 := ⟨hv.h1, hv.h8⟩
  have htn : 0 ≤ p.turn ∧ p.turn ≤ 1 := by have := S.tn; omega
  unfold zDm at hwb
  simp only [Bool.and_eq_true, Bool.not_eq_true'] at hwb
  obtain ⟨b1, b2, _, b4, b5⟩ := hwb
  have b1 := Go.Ax.Gm.within_iff.1 b1
  have b2 := Go.Ax.Gm.within_iff.1 b2
  have b4 := Go.Ax.Gm.within_iff.1 b4
  have b5 := Go.Ax.Gm.within_iff.1 b5
  have hsx : 0 ≤ (s : Int) / r.w ∧ (s : Int) / r.w < r.h ∧ 0 ≤ (s : Int) % r.w ∧ (s : Int) % r.w < r.w := by
   refine ⟨Int.ediv_nonneg (by omega) (by omega), Int.ediv_lt_of_lt_mul (by omega) ?_, Int.emod_nonneg _ (by omega), Int.emod_lt_of_pos _ (by omega)⟩
   rw [Int.mul_comm, ← hcl]; omega
  generalize hD : dyOf p w = D
  have hD7 : -7 ≤ D ∧ D ≤ 7 := by
   rw [← hD]
   unfold dyOf
   by_cases q : p.turn = 1
   ·rw [if_pos q]; omega
   ·rw [if_neg q]; exact b2
  have hM : zGn r p s w = zEp r p w.take w.dx D w.most.toNat ((s : Int) % r.w) ((s : Int) / r.w) := by
   unfold zGn; rw [hD, Int.tdiv_eq_ediv_of_nonneg (by omega), Int.tmod_eq_emod_of_nonneg (by omega)]
  rw [hM] at hR
  generalize hW : zEp r p w.take w.dx D w.most.toNat ((s : Int) % r.w) ((s : Int) / r.w) = WL at hR
  refine zX ?_
  repeat (first | refine zA (zP rfl) ?_ | refine zC ?_ | refine zB ?_ | refine zK rfl ?_ | refine zAo rfl rfl ?_)
  refine zHi [(4, .rp (.box (ruC r)) 0 0), (5, .rp (.box (poC p)) 0 0), (7, .rp (.box (zFM w)) 0 0), (2, iN s), (8, .nil)] (zCM (zw rfl) (zCM (zw rfl) (zCM (zw rfl) zCp))) ⟨⟨.ptr 0 0 0, rfl, .inr (.inr ⟨rfl, fun o ho => by cases ho; exact Nat.zero_lt_one⟩)⟩, ⟨.ptr 1 0 0, rfl, .inr (.inr ⟨rfl, fun o ho => by cases ho; exact Nat.zero_lt_one⟩)⟩, ⟨.ptr 2 0 0, rfl, .inr (.inr ⟨rfl, fun o ho => by cases ho; exact Nat.zero_lt_one⟩)⟩, ⟨_, rfl, .inl rfl⟩, ⟨_, rfl, .inl rfl⟩, trivial⟩ ⟨rfl, rfl, rfl, rfl, rfl, trivial⟩ rfl hfix ?_
  refine zBn ?_
  apply zAD (H := []) [(4, .rp (.box (ruC r)) 0 0), (5, .rp (.box (poC p)) 0 0), (7, .rp (.box (zFM w)) 0 0), (2, iN s), (9, .nil), (10, .int .i64 D)]
  ·intro fin
   refine zF Z (fun t1 => ?_) (fun t1 => ?_)
   ·repeat (first | refine zA (zH rfl) ?_ | refine zK rfl ?_)
    refine zA (q_neg Z (by omega)) ?_
    refine zFi ?_
    exact fin _ ⟨Z, Z, Z, Z, Z, by rw [← hD]; unfold dyOf; rw [if_pos t1]; rfl, trivial⟩
   ·refine zFi ?_
    exact fin _ ⟨Z, Z, Z, Z, Z, by rw [← hD]; unfold dyOf; rw [if_neg t1]; rfl, trivial⟩
  repeat (refine zX ?_)
  refine ze (by kernel_rfl) ?_
  refine zm (fuel := 0) [0, 1, 2, 3, 4, 5, 6, 7, 8, 9] [(4, .rp (.box (ruC r)) 0 0), (5, .rp (.box (poC p)) 0 0), (7, .rp (.box (zFM w)) 0 0), (2, iN s), (9, .nil), (10, .int .i64 D)] ⟨Z, Z, Z, Z, Z, Z, trivial⟩ (by kernel_rfl) (by decide) Z Z ?_
  refine zJ Z Z (zH Z) ?_
  refine zJ Z Z (zI Z Z Z Z Z Z) ?_
  refine zJ Z Z (zD Z Z Z Z) ?_
  refine zJ Z Z (zJR Z Z (by omega)) ?_
  refine zJ Z Z (zH Z) ?_
  refine zJ Z Z (zI Z Z Z Z Z Z) ?_
  refine zJ Z Z (zD Z Z Z Z) ?_
  refine zJ Z Z (zHJ Z Z (by omega)) ?_
  refine zJ Z Z (zP Z) ?_
  refine zJ Z Z (zP Z) ?_
  refine zAA ?_
  refine zZ (by kernel_rfl) ?_
  refine zBn ?_
  refine zBZ 9 ⟨3, .ints .i64 []⟩ Z Z ?_
  refine zx (ι := Nat × Int × Int × List Int) (fun z => [(4, .rp (.box (ruC r)) 0 0), (5, .rp (.box (poC p)) 0 0), (7, .rp (.box (zFM w)) 0 0), (9, .sl 0 0 z.2.2.2.length), (10, .int .i64 D), (11, .int .i64 z.2.1), (12, .int .i64 z.2.2.1), (31, .int .i64 w.most), (32, iN z.1)]) (fun z => [some ⟨3, .ints .i64 z.2.2.2⟩])
   (fun z => z.1 ≤ w.most.toNat ∧ 0 ≤ z.2.1 ∧ z.2.1 < r.w ∧ 0 ≤ z.2.2.1 ∧ z.2.2.1 < r.h ∧ WL = z.2.2.2 ++ zEp r p w.take w.dx D (w.most.toNat - z.1) z.2.1 z.2.2.1 ∧ z.2.2.2.length ≤ z.1) (fun z => w.most.toNat - z.1) (0, (s : Int) % r.w, (s : Int) / r.w, []) ⟨⟨rfl, rfl, rfl, rfl, rfl, rfl, rfl, rfl, rfl, trivial⟩, rfl, Nat.zero_le _, hsx.2.2.1, hsx.2.2.2, hsx.1, hsx.2.1, hW.symm, Nat.zero_le _⟩ ?_
  rintro ⟨k, x, y, out⟩ ⟨hk, hx0, hx1, hy0, hy1, hWL, hol⟩
  simp only at hk hx0 hx1 hy0 hy1 hWL hol
  change Ax _ _ _ _ [(4, .rp (.box (ruC r)) 0 0), (5, .rp (.box (poC p)) 0 0), (7, .rp (.box (zFM w)) 0 0), (9, .sl 0 0 out.length), (10, .int .i64 D), (11, .int .i64 x), (12, .int .i64 y), (31, .int .i64 w.most), (32, iN k)] [some ⟨3, .ints .i64 out⟩]
  refine rn4 ?_
  refine zF Z (fun q => ?_) (fun q => ?_)
  ·have hk' : k < w.most.toNat := by
    have q : (k : Int) < w.most := q
    omega
   obtain ⟨n, hn⟩ : ∃ n, w.most.toNat - k = n + 1 := ⟨w.most.toNat - k - 1, by omega⟩
   have hn2 : w.most.toNat - (k + 1) = n := by omega
   rw [hn, zEp] at hWL
   repeat (first | refine zA (zH rfl) ?_ | refine zA (zP rfl) ?_ | refine zC ?_ | refine zB ?_ | refine zX ?_ | refine zK rfl ?_ | refine zAT ?_ | refine zAL ?_ | refine zA (zCB rfl rfl) ?_ | refine zA (zA7 rfl rfl (by omega)) ?_ | refine zA (zD rfl rfl rfl rfl) ?_ | refine zA (zI rfl rfl rfl rfl rfl rfl) ?_)
   apply zAD (H := [some ⟨3, .ints .i64 out⟩]) [(4, .rp (.box (ruC r)) 0 0), (5, .rp (.box (poC p)) 0 0), (7, .rp (.box (zFM w)) 0 0), (9, .sl 0 0 out.length), (10, .int .i64 D), (11, .int .i64 (x + w.dx)), (12, .int .i64 (y + D)), (31, .int .i64 w.most), (32, iN k), (58, .bool (zFA r (x + w.dx) (y + D)))]
   ·intro fin
    refine zh Z Z (fun f1 => ?_) (fun f1 => ?_)
    ·refine zAn ?_
     exact fin _ ⟨Z, Z, Z, Z, Z, Z, Z, Z, Z, by unfold zFA; rw [decide_eq_true (show x + w.dx < 0 from f1)]; rfl, trivial⟩
    repeat (first | refine zA (zH rfl) ?_ | refine zo rfl rfl ?_ | refine zA (zDs rfl rfl) ?_ | refine zA (zf rfl rfl) ?_ | refine zA (zD rfl rfl rfl rfl) ?_ | refine zA (zI rfl rfl rfl rfl rfl rfl) ?_)
    refine zh Z Z (fun f2 => ?_) (fun f2 => ?_)
    ·refine zAn ?_
     exact fin _ ⟨Z, Z, Z, Z, Z, Z, Z, Z, Z, by unfold zFA; rw [decide_eq_false (show ¬ x + w.dx < 0 from f1), decide_eq_true (show r.w ≤ x + w.dx from f2)]; rfl, trivial⟩
    repeat (first | refine zA (zH rfl) ?_ | refine zo rfl rfl ?_ | refine zA (zCB rfl rfl) ?_ | refine zA (zf rfl rfl) ?_)
    refine zh Z Z (fun f3 => ?_) (fun f3 => ?_)
    ·refine zAn ?_
     exact fin _ ⟨Z, Z, Z, Z, Z, Z, Z, Z, Z, by unfold zFA; rw [decide_eq_false (show ¬ x + w.dx < 0 from f1), decide_eq_false (show ¬ r.w ≤ x + w.dx from f2), decide_eq_true (show y + D < 0 from f3)]; rfl, trivial⟩
    repeat (first | refine zA (zH rfl) ?_ | refine zC ?_ | refine zB ?_ | refine zo rfl rfl ?_ | refine zA (zDs rfl rfl) ?_ | refine zA (zf rfl rfl) ?_ | refine zA (zD rfl rfl rfl rfl) ?_ | refine zA (zI rfl rfl rfl rfl rfl rfl) ?_)
    exact fin _ ⟨Z, Z, Z, Z, Z, Z, Z, Z, Z, by unfold zFA; rw [decide_eq_false (show ¬ x + w.dx < 0 from f1), decide_eq_false (show ¬ r.w ≤ x + w.dx from f2), decide_eq_false (show ¬ y + D < 0 from f3)]; rfl, trivial⟩
   refine zAO Z (fun g => ?_) (fun g => ?_)
   ·rw [if_pos g, List.append_nil] at hWL
    refine rn14 ?_
    exact zN hR Z ⟨by rw [hWL]; rfl, by rw [hWL]⟩
   rw [if_neg (by rw [g]; exact Bool.false_ne_true)] at hWL
   have hsq := sq_lt g
   have hoff : 0 ≤ x + w.dx ∧ x + w.dx < r.w ∧ 0 ≤ y + D ∧ y + D < r.h := by
    unfold zFA at g
    simp only [Bool.or_eq_false_iff, decide_eq_false_iff_not] at g
    omega
   have hYw : 0 ≤ (y + D) * r.w ∧ (y + D) * r.w ≤ 64 := ⟨Int.mul_nonneg (by omega) (by omega), by
    have a := Int.mul_le_mul (show y + D ≤ 8 by omega) hw.2 (by omega) (by decide)
    exact Int.le_trans a (by decide)⟩
   have hC12 := zHp hv S ((y + D) * r.w + (x + w.dx)).toNat
   refine zBn ?_
   refine zA (zCo Z Z (by omega)) ?_
   repeat (first | refine zA (zH rfl) ?_ | refine zA (zP rfl) ?_ | refine zA (zBe rfl rfl rfl) ?_ | refine zC ?_ | refine zB ?_ | refine zA (zA7 rfl rfl (by omega)) ?_ | refine zA (zg rfl rfl rfl rfl (by first | (simp only [Nat.zero_add, Int.toNat_natCast, Int.toNat_zero]; exact rfl) | exact rfl) (by omega)) ?_)
   obtain ⟨C, hC⟩ : ∃ C, zAG p ((y + D) * r.w + (x + w.dx)).toNat = C := ⟨_, rfl⟩
   rw [hC] at hWL hC12
   refine zBp 13 (.int .i64 C) Z (AEq.of_eq (by rw [← hC]; rfl)) ?_
   refine rn6 ?_
   apply zAD (H := [some ⟨3, .ints .i64 out⟩]) [(4, .rp (.box (ruC r)) 0 0), (5, .rp (.box (poC p)) 0 0), (7, .rp (.box (zFM w)) 0 0), (9, .sl 0 0 out.length), (10, .int .i64 D), (11, .int .i64 (x + w.dx)), (12, .int .i64 (y + D)), (31, .int .i64 w.most), (32, iN k), (13, .int .i64 C), (14, .bool (zFB p.turn C))]
   ·intro fin
    refine zh Z Z (fun e1 => ?_) (fun e1 => ?_)
    ·repeat (first | refine zA (zH rfl) ?_ | refine zA (zP rfl) ?_ | refine zC ?_ | refine zB ?_ | refine zo rfl rfl ?_ | refine zA (zBU rfl rfl) ?_ | refine zA (zf rfl rfl) ?_ | refine zA (zBK rfl rfl (by omega)) ?_ | refine zA (zJR rfl rfl (by omega)) ?_ | refine zA (zD rfl rfl rfl rfl) ?_ | refine zA (zI rfl rfl rfl rfl rfl rfl) ?_)
     exact fin _ ⟨Z, Z, Z, Z, Z, Z, Z, Z, Z, Z, congrArg (fun b => some (AV.bool b)) (show decide (¬ (C - 1) % 2 = p.turn) = zFB p.turn C by unfold zFB; rw [decide_eq_true (show 0 < C from e1), Int.tmod_eq_emod_of_nonneg (by have e1 : 0 < C := e1; omega), Bool.true_and]), trivial⟩
    ·refine zFi ?_
     exact fin _ ⟨Z, Z, Z, Z, Z, Z, Z, Z, Z, Z, congrArg (fun b => some (AV.bool b)) (show false = zFB p.turn C by unfold zFB; rw [decide_eq_false (show ¬ 0 < C from e1)]; rfl), trivial⟩
   have hHit := hitB_eq w.take p.turn C
   generalize zFB p.turn C = oth at hHit
   generalize hitB w.take p.turn C = hit at hWL hHit
   refine zBn ?_
   apply zAD (H := [some ⟨3, .ints .i64 out⟩]) [(4, .rp (.box (ruC r)) 0 0), (5, .rp (.box (poC p)) 0 0), (7, .rp (.box (zFM w)) 0 0), (9, .sl 0 0 out.length), (10, .int .i64 D), (11, .int .i64 (x + w.dx)), (12, .int .i64 (y + D)), (31, .int .i64 w.most), (32, iN k), (13, .int .i64 C), (14, .bool oth), (105, .bool hit)]
   ·intro fin
    refine zh Z Z (fun a1 => ?_) (fun a1 => ?_)
    ·have a1 : w.take = 0 := a1
     refine zAn ?_
     refine zh Z Z (fun a2 => ?_) (fun a2 => ?_)
     ·have a2 : C = 0 := a2
      repeat (first | refine zA (zH rfl) ?_ | refine zC ?_ | refine zB ?_ | refine zAc rfl rfl ?_ | refine zAN rfl rfl rfl ?_ | refine zA (zf rfl rfl) ?_)
      exact fin _ ⟨Z, Z, Z, Z, Z, Z, Z, Z, Z, Z, Z, congrArg (fun b => some (AV.bool b)) (show true = hit by rw [hHit]; simp [a1, a2]), trivial⟩
     have a2 : ¬ C = 0 := a2
     refine zAn ?_
     refine zh Z Z (fun a3 => ?_) (fun a3 => ?_)
     ·exact absurd (show w.take = 1 from a3) (by omega)
     repeat (first | refine zA (zH rfl) ?_ | refine zo rfl rfl ?_ | refine zAc rfl rfl ?_ | refine zAN rfl rfl rfl ?_ | refine zA (zBx rfl rfl) ?_ | refine zA (zf rfl rfl) ?_ | refine zA (zD rfl rfl rfl rfl) ?_ | refine zA (zI rfl rfl rfl rfl rfl rfl) ?_)
     refine zh Z Z (fun a4 => ?_) (fun a4 => ?_)
     ·exact absurd (show w.take = 2 from a4) (by omega)
     refine zAn ?_
     exact fin _ ⟨Z, Z, Z, Z, Z, Z, Z, Z, Z, Z, Z, congrArg (fun b => some (AV.bool b)) (show false = hit by rw [hHit]; simp [a1, a2]), trivial⟩
    have a1 : ¬ w.take = 0 := a1
    refine zAn ?_
    refine zh Z Z (fun a3 => ?_) (fun a3 => ?_)
    ·have a3 : w.take = 1 := a3
     refine zAn ?_
     refine zh Z Z (fun a5 => ?_) (fun a5 => ?_)
     ·have a5 : C = 0 := a5
      repeat (first | refine zA (zH rfl) ?_ | refine zC ?_ | refine zB ?_ | refine zo rfl rfl ?_ | refine zAc rfl rfl ?_ | refine zAN rfl rfl rfl ?_ | refine zA (zf rfl rfl) ?_)
      exact fin _ ⟨Z, Z, Z, Z, Z, Z, Z, Z, Z, Z, Z, congrArg (fun b => some (AV.bool b)) (show true = hit by rw [hHit]; simp [a3, a5]), trivial⟩
     have a5 : ¬ C = 0 := a5
     refine rn2 ?_
     refine zAt Z Z (fun a6 => ?_) (fun a6 => ?_)
     ·repeat (first | refine zC ?_ | refine zB ?_ | refine zAc rfl rfl ?_ | refine zAN rfl rfl rfl ?_ | refine zA (zf rfl rfl) ?_)
      exact fin _ ⟨Z, Z, Z, Z, Z, Z, Z, Z, Z, Z, Z, congrArg (fun b => some (AV.bool b)) (show true = hit by rw [hHit]; simp [a3, a5, a6]), trivial⟩
     refine zAn ?_
     refine zh Z Z (fun a4 => ?_) (fun a4 => ?_)
     ·exact absurd (show w.take = 2 from a4) (by omega)
     refine zAn ?_
     exact fin _ ⟨Z, Z, Z, Z, Z, Z, Z, Z, Z, Z, Z, congrArg (fun b => some (AV.bool b)) (show false = hit by rw [hHit]; simp [a3, a5, a6]), trivial⟩
    have a3 : ¬ w.take = 1 := a3
    repeat (first | refine zA (zH rfl) ?_ | refine zo rfl rfl ?_ | refine zAc rfl rfl ?_ | refine zAN rfl rfl rfl ?_ | refine zA (zBx rfl rfl) ?_ | refine zA (zf rfl rfl) ?_ | refine zA (zD rfl rfl rfl rfl) ?_ | refine zA (zI rfl rfl rfl rfl rfl rfl) ?_)
    refine zh Z Z (fun a4 => ?_) (fun a4 => ?_)
    ·have a4 : w.take = 2 := a4
     refine rn2 ?_
     exact fin _ ⟨Z, Z, Z, Z, Z, Z, Z, Z, Z, Z, Z, congrArg (fun b => some (AV.bool b)) (show oth = hit by rw [hHit]; simp [a1, a3, a4]), trivial⟩
    have a4 : ¬ w.take = 2 := a4
    refine zAn ?_
    exact fin _ ⟨Z, Z, Z, Z, Z, Z, Z, Z, Z, Z, Z, congrArg (fun b => some (AV.bool b)) (show false = hit by rw [hHit]; simp [a1, a3, a4]), trivial⟩
   have hidx : (y + D) * r.w + (x + w.dx) ≤ 64 := by omega
   obtain ⟨O, hO⟩ : ∃ O, (if hit = true then out ++ [(y + D) * r.w + (x + w.dx)] else out) = O := ⟨_, rfl⟩
   have hOl : O.length ≤ k + 1 := by
    rw [← hO]; split
    ·rw [List.length_append]; simp; exact hol
    ·omega
   have hWL : WL = O ++ (if C ≠ 0 then [] else zEp r p w.take w.dx D n (x + w.dx) (y + D)) := by
    rw [hWL, ← hO]
    cases hit with
    | true => simp
    | false => simp
   apply zAD (H := [some ⟨3, .ints .i64 O⟩]) [(4, .rp (.box (ruC r)) 0 0), (5, .rp (.box (poC p)) 0 0), (7, .rp (.box (zFM w)) 0 0), (9, .sl 0 0 O.length), (10, .int .i64 D), (11, .int .i64 (x + w.dx)), (12, .int .i64 (y + D)), (31, .int .i64 w.most), (32, iN k), (13, .int .i64 C)]
   ·intro fin
    refine zAO Z (fun g1 => ?_) (fun g1 => ?_)
    ·rw [if_pos g1] at hO
     refine zBn ?_
     refine zA (zCo Z Z (by omega)) ?_
     refine rn3 ?_
     refine zAe Z Z Z Z Z Z Z Z Z Z Z Z (by show 0 + 1 ≤ 1; omega) Z (by show (out.length + 1) * 8 ≤ _ ∧ _; omega) (fun i j _ _ => rfl) (by rw [hfix]; exact fun h => h) ?_
     refine zFi ?_
     refine zAh [some ⟨3, .ints .i64 O⟩] (by rw [← hO]; rfl) ?_
     exact fin _ ⟨Z, Z, Z, by rw [← hO, List.length_append]; rfl, Z, Z, Z, Z, Z, Z, trivial⟩
    ·rw [if_neg (by rw [g1]; exact Bool.false_ne_true)] at hO
     subst hO
     refine zFi ?_
     exact fin _ ⟨Z, Z, Z, Z, Z, Z, Z, Z, Z, Z, trivial⟩
   refine rn3 ?_
   refine zF Z (fun g2 => ?_) (fun g2 => ?_)
   ·rw [if_pos g2, List.append_nil] at hWL
    refine rn14 ?_
    exact zN hR Z ⟨by rw [hWL]; rfl, by rw [hWL]⟩
   ·rw [if_neg g2] at hWL
    refine rn5 ?_
    exact zS ⟨(k + 1, x + w.dx, y + D, O), ⟨by show k + 1 ≤ _; omega, hoff.1, hoff.2.1, hoff.2.2.1, hoff.2.2.2, by rw [hWL, hn2], hOl⟩, by show w.most.toNat - (k + 1) < w.most.toNat - k; omega, ⟨Z, Z, Z, Z, Z, Z, Z, Z, Z, trivial⟩, Z⟩
  ·have hk' : k = w.most.toNat := by
    have q : ¬ (k : Int) < w.most := q
    omega
   subst hk'
   rw [Nat.sub_self, zEp, List.append_nil] at hWL
   refine rn5 ?_
   exact zN hR Z ⟨by rw [hWL]; rfl, by rw [hWL]⟩
 ·rintro v H ⟨rfl, rfl⟩
  refine ⟨Z, ?_, fun h o ho => zFo zAP h o ho⟩
  intro o ho; simp at ho; subst ho; show 0 + (zGn r p s w).length ≤ (zGn r p s w).length; omega
end Go.Proofs.YtiifcejepaeepaaGreatDoor
namespace Go.Proofs
open Go.Shelf
def Tryz.sortMv_ren : Go.Shelf.Ren := ⟨fun | 6 => 97 | 15 => 122 | 14 => 121 | 28 => 136 | 29 => 137 | 20 => 128 | 21 => 129 | 22 => 130 | 23 => 131 | 24 => 132 | 25 => 133 | 26 => 134 | 27 => 135 | 46 => 139 | 47 => 140 | 48 => 141 | 49 => 142 | 50 => 143 | 57 => 148 | n => n, fun | 22 => 49 | 24 => 58 | 25 => 148 | 3 => 3 | 39 => 108 | 0 => 0 | 53 => 182 | 55 => 184 | 4 => 4 | 46 => 176 | 45 => 175 | 50 => 136 | 5 => 5 | 9 => 9 | 66 => 186 | 70 => 190 | 76 => 197 | 77 => 198 | n => n, fun | n => n⟩
theorem Tryz.sortMv : Go.Proofs.SlLaysF0.n6 Tryz.prog Tryz.sortMv_ren := {
 mixed := by kernel_rfl
 f6 := ⟨Tryz.f97.name, by decide, Tryz.func97.trans (congrArg some (by kernel_rfl))⟩
 f14 := ⟨Tryz.f121.name, by decide, Tryz.func121.trans (congrArg some (by kernel_rfl))⟩
 f15 := Tryz.func122.trans (congrArg some (by kernel_rfl))
 f20 := ⟨Tryz.f128.name, by decide, Tryz.func128.trans (congrArg some (by kernel_rfl))⟩
 f21 := ⟨Tryz.f129.name, by decide, Tryz.func129.trans (congrArg some (by kernel_rfl))⟩
 f22 := ⟨Tryz.f130.name, by decide, Tryz.func130.trans (congrArg some (by kernel_rfl))⟩
 f23 := ⟨Tryz.f131.name, by decide, Tryz.func131.trans (congrArg some (by kernel_rfl))⟩
 f24 := ⟨Tryz.f132.name, by decide, Tryz.func132.trans (congrArg some (by kernel_rfl))⟩
 f25 := ⟨Tryz.f133.name, by decide, Tryz.func133.trans (congrArg some (by kernel_rfl))⟩
 f26 := ⟨Tryz.f134.name, by decide, Tryz.func134.trans (congrArg some (by kernel_rfl))⟩
 f27 := ⟨Tryz.f135.name, by decide, Tryz.func135.trans (congrArg some (by kernel_rfl))⟩
 f28 := Tryz.func136.trans (congrArg some (by kernel_rfl))
 f29 := Tryz.func137.trans (congrArg some (by kernel_rfl))
 f46 := ⟨Tryz.f139.name, by decide, Tryz.func139.trans (congrArg some (by kernel_rfl))⟩
 f47 := Tryz.func140.trans (congrArg some (by kernel_rfl))
 f48 := Tryz.func141.trans (congrArg some (by kernel_rfl))
 f49 := ⟨Tryz.f142.name, by decide, Tryz.func142.trans (congrArg some (by kernel_rfl))⟩
 f50 := ⟨Tryz.f143.name, by decide, Tryz.func143.trans (congrArg some (by kernel_rfl))⟩
 f57 := ⟨Tryz.f148.name, by decide, Tryz.func148.trans (congrArg some (by kernel_rfl))⟩
 t0 := Tryz.underlying0
 a0 := Tryz.isAgg0
 z0 := Tryz.sizeOf0
 v0 := Tryz.zeroValue0
 t3 := Tryz.underlying3
 a3 := Tryz.isAgg3
 z3 := Tryz.sizeOf3
 v3 := Tryz.zeroValue3
 t4 := Tryz.underlying4
 a4 := Tryz.isAgg4
 z4 := Tryz.sizeOf4
 v4 := Tryz.zeroValue4
 t5 := Tryz.underlying5
 a5 := Tryz.isAgg5
 z5 := Tryz.sizeOf5
 v5 := Tryz.zeroValue5
 t9 := Tryz.underlying9
 a9 := Tryz.isAgg9
 z9 := Tryz.sizeOf9
 v9 := Tryz.zeroValue9
 t22 := Tryz.underlying49
 a22 := Tryz.isAgg49
 z22 := Tryz.sizeOf49
 v22 := Tryz.zeroValue49
 t25 := Tryz.underlying148
 a25 := Tryz.isAgg148
 z25 := Tryz.sizeOf148
 v25 := Tryz.zeroValue148
 t39 := Tryz.underlying108
 a39 := Tryz.isAgg108
 z39 := Tryz.sizeOf108
 v39 := Tryz.zeroValue108
 t45 := Tryz.underlying175
 a45 := Tryz.isAgg175
 z45 := Tryz.sizeOf175
 v45 := Tryz.zeroValue175
 t46 := Tryz.underlying176
 a46 := Tryz.isAgg176
 z46 := Tryz.sizeOf176
 v46 := Tryz.zeroValue176
 t50 := Tryz.underlying136
 a50 := Tryz.isAgg136
 z50 := Tryz.sizeOf136
 v50 := Tryz.zeroValue136
 t53 := Tryz.underlying182
 a53 := Tryz.isAgg182
 z53 := Tryz.sizeOf182
 v53 := Tryz.zeroValue182
 t55 := Tryz.underlying184
 a55 := Tryz.isAgg184
 z55 := Tryz.sizeOf184
 v55 := Tryz.zeroValue184
 t66 := Tryz.underlying186
 a66 := Tryz.isAgg186
 z66 := Tryz.sizeOf186
 v66 := Tryz.zeroValue186
 t70 := Tryz.underlying190
 a70 := Tryz.isAgg190
 z70 := Tryz.sizeOf190
 v70 := Tryz.zeroValue190
 t76 := Tryz.underlying197
 a76 := Tryz.isAgg197
 z76 := Tryz.sizeOf197
 v76 := Tryz.zeroValue197
 t77 := Tryz.underlying198
 a77 := Tryz.isAgg198
 z77 := Tryz.sizeOf198
 v77 := Tryz.zeroValue198 }
end Go.Proofs
namespace Go.Proofs.YtiifcejepaeepaaGreatDoor
open Go.Ax Go.Ax.Gm Go.RowKit Go.Ax.Idx Go.Ax.Cd
attribute [local irreducible] Ax zB4 QOp zd
/-- slices.SortFunc of moves -/
theorem zM4 {H : zO} {h : Nat} {l : List Mv} (hl : l.length < 4611686018427387904) (hh : H[h]? = some (some ⟨58, zBI l⟩)) :
 zd Tryz.prog 97 [.sl h 0 l.length, .fn 98 []] H (fun x => x < H.length) (fun r H' => r = .tup [] ∧ H' = H.set h (some ⟨58, zBI (l.mergeSort leM)⟩)) :=
 zM5 Tryz.sortMv Tryz.isAgg58 Tryz.sizeOf58 (enters_of Tryz.func98 (by kernel_rfl) rfl) ⟨Tryz.f97, Tryz.func97, by kernel_rfl, rfl⟩
  (fun x y W => rClosure x.fr x.to x.pc y.fr y.to y.pc W) hl hh
theorem zMW {a b : List Mv} {i : Nat} (h : a.length ≤ i) : (a ++ b).getD i mv0 = b.getD (i - a.length) mv0 := by rw [zB8, if_neg (by omega)]
theorem zFy (l : List Mv) (n i : Nat) : (l.drop n).getD i mv0 = l.getD (n + i) mv0 := by simp [List.getD]
theorem zMz (A l : List Mv) (v : Mv) (i : Nat) : ((A ++ [v]) ++ l.drop (A.length + 1)).getD i mv0 = if i = A.length then v else (A ++ l.drop A.length).getD i mv0 := by
 rw [zB8, zB8, zB8, zFy, zFy, List.length_append, List.length_singleton]
 rcases Nat.lt_trichotomy i A.length with h | h | h
 ·rw [if_pos (by omega), if_pos h, if_neg (by omega), if_pos h]
 ·subst h
  rw [if_pos (by omega), if_neg (by omega), if_pos rfl, Nat.sub_self]; rfl
 ·rw [if_neg (by omega), if_neg (by omega), if_neg (by omega)]
  congr 1; omega
theorem zL4 (n i : Nat) : (List.replicate n mv0).getD i mv0 = mv0 := by
 simp only [List.getD, List.getElem?_replicate]
 split <;> rfl
theorem eqMv (a b : Mv) : (decide (a.fr = b.fr) && (decide (a.to = b.to) && (decide (a.pc = b.pc) && true))) = decide (b = a) := by
 obtain ⟨x, y, z⟩ := a
 obtain ⟨x', y', z'⟩ := b
 rw [Bool.eq_iff_iff]
 simp only [Bool.and_eq_true, decide_eq_true_eq, Mv.mk.injEq, and_true]
 constructor
 ·rintro ⟨h1, h2, h3⟩; exact ⟨h1.symm, h2.symm, h3.symm⟩
 ·rintro ⟨h1, h2, h3⟩; exact ⟨h1.symm, h2.symm, h3.symm⟩
/-- slices.Compact of moves -/
theorem zK8 (l : List Mv) (hl : l.length ≤ 1000000) :
 zd Tryz.prog 101 [.sl 0 0 l.length] [some ⟨58, zBI l⟩] (fun h => h < 1) (fun r H => r = .sl 0 0 (zp l).length ∧ H = [some ⟨58, zBI (zp l ++ List.replicate (l.length - (zp l).length) mv0)⟩]) := by
 refine zL (P := Tryz.prog) (fn := Tryz.f101) Z Z (by kernel_rfl) Z (fun c hR hfix => ?_)
 have whole : zp l = l → ([some ⟨58, zBI l⟩] : zO) = [some ⟨58, zBI (zp l ++ List.replicate (l.length - (zp l).length) mv0)⟩] := fun e => by rw [e, Nat.sub_self]; simp
 refine rn4 ?_
 refine zF Z (fun h => ?_) (fun h => ?_)
 ·have e : zp l = l := by
   match l, h with
   | [], _ => rfl
   | [_], _ => rfl
   | _ :: _ :: r, h => simp at h; omega
  refine rn2 ?_
  exact zN hR Z ⟨by rw [e]; rfl, whole e⟩
 have hl2 : 2 ≤ l.length := by omega
 refine rn1 ?_
 refine zx (ι := Nat) (fun k => [(0, .sl 0 0 l.length), (3, iN k)]) (fun _ => [some ⟨58, zBI l⟩])
  (fun k => 1 ≤ k ∧ k ≤ l.length ∧ zp (l.take k) = l.take k) (fun k => l.length - k) 1 ⟨⟨rfl, rfl, trivial⟩, rfl, Nat.le_refl _, by omega, ?_⟩ ?_
 ·match l, hl2 with
  | a :: r, _ => rfl
 intro k ⟨hk1, hk, hpre⟩
 refine rn4 ?_
 refine zF Z (fun q => ?_) (fun q => ?_)
 ·have hk' : k < l.length := by omega
  have hct := zGJ (l := l) (i := k) (by omega) hk'
  have ek : ((k : Int) - 1).toNat = k - 1 := by omega
  have hb1 : ((k : Int) - 1).toNat < l.length := by omega
  have hb2 : ((k : Int) - 1).toNat < (zBI l).len := hb1
  refine rn1 ?_
  refine ze (by kernel_rfl) ?_
  refine zm (fuel := 0) [0, 1, 2, 3, 4, 5, 6, 7, 8, 9] [(0, .sl 0 0 l.length), (3, iN k)] ⟨Z, Z, trivial⟩ (by kernel_rfl) (by decide) Z Z ?_
  refine zJ Z Z (zH Z) ?_
  refine zJ Z Z (zH Z) ?_
  refine zJ Z Z (zi Z Z Z Z Z (by first | (simp only [Nat.zero_add, Int.toNat_natCast, Int.toNat_zero]; exact Z) | exact Z) (by omega)) ?_
  refine zJ Z Z (qpp Z Z Z Z Z Z Z) ?_
  refine zJ Z Z (zH Z) ?_
  refine zJ Z Z (zH Z) ?_
  refine zJ Z Z (zBK Z Z (by omega)) ?_
  refine zJ Z Z (zi Z Z Z Z Z (by first | (simp only [Nat.zero_add, Int.toNat_natCast, Int.toNat_zero]; exact Z) | exact Z) (by omega)) ?_
  refine zJ Z Z (qpp Z Z Z Z Z Z Z) ?_
  refine zJ Z Z (zEc Z Z Z (by kernel_rfl) (by kernel_rfl) (by kernel_rfl) Z) ?_
  refine zAA ?_
  refine zZ (by kernel_rfl) ?_
  repeat (refine zB ?_)
  refine zBp 25 (.bool (decide (l.getD (k - 1) mv0 = l.getD k mv0))) Z (AEq.of_eq (by rw [← eqMv (l.getD k mv0) (l.getD (k - 1) mv0), ← ek])) ?_
  refine zF Z (fun d => ?_) (fun d => ?_)
  ·rw [if_pos d] at hct
   have hpl : (l.take k).length = k := by rw [List.length_take]; omega
   repeat (first | refine zA (zH rfl) ?_ | refine zA (zP rfl) ?_ | refine zC ?_ | refine zB ?_ | refine zX ?_ | refine zK rfl ?_ | refine zA (zF4 rfl rfl rfl rfl rfl rfl rfl rfl (by omega)) ?_)
   refine zBp 4 (.sl 0 k (l.length - k)) Z (AEq.of_eq (by congr 1 <;> omega)) ?_
   repeat (refine zAT ?_)
   refine zx (ι := Nat) (fun j => [(0, .sl 0 0 l.length), (3, .int .i64 ((zp (l.take (k + j))).length : Nat)), (4, .sl 0 k (l.length - k)), (5, iN j)]) (fun j => [some ⟨58, zBI (zp (l.take (k + j)) ++ l.drop (zp (l.take (k + j))).length)⟩])
    (fun j => 1 ≤ j ∧ k + j ≤ l.length ∧ (zp (l.take (k + j))).length < k + j) (fun j => l.length - j) 1 ⟨⟨rfl, ?_, rfl, rfl, trivial⟩, ?_, Nat.le_refl _, by omega, ?_⟩ ?_
   ·rw [hct, hpre, hpl]; rfl
   ·rw [hct, hpre, hpl, List.take_append_drop]
   ·rw [hct, hpre, hpl]; omega
   intro j ⟨hj1, hjl, hjc⟩
   have hct2 : k + j < l.length → zp (l.take (k + (j + 1))) = if l.getD (k + j - 1) mv0 = l.getD (k + j) mv0 then zp (l.take (k + j)) else zp (l.take (k + j)) ++ [l.getD (k + j) mv0] := fun q => zGJ (i := k + j) (by omega) q
   generalize hA : zp (l.take (k + j)) = A at hjc hct2
   have hXl : (A ++ l.drop A.length).length = l.length := by rw [List.length_append, List.length_drop]; omega
   have hXg : ∀ i, A.length ≤ i → (A ++ l.drop A.length).getD i mv0 = l.getD i mv0 := fun i q => by rw [zMW q, zFy]; congr 1; omega
   generalize hX : A ++ l.drop A.length = X at hXl hXg
   refine rn4 ?_
   refine zF Z (fun q2 => ?_) (fun q2 => ?_)
   ·have q2 : k + j < l.length := by
     have q2 : (j : Int) < ((l.length - k : Nat) : Int) := q2
     omega
    have hct2 := hct2 q2
    have ej : k + ((j : Int) - 1).toNat = k + j - 1 := by omega
    have hc1 : k + j < X.length := by omega
    have hc2 : k + j < (zBI X).len := hc1
    have hc3 : k + ((j : Int) - 1).toNat < X.length := by omega
    have hc4 : k + ((j : Int) - 1).toNat < (zBI X).len := hc3
    refine rn1 ?_
    refine ze (by kernel_rfl) ?_
    refine zm (fuel := 0) [0, 1, 2, 3, 4, 5, 6, 7, 8, 9] [(0, .sl 0 0 l.length), (3, iN A.length), (4, .sl 0 k (l.length - k)), (5, iN j)] ⟨Z, Z, Z, Z, trivial⟩ (by kernel_rfl) (by decide) Z Z ?_
    refine zJ Z Z (zH Z) ?_
    refine zJ Z Z (zH Z) ?_
    refine zJ Z Z (zi Z Z Z Z Z (by first | (simp only [Nat.zero_add, Int.toNat_natCast, Int.toNat_zero]; exact Z) | exact Z) (by omega)) ?_
    refine zJ Z Z (qpp Z Z Z Z Z Z Z) ?_
    refine zJ Z Z (zH Z) ?_
    refine zJ Z Z (zH Z) ?_
    refine zJ Z Z (zBK Z Z (by omega)) ?_
    refine zJ Z Z (zi Z Z Z Z Z (by first | (simp only [Nat.zero_add, Int.toNat_natCast, Int.toNat_zero]; exact Z) | exact Z) (by omega)) ?_
    refine zJ Z Z (qpp Z Z Z Z Z Z Z) ?_
    refine zJ Z Z (zHL Z Z Z (by kernel_rfl) (by kernel_rfl) (by kernel_rfl) Z) ?_
    refine zAA ?_
    refine zZ (by kernel_rfl) ?_
    repeat (refine zB ?_)
    refine zBp 44 (.bool (decide (¬ l.getD (k + j - 1) mv0 = l.getD (k + j) mv0))) Z (AEq.of_eq ?_) ?_
    ·rw [decide_not, ← eqMv (l.getD (k + j) mv0) (l.getD (k + j - 1) mv0), ← hXg (k + j) (by omega), ← hXg (k + j - 1) (by omega), ← ej]
    refine zF Z (fun d2 => ?_) (fun d2 => ?_)
    ·rw [if_neg d2] at hct2
     have hAk : A.length < l.length := by omega
     have hAX : A.length < X.length := by omega
     have hAX2 : A.length < (zBI X).len := hAX
     have hnl : (A ++ [l.getD (k + j) mv0]).length = A.length + 1 := by rw [List.length_append]; rfl
     refine rn6 ?_
     refine zEu (c' := zBI ((A ++ [l.getD (k + j) mv0]) ++ l.drop (A.length + 1))) Z Z Z Z Z hAX ?_ Z (fun i' j' hi' hj' => ?_) ?_
     ·show ((A ++ [l.getD (k + j) mv0]) ++ l.drop (A.length + 1)).length = X.length
      rw [List.length_append, hnl, List.length_drop]; omega
     ·have hj' : j' < 3 := hj'
      show (mvC (((A ++ [l.getD (k + j) mv0]) ++ l.drop (A.length + 1)).getD i' mv0)).getD j' .any = _
      rw [zMz, hX]
      by_cases e : i' = A.length
      ·rw [if_pos e, if_pos e, ← hXg (k + j) (by omega)]
       match j', hj' with
       | 0, _ => rfl
       | 1, _ => rfl
       | 2, _ => rfl
      ·rw [if_neg e, if_neg e]; rfl
     refine rn5 ?_
     refine zS ⟨j + 1, ⟨by omega, by omega, by rw [hct2, hnl]; omega⟩, by omega, ⟨Z, ?_, Z, Z, trivial⟩, ?_⟩
     ·show some (AV.int .i64 _) = some (AV.int .i64 _)
      congr 2; rw [hct2, hnl]; omega
     ·rw [hct2, hnl]; rfl
    ·rw [if_pos (Classical.not_not.1 d2)] at hct2
     refine rn5 ?_
     exact zS ⟨j + 1, ⟨by omega, by omega, by rw [hct2]; omega⟩, by omega, ⟨Z, by rw [hct2]; rfl, Z, Z, trivial⟩, by rw [hct2, hX]⟩
   ·have hj' : k + j = l.length := by
     have q2 : ¬ (j : Int) < ((l.length - k : Nat) : Int) := q2
     omega
    rw [hj', List.take_length] at hA
    have hAk : A.length < l.length := by omega
    have hlen : zp l = A := hA
    have hA0 : 0 < A.length := by rw [← hlen]; exact List.length_pos_iff.2 (zHu (fun e => by rw [e] at hl2; simp at hl2))
    refine rn17 ?_
    refine zAz 56 (.sl 0 A.length (l.length - A.length)) Z (AEq.of_eq (by congr 1 <;> omega)) ?_
    refine zMG (zs := [.int .i64 0, .int .i64 0, .int .i64 0]) (s := 3) (c' := zBI (A ++ List.replicate (l.length - A.length) mv0)) Z Z Z Z Z Z Z (fun j' hj' w S σ => ?_) Z (by omega) Z (by show A.length + (l.length - A.length) ≤ X.length; omega) ?_ Z (fun i' j' hi' hj' => ?_) ?_
    ·match j', hj' with
     | 0, _ => exact .int _ _ _
     | 1, _ => exact .int _ _ _
     | 2, _ => exact .int _ _ _
    ·show (A ++ List.replicate (l.length - A.length) mv0).length = X.length
     rw [List.length_append, List.length_replicate]; omega
    ·have hj' : j' < 3 := hj'
     have hi' : i' < X.length := hi'
     show (mvC ((A ++ List.replicate (l.length - A.length) mv0).getD i' mv0)).getD j' .any = _
     by_cases e : i' < A.length
     ·rw [if_neg (by omega), zB8, if_pos e]
      show _ = (mvC (X.getD i' mv0)).getD j' .any
      rw [← hX, zB8, if_pos e]
     ·rw [if_pos (by omega), zB8, if_neg e, zL4]
      match j', hj' with
      | 0, _ => rfl
      | 1, _ => rfl
      | 2, _ => rfl
    repeat (first | refine zA (zH rfl) ?_ | refine zA (zP rfl) ?_ | refine zC ?_ | refine zB ?_ | refine zX ?_ | refine zK rfl ?_ | refine zAB ?_ | refine zBM ?_ | refine zEQ ?_ | refine zER ?_ | refine zA (zF4 rfl rfl rfl rfl rfl rfl rfl rfl (by omega)) ?_)
    refine zN hR Z ⟨?_, ?_⟩
    ·rw [hlen]; show AV.sl 0 (0 + 0) _ = _
     congr 1
    ·rw [hlen]; rfl
  ·rw [if_neg d, hpre] at hct
   refine rn5 ?_
   exact zS ⟨k + 1, ⟨by omega, by omega, by rw [hct, zz l mv0 k hk']⟩, by omega, ⟨Z, Z, trivial⟩, Z⟩
 ·have hk' : k = l.length := by omega
  subst hk'
  rw [List.take_length] at hpre
  refine rn5 ?_
  exact zN hR Z ⟨by rw [hpre]; rfl, whole hpre⟩
end Go.Proofs.YtiifcejepaeepaaGreatDoor
namespace Go.Proofs
open Go.Shelf
def Tryz.lays283_ren : Go.Shelf.Ren := ⟨fun | 283 => 144 | n => n, fun | 3 => 3 | 9 => 9 | 4 => 4 | n => n, fun | n => n⟩
theorem Tryz.lays283 : Go.Proofs.Lays.n283 Tryz.prog Tryz.lays283_ren := {
 mixed := by kernel_rfl
 f283 := Tryz.func144.trans (congrArg some (by kernel_rfl))
 t3 := Tryz.underlying3
 a3 := Tryz.isAgg3
 z3 := Tryz.sizeOf3
 v3 := Tryz.zeroValue3
 t4 := Tryz.underlying4
 a4 := Tryz.isAgg4
 z4 := Tryz.sizeOf4
 v4 := Tryz.zeroValue4
 t9 := Tryz.underlying9
 a9 := Tryz.isAgg9
 z9 := Tryz.sizeOf9
 v9 := Tryz.zeroValue9 }
open Go.Lib in
/-- internal/strconv.small: "small returns the string for an i with 0 <= i < nSmalls.": i's decimal numeral. The world is as it was. (LAID: no walk: one application.) -/
theorem Tryz.internal_strconv_small (i : Nat) (h : i < 100) (w : World) :
 Calls Tryz.prog 144 #[.int .i64 i] w fun e w' => e = .returned (.string ⟨(Lib.decDigits i).toArray⟩) ∧ w' = w := Any.internal_strconv_small Tryz.lays283 i h w
def Tryz.laysM284_ren : Go.Shelf.Ren := ⟨fun | 284 => 145 | 129 => 137 | 317 => 149 | 318 => 150 | n => n, fun | 53 => 184 | 3 => 3 | 212 => 201 | 0 => 0 | 4 => 4 | 46 => 108 | 5 => 5 | 9 => 9 | n => n, fun | 17 => 0 | n => n⟩
theorem Tryz.laysM284 : Go.Proofs.LaysM.n284 Tryz.prog Tryz.laysM284_ren := {
 mixed := by kernel_rfl
 f129 := Tryz.func137.trans (congrArg some (by kernel_rfl))
 f284 := Tryz.func145.trans (congrArg some (by kernel_rfl))
 f317 := Tryz.func149.trans (congrArg some (by kernel_rfl))
 f318 := Tryz.func150.trans (congrArg some (by kernel_rfl))
 t0 := Tryz.underlying0
 a0 := Tryz.isAgg0
 z0 := Tryz.sizeOf0
 v0 := Tryz.zeroValue0
 t3 := Tryz.underlying3
 a3 := Tryz.isAgg3
 z3 := Tryz.sizeOf3
 v3 := Tryz.zeroValue3
 t4 := Tryz.underlying4
 a4 := Tryz.isAgg4
 z4 := Tryz.sizeOf4
 v4 := Tryz.zeroValue4
 t5 := Tryz.underlying5
 a5 := Tryz.isAgg5
 z5 := Tryz.sizeOf5
 v5 := Tryz.zeroValue5
 t9 := Tryz.underlying9
 a9 := Tryz.isAgg9
 z9 := Tryz.sizeOf9
 v9 := Tryz.zeroValue9
 t46 := Tryz.underlying108
 a46 := Tryz.isAgg108
 z46 := Tryz.sizeOf108
 v46 := Tryz.zeroValue108
 t53 := Tryz.underlying184
 a53 := Tryz.isAgg184
 z53 := Tryz.sizeOf184
 v53 := Tryz.zeroValue184
 t212 := Tryz.underlying201
 a212 := Tryz.isAgg201
 z212 := Tryz.sizeOf201
 v212 := Tryz.zeroValue201
 g17 := by kernel_rfl
 i0 := by kernel_rfl
 i3 := by kernel_rfl
 i4 := by kernel_rfl
 i5 := by kernel_rfl
 i9 := by kernel_rfl
 i46 := by kernel_rfl
 i53 := by kernel_rfl
 i212 := by kernel_rfl
 m17 := by kernel_rfl }
open Go.Lib in
/-- internal/strconv.numDigits, at a d that is not 0: THE NUMBER OF d's DECIMAL DIGITS. The world is as it was. (LAID: no walk: one application.) -/
theorem Tryz.internal_strconv_numDigits (u : Nat) (h1 : 1 ≤ u) (h2 : u < 18446744073709551616) (w : World) (htab : Lib.TabIs Tryz.prog w "internal/strconv.uint64pow10" .u64 Lib.pow10Tab) :
 Calls Tryz.prog 145 #[.int .u64 u] w fun e w' => e = .returned (.int .i64 (Lib.nDigits u)) ∧ w' = w := Any.internal_strconv_numDigits Tryz.laysM284 u h1 h2 w htab
def Tryz.lays285_ren : Go.Shelf.Ren := ⟨fun | 285 => 146 | n => n, fun | 37 => 160 | 53 => 184 | 3 => 3 | 4 => 4 | 51 => 182 | 9 => 9 | 5 => 5 | 0 => 0 | n => n, fun | n => n⟩
theorem Tryz.lays285 : Go.Proofs.Lays.n285 Tryz.prog Tryz.lays285_ren := {
 mixed := by kernel_rfl
 f285 := Tryz.func146.trans (congrArg some (by kernel_rfl))
 t0 := Tryz.underlying0
 a0 := Tryz.isAgg0
 z0 := Tryz.sizeOf0
 v0 := Tryz.zeroValue0
 t3 := Tryz.underlying3
 a3 := Tryz.isAgg3
 z3 := Tryz.sizeOf3
 v3 := Tryz.zeroValue3
 t4 := Tryz.underlying4
 a4 := Tryz.isAgg4
 z4 := Tryz.sizeOf4
 v4 := Tryz.zeroValue4
 t5 := Tryz.underlying5
 a5 := Tryz.isAgg5
 z5 := Tryz.sizeOf5
 v5 := Tryz.zeroValue5
 t9 := Tryz.underlying9
 a9 := Tryz.isAgg9
 z9 := Tryz.sizeOf9
 v9 := Tryz.zeroValue9
 t37 := Tryz.underlying160
 a37 := Tryz.isAgg160
 z37 := Tryz.sizeOf160
 v37 := Tryz.zeroValue160
 t51 := Tryz.underlying182
 a51 := Tryz.isAgg182
 z51 := Tryz.sizeOf182
 v51 := Tryz.zeroValue182
 t53 := Tryz.underlying184
 a53 := Tryz.isAgg184
 z53 := Tryz.sizeOf184
 v53 := Tryz.zeroValue184 }
end Go.Proofs
namespace Go.Proofs.YtiifcejepaeepaaGreatDoor
open Go.Ax Go.Ax.Gm Go.RowKit Go.Ax.Idx Go.Ax.Cd
attribute [local irreducible] Ax zB4 QOp zd
theorem valsO {w : World} {S : Nat → Prop} {σ : Nat → Option Blk} {a : AV} {vals : Array Value} (h : VRs w S σ [a] vals) : ∃ x, vals = #[x] ∧ VR w S σ a x := by
 obtain ⟨h1, h2⟩ := h
 have q := h2 0 (by simp)
 have hl : vals.toList.length = 1 := by simpa using h1
 match hq : vals.toList, hl with
 | [x], _ =>
  have e : vals = #[x] := by rw [← Array.toArray_toList (xs := vals), hq]
  subst e
  exact ⟨x, Z, by simpa using q⟩
theorem smallD (u : Nat) (h : u < 100) : zl Tryz.prog 144 [.int .i64 u] (.str (Lib.decDigits u)) := by
 refine zl.of_below ⟨Tryz.f144, Z, by kernel_rfl, Z⟩ Z Z (fun w S vals hG hS hv => ?_)
 obtain ⟨x, rfl, a⟩ := valsO hv
 have hx : x = .int .i64 (u : Nat) := by cases a; rfl
 subst hx
 refine (Tryz.internal_strconv_small u h w).mono ?_
 rintro e w' ⟨rfl, rfl⟩
 exact ⟨_, Z, Below.refl _ _, .str _ _⟩
theorem numDig (u : Nat) (h1 : 1 ≤ u) (h2 : u < 18446744073709551616) : zl Tryz.prog 145 [.int .u64 u] (.int .i64 (Lib.nDigits u)) := by
 refine zl.of_below ⟨Tryz.f145, Z, by kernel_rfl, Z⟩ Z Z (fun w S vals hG hS hv => ?_)
 obtain ⟨x, rfl, a⟩ := valsO hv
 have hx : x = .int .u64 (u : Nat) := by cases a; rfl
 subst hx
 have hp : pinG w := hG
 refine (Tryz.internal_strconv_numDigits u h1 h2 w hp.2.1).mono ?_
 rintro e w' ⟨rfl, rfl⟩
 exact ⟨_, Z, Below.refl _ _, .int _ _ _⟩
theorem fmt_ok {H : zO} {h : Nat} {ty : TypeId} {s : List UInt8} {u : Nat} (hu64 : u < 18446744073709551616) (hn : Lib.nDigits u ≤ s.length) (hh : H[h]? = some (some ⟨ty, .ints .u8 (zu s)⟩)) :
 zd Tryz.prog 146 [.sl h 0 (Lib.nDigits u), .int .u64 u] H (fun x => x < H.length) (fun r H' => r = .tup [] ∧ H' = H.set h (some ⟨ty, .ints .u8 (zu (Lib.decDigits u ++ s.drop (Lib.nDigits u)))⟩)) :=
 fmt_call Tryz.lays285 ⟨Tryz.f146, Tryz.func146, by kernel_rfl, rfl⟩ hu64 hn hh
theorem zBS (s : List UInt8) : (zu s).length = s.length := List.length_map _
theorem zDX (s t : List UInt8) : zu (s ++ t) = zu s ++ zu t := List.map_append
theorem zKD (s t : List UInt8) (n : Nat) (h : n = s.length) : ((zu (s ++ t)).drop 0).take n = zu s := by
 rw [List.drop_zero, zDX, List.take_append_of_le_length (by rw [zBS, h]; exact Nat.le_refl _), List.take_of_length_le (by rw [zBS, h]; exact Nat.le_refl _)]
/-- internal/strconv.AppendUint on an own row -/
theorem appU_ok (s : List UInt8) (u : Nat) (hu : u < 18446744073709551616) (hl : s.length ≤ 1000000) :
 zd Tryz.prog 138 [.sl 0 0 s.length, .int .u64 u, .int .i64 10] [some ⟨5, .ints .u8 (zu s)⟩] (fun _ => False) (fun r H => r = .sl 0 0 (s ++ Lib.decDigits u).length ∧ ∃ T, H = some ⟨5, .ints .u8 (zu (s ++ Lib.decDigits u))⟩ :: T) := by
 refine zL (P := Tryz.prog) (fn := Tryz.f138) Z Z (by kernel_rfl) Z (fun c hR hfix => ?_)
 refine rn5 ?_
 have hd20 := Lib.nDigits_le20 u hu
 have hdl := Lib.decDigits_length u
 refine zF Z (fun q => ?_) (fun q => ?_)
 ·refine rn0 ?_
  refine zA (zKm Z Z Z (by omega)) ?_
  skip
  refine zQ Z Z Z (smallD u (by omega)) ?_
  skip
  refine zIj (o := ⟨5, .ints .u8 (zu s)⟩) (h := 0) (n := s.length) (s := Lib.decDigits u) (c' := .ints .u8 (zu (s ++ Lib.decDigits u))) Z Z Z Z Z Z Z Z Z (zBS s) Z Z Z Z ?_ (fun i j hi hj => ?_) (fun d j hd hj => ?_) (by show (s.length + (Lib.decDigits u).length) * 1 ≤ _ ∧ _; omega) (fun _ _ _ _ => rfl) (by rw [hfix]; exact fun h => h) ?_
  ·show (zu (s ++ Lib.decDigits u)).length = (zu s).length + (Lib.decDigits u).length
   rw [zBS, zBS, List.length_append]
  ·show AV.int .u8 ((zu (s ++ Lib.decDigits u)).getD i 0) = AV.int .u8 ((zu s).getD i 0)
   have hi' : i < (zu s).length := hi
   rw [zDX]
   simp [List.getD, List.getElem?_append, hi']
  ·show AV.int .u8 ((zu (s ++ Lib.decDigits u)).getD ((zu s).length + d) 0) = _
   rw [zDY, zBS, zB8, if_neg (by omega), Nat.add_sub_cancel_left]
  refine rn2 ?_
  exact zN hR Z ⟨by rw [List.length_append]; rfl, [], Z⟩
 ·refine zFi ?_
  have hbl := zBS s
  refine zK6 (n := 24) Z Z Z (by kernel_rfl) (by unfold maxLen; omega) (by rw [hfix]; exact fun _ h => h) (fun c' b hσ hR' hfix' => ?_)
  refine rn0 ?_
  refine zQ Z Z Z (numDig u (by omega) hu) ?_
  refine rn0 ?_
  refine zA (zHK (n := 24) Z Z Z Z (by omega) hσ (by rw [hfix'])) ?_
  repeat (refine zA (zH rfl) ?_)
  refine zC4 Z Z Z (fmt_ok (s := List.replicate 24 0) (h := 1) hu (by rw [List.length_replicate]; omega) Z) (fun _ h => h) (fun _ h => h) ?_
  rintro r H ⟨rfl, rfl⟩
  refine rn0 ?_
  refine zA (zHK (n := 24) Z Z Z Z (by omega) hσ (by rw [hfix'])) ?_
  skip
  refine zAe (h := 0) (n := s.length) (o := ⟨5, .ints .u8 (zu s)⟩) (i := 0) (m := Lib.nDigits u) (cx := .ints .u8 (zu (Lib.decDigits u ++ (List.replicate 24 0).drop (Lib.nDigits u)))) rfl rfl rfl rfl rfl rfl rfl rfl rfl hbl rfl rfl (by show 0 + Lib.nDigits u ≤ (zu _).length; rw [zBS, List.length_append]; omega) rfl (by show (s.length + Lib.nDigits u) * 1 ≤ _ ∧ _; omega) (fun _ _ _ _ => rfl) (by rw [hfix']; exact fun e => by cases e) ?_
  rw [zKD _ _ _ hdl.symm]
  refine rn6 ?_
  refine zN (hR'.trans hR) Z ⟨by rw [List.length_append, hdl]; rfl, ?_⟩
  rw [← zDX s (Lib.decDigits u)]
  exact ⟨_, Z⟩
/-- strconv.AppendInt on an own row -/
theorem appI_ok (s : List UInt8) (u : Nat) (hu : u < 9223372036854775808) (hl : s.length ≤ 1000000) :
 zd Tryz.prog 116 [.sl 0 0 s.length, .int .i64 u, .int .i64 10] [some ⟨5, .ints .u8 (zu s)⟩] (fun _ => False) (fun r H => r = .sl 0 0 (s ++ Lib.decDigits u).length ∧ H = [some ⟨5, .ints .u8 (zu (s ++ Lib.decDigits u))⟩]) := by
 have hI : zd Tryz.prog 126 [.sl 0 0 s.length, .int .i64 u, .int .i64 10] [some ⟨5, .ints .u8 (zu s)⟩] (fun _ => False) (fun r H => r = .sl 0 0 (s ++ Lib.decDigits u).length ∧ ∃ T, H = some ⟨5, .ints .u8 (zu (s ++ Lib.decDigits u))⟩ :: T) := by
  refine zL (P := Tryz.prog) (fn := Tryz.f126) Z Z (by kernel_rfl) Z (fun c hR hfix => ?_)
  refine rn0 ?_
  refine zA (q_uconv (k' := .u64) (M := 18446744073709551616) (m := u) Z Z Z uk64 (by omega)) ?_
  refine rn4 ?_
  refine zEs 0 rfl rfl rfl (appU_ok s u (by omega) hl) (fun h q1 q2 => absurd q1 (by intro q1; exact q2 (Nat.lt_one_iff.1 q1))) (fun h q => q.elim) (by rw [hfix]; exact fun h => h) ?_
  rintro r H ⟨rfl, T, rfl⟩
  refine ⟨Nat.succ_le_succ (Nat.zero_le _), ?_⟩
  refine rn0 ?_
  exact zN hR Z ⟨Z, T, Z⟩
 refine zL (P := Tryz.prog) (fn := Tryz.f116) Z Z (by kernel_rfl) Z (fun c hR hfix => ?_)
 refine rn0 ?_
 refine zEs 0 rfl rfl rfl (zd.cutR (K' := fun r H => r = .sl 0 0 (s ++ Lib.decDigits u).length ∧ H = [some ⟨5, .ints .u8 (zu (s ++ Lib.decDigits u))⟩]) hI ?_) (fun h q1 q2 => absurd q1 (by intro q1; exact q2 (Nat.lt_one_iff.1 q1))) (fun h q => q.elim) (by rw [hfix]; exact fun h => h) ?_
 ·rintro r H ⟨rfl, T, rfl⟩
  exact ⟨[_], T, Z, fun h q => q.elim, zCF (fun _ _ _ _ => rfl) zBr, Z, Z, Z⟩
 rintro r H ⟨rfl, rfl⟩
 refine ⟨Nat.le_refl _, ?_⟩
 refine rn0 ?_
 exact zN hR Z ⟨Z, Z⟩
theorem byte_nat {c : Int} (h : 0 ≤ c ∧ c < 256) : ((Go.Ax.Gm.byteOf c).toNat : Int) = c := by
 unfold Go.Ax.Gm.byteOf
 rw [UInt8.toNat_ofNat', Nat.mod_eq_of_lt (by omega)]; omega
theorem q_byte {ind : Bool} {P : Program} {fn : Func} {c : Ctx} {fr : Fr} {H : zO} {d : Option Nat} {ty : TypeId} {pos : String} {after : Array Edge} {g : Option (Nat × Bool)} {x : Operand} {src dst : TypeId} {u : TypeDesc} {m : Int} (hs : P.underlying src = some u) (hd : P.underlying dst = some (.int .u8)) (hx : ev fr x = some (.int .i64 m)) (h : 0 ≤ m ∧ m < 256) :
 QOp ind P fn c fr H ⟨d, .convert src dst x, ty, pos, after, g⟩ (.int .u8 ((Go.Ax.Gm.byteOf m).toNat : Nat)) :=
 (zIJ hs hd hx).res (by rw [byte_nat h]; exact congrArg _ (by have := uk8.in (m := m.toNat) (by omega); rwa [show ((m.toNat : Nat) : Int) = m by omega] at this))
/-- retro.key -/
theorem key_ok (p : Pos) (S : SmallP p) (ht : p.turn = 0 ∨ p.turn = 1) (hc : ∀ c ∈ p.cells, 0 ≤ c ∧ c < 256) (h0 : ∀ c ∈ p.h0, 0 ≤ c ∧ c ≤ 1000) (h1 : ∀ c ∈ p.h1, 0 ≤ c ∧ c ≤ 1000) : zl Tryz.prog 86 [poA p] (.str (keyT p)) := by
 refine zd.value0 (zL (P := Tryz.prog) (fn := Tryz.f86) Z Z (by kernel_rfl) Z (fun c hR hfix => ?_)) (fix := fun _ => False) (fun _ h => h) Z Z
 refine zX ?_
 repeat (first | refine zA (zP rfl) ?_ | refine zC ?_ | refine zB ?_ | refine zK rfl ?_ | refine zAo rfl rfl ?_)
 refine zB5 1 [] Z ⟨Z, trivial⟩ trivial Z hfix ?_
 refine zBn ?_
 refine zA (q_byte Z Z Z (by omega)) ?_
 refine zC1 Z Z Z Z Z Z Z Z Z Z ?_
 refine zBn ?_
 have hcl := S.c
 refine zx (ι := Nat) (fun k => [(1, .rp (.box (poC p)) 0 0), (13, zt p.cells), (14, .int .i64 (p.cells.length : Nat)), (15, .int .i64 (k : Nat)), (3, .sl 0 0 (Go.Ax.Gm.byteOf p.turn :: (p.cells.take k).map Go.Ax.Gm.byteOf).length)]) (fun k => [some ⟨5, .ints .u8 (zu (Go.Ax.Gm.byteOf p.turn :: (p.cells.take k).map Go.Ax.Gm.byteOf))⟩])
  (fun k => k ≤ p.cells.length) (fun k => p.cells.length - k) 0 ⟨⟨rfl, rfl, rfl, rfl, rfl, trivial⟩, rfl, Nat.zero_le _⟩ ?_
 intro k hk
 refine rn4 ?_
 refine zF Z (fun q => ?_) (fun q => ?_)
 ·have hk' : k < p.cells.length := by omega
  have htk : (p.cells.take (k + 1)).map Go.Ax.Gm.byteOf = (p.cells.take k).map Go.Ax.Gm.byteOf ++ [Go.Ax.Gm.byteOf (p.cells.getD k 0)] := by
   rw [List.take_succ_eq_append_getElem hk', List.map_append]; simp [List.getD, hk']
  have hX : (Go.Ax.Gm.byteOf p.turn :: (p.cells.take k).map Go.Ax.Gm.byteOf).length = k + 1 := by rw [List.length_cons, List.length_map, List.length_take]; omega
  have hv : 0 ≤ p.cells.getD k 0 ∧ p.cells.getD k 0 < 256 := hc _ (by rw [List.getD, List.getElem?_eq_getElem hk']; exact List.getElem_mem hk')
  have hXX : Go.Ax.Gm.byteOf p.turn :: (p.cells.take (k + 1)).map Go.Ax.Gm.byteOf = (Go.Ax.Gm.byteOf p.turn :: (p.cells.take k).map Go.Ax.Gm.byteOf) ++ [Go.Ax.Gm.byteOf (p.cells.getD k 0)] := by rw [htk]; rfl
  generalize Go.Ax.Gm.byteOf p.turn :: (p.cells.take k).map Go.Ax.Gm.byteOf = X at hX hXX
  have hbl := zBS X
  refine rn6 ?_
  refine zA (q_byte Z Z Z hv) ?_
  repeat (refine zAC rfl rfl rfl rfl rfl rfl rfl rfl rfl rfl rfl ?_)
  refine zAe (h := 0) (n := X.length) (o := ⟨5, .ints .u8 (zu X)⟩) (i := 0) (m := 1) (cx := .ints .u8 [((Go.Ax.Gm.byteOf (p.cells.getD k 0)).toNat : Nat)]) Z Z Z Z Z Z Z Z Z hbl Z Z (Nat.le_refl _) Z (by show (X.length + 1) * 1 ≤ _ ∧ _; omega) (fun _ _ _ _ => rfl) (by rw [hfix]; exact fun h => h) ?_
  refine rn5 ?_
  refine zS ⟨k + 1, by omega, by omega, ⟨Z, Z, Z, Z, ?_, trivial⟩, ?_⟩
  ·rw [hXX, List.length_append]; rfl
  ·rw [hXX, zDX]; rfl
 ·have hk' : k = p.cells.length := by omega
  subst hk'
  rw [List.take_length]
  have hX : (Go.Ax.Gm.byteOf p.turn :: p.cells.map Go.Ax.Gm.byteOf).length ≤ 65 := by rw [List.length_cons, List.length_map]; omega
  have hkey : keyT p = (Go.Ax.Gm.byteOf p.turn :: p.cells.map Go.Ax.Gm.byteOf) ++ zBw (p.h0 ++ p.h1) := rfl
  rw [hkey] at hR
  generalize Go.Ax.Gm.byteOf p.turn :: p.cells.map Go.Ax.Gm.byteOf = X at hX hR
  repeat (first | refine zB ?_ | refine zX ?_ | refine zK rfl ?_ | refine zCS ?_ | refine zAm ?_ | refine zAl ?_ | refine zAy ?_ | refine zA (zD rfl rfl rfl rfl) ?_ | refine zA (zI rfl rfl rfl rfl rfl rfl) ?_ | refine zA (zBo rfl rfl rfl rfl (by first | (simp only [Nat.zero_add, Int.toNat_natCast]; exact rfl) | exact rfl) (by omega)) ?_ | refine zAC rfl rfl rfl rfl rfl rfl rfl rfl rfl rfl rfl ?_)
  refine zAz 31 (.ro (zIQ [p.h0, p.h1]) 0 2) Z (AEq.ro Z (fun d j hd hj => ?_)) ?_
  ·obtain rfl : j = 0 := Nat.lt_one_iff.1 hj
   match d, hd with
   | 0, _ => rfl
   | 1, _ => rfl
  have s0 := S.h0
  have s1 := S.h1
  refine zQ Z Z Z (zLp p.h0 p.h1 (by omega)) ?_
  have hNl : (p.h0 ++ p.h1).length ≤ 12 := by rw [List.length_append]; omega
  have hNb : ∀ x ∈ p.h0 ++ p.h1, 0 ≤ x ∧ x ≤ 1000 := fun x hx => (List.mem_append.1 hx).elim (h0 x) (h1 x)
  generalize p.h0 ++ p.h1 = N at *
  refine rn3 ?_
  refine zx (ι := Nat) (fun k => [(32, zt N), (33, .int .i64 (N.length : Nat)), (34, .int .i64 (k : Nat)), (3, .sl 0 0 (X ++ zBw (N.take k)).length)]) (fun k => [some ⟨5, .ints .u8 (zu (X ++ zBw (N.take k)))⟩])
   (fun k => k ≤ N.length ∧ (X ++ zBw (N.take k)).length ≤ 65 + 21 * k) (fun k => N.length - k) 0 ⟨⟨rfl, rfl, rfl, ?_, trivial⟩, ?_, Nat.zero_le _, ?_⟩ ?_
  ·rw [List.take_zero, show zBw [] = [] from rfl, List.append_nil]; rfl
  ·rw [List.take_zero, show zBw [] = [] from rfl, List.append_nil]
  ·rw [List.take_zero, show zBw [] = [] from rfl, List.append_nil]; omega
  intro k ⟨hk, hXl⟩
  refine rn4 ?_
  refine zF Z (fun q => ?_) (fun q => ?_)
  ·have hk' : k < N.length := by omega
   have htk : zBw (N.take (k + 1)) = zBw (N.take k) ++ (Lib.itoa (N.getD k 0) ++ [32]) := by
    unfold zBw
    rw [List.take_succ_eq_append_getElem hk', List.map_append, List.flatten_append]; simp [List.getD, hk']
   obtain ⟨u, hu⟩ := Int.eq_ofNat_of_zero_le (hNb (N.getD k 0) (by rw [List.getD, List.getElem?_eq_getElem hk']; exact List.getElem_mem hk')).1
   have hu2 := (hNb (N.getD k 0) (by rw [List.getD, List.getElem?_eq_getElem hk']; exact List.getElem_mem hk')).2
   have hXX : X ++ zBw (N.take (k + 1)) = (X ++ zBw (N.take k)) ++ Lib.decDigits u ++ [32] := by rw [htk, hu, Go.Ax.Tb.itoa_nat]; simp
   have hd20 := Lib.nDigits_le20 u (by omega)
   have hdl := Lib.decDigits_length u
   generalize X ++ zBw (N.take k) = Y at hXl hXX
   refine rn6 ?_
   refine zAz 39 (.int .i64 (u : Nat)) Z (AEq.of_eq (by rw [hu])) ?_
   refine zEs 0 rfl rfl rfl (appI_ok Y u (by omega) (by omega)) (fun h q1 q2 => absurd q1 (by intro q1; exact q2 (Nat.lt_one_iff.1 q1))) (fun h q => q.elim) (by rw [hfix]; exact fun h => h) ?_
   rintro r H ⟨rfl, rfl⟩
   refine ⟨Nat.le_refl _, ?_⟩
   repeat (refine zAC rfl rfl rfl rfl rfl rfl rfl rfl rfl rfl rfl ?_)
   refine zAe (h := 0) (n := (Y ++ Lib.decDigits u).length) (o := ⟨5, .ints .u8 (zu (Y ++ Lib.decDigits u))⟩) (i := 0) (m := 1) (cx := .ints .u8 [32]) Z Z Z Z Z Z Z Z Z (zBS _) Z Z (Nat.le_refl _) Z (by show ((Y ++ Lib.decDigits u).length + 1) * 1 ≤ _ ∧ _; rw [List.length_append]; omega) (fun _ _ _ _ => rfl) (by rw [hfix]; exact fun h => h) ?_
   refine rn5 ?_
   refine zS ⟨k + 1, ⟨by omega, ?_⟩, by omega, ⟨Z, Z, Z, ?_, trivial⟩, ?_⟩
   ·rw [hXX, List.length_append, List.length_append, List.length_singleton]; omega
   ·rw [hXX, show (Y ++ Lib.decDigits u ++ ([32] : List UInt8)).length = (Y ++ Lib.decDigits u).length + 1 by rw [List.length_append]; rfl]; rfl
   ·rw [hXX, zDX (Y ++ Lib.decDigits u) [32]]; rfl
  ·have hk' : k = N.length := by omega
   subst hk'
   rw [List.take_length]
   refine rn5 ?_
   refine zA (q_strof (X ++ zBw N) Z Z Z Z Z (by show 0 + (X ++ zBw N).length ≤ (zu _).length; rw [zBS]; omega) Z Z (fun j hj => by show AV.int .u8 ((zu (X ++ zBw N)).getD (0 + j) 0) = _; rw [zDY, Nat.zero_add])) ?_
   refine rn0 ?_
   exact zN hR Z Z
theorem zFZ {n : Nat} (l : List Mv) : zA1 n (zBI l) := fun i j _ hj => by
 have hj : j < 3 := hj
 show zCJ n ((mvC (l.getD i mv0)).getD j .any) = true
 match j, hj with
 | 0, _ => rfl
 | 1, _ => rfl
 | 2, _ => rfl
def zCC (r : Go.Ax.Gm.Rules) (p : Pos) (k : Nat) : List Mv := zFE r p ++ (List.range k).flatMap (zCk r p)
theorem zLV (r : Go.Ax.Gm.Rules) (p : Pos) (k : Nat) : zCC r p (k + 1) = zCC r p k ++ zCk r p k := by
 unfold zCC
 rw [List.range_succ, List.flatMap_append, ← List.append_assoc]; simp
theorem zG6 {r : Go.Ax.Gm.Rules} {p : Pos} {s k : Nat} {w : Go.Ax.Gm.Way} (h : zDm w = true) : (zCv r p s k w).length ≤ 7 := by
 unfold zCv zGn
 rw [List.length_map]
 have := zK1 r p w.take w.dx (dyOf p w) w.most.toNat ((s : Int).tmod r.w) ((s : Int).tdiv r.w)
 unfold zDm at h
 simp only [Bool.and_eq_true] at h
 have b4 := Go.Ax.Gm.within_iff.1 h.2.2.2.1
 omega
theorem zGQ {α β : Type} (f : α → List β) (m : Nat) : ∀ (l : List α), (∀ a ∈ l, (f a).length ≤ m) → (l.flatMap f).length ≤ m * l.length
 | [], _ => Nat.le_refl _
 | a :: l, h => by
  rw [List.flatMap_cons, List.length_append, List.length_cons, Nat.mul_succ]
  have h1 := h a (List.mem_cons_self ..)
  have h2 := zGQ f m l (fun b hb => h b (List.mem_cons_of_mem _ hb))
  omega
theorem zMA {r : Go.Ax.Gm.Rules} (hv : ValidR r) {i : Nat} (hi : i < r.pcs.length) : (r.pcs.getD i pc0).ways.length ≤ 16 ∧ ∀ w ∈ (r.pcs.getD i pc0).ways, zDm w = true := (zDh (hv.pc i hi)).2.2.2.2
theorem zG2 {r : Go.Ax.Gm.Rules} (hv : ValidR r) {p : Pos} (S : Sound r p) (k : Nat) : (zCC r p k).length ≤ 384 + 112 * k := by
 unfold zCC
 rw [List.length_append]
 have h1 : (zFE r p).length ≤ 384 := by
  have := zF2 r p (by have := zH1 S p.turn; have := hv.n6; omega) p.cells.length
  have hc := (zAu hv S).c
  have e : zFE r p = zBY r p p.cells.length := rfl
  rw [e]; omega
 have h2 := zGQ (zCk r p) 112 (List.range k) (fun s _ => by
  unfold zCk
  split
  ·rename_i ho
   unfold ownC at ho
   rw [Bool.and_eq_true, decide_eq_true_eq] at ho
   have hc := zES S s
   have hk := zFV ho.1 hc.1 hc.2
   obtain ⟨h16, hw⟩ := zMA hv hk
   have := zGQ (zCv r p s (zAV (zAG p s))) 7 _ (fun w hm => zG6 (hw w hm))
   omega
  ·exact Nat.zero_le _)
 rw [List.length_range] at h2
 omega
/-- moves.List -/
theorem list_ok (r : Go.Ax.Gm.Rules) (hv : ValidR r) (p : Pos) (S : Sound r p) : zl Tryz.prog 65 [ruA r, poA p] (zBX (z7 r p)) := by
 refine zd.value (K := fun v H => v = .sl 0 0 (z7 r p).length ∧ H = [some ⟨58, zBI (z7 r p)⟩]) (zL (P := Tryz.prog) (fn := Tryz.f65) Z Z (by kernel_rfl) Z (fun c hR hfix => ?_)) (fix := fun _ => False) (fun _ h => h) Z ?_
 ·have hc := (zAu hv S).c
  have hw : 1 ≤ r.w ∧ r.w ≤ 8 := ⟨hv.w1, hv.w8⟩
  have hh : 1 ≤ r.h ∧ r.h ≤ 8 := ⟨hv.h1, hv.h8⟩
  refine zX ?_
  repeat (first | refine zA (zP rfl) ?_ | refine zC ?_ | refine zB ?_ | refine zK rfl ?_ | refine zAo rfl rfl ?_)
  refine zEO 2 3 [(4, .nil)] Z Z Z Z ⟨Z, trivial⟩ ⟨Z, Z, Z, trivial⟩ Z hfix ?_
  refine rn6 ?_
  refine zD5 Z Z Z (puts_ok r hw p (zAu hv S) S.tn) ?_
  refine zBn ?_
  refine zx (ι := Nat) (fun k => [(2, .rp (.box (ruC r)) 0 0), (3, .rp (.box (poC p)) 0 0), (5, .sl 0 0 (zCC r p k).length), (19, zt p.cells), (20, iN p.cells.length), (21, iN k)]) (fun k => [some ⟨58, zBI (zCC r p k)⟩])
   (fun k => k ≤ p.cells.length) (fun k => p.cells.length - k) 0 ⟨⟨rfl, rfl, ?_, rfl, rfl, rfl, trivial⟩, ?_, Nat.zero_le _⟩ ?_
  ·unfold zCC; rw [List.range_zero, List.flatMap_nil, List.append_nil]; rfl
  ·unfold zCC; rw [List.range_zero, List.flatMap_nil, List.append_nil]; rfl
  intro k hk
  refine rn4 ?_
  refine zF Z (fun q => ?_) (fun q => ?_)
  ·have hk' : k < p.cells.length := by omega
   have hC12 := zHp hv S k
   have hsucc := zLV r p k
   have hNl := zG2 hv S k
   have htn : 0 ≤ p.turn ∧ p.turn ≤ 1 := by have := S.tn; omega
   repeat (first | refine zA (zH rfl) ?_ | refine zA (zP rfl) ?_ | refine zA (zBe rfl rfl rfl) ?_ | refine zC ?_ | refine zB ?_ | refine zX ?_ | refine zK rfl ?_ | refine zAT ?_ | refine zAL ?_ | refine zA (zg rfl rfl rfl rfl (by first | (simp only [Nat.zero_add, Int.toNat_natCast, Int.toNat_zero]; exact rfl) | exact rfl) (by omega)) ?_)
   obtain ⟨C, hC⟩ : ∃ C, zAG p k = C := ⟨_, rfl⟩
   have hown : ownC p k = (decide (C ≠ 0) && decide ((C - 1).tmod 2 = p.turn)) := by rw [← hC]; rfl
   have hKlt : C ≠ 0 → zAV C < r.pcs.length := fun q => zFV q (by have := hC12.1; rw [hC] at this; exact this) (by have := (zES S k).2; rw [hC] at this; exact this)
   rw [hC] at hC12
   refine zAz 7 (.int .i64 C) Z (AEq.of_eq (by rw [← hC]; rfl)) ?_
   refine zAz 26 (.int .i64 C) Z (AEq.of_eq (by rw [← hC]; rfl)) ?_
   refine rn4 ?_
   apply zAD (H := [some ⟨58, zBI (zCC r p k)⟩]) [(2, .rp (.box (ruC r)) 0 0), (3, .rp (.box (poC p)) 0 0), (5, .sl 0 0 (zCC r p k).length), (19, zt p.cells), (20, iN p.cells.length), (21, iN k), (6, iN k), (7, .int .i64 C), (35, .bool (!(ownC p k)))]
   ·intro fin
    refine zh Z Z (fun f1 => ?_) (fun f1 => ?_)
    ·refine zAn ?_
     exact fin _ ⟨Z, Z, Z, Z, Z, Z, Z, Z, congrArg (fun b => some (AV.bool b)) (show true = !(ownC p k) by rw [hown, decide_eq_false (show ¬ C ≠ 0 from fun q => q f1)]; rfl), trivial⟩
    ·have f1 : ¬ C = 0 := f1
     repeat (first | refine zA (zH rfl) ?_ | refine zC ?_ | refine zB ?_ | refine zo rfl rfl ?_ | refine zA (zBU rfl rfl) ?_ | refine zA (zf rfl rfl) ?_ | refine zA (zBK rfl rfl (by omega)) ?_ | refine zA (zJR rfl rfl (by omega)) ?_ | refine zA (zD rfl rfl rfl rfl) ?_ | refine zA (zI rfl rfl rfl rfl rfl rfl) ?_)
     exact fin _ ⟨Z, Z, Z, Z, Z, Z, Z, Z, congrArg (fun b => some (AV.bool b)) (show decide (¬ (C - 1) % 2 = p.turn) = !(ownC p k) by rw [hown, decide_eq_true f1, Int.tmod_eq_emod_of_nonneg (by omega), Bool.true_and, decide_not]), trivial⟩
   refine zAO Z (fun g => ?_) (fun g => ?_)
   ·rw [Bool.not_eq_true'] at g
    have e : zCC r p (k + 1) = zCC r p k := by rw [hsucc]; unfold zCk; rw [if_neg (by rw [g]; exact Bool.false_ne_true), List.append_nil]
    refine rn5 ?_
    exact zS ⟨k + 1, by omega, by omega, by rw [e]; exact ⟨Z, Z, Z, Z, Z, Z, trivial⟩, by rw [e]⟩
   rw [Bool.not_eq_false'] at g
   have hC0 : C ≠ 0 := by
    rw [hown, Bool.and_eq_true, decide_eq_true_eq] at g
    exact g.1
   have hK := hKlt hC0
   have hgo : zCk r p k = (r.pcs.getD (zAV C) pc0).ways.flatMap (zCv r p k (zAV C)) := by unfold zCk; rw [if_pos g, hC]
   have hKC : (C - 1) / 2 = ((zAV C : Nat) : Int) := by unfold zAV; rw [Int.tdiv_eq_ediv_of_nonneg (by omega)]; omega
   obtain ⟨hw16, hwo⟩ := zMA hv hK
   have hpr := zDh (hv.pc _ hK)
   generalize zAV C = K at hK hgo hKC hw16 hwo hpr
   generalize hpc : r.pcs.getD K pc0 = pc at hgo hw16 hwo hpr
   obtain ⟨ws, hws⟩ : ∃ ws, pc.ways = ws := ⟨_, rfl⟩
   rw [hws] at hgo hw16 hwo
   repeat (first | refine zA (zH rfl) ?_ | refine zA (zP rfl) ?_ | refine zC ?_ | refine zB ?_ | refine zX ?_ | refine zK rfl ?_ | refine zAL ?_ | refine zA (zBK rfl rfl (by omega)) ?_ | refine zA (zHJ rfl rfl (by omega)) ?_)
   refine zAz 8 (iN K) Z (AEq.of_eq (by rw [hKC])) ?_
   refine zBn ?_
   refine zx (ι := Nat) (fun j => [(2, .rp (.box (ruC r)) 0 0), (3, .rp (.box (poC p)) 0 0), (5, .sl 0 0 (zCC r p k ++ (ws.take j).flatMap (zCv r p k K)).length), (19, zt p.cells), (20, iN p.cells.length), (21, iN k), (6, iN k), (8, iN K), (44, .ro (zEK ws) 0 ws.length), (45, iN ws.length), (46, iN j)]) (fun j => [some ⟨58, zBI (zCC r p k ++ (ws.take j).flatMap (zCv r p k K))⟩])
    (fun j => j ≤ ws.length) (fun j => ws.length - j) 0 ⟨⟨rfl, rfl, ?_, rfl, rfl, rfl, rfl, rfl, ?_, ?_, rfl, trivial⟩, ?_, Nat.zero_le _⟩ ?_
   ·rw [List.take_zero, List.flatMap_nil, List.append_nil]; rfl
   ·rw [← hws, ← hpc]; rfl
   ·rw [← hws, ← hpc]; rfl
   ·rw [List.take_zero, List.flatMap_nil, List.append_nil]
   intro j hj
   have hMl : (zCC r p k ++ (ws.take j).flatMap (zCv r p k K)).length ≤ 384 + 112 * k + 7 * j := by
    rw [List.length_append]
    have := zGQ (zCv r p k K) 7 (ws.take j) (fun w hm => zG6 (hwo w (List.mem_of_mem_take hm)))
    rw [List.length_take] at this
    have : min j ws.length ≤ j := Nat.min_le_left _ _
    omega
   have hMs : ∀ w, ws.getD j way0 = w → j < ws.length → zCC r p k ++ (ws.take (j + 1)).flatMap (zCv r p k K) = (zCC r p k ++ (ws.take j).flatMap (zCv r p k K)) ++ zCv r p k K w := fun w hw1 q => by
    rw [zz ws way0 j q, List.flatMap_append, hw1, List.append_assoc]; simp
   generalize hM : zCC r p k ++ (ws.take j).flatMap (zCv r p k K) = M at hMl hMs
   refine rn4 ?_
   refine zF Z (fun q2 => ?_) (fun q2 => ?_)
   ·have hj' : j < ws.length := by omega
    generalize hwj : ws.getD j way0 = w
    have hwm : zDm w = true := hwo w (by rw [← hwj]; exact zAp way0 hj')
    have hMs := hMs w hwj hj'
    refine zF6 ?_
    repeat (refine zAS rfl rfl rfl ?_)
    refine zW (zFM w) Z Z Z Z Z (by rw [← hwj]; rfl) Z ?_
    refine zAn ?_
    refine ax_fzL [some ⟨58, zBI M⟩] 10 [(2, .rp (.box (ruC r)) 0 0), (3, .rp (.box (poC p)) 0 0), (5, .sl 0 0 M.length), (19, zt p.cells), (20, iN p.cells.length), (21, iN k), (6, iN k), (8, iN K), (44, .ro (zEK ws) 0 ws.length), (45, iN ws.length), (46, iN j)] Z Z ⟨Z, Z, Z, Z, Z, Z, Z, Z, Z, Z, Z, trivial⟩ ⟨Z, Z, Z, Z, Z, Z, Z, Z, Z, Z, Z, Z, trivial⟩ (zCF (zFZ _) zBr) Z hfix ?_
    refine rn6 ?_
    refine zQ Z Z Z (way_ok r hv p S k hk' w hwm) ?_
    have hTl : (zCv r p k K w).length = (zGn r p k w).length := List.length_map ..
    have hT7 := zG6 (r := r) (p := p) (s := k) (k := K) hwm
    have hTd : zCv r p k K w = (zGn r p k w).map (goM r p k K pc.promote) := by unfold zCv; rw [hpc]
    generalize hTT : zGn r p k w = T at hTl hTd
    have hTb : ∀ t ∈ T, 0 ≤ t ∧ t < 1000 := fun t ht => by
     rw [← hTT] at ht
     have := zJo ht
     have hcl := S.cl
     omega
    refine rn3 ?_
    refine zx (ι := Nat) (fun i => [(2, .rp (.box (ruC r)) 0 0), (3, .rp (.box (poC p)) 0 0), (5, .sl 0 0 (M ++ (T.take i).map (goM r p k K pc.promote)).length), (19, zt p.cells), (20, iN p.cells.length), (21, iN k), (6, iN k), (8, iN K), (44, .ro (zEK ws) 0 ws.length), (45, iN ws.length), (46, iN j), (54, zt T), (55, iN T.length), (56, iN i)]) (fun i => [some ⟨58, zBI (M ++ (T.take i).map (goM r p k K pc.promote))⟩])
     (fun i => i ≤ T.length) (fun i => T.length - i) 0 ⟨⟨rfl, rfl, ?_, rfl, rfl, rfl, rfl, rfl, rfl, rfl, rfl, rfl, rfl, rfl, trivial⟩, ?_, Nat.zero_le _⟩ ?_
    ·rw [List.take_zero, List.map_nil, List.append_nil]; rfl
    ·rw [List.take_zero, List.map_nil, List.append_nil]
    intro i hi
    have hNs : ∀ t, T.getD i 0 = t → i < T.length → M ++ (T.take (i + 1)).map (goM r p k K pc.promote) = (M ++ (T.take i).map (goM r p k K pc.promote)) ++ [goM r p k K pc.promote t] := fun t ht q => by
     rw [zz T 0 i q, List.map_append, ht, List.append_assoc]; rfl
    have hNl : (M ++ (T.take i).map (goM r p k K pc.promote)).length ≤ 384 + 112 * k + 7 * j + i := by
     rw [List.length_append, List.length_map, List.length_take]
     have : min i T.length ≤ i := Nat.min_le_left _ _
     omega
    generalize hN : M ++ (T.take i).map (goM r p k K pc.promote) = N at hNl hNs
    refine rn4 ?_
    refine zF Z (fun q3 => ?_) (fun q3 => ?_)
    ·have hi' : i < T.length := by omega
     obtain ⟨t, ht⟩ : ∃ t, T.getD i 0 = t := ⟨_, rfl⟩
     have htb := hTb t (by rw [← ht]; exact zAp 0 hi')
     have hNs := hNs t ht hi'
     have hnl : (N ++ [goM r p k K pc.promote t]).length = N.length + 1 := by rw [List.length_append]; rfl
     refine rn6 ?_
     refine zAz 12 (.int .i64 t) Z (AEq.of_eq (by rw [← ht])) ?_
     refine zAz 61 (.int .i64 t) Z (AEq.of_eq (by rw [← ht])) ?_
     refine rn8 ?_
     refine zW [iN k, .int .i64 t, iN K] Z Z Z Z Z Z Z ?_
     repeat (first | refine zA (zH rfl) ?_ | refine zA (zP rfl) ?_ | refine zC ?_ | refine zB ?_ | refine zX ?_ | refine zK rfl ?_ | refine zA (zA5 rfl rfl rfl rfl) ?_ | refine zA (zCY rfl rfl) ?_ | refine zA (zg rfl rfl rfl rfl (by first | (simp only [Nat.zero_add, Int.toNat_natCast, Int.toNat_zero]; exact rfl) | exact rfl) (by omega)) ?_ | refine zA (zD rfl rfl rfl rfl) ?_ | refine zA (zI rfl rfl rfl rfl rfl rfl) ?_)
     apply zAD (H := [some ⟨58, zBI N⟩, some ⟨58, .box (mvC (goM r p k K pc.promote t))⟩]) [(2, .rp (.box (ruC r)) 0 0), (3, .rp (.box (poC p)) 0 0), (5, .sl 0 0 N.length), (19, zt p.cells), (20, iN p.cells.length), (21, iN k), (6, iN k), (8, iN K), (44, .ro (zEK ws) 0 ws.length), (45, iN ws.length), (46, iN j), (54, zt T), (55, iN T.length), (56, iN i), (13, .ptr 1 0 0)]
     ·intro fin
      have keep : ¬ (0 < pc.promote ∧ zE6 r p.turn t = true) → goM r p k K pc.promote t = ⟨k, t, K⟩ := fun q => by unfold goM; rw [if_neg q]
      refine zh Z Z (fun n1 => ?_) (fun n1 => ?_)
      ·have n1 : 0 < (r.pcs.getD K pc0).promote := n1
       rw [hpc] at n1
       repeat (first | refine zA (zH rfl) ?_ | refine zo rfl rfl ?_ | refine zA (zD rfl rfl rfl rfl) ?_ | refine zA (zI rfl rfl rfl rfl rfl rfl) ?_ | refine zA (zAE rfl rfl rfl rfl rfl rfl) ?_)
       refine zQ Z Z Z (zJD r hw hh p.turn t htb) ?_
       refine rn2 ?_
       refine zAO Z (fun n2 => ?_) (fun n2 => ?_)
       ·have e : goM r p k K pc.promote t = ⟨k, t, pc.promote - 1⟩ := by unfold goM; rw [if_pos ⟨n1, n2⟩]
        have hn6 := hv.n6
        have hb6 : -9223372036854775808 ≤ (r.pcs.getD K pc0).promote - 1 ∧ (r.pcs.getD K pc0).promote - 1 ≤ 9223372036854775807 := by rw [hpc]; omega
        skip
        refine zK Z ?_
        repeat (first | refine zA (zH rfl) ?_ | refine zC ?_ | refine zB ?_ | refine zA (zBK rfl rfl (by omega)) ?_ | refine zA (zM rfl rfl rfl rfl rfl rfl) ?_ | refine zAJ rfl rfl rfl rfl rfl rfl rfl Nat.zero_lt_one ?_)
        refine zAh [some ⟨58, zBI N⟩, some ⟨58, .box (mvC (goM r p k K pc.promote t))⟩] (by rw [e, ← hpc]; rfl) ?_
        exact fin _ ⟨Z, Z, Z, Z, Z, Z, Z, Z, Z, Z, Z, Z, Z, Z, Z, trivial⟩
       ·have e := keep (fun q => by rw [n2] at q; exact Bool.false_ne_true q.2)
        refine zFi ?_
        refine zAh [some ⟨58, zBI N⟩, some ⟨58, .box (mvC (goM r p k K pc.promote t))⟩] (by rw [e]; rfl) ?_
        exact fin _ ⟨Z, Z, Z, Z, Z, Z, Z, Z, Z, Z, Z, Z, Z, Z, Z, trivial⟩
      ·have n1 : ¬ 0 < (r.pcs.getD K pc0).promote := n1
       rw [hpc] at n1
       have e := keep (fun q => n1 q.1)
       refine zFi ?_
       refine zAh [some ⟨58, zBI N⟩, some ⟨58, .box (mvC (goM r p k K pc.promote t))⟩] (by rw [e]; rfl) ?_
       exact fin _ ⟨Z, Z, Z, Z, Z, Z, Z, Z, Z, Z, Z, Z, Z, Z, Z, trivial⟩
     generalize hgm : goM r p k K pc.promote t = gm at hNs hnl
     refine rn6 ?_
     refine zBQ [gm] Z Z Z Z Z Z Z Z Z Z Z Z Z (by show 0 + 1 ≤ 1; omega) (fun k' j' hk' hj' => ?_) (by show (N.length + 1) * 24 ≤ _ ∧ _; omega) zEY (by rw [hfix]; exact fun h => h) ?_
     ·obtain rfl : k' = 0 := Nat.lt_one_iff.1 hk'
      match j', hj' with
      | 0, _ => rfl
      | 1, _ => rfl
      | 2, _ => rfl
     refine rn10 ?_
     refine zB ?_
     refine zCR [some ⟨58, zBI (N ++ [gm])⟩] [some ⟨58, .box (mvC gm)⟩] [(2, .rp (.box (ruC r)) 0 0), (3, .rp (.box (poC p)) 0 0), (5, .sl 0 0 (N ++ [gm]).length), (19, zt p.cells), (20, iN p.cells.length), (21, iN k), (6, iN k), (8, iN K), (44, .ro (zEK ws) 0 ws.length), (45, iN ws.length), (46, iN j), (54, zt T), (55, iN T.length), (56, iN i)] Z ⟨Z, Z, by rw [hnl]; rfl, Z, Z, Z, Z, Z, Z, Z, Z, Z, Z, Z, trivial⟩ (fun h hh => by rw [hfix] at hh; exact hh.elim) (zCF (zFZ _) zBr) Z ?_
     refine rn3 ?_
     exact zS ⟨i + 1, by omega, by omega, by rw [hNs]; exact ⟨Z, Z, Z, Z, Z, Z, Z, Z, Z, Z, Z, Z, Z, Z, trivial⟩, by rw [hNs]⟩
    ·have hi' : i = T.length := by omega
     subst hi'
     rw [List.take_length, ← hTd] at hN
     rw [← hMs] at hN
     refine rn5 ?_
     exact zS ⟨j + 1, by omega, by omega, by rw [hN]; exact ⟨Z, Z, Z, Z, Z, Z, Z, Z, Z, Z, Z, trivial⟩, by rw [hN]⟩
   ·have hj' : j = ws.length := by omega
    subst hj'
    rw [List.take_length] at hM
    have e : zCC r p (k + 1) = M := by rw [hsucc, hgo, hM]
    refine rn5 ?_
    exact zS ⟨k + 1, by omega, by omega, by rw [e]; exact ⟨Z, Z, Z, Z, Z, Z, trivial⟩, by rw [e]⟩
  ·have hk' : k = p.cells.length := by omega
   subst hk'
   have hNl := zG2 hv S p.cells.length
   have hraw : rawM r p = zCC r p p.cells.length := rfl
   have hlist : z7 r p = zp ((zCC r p p.cells.length).mergeSort leM) := rfl
   generalize zCC r p p.cells.length = R at hNl hlist
   have hsl : (R.mergeSort leM).length = R.length := List.length_mergeSort ..
   have csort := zM4 (H := [some ⟨58, zBI R⟩]) (h := 0) (l := R) (by omega) rfl
   have ccomp := zK8 (R.mergeSort leM) (by omega)
   rw [hsl, ← hlist] at ccomp
   refine rn5 ?_
   refine zC4 Z Z Z csort (fun _ h => h) (fun _ h => h) ?_
   rintro r' H' ⟨rfl, rfl⟩
   refine rn0 ?_
   refine zC4 Z Z Z ccomp (fun _ h => h) (fun _ h => h) ?_
   rintro r' H' ⟨rfl, rfl⟩
   refine rn7 ?_
   refine ax_trunc 0 (zBI (z7 r p)) Z ⟨?_, Z, fun i j hi hj => ?_⟩ ?_
   ·show (z7 r p).length ≤ (z7 r p ++ List.replicate (R.length - (z7 r p).length) mv0).length
    rw [List.length_append]; omega
   ·show (mvC ((z7 r p).getD i mv0)).getD j .any = (mvC ((z7 r p ++ List.replicate (R.length - (z7 r p).length) mv0).getD i mv0)).getD j .any
    have hi : i < (z7 r p).length := hi
    rw [zB8, if_pos hi]
   repeat (refine zAB ?_)
   exact zN hR Z ⟨Z, Z⟩
 ·rintro v H ⟨rfl, rfl⟩
  refine ⟨Z, ?_, fun h o ho => zFo (zA8 zFY) h o ho⟩
  intro o ho; simp at ho; subst ho; show 0 + (z7 r p).length ≤ (z7 r p).length; omega
/-- ends.line$1 -/
theorem own_ok (r : Go.Ax.Gm.Rules) (hv : ValidR r) (p : Pos) (S : Sound r p) (player x y : Int) : zl Tryz.prog 125 [.int .i64 x, .int .i64 y, .rp (.box (ruC r)) 0 0, .rp (.box (poC p)) 0 0, .rp (.box [.int .i64 player]) 0 0] (.bool (zGX r p player x y)) := by
 refine zd.value0 (zL (P := Tryz.prog) (fn := Tryz.f125) Z Z (by kernel_rfl) Z (fun c hR hfix => ?_)) (fix := fun _ => False) (fun _ h => h) Z Z
 have hc := (zAu hv S).c
 have hcl := S.cl
 have hw : 1 ≤ r.w ∧ r.w ≤ 8 := ⟨hv.w1, hv.w8⟩
 have hh : 1 ≤ r.h ∧ r.h ≤ 8 := ⟨hv.h1, hv.h8⟩
 refine rn4 ?_
 apply zAD (H := []) [(0, .int .i64 x), (1, .int .i64 y), (2, .rp (.box (ruC r)) 0 0), (3, .rp (.box (poC p)) 0 0), (4, .rp (.box [.int .i64 player]) 0 0), (26, .bool (zFA r x y))]
 ·intro fin
  refine zh Z Z (fun f1 => ?_) (fun f1 => ?_)
  ·refine zAn ?_
   exact fin _ ⟨Z, Z, Z, Z, Z, by unfold zFA; rw [decide_eq_true (show x < 0 from f1)]; rfl, trivial⟩
  repeat (first | refine zA (zH rfl) ?_ | refine zo rfl rfl ?_ | refine zA (zDs rfl rfl) ?_ | refine zA (zf rfl rfl) ?_ | refine zA (zD rfl rfl rfl rfl) ?_ | refine zA (zI rfl rfl rfl rfl rfl rfl) ?_)
  refine zh Z Z (fun f2 => ?_) (fun f2 => ?_)
  ·refine zAn ?_
   exact fin _ ⟨Z, Z, Z, Z, Z, by unfold zFA; rw [decide_eq_false (show ¬ x < 0 from f1), decide_eq_true (show r.w ≤ x from f2)]; rfl, trivial⟩
  repeat (first | refine zA (zH rfl) ?_ | refine zo rfl rfl ?_ | refine zA (zCB rfl rfl) ?_ | refine zA (zf rfl rfl) ?_)
  refine zh Z Z (fun f3 => ?_) (fun f3 => ?_)
  ·refine zAn ?_
   exact fin _ ⟨Z, Z, Z, Z, Z, by unfold zFA; rw [decide_eq_false (show ¬ x < 0 from f1), decide_eq_false (show ¬ r.w ≤ x from f2), decide_eq_true (show y < 0 from f3)]; rfl, trivial⟩
  repeat (first | refine zA (zH rfl) ?_ | refine zC ?_ | refine zB ?_ | refine zo rfl rfl ?_ | refine zA (zDs rfl rfl) ?_ | refine zA (zf rfl rfl) ?_ | refine zA (zD rfl rfl rfl rfl) ?_ | refine zA (zI rfl rfl rfl rfl rfl rfl) ?_)
  exact fin _ ⟨Z, Z, Z, Z, Z, by unfold zFA; rw [decide_eq_false (show ¬ x < 0 from f1), decide_eq_false (show ¬ r.w ≤ x from f2), decide_eq_false (show ¬ y < 0 from f3)]; rfl, trivial⟩
 refine zAO Z (fun g => ?_) (fun g => ?_)
 ·refine rn2 ?_
  refine zN hR Z ?_
  unfold zGX; rw [g]; rfl
 have hsq := sq_lt g
 have hoff : 0 ≤ x ∧ x < r.w ∧ 0 ≤ y ∧ y < r.h := by
  unfold zFA at g
  simp only [Bool.or_eq_false_iff, decide_eq_false_iff_not] at g
  omega
 have hYw : 0 ≤ y * r.w ∧ y * r.w ≤ 64 := ⟨Int.mul_nonneg (by omega) (by omega), by
  have a := Int.mul_le_mul (show y ≤ 8 by omega) hw.2 (by omega) (by decide)
  exact Int.le_trans a (by decide)⟩
 have hC12 := zHp hv S (y * r.w + x).toNat
 refine zBn ?_
 refine zA (zCo Z Z (by omega)) ?_
 repeat (first | refine zA (zH rfl) ?_ | refine zA (zP rfl) ?_ | refine zA (zBe rfl rfl rfl) ?_ | refine zC ?_ | refine zB ?_ | refine zA (zA7 rfl rfl (by omega)) ?_ | refine zA (zg rfl rfl rfl rfl (by first | (simp only [Nat.zero_add, Int.toNat_natCast, Int.toNat_zero]; exact rfl) | exact rfl) (by omega)) ?_)
 obtain ⟨C, hC⟩ : ∃ C, zAG p (y * r.w + x).toNat = C := ⟨_, rfl⟩
 rw [hC] at hC12
 refine zBp 8 (.int .i64 C) Z (AEq.of_eq (by rw [← hC]; rfl)) ?_
 refine rn6 ?_
 refine zh Z Z (fun e1 => ?_) (fun e1 => ?_)
 ·repeat (first | refine zA (zH rfl) ?_ | refine zA (zP rfl) ?_ | refine zC ?_ | refine zB ?_ | refine zo rfl rfl ?_ | refine zAB ?_ | refine zA (zBx rfl rfl) ?_ | refine zA (zf rfl rfl) ?_ | refine zA (zBK rfl rfl (by omega)) ?_ | refine zA (zJR rfl rfl (by omega)) ?_ | refine zA (zD rfl rfl rfl rfl) ?_)
  refine zN hR Z ?_
  have e1 : 0 < C := e1
  unfold zGX; rw [g, hC, decide_eq_true e1, Int.tmod_eq_emod_of_nonneg (by omega)]; rfl
 ·refine rn6 ?_
  refine zN hR Z ?_
  have e1 : ¬ 0 < C := e1
  unfold zGX; rw [g, hC, decide_eq_false e1]; rfl
/-- ends.wins -/
theorem zHe (n : Int) (h : 0 ≤ n ∧ n ≤ 1) : zl Tryz.prog 85 [.int .i64 n] (.int .i64 (1 + n)) := by
 refine zd.value0 (zL (P := Tryz.prog) (fn := Tryz.f85) Z Z (by kernel_rfl) Z (fun c hR hfix => ?_)) (fix := fun _ => False) (fun _ h => h) Z Z
 refine rn3 ?_
 exact zN hR Z Z
def dirA : List AV := [.int .i64 1, .int .i64 0, .int .i64 0, .int .i64 1, .int .i64 1, .int .i64 1, .int .i64 1, .int .i64 (-1)]
def zD7 (i : Nat) : Int × Int := dirs.getD i (0, 0)
theorem dirA_at {i : Nat} (hi : i < 4) : (dirA.drop (i * 2)).take 2 = [.int .i64 (zD7 i).1, .int .i64 (zD7 i).2] := by
 match i, hi with
 | 0, _ => rfl
 | 1, _ => rfl
 | 2, _ => rfl
 | 3, _ => rfl
theorem zMN {i : Nat} (hi : i < 4) : -1 ≤ (zD7 i).1 ∧ (zD7 i).1 ≤ 1 ∧ -1 ≤ (zD7 i).2 ∧ (zD7 i).2 ≤ 1 := by
 match i, hi with
 | 0, _ => decide
 | 1, _ => decide
 | 2, _ => decide
 | 3, _ => decide
theorem zMO {i : Nat} (hi : i < 4) (f : Int × Int → Bool) : (dirs.take (i + 1)).any f = ((dirs.take i).any f || f (zD7 i)) := zBz f dirs (0, 0) i hi
theorem row_succ (r : Go.Ax.Gm.Rules) (p : Pos) (player : Int) (n : Nat) (x y dx dy : Int) : zB3 r p player (n + 1) x y dx dy = (zB3 r p player n x y dx dy && zGX r p player (x + n * dx) (y + n * dy)) := by
 unfold zB3
 rw [List.range_succ, List.all_append]; simp
theorem row_no {r : Go.Ax.Gm.Rules} {p : Pos} {player : Int} {n N : Nat} {x y dx dy : Int} (h : n < N) (ho : zGX r p player (x + n * dx) (y + n * dy) = false) : zB3 r p player N x y dx dy = false := by
 refine Bool.eq_false_iff.2 (fun q => ?_)
 unfold zB3 at q
 have := List.all_eq_true.1 q n (List.mem_range.2 h)
 rw [ho] at this; cases this
theorem own_in {r : Go.Ax.Gm.Rules} {p : Pos} {player x y : Int} (h : zGX r p player x y = true) : 0 ≤ x ∧ x < r.w ∧ 0 ≤ y ∧ y < r.h := by
 unfold zGX at h
 rw [Bool.and_eq_true, Bool.not_eq_true'] at h
 have g := h.1
 unfold zFA at g
 simp only [Bool.or_eq_false_iff, decide_eq_false_iff_not] at g
 omega
/-- ends.line -/
theorem line_ok (r : Go.Ax.Gm.Rules) (hv : ValidR r) (p : Pos) (S : Sound r p) (player : Int) (N : Nat) (hN : N ≤ 64) : zl Tryz.prog 115 [ruA r, poA p, .int .i64 player, iN N] (.bool (zJG r p player N)) := by
 refine zd.value0 (zL (P := Tryz.prog) (fn := Tryz.f115) Z Z (by kernel_rfl) Z (fun c hR hfix => ?_)) (fix := fun _ => False) (fun _ h => h) Z Z
 have hc := (zAu hv S).c
 have hcl := S.cl
 have hw : 1 ≤ r.w ∧ r.w ≤ 8 := ⟨hv.w1, hv.w8⟩
 have hh : 1 ≤ r.h ∧ r.h ≤ 8 := ⟨hv.h1, hv.h8⟩
 refine zX ?_
 repeat (first | refine zA (zP rfl) ?_ | refine zC ?_ | refine zB ?_ | refine zK rfl ?_ | refine zAo rfl rfl ?_)
 refine zHi [(3, iN N), (4, .rp (.box (ruC r)) 0 0), (5, .rp (.box (poC p)) 0 0), (6, .rp (.box [.int .i64 player]) 0 0), (8, .bool false)] (zCM (zw rfl) (zCM (zw rfl) (zCM (zw rfl) zCp))) ⟨⟨_, rfl, .inl rfl⟩, ⟨.ptr 0 0 0, rfl, .inr (.inr ⟨rfl, fun o ho => by cases ho; exact Nat.zero_lt_one⟩)⟩, ⟨.ptr 1 0 0, rfl, .inr (.inr ⟨rfl, fun o ho => by cases ho; exact Nat.zero_lt_one⟩)⟩, ⟨.ptr 2 0 0, rfl, .inr (.inr ⟨rfl, fun o ho => by cases ho; exact Nat.zero_lt_one⟩)⟩, ⟨_, rfl, .inl rfl⟩, trivial⟩ ⟨rfl, rfl, rfl, rfl, rfl, trivial⟩ rfl hfix ?_
 refine zBn ?_
 refine zx (ι := Nat) (fun k => [(3, iN N), (4, .rp (.box (ruC r)) 0 0), (5, .rp (.box (poC p)) 0 0), (6, .rp (.box [.int .i64 player]) 0 0), (9, .fn 125 [.rp (.box (ruC r)) 0 0, .rp (.box (poC p)) 0 0, .rp (.box [.int .i64 player]) 0 0]), (18, zt p.cells), (19, iN p.cells.length), (20, iN k)]) (fun _ => [])
  (fun k => k ≤ p.cells.length ∧ (List.range k).any (fun s => dirs.any (fun d => zB3 r p player N ((s : Int).tmod r.w) ((s : Int).tdiv r.w) d.1 d.2)) = false) (fun k => p.cells.length - k) 0 ⟨⟨rfl, rfl, rfl, rfl, rfl, rfl, rfl, rfl, trivial⟩, rfl, Nat.zero_le _, rfl⟩ ?_
 intro k ⟨hk, hno⟩
 refine rn4 ?_
 refine zF Z (fun q => ?_) (fun q => ?_)
 ·have hk' : k < p.cells.length := by omega
  have hsx : 0 ≤ (k : Int) / r.w ∧ (k : Int) / r.w < r.h ∧ 0 ≤ (k : Int) % r.w ∧ (k : Int) % r.w < r.w := by
   refine ⟨Int.ediv_nonneg (by omega) (by omega), Int.ediv_lt_of_lt_mul (by omega) ?_, Int.emod_nonneg _ (by omega), Int.emod_lt_of_pos _ (by omega)⟩
   rw [Int.mul_comm, ← hcl]; omega
  have hstep : (List.range (k + 1)).any (fun s => dirs.any (fun d => zB3 r p player N ((s : Int).tmod r.w) ((s : Int).tdiv r.w) d.1 d.2)) = dirs.any (fun d => zB3 r p player N ((k : Int) % r.w) ((k : Int) / r.w) d.1 d.2) := by
   rw [List.range_succ, List.any_append, hno, Bool.false_or, ← Int.tdiv_eq_ediv_of_nonneg (show 0 ≤ (k : Int) by omega), ← Int.tmod_eq_emod_of_nonneg (show 0 ≤ (k : Int) by omega)]; simp
  have win : dirs.any (fun d => zB3 r p player N ((k : Int) % r.w) ((k : Int) / r.w) d.1 d.2) = true → zJG r p player N = true := fun h => by
   unfold zJG
   rw [List.any_eq_true]
   refine ⟨k, List.mem_range.2 hk', ?_⟩
   rw [Int.tdiv_eq_ediv_of_nonneg (show 0 ≤ (k : Int) by omega), Int.tmod_eq_emod_of_nonneg (show 0 ≤ (k : Int) by omega)]; exact h
  generalize hX : (k : Int) % r.w = X at hsx hstep win
  generalize hY : (k : Int) / r.w = Y at hsx hstep win
  refine rn9 ?_
  refine zBp 27 (.agg dirA) Z (AEq.of_eq Z) ?_
  refine zx (ι := Nat) (fun i => [(3, iN N), (4, .rp (.box (ruC r)) 0 0), (5, .rp (.box (poC p)) 0 0), (6, .rp (.box [.int .i64 player]) 0 0), (9, .fn 125 [.rp (.box (ruC r)) 0 0, .rp (.box (poC p)) 0 0, .rp (.box [.int .i64 player]) 0 0]), (18, zt p.cells), (19, iN p.cells.length), (20, iN k), (10, iN k), (27, .agg dirA), (28, iN i)]) (fun _ => [])
   (fun i => i ≤ 4 ∧ (dirs.take i).any (fun d => zB3 r p player N X Y d.1 d.2) = false) (fun i => 4 - i) 0 ⟨⟨rfl, rfl, rfl, rfl, rfl, rfl, rfl, rfl, rfl, rfl, rfl, trivial⟩, rfl, Nat.zero_le _, rfl⟩ ?_
  intro i ⟨hi, hno2⟩
  refine rn4 ?_
  refine zF Z (fun q2 => ?_) (fun q2 => ?_)
  ·have hi' : i < 4 := by omega
   have hdt := zMO hi' (fun d => zB3 r p player N X Y d.1 d.2)
   rw [hno2, Bool.false_or] at hdt
   have hda := dirA_at hi'
   have hds := zMN hi'
   have hwin2 : zB3 r p player N X Y (zD7 i).1 (zD7 i).2 = true → zJG r p player N = true := fun h => win (List.any_eq_true.2 ⟨zD7 i, by unfold zD7; exact zAp (0, 0) hi', h⟩)
   generalize (zD7 i).1 = dx at hdt hda hds hwin2
   generalize (zD7 i).2 = dy at hdt hda hds hwin2
   refine rn1 ?_
   refine zA (zMq Z Z Z Z Z Z hda ⟨(by omega), (by show (i : Int) < ((4 : Nat) : Int); omega), (by show i * 2 + 2 ≤ 8; omega)⟩) ?_
   repeat (refine zAS rfl rfl rfl ?_)
   refine zW [.int .i64 dx, .int .i64 dy] Z Z Z Z Z Z Z ?_
   refine zAn ?_
   refine zB5 12 [(3, iN N), (4, .rp (.box (ruC r)) 0 0), (5, .rp (.box (poC p)) 0 0), (6, .rp (.box [.int .i64 player]) 0 0), (9, .fn 125 [.rp (.box (ruC r)) 0 0, .rp (.box (poC p)) 0 0, .rp (.box [.int .i64 player]) 0 0]), (18, zt p.cells), (19, iN p.cells.length), (20, iN k), (10, iN k), (27, .agg dirA), (28, iN i)] Z ⟨Z, Z, Z, Z, Z, Z, Z, Z, Z, Z, Z, Z, trivial⟩ ⟨Z, Z, Z, Z, Z, Z, Z, Z, Z, Z, Z, trivial⟩ Z hfix ?_
   refine ze (by kernel_rfl) ?_
   refine zm (fuel := 0) [0, 1, 2, 3, 4, 5, 6, 7, 8, 9, 10] [(3, iN N), (4, .rp (.box (ruC r)) 0 0), (5, .rp (.box (poC p)) 0 0), (6, .rp (.box [.int .i64 player]) 0 0), (9, .fn 125 [.rp (.box (ruC r)) 0 0, .rp (.box (poC p)) 0 0, .rp (.box [.int .i64 player]) 0 0]), (18, zt p.cells), (19, iN p.cells.length), (20, iN k), (10, iN k), (27, .agg dirA), (28, iN i), (12, .rp (.box [.int .i64 dx, .int .i64 dy]) 0 0)] ⟨Z, Z, Z, Z, Z, Z, Z, Z, Z, Z, Z, Z, trivial⟩ (by kernel_rfl) (by decide) Z Z ?_
   refine zJ Z Z (zH Z) ?_
   refine zJ Z Z (zI Z Z Z Z Z Z) ?_
   refine zJ Z Z (zD Z Z Z Z) ?_
   refine zJ Z Z (zJR Z Z (by omega)) ?_
   refine zJ Z Z (zH Z) ?_
   refine zJ Z Z (zI Z Z Z Z Z Z) ?_
   refine zJ Z Z (zD Z Z Z Z) ?_
   refine zJ Z Z (zHJ Z Z (by omega)) ?_
   refine zJ Z Z (zP Z) ?_
   refine zJ Z Z (zP Z) ?_
   refine zJ Z Z (zP Z) ?_
   refine zAA ?_
   refine zZ (by kernel_rfl) ?_
   refine rn1 ?_
   refine zx (ι := Nat) (fun n => [(3, iN N), (4, .rp (.box (ruC r)) 0 0), (5, .rp (.box (poC p)) 0 0), (6, .rp (.box [.int .i64 player]) 0 0), (9, .fn 125 [.rp (.box (ruC r)) 0 0, .rp (.box (poC p)) 0 0, .rp (.box [.int .i64 player]) 0 0]), (18, zt p.cells), (19, iN p.cells.length), (20, iN k), (10, iN k), (27, .agg dirA), (28, iN i), (12, .rp (.box [.int .i64 dx, .int .i64 dy]) 0 0), (13, .int .i64 (X + (n : Int) * dx)), (14, .int .i64 (Y + (n : Int) * dy)), (15, iN n)]) (fun _ => [])
    (fun n => n ≤ N ∧ zB3 r p player n X Y dx dy = true) (fun n => N - n) 0 ⟨⟨rfl, rfl, rfl, rfl, rfl, rfl, rfl, rfl, rfl, rfl, rfl, rfl, ?_, ?_, rfl, trivial⟩, rfl, Nat.zero_le _, rfl⟩ ?_
   ·rw [show X + ((0 : Nat) : Int) * dx = X by rw [Int.natCast_zero, Int.zero_mul, Int.add_zero], ← hX]; rfl
   ·rw [show Y + ((0 : Nat) : Int) * dy = Y by rw [Int.natCast_zero, Int.zero_mul, Int.add_zero], ← hY]; rfl
   intro n ⟨hn, hrow⟩
   have hrs := row_succ r p player n X Y dx dy
   rw [hrow, Bool.true_and] at hrs
   have hrn := fun (h : n < N) => row_no (r := r) (p := p) (player := player) (x := X) (y := Y) (dx := dx) (dy := dy) h
   have e1 : X + ((n + 1 : Nat) : Int) * dx = X + (n : Int) * dx + dx := by rw [Int.natCast_add, Int.add_mul, Int.natCast_one, Int.one_mul, Int.add_assoc]
   have e2 : Y + ((n + 1 : Nat) : Int) * dy = Y + (n : Int) * dy + dy := by rw [Int.natCast_add, Int.add_mul, Int.natCast_one, Int.one_mul, Int.add_assoc]
   generalize X + (n : Int) * dx = x at hrs hrn e1 ⊢
   generalize Y + (n : Int) * dy = y at hrs hrn e2 ⊢
   refine rn4 ?_
   refine zh Z Z (fun a1 => ?_) (fun a1 => ?_)
   ·have a1 : n < N := by
     have a1 : (n : Int) < (N : Int) := a1
     omega
    refine rn2 ?_
    refine zQ Z Z Z (own_ok r hv p S player x y) ?_
    refine rn2 ?_
    refine zAO Z (fun a2 => ?_) (fun a2 => ?_)
    ·have hin := own_in a2
     rw [a2] at hrs
     refine rn1 ?_
     refine ze (by kernel_rfl) ?_
     refine zV 0 Z (by kernel_rfl) (by kernel_rfl) (by kernel_rfl) Z (zH Z) Z ?_
     refine zV 1 Z (by kernel_rfl) (by kernel_rfl) (by kernel_rfl) Z (zBo Z Z Z Z (by first | (simp only [Nat.zero_add, Int.toNat_natCast]; exact Z) | exact Z) (by omega)) Z ?_
     refine zV 4 Z (by kernel_rfl) (by kernel_rfl) (by kernel_rfl) Z (zH Z) Z ?_
     refine zV 5 Z (by kernel_rfl) (by kernel_rfl) (by kernel_rfl) Z (zBo Z Z Z Z (by first | (simp only [Nat.zero_add, Int.toNat_natCast]; exact Z) | exact Z) (by omega)) Z ?_
     refine zV 8 Z (by kernel_rfl) (by kernel_rfl) (by kernel_rfl) Z (zH Z) Z ?_
     refine zV 9 Z (by kernel_rfl) (by kernel_rfl) (by kernel_rfl) Z (zA7 Z Z (by omega)) Z ?_
     apply zR (H := []) [(3, iN N), (4, .rp (.box (ruC r)) 0 0), (5, .rp (.box (poC p)) 0 0), (6, .rp (.box [.int .i64 player]) 0 0), (9, .fn 125 [.rp (.box (ruC r)) 0 0, .rp (.box (poC p)) 0 0, .rp (.box [.int .i64 player]) 0 0]), (18, zt p.cells), (19, iN p.cells.length), (20, iN k), (10, iN k), (27, .agg dirA), (28, iN i), (12, .rp (.box [.int .i64 dx, .int .i64 dy]) 0 0), (13, .int .i64 (x + dx)), (14, .int .i64 (y + dy)), (15, .int .i64 ((n : Int) + 1))]
     ·intro fin
      refine zG (is := [2, 6]) (by kernel_rfl) (by simp) Z ⟨fun o ho => ?_, fun o ho => ?_, trivial⟩
      all_goals (cases ho)
      ·repeat (first | refine zC ?_ | refine zT ?_ | refine zA (zD rfl rfl rfl rfl) ?_)
       refine zV 3 Z (by kernel_rfl) (by kernel_rfl) (by kernel_rfl) Z (zA7 Z Z (by omega)) Z ?_
       refine zV 10 Z (by kernel_rfl) (by kernel_rfl) (by kernel_rfl) Z (zP Z) Z ?_
       refine zG (is := [6]) (by kernel_rfl) (by simp) Z ⟨fun o ho => ?_, trivial⟩
       all_goals (cases ho)
       repeat (first | refine zC ?_ | refine zT ?_ | refine zA (zD rfl rfl rfl rfl) ?_)
       refine zV 7 Z (by kernel_rfl) (by kernel_rfl) (by kernel_rfl) Z (zA7 Z Z (by omega)) Z ?_
       refine zV 11 Z (by kernel_rfl) (by kernel_rfl) (by kernel_rfl) Z (zP Z) Z ?_
       refine zV 12 Z (by kernel_rfl) (by kernel_rfl) (by kernel_rfl) Z (zP Z) Z ?_
       exact fin _ ⟨Z, Z, Z, Z, Z, Z, Z, Z, Z, Z, Z, Z, Z, Z, Z, trivial⟩
      ·repeat (first | refine zC ?_ | refine zT ?_ | refine zA (zD rfl rfl rfl rfl) ?_)
       refine zV 7 Z (by kernel_rfl) (by kernel_rfl) (by kernel_rfl) Z (zA7 Z Z (by omega)) Z ?_
       refine zG (is := [2]) (by kernel_rfl) (by simp) Z ⟨fun o ho => ?_, trivial⟩
       all_goals (cases ho)
       repeat (first | refine zC ?_ | refine zT ?_ | refine zA (zD rfl rfl rfl rfl) ?_)
       refine zV 3 Z (by kernel_rfl) (by kernel_rfl) (by kernel_rfl) Z (zA7 Z Z (by omega)) Z ?_
       refine zV 10 Z (by kernel_rfl) (by kernel_rfl) (by kernel_rfl) Z (zP Z) Z ?_
       refine zV 11 Z (by kernel_rfl) (by kernel_rfl) (by kernel_rfl) Z (zP Z) Z ?_
       refine zV 12 Z (by kernel_rfl) (by kernel_rfl) (by kernel_rfl) Z (zP Z) Z ?_
       exact fin _ ⟨Z, Z, Z, Z, Z, Z, Z, Z, Z, Z, Z, Z, Z, Z, Z, trivial⟩
     refine zZ (by kernel_rfl) ?_
     repeat (refine zAM ?_)
     refine zS ⟨n + 1, ⟨by omega, hrs⟩, by omega, ⟨Z, Z, Z, Z, Z, Z, Z, Z, Z, Z, Z, Z, ?_, ?_, Z, trivial⟩, Z⟩
     ·rw [e1]; rfl
     ·rw [e2]; rfl
    ·have hno3 := hrn a1 a2
     refine rn5 ?_
     refine zF Z (fun a3 => ?_) (fun a3 => ?_)
     ·exact absurd (show (n : Int) = (N : Int) from a3) (by omega)
     refine rn5 ?_
     exact zS ⟨i + 1, ⟨by omega, by rw [hdt]; exact hno3⟩, by omega, ⟨Z, Z, Z, Z, Z, Z, Z, Z, Z, Z, Z, trivial⟩, Z⟩
   ·have a1 : n = N := by
     have a1 : ¬ (n : Int) < (N : Int) := a1
     omega
    refine rn6 ?_
    refine zF Z (fun a3 => ?_) (fun a3 => absurd (show (n : Int) = (N : Int) by omega) a3)
    refine rn6 ?_
    refine zN hR Z ?_
    rw [hwin2 (by rw [← a1]; exact hrow)]; rfl
  ·have hi' : i = 4 := by omega
   subst hi'
   refine rn5 ?_
   exact zS ⟨k + 1, ⟨by omega, by rw [hstep]; exact hno2⟩, by omega, ⟨Z, Z, Z, Z, Z, Z, Z, Z, trivial⟩, Z⟩
 ·have hk' : k = p.cells.length := by omega
  subst hk'
  refine rn5 ?_
  refine zN hR Z ?_
  unfold zJG; rw [hno]; rfl
/-- ends.holds -/
theorem holds_ok (r : Go.Ax.Gm.Rules) (hv : ValidR r) (p : Pos) (S : Sound r p) (x : En) (hx : zDZ r.pcs.length x = 0) (mover : Int) (hm : 0 ≤ mover ∧ mover ≤ 1) : zl Tryz.prog 84 [ruA r, poA p, .agg (enC x), .int .i64 mover] (.bool (zCy r p mover x)) := by
 refine zd.value0 (zL (P := Tryz.prog) (fn := Tryz.f84) Z Z (by kernel_rfl) Z (fun c hR hfix => ?_)) (fix := fun _ => False) (fun _ h => h) Z Z
 have hc := (zAu hv S).c
 have hw : 1 ≤ r.w ∧ r.w ≤ 8 := ⟨hv.w1, hv.w8⟩
 have hh : 1 ≤ r.h ∧ r.h ≤ 8 := ⟨hv.h1, hv.h8⟩
 have hn6 := hv.n6
 have hxk : (x.kind = 0 → 1 ≤ x.count ∧ x.count ≤ 64) ∧ (x.kind ≠ 0 → 0 ≤ x.piece ∧ x.piece ≤ 5) ∧ -1 ≤ x.count ∧ x.count ≤ 64 := by
  unfold zDZ at hx
  split at hx
  ·rename_i k0
   split at hx
   ·rename_i h; have := Go.Ax.Gm.within_iff.1 h.1; exact ⟨fun _ => by omega, fun q => absurd k0 q, by omega, by omega⟩
   ·cases hx
  ·rename_i k0
   split at hx
   ·split at hx
    ·rename_i h; have := Go.Ax.Gm.within_iff.1 h.2; exact ⟨fun q => absurd q k0, fun _ => by omega, by omega, by omega⟩
    ·cases hx
   ·split at hx
    ·split at hx
     ·rename_i h; have := Go.Ax.Gm.within_iff.1 h.1; have := Go.Ax.Gm.within_iff.1 h.2; exact ⟨fun q => absurd q k0, fun _ => by omega, by omega, by omega⟩
     ·cases hx
    ·cases hx
 obtain ⟨hx0, hx1, hx2⟩ := hxk
 refine zX ?_
 repeat (first | refine zA (zP rfl) ?_ | refine zC ?_ | refine zB ?_ | refine zK rfl ?_ | refine zAo rfl rfl ?_)
 refine zHi [(3, .int .i64 mover), (4, .rp (.box (ruC r)) 0 0), (5, .rp (.box (poC p)) 0 0), (6, .rp (.box (enC x)) 0 0)] (zCM (zw rfl) (zCM (zw rfl) (zCM (zw rfl) zCp))) ⟨⟨_, rfl, .inl rfl⟩, ⟨.ptr 0 0 0, rfl, .inr (.inr ⟨rfl, fun o ho => by cases ho; exact Nat.zero_lt_one⟩)⟩, ⟨.ptr 1 0 0, rfl, .inr (.inr ⟨rfl, fun o ho => by cases ho; exact Nat.zero_lt_one⟩)⟩, ⟨.ptr 2 0 0, rfl, .inr (.inr ⟨rfl, fun o ho => by cases ho; exact Nat.zero_lt_one⟩)⟩, trivial⟩ ⟨rfl, rfl, rfl, rfl, trivial⟩ rfl hfix ?_
 refine zBn ?_
 refine zF Z (fun k0 => ?_) (fun k0 => ?_)
 ·have k0 : x.kind = 0 := k0
  have hN := hx0 k0
  obtain ⟨N, hNc⟩ : ∃ N : Nat, x.count = (N : Int) := ⟨x.count.toNat, by omega⟩
  repeat (first | refine zA (zH rfl) ?_ | refine zX ?_ | refine zK rfl ?_ | refine zA (zD rfl rfl rfl rfl) ?_ | refine zA (zI rfl rfl rfl rfl rfl rfl) ?_ | refine zA (zAE rfl rfl rfl rfl rfl rfl) ?_)
  rw [hNc]
  refine zQ Z Z Z (line_ok r hv p S mover N (by omega)) ?_
  refine rn6 ?_
  refine zN hR Z ?_
  unfold zCy; rw [if_pos k0, hNc]; rfl
 have k0 : x.kind ≠ 0 := k0
 have hp := hx1 k0
 refine rn4 ?_
 refine zF Z (fun k1 => ?_) (fun k1 => ?_)
 ·have k1 : x.kind = 1 := k1
  have hval : zCy r p mover x = zJu r p mover (2 * x.piece + mover + 1) := by unfold zCy; rw [if_neg k0, if_pos k1]
  refine zBn ?_
  refine zx (ι := Nat) (fun k => [(3, .int .i64 mover), (4, .rp (.box (ruC r)) 0 0), (5, .rp (.box (poC p)) 0 0), (6, .rp (.box (enC x)) 0 0), (27, zt p.cells), (28, iN p.cells.length), (29, iN k)]) (fun _ => [])
   (fun k => k ≤ p.cells.length ∧ (List.range k).any (fun s => decide (zAG p s = 2 * x.piece + mover + 1) && zE6 r mover s) = false) (fun k => p.cells.length - k) 0 ⟨⟨rfl, rfl, rfl, rfl, rfl, rfl, rfl, trivial⟩, rfl, Nat.zero_le _, rfl⟩ ?_
  intro k ⟨hk, hno⟩
  refine rn4 ?_
  refine zF Z (fun q => ?_) (fun q => ?_)
  ·have hk' : k < p.cells.length := by omega
   have hst : (List.range (k + 1)).any (fun s => decide (zAG p s = 2 * x.piece + mover + 1) && zE6 r mover s) = (decide (zAG p k = 2 * x.piece + mover + 1) && zE6 r mover k) := by rw [List.range_succ, List.any_append, hno]; simp
   repeat (first | refine zA (zH rfl) ?_ | refine zA (zP rfl) ?_ | refine zA (zBe rfl rfl rfl) ?_ | refine zC ?_ | refine zB ?_ | refine zX ?_ | refine zK rfl ?_ | refine zAT ?_ | refine zAL ?_ | refine zA (zg rfl rfl rfl rfl (by first | (simp only [Nat.zero_add, Int.toNat_natCast, Int.toNat_zero]; exact rfl) | exact rfl) (by omega)) ?_ | refine zA (zD rfl rfl rfl rfl) ?_ | refine zA (zI rfl rfl rfl rfl rfl rfl) ?_)
   refine zA (zCo Z Z (by omega)) ?_
   refine rn4 ?_
   refine zh Z Z (fun a1 => ?_) (fun a1 => ?_)
   ·have a1 : zAG p k = 2 * x.piece + mover + 1 := a1
    rw [decide_eq_true a1, Bool.true_and] at hst
    refine rn6 ?_
    refine zQ Z Z Z (zJD r hw hh mover k (by omega)) ?_
    refine rn2 ?_
    refine zAO Z (fun a2 => ?_) (fun a2 => ?_)
    ·refine rn6 ?_
     refine zN hR Z ?_
     rw [hval]
     unfold zJu
     rw [show (List.range p.cells.length).any (fun s => decide (zAG p s = 2 * x.piece + mover + 1) && zE6 r mover s) = true from List.any_eq_true.2 ⟨k, List.mem_range.2 hk', by rw [decide_eq_true a1, a2]; rfl⟩]; rfl
    ·refine rn5 ?_
     exact zS ⟨k + 1, ⟨by omega, by rw [hst]; exact a2⟩, by omega, ⟨Z, Z, Z, Z, Z, Z, Z, trivial⟩, Z⟩
   ·have a1 : ¬ zAG p k = 2 * x.piece + mover + 1 := a1
    rw [decide_eq_false a1, Bool.false_and] at hst
    refine rn6 ?_
    exact zS ⟨k + 1, ⟨by omega, hst⟩, by omega, ⟨Z, Z, Z, Z, Z, Z, Z, trivial⟩, Z⟩
  ·have hk' : k = p.cells.length := by omega
   subst hk'
   refine rn6 ?_
   refine zN hR Z ?_
   rw [hval]; unfold zJu; rw [hno]; rfl
 ·have k1 : ¬ x.kind = 1 := k1
  have hval : zCy r p mover x = decide (((p.cells.filter (fun c => decide (c = 2 * x.piece + 1 - mover + 1))).length : Int) < x.count) := by unfold zCy; rw [if_neg k0, if_neg k1]
  refine zBn ?_
  refine zx (ι := Nat) (fun k => [(3, .int .i64 mover), (4, .rp (.box (ruC r)) 0 0), (5, .rp (.box (poC p)) 0 0), (6, .rp (.box (enC x)) 0 0), (11, .int .i64 (((p.cells.take k).filter (fun c => decide (c = 2 * x.piece + 1 - mover + 1))).length : Nat)), (50, zt p.cells), (51, iN p.cells.length), (52, iN k)]) (fun _ => [])
   (fun k => k ≤ p.cells.length) (fun k => p.cells.length - k) 0 ⟨⟨rfl, rfl, rfl, rfl, rfl, rfl, rfl, rfl, trivial⟩, rfl, Nat.zero_le _⟩ ?_
  intro k hk
  refine rn4 ?_
  refine zF Z (fun q => ?_) (fun q => ?_)
  ·have hk' : k < p.cells.length := by omega
   have hfl : ((p.cells.take k).filter (fun c => decide (c = 2 * x.piece + 1 - mover + 1))).length ≤ k := Nat.le_trans (List.length_filter_le ..) (by rw [List.length_take]; exact Nat.min_le_left _ _)
   have htk := zz p.cells 0 k hk'
   repeat (first | refine zA (zH rfl) ?_ | refine zA (zP rfl) ?_ | refine zA (zBe rfl rfl rfl) ?_ | refine zC ?_ | refine zB ?_ | refine zX ?_ | refine zK rfl ?_ | refine zAT ?_ | refine zAL ?_ | refine zA (zg rfl rfl rfl rfl (by first | (simp only [Nat.zero_add, Int.toNat_natCast, Int.toNat_zero]; exact rfl) | exact rfl) (by omega)) ?_ | refine zA (zD rfl rfl rfl rfl) ?_ | refine zA (zI rfl rfl rfl rfl rfl rfl) ?_)
   refine zA (zCo Z Z (by omega)) ?_
   repeat (first | refine zA (zH rfl) ?_ | refine zC ?_ | refine zB ?_ | refine zA (zBx rfl rfl) ?_ | refine zA (zA7 rfl rfl (by omega)) ?_ | refine zA (zBK rfl rfl (by omega)) ?_)
   refine zF Z (fun a1 => ?_) (fun a1 => ?_)
   ·have a1 : p.cells.getD k 0 = 2 * x.piece + 1 - mover + 1 := a1
    have e : ((p.cells.take (k + 1)).filter (fun c => decide (c = 2 * x.piece + 1 - mover + 1))).length = ((p.cells.take k).filter (fun c => decide (c = 2 * x.piece + 1 - mover + 1))).length + 1 := by rw [htk, List.filter_append, List.length_append, List.filter_cons_of_pos (by exact decide_eq_true a1)]; rfl
    refine rn5 ?_
    exact zS ⟨k + 1, by omega, by omega, ⟨Z, Z, Z, Z, by rw [e]; rfl, Z, Z, Z, trivial⟩, Z⟩
   ·have a1 : ¬ p.cells.getD k 0 = 2 * x.piece + 1 - mover + 1 := a1
    have e : ((p.cells.take (k + 1)).filter (fun c => decide (c = 2 * x.piece + 1 - mover + 1))).length = ((p.cells.take k).filter (fun c => decide (c = 2 * x.piece + 1 - mover + 1))).length := by rw [htk, List.filter_append, List.length_append, List.filter_cons_of_neg (by rw [decide_eq_false a1]; exact Bool.false_ne_true)]; rfl
    refine rn5 ?_
    exact zS ⟨k + 1, by omega, by omega, ⟨Z, Z, Z, Z, by rw [e]; rfl, Z, Z, Z, trivial⟩, Z⟩
  ·have hk' : k = p.cells.length := by omega
   subst hk'
   rw [List.take_length]
   repeat (first | refine zA (zH rfl) ?_ | refine zA (zP rfl) ?_ | refine zC ?_ | refine zB ?_ | refine zX ?_ | refine zK rfl ?_ | refine zCS ?_ | refine zAm ?_ | refine zAl ?_ | refine zAy ?_ | refine zAB ?_ | refine zA (zCB rfl rfl) ?_ | refine zA (zD rfl rfl rfl rfl) ?_ | refine zA (zI rfl rfl rfl rfl rfl rfl) ?_)
   refine zN hR Z ?_
   rw [hval]; rfl
/-- ends.Result$1 -/
theorem zLW (r : Go.Ax.Gm.Rules) (hv : ValidR r) (p : Pos) (S : Sound r p) (x : En) (hx : zDZ r.pcs.length x = 0) (mover : Int) (hm : 0 ≤ mover ∧ mover ≤ 1) : zl Tryz.prog 83 [.agg (enC x), .rp (.box (ruC r)) 0 0, .rp (.box (poC p)) 0 0, .rp (.box [.int .i64 mover]) 0 0] (.bool (zCy r p mover x)) := by
 refine zd.value0 (zL (P := Tryz.prog) (fn := Tryz.f83) Z Z (by kernel_rfl) Z (fun c hR hfix => ?_)) (fix := fun _ => False) (fun _ h => h) Z Z
 repeat (first | refine zA (zP rfl) ?_ | refine zC ?_ | refine zB ?_ | refine zX ?_ | refine zK rfl ?_ | refine zA (zD rfl rfl rfl rfl) ?_ | refine zA (zAE rfl rfl rfl rfl rfl rfl) ?_ | refine zA (qpp rfl rfl rfl rfl rfl rfl rfl) ?_ | refine zAo rfl rfl ?_)
 refine zQ Z Z Z (holds_ok r hv p S x hx mover hm) ?_
 refine rn0 ?_
 exact zN hR Z Z
theorem zKT {α : Type} (p : α → Bool) : ∀ l : List α, zDD p l = if l.findIdx p < l.length then ((l.findIdx p : Nat) : Int) else -1
 | [] => rfl
 | x :: r => by
  have ih := zKT p r
  rw [zDD, List.findIdx_cons]
  by_cases h : p x = true
  ·rw [if_pos h, h]; simp
  ·rw [if_neg h, Bool.eq_false_iff.2 h, ih, cond_false, List.length_cons]
   have hle := List.findIdx_le_length (p := p) (xs := r)
   by_cases h2 : r.findIdx p < r.length
   ·rw [if_pos h2, if_neg (by omega), if_pos (by omega)]; omega
   ·rw [if_neg h2, if_pos (by omega), if_neg (by omega)]
theorem zDq {r : Go.Ax.Gm.Rules} {p : Pos} (h : zCL r p = 0) : zAk r = 0 ∧ Sound r p := by
 unfold zCL at h
 split at h
 ·rename_i q; exact absurd h q
 ·rename_i q; exact ⟨Classical.not_not.1 q, zHQ.1 h⟩
/-- ends.Result -/
theorem zG3 (r : Go.Ax.Gm.Rules) (hv : ValidR r) (p : Pos) (S : Sound r p) : zl Tryz.prog 56 [ruA r, poA p] (.int .i64 (zq r p)) := by
 refine zd.value0 (zL (P := Tryz.prog) (fn := Tryz.f56) Z Z (by kernel_rfl) Z (fun c hR hfix => ?_)) (fix := fun _ => False) (fun _ h => h) Z Z
 have htn : 0 ≤ p.turn ∧ p.turn ≤ 1 := by have := S.tn; omega
 have hen := hv.e6
 refine zX ?_
 repeat (first | refine zA (zP rfl) ?_ | refine zC ?_ | refine zB ?_ | refine zK rfl ?_ | refine zAo rfl rfl ?_)
 refine zX ?_
 repeat (first | refine zC ?_ | refine zB ?_ | refine zK rfl ?_ | refine zA (zU rfl rfl rfl rfl rfl) ?_ | refine zA (zBK rfl rfl (by omega)) ?_ | refine zA (zM rfl rfl rfl rfl rfl rfl) ?_ | refine zAJ rfl rfl rfl rfl rfl rfl rfl Nat.zero_lt_one ?_ | refine zAS rfl rfl rfl ?_)
 refine zHi [(2, .rp (.box (ruC r)) 0 0), (3, .rp (.box (poC p)) 0 0), (5, .rp (.box [.int .i64 (1 - p.turn)]) 0 0)] (zCM (zw rfl) (zCM (zw rfl) (zCM (zw rfl) zCp))) ⟨⟨.ptr 0 0 0, rfl, .inr (.inr ⟨rfl, fun o ho => by cases ho; exact Nat.zero_lt_one⟩)⟩, ⟨.ptr 1 0 0, rfl, .inr (.inr ⟨rfl, fun o ho => by cases ho; exact Nat.zero_lt_one⟩)⟩, ⟨.ptr 2 0 0, rfl, .inr (.inr ⟨rfl, fun o ho => by cases ho; exact Nat.zero_lt_one⟩)⟩, trivial⟩ ⟨rfl, rfl, rfl, trivial⟩ rfl hfix ?_
 refine zBn ?_
 have cidx := zKV r.ends r.ends.length 83 [.rp (.box (ruC r)) 0 0, .rp (.box (poC p)) 0 0, .rp (.box [.int .i64 (1 - p.turn)]) 0 0] (zCy r p (1 - p.turn)) (Nat.le_refl _) rfl (by omega) (fun x hx => zLW r hv p S x (hv.en x hx) (1 - p.turn) (by omega))
 rw [List.take_length, zKT] at cidx
 obtain ⟨I, hI⟩ : ∃ I, r.ends.findIdx (zCy r p (1 - p.turn)) = I := ⟨_, rfl⟩
 rw [hI] at cidx
 refine zQ Z Z Z cidx ?_
 by_cases hlt : I < r.ends.length
 ·rw [if_pos hlt]
  have hval : zq r p = if (r.ends.getD I en0).loses = true then 1 + p.turn else 1 + (1 - p.turn) := by unfold zq; rw [hI, if_pos hlt]
  refine zBn ?_
  refine zBp 21 (.bool (r.ends.getD I en0).loses) Z (AEq.of_eq Z) ?_
  refine zAO Z (fun b => ?_) (fun b => ?_)
  ·have b : (r.ends.getD I en0).loses = true := b
   refine zBn ?_
   refine zQ Z Z Z (zHe p.turn htn) ?_
   refine rn2 ?_
   refine zN hR Z ?_
   rw [hval, if_pos b]; rfl
  ·have b : (r.ends.getD I en0).loses = false := b
   refine rn8 ?_
   refine zQ Z Z Z (zHe (1 - p.turn) (by omega)) ?_
   refine rn2 ?_
   refine zN hR Z ?_
   rw [hval, if_neg (by rw [b]; exact Bool.false_ne_true)]; rfl
 rw [if_neg hlt]
 have hval : zq r p = if r.quiet ≠ 0 ∧ r.quiet ≤ p.quiet then 3 else if 0 < (z7 r p).length then 0 else if r.blocked = 0 then 1 + (1 - p.turn) else if r.blocked = 1 then 1 + p.turn else 3 := by unfold zq; rw [hI, if_neg hlt]
 refine zBn ?_
 apply zAD (H := []) [(2, .rp (.box (ruC r)) 0 0), (3, .rp (.box (poC p)) 0 0), (5, .rp (.box [.int .i64 (1 - p.turn)]) 0 0), (27, .bool (decide (r.quiet ≠ 0 ∧ r.quiet ≤ p.quiet)))]
 ·intro fin
  refine zh Z Z (fun b => ?_) (fun b => ?_)
  ·have b : r.quiet ≠ 0 := b
   repeat (first | refine zA (zP rfl) ?_ | refine zC ?_ | refine zB ?_ | refine zo rfl rfl ?_ | refine zA (zDs rfl rfl) ?_ | refine zA (zf rfl rfl) ?_ | refine zA (zD rfl rfl rfl rfl) ?_ | refine zA (zI rfl rfl rfl rfl rfl rfl) ?_)
   exact fin _ ⟨Z, Z, Z, congrArg (fun b => some (AV.bool b)) (decide_eq_decide.2 (show r.quiet ≤ p.quiet ↔ _ from ⟨fun h => ⟨b, h⟩, fun h => h.2⟩)), trivial⟩
  ·have b : ¬ r.quiet ≠ 0 := b
   refine zAn ?_
   exact fin _ ⟨Z, Z, Z, congrArg (fun b => some (AV.bool b)) (show false = decide (r.quiet ≠ 0 ∧ r.quiet ≤ p.quiet) from (decide_eq_false (fun h => b h.1)).symm), trivial⟩
 refine zF Z (fun q1 => ?_) (fun q1 => ?_)
 ·refine rn6 ?_
  refine zN hR Z ?_
  rw [hval, if_pos q1]; rfl
 rw [if_neg q1] at hval
 refine rn6 ?_
 refine zQ Z Z Z (list_ok r hv p S) ?_
 refine rn6 ?_
 refine zF Z (fun q2 => ?_) (fun q2 => ?_)
 ·refine rn6 ?_
  refine zN hR Z ?_
  rw [hval, if_pos (by omega)]; rfl
 rw [if_neg (by omega)] at hval
 refine zBn ?_
 refine zF Z (fun q3 => ?_) (fun q3 => ?_)
 ·refine rn8 ?_
  refine zQ Z Z Z (zHe (1 - p.turn) (by omega)) ?_
  refine rn6 ?_
  refine zN hR Z ?_
  rw [hval, if_pos q3]; rfl
 rw [if_neg q3] at hval
 refine zBn ?_
 refine zF Z (fun q4 => ?_) (fun q4 => ?_)
 ·refine zBn ?_
  refine zQ Z Z Z (zHe p.turn htn) ?_
  refine rn6 ?_
  refine zN hR Z ?_
  rw [hval, if_pos q4]; rfl
 refine rn5 ?_
 refine zN hR Z ?_
 rw [hval, if_neg q4]; rfl
/-- ends.Moves -/
theorem zHD (r : Go.Ax.Gm.Rules) (hv : ValidR r) (p : Pos) (S : Sound r p) : zl Tryz.prog 61 [ruA r, poA p] (zBX (zAs r p)) := by
 refine zd.value0 (zL (P := Tryz.prog) (fn := Tryz.f61) Z Z (by kernel_rfl) Z (fun c hR hfix => ?_)) (fix := fun _ => False) (fun _ h => h) Z Z
 refine rn6 ?_
 refine zQ Z Z Z (zG3 r hv p S) ?_
 refine rn3 ?_
 refine zF Z (fun q => ?_) (fun q => ?_)
 ·refine rn7 ?_
  refine zBp 4 (zBX []) Z AEq.nil ?_
  refine rn2 ?_
  refine zN hR Z ?_
  unfold zAs; rw [if_pos q]; rfl
 ·refine rn6 ?_
  refine zQ Z Z Z (list_ok r hv p S) ?_
  refine rn0 ?_
  refine zN hR Z ?_
  unfold zAs; rw [if_neg q]; rfl
/-- ends.Of -/
theorem endOf_ok (r : Go.Ax.Gm.Rules) (hr : Lens r) (p : Pos) (hp : LenP p) : zl Tryz.prog 20 [ruA r, poA p] (.tup [.int .i64 (if zCL r p ≠ 0 then 0 else zq r p), .int .i64 (zCL r p)]) := by
 refine zd.value0 (zL (P := Tryz.prog) (fn := Tryz.f20) Z Z (by kernel_rfl) Z (fun c hR hfix => ?_)) (fix := fun _ => False) (fun _ h => h) Z Z
 refine rn6 ?_
 refine zQ Z Z Z (zD1 r hr p hp) ?_
 refine rn3 ?_
 refine zF Z (fun q => ?_) (fun q => ?_)
 ·refine rn2 ?_
  refine zN hR Z ?_
  rw [if_pos q]; rfl
 ·obtain ⟨hz, S⟩ := zDq (Classical.not_not.1 q)
  refine rn6 ?_
  refine zQ Z Z Z (zG3 r (zBO hz) p S) ?_
  refine rn0 ?_
  refine zN hR Z ?_
  rw [if_neg q, Classical.not_not.1 q]; rfl
/-- moves.All -/
theorem all_ok (r : Go.Ax.Gm.Rules) (hr : Lens r) (p : Pos) (hp : LenP p) : zl Tryz.prog 32 [ruA r, poA p] (.tup [zBX (if zCL r p ≠ 0 then [] else z7 r p), .int .i64 (zCL r p)]) := by
 refine zd.value0 (zL (P := Tryz.prog) (fn := Tryz.f32) Z Z (by kernel_rfl) Z (fun c hR hfix => ?_)) (fix := fun _ => False) (fun _ h => h) Z Z
 refine rn6 ?_
 refine zQ Z Z Z (zD1 r hr p hp) ?_
 refine rn3 ?_
 refine zF Z (fun q => ?_) (fun q => ?_)
 ·refine rn7 ?_
  refine zBp 4 (zBX []) Z AEq.nil ?_
  refine rn2 ?_
  refine zN hR Z ?_
  rw [if_pos q]; rfl
 ·obtain ⟨hz, S⟩ := zDq (Classical.not_not.1 q)
  refine rn6 ?_
  refine zQ Z Z Z (list_ok r (zBO hz) p S) ?_
  refine rn0 ?_
  refine zN hR Z ?_
  rw [if_neg q, Classical.not_not.1 q]; rfl
def poZ : List AV := [.nil, .nil, .nil, .int .i64 0, .int .i64 0]
def poB (s : List Int) (x y : AV) : List AV := [zt s, x, y, .int .i64 0, .int .i64 0]
abbrev hpB (s : List Int) (x y : AV) (l l' : List Int) : zO := [none, some ⟨35, .box poZ⟩, some ⟨35, .box (poB s x y)⟩, some ⟨3, .ints .i64 l⟩, some ⟨3, .ints .i64 l'⟩]
/-- place.Begin, refused -/
theorem begin_no (r : Go.Ax.Gm.Rules) (hr : Lens r) (h : zAk r ≠ 0) : zl Tryz.prog 28 [ruA r] (.tup [poA zj, .int .i64 (zAk r)]) := by
 refine zd.value0 (zL (P := Tryz.prog) (fn := Tryz.f28) Z Z (by kernel_rfl) Z (fun c hR hfix => ?_)) (fix := fun _ => False) (fun _ h => h) Z Z
 refine rn6 ?_
 refine zQ Z Z Z (zHq r hr) ?_
 refine rn3 ?_
 refine zF Z (fun h1 => ?_) (fun h1 => absurd h1 (fun q => q h))
 refine rn8 ?_
 refine zW poZ Z Z Z Z Z Z Z ?_
 refine rn7 ?_
 refine zJ9 [some ⟨26, .box (ruC r)⟩, some ⟨35, .box (poC zj)⟩] Z ?_ ?_
 ·intro h o ho
  match h, ho with
  | 0, ho => cases ho; exact ⟨_, rfl, rfl, rfl, rfl, fun _ _ _ _ => AEq.rfl'⟩
  | 1, ho =>
   cases ho
   refine ⟨_, Z, Z, Z, Z, fun i j hi hj => ?_⟩
   obtain rfl : i = 0 := Nat.lt_one_iff.1 hi
   have hj : j < 5 := hj
   match j, hj with
   | 0, _ => exact AEq.nil
   | 1, _ => exact AEq.nil
   | 2, _ => exact AEq.nil
   | 3, _ => exact AEq.rfl'
   | 4, _ => exact AEq.rfl'
  | _ + 2, ho => simp at ho
 refine rn2 ?_
 exact zN hR Z Z
/-- place.Begin -/
theorem zKB (r : Go.Ax.Gm.Rules) (hr : Lens r) (h : zAk r = 0) : zl Tryz.prog 28 [ruA r] (.tup [poA (zBL r), .int .i64 0]) := by
 refine zd.value0 (zL (P := Tryz.prog) (fn := Tryz.f28) Z Z (by kernel_rfl) Z (fun c hR hfix => ?_)) (fix := fun _ => False) (fun _ h => h) Z Z
 have hs := zKr (zBO h)
 have hpl := hs.pcs
 have hsl := hs.start
 refine rn6 ?_
 refine zQ Z Z Z (zHq r hr) ?_
 refine rn3 ?_
 refine zF Z (fun h1 => absurd h h1) (fun _ => ?_)
 refine rn5 ?_
 refine zQ Z Z Z (zHr r.start (by omega)) ?_
 refine rn8 ?_
 refine zW (poB r.start .nil .nil) Z Z Z Z Z Z Z ?_
 refine rn5 ?_
 refine zA3 [some ⟨26, .box (ruC r)⟩, none, none] [none, some ⟨35, .box poZ⟩, some ⟨35, .box (poB r.start .nil .nil)⟩] [(2, .ptr 1 0 0), (5, .ptr 2 0 0), (19, .ro (zAb r.pcs) 0 r.pcs.length), (20, iN r.pcs.length), (21, .int .i64 ((0 : Nat) : Int))] ?_ (zCM (zw Z) (zCN (zCN zCp))) Z ?_ (zB7 ⟨Z, Z, Z, Z, Z, trivial⟩) ?_
 ·intro h o ho
  match h, ho with
  | 0, ho => exact ho
  | 1, ho => simp at ho
  | 2, ho => simp at ho
  | _ + 3, ho => simp at ho
 ·intro h o ho
  match h, ho with
  | 0, ho => simp at ho
  | 1, ho => cases ho; exact ⟨fun o h => by simp at h, _, rfl, rfl, rfl, rfl, fun _ _ _ _ => .inl rfl⟩
  | 2, ho => cases ho; exact ⟨fun o h => by simp at h, _, rfl, rfl, rfl, rfl, fun _ _ _ _ => .inl rfl⟩
  | _ + 3, ho => simp at ho
 refine zDW 2 ⟨3, .ints .i64 []⟩ (.box (poB r.start (.sl 3 0 0) .nil)) Z Z Z Z (fun i j hi hj => ?_) ?_
 ·obtain rfl : i = 0 := Nat.lt_one_iff.1 hi
  have hj : j < 5 := hj
  match j, hj with
  | 0, _ => exact .inl rfl
  | 1, _ => exact .inr ⟨rfl, rfl⟩
  | 2, _ => exact .inl rfl
  | 3, _ => exact .inl rfl
  | 4, _ => exact .inl rfl
 refine zDW 2 ⟨3, .ints .i64 []⟩ (.box (poB r.start (.sl 3 0 0) (.sl 4 0 0))) Z Z Z Z (fun i j hi hj => ?_) ?_
 ·obtain rfl : i = 0 := Nat.lt_one_iff.1 hi
  have hj : j < 5 := hj
  match j, hj with
  | 0, _ => exact .inl rfl
  | 1, _ => exact .inl rfl
  | 2, _ => exact .inr ⟨rfl, rfl⟩
  | 3, _ => exact .inl rfl
  | 4, _ => exact .inl rfl
 refine zx (ι := Nat) (fun k => [(2, .ptr 1 0 0), (5, .ptr 2 0 0), (19, .ro (zAb r.pcs) 0 r.pcs.length), (20, iN r.pcs.length), (21, iN k)]) (fun k => hpB r.start (.sl 3 0 k) (.sl 4 0 k) ((zBW r).take k) ((zBW r).take k))
  (fun k => k ≤ r.pcs.length) (fun k => r.pcs.length - k) 0 ⟨⟨rfl, rfl, rfl, rfl, rfl, trivial⟩, rfl, Nat.zero_le _⟩ ?_
 intro k hk
 have hhl : (zBW r).length = r.pcs.length := List.length_map ..
 refine rn4 ?_
 refine zF Z (fun h2 => ?_) (fun h2 => ?_)
 ·have hk' : k < r.pcs.length := by omega
  generalize hp : r.pcs.getD k pc0 = p
  have hph : (zBW r).getD k 0 = p.hand := by rw [← hp]; unfold zBW; simp [List.getD, hk']
  have htk : (zBW r).take (k + 1) = (zBW r).take k ++ [p.hand] := by rw [zz _ 0 k (by omega), hph]
  have htl : ((zBW r).take k).length = k := by rw [List.length_take]; omega
  generalize hA : (zBW r).take k = A at htl htk
  refine zF6 ?_
  repeat (refine zAS rfl rfl rfl ?_)
  refine zW (pcC p) Z Z Z Z Z (by rw [← hp]; rfl) Z ?_
  refine rn0 ?_
  refine zA3 [none, none, none, none, none, some ⟨114, .box (pcC p)⟩] [none, some ⟨35, .box poZ⟩, some ⟨35, .box (poB r.start (.sl 3 0 k) (.sl 4 0 k))⟩, some ⟨3, .ints .i64 A⟩, some ⟨3, .ints .i64 A⟩, none] [(2, .ptr 1 0 0), (5, .ptr 2 0 0), (19, .ro (zAb r.pcs) 0 r.pcs.length), (20, iN r.pcs.length), (21, iN k), (7, .rp (.box (pcC p)) 0 0)] ?_ (zCN (zCN (zCN (zCN (zCN (zCM (zw rfl) zCp)))))) rfl ?_ ⟨⟨_, rfl, .inl rfl⟩, ⟨_, rfl, .inl rfl⟩, ⟨_, rfl, .inl rfl⟩, ⟨_, rfl, .inl rfl⟩, ⟨_, rfl, .inl rfl⟩, ⟨.ptr 5 0 0, rfl, .inr (.inr ⟨rfl, fun o ho => by cases ho; exact Nat.zero_lt_one⟩)⟩, trivial⟩ ?_
  ·intro h o ho
   match h, ho with
   | 0, ho => simp at ho
   | 1, ho => simp at ho
   | 2, ho => simp at ho
   | 3, ho => simp at ho
   | 4, ho => simp at ho
   | 5, ho => exact ho
   | _ + 6, ho => simp at ho
  ·intro h o ho
   match h, ho with
   | 0, ho => simp at ho
   | 1, ho => cases ho; exact ⟨fun o h => by simp at h, _, rfl, rfl, rfl, rfl, fun _ _ _ _ => .inl rfl⟩
   | 2, ho => cases ho; exact ⟨fun o h => by simp at h, _, rfl, rfl, rfl, rfl, fun _ _ _ _ => .inl rfl⟩
   | 3, ho => cases ho; exact ⟨fun o h => by simp at h, _, rfl, rfl, rfl, rfl, fun _ _ _ _ => .inl rfl⟩
   | 4, ho => cases ho; exact ⟨fun o h => by simp at h, _, rfl, rfl, rfl, rfl, fun _ _ _ _ => .inl rfl⟩
   | 5, ho => simp at ho
   | _ + 6, ho => simp at ho
  have hb : (k + 1) * 8 ≤ 140737488355328 ∧ k + 1 ≤ 9223372036854775807 := by omega
  refine ze (by kernel_rfl) ?_
  refine zV 0 Z (by kernel_rfl) (by kernel_rfl) (by kernel_rfl) Z (zM Z Z Z Z Z Z) Z ?_
  refine zV 1 Z (by kernel_rfl) (by kernel_rfl) (by kernel_rfl) Z (zAa Z Z Z Z (by first | (simp only [Nat.zero_add, Int.toNat_natCast]; exact Z) | exact Z) (by omega)) Z ?_
  refine zV 3 Z (by kernel_rfl) (by kernel_rfl) (by kernel_rfl) Z (zI Z Z Z Z Z Z) Z ?_
  refine zV 7 Z (by kernel_rfl) (by kernel_rfl) (by kernel_rfl) Z (zM Z Z Z Z Z Z) Z ?_
  refine zV 8 Z (by kernel_rfl) (by kernel_rfl) (by kernel_rfl) Z (zAa Z Z Z Z (by first | (simp only [Nat.zero_add, Int.toNat_natCast]; exact Z) | exact Z) (by omega)) Z ?_
  refine zV 10 Z (by kernel_rfl) (by kernel_rfl) (by kernel_rfl) Z (zI Z Z Z Z Z Z) Z ?_
  refine zV 14 Z (by kernel_rfl) (by kernel_rfl) (by kernel_rfl) Z (zM Z Z Z Z Z Z) Z ?_
  refine zV 17 Z (by kernel_rfl) (by kernel_rfl) (by kernel_rfl) Z (zM Z Z Z Z Z Z) Z ?_
  apply zR (H := [none, some ⟨35, .box poZ⟩, some ⟨35, .box (poB r.start .any .any)⟩, some ⟨3, .ints .i64 (A ++ [p.hand])⟩, some ⟨3, .ints .i64 (A ++ [p.hand])⟩, none]) [(2, .ptr 1 0 0), (5, .ptr 2 0 0), (19, .ro (zAb r.pcs) 0 r.pcs.length), (20, iN r.pcs.length), (21, iN k), (31, .sl 3 0 (k + 1)), (38, .sl 4 0 (k + 1)), (40, .ptr 2 0 1), (41, .ptr 2 0 1)]
  intro fin
  apply zR (H := [none, some ⟨35, .box poZ⟩, some ⟨35, .box (poB r.start .any (.sl 4 0 k))⟩, some ⟨3, .ints .i64 (A ++ [p.hand])⟩, some ⟨3, .ints .i64 A⟩, none]) [(2, .ptr 1 0 0), (5, .ptr 2 0 0), (19, .ro (zAb r.pcs) 0 r.pcs.length), (20, iN r.pcs.length), (21, iN k), (7, .rp (.box (pcC p)) 0 0), (26, .ptr 2 0 1), (28, .rp (.box (pcC p)) 0 1), (33, .ptr 2 0 2), (35, .rp (.box (pcC p)) 0 1), (39, .ptr 2 0 1), (41, .ptr 2 0 1), (31, .sl 3 0 (k + 1)), (34, .sl 4 0 k), (37, .ro (.ints .i64 [p.hand]) 0 1), (40, .ptr 2 0 1)]
  intro s45
  apply zR (H := [none, some ⟨35, .box poZ⟩, some ⟨35, .box (poB r.start .any .any)⟩, some ⟨3, .ints .i64 (A ++ [p.hand])⟩, some ⟨3, .ints .i64 (A ++ [p.hand])⟩, none]) [(2, .ptr 1 0 0), (5, .ptr 2 0 0), (19, .ro (zAb r.pcs) 0 r.pcs.length), (20, iN r.pcs.length), (21, iN k), (7, .rp (.box (pcC p)) 0 0), (26, .ptr 2 0 1), (28, .rp (.box (pcC p)) 0 1), (33, .ptr 2 0 2), (35, .rp (.box (pcC p)) 0 1), (39, .ptr 2 0 1), (41, .ptr 2 0 1), (31, .sl 3 0 (k + 1)), (38, .sl 4 0 (k + 1))]
  intro s44
  apply zR (H := [none, some ⟨35, .box poZ⟩, some ⟨35, .box (poB r.start .any (.sl 4 0 k))⟩, some ⟨3, .ints .i64 (A ++ [p.hand])⟩, some ⟨3, .ints .i64 A⟩, none]) [(2, .ptr 1 0 0), (5, .ptr 2 0 0), (19, .ro (zAb r.pcs) 0 r.pcs.length), (20, iN r.pcs.length), (21, iN k), (7, .rp (.box (pcC p)) 0 0), (26, .ptr 2 0 1), (28, .rp (.box (pcC p)) 0 1), (33, .ptr 2 0 2), (35, .rp (.box (pcC p)) 0 1), (39, .ptr 2 0 1), (41, .ptr 2 0 1), (31, .sl 3 0 (k + 1)), (34, .sl 4 0 k), (36, .int .i64 p.hand), (40, .ptr 2 0 1)]
  intro s43
  apply zR (H := [none, some ⟨35, .box poZ⟩, some ⟨35, .box (poB r.start .any (.sl 4 0 k))⟩, some ⟨3, .ints .i64 (A ++ [p.hand])⟩, some ⟨3, .ints .i64 A⟩, none]) [(2, .ptr 1 0 0), (5, .ptr 2 0 0), (19, .ro (zAb r.pcs) 0 r.pcs.length), (20, iN r.pcs.length), (21, iN k), (7, .rp (.box (pcC p)) 0 0), (26, .ptr 2 0 1), (28, .rp (.box (pcC p)) 0 1), (33, .ptr 2 0 2), (35, .rp (.box (pcC p)) 0 1), (39, .ptr 2 0 1), (41, .ptr 2 0 1), (31, .sl 3 0 (k + 1)), (34, .sl 4 0 k), (37, .ro (.ints .i64 [p.hand]) 0 1)]
  intro s42
  apply zR (H := [none, some ⟨35, .box poZ⟩, some ⟨35, .box (poB r.start (.sl 3 0 k) (.sl 4 0 k))⟩, some ⟨3, .ints .i64 A⟩, some ⟨3, .ints .i64 A⟩, none]) [(2, .ptr 1 0 0), (5, .ptr 2 0 0), (19, .ro (zAb r.pcs) 0 r.pcs.length), (20, iN r.pcs.length), (21, iN k), (7, .rp (.box (pcC p)) 0 0), (26, .ptr 2 0 1), (28, .rp (.box (pcC p)) 0 1), (33, .ptr 2 0 2), (35, .rp (.box (pcC p)) 0 1), (39, .ptr 2 0 1), (41, .ptr 2 0 1), (27, .sl 3 0 k), (30, .ro (.ints .i64 [p.hand]) 0 1), (34, .sl 4 0 k), (37, .ro (.ints .i64 [p.hand]) 0 1)]
  intro s41
  apply zR (H := [none, some ⟨35, .box poZ⟩, some ⟨35, .box (poB r.start .any (.sl 4 0 k))⟩, some ⟨3, .ints .i64 (A ++ [p.hand])⟩, some ⟨3, .ints .i64 A⟩, none]) [(2, .ptr 1 0 0), (5, .ptr 2 0 0), (19, .ro (zAb r.pcs) 0 r.pcs.length), (20, iN r.pcs.length), (21, iN k), (7, .rp (.box (pcC p)) 0 0), (26, .ptr 2 0 1), (28, .rp (.box (pcC p)) 0 1), (33, .ptr 2 0 2), (35, .rp (.box (pcC p)) 0 1), (39, .ptr 2 0 1), (41, .ptr 2 0 1), (31, .sl 3 0 (k + 1)), (37, .ro (.ints .i64 [p.hand]) 0 1)]
  intro s40
  apply zR (H := [none, some ⟨35, .box poZ⟩, some ⟨35, .box (poB r.start .any (.sl 4 0 k))⟩, some ⟨3, .ints .i64 (A ++ [p.hand])⟩, some ⟨3, .ints .i64 A⟩, none]) [(2, .ptr 1 0 0), (5, .ptr 2 0 0), (19, .ro (zAb r.pcs) 0 r.pcs.length), (20, iN r.pcs.length), (21, iN k), (7, .rp (.box (pcC p)) 0 0), (26, .ptr 2 0 1), (28, .rp (.box (pcC p)) 0 1), (33, .ptr 2 0 2), (35, .rp (.box (pcC p)) 0 1), (39, .ptr 2 0 1), (41, .ptr 2 0 1), (31, .sl 3 0 (k + 1)), (34, .sl 4 0 k), (40, .ptr 2 0 1)]
  intro s39
  apply zR (H := [none, some ⟨35, .box poZ⟩, some ⟨35, .box (poB r.start .any (.sl 4 0 k))⟩, some ⟨3, .ints .i64 (A ++ [p.hand])⟩, some ⟨3, .ints .i64 A⟩, none]) [(2, .ptr 1 0 0), (5, .ptr 2 0 0), (19, .ro (zAb r.pcs) 0 r.pcs.length), (20, iN r.pcs.length), (21, iN k), (7, .rp (.box (pcC p)) 0 0), (26, .ptr 2 0 1), (28, .rp (.box (pcC p)) 0 1), (33, .ptr 2 0 2), (35, .rp (.box (pcC p)) 0 1), (39, .ptr 2 0 1), (41, .ptr 2 0 1), (31, .sl 3 0 (k + 1)), (34, .sl 4 0 k), (36, .int .i64 p.hand)]
  intro s38
  apply zR (H := [none, some ⟨35, .box poZ⟩, some ⟨35, .box (poB r.start (.sl 3 0 k) (.sl 4 0 k))⟩, some ⟨3, .ints .i64 A⟩, some ⟨3, .ints .i64 A⟩, none]) [(2, .ptr 1 0 0), (5, .ptr 2 0 0), (19, .ro (zAb r.pcs) 0 r.pcs.length), (20, iN r.pcs.length), (21, iN k), (7, .rp (.box (pcC p)) 0 0), (26, .ptr 2 0 1), (28, .rp (.box (pcC p)) 0 1), (33, .ptr 2 0 2), (35, .rp (.box (pcC p)) 0 1), (39, .ptr 2 0 1), (41, .ptr 2 0 1), (30, .ro (.ints .i64 [p.hand]) 0 1), (34, .sl 4 0 k), (37, .ro (.ints .i64 [p.hand]) 0 1)]
  intro s37
  apply zR (H := [none, some ⟨35, .box poZ⟩, some ⟨35, .box (poB r.start (.sl 3 0 k) (.sl 4 0 k))⟩, some ⟨3, .ints .i64 A⟩, some ⟨3, .ints .i64 A⟩, none]) [(2, .ptr 1 0 0), (5, .ptr 2 0 0), (19, .ro (zAb r.pcs) 0 r.pcs.length), (20, iN r.pcs.length), (21, iN k), (7, .rp (.box (pcC p)) 0 0), (26, .ptr 2 0 1), (28, .rp (.box (pcC p)) 0 1), (33, .ptr 2 0 2), (35, .rp (.box (pcC p)) 0 1), (39, .ptr 2 0 1), (41, .ptr 2 0 1), (27, .sl 3 0 k), (29, .int .i64 p.hand), (34, .sl 4 0 k), (37, .ro (.ints .i64 [p.hand]) 0 1)]
  intro s36
  apply zR (H := [none, some ⟨35, .box poZ⟩, some ⟨35, .box (poB r.start (.sl 3 0 k) (.sl 4 0 k))⟩, some ⟨3, .ints .i64 A⟩, some ⟨3, .ints .i64 A⟩, none]) [(2, .ptr 1 0 0), (5, .ptr 2 0 0), (19, .ro (zAb r.pcs) 0 r.pcs.length), (20, iN r.pcs.length), (21, iN k), (7, .rp (.box (pcC p)) 0 0), (26, .ptr 2 0 1), (28, .rp (.box (pcC p)) 0 1), (33, .ptr 2 0 2), (35, .rp (.box (pcC p)) 0 1), (39, .ptr 2 0 1), (41, .ptr 2 0 1), (27, .sl 3 0 k), (30, .ro (.ints .i64 [p.hand]) 0 1), (37, .ro (.ints .i64 [p.hand]) 0 1)]
  intro s35
  apply zR (H := [none, some ⟨35, .box poZ⟩, some ⟨35, .box (poB r.start (.sl 3 0 k) (.sl 4 0 k))⟩, some ⟨3, .ints .i64 A⟩, some ⟨3, .ints .i64 A⟩, none]) [(2, .ptr 1 0 0), (5, .ptr 2 0 0), (19, .ro (zAb r.pcs) 0 r.pcs.length), (20, iN r.pcs.length), (21, iN k), (7, .rp (.box (pcC p)) 0 0), (26, .ptr 2 0 1), (28, .rp (.box (pcC p)) 0 1), (33, .ptr 2 0 2), (35, .rp (.box (pcC p)) 0 1), (39, .ptr 2 0 1), (41, .ptr 2 0 1), (27, .sl 3 0 k), (30, .ro (.ints .i64 [p.hand]) 0 1), (34, .sl 4 0 k), (36, .int .i64 p.hand)]
  intro s34
  apply zR (H := [none, some ⟨35, .box poZ⟩, some ⟨35, .box (poB r.start .any (.sl 4 0 k))⟩, some ⟨3, .ints .i64 (A ++ [p.hand])⟩, some ⟨3, .ints .i64 A⟩, none]) [(2, .ptr 1 0 0), (5, .ptr 2 0 0), (19, .ro (zAb r.pcs) 0 r.pcs.length), (20, iN r.pcs.length), (21, iN k), (7, .rp (.box (pcC p)) 0 0), (26, .ptr 2 0 1), (28, .rp (.box (pcC p)) 0 1), (33, .ptr 2 0 2), (35, .rp (.box (pcC p)) 0 1), (39, .ptr 2 0 1), (41, .ptr 2 0 1), (31, .sl 3 0 (k + 1)), (36, .int .i64 p.hand)]
  intro s33
  apply zR (H := [none, some ⟨35, .box poZ⟩, some ⟨35, .box (poB r.start .any (.sl 4 0 k))⟩, some ⟨3, .ints .i64 (A ++ [p.hand])⟩, some ⟨3, .ints .i64 A⟩, none]) [(2, .ptr 1 0 0), (5, .ptr 2 0 0), (19, .ro (zAb r.pcs) 0 r.pcs.length), (20, iN r.pcs.length), (21, iN k), (7, .rp (.box (pcC p)) 0 0), (26, .ptr 2 0 1), (28, .rp (.box (pcC p)) 0 1), (33, .ptr 2 0 2), (35, .rp (.box (pcC p)) 0 1), (39, .ptr 2 0 1), (41, .ptr 2 0 1), (31, .sl 3 0 (k + 1)), (34, .sl 4 0 k)]
  intro s32
  apply zR (H := [none, some ⟨35, .box poZ⟩, some ⟨35, .box (poB r.start (.sl 3 0 k) (.sl 4 0 k))⟩, some ⟨3, .ints .i64 A⟩, some ⟨3, .ints .i64 A⟩, none]) [(2, .ptr 1 0 0), (5, .ptr 2 0 0), (19, .ro (zAb r.pcs) 0 r.pcs.length), (20, iN r.pcs.length), (21, iN k), (7, .rp (.box (pcC p)) 0 0), (26, .ptr 2 0 1), (28, .rp (.box (pcC p)) 0 1), (33, .ptr 2 0 2), (35, .rp (.box (pcC p)) 0 1), (39, .ptr 2 0 1), (41, .ptr 2 0 1), (29, .int .i64 p.hand), (34, .sl 4 0 k), (37, .ro (.ints .i64 [p.hand]) 0 1)]
  intro s31
  apply zR (H := [none, some ⟨35, .box poZ⟩, some ⟨35, .box (poB r.start (.sl 3 0 k) (.sl 4 0 k))⟩, some ⟨3, .ints .i64 A⟩, some ⟨3, .ints .i64 A⟩, none]) [(2, .ptr 1 0 0), (5, .ptr 2 0 0), (19, .ro (zAb r.pcs) 0 r.pcs.length), (20, iN r.pcs.length), (21, iN k), (7, .rp (.box (pcC p)) 0 0), (26, .ptr 2 0 1), (28, .rp (.box (pcC p)) 0 1), (33, .ptr 2 0 2), (35, .rp (.box (pcC p)) 0 1), (39, .ptr 2 0 1), (41, .ptr 2 0 1), (30, .ro (.ints .i64 [p.hand]) 0 1), (37, .ro (.ints .i64 [p.hand]) 0 1)]
  intro s30
  apply zR (H := [none, some ⟨35, .box poZ⟩, some ⟨35, .box (poB r.start (.sl 3 0 k) (.sl 4 0 k))⟩, some ⟨3, .ints .i64 A⟩, some ⟨3, .ints .i64 A⟩, none]) [(2, .ptr 1 0 0), (5, .ptr 2 0 0), (19, .ro (zAb r.pcs) 0 r.pcs.length), (20, iN r.pcs.length), (21, iN k), (7, .rp (.box (pcC p)) 0 0), (26, .ptr 2 0 1), (28, .rp (.box (pcC p)) 0 1), (33, .ptr 2 0 2), (35, .rp (.box (pcC p)) 0 1), (39, .ptr 2 0 1), (41, .ptr 2 0 1), (30, .ro (.ints .i64 [p.hand]) 0 1), (34, .sl 4 0 k), (36, .int .i64 p.hand)]
  intro s29
  apply zR (H := [none, some ⟨35, .box poZ⟩, some ⟨35, .box (poB r.start (.sl 3 0 k) (.sl 4 0 k))⟩, some ⟨3, .ints .i64 A⟩, some ⟨3, .ints .i64 A⟩, none]) [(2, .ptr 1 0 0), (5, .ptr 2 0 0), (19, .ro (zAb r.pcs) 0 r.pcs.length), (20, iN r.pcs.length), (21, iN k), (7, .rp (.box (pcC p)) 0 0), (26, .ptr 2 0 1), (28, .rp (.box (pcC p)) 0 1), (33, .ptr 2 0 2), (35, .rp (.box (pcC p)) 0 1), (39, .ptr 2 0 1), (41, .ptr 2 0 1), (27, .sl 3 0 k), (34, .sl 4 0 k), (37, .ro (.ints .i64 [p.hand]) 0 1)]
  intro s28
  apply zR (H := [none, some ⟨35, .box poZ⟩, some ⟨35, .box (poB r.start (.sl 3 0 k) (.sl 4 0 k))⟩, some ⟨3, .ints .i64 A⟩, some ⟨3, .ints .i64 A⟩, none]) [(2, .ptr 1 0 0), (5, .ptr 2 0 0), (19, .ro (zAb r.pcs) 0 r.pcs.length), (20, iN r.pcs.length), (21, iN k), (7, .rp (.box (pcC p)) 0 0), (26, .ptr 2 0 1), (28, .rp (.box (pcC p)) 0 1), (33, .ptr 2 0 2), (35, .rp (.box (pcC p)) 0 1), (39, .ptr 2 0 1), (41, .ptr 2 0 1), (27, .sl 3 0 k), (29, .int .i64 p.hand), (37, .ro (.ints .i64 [p.hand]) 0 1)]
  intro s27
  apply zR (H := [none, some ⟨35, .box poZ⟩, some ⟨35, .box (poB r.start (.sl 3 0 k) (.sl 4 0 k))⟩, some ⟨3, .ints .i64 A⟩, some ⟨3, .ints .i64 A⟩, none]) [(2, .ptr 1 0 0), (5, .ptr 2 0 0), (19, .ro (zAb r.pcs) 0 r.pcs.length), (20, iN r.pcs.length), (21, iN k), (7, .rp (.box (pcC p)) 0 0), (26, .ptr 2 0 1), (28, .rp (.box (pcC p)) 0 1), (33, .ptr 2 0 2), (35, .rp (.box (pcC p)) 0 1), (39, .ptr 2 0 1), (41, .ptr 2 0 1), (27, .sl 3 0 k), (29, .int .i64 p.hand), (34, .sl 4 0 k), (36, .int .i64 p.hand)]
  intro s26
  apply zR (H := [none, some ⟨35, .box poZ⟩, some ⟨35, .box (poB r.start (.sl 3 0 k) (.sl 4 0 k))⟩, some ⟨3, .ints .i64 A⟩, some ⟨3, .ints .i64 A⟩, none]) [(2, .ptr 1 0 0), (5, .ptr 2 0 0), (19, .ro (zAb r.pcs) 0 r.pcs.length), (20, iN r.pcs.length), (21, iN k), (7, .rp (.box (pcC p)) 0 0), (26, .ptr 2 0 1), (28, .rp (.box (pcC p)) 0 1), (33, .ptr 2 0 2), (35, .rp (.box (pcC p)) 0 1), (39, .ptr 2 0 1), (41, .ptr 2 0 1), (27, .sl 3 0 k), (30, .ro (.ints .i64 [p.hand]) 0 1), (36, .int .i64 p.hand)]
  intro s25
  apply zR (H := [none, some ⟨35, .box poZ⟩, some ⟨35, .box (poB r.start (.sl 3 0 k) (.sl 4 0 k))⟩, some ⟨3, .ints .i64 A⟩, some ⟨3, .ints .i64 A⟩, none]) [(2, .ptr 1 0 0), (5, .ptr 2 0 0), (19, .ro (zAb r.pcs) 0 r.pcs.length), (20, iN r.pcs.length), (21, iN k), (7, .rp (.box (pcC p)) 0 0), (26, .ptr 2 0 1), (28, .rp (.box (pcC p)) 0 1), (33, .ptr 2 0 2), (35, .rp (.box (pcC p)) 0 1), (39, .ptr 2 0 1), (41, .ptr 2 0 1), (27, .sl 3 0 k), (30, .ro (.ints .i64 [p.hand]) 0 1), (34, .sl 4 0 k)]
  intro s24
  apply zR (H := [none, some ⟨35, .box poZ⟩, some ⟨35, .box (poB r.start .any (.sl 4 0 k))⟩, some ⟨3, .ints .i64 (A ++ [p.hand])⟩, some ⟨3, .ints .i64 A⟩, none]) [(2, .ptr 1 0 0), (5, .ptr 2 0 0), (19, .ro (zAb r.pcs) 0 r.pcs.length), (20, iN r.pcs.length), (21, iN k), (7, .rp (.box (pcC p)) 0 0), (26, .ptr 2 0 1), (28, .rp (.box (pcC p)) 0 1), (33, .ptr 2 0 2), (35, .rp (.box (pcC p)) 0 1), (39, .ptr 2 0 1), (41, .ptr 2 0 1), (31, .sl 3 0 (k + 1))]
  intro s23
  apply zR (H := [none, some ⟨35, .box poZ⟩, some ⟨35, .box (poB r.start (.sl 3 0 k) (.sl 4 0 k))⟩, some ⟨3, .ints .i64 A⟩, some ⟨3, .ints .i64 A⟩, none]) [(2, .ptr 1 0 0), (5, .ptr 2 0 0), (19, .ro (zAb r.pcs) 0 r.pcs.length), (20, iN r.pcs.length), (21, iN k), (7, .rp (.box (pcC p)) 0 0), (26, .ptr 2 0 1), (28, .rp (.box (pcC p)) 0 1), (33, .ptr 2 0 2), (35, .rp (.box (pcC p)) 0 1), (39, .ptr 2 0 1), (41, .ptr 2 0 1), (34, .sl 4 0 k), (37, .ro (.ints .i64 [p.hand]) 0 1)]
  intro s22
  apply zR (H := [none, some ⟨35, .box poZ⟩, some ⟨35, .box (poB r.start (.sl 3 0 k) (.sl 4 0 k))⟩, some ⟨3, .ints .i64 A⟩, some ⟨3, .ints .i64 A⟩, none]) [(2, .ptr 1 0 0), (5, .ptr 2 0 0), (19, .ro (zAb r.pcs) 0 r.pcs.length), (20, iN r.pcs.length), (21, iN k), (7, .rp (.box (pcC p)) 0 0), (26, .ptr 2 0 1), (28, .rp (.box (pcC p)) 0 1), (33, .ptr 2 0 2), (35, .rp (.box (pcC p)) 0 1), (39, .ptr 2 0 1), (41, .ptr 2 0 1), (29, .int .i64 p.hand), (37, .ro (.ints .i64 [p.hand]) 0 1)]
  intro s21
  apply zR (H := [none, some ⟨35, .box poZ⟩, some ⟨35, .box (poB r.start (.sl 3 0 k) (.sl 4 0 k))⟩, some ⟨3, .ints .i64 A⟩, some ⟨3, .ints .i64 A⟩, none]) [(2, .ptr 1 0 0), (5, .ptr 2 0 0), (19, .ro (zAb r.pcs) 0 r.pcs.length), (20, iN r.pcs.length), (21, iN k), (7, .rp (.box (pcC p)) 0 0), (26, .ptr 2 0 1), (28, .rp (.box (pcC p)) 0 1), (33, .ptr 2 0 2), (35, .rp (.box (pcC p)) 0 1), (39, .ptr 2 0 1), (41, .ptr 2 0 1), (29, .int .i64 p.hand), (34, .sl 4 0 k), (36, .int .i64 p.hand)]
  intro s20
  apply zR (H := [none, some ⟨35, .box poZ⟩, some ⟨35, .box (poB r.start (.sl 3 0 k) (.sl 4 0 k))⟩, some ⟨3, .ints .i64 A⟩, some ⟨3, .ints .i64 A⟩, none]) [(2, .ptr 1 0 0), (5, .ptr 2 0 0), (19, .ro (zAb r.pcs) 0 r.pcs.length), (20, iN r.pcs.length), (21, iN k), (7, .rp (.box (pcC p)) 0 0), (26, .ptr 2 0 1), (28, .rp (.box (pcC p)) 0 1), (33, .ptr 2 0 2), (35, .rp (.box (pcC p)) 0 1), (39, .ptr 2 0 1), (41, .ptr 2 0 1), (30, .ro (.ints .i64 [p.hand]) 0 1), (36, .int .i64 p.hand)]
  intro s19
  apply zR (H := [none, some ⟨35, .box poZ⟩, some ⟨35, .box (poB r.start (.sl 3 0 k) (.sl 4 0 k))⟩, some ⟨3, .ints .i64 A⟩, some ⟨3, .ints .i64 A⟩, none]) [(2, .ptr 1 0 0), (5, .ptr 2 0 0), (19, .ro (zAb r.pcs) 0 r.pcs.length), (20, iN r.pcs.length), (21, iN k), (7, .rp (.box (pcC p)) 0 0), (26, .ptr 2 0 1), (28, .rp (.box (pcC p)) 0 1), (33, .ptr 2 0 2), (35, .rp (.box (pcC p)) 0 1), (39, .ptr 2 0 1), (41, .ptr 2 0 1), (30, .ro (.ints .i64 [p.hand]) 0 1), (34, .sl 4 0 k)]
  intro s18
  apply zR (H := [none, some ⟨35, .box poZ⟩, some ⟨35, .box (poB r.start (.sl 3 0 k) (.sl 4 0 k))⟩, some ⟨3, .ints .i64 A⟩, some ⟨3, .ints .i64 A⟩, none]) [(2, .ptr 1 0 0), (5, .ptr 2 0 0), (19, .ro (zAb r.pcs) 0 r.pcs.length), (20, iN r.pcs.length), (21, iN k), (7, .rp (.box (pcC p)) 0 0), (26, .ptr 2 0 1), (28, .rp (.box (pcC p)) 0 1), (33, .ptr 2 0 2), (35, .rp (.box (pcC p)) 0 1), (39, .ptr 2 0 1), (41, .ptr 2 0 1), (27, .sl 3 0 k), (37, .ro (.ints .i64 [p.hand]) 0 1)]
  intro s17
  apply zR (H := [none, some ⟨35, .box poZ⟩, some ⟨35, .box (poB r.start (.sl 3 0 k) (.sl 4 0 k))⟩, some ⟨3, .ints .i64 A⟩, some ⟨3, .ints .i64 A⟩, none]) [(2, .ptr 1 0 0), (5, .ptr 2 0 0), (19, .ro (zAb r.pcs) 0 r.pcs.length), (20, iN r.pcs.length), (21, iN k), (7, .rp (.box (pcC p)) 0 0), (26, .ptr 2 0 1), (28, .rp (.box (pcC p)) 0 1), (33, .ptr 2 0 2), (35, .rp (.box (pcC p)) 0 1), (39, .ptr 2 0 1), (41, .ptr 2 0 1), (27, .sl 3 0 k), (34, .sl 4 0 k), (36, .int .i64 p.hand)]
  intro s16
  apply zR (H := [none, some ⟨35, .box poZ⟩, some ⟨35, .box (poB r.start (.sl 3 0 k) (.sl 4 0 k))⟩, some ⟨3, .ints .i64 A⟩, some ⟨3, .ints .i64 A⟩, none]) [(2, .ptr 1 0 0), (5, .ptr 2 0 0), (19, .ro (zAb r.pcs) 0 r.pcs.length), (20, iN r.pcs.length), (21, iN k), (7, .rp (.box (pcC p)) 0 0), (26, .ptr 2 0 1), (28, .rp (.box (pcC p)) 0 1), (33, .ptr 2 0 2), (35, .rp (.box (pcC p)) 0 1), (39, .ptr 2 0 1), (41, .ptr 2 0 1), (27, .sl 3 0 k), (29, .int .i64 p.hand), (36, .int .i64 p.hand)]
  intro s15
  apply zR (H := [none, some ⟨35, .box poZ⟩, some ⟨35, .box (poB r.start (.sl 3 0 k) (.sl 4 0 k))⟩, some ⟨3, .ints .i64 A⟩, some ⟨3, .ints .i64 A⟩, none]) [(2, .ptr 1 0 0), (5, .ptr 2 0 0), (19, .ro (zAb r.pcs) 0 r.pcs.length), (20, iN r.pcs.length), (21, iN k), (7, .rp (.box (pcC p)) 0 0), (26, .ptr 2 0 1), (28, .rp (.box (pcC p)) 0 1), (33, .ptr 2 0 2), (35, .rp (.box (pcC p)) 0 1), (39, .ptr 2 0 1), (41, .ptr 2 0 1), (27, .sl 3 0 k), (29, .int .i64 p.hand), (34, .sl 4 0 k)]
  intro s14
  apply zR (H := [none, some ⟨35, .box poZ⟩, some ⟨35, .box (poB r.start (.sl 3 0 k) (.sl 4 0 k))⟩, some ⟨3, .ints .i64 A⟩, some ⟨3, .ints .i64 A⟩, none]) [(2, .ptr 1 0 0), (5, .ptr 2 0 0), (19, .ro (zAb r.pcs) 0 r.pcs.length), (20, iN r.pcs.length), (21, iN k), (7, .rp (.box (pcC p)) 0 0), (26, .ptr 2 0 1), (28, .rp (.box (pcC p)) 0 1), (33, .ptr 2 0 2), (35, .rp (.box (pcC p)) 0 1), (39, .ptr 2 0 1), (41, .ptr 2 0 1), (27, .sl 3 0 k), (30, .ro (.ints .i64 [p.hand]) 0 1)]
  intro s13
  apply zR (H := [none, some ⟨35, .box poZ⟩, some ⟨35, .box (poB r.start (.sl 3 0 k) (.sl 4 0 k))⟩, some ⟨3, .ints .i64 A⟩, some ⟨3, .ints .i64 A⟩, none]) [(2, .ptr 1 0 0), (5, .ptr 2 0 0), (19, .ro (zAb r.pcs) 0 r.pcs.length), (20, iN r.pcs.length), (21, iN k), (7, .rp (.box (pcC p)) 0 0), (26, .ptr 2 0 1), (28, .rp (.box (pcC p)) 0 1), (33, .ptr 2 0 2), (35, .rp (.box (pcC p)) 0 1), (39, .ptr 2 0 1), (41, .ptr 2 0 1), (37, .ro (.ints .i64 [p.hand]) 0 1)]
  intro s12
  apply zR (H := [none, some ⟨35, .box poZ⟩, some ⟨35, .box (poB r.start (.sl 3 0 k) (.sl 4 0 k))⟩, some ⟨3, .ints .i64 A⟩, some ⟨3, .ints .i64 A⟩, none]) [(2, .ptr 1 0 0), (5, .ptr 2 0 0), (19, .ro (zAb r.pcs) 0 r.pcs.length), (20, iN r.pcs.length), (21, iN k), (7, .rp (.box (pcC p)) 0 0), (26, .ptr 2 0 1), (28, .rp (.box (pcC p)) 0 1), (33, .ptr 2 0 2), (35, .rp (.box (pcC p)) 0 1), (39, .ptr 2 0 1), (41, .ptr 2 0 1), (34, .sl 4 0 k), (36, .int .i64 p.hand)]
  intro s11
  apply zR (H := [none, some ⟨35, .box poZ⟩, some ⟨35, .box (poB r.start (.sl 3 0 k) (.sl 4 0 k))⟩, some ⟨3, .ints .i64 A⟩, some ⟨3, .ints .i64 A⟩, none]) [(2, .ptr 1 0 0), (5, .ptr 2 0 0), (19, .ro (zAb r.pcs) 0 r.pcs.length), (20, iN r.pcs.length), (21, iN k), (7, .rp (.box (pcC p)) 0 0), (26, .ptr 2 0 1), (28, .rp (.box (pcC p)) 0 1), (33, .ptr 2 0 2), (35, .rp (.box (pcC p)) 0 1), (39, .ptr 2 0 1), (41, .ptr 2 0 1), (29, .int .i64 p.hand), (36, .int .i64 p.hand)]
  intro s10
  apply zR (H := [none, some ⟨35, .box poZ⟩, some ⟨35, .box (poB r.start (.sl 3 0 k) (.sl 4 0 k))⟩, some ⟨3, .ints .i64 A⟩, some ⟨3, .ints .i64 A⟩, none]) [(2, .ptr 1 0 0), (5, .ptr 2 0 0), (19, .ro (zAb r.pcs) 0 r.pcs.length), (20, iN r.pcs.length), (21, iN k), (7, .rp (.box (pcC p)) 0 0), (26, .ptr 2 0 1), (28, .rp (.box (pcC p)) 0 1), (33, .ptr 2 0 2), (35, .rp (.box (pcC p)) 0 1), (39, .ptr 2 0 1), (41, .ptr 2 0 1), (29, .int .i64 p.hand), (34, .sl 4 0 k)]
  intro s9
  apply zR (H := [none, some ⟨35, .box poZ⟩, some ⟨35, .box (poB r.start (.sl 3 0 k) (.sl 4 0 k))⟩, some ⟨3, .ints .i64 A⟩, some ⟨3, .ints .i64 A⟩, none]) [(2, .ptr 1 0 0), (5, .ptr 2 0 0), (19, .ro (zAb r.pcs) 0 r.pcs.length), (20, iN r.pcs.length), (21, iN k), (7, .rp (.box (pcC p)) 0 0), (26, .ptr 2 0 1), (28, .rp (.box (pcC p)) 0 1), (33, .ptr 2 0 2), (35, .rp (.box (pcC p)) 0 1), (39, .ptr 2 0 1), (41, .ptr 2 0 1), (30, .ro (.ints .i64 [p.hand]) 0 1)]
  intro s8
  apply zR (H := [none, some ⟨35, .box poZ⟩, some ⟨35, .box (poB r.start (.sl 3 0 k) (.sl 4 0 k))⟩, some ⟨3, .ints .i64 A⟩, some ⟨3, .ints .i64 A⟩, none]) [(2, .ptr 1 0 0), (5, .ptr 2 0 0), (19, .ro (zAb r.pcs) 0 r.pcs.length), (20, iN r.pcs.length), (21, iN k), (7, .rp (.box (pcC p)) 0 0), (26, .ptr 2 0 1), (28, .rp (.box (pcC p)) 0 1), (33, .ptr 2 0 2), (35, .rp (.box (pcC p)) 0 1), (39, .ptr 2 0 1), (41, .ptr 2 0 1), (27, .sl 3 0 k), (36, .int .i64 p.hand)]
  intro s7
  apply zR (H := [none, some ⟨35, .box poZ⟩, some ⟨35, .box (poB r.start (.sl 3 0 k) (.sl 4 0 k))⟩, some ⟨3, .ints .i64 A⟩, some ⟨3, .ints .i64 A⟩, none]) [(2, .ptr 1 0 0), (5, .ptr 2 0 0), (19, .ro (zAb r.pcs) 0 r.pcs.length), (20, iN r.pcs.length), (21, iN k), (7, .rp (.box (pcC p)) 0 0), (26, .ptr 2 0 1), (28, .rp (.box (pcC p)) 0 1), (33, .ptr 2 0 2), (35, .rp (.box (pcC p)) 0 1), (39, .ptr 2 0 1), (41, .ptr 2 0 1), (27, .sl 3 0 k), (34, .sl 4 0 k)]
  intro s6
  apply zR (H := [none, some ⟨35, .box poZ⟩, some ⟨35, .box (poB r.start (.sl 3 0 k) (.sl 4 0 k))⟩, some ⟨3, .ints .i64 A⟩, some ⟨3, .ints .i64 A⟩, none]) [(2, .ptr 1 0 0), (5, .ptr 2 0 0), (19, .ro (zAb r.pcs) 0 r.pcs.length), (20, iN r.pcs.length), (21, iN k), (7, .rp (.box (pcC p)) 0 0), (26, .ptr 2 0 1), (28, .rp (.box (pcC p)) 0 1), (33, .ptr 2 0 2), (35, .rp (.box (pcC p)) 0 1), (39, .ptr 2 0 1), (41, .ptr 2 0 1), (27, .sl 3 0 k), (29, .int .i64 p.hand)]
  intro s5
  apply zR (H := [none, some ⟨35, .box poZ⟩, some ⟨35, .box (poB r.start (.sl 3 0 k) (.sl 4 0 k))⟩, some ⟨3, .ints .i64 A⟩, some ⟨3, .ints .i64 A⟩, none]) [(2, .ptr 1 0 0), (5, .ptr 2 0 0), (19, .ro (zAb r.pcs) 0 r.pcs.length), (20, iN r.pcs.length), (21, iN k), (7, .rp (.box (pcC p)) 0 0), (26, .ptr 2 0 1), (28, .rp (.box (pcC p)) 0 1), (33, .ptr 2 0 2), (35, .rp (.box (pcC p)) 0 1), (39, .ptr 2 0 1), (41, .ptr 2 0 1), (36, .int .i64 p.hand)]
  intro s4
  apply zR (H := [none, some ⟨35, .box poZ⟩, some ⟨35, .box (poB r.start (.sl 3 0 k) (.sl 4 0 k))⟩, some ⟨3, .ints .i64 A⟩, some ⟨3, .ints .i64 A⟩, none]) [(2, .ptr 1 0 0), (5, .ptr 2 0 0), (19, .ro (zAb r.pcs) 0 r.pcs.length), (20, iN r.pcs.length), (21, iN k), (7, .rp (.box (pcC p)) 0 0), (26, .ptr 2 0 1), (28, .rp (.box (pcC p)) 0 1), (33, .ptr 2 0 2), (35, .rp (.box (pcC p)) 0 1), (39, .ptr 2 0 1), (41, .ptr 2 0 1), (34, .sl 4 0 k)]
  intro s3
  apply zR (H := [none, some ⟨35, .box poZ⟩, some ⟨35, .box (poB r.start (.sl 3 0 k) (.sl 4 0 k))⟩, some ⟨3, .ints .i64 A⟩, some ⟨3, .ints .i64 A⟩, none]) [(2, .ptr 1 0 0), (5, .ptr 2 0 0), (19, .ro (zAb r.pcs) 0 r.pcs.length), (20, iN r.pcs.length), (21, iN k), (7, .rp (.box (pcC p)) 0 0), (26, .ptr 2 0 1), (28, .rp (.box (pcC p)) 0 1), (33, .ptr 2 0 2), (35, .rp (.box (pcC p)) 0 1), (39, .ptr 2 0 1), (41, .ptr 2 0 1), (29, .int .i64 p.hand)]
  intro s2
  apply zR (H := [none, some ⟨35, .box poZ⟩, some ⟨35, .box (poB r.start (.sl 3 0 k) (.sl 4 0 k))⟩, some ⟨3, .ints .i64 A⟩, some ⟨3, .ints .i64 A⟩, none]) [(2, .ptr 1 0 0), (5, .ptr 2 0 0), (19, .ro (zAb r.pcs) 0 r.pcs.length), (20, iN r.pcs.length), (21, iN k), (7, .rp (.box (pcC p)) 0 0), (26, .ptr 2 0 1), (28, .rp (.box (pcC p)) 0 1), (33, .ptr 2 0 2), (35, .rp (.box (pcC p)) 0 1), (39, .ptr 2 0 1), (41, .ptr 2 0 1), (27, .sl 3 0 k)]
  intro s1
  ·refine zG (is := [2, 4, 9, 11]) (by kernel_rfl) (by simp) Z ⟨fun o ho => ?_, fun o ho => ?_, fun o ho => ?_, fun o ho => ?_, trivial⟩
   all_goals (cases ho)
   ·refine rn4 ?_
    exact s1 _ ⟨Z, Z, Z, Z, Z, Z, Z, Z, Z, Z, Z, Z, Z, trivial⟩
   ·repeat (first | refine zC ?_ | refine zT ?_ | refine zA (zD rfl rfl rfl rfl) ?_)
    exact s2 _ ⟨Z, Z, Z, Z, Z, Z, Z, Z, Z, Z, Z, Z, Z, trivial⟩
   ·refine rn4 ?_
    exact s3 _ ⟨Z, Z, Z, Z, Z, Z, Z, Z, Z, Z, Z, Z, Z, trivial⟩
   ·repeat (first | refine zC ?_ | refine zT ?_ | refine zA (zD rfl rfl rfl rfl) ?_)
    exact s4 _ ⟨Z, Z, Z, Z, Z, Z, Z, Z, Z, Z, Z, Z, Z, trivial⟩
  ·refine zG (is := [4, 9, 11]) (by kernel_rfl) (by simp) Z ⟨fun o ho => ?_, fun o ho => ?_, fun o ho => ?_, trivial⟩
   all_goals (cases ho)
   ·repeat (first | refine zC ?_ | refine zT ?_ | refine zA (zD rfl rfl rfl rfl) ?_)
    exact s5 _ ⟨Z, Z, Z, Z, Z, Z, Z, Z, Z, Z, Z, Z, Z, Z, trivial⟩
   ·refine rn4 ?_
    exact s6 _ ⟨Z, Z, Z, Z, Z, Z, Z, Z, Z, Z, Z, Z, Z, Z, trivial⟩
   ·repeat (first | refine zC ?_ | refine zT ?_ | refine zA (zD rfl rfl rfl rfl) ?_)
    exact s7 _ ⟨Z, Z, Z, Z, Z, Z, Z, Z, Z, Z, Z, Z, Z, Z, trivial⟩
  ·refine zG (is := [2, 5, 9, 11]) (by kernel_rfl) (by simp) Z ⟨fun o ho => ?_, fun o ho => ?_, fun o ho => ?_, fun o ho => ?_, trivial⟩
   all_goals (cases ho)
   ·refine rn4 ?_
    exact s5 _ ⟨Z, Z, Z, Z, Z, Z, Z, Z, Z, Z, Z, Z, Z, Z, trivial⟩
   ·refine rn3 ?_
    exact s8 _ ⟨Z, Z, Z, Z, Z, Z, Z, Z, Z, Z, Z, Z, Z, trivial⟩
   ·refine rn4 ?_
    exact s9 _ ⟨Z, Z, Z, Z, Z, Z, Z, Z, Z, Z, Z, Z, Z, Z, trivial⟩
   ·repeat (first | refine zC ?_ | refine zT ?_ | refine zA (zD rfl rfl rfl rfl) ?_)
    exact s10 _ ⟨Z, Z, Z, Z, Z, Z, Z, Z, Z, Z, Z, Z, Z, Z, trivial⟩
  ·refine zG (is := [2, 4, 11]) (by kernel_rfl) (by simp) Z ⟨fun o ho => ?_, fun o ho => ?_, fun o ho => ?_, trivial⟩
   all_goals (cases ho)
   ·refine rn4 ?_
    exact s6 _ ⟨Z, Z, Z, Z, Z, Z, Z, Z, Z, Z, Z, Z, Z, Z, trivial⟩
   ·repeat (first | refine zC ?_ | refine zT ?_ | refine zA (zD rfl rfl rfl rfl) ?_)
    exact s9 _ ⟨Z, Z, Z, Z, Z, Z, Z, Z, Z, Z, Z, Z, Z, Z, trivial⟩
   ·repeat (first | refine zC ?_ | refine zT ?_ | refine zA (zD rfl rfl rfl rfl) ?_)
    exact s11 _ ⟨Z, Z, Z, Z, Z, Z, Z, Z, Z, Z, Z, Z, Z, Z, trivial⟩
  ·refine zG (is := [2, 4, 9, 12]) (by kernel_rfl) (by simp) Z ⟨fun o ho => ?_, fun o ho => ?_, fun o ho => ?_, fun o ho => ?_, trivial⟩
   all_goals (cases ho)
   ·refine rn4 ?_
    exact s7 _ ⟨Z, Z, Z, Z, Z, Z, Z, Z, Z, Z, Z, Z, Z, Z, trivial⟩
   ·repeat (first | refine zC ?_ | refine zT ?_ | refine zA (zD rfl rfl rfl rfl) ?_)
    exact s10 _ ⟨Z, Z, Z, Z, Z, Z, Z, Z, Z, Z, Z, Z, Z, Z, trivial⟩
   ·refine rn4 ?_
    exact s11 _ ⟨Z, Z, Z, Z, Z, Z, Z, Z, Z, Z, Z, Z, Z, Z, trivial⟩
   ·refine rn3 ?_
    exact s12 _ ⟨Z, Z, Z, Z, Z, Z, Z, Z, Z, Z, Z, Z, Z, trivial⟩
  ·refine zG (is := [5, 9, 11]) (by kernel_rfl) (by simp) Z ⟨fun o ho => ?_, fun o ho => ?_, fun o ho => ?_, trivial⟩
   all_goals (cases ho)
   ·refine rn3 ?_
    exact s13 _ ⟨Z, Z, Z, Z, Z, Z, Z, Z, Z, Z, Z, Z, Z, Z, trivial⟩
   ·refine rn4 ?_
    exact s14 _ ⟨Z, Z, Z, Z, Z, Z, Z, Z, Z, Z, Z, Z, Z, Z, Z, trivial⟩
   ·repeat (first | refine zC ?_ | refine zT ?_ | refine zA (zD rfl rfl rfl rfl) ?_)
    exact s15 _ ⟨Z, Z, Z, Z, Z, Z, Z, Z, Z, Z, Z, Z, Z, Z, Z, trivial⟩
  ·refine zG (is := [4, 11]) (by kernel_rfl) (by simp) Z ⟨fun o ho => ?_, fun o ho => ?_, trivial⟩
   all_goals (cases ho)
   ·repeat (first | refine zC ?_ | refine zT ?_ | refine zA (zD rfl rfl rfl rfl) ?_)
    exact s14 _ ⟨Z, Z, Z, Z, Z, Z, Z, Z, Z, Z, Z, Z, Z, Z, Z, trivial⟩
   ·repeat (first | refine zC ?_ | refine zT ?_ | refine zA (zD rfl rfl rfl rfl) ?_)
    exact s16 _ ⟨Z, Z, Z, Z, Z, Z, Z, Z, Z, Z, Z, Z, Z, Z, Z, trivial⟩
  ·refine zG (is := [4, 9, 12]) (by kernel_rfl) (by simp) Z ⟨fun o ho => ?_, fun o ho => ?_, fun o ho => ?_, trivial⟩
   all_goals (cases ho)
   ·repeat (first | refine zC ?_ | refine zT ?_ | refine zA (zD rfl rfl rfl rfl) ?_)
    exact s15 _ ⟨Z, Z, Z, Z, Z, Z, Z, Z, Z, Z, Z, Z, Z, Z, Z, trivial⟩
   ·refine rn4 ?_
    exact s16 _ ⟨Z, Z, Z, Z, Z, Z, Z, Z, Z, Z, Z, Z, Z, Z, Z, trivial⟩
   ·refine rn3 ?_
    exact s17 _ ⟨Z, Z, Z, Z, Z, Z, Z, Z, Z, Z, Z, Z, Z, Z, trivial⟩
  ·refine zG (is := [2, 9, 11]) (by kernel_rfl) (by simp) Z ⟨fun o ho => ?_, fun o ho => ?_, fun o ho => ?_, trivial⟩
   all_goals (cases ho)
   ·refine rn4 ?_
    exact s13 _ ⟨Z, Z, Z, Z, Z, Z, Z, Z, Z, Z, Z, Z, Z, Z, trivial⟩
   ·refine rn4 ?_
    exact s18 _ ⟨Z, Z, Z, Z, Z, Z, Z, Z, Z, Z, Z, Z, Z, Z, trivial⟩
   ·repeat (first | refine zC ?_ | refine zT ?_ | refine zA (zD rfl rfl rfl rfl) ?_)
    exact s19 _ ⟨Z, Z, Z, Z, Z, Z, Z, Z, Z, Z, Z, Z, Z, Z, trivial⟩
  ·refine zG (is := [2, 5, 11]) (by kernel_rfl) (by simp) Z ⟨fun o ho => ?_, fun o ho => ?_, fun o ho => ?_, trivial⟩
   all_goals (cases ho)
   ·refine rn4 ?_
    exact s14 _ ⟨Z, Z, Z, Z, Z, Z, Z, Z, Z, Z, Z, Z, Z, Z, Z, trivial⟩
   ·refine rn3 ?_
    exact s18 _ ⟨Z, Z, Z, Z, Z, Z, Z, Z, Z, Z, Z, Z, Z, Z, trivial⟩
   ·repeat (first | refine zC ?_ | refine zT ?_ | refine zA (zD rfl rfl rfl rfl) ?_)
    exact s20 _ ⟨Z, Z, Z, Z, Z, Z, Z, Z, Z, Z, Z, Z, Z, Z, Z, trivial⟩
  ·refine zG (is := [2, 5, 9, 12]) (by kernel_rfl) (by simp) Z ⟨fun o ho => ?_, fun o ho => ?_, fun o ho => ?_, fun o ho => ?_, trivial⟩
   all_goals (cases ho)
   ·refine rn4 ?_
    exact s15 _ ⟨Z, Z, Z, Z, Z, Z, Z, Z, Z, Z, Z, Z, Z, Z, Z, trivial⟩
   ·refine rn3 ?_
    exact s19 _ ⟨Z, Z, Z, Z, Z, Z, Z, Z, Z, Z, Z, Z, Z, Z, trivial⟩
   ·refine rn4 ?_
    exact s20 _ ⟨Z, Z, Z, Z, Z, Z, Z, Z, Z, Z, Z, Z, Z, Z, Z, trivial⟩
   ·refine rn3 ?_
    exact s21 _ ⟨Z, Z, Z, Z, Z, Z, Z, Z, Z, Z, Z, Z, Z, Z, trivial⟩
  ·refine zG (is := [2, 4, 12]) (by kernel_rfl) (by simp) Z ⟨fun o ho => ?_, fun o ho => ?_, fun o ho => ?_, trivial⟩
   all_goals (cases ho)
   ·refine rn4 ?_
    exact s16 _ ⟨Z, Z, Z, Z, Z, Z, Z, Z, Z, Z, Z, Z, Z, Z, Z, trivial⟩
   ·repeat (first | refine zC ?_ | refine zT ?_ | refine zA (zD rfl rfl rfl rfl) ?_)
    exact s20 _ ⟨Z, Z, Z, Z, Z, Z, Z, Z, Z, Z, Z, Z, Z, Z, Z, trivial⟩
   ·refine rn3 ?_
    exact s22 _ ⟨Z, Z, Z, Z, Z, Z, Z, Z, Z, Z, Z, Z, Z, Z, trivial⟩
  ·refine zG (is := [2, 4, 9]) (by kernel_rfl) (by simp) Z ⟨fun o ho => ?_, fun o ho => ?_, fun o ho => ?_, trivial⟩
   all_goals (cases ho)
   ·refine rn4 ?_
    exact s17 _ ⟨Z, Z, Z, Z, Z, Z, Z, Z, Z, Z, Z, Z, Z, Z, trivial⟩
   ·repeat (first | refine zC ?_ | refine zT ?_ | refine zA (zD rfl rfl rfl rfl) ?_)
    exact s21 _ ⟨Z, Z, Z, Z, Z, Z, Z, Z, Z, Z, Z, Z, Z, Z, trivial⟩
   ·refine rn4 ?_
    exact s22 _ ⟨Z, Z, Z, Z, Z, Z, Z, Z, Z, Z, Z, Z, Z, Z, trivial⟩
  ·refine zG (is := [6, 9, 11]) (by kernel_rfl) (by simp) Z ⟨fun o ho => ?_, fun o ho => ?_, fun o ho => ?_, trivial⟩
   all_goals (cases ho)
   ·refine zAe Z Z Z Z Z Z Z Z Z htl Z Z (by show 0 + 1 ≤ 1; omega) Z hb (fun i j _ _ => rfl) (by rw [hfix]; exact fun h => h) ?_
    refine rn1 ?_
    exact s23 _ ⟨Z, Z, Z, Z, Z, Z, Z, Z, Z, Z, Z, Z, Z, trivial⟩
   ·refine rn4 ?_
    exact s24 _ ⟨Z, Z, Z, Z, Z, Z, Z, Z, Z, Z, Z, Z, Z, Z, Z, trivial⟩
   ·repeat (first | refine zC ?_ | refine zT ?_ | refine zA (zD rfl rfl rfl rfl) ?_)
    exact s25 _ ⟨Z, Z, Z, Z, Z, Z, Z, Z, Z, Z, Z, Z, Z, Z, Z, trivial⟩
  ·refine zG (is := [5, 11]) (by kernel_rfl) (by simp) Z ⟨fun o ho => ?_, fun o ho => ?_, trivial⟩
   all_goals (cases ho)
   ·refine rn3 ?_
    exact s24 _ ⟨Z, Z, Z, Z, Z, Z, Z, Z, Z, Z, Z, Z, Z, Z, Z, trivial⟩
   ·repeat (first | refine zC ?_ | refine zT ?_ | refine zA (zD rfl rfl rfl rfl) ?_)
    exact s26 _ ⟨Z, Z, Z, Z, Z, Z, Z, Z, Z, Z, Z, Z, Z, Z, Z, Z, trivial⟩
  ·refine zG (is := [5, 9, 12]) (by kernel_rfl) (by simp) Z ⟨fun o ho => ?_, fun o ho => ?_, fun o ho => ?_, trivial⟩
   all_goals (cases ho)
   ·refine rn3 ?_
    exact s25 _ ⟨Z, Z, Z, Z, Z, Z, Z, Z, Z, Z, Z, Z, Z, Z, Z, trivial⟩
   ·refine rn4 ?_
    exact s26 _ ⟨Z, Z, Z, Z, Z, Z, Z, Z, Z, Z, Z, Z, Z, Z, Z, Z, trivial⟩
   ·refine rn3 ?_
    exact s27 _ ⟨Z, Z, Z, Z, Z, Z, Z, Z, Z, Z, Z, Z, Z, Z, Z, trivial⟩
  ·refine zG (is := [4, 12]) (by kernel_rfl) (by simp) Z ⟨fun o ho => ?_, fun o ho => ?_, trivial⟩
   all_goals (cases ho)
   ·repeat (first | refine zC ?_ | refine zT ?_ | refine zA (zD rfl rfl rfl rfl) ?_)
    exact s26 _ ⟨Z, Z, Z, Z, Z, Z, Z, Z, Z, Z, Z, Z, Z, Z, Z, Z, trivial⟩
   ·refine rn3 ?_
    exact s28 _ ⟨Z, Z, Z, Z, Z, Z, Z, Z, Z, Z, Z, Z, Z, Z, Z, trivial⟩
  ·refine zG (is := [4, 9]) (by kernel_rfl) (by simp) Z ⟨fun o ho => ?_, fun o ho => ?_, trivial⟩
   all_goals (cases ho)
   ·repeat (first | refine zC ?_ | refine zT ?_ | refine zA (zD rfl rfl rfl rfl) ?_)
    exact s27 _ ⟨Z, Z, Z, Z, Z, Z, Z, Z, Z, Z, Z, Z, Z, Z, Z, trivial⟩
   ·refine rn4 ?_
    exact s28 _ ⟨Z, Z, Z, Z, Z, Z, Z, Z, Z, Z, Z, Z, Z, Z, Z, trivial⟩
  ·refine zG (is := [2, 11]) (by kernel_rfl) (by simp) Z ⟨fun o ho => ?_, fun o ho => ?_, trivial⟩
   all_goals (cases ho)
   ·refine rn4 ?_
    exact s24 _ ⟨Z, Z, Z, Z, Z, Z, Z, Z, Z, Z, Z, Z, Z, Z, Z, trivial⟩
   ·repeat (first | refine zC ?_ | refine zT ?_ | refine zA (zD rfl rfl rfl rfl) ?_)
    exact s29 _ ⟨Z, Z, Z, Z, Z, Z, Z, Z, Z, Z, Z, Z, Z, Z, Z, trivial⟩
  ·refine zG (is := [2, 9, 12]) (by kernel_rfl) (by simp) Z ⟨fun o ho => ?_, fun o ho => ?_, fun o ho => ?_, trivial⟩
   all_goals (cases ho)
   ·refine rn4 ?_
    exact s25 _ ⟨Z, Z, Z, Z, Z, Z, Z, Z, Z, Z, Z, Z, Z, Z, Z, trivial⟩
   ·refine rn4 ?_
    exact s29 _ ⟨Z, Z, Z, Z, Z, Z, Z, Z, Z, Z, Z, Z, Z, Z, Z, trivial⟩
   ·refine rn3 ?_
    exact s30 _ ⟨Z, Z, Z, Z, Z, Z, Z, Z, Z, Z, Z, Z, Z, Z, trivial⟩
  ·refine zG (is := [2, 5, 12]) (by kernel_rfl) (by simp) Z ⟨fun o ho => ?_, fun o ho => ?_, fun o ho => ?_, trivial⟩
   all_goals (cases ho)
   ·refine rn4 ?_
    exact s26 _ ⟨Z, Z, Z, Z, Z, Z, Z, Z, Z, Z, Z, Z, Z, Z, Z, Z, trivial⟩
   ·refine rn3 ?_
    exact s29 _ ⟨Z, Z, Z, Z, Z, Z, Z, Z, Z, Z, Z, Z, Z, Z, Z, trivial⟩
   ·refine rn3 ?_
    exact s31 _ ⟨Z, Z, Z, Z, Z, Z, Z, Z, Z, Z, Z, Z, Z, Z, Z, trivial⟩
  ·refine zG (is := [2, 5, 9]) (by kernel_rfl) (by simp) Z ⟨fun o ho => ?_, fun o ho => ?_, fun o ho => ?_, trivial⟩
   all_goals (cases ho)
   ·refine rn4 ?_
    exact s27 _ ⟨Z, Z, Z, Z, Z, Z, Z, Z, Z, Z, Z, Z, Z, Z, Z, trivial⟩
   ·refine rn3 ?_
    exact s30 _ ⟨Z, Z, Z, Z, Z, Z, Z, Z, Z, Z, Z, Z, Z, Z, trivial⟩
   ·refine rn4 ?_
    exact s31 _ ⟨Z, Z, Z, Z, Z, Z, Z, Z, Z, Z, Z, Z, Z, Z, Z, trivial⟩
  ·refine zG (is := [2, 4]) (by kernel_rfl) (by simp) Z ⟨fun o ho => ?_, fun o ho => ?_, trivial⟩
   all_goals (cases ho)
   ·refine rn4 ?_
    exact s28 _ ⟨Z, Z, Z, Z, Z, Z, Z, Z, Z, Z, Z, Z, Z, Z, Z, trivial⟩
   ·repeat (first | refine zC ?_ | refine zT ?_ | refine zA (zD rfl rfl rfl rfl) ?_)
    exact s31 _ ⟨Z, Z, Z, Z, Z, Z, Z, Z, Z, Z, Z, Z, Z, Z, Z, trivial⟩
  ·refine zG (is := [9, 11]) (by kernel_rfl) (by simp) Z ⟨fun o ho => ?_, fun o ho => ?_, trivial⟩
   all_goals (cases ho)
   ·refine rn4 ?_
    exact s32 _ ⟨Z, Z, Z, Z, Z, Z, Z, Z, Z, Z, Z, Z, Z, Z, trivial⟩
   ·repeat (first | refine zC ?_ | refine zT ?_ | refine zA (zD rfl rfl rfl rfl) ?_)
    exact s33 _ ⟨Z, Z, Z, Z, Z, Z, Z, Z, Z, Z, Z, Z, Z, Z, trivial⟩
  ·refine zG (is := [6, 11]) (by kernel_rfl) (by simp) Z ⟨fun o ho => ?_, fun o ho => ?_, trivial⟩
   all_goals (cases ho)
   ·refine zAe Z Z Z Z Z Z Z Z Z htl Z Z (by show 0 + 1 ≤ 1; omega) Z hb (fun i j _ _ => rfl) (by rw [hfix]; exact fun h => h) ?_
    refine rn1 ?_
    exact s32 _ ⟨Z, Z, Z, Z, Z, Z, Z, Z, Z, Z, Z, Z, Z, Z, trivial⟩
   ·repeat (first | refine zC ?_ | refine zT ?_ | refine zA (zD rfl rfl rfl rfl) ?_)
    exact s34 _ ⟨Z, Z, Z, Z, Z, Z, Z, Z, Z, Z, Z, Z, Z, Z, Z, Z, trivial⟩
  ·refine zG (is := [6, 9, 12]) (by kernel_rfl) (by simp) Z ⟨fun o ho => ?_, fun o ho => ?_, fun o ho => ?_, trivial⟩
   all_goals (cases ho)
   ·refine zAe Z Z Z Z Z Z Z Z Z htl Z Z (by show 0 + 1 ≤ 1; omega) Z hb (fun i j _ _ => rfl) (by rw [hfix]; exact fun h => h) ?_
    refine rn1 ?_
    exact s33 _ ⟨Z, Z, Z, Z, Z, Z, Z, Z, Z, Z, Z, Z, Z, Z, trivial⟩
   ·refine rn4 ?_
    exact s34 _ ⟨Z, Z, Z, Z, Z, Z, Z, Z, Z, Z, Z, Z, Z, Z, Z, Z, trivial⟩
   ·refine rn3 ?_
    exact s35 _ ⟨Z, Z, Z, Z, Z, Z, Z, Z, Z, Z, Z, Z, Z, Z, Z, trivial⟩
  ·refine zG (is := [5, 12]) (by kernel_rfl) (by simp) Z ⟨fun o ho => ?_, fun o ho => ?_, trivial⟩
   all_goals (cases ho)
   ·refine rn3 ?_
    exact s34 _ ⟨Z, Z, Z, Z, Z, Z, Z, Z, Z, Z, Z, Z, Z, Z, Z, Z, trivial⟩
   ·refine rn3 ?_
    exact s36 _ ⟨Z, Z, Z, Z, Z, Z, Z, Z, Z, Z, Z, Z, Z, Z, Z, Z, trivial⟩
  ·refine zG (is := [5, 9]) (by kernel_rfl) (by simp) Z ⟨fun o ho => ?_, fun o ho => ?_, trivial⟩
   all_goals (cases ho)
   ·refine rn3 ?_
    exact s35 _ ⟨Z, Z, Z, Z, Z, Z, Z, Z, Z, Z, Z, Z, Z, Z, Z, trivial⟩
   ·refine rn4 ?_
    exact s36 _ ⟨Z, Z, Z, Z, Z, Z, Z, Z, Z, Z, Z, Z, Z, Z, Z, Z, trivial⟩
  ·refine zG (is := [4]) (by kernel_rfl) (by simp) Z ⟨fun o ho => ?_, trivial⟩
   all_goals (cases ho)
   repeat (first | refine zC ?_ | refine zT ?_ | refine zA (zD rfl rfl rfl rfl) ?_)
   exact s36 _ ⟨Z, Z, Z, Z, Z, Z, Z, Z, Z, Z, Z, Z, Z, Z, Z, Z, trivial⟩
  ·refine zG (is := [2, 12]) (by kernel_rfl) (by simp) Z ⟨fun o ho => ?_, fun o ho => ?_, trivial⟩
   all_goals (cases ho)
   ·refine rn4 ?_
    exact s34 _ ⟨Z, Z, Z, Z, Z, Z, Z, Z, Z, Z, Z, Z, Z, Z, Z, Z, trivial⟩
   ·refine rn3 ?_
    exact s37 _ ⟨Z, Z, Z, Z, Z, Z, Z, Z, Z, Z, Z, Z, Z, Z, Z, trivial⟩
  ·refine zG (is := [2, 9]) (by kernel_rfl) (by simp) Z ⟨fun o ho => ?_, fun o ho => ?_, trivial⟩
   all_goals (cases ho)
   ·refine rn4 ?_
    exact s35 _ ⟨Z, Z, Z, Z, Z, Z, Z, Z, Z, Z, Z, Z, Z, Z, Z, trivial⟩
   ·refine rn4 ?_
    exact s37 _ ⟨Z, Z, Z, Z, Z, Z, Z, Z, Z, Z, Z, Z, Z, Z, Z, trivial⟩
  ·refine zG (is := [2, 5]) (by kernel_rfl) (by simp) Z ⟨fun o ho => ?_, fun o ho => ?_, trivial⟩
   all_goals (cases ho)
   ·refine rn4 ?_
    exact s36 _ ⟨Z, Z, Z, Z, Z, Z, Z, Z, Z, Z, Z, Z, Z, Z, Z, Z, trivial⟩
   ·refine rn3 ?_
    exact s37 _ ⟨Z, Z, Z, Z, Z, Z, Z, Z, Z, Z, Z, Z, Z, Z, Z, trivial⟩
  ·refine zG (is := [11, 15]) (by kernel_rfl) (by simp) Z ⟨fun o ho => ?_, fun o ho => ?_, trivial⟩
   all_goals (cases ho)
   ·repeat (first | refine zC ?_ | refine zT ?_ | refine zA (zD rfl rfl rfl rfl) ?_)
    exact s38 _ ⟨Z, Z, Z, Z, Z, Z, Z, Z, Z, Z, Z, Z, Z, Z, Z, trivial⟩
   ·refine rn10 ?_
    exact s39 _ ⟨Z, Z, Z, Z, Z, Z, Z, Z, Z, Z, Z, Z, Z, Z, Z, trivial⟩
  ·refine zG (is := [9, 12]) (by kernel_rfl) (by simp) Z ⟨fun o ho => ?_, fun o ho => ?_, trivial⟩
   all_goals (cases ho)
   ·refine rn4 ?_
    exact s38 _ ⟨Z, Z, Z, Z, Z, Z, Z, Z, Z, Z, Z, Z, Z, Z, Z, trivial⟩
   ·refine rn3 ?_
    exact s40 _ ⟨Z, Z, Z, Z, Z, Z, Z, Z, Z, Z, Z, Z, Z, Z, trivial⟩
  ·refine zG (is := [6, 12]) (by kernel_rfl) (by simp) Z ⟨fun o ho => ?_, fun o ho => ?_, trivial⟩
   all_goals (cases ho)
   ·refine zAe Z Z Z Z Z Z Z Z Z htl Z Z (by show 0 + 1 ≤ 1; omega) Z hb (fun i j _ _ => rfl) (by rw [hfix]; exact fun h => h) ?_
    refine rn1 ?_
    exact s38 _ ⟨Z, Z, Z, Z, Z, Z, Z, Z, Z, Z, Z, Z, Z, Z, Z, trivial⟩
   ·refine rn3 ?_
    exact s41 _ ⟨Z, Z, Z, Z, Z, Z, Z, Z, Z, Z, Z, Z, Z, Z, Z, Z, trivial⟩
  ·refine zG (is := [6, 9]) (by kernel_rfl) (by simp) Z ⟨fun o ho => ?_, fun o ho => ?_, trivial⟩
   all_goals (cases ho)
   ·refine zAe Z Z Z Z Z Z Z Z Z htl Z Z (by show 0 + 1 ≤ 1; omega) Z hb (fun i j _ _ => rfl) (by rw [hfix]; exact fun h => h) ?_
    refine rn1 ?_
    exact s40 _ ⟨Z, Z, Z, Z, Z, Z, Z, Z, Z, Z, Z, Z, Z, Z, trivial⟩
   ·refine rn4 ?_
    exact s41 _ ⟨Z, Z, Z, Z, Z, Z, Z, Z, Z, Z, Z, Z, Z, Z, Z, Z, trivial⟩
  ·refine zG (is := [5]) (by kernel_rfl) (by simp) Z ⟨fun o ho => ?_, trivial⟩
   all_goals (cases ho)
   refine rn3 ?_
   exact s41 _ ⟨Z, Z, Z, Z, Z, Z, Z, Z, Z, Z, Z, Z, Z, Z, Z, Z, trivial⟩
  ·refine zG (is := [2]) (by kernel_rfl) (by simp) Z ⟨fun o ho => ?_, trivial⟩
   all_goals (cases ho)
   refine rn4 ?_
   exact s41 _ ⟨Z, Z, Z, Z, Z, Z, Z, Z, Z, Z, Z, Z, Z, Z, Z, Z, trivial⟩
  ·refine zG (is := [12, 15]) (by kernel_rfl) (by simp) Z ⟨fun o ho => ?_, fun o ho => ?_, trivial⟩
   all_goals (cases ho)
   ·refine rn3 ?_
    exact s42 _ ⟨Z, Z, Z, Z, Z, Z, Z, Z, Z, Z, Z, Z, Z, Z, Z, trivial⟩
   ·refine rn10 ?_
    exact s43 _ ⟨Z, Z, Z, Z, Z, Z, Z, Z, Z, Z, Z, Z, Z, Z, Z, Z, trivial⟩
  ·refine zG (is := [11]) (by kernel_rfl) (by simp) Z ⟨fun o ho => ?_, trivial⟩
   all_goals (cases ho)
   repeat (first | refine zC ?_ | refine zT ?_ | refine zA (zD rfl rfl rfl rfl) ?_)
   exact s43 _ ⟨Z, Z, Z, Z, Z, Z, Z, Z, Z, Z, Z, Z, Z, Z, Z, Z, trivial⟩
  ·refine zG (is := [9]) (by kernel_rfl) (by simp) Z ⟨fun o ho => ?_, trivial⟩
   all_goals (cases ho)
   refine rn4 ?_
   exact s42 _ ⟨Z, Z, Z, Z, Z, Z, Z, Z, Z, Z, Z, Z, Z, Z, Z, trivial⟩
  ·refine zG (is := [6]) (by kernel_rfl) (by simp) Z ⟨fun o ho => ?_, trivial⟩
   all_goals (cases ho)
   refine zAe Z Z Z Z Z Z Z Z Z htl Z Z (by show 0 + 1 ≤ 1; omega) Z hb (fun i j _ _ => rfl) (by rw [hfix]; exact fun h => h) ?_
   refine rn1 ?_
   exact s42 _ ⟨Z, Z, Z, Z, Z, Z, Z, Z, Z, Z, Z, Z, Z, Z, Z, trivial⟩
  ·refine zG (is := [13, 15]) (by kernel_rfl) (by simp) Z ⟨fun o ho => ?_, fun o ho => ?_, trivial⟩
   all_goals (cases ho)
   ·refine zAe Z Z Z Z Z Z Z Z Z htl Z Z (by show 0 + 1 ≤ 1; omega) Z hb (fun i j _ _ => rfl) (by rw [hfix]; exact fun h => h) ?_
    refine rn1 ?_
    exact s44 _ ⟨Z, Z, Z, Z, Z, Z, Z, Z, Z, Z, Z, Z, Z, Z, trivial⟩
   ·refine rn10 ?_
    exact s45 _ ⟨Z, Z, Z, Z, Z, Z, Z, Z, Z, Z, Z, Z, Z, Z, Z, Z, trivial⟩
  ·refine zG (is := [12]) (by kernel_rfl) (by simp) Z ⟨fun o ho => ?_, trivial⟩
   all_goals (cases ho)
   refine rn3 ?_
   exact s45 _ ⟨Z, Z, Z, Z, Z, Z, Z, Z, Z, Z, Z, Z, Z, Z, Z, Z, trivial⟩
  ·refine zG (is := [15]) (by kernel_rfl) (by simp) Z ⟨fun o ho => ?_, trivial⟩
   all_goals (cases ho)
   refine rn10 ?_
   exact fin _ ⟨Z, Z, Z, Z, Z, Z, Z, Z, Z, trivial⟩
  ·refine zG (is := [13]) (by kernel_rfl) (by simp) Z ⟨fun o ho => ?_, trivial⟩
   all_goals (cases ho)
   refine zAe Z Z Z Z Z Z Z Z Z htl Z Z (by show 0 + 1 ≤ 1; omega) Z hb (fun i j _ _ => rfl) (by rw [hfix]; exact fun h => h) ?_
   refine rn1 ?_
   exact fin _ ⟨Z, Z, Z, Z, Z, Z, Z, Z, Z, trivial⟩
  refine zG (is := [16]) (by kernel_rfl) (by simp) Z ⟨fun o ho => ?_, trivial⟩
  all_goals (cases ho)
  refine rn9 ?_
  refine zV 18 Z (by kernel_rfl) (by kernel_rfl) (by kernel_rfl) Z (zAa Z Z Z Z (by first | (simp only [Nat.zero_add, Int.toNat_natCast]; exact Z) | exact Z) (by omega)) Z ?_
  refine zG (is := [19]) (by kernel_rfl) (by simp) Z ⟨fun o ho => ?_, trivial⟩
  all_goals (cases ho)
  refine rn9 ?_
  refine zZ (by kernel_rfl) ?_
  repeat (refine zAM ?_)
  refine zB ?_
  refine zCR (hpB r.start (.sl 3 0 (k + 1)) (.sl 4 0 (k + 1)) (A ++ [p.hand]) (A ++ [p.hand])) [none] [(2, .ptr 1 0 0), (5, .ptr 2 0 0), (19, .ro (zAb r.pcs) 0 r.pcs.length), (20, iN r.pcs.length), (21, iN k)] Z ⟨Z, Z, Z, Z, Z, trivial⟩ (fun h hh => by rw [hfix] at hh; exact hh.elim) (bl_n (zCF (zHn Z) (zCF (zHn Z) (zCF (fun _ _ _ _ => rfl) (zCF (fun _ _ _ _ => rfl) zBr))))) Z ?_
  refine rn3 ?_
  exact zS ⟨k + 1, by omega, by omega, ⟨Z, Z, Z, Z, Z, trivial⟩, by rw [htk]⟩
 ·have hk' : k = r.pcs.length := by omega
  subst hk'
  have htl : (zBW r).take r.pcs.length = zBW r := by rw [← hhl, List.take_length]
  rw [htl]
  refine rn6 ?_
  refine zW (poB r.start (.sl 3 0 r.pcs.length) (.sl 4 0 r.pcs.length)) Z Z Z Z Z Z Z ?_
  refine rn7 ?_
  refine zA3 [none, none, none, some ⟨3, .ints .i64 (zBW r)⟩, some ⟨3, .ints .i64 (zBW r)⟩] [none, some ⟨35, .box (poB r.start (.ro (.ints .i64 (zBW r)) 0 r.pcs.length) (.ro (.ints .i64 (zBW r)) 0 r.pcs.length))⟩, none, none, none] [(2, .ptr 1 0 0), (3, .int .i64 0)] ?_ (zCN (zCN (zCN (zCM zAP (zCM zAP zCp))))) Z ?_ (zB7 ⟨Z, Z, trivial⟩) ?_
  ·intro h o ho
   match h, ho with
   | 0, ho => simp at ho
   | 1, ho => simp at ho
   | 2, ho => simp at ho
   | 3, ho => exact ho
   | 4, ho => exact ho
   | _ + 5, ho => simp at ho
  ·intro h o ho
   match h, ho with
   | 0, ho => simp at ho
   | 1, ho =>
    cases ho
    refine ⟨fun o h => by simp at h, ⟨35, .box (poB r.start (.sl 3 0 r.pcs.length) (.sl 4 0 r.pcs.length))⟩, Z, Z, Z, Z, fun i j hi hj => ?_⟩
    obtain rfl : i = 0 := Nat.lt_one_iff.1 hi
    have hj : j < 5 := hj
    match j, hj with
    | 0, _ => exact .inl rfl
    | 1, _ => exact .inr (.inr ⟨rfl, fun o ho => by cases ho; show 0 + r.pcs.length ≤ (zBW r).length; omega⟩)
    | 2, _ => exact .inr (.inr ⟨rfl, fun o ho => by cases ho; show 0 + r.pcs.length ≤ (zBW r).length; omega⟩)
    | 3, _ => exact .inl rfl
    | 4, _ => exact .inl rfl
   | 2, ho => simp at ho
   | 3, ho => simp at ho
   | 4, ho => simp at ho
   | _ + 5, ho => simp at ho
  repeat (refine zAB ?_)
  refine zN hR Z ?_
  show AV.tup [.agg (poB r.start (.ro (.ints .i64 (zBW r)) 0 r.pcs.length) (.ro (.ints .i64 (zBW r)) 0 r.pcs.length)), .int .i64 0] = _
  rw [← hhl]; rfl
def poS (p : Pos) (n : Nat) : List AV := [.sl n 0 p.cells.length, .sl (n + 1) 0 p.h0.length, .sl (n + 2) 0 p.h1.length, .int .i64 p.turn, .int .i64 p.quiet]
/-- place.Copy, whose slices are the caller's -/
theorem zKJ (p : Pos) (hp : SmallP p) : MCall Tryz.prog 53 [poA p] (.agg (poS p 2)) [some ⟨35, .box (poS p 2)⟩, some ⟨35, .box (poS p 2)⟩, some ⟨3, .ints .i64 p.cells⟩, some ⟨3, .ints .i64 p.h0⟩, some ⟨3, .ints .i64 p.h1⟩] := by
 refine zd.many (zL (P := Tryz.prog) (fn := Tryz.f53) Z Z (by kernel_rfl) Z (fun c hR hfix => ?_)) (fix := fun _ => False) (fun _ h => h) Z
 obtain ⟨h1, h2, h3⟩ := hp
 refine rn6 ?_
 refine zD5 Z Z Z (zKE p.cells (by omega)) ?_
 refine rn8 ?_
 refine ze (by kernel_rfl) ?_
 refine zV 0 Z (by kernel_rfl) (by kernel_rfl) (by kernel_rfl) Z (zM Z Z Z Z Z Z) Z ?_
 refine zV 1 Z (by kernel_rfl) (by kernel_rfl) (by kernel_rfl) Z (zAa Z Z Z Z (by first | (simp only [Nat.zero_add, Int.toNat_natCast]; exact Z) | exact Z) (by omega)) Z ?_
 refine zV 4 Z (by kernel_rfl) (by kernel_rfl) (by kernel_rfl) Z (zM Z Z Z Z Z Z) Z ?_
 refine zV 5 Z (by kernel_rfl) (by kernel_rfl) (by kernel_rfl) Z (zAa Z Z Z Z (by first | (simp only [Nat.zero_add, Int.toNat_natCast]; exact Z) | exact Z) (by omega)) Z ?_
 apply zR (H := [some ⟨35, .box [.sl 2 0 p.cells.length, zt p.h0, zt p.h1, .int .i64 p.turn, .int .i64 p.quiet]⟩, some ⟨35, .box poZ⟩, some ⟨3, .ints .i64 p.cells⟩, some ⟨3, .ints .i64 p.h0⟩, some ⟨3, .ints .i64 p.h1⟩]) [(1, .ptr 0 0 0), (2, .ptr 1 0 0), (10, .sl 3 0 p.h0.length), (14, .sl 4 0 p.h1.length)]
 intro fin
 apply zR (H := [some ⟨35, .box [.sl 2 0 p.cells.length, zt p.h0, zt p.h1, .int .i64 p.turn, .int .i64 p.quiet]⟩, some ⟨35, .box poZ⟩, some ⟨3, .ints .i64 p.cells⟩, some ⟨3, .ints .i64 p.h0⟩]) [(1, .ptr 0 0 0), (2, .ptr 1 0 0), (8, .ptr 0 0 1), (12, .ptr 0 0 2), (10, .sl 3 0 p.h0.length), (13, zt p.h1)]
 intro s5
 apply zR (H := [some ⟨35, .box [.sl 2 0 p.cells.length, zt p.h0, zt p.h1, .int .i64 p.turn, .int .i64 p.quiet]⟩, some ⟨35, .box poZ⟩, some ⟨3, .ints .i64 p.cells⟩]) [(1, .ptr 0 0 0), (2, .ptr 1 0 0), (8, .ptr 0 0 1), (12, .ptr 0 0 2), (9, zt p.h0), (13, zt p.h1)]
 intro s4
 apply zR (H := [some ⟨35, .box [.sl 2 0 p.cells.length, zt p.h0, zt p.h1, .int .i64 p.turn, .int .i64 p.quiet]⟩, some ⟨35, .box poZ⟩, some ⟨3, .ints .i64 p.cells⟩, some ⟨3, .ints .i64 p.h0⟩]) [(1, .ptr 0 0 0), (2, .ptr 1 0 0), (8, .ptr 0 0 1), (12, .ptr 0 0 2), (10, .sl 3 0 p.h0.length)]
 intro s3
 apply zR (H := [some ⟨35, .box [.sl 2 0 p.cells.length, zt p.h0, zt p.h1, .int .i64 p.turn, .int .i64 p.quiet]⟩, some ⟨35, .box poZ⟩, some ⟨3, .ints .i64 p.cells⟩]) [(1, .ptr 0 0 0), (2, .ptr 1 0 0), (8, .ptr 0 0 1), (12, .ptr 0 0 2), (13, zt p.h1)]
 intro s2
 apply zR (H := [some ⟨35, .box [.sl 2 0 p.cells.length, zt p.h0, zt p.h1, .int .i64 p.turn, .int .i64 p.quiet]⟩, some ⟨35, .box poZ⟩, some ⟨3, .ints .i64 p.cells⟩]) [(1, .ptr 0 0 0), (2, .ptr 1 0 0), (8, .ptr 0 0 1), (12, .ptr 0 0 2), (9, zt p.h0)]
 intro s1
 ·refine zG (is := [2, 6]) (by kernel_rfl) (by simp) Z ⟨fun o ho => ?_, fun o ho => ?_, trivial⟩
  all_goals (cases ho)
  ·refine rn4 ?_
   exact s1 _ ⟨Z, Z, Z, Z, Z, trivial⟩
  ·refine rn4 ?_
   exact s2 _ ⟨Z, Z, Z, Z, Z, trivial⟩
 ·refine zG (is := [3, 6]) (by kernel_rfl) (by simp) Z ⟨fun o ho => ?_, fun o ho => ?_, trivial⟩
  all_goals (cases ho)
  ·refine zD5 Z Z Z (zKE p.h0 (by omega)) ?_
   refine rn1 ?_
   exact s3 _ ⟨Z, Z, Z, Z, Z, trivial⟩
  ·refine rn4 ?_
   exact s4 _ ⟨Z, Z, Z, Z, Z, Z, trivial⟩
 ·refine zG (is := [2]) (by kernel_rfl) (by simp) Z ⟨fun o ho => ?_, trivial⟩
  all_goals (cases ho)
  refine rn4 ?_
  exact s4 _ ⟨Z, Z, Z, Z, Z, Z, trivial⟩
 ·refine zG (is := [6]) (by kernel_rfl) (by simp) Z ⟨fun o ho => ?_, trivial⟩
  all_goals (cases ho)
  refine rn4 ?_
  exact s5 _ ⟨Z, Z, Z, Z, Z, Z, trivial⟩
 ·refine zG (is := [3]) (by kernel_rfl) (by simp) Z ⟨fun o ho => ?_, trivial⟩
  all_goals (cases ho)
  refine zD5 Z Z Z (zKE p.h0 (by omega)) ?_
  refine rn1 ?_
  exact s5 _ ⟨Z, Z, Z, Z, Z, Z, trivial⟩
 ·refine zG (is := [7]) (by kernel_rfl) (by simp) Z ⟨fun o ho => ?_, trivial⟩
  all_goals (cases ho)
  refine zD5 Z Z Z (zKE p.h1 (by omega)) ?_
  refine rn1 ?_
  exact fin _ ⟨Z, Z, Z, Z, trivial⟩
 refine zV 8 Z (by kernel_rfl) (by kernel_rfl) (by kernel_rfl) Z (zDR Z Z Z Z Z Z) Z ?_
 refine zV 9 Z (by kernel_rfl) (by kernel_rfl) (by kernel_rfl) Z (zM Z Z Z Z Z Z) Z ?_
 refine zG (is := [10]) (by kernel_rfl) (by simp) Z ⟨fun o ho => ?_, trivial⟩
 all_goals (cases ho)
 refine zGG (c' := .box (poS p 2)) (i := 0) (j := 1) Z Z Z Z Z (by show 1 + 2 ≤ 5; omega) Nat.zero_lt_one Z Z (fun i' j' hi' hj' => ?_) ?_
 ·obtain rfl : i' = 0 := Nat.lt_one_iff.1 hi'
  have hj' : j' < 5 := hj'
  match j', hj' with
  | 0, _ => rfl
  | 1, _ => rfl
  | 2, _ => rfl
  | 3, _ => rfl
  | 4, _ => rfl
 refine rn1 ?_
 refine zZ (by kernel_rfl) ?_
 refine rn6 ?_
 refine zW (poS p 2) Z Z Z Z Z Z Z ?_
 refine rn0 ?_
 exact zN hR Z ⟨Z, Z⟩
end Go.Proofs.YtiifcejepaeepaaGreatDoor
