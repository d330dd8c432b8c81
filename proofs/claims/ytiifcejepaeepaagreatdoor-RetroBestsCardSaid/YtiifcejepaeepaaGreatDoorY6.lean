import Derived.Laws.Bits64
import Derived.Test.YtiifcejepaeepaaGreatDoorY5
set_option linter.unusedVariables false
set_option linter.unusedSimpArgs false
set_option maxRecDepth 100000
set_option maxHeartbeats 4000000
namespace Go.Proofs.YtiifcejepaeepaaGreatDoor
open Go.Ax Go.Ax.Gm Go.RowKit Go.Ax.Idx Go.Ax.Cd
attribute [local irreducible] Ax zB4 QOp zd
/-- moves.Make, player 0 -/
theorem make0_ok (r : Go.Ax.Gm.Rules) (hv : ValidR r) (cs a b : List Int) (qt : Int) (S : Sound r ⟨cs, a, b, 0, qt⟩) (m : Mv) (hm : MvOK r ⟨cs, a, b, 0, qt⟩ m) : zl Tryz.prog 67 [ruA r, poA ⟨cs, a, b, 0, qt⟩, mvA m] (poA (zAK r ⟨cs, a, b, 0, qt⟩ m)) := by
 refine zd.value0 (zL (P := Tryz.prog) (fn := Tryz.f67) Z Z (by kernel_rfl) Z (fun c hR hfix => ?_)) (fix := fun _ => False) (fun _ h => h) Z Z
 have SP := zAu hv S
 have hcc : cs.length ≤ 64 := SP.c
 have hcl : (cs.length : Int) = r.w * r.h := S.cl
 have hal : a.length = r.pcs.length := S.l0
 have hn6 := hv.n6
 have hqt : 0 ≤ qt ∧ qt ≤ 200 := S.qt
 have hain : ∀ n ∈ a, 0 ≤ n ∧ n ≤ 1000 := S.c0
 have hC12 := fun s => zHp hv S s
 have hKlt := fun s => zES S s
 obtain ⟨m1, m2, m3, m4, m5⟩ := hm
 have m2 : m.to.toNat < cs.length := m2
 have m4 : m.pc.toNat < a.length := by omega
 have m5 : (m.fr = -1 ∧ 0 < a.getD m.pc.toNat 0) ∨ (0 ≤ m.fr ∧ m.fr.toNat < cs.length) := m5
 have hapc := hain _ (zAp 0 m4)
 refine zX ?_
 repeat (first | refine zC ?_ | refine zB ?_ | refine zK rfl ?_ | refine zAo rfl rfl ?_ | refine zAS rfl rfl rfl ?_)
 refine zA3 [some ⟨26, .box (ruC r)⟩, some ⟨35, .box (poC ⟨cs, a, b, 0, qt⟩)⟩, some ⟨58, .box (mvC m)⟩, none] [none, none, none, some ⟨35, .box poZ⟩] [(3, .rp (.box (ruC r)) 0 0), (4, .rp (.box [zt cs, zt a, zt b, .int .i64 0, .int .i64 qt]) 0 0), (5, .rp (.box (mvC m)) 0 0), (6, .ptr 3 0 0)] ?_ (zCM (zw rfl) (zCM (zw rfl) (zCM (zw rfl) (zCN zCp)))) rfl ?_ ⟨⟨.ptr 0 0 0, rfl, .inr (.inr ⟨rfl, fun o ho => by cases ho; exact Nat.zero_lt_one⟩)⟩, ⟨.ptr 1 0 0, rfl, .inr (.inr ⟨rfl, fun o ho => by cases ho; exact Nat.zero_lt_one⟩)⟩, ⟨.ptr 2 0 0, rfl, .inr (.inr ⟨rfl, fun o ho => by cases ho; exact Nat.zero_lt_one⟩)⟩, ⟨_, rfl, .inl rfl⟩, trivial⟩ ?_
 ·intro h o ho
  match h, ho with
  | 0, ho => exact ho
  | 1, ho => exact ho
  | 2, ho => exact ho
  | 3, ho => simp at ho
  | _ + 4, ho => simp at ho
 ·intro h o ho
  match h, ho with
  | 0, ho => simp at ho
  | 1, ho => simp at ho
  | 2, ho => simp at ho
  | 3, ho => cases ho; exact ⟨fun o h => by simp at h, _, rfl, rfl, rfl, rfl, fun _ _ _ _ => .inl rfl⟩
  | _ + 4, ho => simp at ho
 refine rn6 ?_
 refine zJ8 (.agg (poS ⟨cs, a, b, 0, qt⟩ 6)) [none, none, none, some ⟨35, .box poZ⟩, some ⟨35, .box (poS ⟨cs, a, b, 0, qt⟩ 6)⟩, some ⟨35, .box (poS ⟨cs, a, b, 0, qt⟩ 6)⟩, some ⟨3, .ints .i64 cs⟩, some ⟨3, .ints .i64 a⟩, some ⟨3, .ints .i64 b⟩] Z Z Z (zKJ _ SP) Z Z ?_
 repeat (refine zAS rfl rfl rfl ?_)
 refine zW (poS ⟨cs, a, b, 0, qt⟩ 6) Z Z Z Z Z Z Z ?_
 refine zA9 [none, none, none, some ⟨35, .box poZ⟩, none, none, some ⟨3, .ints .i64 cs⟩, some ⟨3, .ints .i64 a⟩, some ⟨3, .ints .i64 b⟩, some ⟨35, .box [.sl 6 0 cs.length, .sl 7 0 a.length, .sl 8 0 b.length, .int .i64 0, .int .i64 qt]⟩] (zA2.drop (zA2.drop (zA2.drop (zA2.eqv (CEq.refl _) (zA2.drop (zA2.drop (zA2.refl _))))))) ?_
 repeat (first | refine zA (zP rfl) ?_ | refine zC ?_ | refine zB ?_ | refine zX ?_ | refine zK rfl ?_ | refine zA (zU rfl rfl rfl rfl rfl) ?_ | refine zA (zDs rfl rfl) ?_ | refine zA (zi rfl rfl rfl rfl rfl (by first | (simp only [Nat.zero_add, Int.toNat_natCast, Int.toNat_zero]; exact rfl) | exact rfl) (by omega)) ?_ | refine zA (zA0 rfl rfl rfl rfl (by first | assumption | omega)) ?_ | refine zA (zD rfl rfl rfl rfl) ?_ | refine zA (zM rfl rfl rfl rfl rfl rfl) ?_ | refine zA (zI rfl rfl rfl rfl rfl rfl) ?_)
 obtain ⟨took, htk⟩ : ∃ took, cs.getD m.to.toNat 0 = took := ⟨_, rfl⟩
 have htk2 : zAG ⟨cs, a, b, 0, qt⟩ m.to.toNat = took := htk
 have ht12 := hC12 m.to.toNat
 have htK : took ≠ 0 → zAV took < r.pcs.length := fun q => by
  have h := hKlt m.to.toNat
  rw [htk2] at h
  exact zFV q h.1 h.2
 rw [htk2] at ht12
 obtain ⟨C1, hC1⟩ : ∃ C1, (if 0 ≤ m.fr then cs.set m.fr.toNat 0 else cs) = C1 := ⟨_, rfl⟩
 obtain ⟨A1, hA1⟩ : ∃ A1, (if 0 ≤ m.fr then a else a.set m.pc.toNat (a.getD m.pc.toNat 0 - 1)) = A1 := ⟨_, rfl⟩
 have hC1l : C1.length = cs.length := by rw [← hC1]; split <;> simp
 have hA1l : A1.length = a.length := by rw [← hA1]; split <;> simp
 have hA1in : ∀ i, -1 ≤ A1.getD i 0 ∧ A1.getD i 0 ≤ 1000 := fun i => by
  rw [← hA1]
  split
  ·by_cases q : i < a.length
   ·have := hain _ (zAp 0 q); omega
   ·rw [List.getD, List.getElem?_eq_none (by omega)]; exact ⟨by decide, by decide⟩
  ·by_cases q : i < a.length
   ·by_cases q2 : m.pc.toNat = i
    ·rw [← q2, List.getD, List.getElem?_set_self m4]; show -1 ≤ a.getD m.pc.toNat 0 - 1 ∧ a.getD m.pc.toNat 0 - 1 ≤ 1000; omega
    ·rw [List.getD, List.getElem?_set_ne q2]; have := hain _ (zAp 0 q); rw [List.getD] at this; omega
   ·rw [List.getD, List.getElem?_eq_none (by rw [List.length_set]; omega)]; exact ⟨by decide, by decide⟩
 refine zBp 8 (.int .i64 took) Z (AEq.of_eq (by rw [← htk])) ?_
 apply zAD (H := [none, none, none, some ⟨35, .box poZ⟩, none, none, some ⟨3, .ints .i64 C1⟩, some ⟨3, .ints .i64 A1⟩, some ⟨3, .ints .i64 b⟩, some ⟨35, .box [.sl 6 0 cs.length, .sl 7 0 a.length, .sl 8 0 b.length, .int .i64 0, .int .i64 qt]⟩]) [(3, .rp (.box (ruC r)) 0 0), (4, .rp (.box [zt cs, zt a, zt b, .int .i64 0, .int .i64 qt]) 0 0), (5, .rp (.box (mvC m)) 0 0), (6, .ptr 3 0 0), (7, .ptr 9 0 0), (8, .int .i64 took)]
 ·intro fin
  refine zF Z (fun f1 => ?_) (fun f1 => ?_)
  ·have f1 : 0 ≤ m.fr := f1
   rw [if_pos f1] at hC1 hA1
   have f2 : m.fr.toNat < cs.length := by rcases m5 with q | q; omega; exact q.2
   subst hC1 hA1
   repeat (first | refine zC ?_ | refine zB ?_ | refine zK rfl ?_ | refine zA (zU rfl rfl rfl rfl rfl) ?_ | refine zA (zi rfl rfl rfl rfl rfl (by first | (simp only [Nat.zero_add, Int.toNat_natCast, Int.toNat_zero]; exact rfl) | exact rfl) (by omega)) ?_ | refine zA (zD rfl rfl rfl rfl) ?_ | refine zA (zM rfl rfl rfl rfl rfl rfl) ?_ | refine zA (zI rfl rfl rfl rfl rfl rfl) ?_ | refine zAJ rfl rfl rfl rfl rfl rfl rfl (by first | assumption | (show _ < List.length _; first | assumption | omega)) ?_)
   exact fin _ ⟨Z, Z, Z, Z, Z, Z, trivial⟩
  ·have f1 : ¬ 0 ≤ m.fr := f1
   rw [if_neg f1] at hC1 hA1
   subst hC1 hA1
   skip
   refine ze (by kernel_rfl) ?_
   refine zm (fuel := 1) [0, 1, 2, 3, 4, 5, 6, 7, 8, 9, 10] [(3, .rp (.box (ruC r)) 0 0), (4, .rp (.box [zt cs, zt a, zt b, .int .i64 0, .int .i64 qt]) 0 0), (5, .rp (.box (mvC m)) 0 0), (6, .ptr 3 0 0), (7, .ptr 9 0 0), (8, .int .i64 took)] ⟨Z, Z, Z, Z, Z, Z, trivial⟩ (by kernel_rfl) (by decide) Z Z ?_
   refine zJ Z Z (zI Z Z Z Z Z Z) ?_
   refine zJ Z Z (zD Z Z Z Z) ?_
   refine zJ Z Z (zM Z Z Z Z Z Z) ?_
   refine zJ Z Z (zAa Z Z Z Z Z (by show (0 : Int) ≤ 0 ∧ (0 : Int) < 2; decide)) ?_
   refine zJ Z Z (zU Z Z Z Z Z) ?_
   refine zJ Z Z (zI Z Z Z Z Z Z) ?_
   refine zJ Z Z (zD Z Z Z Z) ?_
   refine zJ Z Z (zi Z Z Z Z Z (by first | (simp only [Nat.zero_add, Int.toNat_natCast, Int.toNat_zero]; exact Z) | exact Z) (by omega)) ?_
   refine zJ Z Z (zA0 Z Z Z Z (by first | assumption | omega)) ?_
   refine zJ Z Z (zBK Z Z (by omega)) ?_
   refine zJ Z Z (zi Z Z Z Z Z (by first | (simp only [Nat.zero_add, Int.toNat_natCast, Int.toNat_zero]; exact Z) | exact Z) (by omega)) ?_
   refine zAA ?_
   refine zG (is := [11]) (by kernel_rfl) (by simp) Z ⟨fun o ho => ?_, trivial⟩
   all_goals (cases ho)
   refine rn7 ?_
   refine zZ (by kernel_rfl) ?_
   repeat (refine zB ?_)
   exact fin _ ⟨Z, Z, Z, Z, Z, Z, trivial⟩
 obtain ⟨C2, hC2⟩ : ∃ C2, C1.set m.to.toNat (2 * m.pc + 0 + 1) = C2 := ⟨_, rfl⟩
 have hC2l : C2.length = cs.length := by rw [← hC2, List.length_set, hC1l]
 obtain ⟨A2, hA2⟩ : ∃ A2, (if 0 < took ∧ r.keeps = true then A1.set (zAV took) (min (A1.getD (zAV took) 0 + 1) 1000) else A1) = A2 := ⟨_, rfl⟩
 have hmt : m.to.toNat < C1.length := by omega
 have hmt2 : m.to.toNat < (Cells.ints .i64 C1).len := hmt
 obtain ⟨q3, hq3⟩ : ∃ q3, (if 0 < took ∨ m.fr < 0 then 0 else min (qt + 1) 200) = q3 := ⟨_, rfl⟩
 repeat (first | refine zX ?_ | refine zK rfl ?_ | refine zA (zU rfl rfl rfl rfl rfl) ?_ | refine zA (zD rfl rfl rfl rfl) ?_ | refine zA (zM rfl rfl rfl rfl rfl rfl) ?_ | refine zA (zI rfl rfl rfl rfl rfl rfl) ?_)
 refine zA (zCo Z Z (by omega)) ?_
 repeat (first | refine zA (zH rfl) ?_ | refine zC ?_ | refine zB ?_ | refine zX ?_ | refine zK rfl ?_ | refine zA (zCY rfl rfl) ?_ | refine zA (zA7 rfl rfl (by omega)) ?_ | refine zA (zi rfl rfl rfl rfl rfl (by first | (simp only [Nat.zero_add, Int.toNat_natCast, Int.toNat_zero]; exact rfl) | exact rfl) (by omega)) ?_ | refine zA (zD rfl rfl rfl rfl) ?_ | refine zA (zI rfl rfl rfl rfl rfl rfl) ?_ | refine zAJ rfl rfl rfl rfl rfl rfl rfl (by first | assumption | (show _ < List.length _; first | assumption | omega)) ?_)
 refine zAj [none, none, none, some ⟨35, .box poZ⟩, none, none, some ⟨3, .ints .i64 C2⟩, some ⟨3, .ints .i64 A1⟩, some ⟨3, .ints .i64 b⟩, some ⟨35, .box [.sl 6 0 cs.length, .sl 7 0 a.length, .sl 8 0 b.length, .int .i64 0, .int .i64 qt]⟩] (by rw [← hC2]; rfl) ?_
 apply zAD (H := [none, none, none, some ⟨35, .box poZ⟩, none, none, some ⟨3, .ints .i64 C2⟩, some ⟨3, .ints .i64 A2⟩, some ⟨3, .ints .i64 b⟩, some ⟨35, .box [.sl 6 0 cs.length, .sl 7 0 a.length, .sl 8 0 b.length, .int .i64 0, .int .i64 qt]⟩]) [(3, .rp (.box (ruC r)) 0 0), (4, .rp (.box [zt cs, zt a, zt b, .int .i64 0, .int .i64 qt]) 0 0), (5, .rp (.box (mvC m)) 0 0), (6, .ptr 3 0 0), (7, .ptr 9 0 0), (8, .int .i64 took)]
 ·intro fin
  refine zh Z Z (fun f1 => ?_) (fun f1 => ?_)
  ·have f1 : 0 < took := f1
   refine zAn ?_
   refine zAO Z (fun f2 => ?_) (fun f2 => ?_)
   ·rw [if_pos ⟨f1, f2⟩] at hA2
    have hKl : zAV took < A1.length := by have := htK (by omega); omega
    have hKl2 : zAV took < (Cells.ints .i64 A1).len := hKl
    have hKC : (took - 1) / 2 = ((zAV took : Nat) : Int) := by unfold zAV; rw [Int.tdiv_eq_ediv_of_nonneg (by omega)]; omega
    have hKin := hA1in (zAV took)
    generalize zAV took = K at hA2 hKl hKl2 hKC hKin
    refine zX ?_
    repeat (first | refine zA (zH rfl) ?_ | refine zA (zP rfl) ?_ | refine zC ?_ | refine zB ?_ | refine zK rfl ?_ | refine zA (zBK rfl rfl (by omega)) ?_ | refine zA (zHJ rfl rfl (by omega)) ?_)
    refine zBp 9 (iN K) Z (AEq.of_eq (by rw [hKC])) ?_
    refine ze (by kernel_rfl) ?_
    refine zm (fuel := 1) [0, 1, 2, 3, 4, 5, 6, 7, 8, 9, 10, 11, 12, 13, 14, 15, 16] [(3, .rp (.box (ruC r)) 0 0), (4, .rp (.box [zt cs, zt a, zt b, .int .i64 0, .int .i64 qt]) 0 0), (5, .rp (.box (mvC m)) 0 0), (6, .ptr 3 0 0), (7, .ptr 9 0 0), (8, .int .i64 took), (9, iN K)] ⟨Z, Z, Z, Z, Z, Z, Z, trivial⟩ (by kernel_rfl) (by decide) Z Z ?_
    refine zJ Z Z (zI Z Z Z Z Z Z) ?_
    refine zJ Z Z (zD Z Z Z Z) ?_
    refine zJ Z Z (zM Z Z Z Z Z Z) ?_
    refine zJ Z Z (zAa Z Z Z Z Z (by show (0 : Int) ≤ 0 ∧ (0 : Int) < 2; decide)) ?_
    refine zJ Z Z (zU Z Z Z Z Z) ?_
    refine zJ Z Z (zH Z) ?_
    refine zJ Z Z (zI Z Z Z Z Z Z) ?_
    refine zJ Z Z (zD Z Z Z Z) ?_
    refine zJ Z Z (zM Z Z Z Z Z Z) ?_
    refine zJ Z Z (zAa Z Z Z Z Z (by show (0 : Int) ≤ 0 ∧ (0 : Int) < 2; decide)) ?_
    refine zJ Z Z (zU Z Z Z Z Z) ?_
    refine zJ Z Z (zH Z) ?_
    refine zJ Z Z (zi Z Z Z Z Z (by first | (simp only [Nat.zero_add, Int.toNat_natCast, Int.toNat_zero]; exact Z) | exact Z) (by omega)) ?_
    refine zJ Z Z (zA0 Z Z Z Z (by first | assumption | omega)) ?_
    refine zJ Z Z (zA7 Z Z (by omega)) ?_
    refine zJ Z Z (zKo Z Z) ?_
    refine zJ Z Z (zi Z Z Z Z Z (by first | (simp only [Nat.zero_add, Int.toNat_natCast, Int.toNat_zero]; exact Z) | exact Z) (by omega)) ?_
    refine zAA ?_
    refine zG (is := [17]) (by kernel_rfl) (by simp) Z ⟨fun o ho => ?_, trivial⟩
    all_goals (cases ho)
    refine rn7 ?_
    refine zZ (by kernel_rfl) ?_
    repeat (refine zB ?_)
    have e : (if A1.getD K 0 + 1 ≤ 1000 then A1.getD K 0 + 1 else (1000 : Int)) = (if 1000 < A1.getD K 0 + 1 then 1000 else A1.getD K 0 + 1) := by split <;> split <;> omega
    refine zAh [none, none, none, some ⟨35, .box poZ⟩, none, none, some ⟨3, .ints .i64 C2⟩, some ⟨3, .ints .i64 A2⟩, some ⟨3, .ints .i64 b⟩, some ⟨35, .box [.sl 6 0 cs.length, .sl 7 0 a.length, .sl 8 0 b.length, .int .i64 0, .int .i64 qt]⟩] (by rw [← hA2, Int.min_def, e]; rfl) ?_
    exact fin _ ⟨Z, Z, Z, Z, Z, Z, trivial⟩
   ·rw [if_neg (fun q => by rw [f2] at q; exact Bool.false_ne_true q.2)] at hA2
    subst hA2
    refine zFi ?_
    exact fin _ ⟨Z, Z, Z, Z, Z, Z, trivial⟩
  ·have f1 : ¬ 0 < took := f1
   rw [if_neg (fun q => f1 q.1)] at hA2
   subst hA2
   refine zFi ?_
   exact fin _ ⟨Z, Z, Z, Z, Z, Z, trivial⟩
 repeat (first | refine zA (zH rfl) ?_ | refine zC ?_ | refine zB ?_ | refine zX ?_ | refine zK rfl ?_ | refine zA (zCY rfl rfl) ?_ | refine zA (zA7 rfl rfl (by omega)) ?_ | refine zA (zD rfl rfl rfl rfl) ?_ | refine zA (zKo rfl rfl) ?_ | refine zA (zM rfl rfl rfl rfl rfl rfl) ?_ | refine zA (zI rfl rfl rfl rfl rfl rfl) ?_ | refine zAJ rfl rfl rfl rfl rfl rfl rfl Nat.zero_lt_one ?_)
 refine zAj [none, none, none, some ⟨35, .box poZ⟩, none, none, some ⟨3, .ints .i64 C2⟩, some ⟨3, .ints .i64 A2⟩, some ⟨3, .ints .i64 b⟩, some ⟨35, .box [.sl 6 0 cs.length, .sl 7 0 a.length, .sl 8 0 b.length, .int .i64 0, .int .i64 (if 200 < qt + 1 then 200 else qt + 1)]⟩] Z ?_
 apply zAD (H := [none, none, none, some ⟨35, .box poZ⟩, none, none, some ⟨3, .ints .i64 C2⟩, some ⟨3, .ints .i64 A2⟩, some ⟨3, .ints .i64 b⟩, some ⟨35, .box [.sl 6 0 cs.length, .sl 7 0 a.length, .sl 8 0 b.length, .int .i64 0, .int .i64 q3]⟩]) [(3, .rp (.box (ruC r)) 0 0), (4, .rp (.box [zt cs, zt a, zt b, .int .i64 0, .int .i64 qt]) 0 0), (5, .rp (.box (mvC m)) 0 0), (6, .ptr 3 0 0), (7, .ptr 9 0 0), (8, .int .i64 took)]
 ·intro fin
  refine zh Z Z (fun f1 => ?_) (fun f1 => ?_)
  ·have f1 : 0 < took := f1
   rw [if_pos (.inl f1)] at hq3
   subst hq3
   repeat (first | refine zC ?_ | refine zB ?_ | refine zK rfl ?_ | refine zAN rfl rfl rfl ?_ | refine zAf rfl ?_ | refine zA (zf rfl rfl) ?_ | refine zA (zM rfl rfl rfl rfl rfl rfl) ?_ | refine zAJ rfl rfl rfl rfl rfl rfl rfl Nat.zero_lt_one ?_)
   exact fin _ ⟨Z, Z, Z, Z, Z, Z, trivial⟩
  ·have f1 : ¬ 0 < took := f1
   repeat (first | refine zC ?_ | refine zB ?_ | refine zo rfl rfl ?_ | refine zA (zCB rfl rfl) ?_ | refine zA (zf rfl rfl) ?_ | refine zA (zD rfl rfl rfl rfl) ?_ | refine zA (zI rfl rfl rfl rfl rfl rfl) ?_)
   refine zF Z (fun f2 => ?_) (fun f2 => ?_)
   ·have f2 : m.fr < 0 := f2
    rw [if_pos (.inr f2)] at hq3
    subst hq3
    repeat (first | refine zC ?_ | refine zB ?_ | refine zK rfl ?_ | refine zA (zM rfl rfl rfl rfl rfl rfl) ?_ | refine zAJ rfl rfl rfl rfl rfl rfl rfl Nat.zero_lt_one ?_)
    exact fin _ ⟨Z, Z, Z, Z, Z, Z, trivial⟩
   ·have f2 : ¬ m.fr < 0 := f2
    rw [if_neg (fun q => q.elim f1 f2)] at hq3
    refine zFi ?_
    have e : (if 200 < qt + 1 then (200 : Int) else qt + 1) = q3 := by
     rw [← hq3, Int.min_def]
     split <;> split <;> omega
    refine zAh [none, none, none, some ⟨35, .box poZ⟩, none, none, some ⟨3, .ints .i64 C2⟩, some ⟨3, .ints .i64 A2⟩, some ⟨3, .ints .i64 b⟩, some ⟨35, .box [.sl 6 0 cs.length, .sl 7 0 a.length, .sl 8 0 b.length, .int .i64 0, .int .i64 q3]⟩] (by rw [e]) ?_
    exact fin _ ⟨Z, Z, Z, Z, Z, Z, trivial⟩
 repeat (first | refine zC ?_ | refine zB ?_ | refine zX ?_ | refine zK rfl ?_ | refine zA (zBK rfl rfl (by omega)) ?_ | refine zA (zD rfl rfl rfl rfl) ?_ | refine zA (zM rfl rfl rfl rfl rfl rfl) ?_ | refine zA (zI rfl rfl rfl rfl rfl rfl) ?_ | refine zA (qpp rfl rfl rfl rfl rfl rfl rfl) ?_ | refine zAJ rfl rfl rfl rfl rfl rfl rfl Nat.zero_lt_one ?_)
 have hA2l : A2.length = a.length := by rw [← hA2]; split <;> simp [hA1l]
 have hmk : zAK r ⟨cs, a, b, 0, qt⟩ m = ⟨C2, A2, b, 1 - 0, q3⟩ := by
  have e : zAK r ⟨cs, a, b, 0, qt⟩ m = ⟨(if 0 ≤ m.fr then cs.set m.fr.toNat 0 else cs).set m.to.toNat (2 * m.pc + 0 + 1), (if 0 < zAG ⟨cs, a, b, 0, qt⟩ m.to.toNat ∧ r.keeps = true then (if 0 ≤ m.fr then a else a.set m.pc.toNat (a.getD m.pc.toNat 0 - 1)).set (zAV (zAG ⟨cs, a, b, 0, qt⟩ m.to.toNat)) (min ((if 0 ≤ m.fr then a else a.set m.pc.toNat (a.getD m.pc.toNat 0 - 1)).getD (zAV (zAG ⟨cs, a, b, 0, qt⟩ m.to.toNat)) 0 + 1) 1000) else (if 0 ≤ m.fr then a else a.set m.pc.toNat (a.getD m.pc.toNat 0 - 1))), b, 1 - 0, if 0 < zAG ⟨cs, a, b, 0, qt⟩ m.to.toNat ∨ m.fr < 0 then 0 else min (qt + 1) 200⟩ := rfl
  rw [e, htk2, hC1, hA1, hC2, hA2, hq3]
 refine zW [.sl 6 0 cs.length, .sl 7 0 a.length, .sl 8 0 b.length, .int .i64 (1 - 0), .int .i64 q3] Z Z Z Z Z Z Z ?_
 refine rn7 ?_
 refine zA3 [none, none, none, none, none, none, some ⟨3, .ints .i64 C2⟩, some ⟨3, .ints .i64 A2⟩, some ⟨3, .ints .i64 b⟩, none] [none, none, none, some ⟨35, .box [.ro (.ints .i64 C2) 0 cs.length, .ro (.ints .i64 A2) 0 a.length, .ro (.ints .i64 b) 0 b.length, .int .i64 (1 - 0), .int .i64 q3]⟩, none, none, none, none, none, none] [(6, .ptr 3 0 0)] ?_ (zCN (zCN (zCN (zCN (zCN (zCN (zCM zAP (zCM zAP (zCM zAP (zCN zCp)))))))))) Z ?_ (zB7 ⟨Z, trivial⟩) ?_
 ·intro h o ho
  match h, ho with
  | 0, ho => simp at ho
  | 1, ho => simp at ho
  | 2, ho => simp at ho
  | 3, ho => simp at ho
  | 4, ho => simp at ho
  | 5, ho => simp at ho
  | 6, ho => exact ho
  | 7, ho => exact ho
  | 8, ho => exact ho
  | 9, ho => simp at ho
  | _ + 10, ho => simp at ho
 ·intro h o ho
  match h, ho with
  | 0, ho => simp at ho
  | 1, ho => simp at ho
  | 2, ho => simp at ho
  | 3, ho =>
   cases ho
   refine ⟨fun o h => by simp at h, ⟨35, .box [.sl 6 0 cs.length, .sl 7 0 a.length, .sl 8 0 b.length, .int .i64 (1 - 0), .int .i64 q3]⟩, Z, Z, Z, Z, fun i j hi hj => ?_⟩
   obtain rfl : i = 0 := Nat.lt_one_iff.1 hi
   have hj : j < 5 := hj
   match j, hj with
   | 0, _ => exact .inr (.inr ⟨rfl, fun o ho => by cases ho; show 0 + cs.length ≤ C2.length; omega⟩)
   | 1, _ => exact .inr (.inr ⟨rfl, fun o ho => by cases ho; show 0 + a.length ≤ A2.length; omega⟩)
   | 2, _ => exact .inr (.inr ⟨rfl, fun o ho => by cases ho; show 0 + b.length ≤ b.length; omega⟩)
   | 3, _ => exact .inl rfl
   | 4, _ => exact .inl rfl
  | 4, ho => simp at ho
  | 5, ho => simp at ho
  | 6, ho => simp at ho
  | 7, ho => simp at ho
  | 8, ho => simp at ho
  | 9, ho => simp at ho
  | _ + 10, ho => simp at ho
 repeat (refine zAB ?_)
 refine zN hR Z ?_
 rw [hmk]
 show AV.agg [.ro (.ints .i64 C2) 0 cs.length, .ro (.ints .i64 A2) 0 a.length, .ro (.ints .i64 b) 0 b.length, .int .i64 (1 - 0), .int .i64 q3] = AV.agg [zt C2, zt A2, zt b, .int .i64 (1 - 0), .int .i64 q3]
 unfold zt
 rw [hC2l, hA2l]
/-- moves.Make, player 1 -/
theorem make1_ok (r : Go.Ax.Gm.Rules) (hv : ValidR r) (cs a b : List Int) (qt : Int) (S : Sound r ⟨cs, b, a, 1, qt⟩) (m : Mv) (hm : MvOK r ⟨cs, b, a, 1, qt⟩ m) : zl Tryz.prog 67 [ruA r, poA ⟨cs, b, a, 1, qt⟩, mvA m] (poA (zAK r ⟨cs, b, a, 1, qt⟩ m)) := by
 refine zd.value0 (zL (P := Tryz.prog) (fn := Tryz.f67) Z Z (by kernel_rfl) Z (fun c hR hfix => ?_)) (fix := fun _ => False) (fun _ h => h) Z Z
 have SP := zAu hv S
 have hcc : cs.length ≤ 64 := SP.c
 have hcl : (cs.length : Int) = r.w * r.h := S.cl
 have hal : a.length = r.pcs.length := S.l1
 have hn6 := hv.n6
 have hqt : 0 ≤ qt ∧ qt ≤ 200 := S.qt
 have hain : ∀ n ∈ a, 0 ≤ n ∧ n ≤ 1000 := S.c1
 have hC12 := fun s => zHp hv S s
 have hKlt := fun s => zES S s
 obtain ⟨m1, m2, m3, m4, m5⟩ := hm
 have m2 : m.to.toNat < cs.length := m2
 have m4 : m.pc.toNat < a.length := by omega
 have m5 : (m.fr = -1 ∧ 0 < a.getD m.pc.toNat 0) ∨ (0 ≤ m.fr ∧ m.fr.toNat < cs.length) := m5
 have hapc := hain _ (zAp 0 m4)
 refine zX ?_
 repeat (first | refine zC ?_ | refine zB ?_ | refine zK rfl ?_ | refine zAo rfl rfl ?_ | refine zAS rfl rfl rfl ?_)
 refine zA3 [some ⟨26, .box (ruC r)⟩, some ⟨35, .box (poC ⟨cs, b, a, 1, qt⟩)⟩, some ⟨58, .box (mvC m)⟩, none] [none, none, none, some ⟨35, .box poZ⟩] [(3, .rp (.box (ruC r)) 0 0), (4, .rp (.box [zt cs, zt b, zt a, .int .i64 1, .int .i64 qt]) 0 0), (5, .rp (.box (mvC m)) 0 0), (6, .ptr 3 0 0)] ?_ (zCM (zw rfl) (zCM (zw rfl) (zCM (zw rfl) (zCN zCp)))) rfl ?_ ⟨⟨.ptr 0 0 0, rfl, .inr (.inr ⟨rfl, fun o ho => by cases ho; exact Nat.zero_lt_one⟩)⟩, ⟨.ptr 1 0 0, rfl, .inr (.inr ⟨rfl, fun o ho => by cases ho; exact Nat.zero_lt_one⟩)⟩, ⟨.ptr 2 0 0, rfl, .inr (.inr ⟨rfl, fun o ho => by cases ho; exact Nat.zero_lt_one⟩)⟩, ⟨_, rfl, .inl rfl⟩, trivial⟩ ?_
 ·intro h o ho
  match h, ho with
  | 0, ho => exact ho
  | 1, ho => exact ho
  | 2, ho => exact ho
  | 3, ho => simp at ho
  | _ + 4, ho => simp at ho
 ·intro h o ho
  match h, ho with
  | 0, ho => simp at ho
  | 1, ho => simp at ho
  | 2, ho => simp at ho
  | 3, ho => cases ho; exact ⟨fun o h => by simp at h, _, rfl, rfl, rfl, rfl, fun _ _ _ _ => .inl rfl⟩
  | _ + 4, ho => simp at ho
 refine rn6 ?_
 refine zJ8 (.agg (poS ⟨cs, b, a, 1, qt⟩ 6)) [none, none, none, some ⟨35, .box poZ⟩, some ⟨35, .box (poS ⟨cs, b, a, 1, qt⟩ 6)⟩, some ⟨35, .box (poS ⟨cs, b, a, 1, qt⟩ 6)⟩, some ⟨3, .ints .i64 cs⟩, some ⟨3, .ints .i64 b⟩, some ⟨3, .ints .i64 a⟩] Z Z Z (zKJ _ SP) Z Z ?_
 repeat (refine zAS rfl rfl rfl ?_)
 refine zW (poS ⟨cs, b, a, 1, qt⟩ 6) Z Z Z Z Z Z Z ?_
 refine zA9 [none, none, none, some ⟨35, .box poZ⟩, none, none, some ⟨3, .ints .i64 cs⟩, some ⟨3, .ints .i64 b⟩, some ⟨3, .ints .i64 a⟩, some ⟨35, .box [.sl 6 0 cs.length, .sl 7 0 b.length, .sl 8 0 a.length, .int .i64 1, .int .i64 qt]⟩] (zA2.drop (zA2.drop (zA2.drop (zA2.eqv (CEq.refl _) (zA2.drop (zA2.drop (zA2.refl _))))))) ?_
 repeat (first | refine zA (zP rfl) ?_ | refine zC ?_ | refine zB ?_ | refine zX ?_ | refine zK rfl ?_ | refine zA (zU rfl rfl rfl rfl rfl) ?_ | refine zA (zDs rfl rfl) ?_ | refine zA (zi rfl rfl rfl rfl rfl (by first | (simp only [Nat.zero_add, Int.toNat_natCast, Int.toNat_zero]; exact rfl) | exact rfl) (by omega)) ?_ | refine zA (zA0 rfl rfl rfl rfl (by first | assumption | omega)) ?_ | refine zA (zD rfl rfl rfl rfl) ?_ | refine zA (zM rfl rfl rfl rfl rfl rfl) ?_ | refine zA (zI rfl rfl rfl rfl rfl rfl) ?_)
 obtain ⟨took, htk⟩ : ∃ took, cs.getD m.to.toNat 0 = took := ⟨_, rfl⟩
 have htk2 : zAG ⟨cs, b, a, 1, qt⟩ m.to.toNat = took := htk
 have ht12 := hC12 m.to.toNat
 have htK : took ≠ 0 → zAV took < r.pcs.length := fun q => by
  have h := hKlt m.to.toNat
  rw [htk2] at h
  exact zFV q h.1 h.2
 rw [htk2] at ht12
 obtain ⟨C1, hC1⟩ : ∃ C1, (if 0 ≤ m.fr then cs.set m.fr.toNat 0 else cs) = C1 := ⟨_, rfl⟩
 obtain ⟨A1, hA1⟩ : ∃ A1, (if 0 ≤ m.fr then a else a.set m.pc.toNat (a.getD m.pc.toNat 0 - 1)) = A1 := ⟨_, rfl⟩
 have hC1l : C1.length = cs.length := by rw [← hC1]; split <;> simp
 have hA1l : A1.length = a.length := by rw [← hA1]; split <;> simp
 have hA1in : ∀ i, -1 ≤ A1.getD i 0 ∧ A1.getD i 0 ≤ 1000 := fun i => by
  rw [← hA1]
  split
  ·by_cases q : i < a.length
   ·have := hain _ (zAp 0 q); omega
   ·rw [List.getD, List.getElem?_eq_none (by omega)]; exact ⟨by decide, by decide⟩
  ·by_cases q : i < a.length
   ·by_cases q2 : m.pc.toNat = i
    ·rw [← q2, List.getD, List.getElem?_set_self m4]; show -1 ≤ a.getD m.pc.toNat 0 - 1 ∧ a.getD m.pc.toNat 0 - 1 ≤ 1000; omega
    ·rw [List.getD, List.getElem?_set_ne q2]; have := hain _ (zAp 0 q); rw [List.getD] at this; omega
   ·rw [List.getD, List.getElem?_eq_none (by rw [List.length_set]; omega)]; exact ⟨by decide, by decide⟩
 refine zBp 8 (.int .i64 took) Z (AEq.of_eq (by rw [← htk])) ?_
 apply zAD (H := [none, none, none, some ⟨35, .box poZ⟩, none, none, some ⟨3, .ints .i64 C1⟩, some ⟨3, .ints .i64 b⟩, some ⟨3, .ints .i64 A1⟩, some ⟨35, .box [.sl 6 0 cs.length, .sl 7 0 b.length, .sl 8 0 a.length, .int .i64 1, .int .i64 qt]⟩]) [(3, .rp (.box (ruC r)) 0 0), (4, .rp (.box [zt cs, zt b, zt a, .int .i64 1, .int .i64 qt]) 0 0), (5, .rp (.box (mvC m)) 0 0), (6, .ptr 3 0 0), (7, .ptr 9 0 0), (8, .int .i64 took)]
 ·intro fin
  refine zF Z (fun f1 => ?_) (fun f1 => ?_)
  ·have f1 : 0 ≤ m.fr := f1
   rw [if_pos f1] at hC1 hA1
   have f2 : m.fr.toNat < cs.length := by rcases m5 with q | q; omega; exact q.2
   subst hC1 hA1
   repeat (first | refine zC ?_ | refine zB ?_ | refine zK rfl ?_ | refine zA (zU rfl rfl rfl rfl rfl) ?_ | refine zA (zi rfl rfl rfl rfl rfl (by first | (simp only [Nat.zero_add, Int.toNat_natCast, Int.toNat_zero]; exact rfl) | exact rfl) (by omega)) ?_ | refine zA (zD rfl rfl rfl rfl) ?_ | refine zA (zM rfl rfl rfl rfl rfl rfl) ?_ | refine zA (zI rfl rfl rfl rfl rfl rfl) ?_ | refine zAJ rfl rfl rfl rfl rfl rfl rfl (by first | assumption | (show _ < List.length _; first | assumption | omega)) ?_)
   exact fin _ ⟨Z, Z, Z, Z, Z, Z, trivial⟩
  ·have f1 : ¬ 0 ≤ m.fr := f1
   rw [if_neg f1] at hC1 hA1
   subst hC1 hA1
   skip
   refine ze (by kernel_rfl) ?_
   refine zm (fuel := 1) [0, 1, 2, 3, 4, 5, 6, 7, 8, 9, 10] [(3, .rp (.box (ruC r)) 0 0), (4, .rp (.box [zt cs, zt b, zt a, .int .i64 1, .int .i64 qt]) 0 0), (5, .rp (.box (mvC m)) 0 0), (6, .ptr 3 0 0), (7, .ptr 9 0 0), (8, .int .i64 took)] ⟨Z, Z, Z, Z, Z, Z, trivial⟩ (by kernel_rfl) (by decide) Z Z ?_
   refine zJ Z Z (zI Z Z Z Z Z Z) ?_
   refine zJ Z Z (zD Z Z Z Z) ?_
   refine zJ Z Z (zM Z Z Z Z Z Z) ?_
   refine zJ Z Z (zAa Z Z Z Z Z (by show (0 : Int) ≤ 1 ∧ (1 : Int) < 2; decide)) ?_
   refine zJ Z Z (zU Z Z Z Z Z) ?_
   refine zJ Z Z (zI Z Z Z Z Z Z) ?_
   refine zJ Z Z (zD Z Z Z Z) ?_
   refine zJ Z Z (zi Z Z Z Z Z (by first | (simp only [Nat.zero_add, Int.toNat_natCast, Int.toNat_zero]; exact Z) | exact Z) (by omega)) ?_
   refine zJ Z Z (zA0 Z Z Z Z (by first | assumption | omega)) ?_
   refine zJ Z Z (zBK Z Z (by omega)) ?_
   refine zJ Z Z (zi Z Z Z Z Z (by first | (simp only [Nat.zero_add, Int.toNat_natCast, Int.toNat_zero]; exact Z) | exact Z) (by omega)) ?_
   refine zAA ?_
   refine zG (is := [11]) (by kernel_rfl) (by simp) Z ⟨fun o ho => ?_, trivial⟩
   all_goals (cases ho)
   refine rn7 ?_
   refine zZ (by kernel_rfl) ?_
   repeat (refine zB ?_)
   exact fin _ ⟨Z, Z, Z, Z, Z, Z, trivial⟩
 obtain ⟨C2, hC2⟩ : ∃ C2, C1.set m.to.toNat (2 * m.pc + 1 + 1) = C2 := ⟨_, rfl⟩
 have hC2l : C2.length = cs.length := by rw [← hC2, List.length_set, hC1l]
 obtain ⟨A2, hA2⟩ : ∃ A2, (if 0 < took ∧ r.keeps = true then A1.set (zAV took) (min (A1.getD (zAV took) 0 + 1) 1000) else A1) = A2 := ⟨_, rfl⟩
 have hmt : m.to.toNat < C1.length := by omega
 have hmt2 : m.to.toNat < (Cells.ints .i64 C1).len := hmt
 obtain ⟨q3, hq3⟩ : ∃ q3, (if 0 < took ∨ m.fr < 0 then 0 else min (qt + 1) 200) = q3 := ⟨_, rfl⟩
 repeat (first | refine zX ?_ | refine zK rfl ?_ | refine zA (zU rfl rfl rfl rfl rfl) ?_ | refine zA (zD rfl rfl rfl rfl) ?_ | refine zA (zM rfl rfl rfl rfl rfl rfl) ?_ | refine zA (zI rfl rfl rfl rfl rfl rfl) ?_)
 refine zA (zCo Z Z (by omega)) ?_
 repeat (first | refine zA (zH rfl) ?_ | refine zC ?_ | refine zB ?_ | refine zX ?_ | refine zK rfl ?_ | refine zA (zCY rfl rfl) ?_ | refine zA (zA7 rfl rfl (by omega)) ?_ | refine zA (zi rfl rfl rfl rfl rfl (by first | (simp only [Nat.zero_add, Int.toNat_natCast, Int.toNat_zero]; exact rfl) | exact rfl) (by omega)) ?_ | refine zA (zD rfl rfl rfl rfl) ?_ | refine zA (zI rfl rfl rfl rfl rfl rfl) ?_ | refine zAJ rfl rfl rfl rfl rfl rfl rfl (by first | assumption | (show _ < List.length _; first | assumption | omega)) ?_)
 refine zAj [none, none, none, some ⟨35, .box poZ⟩, none, none, some ⟨3, .ints .i64 C2⟩, some ⟨3, .ints .i64 b⟩, some ⟨3, .ints .i64 A1⟩, some ⟨35, .box [.sl 6 0 cs.length, .sl 7 0 b.length, .sl 8 0 a.length, .int .i64 1, .int .i64 qt]⟩] (by rw [← hC2]; rfl) ?_
 apply zAD (H := [none, none, none, some ⟨35, .box poZ⟩, none, none, some ⟨3, .ints .i64 C2⟩, some ⟨3, .ints .i64 b⟩, some ⟨3, .ints .i64 A2⟩, some ⟨35, .box [.sl 6 0 cs.length, .sl 7 0 b.length, .sl 8 0 a.length, .int .i64 1, .int .i64 qt]⟩]) [(3, .rp (.box (ruC r)) 0 0), (4, .rp (.box [zt cs, zt b, zt a, .int .i64 1, .int .i64 qt]) 0 0), (5, .rp (.box (mvC m)) 0 0), (6, .ptr 3 0 0), (7, .ptr 9 0 0), (8, .int .i64 took)]
 ·intro fin
  refine zh Z Z (fun f1 => ?_) (fun f1 => ?_)
  ·have f1 : 0 < took := f1
   refine zAn ?_
   refine zAO Z (fun f2 => ?_) (fun f2 => ?_)
   ·rw [if_pos ⟨f1, f2⟩] at hA2
    have hKl : zAV took < A1.length := by have := htK (by omega); omega
    have hKl2 : zAV took < (Cells.ints .i64 A1).len := hKl
    have hKC : (took - 1) / 2 = ((zAV took : Nat) : Int) := by unfold zAV; rw [Int.tdiv_eq_ediv_of_nonneg (by omega)]; omega
    have hKin := hA1in (zAV took)
    generalize zAV took = K at hA2 hKl hKl2 hKC hKin
    refine zX ?_
    repeat (first | refine zA (zH rfl) ?_ | refine zA (zP rfl) ?_ | refine zC ?_ | refine zB ?_ | refine zK rfl ?_ | refine zA (zBK rfl rfl (by omega)) ?_ | refine zA (zHJ rfl rfl (by omega)) ?_)
    refine zBp 9 (iN K) Z (AEq.of_eq (by rw [hKC])) ?_
    refine ze (by kernel_rfl) ?_
    refine zm (fuel := 1) [0, 1, 2, 3, 4, 5, 6, 7, 8, 9, 10, 11, 12, 13, 14, 15, 16] [(3, .rp (.box (ruC r)) 0 0), (4, .rp (.box [zt cs, zt b, zt a, .int .i64 1, .int .i64 qt]) 0 0), (5, .rp (.box (mvC m)) 0 0), (6, .ptr 3 0 0), (7, .ptr 9 0 0), (8, .int .i64 took), (9, iN K)] ⟨Z, Z, Z, Z, Z, Z, Z, trivial⟩ (by kernel_rfl) (by decide) Z Z ?_
    refine zJ Z Z (zI Z Z Z Z Z Z) ?_
    refine zJ Z Z (zD Z Z Z Z) ?_
    refine zJ Z Z (zM Z Z Z Z Z Z) ?_
    refine zJ Z Z (zAa Z Z Z Z Z (by show (0 : Int) ≤ 1 ∧ (1 : Int) < 2; decide)) ?_
    refine zJ Z Z (zU Z Z Z Z Z) ?_
    refine zJ Z Z (zH Z) ?_
    refine zJ Z Z (zI Z Z Z Z Z Z) ?_
    refine zJ Z Z (zD Z Z Z Z) ?_
    refine zJ Z Z (zM Z Z Z Z Z Z) ?_
    refine zJ Z Z (zAa Z Z Z Z Z (by show (0 : Int) ≤ 1 ∧ (1 : Int) < 2; decide)) ?_
    refine zJ Z Z (zU Z Z Z Z Z) ?_
    refine zJ Z Z (zH Z) ?_
    refine zJ Z Z (zi Z Z Z Z Z (by first | (simp only [Nat.zero_add, Int.toNat_natCast, Int.toNat_zero]; exact Z) | exact Z) (by omega)) ?_
    refine zJ Z Z (zA0 Z Z Z Z (by first | assumption | omega)) ?_
    refine zJ Z Z (zA7 Z Z (by omega)) ?_
    refine zJ Z Z (zKo Z Z) ?_
    refine zJ Z Z (zi Z Z Z Z Z (by first | (simp only [Nat.zero_add, Int.toNat_natCast, Int.toNat_zero]; exact Z) | exact Z) (by omega)) ?_
    refine zAA ?_
    refine zG (is := [17]) (by kernel_rfl) (by simp) Z ⟨fun o ho => ?_, trivial⟩
    all_goals (cases ho)
    refine rn7 ?_
    refine zZ (by kernel_rfl) ?_
    repeat (refine zB ?_)
    have e : (if A1.getD K 0 + 1 ≤ 1000 then A1.getD K 0 + 1 else (1000 : Int)) = (if 1000 < A1.getD K 0 + 1 then 1000 else A1.getD K 0 + 1) := by split <;> split <;> omega
    refine zAh [none, none, none, some ⟨35, .box poZ⟩, none, none, some ⟨3, .ints .i64 C2⟩, some ⟨3, .ints .i64 b⟩, some ⟨3, .ints .i64 A2⟩, some ⟨35, .box [.sl 6 0 cs.length, .sl 7 0 b.length, .sl 8 0 a.length, .int .i64 1, .int .i64 qt]⟩] (by rw [← hA2, Int.min_def, e]; rfl) ?_
    exact fin _ ⟨Z, Z, Z, Z, Z, Z, trivial⟩
   ·rw [if_neg (fun q => by rw [f2] at q; exact Bool.false_ne_true q.2)] at hA2
    subst hA2
    refine zFi ?_
    exact fin _ ⟨Z, Z, Z, Z, Z, Z, trivial⟩
  ·have f1 : ¬ 0 < took := f1
   rw [if_neg (fun q => f1 q.1)] at hA2
   subst hA2
   refine zFi ?_
   exact fin _ ⟨Z, Z, Z, Z, Z, Z, trivial⟩
 repeat (first | refine zA (zH rfl) ?_ | refine zC ?_ | refine zB ?_ | refine zX ?_ | refine zK rfl ?_ | refine zA (zCY rfl rfl) ?_ | refine zA (zA7 rfl rfl (by omega)) ?_ | refine zA (zD rfl rfl rfl rfl) ?_ | refine zA (zKo rfl rfl) ?_ | refine zA (zM rfl rfl rfl rfl rfl rfl) ?_ | refine zA (zI rfl rfl rfl rfl rfl rfl) ?_ | refine zAJ rfl rfl rfl rfl rfl rfl rfl Nat.zero_lt_one ?_)
 refine zAj [none, none, none, some ⟨35, .box poZ⟩, none, none, some ⟨3, .ints .i64 C2⟩, some ⟨3, .ints .i64 b⟩, some ⟨3, .ints .i64 A2⟩, some ⟨35, .box [.sl 6 0 cs.length, .sl 7 0 b.length, .sl 8 0 a.length, .int .i64 1, .int .i64 (if 200 < qt + 1 then 200 else qt + 1)]⟩] Z ?_
 apply zAD (H := [none, none, none, some ⟨35, .box poZ⟩, none, none, some ⟨3, .ints .i64 C2⟩, some ⟨3, .ints .i64 b⟩, some ⟨3, .ints .i64 A2⟩, some ⟨35, .box [.sl 6 0 cs.length, .sl 7 0 b.length, .sl 8 0 a.length, .int .i64 1, .int .i64 q3]⟩]) [(3, .rp (.box (ruC r)) 0 0), (4, .rp (.box [zt cs, zt b, zt a, .int .i64 1, .int .i64 qt]) 0 0), (5, .rp (.box (mvC m)) 0 0), (6, .ptr 3 0 0), (7, .ptr 9 0 0), (8, .int .i64 took)]
 ·intro fin
  refine zh Z Z (fun f1 => ?_) (fun f1 => ?_)
  ·have f1 : 0 < took := f1
   rw [if_pos (.inl f1)] at hq3
   subst hq3
   repeat (first | refine zC ?_ | refine zB ?_ | refine zK rfl ?_ | refine zAN rfl rfl rfl ?_ | refine zAf rfl ?_ | refine zA (zf rfl rfl) ?_ | refine zA (zM rfl rfl rfl rfl rfl rfl) ?_ | refine zAJ rfl rfl rfl rfl rfl rfl rfl Nat.zero_lt_one ?_)
   exact fin _ ⟨Z, Z, Z, Z, Z, Z, trivial⟩
  ·have f1 : ¬ 0 < took := f1
   repeat (first | refine zC ?_ | refine zB ?_ | refine zo rfl rfl ?_ | refine zA (zCB rfl rfl) ?_ | refine zA (zf rfl rfl) ?_ | refine zA (zD rfl rfl rfl rfl) ?_ | refine zA (zI rfl rfl rfl rfl rfl rfl) ?_)
   refine zF Z (fun f2 => ?_) (fun f2 => ?_)
   ·have f2 : m.fr < 0 := f2
    rw [if_pos (.inr f2)] at hq3
    subst hq3
    repeat (first | refine zC ?_ | refine zB ?_ | refine zK rfl ?_ | refine zA (zM rfl rfl rfl rfl rfl rfl) ?_ | refine zAJ rfl rfl rfl rfl rfl rfl rfl Nat.zero_lt_one ?_)
    exact fin _ ⟨Z, Z, Z, Z, Z, Z, trivial⟩
   ·have f2 : ¬ m.fr < 0 := f2
    rw [if_neg (fun q => q.elim f1 f2)] at hq3
    refine zFi ?_
    have e : (if 200 < qt + 1 then (200 : Int) else qt + 1) = q3 := by
     rw [← hq3, Int.min_def]
     split <;> split <;> omega
    refine zAh [none, none, none, some ⟨35, .box poZ⟩, none, none, some ⟨3, .ints .i64 C2⟩, some ⟨3, .ints .i64 b⟩, some ⟨3, .ints .i64 A2⟩, some ⟨35, .box [.sl 6 0 cs.length, .sl 7 0 b.length, .sl 8 0 a.length, .int .i64 1, .int .i64 q3]⟩] (by rw [e]) ?_
    exact fin _ ⟨Z, Z, Z, Z, Z, Z, trivial⟩
 repeat (first | refine zC ?_ | refine zB ?_ | refine zX ?_ | refine zK rfl ?_ | refine zA (zBK rfl rfl (by omega)) ?_ | refine zA (zD rfl rfl rfl rfl) ?_ | refine zA (zM rfl rfl rfl rfl rfl rfl) ?_ | refine zA (zI rfl rfl rfl rfl rfl rfl) ?_ | refine zA (qpp rfl rfl rfl rfl rfl rfl rfl) ?_ | refine zAJ rfl rfl rfl rfl rfl rfl rfl Nat.zero_lt_one ?_)
 have hA2l : A2.length = a.length := by rw [← hA2]; split <;> simp [hA1l]
 have hmk : zAK r ⟨cs, b, a, 1, qt⟩ m = ⟨C2, b, A2, 1 - 1, q3⟩ := by
  have e : zAK r ⟨cs, b, a, 1, qt⟩ m = ⟨(if 0 ≤ m.fr then cs.set m.fr.toNat 0 else cs).set m.to.toNat (2 * m.pc + 1 + 1), b, (if 0 < zAG ⟨cs, b, a, 1, qt⟩ m.to.toNat ∧ r.keeps = true then (if 0 ≤ m.fr then a else a.set m.pc.toNat (a.getD m.pc.toNat 0 - 1)).set (zAV (zAG ⟨cs, b, a, 1, qt⟩ m.to.toNat)) (min ((if 0 ≤ m.fr then a else a.set m.pc.toNat (a.getD m.pc.toNat 0 - 1)).getD (zAV (zAG ⟨cs, b, a, 1, qt⟩ m.to.toNat)) 0 + 1) 1000) else (if 0 ≤ m.fr then a else a.set m.pc.toNat (a.getD m.pc.toNat 0 - 1))), 1 - 1, if 0 < zAG ⟨cs, b, a, 1, qt⟩ m.to.toNat ∨ m.fr < 0 then 0 else min (qt + 1) 200⟩ := rfl
  rw [e, htk2, hC1, hA1, hC2, hA2, hq3]
 refine zW [.sl 6 0 cs.length, .sl 7 0 b.length, .sl 8 0 a.length, .int .i64 (1 - 1), .int .i64 q3] Z Z Z Z Z Z Z ?_
 refine rn7 ?_
 refine zA3 [none, none, none, none, none, none, some ⟨3, .ints .i64 C2⟩, some ⟨3, .ints .i64 b⟩, some ⟨3, .ints .i64 A2⟩, none] [none, none, none, some ⟨35, .box [.ro (.ints .i64 C2) 0 cs.length, .ro (.ints .i64 b) 0 b.length, .ro (.ints .i64 A2) 0 a.length, .int .i64 (1 - 1), .int .i64 q3]⟩, none, none, none, none, none, none] [(6, .ptr 3 0 0)] ?_ (zCN (zCN (zCN (zCN (zCN (zCN (zCM zAP (zCM zAP (zCM zAP (zCN zCp)))))))))) Z ?_ (zB7 ⟨Z, trivial⟩) ?_
 ·intro h o ho
  match h, ho with
  | 0, ho => simp at ho
  | 1, ho => simp at ho
  | 2, ho => simp at ho
  | 3, ho => simp at ho
  | 4, ho => simp at ho
  | 5, ho => simp at ho
  | 6, ho => exact ho
  | 7, ho => exact ho
  | 8, ho => exact ho
  | 9, ho => simp at ho
  | _ + 10, ho => simp at ho
 ·intro h o ho
  match h, ho with
  | 0, ho => simp at ho
  | 1, ho => simp at ho
  | 2, ho => simp at ho
  | 3, ho =>
   cases ho
   refine ⟨fun o h => by simp at h, ⟨35, .box [.sl 6 0 cs.length, .sl 7 0 b.length, .sl 8 0 a.length, .int .i64 (1 - 1), .int .i64 q3]⟩, Z, Z, Z, Z, fun i j hi hj => ?_⟩
   obtain rfl : i = 0 := Nat.lt_one_iff.1 hi
   have hj : j < 5 := hj
   match j, hj with
   | 0, _ => exact .inr (.inr ⟨rfl, fun o ho => by cases ho; show 0 + cs.length ≤ C2.length; omega⟩)
   | 1, _ => exact .inr (.inr ⟨rfl, fun o ho => by cases ho; show 0 + b.length ≤ b.length; omega⟩)
   | 2, _ => exact .inr (.inr ⟨rfl, fun o ho => by cases ho; show 0 + a.length ≤ A2.length; omega⟩)
   | 3, _ => exact .inl rfl
   | 4, _ => exact .inl rfl
  | 4, ho => simp at ho
  | 5, ho => simp at ho
  | 6, ho => simp at ho
  | 7, ho => simp at ho
  | 8, ho => simp at ho
  | 9, ho => simp at ho
  | _ + 10, ho => simp at ho
 repeat (refine zAB ?_)
 refine zN hR Z ?_
 rw [hmk]
 show AV.agg [.ro (.ints .i64 C2) 0 cs.length, .ro (.ints .i64 b) 0 b.length, .ro (.ints .i64 A2) 0 a.length, .int .i64 (1 - 1), .int .i64 q3] = AV.agg [zt C2, zt b, zt A2, .int .i64 (1 - 1), .int .i64 q3]
 unfold zt
 rw [hC2l, hA2l]
/-- moves.Make -/
theorem zLx (r : Go.Ax.Gm.Rules) (hv : ValidR r) (p : Pos) (S : Sound r p) (m : Mv) (hm : MvOK r p m) : zl Tryz.prog 67 [ruA r, poA p, mvA m] (poA (zAK r p m)) := by
 obtain ⟨cs, h0, h1, turn, qt⟩ := p
 rcases S.tn with q | q
 ·have q : turn = 0 := q
  subst q
  exact make0_ok r hv cs h0 h1 qt S m hm
 ·have q : turn = 1 := q
  subst q
  exact make1_ok r hv cs h1 h0 qt S m hm
theorem zFU {r : Go.Ax.Gm.Rules} (hv : ValidR r) {p : Pos} (S : Sound r p) : zl Tryz.prog 86 [poA p] (.str (keyT p)) :=
 key_ok p (zAu hv S) S.tn (fun c hc => by have := S.cs c hc; have := hv.n6; omega) S.c0 S.c1
def zB9 (l : List Pos) : List AV := l.map (fun p => .str (keyT p))
def zCb (n : Nat) : List AV := (List.range n).map (fun i : Nat => iN i)
abbrev zDK (nx : List (List Nat)) : Cells := zCc [] 1 (fun row : List Nat => [zt (row.map Int.ofNat)]) nx
abbrev tbC (r : Go.Ax.Gm.Rules) (l n : Nat) (e : AV) : List AV := [.str r.name, .int .i64 r.w, .int .i64 r.h, .ro (zAb r.pcs) 0 r.pcs.length, zt r.start, .bool r.falls, .bool r.keeps, .ro (zEz r.ends) 0 r.ends.length, .int .i64 r.blocked, .int .i64 r.quiet, .int .i64 r.rep, .sl 2 0 l, .sl 3 0 n, e, .mp 0]
abbrev zIc (r : Go.Ax.Gm.Rules) (l : List Pos) (nx : List (List Nat)) (L : List Int) : zO :=
 [some ⟨95, .mp (zB9 l) (zCb l.length)⟩, some ⟨97, .box (tbC r l.length nx.length .nil)⟩, some ⟨35, zCz l⟩, some ⟨23, zDK nx⟩, some ⟨3, .ints .i64 L⟩]
theorem zC6 (l : List Pos) : ∀ x ∈ zB9 l, zDo .str x = true := fun x hx => by
 obtain ⟨p, _, rfl⟩ := List.mem_map.1 hx
 rfl
theorem zMb {l : List Pos} {i : Nat} (h : i < l.length) : (zB9 l)[i]? = some (.str (keyT (l.getD i zj))) := by
 unfold zB9
 rw [List.getElem?_map, List.getElem?_eq_getElem h]; simp [List.getD, h]
theorem zG5 {n i : Nat} (h : i < n) : (zCb n)[i]? = some (iN i) := by
 unfold zCb
 rw [List.getElem?_map, List.getElem?_range h]; rfl
theorem zGx {l : List Pos} {p : Pos} (h : zAg l p < l.length) : (zB9 l)[zAg l p]? = some (.str (keyT p)) := by
 rw [zMb h, zHa h]; rfl
theorem zE5 {r : Go.Ax.Gm.Rules} (hv : ValidR r) {l : List Pos} {p : Pos} (S : Sound r p) (G : ∀ q ∈ l, Sound r q ∧ q.quiet = 0) (h : ¬ zAg l p < l.length) : AV.str (keyT p) ∉ zB9 l := fun hm => by
 obtain ⟨q, hq, e⟩ := List.mem_map.1 hm
 have e := key_inj hv (G q hq).1 S (AV.str.inj e)
 rw [zJK (G q hq).2] at e
 exact idx_no h (e ▸ hq)
theorem zGr {n : Nat} : ∀ {l : List AV}, (∀ x ∈ l, zCJ n x = true) → zB1 n l = true
 | [], _ => rfl
 | x :: l, h => by
  show (zCJ n x && zB1 n l) = true
  rw [h x (List.mem_cons_self ..), zGr (fun y hy => h y (List.mem_cons_of_mem _ hy))]; rfl
theorem zH6 {n : Nat} (l : List Pos) (m : Nat) : zA1 n (.mp (zB9 l) (zCb m)) :=
 ⟨zGr (fun x hx => by obtain ⟨p, _, rfl⟩ := List.mem_map.1 hx; rfl), zGr (fun x hx => by obtain ⟨p, _, rfl⟩ := List.mem_map.1 hx; rfl)⟩
theorem zJO {n : Nat} (l : List Pos) : zA1 n (zCz l) := fun i j _ hj => by
 have hj : j < 5 := hj
 match j, hj with
 | 0, _ => rfl
 | 1, _ => rfl
 | 2, _ => rfl
 | 3, _ => rfl
 | 4, _ => rfl
theorem zIR {n : Nat} (nx : List (List Nat)) : zA1 n (zDK nx) := fun i j _ hj => by
 obtain rfl : j = 0 := Nat.lt_one_iff.1 hj
 rfl
theorem zId (r : Go.Ax.Gm.Rules) (l : List Pos) (nx : List (List Nat)) (L : List Int) : ∀ (h : Nat) (o : AObj), (zIc r l nx L)[h]? = some (some o) → zA1 (zIc r l nx L).length o.c :=
 zCF (zH6 l _) (zCF (zHn rfl) (zCF (zJO l) (zCF (zIR nx) (zCF (fun _ _ _ _ => rfl) zBr))))
theorem zE3 {h : Nat} : ∀ {l : List AV}, (∀ x ∈ l, x.forget h = x) → AV.forgets h l = l
 | [], _ => rfl
 | x :: l, q => by
  show x.forget h :: AV.forgets h l = x :: l
  rw [q x (List.mem_cons_self ..), zE3 (fun y hy => q y (List.mem_cons_of_mem _ hy))]
theorem zDp {h : Nat} (l : List Pos) (m : Nat) : (Cells.mp (zB9 l) (zCb m)).forget h = .mp (zB9 l) (zCb m) := by
 show Cells.mp (AV.forgets h (zB9 l)) (AV.forgets h (zCb m)) = _
 rw [zE3 (fun x hx => by obtain ⟨p, _, rfl⟩ := List.mem_map.1 hx; rfl), zE3 (fun x hx => by obtain ⟨p, _, rfl⟩ := List.mem_map.1 hx; rfl)]
theorem zCD {α : Type} {d : α} {n h : Nat} {e : α → List AV} {l : List α} (q : ∀ a j, ((e a).getD j .any).forget h = (e a).getD j .any) : (zCc d n e l).forget h = zCc d n e l := by
 show Cells.fn l.length n (fun i j => ((e (l.getD i d)).getD j .any).forget h) = _
 simp only [q]; rfl
theorem zDr (a : Pos) (j k : Nat) : ((poC a).getD j .any).forget k = (poC a).getD j .any := by
 match j with
 | 0 => rfl
 | 1 => rfl
 | 2 => rfl
 | 3 => rfl
 | 4 => rfl
 | j + 5 => rfl
theorem zDu (a : List Nat) (j k : Nat) : (([zt (a.map Int.ofNat)] : List AV).getD j .any).forget k = ([zt (a.map Int.ofNat)] : List AV).getD j .any := by
 match j with
 | 0 => rfl
 | j + 1 => rfl
theorem zJE (l : List Pos) (p : Pos) : zB9 l ++ [.str (keyT p)] = zB9 (l ++ [zAw p]) := by unfold zB9; rw [List.map_append]; rfl
theorem zJU (n : Nat) : zCb n ++ [iN n] = zCb (n + 1) := by unfold zCb; rw [List.range_succ, List.map_append]; rfl
/-- (*retro.Table).add -/
theorem add_ok (r : Go.Ax.Gm.Rules) (hv : ValidR r) (l : List Pos) (nx : List (List Nat)) (L : List Int) (p : Pos) (S : Sound r p) (G : ∀ q ∈ l, Sound r q ∧ q.quiet = 0) (hl : l.length ≤ 3001) :
 zd Tryz.prog 78 [.ptr 1 0 0, poA p] (zIc r l nx L) (fun h => h < 5 ∧ h ≠ 2) (fun v H => v = iN (zAg l p) ∧ H = zIc r (zCe l p) nx L) := by
 have hc : zd Tryz.prog 78 [.ptr 1 0 0, poA p] (zIc r l nx L) (fun h => h < 5 ∧ h ≠ 2) (fun v H => v = iN (zAg l p) ∧ ∃ x, H = zIc r (zCe l p) nx L ++ [x]) := by
  refine zL (P := Tryz.prog) (fn := Tryz.f78) Z Z (by kernel_rfl) Z (fun c hR hfix => ?_)
  refine rn6 ?_
  refine zQ Z Z Z (zFU hv S) ?_
  refine rn8 ?_
  by_cases hi : zAg l p < l.length
  ·have hadd : zCe l p = l := by unfold zCe; rw [if_pos hi]
   rw [hadd] at hR
   refine zA (zEb Z (.str Z) Z Z Z Z (zC6 l) (zAg l p) (zGx hi) (zG5 hi)) ?_
   refine rn5 ?_
   exact zN hR Z ⟨Z, _, Z⟩
  ·have hadd : zCe l p = l ++ [zAw p] := by unfold zCe; rw [if_neg hi]
   have hidx : zAg l p = l.length := by have := zJi l p; omega
   rw [hadd, hidx] at hR
   refine zA (zD2 Z (.str Z) Z Z Z Z Z Z Z Z (zC6 l) (zE5 hv S G hi)) ?_
   repeat (first | refine zA (zH rfl) ?_ | refine zA (zP rfl) ?_ | refine zC ?_ | refine zB ?_ | refine zX ?_ | refine zK rfl ?_ | refine zAf rfl ?_ | refine zA (zU rfl rfl rfl rfl rfl) ?_ | refine zA (zEH rfl) ?_ | refine zA (zAi rfl rfl) ?_ | refine zA (zBD rfl rfl rfl) ?_ | refine zA (zY rfl) ?_ | refine zA (zM rfl rfl rfl rfl rfl rfl) ?_ | refine zAJ rfl rfl rfl rfl rfl rfl rfl Nat.zero_lt_one ?_)
   refine zEt Z (.str Z) Z Z Z Z Z (zC6 l) (zE5 hv S G hi) ?_
   refine rn0 ?_
   have hll : (l ++ [zAw p]).length = l.length + 1 := by rw [List.length_append]; rfl
   refine zAh [some ⟨95, .mp (zB9 (l ++ [zAw p])) (zCb (l.length + 1))⟩, some ⟨97, .box (tbC r l.length nx.length .nil)⟩, some ⟨35, zCz l⟩, some ⟨23, zDK nx⟩, some ⟨3, .ints .i64 L⟩, some ⟨35, .box (poC (zAw p))⟩] (by rw [← zJE, ← zJU]; rfl) ?_
   refine ze (by kernel_rfl) ?_
   refine zV 0 Z (by kernel_rfl) (by kernel_rfl) (by kernel_rfl) Z (zH Z) Z ?_
   refine zm (fuel := 4) [1, 2, 3, 4, 5, 6] [(33, .ptr 1 0 0), (0, .ptr 1 0 0), (3, .ptr 5 0 0), (6, iN l.length)] ⟨Z, Z, Z, Z, trivial⟩ (by kernel_rfl) (by decide) Z Z ?_
   refine zJ Z Z (zH Z) ?_
   refine zJ Z Z (zY Z) ?_
   refine zJ Z Z (zM Z Z Z Z Z Z) ?_
   refine zJ Z Z (zU Z Z Z Z Z) ?_
   refine zJ Z Z (qpp Z Z Z Z Z Z Z) ?_
   refine px_b Z Z Z Z Z Z Z Z Z Z Z Z Z ?_
   refine zAA ?_
   refine zG (is := [7]) (by kernel_rfl) (by simp) Z ⟨fun o ho => ?_, trivial⟩
   all_goals (cases ho)
   refine zBQ [zAw p] Z Z Z Z Z Z Z Z Z Z Z Z Z (Nat.le_refl _) (fun k' j hk' hj => ?_) (by show (l.length + 1) * 88 ≤ _ ∧ _; omega) (fun a j k _ => zDr a j k) (by rw [hfix]; exact fun h => h.2 Z) ?_
   ·obtain rfl : k' = 0 := Nat.lt_one_iff.1 hk'
    match j, hj with
    | 0, _ => rfl
    | 1, _ => rfl
    | 2, _ => rfl
    | 3, _ => rfl
    | 4, _ => rfl
   refine zAj [some ⟨95, .mp (zB9 (l ++ [zAw p])) (zCb (l.length + 1))⟩, some ⟨97, .box ((tbC r l.length nx.length .nil).set 11 .any)⟩, some ⟨35, zCz (l ++ [zAw p])⟩, some ⟨23, zDK nx⟩, some ⟨3, .ints .i64 L⟩, some ⟨35, .box (poC (zAw p))⟩] ?_ ?_
   ·show [some (AObj.mk _ ((Cells.mp _ _).forget 2)), some (AObj.mk _ ((Cells.box _).forget 2)), some (AObj.mk _ (zCz (l ++ [zAw p]))), some (AObj.mk _ ((zDK nx).forget 2)), some (AObj.mk _ ((Cells.ints .i64 L).forget 2)), some (AObj.mk _ ((Cells.box (poC (zAw p))).forget 2))] = _
    rw [zDp, zCD (fun a j => zDu a j 2)]; rfl
   refine rn1 ?_
   refine zV 8 Z (by kernel_rfl) (by kernel_rfl) (by kernel_rfl) Z (zY Z) Z ?_
   refine zV 9 Z (by kernel_rfl) (by kernel_rfl) (by kernel_rfl) Z (zM Z Z Z Z Z Z) Z ?_
   refine zG (is := [10]) (by kernel_rfl) (by simp) Z ⟨fun o ho => ?_, trivial⟩
   all_goals (cases ho)
   refine rn9 ?_
   refine zZ (by kernel_rfl) ?_
   refine rn0 ?_
   exact zN hR Z ⟨Z, _, by show _ = [_, _, _, _, _, _]; rw [hll]; rfl⟩
 exact zd.cutR hc (fun v H ⟨e1, x, e2⟩ => ⟨_, [x], e2, fun h q => q.1, zId _ _ _ _, e1 ▸ Z, e1, Z⟩)
/-- slices.IndexFunc of numbers, the function looks at the caller's memory -/
theorem zLE {H : zO} (l : List Int) (q : Int → Bool) (g : Nat) (caps : List AV) (hl : l.length ≤ 1000000) (hc : ∀ x ∈ l, zd Tryz.prog g (.int .i64 x :: caps) H (fun h => h < H.length) (fun r H' => r = .bool (q x) ∧ H' = H)) :
 zd Tryz.prog 119 [zt l, .fn g caps] H (fun h => h < H.length) (fun r H' => (∃ n : Int, r = .int .i64 n ∧ (decide (0 ≤ n) = l.any q)) ∧ H' = H) := by
 refine zL (P := Tryz.prog) (fn := Tryz.f119) Z Z (by kernel_rfl) Z (fun c hR hfix => ?_)
 refine rn3 ?_
 refine zx (ι := Nat) (fun k => [(0, zt l), (1, .fn g caps), (7, iN l.length), (8, iN k)]) (fun _ => H)
  (fun k => k ≤ l.length ∧ (l.take k).any q = false) (fun k => l.length - k) 0 ⟨⟨rfl, rfl, rfl, rfl, trivial⟩, rfl, Nat.zero_le _, by rw [List.take_zero]; rfl⟩ ?_
 intro k ⟨hk, hno⟩
 refine rn4 ?_
 refine zF Z (fun h => ?_) (fun h => ?_)
 ·have hk' : k < l.length := by omega
  have hmem : l.getD k 0 ∈ l := zAp 0 hk'
  have htk : (l.take (k + 1)).any q = ((l.take k).any q || q (l.getD k 0)) := by rw [zz _ 0 k hk', List.any_append]; simp
  refine rn6 ?_
  refine zC4 Z Z Z (hc _ hmem) (fun _ h => h) (fun _ h => h) ?_
  rintro r H' ⟨rfl, rfl⟩
  refine rn0 ?_
  cases hq : q (l.getD k 0) with
  | true =>
   refine rn6 ?_
   refine zN hR Z ⟨⟨(k : Nat), Z, ?_⟩, Z⟩
   rw [decide_eq_true (by omega : (0 : Int) ≤ (k : Nat)), List.any_eq_true.2 ⟨_, hmem, hq⟩]
  | false =>
   refine rn5 ?_
   exact zS ⟨k + 1, ⟨by omega, by rw [htk, hno, hq]; rfl⟩, by omega, ⟨Z, Z, Z, Z, trivial⟩, Z⟩
 ·have hk' : k = l.length := by omega
  subst hk'
  rw [List.take_length] at hno
  refine rn5 ?_
  refine zN hR Z ⟨⟨-1, Z, ?_⟩, Z⟩
  rw [hno]; rfl
/-- slices.ContainsFunc of numbers, the function looks at the caller's memory -/
theorem zGt {H : zO} (l : List Int) (q : Int → Bool) (g : Nat) (caps : List AV) (hl : l.length ≤ 1000000) (hc : ∀ x ∈ l, zd Tryz.prog g (.int .i64 x :: caps) H (fun h => h < H.length) (fun r H' => r = .bool (q x) ∧ H' = H)) :
 zd Tryz.prog 91 [zt l, .fn g caps] H (fun h => h < H.length) (fun r H' => r = .bool (l.any q) ∧ H' = H) := by
 refine zL (P := Tryz.prog) (fn := Tryz.f91) Z Z (by kernel_rfl) Z (fun c hR hfix => ?_)
 refine rn0 ?_
 refine zC4 Z Z Z (zLE l q g caps hl hc) (fun _ h => h) (fun _ h => h) ?_
 rintro r H' ⟨⟨n, rfl, hn⟩, rfl⟩
 refine rn8 ?_
 exact zN hR Z ⟨congrArg AV.bool hn, Z⟩
abbrev tbF (r : Go.Ax.Gm.Rules) (l : List Pos) (nx : List (List Nat)) (e : AV) : List AV := [.str r.name, .int .i64 r.w, .int .i64 r.h, .ro (zAb r.pcs) 0 r.pcs.length, zt r.start, .bool r.falls, .bool r.keeps, .ro (zEz r.ends) 0 r.ends.length, .int .i64 r.blocked, .int .i64 r.quiet, .int .i64 r.rep, .ro (zCz l) 0 l.length, .ro (zDK nx) 0 nx.length, e, .rom (zB9 l) (zCb l.length)]
abbrev zBB (E : List Ent) : Cells := zCc (0, 0) 2 zBg E
/-- the closures of solve, over its memory -/
structure SolveH (r : Go.Ax.Gm.Rules) (l : List Pos) (nx : List (List Nat)) (E : List Ent) (H : zO) : Prop where
 h1 : H[1]? = some (some ⟨97, .box (tbF r l nx (.sl 3 0 E.length))⟩)
 h2 : H[2]? = some (some ⟨28, .box [.ptr 1 0 0]⟩)
 h3 : H[3]? = some (some ⟨37, zBB E⟩)
theorem cl1_ok {r : Go.Ax.Gm.Rules} {l : List Pos} {nx : List (List Nat)} {E : List Ent} {H : zO} (S : SolveH r l nx E H) (own : Int) (k : Int) (hk : 0 ≤ k ∧ k < (E.length : Int)) :
 zd Tryz.prog 109 [.int .i64 k, .ptr 2 0 0, .rp (.box [.int .i64 own]) 0 0] H (fun h => h < H.length) (fun r H' => r = .bool (decide ((E.getD k.toNat (0, 0)).1 = own)) ∧ H' = H) := by
 obtain ⟨h1, h2, h3⟩ := S
 have hk' : k.toNat < E.length := by omega
 refine zL (P := Tryz.prog) (fn := Tryz.f109) Z Z (by kernel_rfl) Z (fun c hR hfix => ?_)
 refine rn0 ?_
 refine ze (by kernel_rfl) ?_
 refine zm (fuel := 0) [0, 1, 2, 3, 4, 5, 6, 7, 8, 9, 10] [(0, .int .i64 k), (1, .ptr 2 0 0), (2, .rp (.box [.int .i64 own]) 0 0)] ⟨Z, Z, Z, trivial⟩ (by kernel_rfl) (by decide) Z Z ?_
 refine zJ Z Z (zBN Z Z Z (by assumption) (by rfl)) ?_
 refine zJ Z Z (zY Z) ?_
 refine zJ Z Z (zM Z Z Z Z Z Z) ?_
 refine zJ Z Z (zBN Z Z Z (by assumption) (by rfl)) ?_
 refine zJ Z Z (zH Z) ?_
 refine zJ Z Z (qis Z Z Z) ?_
 refine zJ Z Z (zM Z Z Z Z Z Z) ?_
 refine zJ Z Z (zC9 Z Z Z (by assumption) Z (by first | assumption | omega)) ?_
 refine zJ Z Z (zD Z Z Z Z) ?_
 refine zJ Z Z (zBx Z Z) ?_
 refine zJ Z Z (zP Z) ?_
 refine zAA ?_
 refine zZ (by kernel_rfl) ?_
 refine rn0 ?_
 exact zN hR Z ⟨Z, Z⟩
theorem cl2_ok {r : Go.Ax.Gm.Rules} {l : List Pos} {nx : List (List Nat)} {E : List Ent} {H : zO} (S : SolveH r l nx E H) (own : Int) (k : Int) (hk : 0 ≤ k ∧ k < (E.length : Int)) :
 zd Tryz.prog 110 [.int .i64 k, .ptr 2 0 0, .rp (.box [.int .i64 own]) 0 0] H (fun h => h < H.length) (fun r H' => r = .bool (decide ((E.getD k.toNat (0, 0)).1 ≠ own)) ∧ H' = H) := by
 obtain ⟨h1, h2, h3⟩ := S
 have hk' : k.toNat < E.length := by omega
 refine zL (P := Tryz.prog) (fn := Tryz.f110) Z Z (by kernel_rfl) Z (fun c hR hfix => ?_)
 refine rn0 ?_
 refine ze (by kernel_rfl) ?_
 refine zm (fuel := 0) [0, 1, 2, 3, 4, 5, 6, 7, 8, 9, 10] [(0, .int .i64 k), (1, .ptr 2 0 0), (2, .rp (.box [.int .i64 own]) 0 0)] ⟨Z, Z, Z, trivial⟩ (by kernel_rfl) (by decide) Z Z ?_
 refine zJ Z Z (zBN Z Z Z (by assumption) (by rfl)) ?_
 refine zJ Z Z (zY Z) ?_
 refine zJ Z Z (zM Z Z Z Z Z Z) ?_
 refine zJ Z Z (zBN Z Z Z (by assumption) (by rfl)) ?_
 refine zJ Z Z (zH Z) ?_
 refine zJ Z Z (qis Z Z Z) ?_
 refine zJ Z Z (zM Z Z Z Z Z Z) ?_
 refine zJ Z Z (zC9 Z Z Z (by assumption) Z (by first | assumption | omega)) ?_
 refine zJ Z Z (zD Z Z Z Z) ?_
 refine zJ Z Z (zBU Z Z) ?_
 refine zJ Z Z (zP Z) ?_
 refine zAA ?_
 refine zZ (by kernel_rfl) ?_
 refine rn0 ?_
 exact zN hR Z ⟨Z, Z⟩
theorem cl3_ok {r : Go.Ax.Gm.Rules} {l : List Pos} {nx : List (List Nat)} {E : List Ent} {H : zO} (S : SolveH r l nx E H) (i : Nat) (hi : i < l.length) (ht : z8 l i = 0 ∨ z8 l i = 1) (k : Int) (hk : 0 ≤ k ∧ k < (E.length : Int)) :
 zd Tryz.prog 111 [.int .i64 k, .ptr 2 0 0, .rp (.box [iN i]) 0 0] H (fun h => h < H.length) (fun r H' => r = .bool (decide ((E.getD k.toNat (0, 0)).1 = 1 + z8 l i)) ∧ H' = H) := by
 obtain ⟨h1, h2, h3⟩ := S
 have hk' : k.toNat < E.length := by omega
 have ht : 0 ≤ (l.getD i zj).turn ∧ (l.getD i zj).turn ≤ 1 := by unfold z8 at ht; omega
 refine zL (P := Tryz.prog) (fn := Tryz.f111) Z Z (by kernel_rfl) Z (fun c hR hfix => ?_)
 refine rn0 ?_
 refine ze (by kernel_rfl) ?_
 refine zm (fuel := 0) [0, 1, 2, 3, 4, 5, 6, 7, 8, 9, 10, 11, 12, 13, 14, 15, 16, 17, 18] [(0, .int .i64 k), (1, .ptr 2 0 0), (2, .rp (.box [iN i]) 0 0)] ⟨Z, Z, Z, trivial⟩ (by kernel_rfl) (by decide) Z Z ?_
 refine zJ Z Z (zBN Z Z Z (by assumption) (by rfl)) ?_
 refine zJ Z Z (zY Z) ?_
 refine zJ Z Z (zM Z Z Z Z Z Z) ?_
 refine zJ Z Z (zBN Z Z Z (by assumption) (by rfl)) ?_
 refine zJ Z Z (zH Z) ?_
 refine zJ Z Z (qis Z Z Z) ?_
 refine zJ Z Z (zM Z Z Z Z Z Z) ?_
 refine zJ Z Z (zC9 Z Z Z (by assumption) Z (by first | assumption | omega)) ?_
 refine zJ Z Z (zBN Z Z Z (by assumption) (by rfl)) ?_
 refine zJ Z Z (zY Z) ?_
 refine zJ Z Z (zM Z Z Z Z Z Z) ?_
 refine zJ Z Z (zBN Z Z Z (by assumption) (by rfl)) ?_
 refine zJ Z Z (zD Z Z Z Z) ?_
 refine zJ Z Z (zg Z Z Z Z (by first | (simp only [Nat.zero_add, Int.toNat_natCast, Int.toNat_zero]; exact Z) | exact Z) (by omega)) ?_
 refine zJ Z Z (zI Z Z Z Z Z Z) ?_
 refine zJ Z Z (zA5 Z Z Z Z) ?_
 refine zJ Z Z (zA7 Z Z (by omega)) ?_
 refine zJ Z Z (zBx Z Z) ?_
 refine zJ Z Z (zP Z) ?_
 refine zAA ?_
 refine zZ (by kernel_rfl) ?_
 refine rn0 ?_
 exact zN hR Z ⟨Z, Z⟩
/-- is(own): the box is only read from now on -/
theorem cl0_ok {H : zO} (own : Int) (hb : ∀ (h : Nat) (o : AObj), H[h]? = some (some o) → zA1 H.length o.c) (hlt : 2 < H.length) :
 zd Tryz.prog 108 [.int .i64 own, .ptr 2 0 0] H (fun h => h < H.length) (fun r H' => r = .fn 109 [.ptr 2 0 0, .rp (.box [.int .i64 own]) 0 0] ∧ H' = H) := by
 have hc : zd Tryz.prog 108 [.int .i64 own, .ptr 2 0 0] H (fun h => h < H.length) (fun r H' => r = .fn 109 [.ptr 2 0 0, .rp (.box [.int .i64 own]) 0 0] ∧ H' = H ++ [none]) := by
  refine zL (P := Tryz.prog) (fn := Tryz.f108) Z Z (by kernel_rfl) Z (fun c hR hfix => ?_)
  refine zX ?_
  repeat (first | refine zA (zP rfl) ?_ | refine zC ?_ | refine zB ?_ | refine zK rfl ?_ | refine zAo rfl rfl ?_)
  refine ax_fzN H 2 [(1, .ptr 2 0 0)] Z Z ⟨Z, trivial⟩ ?_
  repeat (first | refine zA (zP rfl) ?_ | refine zC ?_ | refine zB ?_ | refine zX ?_ | refine zK rfl ?_ | refine zAB ?_ | refine zA (zCn rfl) ?_)
  exact zN hR Z ⟨Z, Z⟩
 exact zd.cutR hc (fun v H' ⟨e1, e2⟩ => ⟨H, [none], e2, fun h q => q, hb, by rw [e1]; show (Nat.blt 2 H.length && _) = true; rw [show Nat.blt 2 H.length = true from Nat.ble_eq_true_of_le hlt]; rfl, e1, Z⟩)
abbrev slH (r : Go.Ax.Gm.Rules) (l : List Pos) (nx : List (List Nat)) (E : List Ent) (T : zO) : zO :=
 none :: some ⟨97, .box (tbF r l nx (.sl 3 0 E.length))⟩ :: some ⟨28, .box [.ptr 1 0 0]⟩ :: some ⟨37, zBB E⟩ :: T
abbrev zFx (f : List Nat) : Option AObj := some ⟨3, .ints .i64 (f.map Int.ofNat)⟩
abbrev resO (f : List Int) : Option AObj := some ⟨3, .ints .i64 f⟩
theorem slH_S (r : Go.Ax.Gm.Rules) (l : List Pos) (nx : List (List Nat)) (E : List Ent) (T : zO) : SolveH r l nx E (slH r l nx E T) := ⟨rfl, rfl, rfl⟩
theorem zHy {n : Nat} (E : List Ent) : zA1 n (zBB E) := fun i j _ hj => by
 have hj : j < 2 := hj
 match j, hj with
 | 0, _ => rfl
 | 1, _ => rfl
theorem zEU (a : Ent) (j k : Nat) : ((zBg a).getD j .any).forget k = (zBg a).getD j .any := by
 match j with
 | 0 => rfl
 | 1 => rfl
 | j + 2 => rfl
/-- what solve may rely on -/
structure SolveP (r : Go.Ax.Gm.Rules) (l : List Pos) (nx : List (List Nat)) : Prop where
 hv : ValidR r
 ll : l.length ≤ 3000
 S : ∀ i, i < l.length → Sound r (l.getD i zj)
 nl : nx.length = l.length
 rl : ∀ i, i < l.length → (nx.getD i []).length ≤ 1000000
 nk : ∀ i, i < l.length → ∀ k ∈ nx.getD i [], k < l.length
theorem zFN (n : Nat) : CEq (zBE n [.int .i64 0, .int .i64 0]) (zBB (List.replicate n (0, 0))) := by
 refine ⟨by show (List.replicate n ((0, 0) : Ent)).length = n; rw [List.length_replicate], Z, fun i j hi hj => ?_⟩
 have hj : j < 2 := hj
 have e : (List.replicate n ((0, 0) : Ent)).getD i (0, 0) = (0, 0) := by
  simp only [List.getD, List.getElem?_replicate]; split <;> rfl
 show (zBg ((List.replicate n ((0, 0) : Ent)).getD i (0, 0))).getD j .any = _
 rw [e]
 match j, hj with
 | 0, _ => rfl
 | 1, _ => rfl
theorem zFT {H : zO} {t : TypeId} {a b : Cells} (h : CEq a b) : zA2 (H ++ [some ⟨t, a⟩]) (H ++ [some ⟨t, b⟩]) :=
 zA2.append (zA2.refl H) (zA2.cons (fun o ho => by cases ho; exact ⟨_, rfl, rfl, h⟩) (zA2.refl []))
theorem zEI (r : Go.Ax.Gm.Rules) (l : List Pos) (nx : List (List Nat)) (E : List Ent) {T : zO} (h : ∀ (h : Nat) (o : AObj), T[h]? = some (some o) → zA1 (slH r l nx E T).length o.c) : ∀ (h : Nat) (o : AObj), (slH r l nx E T)[h]? = some (some o) → zA1 (slH r l nx E T).length o.c :=
 have e : (slH r l nx E T).length = T.length + 4 := rfl
 have q : ∀ n, 4 ≤ n → (Nat.blt 3 n) = true ∧ (Nat.blt 1 n) = true := fun n hn => ⟨Nat.ble_eq_true_of_le hn, Nat.ble_eq_true_of_le (by omega)⟩
 bl_n (zCF (zHn (by show (true && (true && (true && (true && (true && (true && (true && (true && (true && (true && (true && (true && (true && (Nat.blt 3 _ && (true && true))))))))))))))) = true; rw [(q _ (by omega)).1]; rfl)) (zCF (zHn (by show (Nat.blt 1 _ && true) = true; rw [(q _ (by omega)).2]; rfl)) (zCF (zHy E) h)))
theorem zGA (r : Go.Ax.Gm.Rules) (l : List Pos) (nx : List (List Nat)) (E : List Ent) : ∀ (h : Nat) (o : AObj), (slH r l nx E [])[h]? = some (some o) → zA1 (slH r l nx E []).length o.c := zEI r l nx E zBr
/-- (*retro.Table).solve -/
theorem solve_ok (r : Go.Ax.Gm.Rules) (l : List Pos) (nx : List (List Nat)) (Q : SolveP r l nx) :
 zd Tryz.prog 79 [.ptr 1 0 0] [none, some ⟨97, .box (tbF r l nx .nil)⟩] (fun h => h < 2) (fun v H => v = .tup [] ∧ ∃ N, zAr l nx (zb l nx (z6 r l) N) = [] ∧ H = slH r l nx (zBs (zb l nx (z6 r l) N)) []) := by
 obtain ⟨hv, hll, hS, hnl, hrl, hnk⟩ := Q
 refine zL (P := Tryz.prog) (fn := Tryz.f79) Z Z (by kernel_rfl) Z (fun c hR hfix => ?_)
 have turnB : ∀ i, z8 l i = 0 ∨ z8 l i = 1 := fun i => by
  rcases Nat.lt_or_ge i l.length with q | q
  ·exact (hS i q).tn
  ·left; unfold z8; rw [List.getD, List.getElem?_eq_none q]; rfl
 have hfx : ∀ h, c.fix h → h < 2 := fun h q => by rw [hfix] at q; exact q
 refine zX ?_
 repeat (first | refine zC ?_ | refine zB ?_ | refine zK rfl ?_ | refine zAo rfl rfl ?_)
 refine zX ?_
 refine ze (by kernel_rfl) ?_
 apply zR (H := [none, some ⟨97, .box (tbF r l nx .nil)⟩, some ⟨28, .box [.ptr 1 0 0]⟩, some ⟨37, zBB (List.replicate l.length (0, 0))⟩]) [(1, .ptr 2 0 0), (19, .ptr 1 0 0), (25, .sl 3 0 l.length)]
 ·intro fin
  refine zG (is := [0, 1]) (by kernel_rfl) (by simp) Z ⟨fun o ho => ?_, fun o ho => ?_, trivial⟩
  all_goals (cases ho)
  ·refine rn4 ?_
   refine zm (fuel := 4) [1, 2, 3, 4, 5] [(1, .ptr 2 0 0), (19, .ptr 1 0 0)] ⟨Z, Z, trivial⟩ (by kernel_rfl) (by decide) Z Z ?_
   refine zJ Z Z (zU Z Z Z Z Z) ?_
   refine zJ Z Z (zY Z) ?_
   refine zJ Z Z (zM Z Z Z Z Z Z) ?_
   refine zJ Z Z (zU Z Z Z Z Z) ?_
   refine zJ Z Z (zBD Z Z Z) ?_
   refine zAA ?_
   refine zG (is := [6]) (by kernel_rfl) (by simp) Z ⟨fun o ho => ?_, trivial⟩
   all_goals (cases ho)
   refine zGF Z Z Z Z Z Z Z Z (by show (0 : Int) ≤ _ ∧ _ ≤ _ ∧ (16 : Int) * _ ≤ _ ∧ _; omega) ?_
   refine zA9 _ (zFT (zFN l.length)) ?_
   refine rn1 ?_
   exact fin _ ⟨Z, Z, Z, trivial⟩
  ·refine rn4 ?_
   refine zV 2 Z (by kernel_rfl) (by kernel_rfl) (by kernel_rfl) Z (zY Z) Z ?_
   refine zV 3 Z (by kernel_rfl) (by kernel_rfl) (by kernel_rfl) Z (zM Z Z Z Z Z Z) Z ?_
   refine zG (is := [0, 4]) (by kernel_rfl) (by simp) Z ⟨fun o ho => ?_, fun o ho => ?_, trivial⟩
   all_goals (cases ho)
   ·refine rn4 ?_
    refine zm (fuel := 4) [4, 5] [(1, .ptr 2 0 0), (19, .ptr 1 0 0), (22, .ptr 1 0 11)] ⟨Z, Z, Z, trivial⟩ (by kernel_rfl) (by decide) Z Z ?_
    refine zJ Z Z (zU Z Z Z Z Z) ?_
    refine zJ Z Z (zBD Z Z Z) ?_
    refine zAA ?_
    refine zG (is := [6]) (by kernel_rfl) (by simp) Z ⟨fun o ho => ?_, trivial⟩
    all_goals (cases ho)
    refine zGF Z Z Z Z Z Z Z Z (by show (0 : Int) ≤ _ ∧ _ ≤ _ ∧ (16 : Int) * _ ≤ _ ∧ _; omega) ?_
    refine zA9 _ (zFT (zFN l.length)) ?_
    refine rn1 ?_
    exact fin _ ⟨Z, Z, Z, trivial⟩
   ·refine rn4 ?_
    refine zV 5 Z (by kernel_rfl) (by kernel_rfl) (by kernel_rfl) Z (zBD Z Z Z) Z ?_
    refine zG (is := [0, 6]) (by kernel_rfl) (by simp) Z ⟨fun o ho => ?_, fun o ho => ?_, trivial⟩
    all_goals (cases ho)
    ·refine rn4 ?_
     refine zG (is := [6]) (by kernel_rfl) (by simp) Z ⟨fun o ho => ?_, trivial⟩
     all_goals (cases ho)
     refine zGF Z Z Z Z Z Z Z Z (by show (0 : Int) ≤ _ ∧ _ ≤ _ ∧ (16 : Int) * _ ≤ _ ∧ _; omega) ?_
     refine zA9 _ (zFT (zFN l.length)) ?_
     refine rn1 ?_
     exact fin _ ⟨Z, Z, Z, trivial⟩
    ·refine zGF Z Z Z Z Z Z Z Z (by show (0 : Int) ≤ _ ∧ _ ≤ _ ∧ (16 : Int) * _ ≤ _ ∧ _; omega) ?_
     refine zA9 _ (zFT (zFN l.length)) ?_
     refine rn1 ?_
     refine zG (is := [0]) (by kernel_rfl) (by simp) Z ⟨fun o ho => ?_, trivial⟩
     all_goals (cases ho)
     refine rn4 ?_
     exact fin _ ⟨Z, Z, Z, trivial⟩
 refine zV 7 Z (by kernel_rfl) (by kernel_rfl) (by kernel_rfl) Z (zY Z) Z ?_
 refine zV 8 Z (by kernel_rfl) (by kernel_rfl) (by kernel_rfl) Z (zM Z Z Z Z Z Z) Z ?_
 refine zG (is := [9]) (by kernel_rfl) (by simp) Z ⟨fun o ho => ?_, trivial⟩
 all_goals (cases ho)
 refine rn9 ?_
 refine zZ (by kernel_rfl) ?_
 repeat (refine zB ?_)
 refine zAh (slH r l nx (zCr r l 0) []) (by rw [zKu]; show _ = [none, some (AObj.mk _ (.box (tbF r l nx (.sl 3 0 (List.replicate l.length ((0, 0) : Ent)).length)))), _, _]; rw [List.length_replicate]; rfl) ?_
 refine zX ?_
 refine rn15 ?_
 refine zx (ι := Nat) (fun k => [(1, .ptr 2 0 0), (31, .ro (zCz l) 0 l.length), (32, iN l.length), (33, iN k)]) (fun k => slH r l nx (zCr r l k) []) (fun k => k ≤ l.length) (fun k => l.length - k) 0 ⟨⟨Z, Z, Z, Z, trivial⟩, Z, Nat.zero_le _⟩ ?_
 ·intro k hk
  refine rn4 ?_
  refine zF Z (fun h => ?_) (fun h => ?_)
  ·have hk' : k < l.length := by omega
   have hEl := zIa r hk
   generalize hp : l.getD k zj = p
   refine zF6 ?_
   refine rn4 ?_
   refine zW (poC p) Z Z Z Z Z (by rw [← hp]; rfl) Z ?_
   refine rn0 ?_
   refine zEP (slH r l nx (zCr r l k) []) 3 [(1, .ptr 2 0 0), (31, .ro (zCz l) 0 l.length), (32, iN l.length), (33, iN k), (2, iN k)] Z Z ⟨Z, Z, Z, Z, Z, trivial⟩ ⟨Z, Z, Z, Z, Z, Z, trivial⟩ (zGA _ _ _ _) Z (fun h q => Nat.lt_of_lt_of_le (hfx h q) (by show 2 ≤ 4; decide)) ?_
   refine ze (by kernel_rfl) ?_
   refine zm (fuel := 3) [0, 1, 2, 3, 4, 5, 6, 7, 8, 9, 10] [(3, .rp (.box (poC p)) 0 0), (1, .ptr 2 0 0), (31, .ro (zCz l) 0 l.length), (32, iN l.length), (33, iN k), (2, iN k)] ⟨Z, Z, Z, Z, Z, Z, trivial⟩ (by kernel_rfl) (by decide) Z Z ?_
   refine zJ Z Z (zU Z Z Z Z Z) ?_
   refine zJ Z Z (zY Z) ?_
   refine zJ Z Z (zM Z Z Z Z Z Z) ?_
   refine zJ Z Z (zU Z Z Z Z Z) ?_
   refine zJ Z Z (zH Z) ?_
   refine zJ Z Z (zU Z Z Z Z Z) ?_
   refine zJ Z Z (zY Z) ?_
   refine zJ Z Z (zM Z Z Z Z Z Z) ?_
   refine zJ Z Z (qpp Z Z Z Z Z Z Z) ?_
   refine zJ Z Z (zAE Z Z Z Z Z Z) ?_
   refine zCW Z Z Z Z Z (zG3 r hv p (by rw [← hp]; exact hS k hk')) ?_
   refine zAA ?_
   refine zV 11 Z (by kernel_rfl) (by kernel_rfl) (by kernel_rfl) Z (zi Z Z Z Z Z (by first | (simp only [Nat.zero_add, Int.toNat_natCast, Int.toNat_zero]; exact Z) | exact Z) (by omega)) Z ?_
   refine zV 12 Z (by kernel_rfl) (by kernel_rfl) (by kernel_rfl) Z (zM Z Z Z Z Z Z) Z ?_
   refine zG (is := [13]) (by kernel_rfl) (by simp) Z ⟨fun o ho => ?_, trivial⟩
   all_goals (cases ho)
   refine zIz (zq r p, 0) Z Z Z Z Z Z (by omega) (fun j' hj' => ?_) ?_
   ·rw [zM7 r hk']
    match j', hj' with
    | 0, _ => rfl
    | 1, _ => rfl
   refine rn1 ?_
   refine zZ (by kernel_rfl) ?_
   refine rn5 ?_
   refine zS ⟨k + 1, by omega, by omega, ⟨Z, Z, Z, Z, trivial⟩, ?_⟩
   rw [zKt r hk', hp]
   show _ = [none, some (AObj.mk _ (.box (tbF r l nx (.sl 3 0 (List.set _ _ _).length)))), _, _]
   rw [List.length_set]; rfl
  ·have hk' : k = l.length := by omega
   subst hk'
   rw [zHS]
   refine rn5 ?_
   have hE0 : (z6 r l).length = l.length := by rw [← zHS]; exact zIa r (Nat.le_refl _)
   have hopl : ∀ E : List Ent, zBm E ≤ E.length := fun E => List.length_filter_le ..
   refine zx (ι := Nat) (fun n => [(1, .ptr 2 0 0), (4, .int .i64 ((n : Int) + 1))]) (fun n => slH r l nx (zb l nx (z6 r l) n) []) (fun n => n + zBm (zb l nx (z6 r l) n) ≤ l.length) (fun n => zBm (zb l nx (z6 r l) n)) 0 ⟨⟨Z, Z, trivial⟩, Z, by show 0 + zBm (z6 r l) ≤ _; have := hopl (z6 r l); omega⟩ ?_
   intro n hn
   have hEl : (zb l nx (z6 r l) n).length = l.length := zCa hE0 n
   have hst : zb l nx (z6 r l) (n + 1) = zDL l nx (n + 1) (zb l nx (z6 r l) n) := rfl
   have hop : zAr l nx (zb l nx (z6 r l) n) ≠ [] → zBm (zDL l nx (n + 1) (zb l nx (z6 r l) n)) < zBm (zb l nx (z6 r l) n) := fun q => zEg hEl (fun i => turnB i) q
   generalize hEn : zb l nx (z6 r l) n = E at hn hEl hop hst
   refine rn15 ?_
   refine zBZ 5 ⟨3, .ints .i64 []⟩ Z Z ?_
   skip
   refine zx (ι := Nat) (fun k => [(1, .ptr 2 0 0), (4, .int .i64 ((n : Int) + 1)), (57, .ro (zCz l) 0 l.length), (58, iN l.length), (59, iN k), (5, .sl 4 0 (zA4 l nx E k).length)]) (fun k => slH r l nx E [zFx (zA4 l nx E k)]) (fun k => k ≤ l.length) (fun k => l.length - k) 0 ⟨⟨Z, Z, Z, Z, Z, Z, trivial⟩, Z, Nat.zero_le _⟩ ?_
   intro k hk
   refine rn4 ?_
   refine zF Z (fun h => ?_) (fun h => ?_)
   ·have hk' : k < l.length := by omega
    have hkE : k < E.length := by omega
    have hfl := zHz l nx E k
    have htn := turnB k
    have hfs := zKP l nx E k
    have hT : z8 l k = (l.getD k zj).turn := rfl
    generalize hp : l.getD k zj = p at hT
    refine zF6 ?_
    refine rn4 ?_
    refine zW (poC p) Z Z Z Z Z (by rw [← hp]; rfl) Z ?_
    refine zAn ?_
    refine zEP (slH r l nx E [zFx (zA4 l nx E k)]) 7 [(1, .ptr 2 0 0), (4, .int .i64 ((n : Int) + 1)), (57, .ro (zCz l) 0 l.length), (58, iN l.length), (59, iN k), (5, .sl 4 0 (zA4 l nx E k).length), (6, iN k)] Z Z ⟨Z, Z, Z, Z, Z, Z, Z, trivial⟩ ⟨Z, Z, Z, Z, Z, Z, Z, Z, trivial⟩ (zEI _ _ _ _ (zCF (fun _ _ _ _ => rfl) zBr)) Z (fun h q => Nat.lt_of_lt_of_le (hfx h q) (by show 2 ≤ 5; decide)) ?_
    repeat (first | refine zA (zH rfl) ?_ | refine zC ?_ | refine zB ?_ | refine zK rfl ?_ | refine zA (zU rfl rfl rfl rfl rfl) ?_ | refine zA (zBU rfl rfl) ?_ | refine zA (zi rfl rfl rfl rfl rfl (by first | (simp only [Nat.zero_add, Int.toNat_natCast, Int.toNat_zero]; exact rfl) | exact rfl) (by omega)) ?_ | refine zA (zC8 rfl rfl rfl rfl rfl (by first | assumption | omega)) ?_ | refine zA (zY rfl) ?_ | refine zA (zM rfl rfl rfl rfl rfl rfl) ?_)
    refine zF Z (fun o1 => ?_) (fun o1 => ?_)
    ·have hno : ¬ zBC l nx E k = true := fun q => o1 (zDa q)
     refine rn5 ?_
     refine zS ⟨k + 1, by omega, by omega, ⟨Z, Z, Z, Z, Z, ?_, trivial⟩, ?_⟩
     ·rw [hfs, if_neg hno]; rfl
     ·rw [hfs, if_neg hno]
    ·have ho : zAR E k = 0 := Classical.not_not.1 o1
     have hfb : zBC l nx E k = (zFq l nx E k || zDz l nx E k) := by unfold zBC; rw [ho]; rfl
     refine rn1 ?_
     refine ze (by kernel_rfl) ?_
     refine zV 0 Z (by kernel_rfl) (by kernel_rfl) (by kernel_rfl) Z (zI Z Z Z Z Z Z) Z ?_
     refine zV 3 Z (by kernel_rfl) (by kernel_rfl) (by kernel_rfl) Z (zI Z Z Z Z Z Z) Z ?_
     apply zR (H := slH r l nx E [zFx (zA4 l nx E k), some ⟨3, .box [.int .i64 0]⟩]) [(1, .ptr 2 0 0), (4, .int .i64 ((n : Int) + 1)), (57, .ro (zCz l) 0 l.length), (58, iN l.length), (59, iN k), (5, .sl 4 0 (zA4 l nx E k).length), (6, iN k), (8, .int .i64 (1 + p.turn)), (78, .int .i64 (2 - p.turn)), (9, .ptr 5 0 0)]
     ·intro fin
      refine zG (is := [1, 4, 6]) (by kernel_rfl) (by simp) Z ⟨fun o ho => ?_, fun o ho => ?_, fun o ho => ?_, trivial⟩
      all_goals (cases ho)
      ·repeat (first | refine zC ?_ | refine zT ?_ | refine zA (zD rfl rfl rfl rfl) ?_)
       refine zV 2 Z (by kernel_rfl) (by kernel_rfl) (by kernel_rfl) Z (zA7 Z Z (by omega)) Z ?_
       refine zG (is := [4, 6]) (by kernel_rfl) (by simp) Z ⟨fun o ho => ?_, fun o ho => ?_, trivial⟩
       all_goals (cases ho)
       ·repeat (first | refine zC ?_ | refine zT ?_ | refine zA (zD rfl rfl rfl rfl) ?_)
        refine zV 5 Z (by kernel_rfl) (by kernel_rfl) (by kernel_rfl) Z (zBK Z Z (by omega)) Z ?_
        refine zG (is := [6]) (by kernel_rfl) (by simp) Z ⟨fun o ho => ?_, trivial⟩
        all_goals (cases ho)
        refine rn4 ?_
        refine zV 7 Z (by kernel_rfl) (by kernel_rfl) (by kernel_rfl) Z (zP Z) Z ?_
        exact fin _ ⟨Z, Z, Z, Z, Z, Z, Z, Z, Z, Z, trivial⟩
       ·refine rn4 ?_
        refine zV 7 Z (by kernel_rfl) (by kernel_rfl) (by kernel_rfl) Z (zP Z) Z ?_
        refine zG (is := [4]) (by kernel_rfl) (by simp) Z ⟨fun o ho => ?_, trivial⟩
        all_goals (cases ho)
        repeat (first | refine zC ?_ | refine zT ?_ | refine zA (zD rfl rfl rfl rfl) ?_)
        refine zV 5 Z (by kernel_rfl) (by kernel_rfl) (by kernel_rfl) Z (zBK Z Z (by omega)) Z ?_
        exact fin _ ⟨Z, Z, Z, Z, Z, Z, Z, Z, Z, Z, trivial⟩
      ·repeat (first | refine zC ?_ | refine zT ?_ | refine zA (zD rfl rfl rfl rfl) ?_)
       refine zV 5 Z (by kernel_rfl) (by kernel_rfl) (by kernel_rfl) Z (zBK Z Z (by omega)) Z ?_
       refine zG (is := [1, 6]) (by kernel_rfl) (by simp) Z ⟨fun o ho => ?_, fun o ho => ?_, trivial⟩
       all_goals (cases ho)
       ·repeat (first | refine zC ?_ | refine zT ?_ | refine zA (zD rfl rfl rfl rfl) ?_)
        refine zV 2 Z (by kernel_rfl) (by kernel_rfl) (by kernel_rfl) Z (zA7 Z Z (by omega)) Z ?_
        refine zG (is := [6]) (by kernel_rfl) (by simp) Z ⟨fun o ho => ?_, trivial⟩
        all_goals (cases ho)
        refine rn4 ?_
        refine zV 7 Z (by kernel_rfl) (by kernel_rfl) (by kernel_rfl) Z (zP Z) Z ?_
        exact fin _ ⟨Z, Z, Z, Z, Z, Z, Z, Z, Z, Z, trivial⟩
       ·refine rn4 ?_
        refine zG (is := [1]) (by kernel_rfl) (by simp) Z ⟨fun o ho => ?_, trivial⟩
        all_goals (cases ho)
        repeat (first | refine zC ?_ | refine zT ?_ | refine zA (zD rfl rfl rfl rfl) ?_)
        refine zV 2 Z (by kernel_rfl) (by kernel_rfl) (by kernel_rfl) Z (zA7 Z Z (by omega)) Z ?_
        refine zV 7 Z (by kernel_rfl) (by kernel_rfl) (by kernel_rfl) Z (zP Z) Z ?_
        exact fin _ ⟨Z, Z, Z, Z, Z, Z, Z, Z, Z, Z, trivial⟩
      ·refine rn4 ?_
       refine zG (is := [1, 4]) (by kernel_rfl) (by simp) Z ⟨fun o ho => ?_, fun o ho => ?_, trivial⟩
       all_goals (cases ho)
       ·repeat (first | refine zC ?_ | refine zT ?_ | refine zA (zD rfl rfl rfl rfl) ?_)
        refine zV 2 Z (by kernel_rfl) (by kernel_rfl) (by kernel_rfl) Z (zA7 Z Z (by omega)) Z ?_
        refine zV 7 Z (by kernel_rfl) (by kernel_rfl) (by kernel_rfl) Z (zP Z) Z ?_
        refine zG (is := [4]) (by kernel_rfl) (by simp) Z ⟨fun o ho => ?_, trivial⟩
        all_goals (cases ho)
        repeat (first | refine zC ?_ | refine zT ?_ | refine zA (zD rfl rfl rfl rfl) ?_)
        refine zV 5 Z (by kernel_rfl) (by kernel_rfl) (by kernel_rfl) Z (zBK Z Z (by omega)) Z ?_
        exact fin _ ⟨Z, Z, Z, Z, Z, Z, Z, Z, Z, Z, trivial⟩
       ·repeat (first | refine zC ?_ | refine zT ?_ | refine zA (zD rfl rfl rfl rfl) ?_)
        refine zV 5 Z (by kernel_rfl) (by kernel_rfl) (by kernel_rfl) Z (zBK Z Z (by omega)) Z ?_
        refine zG (is := [1]) (by kernel_rfl) (by simp) Z ⟨fun o ho => ?_, trivial⟩
        all_goals (cases ho)
        repeat (first | refine zC ?_ | refine zT ?_ | refine zA (zD rfl rfl rfl rfl) ?_)
        refine zV 2 Z (by kernel_rfl) (by kernel_rfl) (by kernel_rfl) Z (zA7 Z Z (by omega)) Z ?_
        refine zV 7 Z (by kernel_rfl) (by kernel_rfl) (by kernel_rfl) Z (zP Z) Z ?_
        exact fin _ ⟨Z, Z, Z, Z, Z, Z, Z, Z, Z, Z, trivial⟩
     refine zG (is := [8]) (by kernel_rfl) (by simp) Z ⟨fun o ho => ?_, trivial⟩
     all_goals (cases ho)
     refine rn9 ?_
     refine zZ (by kernel_rfl) ?_
     refine zAn ?_
     refine zEP (slH r l nx E [zFx (zA4 l nx E k)]) 9 [(1, .ptr 2 0 0), (4, .int .i64 ((n : Int) + 1)), (57, .ro (zCz l) 0 l.length), (58, iN l.length), (59, iN k), (5, .sl 4 0 (zA4 l nx E k).length), (6, iN k), (8, .int .i64 (1 + p.turn))] Z Z ⟨Z, Z, Z, Z, Z, Z, Z, Z, trivial⟩ ⟨Z, Z, Z, Z, Z, Z, Z, Z, Z, trivial⟩ (zEI _ _ _ _ (zCF (fun _ _ _ _ => rfl) zBr)) Z (fun h q => Nat.lt_of_lt_of_le (hfx h q) (by show 2 ≤ 5; decide)) ?_
     refine zBn ?_
     have hkn : k < nx.length := by omega
     have hrow := hrl k hk'
     have hcl : ∀ x ∈ (nx.getD k []).map Int.ofNat, 0 ≤ x ∧ x < (E.length : Int) := fun x hx => by
      obtain ⟨q, hq, rfl⟩ := List.mem_map.1 hx
      have := hnk k hk' q hq
      exact ⟨Int.natCast_nonneg q, by show (q : Int) < _; omega⟩
     have hrl2 : ((nx.getD k []).map Int.ofNat).length ≤ 1000000 := by rw [List.length_map]; exact hrow
     have c1 := zGt (H := slH r l nx E [zFx (zA4 l nx E k)]) ((nx.getD k []).map Int.ofNat) (fun x => decide ((E.getD x.toNat (0, 0)).1 = 1 + p.turn)) 109 [.ptr 2 0 0, .rp (.box [.int .i64 (1 + p.turn)]) 0 0] hrl2 (fun x hx => cl1_ok (slH_S r l nx E _) (1 + p.turn) x (hcl x hx))
     have c2 := zGt (H := slH r l nx E [zFx (zA4 l nx E k)]) ((nx.getD k []).map Int.ofNat) (fun x => decide ((E.getD x.toNat (0, 0)).1 ≠ 2 - p.turn)) 110 [.ptr 2 0 0, .rp (.box [.int .i64 (2 - p.turn)]) 0 0] hrl2 (fun x hx => cl2_ok (slH_S r l nx E _) (2 - p.turn) x (hcl x hx))
     rw [← hT, zJ5] at c1
     rw [← hT] at c2
     rw [← hT]
     refine ze (by kernel_rfl) ?_
     refine zm (fuel := 0) [0, 1, 2, 3, 4, 5, 6, 7, 8, 9, 10, 11] [(9, .rp (.box [.int .i64 (2 - z8 l k)]) 0 0), (1, .ptr 2 0 0), (4, .int .i64 ((n : Int) + 1)), (57, .ro (zCz l) 0 l.length), (58, iN l.length), (59, iN k), (5, .sl 4 0 (zA4 l nx E k).length), (6, iN k), (8, .int .i64 (1 + z8 l k)), (10, .fn 108 [.ptr 2 0 0])] ⟨Z, Z, Z, Z, Z, Z, Z, Z, Z, Z, trivial⟩ (by kernel_rfl) (by decide) Z Z ?_
     refine zJ Z Z (zU Z Z Z Z Z) ?_
     refine zJ Z Z (zY Z) ?_
     refine zJ Z Z (zM Z Z Z Z Z Z) ?_
     refine zJ Z Z (zU Z Z Z Z Z) ?_
     refine zJ Z Z (zH Z) ?_
     refine zJ Z Z (zg Z Z Z Z (by first | (simp only [Nat.zero_add, Int.toNat_natCast, Int.toNat_zero]; exact Z) | exact Z) (by omega)) ?_
     refine zJ Z Z (zA5 Z Z Z Z) ?_
     refine zJ Z Z (zH Z) ?_
     refine zJ Z Z (zH Z) ?_
     refine px_c Z Z Z Z Z (cl0_ok _ (zEI _ _ _ _ (zCF (fun _ _ _ _ => rfl) zBr)) (by show 2 < 5; decide)) ?_
     refine px_c Z Z Z Z Z c1 ?_
     refine zJ Z Z (zP Z) ?_
     refine zAA ?_
     refine zZ (by kernel_rfl) ?_
     repeat (first | refine zA (zH rfl) ?_ | refine zB ?_ | refine zX ?_ | refine zK rfl ?_ | refine zA (zA5 rfl rfl rfl rfl) ?_ | refine zA (zU rfl rfl rfl rfl rfl) ?_ | refine zA (zg rfl rfl rfl rfl (by first | (simp only [Nat.zero_add, Int.toNat_natCast, Int.toNat_zero]; exact rfl) | exact rfl) (by omega)) ?_ | refine zA (zCn rfl) ?_ | refine zA (zY rfl) ?_ | refine zA (zM rfl rfl rfl rfl rfl rfl) ?_)
     refine zC4 Z Z Z c2 (fun _ h => h) (fun _ h => h) ?_
     rintro r' H' ⟨rfl, rfl⟩
     refine rn5 ?_
     rw [zMF]
     have hml : ((zA4 l nx E k).map Int.ofNat).length = (zA4 l nx E k).length := List.length_map ..
     cases hw : zFq l nx E k with
     | true =>
      have hyes : zBC l nx E k = true := by rw [hfb, hw]; rfl
      refine rn6 ?_
      refine zAe Z Z Z Z Z Z Z Z Z hml Z Z (by show 0 + 1 ≤ 1; omega) Z (by show ((zA4 l nx E k).length + 1) * 8 ≤ _ ∧ _; omega) (fun i j _ _ => rfl) (by rw [hfix]; show ¬ 4 < 2; decide) ?_
      refine zAj (slH r l nx E [zFx (zA4 l nx E k ++ [k])]) ?_ ?_
      ·show [none, some (AObj.mk _ ((Cells.box _).forget 4)), some (AObj.mk _ ((Cells.box _).forget 4)), some (AObj.mk _ ((zBB E).forget 4)), _] = _
       rw [zCD (fun a j => zEU a j 4)]
       show _ = [none, _, _, _, some (AObj.mk _ (Cells.ints .i64 (List.map Int.ofNat (zA4 l nx E k ++ [k]))))]
       rw [List.map_append]; rfl
      refine rn5 ?_
      refine zS ⟨k + 1, by omega, by omega, ⟨Z, Z, Z, Z, Z, ?_, trivial⟩, ?_⟩
      ·rw [hfs, hyes, if_pos rfl, List.length_append]; rfl
      ·rw [hfs, hyes]; rfl
     | false =>
      cases hl : zDz l nx E k with
      | true =>
       have hyes : zBC l nx E k = true := by rw [hfb, hw, hl]; rfl
       refine rn5 ?_
       refine zAe Z Z Z Z Z Z Z Z Z hml Z Z (by show 0 + 1 ≤ 1; omega) Z (by show ((zA4 l nx E k).length + 1) * 8 ≤ _ ∧ _; omega) (fun i j _ _ => rfl) (by rw [hfix]; show ¬ 4 < 2; decide) ?_
       refine zAj (slH r l nx E [zFx (zA4 l nx E k ++ [k])]) ?_ ?_
       ·show [none, some (AObj.mk _ ((Cells.box _).forget 4)), some (AObj.mk _ ((Cells.box _).forget 4)), some (AObj.mk _ ((zBB E).forget 4)), _] = _
        rw [zCD (fun a j => zEU a j 4)]
        show _ = [none, _, _, _, some (AObj.mk _ (Cells.ints .i64 (List.map Int.ofNat (zA4 l nx E k ++ [k]))))]
        rw [List.map_append]; rfl
       refine rn5 ?_
       refine zS ⟨k + 1, by omega, by omega, ⟨Z, Z, Z, Z, Z, ?_, trivial⟩, ?_⟩
       ·rw [hfs, hyes, if_pos rfl, List.length_append]; rfl
       ·rw [hfs, hyes]; rfl
      | false =>
       have hno : zBC l nx E k = false := by rw [hfb, hw, hl]; rfl
       refine rn5 ?_
       refine zS ⟨k + 1, by omega, by omega, ⟨Z, Z, Z, Z, Z, ?_, trivial⟩, ?_⟩
       ·rw [hfs, hno]; rfl
       ·rw [hfs, hno]; rfl
   ·have hk' : k = l.length := by omega
    subst hk'
    have hF : zA4 l nx E l.length = zAr l nx E := rfl
    have hfl : (zAr l nx E).length ≤ l.length := zHz l nx E l.length
    have hlt : ∀ j, j < (zAr l nx E).length → (zAr l nx E).getD j 0 < l.length := fun j hj => zMU (l := l) (nx := nx) (E := E) (k := l.length) (zAp 0 hj)
    have hstep := zJy (l := l) (nx := nx) (E := E) (n := n + 1) hEl
    rw [hF]
    generalize hf : zAr l nx E = f at hfl hlt hop hstep
    refine rn5 ?_
    refine zF Z (fun z => ?_) (fun z => ?_)
    ·have z2 : f = [] := List.length_eq_zero_iff.1 (by omega)
     subst z2
     repeat (first | refine zB ?_ | refine zX ?_ | refine zCS ?_ | refine zAm ?_ | refine zAl ?_ | refine zAy ?_ | refine zFs rfl ?_)
     refine zCR (slH r l nx E []) [zFx []] [(1, .ptr 2 0 0)] Z ⟨Z, trivial⟩ (fun h q => Nat.lt_of_lt_of_le (hfx h q) (by show 2 ≤ 4; decide)) (zGA r l nx E) Z ?_
     refine rn15 ?_
     refine zx (ι := Nat) (fun j => [(1, .ptr 2 0 0), (181, iN E.length), (182, iN j)]) (fun j => slH r l nx (zB6 E j) []) (fun j => j ≤ E.length) (fun j => E.length - j) 0 ⟨⟨Z, Z, Z, trivial⟩, by rw [zKH], Nat.zero_le _⟩ ?_
     intro j hj
     have hcl := zHs E j
     refine rn4 ?_
     refine zF Z (fun q => ?_) (fun q => ?_)
     ·have hj' : j < E.length := by omega
      have hat := zMJ hj'
      have hsu := zKG hj'
      have hsl : (zB6 E (j + 1)).length = E.length := zHs E (j + 1)
      repeat (first | refine zA (zH rfl) ?_ | refine zA (zP rfl) ?_ | refine zC ?_ | refine zB ?_ | refine zX ?_ | refine zK rfl ?_ | refine zAT ?_ | refine zAL ?_ | refine zA (zU rfl rfl rfl rfl rfl) ?_ | refine zA (zBx rfl rfl) ?_ | refine zA (zi rfl rfl rfl rfl rfl (by first | (simp only [Nat.zero_add, Int.toNat_natCast, Int.toNat_zero]; exact rfl) | exact rfl) (by omega)) ?_ | refine zA (zC8 rfl rfl rfl rfl rfl (by first | assumption | omega)) ?_ | refine zA (zY rfl) ?_ | refine zA (zM rfl rfl rfl rfl rfl rfl) ?_)
      refine zF Z (fun o => ?_) (fun o => ?_)
      ·have o : ((zB6 E j).getD j (0, 0)).1 = 0 := o
       rw [hat] at o
       rw [if_pos o] at hsu
       repeat (first | refine zA (zH rfl) ?_ | refine zK rfl ?_ | refine zA (zU rfl rfl rfl rfl rfl) ?_ | refine zA (zi rfl rfl rfl rfl rfl (by first | (simp only [Nat.zero_add, Int.toNat_natCast, Int.toNat_zero]; exact rfl) | exact rfl) (by omega)) ?_ | refine zA (zY rfl) ?_ | refine zA (zM rfl rfl rfl rfl rfl rfl) ?_)
       refine zIz (3, (E.getD j (0, 0)).2) Z Z Z Z Z Z (by show j < (zB6 E j).length; omega) (fun j' hj' => ?_) ?_
       ·rw [hat]
        match j', hj' with
        | 0, _ => rfl
        | 1, _ => rfl
       refine rn5 ?_
       refine zS ⟨j + 1, by omega, by omega, ⟨Z, Z, Z, trivial⟩, ?_⟩
       rw [hsu]
       show _ = [none, some (AObj.mk _ (.box (tbF r l nx (.sl 3 0 (List.set _ _ _).length)))), _, _]
       rw [List.length_set]; rfl
      ·have o : ¬ ((zB6 E j).getD j (0, 0)).1 = 0 := o
       rw [hat] at o
       rw [if_neg o] at hsu
       refine rn5 ?_
       refine zS ⟨j + 1, by omega, by omega, ⟨Z, Z, Z, trivial⟩, ?_⟩
       rw [hsu]
     ·have hj' : j = E.length := by omega
      subst hj'
      rw [zKF]
      refine rn5 ?_
      refine ax_end (vs := []) hR Z ?_
      exact ⟨Z, n, by rw [hEn]; exact hf, by rw [hEn]⟩
    ·have hne : f ≠ [] := fun c => z (by rw [c]; rfl)
     have hop := hop hne
     have hml : (f.map Int.ofNat).length = f.length := List.length_map ..
     refine rn3 ?_
     refine zGF Z Z Z Z Z Z Z Z (by show (0 : Int) ≤ _ ∧ _ ≤ _ ∧ (8 : Int) * _ ≤ _ ∧ _; omega) ?_
     refine rn3 ?_
     refine zx (ι := Nat) (fun j => [(1, .ptr 2 0 0), (4, .int .i64 ((n : Int) + 1)), (5, .sl 4 0 f.length), (13, .sl 5 0 f.length), (116, .sl 4 0 f.length), (117, iN f.length), (118, iN j)]) (fun j => slH r l nx E [zFx f, resO (zEn l nx E f j)]) (fun j => j ≤ f.length) (fun j => f.length - j) 0 ⟨⟨Z, Z, Z, Z, Z, Z, Z, trivial⟩, Z, Nat.zero_le _⟩ ?_
     intro j hj
     have hrl0 := hrl
     have hrl := resK_len (l := l) (nx := nx) (E := E) hj
     refine rn4 ?_
     refine zF Z (fun q => ?_) (fun q => ?_)
     ·have hj' : j < f.length := by omega
      have hjr : j < (zEn l nx E f j).length := by omega
      have hil := hlt j hj'
      have hsu := zMt (l := l) (nx := nx) (E := E) hj'
      have hgi : (f.map Int.ofNat).getD j 0 = ((f.getD j 0 : Nat) : Int) := by simp [List.getD, List.getElem?_eq_getElem hj']
      generalize hi : f.getD j 0 = i at hil hsu hgi
      have htn := turnB i
      have hT : z8 l i = (l.getD i zj).turn := rfl
      refine rn20 ?_
      refine zK Z ?_
      repeat (first | refine zA (zH rfl) ?_ | refine zA (zP rfl) ?_ | refine zC ?_ | refine zB ?_ | refine zX ?_ | refine zA (zi rfl rfl rfl rfl rfl (by first | (simp only [Nat.zero_add, Int.toNat_natCast, Int.toNat_zero]; exact rfl) | exact rfl) (by omega)) ?_ | refine zA (zA0 rfl rfl rfl rfl (by first | assumption | omega)) ?_ | refine zAJ rfl rfl rfl rfl rfl rfl rfl Nat.zero_lt_one ?_ | refine zAS rfl rfl rfl ?_)
      rw [hgi]
      refine zEP (slH r l nx E [zFx f, resO (zEn l nx E f j)]) 15 [(1, .ptr 2 0 0), (4, .int .i64 ((n : Int) + 1)), (5, .sl 4 0 f.length), (13, .sl 5 0 f.length), (116, .sl 4 0 f.length), (117, iN f.length), (118, iN j), (14, iN j)] Z Z ⟨Z, Z, Z, Z, Z, Z, Z, Z, trivial⟩ ⟨Z, Z, Z, Z, Z, Z, Z, Z, Z, trivial⟩ (zEI _ _ _ _ (zCF (fun _ _ _ _ => rfl) (zCF (fun _ _ _ _ => rfl) zBr))) Z (fun h q => Nat.lt_of_lt_of_le (hfx h q) (by show 2 ≤ 6; decide)) ?_
      skip
      refine ze (by kernel_rfl) ?_
      refine zm (fuel := 1) [0, 1, 2, 3, 4, 5, 6, 7, 8, 9, 10, 11] [(15, .rp (.box [iN i]) 0 0), (1, .ptr 2 0 0), (4, .int .i64 ((n : Int) + 1)), (5, .sl 4 0 f.length), (13, .sl 5 0 f.length), (116, .sl 4 0 f.length), (117, iN f.length), (118, iN j), (14, iN j)] ⟨Z, Z, Z, Z, Z, Z, Z, Z, Z, trivial⟩ (by kernel_rfl) (by decide) Z Z ?_
      refine zJ Z Z (zH Z) ?_
      refine zJ Z Z (zH Z) ?_
      refine zJ Z Z (zU Z Z Z Z Z) ?_
      refine zJ Z Z (zY Z) ?_
      refine zJ Z Z (zM Z Z Z Z Z Z) ?_
      refine zJ Z Z (zU Z Z Z Z Z) ?_
      refine zJ Z Z (zD Z Z Z Z) ?_
      refine zJ Z Z (zg Z Z Z Z (by first | (simp only [Nat.zero_add, Int.toNat_natCast, Int.toNat_zero]; exact Z) | exact Z) (by omega)) ?_
      refine zJ Z Z (zI Z Z Z Z Z Z) ?_
      refine zJ Z Z (zA5 Z Z Z Z) ?_
      refine zJ Z Z (zBK Z Z (by omega)) ?_
      refine zJ Z Z (zi Z Z Z Z Z (by first | (simp only [Nat.zero_add, Int.toNat_natCast, Int.toNat_zero]; exact Z) | exact Z) (by omega)) ?_
      refine zAA ?_
      refine zG (is := [12]) (by kernel_rfl) (by simp) Z ⟨fun o ho => ?_, trivial⟩
      all_goals (cases ho)
      refine rn7 ?_
      refine zZ (by kernel_rfl) ?_
      refine rn0 ?_
      have hrow := hrl0 i hil
      have hcl : ∀ x ∈ (nx.getD i []).map Int.ofNat, 0 ≤ x ∧ x < (E.length : Int) := fun x hx => by
       obtain ⟨q, hq, rfl⟩ := List.mem_map.1 hx
       have := hnk i hil q hq
       exact ⟨Int.natCast_nonneg q, by show (q : Int) < _; omega⟩
      have hrl2 : ((nx.getD i []).map Int.ofNat).length ≤ 1000000 := by rw [List.length_map]; exact hrow
      have c3 := zGt (H := slH r l nx E [zFx f, resO ((zEn l nx E f j).set j (2 - (l.getD i zj).turn))]) ((nx.getD i []).map Int.ofNat) (fun x => decide ((E.getD x.toNat (0, 0)).1 = 1 + z8 l i)) 111 [.ptr 2 0 0, .rp (.box [iN i]) 0 0] hrl2 (fun x hx => cl3_ok (slH_S r l nx E _) i hil htn x (hcl x hx))
      rw [zJ5] at c3
      refine ze (by kernel_rfl) ?_
      refine zm (fuel := 0) [0, 1, 2, 3, 4, 5, 6, 7, 8] [(15, .rp (.box [iN i]) 0 0), (1, .ptr 2 0 0), (4, .int .i64 ((n : Int) + 1)), (5, .sl 4 0 f.length), (13, .sl 5 0 f.length), (116, .sl 4 0 f.length), (117, iN f.length), (118, iN j), (14, iN j)] ⟨Z, Z, Z, Z, Z, Z, Z, Z, Z, trivial⟩ (by kernel_rfl) (by decide) Z Z ?_
      refine zJ Z Z (zU Z Z Z Z Z) ?_
      refine zJ Z Z (zY Z) ?_
      refine zJ Z Z (zM Z Z Z Z Z Z) ?_
      refine zJ Z Z (zU Z Z Z Z Z) ?_
      refine zJ Z Z (zD Z Z Z Z) ?_
      refine zJ Z Z (zg Z Z Z Z (by first | (simp only [Nat.zero_add, Int.toNat_natCast, Int.toNat_zero]; exact Z) | exact Z) (by omega)) ?_
      refine zJ Z Z (zA5 Z Z Z Z) ?_
      refine zJ Z Z (zCn Z) ?_
      refine px_c Z Z Z Z Z c3 ?_
      refine zAA ?_
      refine zZ (by kernel_rfl) ?_
      cases hw : zFq l nx E i with
      | true =>
       have hres : zBf l nx E i = 1 + (l.getD i zj).turn := by unfold zBf; rw [hw, if_pos rfl]; rfl
       refine rn5 ?_
       refine ze (by kernel_rfl) ?_
       refine zm (fuel := 1) [0, 1, 2, 3, 4, 5, 6, 7, 8, 9, 10, 11] [(15, .rp (.box [iN i]) 0 0), (1, .ptr 2 0 0), (4, .int .i64 ((n : Int) + 1)), (5, .sl 4 0 f.length), (13, .sl 5 0 f.length), (116, .sl 4 0 f.length), (117, iN f.length), (118, iN j), (14, iN j)] ⟨Z, Z, Z, Z, Z, Z, Z, Z, Z, trivial⟩ (by kernel_rfl) (by decide) Z Z ?_
       refine zJ Z Z (zH Z) ?_
       refine zJ Z Z (zH Z) ?_
       refine zJ Z Z (zU Z Z Z Z Z) ?_
       refine zJ Z Z (zY Z) ?_
       refine zJ Z Z (zM Z Z Z Z Z Z) ?_
       refine zJ Z Z (zU Z Z Z Z Z) ?_
       refine zJ Z Z (zD Z Z Z Z) ?_
       refine zJ Z Z (zg Z Z Z Z (by first | (simp only [Nat.zero_add, Int.toNat_natCast, Int.toNat_zero]; exact Z) | exact Z) (by omega)) ?_
       refine zJ Z Z (zI Z Z Z Z Z Z) ?_
       refine zJ Z Z (zA5 Z Z Z Z) ?_
       refine zJ Z Z (zA7 Z Z (by omega)) ?_
       refine zJ Z Z (zi Z Z Z Z Z (by first | (simp only [Nat.zero_add, Int.toNat_natCast, Int.toNat_zero]; exact Z) | exact Z) (by omega)) ?_
       refine zAA ?_
       refine zG (is := [12]) (by kernel_rfl) (by simp) Z ⟨fun o ho => ?_, trivial⟩
       all_goals (cases ho)
       have hjr2 : j < ((zEn l nx E f j).set j (2 - (l.getD i zj).turn)).length := by rw [List.length_set]; exact hjr
       refine rn7 ?_
       refine zZ (by kernel_rfl) ?_
       refine rn5 ?_
       refine zS ⟨j + 1, by omega, by omega, ⟨Z, Z, Z, Z, Z, Z, Z, trivial⟩, ?_⟩
       rw [hsu, hres]
       show [_, _, _, _, _, some (AObj.mk _ (Cells.ints .i64 (((zEn l nx E f j).set j (2 - (l.getD i zj).turn)).set j (1 + (l.getD i zj).turn))))] = _
       rw [List.set_set]
      | false =>
       have hres : zBf l nx E i = 2 - (l.getD i zj).turn := by unfold zBf; rw [hw, if_neg (by decide)]; rfl
       refine rn5 ?_
       refine zS ⟨j + 1, by omega, by omega, ⟨Z, Z, Z, Z, Z, Z, Z, trivial⟩, ?_⟩
       rw [hsu, hres]; rfl
     ·have hj' : j = f.length := by omega
      subst hj'
      refine rn5 ?_
      refine zx (ι := Nat) (fun j => [(1, .ptr 2 0 0), (4, .int .i64 ((n : Int) + 1)), (13, .sl 5 0 f.length), (157, .sl 4 0 f.length), (158, iN f.length), (159, iN j)]) (fun j => slH r l nx (zCV (fun i => (zBf l nx E i, ((n + 1 : Nat) : Int))) (f.take j) E) [zFx f, resO (zEn l nx E f f.length)]) (fun j => j ≤ f.length) (fun j => f.length - j) 0 ⟨⟨Z, Z, Z, Z, Z, Z, trivial⟩, Z, Nat.zero_le _⟩ ?_
      intro j hj
      refine rn4 ?_
      refine zF Z (fun q => ?_) (fun q => ?_)
      ·have hj' : j < f.length := by omega
       have hjr : j < (zEn l nx E f f.length).length := by omega
       have hil := hlt j hj'
       have hgi : (f.map Int.ofNat).getD j 0 = ((f.getD j 0 : Nat) : Int) := by simp [List.getD, List.getElem?_eq_getElem hj']
       have hrf := zMs (l := l) (nx := nx) (E := E) hj'
       have hsn := zJx (fun i => (zBf l nx E i, ((n + 1 : Nat) : Int))) (f.take j) (f.getD j 0) E
       rw [← zz _ 0 j hj'] at hsn
       have hsl := zDA (fun i => (zBf l nx E i, ((n + 1 : Nat) : Int))) (f.take j) E
       have hsl2 := zDA (fun i => (zBf l nx E i, ((n + 1 : Nat) : Int))) (f.take (j + 1)) E
       generalize hi : f.getD j 0 = i at hil hgi hrf hsn
       generalize hA : zCV (fun i => (zBf l nx E i, ((n + 1 : Nat) : Int))) (f.take j) E = A at hsl hsn
       generalize hA2 : zCV (fun i => (zBf l nx E i, ((n + 1 : Nat) : Int))) (f.take (j + 1)) E = A2 at hsn hsl2
       refine rn20 ?_
       refine zK Z ?_
       repeat (first | refine zA (zH rfl) ?_ | refine zA (zP rfl) ?_ | refine zC ?_ | refine zB ?_ | refine zA (zi rfl rfl rfl rfl rfl (by first | (simp only [Nat.zero_add, Int.toNat_natCast, Int.toNat_zero]; exact rfl) | exact rfl) (by omega)) ?_ | refine zA (zA0 rfl rfl rfl rfl (by first | assumption | omega)) ?_)
       rw [hgi]
       skip
       refine ze (by kernel_rfl) ?_
       refine zm (fuel := 1) [0, 1, 2, 3, 4, 5, 6, 7, 8, 9, 10, 11] [(1, .ptr 2 0 0), (4, .int .i64 ((n : Int) + 1)), (13, .sl 5 0 f.length), (157, .sl 4 0 f.length), (158, iN f.length), (159, iN j), (16, iN j), (17, iN i)] ⟨Z, Z, Z, Z, Z, Z, Z, Z, trivial⟩ (by kernel_rfl) (by decide) Z Z ?_
       refine zJ Z Z (zU Z Z Z Z Z) ?_
       refine zJ Z Z (zY Z) ?_
       refine zJ Z Z (zM Z Z Z Z Z Z) ?_
       refine zJ Z Z (zU Z Z Z Z Z) ?_
       refine zJ Z Z (zH Z) ?_
       refine zJ Z Z (zH Z) ?_
       refine zJ Z Z (zH Z) ?_
       refine zJ Z Z (zi Z Z Z Z Z (by first | (simp only [Nat.zero_add, Int.toNat_natCast, Int.toNat_zero]; exact Z) | exact Z) (by omega)) ?_
       refine zJ Z Z (zA0 Z Z Z Z (by first | assumption | omega)) ?_
       refine zJ Z Z (zH Z) ?_
       refine zJ Z Z (zDR Z Z Z Z Z Z) ?_
       refine zJ Z Z (zi Z Z Z Z Z (by first | (simp only [Nat.zero_add, Int.toNat_natCast, Int.toNat_zero]; exact Z) | exact Z) (by omega)) ?_
       refine zAA ?_
       refine zG (is := [12]) (by kernel_rfl) (by simp) Z ⟨fun o ho => ?_, trivial⟩
       all_goals (cases ho)
       refine zK7 (zBf l nx E i, ((n + 1 : Nat) : Int)) Z Z Z Z Z (by show i < A.length; omega) (by decide) (fun j' hj' => ?_) ?_
       ·match j', hj' with
        | 0, _ => show AV.int .i64 (zBf l nx E i) = AV.int .i64 ((zEn l nx E f f.length).getD j 0); rw [hrf]
        | 1, _ => rfl
       refine rn1 ?_
       refine zZ (by kernel_rfl) ?_
       refine rn5 ?_
       refine zS ⟨j + 1, by omega, by omega, ⟨Z, Z, Z, Z, Z, Z, trivial⟩, ?_⟩
       show _ = slH r l nx (zCV (fun i => (zBf l nx E i, ((n + 1 : Nat) : Int))) (f.take (j + 1)) E) [zFx f, resO (zEn l nx E f f.length)]
       rw [hA2, hsn]
       show _ = [none, some (AObj.mk _ (.box (tbF r l nx (.sl 3 0 (List.set _ _ _).length)))), _, _, _, _]
       rw [List.length_set]; rfl
      ·have hj' : j = f.length := by omega
       subst hj'
       rw [List.take_length, hstep, ← hst]
       refine zFi ?_
       refine zCR (slH r l nx (zb l nx (z6 r l) (n + 1)) []) [zFx f, resO (zEn l nx E f f.length)] [(1, .ptr 2 0 0), (4, .int .i64 ((n : Int) + 1))] Z ⟨Z, Z, trivial⟩ (fun h q => Nat.lt_of_lt_of_le (hfx h q) (by show 2 ≤ 4; decide)) (zGA r l nx _) Z ?_
       refine rn3 ?_
       refine zS ⟨n + 1, by rw [hst]; omega, by rw [hst]; omega, ⟨Z, Z, trivial⟩, Z⟩
abbrev zEm (r : Go.Ax.Gm.Rules) (l : List Pos) (nx : List (List Nat)) : zO :=
 [some ⟨95, .mp (zB9 l) (zCb l.length)⟩, some ⟨97, .box (tbC r l.length nx.length .nil)⟩, some ⟨35, zCz l⟩, some ⟨23, zDK nx⟩]
theorem zFL (r : Go.Ax.Gm.Rules) (l : List Pos) (nx : List (List Nat)) : ∀ (h : Nat) (o : AObj), (zEm r l nx)[h]? = some (some o) → zA1 (zEm r l nx).length o.c :=
 zCF (zH6 l _) (zCF (zHn rfl) (zCF (zJO l) (zCF (zIR nx) zBr)))
/-- (*retro.Table).add -/
theorem add0_ok (r : Go.Ax.Gm.Rules) (hv : ValidR r) (l : List Pos) (nx : List (List Nat)) (p : Pos) (S : Sound r p) (G : ∀ q ∈ l, Sound r q ∧ q.quiet = 0) (hl : l.length ≤ 3001) :
 zd Tryz.prog 78 [.ptr 1 0 0, poA p] (zEm r l nx) (fun h => h < 4 ∧ h ≠ 2) (fun v H => v = iN (zAg l p) ∧ H = zEm r (zCe l p) nx) := by
 have hc : zd Tryz.prog 78 [.ptr 1 0 0, poA p] (zEm r l nx) (fun h => h < 4 ∧ h ≠ 2) (fun v H => v = iN (zAg l p) ∧ ∃ x, H = zEm r (zCe l p) nx ++ [x]) := by
  refine zL (P := Tryz.prog) (fn := Tryz.f78) Z Z (by kernel_rfl) Z (fun c hR hfix => ?_)
  refine rn6 ?_
  refine zQ Z Z Z (zFU hv S) ?_
  refine rn8 ?_
  by_cases hi : zAg l p < l.length
  ·have hadd : zCe l p = l := by unfold zCe; rw [if_pos hi]
   rw [hadd] at hR
   refine zA (zEb Z (.str Z) Z Z Z Z (zC6 l) (zAg l p) (zGx hi) (zG5 hi)) ?_
   refine rn5 ?_
   exact zN hR Z ⟨Z, _, Z⟩
  ·have hadd : zCe l p = l ++ [zAw p] := by unfold zCe; rw [if_neg hi]
   have hidx : zAg l p = l.length := by have := zJi l p; omega
   rw [hadd, hidx] at hR
   refine zA (zD2 Z (.str Z) Z Z Z Z Z Z Z Z (zC6 l) (zE5 hv S G hi)) ?_
   repeat (first | refine zA (zH rfl) ?_ | refine zA (zP rfl) ?_ | refine zC ?_ | refine zB ?_ | refine zX ?_ | refine zK rfl ?_ | refine zAf rfl ?_ | refine zA (zU rfl rfl rfl rfl rfl) ?_ | refine zA (zEH rfl) ?_ | refine zA (zAi rfl rfl) ?_ | refine zA (zBD rfl rfl rfl) ?_ | refine zA (zY rfl) ?_ | refine zA (zM rfl rfl rfl rfl rfl rfl) ?_ | refine zAJ rfl rfl rfl rfl rfl rfl rfl Nat.zero_lt_one ?_)
   refine zEt Z (.str Z) Z Z Z Z Z (zC6 l) (zE5 hv S G hi) ?_
   refine rn0 ?_
   have hll : (l ++ [zAw p]).length = l.length + 1 := by rw [List.length_append]; rfl
   refine zAh [some ⟨95, .mp (zB9 (l ++ [zAw p])) (zCb (l.length + 1))⟩, some ⟨97, .box (tbC r l.length nx.length .nil)⟩, some ⟨35, zCz l⟩, some ⟨23, zDK nx⟩, some ⟨35, .box (poC (zAw p))⟩] (by rw [← zJE, ← zJU]; rfl) ?_
   refine ze (by kernel_rfl) ?_
   refine zV 0 Z (by kernel_rfl) (by kernel_rfl) (by kernel_rfl) Z (zH Z) Z ?_
   refine zm (fuel := 4) [1, 2, 3, 4, 5, 6] [(33, .ptr 1 0 0), (0, .ptr 1 0 0), (3, .ptr 4 0 0), (6, iN l.length)] ⟨Z, Z, Z, Z, trivial⟩ (by kernel_rfl) (by decide) Z Z ?_
   refine zJ Z Z (zH Z) ?_
   refine zJ Z Z (zY Z) ?_
   refine zJ Z Z (zM Z Z Z Z Z Z) ?_
   refine zJ Z Z (zU Z Z Z Z Z) ?_
   refine zJ Z Z (qpp Z Z Z Z Z Z Z) ?_
   refine px_b Z Z Z Z Z Z Z Z Z Z Z Z Z ?_
   refine zAA ?_
   refine zG (is := [7]) (by kernel_rfl) (by simp) Z ⟨fun o ho => ?_, trivial⟩
   all_goals (cases ho)
   refine zBQ [zAw p] Z Z Z Z Z Z Z Z Z Z Z Z Z (Nat.le_refl _) (fun k' j hk' hj => ?_) (by show (l.length + 1) * 88 ≤ _ ∧ _; omega) (fun a j k _ => zDr a j k) (by rw [hfix]; exact fun h => h.2 Z) ?_
   ·obtain rfl : k' = 0 := Nat.lt_one_iff.1 hk'
    match j, hj with
    | 0, _ => rfl
    | 1, _ => rfl
    | 2, _ => rfl
    | 3, _ => rfl
    | 4, _ => rfl
   refine zAj [some ⟨95, .mp (zB9 (l ++ [zAw p])) (zCb (l.length + 1))⟩, some ⟨97, .box ((tbC r l.length nx.length .nil).set 11 .any)⟩, some ⟨35, zCz (l ++ [zAw p])⟩, some ⟨23, zDK nx⟩, some ⟨35, .box (poC (zAw p))⟩] ?_ ?_
   ·show [some (AObj.mk _ ((Cells.mp _ _).forget 2)), some (AObj.mk _ ((Cells.box _).forget 2)), some (AObj.mk _ (zCz (l ++ [zAw p]))), some (AObj.mk _ ((zDK nx).forget 2)), some (AObj.mk _ ((Cells.box (poC (zAw p))).forget 2))] = _
    rw [zDp, zCD (fun a j => zDu a j 2)]; rfl
   refine rn1 ?_
   refine zV 8 Z (by kernel_rfl) (by kernel_rfl) (by kernel_rfl) Z (zY Z) Z ?_
   refine zV 9 Z (by kernel_rfl) (by kernel_rfl) (by kernel_rfl) Z (zM Z Z Z Z Z Z) Z ?_
   refine zG (is := [10]) (by kernel_rfl) (by simp) Z ⟨fun o ho => ?_, trivial⟩
   all_goals (cases ho)
   refine rn9 ?_
   refine zZ (by kernel_rfl) ?_
   refine rn0 ?_
   exact zN hR Z ⟨Z, _, by show _ = [_, _, _, _, _]; rw [hll]; rfl⟩
 exact zd.cutR hc (fun v H ⟨e1, x, e2⟩ => ⟨_, [x], e2, fun h q => q.1, zFL _ _ _, e1 ▸ Z, e1, Z⟩)
theorem zE7 {r : Go.Ax.Gm.Rules} (hv : ValidR r) {p : Pos} (S : Sound r p) : (z7 r p).length ≤ 10000 := by
 have h1 := zG2 hv S p.cells.length
 have h2 := (zAu hv S).c
 have h3 : (rawM r p).length ≤ 384 + 112 * p.cells.length := h1
 unfold z7
 have h4 := zHB ((rawM r p).mergeSort leM)
 rw [List.length_mergeSort] at h4
 omega
theorem zG0 {r : Go.Ax.Gm.Rules} (hv : ValidR r) {p : Pos} (S : Sound r p) : (zAs r p).length ≤ 10000 := by
 unfold zAs
 split
 ·exact Nat.zero_le _
 ·exact zE7 hv S
abbrev zCt (T : Tab) : AV := .rp (.box (tbF T.r T.l T.nx (.ro (zBB T.E) 0 T.E.length))) 0 0
def zE9 (r : Go.Ax.Gm.Rules) : AV := if zDE r ≠ 0 then .nilp else match zEF r with
 | some x => zCt (zFK r x)
 | none => .nilp
theorem zG1 : ∀ {l : List AV}, (∀ x ∈ l, noRef x = true) → noRef.noRefs l = true
 | [], _ => rfl
 | x :: l, h => by
  show (noRef x && noRef.noRefs l) = true
  rw [h x (List.mem_cons_self ..), zG1 (fun y hy => h y (List.mem_cons_of_mem _ hy))]; rfl
theorem zJj (l : List Pos) (n : Nat) : zAH (.mp (zB9 l) (zCb n)) :=
 ⟨zG1 (fun x hx => by obtain ⟨p, _, rfl⟩ := List.mem_map.1 hx; rfl), zG1 (fun x hx => by obtain ⟨p, _, rfl⟩ := List.mem_map.1 hx; rfl)⟩
theorem zKk (l : List Pos) : zAH (zCz l) := zA8 (fun a j hj => by
 match j, hj with
 | 0, _ => rfl
 | 1, _ => rfl
 | 2, _ => rfl
 | 3, _ => rfl
 | 4, _ => rfl)
theorem zJw (nx : List (List Nat)) : zAH (zDK nx) := zA8 (fun a j hj => by
 obtain rfl : j = 0 := Nat.lt_one_iff.1 hj
 rfl)
theorem zGM (E : List Ent) : zAH (zBB E) := zA8 (fun a j hj => by
 match j, hj with
 | 0, _ => rfl
 | 1, _ => rfl)
/-- retro.New, refused -/
theorem new_no (r : Go.Ax.Gm.Rules) (hr : Lens r) (h : zAk r ≠ 0) : zl Tryz.prog 48 [ruA r] (.tup [.nilp, .int .i64 (zAk r)]) := by
 refine zd.value0 (zL (P := Tryz.prog) (fn := Tryz.f48) Z Z (by kernel_rfl) Z (fun c hR hfix => ?_)) (fix := fun _ => False) (fun _ h => h) Z Z
 refine rn6 ?_
 refine zQ Z Z Z (begin_no r hr h) ?_
 refine rn4 ?_
 refine zW (poC zj) Z Z Z Z Z Z Z ?_
 refine rn3 ?_
 refine zF Z (fun q => ?_) (fun q => absurd h q)
 refine rn2 ?_
 exact zN hR Z Z
/-- retro.New, a limit of quiet moves -/
theorem zMh (r : Go.Ax.Gm.Rules) (hr : Lens r) (h : zAk r = 0) (hq : r.quiet ≠ 0) : zl Tryz.prog 48 [ruA r] (.tup [.nilp, .int .i64 1]) := by
 refine zd.value0 (zL (P := Tryz.prog) (fn := Tryz.f48) Z Z (by kernel_rfl) Z (fun c hR hfix => ?_)) (fix := fun _ => False) (fun _ h => h) Z Z
 refine rn6 ?_
 refine zQ Z Z Z (zKB r hr h) ?_
 refine rn4 ?_
 refine zW (poC (zBL r)) Z Z Z Z Z Z Z ?_
 refine rn5 ?_
 refine zF Z (fun q => ?_) (fun q => absurd hq q)
 refine rn2 ?_
 exact zN hR Z Z
/-- retro.New -/
theorem new_run (r : Go.Ax.Gm.Rules) (hr : Lens r) (h : zAk r = 0) (hq : r.quiet = 0) : zl Tryz.prog 48 [ruA r] (.tup [zE9 r, .int .i64 (zDE r)]) := by
 have hE : zDE r = match zEF r with | none => 2 | some _ => 0 := by
  unfold zDE
  rw [if_neg (fun c => c h), if_neg (fun c => c hq)]
  cases zEF r <;> rfl
 have hnone : zEF r = none → zDE r = 2 ∧ zE9 r = .nilp := fun q => by
  have e : zDE r = 2 := by rw [hE, q]
  exact ⟨e, by unfold zE9; rw [e, if_pos (by decide)]⟩
 have hsome : ∀ x, zEF r = some x → zDE r = 0 ∧ zE9 r = zCt (zFK r x) := fun x q => by
  have e : zDE r = 0 := by rw [hE, q]
  exact ⟨e, by unfold zE9; rw [e, if_neg (by decide), q]⟩
 have hv := zBO h
 refine zd.value0 (zL (P := Tryz.prog) (fn := Tryz.f48) Z Z (by kernel_rfl) Z (fun c hR hfix => ?_)) (fix := fun _ => False) (fun _ h => h) ?_ ?_
 rotate_left
 ·rfl
 ·show (noRef (zE9 r) && true) = true
  rcases hx : zEF r with _ | x
  ·rw [(hnone hx).2]; rfl
  ·rw [(hsome x hx).2]; rfl
 refine zX ?_
 repeat (first | refine zA (zP rfl) ?_ | refine zC ?_ | refine zB ?_ | refine zK rfl ?_ | refine zAo rfl rfl ?_)
 refine zB5 1 [] Z ⟨Z, trivial⟩ trivial Z hfix ?_
 refine rn6 ?_
 refine zQ Z Z Z (zKB r hr h) ?_
 refine rn4 ?_
 refine zW (poC (zBL r)) Z Z Z Z Z Z Z ?_
 refine zAn ?_
 refine zB5 4 [(1, .rp (.box (ruC r)) 0 0), (5, .int .i64 0)] Z ⟨Z, Z, Z, trivial⟩ ⟨Z, Z, trivial⟩ Z hfix ?_
 refine zBn ?_
 refine zF Z (fun q => absurd hq q) (fun q => ?_)
 refine rn6 ?_
 refine zQ Z Z Z (copyR_ok r (zKr hv)) ?_
 skip
 refine zK5 ?_
 skip
 refine zA (q_buildM Z Z Z Z Z Z) ?_
 repeat (first | refine zA (zP rfl) ?_ | refine zC ?_ | refine zB ?_ | refine zX ?_ | refine zAo rfl rfl ?_)
 refine zAh [some ⟨95, .mp (zB9 []) (zCb 0)⟩, some ⟨97, .box [.str r.name, .int .i64 r.w, .int .i64 r.h, .ro (zAb r.pcs) 0 r.pcs.length, zt r.start, .bool r.falls, .bool r.keeps, .ro (zEz r.ends) 0 r.ends.length, .int .i64 r.blocked, .int .i64 r.quiet, .int .i64 r.rep, .nil, .nil, .nil, .mp 0]⟩] Z ?_
 refine zDW 1 ⟨35, zCz []⟩ (.box [.str r.name, .int .i64 r.w, .int .i64 r.h, .ro (zAb r.pcs) 0 r.pcs.length, zt r.start, .bool r.falls, .bool r.keeps, .ro (zEz r.ends) 0 r.ends.length, .int .i64 r.blocked, .int .i64 r.quiet, .int .i64 r.rep, .sl 2 0 0, .nil, .nil, .mp 0]) Z Z Z Z (fun i j hi hj => by
  obtain rfl : i = 0 := Nat.lt_one_iff.1 hi
  have hj : j < 15 := hj
  match j, hj with
  | 0, _ => exact .inl rfl
  | 1, _ => exact .inl rfl
  | 2, _ => exact .inl rfl
  | 3, _ => exact .inl rfl
  | 4, _ => exact .inl rfl
  | 5, _ => exact .inl rfl
  | 6, _ => exact .inl rfl
  | 7, _ => exact .inl rfl
  | 8, _ => exact .inl rfl
  | 9, _ => exact .inl rfl
  | 10, _ => exact .inl rfl
  | 11, _ => exact .inr ⟨rfl, rfl⟩
  | 12, _ => exact .inl rfl
  | 13, _ => exact .inl rfl
  | 14, _ => exact .inl rfl) ?_
 refine zDW 1 ⟨23, zDK []⟩ (.box [.str r.name, .int .i64 r.w, .int .i64 r.h, .ro (zAb r.pcs) 0 r.pcs.length, zt r.start, .bool r.falls, .bool r.keeps, .ro (zEz r.ends) 0 r.ends.length, .int .i64 r.blocked, .int .i64 r.quiet, .int .i64 r.rep, .sl 2 0 0, .sl 3 0 0, .nil, .mp 0]) Z Z Z Z (fun i j hi hj => by
  obtain rfl : i = 0 := Nat.lt_one_iff.1 hi
  have hj : j < 15 := hj
  match j, hj with
  | 0, _ => exact .inl rfl
  | 1, _ => exact .inl rfl
  | 2, _ => exact .inl rfl
  | 3, _ => exact .inl rfl
  | 4, _ => exact .inl rfl
  | 5, _ => exact .inl rfl
  | 6, _ => exact .inl rfl
  | 7, _ => exact .inl rfl
  | 8, _ => exact .inl rfl
  | 9, _ => exact .inl rfl
  | 10, _ => exact .inl rfl
  | 11, _ => exact .inl rfl
  | 12, _ => exact .inr ⟨rfl, rfl⟩
  | 13, _ => exact .inl rfl
  | 14, _ => exact .inl rfl) ?_
 refine zAh (zEm r [] []) Z ?_
 have nofix : ∀ (h n : Nat), c.fix h → h < n := fun h n q => by rw [hfix] at q; exact q.elim
 refine zCR (zEm r [] []) [] [(4, .rp (.box (poC (zBL r))) 0 0), (6, .ptr 1 0 0)] Z ⟨Z, Z, trivial⟩ (fun h q => nofix h _ q) (zFL _ _ _) Z ?_
 refine rn6 ?_
 refine zEs 2 Z Z Z (add0_ok r hv [] [] (zBL r) (zEv hv) (fun q hq => absurd hq (by simp)) (Nat.zero_le _)) (fun h q1 q2 => ⟨q1, q2⟩) (fun h q => q.1) (by rw [hfix]; exact fun h => h) ?_
 rintro v H ⟨rfl, rfl⟩
 refine ⟨Nat.le_refl _, ?_⟩
 refine rn1 ?_
 refine zx (ι := Nat × List Pos × List (List Nat)) (fun x => [(6, .ptr 1 0 0), (7, iN x.1)]) (fun x => zEm r x.2.1 x.2.2) (fun x => Grown r x.1 x.2.1 x.2.2 ∧ Go.Ax.Gm.grow r (3001 - x.1) x.1 x.2.1 x.2.2 = zEF r) (fun x => 3001 - x.1) (0, [zBL r], []) ⟨⟨Z, Z, trivial⟩, Z, zHG hv, Z⟩ ?_
 rintro ⟨i, l, nx⟩ ⟨G, hg⟩
 have G : Grown r i l nx := G
 have hg : Go.Ax.Gm.grow r (3001 - i) i l nx = zEF r := hg
 change Ax _ _ _ _ [(6, .ptr 1 0 0), (7, iN i)] (zEm r l nx)
 have hmost := G.most
 have hle := G.le
 repeat (first | refine zA (zH rfl) ?_ | refine zC ?_ | refine zB ?_ | refine zX ?_ | refine zK rfl ?_ | refine zA (zU rfl rfl rfl rfl rfl) ?_ | refine zA (zCB rfl rfl) ?_ | refine zA (zBD rfl rfl rfl) ?_ | refine zA (zY rfl) ?_ | refine zA (zM rfl rfl rfl rfl rfl rfl) ?_)
 refine zF Z (fun q => ?_) (fun q => ?_)
 ·have hi : i < l.length := by omega
  have S := (G.snd (l.getD i zj) (by
   rw [show l.getD i zj = l[i] by simp [List.getD, hi]]
   exact List.getElem_mem hi)).1
  have hml := zG0 hv S
  refine rn20 ?_
  refine zK Z ?_
  refine zAn ?_
  refine zBZ 8 ⟨3, .ints .i64 []⟩ Z Z ?_
  refine zAh (zIc r l nx []) Z ?_
  skip
  refine ze (by kernel_rfl) ?_
  refine zm (fuel := 0) [0, 1, 2, 3, 4, 5, 6, 7, 8, 9, 10, 11, 12, 13] [(6, .ptr 1 0 0), (7, iN i), (8, .sl 4 0 0)] ⟨Z, Z, Z, trivial⟩ (by kernel_rfl) (by decide) Z Z ?_
  refine zJ Z Z (zH Z) ?_
  refine zJ Z Z (zY Z) ?_
  refine zJ Z Z (zM Z Z Z Z Z Z) ?_
  refine zJ Z Z (qpp Z Z Z Z Z Z Z) ?_
  refine zJ Z Z (zH Z) ?_
  refine zJ Z Z (zY Z) ?_
  refine zJ Z Z (zM Z Z Z Z Z Z) ?_
  refine zJ Z Z (zU Z Z Z Z Z) ?_
  refine zJ Z Z (zH Z) ?_
  refine zJ Z Z (zi Z Z Z Z Z (by first | (simp only [Nat.zero_add, Int.toNat_natCast, Int.toNat_zero]; exact Z) | exact Z) (by omega)) ?_
  refine zJ Z Z (qpp Z Z Z Z Z Z Z) ?_
  refine zCW Z Z Z Z Z (zHD r hv (l.getD i zj) S) ?_
  refine zJ Z Z (zBD Z Z Z) ?_
  refine zJ Z Z (zH Z) ?_
  refine zAA ?_
  refine zZ (by kernel_rfl) ?_
  refine rn1 ?_
  have hok : ∀ m ∈ zAs r (l.getD i zj), MvOK r (l.getD i zj) m ∧ Sound r (zAK r (l.getD i zj) m) := fun m hm => ⟨zGV hv S hm, zEX hv S (zGV hv S hm)⟩
  have hstep := fun l' ix (h : zCI r (l.getD i zj) (zAs r (l.getD i zj)) l [] = some (l', ix)) => zH0 G hi (fun m hm => (hok m hm).2) h
  have hgN : zCI r (l.getD i zj) (zAs r (l.getD i zj)) l [] = none → ∀ f, Go.Ax.Gm.grow r (f + 1) i l nx = none := fun a f => by rw [Go.Ax.Gm.grow, if_pos hi, a]
  have hgS : ∀ x, zCI r (l.getD i zj) (zAs r (l.getD i zj)) l [] = some x → ∀ f, Go.Ax.Gm.grow r (f + 1) i l nx = Go.Ax.Gm.grow r f (i + 1) x.1 (nx ++ [x.2]) := fun x a f => by rw [Go.Ax.Gm.grow, if_pos hi, a]
  generalize hms : zAs r (l.getD i zj) = ms at hok hstep hgN hgS hml
  refine zx (ι := Nat × List Pos × List Nat) (fun x => [(6, .ptr 1 0 0), (7, iN i), (8, .sl 4 0 x.2.2.length), (50, zBX ms), (51, iN ms.length), (52, iN x.1)]) (fun x => zIc r x.2.1 nx (x.2.2.map Int.ofNat)) (fun x => x.1 ≤ ms.length ∧ zCI r (l.getD i zj) (ms.drop x.1) x.2.1 x.2.2 = zCI r (l.getD i zj) ms l [] ∧ l <+: x.2.1 ∧ (∀ q ∈ x.2.1, Sound r q ∧ q.quiet = 0) ∧ x.2.1.length ≤ 3000 ∧ x.2.2.length = x.1) (fun x => ms.length - x.1) (0, l, []) ⟨⟨Z, Z, Z, Z, Z, Z, trivial⟩, Z, Nat.zero_le _, Z, List.prefix_refl _, G.snd, hmost, Z⟩ ?_
  rintro ⟨k, l', ix⟩ ⟨hk, ha, hpre, hsnd, hl3, hix⟩
  have hk : k ≤ ms.length := hk
  have ha : zCI r (l.getD i zj) (ms.drop k) l' ix = zCI r (l.getD i zj) ms l [] := ha
  have hpre : l <+: l' := hpre
  have hsnd : ∀ q ∈ l', Sound r q ∧ q.quiet = 0 := hsnd
  have hl3 : l'.length ≤ 3000 := hl3
  have hix : ix.length = k := hix
  change Ax _ _ _ _ [(6, .ptr 1 0 0), (7, iN i), (8, .sl 4 0 ix.length), (50, zBX ms), (51, iN ms.length), (52, iN k)] (zIc r l' nx (ix.map Int.ofNat))
  have hli : (ix.map Int.ofNat).length = ix.length := List.length_map ..
  refine rn4 ?_
  refine zF Z (fun q2 => ?_) (fun q2 => ?_)
  ·have hk' : k < ms.length := by omega
   have hd : ms.drop k = ms.getD k mv0 :: ms.drop (k + 1) := by rw [List.drop_eq_getElem_cons hk', zCj mv0 hk']
   have hm := hok (ms.getD k mv0) (zAp mv0 hk')
   rw [hd, zCI] at ha
   have hpi : l'.getD i zj = l.getD i zj := zFC hpre hi
   have hi' : i < l'.length := Nat.lt_of_lt_of_le hi hpre.length_le
   rw [← hpi] at hm S
   generalize hmk : ms.getD k mv0 = m at ha hm
   refine zF6 ?_
   repeat (refine zAS rfl rfl rfl ?_)
   refine zW (mvC m) Z Z Z Z Z (by rw [← hmk]; rfl) Z ?_
   refine rn0 ?_
   refine zEP (zIc r l' nx (ix.map Int.ofNat)) 10 [(6, .ptr 1 0 0), (7, iN i), (8, .sl 4 0 ix.length), (50, zBX ms), (51, iN ms.length), (52, iN k)] Z Z ⟨Z, Z, Z, Z, Z, Z, trivial⟩ ⟨Z, Z, Z, Z, Z, Z, Z, trivial⟩ (zId _ _ _ _) Z (fun h q => nofix h _ q) ?_
   refine ze (by kernel_rfl) ?_
   refine zV 0 Z (by kernel_rfl) (by kernel_rfl) (by kernel_rfl) Z (zH Z) Z ?_
   refine zm (fuel := 4) [1, 2, 3, 4, 5, 6, 7, 8, 9, 10, 11, 12, 13, 14] [(56, .sl 4 0 ix.length), (10, .rp (.box (mvC m)) 0 0), (6, .ptr 1 0 0), (7, iN i), (8, .sl 4 0 ix.length), (50, zBX ms), (51, iN ms.length), (52, iN k)] ⟨Z, Z, Z, Z, Z, Z, Z, Z, trivial⟩ (by kernel_rfl) (by decide) Z Z ?_
   refine zJ Z Z (zH Z) ?_
   refine zJ Z Z (zH Z) ?_
   refine zJ Z Z (zY Z) ?_
   refine zJ Z Z (zM Z Z Z Z Z Z) ?_
   refine zJ Z Z (qpp Z Z Z Z Z Z Z) ?_
   refine zJ Z Z (zH Z) ?_
   refine zJ Z Z (zY Z) ?_
   refine zJ Z Z (zM Z Z Z Z Z Z) ?_
   refine zJ Z Z (zU Z Z Z Z Z) ?_
   refine zJ Z Z (zH Z) ?_
   refine zJ Z Z (zi Z Z Z Z Z (by first | (simp only [Nat.zero_add, Int.toNat_natCast, Int.toNat_zero]; exact Z) | exact Z) (by omega)) ?_
   refine zJ Z Z (qpp Z Z Z Z Z Z Z) ?_
   refine zJ Z Z (zAE Z Z Z Z Z Z) ?_
   refine zCW Z Z Z Z Z (zLx r hv (l'.getD i zj) S m hm.1) ?_
   refine zAA ?_
   refine zG (is := [15]) (by kernel_rfl) (by simp) Z ⟨fun o ho => ?_, trivial⟩
   all_goals (cases ho)
   refine zEs 2 Z Z Z (add_ok r hv l' nx (ix.map Int.ofNat) (zAK r (l'.getD i zj) m) hm.2 hsnd (by omega)) (fun h q1 q2 => ⟨q1, q2⟩) (fun h q => q.1) (by rw [hfix]; exact fun h => h) ?_
   rintro v H ⟨rfl, rfl⟩
   refine ⟨Nat.le_refl _, ?_⟩
   rw [hpi]
   generalize hP : zAK r (l.getD i zj) m = P at ha hm
   have hadd := zLh l' P
   refine rn1 ?_
   refine zG (is := [16]) (by kernel_rfl) (by simp) Z ⟨fun o ho => ?_, trivial⟩
   all_goals (cases ho)
   refine rn3 ?_
   refine zG (is := [17]) (by kernel_rfl) (by simp) Z ⟨fun o ho => ?_, trivial⟩
   all_goals (cases ho)
   refine zAe Z Z Z Z Z Z Z Z Z hli Z Z (by show 0 + 1 ≤ 1; omega) Z (by show (ix.length + 1) * 8 ≤ _ ∧ _; omega) (fun i j _ _ => rfl) (by rw [hfix]; exact fun h => h) ?_
   refine zAj (zIc r (zCe l' P) nx ((ix ++ [zAg l' P]).map Int.ofNat)) ?_ ?_
   ·show [some (AObj.mk _ ((Cells.mp _ _).forget 4)), some (AObj.mk _ ((Cells.box _).forget 4)), some (AObj.mk _ ((zCz _).forget 4)), some (AObj.mk _ ((zDK nx).forget 4)), _] = _
    rw [zDp, zCD (fun a j => zDr a j 4), zCD (fun a j => zDu a j 4)]
    show _ = [_, _, _, _, some (AObj.mk _ (Cells.ints .i64 ((ix ++ [zAg l' P]).map Int.ofNat)))]
    rw [List.map_append]; rfl
   refine rn1 ?_
   refine zG (is := [18]) (by kernel_rfl) (by simp) Z ⟨fun o ho => ?_, trivial⟩
   all_goals (cases ho)
   refine rn1 ?_
   refine zZ (by kernel_rfl) ?_
   refine rn15 ?_
   refine zF Z (fun g => ?_) (fun g => ?_)
   ·rw [if_pos (by omega)] at ha
    have hN : zEF r = none := by
     rw [← hg, show 3001 - i = (3000 - i) + 1 by omega]
     exact hgN ha.symm _
    refine rn6 ?_
    refine zN hR Z ?_
    show _ = AV.tup [zE9 r, .int .i64 (zDE r)]
    rw [(hnone hN).1, (hnone hN).2]; rfl
   ·rw [if_neg (by omega)] at ha
    have hmP : Sound r P := by rw [← hP, ← hpi]; exact hm.2
    refine rn5 ?_
    refine zS ⟨(k + 1, zCe l' P, ix ++ [zAg l' P]), ⟨by show k + 1 ≤ ms.length; omega, ha, hpre.trans (zLi l' P), zIw hmP hsnd, by show (zCe l' P).length ≤ 3000; omega, by show (ix ++ [zAg l' P]).length = k + 1; rw [List.length_append, hix]; rfl⟩, by show ms.length - (k + 1) < ms.length - k; omega, ⟨Z, Z, ?_, Z, Z, Z, trivial⟩, Z⟩
    show some (AV.sl 4 0 (ix.length + 1)) = some (AV.sl 4 0 (ix ++ [zAg l' P]).length)
    rw [List.length_append]; rfl
  ·have hk' : k = ms.length := by omega
   subst hk'
   rw [List.drop_length, zCI] at ha
   have ha := ha.symm
   refine zAn ?_
   refine zCf 4 8 ix.length [(6, .ptr 1 0 0), (7, iN i)] Z zAP Z (by show ix.length ≤ (ix.map Int.ofNat).length; rw [hli]; exact Nat.le_refl _) ⟨Z, Z, trivial⟩ ?_
   have hnl : (nx ++ [ix]).length = nx.length + 1 := by rw [List.length_append]; rfl
   have hnx : nx.length ≤ 3000 := by have := G.len; omega
   refine zK Z ?_
   repeat (first | refine zA (zH rfl) ?_ | refine zA (zU rfl rfl rfl rfl rfl) ?_ | refine zA (zY rfl) ?_ | refine zA (zM rfl rfl rfl rfl rfl rfl) ?_ | refine zAC rfl rfl rfl rfl rfl rfl rfl rfl rfl rfl rfl ?_)
   refine zBQ [ix] Z Z Z Z Z Z Z Z Z Z Z Z Z (by show 0 + 1 ≤ 1; omega) (fun k' j hk' hj => ?_) (by show (nx.length + 1) * 24 ≤ _ ∧ _; omega) (fun a j k _ => zDu a j k) (by rw [hfix]; exact fun h => h) ?_
   ·obtain rfl : k' = 0 := Nat.lt_one_iff.1 hk'
    obtain rfl : j = 0 := Nat.lt_one_iff.1 hj
    show AV.ro (Cells.ints .i64 (List.map Int.ofNat ix)) 0 ix.length = AV.ro (Cells.ints .i64 (List.map Int.ofNat ix)) 0 (List.map Int.ofNat ix).length
    rw [hli]
   refine zAj [some ⟨95, .mp (zB9 l') (zCb l'.length)⟩, some ⟨97, .box ((tbC r l'.length nx.length .nil).set 12 .any)⟩, some ⟨35, zCz l'⟩, some ⟨23, zDK (nx ++ [ix])⟩, none] ?_ ?_
   ·show [some (AObj.mk _ ((Cells.mp _ _).forget 3)), some (AObj.mk _ ((Cells.box _).forget 3)), some (AObj.mk _ ((zCz _).forget 3)), some (AObj.mk _ (zDK (nx ++ [ix]))), none] = _
    rw [zDp, zCD (fun a j => zDr a j 3)]; rfl
   repeat (first | refine zC ?_ | refine zAM ?_ | refine zA (zY rfl) ?_ | refine zA (zM rfl rfl rfl rfl rfl rfl) ?_ | refine zAJ rfl rfl rfl rfl rfl rfl rfl Nat.zero_lt_one ?_)
   refine zB ?_
   refine zAh (zEm r l' (nx ++ [ix]) ++ [none]) (by show _ = [_, some (AObj.mk _ (.box (tbC r l'.length (nx ++ [ix]).length .nil))), _, _, _]; rw [hnl]; rfl) ?_
   refine zCR (zEm r l' (nx ++ [ix])) [none] [(6, .ptr 1 0 0), (7, iN i)] Z ⟨Z, Z, trivial⟩ (fun h q => nofix h _ q) (zFL _ _ _) Z ?_
   refine rn3 ?_
   refine zS ⟨(i + 1, l', nx ++ [ix]), ⟨hstep l' ix ha, ?_⟩, by show 3001 - (i + 1) < 3001 - i; omega, ⟨Z, Z, trivial⟩, Z⟩
   show Go.Ax.Gm.grow r (3001 - (i + 1)) (i + 1) l' (nx ++ [ix]) = zEF r
   rw [← hg, show 3001 - i = (3001 - (i + 1)) + 1 by omega]
   exact (hgS (l', ix) ha _).symm
 ·have hi : i = l.length := by omega
  subst hi
  have hN : zEF r = some (l, nx) := by
   rw [← hg]
   cases 3001 - l.length with
   | zero => rfl
   | succ f => rw [Go.Ax.Gm.grow, if_neg (Nat.lt_irrefl _)]
  refine zAn ?_
  refine zA3 [some ⟨95, .mp (zB9 l) (zCb l.length)⟩, none, some ⟨35, zCz l⟩, some ⟨23, zDK nx⟩] [none, some ⟨97, .box (tbF r l nx .nil)⟩, none, none] [(6, .ptr 1 0 0)] ?_ (zCM (zJj l _) (zCN (zCM (zKk l) (zCM (zJw nx) zCp)))) Z ?_ ⟨⟨.ptr 1 0 0, Z, .inl Z⟩, trivial⟩ ?_
  ·intro h o ho
   match h, ho with
   | 0, ho => exact ho
   | 1, ho => simp at ho
   | 2, ho => exact ho
   | 3, ho => exact ho
   | _ + 4, ho => simp at ho
  ·intro h o ho
   match h, ho with
   | 0, ho => simp at ho
   | 1, ho =>
    cases ho
    refine ⟨fun o h => by simp at h, _, Z, Z, Z, Z, fun i j hi hj => ?_⟩
    obtain rfl : i = 0 := Nat.lt_one_iff.1 hi
    have hj : j < 15 := hj
    match j, hj with
    | 0, _ => exact .inl rfl
    | 1, _ => exact .inl rfl
    | 2, _ => exact .inl rfl
    | 3, _ => exact .inl rfl
    | 4, _ => exact .inl rfl
    | 5, _ => exact .inl rfl
    | 6, _ => exact .inl rfl
    | 7, _ => exact .inl rfl
    | 8, _ => exact .inl rfl
    | 9, _ => exact .inl rfl
    | 10, _ => exact .inl rfl
    | 11, _ => exact .inr (.inr ⟨rfl, fun o ho => by cases ho; show 0 + l.length ≤ l.length; omega⟩)
    | 12, _ => exact .inr (.inr ⟨rfl, fun o ho => by cases ho; show 0 + nx.length ≤ nx.length; omega⟩)
    | 13, _ => exact .inl rfl
    | 14, _ => exact .inr (.inr ⟨rfl, trivial⟩)
   | 2, ho => simp at ho
   | 3, ho => simp at ho
   | _ + 4, ho => simp at ho
  refine zCR [none, some ⟨97, .box (tbF r l nx .nil)⟩] [none, none] [(6, .ptr 1 0 0)] Z ⟨Z, trivial⟩ (fun h q => nofix h _ q) (bl_n (zCF (zHn Z) zBr)) Z ?_
  have hmem : ∀ i, i < l.length → Sound r (l.getD i zj) := fun i hi => by
   rw [show l.getD i zj = l[i] by simp [List.getD, hi]]
   exact (G.snd _ (List.getElem_mem hi)).1
  have hP : SolveP r l nx := ⟨hv, hmost, hmem, G.len, fun i hi => by
   have h1 := G.nxl i hi
   have h2 := zG0 hv (hmem i hi)
   omega, fun i hi k hk => by
   obtain ⟨j, hj, rfl⟩ := List.mem_iff_getElem.1 hk
   have h1 := G.nxl i hi
   have := (G.nxt i hi j (by omega)).1
   rwa [Go.Ax.Gm.get_at (nx.getD i []) hj] at this⟩
  refine rn0 ?_
  refine zC4 Z Z Z (solve_ok r l nx hP) (fun h q => q) (fun h q => q) ?_
  rintro v H ⟨rfl, N, hN2, rfl⟩
  have hE2 : zBs (zb l nx (z6 r l) N) = (zFK r (l, nx)).E := new_ent (x := (l, nx)) G hN2
  rw [hE2]
  generalize hEE : (zFK r (l, nx)).E = E
  refine zAn ?_
  refine zA3 [none, none, none, some ⟨37, zBB E⟩] [none, some ⟨97, .box (tbF r l nx (.ro (zBB E) 0 E.length))⟩, none, none] [(6, .ptr 1 0 0)] ?_ (zCN (zCN (zCN (zCM (zGM E) zCp)))) Z ?_ ⟨⟨.ptr 1 0 0, Z, .inl Z⟩, trivial⟩ ?_
  ·intro h o ho
   match h, ho with
   | 0, ho => simp at ho
   | 1, ho => simp at ho
   | 2, ho => simp at ho
   | 3, ho => exact ho
   | _ + 4, ho => simp at ho
  ·intro h o ho
   match h, ho with
   | 0, ho => simp at ho
   | 1, ho =>
    cases ho
    refine ⟨fun o h => by simp at h, _, Z, Z, Z, Z, fun i j hi hj => ?_⟩
    obtain rfl : i = 0 := Nat.lt_one_iff.1 hi
    have hj : j < 15 := hj
    match j, hj with
    | 0, _ => exact .inl rfl
    | 1, _ => exact .inl rfl
    | 2, _ => exact .inl rfl
    | 3, _ => exact .inl rfl
    | 4, _ => exact .inl rfl
    | 5, _ => exact .inl rfl
    | 6, _ => exact .inl rfl
    | 7, _ => exact .inl rfl
    | 8, _ => exact .inl rfl
    | 9, _ => exact .inl rfl
    | 10, _ => exact .inl rfl
    | 11, _ => exact .inl rfl
    | 12, _ => exact .inl rfl
    | 13, _ => exact .inr (.inr ⟨rfl, fun o ho => by cases ho; show 0 + E.length ≤ E.length; omega⟩)
    | 14, _ => exact .inl rfl
   | 2, ho => simp at ho
   | 3, ho => simp at ho
   | _ + 4, ho => simp at ho
  refine zCR [none, some ⟨97, .box (tbF r l nx (.ro (zBB E) 0 E.length))⟩] [none, none] [(6, .ptr 1 0 0)] Z ⟨Z, trivial⟩ (fun h q => nofix h _ q) (bl_n (zCF (zHn Z) zBr)) Z ?_
  refine zEP [none] 6 [] Z Z trivial ⟨Z, trivial⟩ (bl_n zBr) Z (fun h q => nofix h _ q) ?_
  refine rn0 ?_
  refine zN hR Z ?_
  show _ = AV.tup [zE9 r, .int .i64 (zDE r)]
  rw [(hsome _ hN).1, (hsome _ hN).2]
  show _ = AV.tup [.rp (.box (tbF r l nx (.ro (zBB (zFK r (l, nx)).E) 0 (zFK r (l, nx)).E.length))) 0 0, .int .i64 0]
  rw [hEE]; rfl
/-- retro.New -/
theorem zJp (r : Go.Ax.Gm.Rules) (hr : Lens r) : zl Tryz.prog 48 [ruA r] (.tup [zE9 r, .int .i64 (zDE r)]) := by
 by_cases h : zAk r = 0
 ·by_cases hq : r.quiet = 0
  ·exact new_run r hr h hq
  ·have e : zDE r = 1 := by unfold zDE; rw [if_neg (fun c => c h), if_pos hq]
   have e2 : zE9 r = .nilp := by unfold zE9; rw [e, if_pos (by decide)]
   rw [e, e2]; exact zMh r hr h hq
 ·have e : zDE r = zAk r := by unfold zDE; rw [if_pos h]
  have e2 : zE9 r = .nilp := by unfold zE9; rw [e, if_pos h]
  rw [e, e2]; exact new_no r hr h
/-- the zero position has empty rows -/
theorem zIy {P : Program} {fn : Func} {c : Ctx} {fr : Fr} {H : zO} {k : List It} {x : Code} {ty : TypeId} (h : Nat) (hh : H[h]? = some (some ⟨ty, .box poZ⟩)) (hk : Ax P fn c (.code x k) fr (H.set h (some ⟨ty, .box (poC zj)⟩))) : Ax P fn c (.code x k) fr H := by
 have hlt : h < H.length := (List.getElem?_eq_some_iff.1 hh).1
 refine zJ9 (H.set h (some ⟨ty, .box (poC zj)⟩)) (List.length_set ..) (fun h' o ho => ?_) hk
 by_cases e : h' = h
 ·subst e
  rw [List.getElem?_set_self hlt] at ho
  cases ho
  refine ⟨_, hh, Z, Z, Z, fun i j hi hj => ?_⟩
  obtain rfl : i = 0 := Nat.lt_one_iff.1 hi
  have hj : j < 5 := hj
  match j, hj with
  | 0, _ => exact AEq.nil
  | 1, _ => exact AEq.nil
  | 2, _ => exact AEq.nil
  | 3, _ => exact AEq.rfl'
  | 4, _ => exact AEq.rfl'
 ·rw [List.getElem?_set_ne (Ne.symm e)] at ho
  exact ⟨o, ho, Z, Z, Z, fun _ _ _ _ => AEq.rfl'⟩
/-- (*retro.Table).Size -/
theorem zGh (T : Tab) : zl Tryz.prog 18 [zCt T] (iN T.l.length) := by
 refine zd.value0 (zL (P := Tryz.prog) (fn := Tryz.f18) Z Z (by kernel_rfl) Z (fun c hR hfix => ?_)) (fix := fun _ => False) (fun _ h => h) Z Z
 repeat (first | refine zA (zH rfl) ?_ | refine zA (zP rfl) ?_ | refine zC ?_ | refine zB ?_ | refine zX ?_ | refine zK rfl ?_ | refine zAB ?_ | refine zA (zBD rfl rfl rfl) ?_ | refine zA (zD rfl rfl rfl rfl) ?_ | refine zA (zAF rfl) ?_ | refine zA (zI rfl rfl rfl rfl rfl rfl) ?_)
 exact zN hR Z Z
def atE (T : Tab) (i : Int) : Int := if i < 0 ∨ (T.l.length : Int) ≤ i then 4 else 0
def atP (T : Tab) (i : Int) : Pos := if atE T i ≠ 0 then zj else T.l.getD i.toNat zj
def atX (T : Tab) (i : Int) : Ent := if atE T i ≠ 0 then (0, 0) else zAI T i.toNat
theorem zFb {T : Tab} (h : TabOK T) {i : Nat} (hi : i < T.l.length) : SmallP (T.l.getD i zj) := zAu h.v (h.sound hi).1
/-- (*retro.Table).At -/
theorem at_ok (T : Tab) (h : TabOK T) (i : Int) : zl Tryz.prog 17 [zCt T, .int .i64 i] (.tup [poA (atP T i), entA (atX T i), .int .i64 (atE T i)]) := by
 refine zd.value0 (zL (P := Tryz.prog) (fn := Tryz.f17) Z Z (by kernel_rfl) Z (fun c hR hfix => ?_)) (fix := fun _ => False) (fun _ h => h) Z Z
 have hEl := h.len
 have hmost := h.G.most
 by_cases hi : i < 0 ∨ (T.l.length : Int) ≤ i
 ·have e : atE T i = 4 := by unfold atE; rw [if_pos hi]
  have e1 : atP T i = zj := by unfold atP; rw [e, if_pos (by decide)]
  have e2 : atX T i = (0, 0) := by unfold atX; rw [e, if_pos (by decide)]
  rw [e, e1, e2] at hR
  refine rn4 ?_
  refine zh Z Z (fun g => ?_) (fun g => ?_)
  ·refine rn18 ?_
   refine zW poZ Z Z Z Z Z Z Z ?_
   skip
   refine zW (zBg (0, 0)) Z Z Z Z Z Z Z ?_
   refine rn7 ?_
   refine zIy 0 Z ?_
   refine rn2 ?_
   exact zN hR Z Z
  ·repeat (first | refine zA (zH rfl) ?_ | refine zC ?_ | refine zB ?_ | refine zo rfl rfl ?_ | refine zA (zDs rfl rfl) ?_ | refine zA (zf rfl rfl) ?_ | refine zA (zBD rfl rfl rfl) ?_ | refine zA (zD rfl rfl rfl rfl) ?_ | refine zA (zAF rfl) ?_ | refine zA (zI rfl rfl rfl rfl rfl rfl) ?_)
   refine zF Z (fun q => ?_) (fun q => absurd q (by omega))
   refine rn8 ?_
   refine zW poZ Z Z Z Z Z Z Z ?_
   skip
   refine zW (zBg (0, 0)) Z Z Z Z Z Z Z ?_
   refine rn7 ?_
   refine zIy 0 Z ?_
   refine rn2 ?_
   exact zN hR Z Z
 ·have e : atE T i = 0 := by unfold atE; rw [if_neg hi]
  have e1 : atP T i = T.l.getD i.toNat zj := by unfold atP; rw [e, if_neg (by decide)]
  have e2 : atX T i = zAI T i.toNat := by unfold atX; rw [e, if_neg (by decide)]
  rw [e, e1, e2] at hR
  obtain ⟨n, rfl⟩ : ∃ n : Nat, i = (n : Int) := ⟨i.toNat, by omega⟩
  rw [Int.toNat_natCast] at hR
  have hn : n < T.l.length := by omega
  repeat (first | refine zA (zH rfl) ?_ | refine zA (zP rfl) ?_ | refine zC ?_ | refine zB ?_ | refine zX ?_ | refine zK rfl ?_ | refine zo rfl rfl ?_ | refine zA (zCB rfl rfl) ?_ | refine zA (zDs rfl rfl) ?_ | refine zA (zf rfl rfl) ?_ | refine zA (zBD rfl rfl rfl) ?_ | refine zA (zD rfl rfl rfl rfl) ?_ | refine zA (zAF rfl) ?_ | refine zA (zI rfl rfl rfl rfl rfl rfl) ?_ | refine zAS rfl rfl rfl ?_)
  refine zF Z (fun q => ?_) (fun q => ?_)
  ·exact absurd q (by omega)
  refine rn1 ?_
  refine ze (by kernel_rfl) ?_
  refine zV 0 Z (by kernel_rfl) (by kernel_rfl) (by kernel_rfl) Z (zH Z) Z ?_
  refine zV 1 Z (by kernel_rfl) (by kernel_rfl) (by kernel_rfl) Z (zAF Z) Z ?_
  refine zV 2 Z (by kernel_rfl) (by kernel_rfl) (by kernel_rfl) Z (zI Z Z Z Z Z Z) Z ?_
  refine zV 4 Z (by kernel_rfl) (by kernel_rfl) (by kernel_rfl) Z (zH Z) Z ?_
  refine zV 8 Z (by kernel_rfl) (by kernel_rfl) (by kernel_rfl) Z (zH Z) Z ?_
  refine zV 9 Z (by kernel_rfl) (by kernel_rfl) (by kernel_rfl) Z (zAF Z) Z ?_
  refine zV 10 Z (by kernel_rfl) (by kernel_rfl) (by kernel_rfl) Z (zI Z Z Z Z Z Z) Z ?_
  refine zV 12 Z (by kernel_rfl) (by kernel_rfl) (by kernel_rfl) Z (zH Z) Z ?_
  apply zR (H := [some ⟨35, .box (poC (T.l.getD n zj))⟩, some ⟨37, .box (zBg (0, 0))⟩]) [(4, .ptr 0 0 0), (5, .ptr 1 0 0), (34, entA (zAI T n))]
  ·intro f42
   apply zR (H := [some ⟨35, .box poZ⟩, some ⟨37, .box (zBg (0, 0))⟩]) [(4, .ptr 0 0 0), (5, .ptr 1 0 0), (27, poA (T.l.getD n zj)), (34, entA (zAI T n))]
   ·intro f32
    apply zR (H := [some ⟨35, .box (poC (T.l.getD n zj))⟩, some ⟨37, .box (zBg (0, 0))⟩]) [(4, .ptr 0 0 0), (5, .ptr 1 0 0), (33, .rp (zBB T.E) n 0)]
    ·intro f41
     apply zR (H := [some ⟨35, .box poZ⟩, some ⟨37, .box (zBg (0, 0))⟩]) [(4, .ptr 0 0 0), (5, .ptr 1 0 0), (26, poA (T.l.getD n zj)), (34, entA (zAI T n))]
     ·intro f22
      apply zR (H := [some ⟨35, .box poZ⟩, some ⟨37, .box (zBg (0, 0))⟩]) [(4, .ptr 0 0 0), (5, .ptr 1 0 0), (27, poA (T.l.getD n zj)), (33, .rp (zBB T.E) n 0)]
      ·intro f31
       apply zR (H := [some ⟨35, .box (poC (T.l.getD n zj))⟩, some ⟨37, .box (zBg (0, 0))⟩]) [(4, .ptr 0 0 0), (5, .ptr 1 0 0), (30, .rp (.box (tbF T.r T.l T.nx (.ro (zBB T.E) 0 T.E.length))) 0 13), (32, iN n)]
       ·intro f40
        apply zR (H := [some ⟨35, .box poZ⟩, some ⟨37, .box (zBg (0, 0))⟩]) [(4, .ptr 0 0 0), (5, .ptr 1 0 0), (25, .rp (zCz T.l) n 0), (34, entA (zAI T n))]
        ·intro f12
         apply zR (H := [some ⟨35, .box poZ⟩, some ⟨37, .box (zBg (0, 0))⟩]) [(4, .ptr 0 0 0), (5, .ptr 1 0 0), (26, poA (T.l.getD n zj)), (33, .rp (zBB T.E) n 0)]
         ·intro f21
          apply zR (H := [some ⟨35, .box poZ⟩, some ⟨37, .box (zBg (0, 0))⟩]) [(4, .ptr 0 0 0), (5, .ptr 1 0 0), (27, poA (T.l.getD n zj)), (30, .rp (.box (tbF T.r T.l T.nx (.ro (zBB T.E) 0 T.E.length))) 0 13), (32, iN n)]
          ·intro f30
           apply zR (H := [some ⟨35, .box poZ⟩, some ⟨37, .box (zBg (0, 0))⟩]) [(4, .ptr 0 0 0), (5, .ptr 1 0 0), (22, .rp (.box (tbF T.r T.l T.nx (.ro (zBB T.E) 0 T.E.length))) 0 11), (24, iN n), (34, entA (zAI T n))]
           ·intro f02
            apply zR (H := [some ⟨35, .box poZ⟩, some ⟨37, .box (zBg (0, 0))⟩]) [(4, .ptr 0 0 0), (5, .ptr 1 0 0), (25, .rp (zCz T.l) n 0), (33, .rp (zBB T.E) n 0)]
            ·intro f11
             apply zR (H := [some ⟨35, .box poZ⟩, some ⟨37, .box (zBg (0, 0))⟩]) [(4, .ptr 0 0 0), (5, .ptr 1 0 0), (26, poA (T.l.getD n zj)), (30, .rp (.box (tbF T.r T.l T.nx (.ro (zBB T.E) 0 T.E.length))) 0 13), (32, iN n)]
             ·intro f20
              apply zR (H := [some ⟨35, .box poZ⟩, some ⟨37, .box (zBg (0, 0))⟩]) [(4, .ptr 0 0 0), (5, .ptr 1 0 0), (22, .rp (.box (tbF T.r T.l T.nx (.ro (zBB T.E) 0 T.E.length))) 0 11), (24, iN n), (33, .rp (zBB T.E) n 0)]
              ·intro f01
               apply zR (H := [some ⟨35, .box poZ⟩, some ⟨37, .box (zBg (0, 0))⟩]) [(4, .ptr 0 0 0), (5, .ptr 1 0 0), (25, .rp (zCz T.l) n 0), (30, .rp (.box (tbF T.r T.l T.nx (.ro (zBB T.E) 0 T.E.length))) 0 13), (32, iN n)]
               ·intro f10
                refine zG (is := [3, 11]) (by kernel_rfl) (by simp) Z ⟨fun o ho => ?_, fun o ho => ?_, trivial⟩
                all_goals (cases ho)
                ·repeat (first | refine zC ?_ | refine zT ?_ | refine zA (zD rfl rfl rfl rfl) ?_)
                 refine zV 5 Z (by kernel_rfl) (by kernel_rfl) (by kernel_rfl) Z (zg Z Z Z Z (by first | (simp only [Nat.zero_add, Int.toNat_natCast, Int.toNat_zero]; exact Z) | exact Z) (by omega)) Z ?_
                 exact f10 _ ⟨Z, Z, Z, Z, Z, trivial⟩
                ·repeat (first | refine zC ?_ | refine zT ?_ | refine zA (zD rfl rfl rfl rfl) ?_)
                 refine zV 13 Z (by kernel_rfl) (by kernel_rfl) (by kernel_rfl) Z (zg Z Z Z Z (by first | (simp only [Nat.zero_add, Int.toNat_natCast, Int.toNat_zero]; exact Z) | exact Z) (by omega)) Z ?_
                 exact f01 _ ⟨Z, Z, Z, Z, Z, trivial⟩
               ·refine zG (is := [6, 11]) (by kernel_rfl) (by simp) Z ⟨fun o ho => ?_, fun o ho => ?_, trivial⟩
                all_goals (cases ho)
                ·refine rn6 ?_
                 exact f20 _ ⟨Z, Z, Z, Z, Z, trivial⟩
                ·repeat (first | refine zC ?_ | refine zT ?_ | refine zA (zD rfl rfl rfl rfl) ?_)
                 refine zV 13 Z (by kernel_rfl) (by kernel_rfl) (by kernel_rfl) Z (zg Z Z Z Z (by first | (simp only [Nat.zero_add, Int.toNat_natCast, Int.toNat_zero]; exact Z) | exact Z) (by omega)) Z ?_
                 exact f11 _ ⟨Z, Z, Z, Z, trivial⟩
              ·refine zG (is := [3, 14]) (by kernel_rfl) (by simp) Z ⟨fun o ho => ?_, fun o ho => ?_, trivial⟩
               all_goals (cases ho)
               ·repeat (first | refine zC ?_ | refine zT ?_ | refine zA (zD rfl rfl rfl rfl) ?_)
                refine zV 5 Z (by kernel_rfl) (by kernel_rfl) (by kernel_rfl) Z (zg Z Z Z Z (by first | (simp only [Nat.zero_add, Int.toNat_natCast, Int.toNat_zero]; exact Z) | exact Z) (by omega)) Z ?_
                exact f11 _ ⟨Z, Z, Z, Z, trivial⟩
               ·refine rn6 ?_
                exact f02 _ ⟨Z, Z, Z, Z, Z, trivial⟩
             ·refine zG (is := [7, 11]) (by kernel_rfl) (by simp) Z ⟨fun o ho => ?_, fun o ho => ?_, trivial⟩
              all_goals (cases ho)
              ·refine zQ Z Z Z (zHv (T.l.getD n zj) (zFb h hn)) ?_
               refine rn1 ?_
               exact f30 _ ⟨Z, Z, Z, Z, Z, trivial⟩
              ·repeat (first | refine zC ?_ | refine zT ?_ | refine zA (zD rfl rfl rfl rfl) ?_)
               refine zV 13 Z (by kernel_rfl) (by kernel_rfl) (by kernel_rfl) Z (zg Z Z Z Z (by first | (simp only [Nat.zero_add, Int.toNat_natCast, Int.toNat_zero]; exact Z) | exact Z) (by omega)) Z ?_
               exact f21 _ ⟨Z, Z, Z, Z, trivial⟩
            ·refine zG (is := [6, 14]) (by kernel_rfl) (by simp) Z ⟨fun o ho => ?_, fun o ho => ?_, trivial⟩
             all_goals (cases ho)
             ·refine rn6 ?_
              exact f21 _ ⟨Z, Z, Z, Z, trivial⟩
             ·refine rn6 ?_
              exact f12 _ ⟨Z, Z, Z, Z, trivial⟩
           ·refine zG (is := [3]) (by kernel_rfl) (by simp) Z ⟨fun o ho => ?_, trivial⟩
            all_goals (cases ho)
            repeat (first | refine zC ?_ | refine zT ?_ | refine zA (zD rfl rfl rfl rfl) ?_)
            refine zV 5 Z (by kernel_rfl) (by kernel_rfl) (by kernel_rfl) Z (zg Z Z Z Z (by first | (simp only [Nat.zero_add, Int.toNat_natCast, Int.toNat_zero]; exact Z) | exact Z) (by omega)) Z ?_
            exact f12 _ ⟨Z, Z, Z, Z, trivial⟩
          ·refine zG (is := [11, 15]) (by kernel_rfl) (by simp) Z ⟨fun o ho => ?_, fun o ho => ?_, trivial⟩
           all_goals (cases ho)
           ·repeat (first | refine zC ?_ | refine zT ?_ | refine zA (zD rfl rfl rfl rfl) ?_)
            refine zV 13 Z (by kernel_rfl) (by kernel_rfl) (by kernel_rfl) Z (zg Z Z Z Z (by first | (simp only [Nat.zero_add, Int.toNat_natCast, Int.toNat_zero]; exact Z) | exact Z) (by omega)) Z ?_
            exact f31 _ ⟨Z, Z, Z, Z, trivial⟩
           ·refine zW (poC (T.l.getD n zj)) Z Z Z Z Z Z Z ?_
            refine rn1 ?_
            exact f40 _ ⟨Z, Z, Z, Z, trivial⟩
         ·refine zG (is := [7, 14]) (by kernel_rfl) (by simp) Z ⟨fun o ho => ?_, fun o ho => ?_, trivial⟩
          all_goals (cases ho)
          ·refine zQ Z Z Z (zHv (T.l.getD n zj) (zFb h hn)) ?_
           refine rn1 ?_
           exact f31 _ ⟨Z, Z, Z, Z, trivial⟩
          ·refine rn6 ?_
           exact f22 _ ⟨Z, Z, Z, Z, trivial⟩
        ·refine zG (is := [6]) (by kernel_rfl) (by simp) Z ⟨fun o ho => ?_, trivial⟩
         all_goals (cases ho)
         refine rn6 ?_
         exact f22 _ ⟨Z, Z, Z, Z, trivial⟩
       ·refine zG (is := [11]) (by kernel_rfl) (by simp) Z ⟨fun o ho => ?_, trivial⟩
        all_goals (cases ho)
        repeat (first | refine zC ?_ | refine zT ?_ | refine zA (zD rfl rfl rfl rfl) ?_)
        refine zV 13 Z (by kernel_rfl) (by kernel_rfl) (by kernel_rfl) Z (zg Z Z Z Z (by first | (simp only [Nat.zero_add, Int.toNat_natCast, Int.toNat_zero]; exact Z) | exact Z) (by omega)) Z ?_
        exact f41 _ ⟨Z, Z, Z, trivial⟩
      ·refine zG (is := [14, 15]) (by kernel_rfl) (by simp) Z ⟨fun o ho => ?_, fun o ho => ?_, trivial⟩
       all_goals (cases ho)
       ·refine rn6 ?_
        exact f32 _ ⟨Z, Z, Z, Z, trivial⟩
       ·refine zW (poC (T.l.getD n zj)) Z Z Z Z Z Z Z ?_
        refine rn1 ?_
        exact f41 _ ⟨Z, Z, Z, trivial⟩
     ·refine zG (is := [7]) (by kernel_rfl) (by simp) Z ⟨fun o ho => ?_, trivial⟩
      all_goals (cases ho)
      refine zQ Z Z Z (zHv (T.l.getD n zj) (zFb h hn)) ?_
      refine rn1 ?_
      exact f32 _ ⟨Z, Z, Z, Z, trivial⟩
    ·refine zG (is := [14]) (by kernel_rfl) (by simp) Z ⟨fun o ho => ?_, trivial⟩
     all_goals (cases ho)
     refine rn6 ?_
     exact f42 _ ⟨Z, Z, Z, trivial⟩
   ·refine zG (is := [15]) (by kernel_rfl) (by simp) Z ⟨fun o ho => ?_, trivial⟩
    all_goals (cases ho)
    refine zW (poC (T.l.getD n zj)) Z Z Z Z Z Z Z ?_
    refine rn1 ?_
    exact f42 _ ⟨Z, Z, Z, trivial⟩
  refine zG (is := [16]) (by kernel_rfl) (by simp) Z ⟨fun o ho => ?_, trivial⟩
  all_goals (cases ho)
  refine zW (zBg (zAI T n)) Z Z Z Z Z Z Z ?_
  refine rn1 ?_
  refine zG (is := [17]) (by kernel_rfl) (by simp) Z ⟨fun o ho => ?_, trivial⟩
  all_goals (cases ho)
  refine rn1 ?_
  refine zZ (by kernel_rfl) ?_
  refine rn0 ?_
  exact zN hR Z Z
/-- (*retro.Table).find -/
theorem zLs (T : Tab) (h : TabOK T) (hr : Lens T.r) (p : Pos) (hp : LenP p) : zl Tryz.prog 57 [zCt T, poA p] (.tup [.int .i64 (if zBi T p ≠ 0 then 0 else ((zAg T.l p : Nat) : Int)), .int .i64 (zBi T p)]) := by
 refine zd.value0 (zL (P := Tryz.prog) (fn := Tryz.f57) Z Z (by kernel_rfl) Z (fun c hR hfix => ?_)) (fix := fun _ => False) (fun _ h => h) Z Z
 refine zX ?_
 repeat (first | refine zA (zP rfl) ?_ | refine zC ?_ | refine zB ?_ | refine zK rfl ?_ | refine zAo rfl rfl ?_)
 refine zB5 3 [(0, zCt T)] Z ⟨Z, Z, trivial⟩ ⟨Z, trivial⟩ Z hfix ?_
 repeat (refine zX ?_)
 refine ze (by kernel_rfl) ?_
 refine zm (fuel := 0) [0, 1, 2, 3, 4, 5, 6] [(3, .rp (.box (poC p)) 0 0), (0, zCt T)] ⟨Z, Z, trivial⟩ (by kernel_rfl) (by decide) Z Z ?_
 refine zJ Z Z (zH Z) ?_
 refine zJ Z Z (zAF Z) ?_
 refine zJ Z Z (zI Z Z Z Z Z Z) ?_
 refine zJ Z Z (zFn Z Z Z Z Z Z) ?_
 refine zJ Z Z (zAE Z Z Z Z Z Z) ?_
 refine zCW Z Z Z Z Z (zD1 T.r hr p hp) ?_
 refine zJ Z Z (zP Z) ?_
 refine zAA ?_
 refine zZ (by kernel_rfl) ?_
 refine rn3 ?_
 refine zF Z (fun q => ?_) (fun q => ?_)
 ·have e : zBi T p = zCL T.r p := by unfold zBi; rw [if_pos q]
  rw [e, if_pos q] at hR
  refine rn2 ?_
  exact zN hR Z Z
 have q2 := Classical.not_not.1 q
 obtain ⟨hz, S⟩ := zDq q2
 refine rn1 ?_
 by_cases hi : zAg T.l p < T.l.length
 ·have e : zBi T p = 0 := by unfold zBi; rw [if_neg q, if_pos hi]
  rw [e, if_neg (by decide)] at hR
  refine ze (by kernel_rfl) ?_
  refine zm (fuel := 0) [0, 1, 2, 3, 4, 5, 6, 7, 8, 9, 10, 11] [(3, .rp (.box (poC p)) 0 0), (0, zCt T)] ⟨Z, Z, trivial⟩ (by kernel_rfl) (by decide) Z Z ?_
  refine zJ Z Z (zH Z) ?_
  refine zJ Z Z (zAF Z) ?_
  refine zJ Z Z (zI Z Z Z Z Z Z) ?_
  refine zJ Z Z (zD Z Z Z Z) ?_
  refine zJ Z Z (zAE Z Z Z Z Z Z) ?_
  refine zCW Z Z Z Z Z (zFU h.v S) ?_
  refine zJ Z Z (zEb Z (.str Z) Z Z Z Z (zC6 T.l) (zAg T.l p) (zGx hi) (zG5 hi)) ?_
  refine zJ Z Z (zH Z) ?_
  refine zJ Z Z (zAi Z Z) ?_
  refine zJ Z Z (zAi Z Z) ?_
  refine zJ Z Z (zP Z) ?_
  refine zJ Z Z (zP Z) ?_
  refine zAA ?_
  refine zZ (by kernel_rfl) ?_
  refine rn5 ?_
  exact zN hR Z Z
 ·have e : zBi T p = 8 := by unfold zBi; rw [if_neg q, if_neg hi]
  rw [e, if_pos (by decide)] at hR
  refine ze (by kernel_rfl) ?_
  refine zm (fuel := 0) [0, 1, 2, 3, 4, 5, 6, 7, 8, 9, 10, 11] [(3, .rp (.box (poC p)) 0 0), (0, zCt T)] ⟨Z, Z, trivial⟩ (by kernel_rfl) (by decide) Z Z ?_
  refine zJ Z Z (zH Z) ?_
  refine zJ Z Z (zAF Z) ?_
  refine zJ Z Z (zI Z Z Z Z Z Z) ?_
  refine zJ Z Z (zD Z Z Z Z) ?_
  refine zJ Z Z (zAE Z Z Z Z Z Z) ?_
  refine zCW Z Z Z Z Z (zFU h.v S) ?_
  refine zJ Z Z (zD2 Z (.str Z) Z Z Z Z Z Z Z Z (zC6 T.l) (zE5 h.v S h.G.snd hi)) ?_
  refine zJ Z Z (zH Z) ?_
  refine zJ Z Z (zAi Z Z) ?_
  refine zJ Z Z (zAi Z Z) ?_
  refine zJ Z Z (zP Z) ?_
  refine zJ Z Z (zP Z) ?_
  refine zAA ?_
  refine zZ (by kernel_rfl) ?_
  refine rn5 ?_
  exact zN hR Z Z
/-- (*retro.Table).Of -/
theorem of_ok (T : Tab) (h : TabOK T) (hr : Lens T.r) (p : Pos) (hp : LenP p) : zl Tryz.prog 21 [zCt T, poA p] (.tup [entA (ofT T p), .int .i64 (zBi T p)]) := by
 refine zd.value0 (zL (P := Tryz.prog) (fn := Tryz.f21) Z Z (by kernel_rfl) Z (fun c hR hfix => ?_)) (fix := fun _ => False) (fun _ h => h) Z Z
 have hEl := h.len
 refine rn6 ?_
 refine zQ Z Z Z (zLs T h hr p hp) ?_
 refine rn3 ?_
 refine zF Z (fun q => ?_) (fun q => ?_)
 ·have e : ofT T p = (0, 0) := by unfold ofT; rw [if_pos q]
  rw [e] at hR
  refine rn8 ?_
  refine zW (zBg (0, 0)) Z Z Z Z Z Z Z ?_
  refine rn2 ?_
  exact zN hR Z Z
 ·have q2 : zBi T p = 0 := Classical.not_not.1 q
  have hi : zAg T.l p < T.l.length := by
   unfold zBi at q2
   split at q2
   ·rename_i h1; exact absurd q2 h1
   ·split at q2
    ·assumption
    ·cases q2
  have e : ofT T p = zAI T (zAg T.l p) := by unfold ofT; rw [if_neg q]
  rw [e, q2] at hR
  rw [if_neg q]
  repeat (first | refine zA (zH rfl) ?_ | refine zB ?_ | refine zX ?_ | refine zK rfl ?_ | refine zAL ?_ | refine zA (zg rfl rfl rfl rfl (by first | (simp only [Nat.zero_add, Int.toNat_natCast, Int.toNat_zero]; exact rfl) | exact rfl) (by omega)) ?_ | refine zA (zD rfl rfl rfl rfl) ?_ | refine zA (zAF rfl) ?_ | refine zA (zI rfl rfl rfl rfl rfl rfl) ?_ | refine zA (zAE rfl rfl rfl rfl rfl rfl) ?_)
  refine zW (zBg (zAI T (zAg T.l p))) Z Z Z Z Z Z Z ?_
  refine rn0 ?_
  exact zN hR Z Z
def zBA (T : Tab) (i : Nat) (ms : List Mv) (k : Nat) : List Mv := ((List.range k).filter (fun k => decide (zAI T ((T.nx.getD i []).getD k 0) = zCE (zAI T i)))).map (fun k => ms.getD k mv0)
theorem zHA (T : Tab) (i : Nat) (ms : List Mv) (k : Nat) : zBA T i ms (k + 1) = if zAI T ((T.nx.getD i []).getD k 0) = zCE (zAI T i) then zBA T i ms k ++ [ms.getD k mv0] else zBA T i ms k := by
 unfold zBA
 rw [List.range_succ, List.filter_append, List.map_append]
 by_cases h : zAI T ((T.nx.getD i []).getD k 0) = zCE (zAI T i)
 ·rw [if_pos h, List.filter_cons_of_pos (p := fun k => decide (zAI T ((T.nx.getD i []).getD k 0) = zCE (zAI T i))) (decide_eq_true h)]; rfl
 ·rw [if_neg h, List.filter_cons_of_neg (p := fun k => decide (zAI T ((T.nx.getD i []).getD k 0) = zCE (zAI T i))) (by rw [decide_eq_true_eq]; exact h)]; simp
theorem zFt (T : Tab) (i : Nat) (ms : List Mv) (k : Nat) : (zBA T i ms k).length ≤ k := by
 unfold zBA
 rw [List.length_map]
 exact Nat.le_trans (List.length_filter_le ..) (by rw [List.length_range]; exact Nat.le_refl _)
theorem mapI_get (l : List Nat) (k : Nat) : (l.map Int.ofNat).getD k 0 = ((l.getD k 0 : Nat) : Int) := by
 rw [List.getD, List.getElem?_map, List.getD]
 cases l[k]? <;> rfl
theorem find_is {T : Tab} {p : Pos} (h : zBi T p = 0) : zCL T.r p = 0 ∧ zAg T.l p < T.l.length := by
 unfold zBi at h
 split at h
 ·rename_i h1; exact absurd h h1
 ·rename_i h1
  split at h
  ·exact ⟨Classical.not_not.1 h1, by assumption⟩
  ·cases h
theorem next_lt {T : Tab} (h : TabOK T) {i k : Nat} (hi : i < T.l.length) (hk : k < (zAs T.r (T.l.getD i zj)).length) : k < (T.nx.getD i []).length ∧ (T.nx.getD i []).getD k 0 < T.l.length := by
 have := h.G.nxl i hi
 exact ⟨by omega, (h.G.nxt i hi k hk).1⟩
theorem ent_eqA (x y : Ent) : (decide (x.1 = y.1) && (decide (x.2 = y.2) && true)) = decide (x = y) := by
 by_cases h : x = y
 ·subst h; simp
 ·rw [decide_eq_false h]
  by_cases h1 : x.1 = y.1
  ·rw [decide_eq_true h1, decide_eq_false (fun q => h (Prod.ext h1 q))]; rfl
  ·rw [decide_eq_false h1]; rfl
/-- (*retro.Table).Best -/
theorem zLn (T : Tab) (h : TabOK T) (hr : Lens T.r) (p : Pos) (hp : LenP p) : zl Tryz.prog 26 [zCt T, poA p] (.tup [zBX (zBR T p), .int .i64 (zDH T p)]) := by
 refine zd.value0 (zL (P := Tryz.prog) (fn := Tryz.f26) Z Z (by kernel_rfl) Z (fun c hR hfix => ?_)) (fix := fun _ => False) (fun _ h => h) Z Z
 have hEl := h.len
 have hmost := h.G.most
 refine zX ?_
 repeat (first | refine zA (zP rfl) ?_ | refine zC ?_ | refine zB ?_ | refine zK rfl ?_ | refine zAo rfl rfl ?_)
 refine zB5 3 [(0, zCt T)] Z ⟨Z, Z, trivial⟩ ⟨Z, trivial⟩ Z hfix ?_
 refine rn6 ?_
 refine zQ Z Z Z (zLs T h hr p hp) ?_
 refine rn3 ?_
 refine zF Z (fun q => ?_) (fun q => ?_)
 ·have q : zBi T p ≠ 0 := q
  have e : zDH T p = zBi T p := by unfold zDH; rw [if_pos q]
  have e2 : zBR T p = [] := by unfold zBR; rw [e, if_pos q]
  rw [e, e2] at hR
  refine rn7 ?_
  refine zBp 4 (zBX []) Z AEq.nil ?_
  refine rn2 ?_
  exact zN hR Z Z
 have q2 : zBi T p = 0 := Classical.not_not.1 q
 obtain ⟨hz, hi⟩ := find_is q2
 have eb : zDH T p = if (zCl T p).length = 0 then 14 else 0 := by unfold zDH; rw [if_neg q]
 have ebl : zDH T p = 0 → zBR T p = zBA T (zAg T.l p) (zCl T p) (zCl T p).length := fun e => by unfold zBR; rw [if_neg (fun c => c e)]; rfl
 rw [if_neg q]
 have hmt : zCl T p = zAs T.r (T.l.getD (zAg T.l p) zj) := rfl
 have S := (h.sound hi).1
 have hml := zG0 h.v S
 have hnx := fun k => next_lt h (k := k) hi
 have hpl := h.plies hi
 have hpu := h.plies_le hi
 have hnlen : T.nx.length = T.l.length := h.G.len
 rw [← hmt] at hml
 simp only [← hmt] at hnx
 have cm := zHD T.r h.v (T.l.getD (zAg T.l p) zj) S
 rw [← hmt] at cm
 generalize hix : zAg T.l p = ix at hi hml hnx hpl hpu ebl cm
 generalize hms : zCl T p = ms at hml hnx eb ebl cm
 refine rn1 ?_
 refine ze (by kernel_rfl) ?_
 refine zm (fuel := 0) [0, 1, 2, 3, 4, 5, 6, 7, 8, 9, 10, 11, 12] [(0, zCt T), (6, iN ix)] ⟨Z, Z, trivial⟩ (by kernel_rfl) (by decide) Z Z ?_
 refine zJ Z Z (zH Z) ?_
 refine zJ Z Z (zAF Z) ?_
 refine zJ Z Z (zI Z Z Z Z Z Z) ?_
 refine zJ Z Z (zFn Z Z Z Z Z Z) ?_
 refine zJ Z Z (zH Z) ?_
 refine zJ Z Z (zAF Z) ?_
 refine zJ Z Z (zI Z Z Z Z Z Z) ?_
 refine zJ Z Z (zD Z Z Z Z) ?_
 refine zJ Z Z (zH Z) ?_
 refine zJ Z Z (zg Z Z Z Z (by first | (simp only [Nat.zero_add, Int.toNat_natCast, Int.toNat_zero]; exact Z) | exact Z) (by omega)) ?_
 refine zJ Z Z (zAE Z Z Z Z Z Z) ?_
 refine zCW Z Z Z Z Z cm ?_
 refine zJ Z Z (zP Z) ?_
 refine zAA ?_
 refine zZ (by kernel_rfl) ?_
 refine rn4 ?_
 refine zF Z (fun z => ?_) (fun z => ?_)
 ·rw [if_pos (by omega)] at eb
  have e2 : zBR T p = [] := by unfold zBR; rw [eb, if_pos (by decide)]
  rw [eb, e2] at hR
  refine rn7 ?_
  refine zBp 4 (zBX []) Z AEq.nil ?_
  refine rn2 ?_
  exact zN hR Z Z
 rw [if_neg (by omega)] at eb
 have ebl := ebl eb
 rw [eb, ebl] at hR
 repeat (first | refine zA (zH rfl) ?_ | refine zB ?_ | refine zX ?_ | refine zK rfl ?_ | refine zAL ?_ | refine zA (zg rfl rfl rfl rfl (by first | (simp only [Nat.zero_add, Int.toNat_natCast, Int.toNat_zero]; exact rfl) | exact rfl) (by omega)) ?_ | refine zA (zD rfl rfl rfl rfl) ?_ | refine zA (zAF rfl) ?_ | refine zA (zI rfl rfl rfl rfl rfl rfl) ?_ | refine zA (zAE rfl rfl rfl rfl rfl rfl) ?_ | refine zAS rfl rfl rfl ?_)
 refine zW (zBg (zAI T ix)) Z Z Z Z Z Z Z ?_
 repeat (first | refine zC ?_ | refine zB ?_ | refine zX ?_ | refine zK rfl ?_ | refine zA (zU rfl rfl rfl rfl rfl) ?_ | refine zA (zBU rfl rfl) ?_ | refine zA (zM rfl rfl rfl rfl rfl rfl) ?_)
 apply zAD (H := [some ⟨37, .box (zBg (zCE (zAI T ix)))⟩]) [(0, zCt T), (6, iN ix), (8, zBX ms), (9, .ptr 0 0 0)]
 ·intro fin
  refine zF Z (fun d => ?_) (fun d => ?_)
  ·have d : (zAI T ix).1 ≠ 3 := d
   have ew : zCE (zAI T ix) = ((zAI T ix).1, (zAI T ix).2 - 1) := by unfold zCE; rw [if_pos d]
   rw [ew] at fin
   repeat (first | refine zC ?_ | refine zB ?_ | refine zK rfl ?_ | refine zA (zU rfl rfl rfl rfl rfl) ?_ | refine zA (zBK rfl rfl (by omega)) ?_ | refine zA (zM rfl rfl rfl rfl rfl rfl) ?_ | refine zAJ rfl rfl rfl rfl rfl rfl rfl Nat.zero_lt_one ?_)
   exact fin _ ⟨Z, Z, Z, Z, trivial⟩
  ·have d : ¬ (zAI T ix).1 ≠ 3 := d
   have ew : zCE (zAI T ix) = zAI T ix := by unfold zCE; rw [if_neg d]
   rw [ew] at fin
   refine zFi ?_
   exact fin _ ⟨Z, Z, Z, Z, trivial⟩
 refine zB5 9 [(0, zCt T), (6, iN ix), (8, zBX ms)] Z ⟨Z, Z, Z, Z, trivial⟩ ⟨Z, Z, Z, trivial⟩ Z hfix ?_
 repeat (refine zX ?_)
 refine zK Z ?_
 refine zAn ?_
 refine zBZ 10 ⟨58, zBI []⟩ Z Z ?_
 refine rn3 ?_
 refine zx (ι := Nat) (fun k => [(0, zCt T), (6, iN ix), (8, zBX ms), (9, .rp (.box (zBg (zCE (zAI T ix)))) 0 0), (10, .sl 0 0 (zBA T ix ms k).length), (51, zBX ms), (52, iN ms.length), (53, iN k)]) (fun k => [some ⟨58, zBI (zBA T ix ms k)⟩]) (fun k => k ≤ ms.length) (fun k => ms.length - k) 0 ⟨⟨Z, Z, Z, Z, Z, Z, Z, Z, trivial⟩, Z, Nat.zero_le _⟩ ?_
 intro k hk
 have hbl := zFt T ix ms k
 refine rn4 ?_
 refine zF Z (fun g => ?_) (fun g => ?_)
 ·have hk' : k < ms.length := by omega
  obtain ⟨n1, n2⟩ := hnx k hk'
  have hbs := zHA T ix ms k
  have hgi : ((T.nx.getD ix []).map Int.ofNat).getD k 0 = (((T.nx.getD ix []).getD k 0 : Nat) : Int) := mapI_get _ _
  have hgl : ((T.nx.getD ix []).map Int.ofNat).length = (T.nx.getD ix []).length := List.length_map ..
  generalize hj : (T.nx.getD ix []).getD k 0 = j at n2 hgi hbs
  generalize hmk : ms.getD k mv0 = m at hbs
  refine zF6 ?_
  refine rn4 ?_
  refine zW (mvC m) Z Z Z Z Z (by rw [← hmk]; rfl) Z ?_
  refine rn0 ?_
  refine zEP [some ⟨58, zBI (zBA T ix ms k)⟩] 12 [(0, zCt T), (6, iN ix), (8, zBX ms), (9, .rp (.box (zBg (zCE (zAI T ix)))) 0 0), (10, .sl 0 0 (zBA T ix ms k).length), (51, zBX ms), (52, iN ms.length), (53, iN k), (11, iN k)] Z Z ⟨Z, Z, Z, Z, Z, Z, Z, Z, Z, trivial⟩ ⟨Z, Z, Z, Z, Z, Z, Z, Z, Z, Z, trivial⟩ (zCF (zFZ _) zBr) Z (fun h q => by rw [hfix] at q; exact q.elim) ?_
  refine ze (by kernel_rfl) ?_
  refine zm (fuel := 0) [0, 1, 2, 3, 4, 5, 6, 7, 8, 9, 10, 11, 12, 13, 14, 15, 16, 17] [(12, .rp (.box (mvC m)) 0 0), (0, zCt T), (6, iN ix), (8, zBX ms), (9, .rp (.box (zBg (zCE (zAI T ix)))) 0 0), (10, .sl 0 0 (zBA T ix ms k).length), (51, zBX ms), (52, iN ms.length), (53, iN k), (11, iN k)] ⟨Z, Z, Z, Z, Z, Z, Z, Z, Z, Z, trivial⟩ (by kernel_rfl) (by decide) Z Z ?_
  refine zJ Z Z (zH Z) ?_
  refine zJ Z Z (zAF Z) ?_
  refine zJ Z Z (zI Z Z Z Z Z Z) ?_
  refine zJ Z Z (zD Z Z Z Z) ?_
  refine zJ Z Z (zH Z) ?_
  refine zJ Z Z (zAF Z) ?_
  refine zJ Z Z (zI Z Z Z Z Z Z) ?_
  refine zJ Z Z (zD Z Z Z Z) ?_
  refine zJ Z Z (zH Z) ?_
  refine zJ Z Z (zg Z Z Z Z (by first | (simp only [Nat.zero_add, Int.toNat_natCast, Int.toNat_zero]; exact Z) | exact Z) (by omega)) ?_
  refine zJ Z Z (zA5 Z Z Z Z) ?_
  refine zJ Z Z (zH Z) ?_
  refine zJ Z Z (zg Z Z Z Z (by first | (simp only [Nat.zero_add, Int.toNat_natCast, Int.toNat_zero]; exact Z) | exact Z) (by omega)) ?_
  refine zJ Z Z (zBe Z Z Z) ?_
  rw [hgi]
  refine zJ Z Z (zg Z Z Z Z (by first | (simp only [Nat.zero_add, Int.toNat_natCast, Int.toNat_zero]; exact Z) | exact Z) (by omega)) ?_
  refine zJ Z Z (zAE Z Z Z Z Z Z) ?_
  refine zJ Z Z (zAE Z Z Z Z Z Z) ?_
  refine zJ Z Z (zEc Z Z Z (by kernel_rfl) (by kernel_rfl) (by kernel_rfl) Z) ?_
  refine zAA ?_
  refine zZ (by kernel_rfl) ?_
  repeat (refine zB ?_)
  refine zAO (b := decide (zAI T j = zCE (zAI T ix))) (by rw [← ent_eqA]; rfl) (fun g2 => ?_) (fun g2 => ?_)
  ·have g2 := of_decide_eq_true g2
   rw [if_pos g2] at hbs
   have hnl : (zBA T ix ms (k + 1)).length = (zBA T ix ms k).length + 1 := by rw [hbs, List.length_append]; rfl
   refine rn6 ?_
   refine zBQ [m] Z Z Z Z Z Z Z Z Z Z Z Z Z (by show 0 + 1 ≤ 1; omega) (fun k' j' hk' hj' => ?_) (by show ((zBA T ix ms k).length + 1) * 24 ≤ _ ∧ _; omega) zEY (by rw [hfix]; exact fun h => h) ?_
   ·obtain rfl : k' = 0 := Nat.lt_one_iff.1 hk'
    match j', hj' with
    | 0, _ => rfl
    | 1, _ => rfl
    | 2, _ => rfl
   refine rn5 ?_
   refine zS ⟨k + 1, by omega, by omega, ⟨Z, Z, Z, Z, ?_, Z, Z, Z, trivial⟩, ?_⟩
   ·rw [hnl]; rfl
   ·rw [hbs]; rfl
  ·have g2 := of_decide_eq_false g2
   rw [if_neg g2] at hbs
   refine rn5 ?_
   refine zS ⟨k + 1, by omega, by omega, ⟨Z, Z, Z, Z, ?_, Z, Z, Z, trivial⟩, ?_⟩
   ·rw [hbs]; rfl
   ·rw [hbs]
 ·have hk' : k = ms.length := by omega
  subst hk'
  refine zAn ?_
  refine zCf 0 10 (zBA T ix ms ms.length).length [] Z (zA8 zFY) Z (Nat.le_refl _) trivial ?_
  refine rn0 ?_
  exact zN hR Z Z
def zCK (T : Tab) (k : Nat) : List Nat := (List.range k).filter (fun i => decide ((zAI T i).2 = zEk T))
theorem zKZ (T : Tab) (k : Nat) : zCK T (k + 1) = if (zAI T k).2 = zEk T then zCK T k ++ [k] else zCK T k := by
 unfold zCK
 rw [List.range_succ, List.filter_append]
 by_cases h : (zAI T k).2 = zEk T
 ·rw [if_pos h, List.filter_cons_of_pos (p := fun i => decide ((zAI T i).2 = zEk T)) (decide_eq_true h)]; rfl
 ·rw [if_neg h, List.filter_cons_of_neg (p := fun i => decide ((zAI T i).2 = zEk T)) (by rw [decide_eq_true_eq]; exact h)]; simp
theorem zLG (T : Tab) (k : Nat) : (zCK T k).length ≤ k := by
 unfold zCK
 exact Nat.le_trans (List.length_filter_le ..) (by rw [List.length_range]; exact Nat.le_refl _)
def zD0 (T : Tab) (k : Nat) : Int := (T.E.take k).foldl (fun a x => max a x.2) 0
theorem zKf (T : Tab) {k : Nat} (h : k < T.E.length) : zD0 T (k + 1) = max (zD0 T k) (zAI T k).2 := by
 unfold zD0 zAI
 rw [zz _ (0, 0) k h, List.foldl_append]; rfl
/-- (*retro.Table).Longest -/
theorem long_ok (T : Tab) (h : TabOK T) : zl Tryz.prog 15 [zCt T] (zt ((zFk T).map Int.ofNat)) := by
 refine zd.value0 (zL (P := Tryz.prog) (fn := Tryz.f15) Z Z (by kernel_rfl) Z (fun c hR hfix => ?_)) (fix := fun _ => False) (fun _ h => h) Z Z
 have hEl := h.len
 have hmost := h.G.most
 repeat (first | refine zA (zH rfl) ?_ | refine zA (zP rfl) ?_ | refine zC ?_ | refine zB ?_ | refine zX ?_ | refine zK rfl ?_ | refine zAT ?_ | refine zA (zBD rfl rfl rfl) ?_ | refine zA (zD rfl rfl rfl rfl) ?_ | refine zA (zAF rfl) ?_ | refine zA (zI rfl rfl rfl rfl rfl rfl) ?_)
 refine zx (ι := Nat) (fun k => [(0, zCt T), (3, .int .i64 (zD0 T k)), (12, .ro (zBB T.E) 0 T.E.length), (13, iN T.E.length), (14, iN k)]) (fun k => []) (fun k => k ≤ T.E.length) (fun k => T.E.length - k) 0 ⟨⟨Z, Z, Z, Z, Z, trivial⟩, Z, Nat.zero_le _⟩ ?_
 intro k hk
 refine rn4 ?_
 refine zF Z (fun g => ?_) (fun g => ?_)
 ·have hk' : k < T.E.length := by omega
  have hms : zD0 T (k + 1) = if (zAI T k).2 > zD0 T k then (zAI T k).2 else zD0 T k := by rw [zKf T hk']; split <;> omega
  refine zF6 ?_
  repeat (refine zAS rfl rfl rfl ?_)
  refine zW (zBg (zAI T k)) Z Z Z Z Z Z Z ?_
  refine zAn ?_
  refine zB5 5 [(0, zCt T), (3, .int .i64 (zD0 T k)), (12, .ro (zBB T.E) 0 T.E.length), (13, iN T.E.length), (14, iN k)] Z ⟨Z, Z, Z, Z, Z, Z, trivial⟩ ⟨Z, Z, Z, Z, Z, trivial⟩ Z hfix ?_
  repeat (first | refine zA (zH rfl) ?_ | refine zA (zP rfl) ?_ | refine zC ?_ | refine zB ?_ | refine zK rfl ?_ | refine zAM ?_ | refine zA (zA7 rfl rfl (by omega)) ?_ | refine zA (zD rfl rfl rfl rfl) ?_ | refine zA (q_max rfl rfl) ?_ | refine zA (zI rfl rfl rfl rfl rfl rfl) ?_)
  refine zS ⟨k + 1, by omega, by omega, ⟨Z, ?_, Z, Z, Z, trivial⟩, Z⟩
  rw [hms]; rfl
 have hk' : k = T.E.length := by omega
 subst hk'
 have hmt : zD0 T T.E.length = zEk T := by unfold zD0 zEk; rw [List.take_length]
 rw [hmt]
 refine zAn ?_
 refine zK Z ?_
 refine zAn ?_
 refine zBZ 6 ⟨3, .ints .i64 []⟩ Z Z ?_
 repeat (first | refine zA (zH rfl) ?_ | refine zC ?_ | refine zB ?_ | refine zK rfl ?_ | refine zAT ?_ | refine zA (zBD rfl rfl rfl) ?_ | refine zA (zD rfl rfl rfl rfl) ?_ | refine zA (zAF rfl) ?_ | refine zA (zI rfl rfl rfl rfl rfl rfl) ?_)
 refine zx (ι := Nat) (fun k => [(3, .int .i64 (zEk T)), (6, .sl 0 0 (zCK T k).length), (26, .ro (zBB T.E) 0 T.E.length), (27, iN T.E.length), (28, iN k)]) (fun k => [some ⟨3, .ints .i64 ((zCK T k).map Int.ofNat)⟩]) (fun k => k ≤ T.E.length) (fun k => T.E.length - k) 0 ⟨⟨Z, Z, Z, Z, Z, trivial⟩, Z, Nat.zero_le _⟩ ?_
 intro k hk
 have hll := zLG T k
 have hml : ((zCK T k).map Int.ofNat).length = (zCK T k).length := List.length_map ..
 refine rn4 ?_
 refine zF Z (fun g => ?_) (fun g => ?_)
 ·have hk' : k < T.E.length := by omega
  have hls := zKZ T k
  refine zF6 ?_
  refine rn4 ?_
  refine zW (zBg (zAI T k)) Z Z Z Z Z Z Z ?_
  refine zAn ?_
  refine zEP [some ⟨3, .ints .i64 ((zCK T k).map Int.ofNat)⟩] 8 [(3, .int .i64 (zEk T)), (6, .sl 0 0 (zCK T k).length), (26, .ro (zBB T.E) 0 T.E.length), (27, iN T.E.length), (28, iN k), (7, iN k)] Z Z ⟨Z, Z, Z, Z, Z, Z, trivial⟩ ⟨Z, Z, Z, Z, Z, Z, Z, trivial⟩ (zCF (fun _ _ _ _ => rfl) zBr) Z (fun h q => by rw [hfix] at q; exact q.elim) ?_
  refine zBn ?_
  refine zF Z (fun q => ?_) (fun q => ?_)
  ·have q : (zAI T k).2 = zEk T := q
   rw [if_pos q] at hls
   have hnl : (zCK T (k + 1)).length = (zCK T k).length + 1 := by rw [hls, List.length_append]; rfl
   refine rn3 ?_
   refine zAe Z Z Z Z Z Z Z Z Z hml Z Z (by show 0 + 1 ≤ 1; omega) Z (by show ((zCK T k).length + 1) * 8 ≤ _ ∧ _; omega) (fun i j _ _ => rfl) (by rw [hfix]; exact fun h => h) ?_
   refine rn5 ?_
   refine zS ⟨k + 1, by omega, by omega, ⟨Z, ?_, Z, Z, Z, trivial⟩, ?_⟩
   ·rw [hnl]; rfl
   ·rw [hls, List.map_append]; rfl
  ·have q : ¬ (zAI T k).2 = zEk T := q
   rw [if_neg q] at hls
   refine rn5 ?_
   refine zS ⟨k + 1, by omega, by omega, ⟨Z, ?_, Z, Z, Z, trivial⟩, ?_⟩
   ·rw [hls]; rfl
   ·rw [hls]
 ·have hk' : k = T.E.length := by omega
  subst hk'
  have hlt : zCK T T.E.length = zFk T := rfl
  rw [hlt] at hml ⊢
  refine zAn ?_
  refine zCf 0 6 (zFk T).length [] Z zAP Z (by show (zFk T).length ≤ ((zFk T).map Int.ofNat).length; rw [hml]; exact Nat.le_refl _) trivial ?_
  refine rn0 ?_
  refine zN hR Z ?_
  show AV.ro (Cells.ints .i64 ((zFk T).map Int.ofNat)) 0 (zFk T).length = AV.ro (Cells.ints .i64 ((zFk T).map Int.ofNat)) 0 ((zFk T).map Int.ofNat).length
  rw [hml]
def isM (m x : Mv) : Bool := decide (x = m)
theorem indexMv (l : List Mv) (m : Mv) (hlen : l.length ≤ 1000000) : zl Tryz.prog 72 [zBX l, mvA m] (.int .i64 (zDD (isM m) l)) := by
 refine zd.value0 (zL (P := Tryz.prog) (fn := Tryz.f72) Z Z (by kernel_rfl) Z (fun c hR hfix => ?_)) (fix := fun _ => False) (fun _ h => h) Z Z
 refine zX ?_
 repeat (first | refine zA (zP rfl) ?_ | refine zC ?_ | refine zB ?_ | refine zK rfl ?_ | refine zAo rfl rfl ?_)
 refine zB5 3 [(0, zBX l)] Z ⟨Z, Z, trivial⟩ ⟨Z, trivial⟩ Z hfix ?_
 refine rn3 ?_
 refine zx (ι := Nat) (fun k => [(0, zBX l), (3, .rp (.box (mvC m)) 0 0), (7, iN l.length), (8, iN k)]) (fun _ => [])
  (fun k => k ≤ l.length ∧ (l.take k).any (isM m) = false) (fun k => l.length - k) 0 ⟨⟨rfl, rfl, rfl, rfl, trivial⟩, rfl, Nat.zero_le _, rfl⟩ ?_
 intro k ⟨hk, hany⟩
 refine rn4 ?_
 refine zF Z (fun h => ?_) (fun h => ?_)
 ·have hk' : k < l.length := by omega
  have hanys := zBz (isM m) l mv0 k hk'
  refine rn1 ?_
  refine ze (by kernel_rfl) ?_
  refine zm (fuel := 0) [0, 1, 2, 3, 4, 5] [(0, zBX l), (3, .rp (.box (mvC m)) 0 0), (7, iN l.length), (8, iN k), (5, iN k)] ⟨Z, Z, Z, Z, Z, trivial⟩ (by kernel_rfl) (by decide) Z Z ?_
  refine zJ Z Z (zAE Z Z Z Z Z Z) ?_
  refine zJ Z Z (zH Z) ?_
  refine zJ Z Z (zH Z) ?_
  refine zJ Z Z (zg Z Z Z Z (by first | (simp only [Nat.zero_add, Int.toNat_natCast, Int.toNat_zero]; exact Z) | exact Z) (by omega)) ?_
  refine zJ Z Z (zAE Z Z Z Z Z Z) ?_
  refine zJ Z Z (zEc Z Z Z (by kernel_rfl) (by kernel_rfl) (by kernel_rfl) Z) ?_
  refine zAA ?_
  refine zZ (by kernel_rfl) ?_
  repeat (refine zB ?_)
  refine zAO (b := isM m (l.getD k mv0)) (by unfold isM; rw [← eqMv]; rfl) (fun h2 => ?_) (fun h2 => ?_)
  ·refine rn6 ?_
   refine zN hR Z ?_
   have := zB0 (isM m) l k hany hk
   rw [zD8 l mv0 k hk'] at this
   simp only [zDD, h2, if_true] at this
   rw [this]; simp [zCQ]
  ·refine rn5 ?_
   refine zS ⟨k + 1, ⟨by omega, by rw [hanys, hany, h2]; rfl⟩, by omega, ⟨Z, Z, Z, Z, trivial⟩, Z⟩
 ·have hk' : k = l.length := by omega
  subst hk'
  refine rn5 ?_
  refine zN hR Z ?_
  have := zB0 (isM m) l l.length hany hk
  rw [List.drop_length] at this
  rw [this]; rfl
theorem zMK (l : List Mv) (m : Mv) (hlen : l.length ≤ 1000000) : zl Tryz.prog 40 [zBX l, mvA m] (.bool (l.any (isM m))) := by
 refine zd.value0 (zL (P := Tryz.prog) (fn := Tryz.f40) Z Z (by kernel_rfl) Z (fun c hR hfix => ?_)) (fix := fun _ => False) (fun _ h => h) Z Z
 refine rn6 ?_
 refine zQ Z Z Z (indexMv l m hlen) ?_
 refine rn8 ?_
 refine zN hR Z ?_
 simp only [zCQ, zGT]
theorem any_isM {l : List Mv} {m : Mv} : l.any (isM m) = decide (m ∈ l) := by
 by_cases h : m ∈ l
 ·rw [decide_eq_true h, List.any_eq_true]; exact ⟨m, h, decide_eq_true rfl⟩
 ·rw [decide_eq_false h, ← Bool.not_eq_true, List.any_eq_true]
  rintro ⟨x, hx, e⟩
  exact h (by rw [← of_decide_eq_true e]; exact hx)
theorem zLr (a b : List Mv) (hlen : a.length ≤ 1000000) (hlb : b.length ≤ 1000000) : zl Tryz.prog 27 [zBX a, zBX b] (.bool (decide (a = b))) := by
 refine zd.value0 (zL (P := Tryz.prog) (fn := Tryz.f27) Z Z (by kernel_rfl) Z (fun c hR hfix => ?_)) (fix := fun _ => False) (fun _ h => h) Z Z
 refine rn3 ?_
 refine zF Z (fun h => ?_) (fun h => ?_)
 ·refine rn2 ?_
  refine zN hR Z ?_
  have : ¬ a = b := by rintro rfl; exact h rfl
  simp [zCQ, this]
 have hab : a.length = b.length := by omega
 refine rn3 ?_
 refine zx (ι := Nat) (fun k => [(0, zBX a), (1, zBX b), (12, iN a.length), (13, iN k)]) (fun _ => [])
  (fun k => k ≤ a.length ∧ a.take k = b.take k) (fun k => a.length - k) 0 ⟨⟨rfl, rfl, rfl, rfl, trivial⟩, rfl, Nat.zero_le _, rfl⟩ ?_
 intro k ⟨hk, heq⟩
 refine rn4 ?_
 refine zF Z (fun h2 => ?_) (fun h2 => ?_)
 ·have hk' : k < a.length := by omega
  have ha := zz a mv0 k hk'
  have hb := zz b mv0 k (by omega)
  refine rn1 ?_
  refine ze (by kernel_rfl) ?_
  refine zm (fuel := 0) [0, 1, 2, 3, 4, 5, 6, 7, 8] [(0, zBX a), (1, zBX b), (12, iN a.length), (13, iN k), (5, iN k)] ⟨Z, Z, Z, Z, Z, trivial⟩ (by kernel_rfl) (by decide) Z Z ?_
  refine zJ Z Z (zH Z) ?_
  refine zJ Z Z (zH Z) ?_
  refine zJ Z Z (zg Z Z Z Z (by first | (simp only [Nat.zero_add, Int.toNat_natCast, Int.toNat_zero]; exact Z) | exact Z) (by omega)) ?_
  refine zJ Z Z (zAE Z Z Z Z Z Z) ?_
  refine zJ Z Z (zH Z) ?_
  refine zJ Z Z (zH Z) ?_
  refine zJ Z Z (zg Z Z Z Z (by first | (simp only [Nat.zero_add, Int.toNat_natCast, Int.toNat_zero]; exact Z) | exact Z) (by omega)) ?_
  refine zJ Z Z (zAE Z Z Z Z Z Z) ?_
  refine zJ Z Z (zHL Z Z Z (by kernel_rfl) (by kernel_rfl) (by kernel_rfl) Z) ?_
  refine zAA ?_
  refine zZ (by kernel_rfl) ?_
  repeat (refine zB ?_)
  refine zAO (b := !(decide (b.getD k mv0 = a.getD k mv0))) (by rw [← eqMv]; rfl) (fun h3 => ?_) (fun h3 => ?_)
  ·refine rn6 ?_
   refine zN hR Z ?_
   rw [Bool.not_eq_true', decide_eq_false_iff_not] at h3
   have : ¬ a = b := by rintro rfl; exact h3 rfl
   simp [zCQ, this]
  ·rw [Bool.not_eq_false', decide_eq_true_eq] at h3
   refine rn5 ?_
   exact zS ⟨k + 1, ⟨by omega, by rw [ha, hb, heq, h3]⟩, by omega, ⟨Z, Z, Z, Z, trivial⟩, Z⟩
 ·have hk' : k = a.length := by omega
  subst hk'
  rw [List.take_length, hab, List.take_length] at heq
  refine rn5 ?_
  refine zN hR Z ?_
  simp [zCQ, heq]
/-- moves.Legal -/
theorem legal_ok (r : Go.Ax.Gm.Rules) (hr : Lens r) (p : Pos) (hp : LenP p) (m : Mv) (hl : zCL r p = 0) : zl Tryz.prog 66 [ruA r, poA p, mvA m] (.tup [.bool (decide (m ∈ z7 r p)), .int .i64 0]) := by
 refine zd.value0 (zL (P := Tryz.prog) (fn := Tryz.f66) Z Z (by kernel_rfl) Z (fun c hR hfix => ?_)) (fix := fun _ => False) (fun _ h => h) Z Z
 obtain ⟨hz, S⟩ := zDq hl
 have ca := all_ok r hr p hp
 rw [hl, if_neg (by decide)] at ca
 have cc := zMK (z7 r p) m (by have := zE7 (zBO hz) S; omega)
 rw [any_isM] at cc
 refine rn6 ?_
 refine zQ Z Z Z ca ?_
 refine rn6 ?_
 refine zQ Z Z Z cc ?_
 refine rn0 ?_
 exact zN hR Z Z
/-- moves.After, a legal move -/
theorem after_ok (r : Go.Ax.Gm.Rules) (hr : Lens r) (p : Pos) (m : Mv) (hz : zAk r = 0) (S : Sound r p) (hm : m ∈ z7 r p) : zl Tryz.prog 33 [ruA r, poA p, mvA m] (.tup [poA (zAK r p m), .int .i64 0]) := by
 refine zd.value0 (zL (P := Tryz.prog) (fn := Tryz.f33) Z Z (by kernel_rfl) Z (fun c hR hfix => ?_)) (fix := fun _ => False) (fun _ h => h) Z Z
 have hv := zBO hz
 have cl := legal_ok r hr p (zAu hv S).len m (zDi hz S)
 rw [decide_eq_true hm] at cl
 refine rn6 ?_
 refine zQ Z Z Z cl ?_
 refine rn6 ?_
 refine zQ Z Z Z (zLx r hv p S m (Go.Ax.Gm.list_ok hv S hm)) ?_
 skip
 refine zW (poC (zAK r p m)) Z Z Z Z Z Z Z ?_
 refine rn0 ?_
 exact zN hR Z Z
theorem zI0 : zl Tryz.prog 50 [] (poA (zBL two)) := by
 refine zd.value0 (zL (P := Tryz.prog) (fn := Tryz.f50) Z Z (by kernel_rfl) Z (fun c hR hfix => ?_)) (fix := fun _ => False) (fun _ h => h) Z Z
 refine rn8 ?_
 refine zAz 5 (poA (zBL two)) Z (zLg ⟨AEq.ro Z (fun d j hd hj => by
  have hj : j < 1 := hj
  obtain rfl : j = 0 := by omega
  match d, hd with
  | 0, _ => rfl
  | 1, _ => rfl
  ), AEq.ro rfl (fun d j hd hj => by
  have hj : j < 1 := hj
  obtain rfl : j = 0 := by omega
  match d, hd with
  | 0, _ => rfl
  ), AEq.ro rfl (fun d j hd hj => by
  have hj : j < 1 := hj
  obtain rfl : j = 0 := by omega
  match d, hd with
  | 0, _ => rfl
  ), AEq.rfl', AEq.rfl', trivial⟩) ?_
 refine zW (poC (zBL two)) Z Z Z Z Z Z Z ?_
 refine rn0 ?_
 exact zN hR Z Z
theorem two_ok' : zl Tryz.prog 49 [] (ruA two) := by
 refine zd.value0 (zL (P := Tryz.prog) (fn := Tryz.f49) Z Z (by kernel_rfl) Z (fun c hR hfix => ?_)) (fix := fun _ => False) (fun _ h => h) Z Z
 refine rn8 ?_
 refine zAz 6 (ruA two) Z (zLg ⟨AEq.rfl', AEq.rfl', AEq.rfl', AEq.ro_in Z (fun d j hd hj => by
  have hd : d < 1 := hd
  obtain rfl : d = 0 := by omega
  have hj : j < 4 := hj
  match j, hj with
  | 0, _ => exact AEq.rfl'
  | 1, _ => exact AEq.rfl'
  | 2, _ => exact AEq.rfl'
  | 3, _ => exact AEq.nil
  ), AEq.ro rfl (fun d j hd hj => by
  have hj : j < 1 := hj
  obtain rfl : j = 0 := by omega
  match d, hd with
  | 0, _ => rfl
  | 1, _ => rfl
  ), AEq.rfl', AEq.rfl', AEq.ro_in rfl (fun d j hd hj => by
  have hd : d < 1 := hd
  obtain rfl : d = 0 := by omega
  have hj : j < 4 := hj
  match j, hj with
  | 0, _ => exact AEq.rfl'
  | 1, _ => exact AEq.rfl'
  | 2, _ => exact AEq.rfl'
  | 3, _ => exact AEq.rfl'
  ), AEq.rfl', AEq.rfl', AEq.rfl', trivial⟩) ?_
 refine zW (ruC two) Z Z Z Z Z Z Z ?_
 refine rn0 ?_
 exact zN hR Z Z
def whW (r : Go.Ax.Gm.Rules) : Int := IntKind.i64.wrap (r.w * r.h)
/-- is there a table of at most so many positions? -/
structure HasT (r : Go.Ax.Gm.Rules) (most : Int) (x : List Pos × List (List Nat)) : Prop where
 wh : ¬ whW r > 9
 pc : ¬ (r.pcs.length : Int) > 3
 e : zDE r = 0
 g : zEF r = some x
 len : ¬ (x.1.length : Int) > most
theorem HasT.tab {r : Go.Ax.Gm.Rules} {most : Int} {x : List Pos × List (List Nat)} (h : HasT r most x) : TabOK (zFK r x) := by
 obtain ⟨h1, h2, _⟩ := zJJ h.e
 exact zL0 h1 h2 h.g
theorem newA_no {r : Go.Ax.Gm.Rules} (h : zDE r ≠ 0) : zE9 r = .nilp := by unfold zE9; rw [if_pos h]
theorem zIF {r : Go.Ax.Gm.Rules} {x : List Pos × List (List Nat)} (h : zDE r = 0) (g : zEF r = some x) : zE9 r = zCt (zFK r x) := by unfold zE9; rw [if_neg (fun c => c h), g]
theorem zM3 (r : Go.Ax.Gm.Rules) (most : Int) (h : whW r > 9) : zl Tryz.prog 14 [ruA r, .int .i64 most] (.tup [.nilp, .bool false]) := by
 refine zd.value0 (zL (P := Tryz.prog) (fn := Tryz.f14) Z Z (by kernel_rfl) Z (fun c hR hfix => ?_)) (fix := fun _ => False) (fun _ h => h) Z Z
 refine rn6 ?_
 refine zA (zGa Z Z Z) ?_
 refine rn6 ?_
 refine zh Z Z (fun q => ?_) (fun q => absurd h q)
 refine rn6 ?_
 exact zN hR Z Z
theorem zM2 (r : Go.Ax.Gm.Rules) (hr : Lens r) (most : Int) (h : ¬ whW r > 9) (h2 : (r.pcs.length : Int) > 3) : zl Tryz.prog 14 [ruA r, .int .i64 most] (.tup [.nilp, .bool false]) := by
 refine zd.value0 (zL (P := Tryz.prog) (fn := Tryz.f14) Z Z (by kernel_rfl) Z (fun c hR hfix => ?_)) (fix := fun _ => False) (fun _ h => h) Z Z
 have hpl := hr.pcs
 refine rn6 ?_
 refine zA (zGa Z Z Z) ?_
 refine rn6 ?_
 refine zh Z Z (fun q => absurd q h) (fun q => ?_)
 refine rn6 ?_
 refine zF Z (fun q => ?_) (fun q => absurd h2 q)
 refine rn2 ?_
 exact zN hR Z Z
theorem zLZ (r : Go.Ax.Gm.Rules) (hr : Lens r) (most : Int) (h : ¬ whW r > 9) (h2 : ¬ (r.pcs.length : Int) > 3) (h3 : zDE r ≠ 0) : zl Tryz.prog 14 [ruA r, .int .i64 most] (.tup [.nilp, .bool false]) := by
 refine zd.value0 (zL (P := Tryz.prog) (fn := Tryz.f14) Z Z (by kernel_rfl) Z (fun c hR hfix => ?_)) (fix := fun _ => False) (fun _ h => h) Z Z
 have hpl := hr.pcs
 have cn := zJp r hr
 rw [newA_no h3] at cn
 refine rn6 ?_
 refine zA (zGa Z Z Z) ?_
 refine rn6 ?_
 refine zh Z Z (fun q => absurd q h) (fun q => ?_)
 refine rn6 ?_
 refine zF Z (fun q => absurd q h2) (fun q => ?_)
 refine rn6 ?_
 refine zQ Z Z Z cn ?_
 refine rn3 ?_
 refine zh Z Z (fun q => ?_) (fun q => absurd h3 q)
 refine rn6 ?_
 exact zN hR Z Z
theorem zLY (r : Go.Ax.Gm.Rules) (hr : Lens r) (most : Int) (x : List Pos × List (List Nat)) (h : ¬ whW r > 9) (h2 : ¬ (r.pcs.length : Int) > 3) (h3 : zDE r = 0) (h4 : zEF r = some x) (h5 : (x.1.length : Int) > most) : zl Tryz.prog 14 [ruA r, .int .i64 most] (.tup [.nilp, .bool false]) := by
 refine zd.value0 (zL (P := Tryz.prog) (fn := Tryz.f14) Z Z (by kernel_rfl) Z (fun c hR hfix => ?_)) (fix := fun _ => False) (fun _ h => h) Z Z
 have hpl := hr.pcs
 have cn := zJp r hr
 rw [zIF h3 h4, h3] at cn
 refine rn6 ?_
 refine zA (zGa Z Z Z) ?_
 refine rn6 ?_
 refine zh Z Z (fun q => absurd q h) (fun q => ?_)
 refine rn6 ?_
 refine zF Z (fun q => absurd q h2) (fun q => ?_)
 refine rn6 ?_
 refine zQ Z Z Z cn ?_
 repeat (first | refine zA (zH rfl) ?_ | refine zA (zP rfl) ?_ | refine zC ?_ | refine zB ?_ | refine zX ?_ | refine zK rfl ?_ | refine zo rfl rfl ?_ | refine zA (zBU rfl rfl) ?_ | refine zA (zf rfl rfl) ?_ | refine zA (zAi rfl rfl) ?_ | refine zA (zJt rfl rfl rfl rfl) ?_)
 refine zQ Z Z Z (zGh (zFK r x)) ?_
 refine rn6 ?_
 refine zF Z (fun q => ?_) (fun q => absurd h5 q)
 refine rn2 ?_
 exact zN hR Z Z
theorem zLa (r : Go.Ax.Gm.Rules) (hr : Lens r) (most : Int) (x : List Pos × List (List Nat)) (h : HasT r most x) : zl Tryz.prog 14 [ruA r, .int .i64 most] (.tup [zCt (zFK r x), .bool true]) := by
 refine zd.value0 (zL (P := Tryz.prog) (fn := Tryz.f14) Z Z (by kernel_rfl) Z (fun c hR hfix => ?_)) (fix := fun _ => False) (fun _ h => h) Z Z
 obtain ⟨h, h2, h3, h4, h5⟩ := h
 have hpl := hr.pcs
 have cn := zJp r hr
 rw [zIF h3 h4, h3] at cn
 refine rn6 ?_
 refine zA (zGa Z Z Z) ?_
 refine rn6 ?_
 refine zh Z Z (fun q => absurd q h) (fun q => ?_)
 refine rn6 ?_
 refine zF Z (fun q => absurd q h2) (fun q => ?_)
 refine rn6 ?_
 refine zQ Z Z Z cn ?_
 repeat (first | refine zA (zH rfl) ?_ | refine zA (zP rfl) ?_ | refine zC ?_ | refine zB ?_ | refine zX ?_ | refine zK rfl ?_ | refine zo rfl rfl ?_ | refine zA (zBU rfl rfl) ?_ | refine zA (zf rfl rfl) ?_ | refine zA (zAi rfl rfl) ?_ | refine zA (zJt rfl rfl rfl rfl) ?_)
 refine zQ Z Z Z (zGh (zFK r x)) ?_
 refine rn6 ?_
 refine zF Z (fun q => absurd q h5) (fun q => ?_)
 refine rn1 ?_
 exact zN hR Z Z
/-- solved: no table, or one -/
theorem zM1 (r : Go.Ax.Gm.Rules) (hr : Lens r) (most : Int) : zl Tryz.prog 14 [ruA r, .int .i64 most] (.tup [.nilp, .bool false]) ∨ ∃ x, HasT r most x ∧ zl Tryz.prog 14 [ruA r, .int .i64 most] (.tup [zCt (zFK r x), .bool true]) := by
 by_cases h : whW r > 9
 ·exact .inl (zM3 r most h)
 by_cases h2 : (r.pcs.length : Int) > 3
 ·exact .inl (zM2 r hr most h h2)
 by_cases h3 : zDE r = 0
 ·obtain ⟨_, _, x, h4⟩ := zJJ h3
  by_cases h5 : (x.1.length : Int) > most
  ·exact .inl (zLY r hr most x h h2 h3 h4 h5)
  ·exact .inr ⟨x, ⟨h, h2, h3, h4, h5⟩, zLa r hr most x ⟨h, h2, h3, h4, h5⟩⟩
 ·exact .inl (zLZ r hr most h h2 h3)
theorem zH9 : Lens two := ⟨by decide, by decide, by decide, by decide, by decide⟩
theorem zM6 : Sound two (zBL two) := zEv (zBO zG4)
/-- retroFact -/
theorem zIO : zl Tryz.prog 13 [] (.bool true) := by
 refine zd.value0 (zL (P := Tryz.prog) (fn := Tryz.f13) Z Z (by kernel_rfl) Z (fun c hR hfix => ?_)) (fix := fun _ => False) (fun _ h => h) Z Z
 have cn := zJp two zH9
 rw [zIF zL6 zIf, zL6, zL7] at cn
 have hl := (zAu two_ok.v zM6).len
 have co := of_ok zEo two_ok zH9 (zBL two) hl
 rw [two_of, zKy] at co
 have ca := at_ok zEo two_ok 0
 have e0 : atE zEo 0 = 0 := by decide
 have e1 : atP zEo 0 = zBL two := by unfold atP; rw [e0]; rfl
 have e2 : atX zEo 0 = (2, 2) := by unfold atX; rw [e0]; rfl
 rw [e0, e1, e2] at ca
 have cb := zLn zEo two_ok zH9 (zBL two) hl
 rw [zKx.1, zKx.2] at cb
 have cl := long_ok zEo two_ok
 rw [two_long] at cl
 refine rn0 ?_
 refine zQ Z Z Z two_ok' ?_
 skip
 refine zQ Z Z Z cn ?_
 repeat (first | refine zA (zH rfl) ?_ | refine zA (zP rfl) ?_ | refine zC ?_ | refine zB ?_ | refine zX ?_ | refine zK rfl ?_ | refine zo rfl rfl ?_ | refine zAX rfl ?_ | refine zAL ?_ | refine zA (zBU rfl rfl) ?_ | refine zA (zf rfl rfl) ?_ | refine zA (zAi rfl rfl) ?_ | refine zA (zJt rfl rfl rfl rfl) ?_)
 refine zQ Z Z Z zI0 ?_
 skip
 refine zQ Z Z Z co ?_
 refine rn4 ?_
 refine zW (zBg (2, 2)) Z Z Z Z Z Z Z ?_
 refine rn0 ?_
 refine zQ Z Z Z ca ?_
 refine rn4 ?_
 refine zW (poC (zBL two)) Z Z Z Z Z Z Z ?_
 skip
 refine zW (zBg (2, 2)) Z Z Z Z Z Z Z ?_
 refine rn0 ?_
 refine zQ Z Z Z zI0 ?_
 skip
 refine zQ Z Z Z cb ?_
 refine rn3 ?_
 refine zQ Z Z Z (fineI [0, 0, 0] (by decide)) ?_
 refine rn2 ?_
 refine zQ Z Z Z (zGh zEo) ?_
 repeat (first | refine zA (zH rfl) ?_ | refine zo rfl rfl ?_ | refine zA (zU rfl rfl rfl rfl rfl) ?_ | refine zA (zBx rfl rfl) ?_ | refine zA (zf rfl rfl) ?_ | refine zA (zBD rfl rfl rfl) ?_ | refine zA (zDR rfl rfl rfl rfl rfl rfl) ?_ | refine zA (zM rfl rfl rfl rfl rfl rfl) ?_ | refine zA (zEc rfl rfl rfl (by kernel_rfl) (by kernel_rfl) (by kernel_rfl) rfl) ?_ | refine zA (qpp rfl rfl rfl rfl rfl rfl rfl) ?_ | refine zAC rfl rfl rfl rfl rfl rfl rfl rfl rfl rfl rfl ?_)
 refine zAz 69 (zBX [⟨-1, 0, 0⟩, ⟨-1, 1, 0⟩]) Z (AEq.ro Z (fun d j hd hj => ?_)) ?_
 ·have hj : j < 3 := hj
  match d, hd, j, hj with
  | 0, _, 0, _ => rfl
  | 0, _, 1, _ => rfl
  | 0, _, 2, _ => rfl
  | 1, _, 0, _ => rfl
  | 1, _, 1, _ => rfl
  | 1, _, 2, _ => rfl
 refine zQ Z Z Z (zLr [⟨-1, 0, 0⟩, ⟨-1, 1, 0⟩] [⟨-1, 0, 0⟩, ⟨-1, 1, 0⟩] (by decide) (by decide)) ?_
 refine rn2 ?_
 refine zQ Z Z Z cl ?_
 refine rn3 ?_
 refine zQ Z Z Z (equalI [0] [0] (by decide) (by decide)) ?_
 refine rn2 ?_
 exact zN hR Z Z
/-- after: the moves, and the entries after them -/
theorem zMD (T : Tab) (h : TabOK T) (hr : Lens T.r) (p : Pos) (S : Sound T.r p) (hf : ∀ m ∈ z7 T.r p, zBi T (zAK T.r p m) = 0) : zl Tryz.prog 23 [ruA T.r, zCt T, poA p] (.tup [zBX (z7 T.r p), .ro (zBB (zBG T p)) 0 (zBG T p).length, .bool true]) := by
 refine zd.value0 (zL (P := Tryz.prog) (fn := Tryz.f23) Z Z (by kernel_rfl) Z (fun c hR hfix => ?_)) (fix := fun _ => False) (fun _ h => h) Z Z
 have ca := all_ok T.r hr p (zAu h.v S).len
 rw [zDi h.z S, if_neg (by decide)] at ca
 have hml := zE7 h.v S
 have hms : ∀ m ∈ z7 T.r p, Sound T.r (zAK T.r p m) := fun m hm => zEX h.v S (Go.Ax.Gm.list_ok h.v S hm)
 have hca := fun m (hm : m ∈ z7 T.r p) => after_ok T.r hr p m h.z S hm
 have hA : zBG T p = (z7 T.r p).map (fun m => ofT T (zAK T.r p m)) := rfl
 generalize hM : z7 T.r p = ms at *
 refine zX ?_
 repeat (first | refine zA (zP rfl) ?_ | refine zC ?_ | refine zB ?_ | refine zK rfl ?_ | refine zAo rfl rfl ?_)
 refine zEO 3 5 [(1, zCt T)] Z Z Z Z ⟨Z, trivial⟩ ⟨Z, Z, Z, trivial⟩ Z hfix ?_
 refine rn6 ?_
 refine zQ Z Z Z ca ?_
 refine zAn ?_
 refine zK Z ?_
 repeat (first | refine zA (zH rfl) ?_ | refine zC ?_ | refine zB ?_ | refine zX ?_ | refine zAX rfl ?_ | refine zAL ?_ | refine zA (zBU rfl rfl) ?_)
 refine zK Z ?_
 refine zAn ?_
 refine zBZ 11 ⟨37, zBB []⟩ Z Z ?_
 refine rn3 ?_
 refine zx (ι := Nat) (fun k => [(3, .rp (.box (ruC T.r)) 0 0), (5, .rp (.box (poC p)) 0 0), (1, zCt T), (9, zBX ms), (11, .sl 0 0 ((ms.take k).map (fun m => ofT T (zAK T.r p m))).length), (26, zBX ms), (27, iN ms.length), (28, iN k)]) (fun k => [some ⟨37, zBB ((ms.take k).map (fun m => ofT T (zAK T.r p m)))⟩]) (fun k => k ≤ ms.length) (fun k => ms.length - k) 0 ⟨⟨Z, Z, Z, Z, Z, Z, Z, Z, trivial⟩, Z, Nat.zero_le _⟩ ?_
 intro k hk
 refine rn4 ?_
 refine zF Z (fun g => ?_) (fun g => ?_)
 ·have hk' : k < ms.length := by omega
  have hmem : ms.getD k mv0 ∈ ms := zAp mv0 hk'
  have htk : (ms.take (k + 1)).map (fun m => ofT T (zAK T.r p m)) = (ms.take k).map (fun m => ofT T (zAK T.r p m)) ++ [ofT T (zAK T.r p (ms.getD k mv0))] := by
   rw [zz ms mv0 k hk', List.map_append]; rfl
  have hlk : ((ms.take k).map (fun m => ofT T (zAK T.r p m))).length ≤ 10000 := by rw [List.length_map, List.length_take]; omega
  generalize hO : (ms.take k).map (fun m => ofT T (zAK T.r p m)) = O at htk hlk
  obtain ⟨m, hm⟩ : ∃ m, ms.getD k mv0 = m := ⟨_, rfl⟩
  rw [hm] at hmem htk
  have co := of_ok T h hr (zAK T.r p m) (zAu h.v (hms m hmem)).len
  rw [hf m hmem] at co
  refine zF6 ?_
  repeat (refine zAS rfl rfl rfl ?_)
  refine zW (mvC m) Z Z Z Z Z (by rw [← hm]; rfl) Z ?_
  refine rn6 ?_
  refine zQ Z Z Z (hca m hmem) ?_
  refine rn4 ?_
  refine zW (poC (zAK T.r p m)) Z Z Z Z Z Z Z ?_
  refine rn6 ?_
  refine zQ Z Z Z co ?_
  refine rn4 ?_
  refine zW (zBg (ofT T (zAK T.r p m))) Z Z Z Z Z Z Z ?_
  refine rn3 ?_
  refine zQ Z Z Z (fineI [0, 0] (by decide)) ?_
  refine rn6 ?_
  refine zBQ [ofT T (zAK T.r p m)] Z Z Z Z Z Z Z Z Z Z Z Z Z (by show 0 + 1 ≤ 1; omega) (fun k' j' hk' hj' => ?_) (by show (O.length + 1) * 16 ≤ _ ∧ _; omega) (fun a j k _ => zEU a j k) (by rw [hfix]; exact fun h => h) ?_
  ·obtain rfl : k' = 0 := Nat.lt_one_iff.1 hk'
   match j', hj' with
   | 0, _ => rfl
   | 1, _ => rfl
  refine rn10 ?_
  refine zB ?_
  refine zCR [some ⟨37, zBB (O ++ [ofT T (zAK T.r p m)])⟩] [some ⟨58, .box (mvC m)⟩, some ⟨35, .box (poC (zAK T.r p m))⟩, some ⟨37, .box (zBg (ofT T (zAK T.r p m)))⟩] [(3, .rp (.box (ruC T.r)) 0 0), (5, .rp (.box (poC p)) 0 0), (1, zCt T), (9, zBX ms), (11, .sl 0 0 (O.length + 1)), (26, zBX ms), (27, iN ms.length), (28, iN k)] Z ⟨Z, Z, Z, Z, Z, Z, Z, Z, trivial⟩ (fun h q => by rw [hfix] at q; exact q.elim) (zCF (zHy _) zBr) Z ?_
  refine rn3 ?_
  refine zS ⟨k + 1, by omega, by omega, ⟨Z, Z, Z, Z, ?_, Z, Z, Z, trivial⟩, ?_⟩
  ·rw [htk, List.length_append]; rfl
  ·rw [htk]
 ·have hk' : k = ms.length := by omega
  subst hk'
  rw [List.take_length, ← hA]
  refine zAn ?_
  refine zCf 0 11 (zBG T p).length [(9, zBX ms)] Z (zGM _) Z (Nat.le_refl _) ⟨Z, trivial⟩ ?_
  refine rn0 ?_
  exact zN hR Z Z
theorem at_yes {T : Tab} {i : Nat} (hi : i < T.l.length) : atE T (i : Int) = 0 ∧ atP T (i : Int) = T.l.getD i zj ∧ atX T (i : Int) = zAI T i := by
 have e : atE T (i : Int) = 0 := by unfold atE; rw [if_neg (by omega)]
 exact ⟨e, by unfold atP; rw [e, if_neg (by decide), Int.toNat_natCast], by unfold atX; rw [e, if_neg (by decide), Int.toNat_natCast]⟩
theorem zK3 {T : Tab} (h : TabOK T) {i : Nat} (hi : i < T.l.length) (hr : zq T.r (T.l.getD i zj) = 0) : ∀ m ∈ z7 T.r (T.l.getD i zj), zBi T (zAK T.r (T.l.getD i zj) m) = 0 := fun m hm => by
 obtain ⟨k, hk, rfl⟩ := List.mem_iff_getElem.1 hm
 have := (h.next hi hr hk).2.1
 rwa [zCj mv0 hk] at this
theorem zME {T : Tab} (h : TabOK T) {i : Nat} (hi : i < T.l.length) (hr : zq T.r (T.l.getD i zj) = 0) : (∀ x ∈ zBG T (T.l.getD i zj), 0 ≤ x.2 ∧ x.2 ≤ 3000) ∧ (zBG T (T.l.getD i zj)).length ≤ 10000 := by
 refine ⟨fun x hx => ?_, ?_⟩
 ·rw [h.after hi hr] at hx
  obtain ⟨k, hk, rfl⟩ := List.mem_map.1 hx
  obtain ⟨j, hj, rfl⟩ := List.mem_iff_getElem.1 hk
  have := (h.next hi hr (by rw [← h.nlen hi hr]; exact hj)).1
  rw [Go.Ax.Gm.get_at _ hj] at this
  exact ⟨h.plies this, h.plies_le this⟩
 ·unfold zBG
  rw [List.length_map]
  exact zE7 h.v (h.sound hi).1
end Go.Proofs.YtiifcejepaeepaaGreatDoor
namespace Go.Proofs.YtiifcejepaeepaaGreatDoor
open Go.Ax Go.Ax.Idx
attribute [local irreducible] Ax zB4 QOp zd
def zHH (a n : Int) : Int := IntKind.u64.wrap a % n
theorem zKj (a n : Int) (hn : 0 < n) : 0 ≤ zHH a n ∧ zHH a n < n := ⟨Int.emod_nonneg _ (by omega), Int.emod_lt_of_pos _ hn⟩
theorem pick (a n : Int) (hn : 0 < n ∧ n ≤ 1000000) : zl Tryz.prog 25 [.int .i64 a, .int .i64 n] (.int .i64 (zHH a n)) := by
 refine zd.value0 (zL (P := Tryz.prog) (fn := Tryz.f25) Z Z (by kernel_rfl) Z (fun c hR hfix => ?_)) (fix := fun _ => False) (fun _ h => h) Z Z
 have hw : 0 ≤ IntKind.u64.wrap a := by rw [IntKind.wrap_u64]; omega
 have hwn : IntKind.u64.wrap n = n := by rw [IntKind.wrap_u64]; omega
 have hb := zKj a n hn.1
 refine rn0 ?_
 refine zA (zIJ (k' := .u64) Z Z Z) ?_
 repeat (refine zA (zH rfl) ?_)
 refine zA (zIJ (k' := .u64) Z Z Z) ?_
 rw [hwn]
 generalize hz : IntKind.u64.wrap a = z at *
 have hpf : zHH a n = z % n := by unfold zHH; rw [hz]
 refine zA (zJR Z Z (by omega)) ?_
 rw [← hpf]
 refine zA (zKm Z Z Z (by omega)) ?_
 refine rn0 ?_
 exact zN hR Z Z
theorem pickN (a : Int) (n : Nat) (h : 0 < n ∧ n ≤ 1000000) : ∃ x : Nat, x < n ∧ zl Tryz.prog 25 [.int .i64 a, .int .i64 (n : Nat)] (.int .i64 (x : Nat)) := by
 have hb := zKj a n (by omega)
 refine ⟨(zHH a n).toNat, by omega, ?_⟩
 have := pick a n (by omega)
 rwa [show ((zHH a n).toNat : Int) = zHH a n by omega]
end Go.Proofs.YtiifcejepaeepaaGreatDoor
namespace Go.Proofs.YtiifcejepaeepaaGreatDoor
open Go.Ax Go.Ax.Gm Go.RowKit Go.Ax.Idx Go.Ax.Cd
attribute [local irreducible] Ax zB4 QOp zd
theorem zKd {T : Tab} (l : List Nat) (k : Nat) (h : k < l.length) : (l.map (fun k => zAI T k)).getD k (0, 0) = zAI T (l.getD k 0) := by
 rw [List.getD, List.getElem?_map, List.getElem?_eq_getElem h, List.getD, List.getElem?_eq_getElem h]; rfl
/-- RetroBests -/
theorem zHg (r : Go.Ax.Gm.Rules) (n : Int) (hr : Lens r) : zl Tryz.prog 5 [ruA r, .int .i64 n] (.bool true) := by
 rcases zM1 r hr 400 with cs | ⟨x, hx, cs⟩
 ·refine zd.value0 (zL (P := Tryz.prog) (fn := Tryz.f5) Z Z (by kernel_rfl) Z (fun c hR hfix => ?_)) (fix := fun _ => False) (fun _ h => h) Z Z
  refine rn6 ?_
  refine zQ Z Z Z zIO ?_
  refine rn6 ?_
  refine zQ Z Z Z cs ?_
  refine rn6 ?_
  exact zN hR Z Z
 have hT := hx.tab
 obtain ⟨T, eT⟩ : ∃ T, zFK r x = T := ⟨_, rfl⟩
 have er : T.r = r := by rw [← eT]; rfl
 rw [eT] at hT cs
 clear eT hx
 subst er
 have hmost := hT.G.most
 have hpos := hT.G.fst.2
 obtain ⟨i, hi, cp⟩ := pickN n T.l.length ⟨hpos, by omega⟩
 have ca := at_ok T hT (i : Int)
 obtain ⟨a1, a2, a3⟩ := at_yes hi
 rw [a1, a2, a3] at ca
 have S := (hT.sound hi).1
 have hlp := (zFb hT hi).len
 have ce := endOf_ok T.r hr (T.l.getD i zj) hlp
 rw [zDi hT.z S, if_neg (by decide)] at ce
 have cb := zLn T hT hr (T.l.getD i zj) hlp
 have hover := fun q => hT.best_over S (hT.in_at hi).1 q
 have hsome := fun q => hT.best_some S (hT.in_at hi).1 q
 have hbis := fun q => (hT.best_is S (hT.in_at hi).1 q).1
 have hfew := zME hT hi
 have hfnd := zK3 hT hi
 have haft := fun q => hT.after hi q
 have hnlen := fun q => hT.nlen hi q
 have hnlt := fun q k (hk : k < (z7 T.r (T.l.getD i zj)).length) => (hT.next hi q hk).1
 have cA := zMD T hT hr (T.l.getD i zj) S
 have hml := zE7 hT.v S
 have hbl : zDH T (T.l.getD i zj) = 0 → zq T.r (T.l.getD i zj) = 0 → zBR T (T.l.getD i zj) = zBA T i (z7 T.r (T.l.getD i zj)) (z7 T.r (T.l.getD i zj)).length := fun q q2 => by
  have em : zCl T (T.l.getD i zj) = z7 T.r (T.l.getD i zj) := by
   unfold zCl
   rw [hT.idx hi, (zBd q2 S.tn).1]
  unfold zBR
  rw [if_neg (fun c => c q), em, hT.idx hi]; rfl
 generalize hP : T.l.getD i zj = P at *
 refine zd.value0 (zL (P := Tryz.prog) (fn := Tryz.f5) Z Z (by kernel_rfl) Z (fun c hR hfix => ?_)) (fix := fun _ => False) (fun _ h => h) Z Z
 refine zX ?_
 repeat (first | refine zA (zP rfl) ?_ | refine zC ?_ | refine zB ?_ | refine zK rfl ?_ | refine zAo rfl rfl ?_)
 refine zB5 2 [(1, .int .i64 n)] Z ⟨Z, Z, trivial⟩ ⟨Z, trivial⟩ Z hfix ?_
 refine rn0 ?_
 refine zQ Z Z Z zIO ?_
 refine rn6 ?_
 refine zQ Z Z Z cs ?_
 refine rn5 ?_
 refine zQ Z Z Z (zGh T) ?_
 refine rn4 ?_
 refine zF Z (fun q => ?_) (fun q => ?_)
 ·exact absurd q (by omega)
 refine rn1 ?_
 refine zQ Z Z Z (zGh T) ?_
 skip
 refine zQ Z Z Z cp ?_
 skip
 refine zQ Z Z Z ca ?_
 refine rn4 ?_
 refine zW (poC P) Z Z Z Z Z Z Z ?_
 skip
 refine zW (zBg (zAI T i)) Z Z Z Z Z Z Z ?_
 refine zAn ?_
 refine zEO 7 8 [(2, .rp (.box (ruC T.r)) 0 0), (5, zCt T), (9, .int .i64 0)] Z Z Z Z ⟨Z, Z, Z, trivial⟩ ⟨Z, Z, Z, Z, Z, trivial⟩ Z hfix ?_
 refine rn6 ?_
 refine zQ Z Z Z cb ?_
 refine rn6 ?_
 refine zQ Z Z Z ce ?_
 refine rn3 ?_
 refine zQ Z Z Z (fineI [0, 0] (by decide)) ?_
 refine rn5 ?_
 refine zF Z (fun q => ?_) (fun q => ?_)
 ·have e := hover q
  have e2 : zBR T P = [] := by unfold zBR; rw [e, if_pos (by decide)]
  rw [e, e2]
  refine rn4 ?_
  exact zN hR Z Z
 have q : zq T.r P = 0 := Classical.not_not.1 q
 obtain ⟨_, _, s3⟩ := hsome q
 have b0 := hbis q
 have hbl := hbl b0 q
 obtain ⟨hf1, hf2⟩ := hfew q
 have haft := haft q
 have hnlen := hnlen q
 have hnlt := hnlt q
 have hne : ¬ ((zBR T P).length : Int) = 0 := fun c => s3 (List.length_eq_zero_iff.1 (by omega))
 have hblen : (zBR T P).length ≤ 10000 := by
  rw [hbl]
  exact Nat.le_trans (zFt ..) hml
 have cA := cA (hfnd q)
 rw [b0]
 generalize hM : z7 T.r P = ms at *
 have hAl : (zBG T P).length = ms.length := by rw [haft, List.length_map, hnlen]
 refine rn6 ?_
 refine zQ Z Z Z cA ?_
 refine rn5 ?_
 refine zF Z (fun q => ?_) (fun q => ?_)
 ·exact absurd q hne
 refine rn20 ?_
 refine zK Z ?_
 refine zAn ?_
 refine zBZ 17 ⟨58, zBI []⟩ Z Z ?_
 refine rn3 ?_
 clear hover hsome hbis hfew hfnd ce ca cb cA cp cs a1 a2 a3 S hlp hf1 hf2 s3 hne b0 q
 refine zx (ι := Nat) (fun k => [(8, .rp (.box (zBg (zAI T i))) 0 0), (10, zBX (zBR T P)), (14, zBX ms), (17, .sl 0 0 (zBA T i ms k).length), (91, .ro (zBB (zBG T P)) 0 (zBG T P).length), (92, iN ((zBG T P).length)), (93, iN k)]) (fun k => [some ⟨58, zBI (zBA T i ms k)⟩]) (fun k => k ≤ ms.length) (fun k => ms.length - k) 0 ⟨⟨Z, Z, Z, Z, Z, Z, Z, trivial⟩, Z, Nat.zero_le _⟩ ?_
 intro k hk
 have hbl2 := zFt T i ms k
 refine rn4 ?_
 refine zF Z (fun g => ?_) (fun g => ?_)
 ·have hk' : k < ms.length := by omega
  have hj := hnlt k hk'
  have hbs := zHA T i ms k
  have hwant := hT.want hi hj
  have hgk : (zBG T P).getD k (0, 0) = zAI T ((T.nx.getD i []).getD k 0) := by
   rw [haft]; exact zKd _ _ (by omega)
  obtain ⟨y, hy⟩ : ∃ y, zAI T ((T.nx.getD i []).getD k 0) = y := ⟨_, rfl⟩
  rw [hy] at hgk hbs hwant
  have hpl := hT.plies hi
  have hpu := hT.plies_le hi
  refine zF6 ?_
  refine rn4 ?_
  refine zW (zBg y) Z Z Z Z Z (by rw [← hgk]; rfl) Z ?_
  refine zAn ?_
  refine zEP [some ⟨58, zBI (zBA T i ms k)⟩] 19 [(8, .rp (.box (zBg (zAI T i))) 0 0), (10, zBX (zBR T P)), (14, zBX ms), (17, .sl 0 0 (zBA T i ms k).length), (91, .ro (zBB (zBG T P)) 0 (zBG T P).length), (92, iN ((zBG T P).length)), (93, iN k), (18, iN k)] Z Z ⟨Z, Z, Z, Z, Z, Z, Z, Z, trivial⟩ ⟨Z, Z, Z, Z, Z, Z, Z, Z, Z, trivial⟩ (zCF (zFZ _) zBr) Z (fun h q => by rw [hfix] at q; exact q.elim) ?_
  repeat (first | refine zA (zH rfl) ?_ | refine zK rfl ?_ | refine zA (zBx rfl rfl) ?_ | refine zA (zD rfl rfl rfl rfl) ?_ | refine zA (zI rfl rfl rfl rfl rfl rfl) ?_)
  apply zAD (H := [some ⟨58, zBI (zBA T i ms k)⟩]) [(19, .rp (.box (zBg y)) 0 0), (8, .rp (.box (zBg (zAI T i))) 0 0), (10, zBX (zBR T P)), (14, zBX ms), (17, .sl 0 0 (zBA T i ms k).length), (91, .ro (zBB (zBG T P)) 0 (zBG T P).length), (92, iN ((zBG T P).length)), (93, iN k), (18, iN k), (115, .bool (decide (y = zCE (zAI T i))))]
  ·intro fin
   skip
   refine zh Z Z (fun c1 => ?_) (fun c1 => ?_)
   ·have c1 : y.1 = (zAI T i).1 := c1
    refine zAn ?_
    refine zh Z Z (fun c2 => ?_) (fun c2 => ?_)
    ·refine zAn ?_
     exact fin _ ⟨Z, Z, Z, Z, Z, Z, Z, Z, Z, by rw [decide_eq_true (hwant.2 ⟨c1, .inl c2⟩)]; rfl, trivial⟩
    ·refine zAn ?_
     refine fin _ ⟨Z, Z, Z, Z, Z, Z, Z, Z, Z, ?_, trivial⟩
     show some (AV.bool (decide (y.2 = (zAI T i).2 - 1))) = some (AV.bool (decide (y = zCE (zAI T i))))
     by_cases c3 : y.2 = (zAI T i).2 - 1
     ·rw [decide_eq_true c3, decide_eq_true (hwant.2 ⟨c1, .inr c3⟩)]
     ·rw [decide_eq_false c3, decide_eq_false (fun q => (hwant.1 q).2.elim c2 c3)]
   ·repeat (first | refine zC ?_ | refine zB ?_ | refine zAc rfl rfl ?_ | refine zAN rfl rfl rfl ?_ | refine zA (zf rfl rfl) ?_)
    exact fin _ ⟨Z, Z, Z, Z, Z, Z, Z, Z, Z, by rw [decide_eq_false (fun q => c1 (hwant.1 q).1)]; rfl, trivial⟩
  refine zF Z (fun g2 => ?_) (fun g2 => ?_)
  ·rw [if_pos g2] at hbs
   have hnl : (zBA T i ms (k + 1)).length = (zBA T i ms k).length + 1 := by rw [hbs, List.length_append]; rfl
   refine rn6 ?_
   refine zBQ [ms.getD k mv0] Z Z Z Z Z Z Z Z Z Z Z Z Z (by show 0 + 1 ≤ 1; omega) (fun k' j' hk' hj' => ?_) (by show ((zBA T i ms k).length + 1) * 24 ≤ _ ∧ _; omega) zEY (by rw [hfix]; exact fun h => h) ?_
   ·obtain rfl : k' = 0 := Nat.lt_one_iff.1 hk'
    match j', hj' with
    | 0, _ => rfl
    | 1, _ => rfl
    | 2, _ => rfl
   refine rn5 ?_
   refine zS ⟨k + 1, by omega, by omega, ⟨Z, Z, Z, ?_, Z, Z, Z, trivial⟩, ?_⟩
   ·rw [hnl]; rfl
   ·rw [hbs]; rfl
  ·rw [if_neg g2] at hbs
   refine rn5 ?_
   refine zS ⟨k + 1, by omega, by omega, ⟨Z, Z, Z, ?_, Z, Z, Z, trivial⟩, ?_⟩
   ·rw [hbs]; rfl
   ·rw [hbs]
 ·have hk' : k = ms.length := by omega
  subst hk'
  rw [← hbl] at *
  have ceq := zLr (zBR T P) (zBR T P) (by omega) (by omega)
  rw [decide_eq_true rfl] at ceq
  refine zAn ?_
  refine zCf 0 17 (zBR T P).length [(10, zBX (zBR T P))] Z (zA8 zFY) Z (Nat.le_refl _) ⟨Z, trivial⟩ ?_
  refine rn0 ?_
  refine zQ Z Z Z ceq ?_
  refine rn0 ?_
  exact zN hR Z Z
end Go.Proofs.YtiifcejepaeepaaGreatDoor
namespace Go.Proofs.YtiifcejepaeepaaGreatDoor
open Go.Ax Go.Ax.Gm Go.RowKit
theorem rdWay {H : Type} {enc : TypeId × Value → H} {W : World} : Rd enc Tryz.prog W 143 4 zFM (fun _ => True) :=
 (Rd.struct Tryz.underlying143 (by kernel_rfl) (RdF.cons rfl rfl (Rd.int Tryz.underlying3) (RdF.cons rfl rfl (Rd.int Tryz.underlying3) (RdF.cons rfl rfl (Rd.int Tryz.underlying3) (RdF.cons rfl rfl (Rd.int Tryz.underlying3) RdF.nil))))).map
  (fun a => (⟨a.1, a.2.1, a.2.2.1, a.2.2.2.1⟩ : Go.Ax.Gm.Way)) (fun a h => trivial) (fun a => rfl) (fun a i hi => AEq.rfl')
theorem rdPc {H : Type} {enc : TypeId × Value → H} {W : World} : Rd enc Tryz.prog W 114 4 pcC (fun p => p.ways.length ≤ 9223372036854775807) :=
 (Rd.struct Tryz.underlying114 (by kernel_rfl) (RdF.cons rfl rfl (Rd.int Tryz.underlying5) (RdF.cons rfl rfl (Rd.int Tryz.underlying3) (RdF.cons rfl rfl (Rd.int Tryz.underlying3) (RdF.cons rfl rfl (Rd.slice way0 Tryz.underlying112 (by kernel_rfl) rfl rdWay) RdF.nil))))).map
  (fun a => (⟨a.1, a.2.1, a.2.2.1, a.2.2.2.1⟩ : Go.Ax.Gm.Pc)) (fun a h => h.2.2.2.1.1) (fun a => rfl) (fun a i hi => AEq.rfl')
theorem rdEn {H : Type} {enc : TypeId × Value → H} {W : World} : Rd enc Tryz.prog W 132 4 enC (fun _ => True) :=
 (Rd.struct Tryz.underlying132 (by kernel_rfl) (RdF.cons rfl rfl (Rd.int Tryz.underlying3) (RdF.cons rfl rfl (Rd.int Tryz.underlying3) (RdF.cons rfl rfl (Rd.int Tryz.underlying3) (RdF.cons rfl rfl (Rd.bool Tryz.underlying4) RdF.nil))))).map
  (fun a => (⟨a.1, a.2.1, a.2.2.1, a.2.2.2.1⟩ : Go.Ax.Gm.En)) (fun a h => trivial) (fun a => rfl) (fun a i hi => AEq.rfl')
theorem rdRules {H : Type} {enc : TypeId × Value → H} {W : World} : Rd enc Tryz.prog W 26 11 ruC Lens :=
 (Rd.struct Tryz.underlying26 (by kernel_rfl) (RdF.cons rfl rfl (Rd.str Tryz.underlying9) (RdF.cons rfl rfl (Rd.int Tryz.underlying3) (RdF.cons rfl rfl (Rd.int Tryz.underlying3) (RdF.cons rfl rfl (Rd.slice pc0 Tryz.underlying22 (by kernel_rfl) rfl rdPc) (RdF.cons rfl rfl (Rd.ints Tryz.underlying23 (by kernel_rfl) Tryz.underlying3) (RdF.cons rfl rfl (Rd.bool Tryz.underlying4) (RdF.cons rfl rfl (Rd.bool Tryz.underlying4) (RdF.cons rfl rfl (Rd.slice en0 Tryz.underlying24 (by kernel_rfl) rfl rdEn) (RdF.cons rfl rfl (Rd.int Tryz.underlying3) (RdF.cons rfl rfl (Rd.int Tryz.underlying3) (RdF.cons rfl rfl (Rd.int Tryz.underlying3) RdF.nil)))))))))))).map
  (fun a => (⟨a.1, a.2.1, a.2.2.1, a.2.2.2.1, a.2.2.2.2.1, a.2.2.2.2.2.1, a.2.2.2.2.2.2.1, a.2.2.2.2.2.2.2.1, a.2.2.2.2.2.2.2.2.1, a.2.2.2.2.2.2.2.2.2.1, a.2.2.2.2.2.2.2.2.2.2.1⟩ : Go.Ax.Gm.Rules))
  (fun a h => ⟨h.1, h.2.2.2.1.1, h.2.2.2.1.2, h.2.2.2.2.1.1, h.2.2.2.2.2.2.2.1.1⟩) (fun a => rfl) (fun a i hi => AEq.rfl')
end Go.Proofs.YtiifcejepaeepaaGreatDoor
