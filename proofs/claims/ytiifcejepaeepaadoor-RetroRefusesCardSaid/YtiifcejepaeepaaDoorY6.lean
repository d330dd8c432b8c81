import Derived.Test.YtiifcejepaeepaaDoorY5
set_option linter.unusedVariables false
set_option linter.unusedSimpArgs false
set_option maxRecDepth 100000
set_option maxHeartbeats 4000000
namespace Go.Proofs.YtiifcejepaeepaaDoor
open Go.Ax Go.Ax.Gm Go.RowKit Go.Ax.Idx Go.Ax.Cd
attribute [local irreducible] Ax zB8 QOp ze
/-- moves.Make, player 1 -/
theorem make1_ok (r : Go.Ax.Gm.Rules) (hv : ValidR r) (cs a b : List Int) (qt : Int) (S : Sound r ⟨cs, b, a, 1, qt⟩) (m : Mv) (hm : MvOK r ⟨cs, b, a, 1, qt⟩ m) : zn Tryd.prog 22 [ruA r, poA ⟨cs, b, a, 1, qt⟩, mvA m] (poA (zBf r ⟨cs, b, a, 1, qt⟩ m)) := by
 refine ze.value0 (zP (P := Tryd.prog) (fn := Tryd.f22) J J (by kernel_rfl) J (fun c hR hfix => ?_)) (fix := fun _ => False) (fun _ h => h) J J
 have SP := zBD hv S
 have hcc : cs.length ≤ 64 := SP.c
 have hcl : (cs.length : Int) = r.w * r.h := S.cl
 have hal : a.length = r.pcs.length := S.l1
 have hn6 := hv.n6
 have hqt : 0 ≤ qt ∧ qt ≤ 200 := S.qt
 have hain : ∀ n ∈ a, 0 ≤ n ∧ n ≤ 1000 := S.c1
 have hC12 := fun s => zHE hv S s
 have hKlt := fun s => zD4 S s
 obtain ⟨m1, m2, m3, m4, m5⟩ := hm
 have m2 : m.to.toNat < cs.length := m2
 have m4 : m.pc.toNat < a.length := by omega
 have m5 : (m.fr = -1 ∧ 0 < a.getD m.pc.toNat 0) ∨ (0 ≤ m.fr ∧ m.fr.toNat < cs.length) := m5
 have hapc := hain _ (zAi 0 m4)
 refine zX ?_
 repeat (first | refine zC ?_ | refine zB ?_ | refine zK rfl ?_ | refine zAp rfl rfl ?_ | refine zAJ rfl rfl rfl ?_)
 refine zAt [some ⟨26, .box (ruC r)⟩, some ⟨29, .box (poC ⟨cs, b, a, 1, qt⟩)⟩, some ⟨53, .box (mvC m)⟩, none] [none, none, none, some ⟨29, .box poZ⟩] [(3, .rp (.box (ruC r)) 0 0), (4, .rp (.box [zq cs, zq b, zq a, .int .i64 1, .int .i64 qt]) 0 0), (5, .rp (.box (mvC m)) 0 0), (6, .ptr 3 0 0)] ?_ (zB6 (zt rfl) (zB6 (zt rfl) (zB6 (zt rfl) (zB7 zCZ)))) rfl ?_ ⟨⟨.ptr 0 0 0, rfl, .inr (.inr ⟨rfl, fun o ho => by cases ho; exact Nat.zero_lt_one⟩)⟩, ⟨.ptr 1 0 0, rfl, .inr (.inr ⟨rfl, fun o ho => by cases ho; exact Nat.zero_lt_one⟩)⟩, ⟨.ptr 2 0 0, rfl, .inr (.inr ⟨rfl, fun o ho => by cases ho; exact Nat.zero_lt_one⟩)⟩, ⟨_, rfl, .inl rfl⟩, trivial⟩ ?_
 ·intro h o ho
  match h, ho with
  | 0, ho => exact ho
  | 1, ho => exact ho
  | 2, ho => exact ho
  | 3, ho => simp at ho
  | _ + 4, ho => simp at ho
 ·intro h o ho
  match h, ho with
  | 0, ho => simp at ho
  | 1, ho => simp at ho
  | 2, ho => simp at ho
  | 3, ho => cases ho; exact ⟨fun o h => by simp at h, _, rfl, rfl, rfl, rfl, fun _ _ _ _ => .inl rfl⟩
  | _ + 4, ho => simp at ho
 refine rn6 ?_
 refine zJT (.agg (poS ⟨cs, b, a, 1, qt⟩ 6)) [none, none, none, some ⟨29, .box poZ⟩, some ⟨29, .box (poS ⟨cs, b, a, 1, qt⟩ 6)⟩, some ⟨29, .box (poS ⟨cs, b, a, 1, qt⟩ 6)⟩, some ⟨3, .ints .i64 cs⟩, some ⟨3, .ints .i64 b⟩, some ⟨3, .ints .i64 a⟩] J J J (zJf _ SP) J J ?_
 repeat (refine zAJ rfl rfl rfl ?_)
 refine zW (poS ⟨cs, b, a, 1, qt⟩ 6) J J J J J J J ?_
 refine zA0 [none, none, none, some ⟨29, .box poZ⟩, none, none, some ⟨3, .ints .i64 cs⟩, some ⟨3, .ints .i64 b⟩, some ⟨3, .ints .i64 a⟩, some ⟨29, .box [.sl 6 0 cs.length, .sl 7 0 b.length, .sl 8 0 a.length, .int .i64 1, .int .i64 qt]⟩] (zAs.drop (zAs.drop (zAs.drop (zAs.eqv (CEq.refl _) (zAs.drop (zAs.drop (zAs.refl _))))))) ?_
 repeat (first | refine zA (zN rfl) ?_ | refine zC ?_ | refine zB ?_ | refine zX ?_ | refine zK rfl ?_ | refine zA (zR rfl rfl rfl rfl rfl) ?_ | refine zA (zDa rfl rfl) ?_ | refine zA (zg rfl rfl rfl rfl rfl (by first | (simp only [Nat.zero_add, Int.toNat_natCast, Int.toNat_zero]; exact rfl) | exact rfl) (by omega)) ?_ | refine zA (zAo rfl rfl rfl rfl (by first | assumption | omega)) ?_ | refine zA (zD rfl rfl rfl rfl) ?_ | refine zA (zL rfl rfl rfl rfl rfl rfl) ?_ | refine zA (zH rfl rfl rfl rfl rfl rfl) ?_)
 obtain ⟨took, htk⟩ : ∃ took, cs.getD m.to.toNat 0 = took := ⟨_, rfl⟩
 have htk2 : zAB ⟨cs, b, a, 1, qt⟩ m.to.toNat = took := htk
 have ht12 := hC12 m.to.toNat
 have htK : took ≠ 0 → zAO took < r.pcs.length := fun q => by
  have h := hKlt m.to.toNat
  rw [htk2] at h
  exact zE3 q h.1 h.2
 rw [htk2] at ht12
 obtain ⟨C1, hC1⟩ : ∃ C1, (if 0 ≤ m.fr then cs.set m.fr.toNat 0 else cs) = C1 := ⟨_, rfl⟩
 obtain ⟨A1, hA1⟩ : ∃ A1, (if 0 ≤ m.fr then a else a.set m.pc.toNat (a.getD m.pc.toNat 0 - 1)) = A1 := ⟨_, rfl⟩
 have hC1l : C1.length = cs.length := by rw [← hC1]; split <;> simp
 have hA1l : A1.length = a.length := by rw [← hA1]; split <;> simp
 have hA1in : ∀ i, -1 ≤ A1.getD i 0 ∧ A1.getD i 0 ≤ 1000 := fun i => by
  rw [← hA1]
  split
  ·by_cases q : i < a.length
   ·have := hain _ (zAi 0 q); omega
   ·rw [List.getD, List.getElem?_eq_none (by omega)]; exact ⟨by decide, by decide⟩
  ·by_cases q : i < a.length
   ·by_cases q2 : m.pc.toNat = i
    ·rw [← q2, List.getD, List.getElem?_set_self m4]; show -1 ≤ a.getD m.pc.toNat 0 - 1 ∧ a.getD m.pc.toNat 0 - 1 ≤ 1000; omega
    ·rw [List.getD, List.getElem?_set_ne q2]; have := hain _ (zAi 0 q); rw [List.getD] at this; omega
   ·rw [List.getD, List.getElem?_eq_none (by rw [List.length_set]; omega)]; exact ⟨by decide, by decide⟩
 refine zBl 8 (.int .i64 took) J (AEq.of_eq (by rw [← htk])) ?_
 apply zAD (H := [none, none, none, some ⟨29, .box poZ⟩, none, none, some ⟨3, .ints .i64 C1⟩, some ⟨3, .ints .i64 b⟩, some ⟨3, .ints .i64 A1⟩, some ⟨29, .box [.sl 6 0 cs.length, .sl 7 0 b.length, .sl 8 0 a.length, .int .i64 1, .int .i64 qt]⟩]) [(3, .rp (.box (ruC r)) 0 0), (4, .rp (.box [zq cs, zq b, zq a, .int .i64 1, .int .i64 qt]) 0 0), (5, .rp (.box (mvC m)) 0 0), (6, .ptr 3 0 0), (7, .ptr 9 0 0), (8, .int .i64 took)]
 ·intro fin
  refine zI J (fun f1 => ?_) (fun f1 => ?_)
  ·have f1 : 0 ≤ m.fr := f1
   rw [if_pos f1] at hC1 hA1
   have f2 : m.fr.toNat < cs.length := by rcases m5 with q | q; omega; exact q.2
   subst hC1 hA1
   repeat (first | refine zC ?_ | refine zB ?_ | refine zK rfl ?_ | refine zA (zR rfl rfl rfl rfl rfl) ?_ | refine zA (zg rfl rfl rfl rfl rfl (by first | (simp only [Nat.zero_add, Int.toNat_natCast, Int.toNat_zero]; exact rfl) | exact rfl) (by omega)) ?_ | refine zA (zD rfl rfl rfl rfl) ?_ | refine zA (zL rfl rfl rfl rfl rfl rfl) ?_ | refine zA (zH rfl rfl rfl rfl rfl rfl) ?_ | refine z8 rfl rfl rfl rfl rfl rfl rfl (by first | assumption | (show _ < List.length _; first | assumption | omega)) ?_)
   exact fin _ ⟨J, J, J, J, J, J, trivial⟩
  ·have f1 : ¬ 0 ≤ m.fr := f1
   rw [if_neg f1] at hC1 hA1
   subst hC1 hA1
   skip
   refine zb (by kernel_rfl) ?_
   refine zi (fuel := 1) [0, 1, 2, 3, 4, 5, 6, 7, 8, 9, 10] [(3, .rp (.box (ruC r)) 0 0), (4, .rp (.box [zq cs, zq b, zq a, .int .i64 1, .int .i64 qt]) 0 0), (5, .rp (.box (mvC m)) 0 0), (6, .ptr 3 0 0), (7, .ptr 9 0 0), (8, .int .i64 took)] ⟨J, J, J, J, J, J, trivial⟩ (by kernel_rfl) (by decide) J J ?_
   refine zJ J J (zH J J J J J J) ?_
   refine zJ J J (zD J J J J) ?_
   refine zJ J J (zL J J J J J J) ?_
   refine zJ J J (zAU J J J J J (by show (0 : Int) ≤ 1 ∧ (1 : Int) < 2; decide)) ?_
   refine zJ J J (zR J J J J J) ?_
   refine zJ J J (zH J J J J J J) ?_
   refine zJ J J (zD J J J J) ?_
   refine zJ J J (zg J J J J J (by first | (simp only [Nat.zero_add, Int.toNat_natCast, Int.toNat_zero]; exact J) | exact J) (by omega)) ?_
   refine zJ J J (zAo J J J J (by first | assumption | omega)) ?_
   refine zJ J J (zA8 J J (by omega)) ?_
   refine zJ J J (zg J J J J J (by first | (simp only [Nat.zero_add, Int.toNat_natCast, Int.toNat_zero]; exact J) | exact J) (by omega)) ?_
   refine z6 ?_
   refine zF (is := [11]) (by kernel_rfl) (by simp) J ⟨fun o ho => ?_, trivial⟩
   all_goals (cases ho)
   refine rn7 ?_
   refine zZ (by kernel_rfl) ?_
   repeat (refine zB ?_)
   exact fin _ ⟨J, J, J, J, J, J, trivial⟩
 obtain ⟨C2, hC2⟩ : ∃ C2, C1.set m.to.toNat (2 * m.pc + 1 + 1) = C2 := ⟨_, rfl⟩
 have hC2l : C2.length = cs.length := by rw [← hC2, List.length_set, hC1l]
 obtain ⟨A2, hA2⟩ : ∃ A2, (if 0 < took ∧ r.keeps = true then A1.set (zAO took) (min (A1.getD (zAO took) 0 + 1) 1000) else A1) = A2 := ⟨_, rfl⟩
 have hmt : m.to.toNat < C1.length := by omega
 have hmt2 : m.to.toNat < (Cells.ints .i64 C1).len := hmt
 obtain ⟨q3, hq3⟩ : ∃ q3, (if 0 < took ∨ m.fr < 0 then 0 else min (qt + 1) 200) = q3 := ⟨_, rfl⟩
 repeat (first | refine zX ?_ | refine zK rfl ?_ | refine zA (zR rfl rfl rfl rfl rfl) ?_ | refine zA (zD rfl rfl rfl rfl) ?_ | refine zA (zL rfl rfl rfl rfl rfl rfl) ?_ | refine zA (zH rfl rfl rfl rfl rfl rfl) ?_)
 refine zA (zCY J J (by omega)) ?_
 repeat (first | refine zA (zG rfl) ?_ | refine zC ?_ | refine zB ?_ | refine zX ?_ | refine zK rfl ?_ | refine zA (zCL rfl rfl) ?_ | refine zA (zAy rfl rfl (by omega)) ?_ | refine zA (zg rfl rfl rfl rfl rfl (by first | (simp only [Nat.zero_add, Int.toNat_natCast, Int.toNat_zero]; exact rfl) | exact rfl) (by omega)) ?_ | refine zA (zD rfl rfl rfl rfl) ?_ | refine zA (zH rfl rfl rfl rfl rfl rfl) ?_ | refine z8 rfl rfl rfl rfl rfl rfl rfl (by first | assumption | (show _ < List.length _; first | assumption | omega)) ?_)
 refine zAb [none, none, none, some ⟨29, .box poZ⟩, none, none, some ⟨3, .ints .i64 C2⟩, some ⟨3, .ints .i64 b⟩, some ⟨3, .ints .i64 A1⟩, some ⟨29, .box [.sl 6 0 cs.length, .sl 7 0 b.length, .sl 8 0 a.length, .int .i64 1, .int .i64 qt]⟩] (by rw [← hC2]; rfl) ?_
 apply zAD (H := [none, none, none, some ⟨29, .box poZ⟩, none, none, some ⟨3, .ints .i64 C2⟩, some ⟨3, .ints .i64 b⟩, some ⟨3, .ints .i64 A2⟩, some ⟨29, .box [.sl 6 0 cs.length, .sl 7 0 b.length, .sl 8 0 a.length, .int .i64 1, .int .i64 qt]⟩]) [(3, .rp (.box (ruC r)) 0 0), (4, .rp (.box [zq cs, zq b, zq a, .int .i64 1, .int .i64 qt]) 0 0), (5, .rp (.box (mvC m)) 0 0), (6, .ptr 3 0 0), (7, .ptr 9 0 0), (8, .int .i64 took)]
 ·intro fin
  refine zh J J (fun f1 => ?_) (fun f1 => ?_)
  ·have f1 : 0 < took := f1
   refine zAz ?_
   refine zAK J (fun f2 => ?_) (fun f2 => ?_)
   ·rw [if_pos ⟨f1, f2⟩] at hA2
    have hKl : zAO took < A1.length := by have := htK (by omega); omega
    have hKl2 : zAO took < (Cells.ints .i64 A1).len := hKl
    have hKC : (took - 1) / 2 = ((zAO took : Nat) : Int) := by unfold zAO; rw [Int.tdiv_eq_ediv_of_nonneg (by omega)]; omega
    have hKin := hA1in (zAO took)
    generalize zAO took = K at hA2 hKl hKl2 hKC hKin
    refine zX ?_
    repeat (first | refine zA (zG rfl) ?_ | refine zA (zN rfl) ?_ | refine zC ?_ | refine zB ?_ | refine zK rfl ?_ | refine zA (zA8 rfl rfl (by omega)) ?_ | refine zA (zGm rfl rfl (by omega)) ?_)
    refine zBl 9 (iN K) J (AEq.of_eq (by rw [hKC])) ?_
    refine zb (by kernel_rfl) ?_
    refine zi (fuel := 1) [0, 1, 2, 3, 4, 5, 6, 7, 8, 9, 10, 11, 12, 13, 14, 15, 16] [(3, .rp (.box (ruC r)) 0 0), (4, .rp (.box [zq cs, zq b, zq a, .int .i64 1, .int .i64 qt]) 0 0), (5, .rp (.box (mvC m)) 0 0), (6, .ptr 3 0 0), (7, .ptr 9 0 0), (8, .int .i64 took), (9, iN K)] ⟨J, J, J, J, J, J, J, trivial⟩ (by kernel_rfl) (by decide) J J ?_
    refine zJ J J (zH J J J J J J) ?_
    refine zJ J J (zD J J J J) ?_
    refine zJ J J (zL J J J J J J) ?_
    refine zJ J J (zAU J J J J J (by show (0 : Int) ≤ 1 ∧ (1 : Int) < 2; decide)) ?_
    refine zJ J J (zR J J J J J) ?_
    refine zJ J J (zG J) ?_
    refine zJ J J (zH J J J J J J) ?_
    refine zJ J J (zD J J J J) ?_
    refine zJ J J (zL J J J J J J) ?_
    refine zJ J J (zAU J J J J J (by show (0 : Int) ≤ 1 ∧ (1 : Int) < 2; decide)) ?_
    refine zJ J J (zR J J J J J) ?_
    refine zJ J J (zG J) ?_
    refine zJ J J (zg J J J J J (by first | (simp only [Nat.zero_add, Int.toNat_natCast, Int.toNat_zero]; exact J) | exact J) (by omega)) ?_
    refine zJ J J (zAo J J J J (by first | assumption | omega)) ?_
    refine zJ J J (zAy J J (by omega)) ?_
    refine zJ J J (zHm J J) ?_
    refine zJ J J (zg J J J J J (by first | (simp only [Nat.zero_add, Int.toNat_natCast, Int.toNat_zero]; exact J) | exact J) (by omega)) ?_
    refine z6 ?_
    refine zF (is := [17]) (by kernel_rfl) (by simp) J ⟨fun o ho => ?_, trivial⟩
    all_goals (cases ho)
    refine rn7 ?_
    refine zZ (by kernel_rfl) ?_
    repeat (refine zB ?_)
    have e : (if A1.getD K 0 + 1 ≤ 1000 then A1.getD K 0 + 1 else (1000 : Int)) = (if 1000 < A1.getD K 0 + 1 then 1000 else A1.getD K 0 + 1) := by split <;> split <;> omega
    refine zAa [none, none, none, some ⟨29, .box poZ⟩, none, none, some ⟨3, .ints .i64 C2⟩, some ⟨3, .ints .i64 b⟩, some ⟨3, .ints .i64 A2⟩, some ⟨29, .box [.sl 6 0 cs.length, .sl 7 0 b.length, .sl 8 0 a.length, .int .i64 1, .int .i64 qt]⟩] (by rw [← hA2, Int.min_def, e]; rfl) ?_
    exact fin _ ⟨J, J, J, J, J, J, trivial⟩
   ·rw [if_neg (fun q => by rw [f2] at q; exact Bool.false_ne_true q.2)] at hA2
    subst hA2
    refine zFB ?_
    exact fin _ ⟨J, J, J, J, J, J, trivial⟩
  ·have f1 : ¬ 0 < took := f1
   rw [if_neg (fun q => f1 q.1)] at hA2
   subst hA2
   refine zFB ?_
   exact fin _ ⟨J, J, J, J, J, J, trivial⟩
 repeat (first | refine zA (zG rfl) ?_ | refine zC ?_ | refine zB ?_ | refine zX ?_ | refine zK rfl ?_ | refine zA (zCL rfl rfl) ?_ | refine zA (zAy rfl rfl (by omega)) ?_ | refine zA (zD rfl rfl rfl rfl) ?_ | refine zA (zHm rfl rfl) ?_ | refine zA (zL rfl rfl rfl rfl rfl rfl) ?_ | refine zA (zH rfl rfl rfl rfl rfl rfl) ?_ | refine z8 rfl rfl rfl rfl rfl rfl rfl Nat.zero_lt_one ?_)
 refine zAb [none, none, none, some ⟨29, .box poZ⟩, none, none, some ⟨3, .ints .i64 C2⟩, some ⟨3, .ints .i64 b⟩, some ⟨3, .ints .i64 A2⟩, some ⟨29, .box [.sl 6 0 cs.length, .sl 7 0 b.length, .sl 8 0 a.length, .int .i64 1, .int .i64 (if 200 < qt + 1 then 200 else qt + 1)]⟩] J ?_
 apply zAD (H := [none, none, none, some ⟨29, .box poZ⟩, none, none, some ⟨3, .ints .i64 C2⟩, some ⟨3, .ints .i64 b⟩, some ⟨3, .ints .i64 A2⟩, some ⟨29, .box [.sl 6 0 cs.length, .sl 7 0 b.length, .sl 8 0 a.length, .int .i64 1, .int .i64 q3]⟩]) [(3, .rp (.box (ruC r)) 0 0), (4, .rp (.box [zq cs, zq b, zq a, .int .i64 1, .int .i64 qt]) 0 0), (5, .rp (.box (mvC m)) 0 0), (6, .ptr 3 0 0), (7, .ptr 9 0 0), (8, .int .i64 took)]
 ·intro fin
  refine zh J J (fun f1 => ?_) (fun f1 => ?_)
  ·have f1 : 0 < took := f1
   rw [if_pos (.inl f1)] at hq3
   subst hq3
   repeat (first | refine zC ?_ | refine zB ?_ | refine zK rfl ?_ | refine zAM rfl rfl rfl ?_ | refine zAZ rfl ?_ | refine zA (zd rfl rfl) ?_ | refine zA (zL rfl rfl rfl rfl rfl rfl) ?_ | refine z8 rfl rfl rfl rfl rfl rfl rfl Nat.zero_lt_one ?_)
   exact fin _ ⟨J, J, J, J, J, J, trivial⟩
  ·have f1 : ¬ 0 < took := f1
   repeat (first | refine zC ?_ | refine zB ?_ | refine zl rfl rfl ?_ | refine zA (zBv rfl rfl) ?_ | refine zA (zd rfl rfl) ?_ | refine zA (zD rfl rfl rfl rfl) ?_ | refine zA (zH rfl rfl rfl rfl rfl rfl) ?_)
   refine zI J (fun f2 => ?_) (fun f2 => ?_)
   ·have f2 : m.fr < 0 := f2
    rw [if_pos (.inr f2)] at hq3
    subst hq3
    repeat (first | refine zC ?_ | refine zB ?_ | refine zK rfl ?_ | refine zA (zL rfl rfl rfl rfl rfl rfl) ?_ | refine z8 rfl rfl rfl rfl rfl rfl rfl Nat.zero_lt_one ?_)
    exact fin _ ⟨J, J, J, J, J, J, trivial⟩
   ·have f2 : ¬ m.fr < 0 := f2
    rw [if_neg (fun q => q.elim f1 f2)] at hq3
    refine zFB ?_
    have e : (if 200 < qt + 1 then (200 : Int) else qt + 1) = q3 := by
     rw [← hq3, Int.min_def]
     split <;> split <;> omega
    refine zAa [none, none, none, some ⟨29, .box poZ⟩, none, none, some ⟨3, .ints .i64 C2⟩, some ⟨3, .ints .i64 b⟩, some ⟨3, .ints .i64 A2⟩, some ⟨29, .box [.sl 6 0 cs.length, .sl 7 0 b.length, .sl 8 0 a.length, .int .i64 1, .int .i64 q3]⟩] (by rw [e]) ?_
    exact fin _ ⟨J, J, J, J, J, J, trivial⟩
 repeat (first | refine zC ?_ | refine zB ?_ | refine zX ?_ | refine zK rfl ?_ | refine zA (zA8 rfl rfl (by omega)) ?_ | refine zA (zD rfl rfl rfl rfl) ?_ | refine zA (zL rfl rfl rfl rfl rfl rfl) ?_ | refine zA (zH rfl rfl rfl rfl rfl rfl) ?_ | refine zA (qpp rfl rfl rfl rfl rfl rfl rfl) ?_ | refine z8 rfl rfl rfl rfl rfl rfl rfl Nat.zero_lt_one ?_)
 have hA2l : A2.length = a.length := by rw [← hA2]; split <;> simp [hA1l]
 have hmk : zBf r ⟨cs, b, a, 1, qt⟩ m = ⟨C2, b, A2, 1 - 1, q3⟩ := by
  have e : zBf r ⟨cs, b, a, 1, qt⟩ m = ⟨(if 0 ≤ m.fr then cs.set m.fr.toNat 0 else cs).set m.to.toNat (2 * m.pc + 1 + 1), b, (if 0 < zAB ⟨cs, b, a, 1, qt⟩ m.to.toNat ∧ r.keeps = true then (if 0 ≤ m.fr then a else a.set m.pc.toNat (a.getD m.pc.toNat 0 - 1)).set (zAO (zAB ⟨cs, b, a, 1, qt⟩ m.to.toNat)) (min ((if 0 ≤ m.fr then a else a.set m.pc.toNat (a.getD m.pc.toNat 0 - 1)).getD (zAO (zAB ⟨cs, b, a, 1, qt⟩ m.to.toNat)) 0 + 1) 1000) else (if 0 ≤ m.fr then a else a.set m.pc.toNat (a.getD m.pc.toNat 0 - 1))), 1 - 1, if 0 < zAB ⟨cs, b, a, 1, qt⟩ m.to.toNat ∨ m.fr < 0 then 0 else min (qt + 1) 200⟩ := rfl
  rw [e, htk2, hC1, hA1, hC2, hA2, hq3]
 refine zW [.sl 6 0 cs.length, .sl 7 0 b.length, .sl 8 0 a.length, .int .i64 (1 - 1), .int .i64 q3] J J J J J J J ?_
 refine rn7 ?_
 refine zAt [none, none, none, none, none, none, some ⟨3, .ints .i64 C2⟩, some ⟨3, .ints .i64 b⟩, some ⟨3, .ints .i64 A2⟩, none] [none, none, none, some ⟨29, .box [.ro (.ints .i64 C2) 0 cs.length, .ro (.ints .i64 b) 0 b.length, .ro (.ints .i64 A2) 0 a.length, .int .i64 (1 - 1), .int .i64 q3]⟩, none, none, none, none, none, none] [(6, .ptr 3 0 0)] ?_ (zB7 (zB7 (zB7 (zB7 (zB7 (zB7 (zB6 zAI (zB6 zAI (zB6 zAI (zB7 zCZ)))))))))) J ?_ (zBr ⟨J, trivial⟩) ?_
 ·intro h o ho
  match h, ho with
  | 0, ho => simp at ho
  | 1, ho => simp at ho
  | 2, ho => simp at ho
  | 3, ho => simp at ho
  | 4, ho => simp at ho
  | 5, ho => simp at ho
  | 6, ho => exact ho
  | 7, ho => exact ho
  | 8, ho => exact ho
  | 9, ho => simp at ho
  | _ + 10, ho => simp at ho
 ·intro h o ho
  match h, ho with
  | 0, ho => simp at ho
  | 1, ho => simp at ho
  | 2, ho => simp at ho
  | 3, ho =>
   cases ho
   refine ⟨fun o h => by simp at h, ⟨29, .box [.sl 6 0 cs.length, .sl 7 0 b.length, .sl 8 0 a.length, .int .i64 (1 - 1), .int .i64 q3]⟩, J, J, J, J, fun i j hi hj => ?_⟩
   obtain rfl : i = 0 := Nat.lt_one_iff.1 hi
   have hj : j < 5 := hj
   match j, hj with
   | 0, _ => exact .inr (.inr ⟨rfl, fun o ho => by cases ho; show 0 + cs.length ≤ C2.length; omega⟩)
   | 1, _ => exact .inr (.inr ⟨rfl, fun o ho => by cases ho; show 0 + b.length ≤ b.length; omega⟩)
   | 2, _ => exact .inr (.inr ⟨rfl, fun o ho => by cases ho; show 0 + a.length ≤ A2.length; omega⟩)
   | 3, _ => exact .inl rfl
   | 4, _ => exact .inl rfl
  | 4, ho => simp at ho
  | 5, ho => simp at ho
  | 6, ho => simp at ho
  | 7, ho => simp at ho
  | 8, ho => simp at ho
  | 9, ho => simp at ho
  | _ + 10, ho => simp at ho
 repeat (refine zu ?_)
 refine zO hR J ?_
 rw [hmk]
 show AV.agg [.ro (.ints .i64 C2) 0 cs.length, .ro (.ints .i64 b) 0 b.length, .ro (.ints .i64 A2) 0 a.length, .int .i64 (1 - 1), .int .i64 q3] = AV.agg [zq C2, zq b, zq A2, .int .i64 (1 - 1), .int .i64 q3]
 unfold zq
 rw [hC2l, hA2l]
/-- moves.Make -/
theorem make_ok (r : Go.Ax.Gm.Rules) (hv : ValidR r) (p : Pos) (S : Sound r p) (m : Mv) (hm : MvOK r p m) : zn Tryd.prog 22 [ruA r, poA p, mvA m] (poA (zBf r p m)) := by
 obtain ⟨cs, h0, h1, turn, qt⟩ := p
 rcases S.tn with q | q
 ·have q : turn = 0 := q
  subst q
  exact make0_ok r hv cs h0 h1 qt S m hm
 ·have q : turn = 1 := q
  subst q
  exact make1_ok r hv cs h1 h0 qt S m hm
theorem zE2 {r : Go.Ax.Gm.Rules} (hv : ValidR r) {p : Pos} (S : Sound r p) : zn Tryd.prog 36 [poA p] (.str (keyT p)) :=
 key_ok p (zBD hv S) S.tn (fun c hc => by have := S.cs c hc; have := hv.n6; omega) S.c0 S.c1
def zBt (l : List Pos) : List AV := l.map (fun p => .str (keyT p))
def zCO (n : Nat) : List AV := (List.range n).map (fun i : Nat => iN i)
abbrev zC4 (nx : List (List Nat)) : Cells := zCP [] 1 (fun row : List Nat => [zq (row.map Int.ofNat)]) nx
abbrev tbC (r : Go.Ax.Gm.Rules) (l n : Nat) (e : AV) : List AV := [.str r.name, .int .i64 r.w, .int .i64 r.h, .ro (zAV r.pcs) 0 r.pcs.length, zq r.start, .bool r.falls, .bool r.keeps, .ro (zEa r.ends) 0 r.ends.length, .int .i64 r.blocked, .int .i64 r.quiet, .int .i64 r.rep, .sl 2 0 l, .sl 3 0 n, e, .mp 0]
abbrev zH1 (r : Go.Ax.Gm.Rules) (l : List Pos) (nx : List (List Nat)) (L : List Int) : zM :=
 [some ⟨62, .mp (zBt l) (zCO l.length)⟩, some ⟨67, .box (tbC r l.length nx.length .nil)⟩, some ⟨29, zCk l⟩, some ⟨23, zC4 nx⟩, some ⟨3, .ints .i64 L⟩]
theorem zCs (l : List Pos) : ∀ x ∈ zBt l, zDX .str x = true := fun x hx => by
 obtain ⟨p, _, rfl⟩ := List.mem_map.1 hx
 rfl
theorem zLo {l : List Pos} {i : Nat} (h : i < l.length) : (zBt l)[i]? = some (.str (keyT (l.getD i zz))) := by
 unfold zBt
 rw [List.getElem?_map, List.getElem?_eq_getElem h]; simp [List.getD, h]
theorem zGa {n i : Nat} (h : i < n) : (zCO n)[i]? = some (iN i) := by
 unfold zCO
 rw [List.getElem?_map, List.getElem?_range h]; rfl
theorem zGN {l : List Pos} {p : Pos} (h : zBG l p < l.length) : (zBt l)[zBG l p]? = some (.str (keyT p)) := by
 rw [zLo h, zLE h]; rfl
theorem zEe {r : Go.Ax.Gm.Rules} (hv : ValidR r) {l : List Pos} {p : Pos} (S : Sound r p) (G : ∀ q ∈ l, Sound r q ∧ q.quiet = 0) (h : ¬ zBG l p < l.length) : AV.str (keyT p) ∉ zBt l := fun hm => by
 obtain ⟨q, hq, e⟩ := List.mem_map.1 hm
 have e := key_inj hv (G q hq).1 S (AV.str.inj e)
 rw [zLv (G q hq).2] at e
 exact idx_no h (e ▸ hq)
theorem zGH {n : Nat} : ∀ {l : List AV}, (∀ x ∈ l, zB2 n x = true) → zBk n l = true
 | [], _ => rfl
 | x :: l, h => by
  show (zB2 n x && zBk n l) = true
  rw [h x (List.mem_cons_self ..), zGH (fun y hy => h y (List.mem_cons_of_mem _ hy))]; rfl
theorem zHV {n : Nat} (l : List Pos) (m : Nat) : zAq n (.mp (zBt l) (zCO m)) :=
 ⟨zGH (fun x hx => by obtain ⟨p, _, rfl⟩ := List.mem_map.1 hx; rfl), zGH (fun x hx => by obtain ⟨p, _, rfl⟩ := List.mem_map.1 hx; rfl)⟩
theorem zIk {n : Nat} (l : List Pos) : zAq n (zCk l) := fun i j _ hj => by
 have hj : j < 5 := hj
 match j, hj with
 | 0, _ => rfl
 | 1, _ => rfl
 | 2, _ => rfl
 | 3, _ => rfl
 | 4, _ => rfl
theorem zHs {n : Nat} (nx : List (List Nat)) : zAq n (zC4 nx) := fun i j _ hj => by
 obtain rfl : j = 0 := Nat.lt_one_iff.1 hj
 rfl
theorem zH2 (r : Go.Ax.Gm.Rules) (l : List Pos) (nx : List (List Nat)) (L : List Int) : ∀ (h : Nat) (o : AObj), (zH1 r l nx L)[h]? = some (some o) → zAq (zH1 r l nx L).length o.c :=
 zCA (zHV l _) (zCA (zHC rfl) (zCA (zIk l) (zCA (zHs nx) (zCA (fun _ _ _ _ => rfl) zBp))))
theorem zEc {h : Nat} : ∀ {l : List AV}, (∀ x ∈ l, x.forget h = x) → AV.forgets h l = l
 | [], _ => rfl
 | x :: l, q => by
  show x.forget h :: AV.forgets h l = x :: l
  rw [q x (List.mem_cons_self ..), zEc (fun y hy => q y (List.mem_cons_of_mem _ hy))]
theorem zDY {h : Nat} (l : List Pos) (m : Nat) : (Cells.mp (zBt l) (zCO m)).forget h = .mp (zBt l) (zCO m) := by
 show Cells.mp (AV.forgets h (zBt l)) (AV.forgets h (zCO m)) = _
 rw [zEc (fun x hx => by obtain ⟨p, _, rfl⟩ := List.mem_map.1 hx; rfl), zEc (fun x hx => by obtain ⟨p, _, rfl⟩ := List.mem_map.1 hx; rfl)]
theorem zBx {α : Type} {d : α} {n h : Nat} {e : α → List AV} {l : List α} (q : ∀ a j, ((e a).getD j .any).forget h = (e a).getD j .any) : (zCP d n e l).forget h = zCP d n e l := by
 show Cells.fn l.length n (fun i j => ((e (l.getD i d)).getD j .any).forget h) = _
 simp only [q]; rfl
theorem zDZ (a : Pos) (j k : Nat) : ((poC a).getD j .any).forget k = (poC a).getD j .any := by
 match j with
 | 0 => rfl
 | 1 => rfl
 | 2 => rfl
 | 3 => rfl
 | 4 => rfl
 | j + 5 => rfl
theorem zDc (a : List Nat) (j k : Nat) : (([zq (a.map Int.ofNat)] : List AV).getD j .any).forget k = ([zq (a.map Int.ofNat)] : List AV).getD j .any := by
 match j with
 | 0 => rfl
 | j + 1 => rfl
theorem zIe (l : List Pos) (p : Pos) : zBt l ++ [.str (keyT p)] = zBt (l ++ [zBz p]) := by unfold zBt; rw [List.map_append]; rfl
theorem zIr (n : Nat) : zCO n ++ [iN n] = zCO (n + 1) := by unfold zCO; rw [List.range_succ, List.map_append]; rfl
/-- (*retro.Table).add -/
theorem add_ok (r : Go.Ax.Gm.Rules) (hv : ValidR r) (l : List Pos) (nx : List (List Nat)) (L : List Int) (p : Pos) (S : Sound r p) (G : ∀ q ∈ l, Sound r q ∧ q.quiet = 0) (hl : l.length ≤ 3001) :
 ze Tryd.prog 20 [.ptr 1 0 0, poA p] (zH1 r l nx L) (fun h => h < 5 ∧ h ≠ 2) (fun v H => v = iN (zBG l p) ∧ H = zH1 r (zCR l p) nx L) := by
 have hc : ze Tryd.prog 20 [.ptr 1 0 0, poA p] (zH1 r l nx L) (fun h => h < 5 ∧ h ≠ 2) (fun v H => v = iN (zBG l p) ∧ ∃ x, H = zH1 r (zCR l p) nx L ++ [x]) := by
  refine zP (P := Tryd.prog) (fn := Tryd.f20) J J (by kernel_rfl) J (fun c hR hfix => ?_)
  refine rn6 ?_
  refine zU J J J (zE2 hv S) ?_
  refine rn8 ?_
  by_cases hi : zBG l p < l.length
  ·have hadd : zCR l p = l := by unfold zCR; rw [if_pos hi]
   rw [hadd] at hR
   refine zA (zEE J (.str J) J J J J (zCs l) (zBG l p) (zGN hi) (zGa hi)) ?_
   refine rn5 ?_
   exact zO hR J ⟨J, _, J⟩
  ·have hadd : zCR l p = l ++ [zBz p] := by unfold zCR; rw [if_neg hi]
   have hidx : zBG l p = l.length := by have := zI5 l p; omega
   rw [hadd, hidx] at hR
   refine zA (zDi J (.str J) J J J J J J J J (zCs l) (zEe hv S G hi)) ?_
   repeat (first | refine zA (zG rfl) ?_ | refine zA (zN rfl) ?_ | refine zC ?_ | refine zB ?_ | refine zX ?_ | refine zK rfl ?_ | refine zAZ rfl ?_ | refine zA (zR rfl rfl rfl rfl rfl) ?_ | refine zA (zDv rfl) ?_ | refine zA (zAj rfl rfl) ?_ | refine zA (zA2 rfl rfl rfl) ?_ | refine zA (zY rfl) ?_ | refine zA (zL rfl rfl rfl rfl rfl rfl) ?_ | refine z8 rfl rfl rfl rfl rfl rfl rfl Nat.zero_lt_one ?_)
   refine zEU J (.str J) J J J J J (zCs l) (zEe hv S G hi) ?_
   refine rn0 ?_
   have hll : (l ++ [zBz p]).length = l.length + 1 := by rw [List.length_append]; rfl
   refine zAa [some ⟨62, .mp (zBt (l ++ [zBz p])) (zCO (l.length + 1))⟩, some ⟨67, .box (tbC r l.length nx.length .nil)⟩, some ⟨29, zCk l⟩, some ⟨23, zC4 nx⟩, some ⟨3, .ints .i64 L⟩, some ⟨29, .box (poC (zBz p))⟩] (by rw [← zIe, ← zIr]; rfl) ?_
   refine zb (by kernel_rfl) ?_
   refine zV 0 J (by kernel_rfl) (by kernel_rfl) (by kernel_rfl) J (zG J) J ?_
   refine zi (fuel := 4) [1, 2, 3, 4, 5, 6] [(33, .ptr 1 0 0), (0, .ptr 1 0 0), (3, .ptr 5 0 0), (6, iN l.length)] ⟨J, J, J, J, trivial⟩ (by kernel_rfl) (by decide) J J ?_
   refine zJ J J (zG J) ?_
   refine zJ J J (zY J) ?_
   refine zJ J J (zL J J J J J J) ?_
   refine zJ J J (zR J J J J J) ?_
   refine zJ J J (qpp J J J J J J J) ?_
   refine px_b J J J J J J J J J J J J J ?_
   refine z6 ?_
   refine zF (is := [7]) (by kernel_rfl) (by simp) J ⟨fun o ho => ?_, trivial⟩
   all_goals (cases ho)
   refine zBY [zBz p] J J J J J J J J J J J J J (Nat.le_refl _) (fun k' j hk' hj => ?_) (by show (l.length + 1) * 88 ≤ _ ∧ _; omega) (fun a j k _ => zDZ a j k) (by rw [hfix]; exact fun h => h.2 J) ?_
   ·obtain rfl : k' = 0 := Nat.lt_one_iff.1 hk'
    match j, hj with
    | 0, _ => rfl
    | 1, _ => rfl
    | 2, _ => rfl
    | 3, _ => rfl
    | 4, _ => rfl
   refine zAb [some ⟨62, .mp (zBt (l ++ [zBz p])) (zCO (l.length + 1))⟩, some ⟨67, .box ((tbC r l.length nx.length .nil).set 11 .any)⟩, some ⟨29, zCk (l ++ [zBz p])⟩, some ⟨23, zC4 nx⟩, some ⟨3, .ints .i64 L⟩, some ⟨29, .box (poC (zBz p))⟩] ?_ ?_
   ·show [some (AObj.mk _ ((Cells.mp _ _).forget 2)), some (AObj.mk _ ((Cells.box _).forget 2)), some (AObj.mk _ (zCk (l ++ [zBz p]))), some (AObj.mk _ ((zC4 nx).forget 2)), some (AObj.mk _ ((Cells.ints .i64 L).forget 2)), some (AObj.mk _ ((Cells.box (poC (zBz p))).forget 2))] = _
    rw [zDY, zBx (fun a j => zDc a j 2)]; rfl
   refine rn1 ?_
   refine zV 8 J (by kernel_rfl) (by kernel_rfl) (by kernel_rfl) J (zY J) J ?_
   refine zV 9 J (by kernel_rfl) (by kernel_rfl) (by kernel_rfl) J (zL J J J J J J) J ?_
   refine zF (is := [10]) (by kernel_rfl) (by simp) J ⟨fun o ho => ?_, trivial⟩
   all_goals (cases ho)
   refine rn9 ?_
   refine zZ (by kernel_rfl) ?_
   refine rn0 ?_
   exact zO hR J ⟨J, _, by show _ = [_, _, _, _, _, _]; rw [hll]; rfl⟩
 exact ze.cutR hc (fun v H ⟨e1, x, e2⟩ => ⟨_, [x], e2, fun h q => q.1, zH2 _ _ _ _, e1 ▸ J, e1, J⟩)
/-- slices.IndexFunc of numbers, the function looks at the caller's memory -/
theorem zKX {H : zM} (l : List Int) (q : Int → Bool) (g : Nat) (caps : List AV) (hl : l.length ≤ 1000000) (hc : ∀ x ∈ l, ze Tryd.prog g (.int .i64 x :: caps) H (fun h => h < H.length) (fun r H' => r = .bool (q x) ∧ H' = H)) :
 ze Tryd.prog 47 [zq l, .fn g caps] H (fun h => h < H.length) (fun r H' => (∃ n : Int, r = .int .i64 n ∧ (decide (0 ≤ n) = l.any q)) ∧ H' = H) := by
 refine zP (P := Tryd.prog) (fn := Tryd.f47) J J (by kernel_rfl) J (fun c hR hfix => ?_)
 refine rn3 ?_
 refine zx (ι := Nat) (fun k => [(0, zq l), (1, .fn g caps), (7, iN l.length), (8, iN k)]) (fun _ => H)
  (fun k => k ≤ l.length ∧ (l.take k).any q = false) (fun k => l.length - k) 0 ⟨⟨rfl, rfl, rfl, rfl, trivial⟩, rfl, Nat.zero_le _, by rw [List.take_zero]; rfl⟩ ?_
 intro k ⟨hk, hno⟩
 refine rn4 ?_
 refine zI J (fun h => ?_) (fun h => ?_)
 ·have hk' : k < l.length := by omega
  have hmem : l.getD k 0 ∈ l := zAi 0 hk'
  have htk : (l.take (k + 1)).any q = ((l.take k).any q || q (l.getD k 0)) := by rw [zw _ 0 k hk', List.any_append]; simp
  refine rn6 ?_
  refine zCq J J J (hc _ hmem) (fun _ h => h) (fun _ h => h) ?_
  rintro r H' ⟨rfl, rfl⟩
  refine rn0 ?_
  cases hq : q (l.getD k 0) with
  | true =>
   refine rn6 ?_
   refine zO hR J ⟨⟨(k : Nat), J, ?_⟩, J⟩
   rw [decide_eq_true (by omega : (0 : Int) ≤ (k : Nat)), List.any_eq_true.2 ⟨_, hmem, hq⟩]
  | false =>
   refine rn5 ?_
   exact zT ⟨k + 1, ⟨by omega, by rw [htk, hno, hq]; rfl⟩, by omega, ⟨J, J, J, J, trivial⟩, J⟩
 ·have hk' : k = l.length := by omega
  subst hk'
  rw [List.take_length] at hno
  refine rn5 ?_
  refine zO hR J ⟨⟨-1, J, ?_⟩, J⟩
  rw [hno]; rfl
/-- slices.ContainsFunc of numbers, the function looks at the caller's memory -/
theorem zGJ {H : zM} (l : List Int) (q : Int → Bool) (g : Nat) (caps : List AV) (hl : l.length ≤ 1000000) (hc : ∀ x ∈ l, ze Tryd.prog g (.int .i64 x :: caps) H (fun h => h < H.length) (fun r H' => r = .bool (q x) ∧ H' = H)) :
 ze Tryd.prog 31 [zq l, .fn g caps] H (fun h => h < H.length) (fun r H' => r = .bool (l.any q) ∧ H' = H) := by
 refine zP (P := Tryd.prog) (fn := Tryd.f31) J J (by kernel_rfl) J (fun c hR hfix => ?_)
 refine rn0 ?_
 refine zCq J J J (zKX l q g caps hl hc) (fun _ h => h) (fun _ h => h) ?_
 rintro r H' ⟨⟨n, rfl, hn⟩, rfl⟩
 refine rn8 ?_
 exact zO hR J ⟨congrArg AV.bool hn, J⟩
abbrev tbF (r : Go.Ax.Gm.Rules) (l : List Pos) (nx : List (List Nat)) (e : AV) : List AV := [.str r.name, .int .i64 r.w, .int .i64 r.h, .ro (zAV r.pcs) 0 r.pcs.length, zq r.start, .bool r.falls, .bool r.keeps, .ro (zEa r.ends) 0 r.ends.length, .int .i64 r.blocked, .int .i64 r.quiet, .int .i64 r.rep, .ro (zCk l) 0 l.length, .ro (zC4 nx) 0 nx.length, e, .rom (zBt l) (zCO l.length)]
abbrev zBR (E : List Ent) : Cells := zCP (0, 0) 2 zB4 E
/-- the closures of solve, over its memory -/
structure SolveH (r : Go.Ax.Gm.Rules) (l : List Pos) (nx : List (List Nat)) (E : List Ent) (H : zM) : Prop where
 h1 : H[1]? = some (some ⟨67, .box (tbF r l nx (.sl 3 0 E.length))⟩)
 h2 : H[2]? = some (some ⟨34, .box [.ptr 1 0 0]⟩)
 h3 : H[3]? = some (some ⟨40, zBR E⟩)
theorem cl1_ok {r : Go.Ax.Gm.Rules} {l : List Pos} {nx : List (List Nat)} {E : List Ent} {H : zM} (S : SolveH r l nx E H) (own : Int) (k : Int) (hk : 0 ≤ k ∧ k < (E.length : Int)) :
 ze Tryd.prog 40 [.int .i64 k, .ptr 2 0 0, .rp (.box [.int .i64 own]) 0 0] H (fun h => h < H.length) (fun r H' => r = .bool (decide ((E.getD k.toNat (0, 0)).1 = own)) ∧ H' = H) := by
 obtain ⟨h1, h2, h3⟩ := S
 have hk' : k.toNat < E.length := by omega
 refine zP (P := Tryd.prog) (fn := Tryd.f40) J J (by kernel_rfl) J (fun c hR hfix => ?_)
 refine rn0 ?_
 refine zb (by kernel_rfl) ?_
 refine zi (fuel := 0) [0, 1, 2, 3, 4, 5, 6, 7, 8, 9, 10] [(0, .int .i64 k), (1, .ptr 2 0 0), (2, .rp (.box [.int .i64 own]) 0 0)] ⟨J, J, J, trivial⟩ (by kernel_rfl) (by decide) J J ?_
 refine zJ J J (zBC J J J (by assumption) (by rfl)) ?_
 refine zJ J J (zY J) ?_
 refine zJ J J (zL J J J J J J) ?_
 refine zJ J J (zBC J J J (by assumption) (by rfl)) ?_
 refine zJ J J (zG J) ?_
 refine zJ J J (qis J J J) ?_
 refine zJ J J (zL J J J J J J) ?_
 refine zJ J J (zCv J J J (by assumption) J (by first | assumption | omega)) ?_
 refine zJ J J (zD J J J J) ?_
 refine zJ J J (zBh J J) ?_
 refine zJ J J (zN J) ?_
 refine z6 ?_
 refine zZ (by kernel_rfl) ?_
 refine rn0 ?_
 exact zO hR J ⟨J, J⟩
theorem cl2_ok {r : Go.Ax.Gm.Rules} {l : List Pos} {nx : List (List Nat)} {E : List Ent} {H : zM} (S : SolveH r l nx E H) (own : Int) (k : Int) (hk : 0 ≤ k ∧ k < (E.length : Int)) :
 ze Tryd.prog 41 [.int .i64 k, .ptr 2 0 0, .rp (.box [.int .i64 own]) 0 0] H (fun h => h < H.length) (fun r H' => r = .bool (decide ((E.getD k.toNat (0, 0)).1 ≠ own)) ∧ H' = H) := by
 obtain ⟨h1, h2, h3⟩ := S
 have hk' : k.toNat < E.length := by omega
 refine zP (P := Tryd.prog) (fn := Tryd.f41) J J (by kernel_rfl) J (fun c hR hfix => ?_)
 refine rn0 ?_
 refine zb (by kernel_rfl) ?_
 refine zi (fuel := 0) [0, 1, 2, 3, 4, 5, 6, 7, 8, 9, 10] [(0, .int .i64 k), (1, .ptr 2 0 0), (2, .rp (.box [.int .i64 own]) 0 0)] ⟨J, J, J, trivial⟩ (by kernel_rfl) (by decide) J J ?_
 refine zJ J J (zBC J J J (by assumption) (by rfl)) ?_
 refine zJ J J (zY J) ?_
 refine zJ J J (zL J J J J J J) ?_
 refine zJ J J (zBC J J J (by assumption) (by rfl)) ?_
 refine zJ J J (zG J) ?_
 refine zJ J J (qis J J J) ?_
 refine zJ J J (zL J J J J J J) ?_
 refine zJ J J (zCv J J J (by assumption) J (by first | assumption | omega)) ?_
 refine zJ J J (zD J J J J) ?_
 refine zJ J J (zBP J J) ?_
 refine zJ J J (zN J) ?_
 refine z6 ?_
 refine zZ (by kernel_rfl) ?_
 refine rn0 ?_
 exact zO hR J ⟨J, J⟩
theorem cl3_ok {r : Go.Ax.Gm.Rules} {l : List Pos} {nx : List (List Nat)} {E : List Ent} {H : zM} (S : SolveH r l nx E H) (i : Nat) (hi : i < l.length) (ht : zAW l i = 0 ∨ zAW l i = 1) (k : Int) (hk : 0 ≤ k ∧ k < (E.length : Int)) :
 ze Tryd.prog 42 [.int .i64 k, .ptr 2 0 0, .rp (.box [iN i]) 0 0] H (fun h => h < H.length) (fun r H' => r = .bool (decide ((E.getD k.toNat (0, 0)).1 = 1 + zAW l i)) ∧ H' = H) := by
 obtain ⟨h1, h2, h3⟩ := S
 have hk' : k.toNat < E.length := by omega
 have ht : 0 ≤ (l.getD i zz).turn ∧ (l.getD i zz).turn ≤ 1 := by unfold zAW at ht; omega
 refine zP (P := Tryd.prog) (fn := Tryd.f42) J J (by kernel_rfl) J (fun c hR hfix => ?_)
 refine rn0 ?_
 refine zb (by kernel_rfl) ?_
 refine zi (fuel := 0) [0, 1, 2, 3, 4, 5, 6, 7, 8, 9, 10, 11, 12, 13, 14, 15, 16, 17, 18] [(0, .int .i64 k), (1, .ptr 2 0 0), (2, .rp (.box [iN i]) 0 0)] ⟨J, J, J, trivial⟩ (by kernel_rfl) (by decide) J J ?_
 refine zJ J J (zBC J J J (by assumption) (by rfl)) ?_
 refine zJ J J (zY J) ?_
 refine zJ J J (zL J J J J J J) ?_
 refine zJ J J (zBC J J J (by assumption) (by rfl)) ?_
 refine zJ J J (zG J) ?_
 refine zJ J J (qis J J J) ?_
 refine zJ J J (zL J J J J J J) ?_
 refine zJ J J (zCv J J J (by assumption) J (by first | assumption | omega)) ?_
 refine zJ J J (zBC J J J (by assumption) (by rfl)) ?_
 refine zJ J J (zY J) ?_
 refine zJ J J (zL J J J J J J) ?_
 refine zJ J J (zBC J J J (by assumption) (by rfl)) ?_
 refine zJ J J (zD J J J J) ?_
 refine zJ J J (zf J J J J (by first | (simp only [Nat.zero_add, Int.toNat_natCast, Int.toNat_zero]; exact J) | exact J) (by omega)) ?_
 refine zJ J J (zH J J J J J J) ?_
 refine zJ J J (zAw J J J J) ?_
 refine zJ J J (zAy J J (by omega)) ?_
 refine zJ J J (zBh J J) ?_
 refine zJ J J (zN J) ?_
 refine z6 ?_
 refine zZ (by kernel_rfl) ?_
 refine rn0 ?_
 exact zO hR J ⟨J, J⟩
/-- is(own): the box is only read from now on -/
theorem cl0_ok {H : zM} (own : Int) (hb : ∀ (h : Nat) (o : AObj), H[h]? = some (some o) → zAq H.length o.c) (hlt : 2 < H.length) :
 ze Tryd.prog 39 [.int .i64 own, .ptr 2 0 0] H (fun h => h < H.length) (fun r H' => r = .fn 40 [.ptr 2 0 0, .rp (.box [.int .i64 own]) 0 0] ∧ H' = H) := by
 have hc : ze Tryd.prog 39 [.int .i64 own, .ptr 2 0 0] H (fun h => h < H.length) (fun r H' => r = .fn 40 [.ptr 2 0 0, .rp (.box [.int .i64 own]) 0 0] ∧ H' = H ++ [none]) := by
  refine zP (P := Tryd.prog) (fn := Tryd.f39) J J (by kernel_rfl) J (fun c hR hfix => ?_)
  refine zX ?_
  repeat (first | refine zA (zN rfl) ?_ | refine zC ?_ | refine zB ?_ | refine zK rfl ?_ | refine zAp rfl rfl ?_)
  refine ax_fzN H 2 [(1, .ptr 2 0 0)] J J ⟨J, trivial⟩ ?_
  repeat (first | refine zA (zN rfl) ?_ | refine zC ?_ | refine zB ?_ | refine zX ?_ | refine zK rfl ?_ | refine zu ?_ | refine zA (zCX rfl) ?_)
  exact zO hR J ⟨J, J⟩
 exact ze.cutR hc (fun v H' ⟨e1, e2⟩ => ⟨H, [none], e2, fun h q => q, hb, by rw [e1]; show (Nat.blt 2 H.length && _) = true; rw [show Nat.blt 2 H.length = true from Nat.ble_eq_true_of_le hlt]; rfl, e1, J⟩)
abbrev slH (r : Go.Ax.Gm.Rules) (l : List Pos) (nx : List (List Nat)) (E : List Ent) (T : zM) : zM :=
 none :: some ⟨67, .box (tbF r l nx (.sl 3 0 E.length))⟩ :: some ⟨34, .box [.ptr 1 0 0]⟩ :: some ⟨40, zBR E⟩ :: T
abbrev zFO (f : List Nat) : Option AObj := some ⟨3, .ints .i64 (f.map Int.ofNat)⟩
abbrev resO (f : List Int) : Option AObj := some ⟨3, .ints .i64 f⟩
theorem slH_S (r : Go.Ax.Gm.Rules) (l : List Pos) (nx : List (List Nat)) (E : List Ent) (T : zM) : SolveH r l nx E (slH r l nx E T) := ⟨rfl, rfl, rfl⟩
theorem zKV {n : Nat} (E : List Ent) : zAq n (zBR E) := fun i j _ hj => by
 have hj : j < 2 := hj
 match j, hj with
 | 0, _ => rfl
 | 1, _ => rfl
theorem zFr (a : Ent) (j k : Nat) : ((zB4 a).getD j .any).forget k = (zB4 a).getD j .any := by
 match j with
 | 0 => rfl
 | 1 => rfl
 | j + 2 => rfl
/-- what solve may rely on -/
structure SolveP (r : Go.Ax.Gm.Rules) (l : List Pos) (nx : List (List Nat)) : Prop where
 hv : ValidR r
 ll : l.length ≤ 3000
 S : ∀ i, i < l.length → Sound r (l.getD i zz)
 nl : nx.length = l.length
 rl : ∀ i, i < l.length → (nx.getD i []).length ≤ 1000000
 nk : ∀ i, i < l.length → ∀ k ∈ nx.getD i [], k < l.length
theorem zEw (n : Nat) : CEq (zA3 n [.int .i64 0, .int .i64 0]) (zBR (List.replicate n (0, 0))) := by
 refine ⟨by show (List.replicate n ((0, 0) : Ent)).length = n; rw [List.length_replicate], J, fun i j hi hj => ?_⟩
 have hj : j < 2 := hj
 have e : (List.replicate n ((0, 0) : Ent)).getD i (0, 0) = (0, 0) := by
  simp only [List.getD, List.getElem?_replicate]; split <;> rfl
 show (zB4 ((List.replicate n ((0, 0) : Ent)).getD i (0, 0))).getD j .any = _
 rw [e]
 match j, hj with
 | 0, _ => rfl
 | 1, _ => rfl
theorem zE1 {H : zM} {t : TypeId} {a b : Cells} (h : CEq a b) : zAs (H ++ [some ⟨t, a⟩]) (H ++ [some ⟨t, b⟩]) :=
 zAs.append (zAs.refl H) (zAs.cons (fun o ho => by cases ho; exact ⟨_, rfl, rfl, h⟩) (zAs.refl []))
theorem zDw (r : Go.Ax.Gm.Rules) (l : List Pos) (nx : List (List Nat)) (E : List Ent) {T : zM} (h : ∀ (h : Nat) (o : AObj), T[h]? = some (some o) → zAq (slH r l nx E T).length o.c) : ∀ (h : Nat) (o : AObj), (slH r l nx E T)[h]? = some (some o) → zAq (slH r l nx E T).length o.c :=
 have e : (slH r l nx E T).length = T.length + 4 := rfl
 have q : ∀ n, 4 ≤ n → (Nat.blt 3 n) = true ∧ (Nat.blt 1 n) = true := fun n hn => ⟨Nat.ble_eq_true_of_le hn, Nat.ble_eq_true_of_le (by omega)⟩
 bl_n (zCA (zHC (by show (true && (true && (true && (true && (true && (true && (true && (true && (true && (true && (true && (true && (true && (Nat.blt 3 _ && (true && true))))))))))))))) = true; rw [(q _ (by omega)).1]; rfl)) (zCA (zHC (by show (Nat.blt 1 _ && true) = true; rw [(q _ (by omega)).2]; rfl)) (zCA (zKV E) h)))
theorem zFc (r : Go.Ax.Gm.Rules) (l : List Pos) (nx : List (List Nat)) (E : List Ent) : ∀ (h : Nat) (o : AObj), (slH r l nx E [])[h]? = some (some o) → zAq (slH r l nx E []).length o.c := zDw r l nx E zBp
/-- (*retro.Table).solve -/
theorem solve_ok (r : Go.Ax.Gm.Rules) (l : List Pos) (nx : List (List Nat)) (Q : SolveP r l nx) :
 ze Tryd.prog 23 [.ptr 1 0 0] [none, some ⟨67, .box (tbF r l nx .nil)⟩] (fun h => h < 2) (fun v H => v = .tup [] ∧ ∃ N, zAh l nx (zo l nx (zAE r l) N) = [] ∧ H = slH r l nx (zBa (zo l nx (zAE r l) N)) []) := by
 obtain ⟨hv, hll, hS, hnl, hrl, hnk⟩ := Q
 refine zP (P := Tryd.prog) (fn := Tryd.f23) J J (by kernel_rfl) J (fun c hR hfix => ?_)
 have turnB : ∀ i, zAW l i = 0 ∨ zAW l i = 1 := fun i => by
  rcases Nat.lt_or_ge i l.length with q | q
  ·exact (hS i q).tn
  ·left; unfold zAW; rw [List.getD, List.getElem?_eq_none q]; rfl
 have hfx : ∀ h, c.fix h → h < 2 := fun h q => by rw [hfix] at q; exact q
 refine zX ?_
 repeat (first | refine zC ?_ | refine zB ?_ | refine zK rfl ?_ | refine zAp rfl rfl ?_)
 refine zX ?_
 refine zb (by kernel_rfl) ?_
 apply zQ (H := [none, some ⟨67, .box (tbF r l nx .nil)⟩, some ⟨34, .box [.ptr 1 0 0]⟩, some ⟨40, zBR (List.replicate l.length (0, 0))⟩]) [(1, .ptr 2 0 0), (19, .ptr 1 0 0), (25, .sl 3 0 l.length)]
 ·intro fin
  refine zF (is := [0, 1]) (by kernel_rfl) (by simp) J ⟨fun o ho => ?_, fun o ho => ?_, trivial⟩
  all_goals (cases ho)
  ·refine rn4 ?_
   refine zi (fuel := 4) [1, 2, 3, 4, 5] [(1, .ptr 2 0 0), (19, .ptr 1 0 0)] ⟨J, J, trivial⟩ (by kernel_rfl) (by decide) J J ?_
   refine zJ J J (zR J J J J J) ?_
   refine zJ J J (zY J) ?_
   refine zJ J J (zL J J J J J J) ?_
   refine zJ J J (zR J J J J J) ?_
   refine zJ J J (zA2 J J J) ?_
   refine z6 ?_
   refine zF (is := [6]) (by kernel_rfl) (by simp) J ⟨fun o ho => ?_, trivial⟩
   all_goals (cases ho)
   refine zFi J J J J J J J J (by show (0 : Int) ≤ _ ∧ _ ≤ _ ∧ (16 : Int) * _ ≤ _ ∧ _; omega) ?_
   refine zA0 _ (zE1 (zEw l.length)) ?_
   refine rn1 ?_
   exact fin _ ⟨J, J, J, trivial⟩
  ·refine rn4 ?_
   refine zV 2 J (by kernel_rfl) (by kernel_rfl) (by kernel_rfl) J (zY J) J ?_
   refine zV 3 J (by kernel_rfl) (by kernel_rfl) (by kernel_rfl) J (zL J J J J J J) J ?_
   refine zF (is := [0, 4]) (by kernel_rfl) (by simp) J ⟨fun o ho => ?_, fun o ho => ?_, trivial⟩
   all_goals (cases ho)
   ·refine rn4 ?_
    refine zi (fuel := 4) [4, 5] [(1, .ptr 2 0 0), (19, .ptr 1 0 0), (22, .ptr 1 0 11)] ⟨J, J, J, trivial⟩ (by kernel_rfl) (by decide) J J ?_
    refine zJ J J (zR J J J J J) ?_
    refine zJ J J (zA2 J J J) ?_
    refine z6 ?_
    refine zF (is := [6]) (by kernel_rfl) (by simp) J ⟨fun o ho => ?_, trivial⟩
    all_goals (cases ho)
    refine zFi J J J J J J J J (by show (0 : Int) ≤ _ ∧ _ ≤ _ ∧ (16 : Int) * _ ≤ _ ∧ _; omega) ?_
    refine zA0 _ (zE1 (zEw l.length)) ?_
    refine rn1 ?_
    exact fin _ ⟨J, J, J, trivial⟩
   ·refine rn4 ?_
    refine zV 5 J (by kernel_rfl) (by kernel_rfl) (by kernel_rfl) J (zA2 J J J) J ?_
    refine zF (is := [0, 6]) (by kernel_rfl) (by simp) J ⟨fun o ho => ?_, fun o ho => ?_, trivial⟩
    all_goals (cases ho)
    ·refine rn4 ?_
     refine zF (is := [6]) (by kernel_rfl) (by simp) J ⟨fun o ho => ?_, trivial⟩
     all_goals (cases ho)
     refine zFi J J J J J J J J (by show (0 : Int) ≤ _ ∧ _ ≤ _ ∧ (16 : Int) * _ ≤ _ ∧ _; omega) ?_
     refine zA0 _ (zE1 (zEw l.length)) ?_
     refine rn1 ?_
     exact fin _ ⟨J, J, J, trivial⟩
    ·refine zFi J J J J J J J J (by show (0 : Int) ≤ _ ∧ _ ≤ _ ∧ (16 : Int) * _ ≤ _ ∧ _; omega) ?_
     refine zA0 _ (zE1 (zEw l.length)) ?_
     refine rn1 ?_
     refine zF (is := [0]) (by kernel_rfl) (by simp) J ⟨fun o ho => ?_, trivial⟩
     all_goals (cases ho)
     refine rn4 ?_
     exact fin _ ⟨J, J, J, trivial⟩
 refine zV 7 J (by kernel_rfl) (by kernel_rfl) (by kernel_rfl) J (zY J) J ?_
 refine zV 8 J (by kernel_rfl) (by kernel_rfl) (by kernel_rfl) J (zL J J J J J J) J ?_
 refine zF (is := [9]) (by kernel_rfl) (by simp) J ⟨fun o ho => ?_, trivial⟩
 all_goals (cases ho)
 refine rn9 ?_
 refine zZ (by kernel_rfl) ?_
 repeat (refine zB ?_)
 refine zAa (slH r l nx (zCb r l 0) []) (by rw [zKD]; show _ = [none, some (AObj.mk _ (.box (tbF r l nx (.sl 3 0 (List.replicate l.length ((0, 0) : Ent)).length)))), _, _]; rw [List.length_replicate]; rfl) ?_
 refine zX ?_
 refine rn15 ?_
 refine zx (ι := Nat) (fun k => [(1, .ptr 2 0 0), (31, .ro (zCk l) 0 l.length), (32, iN l.length), (33, iN k)]) (fun k => slH r l nx (zCb r l k) []) (fun k => k ≤ l.length) (fun k => l.length - k) 0 ⟨⟨J, J, J, J, trivial⟩, J, Nat.zero_le _⟩ ?_
 ·intro k hk
  refine rn4 ?_
  refine zI J (fun h => ?_) (fun h => ?_)
  ·have hk' : k < l.length := by omega
   have hEl := zHy r hk
   generalize hp : l.getD k zz = p
   refine zGV ?_
   refine rn4 ?_
   refine zW (poC p) J J J J J (by rw [← hp]; rfl) J ?_
   refine rn0 ?_
   refine zET (slH r l nx (zCb r l k) []) 3 [(1, .ptr 2 0 0), (31, .ro (zCk l) 0 l.length), (32, iN l.length), (33, iN k), (2, iN k)] J J ⟨J, J, J, J, J, trivial⟩ ⟨J, J, J, J, J, J, trivial⟩ (zFc _ _ _ _) J (fun h q => Nat.lt_of_lt_of_le (hfx h q) (by show 2 ≤ 4; decide)) ?_
   refine zb (by kernel_rfl) ?_
   refine zi (fuel := 3) [0, 1, 2, 3, 4, 5, 6, 7, 8, 9, 10] [(3, .rp (.box (poC p)) 0 0), (1, .ptr 2 0 0), (31, .ro (zCk l) 0 l.length), (32, iN l.length), (33, iN k), (2, iN k)] ⟨J, J, J, J, J, J, trivial⟩ (by kernel_rfl) (by decide) J J ?_
   refine zJ J J (zR J J J J J) ?_
   refine zJ J J (zY J) ?_
   refine zJ J J (zL J J J J J J) ?_
   refine zJ J J (zR J J J J J) ?_
   refine zJ J J (zG J) ?_
   refine zJ J J (zR J J J J J) ?_
   refine zJ J J (zY J) ?_
   refine zJ J J (zL J J J J J J) ?_
   refine zJ J J (qpp J J J J J J J) ?_
   refine zJ J J (zAF J J J J J J) ?_
   refine zCH J J J J J (zIo r hv p (by rw [← hp]; exact hS k hk')) ?_
   refine z6 ?_
   refine zV 11 J (by kernel_rfl) (by kernel_rfl) (by kernel_rfl) J (zg J J J J J (by first | (simp only [Nat.zero_add, Int.toNat_natCast, Int.toNat_zero]; exact J) | exact J) (by omega)) J ?_
   refine zV 12 J (by kernel_rfl) (by kernel_rfl) (by kernel_rfl) J (zL J J J J J J) J ?_
   refine zF (is := [13]) (by kernel_rfl) (by simp) J ⟨fun o ho => ?_, trivial⟩
   all_goals (cases ho)
   refine zIN (zAr r p, 0) J J J J J J (by omega) (fun j' hj' => ?_) ?_
   ·rw [zMG r hk']
    match j', hj' with
    | 0, _ => rfl
    | 1, _ => rfl
   refine rn1 ?_
   refine zZ (by kernel_rfl) ?_
   refine rn5 ?_
   refine zT ⟨k + 1, by omega, by omega, ⟨J, J, J, J, trivial⟩, ?_⟩
   rw [zKC r hk', hp]
   show _ = [none, some (AObj.mk _ (.box (tbF r l nx (.sl 3 0 (List.set _ _ _).length)))), _, _]
   rw [List.length_set]; rfl
  ·have hk' : k = l.length := by omega
   subst hk'
   rw [zGs]
   refine rn5 ?_
   have hE0 : (zAE r l).length = l.length := by rw [← zGs]; exact zHy r (Nat.le_refl _)
   have hopl : ∀ E : List Ent, zBV E ≤ E.length := fun E => List.length_filter_le ..
   refine zx (ι := Nat) (fun n => [(1, .ptr 2 0 0), (4, .int .i64 ((n : Int) + 1))]) (fun n => slH r l nx (zo l nx (zAE r l) n) []) (fun n => n + zBV (zo l nx (zAE r l) n) ≤ l.length) (fun n => zBV (zo l nx (zAE r l) n)) 0 ⟨⟨J, J, trivial⟩, J, by show 0 + zBV (zAE r l) ≤ _; have := hopl (zAE r l); omega⟩ ?_
   intro n hn
   have hEl : (zo l nx (zAE r l) n).length = l.length := zCN hE0 n
   have hst : zo l nx (zAE r l) (n + 1) = zC5 l nx (n + 1) (zo l nx (zAE r l) n) := rfl
   have hop : zAh l nx (zo l nx (zAE r l) n) ≠ [] → zBV (zC5 l nx (n + 1) (zo l nx (zAE r l) n)) < zBV (zo l nx (zAE r l) n) := fun q => zEI hEl (fun i => turnB i) q
   generalize hEn : zo l nx (zAE r l) n = E at hn hEl hop hst
   refine rn15 ?_
   refine zBj 5 ⟨3, .ints .i64 []⟩ J J ?_
   skip
   refine zx (ι := Nat) (fun k => [(1, .ptr 2 0 0), (4, .int .i64 ((n : Int) + 1)), (57, .ro (zCk l) 0 l.length), (58, iN l.length), (59, iN k), (5, .sl 4 0 (zAv l nx E k).length)]) (fun k => slH r l nx E [zFO (zAv l nx E k)]) (fun k => k ≤ l.length) (fun k => l.length - k) 0 ⟨⟨J, J, J, J, J, J, trivial⟩, J, Nat.zero_le _⟩ ?_
   intro k hk
   refine rn4 ?_
   refine zI J (fun h => ?_) (fun h => ?_)
   ·have hk' : k < l.length := by omega
    have hkE : k < E.length := by omega
    have hfl := zHO l nx E k
    have htn := turnB k
    have hfs := zJm l nx E k
    have hT : zAW l k = (l.getD k zz).turn := rfl
    generalize hp : l.getD k zz = p at hT
    refine zGV ?_
    refine rn4 ?_
    refine zW (poC p) J J J J J (by rw [← hp]; rfl) J ?_
    refine zAz ?_
    refine zET (slH r l nx E [zFO (zAv l nx E k)]) 7 [(1, .ptr 2 0 0), (4, .int .i64 ((n : Int) + 1)), (57, .ro (zCk l) 0 l.length), (58, iN l.length), (59, iN k), (5, .sl 4 0 (zAv l nx E k).length), (6, iN k)] J J ⟨J, J, J, J, J, J, J, trivial⟩ ⟨J, J, J, J, J, J, J, J, trivial⟩ (zDw _ _ _ _ (zCA (fun _ _ _ _ => rfl) zBp)) J (fun h q => Nat.lt_of_lt_of_le (hfx h q) (by show 2 ≤ 5; decide)) ?_
    repeat (first | refine zA (zG rfl) ?_ | refine zC ?_ | refine zB ?_ | refine zK rfl ?_ | refine zA (zR rfl rfl rfl rfl rfl) ?_ | refine zA (zBP rfl rfl) ?_ | refine zA (zg rfl rfl rfl rfl rfl (by first | (simp only [Nat.zero_add, Int.toNat_natCast, Int.toNat_zero]; exact rfl) | exact rfl) (by omega)) ?_ | refine zA (zCu rfl rfl rfl rfl rfl (by first | assumption | omega)) ?_ | refine zA (zY rfl) ?_ | refine zA (zL rfl rfl rfl rfl rfl rfl) ?_)
    refine zI J (fun o1 => ?_) (fun o1 => ?_)
    ·have hno : ¬ zBb l nx E k = true := fun q => o1 (zD6 q)
     refine rn5 ?_
     refine zT ⟨k + 1, by omega, by omega, ⟨J, J, J, J, J, ?_, trivial⟩, ?_⟩
     ·rw [hfs, if_neg hno]; rfl
     ·rw [hfs, if_neg hno]
    ·have ho : zCf E k = 0 := Classical.not_not.1 o1
     have hfb : zBb l nx E k = (zIs l nx E k || zHa l nx E k) := by unfold zBb; rw [ho]; rfl
     refine rn1 ?_
     refine zb (by kernel_rfl) ?_
     refine zV 0 J (by kernel_rfl) (by kernel_rfl) (by kernel_rfl) J (zH J J J J J J) J ?_
     refine zV 3 J (by kernel_rfl) (by kernel_rfl) (by kernel_rfl) J (zH J J J J J J) J ?_
     apply zQ (H := slH r l nx E [zFO (zAv l nx E k), some ⟨3, .box [.int .i64 0]⟩]) [(1, .ptr 2 0 0), (4, .int .i64 ((n : Int) + 1)), (57, .ro (zCk l) 0 l.length), (58, iN l.length), (59, iN k), (5, .sl 4 0 (zAv l nx E k).length), (6, iN k), (8, .int .i64 (1 + p.turn)), (78, .int .i64 (2 - p.turn)), (9, .ptr 5 0 0)]
     ·intro fin
      refine zF (is := [1, 4, 6]) (by kernel_rfl) (by simp) J ⟨fun o ho => ?_, fun o ho => ?_, fun o ho => ?_, trivial⟩
      all_goals (cases ho)
      ·repeat (first | refine zC ?_ | refine zS ?_ | refine zA (zD rfl rfl rfl rfl) ?_)
       refine zV 2 J (by kernel_rfl) (by kernel_rfl) (by kernel_rfl) J (zAy J J (by omega)) J ?_
       refine zF (is := [4, 6]) (by kernel_rfl) (by simp) J ⟨fun o ho => ?_, fun o ho => ?_, trivial⟩
       all_goals (cases ho)
       ·repeat (first | refine zC ?_ | refine zS ?_ | refine zA (zD rfl rfl rfl rfl) ?_)
        refine zV 5 J (by kernel_rfl) (by kernel_rfl) (by kernel_rfl) J (zA8 J J (by omega)) J ?_
        refine zF (is := [6]) (by kernel_rfl) (by simp) J ⟨fun o ho => ?_, trivial⟩
        all_goals (cases ho)
        refine rn4 ?_
        refine zV 7 J (by kernel_rfl) (by kernel_rfl) (by kernel_rfl) J (zN J) J ?_
        exact fin _ ⟨J, J, J, J, J, J, J, J, J, J, trivial⟩
       ·refine rn4 ?_
        refine zV 7 J (by kernel_rfl) (by kernel_rfl) (by kernel_rfl) J (zN J) J ?_
        refine zF (is := [4]) (by kernel_rfl) (by simp) J ⟨fun o ho => ?_, trivial⟩
        all_goals (cases ho)
        repeat (first | refine zC ?_ | refine zS ?_ | refine zA (zD rfl rfl rfl rfl) ?_)
        refine zV 5 J (by kernel_rfl) (by kernel_rfl) (by kernel_rfl) J (zA8 J J (by omega)) J ?_
        exact fin _ ⟨J, J, J, J, J, J, J, J, J, J, trivial⟩
      ·repeat (first | refine zC ?_ | refine zS ?_ | refine zA (zD rfl rfl rfl rfl) ?_)
       refine zV 5 J (by kernel_rfl) (by kernel_rfl) (by kernel_rfl) J (zA8 J J (by omega)) J ?_
       refine zF (is := [1, 6]) (by kernel_rfl) (by simp) J ⟨fun o ho => ?_, fun o ho => ?_, trivial⟩
       all_goals (cases ho)
       ·repeat (first | refine zC ?_ | refine zS ?_ | refine zA (zD rfl rfl rfl rfl) ?_)
        refine zV 2 J (by kernel_rfl) (by kernel_rfl) (by kernel_rfl) J (zAy J J (by omega)) J ?_
        refine zF (is := [6]) (by kernel_rfl) (by simp) J ⟨fun o ho => ?_, trivial⟩
        all_goals (cases ho)
        refine rn4 ?_
        refine zV 7 J (by kernel_rfl) (by kernel_rfl) (by kernel_rfl) J (zN J) J ?_
        exact fin _ ⟨J, J, J, J, J, J, J, J, J, J, trivial⟩
       ·refine rn4 ?_
        refine zF (is := [1]) (by kernel_rfl) (by simp) J ⟨fun o ho => ?_, trivial⟩
        all_goals (cases ho)
        repeat (first | refine zC ?_ | refine zS ?_ | refine zA (zD rfl rfl rfl rfl) ?_)
        refine zV 2 J (by kernel_rfl) (by kernel_rfl) (by kernel_rfl) J (zAy J J (by omega)) J ?_
        refine zV 7 J (by kernel_rfl) (by kernel_rfl) (by kernel_rfl) J (zN J) J ?_
        exact fin _ ⟨J, J, J, J, J, J, J, J, J, J, trivial⟩
      ·refine rn4 ?_
       refine zF (is := [1, 4]) (by kernel_rfl) (by simp) J ⟨fun o ho => ?_, fun o ho => ?_, trivial⟩
       all_goals (cases ho)
       ·repeat (first | refine zC ?_ | refine zS ?_ | refine zA (zD rfl rfl rfl rfl) ?_)
        refine zV 2 J (by kernel_rfl) (by kernel_rfl) (by kernel_rfl) J (zAy J J (by omega)) J ?_
        refine zV 7 J (by kernel_rfl) (by kernel_rfl) (by kernel_rfl) J (zN J) J ?_
        refine zF (is := [4]) (by kernel_rfl) (by simp) J ⟨fun o ho => ?_, trivial⟩
        all_goals (cases ho)
        repeat (first | refine zC ?_ | refine zS ?_ | refine zA (zD rfl rfl rfl rfl) ?_)
        refine zV 5 J (by kernel_rfl) (by kernel_rfl) (by kernel_rfl) J (zA8 J J (by omega)) J ?_
        exact fin _ ⟨J, J, J, J, J, J, J, J, J, J, trivial⟩
       ·repeat (first | refine zC ?_ | refine zS ?_ | refine zA (zD rfl rfl rfl rfl) ?_)
        refine zV 5 J (by kernel_rfl) (by kernel_rfl) (by kernel_rfl) J (zA8 J J (by omega)) J ?_
        refine zF (is := [1]) (by kernel_rfl) (by simp) J ⟨fun o ho => ?_, trivial⟩
        all_goals (cases ho)
        repeat (first | refine zC ?_ | refine zS ?_ | refine zA (zD rfl rfl rfl rfl) ?_)
        refine zV 2 J (by kernel_rfl) (by kernel_rfl) (by kernel_rfl) J (zAy J J (by omega)) J ?_
        refine zV 7 J (by kernel_rfl) (by kernel_rfl) (by kernel_rfl) J (zN J) J ?_
        exact fin _ ⟨J, J, J, J, J, J, J, J, J, J, trivial⟩
     refine zF (is := [8]) (by kernel_rfl) (by simp) J ⟨fun o ho => ?_, trivial⟩
     all_goals (cases ho)
     refine rn9 ?_
     refine zZ (by kernel_rfl) ?_
     refine zAz ?_
     refine zET (slH r l nx E [zFO (zAv l nx E k)]) 9 [(1, .ptr 2 0 0), (4, .int .i64 ((n : Int) + 1)), (57, .ro (zCk l) 0 l.length), (58, iN l.length), (59, iN k), (5, .sl 4 0 (zAv l nx E k).length), (6, iN k), (8, .int .i64 (1 + p.turn))] J J ⟨J, J, J, J, J, J, J, J, trivial⟩ ⟨J, J, J, J, J, J, J, J, J, trivial⟩ (zDw _ _ _ _ (zCA (fun _ _ _ _ => rfl) zBp)) J (fun h q => Nat.lt_of_lt_of_le (hfx h q) (by show 2 ≤ 5; decide)) ?_
     refine zBW ?_
     have hkn : k < nx.length := by omega
     have hrow := hrl k hk'
     have hcl : ∀ x ∈ (nx.getD k []).map Int.ofNat, 0 ≤ x ∧ x < (E.length : Int) := fun x hx => by
      obtain ⟨q, hq, rfl⟩ := List.mem_map.1 hx
      have := hnk k hk' q hq
      exact ⟨Int.natCast_nonneg q, by show (q : Int) < _; omega⟩
     have hrl2 : ((nx.getD k []).map Int.ofNat).length ≤ 1000000 := by rw [List.length_map]; exact hrow
     have c1 := zGJ (H := slH r l nx E [zFO (zAv l nx E k)]) ((nx.getD k []).map Int.ofNat) (fun x => decide ((E.getD x.toNat (0, 0)).1 = 1 + p.turn)) 40 [.ptr 2 0 0, .rp (.box [.int .i64 (1 + p.turn)]) 0 0] hrl2 (fun x hx => cl1_ok (slH_S r l nx E _) (1 + p.turn) x (hcl x hx))
     have c2 := zGJ (H := slH r l nx E [zFO (zAv l nx E k)]) ((nx.getD k []).map Int.ofNat) (fun x => decide ((E.getD x.toNat (0, 0)).1 ≠ 2 - p.turn)) 41 [.ptr 2 0 0, .rp (.box [.int .i64 (2 - p.turn)]) 0 0] hrl2 (fun x hx => cl2_ok (slH_S r l nx E _) (2 - p.turn) x (hcl x hx))
     rw [← hT, zJQ] at c1
     rw [← hT] at c2
     rw [← hT]
     refine zb (by kernel_rfl) ?_
     refine zi (fuel := 0) [0, 1, 2, 3, 4, 5, 6, 7, 8, 9, 10, 11] [(9, .rp (.box [.int .i64 (2 - zAW l k)]) 0 0), (1, .ptr 2 0 0), (4, .int .i64 ((n : Int) + 1)), (57, .ro (zCk l) 0 l.length), (58, iN l.length), (59, iN k), (5, .sl 4 0 (zAv l nx E k).length), (6, iN k), (8, .int .i64 (1 + zAW l k)), (10, .fn 39 [.ptr 2 0 0])] ⟨J, J, J, J, J, J, J, J, J, J, trivial⟩ (by kernel_rfl) (by decide) J J ?_
     refine zJ J J (zR J J J J J) ?_
     refine zJ J J (zY J) ?_
     refine zJ J J (zL J J J J J J) ?_
     refine zJ J J (zR J J J J J) ?_
     refine zJ J J (zG J) ?_
     refine zJ J J (zf J J J J (by first | (simp only [Nat.zero_add, Int.toNat_natCast, Int.toNat_zero]; exact J) | exact J) (by omega)) ?_
     refine zJ J J (zAw J J J J) ?_
     refine zJ J J (zG J) ?_
     refine zJ J J (zG J) ?_
     refine px_c J J J J J (cl0_ok _ (zDw _ _ _ _ (zCA (fun _ _ _ _ => rfl) zBp)) (by show 2 < 5; decide)) ?_
     refine px_c J J J J J c1 ?_
     refine zJ J J (zN J) ?_
     refine z6 ?_
     refine zZ (by kernel_rfl) ?_
     repeat (first | refine zA (zG rfl) ?_ | refine zB ?_ | refine zX ?_ | refine zK rfl ?_ | refine zA (zAw rfl rfl rfl rfl) ?_ | refine zA (zR rfl rfl rfl rfl rfl) ?_ | refine zA (zf rfl rfl rfl rfl (by first | (simp only [Nat.zero_add, Int.toNat_natCast, Int.toNat_zero]; exact rfl) | exact rfl) (by omega)) ?_ | refine zA (zCX rfl) ?_ | refine zA (zY rfl) ?_ | refine zA (zL rfl rfl rfl rfl rfl rfl) ?_)
     refine zCq J J J c2 (fun _ h => h) (fun _ h => h) ?_
     rintro r' H' ⟨rfl, rfl⟩
     refine rn5 ?_
     rw [zLU]
     have hml : ((zAv l nx E k).map Int.ofNat).length = (zAv l nx E k).length := List.length_map ..
     cases hw : zIs l nx E k with
     | true =>
      have hyes : zBb l nx E k = true := by rw [hfb, hw]; rfl
      refine rn6 ?_
      refine zAY J J J J J J J J J hml J J (by show 0 + 1 ≤ 1; omega) J (by show ((zAv l nx E k).length + 1) * 8 ≤ _ ∧ _; omega) (fun i j _ _ => rfl) (by rw [hfix]; show ¬ 4 < 2; decide) ?_
      refine zAb (slH r l nx E [zFO (zAv l nx E k ++ [k])]) ?_ ?_
      ·show [none, some (AObj.mk _ ((Cells.box _).forget 4)), some (AObj.mk _ ((Cells.box _).forget 4)), some (AObj.mk _ ((zBR E).forget 4)), _] = _
       rw [zBx (fun a j => zFr a j 4)]
       show _ = [none, _, _, _, some (AObj.mk _ (Cells.ints .i64 (List.map Int.ofNat (zAv l nx E k ++ [k]))))]
       rw [List.map_append]; rfl
      refine rn5 ?_
      refine zT ⟨k + 1, by omega, by omega, ⟨J, J, J, J, J, ?_, trivial⟩, ?_⟩
      ·rw [hfs, hyes, if_pos rfl, List.length_append]; rfl
      ·rw [hfs, hyes]; rfl
     | false =>
      cases hl : zHa l nx E k with
      | true =>
       have hyes : zBb l nx E k = true := by rw [hfb, hw, hl]; rfl
       refine rn5 ?_
       refine zAY J J J J J J J J J hml J J (by show 0 + 1 ≤ 1; omega) J (by show ((zAv l nx E k).length + 1) * 8 ≤ _ ∧ _; omega) (fun i j _ _ => rfl) (by rw [hfix]; show ¬ 4 < 2; decide) ?_
       refine zAb (slH r l nx E [zFO (zAv l nx E k ++ [k])]) ?_ ?_
       ·show [none, some (AObj.mk _ ((Cells.box _).forget 4)), some (AObj.mk _ ((Cells.box _).forget 4)), some (AObj.mk _ ((zBR E).forget 4)), _] = _
        rw [zBx (fun a j => zFr a j 4)]
        show _ = [none, _, _, _, some (AObj.mk _ (Cells.ints .i64 (List.map Int.ofNat (zAv l nx E k ++ [k]))))]
        rw [List.map_append]; rfl
       refine rn5 ?_
       refine zT ⟨k + 1, by omega, by omega, ⟨J, J, J, J, J, ?_, trivial⟩, ?_⟩
       ·rw [hfs, hyes, if_pos rfl, List.length_append]; rfl
       ·rw [hfs, hyes]; rfl
      | false =>
       have hno : zBb l nx E k = false := by rw [hfb, hw, hl]; rfl
       refine rn5 ?_
       refine zT ⟨k + 1, by omega, by omega, ⟨J, J, J, J, J, ?_, trivial⟩, ?_⟩
       ·rw [hfs, hno]; rfl
       ·rw [hfs, hno]; rfl
   ·have hk' : k = l.length := by omega
    subst hk'
    have hF : zAv l nx E l.length = zAh l nx E := rfl
    have hfl : (zAh l nx E).length ≤ l.length := zHO l nx E l.length
    have hlt : ∀ j, j < (zAh l nx E).length → (zAh l nx E).getD j 0 < l.length := fun j hj => zLi (l := l) (nx := nx) (E := E) (k := l.length) (zAi 0 hj)
    have hstep := zJL (l := l) (nx := nx) (E := E) (n := n + 1) hEl
    rw [hF]
    generalize hf : zAh l nx E = f at hfl hlt hop hstep
    refine rn5 ?_
    refine zI J (fun z => ?_) (fun z => ?_)
    ·have z2 : f = [] := List.length_eq_zero_iff.1 (by omega)
     subst z2
     repeat (first | refine zB ?_ | refine zX ?_ | refine zCD ?_ | refine zAe ?_ | refine zAd ?_ | refine zAm ?_ | refine zFL rfl ?_)
     refine zCS (slH r l nx E []) [zFO []] [(1, .ptr 2 0 0)] J ⟨J, trivial⟩ (fun h q => Nat.lt_of_lt_of_le (hfx h q) (by show 2 ≤ 4; decide)) (zFc r l nx E) J ?_
     refine rn15 ?_
     refine zx (ι := Nat) (fun j => [(1, .ptr 2 0 0), (181, iN E.length), (182, iN j)]) (fun j => slH r l nx (zBq E j) []) (fun j => j ≤ E.length) (fun j => E.length - j) 0 ⟨⟨J, J, J, trivial⟩, by rw [zJd], Nat.zero_le _⟩ ?_
     intro j hj
     have hcl := zHH E j
     refine rn4 ?_
     refine zI J (fun q => ?_) (fun q => ?_)
     ·have hj' : j < E.length := by omega
      have hat := zLY hj'
      have hsu := zJc hj'
      have hsl : (zBq E (j + 1)).length = E.length := zHH E (j + 1)
      repeat (first | refine zA (zG rfl) ?_ | refine zA (zN rfl) ?_ | refine zC ?_ | refine zB ?_ | refine zX ?_ | refine zK rfl ?_ | refine zAL ?_ | refine zAG ?_ | refine zA (zR rfl rfl rfl rfl rfl) ?_ | refine zA (zBh rfl rfl) ?_ | refine zA (zg rfl rfl rfl rfl rfl (by first | (simp only [Nat.zero_add, Int.toNat_natCast, Int.toNat_zero]; exact rfl) | exact rfl) (by omega)) ?_ | refine zA (zCu rfl rfl rfl rfl rfl (by first | assumption | omega)) ?_ | refine zA (zY rfl) ?_ | refine zA (zL rfl rfl rfl rfl rfl rfl) ?_)
      refine zI J (fun o => ?_) (fun o => ?_)
      ·have o : ((zBq E j).getD j (0, 0)).1 = 0 := o
       rw [hat] at o
       rw [if_pos o] at hsu
       repeat (first | refine zA (zG rfl) ?_ | refine zK rfl ?_ | refine zA (zR rfl rfl rfl rfl rfl) ?_ | refine zA (zg rfl rfl rfl rfl rfl (by first | (simp only [Nat.zero_add, Int.toNat_natCast, Int.toNat_zero]; exact rfl) | exact rfl) (by omega)) ?_ | refine zA (zY rfl) ?_ | refine zA (zL rfl rfl rfl rfl rfl rfl) ?_)
       refine zIN (3, (E.getD j (0, 0)).2) J J J J J J (by show j < (zBq E j).length; omega) (fun j' hj' => ?_) ?_
       ·rw [hat]
        match j', hj' with
        | 0, _ => rfl
        | 1, _ => rfl
       refine rn5 ?_
       refine zT ⟨j + 1, by omega, by omega, ⟨J, J, J, trivial⟩, ?_⟩
       rw [hsu]
       show _ = [none, some (AObj.mk _ (.box (tbF r l nx (.sl 3 0 (List.set _ _ _).length)))), _, _]
       rw [List.length_set]; rfl
      ·have o : ¬ ((zBq E j).getD j (0, 0)).1 = 0 := o
       rw [hat] at o
       rw [if_neg o] at hsu
       refine rn5 ?_
       refine zT ⟨j + 1, by omega, by omega, ⟨J, J, J, trivial⟩, ?_⟩
       rw [hsu]
     ·have hj' : j = E.length := by omega
      subst hj'
      rw [zJb]
      refine rn5 ?_
      refine ax_end (vs := []) hR J ?_
      exact ⟨J, n, by rw [hEn]; exact hf, by rw [hEn]⟩
    ·have hne : f ≠ [] := fun c => z (by rw [c]; rfl)
     have hop := hop hne
     have hml : (f.map Int.ofNat).length = f.length := List.length_map ..
     refine rn3 ?_
     refine zFi J J J J J J J J (by show (0 : Int) ≤ _ ∧ _ ≤ _ ∧ (8 : Int) * _ ≤ _ ∧ _; omega) ?_
     refine rn3 ?_
     refine zx (ι := Nat) (fun j => [(1, .ptr 2 0 0), (4, .int .i64 ((n : Int) + 1)), (5, .sl 4 0 f.length), (13, .sl 5 0 f.length), (116, .sl 4 0 f.length), (117, iN f.length), (118, iN j)]) (fun j => slH r l nx E [zFO f, resO (zEO l nx E f j)]) (fun j => j ≤ f.length) (fun j => f.length - j) 0 ⟨⟨J, J, J, J, J, J, J, trivial⟩, J, Nat.zero_le _⟩ ?_
     intro j hj
     have hrl0 := hrl
     have hrl := resK_len (l := l) (nx := nx) (E := E) hj
     refine rn4 ?_
     refine zI J (fun q => ?_) (fun q => ?_)
     ·have hj' : j < f.length := by omega
      have hjr : j < (zEO l nx E f j).length := by omega
      have hil := hlt j hj'
      have hsu := zL6 (l := l) (nx := nx) (E := E) hj'
      have hgi : (f.map Int.ofNat).getD j 0 = ((f.getD j 0 : Nat) : Int) := by simp [List.getD, List.getElem?_eq_getElem hj']
      generalize hi : f.getD j 0 = i at hil hsu hgi
      have htn := turnB i
      have hT : zAW l i = (l.getD i zz).turn := rfl
      refine rn20 ?_
      refine zK J ?_
      repeat (first | refine zA (zG rfl) ?_ | refine zA (zN rfl) ?_ | refine zC ?_ | refine zB ?_ | refine zX ?_ | refine zA (zg rfl rfl rfl rfl rfl (by first | (simp only [Nat.zero_add, Int.toNat_natCast, Int.toNat_zero]; exact rfl) | exact rfl) (by omega)) ?_ | refine zA (zAo rfl rfl rfl rfl (by first | assumption | omega)) ?_ | refine z8 rfl rfl rfl rfl rfl rfl rfl Nat.zero_lt_one ?_ | refine zAJ rfl rfl rfl ?_)
      rw [hgi]
      refine zET (slH r l nx E [zFO f, resO (zEO l nx E f j)]) 15 [(1, .ptr 2 0 0), (4, .int .i64 ((n : Int) + 1)), (5, .sl 4 0 f.length), (13, .sl 5 0 f.length), (116, .sl 4 0 f.length), (117, iN f.length), (118, iN j), (14, iN j)] J J ⟨J, J, J, J, J, J, J, J, trivial⟩ ⟨J, J, J, J, J, J, J, J, J, trivial⟩ (zDw _ _ _ _ (zCA (fun _ _ _ _ => rfl) (zCA (fun _ _ _ _ => rfl) zBp))) J (fun h q => Nat.lt_of_lt_of_le (hfx h q) (by show 2 ≤ 6; decide)) ?_
      skip
      refine zb (by kernel_rfl) ?_
      refine zi (fuel := 1) [0, 1, 2, 3, 4, 5, 6, 7, 8, 9, 10, 11] [(15, .rp (.box [iN i]) 0 0), (1, .ptr 2 0 0), (4, .int .i64 ((n : Int) + 1)), (5, .sl 4 0 f.length), (13, .sl 5 0 f.length), (116, .sl 4 0 f.length), (117, iN f.length), (118, iN j), (14, iN j)] ⟨J, J, J, J, J, J, J, J, J, trivial⟩ (by kernel_rfl) (by decide) J J ?_
      refine zJ J J (zG J) ?_
      refine zJ J J (zG J) ?_
      refine zJ J J (zR J J J J J) ?_
      refine zJ J J (zY J) ?_
      refine zJ J J (zL J J J J J J) ?_
      refine zJ J J (zR J J J J J) ?_
      refine zJ J J (zD J J J J) ?_
      refine zJ J J (zf J J J J (by first | (simp only [Nat.zero_add, Int.toNat_natCast, Int.toNat_zero]; exact J) | exact J) (by omega)) ?_
      refine zJ J J (zH J J J J J J) ?_
      refine zJ J J (zAw J J J J) ?_
      refine zJ J J (zA8 J J (by omega)) ?_
      refine zJ J J (zg J J J J J (by first | (simp only [Nat.zero_add, Int.toNat_natCast, Int.toNat_zero]; exact J) | exact J) (by omega)) ?_
      refine z6 ?_
      refine zF (is := [12]) (by kernel_rfl) (by simp) J ⟨fun o ho => ?_, trivial⟩
      all_goals (cases ho)
      refine rn7 ?_
      refine zZ (by kernel_rfl) ?_
      refine rn0 ?_
      have hrow := hrl0 i hil
      have hcl : ∀ x ∈ (nx.getD i []).map Int.ofNat, 0 ≤ x ∧ x < (E.length : Int) := fun x hx => by
       obtain ⟨q, hq, rfl⟩ := List.mem_map.1 hx
       have := hnk i hil q hq
       exact ⟨Int.natCast_nonneg q, by show (q : Int) < _; omega⟩
      have hrl2 : ((nx.getD i []).map Int.ofNat).length ≤ 1000000 := by rw [List.length_map]; exact hrow
      have c3 := zGJ (H := slH r l nx E [zFO f, resO ((zEO l nx E f j).set j (2 - (l.getD i zz).turn))]) ((nx.getD i []).map Int.ofNat) (fun x => decide ((E.getD x.toNat (0, 0)).1 = 1 + zAW l i)) 42 [.ptr 2 0 0, .rp (.box [iN i]) 0 0] hrl2 (fun x hx => cl3_ok (slH_S r l nx E _) i hil htn x (hcl x hx))
      rw [zJQ] at c3
      refine zb (by kernel_rfl) ?_
      refine zi (fuel := 0) [0, 1, 2, 3, 4, 5, 6, 7, 8] [(15, .rp (.box [iN i]) 0 0), (1, .ptr 2 0 0), (4, .int .i64 ((n : Int) + 1)), (5, .sl 4 0 f.length), (13, .sl 5 0 f.length), (116, .sl 4 0 f.length), (117, iN f.length), (118, iN j), (14, iN j)] ⟨J, J, J, J, J, J, J, J, J, trivial⟩ (by kernel_rfl) (by decide) J J ?_
      refine zJ J J (zR J J J J J) ?_
      refine zJ J J (zY J) ?_
      refine zJ J J (zL J J J J J J) ?_
      refine zJ J J (zR J J J J J) ?_
      refine zJ J J (zD J J J J) ?_
      refine zJ J J (zf J J J J (by first | (simp only [Nat.zero_add, Int.toNat_natCast, Int.toNat_zero]; exact J) | exact J) (by omega)) ?_
      refine zJ J J (zAw J J J J) ?_
      refine zJ J J (zCX J) ?_
      refine px_c J J J J J c3 ?_
      refine z6 ?_
      refine zZ (by kernel_rfl) ?_
      cases hw : zIs l nx E i with
      | true =>
       have hres : zCm l nx E i = 1 + (l.getD i zz).turn := by unfold zCm; rw [hw, if_pos rfl]; rfl
       refine rn5 ?_
       refine zb (by kernel_rfl) ?_
       refine zi (fuel := 1) [0, 1, 2, 3, 4, 5, 6, 7, 8, 9, 10, 11] [(15, .rp (.box [iN i]) 0 0), (1, .ptr 2 0 0), (4, .int .i64 ((n : Int) + 1)), (5, .sl 4 0 f.length), (13, .sl 5 0 f.length), (116, .sl 4 0 f.length), (117, iN f.length), (118, iN j), (14, iN j)] ⟨J, J, J, J, J, J, J, J, J, trivial⟩ (by kernel_rfl) (by decide) J J ?_
       refine zJ J J (zG J) ?_
       refine zJ J J (zG J) ?_
       refine zJ J J (zR J J J J J) ?_
       refine zJ J J (zY J) ?_
       refine zJ J J (zL J J J J J J) ?_
       refine zJ J J (zR J J J J J) ?_
       refine zJ J J (zD J J J J) ?_
       refine zJ J J (zf J J J J (by first | (simp only [Nat.zero_add, Int.toNat_natCast, Int.toNat_zero]; exact J) | exact J) (by omega)) ?_
       refine zJ J J (zH J J J J J J) ?_
       refine zJ J J (zAw J J J J) ?_
       refine zJ J J (zAy J J (by omega)) ?_
       refine zJ J J (zg J J J J J (by first | (simp only [Nat.zero_add, Int.toNat_natCast, Int.toNat_zero]; exact J) | exact J) (by omega)) ?_
       refine z6 ?_
       refine zF (is := [12]) (by kernel_rfl) (by simp) J ⟨fun o ho => ?_, trivial⟩
       all_goals (cases ho)
       have hjr2 : j < ((zEO l nx E f j).set j (2 - (l.getD i zz).turn)).length := by rw [List.length_set]; exact hjr
       refine rn7 ?_
       refine zZ (by kernel_rfl) ?_
       refine rn5 ?_
       refine zT ⟨j + 1, by omega, by omega, ⟨J, J, J, J, J, J, J, trivial⟩, ?_⟩
       rw [hsu, hres]
       show [_, _, _, _, _, some (AObj.mk _ (Cells.ints .i64 (((zEO l nx E f j).set j (2 - (l.getD i zz).turn)).set j (1 + (l.getD i zz).turn))))] = _
       rw [List.set_set]
      | false =>
       have hres : zCm l nx E i = 2 - (l.getD i zz).turn := by unfold zCm; rw [hw, if_neg (by decide)]; rfl
       refine rn5 ?_
       refine zT ⟨j + 1, by omega, by omega, ⟨J, J, J, J, J, J, J, trivial⟩, ?_⟩
       rw [hsu, hres]; rfl
     ·have hj' : j = f.length := by omega
      subst hj'
      refine rn5 ?_
      refine zx (ι := Nat) (fun j => [(1, .ptr 2 0 0), (4, .int .i64 ((n : Int) + 1)), (13, .sl 5 0 f.length), (157, .sl 4 0 f.length), (158, iN f.length), (159, iN j)]) (fun j => slH r l nx (zCF (fun i => (zCm l nx E i, ((n + 1 : Nat) : Int))) (f.take j) E) [zFO f, resO (zEO l nx E f f.length)]) (fun j => j ≤ f.length) (fun j => f.length - j) 0 ⟨⟨J, J, J, J, J, J, trivial⟩, J, Nat.zero_le _⟩ ?_
      intro j hj
      refine rn4 ?_
      refine zI J (fun q => ?_) (fun q => ?_)
      ·have hj' : j < f.length := by omega
       have hjr : j < (zEO l nx E f f.length).length := by omega
       have hil := hlt j hj'
       have hgi : (f.map Int.ofNat).getD j 0 = ((f.getD j 0 : Nat) : Int) := by simp [List.getD, List.getElem?_eq_getElem hj']
       have hrf := zL5 (l := l) (nx := nx) (E := E) hj'
       have hsn := zJK (fun i => (zCm l nx E i, ((n + 1 : Nat) : Int))) (f.take j) (f.getD j 0) E
       rw [← zw _ 0 j hj'] at hsn
       have hsl := zCw (fun i => (zCm l nx E i, ((n + 1 : Nat) : Int))) (f.take j) E
       have hsl2 := zCw (fun i => (zCm l nx E i, ((n + 1 : Nat) : Int))) (f.take (j + 1)) E
       generalize hi : f.getD j 0 = i at hil hgi hrf hsn
       generalize hA : zCF (fun i => (zCm l nx E i, ((n + 1 : Nat) : Int))) (f.take j) E = A at hsl hsn
       generalize hA2 : zCF (fun i => (zCm l nx E i, ((n + 1 : Nat) : Int))) (f.take (j + 1)) E = A2 at hsn hsl2
       refine rn20 ?_
       refine zK J ?_
       repeat (first | refine zA (zG rfl) ?_ | refine zA (zN rfl) ?_ | refine zC ?_ | refine zB ?_ | refine zA (zg rfl rfl rfl rfl rfl (by first | (simp only [Nat.zero_add, Int.toNat_natCast, Int.toNat_zero]; exact rfl) | exact rfl) (by omega)) ?_ | refine zA (zAo rfl rfl rfl rfl (by first | assumption | omega)) ?_)
       rw [hgi]
       skip
       refine zb (by kernel_rfl) ?_
       refine zi (fuel := 1) [0, 1, 2, 3, 4, 5, 6, 7, 8, 9, 10, 11] [(1, .ptr 2 0 0), (4, .int .i64 ((n : Int) + 1)), (13, .sl 5 0 f.length), (157, .sl 4 0 f.length), (158, iN f.length), (159, iN j), (16, iN j), (17, iN i)] ⟨J, J, J, J, J, J, J, J, trivial⟩ (by kernel_rfl) (by decide) J J ?_
       refine zJ J J (zR J J J J J) ?_
       refine zJ J J (zY J) ?_
       refine zJ J J (zL J J J J J J) ?_
       refine zJ J J (zR J J J J J) ?_
       refine zJ J J (zG J) ?_
       refine zJ J J (zG J) ?_
       refine zJ J J (zG J) ?_
       refine zJ J J (zg J J J J J (by first | (simp only [Nat.zero_add, Int.toNat_natCast, Int.toNat_zero]; exact J) | exact J) (by omega)) ?_
       refine zJ J J (zAo J J J J (by first | assumption | omega)) ?_
       refine zJ J J (zG J) ?_
       refine zJ J J (zC9 J J J J J J) ?_
       refine zJ J J (zg J J J J J (by first | (simp only [Nat.zero_add, Int.toNat_natCast, Int.toNat_zero]; exact J) | exact J) (by omega)) ?_
       refine z6 ?_
       refine zF (is := [12]) (by kernel_rfl) (by simp) J ⟨fun o ho => ?_, trivial⟩
       all_goals (cases ho)
       refine zKO (zCm l nx E i, ((n + 1 : Nat) : Int)) J J J J J (by show i < A.length; omega) (by decide) (fun j' hj' => ?_) ?_
       ·match j', hj' with
        | 0, _ => show AV.int .i64 (zCm l nx E i) = AV.int .i64 ((zEO l nx E f f.length).getD j 0); rw [hrf]
        | 1, _ => rfl
       refine rn1 ?_
       refine zZ (by kernel_rfl) ?_
       refine rn5 ?_
       refine zT ⟨j + 1, by omega, by omega, ⟨J, J, J, J, J, J, trivial⟩, ?_⟩
       show _ = slH r l nx (zCF (fun i => (zCm l nx E i, ((n + 1 : Nat) : Int))) (f.take (j + 1)) E) [zFO f, resO (zEO l nx E f f.length)]
       rw [hA2, hsn]
       show _ = [none, some (AObj.mk _ (.box (tbF r l nx (.sl 3 0 (List.set _ _ _).length)))), _, _, _, _]
       rw [List.length_set]; rfl
      ·have hj' : j = f.length := by omega
       subst hj'
       rw [List.take_length, hstep, ← hst]
       refine zFB ?_
       refine zCS (slH r l nx (zo l nx (zAE r l) (n + 1)) []) [zFO f, resO (zEO l nx E f f.length)] [(1, .ptr 2 0 0), (4, .int .i64 ((n : Int) + 1))] J ⟨J, J, trivial⟩ (fun h q => Nat.lt_of_lt_of_le (hfx h q) (by show 2 ≤ 4; decide)) (zFc r l nx _) J ?_
       refine rn3 ?_
       refine zT ⟨n + 1, by rw [hst]; omega, by rw [hst]; omega, ⟨J, J, trivial⟩, J⟩
abbrev zEN (r : Go.Ax.Gm.Rules) (l : List Pos) (nx : List (List Nat)) : zM :=
 [some ⟨62, .mp (zBt l) (zCO l.length)⟩, some ⟨67, .box (tbC r l.length nx.length .nil)⟩, some ⟨29, zCk l⟩, some ⟨23, zC4 nx⟩]
theorem zEt (r : Go.Ax.Gm.Rules) (l : List Pos) (nx : List (List Nat)) : ∀ (h : Nat) (o : AObj), (zEN r l nx)[h]? = some (some o) → zAq (zEN r l nx).length o.c :=
 zCA (zHV l _) (zCA (zHC rfl) (zCA (zIk l) (zCA (zHs nx) zBp)))
/-- (*retro.Table).add -/
theorem add0_ok (r : Go.Ax.Gm.Rules) (hv : ValidR r) (l : List Pos) (nx : List (List Nat)) (p : Pos) (S : Sound r p) (G : ∀ q ∈ l, Sound r q ∧ q.quiet = 0) (hl : l.length ≤ 3001) :
 ze Tryd.prog 20 [.ptr 1 0 0, poA p] (zEN r l nx) (fun h => h < 4 ∧ h ≠ 2) (fun v H => v = iN (zBG l p) ∧ H = zEN r (zCR l p) nx) := by
 have hc : ze Tryd.prog 20 [.ptr 1 0 0, poA p] (zEN r l nx) (fun h => h < 4 ∧ h ≠ 2) (fun v H => v = iN (zBG l p) ∧ ∃ x, H = zEN r (zCR l p) nx ++ [x]) := by
  refine zP (P := Tryd.prog) (fn := Tryd.f20) J J (by kernel_rfl) J (fun c hR hfix => ?_)
  refine rn6 ?_
  refine zU J J J (zE2 hv S) ?_
  refine rn8 ?_
  by_cases hi : zBG l p < l.length
  ·have hadd : zCR l p = l := by unfold zCR; rw [if_pos hi]
   rw [hadd] at hR
   refine zA (zEE J (.str J) J J J J (zCs l) (zBG l p) (zGN hi) (zGa hi)) ?_
   refine rn5 ?_
   exact zO hR J ⟨J, _, J⟩
  ·have hadd : zCR l p = l ++ [zBz p] := by unfold zCR; rw [if_neg hi]
   have hidx : zBG l p = l.length := by have := zI5 l p; omega
   rw [hadd, hidx] at hR
   refine zA (zDi J (.str J) J J J J J J J J (zCs l) (zEe hv S G hi)) ?_
   repeat (first | refine zA (zG rfl) ?_ | refine zA (zN rfl) ?_ | refine zC ?_ | refine zB ?_ | refine zX ?_ | refine zK rfl ?_ | refine zAZ rfl ?_ | refine zA (zR rfl rfl rfl rfl rfl) ?_ | refine zA (zDv rfl) ?_ | refine zA (zAj rfl rfl) ?_ | refine zA (zA2 rfl rfl rfl) ?_ | refine zA (zY rfl) ?_ | refine zA (zL rfl rfl rfl rfl rfl rfl) ?_ | refine z8 rfl rfl rfl rfl rfl rfl rfl Nat.zero_lt_one ?_)
   refine zEU J (.str J) J J J J J (zCs l) (zEe hv S G hi) ?_
   refine rn0 ?_
   have hll : (l ++ [zBz p]).length = l.length + 1 := by rw [List.length_append]; rfl
   refine zAa [some ⟨62, .mp (zBt (l ++ [zBz p])) (zCO (l.length + 1))⟩, some ⟨67, .box (tbC r l.length nx.length .nil)⟩, some ⟨29, zCk l⟩, some ⟨23, zC4 nx⟩, some ⟨29, .box (poC (zBz p))⟩] (by rw [← zIe, ← zIr]; rfl) ?_
   refine zb (by kernel_rfl) ?_
   refine zV 0 J (by kernel_rfl) (by kernel_rfl) (by kernel_rfl) J (zG J) J ?_
   refine zi (fuel := 4) [1, 2, 3, 4, 5, 6] [(33, .ptr 1 0 0), (0, .ptr 1 0 0), (3, .ptr 4 0 0), (6, iN l.length)] ⟨J, J, J, J, trivial⟩ (by kernel_rfl) (by decide) J J ?_
   refine zJ J J (zG J) ?_
   refine zJ J J (zY J) ?_
   refine zJ J J (zL J J J J J J) ?_
   refine zJ J J (zR J J J J J) ?_
   refine zJ J J (qpp J J J J J J J) ?_
   refine px_b J J J J J J J J J J J J J ?_
   refine z6 ?_
   refine zF (is := [7]) (by kernel_rfl) (by simp) J ⟨fun o ho => ?_, trivial⟩
   all_goals (cases ho)
   refine zBY [zBz p] J J J J J J J J J J J J J (Nat.le_refl _) (fun k' j hk' hj => ?_) (by show (l.length + 1) * 88 ≤ _ ∧ _; omega) (fun a j k _ => zDZ a j k) (by rw [hfix]; exact fun h => h.2 J) ?_
   ·obtain rfl : k' = 0 := Nat.lt_one_iff.1 hk'
    match j, hj with
    | 0, _ => rfl
    | 1, _ => rfl
    | 2, _ => rfl
    | 3, _ => rfl
    | 4, _ => rfl
   refine zAb [some ⟨62, .mp (zBt (l ++ [zBz p])) (zCO (l.length + 1))⟩, some ⟨67, .box ((tbC r l.length nx.length .nil).set 11 .any)⟩, some ⟨29, zCk (l ++ [zBz p])⟩, some ⟨23, zC4 nx⟩, some ⟨29, .box (poC (zBz p))⟩] ?_ ?_
   ·show [some (AObj.mk _ ((Cells.mp _ _).forget 2)), some (AObj.mk _ ((Cells.box _).forget 2)), some (AObj.mk _ (zCk (l ++ [zBz p]))), some (AObj.mk _ ((zC4 nx).forget 2)), some (AObj.mk _ ((Cells.box (poC (zBz p))).forget 2))] = _
    rw [zDY, zBx (fun a j => zDc a j 2)]; rfl
   refine rn1 ?_
   refine zV 8 J (by kernel_rfl) (by kernel_rfl) (by kernel_rfl) J (zY J) J ?_
   refine zV 9 J (by kernel_rfl) (by kernel_rfl) (by kernel_rfl) J (zL J J J J J J) J ?_
   refine zF (is := [10]) (by kernel_rfl) (by simp) J ⟨fun o ho => ?_, trivial⟩
   all_goals (cases ho)
   refine rn9 ?_
   refine zZ (by kernel_rfl) ?_
   refine rn0 ?_
   exact zO hR J ⟨J, _, by show _ = [_, _, _, _, _]; rw [hll]; rfl⟩
 exact ze.cutR hc (fun v H ⟨e1, x, e2⟩ => ⟨_, [x], e2, fun h q => q.1, zEt _ _ _, e1 ▸ J, e1, J⟩)
theorem list_len {r : Go.Ax.Gm.Rules} (hv : ValidR r) {p : Pos} (S : Sound r p) : (zBB r p).length ≤ 10000 := by
 have h1 := zGU hv S p.cells.length
 have h2 := (zBD hv S).c
 have h3 : (rawM r p).length ≤ 384 + 112 * p.cells.length := h1
 unfold zBB
 have h4 := zGg ((rawM r p).mergeSort leM)
 rw [List.length_mergeSort] at h4
 omega
theorem zGO {r : Go.Ax.Gm.Rules} (hv : ValidR r) {p : Pos} (S : Sound r p) : (zA1 r p).length ≤ 10000 := by
 unfold zA1
 split
 ·exact Nat.zero_le _
 ·exact list_len hv S
abbrev zDU (T : Tab) : AV := .rp (.box (tbF T.r T.l T.nx (.ro (zBR T.E) 0 T.E.length))) 0 0
def zEh (r : Go.Ax.Gm.Rules) : AV := if zDT r ≠ 0 then .nilp else match zEi r with
 | some x => zDU (zH0 r x)
 | none => .nilp
theorem zGR : ∀ {l : List AV}, (∀ x ∈ l, noRef x = true) → noRef.noRefs l = true
 | [], _ => rfl
 | x :: l, h => by
  show (noRef x && noRef.noRefs l) = true
  rw [h x (List.mem_cons_self ..), zGR (fun y hy => h y (List.mem_cons_of_mem _ hy))]; rfl
theorem zI6 (l : List Pos) (n : Nat) : zAC (.mp (zBt l) (zCO n)) :=
 ⟨zGR (fun x hx => by obtain ⟨p, _, rfl⟩ := List.mem_map.1 hx; rfl), zGR (fun x hx => by obtain ⟨p, _, rfl⟩ := List.mem_map.1 hx; rfl)⟩
theorem zJ3 (l : List Pos) : zAC (zCk l) := zA9 (fun a j hj => by
 match j, hj with
 | 0, _ => rfl
 | 1, _ => rfl
 | 2, _ => rfl
 | 3, _ => rfl
 | 4, _ => rfl)
theorem zJJ (nx : List (List Nat)) : zAC (zC4 nx) := zA9 (fun a j hj => by
 obtain rfl : j = 0 := Nat.lt_one_iff.1 hj
 rfl)
theorem zI4 (E : List Ent) : zAC (zBR E) := zA9 (fun a j hj => by
 match j, hj with
 | 0, _ => rfl
 | 1, _ => rfl)
/-- retro.New, refused -/
theorem new_no (r : Go.Ax.Gm.Rules) (hr : Lens r) (h : zAQ r ≠ 0) : zn Tryd.prog 6 [ruA r] (.tup [.nilp, .int .i64 (zAQ r)]) := by
 refine ze.value0 (zP (P := Tryd.prog) (fn := Tryd.f6) J J (by kernel_rfl) J (fun c hR hfix => ?_)) (fix := fun _ => False) (fun _ h => h) J J
 refine rn6 ?_
 refine zU J J J (zJW r hr h) ?_
 refine rn4 ?_
 refine zW (poC zz) J J J J J J J ?_
 refine rn3 ?_
 refine zI J (fun q => ?_) (fun q => absurd h q)
 refine rn2 ?_
 exact zO hR J J
/-- retro.New, a limit of quiet moves -/
theorem zLu (r : Go.Ax.Gm.Rules) (hr : Lens r) (h : zAQ r = 0) (hq : r.quiet ≠ 0) : zn Tryd.prog 6 [ruA r] (.tup [.nilp, .int .i64 1]) := by
 refine ze.value0 (zP (P := Tryd.prog) (fn := Tryd.f6) J J (by kernel_rfl) J (fun c hR hfix => ?_)) (fix := fun _ => False) (fun _ h => h) J J
 refine rn6 ?_
 refine zU J J J (zG8 r hr h) ?_
 refine rn4 ?_
 refine zW (poC (zA5 r)) J J J J J J J ?_
 refine rn5 ?_
 refine zI J (fun q => ?_) (fun q => absurd hq q)
 refine rn2 ?_
 exact zO hR J J
/-- retro.New -/
theorem new_run (r : Go.Ax.Gm.Rules) (hr : Lens r) (h : zAQ r = 0) (hq : r.quiet = 0) : zn Tryd.prog 6 [ruA r] (.tup [zEh r, .int .i64 (zDT r)]) := by
 have hE : zDT r = match zEi r with | none => 2 | some _ => 0 := by
  unfold zDT
  rw [if_neg (fun c => c h), if_neg (fun c => c hq)]
  cases zEi r <;> rfl
 have hnone : zEi r = none → zDT r = 2 ∧ zEh r = .nilp := fun q => by
  have e : zDT r = 2 := by rw [hE, q]
  exact ⟨e, by unfold zEh; rw [e, if_pos (by decide)]⟩
 have hsome : ∀ x, zEi r = some x → zDT r = 0 ∧ zEh r = zDU (zH0 r x) := fun x q => by
  have e : zDT r = 0 := by rw [hE, q]
  exact ⟨e, by unfold zEh; rw [e, if_neg (by decide), q]⟩
 have hv := zCM h
 refine ze.value0 (zP (P := Tryd.prog) (fn := Tryd.f6) J J (by kernel_rfl) J (fun c hR hfix => ?_)) (fix := fun _ => False) (fun _ h => h) ?_ ?_
 rotate_left
 ·rfl
 ·show (noRef (zEh r) && true) = true
  rcases hx : zEi r with _ | x
  ·rw [(hnone hx).2]; rfl
  ·rw [(hsome x hx).2]; rfl
 refine zX ?_
 repeat (first | refine zA (zN rfl) ?_ | refine zC ?_ | refine zB ?_ | refine zK rfl ?_ | refine zAp rfl rfl ?_)
 refine zCG 1 [] J ⟨J, trivial⟩ trivial J hfix ?_
 refine rn6 ?_
 refine zU J J J (zG8 r hr h) ?_
 refine rn4 ?_
 refine zW (poC (zA5 r)) J J J J J J J ?_
 refine zAz ?_
 refine zCG 4 [(1, .rp (.box (ruC r)) 0 0), (5, .int .i64 0)] J ⟨J, J, J, trivial⟩ ⟨J, J, trivial⟩ J hfix ?_
 refine zBW ?_
 refine zI J (fun q => absurd hq q) (fun q => ?_)
 refine rn6 ?_
 refine zU J J J (copyR_ok r (zJ9 hv)) ?_
 skip
 refine zKM ?_
 skip
 refine zA (q_buildM J J J J J J) ?_
 repeat (first | refine zA (zN rfl) ?_ | refine zC ?_ | refine zB ?_ | refine zX ?_ | refine zAp rfl rfl ?_)
 refine zAa [some ⟨62, .mp (zBt []) (zCO 0)⟩, some ⟨67, .box [.str r.name, .int .i64 r.w, .int .i64 r.h, .ro (zAV r.pcs) 0 r.pcs.length, zq r.start, .bool r.falls, .bool r.keeps, .ro (zEa r.ends) 0 r.ends.length, .int .i64 r.blocked, .int .i64 r.quiet, .int .i64 r.rep, .nil, .nil, .nil, .mp 0]⟩] J ?_
 refine zDD 1 ⟨29, zCk []⟩ (.box [.str r.name, .int .i64 r.w, .int .i64 r.h, .ro (zAV r.pcs) 0 r.pcs.length, zq r.start, .bool r.falls, .bool r.keeps, .ro (zEa r.ends) 0 r.ends.length, .int .i64 r.blocked, .int .i64 r.quiet, .int .i64 r.rep, .sl 2 0 0, .nil, .nil, .mp 0]) J J J J (fun i j hi hj => by
  obtain rfl : i = 0 := Nat.lt_one_iff.1 hi
  have hj : j < 15 := hj
  match j, hj with
  | 0, _ => exact .inl rfl
  | 1, _ => exact .inl rfl
  | 2, _ => exact .inl rfl
  | 3, _ => exact .inl rfl
  | 4, _ => exact .inl rfl
  | 5, _ => exact .inl rfl
  | 6, _ => exact .inl rfl
  | 7, _ => exact .inl rfl
  | 8, _ => exact .inl rfl
  | 9, _ => exact .inl rfl
  | 10, _ => exact .inl rfl
  | 11, _ => exact .inr ⟨rfl, rfl⟩
  | 12, _ => exact .inl rfl
  | 13, _ => exact .inl rfl
  | 14, _ => exact .inl rfl) ?_
 refine zDD 1 ⟨23, zC4 []⟩ (.box [.str r.name, .int .i64 r.w, .int .i64 r.h, .ro (zAV r.pcs) 0 r.pcs.length, zq r.start, .bool r.falls, .bool r.keeps, .ro (zEa r.ends) 0 r.ends.length, .int .i64 r.blocked, .int .i64 r.quiet, .int .i64 r.rep, .sl 2 0 0, .sl 3 0 0, .nil, .mp 0]) J J J J (fun i j hi hj => by
  obtain rfl : i = 0 := Nat.lt_one_iff.1 hi
  have hj : j < 15 := hj
  match j, hj with
  | 0, _ => exact .inl rfl
  | 1, _ => exact .inl rfl
  | 2, _ => exact .inl rfl
  | 3, _ => exact .inl rfl
  | 4, _ => exact .inl rfl
  | 5, _ => exact .inl rfl
  | 6, _ => exact .inl rfl
  | 7, _ => exact .inl rfl
  | 8, _ => exact .inl rfl
  | 9, _ => exact .inl rfl
  | 10, _ => exact .inl rfl
  | 11, _ => exact .inl rfl
  | 12, _ => exact .inr ⟨rfl, rfl⟩
  | 13, _ => exact .inl rfl
  | 14, _ => exact .inl rfl) ?_
 refine zAa (zEN r [] []) J ?_
 have nofix : ∀ (h n : Nat), c.fix h → h < n := fun h n q => by rw [hfix] at q; exact q.elim
 refine zCS (zEN r [] []) [] [(4, .rp (.box (poC (zA5 r))) 0 0), (6, .ptr 1 0 0)] J ⟨J, J, trivial⟩ (fun h q => nofix h _ q) (zEt _ _ _) J ?_
 refine rn6 ?_
 refine zES 2 J J J (add0_ok r hv [] [] (zA5 r) (zEW hv) (fun q hq => absurd hq (by simp)) (Nat.zero_le _)) (fun h q1 q2 => ⟨q1, q2⟩) (fun h q => q.1) (by rw [hfix]; exact fun h => h) ?_
 rintro v H ⟨rfl, rfl⟩
 refine ⟨Nat.le_refl _, ?_⟩
 refine rn1 ?_
 refine zx (ι := Nat × List Pos × List (List Nat)) (fun x => [(6, .ptr 1 0 0), (7, iN x.1)]) (fun x => zEN r x.2.1 x.2.2) (fun x => Grown r x.1 x.2.1 x.2.2 ∧ Go.Ax.Gm.grow r (3001 - x.1) x.1 x.2.1 x.2.2 = zEi r) (fun x => 3001 - x.1) (0, [zA5 r], []) ⟨⟨J, J, trivial⟩, J, zGk hv, J⟩ ?_
 rintro ⟨i, l, nx⟩ ⟨G, hg⟩
 have G : Grown r i l nx := G
 have hg : Go.Ax.Gm.grow r (3001 - i) i l nx = zEi r := hg
 change Ax _ _ _ _ [(6, .ptr 1 0 0), (7, iN i)] (zEN r l nx)
 have hmost := G.most
 have hle := G.le
 repeat (first | refine zA (zG rfl) ?_ | refine zC ?_ | refine zB ?_ | refine zX ?_ | refine zK rfl ?_ | refine zA (zR rfl rfl rfl rfl rfl) ?_ | refine zA (zBv rfl rfl) ?_ | refine zA (zA2 rfl rfl rfl) ?_ | refine zA (zY rfl) ?_ | refine zA (zL rfl rfl rfl rfl rfl rfl) ?_)
 refine zI J (fun q => ?_) (fun q => ?_)
 ·have hi : i < l.length := by omega
  have S := (G.snd (l.getD i zz) (by
   rw [show l.getD i zz = l[i] by simp [List.getD, hi]]
   exact List.getElem_mem hi)).1
  have hml := zGO hv S
  refine rn20 ?_
  refine zK J ?_
  refine zAz ?_
  refine zBj 8 ⟨3, .ints .i64 []⟩ J J ?_
  refine zAa (zH1 r l nx []) J ?_
  skip
  refine zb (by kernel_rfl) ?_
  refine zi (fuel := 0) [0, 1, 2, 3, 4, 5, 6, 7, 8, 9, 10, 11, 12, 13] [(6, .ptr 1 0 0), (7, iN i), (8, .sl 4 0 0)] ⟨J, J, J, trivial⟩ (by kernel_rfl) (by decide) J J ?_
  refine zJ J J (zG J) ?_
  refine zJ J J (zY J) ?_
  refine zJ J J (zL J J J J J J) ?_
  refine zJ J J (qpp J J J J J J J) ?_
  refine zJ J J (zG J) ?_
  refine zJ J J (zY J) ?_
  refine zJ J J (zL J J J J J J) ?_
  refine zJ J J (zR J J J J J) ?_
  refine zJ J J (zG J) ?_
  refine zJ J J (zg J J J J J (by first | (simp only [Nat.zero_add, Int.toNat_natCast, Int.toNat_zero]; exact J) | exact J) (by omega)) ?_
  refine zJ J J (qpp J J J J J J J) ?_
  refine zCH J J J J J (zGi r hv (l.getD i zz) S) ?_
  refine zJ J J (zA2 J J J) ?_
  refine zJ J J (zG J) ?_
  refine z6 ?_
  refine zZ (by kernel_rfl) ?_
  refine rn1 ?_
  have hok : ∀ m ∈ zA1 r (l.getD i zz), MvOK r (l.getD i zz) m ∧ Sound r (zBf r (l.getD i zz) m) := fun m hm => ⟨zHd hv S hm, zHb hv S (zHd hv S hm)⟩
  have hstep := fun l' ix (h : zB1 r (l.getD i zz) (zA1 r (l.getD i zz)) l [] = some (l', ix)) => zHP G hi (fun m hm => (hok m hm).2) h
  have hgN : zB1 r (l.getD i zz) (zA1 r (l.getD i zz)) l [] = none → ∀ f, Go.Ax.Gm.grow r (f + 1) i l nx = none := fun a f => by rw [Go.Ax.Gm.grow, if_pos hi, a]
  have hgS : ∀ x, zB1 r (l.getD i zz) (zA1 r (l.getD i zz)) l [] = some x → ∀ f, Go.Ax.Gm.grow r (f + 1) i l nx = Go.Ax.Gm.grow r f (i + 1) x.1 (nx ++ [x.2]) := fun x a f => by rw [Go.Ax.Gm.grow, if_pos hi, a]
  generalize hms : zA1 r (l.getD i zz) = ms at hok hstep hgN hgS hml
  refine zx (ι := Nat × List Pos × List Nat) (fun x => [(6, .ptr 1 0 0), (7, iN i), (8, .sl 4 0 x.2.2.length), (50, zCz ms), (51, iN ms.length), (52, iN x.1)]) (fun x => zH1 r x.2.1 nx (x.2.2.map Int.ofNat)) (fun x => x.1 ≤ ms.length ∧ zB1 r (l.getD i zz) (ms.drop x.1) x.2.1 x.2.2 = zB1 r (l.getD i zz) ms l [] ∧ l <+: x.2.1 ∧ (∀ q ∈ x.2.1, Sound r q ∧ q.quiet = 0) ∧ x.2.1.length ≤ 3000 ∧ x.2.2.length = x.1) (fun x => ms.length - x.1) (0, l, []) ⟨⟨J, J, J, J, J, J, trivial⟩, J, Nat.zero_le _, J, List.prefix_refl _, G.snd, hmost, J⟩ ?_
  rintro ⟨k, l', ix⟩ ⟨hk, ha, hpre, hsnd, hl3, hix⟩
  have hk : k ≤ ms.length := hk
  have ha : zB1 r (l.getD i zz) (ms.drop k) l' ix = zB1 r (l.getD i zz) ms l [] := ha
  have hpre : l <+: l' := hpre
  have hsnd : ∀ q ∈ l', Sound r q ∧ q.quiet = 0 := hsnd
  have hl3 : l'.length ≤ 3000 := hl3
  have hix : ix.length = k := hix
  change Ax _ _ _ _ [(6, .ptr 1 0 0), (7, iN i), (8, .sl 4 0 ix.length), (50, zCz ms), (51, iN ms.length), (52, iN k)] (zH1 r l' nx (ix.map Int.ofNat))
  have hli : (ix.map Int.ofNat).length = ix.length := List.length_map ..
  refine rn4 ?_
  refine zI J (fun q2 => ?_) (fun q2 => ?_)
  ·have hk' : k < ms.length := by omega
   have hd : ms.drop k = ms.getD k mv0 :: ms.drop (k + 1) := by rw [List.drop_eq_getElem_cons hk', zFx mv0 hk']
   have hm := hok (ms.getD k mv0) (zAi mv0 hk')
   rw [hd, zB1] at ha
   have hpi : l'.getD i zz = l.getD i zz := zEl hpre hi
   have hi' : i < l'.length := Nat.lt_of_lt_of_le hi hpre.length_le
   rw [← hpi] at hm S
   generalize hmk : ms.getD k mv0 = m at ha hm
   refine zGV ?_
   repeat (refine zAJ rfl rfl rfl ?_)
   refine zW (mvC m) J J J J J (by rw [← hmk]; rfl) J ?_
   refine rn0 ?_
   refine zET (zH1 r l' nx (ix.map Int.ofNat)) 10 [(6, .ptr 1 0 0), (7, iN i), (8, .sl 4 0 ix.length), (50, zCz ms), (51, iN ms.length), (52, iN k)] J J ⟨J, J, J, J, J, J, trivial⟩ ⟨J, J, J, J, J, J, J, trivial⟩ (zH2 _ _ _ _) J (fun h q => nofix h _ q) ?_
   refine zb (by kernel_rfl) ?_
   refine zV 0 J (by kernel_rfl) (by kernel_rfl) (by kernel_rfl) J (zG J) J ?_
   refine zi (fuel := 4) [1, 2, 3, 4, 5, 6, 7, 8, 9, 10, 11, 12, 13, 14] [(56, .sl 4 0 ix.length), (10, .rp (.box (mvC m)) 0 0), (6, .ptr 1 0 0), (7, iN i), (8, .sl 4 0 ix.length), (50, zCz ms), (51, iN ms.length), (52, iN k)] ⟨J, J, J, J, J, J, J, J, trivial⟩ (by kernel_rfl) (by decide) J J ?_
   refine zJ J J (zG J) ?_
   refine zJ J J (zG J) ?_
   refine zJ J J (zY J) ?_
   refine zJ J J (zL J J J J J J) ?_
   refine zJ J J (qpp J J J J J J J) ?_
   refine zJ J J (zG J) ?_
   refine zJ J J (zY J) ?_
   refine zJ J J (zL J J J J J J) ?_
   refine zJ J J (zR J J J J J) ?_
   refine zJ J J (zG J) ?_
   refine zJ J J (zg J J J J J (by first | (simp only [Nat.zero_add, Int.toNat_natCast, Int.toNat_zero]; exact J) | exact J) (by omega)) ?_
   refine zJ J J (qpp J J J J J J J) ?_
   refine zJ J J (zAF J J J J J J) ?_
   refine zCH J J J J J (make_ok r hv (l'.getD i zz) S m hm.1) ?_
   refine z6 ?_
   refine zF (is := [15]) (by kernel_rfl) (by simp) J ⟨fun o ho => ?_, trivial⟩
   all_goals (cases ho)
   refine zES 2 J J J (add_ok r hv l' nx (ix.map Int.ofNat) (zBf r (l'.getD i zz) m) hm.2 hsnd (by omega)) (fun h q1 q2 => ⟨q1, q2⟩) (fun h q => q.1) (by rw [hfix]; exact fun h => h) ?_
   rintro v H ⟨rfl, rfl⟩
   refine ⟨Nat.le_refl _, ?_⟩
   rw [hpi]
   generalize hP : zBf r (l.getD i zz) m = P at ha hm
   have hadd := zK0 l' P
   refine rn1 ?_
   refine zF (is := [16]) (by kernel_rfl) (by simp) J ⟨fun o ho => ?_, trivial⟩
   all_goals (cases ho)
   refine rn3 ?_
   refine zF (is := [17]) (by kernel_rfl) (by simp) J ⟨fun o ho => ?_, trivial⟩
   all_goals (cases ho)
   refine zAY J J J J J J J J J hli J J (by show 0 + 1 ≤ 1; omega) J (by show (ix.length + 1) * 8 ≤ _ ∧ _; omega) (fun i j _ _ => rfl) (by rw [hfix]; exact fun h => h) ?_
   refine zAb (zH1 r (zCR l' P) nx ((ix ++ [zBG l' P]).map Int.ofNat)) ?_ ?_
   ·show [some (AObj.mk _ ((Cells.mp _ _).forget 4)), some (AObj.mk _ ((Cells.box _).forget 4)), some (AObj.mk _ ((zCk _).forget 4)), some (AObj.mk _ ((zC4 nx).forget 4)), _] = _
    rw [zDY, zBx (fun a j => zDZ a j 4), zBx (fun a j => zDc a j 4)]
    show _ = [_, _, _, _, some (AObj.mk _ (Cells.ints .i64 ((ix ++ [zBG l' P]).map Int.ofNat)))]
    rw [List.map_append]; rfl
   refine rn1 ?_
   refine zF (is := [18]) (by kernel_rfl) (by simp) J ⟨fun o ho => ?_, trivial⟩
   all_goals (cases ho)
   refine rn1 ?_
   refine zZ (by kernel_rfl) ?_
   refine rn15 ?_
   refine zI J (fun g => ?_) (fun g => ?_)
   ·rw [if_pos (by omega)] at ha
    have hN : zEi r = none := by
     rw [← hg, show 3001 - i = (3000 - i) + 1 by omega]
     exact hgN ha.symm _
    refine rn6 ?_
    refine zO hR J ?_
    show _ = AV.tup [zEh r, .int .i64 (zDT r)]
    rw [(hnone hN).1, (hnone hN).2]; rfl
   ·rw [if_neg (by omega)] at ha
    have hmP : Sound r P := by rw [← hP, ← hpi]; exact hm.2
    refine rn5 ?_
    refine zT ⟨(k + 1, zCR l' P, ix ++ [zBG l' P]), ⟨by show k + 1 ≤ ms.length; omega, ha, hpre.trans (zK1 l' P), zIK hmP hsnd, by show (zCR l' P).length ≤ 3000; omega, by show (ix ++ [zBG l' P]).length = k + 1; rw [List.length_append, hix]; rfl⟩, by show ms.length - (k + 1) < ms.length - k; omega, ⟨J, J, ?_, J, J, J, trivial⟩, J⟩
    show some (AV.sl 4 0 (ix.length + 1)) = some (AV.sl 4 0 (ix ++ [zBG l' P]).length)
    rw [List.length_append]; rfl
  ·have hk' : k = ms.length := by omega
   subst hk'
   rw [List.drop_length, zB1] at ha
   have ha := ha.symm
   refine zAz ?_
   refine zD1 4 8 ix.length [(6, .ptr 1 0 0), (7, iN i)] J zAI J (by show ix.length ≤ (ix.map Int.ofNat).length; rw [hli]; exact Nat.le_refl _) ⟨J, J, trivial⟩ ?_
   have hnl : (nx ++ [ix]).length = nx.length + 1 := by rw [List.length_append]; rfl
   have hnx : nx.length ≤ 3000 := by have := G.len; omega
   refine zK J ?_
   repeat (first | refine zA (zG rfl) ?_ | refine zA (zR rfl rfl rfl rfl rfl) ?_ | refine zA (zY rfl) ?_ | refine zA (zL rfl rfl rfl rfl rfl rfl) ?_ | refine z7 rfl rfl rfl rfl rfl rfl rfl rfl rfl rfl rfl ?_)
   refine zBY [ix] J J J J J J J J J J J J J (by show 0 + 1 ≤ 1; omega) (fun k' j hk' hj => ?_) (by show (nx.length + 1) * 24 ≤ _ ∧ _; omega) (fun a j k _ => zDc a j k) (by rw [hfix]; exact fun h => h) ?_
   ·obtain rfl : k' = 0 := Nat.lt_one_iff.1 hk'
    obtain rfl : j = 0 := Nat.lt_one_iff.1 hj
    show AV.ro (Cells.ints .i64 (List.map Int.ofNat ix)) 0 ix.length = AV.ro (Cells.ints .i64 (List.map Int.ofNat ix)) 0 (List.map Int.ofNat ix).length
    rw [hli]
   refine zAb [some ⟨62, .mp (zBt l') (zCO l'.length)⟩, some ⟨67, .box ((tbC r l'.length nx.length .nil).set 12 .any)⟩, some ⟨29, zCk l'⟩, some ⟨23, zC4 (nx ++ [ix])⟩, none] ?_ ?_
   ·show [some (AObj.mk _ ((Cells.mp _ _).forget 3)), some (AObj.mk _ ((Cells.box _).forget 3)), some (AObj.mk _ ((zCk _).forget 3)), some (AObj.mk _ (zC4 (nx ++ [ix]))), none] = _
    rw [zDY, zBx (fun a j => zDZ a j 3)]; rfl
   repeat (first | refine zC ?_ | refine zAH ?_ | refine zA (zY rfl) ?_ | refine zA (zL rfl rfl rfl rfl rfl rfl) ?_ | refine z8 rfl rfl rfl rfl rfl rfl rfl Nat.zero_lt_one ?_)
   refine zB ?_
   refine zAa (zEN r l' (nx ++ [ix]) ++ [none]) (by show _ = [_, some (AObj.mk _ (.box (tbC r l'.length (nx ++ [ix]).length .nil))), _, _, _]; rw [hnl]; rfl) ?_
   refine zCS (zEN r l' (nx ++ [ix])) [none] [(6, .ptr 1 0 0), (7, iN i)] J ⟨J, J, trivial⟩ (fun h q => nofix h _ q) (zEt _ _ _) J ?_
   refine rn3 ?_
   refine zT ⟨(i + 1, l', nx ++ [ix]), ⟨hstep l' ix ha, ?_⟩, by show 3001 - (i + 1) < 3001 - i; omega, ⟨J, J, trivial⟩, J⟩
   show Go.Ax.Gm.grow r (3001 - (i + 1)) (i + 1) l' (nx ++ [ix]) = zEi r
   rw [← hg, show 3001 - i = (3001 - (i + 1)) + 1 by omega]
   exact (hgS (l', ix) ha _).symm
 ·have hi : i = l.length := by omega
  subst hi
  have hN : zEi r = some (l, nx) := by
   rw [← hg]
   cases 3001 - l.length with
   | zero => rfl
   | succ f => rw [Go.Ax.Gm.grow, if_neg (Nat.lt_irrefl _)]
  refine zAz ?_
  refine zAt [some ⟨62, .mp (zBt l) (zCO l.length)⟩, none, some ⟨29, zCk l⟩, some ⟨23, zC4 nx⟩] [none, some ⟨67, .box (tbF r l nx .nil)⟩, none, none] [(6, .ptr 1 0 0)] ?_ (zB6 (zI6 l _) (zB7 (zB6 (zJ3 l) (zB6 (zJJ nx) zCZ)))) J ?_ ⟨⟨.ptr 1 0 0, J, .inl J⟩, trivial⟩ ?_
  ·intro h o ho
   match h, ho with
   | 0, ho => exact ho
   | 1, ho => simp at ho
   | 2, ho => exact ho
   | 3, ho => exact ho
   | _ + 4, ho => simp at ho
  ·intro h o ho
   match h, ho with
   | 0, ho => simp at ho
   | 1, ho =>
    cases ho
    refine ⟨fun o h => by simp at h, _, J, J, J, J, fun i j hi hj => ?_⟩
    obtain rfl : i = 0 := Nat.lt_one_iff.1 hi
    have hj : j < 15 := hj
    match j, hj with
    | 0, _ => exact .inl rfl
    | 1, _ => exact .inl rfl
    | 2, _ => exact .inl rfl
    | 3, _ => exact .inl rfl
    | 4, _ => exact .inl rfl
    | 5, _ => exact .inl rfl
    | 6, _ => exact .inl rfl
    | 7, _ => exact .inl rfl
    | 8, _ => exact .inl rfl
    | 9, _ => exact .inl rfl
    | 10, _ => exact .inl rfl
    | 11, _ => exact .inr (.inr ⟨rfl, fun o ho => by cases ho; show 0 + l.length ≤ l.length; omega⟩)
    | 12, _ => exact .inr (.inr ⟨rfl, fun o ho => by cases ho; show 0 + nx.length ≤ nx.length; omega⟩)
    | 13, _ => exact .inl rfl
    | 14, _ => exact .inr (.inr ⟨rfl, trivial⟩)
   | 2, ho => simp at ho
   | 3, ho => simp at ho
   | _ + 4, ho => simp at ho
  refine zCS [none, some ⟨67, .box (tbF r l nx .nil)⟩] [none, none] [(6, .ptr 1 0 0)] J ⟨J, trivial⟩ (fun h q => nofix h _ q) (bl_n (zCA (zHC J) zBp)) J ?_
  have hmem : ∀ i, i < l.length → Sound r (l.getD i zz) := fun i hi => by
   rw [show l.getD i zz = l[i] by simp [List.getD, hi]]
   exact (G.snd _ (List.getElem_mem hi)).1
  have hP : SolveP r l nx := ⟨hv, hmost, hmem, G.len, fun i hi => by
   have h1 := G.nxl i hi
   have h2 := zGO hv (hmem i hi)
   omega, fun i hi k hk => by
   obtain ⟨j, hj, rfl⟩ := List.mem_iff_getElem.1 hk
   have h1 := G.nxl i hi
   have := (G.nxt i hi j (by omega)).1
   rwa [Go.Ax.Gm.get_at (nx.getD i []) hj] at this⟩
  refine rn0 ?_
  refine zCq J J J (solve_ok r l nx hP) (fun h q => q) (fun h q => q) ?_
  rintro v H ⟨rfl, N, hN2, rfl⟩
  have hE2 : zBa (zo l nx (zAE r l) N) = (zH0 r (l, nx)).E := new_ent (x := (l, nx)) G hN2
  rw [hE2]
  generalize hEE : (zH0 r (l, nx)).E = E
  refine zAz ?_
  refine zAt [none, none, none, some ⟨40, zBR E⟩] [none, some ⟨67, .box (tbF r l nx (.ro (zBR E) 0 E.length))⟩, none, none] [(6, .ptr 1 0 0)] ?_ (zB7 (zB7 (zB7 (zB6 (zI4 E) zCZ)))) J ?_ ⟨⟨.ptr 1 0 0, J, .inl J⟩, trivial⟩ ?_
  ·intro h o ho
   match h, ho with
   | 0, ho => simp at ho
   | 1, ho => simp at ho
   | 2, ho => simp at ho
   | 3, ho => exact ho
   | _ + 4, ho => simp at ho
  ·intro h o ho
   match h, ho with
   | 0, ho => simp at ho
   | 1, ho =>
    cases ho
    refine ⟨fun o h => by simp at h, _, J, J, J, J, fun i j hi hj => ?_⟩
    obtain rfl : i = 0 := Nat.lt_one_iff.1 hi
    have hj : j < 15 := hj
    match j, hj with
    | 0, _ => exact .inl rfl
    | 1, _ => exact .inl rfl
    | 2, _ => exact .inl rfl
    | 3, _ => exact .inl rfl
    | 4, _ => exact .inl rfl
    | 5, _ => exact .inl rfl
    | 6, _ => exact .inl rfl
    | 7, _ => exact .inl rfl
    | 8, _ => exact .inl rfl
    | 9, _ => exact .inl rfl
    | 10, _ => exact .inl rfl
    | 11, _ => exact .inl rfl
    | 12, _ => exact .inl rfl
    | 13, _ => exact .inr (.inr ⟨rfl, fun o ho => by cases ho; show 0 + E.length ≤ E.length; omega⟩)
    | 14, _ => exact .inl rfl
   | 2, ho => simp at ho
   | 3, ho => simp at ho
   | _ + 4, ho => simp at ho
  refine zCS [none, some ⟨67, .box (tbF r l nx (.ro (zBR E) 0 E.length))⟩] [none, none] [(6, .ptr 1 0 0)] J ⟨J, trivial⟩ (fun h q => nofix h _ q) (bl_n (zCA (zHC J) zBp)) J ?_
  refine zET [none] 6 [] J J trivial ⟨J, trivial⟩ (bl_n zBp) J (fun h q => nofix h _ q) ?_
  refine rn0 ?_
  refine zO hR J ?_
  show _ = AV.tup [zEh r, .int .i64 (zDT r)]
  rw [(hsome _ hN).1, (hsome _ hN).2]
  show _ = AV.tup [.rp (.box (tbF r l nx (.ro (zBR (zH0 r (l, nx)).E) 0 (zH0 r (l, nx)).E.length))) 0 0, .int .i64 0]
  rw [hEE]; rfl
/-- retro.New -/
theorem new_ok (r : Go.Ax.Gm.Rules) (hr : Lens r) : zn Tryd.prog 6 [ruA r] (.tup [zEh r, .int .i64 (zDT r)]) := by
 by_cases h : zAQ r = 0
 ·by_cases hq : r.quiet = 0
  ·exact new_run r hr h hq
  ·have e : zDT r = 1 := by unfold zDT; rw [if_neg (fun c => c h), if_pos hq]
   have e2 : zEh r = .nilp := by unfold zEh; rw [e, if_pos (by decide)]
   rw [e, e2]; exact zLu r hr h hq
 ·have e : zDT r = zAQ r := by unfold zDT; rw [if_pos h]
  have e2 : zEh r = .nilp := by unfold zEh; rw [e, if_pos h]
  rw [e, e2]; exact new_no r hr h
/-- the zero position has empty rows -/
theorem zIM {P : Program} {fn : Func} {c : Ctx} {fr : Fr} {H : zM} {k : List It} {x : Code} {ty : TypeId} (h : Nat) (hh : H[h]? = some (some ⟨ty, .box poZ⟩)) (hk : Ax P fn c (.code x k) fr (H.set h (some ⟨ty, .box (poC zz)⟩))) : Ax P fn c (.code x k) fr H := by
 have hlt : h < H.length := (List.getElem?_eq_some_iff.1 hh).1
 refine zJU (H.set h (some ⟨ty, .box (poC zz)⟩)) (List.length_set ..) (fun h' o ho => ?_) hk
 by_cases e : h' = h
 ·subst e
  rw [List.getElem?_set_self hlt] at ho
  cases ho
  refine ⟨_, hh, J, J, J, fun i j hi hj => ?_⟩
  obtain rfl : i = 0 := Nat.lt_one_iff.1 hi
  have hj : j < 5 := hj
  match j, hj with
  | 0, _ => exact AEq.nil
  | 1, _ => exact AEq.nil
  | 2, _ => exact AEq.nil
  | 3, _ => exact AEq.rfl'
  | 4, _ => exact AEq.rfl'
 ·rw [List.getElem?_set_ne (Ne.symm e)] at ho
  exact ⟨o, ho, J, J, J, fun _ _ _ _ => AEq.rfl'⟩
/-- (*retro.Table).Size -/
theorem size_ok (T : Tab) : zn Tryd.prog 13 [zDU T] (iN T.l.length) := by
 refine ze.value0 (zP (P := Tryd.prog) (fn := Tryd.f13) J J (by kernel_rfl) J (fun c hR hfix => ?_)) (fix := fun _ => False) (fun _ h => h) J J
 repeat (first | refine zA (zG rfl) ?_ | refine zA (zN rfl) ?_ | refine zC ?_ | refine zB ?_ | refine zX ?_ | refine zK rfl ?_ | refine zu ?_ | refine zA (zA2 rfl rfl rfl) ?_ | refine zA (zD rfl rfl rfl rfl) ?_ | refine zA (zAA rfl) ?_ | refine zA (zH rfl rfl rfl rfl rfl rfl) ?_)
 exact zO hR J J
def atE (T : Tab) (i : Int) : Int := if i < 0 ∨ (T.l.length : Int) ≤ i then 4 else 0
def atP (T : Tab) (i : Int) : Pos := if atE T i ≠ 0 then zz else T.l.getD i.toNat zz
def atX (T : Tab) (i : Int) : Ent := if atE T i ≠ 0 then (0, 0) else zAu T i.toNat
theorem zGT {T : Tab} (h : TabOK T) {i : Nat} (hi : i < T.l.length) : SmallP (T.l.getD i zz) := zBD h.v (h.sound hi).1
/-- (*retro.Table).At -/
theorem at_ok (T : Tab) (h : TabOK T) (i : Int) : zn Tryd.prog 10 [zDU T, .int .i64 i] (.tup [poA (atP T i), entA (atX T i), .int .i64 (atE T i)]) := by
 refine ze.value0 (zP (P := Tryd.prog) (fn := Tryd.f10) J J (by kernel_rfl) J (fun c hR hfix => ?_)) (fix := fun _ => False) (fun _ h => h) J J
 have hEl := h.len
 have hmost := h.G.most
 by_cases hi : i < 0 ∨ (T.l.length : Int) ≤ i
 ·have e : atE T i = 4 := by unfold atE; rw [if_pos hi]
  have e1 : atP T i = zz := by unfold atP; rw [e, if_pos (by decide)]
  have e2 : atX T i = (0, 0) := by unfold atX; rw [e, if_pos (by decide)]
  rw [e, e1, e2] at hR
  refine rn4 ?_
  refine zh J J (fun g => ?_) (fun g => ?_)
  ·refine rn18 ?_
   refine zW poZ J J J J J J J ?_
   skip
   refine zW (zB4 (0, 0)) J J J J J J J ?_
   refine rn7 ?_
   refine zIM 0 J ?_
   refine rn2 ?_
   exact zO hR J J
  ·repeat (first | refine zA (zG rfl) ?_ | refine zC ?_ | refine zB ?_ | refine zl rfl rfl ?_ | refine zA (zDa rfl rfl) ?_ | refine zA (zd rfl rfl) ?_ | refine zA (zA2 rfl rfl rfl) ?_ | refine zA (zD rfl rfl rfl rfl) ?_ | refine zA (zAA rfl) ?_ | refine zA (zH rfl rfl rfl rfl rfl rfl) ?_)
   refine zI J (fun q => ?_) (fun q => absurd q (by omega))
   refine rn8 ?_
   refine zW poZ J J J J J J J ?_
   skip
   refine zW (zB4 (0, 0)) J J J J J J J ?_
   refine rn7 ?_
   refine zIM 0 J ?_
   refine rn2 ?_
   exact zO hR J J
 ·have e : atE T i = 0 := by unfold atE; rw [if_neg hi]
  have e1 : atP T i = T.l.getD i.toNat zz := by unfold atP; rw [e, if_neg (by decide)]
  have e2 : atX T i = zAu T i.toNat := by unfold atX; rw [e, if_neg (by decide)]
  rw [e, e1, e2] at hR
  obtain ⟨n, rfl⟩ : ∃ n : Nat, i = (n : Int) := ⟨i.toNat, by omega⟩
  rw [Int.toNat_natCast] at hR
  have hn : n < T.l.length := by omega
  repeat (first | refine zA (zG rfl) ?_ | refine zA (zN rfl) ?_ | refine zC ?_ | refine zB ?_ | refine zX ?_ | refine zK rfl ?_ | refine zl rfl rfl ?_ | refine zA (zBv rfl rfl) ?_ | refine zA (zDa rfl rfl) ?_ | refine zA (zd rfl rfl) ?_ | refine zA (zA2 rfl rfl rfl) ?_ | refine zA (zD rfl rfl rfl rfl) ?_ | refine zA (zAA rfl) ?_ | refine zA (zH rfl rfl rfl rfl rfl rfl) ?_ | refine zAJ rfl rfl rfl ?_)
  refine zI J (fun q => ?_) (fun q => ?_)
  ·exact absurd q (by omega)
  refine rn1 ?_
  refine zb (by kernel_rfl) ?_
  refine zV 0 J (by kernel_rfl) (by kernel_rfl) (by kernel_rfl) J (zG J) J ?_
  refine zV 1 J (by kernel_rfl) (by kernel_rfl) (by kernel_rfl) J (zAA J) J ?_
  refine zV 2 J (by kernel_rfl) (by kernel_rfl) (by kernel_rfl) J (zH J J J J J J) J ?_
  refine zV 4 J (by kernel_rfl) (by kernel_rfl) (by kernel_rfl) J (zG J) J ?_
  refine zV 8 J (by kernel_rfl) (by kernel_rfl) (by kernel_rfl) J (zG J) J ?_
  refine zV 9 J (by kernel_rfl) (by kernel_rfl) (by kernel_rfl) J (zAA J) J ?_
  refine zV 10 J (by kernel_rfl) (by kernel_rfl) (by kernel_rfl) J (zH J J J J J J) J ?_
  refine zV 12 J (by kernel_rfl) (by kernel_rfl) (by kernel_rfl) J (zG J) J ?_
  apply zQ (H := [some ⟨29, .box (poC (T.l.getD n zz))⟩, some ⟨40, .box (zB4 (0, 0))⟩]) [(4, .ptr 0 0 0), (5, .ptr 1 0 0), (34, entA (zAu T n))]
  ·intro f42
   apply zQ (H := [some ⟨29, .box poZ⟩, some ⟨40, .box (zB4 (0, 0))⟩]) [(4, .ptr 0 0 0), (5, .ptr 1 0 0), (27, poA (T.l.getD n zz)), (34, entA (zAu T n))]
   ·intro f32
    apply zQ (H := [some ⟨29, .box (poC (T.l.getD n zz))⟩, some ⟨40, .box (zB4 (0, 0))⟩]) [(4, .ptr 0 0 0), (5, .ptr 1 0 0), (33, .rp (zBR T.E) n 0)]
    ·intro f41
     apply zQ (H := [some ⟨29, .box poZ⟩, some ⟨40, .box (zB4 (0, 0))⟩]) [(4, .ptr 0 0 0), (5, .ptr 1 0 0), (26, poA (T.l.getD n zz)), (34, entA (zAu T n))]
     ·intro f22
      apply zQ (H := [some ⟨29, .box poZ⟩, some ⟨40, .box (zB4 (0, 0))⟩]) [(4, .ptr 0 0 0), (5, .ptr 1 0 0), (27, poA (T.l.getD n zz)), (33, .rp (zBR T.E) n 0)]
      ·intro f31
       apply zQ (H := [some ⟨29, .box (poC (T.l.getD n zz))⟩, some ⟨40, .box (zB4 (0, 0))⟩]) [(4, .ptr 0 0 0), (5, .ptr 1 0 0), (30, .rp (.box (tbF T.r T.l T.nx (.ro (zBR T.E) 0 T.E.length))) 0 13), (32, iN n)]
       ·intro f40
        apply zQ (H := [some ⟨29, .box poZ⟩, some ⟨40, .box (zB4 (0, 0))⟩]) [(4, .ptr 0 0 0), (5, .ptr 1 0 0), (25, .rp (zCk T.l) n 0), (34, entA (zAu T n))]
        ·intro f12
         apply zQ (H := [some ⟨29, .box poZ⟩, some ⟨40, .box (zB4 (0, 0))⟩]) [(4, .ptr 0 0 0), (5, .ptr 1 0 0), (26, poA (T.l.getD n zz)), (33, .rp (zBR T.E) n 0)]
         ·intro f21
          apply zQ (H := [some ⟨29, .box poZ⟩, some ⟨40, .box (zB4 (0, 0))⟩]) [(4, .ptr 0 0 0), (5, .ptr 1 0 0), (27, poA (T.l.getD n zz)), (30, .rp (.box (tbF T.r T.l T.nx (.ro (zBR T.E) 0 T.E.length))) 0 13), (32, iN n)]
          ·intro f30
           apply zQ (H := [some ⟨29, .box poZ⟩, some ⟨40, .box (zB4 (0, 0))⟩]) [(4, .ptr 0 0 0), (5, .ptr 1 0 0), (22, .rp (.box (tbF T.r T.l T.nx (.ro (zBR T.E) 0 T.E.length))) 0 11), (24, iN n), (34, entA (zAu T n))]
           ·intro f02
            apply zQ (H := [some ⟨29, .box poZ⟩, some ⟨40, .box (zB4 (0, 0))⟩]) [(4, .ptr 0 0 0), (5, .ptr 1 0 0), (25, .rp (zCk T.l) n 0), (33, .rp (zBR T.E) n 0)]
            ·intro f11
             apply zQ (H := [some ⟨29, .box poZ⟩, some ⟨40, .box (zB4 (0, 0))⟩]) [(4, .ptr 0 0 0), (5, .ptr 1 0 0), (26, poA (T.l.getD n zz)), (30, .rp (.box (tbF T.r T.l T.nx (.ro (zBR T.E) 0 T.E.length))) 0 13), (32, iN n)]
             ·intro f20
              apply zQ (H := [some ⟨29, .box poZ⟩, some ⟨40, .box (zB4 (0, 0))⟩]) [(4, .ptr 0 0 0), (5, .ptr 1 0 0), (22, .rp (.box (tbF T.r T.l T.nx (.ro (zBR T.E) 0 T.E.length))) 0 11), (24, iN n), (33, .rp (zBR T.E) n 0)]
              ·intro f01
               apply zQ (H := [some ⟨29, .box poZ⟩, some ⟨40, .box (zB4 (0, 0))⟩]) [(4, .ptr 0 0 0), (5, .ptr 1 0 0), (25, .rp (zCk T.l) n 0), (30, .rp (.box (tbF T.r T.l T.nx (.ro (zBR T.E) 0 T.E.length))) 0 13), (32, iN n)]
               ·intro f10
                refine zF (is := [3, 11]) (by kernel_rfl) (by simp) J ⟨fun o ho => ?_, fun o ho => ?_, trivial⟩
                all_goals (cases ho)
                ·repeat (first | refine zC ?_ | refine zS ?_ | refine zA (zD rfl rfl rfl rfl) ?_)
                 refine zV 5 J (by kernel_rfl) (by kernel_rfl) (by kernel_rfl) J (zf J J J J (by first | (simp only [Nat.zero_add, Int.toNat_natCast, Int.toNat_zero]; exact J) | exact J) (by omega)) J ?_
                 exact f10 _ ⟨J, J, J, J, J, trivial⟩
                ·repeat (first | refine zC ?_ | refine zS ?_ | refine zA (zD rfl rfl rfl rfl) ?_)
                 refine zV 13 J (by kernel_rfl) (by kernel_rfl) (by kernel_rfl) J (zf J J J J (by first | (simp only [Nat.zero_add, Int.toNat_natCast, Int.toNat_zero]; exact J) | exact J) (by omega)) J ?_
                 exact f01 _ ⟨J, J, J, J, J, trivial⟩
               ·refine zF (is := [6, 11]) (by kernel_rfl) (by simp) J ⟨fun o ho => ?_, fun o ho => ?_, trivial⟩
                all_goals (cases ho)
                ·refine rn6 ?_
                 exact f20 _ ⟨J, J, J, J, J, trivial⟩
                ·repeat (first | refine zC ?_ | refine zS ?_ | refine zA (zD rfl rfl rfl rfl) ?_)
                 refine zV 13 J (by kernel_rfl) (by kernel_rfl) (by kernel_rfl) J (zf J J J J (by first | (simp only [Nat.zero_add, Int.toNat_natCast, Int.toNat_zero]; exact J) | exact J) (by omega)) J ?_
                 exact f11 _ ⟨J, J, J, J, trivial⟩
              ·refine zF (is := [3, 14]) (by kernel_rfl) (by simp) J ⟨fun o ho => ?_, fun o ho => ?_, trivial⟩
               all_goals (cases ho)
               ·repeat (first | refine zC ?_ | refine zS ?_ | refine zA (zD rfl rfl rfl rfl) ?_)
                refine zV 5 J (by kernel_rfl) (by kernel_rfl) (by kernel_rfl) J (zf J J J J (by first | (simp only [Nat.zero_add, Int.toNat_natCast, Int.toNat_zero]; exact J) | exact J) (by omega)) J ?_
                exact f11 _ ⟨J, J, J, J, trivial⟩
               ·refine rn6 ?_
                exact f02 _ ⟨J, J, J, J, J, trivial⟩
             ·refine zF (is := [7, 11]) (by kernel_rfl) (by simp) J ⟨fun o ho => ?_, fun o ho => ?_, trivial⟩
              all_goals (cases ho)
              ·refine zU J J J (zHK (T.l.getD n zz) (zGT h hn)) ?_
               refine rn1 ?_
               exact f30 _ ⟨J, J, J, J, J, trivial⟩
              ·repeat (first | refine zC ?_ | refine zS ?_ | refine zA (zD rfl rfl rfl rfl) ?_)
               refine zV 13 J (by kernel_rfl) (by kernel_rfl) (by kernel_rfl) J (zf J J J J (by first | (simp only [Nat.zero_add, Int.toNat_natCast, Int.toNat_zero]; exact J) | exact J) (by omega)) J ?_
               exact f21 _ ⟨J, J, J, J, trivial⟩
            ·refine zF (is := [6, 14]) (by kernel_rfl) (by simp) J ⟨fun o ho => ?_, fun o ho => ?_, trivial⟩
             all_goals (cases ho)
             ·refine rn6 ?_
              exact f21 _ ⟨J, J, J, J, trivial⟩
             ·refine rn6 ?_
              exact f12 _ ⟨J, J, J, J, trivial⟩
           ·refine zF (is := [3]) (by kernel_rfl) (by simp) J ⟨fun o ho => ?_, trivial⟩
            all_goals (cases ho)
            repeat (first | refine zC ?_ | refine zS ?_ | refine zA (zD rfl rfl rfl rfl) ?_)
            refine zV 5 J (by kernel_rfl) (by kernel_rfl) (by kernel_rfl) J (zf J J J J (by first | (simp only [Nat.zero_add, Int.toNat_natCast, Int.toNat_zero]; exact J) | exact J) (by omega)) J ?_
            exact f12 _ ⟨J, J, J, J, trivial⟩
          ·refine zF (is := [11, 15]) (by kernel_rfl) (by simp) J ⟨fun o ho => ?_, fun o ho => ?_, trivial⟩
           all_goals (cases ho)
           ·repeat (first | refine zC ?_ | refine zS ?_ | refine zA (zD rfl rfl rfl rfl) ?_)
            refine zV 13 J (by kernel_rfl) (by kernel_rfl) (by kernel_rfl) J (zf J J J J (by first | (simp only [Nat.zero_add, Int.toNat_natCast, Int.toNat_zero]; exact J) | exact J) (by omega)) J ?_
            exact f31 _ ⟨J, J, J, J, trivial⟩
           ·refine zW (poC (T.l.getD n zz)) J J J J J J J ?_
            refine rn1 ?_
            exact f40 _ ⟨J, J, J, J, trivial⟩
         ·refine zF (is := [7, 14]) (by kernel_rfl) (by simp) J ⟨fun o ho => ?_, fun o ho => ?_, trivial⟩
          all_goals (cases ho)
          ·refine zU J J J (zHK (T.l.getD n zz) (zGT h hn)) ?_
           refine rn1 ?_
           exact f31 _ ⟨J, J, J, J, trivial⟩
          ·refine rn6 ?_
           exact f22 _ ⟨J, J, J, J, trivial⟩
        ·refine zF (is := [6]) (by kernel_rfl) (by simp) J ⟨fun o ho => ?_, trivial⟩
         all_goals (cases ho)
         refine rn6 ?_
         exact f22 _ ⟨J, J, J, J, trivial⟩
       ·refine zF (is := [11]) (by kernel_rfl) (by simp) J ⟨fun o ho => ?_, trivial⟩
        all_goals (cases ho)
        repeat (first | refine zC ?_ | refine zS ?_ | refine zA (zD rfl rfl rfl rfl) ?_)
        refine zV 13 J (by kernel_rfl) (by kernel_rfl) (by kernel_rfl) J (zf J J J J (by first | (simp only [Nat.zero_add, Int.toNat_natCast, Int.toNat_zero]; exact J) | exact J) (by omega)) J ?_
        exact f41 _ ⟨J, J, J, trivial⟩
      ·refine zF (is := [14, 15]) (by kernel_rfl) (by simp) J ⟨fun o ho => ?_, fun o ho => ?_, trivial⟩
       all_goals (cases ho)
       ·refine rn6 ?_
        exact f32 _ ⟨J, J, J, J, trivial⟩
       ·refine zW (poC (T.l.getD n zz)) J J J J J J J ?_
        refine rn1 ?_
        exact f41 _ ⟨J, J, J, trivial⟩
     ·refine zF (is := [7]) (by kernel_rfl) (by simp) J ⟨fun o ho => ?_, trivial⟩
      all_goals (cases ho)
      refine zU J J J (zHK (T.l.getD n zz) (zGT h hn)) ?_
      refine rn1 ?_
      exact f32 _ ⟨J, J, J, J, trivial⟩
    ·refine zF (is := [14]) (by kernel_rfl) (by simp) J ⟨fun o ho => ?_, trivial⟩
     all_goals (cases ho)
     refine rn6 ?_
     exact f42 _ ⟨J, J, J, trivial⟩
   ·refine zF (is := [15]) (by kernel_rfl) (by simp) J ⟨fun o ho => ?_, trivial⟩
    all_goals (cases ho)
    refine zW (poC (T.l.getD n zz)) J J J J J J J ?_
    refine rn1 ?_
    exact f42 _ ⟨J, J, J, trivial⟩
  refine zF (is := [16]) (by kernel_rfl) (by simp) J ⟨fun o ho => ?_, trivial⟩
  all_goals (cases ho)
  refine zW (zB4 (zAu T n)) J J J J J J J ?_
  refine rn1 ?_
  refine zF (is := [17]) (by kernel_rfl) (by simp) J ⟨fun o ho => ?_, trivial⟩
  all_goals (cases ho)
  refine rn1 ?_
  refine zZ (by kernel_rfl) ?_
  refine rn0 ?_
  exact zO hR J J
/-- (*retro.Table).find -/
theorem zK9 (T : Tab) (h : TabOK T) (hr : Lens T.r) (p : Pos) (hp : LenP p) : zn Tryd.prog 24 [zDU T, poA p] (.tup [.int .i64 (if zCI T p ≠ 0 then 0 else ((zBG T.l p : Nat) : Int)), .int .i64 (zCI T p)]) := by
 refine ze.value0 (zP (P := Tryd.prog) (fn := Tryd.f24) J J (by kernel_rfl) J (fun c hR hfix => ?_)) (fix := fun _ => False) (fun _ h => h) J J
 refine zX ?_
 repeat (first | refine zA (zN rfl) ?_ | refine zC ?_ | refine zB ?_ | refine zK rfl ?_ | refine zAp rfl rfl ?_)
 refine zCG 3 [(0, zDU T)] J ⟨J, J, trivial⟩ ⟨J, trivial⟩ J hfix ?_
 repeat (refine zX ?_)
 refine zb (by kernel_rfl) ?_
 refine zi (fuel := 0) [0, 1, 2, 3, 4, 5, 6] [(3, .rp (.box (poC p)) 0 0), (0, zDU T)] ⟨J, J, trivial⟩ (by kernel_rfl) (by decide) J J ?_
 refine zJ J J (zG J) ?_
 refine zJ J J (zAA J) ?_
 refine zJ J J (zH J J J J J J) ?_
 refine zJ J J (zFI J J J J J J) ?_
 refine zJ J J (zAF J J J J J J) ?_
 refine zCH J J J J J (zIC T.r hr p hp) ?_
 refine zJ J J (zN J) ?_
 refine z6 ?_
 refine zZ (by kernel_rfl) ?_
 refine rn3 ?_
 refine zI J (fun q => ?_) (fun q => ?_)
 ·have e : zCI T p = zEC T.r p := by unfold zCI; rw [if_pos q]
  rw [e, if_pos q] at hR
  refine rn2 ?_
  exact zO hR J J
 have q2 := Classical.not_not.1 q
 obtain ⟨hz, S⟩ := zJ2 q2
 refine rn1 ?_
 by_cases hi : zBG T.l p < T.l.length
 ·have e : zCI T p = 0 := by unfold zCI; rw [if_neg q, if_pos hi]
  rw [e, if_neg (by decide)] at hR
  refine zb (by kernel_rfl) ?_
  refine zi (fuel := 0) [0, 1, 2, 3, 4, 5, 6, 7, 8, 9, 10, 11] [(3, .rp (.box (poC p)) 0 0), (0, zDU T)] ⟨J, J, trivial⟩ (by kernel_rfl) (by decide) J J ?_
  refine zJ J J (zG J) ?_
  refine zJ J J (zAA J) ?_
  refine zJ J J (zH J J J J J J) ?_
  refine zJ J J (zD J J J J) ?_
  refine zJ J J (zAF J J J J J J) ?_
  refine zCH J J J J J (zE2 h.v S) ?_
  refine zJ J J (zEE J (.str J) J J J J (zCs T.l) (zBG T.l p) (zGN hi) (zGa hi)) ?_
  refine zJ J J (zG J) ?_
  refine zJ J J (zAj J J) ?_
  refine zJ J J (zAj J J) ?_
  refine zJ J J (zN J) ?_
  refine zJ J J (zN J) ?_
  refine z6 ?_
  refine zZ (by kernel_rfl) ?_
  refine rn5 ?_
  exact zO hR J J
 ·have e : zCI T p = 8 := by unfold zCI; rw [if_neg q, if_neg hi]
  rw [e, if_pos (by decide)] at hR
  refine zb (by kernel_rfl) ?_
  refine zi (fuel := 0) [0, 1, 2, 3, 4, 5, 6, 7, 8, 9, 10, 11] [(3, .rp (.box (poC p)) 0 0), (0, zDU T)] ⟨J, J, trivial⟩ (by kernel_rfl) (by decide) J J ?_
  refine zJ J J (zG J) ?_
  refine zJ J J (zAA J) ?_
  refine zJ J J (zH J J J J J J) ?_
  refine zJ J J (zD J J J J) ?_
  refine zJ J J (zAF J J J J J J) ?_
  refine zCH J J J J J (zE2 h.v S) ?_
  refine zJ J J (zDi J (.str J) J J J J J J J J (zCs T.l) (zEe h.v S h.G.snd hi)) ?_
  refine zJ J J (zG J) ?_
  refine zJ J J (zAj J J) ?_
  refine zJ J J (zAj J J) ?_
  refine zJ J J (zN J) ?_
  refine zJ J J (zN J) ?_
  refine z6 ?_
  refine zZ (by kernel_rfl) ?_
  refine rn5 ?_
  exact zO hR J J
/-- (*retro.Table).Of -/
theorem of_ok (T : Tab) (h : TabOK T) (hr : Lens T.r) (p : Pos) (hp : LenP p) : zn Tryd.prog 8 [zDU T, poA p] (.tup [entA (ofT T p), .int .i64 (zCI T p)]) := by
 refine ze.value0 (zP (P := Tryd.prog) (fn := Tryd.f8) J J (by kernel_rfl) J (fun c hR hfix => ?_)) (fix := fun _ => False) (fun _ h => h) J J
 have hEl := h.len
 refine rn6 ?_
 refine zU J J J (zK9 T h hr p hp) ?_
 refine rn3 ?_
 refine zI J (fun q => ?_) (fun q => ?_)
 ·have e : ofT T p = (0, 0) := by unfold ofT; rw [if_pos q]
  rw [e] at hR
  refine rn8 ?_
  refine zW (zB4 (0, 0)) J J J J J J J ?_
  refine rn2 ?_
  exact zO hR J J
 ·have q2 : zCI T p = 0 := Classical.not_not.1 q
  have hi : zBG T.l p < T.l.length := by
   unfold zCI at q2
   split at q2
   ·rename_i h1; exact absurd q2 h1
   ·split at q2
    ·assumption
    ·cases q2
  have e : ofT T p = zAu T (zBG T.l p) := by unfold ofT; rw [if_neg q]
  rw [e, q2] at hR
  rw [if_neg q]
  repeat (first | refine zA (zG rfl) ?_ | refine zB ?_ | refine zX ?_ | refine zK rfl ?_ | refine zAG ?_ | refine zA (zf rfl rfl rfl rfl (by first | (simp only [Nat.zero_add, Int.toNat_natCast, Int.toNat_zero]; exact rfl) | exact rfl) (by omega)) ?_ | refine zA (zD rfl rfl rfl rfl) ?_ | refine zA (zAA rfl) ?_ | refine zA (zH rfl rfl rfl rfl rfl rfl) ?_ | refine zA (zAF rfl rfl rfl rfl rfl rfl) ?_)
  refine zW (zB4 (zAu T (zBG T.l p))) J J J J J J J ?_
  refine rn0 ?_
  exact zO hR J J
def zB3 (T : Tab) (i : Nat) (ms : List Mv) (k : Nat) : List Mv := ((List.range k).filter (fun k => decide (zAu T ((T.nx.getD i []).getD k 0) = zDS (zAu T i)))).map (fun k => ms.getD k mv0)
theorem zJX (T : Tab) (i : Nat) (ms : List Mv) (k : Nat) : zB3 T i ms (k + 1) = if zAu T ((T.nx.getD i []).getD k 0) = zDS (zAu T i) then zB3 T i ms k ++ [ms.getD k mv0] else zB3 T i ms k := by
 unfold zB3
 rw [List.range_succ, List.filter_append, List.map_append]
 by_cases h : zAu T ((T.nx.getD i []).getD k 0) = zDS (zAu T i)
 ·rw [if_pos h, List.filter_cons_of_pos (p := fun k => decide (zAu T ((T.nx.getD i []).getD k 0) = zDS (zAu T i))) (decide_eq_true h)]; rfl
 ·rw [if_neg h, List.filter_cons_of_neg (p := fun k => decide (zAu T ((T.nx.getD i []).getD k 0) = zDS (zAu T i))) (by rw [decide_eq_true_eq]; exact h)]; simp
theorem zKP (T : Tab) (i : Nat) (ms : List Mv) (k : Nat) : (zB3 T i ms k).length ≤ k := by
 unfold zB3
 rw [List.length_map]
 exact Nat.le_trans (List.length_filter_le ..) (by rw [List.length_range]; exact Nat.le_refl _)
theorem mapI_get (l : List Nat) (k : Nat) : (l.map Int.ofNat).getD k 0 = ((l.getD k 0 : Nat) : Int) := by
 rw [List.getD, List.getElem?_map, List.getD]
 cases l[k]? <;> rfl
theorem find_is {T : Tab} {p : Pos} (h : zCI T p = 0) : zEC T.r p = 0 ∧ zBG T.l p < T.l.length := by
 unfold zCI at h
 split at h
 ·rename_i h1; exact absurd h h1
 ·rename_i h1
  split at h
  ·exact ⟨Classical.not_not.1 h1, by assumption⟩
  ·cases h
theorem next_lt {T : Tab} (h : TabOK T) {i k : Nat} (hi : i < T.l.length) (hk : k < (zA1 T.r (T.l.getD i zz)).length) : k < (T.nx.getD i []).length ∧ (T.nx.getD i []).getD k 0 < T.l.length := by
 have := h.G.nxl i hi
 exact ⟨by omega, (h.G.nxt i hi k hk).1⟩
theorem ent_eqA (x y : Ent) : (decide (x.1 = y.1) && (decide (x.2 = y.2) && true)) = decide (x = y) := by
 by_cases h : x = y
 ·subst h; simp
 ·rw [decide_eq_false h]
  by_cases h1 : x.1 = y.1
  ·rw [decide_eq_true h1, decide_eq_false (fun q => h (Prod.ext h1 q))]; rfl
  ·rw [decide_eq_false h1]; rfl
/-- (*retro.Table).Best -/
theorem best_ok (T : Tab) (h : TabOK T) (hr : Lens T.r) (p : Pos) (hp : LenP p) : zn Tryd.prog 11 [zDU T, poA p] (.tup [zCz (zFk T p), .int .i64 (zFC T p)]) := by
 refine ze.value0 (zP (P := Tryd.prog) (fn := Tryd.f11) J J (by kernel_rfl) J (fun c hR hfix => ?_)) (fix := fun _ => False) (fun _ h => h) J J
 have hEl := h.len
 have hmost := h.G.most
 refine zX ?_
 repeat (first | refine zA (zN rfl) ?_ | refine zC ?_ | refine zB ?_ | refine zK rfl ?_ | refine zAp rfl rfl ?_)
 refine zCG 3 [(0, zDU T)] J ⟨J, J, trivial⟩ ⟨J, trivial⟩ J hfix ?_
 refine rn6 ?_
 refine zU J J J (zK9 T h hr p hp) ?_
 refine rn3 ?_
 refine zI J (fun q => ?_) (fun q => ?_)
 ·have q : zCI T p ≠ 0 := q
  have e : zFC T p = zCI T p := by unfold zFC; rw [if_pos q]
  have e2 : zFk T p = [] := by unfold zFk; rw [e, if_pos q]
  rw [e, e2] at hR
  refine rn7 ?_
  refine zBl 4 (zCz []) J AEq.nil ?_
  refine rn2 ?_
  exact zO hR J J
 have q2 : zCI T p = 0 := Classical.not_not.1 q
 obtain ⟨hz, hi⟩ := find_is q2
 have eb : zFC T p = if (zEA T p).length = 0 then 14 else 0 := by unfold zFC; rw [if_neg q]
 have ebl : zFC T p = 0 → zFk T p = zB3 T (zBG T.l p) (zEA T p) (zEA T p).length := fun e => by unfold zFk; rw [if_neg (fun c => c e)]; rfl
 rw [if_neg q]
 have hmt : zEA T p = zA1 T.r (T.l.getD (zBG T.l p) zz) := rfl
 have S := (h.sound hi).1
 have hml := zGO h.v S
 have hnx := fun k => next_lt h (k := k) hi
 have hpl := h.plies hi
 have hpu := h.plies_le hi
 have hnlen : T.nx.length = T.l.length := h.G.len
 rw [← hmt] at hml
 simp only [← hmt] at hnx
 have cm := zGi T.r h.v (T.l.getD (zBG T.l p) zz) S
 rw [← hmt] at cm
 generalize hix : zBG T.l p = ix at hi hml hnx hpl hpu ebl cm
 generalize hms : zEA T p = ms at hml hnx eb ebl cm
 refine rn1 ?_
 refine zb (by kernel_rfl) ?_
 refine zi (fuel := 0) [0, 1, 2, 3, 4, 5, 6, 7, 8, 9, 10, 11, 12] [(0, zDU T), (6, iN ix)] ⟨J, J, trivial⟩ (by kernel_rfl) (by decide) J J ?_
 refine zJ J J (zG J) ?_
 refine zJ J J (zAA J) ?_
 refine zJ J J (zH J J J J J J) ?_
 refine zJ J J (zFI J J J J J J) ?_
 refine zJ J J (zG J) ?_
 refine zJ J J (zAA J) ?_
 refine zJ J J (zH J J J J J J) ?_
 refine zJ J J (zD J J J J) ?_
 refine zJ J J (zG J) ?_
 refine zJ J J (zf J J J J (by first | (simp only [Nat.zero_add, Int.toNat_natCast, Int.toNat_zero]; exact J) | exact J) (by omega)) ?_
 refine zJ J J (zAF J J J J J J) ?_
 refine zCH J J J J J cm ?_
 refine zJ J J (zN J) ?_
 refine z6 ?_
 refine zZ (by kernel_rfl) ?_
 refine rn4 ?_
 refine zI J (fun z => ?_) (fun z => ?_)
 ·rw [if_pos (by omega)] at eb
  have e2 : zFk T p = [] := by unfold zFk; rw [eb, if_pos (by decide)]
  rw [eb, e2] at hR
  refine rn7 ?_
  refine zBl 4 (zCz []) J AEq.nil ?_
  refine rn2 ?_
  exact zO hR J J
 rw [if_neg (by omega)] at eb
 have ebl := ebl eb
 rw [eb, ebl] at hR
 repeat (first | refine zA (zG rfl) ?_ | refine zB ?_ | refine zX ?_ | refine zK rfl ?_ | refine zAG ?_ | refine zA (zf rfl rfl rfl rfl (by first | (simp only [Nat.zero_add, Int.toNat_natCast, Int.toNat_zero]; exact rfl) | exact rfl) (by omega)) ?_ | refine zA (zD rfl rfl rfl rfl) ?_ | refine zA (zAA rfl) ?_ | refine zA (zH rfl rfl rfl rfl rfl rfl) ?_ | refine zA (zAF rfl rfl rfl rfl rfl rfl) ?_ | refine zAJ rfl rfl rfl ?_)
 refine zW (zB4 (zAu T ix)) J J J J J J J ?_
 repeat (first | refine zC ?_ | refine zB ?_ | refine zX ?_ | refine zK rfl ?_ | refine zA (zR rfl rfl rfl rfl rfl) ?_ | refine zA (zBP rfl rfl) ?_ | refine zA (zL rfl rfl rfl rfl rfl rfl) ?_)
 apply zAD (H := [some ⟨40, .box (zB4 (zDS (zAu T ix)))⟩]) [(0, zDU T), (6, iN ix), (8, zCz ms), (9, .ptr 0 0 0)]
 ·intro fin
  refine zI J (fun d => ?_) (fun d => ?_)
  ·have d : (zAu T ix).1 ≠ 3 := d
   have ew : zDS (zAu T ix) = ((zAu T ix).1, (zAu T ix).2 - 1) := by unfold zDS; rw [if_pos d]
   rw [ew] at fin
   repeat (first | refine zC ?_ | refine zB ?_ | refine zK rfl ?_ | refine zA (zR rfl rfl rfl rfl rfl) ?_ | refine zA (zA8 rfl rfl (by omega)) ?_ | refine zA (zL rfl rfl rfl rfl rfl rfl) ?_ | refine z8 rfl rfl rfl rfl rfl rfl rfl Nat.zero_lt_one ?_)
   exact fin _ ⟨J, J, J, J, trivial⟩
  ·have d : ¬ (zAu T ix).1 ≠ 3 := d
   have ew : zDS (zAu T ix) = zAu T ix := by unfold zDS; rw [if_neg d]
   rw [ew] at fin
   refine zFB ?_
   exact fin _ ⟨J, J, J, J, trivial⟩
 refine zCG 9 [(0, zDU T), (6, iN ix), (8, zCz ms)] J ⟨J, J, J, J, trivial⟩ ⟨J, J, J, trivial⟩ J hfix ?_
 repeat (refine zX ?_)
 refine zK J ?_
 refine zAz ?_
 refine zBj 10 ⟨53, zBH []⟩ J J ?_
 refine rn3 ?_
 refine zx (ι := Nat) (fun k => [(0, zDU T), (6, iN ix), (8, zCz ms), (9, .rp (.box (zB4 (zDS (zAu T ix)))) 0 0), (10, .sl 0 0 (zB3 T ix ms k).length), (51, zCz ms), (52, iN ms.length), (53, iN k)]) (fun k => [some ⟨53, zBH (zB3 T ix ms k)⟩]) (fun k => k ≤ ms.length) (fun k => ms.length - k) 0 ⟨⟨J, J, J, J, J, J, J, J, trivial⟩, J, Nat.zero_le _⟩ ?_
 intro k hk
 have hbl := zKP T ix ms k
 refine rn4 ?_
 refine zI J (fun g => ?_) (fun g => ?_)
 ·have hk' : k < ms.length := by omega
  obtain ⟨n1, n2⟩ := hnx k hk'
  have hbs := zJX T ix ms k
  have hgi : ((T.nx.getD ix []).map Int.ofNat).getD k 0 = (((T.nx.getD ix []).getD k 0 : Nat) : Int) := mapI_get _ _
  have hgl : ((T.nx.getD ix []).map Int.ofNat).length = (T.nx.getD ix []).length := List.length_map ..
  generalize hj : (T.nx.getD ix []).getD k 0 = j at n2 hgi hbs
  generalize hmk : ms.getD k mv0 = m at hbs
  refine zGV ?_
  refine rn4 ?_
  refine zW (mvC m) J J J J J (by rw [← hmk]; rfl) J ?_
  refine rn0 ?_
  refine zET [some ⟨53, zBH (zB3 T ix ms k)⟩] 12 [(0, zDU T), (6, iN ix), (8, zCz ms), (9, .rp (.box (zB4 (zDS (zAu T ix)))) 0 0), (10, .sl 0 0 (zB3 T ix ms k).length), (51, zCz ms), (52, iN ms.length), (53, iN k), (11, iN k)] J J ⟨J, J, J, J, J, J, J, J, J, trivial⟩ ⟨J, J, J, J, J, J, J, J, J, J, trivial⟩ (zCA (zGQ _) zBp) J (fun h q => by rw [hfix] at q; exact q.elim) ?_
  refine zb (by kernel_rfl) ?_
  refine zi (fuel := 0) [0, 1, 2, 3, 4, 5, 6, 7, 8, 9, 10, 11, 12, 13, 14, 15, 16, 17] [(12, .rp (.box (mvC m)) 0 0), (0, zDU T), (6, iN ix), (8, zCz ms), (9, .rp (.box (zB4 (zDS (zAu T ix)))) 0 0), (10, .sl 0 0 (zB3 T ix ms k).length), (51, zCz ms), (52, iN ms.length), (53, iN k), (11, iN k)] ⟨J, J, J, J, J, J, J, J, J, J, trivial⟩ (by kernel_rfl) (by decide) J J ?_
  refine zJ J J (zG J) ?_
  refine zJ J J (zAA J) ?_
  refine zJ J J (zH J J J J J J) ?_
  refine zJ J J (zD J J J J) ?_
  refine zJ J J (zG J) ?_
  refine zJ J J (zAA J) ?_
  refine zJ J J (zH J J J J J J) ?_
  refine zJ J J (zD J J J J) ?_
  refine zJ J J (zG J) ?_
  refine zJ J J (zf J J J J (by first | (simp only [Nat.zero_add, Int.toNat_natCast, Int.toNat_zero]; exact J) | exact J) (by omega)) ?_
  refine zJ J J (zAw J J J J) ?_
  refine zJ J J (zG J) ?_
  refine zJ J J (zf J J J J (by first | (simp only [Nat.zero_add, Int.toNat_natCast, Int.toNat_zero]; exact J) | exact J) (by omega)) ?_
  refine zJ J J (zBQ J J J) ?_
  rw [hgi]
  refine zJ J J (zf J J J J (by first | (simp only [Nat.zero_add, Int.toNat_natCast, Int.toNat_zero]; exact J) | exact J) (by omega)) ?_
  refine zJ J J (zAF J J J J J J) ?_
  refine zJ J J (zAF J J J J J J) ?_
  refine zJ J J (zFY J J J (by kernel_rfl) (by kernel_rfl) (by kernel_rfl) J) ?_
  refine z6 ?_
  refine zZ (by kernel_rfl) ?_
  repeat (refine zB ?_)
  refine zAK (b := decide (zAu T j = zDS (zAu T ix))) (by rw [← ent_eqA]; rfl) (fun g2 => ?_) (fun g2 => ?_)
  ·have g2 := of_decide_eq_true g2
   rw [if_pos g2] at hbs
   have hnl : (zB3 T ix ms (k + 1)).length = (zB3 T ix ms k).length + 1 := by rw [hbs, List.length_append]; rfl
   refine rn6 ?_
   refine zBY [m] J J J J J J J J J J J J J (by show 0 + 1 ≤ 1; omega) (fun k' j' hk' hj' => ?_) (by show ((zB3 T ix ms k).length + 1) * 24 ≤ _ ∧ _; omega) zFS (by rw [hfix]; exact fun h => h) ?_
   ·obtain rfl : k' = 0 := Nat.lt_one_iff.1 hk'
    match j', hj' with
    | 0, _ => rfl
    | 1, _ => rfl
    | 2, _ => rfl
   refine rn5 ?_
   refine zT ⟨k + 1, by omega, by omega, ⟨J, J, J, J, ?_, J, J, J, trivial⟩, ?_⟩
   ·rw [hnl]; rfl
   ·rw [hbs]; rfl
  ·have g2 := of_decide_eq_false g2
   rw [if_neg g2] at hbs
   refine rn5 ?_
   refine zT ⟨k + 1, by omega, by omega, ⟨J, J, J, J, ?_, J, J, J, trivial⟩, ?_⟩
   ·rw [hbs]; rfl
   ·rw [hbs]
 ·have hk' : k = ms.length := by omega
  subst hk'
  refine zAz ?_
  refine zD1 0 10 (zB3 T ix ms ms.length).length [] J (zA9 zGP) J (Nat.le_refl _) trivial ?_
  refine rn0 ?_
  exact zO hR J J
def zB5 (T : Tab) (k : Nat) : List Nat := (List.range k).filter (fun i => decide ((zAu T i).2 = zEL T))
theorem zJv (T : Tab) (k : Nat) : zB5 T (k + 1) = if (zAu T k).2 = zEL T then zB5 T k ++ [k] else zB5 T k := by
 unfold zB5
 rw [List.range_succ, List.filter_append]
 by_cases h : (zAu T k).2 = zEL T
 ·rw [if_pos h, List.filter_cons_of_pos (p := fun i => decide ((zAu T i).2 = zEL T)) (decide_eq_true h)]; rfl
 ·rw [if_neg h, List.filter_cons_of_neg (p := fun i => decide ((zAu T i).2 = zEL T)) (by rw [decide_eq_true_eq]; exact h)]; simp
theorem zKZ (T : Tab) (k : Nat) : (zB5 T k).length ≤ k := by
 unfold zB5
 exact Nat.le_trans (List.length_filter_le ..) (by rw [List.length_range]; exact Nat.le_refl _)
def zDh (T : Tab) (k : Nat) : Int := (T.E.take k).foldl (fun a x => max a x.2) 0
theorem zJy (T : Tab) {k : Nat} (h : k < T.E.length) : zDh T (k + 1) = max (zDh T k) (zAu T k).2 := by
 unfold zDh zAu
 rw [zw _ (0, 0) k h, List.foldl_append]; rfl
/-- (*retro.Table).Longest -/
theorem long_ok (T : Tab) (h : TabOK T) : zn Tryd.prog 16 [zDU T] (zq ((zFF T).map Int.ofNat)) := by
 refine ze.value0 (zP (P := Tryd.prog) (fn := Tryd.f16) J J (by kernel_rfl) J (fun c hR hfix => ?_)) (fix := fun _ => False) (fun _ h => h) J J
 have hEl := h.len
 have hmost := h.G.most
 repeat (first | refine zA (zG rfl) ?_ | refine zA (zN rfl) ?_ | refine zC ?_ | refine zB ?_ | refine zX ?_ | refine zK rfl ?_ | refine zAL ?_ | refine zA (zA2 rfl rfl rfl) ?_ | refine zA (zD rfl rfl rfl rfl) ?_ | refine zA (zAA rfl) ?_ | refine zA (zH rfl rfl rfl rfl rfl rfl) ?_)
 refine zx (ι := Nat) (fun k => [(0, zDU T), (3, .int .i64 (zDh T k)), (12, .ro (zBR T.E) 0 T.E.length), (13, iN T.E.length), (14, iN k)]) (fun k => []) (fun k => k ≤ T.E.length) (fun k => T.E.length - k) 0 ⟨⟨J, J, J, J, J, trivial⟩, J, Nat.zero_le _⟩ ?_
 intro k hk
 refine rn4 ?_
 refine zI J (fun g => ?_) (fun g => ?_)
 ·have hk' : k < T.E.length := by omega
  have hms : zDh T (k + 1) = if (zAu T k).2 > zDh T k then (zAu T k).2 else zDh T k := by rw [zJy T hk']; split <;> omega
  refine zGV ?_
  repeat (refine zAJ rfl rfl rfl ?_)
  refine zW (zB4 (zAu T k)) J J J J J J J ?_
  refine zAz ?_
  refine zCG 5 [(0, zDU T), (3, .int .i64 (zDh T k)), (12, .ro (zBR T.E) 0 T.E.length), (13, iN T.E.length), (14, iN k)] J ⟨J, J, J, J, J, J, trivial⟩ ⟨J, J, J, J, J, trivial⟩ J hfix ?_
  repeat (first | refine zA (zG rfl) ?_ | refine zA (zN rfl) ?_ | refine zC ?_ | refine zB ?_ | refine zK rfl ?_ | refine zAH ?_ | refine zA (zAy rfl rfl (by omega)) ?_ | refine zA (zD rfl rfl rfl rfl) ?_ | refine zA (q_max rfl rfl) ?_ | refine zA (zH rfl rfl rfl rfl rfl rfl) ?_)
  refine zT ⟨k + 1, by omega, by omega, ⟨J, ?_, J, J, J, trivial⟩, J⟩
  rw [hms]; rfl
 have hk' : k = T.E.length := by omega
 subst hk'
 have hmt : zDh T T.E.length = zEL T := by unfold zDh zEL; rw [List.take_length]
 rw [hmt]
 refine zAz ?_
 refine zK J ?_
 refine zAz ?_
 refine zBj 6 ⟨3, .ints .i64 []⟩ J J ?_
 repeat (first | refine zA (zG rfl) ?_ | refine zC ?_ | refine zB ?_ | refine zK rfl ?_ | refine zAL ?_ | refine zA (zA2 rfl rfl rfl) ?_ | refine zA (zD rfl rfl rfl rfl) ?_ | refine zA (zAA rfl) ?_ | refine zA (zH rfl rfl rfl rfl rfl rfl) ?_)
 refine zx (ι := Nat) (fun k => [(3, .int .i64 (zEL T)), (6, .sl 0 0 (zB5 T k).length), (26, .ro (zBR T.E) 0 T.E.length), (27, iN T.E.length), (28, iN k)]) (fun k => [some ⟨3, .ints .i64 ((zB5 T k).map Int.ofNat)⟩]) (fun k => k ≤ T.E.length) (fun k => T.E.length - k) 0 ⟨⟨J, J, J, J, J, trivial⟩, J, Nat.zero_le _⟩ ?_
 intro k hk
 have hll := zKZ T k
 have hml : ((zB5 T k).map Int.ofNat).length = (zB5 T k).length := List.length_map ..
 refine rn4 ?_
 refine zI J (fun g => ?_) (fun g => ?_)
 ·have hk' : k < T.E.length := by omega
  have hls := zJv T k
  refine zGV ?_
  refine rn4 ?_
  refine zW (zB4 (zAu T k)) J J J J J J J ?_
  refine zAz ?_
  refine zET [some ⟨3, .ints .i64 ((zB5 T k).map Int.ofNat)⟩] 8 [(3, .int .i64 (zEL T)), (6, .sl 0 0 (zB5 T k).length), (26, .ro (zBR T.E) 0 T.E.length), (27, iN T.E.length), (28, iN k), (7, iN k)] J J ⟨J, J, J, J, J, J, trivial⟩ ⟨J, J, J, J, J, J, J, trivial⟩ (zCA (fun _ _ _ _ => rfl) zBp) J (fun h q => by rw [hfix] at q; exact q.elim) ?_
  refine zBW ?_
  refine zI J (fun q => ?_) (fun q => ?_)
  ·have q : (zAu T k).2 = zEL T := q
   rw [if_pos q] at hls
   have hnl : (zB5 T (k + 1)).length = (zB5 T k).length + 1 := by rw [hls, List.length_append]; rfl
   refine rn3 ?_
   refine zAY J J J J J J J J J hml J J (by show 0 + 1 ≤ 1; omega) J (by show ((zB5 T k).length + 1) * 8 ≤ _ ∧ _; omega) (fun i j _ _ => rfl) (by rw [hfix]; exact fun h => h) ?_
   refine rn5 ?_
   refine zT ⟨k + 1, by omega, by omega, ⟨J, ?_, J, J, J, trivial⟩, ?_⟩
   ·rw [hnl]; rfl
   ·rw [hls, List.map_append]; rfl
  ·have q : ¬ (zAu T k).2 = zEL T := q
   rw [if_neg q] at hls
   refine rn5 ?_
   refine zT ⟨k + 1, by omega, by omega, ⟨J, ?_, J, J, J, trivial⟩, ?_⟩
   ·rw [hls]; rfl
   ·rw [hls]
 ·have hk' : k = T.E.length := by omega
  subst hk'
  have hlt : zB5 T T.E.length = zFF T := rfl
  rw [hlt] at hml ⊢
  refine zAz ?_
  refine zD1 0 6 (zFF T).length [] J zAI J (by show (zFF T).length ≤ ((zFF T).map Int.ofNat).length; rw [hml]; exact Nat.le_refl _) trivial ?_
  refine rn0 ?_
  refine zO hR J ?_
  show AV.ro (Cells.ints .i64 ((zFF T).map Int.ofNat)) 0 (zFF T).length = AV.ro (Cells.ints .i64 ((zFF T).map Int.ofNat)) 0 ((zFF T).map Int.ofNat).length
  rw [hml]
theorem equalMv (a b : List Mv) (hlen : a.length ≤ 1000000) (hlb : b.length ≤ 1000000) : zn Tryd.prog 14 [zCz a, zCz b] (.bool (decide (a = b))) := by
 refine ze.value0 (zP (P := Tryd.prog) (fn := Tryd.f14) J J (by kernel_rfl) J (fun c hR hfix => ?_)) (fix := fun _ => False) (fun _ h => h) J J
 refine rn3 ?_
 refine zI J (fun h => ?_) (fun h => ?_)
 ·refine rn2 ?_
  refine zO hR J ?_
  have : ¬ a = b := by rintro rfl; exact h rfl
  simp [zCd, this]
 have hab : a.length = b.length := by omega
 refine rn3 ?_
 refine zx (ι := Nat) (fun k => [(0, zCz a), (1, zCz b), (12, iN a.length), (13, iN k)]) (fun _ => [])
  (fun k => k ≤ a.length ∧ a.take k = b.take k) (fun k => a.length - k) 0 ⟨⟨rfl, rfl, rfl, rfl, trivial⟩, rfl, Nat.zero_le _, rfl⟩ ?_
 intro k ⟨hk, heq⟩
 refine rn4 ?_
 refine zI J (fun h2 => ?_) (fun h2 => ?_)
 ·have hk' : k < a.length := by omega
  have ha := zw a mv0 k hk'
  have hb := zw b mv0 k (by omega)
  refine rn1 ?_
  refine zb (by kernel_rfl) ?_
  refine zi (fuel := 0) [0, 1, 2, 3, 4, 5, 6, 7, 8] [(0, zCz a), (1, zCz b), (12, iN a.length), (13, iN k), (5, iN k)] ⟨J, J, J, J, J, trivial⟩ (by kernel_rfl) (by decide) J J ?_
  refine zJ J J (zG J) ?_
  refine zJ J J (zG J) ?_
  refine zJ J J (zf J J J J (by first | (simp only [Nat.zero_add, Int.toNat_natCast, Int.toNat_zero]; exact J) | exact J) (by omega)) ?_
  refine zJ J J (zAF J J J J J J) ?_
  refine zJ J J (zG J) ?_
  refine zJ J J (zG J) ?_
  refine zJ J J (zf J J J J (by first | (simp only [Nat.zero_add, Int.toNat_natCast, Int.toNat_zero]; exact J) | exact J) (by omega)) ?_
  refine zJ J J (zAF J J J J J J) ?_
  refine zJ J J (zGo J J J (by kernel_rfl) (by kernel_rfl) (by kernel_rfl) J) ?_
  refine z6 ?_
  refine zZ (by kernel_rfl) ?_
  repeat (refine zB ?_)
  refine zAK (b := !(decide (b.getD k mv0 = a.getD k mv0))) (by rw [← eqMv]; rfl) (fun h3 => ?_) (fun h3 => ?_)
  ·refine rn6 ?_
   refine zO hR J ?_
   rw [Bool.not_eq_true', decide_eq_false_iff_not] at h3
   have : ¬ a = b := by rintro rfl; exact h3 rfl
   simp [zCd, this]
  ·rw [Bool.not_eq_false', decide_eq_true_eq] at h3
   refine rn5 ?_
   exact zT ⟨k + 1, ⟨by omega, by rw [ha, hb, heq, h3]⟩, by omega, ⟨J, J, J, J, trivial⟩, J⟩
 ·have hk' : k = a.length := by omega
  subst hk'
  rw [List.take_length, hab, List.take_length] at heq
  refine rn5 ?_
  refine zO hR J ?_
  simp [zCd, heq]
theorem zIO : zn Tryd.prog 9 [] (poA (zA5 two)) := by
 refine ze.value0 (zP (P := Tryd.prog) (fn := Tryd.f9) J J (by kernel_rfl) J (fun c hR hfix => ?_)) (fix := fun _ => False) (fun _ h => h) J J
 refine rn8 ?_
 refine zAn 5 (poA (zA5 two)) J (zKz ⟨AEq.ro J (fun d j hd hj => by
  have hj : j < 1 := hj
  obtain rfl : j = 0 := by omega
  match d, hd with
  | 0, _ => rfl
  | 1, _ => rfl
  ), AEq.ro rfl (fun d j hd hj => by
  have hj : j < 1 := hj
  obtain rfl : j = 0 := by omega
  match d, hd with
  | 0, _ => rfl
  ), AEq.ro rfl (fun d j hd hj => by
  have hj : j < 1 := hj
  obtain rfl : j = 0 := by omega
  match d, hd with
  | 0, _ => rfl
  ), AEq.rfl', AEq.rfl', trivial⟩) ?_
 refine zW (poC (zA5 two)) J J J J J J J ?_
 refine rn0 ?_
 exact zO hR J J
theorem two_ok' : zn Tryd.prog 7 [] (ruA two) := by
 refine ze.value0 (zP (P := Tryd.prog) (fn := Tryd.f7) J J (by kernel_rfl) J (fun c hR hfix => ?_)) (fix := fun _ => False) (fun _ h => h) J J
 refine rn8 ?_
 refine zAn 6 (ruA two) J (zKz ⟨AEq.rfl', AEq.rfl', AEq.rfl', AEq.ro_in J (fun d j hd hj => by
  have hd : d < 1 := hd
  obtain rfl : d = 0 := by omega
  have hj : j < 4 := hj
  match j, hj with
  | 0, _ => exact AEq.rfl'
  | 1, _ => exact AEq.rfl'
  | 2, _ => exact AEq.rfl'
  | 3, _ => exact AEq.nil
  ), AEq.ro rfl (fun d j hd hj => by
  have hj : j < 1 := hj
  obtain rfl : j = 0 := by omega
  match d, hd with
  | 0, _ => rfl
  | 1, _ => rfl
  ), AEq.rfl', AEq.rfl', AEq.ro_in rfl (fun d j hd hj => by
  have hd : d < 1 := hd
  obtain rfl : d = 0 := by omega
  have hj : j < 4 := hj
  match j, hj with
  | 0, _ => exact AEq.rfl'
  | 1, _ => exact AEq.rfl'
  | 2, _ => exact AEq.rfl'
  | 3, _ => exact AEq.rfl'
  ), AEq.rfl', AEq.rfl', AEq.rfl', trivial⟩) ?_
 refine zW (ruC two) J J J J J J J ?_
 refine rn0 ?_
 exact zO hR J J
theorem newA_no {r : Go.Ax.Gm.Rules} (h : zDT r ≠ 0) : zEh r = .nilp := by unfold zEh; rw [if_pos h]
theorem newA_yes {r : Go.Ax.Gm.Rules} {x : List Pos × List (List Nat)} (h : zDT r = 0) (g : zEi r = some x) : zEh r = zDU (zH0 r x) := by unfold zEh; rw [if_neg (fun c => c h), g]
theorem zHY : Lens two := ⟨by decide, by decide, by decide, by decide, by decide⟩
theorem zMF : Sound two (zA5 two) := zEW (zCM zGZ)
/-- retroFact -/
theorem zHp : zn Tryd.prog 4 [] (.bool true) := by
 refine ze.value0 (zP (P := Tryd.prog) (fn := Tryd.f4) J J (by kernel_rfl) J (fun c hR hfix => ?_)) (fix := fun _ => False) (fun _ h => h) J J
 have cn := new_ok two zHY
 rw [newA_yes zLN zH4, zLN, zLO] at cn
 have hl := (zBD two_ok.v zMF).len
 have co := of_ok zEP two_ok zHY (zA5 two) hl
 rw [two_of, zKH] at co
 have ca := at_ok zEP two_ok 0
 have e0 : atE zEP 0 = 0 := by decide
 have e1 : atP zEP 0 = zA5 two := by unfold atP; rw [e0]; rfl
 have e2 : atX zEP 0 = (2, 2) := by unfold atX; rw [e0]; rfl
 rw [e0, e1, e2] at ca
 have cb := best_ok zEP two_ok zHY (zA5 two) hl
 rw [zKG.1, zKG.2] at cb
 have cl := long_ok zEP two_ok
 rw [two_long] at cl
 refine rn0 ?_
 refine zU J J J two_ok' ?_
 skip
 refine zU J J J cn ?_
 repeat (first | refine zA (zG rfl) ?_ | refine zA (zN rfl) ?_ | refine zC ?_ | refine zB ?_ | refine zX ?_ | refine zK rfl ?_ | refine zl rfl rfl ?_ | refine zAS rfl ?_ | refine zAG ?_ | refine zA (zBP rfl rfl) ?_ | refine zA (zd rfl rfl) ?_ | refine zA (zAj rfl rfl) ?_ | refine zA (zJE rfl rfl rfl rfl) ?_)
 refine zU J J J zIO ?_
 skip
 refine zU J J J co ?_
 refine rn4 ?_
 refine zW (zB4 (2, 2)) J J J J J J J ?_
 refine rn0 ?_
 refine zU J J J ca ?_
 refine rn4 ?_
 refine zW (poC (zA5 two)) J J J J J J J ?_
 skip
 refine zW (zB4 (2, 2)) J J J J J J J ?_
 refine rn0 ?_
 refine zU J J J zIO ?_
 skip
 refine zU J J J cb ?_
 refine rn3 ?_
 refine zU J J J (fineI [0, 0, 0] (by decide)) ?_
 refine rn2 ?_
 refine zU J J J (size_ok zEP) ?_
 repeat (first | refine zA (zG rfl) ?_ | refine zl rfl rfl ?_ | refine zA (zR rfl rfl rfl rfl rfl) ?_ | refine zA (zBh rfl rfl) ?_ | refine zA (zd rfl rfl) ?_ | refine zA (zA2 rfl rfl rfl) ?_ | refine zA (zC9 rfl rfl rfl rfl rfl rfl) ?_ | refine zA (zL rfl rfl rfl rfl rfl rfl) ?_ | refine zA (zFY rfl rfl rfl (by kernel_rfl) (by kernel_rfl) (by kernel_rfl) rfl) ?_ | refine zA (qpp rfl rfl rfl rfl rfl rfl rfl) ?_ | refine z7 rfl rfl rfl rfl rfl rfl rfl rfl rfl rfl rfl ?_)
 refine zAn 69 (zCz [⟨-1, 0, 0⟩, ⟨-1, 1, 0⟩]) J (AEq.ro J (fun d j hd hj => ?_)) ?_
 ·have hj : j < 3 := hj
  match d, hd, j, hj with
  | 0, _, 0, _ => rfl
  | 0, _, 1, _ => rfl
  | 0, _, 2, _ => rfl
  | 1, _, 0, _ => rfl
  | 1, _, 1, _ => rfl
  | 1, _, 2, _ => rfl
 refine zU J J J (equalMv [⟨-1, 0, 0⟩, ⟨-1, 1, 0⟩] [⟨-1, 0, 0⟩, ⟨-1, 1, 0⟩] (by decide) (by decide)) ?_
 refine rn2 ?_
 refine zU J J J cl ?_
 refine rn3 ?_
 refine zU J J J (equalI [0] [0] (by decide) (by decide)) ?_
 refine rn2 ?_
 exact zO hR J J
theorem zIP (r : Go.Ax.Gm.Rules) (hr : Lens r) : ∃ P, zn Tryd.prog 5 [ruA r] (.tup [poA P, .int .i64 (zAQ r)]) := by
 by_cases h : zAQ r = 0
 ·have := zG8 r hr h
  exact ⟨zA5 r, by rw [h]; exact this⟩
 ·exact ⟨zz, zJW r hr h⟩
/-- RetroRefuses -/
theorem zGD (r : Go.Ax.Gm.Rules) (p : Pos) (hr : Lens r) (hp : LenP p) : zn Tryd.prog 3 [ruA r, poA p] (.bool true) := by
 refine ze.value0 (zP (P := Tryd.prog) (fn := Tryd.f3) J J (by kernel_rfl) J (fun c hR hfix => ?_)) (fix := fun _ => False) (fun _ h => h) J J
 have hq : Lens (q7 r) := ⟨hr.name, hr.pcs, hr.ways, hr.start, hr.ends⟩
 obtain ⟨P, cb⟩ := zIP r hr
 obtain ⟨Q, cq⟩ := zIP (q7 r) hq
 have cn := new_ok (q7 r) hq
 have en := new_q7 r
 have hne : zDT (q7 r) ≠ 0 := by
  rw [en]
  split
  ·assumption
  ·decide
 rw [newA_no hne, en] at cn
 by_cases h : zAQ (q7 r) = 0
 ·rw [if_neg (fun c => c h)] at cn
  rw [h] at cq
  refine rn6 ?_
  refine zU J J J zHp ?_
  refine rn6 ?_
  refine zU J J J cb ?_
  refine rn4 ?_
  refine zW (poC P) J J J J J J J ?_
  repeat (first | refine zA (zN rfl) ?_ | refine zC ?_ | refine zB ?_ | refine zX ?_ | refine zK rfl ?_ | refine zA (zR rfl rfl rfl rfl rfl) ?_ | refine zA (q_max rfl rfl) ?_ | refine zA (zHm rfl rfl) ?_ | refine zA (zL rfl rfl rfl rfl rfl rfl) ?_ | refine zA (qpp rfl rfl rfl rfl rfl rfl rfl) ?_ | refine z8 rfl rfl rfl rfl rfl rfl rfl Nat.zero_lt_one ?_ | refine zAJ rfl rfl rfl ?_)
  refine zW _ J J J J J J J ?_
  refine rn9 ?_
  refine zU J J J cn ?_
  refine rn6 ?_
  refine zU J J J cq ?_
  refine rn4 ?_
  refine zW (poC Q) J J J J J J J ?_
  repeat (first | refine zA (zG rfl) ?_ | refine zA (zN rfl) ?_ | refine zC ?_ | refine zB ?_ | refine zX ?_ | refine zK rfl ?_ | refine zl rfl rfl ?_ | refine zAS rfl ?_ | refine zAG ?_ | refine zu ?_ | refine zA (zBh rfl rfl) ?_ | refine zA (zBP rfl rfl) ?_ | refine zA (zd rfl rfl) ?_ | refine zA (zJE rfl rfl rfl rfl) ?_)
  exact zO hR J J
 ·have h2 : zAQ r ≠ 0 := fun c => h (rules_q7 c)
  rw [if_pos h] at cn
  refine rn6 ?_
  refine zU J J J zHp ?_
  refine rn6 ?_
  refine zU J J J cb ?_
  refine rn4 ?_
  refine zW (poC P) J J J J J J J ?_
  repeat (first | refine zA (zN rfl) ?_ | refine zC ?_ | refine zB ?_ | refine zX ?_ | refine zK rfl ?_ | refine zA (zR rfl rfl rfl rfl rfl) ?_ | refine zA (q_max rfl rfl) ?_ | refine zA (zHm rfl rfl) ?_ | refine zA (zL rfl rfl rfl rfl rfl rfl) ?_ | refine zA (qpp rfl rfl rfl rfl rfl rfl rfl) ?_ | refine z8 rfl rfl rfl rfl rfl rfl rfl Nat.zero_lt_one ?_ | refine zAJ rfl rfl rfl ?_)
  refine zW _ J J J J J J J ?_
  refine rn9 ?_
  refine zU J J J cn ?_
  refine rn6 ?_
  refine zU J J J cq ?_
  refine rn4 ?_
  refine zW (poC Q) J J J J J J J ?_
  refine rn3 ?_
  refine zI J (fun q => ?_) (fun q => absurd h q)
  refine rn4 ?_
  refine zh J J (fun q => ?_) (fun q => ?_)
  ·repeat (first | refine zA (zG rfl) ?_ | refine zl rfl rfl ?_ | refine zA (zBP rfl rfl) ?_ | refine zA (zd rfl rfl) ?_ | refine zA (zJE rfl rfl rfl rfl) ?_)
   refine zh J J (fun q => ?_) (fun q => ?_)
   ·refine rn6 ?_
    exact zO hR J J
   ·exact absurd h2 q
  ·exact absurd J q
end Go.Proofs.YtiifcejepaeepaaDoor
namespace Go.Proofs.YtiifcejepaeepaaDoor
open Go.Ax Go.Ax.Gm Go.RowKit
theorem rdWay {H : Type} {enc : TypeId × Value → H} {W : World} : Rd enc Tryd.prog W 85 4 zEu (fun _ => True) :=
 (Rd.struct Tryd.underlying85 (by kernel_rfl) (RdF.cons rfl rfl (Rd.int Tryd.underlying3) (RdF.cons rfl rfl (Rd.int Tryd.underlying3) (RdF.cons rfl rfl (Rd.int Tryd.underlying3) (RdF.cons rfl rfl (Rd.int Tryd.underlying3) RdF.nil))))).map
  (fun a => (⟨a.1, a.2.1, a.2.2.1, a.2.2.2.1⟩ : Go.Ax.Gm.Way)) (fun a h => trivial) (fun a => rfl) (fun a i hi => AEq.rfl')
theorem rdPc {H : Type} {enc : TypeId × Value → H} {W : World} : Rd enc Tryd.prog W 60 4 pcC (fun p => p.ways.length ≤ 9223372036854775807) :=
 (Rd.struct Tryd.underlying60 (by kernel_rfl) (RdF.cons rfl rfl (Rd.int Tryd.underlying5) (RdF.cons rfl rfl (Rd.int Tryd.underlying3) (RdF.cons rfl rfl (Rd.int Tryd.underlying3) (RdF.cons rfl rfl (Rd.slice way0 Tryd.underlying58 (by kernel_rfl) rfl rdWay) RdF.nil))))).map
  (fun a => (⟨a.1, a.2.1, a.2.2.1, a.2.2.2.1⟩ : Go.Ax.Gm.Pc)) (fun a h => h.2.2.2.1.1) (fun a => rfl) (fun a i hi => AEq.rfl')
theorem rdEn {H : Type} {enc : TypeId × Value → H} {W : World} : Rd enc Tryd.prog W 72 4 enC (fun _ => True) :=
 (Rd.struct Tryd.underlying72 (by kernel_rfl) (RdF.cons rfl rfl (Rd.int Tryd.underlying3) (RdF.cons rfl rfl (Rd.int Tryd.underlying3) (RdF.cons rfl rfl (Rd.int Tryd.underlying3) (RdF.cons rfl rfl (Rd.bool Tryd.underlying4) RdF.nil))))).map
  (fun a => (⟨a.1, a.2.1, a.2.2.1, a.2.2.2.1⟩ : Go.Ax.Gm.En)) (fun a h => trivial) (fun a => rfl) (fun a i hi => AEq.rfl')
theorem rdRules {H : Type} {enc : TypeId × Value → H} {W : World} : Rd enc Tryd.prog W 26 11 ruC Lens :=
 (Rd.struct Tryd.underlying26 (by kernel_rfl) (RdF.cons rfl rfl (Rd.str Tryd.underlying9) (RdF.cons rfl rfl (Rd.int Tryd.underlying3) (RdF.cons rfl rfl (Rd.int Tryd.underlying3) (RdF.cons rfl rfl (Rd.slice pc0 Tryd.underlying22 (by kernel_rfl) rfl rdPc) (RdF.cons rfl rfl (Rd.ints Tryd.underlying23 (by kernel_rfl) Tryd.underlying3) (RdF.cons rfl rfl (Rd.bool Tryd.underlying4) (RdF.cons rfl rfl (Rd.bool Tryd.underlying4) (RdF.cons rfl rfl (Rd.slice en0 Tryd.underlying24 (by kernel_rfl) rfl rdEn) (RdF.cons rfl rfl (Rd.int Tryd.underlying3) (RdF.cons rfl rfl (Rd.int Tryd.underlying3) (RdF.cons rfl rfl (Rd.int Tryd.underlying3) RdF.nil)))))))))))).map
  (fun a => (⟨a.1, a.2.1, a.2.2.1, a.2.2.2.1, a.2.2.2.2.1, a.2.2.2.2.2.1, a.2.2.2.2.2.2.1, a.2.2.2.2.2.2.2.1, a.2.2.2.2.2.2.2.2.1, a.2.2.2.2.2.2.2.2.2.1, a.2.2.2.2.2.2.2.2.2.2.1⟩ : Go.Ax.Gm.Rules))
  (fun a h => ⟨h.1, h.2.2.2.1.1, h.2.2.2.1.2, h.2.2.2.2.1.1, h.2.2.2.2.2.2.2.1.1⟩) (fun a => rfl) (fun a i hi => AEq.rfl')
theorem rdPos {H : Type} {enc : TypeId × Value → H} {W : World} : Rd enc Tryd.prog W 29 5 poC LenP :=
 (Rd.struct Tryd.underlying29 (by kernel_rfl) (RdF.cons rfl rfl (Rd.ints Tryd.underlying23 (by kernel_rfl) Tryd.underlying3) (RdF.cons rfl rfl (Rd.arr2 Tryd.underlying27 (by kernel_rfl) (by kernel_rfl) (Rd.ints Tryd.underlying23 (by kernel_rfl) Tryd.underlying3)) (RdF.cons rfl rfl (Rd.int Tryd.underlying3) (RdF.cons rfl rfl (Rd.int Tryd.underlying3) RdF.nil))))).map
  (fun a => (⟨a.1, a.2.1.1, a.2.1.2, a.2.2.1, a.2.2.2.1⟩ : Go.Ax.Gm.Pos)) (fun a h => ⟨h.1.1, h.2.1.1.1, h.2.1.2.1⟩) (fun a => rfl) (fun a i hi => AEq.rfl')
end Go.Proofs.YtiifcejepaeepaaDoor
