import Derived.Test.YtiifcejepaeepaaGreatDoorY5
set_option linter.unusedVariables false
set_option linter.unusedSimpArgs false
set_option maxRecDepth 100000
set_option maxHeartbeats 4000000
namespace Go.Proofs.YtiifcejepaeepaaGreatDoor
open Go.Ax Go.Ax.Gm Go.RowKit Go.Ax.Idx Go.Ax.Cd
attribute [local irreducible] Ax zCC QOp zb
/-- moves.Make, player 1 -/
theorem make1_ok (r : Go.Ax.Gm.Rules) (hv : ValidR r) (cs a b : List Int) (qt : Int) (S : Sound r ⟨cs, b, a, 1, qt⟩) (m : Mv) (hm : MvOK r ⟨cs, b, a, 1, qt⟩ m) : zl Tryz.prog 67 [ruA r, poA ⟨cs, b, a, 1, qt⟩, mvA m] (poA (zBh r ⟨cs, b, a, 1, qt⟩ m)) := by
 refine zb.value0 (zM (P := Tryz.prog) (fn := Tryz.f67) J J (by kernel_rfl) J (fun c hR hfix => ?_)) (fix := fun _ => False) (fun _ h => h) J J
 have SP := zBF hv S
 have hcc : cs.length ≤ 64 := SP.c
 have hcl : (cs.length : Int) = r.w * r.h := S.cl
 have hal : a.length = r.pcs.length := S.l1
 have hn6 := hv.n6
 have hqt : 0 ≤ qt ∧ qt ≤ 200 := S.qt
 have hain : ∀ n ∈ a, 0 ≤ n ∧ n ≤ 1000 := S.c1
 have hC12 := fun s => zHJ hv S s
 have hKlt := fun s => zD8 S s
 obtain ⟨m1, m2, m3, m4, m5⟩ := hm
 have m2 : m.to.toNat < cs.length := m2
 have m4 : m.pc.toNat < a.length := by omega
 have m5 : (m.fr = -1 ∧ 0 < a.getD m.pc.toNat 0) ∨ (0 ≤ m.fr ∧ m.fr.toNat < cs.length) := m5
 have hapc := hain _ (zAl 0 m4)
 refine zW ?_
 repeat (first | refine zC ?_ | refine zB ?_ | refine zK rfl ?_ | refine zAi rfl rfl ?_ | refine zAO rfl rfl rfl ?_)
 refine zAv [some ⟨26, .box (ruC r)⟩, some ⟨35, .box (poC ⟨cs, b, a, 1, qt⟩)⟩, some ⟨58, .box (mvC m)⟩, none] [none, none, none, some ⟨35, .box poZ⟩] [(3, .rp (.box (ruC r)) 0 0), (4, .rp (.box [zp cs, zp b, zp a, .int .i64 1, .int .i64 qt]) 0 0), (5, .rp (.box (mvC m)) 0 0), (6, .ptr 3 0 0)] ?_ (zCA (zt rfl) (zCA (zt rfl) (zCA (zt rfl) (zCB zCc)))) rfl ?_ ⟨⟨.ptr 0 0 0, rfl, .inr (.inr ⟨rfl, fun o ho => by cases ho; exact Nat.zero_lt_one⟩)⟩, ⟨.ptr 1 0 0, rfl, .inr (.inr ⟨rfl, fun o ho => by cases ho; exact Nat.zero_lt_one⟩)⟩, ⟨.ptr 2 0 0, rfl, .inr (.inr ⟨rfl, fun o ho => by cases ho; exact Nat.zero_lt_one⟩)⟩, ⟨_, rfl, .inl rfl⟩, trivial⟩ ?_
 ·intro h o ho
  match h, ho with
  | 0, ho => exact ho
  | 1, ho => exact ho
  | 2, ho => exact ho
  | 3, ho => simp at ho
  | _ + 4, ho => simp at ho
 ·intro h o ho
  match h, ho with
  | 0, ho => simp at ho
  | 1, ho => simp at ho
  | 2, ho => simp at ho
  | 3, ho => cases ho; exact ⟨fun o h => by simp at h, _, rfl, rfl, rfl, rfl, fun _ _ _ _ => .inl rfl⟩
  | _ + 4, ho => simp at ho
 refine rn6 ?_
 refine zJY (.agg (poS ⟨cs, b, a, 1, qt⟩ 6)) [none, none, none, some ⟨35, .box poZ⟩, some ⟨35, .box (poS ⟨cs, b, a, 1, qt⟩ 6)⟩, some ⟨35, .box (poS ⟨cs, b, a, 1, qt⟩ 6)⟩, some ⟨3, .ints .i64 cs⟩, some ⟨3, .ints .i64 b⟩, some ⟨3, .ints .i64 a⟩] J J J (zJk _ SP) J J ?_
 repeat (refine zAO rfl rfl rfl ?_)
 refine zX (poS ⟨cs, b, a, 1, qt⟩ 6) J J J J J J J ?_
 refine zA0 [none, none, none, some ⟨35, .box poZ⟩, none, none, some ⟨3, .ints .i64 cs⟩, some ⟨3, .ints .i64 b⟩, some ⟨3, .ints .i64 a⟩, some ⟨35, .box [.sl 6 0 cs.length, .sl 7 0 b.length, .sl 8 0 a.length, .int .i64 1, .int .i64 qt]⟩] (zAu.drop (zAu.drop (zAu.drop (zAu.eqv (CEq.refl _) (zAu.drop (zAu.drop (zAu.refl _))))))) ?_
 repeat (first | refine zA (zP rfl) ?_ | refine zC ?_ | refine zB ?_ | refine zW ?_ | refine zK rfl ?_ | refine zA (zU rfl rfl rfl rfl rfl) ?_ | refine zA (zDc rfl rfl) ?_ | refine zA (zh rfl rfl rfl rfl rfl (by first | (simp only [Nat.zero_add, Int.toNat_natCast, Int.toNat_zero]; exact rfl) | exact rfl) (by omega)) ?_ | refine zA (zAq rfl rfl rfl rfl (by first | assumption | omega)) ?_ | refine zA (zD rfl rfl rfl rfl) ?_ | refine zA (zL rfl rfl rfl rfl rfl rfl) ?_ | refine zA (zI rfl rfl rfl rfl rfl rfl) ?_)
 obtain ⟨took, htk⟩ : ∃ took, cs.getD m.to.toNat 0 = took := ⟨_, rfl⟩
 have htk2 : zAA ⟨cs, b, a, 1, qt⟩ m.to.toNat = took := htk
 have ht12 := hC12 m.to.toNat
 have htK : took ≠ 0 → zAP took < r.pcs.length := fun q => by
  have h := hKlt m.to.toNat
  rw [htk2] at h
  exact zE9 q h.1 h.2
 rw [htk2] at ht12
 obtain ⟨C1, hC1⟩ : ∃ C1, (if 0 ≤ m.fr then cs.set m.fr.toNat 0 else cs) = C1 := ⟨_, rfl⟩
 obtain ⟨A1, hA1⟩ : ∃ A1, (if 0 ≤ m.fr then a else a.set m.pc.toNat (a.getD m.pc.toNat 0 - 1)) = A1 := ⟨_, rfl⟩
 have hC1l : C1.length = cs.length := by rw [← hC1]; split <;> simp
 have hA1l : A1.length = a.length := by rw [← hA1]; split <;> simp
 have hA1in : ∀ i, -1 ≤ A1.getD i 0 ∧ A1.getD i 0 ≤ 1000 := fun i => by
  rw [← hA1]
  split
  ·by_cases q : i < a.length
   ·have := hain _ (zAl 0 q); omega
   ·rw [List.getD, List.getElem?_eq_none (by omega)]; exact ⟨by decide, by decide⟩
  ·by_cases q : i < a.length
   ·by_cases q2 : m.pc.toNat = i
    ·rw [← q2, List.getD, List.getElem?_set_self m4]; show -1 ≤ a.getD m.pc.toNat 0 - 1 ∧ a.getD m.pc.toNat 0 - 1 ≤ 1000; omega
    ·rw [List.getD, List.getElem?_set_ne q2]; have := hain _ (zAl 0 q); rw [List.getD] at this; omega
   ·rw [List.getD, List.getElem?_eq_none (by rw [List.length_set]; omega)]; exact ⟨by decide, by decide⟩
 refine zBp 8 (.int .i64 took) J (AEq.of_eq (by rw [← htk])) ?_
 apply zAC (H := [none, none, none, some ⟨35, .box poZ⟩, none, none, some ⟨3, .ints .i64 C1⟩, some ⟨3, .ints .i64 b⟩, some ⟨3, .ints .i64 A1⟩, some ⟨35, .box [.sl 6 0 cs.length, .sl 7 0 b.length, .sl 8 0 a.length, .int .i64 1, .int .i64 qt]⟩]) [(3, .rp (.box (ruC r)) 0 0), (4, .rp (.box [zp cs, zp b, zp a, .int .i64 1, .int .i64 qt]) 0 0), (5, .rp (.box (mvC m)) 0 0), (6, .ptr 3 0 0), (7, .ptr 9 0 0), (8, .int .i64 took)]
 ·intro fin
  refine zH J (fun f1 => ?_) (fun f1 => ?_)
  ·have f1 : 0 ≤ m.fr := f1
   rw [if_pos f1] at hC1 hA1
   have f2 : m.fr.toNat < cs.length := by rcases m5 with q | q; omega; exact q.2
   subst hC1 hA1
   repeat (first | refine zC ?_ | refine zB ?_ | refine zK rfl ?_ | refine zA (zU rfl rfl rfl rfl rfl) ?_ | refine zA (zh rfl rfl rfl rfl rfl (by first | (simp only [Nat.zero_add, Int.toNat_natCast, Int.toNat_zero]; exact rfl) | exact rfl) (by omega)) ?_ | refine zA (zD rfl rfl rfl rfl) ?_ | refine zA (zL rfl rfl rfl rfl rfl rfl) ?_ | refine zA (zI rfl rfl rfl rfl rfl rfl) ?_ | refine zAE rfl rfl rfl rfl rfl rfl rfl (by first | assumption | (show _ < List.length _; first | assumption | omega)) ?_)
   exact fin _ ⟨J, J, J, J, J, J, trivial⟩
  ·have f1 : ¬ 0 ≤ m.fr := f1
   rw [if_neg f1] at hC1 hA1
   subst hC1 hA1
   skip
   refine zd (by kernel_rfl) ?_
   refine zj (fuel := 1) [0, 1, 2, 3, 4, 5, 6, 7, 8, 9, 10] [(3, .rp (.box (ruC r)) 0 0), (4, .rp (.box [zp cs, zp b, zp a, .int .i64 1, .int .i64 qt]) 0 0), (5, .rp (.box (mvC m)) 0 0), (6, .ptr 3 0 0), (7, .ptr 9 0 0), (8, .int .i64 took)] ⟨J, J, J, J, J, J, trivial⟩ (by kernel_rfl) (by decide) J J ?_
   refine zJ J J (zI J J J J J J) ?_
   refine zJ J J (zD J J J J) ?_
   refine zJ J J (zL J J J J J J) ?_
   refine zJ J J (zAS J J J J J (by show (0 : Int) ≤ 1 ∧ (1 : Int) < 2; decide)) ?_
   refine zJ J J (zU J J J J J) ?_
   refine zJ J J (zI J J J J J J) ?_
   refine zJ J J (zD J J J J) ?_
   refine zJ J J (zh J J J J J (by first | (simp only [Nat.zero_add, Int.toNat_natCast, Int.toNat_zero]; exact J) | exact J) (by omega)) ?_
   refine zJ J J (zAq J J J J (by first | assumption | omega)) ?_
   refine zJ J J (zA4 J J (by omega)) ?_
   refine zJ J J (zh J J J J J (by first | (simp only [Nat.zero_add, Int.toNat_natCast, Int.toNat_zero]; exact J) | exact J) (by omega)) ?_
   refine zw ?_
   refine zG (is := [11]) (by kernel_rfl) (by simp) J ⟨fun o ho => ?_, trivial⟩
   all_goals (cases ho)
   refine rn7 ?_
   refine zY (by kernel_rfl) ?_
   repeat (refine zB ?_)
   exact fin _ ⟨J, J, J, J, J, J, trivial⟩
 obtain ⟨C2, hC2⟩ : ∃ C2, C1.set m.to.toNat (2 * m.pc + 1 + 1) = C2 := ⟨_, rfl⟩
 have hC2l : C2.length = cs.length := by rw [← hC2, List.length_set, hC1l]
 obtain ⟨A2, hA2⟩ : ∃ A2, (if 0 < took ∧ r.keeps = true then A1.set (zAP took) (min (A1.getD (zAP took) 0 + 1) 1000) else A1) = A2 := ⟨_, rfl⟩
 have hmt : m.to.toNat < C1.length := by omega
 have hmt2 : m.to.toNat < (Cells.ints .i64 C1).len := hmt
 obtain ⟨q3, hq3⟩ : ∃ q3, (if 0 < took ∨ m.fr < 0 then 0 else min (qt + 1) 200) = q3 := ⟨_, rfl⟩
 repeat (first | refine zW ?_ | refine zK rfl ?_ | refine zA (zU rfl rfl rfl rfl rfl) ?_ | refine zA (zD rfl rfl rfl rfl) ?_ | refine zA (zL rfl rfl rfl rfl rfl rfl) ?_ | refine zA (zI rfl rfl rfl rfl rfl rfl) ?_)
 refine zA (zCb J J (by omega)) ?_
 repeat (first | refine zA (zF rfl) ?_ | refine zC ?_ | refine zB ?_ | refine zW ?_ | refine zK rfl ?_ | refine zA (zCG rfl rfl) ?_ | refine zA (zAz rfl rfl (by omega)) ?_ | refine zA (zh rfl rfl rfl rfl rfl (by first | (simp only [Nat.zero_add, Int.toNat_natCast, Int.toNat_zero]; exact rfl) | exact rfl) (by omega)) ?_ | refine zA (zD rfl rfl rfl rfl) ?_ | refine zA (zI rfl rfl rfl rfl rfl rfl) ?_ | refine zAE rfl rfl rfl rfl rfl rfl rfl (by first | assumption | (show _ < List.length _; first | assumption | omega)) ?_)
 refine zAc [none, none, none, some ⟨35, .box poZ⟩, none, none, some ⟨3, .ints .i64 C2⟩, some ⟨3, .ints .i64 b⟩, some ⟨3, .ints .i64 A1⟩, some ⟨35, .box [.sl 6 0 cs.length, .sl 7 0 b.length, .sl 8 0 a.length, .int .i64 1, .int .i64 qt]⟩] (by rw [← hC2]; rfl) ?_
 apply zAC (H := [none, none, none, some ⟨35, .box poZ⟩, none, none, some ⟨3, .ints .i64 C2⟩, some ⟨3, .ints .i64 b⟩, some ⟨3, .ints .i64 A2⟩, some ⟨35, .box [.sl 6 0 cs.length, .sl 7 0 b.length, .sl 8 0 a.length, .int .i64 1, .int .i64 qt]⟩]) [(3, .rp (.box (ruC r)) 0 0), (4, .rp (.box [zp cs, zp b, zp a, .int .i64 1, .int .i64 qt]) 0 0), (5, .rp (.box (mvC m)) 0 0), (6, .ptr 3 0 0), (7, .ptr 9 0 0), (8, .int .i64 took)]
 ·intro fin
  refine zg J J (fun f1 => ?_) (fun f1 => ?_)
  ·have f1 : 0 < took := f1
   refine zAt ?_
   refine zAK J (fun f2 => ?_) (fun f2 => ?_)
   ·rw [if_pos ⟨f1, f2⟩] at hA2
    have hKl : zAP took < A1.length := by have := htK (by omega); omega
    have hKl2 : zAP took < (Cells.ints .i64 A1).len := hKl
    have hKC : (took - 1) / 2 = ((zAP took : Nat) : Int) := by unfold zAP; rw [Int.tdiv_eq_ediv_of_nonneg (by omega)]; omega
    have hKin := hA1in (zAP took)
    generalize zAP took = K at hA2 hKl hKl2 hKC hKin
    refine zW ?_
    repeat (first | refine zA (zF rfl) ?_ | refine zA (zP rfl) ?_ | refine zC ?_ | refine zB ?_ | refine zK rfl ?_ | refine zA (zA4 rfl rfl (by omega)) ?_ | refine zA (zGr rfl rfl (by omega)) ?_)
    refine zBp 9 (iN K) J (AEq.of_eq (by rw [hKC])) ?_
    refine zd (by kernel_rfl) ?_
    refine zj (fuel := 1) [0, 1, 2, 3, 4, 5, 6, 7, 8, 9, 10, 11, 12, 13, 14, 15, 16] [(3, .rp (.box (ruC r)) 0 0), (4, .rp (.box [zp cs, zp b, zp a, .int .i64 1, .int .i64 qt]) 0 0), (5, .rp (.box (mvC m)) 0 0), (6, .ptr 3 0 0), (7, .ptr 9 0 0), (8, .int .i64 took), (9, iN K)] ⟨J, J, J, J, J, J, J, trivial⟩ (by kernel_rfl) (by decide) J J ?_
    refine zJ J J (zI J J J J J J) ?_
    refine zJ J J (zD J J J J) ?_
    refine zJ J J (zL J J J J J J) ?_
    refine zJ J J (zAS J J J J J (by show (0 : Int) ≤ 1 ∧ (1 : Int) < 2; decide)) ?_
    refine zJ J J (zU J J J J J) ?_
    refine zJ J J (zF J) ?_
    refine zJ J J (zI J J J J J J) ?_
    refine zJ J J (zD J J J J) ?_
    refine zJ J J (zL J J J J J J) ?_
    refine zJ J J (zAS J J J J J (by show (0 : Int) ≤ 1 ∧ (1 : Int) < 2; decide)) ?_
    refine zJ J J (zU J J J J J) ?_
    refine zJ J J (zF J) ?_
    refine zJ J J (zh J J J J J (by first | (simp only [Nat.zero_add, Int.toNat_natCast, Int.toNat_zero]; exact J) | exact J) (by omega)) ?_
    refine zJ J J (zAq J J J J (by first | assumption | omega)) ?_
    refine zJ J J (zAz J J (by omega)) ?_
    refine zJ J J (zKC J J) ?_
    refine zJ J J (zh J J J J J (by first | (simp only [Nat.zero_add, Int.toNat_natCast, Int.toNat_zero]; exact J) | exact J) (by omega)) ?_
    refine zw ?_
    refine zG (is := [17]) (by kernel_rfl) (by simp) J ⟨fun o ho => ?_, trivial⟩
    all_goals (cases ho)
    refine rn7 ?_
    refine zY (by kernel_rfl) ?_
    repeat (refine zB ?_)
    have e : (if A1.getD K 0 + 1 ≤ 1000 then A1.getD K 0 + 1 else (1000 : Int)) = (if 1000 < A1.getD K 0 + 1 then 1000 else A1.getD K 0 + 1) := by split <;> split <;> omega
    refine zAa [none, none, none, some ⟨35, .box poZ⟩, none, none, some ⟨3, .ints .i64 C2⟩, some ⟨3, .ints .i64 b⟩, some ⟨3, .ints .i64 A2⟩, some ⟨35, .box [.sl 6 0 cs.length, .sl 7 0 b.length, .sl 8 0 a.length, .int .i64 1, .int .i64 qt]⟩] (by rw [← hA2, Int.min_def, e]; rfl) ?_
    exact fin _ ⟨J, J, J, J, J, J, trivial⟩
   ·rw [if_neg (fun q => by rw [f2] at q; exact Bool.false_ne_true q.2)] at hA2
    subst hA2
    refine zFH ?_
    exact fin _ ⟨J, J, J, J, J, J, trivial⟩
  ·have f1 : ¬ 0 < took := f1
   rw [if_neg (fun q => f1 q.1)] at hA2
   subst hA2
   refine zFH ?_
   exact fin _ ⟨J, J, J, J, J, J, trivial⟩
 repeat (first | refine zA (zF rfl) ?_ | refine zC ?_ | refine zB ?_ | refine zW ?_ | refine zK rfl ?_ | refine zA (zCG rfl rfl) ?_ | refine zA (zAz rfl rfl (by omega)) ?_ | refine zA (zD rfl rfl rfl rfl) ?_ | refine zA (zKC rfl rfl) ?_ | refine zA (zL rfl rfl rfl rfl rfl rfl) ?_ | refine zA (zI rfl rfl rfl rfl rfl rfl) ?_ | refine zAE rfl rfl rfl rfl rfl rfl rfl Nat.zero_lt_one ?_)
 refine zAc [none, none, none, some ⟨35, .box poZ⟩, none, none, some ⟨3, .ints .i64 C2⟩, some ⟨3, .ints .i64 b⟩, some ⟨3, .ints .i64 A2⟩, some ⟨35, .box [.sl 6 0 cs.length, .sl 7 0 b.length, .sl 8 0 a.length, .int .i64 1, .int .i64 (if 200 < qt + 1 then 200 else qt + 1)]⟩] J ?_
 apply zAC (H := [none, none, none, some ⟨35, .box poZ⟩, none, none, some ⟨3, .ints .i64 C2⟩, some ⟨3, .ints .i64 b⟩, some ⟨3, .ints .i64 A2⟩, some ⟨35, .box [.sl 6 0 cs.length, .sl 7 0 b.length, .sl 8 0 a.length, .int .i64 1, .int .i64 q3]⟩]) [(3, .rp (.box (ruC r)) 0 0), (4, .rp (.box [zp cs, zp b, zp a, .int .i64 1, .int .i64 qt]) 0 0), (5, .rp (.box (mvC m)) 0 0), (6, .ptr 3 0 0), (7, .ptr 9 0 0), (8, .int .i64 took)]
 ·intro fin
  refine zg J J (fun f1 => ?_) (fun f1 => ?_)
  ·have f1 : 0 < took := f1
   rw [if_pos (.inl f1)] at hq3
   subst hq3
   repeat (first | refine zC ?_ | refine zB ?_ | refine zK rfl ?_ | refine zAM rfl rfl rfl ?_ | refine zAZ rfl ?_ | refine zA (ze rfl rfl) ?_ | refine zA (zL rfl rfl rfl rfl rfl rfl) ?_ | refine zAE rfl rfl rfl rfl rfl rfl rfl Nat.zero_lt_one ?_)
   exact fin _ ⟨J, J, J, J, J, J, trivial⟩
  ·have f1 : ¬ 0 < took := f1
   repeat (first | refine zC ?_ | refine zB ?_ | refine zm rfl rfl ?_ | refine zA (zBy rfl rfl) ?_ | refine zA (ze rfl rfl) ?_ | refine zA (zD rfl rfl rfl rfl) ?_ | refine zA (zI rfl rfl rfl rfl rfl rfl) ?_)
   refine zH J (fun f2 => ?_) (fun f2 => ?_)
   ·have f2 : m.fr < 0 := f2
    rw [if_pos (.inr f2)] at hq3
    subst hq3
    repeat (first | refine zC ?_ | refine zB ?_ | refine zK rfl ?_ | refine zA (zL rfl rfl rfl rfl rfl rfl) ?_ | refine zAE rfl rfl rfl rfl rfl rfl rfl Nat.zero_lt_one ?_)
    exact fin _ ⟨J, J, J, J, J, J, trivial⟩
   ·have f2 : ¬ m.fr < 0 := f2
    rw [if_neg (fun q => q.elim f1 f2)] at hq3
    refine zFH ?_
    have e : (if 200 < qt + 1 then (200 : Int) else qt + 1) = q3 := by
     rw [← hq3, Int.min_def]
     split <;> split <;> omega
    refine zAa [none, none, none, some ⟨35, .box poZ⟩, none, none, some ⟨3, .ints .i64 C2⟩, some ⟨3, .ints .i64 b⟩, some ⟨3, .ints .i64 A2⟩, some ⟨35, .box [.sl 6 0 cs.length, .sl 7 0 b.length, .sl 8 0 a.length, .int .i64 1, .int .i64 q3]⟩] (by rw [e]) ?_
    exact fin _ ⟨J, J, J, J, J, J, trivial⟩
 repeat (first | refine zC ?_ | refine zB ?_ | refine zW ?_ | refine zK rfl ?_ | refine zA (zA4 rfl rfl (by omega)) ?_ | refine zA (zD rfl rfl rfl rfl) ?_ | refine zA (zL rfl rfl rfl rfl rfl rfl) ?_ | refine zA (zI rfl rfl rfl rfl rfl rfl) ?_ | refine zA (qpp rfl rfl rfl rfl rfl rfl rfl) ?_ | refine zAE rfl rfl rfl rfl rfl rfl rfl Nat.zero_lt_one ?_)
 have hA2l : A2.length = a.length := by rw [← hA2]; split <;> simp [hA1l]
 have hmk : zBh r ⟨cs, b, a, 1, qt⟩ m = ⟨C2, b, A2, 1 - 1, q3⟩ := by
  have e : zBh r ⟨cs, b, a, 1, qt⟩ m = ⟨(if 0 ≤ m.fr then cs.set m.fr.toNat 0 else cs).set m.to.toNat (2 * m.pc + 1 + 1), b, (if 0 < zAA ⟨cs, b, a, 1, qt⟩ m.to.toNat ∧ r.keeps = true then (if 0 ≤ m.fr then a else a.set m.pc.toNat (a.getD m.pc.toNat 0 - 1)).set (zAP (zAA ⟨cs, b, a, 1, qt⟩ m.to.toNat)) (min ((if 0 ≤ m.fr then a else a.set m.pc.toNat (a.getD m.pc.toNat 0 - 1)).getD (zAP (zAA ⟨cs, b, a, 1, qt⟩ m.to.toNat)) 0 + 1) 1000) else (if 0 ≤ m.fr then a else a.set m.pc.toNat (a.getD m.pc.toNat 0 - 1))), 1 - 1, if 0 < zAA ⟨cs, b, a, 1, qt⟩ m.to.toNat ∨ m.fr < 0 then 0 else min (qt + 1) 200⟩ := rfl
  rw [e, htk2, hC1, hA1, hC2, hA2, hq3]
 refine zX [.sl 6 0 cs.length, .sl 7 0 b.length, .sl 8 0 a.length, .int .i64 (1 - 1), .int .i64 q3] J J J J J J J ?_
 refine rn7 ?_
 refine zAv [none, none, none, none, none, none, some ⟨3, .ints .i64 C2⟩, some ⟨3, .ints .i64 b⟩, some ⟨3, .ints .i64 A2⟩, none] [none, none, none, some ⟨35, .box [.ro (.ints .i64 C2) 0 cs.length, .ro (.ints .i64 b) 0 b.length, .ro (.ints .i64 A2) 0 a.length, .int .i64 (1 - 1), .int .i64 q3]⟩, none, none, none, none, none, none] [(6, .ptr 3 0 0)] ?_ (zCB (zCB (zCB (zCB (zCB (zCB (zCA zAI (zCA zAI (zCA zAI (zCB zCc)))))))))) J ?_ (zBu ⟨J, trivial⟩) ?_
 ·intro h o ho
  match h, ho with
  | 0, ho => simp at ho
  | 1, ho => simp at ho
  | 2, ho => simp at ho
  | 3, ho => simp at ho
  | 4, ho => simp at ho
  | 5, ho => simp at ho
  | 6, ho => exact ho
  | 7, ho => exact ho
  | 8, ho => exact ho
  | 9, ho => simp at ho
  | _ + 10, ho => simp at ho
 ·intro h o ho
  match h, ho with
  | 0, ho => simp at ho
  | 1, ho => simp at ho
  | 2, ho => simp at ho
  | 3, ho =>
   cases ho
   refine ⟨fun o h => by simp at h, ⟨35, .box [.sl 6 0 cs.length, .sl 7 0 b.length, .sl 8 0 a.length, .int .i64 (1 - 1), .int .i64 q3]⟩, J, J, J, J, fun i j hi hj => ?_⟩
   obtain rfl : i = 0 := Nat.lt_one_iff.1 hi
   have hj : j < 5 := hj
   match j, hj with
   | 0, _ => exact .inr (.inr ⟨rfl, fun o ho => by cases ho; show 0 + cs.length ≤ C2.length; omega⟩)
   | 1, _ => exact .inr (.inr ⟨rfl, fun o ho => by cases ho; show 0 + b.length ≤ b.length; omega⟩)
   | 2, _ => exact .inr (.inr ⟨rfl, fun o ho => by cases ho; show 0 + a.length ≤ A2.length; omega⟩)
   | 3, _ => exact .inl rfl
   | 4, _ => exact .inl rfl
  | 4, ho => simp at ho
  | 5, ho => simp at ho
  | 6, ho => simp at ho
  | 7, ho => simp at ho
  | 8, ho => simp at ho
  | 9, ho => simp at ho
  | _ + 10, ho => simp at ho
 repeat (refine zz ?_)
 refine zN hR J ?_
 rw [hmk]
 show AV.agg [.ro (.ints .i64 C2) 0 cs.length, .ro (.ints .i64 b) 0 b.length, .ro (.ints .i64 A2) 0 a.length, .int .i64 (1 - 1), .int .i64 q3] = AV.agg [zp C2, zp b, zp A2, .int .i64 (1 - 1), .int .i64 q3]
 unfold zp
 rw [hC2l, hA2l]
/-- moves.Make -/
theorem make_ok (r : Go.Ax.Gm.Rules) (hv : ValidR r) (p : Pos) (S : Sound r p) (m : Mv) (hm : MvOK r p m) : zl Tryz.prog 67 [ruA r, poA p, mvA m] (poA (zBh r p m)) := by
 obtain ⟨cs, h0, h1, turn, qt⟩ := p
 rcases S.tn with q | q
 ·have q : turn = 0 := q
  subst q
  exact make0_ok r hv cs h0 h1 qt S m hm
 ·have q : turn = 1 := q
  subst q
  exact make1_ok r hv cs h1 h0 qt S m hm
theorem zE8 {r : Go.Ax.Gm.Rules} (hv : ValidR r) {p : Pos} (S : Sound r p) : zl Tryz.prog 86 [poA p] (.str (keyT p)) :=
 key_ok p (zBF hv S) S.tn (fun c hc => by have := S.cs c hc; have := hv.n6; omega) S.c0 S.c1
def zBw (l : List Pos) : List AV := l.map (fun p => .str (keyT p))
def zCQ (n : Nat) : List AV := (List.range n).map (fun i : Nat => iN i)
abbrev zC9 (nx : List (List Nat)) : Cells := zCR [] 1 (fun row : List Nat => [zp (row.map Int.ofNat)]) nx
abbrev tbC (r : Go.Ax.Gm.Rules) (l n : Nat) (e : AV) : List AV := [.str r.name, .int .i64 r.w, .int .i64 r.h, .ro (zAU r.pcs) 0 r.pcs.length, zp r.start, .bool r.falls, .bool r.keeps, .ro (zEg r.ends) 0 r.ends.length, .int .i64 r.blocked, .int .i64 r.quiet, .int .i64 r.rep, .sl 2 0 l, .sl 3 0 n, e, .mp 0]
abbrev zH4 (r : Go.Ax.Gm.Rules) (l : List Pos) (nx : List (List Nat)) (L : List Int) : zO :=
 [some ⟨95, .mp (zBw l) (zCQ l.length)⟩, some ⟨97, .box (tbC r l.length nx.length .nil)⟩, some ⟨35, zCm l⟩, some ⟨23, zC9 nx⟩, some ⟨3, .ints .i64 L⟩]
theorem zCu (l : List Pos) : ∀ x ∈ zBw l, zDZ .str x = true := fun x hx => by
 obtain ⟨p, _, rfl⟩ := List.mem_map.1 hx
 rfl
theorem zL1 {l : List Pos} {i : Nat} (h : i < l.length) : (zBw l)[i]? = some (.str (keyT (l.getD i z6))) := by
 unfold zBw
 rw [List.getElem?_map, List.getElem?_eq_getElem h]; simp [List.getD, h]
theorem zGe {n i : Nat} (h : i < n) : (zCQ n)[i]? = some (iN i) := by
 unfold zCQ
 rw [List.getElem?_map, List.getElem?_range h]; rfl
theorem zGQ {l : List Pos} {p : Pos} (h : zBI l p < l.length) : (zBw l)[zBI l p]? = some (.str (keyT p)) := by
 rw [zL1 h, zLO h]; rfl
theorem zEk {r : Go.Ax.Gm.Rules} (hv : ValidR r) {l : List Pos} {p : Pos} (S : Sound r p) (G : ∀ q ∈ l, Sound r q ∧ q.quiet = 0) (h : ¬ zBI l p < l.length) : AV.str (keyT p) ∉ zBw l := fun hm => by
 obtain ⟨q, hq, e⟩ := List.mem_map.1 hm
 have e := key_inj hv (G q hq).1 S (AV.str.inj e)
 rw [zL8 (G q hq).2] at e
 exact idx_no h (e ▸ hq)
theorem zGK {n : Nat} : ∀ {l : List AV}, (∀ x ∈ l, zB7 n x = true) → zBo n l = true
 | [], _ => rfl
 | x :: l, h => by
  show (zB7 n x && zBo n l) = true
  rw [h x (List.mem_cons_self ..), zGK (fun y hy => h y (List.mem_cons_of_mem _ hy))]; rfl
theorem zHZ {n : Nat} (l : List Pos) (m : Nat) : zAr n (.mp (zBw l) (zCQ m)) :=
 ⟨zGK (fun x hx => by obtain ⟨p, _, rfl⟩ := List.mem_map.1 hx; rfl), zGK (fun x hx => by obtain ⟨p, _, rfl⟩ := List.mem_map.1 hx; rfl)⟩
theorem zIo {n : Nat} (l : List Pos) : zAr n (zCm l) := fun i j _ hj => by
 have hj : j < 5 := hj
 match j, hj with
 | 0, _ => rfl
 | 1, _ => rfl
 | 2, _ => rfl
 | 3, _ => rfl
 | 4, _ => rfl
theorem zHw {n : Nat} (nx : List (List Nat)) : zAr n (zC9 nx) := fun i j _ hj => by
 obtain rfl : j = 0 := Nat.lt_one_iff.1 hj
 rfl
theorem zH5 (r : Go.Ax.Gm.Rules) (l : List Pos) (nx : List (List Nat)) (L : List Int) : ∀ (h : Nat) (o : AObj), (zH4 r l nx L)[h]? = some (some o) → zAr (zH4 r l nx L).length o.c :=
 zCD (zHZ l _) (zCD (zHH rfl) (zCD (zIo l) (zCD (zHw nx) (zCD (fun _ _ _ _ => rfl) zBs))))
theorem zEi {h : Nat} : ∀ {l : List AV}, (∀ x ∈ l, x.forget h = x) → AV.forgets h l = l
 | [], _ => rfl
 | x :: l, q => by
  show x.forget h :: AV.forgets h l = x :: l
  rw [q x (List.mem_cons_self ..), zEi (fun y hy => q y (List.mem_cons_of_mem _ hy))]
theorem zDa {h : Nat} (l : List Pos) (m : Nat) : (Cells.mp (zBw l) (zCQ m)).forget h = .mp (zBw l) (zCQ m) := by
 show Cells.mp (AV.forgets h (zBw l)) (AV.forgets h (zCQ m)) = _
 rw [zEi (fun x hx => by obtain ⟨p, _, rfl⟩ := List.mem_map.1 hx; rfl), zEi (fun x hx => by obtain ⟨p, _, rfl⟩ := List.mem_map.1 hx; rfl)]
theorem zB0 {α : Type} {d : α} {n h : Nat} {e : α → List AV} {l : List α} (q : ∀ a j, ((e a).getD j .any).forget h = (e a).getD j .any) : (zCR d n e l).forget h = zCR d n e l := by
 show Cells.fn l.length n (fun i j => ((e (l.getD i d)).getD j .any).forget h) = _
 simp only [q]; rfl
theorem zDb (a : Pos) (j k : Nat) : ((poC a).getD j .any).forget k = (poC a).getD j .any := by
 match j with
 | 0 => rfl
 | 1 => rfl
 | 2 => rfl
 | 3 => rfl
 | 4 => rfl
 | j + 5 => rfl
theorem zDe (a : List Nat) (j k : Nat) : (([zp (a.map Int.ofNat)] : List AV).getD j .any).forget k = ([zp (a.map Int.ofNat)] : List AV).getD j .any := by
 match j with
 | 0 => rfl
 | j + 1 => rfl
theorem zIg (l : List Pos) (p : Pos) : zBw l ++ [.str (keyT p)] = zBw (l ++ [zB2 p]) := by unfold zBw; rw [List.map_append]; rfl
theorem zIv (n : Nat) : zCQ n ++ [iN n] = zCQ (n + 1) := by unfold zCQ; rw [List.range_succ, List.map_append]; rfl
/-- (*retro.Table).add -/
theorem add_ok (r : Go.Ax.Gm.Rules) (hv : ValidR r) (l : List Pos) (nx : List (List Nat)) (L : List Int) (p : Pos) (S : Sound r p) (G : ∀ q ∈ l, Sound r q ∧ q.quiet = 0) (hl : l.length ≤ 3001) :
 zb Tryz.prog 78 [.ptr 1 0 0, poA p] (zH4 r l nx L) (fun h => h < 5 ∧ h ≠ 2) (fun v H => v = iN (zBI l p) ∧ H = zH4 r (zCT l p) nx L) := by
 have hc : zb Tryz.prog 78 [.ptr 1 0 0, poA p] (zH4 r l nx L) (fun h => h < 5 ∧ h ≠ 2) (fun v H => v = iN (zBI l p) ∧ ∃ x, H = zH4 r (zCT l p) nx L ++ [x]) := by
  refine zM (P := Tryz.prog) (fn := Tryz.f78) J J (by kernel_rfl) J (fun c hR hfix => ?_)
  refine rn6 ?_
  refine zS J J J (zE8 hv S) ?_
  refine rn8 ?_
  by_cases hi : zBI l p < l.length
  ·have hadd : zCT l p = l := by unfold zCT; rw [if_pos hi]
   rw [hadd] at hR
   refine zA (zEJ J (.str J) J J J J (zCu l) (zBI l p) (zGQ hi) (zGe hi)) ?_
   refine rn5 ?_
   exact zN hR J ⟨J, _, J⟩
  ·have hadd : zCT l p = l ++ [zB2 p] := by unfold zCT; rw [if_neg hi]
   have hidx : zBI l p = l.length := by have := zI9 l p; omega
   rw [hadd, hidx] at hR
   refine zA (zDk J (.str J) J J J J J J J J (zCu l) (zEk hv S G hi)) ?_
   repeat (first | refine zA (zF rfl) ?_ | refine zA (zP rfl) ?_ | refine zC ?_ | refine zB ?_ | refine zW ?_ | refine zK rfl ?_ | refine zAZ rfl ?_ | refine zA (zU rfl rfl rfl rfl rfl) ?_ | refine zA (zDy rfl) ?_ | refine zA (zAb rfl rfl) ?_ | refine zA (zA2 rfl rfl rfl) ?_ | refine zA (zZ rfl) ?_ | refine zA (zL rfl rfl rfl rfl rfl rfl) ?_ | refine zAE rfl rfl rfl rfl rfl rfl rfl Nat.zero_lt_one ?_)
   refine zEZ J (.str J) J J J J J (zCu l) (zEk hv S G hi) ?_
   refine rn0 ?_
   have hll : (l ++ [zB2 p]).length = l.length + 1 := by rw [List.length_append]; rfl
   refine zAa [some ⟨95, .mp (zBw (l ++ [zB2 p])) (zCQ (l.length + 1))⟩, some ⟨97, .box (tbC r l.length nx.length .nil)⟩, some ⟨35, zCm l⟩, some ⟨23, zC9 nx⟩, some ⟨3, .ints .i64 L⟩, some ⟨35, .box (poC (zB2 p))⟩] (by rw [← zIg, ← zIv]; rfl) ?_
   refine zd (by kernel_rfl) ?_
   refine zV 0 J (by kernel_rfl) (by kernel_rfl) (by kernel_rfl) J (zF J) J ?_
   refine zj (fuel := 4) [1, 2, 3, 4, 5, 6] [(33, .ptr 1 0 0), (0, .ptr 1 0 0), (3, .ptr 5 0 0), (6, iN l.length)] ⟨J, J, J, J, trivial⟩ (by kernel_rfl) (by decide) J J ?_
   refine zJ J J (zF J) ?_
   refine zJ J J (zZ J) ?_
   refine zJ J J (zL J J J J J J) ?_
   refine zJ J J (zU J J J J J) ?_
   refine zJ J J (qpp J J J J J J J) ?_
   refine px_b J J J J J J J J J J J J J ?_
   refine zw ?_
   refine zG (is := [7]) (by kernel_rfl) (by simp) J ⟨fun o ho => ?_, trivial⟩
   all_goals (cases ho)
   refine zBZ [zB2 p] J J J J J J J J J J J J J (Nat.le_refl _) (fun k' j hk' hj => ?_) (by show (l.length + 1) * 88 ≤ _ ∧ _; omega) (fun a j k _ => zDb a j k) (by rw [hfix]; exact fun h => h.2 J) ?_
   ·obtain rfl : k' = 0 := Nat.lt_one_iff.1 hk'
    match j, hj with
    | 0, _ => rfl
    | 1, _ => rfl
    | 2, _ => rfl
    | 3, _ => rfl
    | 4, _ => rfl
   refine zAc [some ⟨95, .mp (zBw (l ++ [zB2 p])) (zCQ (l.length + 1))⟩, some ⟨97, .box ((tbC r l.length nx.length .nil).set 11 .any)⟩, some ⟨35, zCm (l ++ [zB2 p])⟩, some ⟨23, zC9 nx⟩, some ⟨3, .ints .i64 L⟩, some ⟨35, .box (poC (zB2 p))⟩] ?_ ?_
   ·show [some (AObj.mk _ ((Cells.mp _ _).forget 2)), some (AObj.mk _ ((Cells.box _).forget 2)), some (AObj.mk _ (zCm (l ++ [zB2 p]))), some (AObj.mk _ ((zC9 nx).forget 2)), some (AObj.mk _ ((Cells.ints .i64 L).forget 2)), some (AObj.mk _ ((Cells.box (poC (zB2 p))).forget 2))] = _
    rw [zDa, zB0 (fun a j => zDe a j 2)]; rfl
   refine rn1 ?_
   refine zV 8 J (by kernel_rfl) (by kernel_rfl) (by kernel_rfl) J (zZ J) J ?_
   refine zV 9 J (by kernel_rfl) (by kernel_rfl) (by kernel_rfl) J (zL J J J J J J) J ?_
   refine zG (is := [10]) (by kernel_rfl) (by simp) J ⟨fun o ho => ?_, trivial⟩
   all_goals (cases ho)
   refine rn9 ?_
   refine zY (by kernel_rfl) ?_
   refine rn0 ?_
   exact zN hR J ⟨J, _, by show _ = [_, _, _, _, _, _]; rw [hll]; rfl⟩
 exact zb.cutR hc (fun v H ⟨e1, x, e2⟩ => ⟨_, [x], e2, fun h q => q.1, zH5 _ _ _ _, e1 ▸ J, e1, J⟩)
/-- slices.IndexFunc of numbers, the function looks at the caller's memory -/
theorem zKe {H : zO} (l : List Int) (q : Int → Bool) (g : Nat) (caps : List AV) (hl : l.length ≤ 1000000) (hc : ∀ x ∈ l, zb Tryz.prog g (.int .i64 x :: caps) H (fun h => h < H.length) (fun r H' => r = .bool (q x) ∧ H' = H)) :
 zb Tryz.prog 119 [zp l, .fn g caps] H (fun h => h < H.length) (fun r H' => (∃ n : Int, r = .int .i64 n ∧ (decide (0 ≤ n) = l.any q)) ∧ H' = H) := by
 refine zM (P := Tryz.prog) (fn := Tryz.f119) J J (by kernel_rfl) J (fun c hR hfix => ?_)
 refine rn3 ?_
 refine zu (ι := Nat) (fun k => [(0, zp l), (1, .fn g caps), (7, iN l.length), (8, iN k)]) (fun _ => H)
  (fun k => k ≤ l.length ∧ (l.take k).any q = false) (fun k => l.length - k) 0 ⟨⟨rfl, rfl, rfl, rfl, trivial⟩, rfl, Nat.zero_le _, by rw [List.take_zero]; rfl⟩ ?_
 intro k ⟨hk, hno⟩
 refine rn4 ?_
 refine zH J (fun h => ?_) (fun h => ?_)
 ·have hk' : k < l.length := by omega
  have hmem : l.getD k 0 ∈ l := zAl 0 hk'
  have htk : (l.take (k + 1)).any q = ((l.take k).any q || q (l.getD k 0)) := by rw [zx _ 0 k hk', List.any_append]; simp
  refine rn6 ?_
  refine zCs J J J (hc _ hmem) (fun _ h => h) (fun _ h => h) ?_
  rintro r H' ⟨rfl, rfl⟩
  refine rn0 ?_
  cases hq : q (l.getD k 0) with
  | true =>
   refine rn6 ?_
   refine zN hR J ⟨⟨(k : Nat), J, ?_⟩, J⟩
   rw [decide_eq_true (by omega : (0 : Int) ≤ (k : Nat)), List.any_eq_true.2 ⟨_, hmem, hq⟩]
  | false =>
   refine rn5 ?_
   exact zR ⟨k + 1, ⟨by omega, by rw [htk, hno, hq]; rfl⟩, by omega, ⟨J, J, J, J, trivial⟩, J⟩
 ·have hk' : k = l.length := by omega
  subst hk'
  rw [List.take_length] at hno
  refine rn5 ?_
  refine zN hR J ⟨⟨-1, J, ?_⟩, J⟩
  rw [hno]; rfl
/-- slices.ContainsFunc of numbers, the function looks at the caller's memory -/
theorem zGM {H : zO} (l : List Int) (q : Int → Bool) (g : Nat) (caps : List AV) (hl : l.length ≤ 1000000) (hc : ∀ x ∈ l, zb Tryz.prog g (.int .i64 x :: caps) H (fun h => h < H.length) (fun r H' => r = .bool (q x) ∧ H' = H)) :
 zb Tryz.prog 91 [zp l, .fn g caps] H (fun h => h < H.length) (fun r H' => r = .bool (l.any q) ∧ H' = H) := by
 refine zM (P := Tryz.prog) (fn := Tryz.f91) J J (by kernel_rfl) J (fun c hR hfix => ?_)
 refine rn0 ?_
 refine zCs J J J (zKe l q g caps hl hc) (fun _ h => h) (fun _ h => h) ?_
 rintro r H' ⟨⟨n, rfl, hn⟩, rfl⟩
 refine rn8 ?_
 exact zN hR J ⟨congrArg AV.bool hn, J⟩
abbrev tbF (r : Go.Ax.Gm.Rules) (l : List Pos) (nx : List (List Nat)) (e : AV) : List AV := [.str r.name, .int .i64 r.w, .int .i64 r.h, .ro (zAU r.pcs) 0 r.pcs.length, zp r.start, .bool r.falls, .bool r.keeps, .ro (zEg r.ends) 0 r.ends.length, .int .i64 r.blocked, .int .i64 r.quiet, .int .i64 r.rep, .ro (zCm l) 0 l.length, .ro (zC9 nx) 0 nx.length, e, .rom (zBw l) (zCQ l.length)]
abbrev zBT (E : List Ent) : Cells := zCR (0, 0) 2 zBc E
/-- the closures of solve, over its memory -/
structure SolveH (r : Go.Ax.Gm.Rules) (l : List Pos) (nx : List (List Nat)) (E : List Ent) (H : zO) : Prop where
 h1 : H[1]? = some (some ⟨97, .box (tbF r l nx (.sl 3 0 E.length))⟩)
 h2 : H[2]? = some (some ⟨28, .box [.ptr 1 0 0]⟩)
 h3 : H[3]? = some (some ⟨37, zBT E⟩)
theorem cl1_ok {r : Go.Ax.Gm.Rules} {l : List Pos} {nx : List (List Nat)} {E : List Ent} {H : zO} (S : SolveH r l nx E H) (own : Int) (k : Int) (hk : 0 ≤ k ∧ k < (E.length : Int)) :
 zb Tryz.prog 109 [.int .i64 k, .ptr 2 0 0, .rp (.box [.int .i64 own]) 0 0] H (fun h => h < H.length) (fun r H' => r = .bool (decide ((E.getD k.toNat (0, 0)).1 = own)) ∧ H' = H) := by
 obtain ⟨h1, h2, h3⟩ := S
 have hk' : k.toNat < E.length := by omega
 refine zM (P := Tryz.prog) (fn := Tryz.f109) J J (by kernel_rfl) J (fun c hR hfix => ?_)
 refine rn0 ?_
 refine zd (by kernel_rfl) ?_
 refine zj (fuel := 0) [0, 1, 2, 3, 4, 5, 6, 7, 8, 9, 10] [(0, .int .i64 k), (1, .ptr 2 0 0), (2, .rp (.box [.int .i64 own]) 0 0)] ⟨J, J, J, trivial⟩ (by kernel_rfl) (by decide) J J ?_
 refine zJ J J (zBE J J J (by assumption) (by rfl)) ?_
 refine zJ J J (zZ J) ?_
 refine zJ J J (zL J J J J J J) ?_
 refine zJ J J (zBE J J J (by assumption) (by rfl)) ?_
 refine zJ J J (zF J) ?_
 refine zJ J J (qis J J J) ?_
 refine zJ J J (zL J J J J J J) ?_
 refine zJ J J (zCx J J J (by assumption) J (by first | assumption | omega)) ?_
 refine zJ J J (zD J J J J) ?_
 refine zJ J J (zBj J J) ?_
 refine zJ J J (zP J) ?_
 refine zw ?_
 refine zY (by kernel_rfl) ?_
 refine rn0 ?_
 exact zN hR J ⟨J, J⟩
theorem cl2_ok {r : Go.Ax.Gm.Rules} {l : List Pos} {nx : List (List Nat)} {E : List Ent} {H : zO} (S : SolveH r l nx E H) (own : Int) (k : Int) (hk : 0 ≤ k ∧ k < (E.length : Int)) :
 zb Tryz.prog 110 [.int .i64 k, .ptr 2 0 0, .rp (.box [.int .i64 own]) 0 0] H (fun h => h < H.length) (fun r H' => r = .bool (decide ((E.getD k.toNat (0, 0)).1 ≠ own)) ∧ H' = H) := by
 obtain ⟨h1, h2, h3⟩ := S
 have hk' : k.toNat < E.length := by omega
 refine zM (P := Tryz.prog) (fn := Tryz.f110) J J (by kernel_rfl) J (fun c hR hfix => ?_)
 refine rn0 ?_
 refine zd (by kernel_rfl) ?_
 refine zj (fuel := 0) [0, 1, 2, 3, 4, 5, 6, 7, 8, 9, 10] [(0, .int .i64 k), (1, .ptr 2 0 0), (2, .rp (.box [.int .i64 own]) 0 0)] ⟨J, J, J, trivial⟩ (by kernel_rfl) (by decide) J J ?_
 refine zJ J J (zBE J J J (by assumption) (by rfl)) ?_
 refine zJ J J (zZ J) ?_
 refine zJ J J (zL J J J J J J) ?_
 refine zJ J J (zBE J J J (by assumption) (by rfl)) ?_
 refine zJ J J (zF J) ?_
 refine zJ J J (qis J J J) ?_
 refine zJ J J (zL J J J J J J) ?_
 refine zJ J J (zCx J J J (by assumption) J (by first | assumption | omega)) ?_
 refine zJ J J (zD J J J J) ?_
 refine zJ J J (zBL J J) ?_
 refine zJ J J (zP J) ?_
 refine zw ?_
 refine zY (by kernel_rfl) ?_
 refine rn0 ?_
 exact zN hR J ⟨J, J⟩
theorem cl3_ok {r : Go.Ax.Gm.Rules} {l : List Pos} {nx : List (List Nat)} {E : List Ent} {H : zO} (S : SolveH r l nx E H) (i : Nat) (hi : i < l.length) (ht : zAV l i = 0 ∨ zAV l i = 1) (k : Int) (hk : 0 ≤ k ∧ k < (E.length : Int)) :
 zb Tryz.prog 111 [.int .i64 k, .ptr 2 0 0, .rp (.box [iN i]) 0 0] H (fun h => h < H.length) (fun r H' => r = .bool (decide ((E.getD k.toNat (0, 0)).1 = 1 + zAV l i)) ∧ H' = H) := by
 obtain ⟨h1, h2, h3⟩ := S
 have hk' : k.toNat < E.length := by omega
 have ht : 0 ≤ (l.getD i z6).turn ∧ (l.getD i z6).turn ≤ 1 := by unfold zAV at ht; omega
 refine zM (P := Tryz.prog) (fn := Tryz.f111) J J (by kernel_rfl) J (fun c hR hfix => ?_)
 refine rn0 ?_
 refine zd (by kernel_rfl) ?_
 refine zj (fuel := 0) [0, 1, 2, 3, 4, 5, 6, 7, 8, 9, 10, 11, 12, 13, 14, 15, 16, 17, 18] [(0, .int .i64 k), (1, .ptr 2 0 0), (2, .rp (.box [iN i]) 0 0)] ⟨J, J, J, trivial⟩ (by kernel_rfl) (by decide) J J ?_
 refine zJ J J (zBE J J J (by assumption) (by rfl)) ?_
 refine zJ J J (zZ J) ?_
 refine zJ J J (zL J J J J J J) ?_
 refine zJ J J (zBE J J J (by assumption) (by rfl)) ?_
 refine zJ J J (zF J) ?_
 refine zJ J J (qis J J J) ?_
 refine zJ J J (zL J J J J J J) ?_
 refine zJ J J (zCx J J J (by assumption) J (by first | assumption | omega)) ?_
 refine zJ J J (zBE J J J (by assumption) (by rfl)) ?_
 refine zJ J J (zZ J) ?_
 refine zJ J J (zL J J J J J J) ?_
 refine zJ J J (zBE J J J (by assumption) (by rfl)) ?_
 refine zJ J J (zD J J J J) ?_
 refine zJ J J (zf J J J J (by first | (simp only [Nat.zero_add, Int.toNat_natCast, Int.toNat_zero]; exact J) | exact J) (by omega)) ?_
 refine zJ J J (zI J J J J J J) ?_
 refine zJ J J (zAx J J J J) ?_
 refine zJ J J (zAz J J (by omega)) ?_
 refine zJ J J (zBj J J) ?_
 refine zJ J J (zP J) ?_
 refine zw ?_
 refine zY (by kernel_rfl) ?_
 refine rn0 ?_
 exact zN hR J ⟨J, J⟩
/-- is(own): the box is only read from now on -/
theorem cl0_ok {H : zO} (own : Int) (hb : ∀ (h : Nat) (o : AObj), H[h]? = some (some o) → zAr H.length o.c) (hlt : 2 < H.length) :
 zb Tryz.prog 108 [.int .i64 own, .ptr 2 0 0] H (fun h => h < H.length) (fun r H' => r = .fn 109 [.ptr 2 0 0, .rp (.box [.int .i64 own]) 0 0] ∧ H' = H) := by
 have hc : zb Tryz.prog 108 [.int .i64 own, .ptr 2 0 0] H (fun h => h < H.length) (fun r H' => r = .fn 109 [.ptr 2 0 0, .rp (.box [.int .i64 own]) 0 0] ∧ H' = H ++ [none]) := by
  refine zM (P := Tryz.prog) (fn := Tryz.f108) J J (by kernel_rfl) J (fun c hR hfix => ?_)
  refine zW ?_
  repeat (first | refine zA (zP rfl) ?_ | refine zC ?_ | refine zB ?_ | refine zK rfl ?_ | refine zAi rfl rfl ?_)
  refine ax_fzN H 2 [(1, .ptr 2 0 0)] J J ⟨J, trivial⟩ ?_
  repeat (first | refine zA (zP rfl) ?_ | refine zC ?_ | refine zB ?_ | refine zW ?_ | refine zK rfl ?_ | refine zz ?_ | refine zA (zCa rfl) ?_)
  exact zN hR J ⟨J, J⟩
 exact zb.cutR hc (fun v H' ⟨e1, e2⟩ => ⟨H, [none], e2, fun h q => q, hb, by rw [e1]; show (Nat.blt 2 H.length && _) = true; rw [show Nat.blt 2 H.length = true from Nat.ble_eq_true_of_le hlt]; rfl, e1, J⟩)
abbrev slH (r : Go.Ax.Gm.Rules) (l : List Pos) (nx : List (List Nat)) (E : List Ent) (T : zO) : zO :=
 none :: some ⟨97, .box (tbF r l nx (.sl 3 0 E.length))⟩ :: some ⟨28, .box [.ptr 1 0 0]⟩ :: some ⟨37, zBT E⟩ :: T
abbrev zFR (f : List Nat) : Option AObj := some ⟨3, .ints .i64 (f.map Int.ofNat)⟩
abbrev resO (f : List Int) : Option AObj := some ⟨3, .ints .i64 f⟩
theorem slH_S (r : Go.Ax.Gm.Rules) (l : List Pos) (nx : List (List Nat)) (E : List Ent) (T : zO) : SolveH r l nx E (slH r l nx E T) := ⟨rfl, rfl, rfl⟩
theorem zKc {n : Nat} (E : List Ent) : zAr n (zBT E) := fun i j _ hj => by
 have hj : j < 2 := hj
 match j, hj with
 | 0, _ => rfl
 | 1, _ => rfl
theorem zFt (a : Ent) (j k : Nat) : ((zBc a).getD j .any).forget k = (zBc a).getD j .any := by
 match j with
 | 0 => rfl
 | 1 => rfl
 | j + 2 => rfl
/-- what solve may rely on -/
structure SolveP (r : Go.Ax.Gm.Rules) (l : List Pos) (nx : List (List Nat)) : Prop where
 hv : ValidR r
 ll : l.length ≤ 3000
 S : ∀ i, i < l.length → Sound r (l.getD i z6)
 nl : nx.length = l.length
 rl : ∀ i, i < l.length → (nx.getD i []).length ≤ 1000000
 nk : ∀ i, i < l.length → ∀ k ∈ nx.getD i [], k < l.length
theorem zE2 (n : Nat) : CEq (zA3 n [.int .i64 0, .int .i64 0]) (zBT (List.replicate n (0, 0))) := by
 refine ⟨by show (List.replicate n ((0, 0) : Ent)).length = n; rw [List.length_replicate], J, fun i j hi hj => ?_⟩
 have hj : j < 2 := hj
 have e : (List.replicate n ((0, 0) : Ent)).getD i (0, 0) = (0, 0) := by
  simp only [List.getD, List.getElem?_replicate]; split <;> rfl
 show (zBc ((List.replicate n ((0, 0) : Ent)).getD i (0, 0))).getD j .any = _
 rw [e]
 match j, hj with
 | 0, _ => rfl
 | 1, _ => rfl
theorem zE7 {H : zO} {t : TypeId} {a b : Cells} (h : CEq a b) : zAu (H ++ [some ⟨t, a⟩]) (H ++ [some ⟨t, b⟩]) :=
 zAu.append (zAu.refl H) (zAu.cons (fun o ho => by cases ho; exact ⟨_, rfl, rfl, h⟩) (zAu.refl []))
theorem zDz (r : Go.Ax.Gm.Rules) (l : List Pos) (nx : List (List Nat)) (E : List Ent) {T : zO} (h : ∀ (h : Nat) (o : AObj), T[h]? = some (some o) → zAr (slH r l nx E T).length o.c) : ∀ (h : Nat) (o : AObj), (slH r l nx E T)[h]? = some (some o) → zAr (slH r l nx E T).length o.c :=
 have e : (slH r l nx E T).length = T.length + 4 := rfl
 have q : ∀ n, 4 ≤ n → (Nat.blt 3 n) = true ∧ (Nat.blt 1 n) = true := fun n hn => ⟨Nat.ble_eq_true_of_le hn, Nat.ble_eq_true_of_le (by omega)⟩
 bl_n (zCD (zHH (by show (true && (true && (true && (true && (true && (true && (true && (true && (true && (true && (true && (true && (true && (Nat.blt 3 _ && (true && true))))))))))))))) = true; rw [(q _ (by omega)).1]; rfl)) (zCD (zHH (by show (Nat.blt 1 _ && true) = true; rw [(q _ (by omega)).2]; rfl)) (zCD (zKc E) h)))
theorem zFf (r : Go.Ax.Gm.Rules) (l : List Pos) (nx : List (List Nat)) (E : List Ent) : ∀ (h : Nat) (o : AObj), (slH r l nx E [])[h]? = some (some o) → zAr (slH r l nx E []).length o.c := zDz r l nx E zBs
/-- (*retro.Table).solve -/
theorem solve_ok (r : Go.Ax.Gm.Rules) (l : List Pos) (nx : List (List Nat)) (Q : SolveP r l nx) :
 zb Tryz.prog 79 [.ptr 1 0 0] [none, some ⟨97, .box (tbF r l nx .nil)⟩] (fun h => h < 2) (fun v H => v = .tup [] ∧ ∃ N, zAk l nx (zo l nx (zAD r l) N) = [] ∧ H = slH r l nx (zBb (zo l nx (zAD r l) N)) []) := by
 obtain ⟨hv, hll, hS, hnl, hrl, hnk⟩ := Q
 refine zM (P := Tryz.prog) (fn := Tryz.f79) J J (by kernel_rfl) J (fun c hR hfix => ?_)
 have turnB : ∀ i, zAV l i = 0 ∨ zAV l i = 1 := fun i => by
  rcases Nat.lt_or_ge i l.length with q | q
  ·exact (hS i q).tn
  ·left; unfold zAV; rw [List.getD, List.getElem?_eq_none q]; rfl
 have hfx : ∀ h, c.fix h → h < 2 := fun h q => by rw [hfix] at q; exact q
 refine zW ?_
 repeat (first | refine zC ?_ | refine zB ?_ | refine zK rfl ?_ | refine zAi rfl rfl ?_)
 refine zW ?_
 refine zd (by kernel_rfl) ?_
 apply zQ (H := [none, some ⟨97, .box (tbF r l nx .nil)⟩, some ⟨28, .box [.ptr 1 0 0]⟩, some ⟨37, zBT (List.replicate l.length (0, 0))⟩]) [(1, .ptr 2 0 0), (19, .ptr 1 0 0), (25, .sl 3 0 l.length)]
 ·intro fin
  refine zG (is := [0, 1]) (by kernel_rfl) (by simp) J ⟨fun o ho => ?_, fun o ho => ?_, trivial⟩
  all_goals (cases ho)
  ·refine rn4 ?_
   refine zj (fuel := 4) [1, 2, 3, 4, 5] [(1, .ptr 2 0 0), (19, .ptr 1 0 0)] ⟨J, J, trivial⟩ (by kernel_rfl) (by decide) J J ?_
   refine zJ J J (zU J J J J J) ?_
   refine zJ J J (zZ J) ?_
   refine zJ J J (zL J J J J J J) ?_
   refine zJ J J (zU J J J J J) ?_
   refine zJ J J (zA2 J J J) ?_
   refine zw ?_
   refine zG (is := [6]) (by kernel_rfl) (by simp) J ⟨fun o ho => ?_, trivial⟩
   all_goals (cases ho)
   refine zFk J J J J J J J J (by show (0 : Int) ≤ _ ∧ _ ≤ _ ∧ (16 : Int) * _ ≤ _ ∧ _; omega) ?_
   refine zA0 _ (zE7 (zE2 l.length)) ?_
   refine rn1 ?_
   exact fin _ ⟨J, J, J, trivial⟩
  ·refine rn4 ?_
   refine zV 2 J (by kernel_rfl) (by kernel_rfl) (by kernel_rfl) J (zZ J) J ?_
   refine zV 3 J (by kernel_rfl) (by kernel_rfl) (by kernel_rfl) J (zL J J J J J J) J ?_
   refine zG (is := [0, 4]) (by kernel_rfl) (by simp) J ⟨fun o ho => ?_, fun o ho => ?_, trivial⟩
   all_goals (cases ho)
   ·refine rn4 ?_
    refine zj (fuel := 4) [4, 5] [(1, .ptr 2 0 0), (19, .ptr 1 0 0), (22, .ptr 1 0 11)] ⟨J, J, J, trivial⟩ (by kernel_rfl) (by decide) J J ?_
    refine zJ J J (zU J J J J J) ?_
    refine zJ J J (zA2 J J J) ?_
    refine zw ?_
    refine zG (is := [6]) (by kernel_rfl) (by simp) J ⟨fun o ho => ?_, trivial⟩
    all_goals (cases ho)
    refine zFk J J J J J J J J (by show (0 : Int) ≤ _ ∧ _ ≤ _ ∧ (16 : Int) * _ ≤ _ ∧ _; omega) ?_
    refine zA0 _ (zE7 (zE2 l.length)) ?_
    refine rn1 ?_
    exact fin _ ⟨J, J, J, trivial⟩
   ·refine rn4 ?_
    refine zV 5 J (by kernel_rfl) (by kernel_rfl) (by kernel_rfl) J (zA2 J J J) J ?_
    refine zG (is := [0, 6]) (by kernel_rfl) (by simp) J ⟨fun o ho => ?_, fun o ho => ?_, trivial⟩
    all_goals (cases ho)
    ·refine rn4 ?_
     refine zG (is := [6]) (by kernel_rfl) (by simp) J ⟨fun o ho => ?_, trivial⟩
     all_goals (cases ho)
     refine zFk J J J J J J J J (by show (0 : Int) ≤ _ ∧ _ ≤ _ ∧ (16 : Int) * _ ≤ _ ∧ _; omega) ?_
     refine zA0 _ (zE7 (zE2 l.length)) ?_
     refine rn1 ?_
     exact fin _ ⟨J, J, J, trivial⟩
    ·refine zFk J J J J J J J J (by show (0 : Int) ≤ _ ∧ _ ≤ _ ∧ (16 : Int) * _ ≤ _ ∧ _; omega) ?_
     refine zA0 _ (zE7 (zE2 l.length)) ?_
     refine rn1 ?_
     refine zG (is := [0]) (by kernel_rfl) (by simp) J ⟨fun o ho => ?_, trivial⟩
     all_goals (cases ho)
     refine rn4 ?_
     exact fin _ ⟨J, J, J, trivial⟩
 refine zV 7 J (by kernel_rfl) (by kernel_rfl) (by kernel_rfl) J (zZ J) J ?_
 refine zV 8 J (by kernel_rfl) (by kernel_rfl) (by kernel_rfl) J (zL J J J J J J) J ?_
 refine zG (is := [9]) (by kernel_rfl) (by simp) J ⟨fun o ho => ?_, trivial⟩
 all_goals (cases ho)
 refine rn9 ?_
 refine zY (by kernel_rfl) ?_
 repeat (refine zB ?_)
 refine zAa (slH r l nx (zCe r l 0) []) (by rw [zKK]; show _ = [none, some (AObj.mk _ (.box (tbF r l nx (.sl 3 0 (List.replicate l.length ((0, 0) : Ent)).length)))), _, _]; rw [List.length_replicate]; rfl) ?_
 refine zW ?_
 refine rn15 ?_
 refine zu (ι := Nat) (fun k => [(1, .ptr 2 0 0), (31, .ro (zCm l) 0 l.length), (32, iN l.length), (33, iN k)]) (fun k => slH r l nx (zCe r l k) []) (fun k => k ≤ l.length) (fun k => l.length - k) 0 ⟨⟨J, J, J, J, trivial⟩, J, Nat.zero_le _⟩ ?_
 ·intro k hk
  refine rn4 ?_
  refine zH J (fun h => ?_) (fun h => ?_)
  ·have hk' : k < l.length := by omega
   have hEl := zH2 r hk
   generalize hp : l.getD k z6 = p
   refine zGY ?_
   refine rn4 ?_
   refine zX (poC p) J J J J J (by rw [← hp]; rfl) J ?_
   refine rn0 ?_
   refine zEY (slH r l nx (zCe r l k) []) 3 [(1, .ptr 2 0 0), (31, .ro (zCm l) 0 l.length), (32, iN l.length), (33, iN k), (2, iN k)] J J ⟨J, J, J, J, J, trivial⟩ ⟨J, J, J, J, J, J, trivial⟩ (zFf _ _ _ _) J (fun h q => Nat.lt_of_lt_of_le (hfx h q) (by show 2 ≤ 4; decide)) ?_
   refine zd (by kernel_rfl) ?_
   refine zj (fuel := 3) [0, 1, 2, 3, 4, 5, 6, 7, 8, 9, 10] [(3, .rp (.box (poC p)) 0 0), (1, .ptr 2 0 0), (31, .ro (zCm l) 0 l.length), (32, iN l.length), (33, iN k), (2, iN k)] ⟨J, J, J, J, J, J, trivial⟩ (by kernel_rfl) (by decide) J J ?_
   refine zJ J J (zU J J J J J) ?_
   refine zJ J J (zZ J) ?_
   refine zJ J J (zL J J J J J J) ?_
   refine zJ J J (zU J J J J J) ?_
   refine zJ J J (zF J) ?_
   refine zJ J J (zU J J J J J) ?_
   refine zJ J J (zZ J) ?_
   refine zJ J J (zL J J J J J J) ?_
   refine zJ J J (qpp J J J J J J J) ?_
   refine zJ J J (zAF J J J J J J) ?_
   refine zCF J J J J J (zIs r hv p (by rw [← hp]; exact hS k hk')) ?_
   refine zw ?_
   refine zV 11 J (by kernel_rfl) (by kernel_rfl) (by kernel_rfl) J (zh J J J J J (by first | (simp only [Nat.zero_add, Int.toNat_natCast, Int.toNat_zero]; exact J) | exact J) (by omega)) J ?_
   refine zV 12 J (by kernel_rfl) (by kernel_rfl) (by kernel_rfl) J (zL J J J J J J) J ?_
   refine zG (is := [13]) (by kernel_rfl) (by simp) J ⟨fun o ho => ?_, trivial⟩
   all_goals (cases ho)
   refine zIQ (zAs r p, 0) J J J J J J (by omega) (fun j' hj' => ?_) ?_
   ·rw [zMX r hk']
    match j', hj' with
    | 0, _ => rfl
    | 1, _ => rfl
   refine rn1 ?_
   refine zY (by kernel_rfl) ?_
   refine rn5 ?_
   refine zR ⟨k + 1, by omega, by omega, ⟨J, J, J, J, trivial⟩, ?_⟩
   rw [zKJ r hk', hp]
   show _ = [none, some (AObj.mk _ (.box (tbF r l nx (.sl 3 0 (List.set _ _ _).length)))), _, _]
   rw [List.length_set]; rfl
  ·have hk' : k = l.length := by omega
   subst hk'
   rw [zGx]
   refine rn5 ?_
   have hE0 : (zAD r l).length = l.length := by rw [← zGx]; exact zH2 r (Nat.le_refl _)
   have hopl : ∀ E : List Ent, zBW E ≤ E.length := fun E => List.length_filter_le ..
   refine zu (ι := Nat) (fun n => [(1, .ptr 2 0 0), (4, .int .i64 ((n : Int) + 1))]) (fun n => slH r l nx (zo l nx (zAD r l) n) []) (fun n => n + zBW (zo l nx (zAD r l) n) ≤ l.length) (fun n => zBW (zo l nx (zAD r l) n)) 0 ⟨⟨J, J, trivial⟩, J, by show 0 + zBW (zAD r l) ≤ _; have := hopl (zAD r l); omega⟩ ?_
   intro n hn
   have hEl : (zo l nx (zAD r l) n).length = l.length := zCP hE0 n
   have hst : zo l nx (zAD r l) (n + 1) = zDA l nx (n + 1) (zo l nx (zAD r l) n) := rfl
   have hop : zAk l nx (zo l nx (zAD r l) n) ≠ [] → zBW (zDA l nx (n + 1) (zo l nx (zAD r l) n)) < zBW (zo l nx (zAD r l) n) := fun q => zEN hEl (fun i => turnB i) q
   generalize hEn : zo l nx (zAD r l) n = E at hn hEl hop hst
   refine rn15 ?_
   refine zBm 5 ⟨3, .ints .i64 []⟩ J J ?_
   skip
   refine zu (ι := Nat) (fun k => [(1, .ptr 2 0 0), (4, .int .i64 ((n : Int) + 1)), (57, .ro (zCm l) 0 l.length), (58, iN l.length), (59, iN k), (5, .sl 4 0 (zAw l nx E k).length)]) (fun k => slH r l nx E [zFR (zAw l nx E k)]) (fun k => k ≤ l.length) (fun k => l.length - k) 0 ⟨⟨J, J, J, J, J, J, trivial⟩, J, Nat.zero_le _⟩ ?_
   intro k hk
   refine rn4 ?_
   refine zH J (fun h => ?_) (fun h => ?_)
   ·have hk' : k < l.length := by omega
    have hkE : k < E.length := by omega
    have hfl := zHT l nx E k
    have htn := turnB k
    have hfs := zJr l nx E k
    have hT : zAV l k = (l.getD k z6).turn := rfl
    generalize hp : l.getD k z6 = p at hT
    refine zGY ?_
    refine rn4 ?_
    refine zX (poC p) J J J J J (by rw [← hp]; rfl) J ?_
    refine zAt ?_
    refine zEY (slH r l nx E [zFR (zAw l nx E k)]) 7 [(1, .ptr 2 0 0), (4, .int .i64 ((n : Int) + 1)), (57, .ro (zCm l) 0 l.length), (58, iN l.length), (59, iN k), (5, .sl 4 0 (zAw l nx E k).length), (6, iN k)] J J ⟨J, J, J, J, J, J, J, trivial⟩ ⟨J, J, J, J, J, J, J, J, trivial⟩ (zDz _ _ _ _ (zCD (fun _ _ _ _ => rfl) zBs)) J (fun h q => Nat.lt_of_lt_of_le (hfx h q) (by show 2 ≤ 5; decide)) ?_
    repeat (first | refine zA (zF rfl) ?_ | refine zC ?_ | refine zB ?_ | refine zK rfl ?_ | refine zA (zU rfl rfl rfl rfl rfl) ?_ | refine zA (zBL rfl rfl) ?_ | refine zA (zh rfl rfl rfl rfl rfl (by first | (simp only [Nat.zero_add, Int.toNat_natCast, Int.toNat_zero]; exact rfl) | exact rfl) (by omega)) ?_ | refine zA (zCw rfl rfl rfl rfl rfl (by first | assumption | omega)) ?_ | refine zA (zZ rfl) ?_ | refine zA (zL rfl rfl rfl rfl rfl rfl) ?_)
    refine zH J (fun o1 => ?_) (fun o1 => ?_)
    ·have hno : ¬ zBd l nx E k = true := fun q => o1 (zEA q)
     refine rn5 ?_
     refine zR ⟨k + 1, by omega, by omega, ⟨J, J, J, J, J, ?_, trivial⟩, ?_⟩
     ·rw [hfs, if_neg hno]; rfl
     ·rw [hfs, if_neg hno]
    ·have ho : zCi E k = 0 := Classical.not_not.1 o1
     have hfb : zBd l nx E k = (zIw l nx E k || zHe l nx E k) := by unfold zBd; rw [ho]; rfl
     refine rn1 ?_
     refine zd (by kernel_rfl) ?_
     refine zV 0 J (by kernel_rfl) (by kernel_rfl) (by kernel_rfl) J (zI J J J J J J) J ?_
     refine zV 3 J (by kernel_rfl) (by kernel_rfl) (by kernel_rfl) J (zI J J J J J J) J ?_
     apply zQ (H := slH r l nx E [zFR (zAw l nx E k), some ⟨3, .box [.int .i64 0]⟩]) [(1, .ptr 2 0 0), (4, .int .i64 ((n : Int) + 1)), (57, .ro (zCm l) 0 l.length), (58, iN l.length), (59, iN k), (5, .sl 4 0 (zAw l nx E k).length), (6, iN k), (8, .int .i64 (1 + p.turn)), (78, .int .i64 (2 - p.turn)), (9, .ptr 5 0 0)]
     ·intro fin
      refine zG (is := [1, 4, 6]) (by kernel_rfl) (by simp) J ⟨fun o ho => ?_, fun o ho => ?_, fun o ho => ?_, trivial⟩
      all_goals (cases ho)
      ·repeat (first | refine zC ?_ | refine zT ?_ | refine zA (zD rfl rfl rfl rfl) ?_)
       refine zV 2 J (by kernel_rfl) (by kernel_rfl) (by kernel_rfl) J (zAz J J (by omega)) J ?_
       refine zG (is := [4, 6]) (by kernel_rfl) (by simp) J ⟨fun o ho => ?_, fun o ho => ?_, trivial⟩
       all_goals (cases ho)
       ·repeat (first | refine zC ?_ | refine zT ?_ | refine zA (zD rfl rfl rfl rfl) ?_)
        refine zV 5 J (by kernel_rfl) (by kernel_rfl) (by kernel_rfl) J (zA4 J J (by omega)) J ?_
        refine zG (is := [6]) (by kernel_rfl) (by simp) J ⟨fun o ho => ?_, trivial⟩
        all_goals (cases ho)
        refine rn4 ?_
        refine zV 7 J (by kernel_rfl) (by kernel_rfl) (by kernel_rfl) J (zP J) J ?_
        exact fin _ ⟨J, J, J, J, J, J, J, J, J, J, trivial⟩
       ·refine rn4 ?_
        refine zV 7 J (by kernel_rfl) (by kernel_rfl) (by kernel_rfl) J (zP J) J ?_
        refine zG (is := [4]) (by kernel_rfl) (by simp) J ⟨fun o ho => ?_, trivial⟩
        all_goals (cases ho)
        repeat (first | refine zC ?_ | refine zT ?_ | refine zA (zD rfl rfl rfl rfl) ?_)
        refine zV 5 J (by kernel_rfl) (by kernel_rfl) (by kernel_rfl) J (zA4 J J (by omega)) J ?_
        exact fin _ ⟨J, J, J, J, J, J, J, J, J, J, trivial⟩
      ·repeat (first | refine zC ?_ | refine zT ?_ | refine zA (zD rfl rfl rfl rfl) ?_)
       refine zV 5 J (by kernel_rfl) (by kernel_rfl) (by kernel_rfl) J (zA4 J J (by omega)) J ?_
       refine zG (is := [1, 6]) (by kernel_rfl) (by simp) J ⟨fun o ho => ?_, fun o ho => ?_, trivial⟩
       all_goals (cases ho)
       ·repeat (first | refine zC ?_ | refine zT ?_ | refine zA (zD rfl rfl rfl rfl) ?_)
        refine zV 2 J (by kernel_rfl) (by kernel_rfl) (by kernel_rfl) J (zAz J J (by omega)) J ?_
        refine zG (is := [6]) (by kernel_rfl) (by simp) J ⟨fun o ho => ?_, trivial⟩
        all_goals (cases ho)
        refine rn4 ?_
        refine zV 7 J (by kernel_rfl) (by kernel_rfl) (by kernel_rfl) J (zP J) J ?_
        exact fin _ ⟨J, J, J, J, J, J, J, J, J, J, trivial⟩
       ·refine rn4 ?_
        refine zG (is := [1]) (by kernel_rfl) (by simp) J ⟨fun o ho => ?_, trivial⟩
        all_goals (cases ho)
        repeat (first | refine zC ?_ | refine zT ?_ | refine zA (zD rfl rfl rfl rfl) ?_)
        refine zV 2 J (by kernel_rfl) (by kernel_rfl) (by kernel_rfl) J (zAz J J (by omega)) J ?_
        refine zV 7 J (by kernel_rfl) (by kernel_rfl) (by kernel_rfl) J (zP J) J ?_
        exact fin _ ⟨J, J, J, J, J, J, J, J, J, J, trivial⟩
      ·refine rn4 ?_
       refine zG (is := [1, 4]) (by kernel_rfl) (by simp) J ⟨fun o ho => ?_, fun o ho => ?_, trivial⟩
       all_goals (cases ho)
       ·repeat (first | refine zC ?_ | refine zT ?_ | refine zA (zD rfl rfl rfl rfl) ?_)
        refine zV 2 J (by kernel_rfl) (by kernel_rfl) (by kernel_rfl) J (zAz J J (by omega)) J ?_
        refine zV 7 J (by kernel_rfl) (by kernel_rfl) (by kernel_rfl) J (zP J) J ?_
        refine zG (is := [4]) (by kernel_rfl) (by simp) J ⟨fun o ho => ?_, trivial⟩
        all_goals (cases ho)
        repeat (first | refine zC ?_ | refine zT ?_ | refine zA (zD rfl rfl rfl rfl) ?_)
        refine zV 5 J (by kernel_rfl) (by kernel_rfl) (by kernel_rfl) J (zA4 J J (by omega)) J ?_
        exact fin _ ⟨J, J, J, J, J, J, J, J, J, J, trivial⟩
       ·repeat (first | refine zC ?_ | refine zT ?_ | refine zA (zD rfl rfl rfl rfl) ?_)
        refine zV 5 J (by kernel_rfl) (by kernel_rfl) (by kernel_rfl) J (zA4 J J (by omega)) J ?_
        refine zG (is := [1]) (by kernel_rfl) (by simp) J ⟨fun o ho => ?_, trivial⟩
        all_goals (cases ho)
        repeat (first | refine zC ?_ | refine zT ?_ | refine zA (zD rfl rfl rfl rfl) ?_)
        refine zV 2 J (by kernel_rfl) (by kernel_rfl) (by kernel_rfl) J (zAz J J (by omega)) J ?_
        refine zV 7 J (by kernel_rfl) (by kernel_rfl) (by kernel_rfl) J (zP J) J ?_
        exact fin _ ⟨J, J, J, J, J, J, J, J, J, J, trivial⟩
     refine zG (is := [8]) (by kernel_rfl) (by simp) J ⟨fun o ho => ?_, trivial⟩
     all_goals (cases ho)
     refine rn9 ?_
     refine zY (by kernel_rfl) ?_
     refine zAt ?_
     refine zEY (slH r l nx E [zFR (zAw l nx E k)]) 9 [(1, .ptr 2 0 0), (4, .int .i64 ((n : Int) + 1)), (57, .ro (zCm l) 0 l.length), (58, iN l.length), (59, iN k), (5, .sl 4 0 (zAw l nx E k).length), (6, iN k), (8, .int .i64 (1 + p.turn))] J J ⟨J, J, J, J, J, J, J, J, trivial⟩ ⟨J, J, J, J, J, J, J, J, J, trivial⟩ (zDz _ _ _ _ (zCD (fun _ _ _ _ => rfl) zBs)) J (fun h q => Nat.lt_of_lt_of_le (hfx h q) (by show 2 ≤ 5; decide)) ?_
     refine zBX ?_
     have hkn : k < nx.length := by omega
     have hrow := hrl k hk'
     have hcl : ∀ x ∈ (nx.getD k []).map Int.ofNat, 0 ≤ x ∧ x < (E.length : Int) := fun x hx => by
      obtain ⟨q, hq, rfl⟩ := List.mem_map.1 hx
      have := hnk k hk' q hq
      exact ⟨Int.natCast_nonneg q, by show (q : Int) < _; omega⟩
     have hrl2 : ((nx.getD k []).map Int.ofNat).length ≤ 1000000 := by rw [List.length_map]; exact hrow
     have c1 := zGM (H := slH r l nx E [zFR (zAw l nx E k)]) ((nx.getD k []).map Int.ofNat) (fun x => decide ((E.getD x.toNat (0, 0)).1 = 1 + p.turn)) 109 [.ptr 2 0 0, .rp (.box [.int .i64 (1 + p.turn)]) 0 0] hrl2 (fun x hx => cl1_ok (slH_S r l nx E _) (1 + p.turn) x (hcl x hx))
     have c2 := zGM (H := slH r l nx E [zFR (zAw l nx E k)]) ((nx.getD k []).map Int.ofNat) (fun x => decide ((E.getD x.toNat (0, 0)).1 ≠ 2 - p.turn)) 110 [.ptr 2 0 0, .rp (.box [.int .i64 (2 - p.turn)]) 0 0] hrl2 (fun x hx => cl2_ok (slH_S r l nx E _) (2 - p.turn) x (hcl x hx))
     rw [← hT, zJV] at c1
     rw [← hT] at c2
     rw [← hT]
     refine zd (by kernel_rfl) ?_
     refine zj (fuel := 0) [0, 1, 2, 3, 4, 5, 6, 7, 8, 9, 10, 11] [(9, .rp (.box [.int .i64 (2 - zAV l k)]) 0 0), (1, .ptr 2 0 0), (4, .int .i64 ((n : Int) + 1)), (57, .ro (zCm l) 0 l.length), (58, iN l.length), (59, iN k), (5, .sl 4 0 (zAw l nx E k).length), (6, iN k), (8, .int .i64 (1 + zAV l k)), (10, .fn 108 [.ptr 2 0 0])] ⟨J, J, J, J, J, J, J, J, J, J, trivial⟩ (by kernel_rfl) (by decide) J J ?_
     refine zJ J J (zU J J J J J) ?_
     refine zJ J J (zZ J) ?_
     refine zJ J J (zL J J J J J J) ?_
     refine zJ J J (zU J J J J J) ?_
     refine zJ J J (zF J) ?_
     refine zJ J J (zf J J J J (by first | (simp only [Nat.zero_add, Int.toNat_natCast, Int.toNat_zero]; exact J) | exact J) (by omega)) ?_
     refine zJ J J (zAx J J J J) ?_
     refine zJ J J (zF J) ?_
     refine zJ J J (zF J) ?_
     refine px_c J J J J J (cl0_ok _ (zDz _ _ _ _ (zCD (fun _ _ _ _ => rfl) zBs)) (by show 2 < 5; decide)) ?_
     refine px_c J J J J J c1 ?_
     refine zJ J J (zP J) ?_
     refine zw ?_
     refine zY (by kernel_rfl) ?_
     repeat (first | refine zA (zF rfl) ?_ | refine zB ?_ | refine zW ?_ | refine zK rfl ?_ | refine zA (zAx rfl rfl rfl rfl) ?_ | refine zA (zU rfl rfl rfl rfl rfl) ?_ | refine zA (zf rfl rfl rfl rfl (by first | (simp only [Nat.zero_add, Int.toNat_natCast, Int.toNat_zero]; exact rfl) | exact rfl) (by omega)) ?_ | refine zA (zCa rfl) ?_ | refine zA (zZ rfl) ?_ | refine zA (zL rfl rfl rfl rfl rfl rfl) ?_)
     refine zCs J J J c2 (fun _ h => h) (fun _ h => h) ?_
     rintro r' H' ⟨rfl, rfl⟩
     refine rn5 ?_
     rw [zLg]
     have hml : ((zAw l nx E k).map Int.ofNat).length = (zAw l nx E k).length := List.length_map ..
     cases hw : zIw l nx E k with
     | true =>
      have hyes : zBd l nx E k = true := by rw [hfb, hw]; rfl
      refine rn6 ?_
      refine zAY J J J J J J J J J hml J J (by show 0 + 1 ≤ 1; omega) J (by show ((zAw l nx E k).length + 1) * 8 ≤ _ ∧ _; omega) (fun i j _ _ => rfl) (by rw [hfix]; show ¬ 4 < 2; decide) ?_
      refine zAc (slH r l nx E [zFR (zAw l nx E k ++ [k])]) ?_ ?_
      ·show [none, some (AObj.mk _ ((Cells.box _).forget 4)), some (AObj.mk _ ((Cells.box _).forget 4)), some (AObj.mk _ ((zBT E).forget 4)), _] = _
       rw [zB0 (fun a j => zFt a j 4)]
       show _ = [none, _, _, _, some (AObj.mk _ (Cells.ints .i64 (List.map Int.ofNat (zAw l nx E k ++ [k]))))]
       rw [List.map_append]; rfl
      refine rn5 ?_
      refine zR ⟨k + 1, by omega, by omega, ⟨J, J, J, J, J, ?_, trivial⟩, ?_⟩
      ·rw [hfs, hyes, if_pos rfl, List.length_append]; rfl
      ·rw [hfs, hyes]; rfl
     | false =>
      cases hl : zHe l nx E k with
      | true =>
       have hyes : zBd l nx E k = true := by rw [hfb, hw, hl]; rfl
       refine rn5 ?_
       refine zAY J J J J J J J J J hml J J (by show 0 + 1 ≤ 1; omega) J (by show ((zAw l nx E k).length + 1) * 8 ≤ _ ∧ _; omega) (fun i j _ _ => rfl) (by rw [hfix]; show ¬ 4 < 2; decide) ?_
       refine zAc (slH r l nx E [zFR (zAw l nx E k ++ [k])]) ?_ ?_
       ·show [none, some (AObj.mk _ ((Cells.box _).forget 4)), some (AObj.mk _ ((Cells.box _).forget 4)), some (AObj.mk _ ((zBT E).forget 4)), _] = _
        rw [zB0 (fun a j => zFt a j 4)]
        show _ = [none, _, _, _, some (AObj.mk _ (Cells.ints .i64 (List.map Int.ofNat (zAw l nx E k ++ [k]))))]
        rw [List.map_append]; rfl
       refine rn5 ?_
       refine zR ⟨k + 1, by omega, by omega, ⟨J, J, J, J, J, ?_, trivial⟩, ?_⟩
       ·rw [hfs, hyes, if_pos rfl, List.length_append]; rfl
       ·rw [hfs, hyes]; rfl
      | false =>
       have hno : zBd l nx E k = false := by rw [hfb, hw, hl]; rfl
       refine rn5 ?_
       refine zR ⟨k + 1, by omega, by omega, ⟨J, J, J, J, J, ?_, trivial⟩, ?_⟩
       ·rw [hfs, hno]; rfl
       ·rw [hfs, hno]; rfl
   ·have hk' : k = l.length := by omega
    subst hk'
    have hF : zAw l nx E l.length = zAk l nx E := rfl
    have hfl : (zAk l nx E).length ≤ l.length := zHT l nx E l.length
    have hlt : ∀ j, j < (zAk l nx E).length → (zAk l nx E).getD j 0 < l.length := fun j hj => zLv (l := l) (nx := nx) (E := E) (k := l.length) (zAl 0 hj)
    have hstep := zJQ (l := l) (nx := nx) (E := E) (n := n + 1) hEl
    rw [hF]
    generalize hf : zAk l nx E = f at hfl hlt hop hstep
    refine rn5 ?_
    refine zH J (fun z => ?_) (fun z => ?_)
    ·have z2 : f = [] := List.length_eq_zero_iff.1 (by omega)
     subst z2
     repeat (first | refine zB ?_ | refine zW ?_ | refine zCI ?_ | refine zAf ?_ | refine zAe ?_ | refine zAo ?_ | refine zFO rfl ?_)
     refine zCU (slH r l nx E []) [zFR []] [(1, .ptr 2 0 0)] J ⟨J, trivial⟩ (fun h q => Nat.lt_of_lt_of_le (hfx h q) (by show 2 ≤ 4; decide)) (zFf r l nx E) J ?_
     refine rn15 ?_
     refine zu (ι := Nat) (fun j => [(1, .ptr 2 0 0), (181, iN E.length), (182, iN j)]) (fun j => slH r l nx (zBt E j) []) (fun j => j ≤ E.length) (fun j => E.length - j) 0 ⟨⟨J, J, J, trivial⟩, by rw [zJi], Nat.zero_le _⟩ ?_
     intro j hj
     have hcl := zHM E j
     refine rn4 ?_
     refine zH J (fun q => ?_) (fun q => ?_)
     ·have hj' : j < E.length := by omega
      have hat := zLk hj'
      have hsu := zJh hj'
      have hsl : (zBt E (j + 1)).length = E.length := zHM E (j + 1)
      repeat (first | refine zA (zF rfl) ?_ | refine zA (zP rfl) ?_ | refine zC ?_ | refine zB ?_ | refine zW ?_ | refine zK rfl ?_ | refine zAL ?_ | refine zAH ?_ | refine zA (zU rfl rfl rfl rfl rfl) ?_ | refine zA (zBj rfl rfl) ?_ | refine zA (zh rfl rfl rfl rfl rfl (by first | (simp only [Nat.zero_add, Int.toNat_natCast, Int.toNat_zero]; exact rfl) | exact rfl) (by omega)) ?_ | refine zA (zCw rfl rfl rfl rfl rfl (by first | assumption | omega)) ?_ | refine zA (zZ rfl) ?_ | refine zA (zL rfl rfl rfl rfl rfl rfl) ?_)
      refine zH J (fun o => ?_) (fun o => ?_)
      ·have o : ((zBt E j).getD j (0, 0)).1 = 0 := o
       rw [hat] at o
       rw [if_pos o] at hsu
       repeat (first | refine zA (zF rfl) ?_ | refine zK rfl ?_ | refine zA (zU rfl rfl rfl rfl rfl) ?_ | refine zA (zh rfl rfl rfl rfl rfl (by first | (simp only [Nat.zero_add, Int.toNat_natCast, Int.toNat_zero]; exact rfl) | exact rfl) (by omega)) ?_ | refine zA (zZ rfl) ?_ | refine zA (zL rfl rfl rfl rfl rfl rfl) ?_)
       refine zIQ (3, (E.getD j (0, 0)).2) J J J J J J (by show j < (zBt E j).length; omega) (fun j' hj' => ?_) ?_
       ·rw [hat]
        match j', hj' with
        | 0, _ => rfl
        | 1, _ => rfl
       refine rn5 ?_
       refine zR ⟨j + 1, by omega, by omega, ⟨J, J, J, trivial⟩, ?_⟩
       rw [hsu]
       show _ = [none, some (AObj.mk _ (.box (tbF r l nx (.sl 3 0 (List.set _ _ _).length)))), _, _]
       rw [List.length_set]; rfl
      ·have o : ¬ ((zBt E j).getD j (0, 0)).1 = 0 := o
       rw [hat] at o
       rw [if_neg o] at hsu
       refine rn5 ?_
       refine zR ⟨j + 1, by omega, by omega, ⟨J, J, J, trivial⟩, ?_⟩
       rw [hsu]
     ·have hj' : j = E.length := by omega
      subst hj'
      rw [zJg]
      refine rn5 ?_
      refine ax_end (vs := []) hR J ?_
      exact ⟨J, n, by rw [hEn]; exact hf, by rw [hEn]⟩
    ·have hne : f ≠ [] := fun c => z (by rw [c]; rfl)
     have hop := hop hne
     have hml : (f.map Int.ofNat).length = f.length := List.length_map ..
     refine rn3 ?_
     refine zFk J J J J J J J J (by show (0 : Int) ≤ _ ∧ _ ≤ _ ∧ (8 : Int) * _ ≤ _ ∧ _; omega) ?_
     refine rn3 ?_
     refine zu (ι := Nat) (fun j => [(1, .ptr 2 0 0), (4, .int .i64 ((n : Int) + 1)), (5, .sl 4 0 f.length), (13, .sl 5 0 f.length), (116, .sl 4 0 f.length), (117, iN f.length), (118, iN j)]) (fun j => slH r l nx E [zFR f, resO (zET l nx E f j)]) (fun j => j ≤ f.length) (fun j => f.length - j) 0 ⟨⟨J, J, J, J, J, J, J, trivial⟩, J, Nat.zero_le _⟩ ?_
     intro j hj
     have hrl0 := hrl
     have hrl := resK_len (l := l) (nx := nx) (E := E) hj
     refine rn4 ?_
     refine zH J (fun q => ?_) (fun q => ?_)
     ·have hj' : j < f.length := by omega
      have hjr : j < (zET l nx E f j).length := by omega
      have hil := hlt j hj'
      have hsu := zMK (l := l) (nx := nx) (E := E) hj'
      have hgi : (f.map Int.ofNat).getD j 0 = ((f.getD j 0 : Nat) : Int) := by simp [List.getD, List.getElem?_eq_getElem hj']
      generalize hi : f.getD j 0 = i at hil hsu hgi
      have htn := turnB i
      have hT : zAV l i = (l.getD i z6).turn := rfl
      refine rn20 ?_
      refine zK J ?_
      repeat (first | refine zA (zF rfl) ?_ | refine zA (zP rfl) ?_ | refine zC ?_ | refine zB ?_ | refine zW ?_ | refine zA (zh rfl rfl rfl rfl rfl (by first | (simp only [Nat.zero_add, Int.toNat_natCast, Int.toNat_zero]; exact rfl) | exact rfl) (by omega)) ?_ | refine zA (zAq rfl rfl rfl rfl (by first | assumption | omega)) ?_ | refine zAE rfl rfl rfl rfl rfl rfl rfl Nat.zero_lt_one ?_ | refine zAO rfl rfl rfl ?_)
      rw [hgi]
      refine zEY (slH r l nx E [zFR f, resO (zET l nx E f j)]) 15 [(1, .ptr 2 0 0), (4, .int .i64 ((n : Int) + 1)), (5, .sl 4 0 f.length), (13, .sl 5 0 f.length), (116, .sl 4 0 f.length), (117, iN f.length), (118, iN j), (14, iN j)] J J ⟨J, J, J, J, J, J, J, J, trivial⟩ ⟨J, J, J, J, J, J, J, J, J, trivial⟩ (zDz _ _ _ _ (zCD (fun _ _ _ _ => rfl) (zCD (fun _ _ _ _ => rfl) zBs))) J (fun h q => Nat.lt_of_lt_of_le (hfx h q) (by show 2 ≤ 6; decide)) ?_
      skip
      refine zd (by kernel_rfl) ?_
      refine zj (fuel := 1) [0, 1, 2, 3, 4, 5, 6, 7, 8, 9, 10, 11] [(15, .rp (.box [iN i]) 0 0), (1, .ptr 2 0 0), (4, .int .i64 ((n : Int) + 1)), (5, .sl 4 0 f.length), (13, .sl 5 0 f.length), (116, .sl 4 0 f.length), (117, iN f.length), (118, iN j), (14, iN j)] ⟨J, J, J, J, J, J, J, J, J, trivial⟩ (by kernel_rfl) (by decide) J J ?_
      refine zJ J J (zF J) ?_
      refine zJ J J (zF J) ?_
      refine zJ J J (zU J J J J J) ?_
      refine zJ J J (zZ J) ?_
      refine zJ J J (zL J J J J J J) ?_
      refine zJ J J (zU J J J J J) ?_
      refine zJ J J (zD J J J J) ?_
      refine zJ J J (zf J J J J (by first | (simp only [Nat.zero_add, Int.toNat_natCast, Int.toNat_zero]; exact J) | exact J) (by omega)) ?_
      refine zJ J J (zI J J J J J J) ?_
      refine zJ J J (zAx J J J J) ?_
      refine zJ J J (zA4 J J (by omega)) ?_
      refine zJ J J (zh J J J J J (by first | (simp only [Nat.zero_add, Int.toNat_natCast, Int.toNat_zero]; exact J) | exact J) (by omega)) ?_
      refine zw ?_
      refine zG (is := [12]) (by kernel_rfl) (by simp) J ⟨fun o ho => ?_, trivial⟩
      all_goals (cases ho)
      refine rn7 ?_
      refine zY (by kernel_rfl) ?_
      refine rn0 ?_
      have hrow := hrl0 i hil
      have hcl : ∀ x ∈ (nx.getD i []).map Int.ofNat, 0 ≤ x ∧ x < (E.length : Int) := fun x hx => by
       obtain ⟨q, hq, rfl⟩ := List.mem_map.1 hx
       have := hnk i hil q hq
       exact ⟨Int.natCast_nonneg q, by show (q : Int) < _; omega⟩
      have hrl2 : ((nx.getD i []).map Int.ofNat).length ≤ 1000000 := by rw [List.length_map]; exact hrow
      have c3 := zGM (H := slH r l nx E [zFR f, resO ((zET l nx E f j).set j (2 - (l.getD i z6).turn))]) ((nx.getD i []).map Int.ofNat) (fun x => decide ((E.getD x.toNat (0, 0)).1 = 1 + zAV l i)) 111 [.ptr 2 0 0, .rp (.box [iN i]) 0 0] hrl2 (fun x hx => cl3_ok (slH_S r l nx E _) i hil htn x (hcl x hx))
      rw [zJV] at c3
      refine zd (by kernel_rfl) ?_
      refine zj (fuel := 0) [0, 1, 2, 3, 4, 5, 6, 7, 8] [(15, .rp (.box [iN i]) 0 0), (1, .ptr 2 0 0), (4, .int .i64 ((n : Int) + 1)), (5, .sl 4 0 f.length), (13, .sl 5 0 f.length), (116, .sl 4 0 f.length), (117, iN f.length), (118, iN j), (14, iN j)] ⟨J, J, J, J, J, J, J, J, J, trivial⟩ (by kernel_rfl) (by decide) J J ?_
      refine zJ J J (zU J J J J J) ?_
      refine zJ J J (zZ J) ?_
      refine zJ J J (zL J J J J J J) ?_
      refine zJ J J (zU J J J J J) ?_
      refine zJ J J (zD J J J J) ?_
      refine zJ J J (zf J J J J (by first | (simp only [Nat.zero_add, Int.toNat_natCast, Int.toNat_zero]; exact J) | exact J) (by omega)) ?_
      refine zJ J J (zAx J J J J) ?_
      refine zJ J J (zCa J) ?_
      refine px_c J J J J J c3 ?_
      refine zw ?_
      refine zY (by kernel_rfl) ?_
      cases hw : zIw l nx E i with
      | true =>
       have hres : zCo l nx E i = 1 + (l.getD i z6).turn := by unfold zCo; rw [hw, if_pos rfl]; rfl
       refine rn5 ?_
       refine zd (by kernel_rfl) ?_
       refine zj (fuel := 1) [0, 1, 2, 3, 4, 5, 6, 7, 8, 9, 10, 11] [(15, .rp (.box [iN i]) 0 0), (1, .ptr 2 0 0), (4, .int .i64 ((n : Int) + 1)), (5, .sl 4 0 f.length), (13, .sl 5 0 f.length), (116, .sl 4 0 f.length), (117, iN f.length), (118, iN j), (14, iN j)] ⟨J, J, J, J, J, J, J, J, J, trivial⟩ (by kernel_rfl) (by decide) J J ?_
       refine zJ J J (zF J) ?_
       refine zJ J J (zF J) ?_
       refine zJ J J (zU J J J J J) ?_
       refine zJ J J (zZ J) ?_
       refine zJ J J (zL J J J J J J) ?_
       refine zJ J J (zU J J J J J) ?_
       refine zJ J J (zD J J J J) ?_
       refine zJ J J (zf J J J J (by first | (simp only [Nat.zero_add, Int.toNat_natCast, Int.toNat_zero]; exact J) | exact J) (by omega)) ?_
       refine zJ J J (zI J J J J J J) ?_
       refine zJ J J (zAx J J J J) ?_
       refine zJ J J (zAz J J (by omega)) ?_
       refine zJ J J (zh J J J J J (by first | (simp only [Nat.zero_add, Int.toNat_natCast, Int.toNat_zero]; exact J) | exact J) (by omega)) ?_
       refine zw ?_
       refine zG (is := [12]) (by kernel_rfl) (by simp) J ⟨fun o ho => ?_, trivial⟩
       all_goals (cases ho)
       have hjr2 : j < ((zET l nx E f j).set j (2 - (l.getD i z6).turn)).length := by rw [List.length_set]; exact hjr
       refine rn7 ?_
       refine zY (by kernel_rfl) ?_
       refine rn5 ?_
       refine zR ⟨j + 1, by omega, by omega, ⟨J, J, J, J, J, J, J, trivial⟩, ?_⟩
       rw [hsu, hres]
       show [_, _, _, _, _, some (AObj.mk _ (Cells.ints .i64 (((zET l nx E f j).set j (2 - (l.getD i z6).turn)).set j (1 + (l.getD i z6).turn))))] = _
       rw [List.set_set]
      | false =>
       have hres : zCo l nx E i = 2 - (l.getD i z6).turn := by unfold zCo; rw [hw, if_neg (by decide)]; rfl
       refine rn5 ?_
       refine zR ⟨j + 1, by omega, by omega, ⟨J, J, J, J, J, J, J, trivial⟩, ?_⟩
       rw [hsu, hres]; rfl
     ·have hj' : j = f.length := by omega
      subst hj'
      refine rn5 ?_
      refine zu (ι := Nat) (fun j => [(1, .ptr 2 0 0), (4, .int .i64 ((n : Int) + 1)), (13, .sl 5 0 f.length), (157, .sl 4 0 f.length), (158, iN f.length), (159, iN j)]) (fun j => slH r l nx (zCL (fun i => (zCo l nx E i, ((n + 1 : Nat) : Int))) (f.take j) E) [zFR f, resO (zET l nx E f f.length)]) (fun j => j ≤ f.length) (fun j => f.length - j) 0 ⟨⟨J, J, J, J, J, J, trivial⟩, J, Nat.zero_le _⟩ ?_
      intro j hj
      refine rn4 ?_
      refine zH J (fun q => ?_) (fun q => ?_)
      ·have hj' : j < f.length := by omega
       have hjr : j < (zET l nx E f f.length).length := by omega
       have hil := hlt j hj'
       have hgi : (f.map Int.ofNat).getD j 0 = ((f.getD j 0 : Nat) : Int) := by simp [List.getD, List.getElem?_eq_getElem hj']
       have hrf := zMJ (l := l) (nx := nx) (E := E) hj'
       have hsn := zJP (fun i => (zCo l nx E i, ((n + 1 : Nat) : Int))) (f.take j) (f.getD j 0) E
       rw [← zx _ 0 j hj'] at hsn
       have hsl := zCy (fun i => (zCo l nx E i, ((n + 1 : Nat) : Int))) (f.take j) E
       have hsl2 := zCy (fun i => (zCo l nx E i, ((n + 1 : Nat) : Int))) (f.take (j + 1)) E
       generalize hi : f.getD j 0 = i at hil hgi hrf hsn
       generalize hA : zCL (fun i => (zCo l nx E i, ((n + 1 : Nat) : Int))) (f.take j) E = A at hsl hsn
       generalize hA2 : zCL (fun i => (zCo l nx E i, ((n + 1 : Nat) : Int))) (f.take (j + 1)) E = A2 at hsn hsl2
       refine rn20 ?_
       refine zK J ?_
       repeat (first | refine zA (zF rfl) ?_ | refine zA (zP rfl) ?_ | refine zC ?_ | refine zB ?_ | refine zA (zh rfl rfl rfl rfl rfl (by first | (simp only [Nat.zero_add, Int.toNat_natCast, Int.toNat_zero]; exact rfl) | exact rfl) (by omega)) ?_ | refine zA (zAq rfl rfl rfl rfl (by first | assumption | omega)) ?_)
       rw [hgi]
       skip
       refine zd (by kernel_rfl) ?_
       refine zj (fuel := 1) [0, 1, 2, 3, 4, 5, 6, 7, 8, 9, 10, 11] [(1, .ptr 2 0 0), (4, .int .i64 ((n : Int) + 1)), (13, .sl 5 0 f.length), (157, .sl 4 0 f.length), (158, iN f.length), (159, iN j), (16, iN j), (17, iN i)] ⟨J, J, J, J, J, J, J, J, trivial⟩ (by kernel_rfl) (by decide) J J ?_
       refine zJ J J (zU J J J J J) ?_
       refine zJ J J (zZ J) ?_
       refine zJ J J (zL J J J J J J) ?_
       refine zJ J J (zU J J J J J) ?_
       refine zJ J J (zF J) ?_
       refine zJ J J (zF J) ?_
       refine zJ J J (zF J) ?_
       refine zJ J J (zh J J J J J (by first | (simp only [Nat.zero_add, Int.toNat_natCast, Int.toNat_zero]; exact J) | exact J) (by omega)) ?_
       refine zJ J J (zAq J J J J (by first | assumption | omega)) ?_
       refine zJ J J (zF J) ?_
       refine zJ J J (zDE J J J J J J) ?_
       refine zJ J J (zh J J J J J (by first | (simp only [Nat.zero_add, Int.toNat_natCast, Int.toNat_zero]; exact J) | exact J) (by omega)) ?_
       refine zw ?_
       refine zG (is := [12]) (by kernel_rfl) (by simp) J ⟨fun o ho => ?_, trivial⟩
       all_goals (cases ho)
       refine zKV (zCo l nx E i, ((n + 1 : Nat) : Int)) J J J J J (by show i < A.length; omega) (by decide) (fun j' hj' => ?_) ?_
       ·match j', hj' with
        | 0, _ => show AV.int .i64 (zCo l nx E i) = AV.int .i64 ((zET l nx E f f.length).getD j 0); rw [hrf]
        | 1, _ => rfl
       refine rn1 ?_
       refine zY (by kernel_rfl) ?_
       refine rn5 ?_
       refine zR ⟨j + 1, by omega, by omega, ⟨J, J, J, J, J, J, trivial⟩, ?_⟩
       show _ = slH r l nx (zCL (fun i => (zCo l nx E i, ((n + 1 : Nat) : Int))) (f.take (j + 1)) E) [zFR f, resO (zET l nx E f f.length)]
       rw [hA2, hsn]
       show _ = [none, some (AObj.mk _ (.box (tbF r l nx (.sl 3 0 (List.set _ _ _).length)))), _, _, _, _]
       rw [List.length_set]; rfl
      ·have hj' : j = f.length := by omega
       subst hj'
       rw [List.take_length, hstep, ← hst]
       refine zFH ?_
       refine zCU (slH r l nx (zo l nx (zAD r l) (n + 1)) []) [zFR f, resO (zET l nx E f f.length)] [(1, .ptr 2 0 0), (4, .int .i64 ((n : Int) + 1))] J ⟨J, J, trivial⟩ (fun h q => Nat.lt_of_lt_of_le (hfx h q) (by show 2 ≤ 4; decide)) (zFf r l nx _) J ?_
       refine rn3 ?_
       refine zR ⟨n + 1, by rw [hst]; omega, by rw [hst]; omega, ⟨J, J, trivial⟩, J⟩
abbrev zES (r : Go.Ax.Gm.Rules) (l : List Pos) (nx : List (List Nat)) : zO :=
 [some ⟨95, .mp (zBw l) (zCQ l.length)⟩, some ⟨97, .box (tbC r l.length nx.length .nil)⟩, some ⟨35, zCm l⟩, some ⟨23, zC9 nx⟩]
theorem zE0 (r : Go.Ax.Gm.Rules) (l : List Pos) (nx : List (List Nat)) : ∀ (h : Nat) (o : AObj), (zES r l nx)[h]? = some (some o) → zAr (zES r l nx).length o.c :=
 zCD (zHZ l _) (zCD (zHH rfl) (zCD (zIo l) (zCD (zHw nx) zBs)))
/-- (*retro.Table).add -/
theorem add0_ok (r : Go.Ax.Gm.Rules) (hv : ValidR r) (l : List Pos) (nx : List (List Nat)) (p : Pos) (S : Sound r p) (G : ∀ q ∈ l, Sound r q ∧ q.quiet = 0) (hl : l.length ≤ 3001) :
 zb Tryz.prog 78 [.ptr 1 0 0, poA p] (zES r l nx) (fun h => h < 4 ∧ h ≠ 2) (fun v H => v = iN (zBI l p) ∧ H = zES r (zCT l p) nx) := by
 have hc : zb Tryz.prog 78 [.ptr 1 0 0, poA p] (zES r l nx) (fun h => h < 4 ∧ h ≠ 2) (fun v H => v = iN (zBI l p) ∧ ∃ x, H = zES r (zCT l p) nx ++ [x]) := by
  refine zM (P := Tryz.prog) (fn := Tryz.f78) J J (by kernel_rfl) J (fun c hR hfix => ?_)
  refine rn6 ?_
  refine zS J J J (zE8 hv S) ?_
  refine rn8 ?_
  by_cases hi : zBI l p < l.length
  ·have hadd : zCT l p = l := by unfold zCT; rw [if_pos hi]
   rw [hadd] at hR
   refine zA (zEJ J (.str J) J J J J (zCu l) (zBI l p) (zGQ hi) (zGe hi)) ?_
   refine rn5 ?_
   exact zN hR J ⟨J, _, J⟩
  ·have hadd : zCT l p = l ++ [zB2 p] := by unfold zCT; rw [if_neg hi]
   have hidx : zBI l p = l.length := by have := zI9 l p; omega
   rw [hadd, hidx] at hR
   refine zA (zDk J (.str J) J J J J J J J J (zCu l) (zEk hv S G hi)) ?_
   repeat (first | refine zA (zF rfl) ?_ | refine zA (zP rfl) ?_ | refine zC ?_ | refine zB ?_ | refine zW ?_ | refine zK rfl ?_ | refine zAZ rfl ?_ | refine zA (zU rfl rfl rfl rfl rfl) ?_ | refine zA (zDy rfl) ?_ | refine zA (zAb rfl rfl) ?_ | refine zA (zA2 rfl rfl rfl) ?_ | refine zA (zZ rfl) ?_ | refine zA (zL rfl rfl rfl rfl rfl rfl) ?_ | refine zAE rfl rfl rfl rfl rfl rfl rfl Nat.zero_lt_one ?_)
   refine zEZ J (.str J) J J J J J (zCu l) (zEk hv S G hi) ?_
   refine rn0 ?_
   have hll : (l ++ [zB2 p]).length = l.length + 1 := by rw [List.length_append]; rfl
   refine zAa [some ⟨95, .mp (zBw (l ++ [zB2 p])) (zCQ (l.length + 1))⟩, some ⟨97, .box (tbC r l.length nx.length .nil)⟩, some ⟨35, zCm l⟩, some ⟨23, zC9 nx⟩, some ⟨35, .box (poC (zB2 p))⟩] (by rw [← zIg, ← zIv]; rfl) ?_
   refine zd (by kernel_rfl) ?_
   refine zV 0 J (by kernel_rfl) (by kernel_rfl) (by kernel_rfl) J (zF J) J ?_
   refine zj (fuel := 4) [1, 2, 3, 4, 5, 6] [(33, .ptr 1 0 0), (0, .ptr 1 0 0), (3, .ptr 4 0 0), (6, iN l.length)] ⟨J, J, J, J, trivial⟩ (by kernel_rfl) (by decide) J J ?_
   refine zJ J J (zF J) ?_
   refine zJ J J (zZ J) ?_
   refine zJ J J (zL J J J J J J) ?_
   refine zJ J J (zU J J J J J) ?_
   refine zJ J J (qpp J J J J J J J) ?_
   refine px_b J J J J J J J J J J J J J ?_
   refine zw ?_
   refine zG (is := [7]) (by kernel_rfl) (by simp) J ⟨fun o ho => ?_, trivial⟩
   all_goals (cases ho)
   refine zBZ [zB2 p] J J J J J J J J J J J J J (Nat.le_refl _) (fun k' j hk' hj => ?_) (by show (l.length + 1) * 88 ≤ _ ∧ _; omega) (fun a j k _ => zDb a j k) (by rw [hfix]; exact fun h => h.2 J) ?_
   ·obtain rfl : k' = 0 := Nat.lt_one_iff.1 hk'
    match j, hj with
    | 0, _ => rfl
    | 1, _ => rfl
    | 2, _ => rfl
    | 3, _ => rfl
    | 4, _ => rfl
   refine zAc [some ⟨95, .mp (zBw (l ++ [zB2 p])) (zCQ (l.length + 1))⟩, some ⟨97, .box ((tbC r l.length nx.length .nil).set 11 .any)⟩, some ⟨35, zCm (l ++ [zB2 p])⟩, some ⟨23, zC9 nx⟩, some ⟨35, .box (poC (zB2 p))⟩] ?_ ?_
   ·show [some (AObj.mk _ ((Cells.mp _ _).forget 2)), some (AObj.mk _ ((Cells.box _).forget 2)), some (AObj.mk _ (zCm (l ++ [zB2 p]))), some (AObj.mk _ ((zC9 nx).forget 2)), some (AObj.mk _ ((Cells.box (poC (zB2 p))).forget 2))] = _
    rw [zDa, zB0 (fun a j => zDe a j 2)]; rfl
   refine rn1 ?_
   refine zV 8 J (by kernel_rfl) (by kernel_rfl) (by kernel_rfl) J (zZ J) J ?_
   refine zV 9 J (by kernel_rfl) (by kernel_rfl) (by kernel_rfl) J (zL J J J J J J) J ?_
   refine zG (is := [10]) (by kernel_rfl) (by simp) J ⟨fun o ho => ?_, trivial⟩
   all_goals (cases ho)
   refine rn9 ?_
   refine zY (by kernel_rfl) ?_
   refine rn0 ?_
   exact zN hR J ⟨J, _, by show _ = [_, _, _, _, _]; rw [hll]; rfl⟩
 exact zb.cutR hc (fun v H ⟨e1, x, e2⟩ => ⟨_, [x], e2, fun h q => q.1, zE0 _ _ _, e1 ▸ J, e1, J⟩)
theorem list_len {r : Go.Ax.Gm.Rules} (hv : ValidR r) {p : Pos} (S : Sound r p) : (zBC r p).length ≤ 10000 := by
 have h1 := zGX hv S p.cells.length
 have h2 := (zBF hv S).c
 have h3 : (rawM r p).length ≤ 384 + 112 * p.cells.length := h1
 unfold zBC
 have h4 := zGk ((rawM r p).mergeSort leM)
 rw [List.length_mergeSort] at h4
 omega
theorem zGR {r : Go.Ax.Gm.Rules} (hv : ValidR r) {p : Pos} (S : Sound r p) : (zA1 r p).length ≤ 10000 := by
 unfold zA1
 split
 ·exact Nat.zero_le _
 ·exact list_len hv S
abbrev zCg (T : Tab) : AV := .rp (.box (tbF T.r T.l T.nx (.ro (zBT T.E) 0 T.E.length))) 0 0
def zEo (r : Go.Ax.Gm.Rules) : AV := if zC4 r ≠ 0 then .nilp else match zDw r with
 | some x => zCg (zEz r x)
 | none => .nilp
theorem zGU : ∀ {l : List AV}, (∀ x ∈ l, noRef x = true) → noRef.noRefs l = true
 | [], _ => rfl
 | x :: l, h => by
  show (noRef x && noRef.noRefs l) = true
  rw [h x (List.mem_cons_self ..), zGU (fun y hy => h y (List.mem_cons_of_mem _ hy))]; rfl
theorem zJA (l : List Pos) (n : Nat) : zAB (.mp (zBw l) (zCQ n)) :=
 ⟨zGU (fun x hx => by obtain ⟨p, _, rfl⟩ := List.mem_map.1 hx; rfl), zGU (fun x hx => by obtain ⟨p, _, rfl⟩ := List.mem_map.1 hx; rfl)⟩
theorem zJ9 (l : List Pos) : zAB (zCm l) := zBA (fun a j hj => by
 match j, hj with
 | 0, _ => rfl
 | 1, _ => rfl
 | 2, _ => rfl
 | 3, _ => rfl
 | 4, _ => rfl)
theorem zJO (nx : List (List Nat)) : zAB (zC9 nx) := zBA (fun a j hj => by
 obtain rfl : j = 0 := Nat.lt_one_iff.1 hj
 rfl)
theorem zI8 (E : List Ent) : zAB (zBT E) := zBA (fun a j hj => by
 match j, hj with
 | 0, _ => rfl
 | 1, _ => rfl)
/-- retro.New, refused -/
theorem new_no (r : Go.Ax.Gm.Rules) (hr : Lens r) (h : zAh r ≠ 0) : zl Tryz.prog 48 [ruA r] (.tup [.nilp, .int .i64 (zAh r)]) := by
 refine zb.value0 (zM (P := Tryz.prog) (fn := Tryz.f48) J J (by kernel_rfl) J (fun c hR hfix => ?_)) (fix := fun _ => False) (fun _ h => h) J J
 refine rn6 ?_
 refine zS J J J (begin_no r hr h) ?_
 refine rn4 ?_
 refine zX (poC z6) J J J J J J J ?_
 refine rn3 ?_
 refine zH J (fun q => ?_) (fun q => absurd h q)
 refine rn2 ?_
 exact zN hR J J
/-- retro.New, a limit of quiet moves -/
theorem zL7 (r : Go.Ax.Gm.Rules) (hr : Lens r) (h : zAh r = 0) (hq : r.quiet ≠ 0) : zl Tryz.prog 48 [ruA r] (.tup [.nilp, .int .i64 1]) := by
 refine zb.value0 (zM (P := Tryz.prog) (fn := Tryz.f48) J J (by kernel_rfl) J (fun c hR hfix => ?_)) (fix := fun _ => False) (fun _ h => h) J J
 refine rn6 ?_
 refine zS J J J (zJb r hr h) ?_
 refine rn4 ?_
 refine zX (poC (zA9 r)) J J J J J J J ?_
 refine rn5 ?_
 refine zH J (fun q => ?_) (fun q => absurd hq q)
 refine rn2 ?_
 exact zN hR J J
/-- retro.New -/
theorem new_run (r : Go.Ax.Gm.Rules) (hr : Lens r) (h : zAh r = 0) (hq : r.quiet = 0) : zl Tryz.prog 48 [ruA r] (.tup [zEo r, .int .i64 (zC4 r)]) := by
 have hE : zC4 r = match zDw r with | none => 2 | some _ => 0 := by
  unfold zC4
  rw [if_neg (fun c => c h), if_neg (fun c => c hq)]
  cases zDw r <;> rfl
 have hnone : zDw r = none → zC4 r = 2 ∧ zEo r = .nilp := fun q => by
  have e : zC4 r = 2 := by rw [hE, q]
  exact ⟨e, by unfold zEo; rw [e, if_pos (by decide)]⟩
 have hsome : ∀ x, zDw r = some x → zC4 r = 0 ∧ zEo r = zCg (zEz r x) := fun x q => by
  have e : zC4 r = 0 := by rw [hE, q]
  exact ⟨e, by unfold zEo; rw [e, if_neg (by decide), q]⟩
 have hv := zCO h
 refine zb.value0 (zM (P := Tryz.prog) (fn := Tryz.f48) J J (by kernel_rfl) J (fun c hR hfix => ?_)) (fix := fun _ => False) (fun _ h => h) ?_ ?_
 rotate_left
 ·rfl
 ·show (noRef (zEo r) && true) = true
  rcases hx : zDw r with _ | x
  ·rw [(hnone hx).2]; rfl
  ·rw [(hsome x hx).2]; rfl
 refine zW ?_
 repeat (first | refine zA (zP rfl) ?_ | refine zC ?_ | refine zB ?_ | refine zK rfl ?_ | refine zAi rfl rfl ?_)
 refine zB6 1 [] J ⟨J, trivial⟩ trivial J hfix ?_
 refine rn6 ?_
 refine zS J J J (zJb r hr h) ?_
 refine rn4 ?_
 refine zX (poC (zA9 r)) J J J J J J J ?_
 refine zAt ?_
 refine zB6 4 [(1, .rp (.box (ruC r)) 0 0), (5, .int .i64 0)] J ⟨J, J, J, trivial⟩ ⟨J, J, trivial⟩ J hfix ?_
 refine zBX ?_
 refine zH J (fun q => absurd hq q) (fun q => ?_)
 refine rn6 ?_
 refine zS J J J (copyR_ok r (zKG hv)) ?_
 skip
 refine zKT ?_
 skip
 refine zA (q_buildM J J J J J J) ?_
 repeat (first | refine zA (zP rfl) ?_ | refine zC ?_ | refine zB ?_ | refine zW ?_ | refine zAi rfl rfl ?_)
 refine zAa [some ⟨95, .mp (zBw []) (zCQ 0)⟩, some ⟨97, .box [.str r.name, .int .i64 r.w, .int .i64 r.h, .ro (zAU r.pcs) 0 r.pcs.length, zp r.start, .bool r.falls, .bool r.keeps, .ro (zEg r.ends) 0 r.ends.length, .int .i64 r.blocked, .int .i64 r.quiet, .int .i64 r.rep, .nil, .nil, .nil, .mp 0]⟩] J ?_
 refine zDI 1 ⟨35, zCm []⟩ (.box [.str r.name, .int .i64 r.w, .int .i64 r.h, .ro (zAU r.pcs) 0 r.pcs.length, zp r.start, .bool r.falls, .bool r.keeps, .ro (zEg r.ends) 0 r.ends.length, .int .i64 r.blocked, .int .i64 r.quiet, .int .i64 r.rep, .sl 2 0 0, .nil, .nil, .mp 0]) J J J J (fun i j hi hj => by
  obtain rfl : i = 0 := Nat.lt_one_iff.1 hi
  have hj : j < 15 := hj
  match j, hj with
  | 0, _ => exact .inl rfl
  | 1, _ => exact .inl rfl
  | 2, _ => exact .inl rfl
  | 3, _ => exact .inl rfl
  | 4, _ => exact .inl rfl
  | 5, _ => exact .inl rfl
  | 6, _ => exact .inl rfl
  | 7, _ => exact .inl rfl
  | 8, _ => exact .inl rfl
  | 9, _ => exact .inl rfl
  | 10, _ => exact .inl rfl
  | 11, _ => exact .inr ⟨rfl, rfl⟩
  | 12, _ => exact .inl rfl
  | 13, _ => exact .inl rfl
  | 14, _ => exact .inl rfl) ?_
 refine zDI 1 ⟨23, zC9 []⟩ (.box [.str r.name, .int .i64 r.w, .int .i64 r.h, .ro (zAU r.pcs) 0 r.pcs.length, zp r.start, .bool r.falls, .bool r.keeps, .ro (zEg r.ends) 0 r.ends.length, .int .i64 r.blocked, .int .i64 r.quiet, .int .i64 r.rep, .sl 2 0 0, .sl 3 0 0, .nil, .mp 0]) J J J J (fun i j hi hj => by
  obtain rfl : i = 0 := Nat.lt_one_iff.1 hi
  have hj : j < 15 := hj
  match j, hj with
  | 0, _ => exact .inl rfl
  | 1, _ => exact .inl rfl
  | 2, _ => exact .inl rfl
  | 3, _ => exact .inl rfl
  | 4, _ => exact .inl rfl
  | 5, _ => exact .inl rfl
  | 6, _ => exact .inl rfl
  | 7, _ => exact .inl rfl
  | 8, _ => exact .inl rfl
  | 9, _ => exact .inl rfl
  | 10, _ => exact .inl rfl
  | 11, _ => exact .inl rfl
  | 12, _ => exact .inr ⟨rfl, rfl⟩
  | 13, _ => exact .inl rfl
  | 14, _ => exact .inl rfl) ?_
 refine zAa (zES r [] []) J ?_
 have nofix : ∀ (h n : Nat), c.fix h → h < n := fun h n q => by rw [hfix] at q; exact q.elim
 refine zCU (zES r [] []) [] [(4, .rp (.box (poC (zA9 r))) 0 0), (6, .ptr 1 0 0)] J ⟨J, J, trivial⟩ (fun h q => nofix h _ q) (zE0 _ _ _) J ?_
 refine rn6 ?_
 refine zEX 2 J J J (add0_ok r hv [] [] (zA9 r) (zEb hv) (fun q hq => absurd hq (by simp)) (Nat.zero_le _)) (fun h q1 q2 => ⟨q1, q2⟩) (fun h q => q.1) (by rw [hfix]; exact fun h => h) ?_
 rintro v H ⟨rfl, rfl⟩
 refine ⟨Nat.le_refl _, ?_⟩
 refine rn1 ?_
 refine zu (ι := Nat × List Pos × List (List Nat)) (fun x => [(6, .ptr 1 0 0), (7, iN x.1)]) (fun x => zES r x.2.1 x.2.2) (fun x => Grown r x.1 x.2.1 x.2.2 ∧ Go.Ax.Gm.grow r (3001 - x.1) x.1 x.2.1 x.2.2 = zDw r) (fun x => 3001 - x.1) (0, [zA9 r], []) ⟨⟨J, J, trivial⟩, J, zGp hv, J⟩ ?_
 rintro ⟨i, l, nx⟩ ⟨G, hg⟩
 have G : Grown r i l nx := G
 have hg : Go.Ax.Gm.grow r (3001 - i) i l nx = zDw r := hg
 change Ax _ _ _ _ [(6, .ptr 1 0 0), (7, iN i)] (zES r l nx)
 have hmost := G.most
 have hle := G.le
 repeat (first | refine zA (zF rfl) ?_ | refine zC ?_ | refine zB ?_ | refine zW ?_ | refine zK rfl ?_ | refine zA (zU rfl rfl rfl rfl rfl) ?_ | refine zA (zBy rfl rfl) ?_ | refine zA (zA2 rfl rfl rfl) ?_ | refine zA (zZ rfl) ?_ | refine zA (zL rfl rfl rfl rfl rfl rfl) ?_)
 refine zH J (fun q => ?_) (fun q => ?_)
 ·have hi : i < l.length := by omega
  have S := (G.snd (l.getD i z6) (by
   rw [show l.getD i z6 = l[i] by simp [List.getD, hi]]
   exact List.getElem_mem hi)).1
  have hml := zGR hv S
  refine rn20 ?_
  refine zK J ?_
  refine zAt ?_
  refine zBm 8 ⟨3, .ints .i64 []⟩ J J ?_
  refine zAa (zH4 r l nx []) J ?_
  skip
  refine zd (by kernel_rfl) ?_
  refine zj (fuel := 0) [0, 1, 2, 3, 4, 5, 6, 7, 8, 9, 10, 11, 12, 13] [(6, .ptr 1 0 0), (7, iN i), (8, .sl 4 0 0)] ⟨J, J, J, trivial⟩ (by kernel_rfl) (by decide) J J ?_
  refine zJ J J (zF J) ?_
  refine zJ J J (zZ J) ?_
  refine zJ J J (zL J J J J J J) ?_
  refine zJ J J (qpp J J J J J J J) ?_
  refine zJ J J (zF J) ?_
  refine zJ J J (zZ J) ?_
  refine zJ J J (zL J J J J J J) ?_
  refine zJ J J (zU J J J J J) ?_
  refine zJ J J (zF J) ?_
  refine zJ J J (zh J J J J J (by first | (simp only [Nat.zero_add, Int.toNat_natCast, Int.toNat_zero]; exact J) | exact J) (by omega)) ?_
  refine zJ J J (qpp J J J J J J J) ?_
  refine zCF J J J J J (zGm r hv (l.getD i z6) S) ?_
  refine zJ J J (zA2 J J J) ?_
  refine zJ J J (zF J) ?_
  refine zw ?_
  refine zY (by kernel_rfl) ?_
  refine rn1 ?_
  have hok : ∀ m ∈ zA1 r (l.getD i z6), MvOK r (l.getD i z6) m ∧ Sound r (zBh r (l.getD i z6) m) := fun m hm => ⟨zHi hv S hm, zHf hv S (zHi hv S hm)⟩
  have hstep := fun l' ix (h : zB5 r (l.getD i z6) (zA1 r (l.getD i z6)) l [] = some (l', ix)) => zHU G hi (fun m hm => (hok m hm).2) h
  have hgN : zB5 r (l.getD i z6) (zA1 r (l.getD i z6)) l [] = none → ∀ f, Go.Ax.Gm.grow r (f + 1) i l nx = none := fun a f => by rw [Go.Ax.Gm.grow, if_pos hi, a]
  have hgS : ∀ x, zB5 r (l.getD i z6) (zA1 r (l.getD i z6)) l [] = some x → ∀ f, Go.Ax.Gm.grow r (f + 1) i l nx = Go.Ax.Gm.grow r f (i + 1) x.1 (nx ++ [x.2]) := fun x a f => by rw [Go.Ax.Gm.grow, if_pos hi, a]
  generalize hms : zA1 r (l.getD i z6) = ms at hok hstep hgN hgS hml
  refine zu (ι := Nat × List Pos × List Nat) (fun x => [(6, .ptr 1 0 0), (7, iN i), (8, .sl 4 0 x.2.2.length), (50, zC3 ms), (51, iN ms.length), (52, iN x.1)]) (fun x => zH4 r x.2.1 nx (x.2.2.map Int.ofNat)) (fun x => x.1 ≤ ms.length ∧ zB5 r (l.getD i z6) (ms.drop x.1) x.2.1 x.2.2 = zB5 r (l.getD i z6) ms l [] ∧ l <+: x.2.1 ∧ (∀ q ∈ x.2.1, Sound r q ∧ q.quiet = 0) ∧ x.2.1.length ≤ 3000 ∧ x.2.2.length = x.1) (fun x => ms.length - x.1) (0, l, []) ⟨⟨J, J, J, J, J, J, trivial⟩, J, Nat.zero_le _, J, List.prefix_refl _, G.snd, hmost, J⟩ ?_
  rintro ⟨k, l', ix⟩ ⟨hk, ha, hpre, hsnd, hl3, hix⟩
  have hk : k ≤ ms.length := hk
  have ha : zB5 r (l.getD i z6) (ms.drop k) l' ix = zB5 r (l.getD i z6) ms l [] := ha
  have hpre : l <+: l' := hpre
  have hsnd : ∀ q ∈ l', Sound r q ∧ q.quiet = 0 := hsnd
  have hl3 : l'.length ≤ 3000 := hl3
  have hix : ix.length = k := hix
  change Ax _ _ _ _ [(6, .ptr 1 0 0), (7, iN i), (8, .sl 4 0 ix.length), (50, zC3 ms), (51, iN ms.length), (52, iN k)] (zH4 r l' nx (ix.map Int.ofNat))
  have hli : (ix.map Int.ofNat).length = ix.length := List.length_map ..
  refine rn4 ?_
  refine zH J (fun q2 => ?_) (fun q2 => ?_)
  ·have hk' : k < ms.length := by omega
   have hd : ms.drop k = ms.getD k mv0 :: ms.drop (k + 1) := by rw [List.drop_eq_getElem_cons hk', zEB mv0 hk']
   have hm := hok (ms.getD k mv0) (zAl mv0 hk')
   rw [hd, zB5] at ha
   have hpi : l'.getD i z6 = l.getD i z6 := zEr hpre hi
   have hi' : i < l'.length := Nat.lt_of_lt_of_le hi hpre.length_le
   rw [← hpi] at hm S
   generalize hmk : ms.getD k mv0 = m at ha hm
   refine zGY ?_
   repeat (refine zAO rfl rfl rfl ?_)
   refine zX (mvC m) J J J J J (by rw [← hmk]; rfl) J ?_
   refine rn0 ?_
   refine zEY (zH4 r l' nx (ix.map Int.ofNat)) 10 [(6, .ptr 1 0 0), (7, iN i), (8, .sl 4 0 ix.length), (50, zC3 ms), (51, iN ms.length), (52, iN k)] J J ⟨J, J, J, J, J, J, trivial⟩ ⟨J, J, J, J, J, J, J, trivial⟩ (zH5 _ _ _ _) J (fun h q => nofix h _ q) ?_
   refine zd (by kernel_rfl) ?_
   refine zV 0 J (by kernel_rfl) (by kernel_rfl) (by kernel_rfl) J (zF J) J ?_
   refine zj (fuel := 4) [1, 2, 3, 4, 5, 6, 7, 8, 9, 10, 11, 12, 13, 14] [(56, .sl 4 0 ix.length), (10, .rp (.box (mvC m)) 0 0), (6, .ptr 1 0 0), (7, iN i), (8, .sl 4 0 ix.length), (50, zC3 ms), (51, iN ms.length), (52, iN k)] ⟨J, J, J, J, J, J, J, J, trivial⟩ (by kernel_rfl) (by decide) J J ?_
   refine zJ J J (zF J) ?_
   refine zJ J J (zF J) ?_
   refine zJ J J (zZ J) ?_
   refine zJ J J (zL J J J J J J) ?_
   refine zJ J J (qpp J J J J J J J) ?_
   refine zJ J J (zF J) ?_
   refine zJ J J (zZ J) ?_
   refine zJ J J (zL J J J J J J) ?_
   refine zJ J J (zU J J J J J) ?_
   refine zJ J J (zF J) ?_
   refine zJ J J (zh J J J J J (by first | (simp only [Nat.zero_add, Int.toNat_natCast, Int.toNat_zero]; exact J) | exact J) (by omega)) ?_
   refine zJ J J (qpp J J J J J J J) ?_
   refine zJ J J (zAF J J J J J J) ?_
   refine zCF J J J J J (make_ok r hv (l'.getD i z6) S m hm.1) ?_
   refine zw ?_
   refine zG (is := [15]) (by kernel_rfl) (by simp) J ⟨fun o ho => ?_, trivial⟩
   all_goals (cases ho)
   refine zEX 2 J J J (add_ok r hv l' nx (ix.map Int.ofNat) (zBh r (l'.getD i z6) m) hm.2 hsnd (by omega)) (fun h q1 q2 => ⟨q1, q2⟩) (fun h q => q.1) (by rw [hfix]; exact fun h => h) ?_
   rintro v H ⟨rfl, rfl⟩
   refine ⟨Nat.le_refl _, ?_⟩
   rw [hpi]
   generalize hP : zBh r (l.getD i z6) m = P at ha hm
   have hadd := zLA l' P
   refine rn1 ?_
   refine zG (is := [16]) (by kernel_rfl) (by simp) J ⟨fun o ho => ?_, trivial⟩
   all_goals (cases ho)
   refine rn3 ?_
   refine zG (is := [17]) (by kernel_rfl) (by simp) J ⟨fun o ho => ?_, trivial⟩
   all_goals (cases ho)
   refine zAY J J J J J J J J J hli J J (by show 0 + 1 ≤ 1; omega) J (by show (ix.length + 1) * 8 ≤ _ ∧ _; omega) (fun i j _ _ => rfl) (by rw [hfix]; exact fun h => h) ?_
   refine zAc (zH4 r (zCT l' P) nx ((ix ++ [zBI l' P]).map Int.ofNat)) ?_ ?_
   ·show [some (AObj.mk _ ((Cells.mp _ _).forget 4)), some (AObj.mk _ ((Cells.box _).forget 4)), some (AObj.mk _ ((zCm _).forget 4)), some (AObj.mk _ ((zC9 nx).forget 4)), _] = _
    rw [zDa, zB0 (fun a j => zDb a j 4), zB0 (fun a j => zDe a j 4)]
    show _ = [_, _, _, _, some (AObj.mk _ (Cells.ints .i64 ((ix ++ [zBI l' P]).map Int.ofNat)))]
    rw [List.map_append]; rfl
   refine rn1 ?_
   refine zG (is := [18]) (by kernel_rfl) (by simp) J ⟨fun o ho => ?_, trivial⟩
   all_goals (cases ho)
   refine rn1 ?_
   refine zY (by kernel_rfl) ?_
   refine rn15 ?_
   refine zH J (fun g => ?_) (fun g => ?_)
   ·rw [if_pos (by omega)] at ha
    have hN : zDw r = none := by
     rw [← hg, show 3001 - i = (3000 - i) + 1 by omega]
     exact hgN ha.symm _
    refine rn6 ?_
    refine zN hR J ?_
    show _ = AV.tup [zEo r, .int .i64 (zC4 r)]
    rw [(hnone hN).1, (hnone hN).2]; rfl
   ·rw [if_neg (by omega)] at ha
    have hmP : Sound r P := by rw [← hP, ← hpi]; exact hm.2
    refine rn5 ?_
    refine zR ⟨(k + 1, zCT l' P, ix ++ [zBI l' P]), ⟨by show k + 1 ≤ ms.length; omega, ha, hpre.trans (zLB l' P), zIN hmP hsnd, by show (zCT l' P).length ≤ 3000; omega, by show (ix ++ [zBI l' P]).length = k + 1; rw [List.length_append, hix]; rfl⟩, by show ms.length - (k + 1) < ms.length - k; omega, ⟨J, J, ?_, J, J, J, trivial⟩, J⟩
    show some (AV.sl 4 0 (ix.length + 1)) = some (AV.sl 4 0 (ix ++ [zBI l' P]).length)
    rw [List.length_append]; rfl
  ·have hk' : k = ms.length := by omega
   subst hk'
   rw [List.drop_length, zB5] at ha
   have ha := ha.symm
   refine zAt ?_
   refine zD5 4 8 ix.length [(6, .ptr 1 0 0), (7, iN i)] J zAI J (by show ix.length ≤ (ix.map Int.ofNat).length; rw [hli]; exact Nat.le_refl _) ⟨J, J, trivial⟩ ?_
   have hnl : (nx ++ [ix]).length = nx.length + 1 := by rw [List.length_append]; rfl
   have hnx : nx.length ≤ 3000 := by have := G.len; omega
   refine zK J ?_
   repeat (first | refine zA (zF rfl) ?_ | refine zA (zU rfl rfl rfl rfl rfl) ?_ | refine zA (zZ rfl) ?_ | refine zA (zL rfl rfl rfl rfl rfl rfl) ?_ | refine z7 rfl rfl rfl rfl rfl rfl rfl rfl rfl rfl rfl ?_)
   refine zBZ [ix] J J J J J J J J J J J J J (by show 0 + 1 ≤ 1; omega) (fun k' j hk' hj => ?_) (by show (nx.length + 1) * 24 ≤ _ ∧ _; omega) (fun a j k _ => zDe a j k) (by rw [hfix]; exact fun h => h) ?_
   ·obtain rfl : k' = 0 := Nat.lt_one_iff.1 hk'
    obtain rfl : j = 0 := Nat.lt_one_iff.1 hj
    show AV.ro (Cells.ints .i64 (List.map Int.ofNat ix)) 0 ix.length = AV.ro (Cells.ints .i64 (List.map Int.ofNat ix)) 0 (List.map Int.ofNat ix).length
    rw [hli]
   refine zAc [some ⟨95, .mp (zBw l') (zCQ l'.length)⟩, some ⟨97, .box ((tbC r l'.length nx.length .nil).set 12 .any)⟩, some ⟨35, zCm l'⟩, some ⟨23, zC9 (nx ++ [ix])⟩, none] ?_ ?_
   ·show [some (AObj.mk _ ((Cells.mp _ _).forget 3)), some (AObj.mk _ ((Cells.box _).forget 3)), some (AObj.mk _ ((zCm _).forget 3)), some (AObj.mk _ (zC9 (nx ++ [ix]))), none] = _
    rw [zDa, zB0 (fun a j => zDb a j 3)]; rfl
   repeat (first | refine zC ?_ | refine zAG ?_ | refine zA (zZ rfl) ?_ | refine zA (zL rfl rfl rfl rfl rfl rfl) ?_ | refine zAE rfl rfl rfl rfl rfl rfl rfl Nat.zero_lt_one ?_)
   refine zB ?_
   refine zAa (zES r l' (nx ++ [ix]) ++ [none]) (by show _ = [_, some (AObj.mk _ (.box (tbC r l'.length (nx ++ [ix]).length .nil))), _, _, _]; rw [hnl]; rfl) ?_
   refine zCU (zES r l' (nx ++ [ix])) [none] [(6, .ptr 1 0 0), (7, iN i)] J ⟨J, J, trivial⟩ (fun h q => nofix h _ q) (zE0 _ _ _) J ?_
   refine rn3 ?_
   refine zR ⟨(i + 1, l', nx ++ [ix]), ⟨hstep l' ix ha, ?_⟩, by show 3001 - (i + 1) < 3001 - i; omega, ⟨J, J, trivial⟩, J⟩
   show Go.Ax.Gm.grow r (3001 - (i + 1)) (i + 1) l' (nx ++ [ix]) = zDw r
   rw [← hg, show 3001 - i = (3001 - (i + 1)) + 1 by omega]
   exact (hgS (l', ix) ha _).symm
 ·have hi : i = l.length := by omega
  subst hi
  have hN : zDw r = some (l, nx) := by
   rw [← hg]
   cases 3001 - l.length with
   | zero => rfl
   | succ f => rw [Go.Ax.Gm.grow, if_neg (Nat.lt_irrefl _)]
  refine zAt ?_
  refine zAv [some ⟨95, .mp (zBw l) (zCQ l.length)⟩, none, some ⟨35, zCm l⟩, some ⟨23, zC9 nx⟩] [none, some ⟨97, .box (tbF r l nx .nil)⟩, none, none] [(6, .ptr 1 0 0)] ?_ (zCA (zJA l _) (zCB (zCA (zJ9 l) (zCA (zJO nx) zCc)))) J ?_ ⟨⟨.ptr 1 0 0, J, .inl J⟩, trivial⟩ ?_
  ·intro h o ho
   match h, ho with
   | 0, ho => exact ho
   | 1, ho => simp at ho
   | 2, ho => exact ho
   | 3, ho => exact ho
   | _ + 4, ho => simp at ho
  ·intro h o ho
   match h, ho with
   | 0, ho => simp at ho
   | 1, ho =>
    cases ho
    refine ⟨fun o h => by simp at h, _, J, J, J, J, fun i j hi hj => ?_⟩
    obtain rfl : i = 0 := Nat.lt_one_iff.1 hi
    have hj : j < 15 := hj
    match j, hj with
    | 0, _ => exact .inl rfl
    | 1, _ => exact .inl rfl
    | 2, _ => exact .inl rfl
    | 3, _ => exact .inl rfl
    | 4, _ => exact .inl rfl
    | 5, _ => exact .inl rfl
    | 6, _ => exact .inl rfl
    | 7, _ => exact .inl rfl
    | 8, _ => exact .inl rfl
    | 9, _ => exact .inl rfl
    | 10, _ => exact .inl rfl
    | 11, _ => exact .inr (.inr ⟨rfl, fun o ho => by cases ho; show 0 + l.length ≤ l.length; omega⟩)
    | 12, _ => exact .inr (.inr ⟨rfl, fun o ho => by cases ho; show 0 + nx.length ≤ nx.length; omega⟩)
    | 13, _ => exact .inl rfl
    | 14, _ => exact .inr (.inr ⟨rfl, trivial⟩)
   | 2, ho => simp at ho
   | 3, ho => simp at ho
   | _ + 4, ho => simp at ho
  refine zCU [none, some ⟨97, .box (tbF r l nx .nil)⟩] [none, none] [(6, .ptr 1 0 0)] J ⟨J, trivial⟩ (fun h q => nofix h _ q) (bl_n (zCD (zHH J) zBs)) J ?_
  have hmem : ∀ i, i < l.length → Sound r (l.getD i z6) := fun i hi => by
   rw [show l.getD i z6 = l[i] by simp [List.getD, hi]]
   exact (G.snd _ (List.getElem_mem hi)).1
  have hP : SolveP r l nx := ⟨hv, hmost, hmem, G.len, fun i hi => by
   have h1 := G.nxl i hi
   have h2 := zGR hv (hmem i hi)
   omega, fun i hi k hk => by
   obtain ⟨j, hj, rfl⟩ := List.mem_iff_getElem.1 hk
   have h1 := G.nxl i hi
   have := (G.nxt i hi j (by omega)).1
   rwa [Go.Ax.Gm.get_at (nx.getD i []) hj] at this⟩
  refine rn0 ?_
  refine zCs J J J (solve_ok r l nx hP) (fun h q => q) (fun h q => q) ?_
  rintro v H ⟨rfl, N, hN2, rfl⟩
  have hE2 : zBb (zo l nx (zAD r l) N) = (zEz r (l, nx)).E := new_ent (x := (l, nx)) G hN2
  rw [hE2]
  generalize hEE : (zEz r (l, nx)).E = E
  refine zAt ?_
  refine zAv [none, none, none, some ⟨37, zBT E⟩] [none, some ⟨97, .box (tbF r l nx (.ro (zBT E) 0 E.length))⟩, none, none] [(6, .ptr 1 0 0)] ?_ (zCB (zCB (zCB (zCA (zI8 E) zCc)))) J ?_ ⟨⟨.ptr 1 0 0, J, .inl J⟩, trivial⟩ ?_
  ·intro h o ho
   match h, ho with
   | 0, ho => simp at ho
   | 1, ho => simp at ho
   | 2, ho => simp at ho
   | 3, ho => exact ho
   | _ + 4, ho => simp at ho
  ·intro h o ho
   match h, ho with
   | 0, ho => simp at ho
   | 1, ho =>
    cases ho
    refine ⟨fun o h => by simp at h, _, J, J, J, J, fun i j hi hj => ?_⟩
    obtain rfl : i = 0 := Nat.lt_one_iff.1 hi
    have hj : j < 15 := hj
    match j, hj with
    | 0, _ => exact .inl rfl
    | 1, _ => exact .inl rfl
    | 2, _ => exact .inl rfl
    | 3, _ => exact .inl rfl
    | 4, _ => exact .inl rfl
    | 5, _ => exact .inl rfl
    | 6, _ => exact .inl rfl
    | 7, _ => exact .inl rfl
    | 8, _ => exact .inl rfl
    | 9, _ => exact .inl rfl
    | 10, _ => exact .inl rfl
    | 11, _ => exact .inl rfl
    | 12, _ => exact .inl rfl
    | 13, _ => exact .inr (.inr ⟨rfl, fun o ho => by cases ho; show 0 + E.length ≤ E.length; omega⟩)
    | 14, _ => exact .inl rfl
   | 2, ho => simp at ho
   | 3, ho => simp at ho
   | _ + 4, ho => simp at ho
  refine zCU [none, some ⟨97, .box (tbF r l nx (.ro (zBT E) 0 E.length))⟩] [none, none] [(6, .ptr 1 0 0)] J ⟨J, trivial⟩ (fun h q => nofix h _ q) (bl_n (zCD (zHH J) zBs)) J ?_
  refine zEY [none] 6 [] J J trivial ⟨J, trivial⟩ (bl_n zBs) J (fun h q => nofix h _ q) ?_
  refine rn0 ?_
  refine zN hR J ?_
  show _ = AV.tup [zEo r, .int .i64 (zC4 r)]
  rw [(hsome _ hN).1, (hsome _ hN).2]
  show _ = AV.tup [.rp (.box (tbF r l nx (.ro (zBT (zEz r (l, nx)).E) 0 (zEz r (l, nx)).E.length))) 0 0, .int .i64 0]
  rw [hEE]; rfl
/-- retro.New -/
theorem zJF (r : Go.Ax.Gm.Rules) (hr : Lens r) : zl Tryz.prog 48 [ruA r] (.tup [zEo r, .int .i64 (zC4 r)]) := by
 by_cases h : zAh r = 0
 ·by_cases hq : r.quiet = 0
  ·exact new_run r hr h hq
  ·have e : zC4 r = 1 := by unfold zC4; rw [if_neg (fun c => c h), if_pos hq]
   have e2 : zEo r = .nilp := by unfold zEo; rw [e, if_pos (by decide)]
   rw [e, e2]; exact zL7 r hr h hq
 ·have e : zC4 r = zAh r := by unfold zC4; rw [if_pos h]
  have e2 : zEo r = .nilp := by unfold zEo; rw [e, if_pos h]
  rw [e, e2]; exact new_no r hr h
/-- the zero position has empty rows -/
theorem zIP {P : Program} {fn : Func} {c : Ctx} {fr : Fr} {H : zO} {k : List It} {x : Code} {ty : TypeId} (h : Nat) (hh : H[h]? = some (some ⟨ty, .box poZ⟩)) (hk : Ax P fn c (.code x k) fr (H.set h (some ⟨ty, .box (poC z6)⟩))) : Ax P fn c (.code x k) fr H := by
 have hlt : h < H.length := (List.getElem?_eq_some_iff.1 hh).1
 refine zJZ (H.set h (some ⟨ty, .box (poC z6)⟩)) (List.length_set ..) (fun h' o ho => ?_) hk
 by_cases e : h' = h
 ·subst e
  rw [List.getElem?_set_self hlt] at ho
  cases ho
  refine ⟨_, hh, J, J, J, fun i j hi hj => ?_⟩
  obtain rfl : i = 0 := Nat.lt_one_iff.1 hi
  have hj : j < 5 := hj
  match j, hj with
  | 0, _ => exact AEq.nil
  | 1, _ => exact AEq.nil
  | 2, _ => exact AEq.nil
  | 3, _ => exact AEq.rfl'
  | 4, _ => exact AEq.rfl'
 ·rw [List.getElem?_set_ne (Ne.symm e)] at ho
  exact ⟨o, ho, J, J, J, fun _ _ _ _ => AEq.rfl'⟩
/-- (*retro.Table).Size -/
theorem zG7 (T : Tab) : zl Tryz.prog 18 [zCg T] (iN T.l.length) := by
 refine zb.value0 (zM (P := Tryz.prog) (fn := Tryz.f18) J J (by kernel_rfl) J (fun c hR hfix => ?_)) (fix := fun _ => False) (fun _ h => h) J J
 repeat (first | refine zA (zF rfl) ?_ | refine zA (zP rfl) ?_ | refine zC ?_ | refine zB ?_ | refine zW ?_ | refine zK rfl ?_ | refine zz ?_ | refine zA (zA2 rfl rfl rfl) ?_ | refine zA (zD rfl rfl rfl rfl) ?_ | refine zA (z8 rfl) ?_ | refine zA (zI rfl rfl rfl rfl rfl rfl) ?_)
 exact zN hR J J
def atE (T : Tab) (i : Int) : Int := if i < 0 ∨ (T.l.length : Int) ≤ i then 4 else 0
def atP (T : Tab) (i : Int) : Pos := if atE T i ≠ 0 then z6 else T.l.getD i.toNat z6
def atX (T : Tab) (i : Int) : Ent := if atE T i ≠ 0 then (0, 0) else zAT T i.toNat
theorem zGW {T : Tab} (h : TabOK T) {i : Nat} (hi : i < T.l.length) : SmallP (T.l.getD i z6) := zBF h.v (h.sound hi).1
/-- (*retro.Table).At -/
theorem at_ok (T : Tab) (h : TabOK T) (i : Int) : zl Tryz.prog 17 [zCg T, .int .i64 i] (.tup [poA (atP T i), entA (atX T i), .int .i64 (atE T i)]) := by
 refine zb.value0 (zM (P := Tryz.prog) (fn := Tryz.f17) J J (by kernel_rfl) J (fun c hR hfix => ?_)) (fix := fun _ => False) (fun _ h => h) J J
 have hEl := h.len
 have hmost := h.G.most
 by_cases hi : i < 0 ∨ (T.l.length : Int) ≤ i
 ·have e : atE T i = 4 := by unfold atE; rw [if_pos hi]
  have e1 : atP T i = z6 := by unfold atP; rw [e, if_pos (by decide)]
  have e2 : atX T i = (0, 0) := by unfold atX; rw [e, if_pos (by decide)]
  rw [e, e1, e2] at hR
  refine rn4 ?_
  refine zg J J (fun g => ?_) (fun g => ?_)
  ·refine rn18 ?_
   refine zX poZ J J J J J J J ?_
   skip
   refine zX (zBc (0, 0)) J J J J J J J ?_
   refine rn7 ?_
   refine zIP 0 J ?_
   refine rn2 ?_
   exact zN hR J J
  ·repeat (first | refine zA (zF rfl) ?_ | refine zC ?_ | refine zB ?_ | refine zm rfl rfl ?_ | refine zA (zDc rfl rfl) ?_ | refine zA (ze rfl rfl) ?_ | refine zA (zA2 rfl rfl rfl) ?_ | refine zA (zD rfl rfl rfl rfl) ?_ | refine zA (z8 rfl) ?_ | refine zA (zI rfl rfl rfl rfl rfl rfl) ?_)
   refine zH J (fun q => ?_) (fun q => absurd q (by omega))
   refine rn8 ?_
   refine zX poZ J J J J J J J ?_
   skip
   refine zX (zBc (0, 0)) J J J J J J J ?_
   refine rn7 ?_
   refine zIP 0 J ?_
   refine rn2 ?_
   exact zN hR J J
 ·have e : atE T i = 0 := by unfold atE; rw [if_neg hi]
  have e1 : atP T i = T.l.getD i.toNat z6 := by unfold atP; rw [e, if_neg (by decide)]
  have e2 : atX T i = zAT T i.toNat := by unfold atX; rw [e, if_neg (by decide)]
  rw [e, e1, e2] at hR
  obtain ⟨n, rfl⟩ : ∃ n : Nat, i = (n : Int) := ⟨i.toNat, by omega⟩
  rw [Int.toNat_natCast] at hR
  have hn : n < T.l.length := by omega
  repeat (first | refine zA (zF rfl) ?_ | refine zA (zP rfl) ?_ | refine zC ?_ | refine zB ?_ | refine zW ?_ | refine zK rfl ?_ | refine zm rfl rfl ?_ | refine zA (zBy rfl rfl) ?_ | refine zA (zDc rfl rfl) ?_ | refine zA (ze rfl rfl) ?_ | refine zA (zA2 rfl rfl rfl) ?_ | refine zA (zD rfl rfl rfl rfl) ?_ | refine zA (z8 rfl) ?_ | refine zA (zI rfl rfl rfl rfl rfl rfl) ?_ | refine zAO rfl rfl rfl ?_)
  refine zH J (fun q => ?_) (fun q => ?_)
  ·exact absurd q (by omega)
  refine rn1 ?_
  refine zd (by kernel_rfl) ?_
  refine zV 0 J (by kernel_rfl) (by kernel_rfl) (by kernel_rfl) J (zF J) J ?_
  refine zV 1 J (by kernel_rfl) (by kernel_rfl) (by kernel_rfl) J (z8 J) J ?_
  refine zV 2 J (by kernel_rfl) (by kernel_rfl) (by kernel_rfl) J (zI J J J J J J) J ?_
  refine zV 4 J (by kernel_rfl) (by kernel_rfl) (by kernel_rfl) J (zF J) J ?_
  refine zV 8 J (by kernel_rfl) (by kernel_rfl) (by kernel_rfl) J (zF J) J ?_
  refine zV 9 J (by kernel_rfl) (by kernel_rfl) (by kernel_rfl) J (z8 J) J ?_
  refine zV 10 J (by kernel_rfl) (by kernel_rfl) (by kernel_rfl) J (zI J J J J J J) J ?_
  refine zV 12 J (by kernel_rfl) (by kernel_rfl) (by kernel_rfl) J (zF J) J ?_
  apply zQ (H := [some ⟨35, .box (poC (T.l.getD n z6))⟩, some ⟨37, .box (zBc (0, 0))⟩]) [(4, .ptr 0 0 0), (5, .ptr 1 0 0), (34, entA (zAT T n))]
  ·intro f42
   apply zQ (H := [some ⟨35, .box poZ⟩, some ⟨37, .box (zBc (0, 0))⟩]) [(4, .ptr 0 0 0), (5, .ptr 1 0 0), (27, poA (T.l.getD n z6)), (34, entA (zAT T n))]
   ·intro f32
    apply zQ (H := [some ⟨35, .box (poC (T.l.getD n z6))⟩, some ⟨37, .box (zBc (0, 0))⟩]) [(4, .ptr 0 0 0), (5, .ptr 1 0 0), (33, .rp (zBT T.E) n 0)]
    ·intro f41
     apply zQ (H := [some ⟨35, .box poZ⟩, some ⟨37, .box (zBc (0, 0))⟩]) [(4, .ptr 0 0 0), (5, .ptr 1 0 0), (26, poA (T.l.getD n z6)), (34, entA (zAT T n))]
     ·intro f22
      apply zQ (H := [some ⟨35, .box poZ⟩, some ⟨37, .box (zBc (0, 0))⟩]) [(4, .ptr 0 0 0), (5, .ptr 1 0 0), (27, poA (T.l.getD n z6)), (33, .rp (zBT T.E) n 0)]
      ·intro f31
       apply zQ (H := [some ⟨35, .box (poC (T.l.getD n z6))⟩, some ⟨37, .box (zBc (0, 0))⟩]) [(4, .ptr 0 0 0), (5, .ptr 1 0 0), (30, .rp (.box (tbF T.r T.l T.nx (.ro (zBT T.E) 0 T.E.length))) 0 13), (32, iN n)]
       ·intro f40
        apply zQ (H := [some ⟨35, .box poZ⟩, some ⟨37, .box (zBc (0, 0))⟩]) [(4, .ptr 0 0 0), (5, .ptr 1 0 0), (25, .rp (zCm T.l) n 0), (34, entA (zAT T n))]
        ·intro f12
         apply zQ (H := [some ⟨35, .box poZ⟩, some ⟨37, .box (zBc (0, 0))⟩]) [(4, .ptr 0 0 0), (5, .ptr 1 0 0), (26, poA (T.l.getD n z6)), (33, .rp (zBT T.E) n 0)]
         ·intro f21
          apply zQ (H := [some ⟨35, .box poZ⟩, some ⟨37, .box (zBc (0, 0))⟩]) [(4, .ptr 0 0 0), (5, .ptr 1 0 0), (27, poA (T.l.getD n z6)), (30, .rp (.box (tbF T.r T.l T.nx (.ro (zBT T.E) 0 T.E.length))) 0 13), (32, iN n)]
          ·intro f30
           apply zQ (H := [some ⟨35, .box poZ⟩, some ⟨37, .box (zBc (0, 0))⟩]) [(4, .ptr 0 0 0), (5, .ptr 1 0 0), (22, .rp (.box (tbF T.r T.l T.nx (.ro (zBT T.E) 0 T.E.length))) 0 11), (24, iN n), (34, entA (zAT T n))]
           ·intro f02
            apply zQ (H := [some ⟨35, .box poZ⟩, some ⟨37, .box (zBc (0, 0))⟩]) [(4, .ptr 0 0 0), (5, .ptr 1 0 0), (25, .rp (zCm T.l) n 0), (33, .rp (zBT T.E) n 0)]
            ·intro f11
             apply zQ (H := [some ⟨35, .box poZ⟩, some ⟨37, .box (zBc (0, 0))⟩]) [(4, .ptr 0 0 0), (5, .ptr 1 0 0), (26, poA (T.l.getD n z6)), (30, .rp (.box (tbF T.r T.l T.nx (.ro (zBT T.E) 0 T.E.length))) 0 13), (32, iN n)]
             ·intro f20
              apply zQ (H := [some ⟨35, .box poZ⟩, some ⟨37, .box (zBc (0, 0))⟩]) [(4, .ptr 0 0 0), (5, .ptr 1 0 0), (22, .rp (.box (tbF T.r T.l T.nx (.ro (zBT T.E) 0 T.E.length))) 0 11), (24, iN n), (33, .rp (zBT T.E) n 0)]
              ·intro f01
               apply zQ (H := [some ⟨35, .box poZ⟩, some ⟨37, .box (zBc (0, 0))⟩]) [(4, .ptr 0 0 0), (5, .ptr 1 0 0), (25, .rp (zCm T.l) n 0), (30, .rp (.box (tbF T.r T.l T.nx (.ro (zBT T.E) 0 T.E.length))) 0 13), (32, iN n)]
               ·intro f10
                refine zG (is := [3, 11]) (by kernel_rfl) (by simp) J ⟨fun o ho => ?_, fun o ho => ?_, trivial⟩
                all_goals (cases ho)
                ·repeat (first | refine zC ?_ | refine zT ?_ | refine zA (zD rfl rfl rfl rfl) ?_)
                 refine zV 5 J (by kernel_rfl) (by kernel_rfl) (by kernel_rfl) J (zf J J J J (by first | (simp only [Nat.zero_add, Int.toNat_natCast, Int.toNat_zero]; exact J) | exact J) (by omega)) J ?_
                 exact f10 _ ⟨J, J, J, J, J, trivial⟩
                ·repeat (first | refine zC ?_ | refine zT ?_ | refine zA (zD rfl rfl rfl rfl) ?_)
                 refine zV 13 J (by kernel_rfl) (by kernel_rfl) (by kernel_rfl) J (zf J J J J (by first | (simp only [Nat.zero_add, Int.toNat_natCast, Int.toNat_zero]; exact J) | exact J) (by omega)) J ?_
                 exact f01 _ ⟨J, J, J, J, J, trivial⟩
               ·refine zG (is := [6, 11]) (by kernel_rfl) (by simp) J ⟨fun o ho => ?_, fun o ho => ?_, trivial⟩
                all_goals (cases ho)
                ·refine rn6 ?_
                 exact f20 _ ⟨J, J, J, J, J, trivial⟩
                ·repeat (first | refine zC ?_ | refine zT ?_ | refine zA (zD rfl rfl rfl rfl) ?_)
                 refine zV 13 J (by kernel_rfl) (by kernel_rfl) (by kernel_rfl) J (zf J J J J (by first | (simp only [Nat.zero_add, Int.toNat_natCast, Int.toNat_zero]; exact J) | exact J) (by omega)) J ?_
                 exact f11 _ ⟨J, J, J, J, trivial⟩
              ·refine zG (is := [3, 14]) (by kernel_rfl) (by simp) J ⟨fun o ho => ?_, fun o ho => ?_, trivial⟩
               all_goals (cases ho)
               ·repeat (first | refine zC ?_ | refine zT ?_ | refine zA (zD rfl rfl rfl rfl) ?_)
                refine zV 5 J (by kernel_rfl) (by kernel_rfl) (by kernel_rfl) J (zf J J J J (by first | (simp only [Nat.zero_add, Int.toNat_natCast, Int.toNat_zero]; exact J) | exact J) (by omega)) J ?_
                exact f11 _ ⟨J, J, J, J, trivial⟩
               ·refine rn6 ?_
                exact f02 _ ⟨J, J, J, J, J, trivial⟩
             ·refine zG (is := [7, 11]) (by kernel_rfl) (by simp) J ⟨fun o ho => ?_, fun o ho => ?_, trivial⟩
              all_goals (cases ho)
              ·refine zS J J J (zHP (T.l.getD n z6) (zGW h hn)) ?_
               refine rn1 ?_
               exact f30 _ ⟨J, J, J, J, J, trivial⟩
              ·repeat (first | refine zC ?_ | refine zT ?_ | refine zA (zD rfl rfl rfl rfl) ?_)
               refine zV 13 J (by kernel_rfl) (by kernel_rfl) (by kernel_rfl) J (zf J J J J (by first | (simp only [Nat.zero_add, Int.toNat_natCast, Int.toNat_zero]; exact J) | exact J) (by omega)) J ?_
               exact f21 _ ⟨J, J, J, J, trivial⟩
            ·refine zG (is := [6, 14]) (by kernel_rfl) (by simp) J ⟨fun o ho => ?_, fun o ho => ?_, trivial⟩
             all_goals (cases ho)
             ·refine rn6 ?_
              exact f21 _ ⟨J, J, J, J, trivial⟩
             ·refine rn6 ?_
              exact f12 _ ⟨J, J, J, J, trivial⟩
           ·refine zG (is := [3]) (by kernel_rfl) (by simp) J ⟨fun o ho => ?_, trivial⟩
            all_goals (cases ho)
            repeat (first | refine zC ?_ | refine zT ?_ | refine zA (zD rfl rfl rfl rfl) ?_)
            refine zV 5 J (by kernel_rfl) (by kernel_rfl) (by kernel_rfl) J (zf J J J J (by first | (simp only [Nat.zero_add, Int.toNat_natCast, Int.toNat_zero]; exact J) | exact J) (by omega)) J ?_
            exact f12 _ ⟨J, J, J, J, trivial⟩
          ·refine zG (is := [11, 15]) (by kernel_rfl) (by simp) J ⟨fun o ho => ?_, fun o ho => ?_, trivial⟩
           all_goals (cases ho)
           ·repeat (first | refine zC ?_ | refine zT ?_ | refine zA (zD rfl rfl rfl rfl) ?_)
            refine zV 13 J (by kernel_rfl) (by kernel_rfl) (by kernel_rfl) J (zf J J J J (by first | (simp only [Nat.zero_add, Int.toNat_natCast, Int.toNat_zero]; exact J) | exact J) (by omega)) J ?_
            exact f31 _ ⟨J, J, J, J, trivial⟩
           ·refine zX (poC (T.l.getD n z6)) J J J J J J J ?_
            refine rn1 ?_
            exact f40 _ ⟨J, J, J, J, trivial⟩
         ·refine zG (is := [7, 14]) (by kernel_rfl) (by simp) J ⟨fun o ho => ?_, fun o ho => ?_, trivial⟩
          all_goals (cases ho)
          ·refine zS J J J (zHP (T.l.getD n z6) (zGW h hn)) ?_
           refine rn1 ?_
           exact f31 _ ⟨J, J, J, J, trivial⟩
          ·refine rn6 ?_
           exact f22 _ ⟨J, J, J, J, trivial⟩
        ·refine zG (is := [6]) (by kernel_rfl) (by simp) J ⟨fun o ho => ?_, trivial⟩
         all_goals (cases ho)
         refine rn6 ?_
         exact f22 _ ⟨J, J, J, J, trivial⟩
       ·refine zG (is := [11]) (by kernel_rfl) (by simp) J ⟨fun o ho => ?_, trivial⟩
        all_goals (cases ho)
        repeat (first | refine zC ?_ | refine zT ?_ | refine zA (zD rfl rfl rfl rfl) ?_)
        refine zV 13 J (by kernel_rfl) (by kernel_rfl) (by kernel_rfl) J (zf J J J J (by first | (simp only [Nat.zero_add, Int.toNat_natCast, Int.toNat_zero]; exact J) | exact J) (by omega)) J ?_
        exact f41 _ ⟨J, J, J, trivial⟩
      ·refine zG (is := [14, 15]) (by kernel_rfl) (by simp) J ⟨fun o ho => ?_, fun o ho => ?_, trivial⟩
       all_goals (cases ho)
       ·refine rn6 ?_
        exact f32 _ ⟨J, J, J, J, trivial⟩
       ·refine zX (poC (T.l.getD n z6)) J J J J J J J ?_
        refine rn1 ?_
        exact f41 _ ⟨J, J, J, trivial⟩
     ·refine zG (is := [7]) (by kernel_rfl) (by simp) J ⟨fun o ho => ?_, trivial⟩
      all_goals (cases ho)
      refine zS J J J (zHP (T.l.getD n z6) (zGW h hn)) ?_
      refine rn1 ?_
      exact f32 _ ⟨J, J, J, J, trivial⟩
    ·refine zG (is := [14]) (by kernel_rfl) (by simp) J ⟨fun o ho => ?_, trivial⟩
     all_goals (cases ho)
     refine rn6 ?_
     exact f42 _ ⟨J, J, J, trivial⟩
   ·refine zG (is := [15]) (by kernel_rfl) (by simp) J ⟨fun o ho => ?_, trivial⟩
    all_goals (cases ho)
    refine zX (poC (T.l.getD n z6)) J J J J J J J ?_
    refine rn1 ?_
    exact f42 _ ⟨J, J, J, trivial⟩
  refine zG (is := [16]) (by kernel_rfl) (by simp) J ⟨fun o ho => ?_, trivial⟩
  all_goals (cases ho)
  refine zX (zBc (zAT T n)) J J J J J J J ?_
  refine rn1 ?_
  refine zG (is := [17]) (by kernel_rfl) (by simp) J ⟨fun o ho => ?_, trivial⟩
  all_goals (cases ho)
  refine rn1 ?_
  refine zY (by kernel_rfl) ?_
  refine rn0 ?_
  exact zN hR J J
/-- (*retro.Table).find -/
theorem zLJ (T : Tab) (h : TabOK T) (hr : Lens T.r) (p : Pos) (hp : LenP p) : zl Tryz.prog 57 [zCg T, poA p] (.tup [.int .i64 (if zCM T p ≠ 0 then 0 else ((zBI T.l p : Nat) : Int)), .int .i64 (zCM T p)]) := by
 refine zb.value0 (zM (P := Tryz.prog) (fn := Tryz.f57) J J (by kernel_rfl) J (fun c hR hfix => ?_)) (fix := fun _ => False) (fun _ h => h) J J
 refine zW ?_
 repeat (first | refine zA (zP rfl) ?_ | refine zC ?_ | refine zB ?_ | refine zK rfl ?_ | refine zAi rfl rfl ?_)
 refine zB6 3 [(0, zCg T)] J ⟨J, J, trivial⟩ ⟨J, trivial⟩ J hfix ?_
 repeat (refine zW ?_)
 refine zd (by kernel_rfl) ?_
 refine zj (fuel := 0) [0, 1, 2, 3, 4, 5, 6] [(3, .rp (.box (poC p)) 0 0), (0, zCg T)] ⟨J, J, trivial⟩ (by kernel_rfl) (by decide) J J ?_
 refine zJ J J (zF J) ?_
 refine zJ J J (z8 J) ?_
 refine zJ J J (zI J J J J J J) ?_
 refine zJ J J (zFL J J J J J J) ?_
 refine zJ J J (zAF J J J J J J) ?_
 refine zCF J J J J J (zIF T.r hr p hp) ?_
 refine zJ J J (zP J) ?_
 refine zw ?_
 refine zY (by kernel_rfl) ?_
 refine rn3 ?_
 refine zH J (fun q => ?_) (fun q => ?_)
 ·have e : zCM T p = zEH T.r p := by unfold zCM; rw [if_pos q]
  rw [e, if_pos q] at hR
  refine rn2 ?_
  exact zN hR J J
 have q2 := Classical.not_not.1 q
 obtain ⟨hz, S⟩ := zJ8 q2
 refine rn1 ?_
 by_cases hi : zBI T.l p < T.l.length
 ·have e : zCM T p = 0 := by unfold zCM; rw [if_neg q, if_pos hi]
  rw [e, if_neg (by decide)] at hR
  refine zd (by kernel_rfl) ?_
  refine zj (fuel := 0) [0, 1, 2, 3, 4, 5, 6, 7, 8, 9, 10, 11] [(3, .rp (.box (poC p)) 0 0), (0, zCg T)] ⟨J, J, trivial⟩ (by kernel_rfl) (by decide) J J ?_
  refine zJ J J (zF J) ?_
  refine zJ J J (z8 J) ?_
  refine zJ J J (zI J J J J J J) ?_
  refine zJ J J (zD J J J J) ?_
  refine zJ J J (zAF J J J J J J) ?_
  refine zCF J J J J J (zE8 h.v S) ?_
  refine zJ J J (zEJ J (.str J) J J J J (zCu T.l) (zBI T.l p) (zGQ hi) (zGe hi)) ?_
  refine zJ J J (zF J) ?_
  refine zJ J J (zAb J J) ?_
  refine zJ J J (zAb J J) ?_
  refine zJ J J (zP J) ?_
  refine zJ J J (zP J) ?_
  refine zw ?_
  refine zY (by kernel_rfl) ?_
  refine rn5 ?_
  exact zN hR J J
 ·have e : zCM T p = 8 := by unfold zCM; rw [if_neg q, if_neg hi]
  rw [e, if_pos (by decide)] at hR
  refine zd (by kernel_rfl) ?_
  refine zj (fuel := 0) [0, 1, 2, 3, 4, 5, 6, 7, 8, 9, 10, 11] [(3, .rp (.box (poC p)) 0 0), (0, zCg T)] ⟨J, J, trivial⟩ (by kernel_rfl) (by decide) J J ?_
  refine zJ J J (zF J) ?_
  refine zJ J J (z8 J) ?_
  refine zJ J J (zI J J J J J J) ?_
  refine zJ J J (zD J J J J) ?_
  refine zJ J J (zAF J J J J J J) ?_
  refine zCF J J J J J (zE8 h.v S) ?_
  refine zJ J J (zDk J (.str J) J J J J J J J J (zCu T.l) (zEk h.v S h.G.snd hi)) ?_
  refine zJ J J (zF J) ?_
  refine zJ J J (zAb J J) ?_
  refine zJ J J (zAb J J) ?_
  refine zJ J J (zP J) ?_
  refine zJ J J (zP J) ?_
  refine zw ?_
  refine zY (by kernel_rfl) ?_
  refine rn5 ?_
  exact zN hR J J
/-- (*retro.Table).Of -/
theorem of_ok (T : Tab) (h : TabOK T) (hr : Lens T.r) (p : Pos) (hp : LenP p) : zl Tryz.prog 21 [zCg T, poA p] (.tup [entA (ofT T p), .int .i64 (zCM T p)]) := by
 refine zb.value0 (zM (P := Tryz.prog) (fn := Tryz.f21) J J (by kernel_rfl) J (fun c hR hfix => ?_)) (fix := fun _ => False) (fun _ h => h) J J
 have hEl := h.len
 refine rn6 ?_
 refine zS J J J (zLJ T h hr p hp) ?_
 refine rn3 ?_
 refine zH J (fun q => ?_) (fun q => ?_)
 ·have e : ofT T p = (0, 0) := by unfold ofT; rw [if_pos q]
  rw [e] at hR
  refine rn8 ?_
  refine zX (zBc (0, 0)) J J J J J J J ?_
  refine rn2 ?_
  exact zN hR J J
 ·have q2 : zCM T p = 0 := Classical.not_not.1 q
  have hi : zBI T.l p < T.l.length := by
   unfold zCM at q2
   split at q2
   ·rename_i h1; exact absurd q2 h1
   ·split at q2
    ·assumption
    ·cases q2
  have e : ofT T p = zAT T (zBI T.l p) := by unfold ofT; rw [if_neg q]
  rw [e, q2] at hR
  rw [if_neg q]
  repeat (first | refine zA (zF rfl) ?_ | refine zB ?_ | refine zW ?_ | refine zK rfl ?_ | refine zAH ?_ | refine zA (zf rfl rfl rfl rfl (by first | (simp only [Nat.zero_add, Int.toNat_natCast, Int.toNat_zero]; exact rfl) | exact rfl) (by omega)) ?_ | refine zA (zD rfl rfl rfl rfl) ?_ | refine zA (z8 rfl) ?_ | refine zA (zI rfl rfl rfl rfl rfl rfl) ?_ | refine zA (zAF rfl rfl rfl rfl rfl rfl) ?_)
  refine zX (zBc (zAT T (zBI T.l p))) J J J J J J J ?_
  refine rn0 ?_
  exact zN hR J J
def zB8 (T : Tab) (i : Nat) (ms : List Mv) (k : Nat) : List Mv := ((List.range k).filter (fun k => decide (zAT T ((T.nx.getD i []).getD k 0) = zDW (zAT T i)))).map (fun k => ms.getD k mv0)
theorem zJc (T : Tab) (i : Nat) (ms : List Mv) (k : Nat) : zB8 T i ms (k + 1) = if zAT T ((T.nx.getD i []).getD k 0) = zDW (zAT T i) then zB8 T i ms k ++ [ms.getD k mv0] else zB8 T i ms k := by
 unfold zB8
 rw [List.range_succ, List.filter_append, List.map_append]
 by_cases h : zAT T ((T.nx.getD i []).getD k 0) = zDW (zAT T i)
 ·rw [if_pos h, List.filter_cons_of_pos (p := fun k => decide (zAT T ((T.nx.getD i []).getD k 0) = zDW (zAT T i))) (decide_eq_true h)]; rfl
 ·rw [if_neg h, List.filter_cons_of_neg (p := fun k => decide (zAT T ((T.nx.getD i []).getD k 0) = zDW (zAT T i))) (by rw [decide_eq_true_eq]; exact h)]; simp
theorem zKW (T : Tab) (i : Nat) (ms : List Mv) (k : Nat) : (zB8 T i ms k).length ≤ k := by
 unfold zB8
 rw [List.length_map]
 exact Nat.le_trans (List.length_filter_le ..) (by rw [List.length_range]; exact Nat.le_refl _)
theorem zHg (l : List Nat) (k : Nat) : (l.map Int.ofNat).getD k 0 = ((l.getD k 0 : Nat) : Int) := by
 rw [List.getD, List.getElem?_map, List.getD]
 cases l[k]? <;> rfl
theorem find_is {T : Tab} {p : Pos} (h : zCM T p = 0) : zEH T.r p = 0 ∧ zBI T.l p < T.l.length := by
 unfold zCM at h
 split at h
 ·rename_i h1; exact absurd h h1
 ·rename_i h1
  split at h
  ·exact ⟨Classical.not_not.1 h1, by assumption⟩
  ·cases h
theorem next_lt {T : Tab} (h : TabOK T) {i k : Nat} (hi : i < T.l.length) (hk : k < (zA1 T.r (T.l.getD i z6)).length) : k < (T.nx.getD i []).length ∧ (T.nx.getD i []).getD k 0 < T.l.length := by
 have := h.G.nxl i hi
 exact ⟨by omega, (h.G.nxt i hi k hk).1⟩
theorem ent_eqA (x y : Ent) : (decide (x.1 = y.1) && (decide (x.2 = y.2) && true)) = decide (x = y) := by
 by_cases h : x = y
 ·subst h; simp
 ·rw [decide_eq_false h]
  by_cases h1 : x.1 = y.1
  ·rw [decide_eq_true h1, decide_eq_false (fun q => h (Prod.ext h1 q))]; rfl
  ·rw [decide_eq_false h1]; rfl
/-- (*retro.Table).Best -/
theorem best_ok (T : Tab) (h : TabOK T) (hr : Lens T.r) (p : Pos) (hp : LenP p) : zl Tryz.prog 26 [zCg T, poA p] (.tup [zC3 (zFm T p), .int .i64 (zEc T p)]) := by
 refine zb.value0 (zM (P := Tryz.prog) (fn := Tryz.f26) J J (by kernel_rfl) J (fun c hR hfix => ?_)) (fix := fun _ => False) (fun _ h => h) J J
 have hEl := h.len
 have hmost := h.G.most
 refine zW ?_
 repeat (first | refine zA (zP rfl) ?_ | refine zC ?_ | refine zB ?_ | refine zK rfl ?_ | refine zAi rfl rfl ?_)
 refine zB6 3 [(0, zCg T)] J ⟨J, J, trivial⟩ ⟨J, trivial⟩ J hfix ?_
 refine rn6 ?_
 refine zS J J J (zLJ T h hr p hp) ?_
 refine rn3 ?_
 refine zH J (fun q => ?_) (fun q => ?_)
 ·have q : zCM T p ≠ 0 := q
  have e : zEc T p = zCM T p := by unfold zEc; rw [if_pos q]
  have e2 : zFm T p = [] := by unfold zFm; rw [e, if_pos q]
  rw [e, e2] at hR
  refine rn7 ?_
  refine zBp 4 (zC3 []) J AEq.nil ?_
  refine rn2 ?_
  exact zN hR J J
 have q2 : zCM T p = 0 := Classical.not_not.1 q
 obtain ⟨hz, hi⟩ := find_is q2
 have eb : zEc T p = if (zEF T p).length = 0 then 14 else 0 := by unfold zEc; rw [if_neg q]
 have ebl : zEc T p = 0 → zFm T p = zB8 T (zBI T.l p) (zEF T p) (zEF T p).length := fun e => by unfold zFm; rw [if_neg (fun c => c e)]; rfl
 rw [if_neg q]
 have hmt : zEF T p = zA1 T.r (T.l.getD (zBI T.l p) z6) := rfl
 have S := (h.sound hi).1
 have hml := zGR h.v S
 have hnx := fun k => next_lt h (k := k) hi
 have hpl := h.plies hi
 have hpu := h.plies_le hi
 have hnlen : T.nx.length = T.l.length := h.G.len
 rw [← hmt] at hml
 simp only [← hmt] at hnx
 have cm := zGm T.r h.v (T.l.getD (zBI T.l p) z6) S
 rw [← hmt] at cm
 generalize hix : zBI T.l p = ix at hi hml hnx hpl hpu ebl cm
 generalize hms : zEF T p = ms at hml hnx eb ebl cm
 refine rn1 ?_
 refine zd (by kernel_rfl) ?_
 refine zj (fuel := 0) [0, 1, 2, 3, 4, 5, 6, 7, 8, 9, 10, 11, 12] [(0, zCg T), (6, iN ix)] ⟨J, J, trivial⟩ (by kernel_rfl) (by decide) J J ?_
 refine zJ J J (zF J) ?_
 refine zJ J J (z8 J) ?_
 refine zJ J J (zI J J J J J J) ?_
 refine zJ J J (zFL J J J J J J) ?_
 refine zJ J J (zF J) ?_
 refine zJ J J (z8 J) ?_
 refine zJ J J (zI J J J J J J) ?_
 refine zJ J J (zD J J J J) ?_
 refine zJ J J (zF J) ?_
 refine zJ J J (zf J J J J (by first | (simp only [Nat.zero_add, Int.toNat_natCast, Int.toNat_zero]; exact J) | exact J) (by omega)) ?_
 refine zJ J J (zAF J J J J J J) ?_
 refine zCF J J J J J cm ?_
 refine zJ J J (zP J) ?_
 refine zw ?_
 refine zY (by kernel_rfl) ?_
 refine rn4 ?_
 refine zH J (fun z => ?_) (fun z => ?_)
 ·rw [if_pos (by omega)] at eb
  have e2 : zFm T p = [] := by unfold zFm; rw [eb, if_pos (by decide)]
  rw [eb, e2] at hR
  refine rn7 ?_
  refine zBp 4 (zC3 []) J AEq.nil ?_
  refine rn2 ?_
  exact zN hR J J
 rw [if_neg (by omega)] at eb
 have ebl := ebl eb
 rw [eb, ebl] at hR
 repeat (first | refine zA (zF rfl) ?_ | refine zB ?_ | refine zW ?_ | refine zK rfl ?_ | refine zAH ?_ | refine zA (zf rfl rfl rfl rfl (by first | (simp only [Nat.zero_add, Int.toNat_natCast, Int.toNat_zero]; exact rfl) | exact rfl) (by omega)) ?_ | refine zA (zD rfl rfl rfl rfl) ?_ | refine zA (z8 rfl) ?_ | refine zA (zI rfl rfl rfl rfl rfl rfl) ?_ | refine zA (zAF rfl rfl rfl rfl rfl rfl) ?_ | refine zAO rfl rfl rfl ?_)
 refine zX (zBc (zAT T ix)) J J J J J J J ?_
 repeat (first | refine zC ?_ | refine zB ?_ | refine zW ?_ | refine zK rfl ?_ | refine zA (zU rfl rfl rfl rfl rfl) ?_ | refine zA (zBL rfl rfl) ?_ | refine zA (zL rfl rfl rfl rfl rfl rfl) ?_)
 apply zAC (H := [some ⟨37, .box (zBc (zDW (zAT T ix)))⟩]) [(0, zCg T), (6, iN ix), (8, zC3 ms), (9, .ptr 0 0 0)]
 ·intro fin
  refine zH J (fun d => ?_) (fun d => ?_)
  ·have d : (zAT T ix).1 ≠ 3 := d
   have ew : zDW (zAT T ix) = ((zAT T ix).1, (zAT T ix).2 - 1) := by unfold zDW; rw [if_pos d]
   rw [ew] at fin
   repeat (first | refine zC ?_ | refine zB ?_ | refine zK rfl ?_ | refine zA (zU rfl rfl rfl rfl rfl) ?_ | refine zA (zA4 rfl rfl (by omega)) ?_ | refine zA (zL rfl rfl rfl rfl rfl rfl) ?_ | refine zAE rfl rfl rfl rfl rfl rfl rfl Nat.zero_lt_one ?_)
   exact fin _ ⟨J, J, J, J, trivial⟩
  ·have d : ¬ (zAT T ix).1 ≠ 3 := d
   have ew : zDW (zAT T ix) = zAT T ix := by unfold zDW; rw [if_neg d]
   rw [ew] at fin
   refine zFH ?_
   exact fin _ ⟨J, J, J, J, trivial⟩
 refine zB6 9 [(0, zCg T), (6, iN ix), (8, zC3 ms)] J ⟨J, J, J, J, trivial⟩ ⟨J, J, J, trivial⟩ J hfix ?_
 repeat (refine zW ?_)
 refine zK J ?_
 refine zAt ?_
 refine zBm 10 ⟨58, zBJ []⟩ J J ?_
 refine rn3 ?_
 refine zu (ι := Nat) (fun k => [(0, zCg T), (6, iN ix), (8, zC3 ms), (9, .rp (.box (zBc (zDW (zAT T ix)))) 0 0), (10, .sl 0 0 (zB8 T ix ms k).length), (51, zC3 ms), (52, iN ms.length), (53, iN k)]) (fun k => [some ⟨58, zBJ (zB8 T ix ms k)⟩]) (fun k => k ≤ ms.length) (fun k => ms.length - k) 0 ⟨⟨J, J, J, J, J, J, J, J, trivial⟩, J, Nat.zero_le _⟩ ?_
 intro k hk
 have hbl := zKW T ix ms k
 refine rn4 ?_
 refine zH J (fun g => ?_) (fun g => ?_)
 ·have hk' : k < ms.length := by omega
  obtain ⟨n1, n2⟩ := hnx k hk'
  have hbs := zJc T ix ms k
  have hgi : ((T.nx.getD ix []).map Int.ofNat).getD k 0 = (((T.nx.getD ix []).getD k 0 : Nat) : Int) := zHg _ _
  have hgl : ((T.nx.getD ix []).map Int.ofNat).length = (T.nx.getD ix []).length := List.length_map ..
  generalize hj : (T.nx.getD ix []).getD k 0 = j at n2 hgi hbs
  generalize hmk : ms.getD k mv0 = m at hbs
  refine zGY ?_
  refine rn4 ?_
  refine zX (mvC m) J J J J J (by rw [← hmk]; rfl) J ?_
  refine rn0 ?_
  refine zEY [some ⟨58, zBJ (zB8 T ix ms k)⟩] 12 [(0, zCg T), (6, iN ix), (8, zC3 ms), (9, .rp (.box (zBc (zDW (zAT T ix)))) 0 0), (10, .sl 0 0 (zB8 T ix ms k).length), (51, zC3 ms), (52, iN ms.length), (53, iN k), (11, iN k)] J J ⟨J, J, J, J, J, J, J, J, J, trivial⟩ ⟨J, J, J, J, J, J, J, J, J, J, trivial⟩ (zCD (zGT _) zBs) J (fun h q => by rw [hfix] at q; exact q.elim) ?_
  refine zd (by kernel_rfl) ?_
  refine zj (fuel := 0) [0, 1, 2, 3, 4, 5, 6, 7, 8, 9, 10, 11, 12, 13, 14, 15, 16, 17] [(12, .rp (.box (mvC m)) 0 0), (0, zCg T), (6, iN ix), (8, zC3 ms), (9, .rp (.box (zBc (zDW (zAT T ix)))) 0 0), (10, .sl 0 0 (zB8 T ix ms k).length), (51, zC3 ms), (52, iN ms.length), (53, iN k), (11, iN k)] ⟨J, J, J, J, J, J, J, J, J, J, trivial⟩ (by kernel_rfl) (by decide) J J ?_
  refine zJ J J (zF J) ?_
  refine zJ J J (z8 J) ?_
  refine zJ J J (zI J J J J J J) ?_
  refine zJ J J (zD J J J J) ?_
  refine zJ J J (zF J) ?_
  refine zJ J J (z8 J) ?_
  refine zJ J J (zI J J J J J J) ?_
  refine zJ J J (zD J J J J) ?_
  refine zJ J J (zF J) ?_
  refine zJ J J (zf J J J J (by first | (simp only [Nat.zero_add, Int.toNat_natCast, Int.toNat_zero]; exact J) | exact J) (by omega)) ?_
  refine zJ J J (zAx J J J J) ?_
  refine zJ J J (zF J) ?_
  refine zJ J J (zf J J J J (by first | (simp only [Nat.zero_add, Int.toNat_natCast, Int.toNat_zero]; exact J) | exact J) (by omega)) ?_
  refine zJ J J (zA7 J J J) ?_
  rw [hgi]
  refine zJ J J (zf J J J J (by first | (simp only [Nat.zero_add, Int.toNat_natCast, Int.toNat_zero]; exact J) | exact J) (by omega)) ?_
  refine zJ J J (zAF J J J J J J) ?_
  refine zJ J J (zAF J J J J J J) ?_
  refine zJ J J (zFb J J J (by kernel_rfl) (by kernel_rfl) (by kernel_rfl) J) ?_
  refine zw ?_
  refine zY (by kernel_rfl) ?_
  repeat (refine zB ?_)
  refine zAK (b := decide (zAT T j = zDW (zAT T ix))) (by rw [← ent_eqA]; rfl) (fun g2 => ?_) (fun g2 => ?_)
  ·have g2 := of_decide_eq_true g2
   rw [if_pos g2] at hbs
   have hnl : (zB8 T ix ms (k + 1)).length = (zB8 T ix ms k).length + 1 := by rw [hbs, List.length_append]; rfl
   refine rn6 ?_
   refine zBZ [m] J J J J J J J J J J J J J (by show 0 + 1 ≤ 1; omega) (fun k' j' hk' hj' => ?_) (by show ((zB8 T ix ms k).length + 1) * 24 ≤ _ ∧ _; omega) zFV (by rw [hfix]; exact fun h => h) ?_
   ·obtain rfl : k' = 0 := Nat.lt_one_iff.1 hk'
    match j', hj' with
    | 0, _ => rfl
    | 1, _ => rfl
    | 2, _ => rfl
   refine rn5 ?_
   refine zR ⟨k + 1, by omega, by omega, ⟨J, J, J, J, ?_, J, J, J, trivial⟩, ?_⟩
   ·rw [hnl]; rfl
   ·rw [hbs]; rfl
  ·have g2 := of_decide_eq_false g2
   rw [if_neg g2] at hbs
   refine rn5 ?_
   refine zR ⟨k + 1, by omega, by omega, ⟨J, J, J, J, ?_, J, J, J, trivial⟩, ?_⟩
   ·rw [hbs]; rfl
   ·rw [hbs]
 ·have hk' : k = ms.length := by omega
  subst hk'
  refine zAt ?_
  refine zD5 0 10 (zB8 T ix ms ms.length).length [] J (zBA zGS) J (Nat.le_refl _) trivial ?_
  refine rn0 ?_
  exact zN hR J J
def zB9 (T : Tab) (k : Nat) : List Nat := (List.range k).filter (fun i => decide ((zAT T i).2 = zCh T))
theorem zJ0 (T : Tab) (k : Nat) : zB9 T (k + 1) = if (zAT T k).2 = zCh T then zB9 T k ++ [k] else zB9 T k := by
 unfold zB9
 rw [List.range_succ, List.filter_append]
 by_cases h : (zAT T k).2 = zCh T
 ·rw [if_pos h, List.filter_cons_of_pos (p := fun i => decide ((zAT T i).2 = zCh T)) (decide_eq_true h)]; rfl
 ·rw [if_neg h, List.filter_cons_of_neg (p := fun i => decide ((zAT T i).2 = zCh T)) (by rw [decide_eq_true_eq]; exact h)]; simp
theorem zKg (T : Tab) (k : Nat) : (zB9 T k).length ≤ k := by
 unfold zB9
 exact Nat.le_trans (List.length_filter_le ..) (by rw [List.length_range]; exact Nat.le_refl _)
def zDj (T : Tab) (k : Nat) : Int := (T.E.take k).foldl (fun a x => max a x.2) 0
theorem zJ4 (T : Tab) {k : Nat} (h : k < T.E.length) : zDj T (k + 1) = max (zDj T k) (zAT T k).2 := by
 unfold zDj zAT
 rw [zx _ (0, 0) k h, List.foldl_append]; rfl
/-- (*retro.Table).Longest -/
theorem zLR (T : Tab) (h : TabOK T) : zl Tryz.prog 15 [zCg T] (zp ((zBD T).map Int.ofNat)) := by
 refine zb.value0 (zM (P := Tryz.prog) (fn := Tryz.f15) J J (by kernel_rfl) J (fun c hR hfix => ?_)) (fix := fun _ => False) (fun _ h => h) J J
 have hEl := h.len
 have hmost := h.G.most
 repeat (first | refine zA (zF rfl) ?_ | refine zA (zP rfl) ?_ | refine zC ?_ | refine zB ?_ | refine zW ?_ | refine zK rfl ?_ | refine zAL ?_ | refine zA (zA2 rfl rfl rfl) ?_ | refine zA (zD rfl rfl rfl rfl) ?_ | refine zA (z8 rfl) ?_ | refine zA (zI rfl rfl rfl rfl rfl rfl) ?_)
 refine zu (ι := Nat) (fun k => [(0, zCg T), (3, .int .i64 (zDj T k)), (12, .ro (zBT T.E) 0 T.E.length), (13, iN T.E.length), (14, iN k)]) (fun k => []) (fun k => k ≤ T.E.length) (fun k => T.E.length - k) 0 ⟨⟨J, J, J, J, J, trivial⟩, J, Nat.zero_le _⟩ ?_
 intro k hk
 refine rn4 ?_
 refine zH J (fun g => ?_) (fun g => ?_)
 ·have hk' : k < T.E.length := by omega
  have hms : zDj T (k + 1) = if (zAT T k).2 > zDj T k then (zAT T k).2 else zDj T k := by rw [zJ4 T hk']; split <;> omega
  refine zGY ?_
  repeat (refine zAO rfl rfl rfl ?_)
  refine zX (zBc (zAT T k)) J J J J J J J ?_
  refine zAt ?_
  refine zB6 5 [(0, zCg T), (3, .int .i64 (zDj T k)), (12, .ro (zBT T.E) 0 T.E.length), (13, iN T.E.length), (14, iN k)] J ⟨J, J, J, J, J, J, trivial⟩ ⟨J, J, J, J, J, trivial⟩ J hfix ?_
  repeat (first | refine zA (zF rfl) ?_ | refine zA (zP rfl) ?_ | refine zC ?_ | refine zB ?_ | refine zK rfl ?_ | refine zAG ?_ | refine zA (zAz rfl rfl (by omega)) ?_ | refine zA (zD rfl rfl rfl rfl) ?_ | refine zA (q_max rfl rfl) ?_ | refine zA (zI rfl rfl rfl rfl rfl rfl) ?_)
  refine zR ⟨k + 1, by omega, by omega, ⟨J, ?_, J, J, J, trivial⟩, J⟩
  rw [hms]; rfl
 have hk' : k = T.E.length := by omega
 subst hk'
 have hmt : zDj T T.E.length = zCh T := by unfold zDj zCh; rw [List.take_length]
 rw [hmt]
 refine zAt ?_
 refine zK J ?_
 refine zAt ?_
 refine zBm 6 ⟨3, .ints .i64 []⟩ J J ?_
 repeat (first | refine zA (zF rfl) ?_ | refine zC ?_ | refine zB ?_ | refine zK rfl ?_ | refine zAL ?_ | refine zA (zA2 rfl rfl rfl) ?_ | refine zA (zD rfl rfl rfl rfl) ?_ | refine zA (z8 rfl) ?_ | refine zA (zI rfl rfl rfl rfl rfl rfl) ?_)
 refine zu (ι := Nat) (fun k => [(3, .int .i64 (zCh T)), (6, .sl 0 0 (zB9 T k).length), (26, .ro (zBT T.E) 0 T.E.length), (27, iN T.E.length), (28, iN k)]) (fun k => [some ⟨3, .ints .i64 ((zB9 T k).map Int.ofNat)⟩]) (fun k => k ≤ T.E.length) (fun k => T.E.length - k) 0 ⟨⟨J, J, J, J, J, trivial⟩, J, Nat.zero_le _⟩ ?_
 intro k hk
 have hll := zKg T k
 have hml : ((zB9 T k).map Int.ofNat).length = (zB9 T k).length := List.length_map ..
 refine rn4 ?_
 refine zH J (fun g => ?_) (fun g => ?_)
 ·have hk' : k < T.E.length := by omega
  have hls := zJ0 T k
  refine zGY ?_
  refine rn4 ?_
  refine zX (zBc (zAT T k)) J J J J J J J ?_
  refine zAt ?_
  refine zEY [some ⟨3, .ints .i64 ((zB9 T k).map Int.ofNat)⟩] 8 [(3, .int .i64 (zCh T)), (6, .sl 0 0 (zB9 T k).length), (26, .ro (zBT T.E) 0 T.E.length), (27, iN T.E.length), (28, iN k), (7, iN k)] J J ⟨J, J, J, J, J, J, trivial⟩ ⟨J, J, J, J, J, J, J, trivial⟩ (zCD (fun _ _ _ _ => rfl) zBs) J (fun h q => by rw [hfix] at q; exact q.elim) ?_
  refine zBX ?_
  refine zH J (fun q => ?_) (fun q => ?_)
  ·have q : (zAT T k).2 = zCh T := q
   rw [if_pos q] at hls
   have hnl : (zB9 T (k + 1)).length = (zB9 T k).length + 1 := by rw [hls, List.length_append]; rfl
   refine rn3 ?_
   refine zAY J J J J J J J J J hml J J (by show 0 + 1 ≤ 1; omega) J (by show ((zB9 T k).length + 1) * 8 ≤ _ ∧ _; omega) (fun i j _ _ => rfl) (by rw [hfix]; exact fun h => h) ?_
   refine rn5 ?_
   refine zR ⟨k + 1, by omega, by omega, ⟨J, ?_, J, J, J, trivial⟩, ?_⟩
   ·rw [hnl]; rfl
   ·rw [hls, List.map_append]; rfl
  ·have q : ¬ (zAT T k).2 = zCh T := q
   rw [if_neg q] at hls
   refine rn5 ?_
   refine zR ⟨k + 1, by omega, by omega, ⟨J, ?_, J, J, J, trivial⟩, ?_⟩
   ·rw [hls]; rfl
   ·rw [hls]
 ·have hk' : k = T.E.length := by omega
  subst hk'
  have hlt : zB9 T T.E.length = zBD T := rfl
  rw [hlt] at hml ⊢
  refine zAt ?_
  refine zD5 0 6 (zBD T).length [] J zAI J (by show (zBD T).length ≤ ((zBD T).map Int.ofNat).length; rw [hml]; exact Nat.le_refl _) trivial ?_
  refine rn0 ?_
  refine zN hR J ?_
  show AV.ro (Cells.ints .i64 ((zBD T).map Int.ofNat)) 0 (zBD T).length = AV.ro (Cells.ints .i64 ((zBD T).map Int.ofNat)) 0 ((zBD T).map Int.ofNat).length
  rw [hml]
theorem equalMv (a b : List Mv) (hlen : a.length ≤ 1000000) (hlb : b.length ≤ 1000000) : zl Tryz.prog 27 [zC3 a, zC3 b] (.bool (decide (a = b))) := by
 refine zb.value0 (zM (P := Tryz.prog) (fn := Tryz.f27) J J (by kernel_rfl) J (fun c hR hfix => ?_)) (fix := fun _ => False) (fun _ h => h) J J
 refine rn3 ?_
 refine zH J (fun h => ?_) (fun h => ?_)
 ·refine rn2 ?_
  refine zN hR J ?_
  have : ¬ a = b := by rintro rfl; exact h rfl
  simp [zB4, this]
 have hab : a.length = b.length := by omega
 refine rn3 ?_
 refine zu (ι := Nat) (fun k => [(0, zC3 a), (1, zC3 b), (12, iN a.length), (13, iN k)]) (fun _ => [])
  (fun k => k ≤ a.length ∧ a.take k = b.take k) (fun k => a.length - k) 0 ⟨⟨rfl, rfl, rfl, rfl, trivial⟩, rfl, Nat.zero_le _, rfl⟩ ?_
 intro k ⟨hk, heq⟩
 refine rn4 ?_
 refine zH J (fun h2 => ?_) (fun h2 => ?_)
 ·have hk' : k < a.length := by omega
  have ha := zx a mv0 k hk'
  have hb := zx b mv0 k (by omega)
  refine rn1 ?_
  refine zd (by kernel_rfl) ?_
  refine zj (fuel := 0) [0, 1, 2, 3, 4, 5, 6, 7, 8] [(0, zC3 a), (1, zC3 b), (12, iN a.length), (13, iN k), (5, iN k)] ⟨J, J, J, J, J, trivial⟩ (by kernel_rfl) (by decide) J J ?_
  refine zJ J J (zF J) ?_
  refine zJ J J (zF J) ?_
  refine zJ J J (zf J J J J (by first | (simp only [Nat.zero_add, Int.toNat_natCast, Int.toNat_zero]; exact J) | exact J) (by omega)) ?_
  refine zJ J J (zAF J J J J J J) ?_
  refine zJ J J (zF J) ?_
  refine zJ J J (zF J) ?_
  refine zJ J J (zf J J J J (by first | (simp only [Nat.zero_add, Int.toNat_natCast, Int.toNat_zero]; exact J) | exact J) (by omega)) ?_
  refine zJ J J (zAF J J J J J J) ?_
  refine zJ J J (zGt J J J (by kernel_rfl) (by kernel_rfl) (by kernel_rfl) J) ?_
  refine zw ?_
  refine zY (by kernel_rfl) ?_
  repeat (refine zB ?_)
  refine zAK (b := !(decide (b.getD k mv0 = a.getD k mv0))) (by rw [← eqMv]; rfl) (fun h3 => ?_) (fun h3 => ?_)
  ·refine rn6 ?_
   refine zN hR J ?_
   rw [Bool.not_eq_true', decide_eq_false_iff_not] at h3
   have : ¬ a = b := by rintro rfl; exact h3 rfl
   simp [zB4, this]
  ·rw [Bool.not_eq_false', decide_eq_true_eq] at h3
   refine rn5 ?_
   exact zR ⟨k + 1, ⟨by omega, by rw [ha, hb, heq, h3]⟩, by omega, ⟨J, J, J, J, trivial⟩, J⟩
 ·have hk' : k = a.length := by omega
  subst hk'
  rw [List.take_length, hab, List.take_length] at heq
  refine rn5 ?_
  refine zN hR J ?_
  simp [zB4, heq]
theorem zIR : zl Tryz.prog 50 [] (poA (zA9 two)) := by
 refine zb.value0 (zM (P := Tryz.prog) (fn := Tryz.f50) J J (by kernel_rfl) J (fun c hR hfix => ?_)) (fix := fun _ => False) (fun _ h => h) J J
 refine rn8 ?_
 refine zAp 5 (poA (zA9 two)) J (zK9 ⟨AEq.ro J (fun d j hd hj => by
  have hj : j < 1 := hj
  obtain rfl : j = 0 := by omega
  match d, hd with
  | 0, _ => rfl
  | 1, _ => rfl
  ), AEq.ro rfl (fun d j hd hj => by
  have hj : j < 1 := hj
  obtain rfl : j = 0 := by omega
  match d, hd with
  | 0, _ => rfl
  ), AEq.ro rfl (fun d j hd hj => by
  have hj : j < 1 := hj
  obtain rfl : j = 0 := by omega
  match d, hd with
  | 0, _ => rfl
  ), AEq.rfl', AEq.rfl', trivial⟩) ?_
 refine zX (poC (zA9 two)) J J J J J J J ?_
 refine rn0 ?_
 exact zN hR J J
theorem two_ok' : zl Tryz.prog 49 [] (ruA two) := by
 refine zb.value0 (zM (P := Tryz.prog) (fn := Tryz.f49) J J (by kernel_rfl) J (fun c hR hfix => ?_)) (fix := fun _ => False) (fun _ h => h) J J
 refine rn8 ?_
 refine zAp 6 (ruA two) J (zK9 ⟨AEq.rfl', AEq.rfl', AEq.rfl', AEq.ro_in J (fun d j hd hj => by
  have hd : d < 1 := hd
  obtain rfl : d = 0 := by omega
  have hj : j < 4 := hj
  match j, hj with
  | 0, _ => exact AEq.rfl'
  | 1, _ => exact AEq.rfl'
  | 2, _ => exact AEq.rfl'
  | 3, _ => exact AEq.nil
  ), AEq.ro rfl (fun d j hd hj => by
  have hj : j < 1 := hj
  obtain rfl : j = 0 := by omega
  match d, hd with
  | 0, _ => rfl
  | 1, _ => rfl
  ), AEq.rfl', AEq.rfl', AEq.ro_in rfl (fun d j hd hj => by
  have hd : d < 1 := hd
  obtain rfl : d = 0 := by omega
  have hj : j < 4 := hj
  match j, hj with
  | 0, _ => exact AEq.rfl'
  | 1, _ => exact AEq.rfl'
  | 2, _ => exact AEq.rfl'
  | 3, _ => exact AEq.rfl'
  ), AEq.rfl', AEq.rfl', AEq.rfl', trivial⟩) ?_
 refine zX (ruC two) J J J J J J J ?_
 refine rn0 ?_
 exact zN hR J J
def whW (r : Go.Ax.Gm.Rules) : Int := IntKind.i64.wrap (r.w * r.h)
/-- is there a table of at most so many positions? -/
structure HasT (r : Go.Ax.Gm.Rules) (most : Int) (x : List Pos × List (List Nat)) : Prop where
 wh : ¬ whW r > 9
 pc : ¬ (r.pcs.length : Int) > 3
 e : zC4 r = 0
 g : zDw r = some x
 len : ¬ (x.1.length : Int) > most
theorem HasT.tab {r : Go.Ax.Gm.Rules} {most : Int} {x : List Pos × List (List Nat)} (h : HasT r most x) : TabOK (zEz r x) := by
 obtain ⟨h1, h2, _⟩ := zIk h.e
 exact zLU h1 h2 h.g
theorem newA_no {r : Go.Ax.Gm.Rules} (h : zC4 r ≠ 0) : zEo r = .nilp := by unfold zEo; rw [if_pos h]
theorem zHm {r : Go.Ax.Gm.Rules} {x : List Pos × List (List Nat)} (h : zC4 r = 0) (g : zDw r = some x) : zEo r = zCg (zEz r x) := by unfold zEo; rw [if_neg (fun c => c h), g]
theorem zMT (r : Go.Ax.Gm.Rules) (most : Int) (h : whW r > 9) : zl Tryz.prog 14 [ruA r, .int .i64 most] (.tup [.nilp, .bool false]) := by
 refine zb.value0 (zM (P := Tryz.prog) (fn := Tryz.f14) J J (by kernel_rfl) J (fun c hR hfix => ?_)) (fix := fun _ => False) (fun _ h => h) J J
 refine rn6 ?_
 refine zA (zF5 J J J) ?_
 refine rn6 ?_
 refine zg J J (fun q => ?_) (fun q => absurd h q)
 refine rn6 ?_
 exact zN hR J J
theorem zMS (r : Go.Ax.Gm.Rules) (hr : Lens r) (most : Int) (h : ¬ whW r > 9) (h2 : (r.pcs.length : Int) > 3) : zl Tryz.prog 14 [ruA r, .int .i64 most] (.tup [.nilp, .bool false]) := by
 refine zb.value0 (zM (P := Tryz.prog) (fn := Tryz.f14) J J (by kernel_rfl) J (fun c hR hfix => ?_)) (fix := fun _ => False) (fun _ h => h) J J
 have hpl := hr.pcs
 refine rn6 ?_
 refine zA (zF5 J J J) ?_
 refine rn6 ?_
 refine zg J J (fun q => absurd q h) (fun q => ?_)
 refine rn6 ?_
 refine zH J (fun q => ?_) (fun q => absurd h2 q)
 refine rn2 ?_
 exact zN hR J J
theorem zK1 (r : Go.Ax.Gm.Rules) (hr : Lens r) (most : Int) (h : ¬ whW r > 9) (h2 : ¬ (r.pcs.length : Int) > 3) (h3 : zC4 r ≠ 0) : zl Tryz.prog 14 [ruA r, .int .i64 most] (.tup [.nilp, .bool false]) := by
 refine zb.value0 (zM (P := Tryz.prog) (fn := Tryz.f14) J J (by kernel_rfl) J (fun c hR hfix => ?_)) (fix := fun _ => False) (fun _ h => h) J J
 have hpl := hr.pcs
 have cn := zJF r hr
 rw [newA_no h3] at cn
 refine rn6 ?_
 refine zA (zF5 J J J) ?_
 refine rn6 ?_
 refine zg J J (fun q => absurd q h) (fun q => ?_)
 refine rn6 ?_
 refine zH J (fun q => absurd q h2) (fun q => ?_)
 refine rn6 ?_
 refine zS J J J cn ?_
 refine rn3 ?_
 refine zg J J (fun q => ?_) (fun q => absurd h3 q)
 refine rn6 ?_
 exact zN hR J J
theorem zK0 (r : Go.Ax.Gm.Rules) (hr : Lens r) (most : Int) (x : List Pos × List (List Nat)) (h : ¬ whW r > 9) (h2 : ¬ (r.pcs.length : Int) > 3) (h3 : zC4 r = 0) (h4 : zDw r = some x) (h5 : (x.1.length : Int) > most) : zl Tryz.prog 14 [ruA r, .int .i64 most] (.tup [.nilp, .bool false]) := by
 refine zb.value0 (zM (P := Tryz.prog) (fn := Tryz.f14) J J (by kernel_rfl) J (fun c hR hfix => ?_)) (fix := fun _ => False) (fun _ h => h) J J
 have hpl := hr.pcs
 have cn := zJF r hr
 rw [zHm h3 h4, h3] at cn
 refine rn6 ?_
 refine zA (zF5 J J J) ?_
 refine rn6 ?_
 refine zg J J (fun q => absurd q h) (fun q => ?_)
 refine rn6 ?_
 refine zH J (fun q => absurd q h2) (fun q => ?_)
 refine rn6 ?_
 refine zS J J J cn ?_
 repeat (first | refine zA (zF rfl) ?_ | refine zA (zP rfl) ?_ | refine zC ?_ | refine zB ?_ | refine zW ?_ | refine zK rfl ?_ | refine zm rfl rfl ?_ | refine zA (zBL rfl rfl) ?_ | refine zA (ze rfl rfl) ?_ | refine zA (zAb rfl rfl) ?_ | refine zA (zJJ rfl rfl rfl rfl) ?_)
 refine zS J J J (zG7 (zEz r x)) ?_
 refine rn6 ?_
 refine zH J (fun q => ?_) (fun q => absurd h5 q)
 refine rn2 ?_
 exact zN hR J J
theorem zK2 (r : Go.Ax.Gm.Rules) (hr : Lens r) (most : Int) (x : List Pos × List (List Nat)) (h : HasT r most x) : zl Tryz.prog 14 [ruA r, .int .i64 most] (.tup [zCg (zEz r x), .bool true]) := by
 refine zb.value0 (zM (P := Tryz.prog) (fn := Tryz.f14) J J (by kernel_rfl) J (fun c hR hfix => ?_)) (fix := fun _ => False) (fun _ h => h) J J
 obtain ⟨h, h2, h3, h4, h5⟩ := h
 have hpl := hr.pcs
 have cn := zJF r hr
 rw [zHm h3 h4, h3] at cn
 refine rn6 ?_
 refine zA (zF5 J J J) ?_
 refine rn6 ?_
 refine zg J J (fun q => absurd q h) (fun q => ?_)
 refine rn6 ?_
 refine zH J (fun q => absurd q h2) (fun q => ?_)
 refine rn6 ?_
 refine zS J J J cn ?_
 repeat (first | refine zA (zF rfl) ?_ | refine zA (zP rfl) ?_ | refine zC ?_ | refine zB ?_ | refine zW ?_ | refine zK rfl ?_ | refine zm rfl rfl ?_ | refine zA (zBL rfl rfl) ?_ | refine zA (ze rfl rfl) ?_ | refine zA (zAb rfl rfl) ?_ | refine zA (zJJ rfl rfl rfl rfl) ?_)
 refine zS J J J (zG7 (zEz r x)) ?_
 refine rn6 ?_
 refine zH J (fun q => absurd q h5) (fun q => ?_)
 refine rn1 ?_
 exact zN hR J J
/-- solved: no table, or one -/
theorem zMR (r : Go.Ax.Gm.Rules) (hr : Lens r) (most : Int) : zl Tryz.prog 14 [ruA r, .int .i64 most] (.tup [.nilp, .bool false]) ∨ ∃ x, HasT r most x ∧ zl Tryz.prog 14 [ruA r, .int .i64 most] (.tup [zCg (zEz r x), .bool true]) := by
 by_cases h : whW r > 9
 ·exact .inl (zMT r most h)
 by_cases h2 : (r.pcs.length : Int) > 3
 ·exact .inl (zMS r hr most h h2)
 by_cases h3 : zC4 r = 0
 ·obtain ⟨_, _, x, h4⟩ := zIk h3
  by_cases h5 : (x.1.length : Int) > most
  ·exact .inl (zK0 r hr most x h h2 h3 h4 h5)
  ·exact .inr ⟨x, ⟨h, h2, h3, h4, h5⟩, zK2 r hr most x ⟨h, h2, h3, h4, h5⟩⟩
 ·exact .inl (zK1 r hr most h h2 h3)
theorem zHc : Lens two := ⟨by decide, by decide, by decide, by decide, by decide⟩
theorem zMW : Sound two (zA9 two) := zEb (zCO zGd)
/-- retroFact -/
theorem zHt : zl Tryz.prog 13 [] (.bool true) := by
 refine zb.value0 (zM (P := Tryz.prog) (fn := Tryz.f13) J J (by kernel_rfl) J (fun c hR hfix => ?_)) (fix := fun _ => False) (fun _ h => h) J J
 have cn := zJF two zHc
 rw [zHm zLZ zH7, zLZ, zLa] at cn
 have hl := (zBF two_ok.v zMW).len
 have co := of_ok zEU two_ok zHc (zA9 two) hl
 rw [two_of, zKO] at co
 have ca := at_ok zEU two_ok 0
 have e0 : atE zEU 0 = 0 := by decide
 have e1 : atP zEU 0 = zA9 two := by unfold atP; rw [e0]; rfl
 have e2 : atX zEU 0 = (2, 2) := by unfold atX; rw [e0]; rfl
 rw [e0, e1, e2] at ca
 have cb := best_ok zEU two_ok zHc (zA9 two) hl
 rw [zKN.1, zKN.2] at cb
 have cl := zLR zEU two_ok
 rw [two_long] at cl
 refine rn0 ?_
 refine zS J J J two_ok' ?_
 skip
 refine zS J J J cn ?_
 repeat (first | refine zA (zF rfl) ?_ | refine zA (zP rfl) ?_ | refine zC ?_ | refine zB ?_ | refine zW ?_ | refine zK rfl ?_ | refine zm rfl rfl ?_ | refine zAW rfl ?_ | refine zAH ?_ | refine zA (zBL rfl rfl) ?_ | refine zA (ze rfl rfl) ?_ | refine zA (zAb rfl rfl) ?_ | refine zA (zJJ rfl rfl rfl rfl) ?_)
 refine zS J J J zIR ?_
 skip
 refine zS J J J co ?_
 refine rn4 ?_
 refine zX (zBc (2, 2)) J J J J J J J ?_
 refine rn0 ?_
 refine zS J J J ca ?_
 refine rn4 ?_
 refine zX (poC (zA9 two)) J J J J J J J ?_
 skip
 refine zX (zBc (2, 2)) J J J J J J J ?_
 refine rn0 ?_
 refine zS J J J zIR ?_
 skip
 refine zS J J J cb ?_
 refine rn3 ?_
 refine zS J J J (fineI [0, 0, 0] (by decide)) ?_
 refine rn2 ?_
 refine zS J J J (zG7 zEU) ?_
 repeat (first | refine zA (zF rfl) ?_ | refine zm rfl rfl ?_ | refine zA (zU rfl rfl rfl rfl rfl) ?_ | refine zA (zBj rfl rfl) ?_ | refine zA (ze rfl rfl) ?_ | refine zA (zA2 rfl rfl rfl) ?_ | refine zA (zDE rfl rfl rfl rfl rfl rfl) ?_ | refine zA (zL rfl rfl rfl rfl rfl rfl) ?_ | refine zA (zFb rfl rfl rfl (by kernel_rfl) (by kernel_rfl) (by kernel_rfl) rfl) ?_ | refine zA (qpp rfl rfl rfl rfl rfl rfl rfl) ?_ | refine z7 rfl rfl rfl rfl rfl rfl rfl rfl rfl rfl rfl ?_)
 refine zAp 69 (zC3 [⟨-1, 0, 0⟩, ⟨-1, 1, 0⟩]) J (AEq.ro J (fun d j hd hj => ?_)) ?_
 ·have hj : j < 3 := hj
  match d, hd, j, hj with
  | 0, _, 0, _ => rfl
  | 0, _, 1, _ => rfl
  | 0, _, 2, _ => rfl
  | 1, _, 0, _ => rfl
  | 1, _, 1, _ => rfl
  | 1, _, 2, _ => rfl
 refine zS J J J (equalMv [⟨-1, 0, 0⟩, ⟨-1, 1, 0⟩] [⟨-1, 0, 0⟩, ⟨-1, 1, 0⟩] (by decide) (by decide)) ?_
 refine rn2 ?_
 refine zS J J J cl ?_
 refine rn3 ?_
 refine zS J J J (equalI [0] [0] (by decide) (by decide)) ?_
 refine rn2 ?_
 exact zN hR J J
theorem isNaN' (n : Int) : zl Tryz.prog 80 [.int .i64 n] (.bool false) := by
 refine zb.value0 (zM (P := Tryz.prog) (fn := Tryz.f80) J J (by kernel_rfl) J (fun c hR hfix => ?_)) (fix := fun _ => False) (fun _ h => h) J J
 refine rn3 ?_
 refine zN hR J ?_
 simp [zB4]
theorem lessI' (a b : Int) : zl Tryz.prog 52 [.int .i64 a, .int .i64 b] (.bool (decide (a < b))) := by
 refine zb.value0 (zM (P := Tryz.prog) (fn := Tryz.f52) J J (by kernel_rfl) J (fun c hR hfix => ?_)) (fix := fun _ => False) (fun _ h => h) J J
 refine rn0 ?_
 refine zS J J J (isNaN' a) ?_
 refine rn6 ?_
 exact zN hR J J
/-- slices.IsSorted of a row that is sorted -/
theorem sortedY (l : List Int) (hl : l.length ≤ 1000000) (hs : ∀ j, j + 1 < l.length → l.getD j 0 ≤ l.getD (j + 1) 0) : zl Tryz.prog 16 [zp l] (.bool true) := by
 refine zb.value0 (zM (P := Tryz.prog) (fn := Tryz.f16) J J (by kernel_rfl) J (fun c hR hfix => ?_)) (fix := fun _ => False) (fun _ h => h) J J
 refine rn7 ?_
 refine zu (ι := Int) (fun i => [(0, zp l), (3, .int .i64 i)]) (fun _ => []) (fun i => -1 ≤ i ∧ i < l.length) (fun i => i.toNat) ((l.length : Nat) - 1) ⟨⟨J, J, trivial⟩, J, by omega, by omega⟩ ?_
 rintro i ⟨h1, h2⟩
 refine rn6 ?_
 refine zH J (fun h4 => ?_) (fun h4 => ?_)
 ·obtain ⟨j, rfl⟩ : ∃ j : Nat, i = ((j + 1 : Nat) : Int) := ⟨(i - 1).toNat, by omega⟩
  have e : (((j + 1 : Nat) : Int) - 1) = (j : Nat) := by omega
  have hj1 : j + 1 < l.length := by omega
  have hj0 : j < l.length := by omega
  have hle := hs j hj1
  refine rn1 ?_
  refine zd (by kernel_rfl) ?_
  refine zj (fuel := 0) [0, 1, 2, 3, 4, 5, 6, 7, 8, 9] [(0, zp l), (3, .int .i64 ((j + 1 : Nat) : Int))] ⟨J, J, trivial⟩ (by kernel_rfl) (by decide) J J ?_
  refine zJ J J (zF J) ?_
  refine zJ J J (zF J) ?_
  refine zJ J J (zf J J J J (by first | (simp only [Nat.zero_add, Int.toNat_natCast, Int.toNat_zero]; exact J) | exact J) (by omega)) ?_
  refine zJ J J (zA7 J J J) ?_
  refine zJ J J (zF J) ?_
  refine zJ J J (zF J) ?_
  refine zJ J J (zA4 J J (by omega)) ?_
  rw [e]
  refine zJ J J (zf J J J J (by first | (simp only [Nat.zero_add, Int.toNat_natCast, Int.toNat_zero]; exact J) | exact J) (by omega)) ?_
  refine zJ J J (zA7 J J J) ?_
  refine zCF J J J J J (lessI' (l.getD (j + 1) 0) (l.getD j 0)) ?_
  refine zw ?_
  refine zY (by kernel_rfl) ?_
  repeat (refine zB ?_)
  refine zH J (fun h5 => ?_) (fun h5 => ?_)
  ·exact absurd h5 (by omega)
  ·refine rn7 ?_
   exact zR ⟨(j : Nat), ⟨by omega, by omega⟩, by omega, ⟨J, by show some (AV.int .i64 (((j + 1 : Nat) : Int) - 1)) = _; rw [e], trivial⟩, J⟩
 ·refine rn5 ?_
  exact zN hR J J
theorem long_any {T : Tab} (h : TabOK T) {i : Nat} (hi : i < T.l.length) : ((zBD T).map Int.ofNat).any (eqp (i : Int)) = decide ((zAT T i).2 = zCh T) := by
 have e : ((zBD T).map Int.ofNat).any (eqp (i : Int)) = true ↔ i ∈ zBD T := by
  rw [List.any_map, List.any_eq_true]
  constructor
  ·rintro ⟨k, hk, q⟩
   have q : decide ((i : Int) = (k : Int)) = true := q
   have : i = k := by have := of_decide_eq_true q; omega
   rw [this]; exact hk
  ·intro q
   exact ⟨i, q, by show decide ((i : Int) = (i : Int)) = true; exact decide_eq_true J⟩
 have hl := h.len
 by_cases q : (zAT T i).2 = zCh T
 ·rw [decide_eq_true q]
  exact e.2 (zEm.2 ⟨by omega, q⟩)
 ·rw [decide_eq_false q, ← Bool.not_eq_true]
  intro c
  exact q (zEm.1 (e.1 c)).2
/-- RetroLongest -/
theorem zGG (r : Go.Ax.Gm.Rules) (hr : Lens r) : zl Tryz.prog 3 [ruA r] (.bool true) := by
 rcases zMR r hr 400 with cs | ⟨x, hx, cs⟩
 ·refine zb.value0 (zM (P := Tryz.prog) (fn := Tryz.f3) J J (by kernel_rfl) J (fun c hR hfix => ?_)) (fix := fun _ => False) (fun _ h => h) J J
  refine rn6 ?_
  refine zS J J J zHt ?_
  refine rn6 ?_
  refine zS J J J cs ?_
  refine rn5 ?_
  exact zN hR J J
 have hT := hx.tab
 obtain ⟨T, eT⟩ : ∃ T, zEz r x = T := ⟨_, rfl⟩
 rw [eT] at hT cs
 have hEl := hT.len
 have hmost := hT.G.most
 have hne := hT.long_ne
 obtain ⟨i0, t0, e0⟩ : ∃ a t, zBD T = a :: t := by
  cases hc : zBD T with
  | nil => exact absurd hc hne
  | cons a t => exact ⟨a, t, rfl⟩
 have hm0 : i0 ∈ zBD T := by rw [e0]; exact List.mem_cons_self ..
 obtain ⟨h1, h2⟩ := zEm.1 hm0
 have hlen : (zBD T).length ≤ T.E.length := by
  unfold zBD
  exact Nat.le_trans (List.length_filter_le ..) (by rw [List.length_range]; exact Nat.le_refl _)
 have hml : ((zBD T).map Int.ofNat).length = (zBD T).length := List.length_map ..
 have hpos : 0 < ((zBD T).map Int.ofNat).length := by rw [hml, e0]; exact Nat.zero_lt_succ _
 have hg0 : ((zBD T).map Int.ofNat).getD 0 0 = (i0 : Int) := by rw [e0]; rfl
 have csort := sortedY ((zBD T).map Int.ofNat) (by omega) (fun j hj => by
  rw [zHg, zHg]
  rw [hml] at hj
  have := List.pairwise_iff_getElem.1 (zJ1 T) j (j + 1) (by omega) hj (Nat.lt_succ_self j)
  rw [zEB 0 (show j < (zBD T).length by omega), zEB 0 hj]
  omega)
 have cl := zLR T hT
 have clen : ((zBD T).map Int.ofNat).length ≤ 9223372036854775807 := by omega
 have hany := fun {i : Nat} (hi : i < T.l.length) => long_any hT hi
 have hle := fun {i : Nat} (hi : i < T.l.length) => zLQ (T := T) (i := i) (by omega)
 have atO : ∀ {i : Nat}, i < T.l.length → atE T (i : Int) = 0 ∧ atX T (i : Int) = zAT T i := fun {i} hi => by
  have e : atE T (i : Int) = 0 := by unfold atE; rw [if_neg (by omega)]
  exact ⟨e, by unfold atX; rw [e, if_neg (by decide), Int.toNat_natCast]⟩
 generalize hL : (zBD T).map Int.ofNat = L at *
 refine zb.value0 (zM (P := Tryz.prog) (fn := Tryz.f3) J J (by kernel_rfl) J (fun c hR hfix => ?_)) (fix := fun _ => False) (fun _ h => h) J J
 refine zW ?_
 repeat (first | refine zA (zP rfl) ?_ | refine zC ?_ | refine zB ?_ | refine zK rfl ?_ | refine zAi rfl rfl ?_)
 refine zB6 1 [] J ⟨J, trivial⟩ trivial J hfix ?_
 refine rn0 ?_
 refine zS J J J zHt ?_
 refine rn6 ?_
 refine zS J J J cs ?_
 refine rn5 ?_
 refine zS J J J cl ?_
 refine rn4 ?_
 refine zg J J (fun q => ?_) (fun q => ?_)
 ·exact absurd q (by omega)
 refine rn2 ?_
 refine zS J J J csort ?_
 refine rn6 ?_
 rw [hg0]
 have ca := at_ok T hT (i0 : Int)
 obtain ⟨a1, a2⟩ := atO (i := i0) (by omega)
 rw [a1, a2] at ca
 refine zS J J J ca ?_
 refine rn4 ?_
 refine zX (poC (atP T (i0 : Int))) J J J J J J J ?_
 skip
 refine zX (zBc (zAT T i0)) J J J J J J J ?_
 refine zAt ?_
 refine zD4 6 7 [(3, zCg T), (5, zp L), (8, .int .i64 0)] J J J J ⟨J, J, J, trivial⟩ ⟨J, J, J, J, J, trivial⟩ J hfix ?_
 refine rn4 ?_
 refine zS J J J (zG7 T) ?_
 refine rn1 ?_
 refine zu (ι := Nat) (fun k => [(7, .rp (.box (zBc (zAT T i0))) 0 0), (3, zCg T), (5, zp L), (44, iN T.l.length), (45, iN k)]) (fun _ => []) (fun k => k ≤ T.l.length) (fun k => T.l.length - k) 0 ⟨⟨J, J, J, J, J, trivial⟩, J, Nat.zero_le _⟩ ?_
 intro k hk
 refine rn4 ?_
 refine zH J (fun g => ?_) (fun g => ?_)
 ·have hk' : k < T.l.length := by omega
  have ca := at_ok T hT (k : Int)
  obtain ⟨a1, a2⟩ := atO hk'
  rw [a1, a2] at ca
  have hlk := hle hk'
  have hak := hany hk'
  refine rn1 ?_
  refine zS J J J ca ?_
  refine rn4 ?_
  refine zX (poC (atP T (k : Int))) J J J J J J J ?_
  skip
  refine zX (zBc (zAT T k)) J J J J J J J ?_
  refine zAt ?_
  refine zD4 10 11 [(7, .rp (.box (zBc (zAT T i0))) 0 0), (3, zCg T), (5, zp L), (44, iN T.l.length), (45, iN k), (9, iN k), (12, .int .i64 0)] J J J J ⟨J, J, J, J, J, J, J, trivial⟩ ⟨J, J, J, J, J, J, J, J, J, trivial⟩ J hfix ?_
  skip
  refine zd (by kernel_rfl) ?_
  refine zj (fuel := 0) [0, 1, 2, 3, 4, 5, 6, 7, 8, 9, 10, 11, 12, 13, 14, 15, 16, 17, 18, 19] [(11, .rp (.box (zBc (zAT T k))) 0 0), (7, .rp (.box (zBc (zAT T i0))) 0 0), (3, zCg T), (5, zp L), (44, iN T.l.length), (45, iN k), (9, iN k), (12, .int .i64 0)] ⟨J, J, J, J, J, J, J, J, trivial⟩ (by kernel_rfl) (by decide) J J ?_
  refine zJ J J (zF J) ?_
  refine zJ J J (zBL J J) ?_
  refine zJ J J (zF J) ?_
  refine zi J J J J (zI J J J J J J) ?_
  refine zi J J J J (zD J J J J) ?_
  refine zi J J J J (zI J J J J J J) ?_
  refine zi J J J J (zD J J J J) ?_
  refine zi J J J J (zCG J J) ?_
  rw [decide_eq_false (show ¬ (zAT T k).2 > (zAT T i0).2 by omega)]
  refine zJ J J (ze J J) ?_
  refine zJ J J (zF J) ?_
  refine zi J J J J (zI J J J J J J) ?_
  refine zi J J J J (zD J J J J) ?_
  refine zi J J J J (zI J J J J J J) ?_
  refine zi J J J J (zD J J J J) ?_
  refine zi J J J J (zBj J J) ?_
  refine zi J J J J (zF J) ?_
  refine zi J J J J (zF J) ?_
  have cc := zLm L (k : Int) clen
  rw [hak, ← h2] at cc
  refine zCZ J J J J J J J cc ?_
  refine zi J J J J (zMG J J J) ?_
  generalize decide ((zAT T k).2 = (zAT T i0).2) = b
  refine zJ J J (ze J J) ?_
  refine zw ?_
  refine zY (by kernel_rfl) ?_
  cases b with
  | true =>
   refine rn5 ?_
   exact zR ⟨k + 1, by omega, by omega, ⟨J, J, J, J, J, trivial⟩, J⟩
  | false =>
   refine rn5 ?_
   exact zR ⟨k + 1, by omega, by omega, ⟨J, J, J, J, J, trivial⟩, J⟩
 ·refine rn5 ?_
  exact zN hR J J
end Go.Proofs.YtiifcejepaeepaaGreatDoor
namespace Go.Proofs.YtiifcejepaeepaaGreatDoor
open Go.Ax Go.Ax.Gm Go.RowKit
theorem rdWay {H : Type} {enc : TypeId × Value → H} {W : World} : Rd enc Tryz.prog W 143 4 zE1 (fun _ => True) :=
 (Rd.struct Tryz.underlying143 (by kernel_rfl) (RdF.cons rfl rfl (Rd.int Tryz.underlying3) (RdF.cons rfl rfl (Rd.int Tryz.underlying3) (RdF.cons rfl rfl (Rd.int Tryz.underlying3) (RdF.cons rfl rfl (Rd.int Tryz.underlying3) RdF.nil))))).map
  (fun a => (⟨a.1, a.2.1, a.2.2.1, a.2.2.2.1⟩ : Go.Ax.Gm.Way)) (fun a h => trivial) (fun a => rfl) (fun a i hi => AEq.rfl')
theorem rdPc {H : Type} {enc : TypeId × Value → H} {W : World} : Rd enc Tryz.prog W 114 4 pcC (fun p => p.ways.length ≤ 9223372036854775807) :=
 (Rd.struct Tryz.underlying114 (by kernel_rfl) (RdF.cons rfl rfl (Rd.int Tryz.underlying5) (RdF.cons rfl rfl (Rd.int Tryz.underlying3) (RdF.cons rfl rfl (Rd.int Tryz.underlying3) (RdF.cons rfl rfl (Rd.slice way0 Tryz.underlying112 (by kernel_rfl) rfl rdWay) RdF.nil))))).map
  (fun a => (⟨a.1, a.2.1, a.2.2.1, a.2.2.2.1⟩ : Go.Ax.Gm.Pc)) (fun a h => h.2.2.2.1.1) (fun a => rfl) (fun a i hi => AEq.rfl')
theorem rdEn {H : Type} {enc : TypeId × Value → H} {W : World} : Rd enc Tryz.prog W 132 4 enC (fun _ => True) :=
 (Rd.struct Tryz.underlying132 (by kernel_rfl) (RdF.cons rfl rfl (Rd.int Tryz.underlying3) (RdF.cons rfl rfl (Rd.int Tryz.underlying3) (RdF.cons rfl rfl (Rd.int Tryz.underlying3) (RdF.cons rfl rfl (Rd.bool Tryz.underlying4) RdF.nil))))).map
  (fun a => (⟨a.1, a.2.1, a.2.2.1, a.2.2.2.1⟩ : Go.Ax.Gm.En)) (fun a h => trivial) (fun a => rfl) (fun a i hi => AEq.rfl')
theorem rdRules {H : Type} {enc : TypeId × Value → H} {W : World} : Rd enc Tryz.prog W 26 11 ruC Lens :=
 (Rd.struct Tryz.underlying26 (by kernel_rfl) (RdF.cons rfl rfl (Rd.str Tryz.underlying9) (RdF.cons rfl rfl (Rd.int Tryz.underlying3) (RdF.cons rfl rfl (Rd.int Tryz.underlying3) (RdF.cons rfl rfl (Rd.slice pc0 Tryz.underlying22 (by kernel_rfl) rfl rdPc) (RdF.cons rfl rfl (Rd.ints Tryz.underlying23 (by kernel_rfl) Tryz.underlying3) (RdF.cons rfl rfl (Rd.bool Tryz.underlying4) (RdF.cons rfl rfl (Rd.bool Tryz.underlying4) (RdF.cons rfl rfl (Rd.slice en0 Tryz.underlying24 (by kernel_rfl) rfl rdEn) (RdF.cons rfl rfl (Rd.int Tryz.underlying3) (RdF.cons rfl rfl (Rd.int Tryz.underlying3) (RdF.cons rfl rfl (Rd.int Tryz.underlying3) RdF.nil)))))))))))).map
  (fun a => (⟨a.1, a.2.1, a.2.2.1, a.2.2.2.1, a.2.2.2.2.1, a.2.2.2.2.2.1, a.2.2.2.2.2.2.1, a.2.2.2.2.2.2.2.1, a.2.2.2.2.2.2.2.2.1, a.2.2.2.2.2.2.2.2.2.1, a.2.2.2.2.2.2.2.2.2.2.1⟩ : Go.Ax.Gm.Rules))
  (fun a h => ⟨h.1, h.2.2.2.1.1, h.2.2.2.1.2, h.2.2.2.2.1.1, h.2.2.2.2.2.2.2.1.1⟩) (fun a => rfl) (fun a i hi => AEq.rfl')
end Go.Proofs.YtiifcejepaeepaaGreatDoor
