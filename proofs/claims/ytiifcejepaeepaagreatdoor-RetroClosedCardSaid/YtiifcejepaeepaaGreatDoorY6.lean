import Derived.Test.YtiifcejepaeepaaGreatDoorY5
set_option linter.unusedVariables false
set_option linter.unusedSimpArgs false
set_option maxRecDepth 100000
set_option maxHeartbeats 4000000
namespace Go.Proofs.YtiifcejepaeepaaGreatDoor
open Go.Ax Go.Ax.Gm Go.RowKit Go.Ax.Idx Go.Ax.Cd
attribute [local irreducible] Ax zCC QOp zb
/-- moves.Make, player 1 -/
theorem make1_ok (r : Go.Ax.Gm.Rules) (hv : ValidR r) (cs a b : List Int) (qt : Int) (S : Sound r ⟨cs, b, a, 1, qt⟩) (m : Mv) (hm : MvOK r ⟨cs, b, a, 1, qt⟩ m) : zi Tryz.prog 67 [ruA r, poA ⟨cs, b, a, 1, qt⟩, mvA m] (poA (zAy r ⟨cs, b, a, 1, qt⟩ m)) := by
 refine zb.value0 (zL (P := Tryz.prog) (fn := Tryz.f67) J J (by kernel_rfl) J (fun c hR hfix => ?_)) (fix := fun _ => False) (fun _ h => h) J J
 have SP := zAk hv S
 have hcc : cs.length ≤ 64 := SP.c
 have hcl : (cs.length : Int) = r.w * r.h := S.cl
 have hal : a.length = r.pcs.length := S.l1
 have hn6 := hv.n6
 have hqt : 0 ≤ qt ∧ qt ≤ 200 := S.qt
 have hain : ∀ n ∈ a, 0 ≤ n ∧ n ≤ 1000 := S.c1
 have hC12 := fun s => zHV hv S s
 have hKlt := fun s => zEB S s
 obtain ⟨m1, m2, m3, m4, m5⟩ := hm
 have m2 : m.to.toNat < cs.length := m2
 have m4 : m.pc.toNat < a.length := by omega
 have m5 : (m.fr = -1 ∧ 0 < a.getD m.pc.toNat 0) ∨ (0 ≤ m.fr ∧ m.fr.toNat < cs.length) := m5
 have hapc := hain _ (zAg 0 m4)
 refine zX ?_
 repeat (first | refine zC ?_ | refine zB ?_ | refine zK rfl ?_ | refine zAm rfl rfl ?_ | refine zAM rfl rfl rfl ?_)
 refine zA0 [some ⟨26, .box (ruC r)⟩, some ⟨35, .box (poC ⟨cs, b, a, 1, qt⟩)⟩, some ⟨58, .box (mvC m)⟩, none] [none, none, none, some ⟨35, .box poZ⟩] [(3, .rp (.box (ruC r)) 0 0), (4, .rp (.box [zr cs, zr b, zr a, .int .i64 1, .int .i64 qt]) 0 0), (5, .rp (.box (mvC m)) 0 0), (6, .ptr 3 0 0)] ?_ (zCI (zw rfl) (zCI (zw rfl) (zCI (zw rfl) (zCJ zCf)))) rfl ?_ ⟨⟨.ptr 0 0 0, rfl, .inr (.inr ⟨rfl, fun o ho => by cases ho; exact Nat.zero_lt_one⟩)⟩, ⟨.ptr 1 0 0, rfl, .inr (.inr ⟨rfl, fun o ho => by cases ho; exact Nat.zero_lt_one⟩)⟩, ⟨.ptr 2 0 0, rfl, .inr (.inr ⟨rfl, fun o ho => by cases ho; exact Nat.zero_lt_one⟩)⟩, ⟨_, rfl, .inl rfl⟩, trivial⟩ ?_
 ·intro h o ho
  match h, ho with
  | 0, ho => exact ho
  | 1, ho => exact ho
  | 2, ho => exact ho
  | 3, ho => simp at ho
  | _ + 4, ho => simp at ho
 ·intro h o ho
  match h, ho with
  | 0, ho => simp at ho
  | 1, ho => simp at ho
  | 2, ho => simp at ho
  | 3, ho => cases ho; exact ⟨fun o h => by simp at h, _, rfl, rfl, rfl, rfl, fun _ _ _ _ => .inl rfl⟩
  | _ + 4, ho => simp at ho
 refine rn6 ?_
 refine zJi (.agg (poS ⟨cs, b, a, 1, qt⟩ 6)) [none, none, none, some ⟨35, .box poZ⟩, some ⟨35, .box (poS ⟨cs, b, a, 1, qt⟩ 6)⟩, some ⟨35, .box (poS ⟨cs, b, a, 1, qt⟩ 6)⟩, some ⟨3, .ints .i64 cs⟩, some ⟨3, .ints .i64 b⟩, some ⟨3, .ints .i64 a⟩] J J J (zJt _ SP) J J ?_
 repeat (refine zAM rfl rfl rfl ?_)
 refine zV (poS ⟨cs, b, a, 1, qt⟩ 6) J J J J J J J ?_
 refine zA6 [none, none, none, some ⟨35, .box poZ⟩, none, none, some ⟨3, .ints .i64 cs⟩, some ⟨3, .ints .i64 b⟩, some ⟨3, .ints .i64 a⟩, some ⟨35, .box [.sl 6 0 cs.length, .sl 7 0 b.length, .sl 8 0 a.length, .int .i64 1, .int .i64 qt]⟩] (zAz.drop (zAz.drop (zAz.drop (zAz.eqv (CEq.refl _) (zAz.drop (zAz.drop (zAz.refl _))))))) ?_
 repeat (first | refine zA (zP rfl) ?_ | refine zC ?_ | refine zB ?_ | refine zX ?_ | refine zK rfl ?_ | refine zA (zT rfl rfl rfl rfl rfl) ?_ | refine zA (zDf rfl rfl) ?_ | refine zA (zh rfl rfl rfl rfl rfl (by first | (simp only [Nat.zero_add, Int.toNat_natCast, Int.toNat_zero]; exact rfl) | exact rfl) (by omega)) ?_ | refine zA (zAv rfl rfl rfl rfl (by first | assumption | omega)) ?_ | refine zA (zD rfl rfl rfl rfl) ?_ | refine zA (zM rfl rfl rfl rfl rfl rfl) ?_ | refine zA (zI rfl rfl rfl rfl rfl rfl) ?_)
 obtain ⟨took, htk⟩ : ∃ took, cs.getD m.to.toNat 0 = took := ⟨_, rfl⟩
 have htk2 : zAC ⟨cs, b, a, 1, qt⟩ m.to.toNat = took := htk
 have ht12 := hC12 m.to.toNat
 have htK : took ≠ 0 → zAQ took < r.pcs.length := fun q => by
  have h := hKlt m.to.toNat
  rw [htk2] at h
  exact zFF q h.1 h.2
 rw [htk2] at ht12
 obtain ⟨C1, hC1⟩ : ∃ C1, (if 0 ≤ m.fr then cs.set m.fr.toNat 0 else cs) = C1 := ⟨_, rfl⟩
 obtain ⟨A1, hA1⟩ : ∃ A1, (if 0 ≤ m.fr then a else a.set m.pc.toNat (a.getD m.pc.toNat 0 - 1)) = A1 := ⟨_, rfl⟩
 have hC1l : C1.length = cs.length := by rw [← hC1]; split <;> simp
 have hA1l : A1.length = a.length := by rw [← hA1]; split <;> simp
 have hA1in : ∀ i, -1 ≤ A1.getD i 0 ∧ A1.getD i 0 ≤ 1000 := fun i => by
  rw [← hA1]
  split
  ·by_cases q : i < a.length
   ·have := hain _ (zAg 0 q); omega
   ·rw [List.getD, List.getElem?_eq_none (by omega)]; exact ⟨by decide, by decide⟩
  ·by_cases q : i < a.length
   ·by_cases q2 : m.pc.toNat = i
    ·rw [← q2, List.getD, List.getElem?_set_self m4]; show -1 ≤ a.getD m.pc.toNat 0 - 1 ∧ a.getD m.pc.toNat 0 - 1 ≤ 1000; omega
    ·rw [List.getD, List.getElem?_set_ne q2]; have := hain _ (zAg 0 q); rw [List.getD] at this; omega
   ·rw [List.getD, List.getElem?_eq_none (by rw [List.length_set]; omega)]; exact ⟨by decide, by decide⟩
 refine zBh 8 (.int .i64 took) J (AEq.of_eq (by rw [← htk])) ?_
 apply zAD (H := [none, none, none, some ⟨35, .box poZ⟩, none, none, some ⟨3, .ints .i64 C1⟩, some ⟨3, .ints .i64 b⟩, some ⟨3, .ints .i64 A1⟩, some ⟨35, .box [.sl 6 0 cs.length, .sl 7 0 b.length, .sl 8 0 a.length, .int .i64 1, .int .i64 qt]⟩]) [(3, .rp (.box (ruC r)) 0 0), (4, .rp (.box [zr cs, zr b, zr a, .int .i64 1, .int .i64 qt]) 0 0), (5, .rp (.box (mvC m)) 0 0), (6, .ptr 3 0 0), (7, .ptr 9 0 0), (8, .int .i64 took)]
 ·intro fin
  refine zF J (fun f1 => ?_) (fun f1 => ?_)
  ·have f1 : 0 ≤ m.fr := f1
   rw [if_pos f1] at hC1 hA1
   have f2 : m.fr.toNat < cs.length := by rcases m5 with q | q; omega; exact q.2
   subst hC1 hA1
   repeat (first | refine zC ?_ | refine zB ?_ | refine zK rfl ?_ | refine zA (zT rfl rfl rfl rfl rfl) ?_ | refine zA (zh rfl rfl rfl rfl rfl (by first | (simp only [Nat.zero_add, Int.toNat_natCast, Int.toNat_zero]; exact rfl) | exact rfl) (by omega)) ?_ | refine zA (zD rfl rfl rfl rfl) ?_ | refine zA (zM rfl rfl rfl rfl rfl rfl) ?_ | refine zA (zI rfl rfl rfl rfl rfl rfl) ?_ | refine zAF rfl rfl rfl rfl rfl rfl rfl (by first | assumption | (show _ < List.length _; first | assumption | omega)) ?_)
   exact fin _ ⟨J, J, J, J, J, J, trivial⟩
  ·have f1 : ¬ 0 ≤ m.fr := f1
   rw [if_neg f1] at hC1 hA1
   subst hC1 hA1
   skip
   refine zd (by kernel_rfl) ?_
   refine zj (fuel := 1) [0, 1, 2, 3, 4, 5, 6, 7, 8, 9, 10] [(3, .rp (.box (ruC r)) 0 0), (4, .rp (.box [zr cs, zr b, zr a, .int .i64 1, .int .i64 qt]) 0 0), (5, .rp (.box (mvC m)) 0 0), (6, .ptr 3 0 0), (7, .ptr 9 0 0), (8, .int .i64 took)] ⟨J, J, J, J, J, J, trivial⟩ (by kernel_rfl) (by decide) J J ?_
   refine zJ J J (zI J J J J J J) ?_
   refine zJ J J (zD J J J J) ?_
   refine zJ J J (zM J J J J J J) ?_
   refine zJ J J (zAJ J J J J J (by show (0 : Int) ≤ 1 ∧ (1 : Int) < 2; decide)) ?_
   refine zJ J J (zT J J J J J) ?_
   refine zJ J J (zI J J J J J J) ?_
   refine zJ J J (zD J J J J) ?_
   refine zJ J J (zh J J J J J (by first | (simp only [Nat.zero_add, Int.toNat_natCast, Int.toNat_zero]; exact J) | exact J) (by omega)) ?_
   refine zJ J J (zAv J J J J (by first | assumption | omega)) ?_
   refine zJ J J (zBC J J (by omega)) ?_
   refine zJ J J (zh J J J J J (by first | (simp only [Nat.zero_add, Int.toNat_natCast, Int.toNat_zero]; exact J) | exact J) (by omega)) ?_
   refine zz ?_
   refine zH (is := [11]) (by kernel_rfl) (by simp) J ⟨fun o ho => ?_, trivial⟩
   all_goals (cases ho)
   refine rn7 ?_
   refine zY (by kernel_rfl) ?_
   repeat (refine zB ?_)
   exact fin _ ⟨J, J, J, J, J, J, trivial⟩
 obtain ⟨C2, hC2⟩ : ∃ C2, C1.set m.to.toNat (2 * m.pc + 1 + 1) = C2 := ⟨_, rfl⟩
 have hC2l : C2.length = cs.length := by rw [← hC2, List.length_set, hC1l]
 obtain ⟨A2, hA2⟩ : ∃ A2, (if 0 < took ∧ r.keeps = true then A1.set (zAQ took) (min (A1.getD (zAQ took) 0 + 1) 1000) else A1) = A2 := ⟨_, rfl⟩
 have hmt : m.to.toNat < C1.length := by omega
 have hmt2 : m.to.toNat < (Cells.ints .i64 C1).len := hmt
 obtain ⟨q3, hq3⟩ : ∃ q3, (if 0 < took ∨ m.fr < 0 then 0 else min (qt + 1) 200) = q3 := ⟨_, rfl⟩
 repeat (first | refine zX ?_ | refine zK rfl ?_ | refine zA (zT rfl rfl rfl rfl rfl) ?_ | refine zA (zD rfl rfl rfl rfl) ?_ | refine zA (zM rfl rfl rfl rfl rfl rfl) ?_ | refine zA (zI rfl rfl rfl rfl rfl rfl) ?_)
 refine zA (zCe J J (by omega)) ?_
 repeat (first | refine zA (zG rfl) ?_ | refine zC ?_ | refine zB ?_ | refine zX ?_ | refine zK rfl ?_ | refine zA (zCS rfl rfl) ?_ | refine zA (zA4 rfl rfl (by omega)) ?_ | refine zA (zh rfl rfl rfl rfl rfl (by first | (simp only [Nat.zero_add, Int.toNat_natCast, Int.toNat_zero]; exact rfl) | exact rfl) (by omega)) ?_ | refine zA (zD rfl rfl rfl rfl) ?_ | refine zA (zI rfl rfl rfl rfl rfl rfl) ?_ | refine zAF rfl rfl rfl rfl rfl rfl rfl (by first | assumption | (show _ < List.length _; first | assumption | omega)) ?_)
 refine zAe [none, none, none, some ⟨35, .box poZ⟩, none, none, some ⟨3, .ints .i64 C2⟩, some ⟨3, .ints .i64 b⟩, some ⟨3, .ints .i64 A1⟩, some ⟨35, .box [.sl 6 0 cs.length, .sl 7 0 b.length, .sl 8 0 a.length, .int .i64 1, .int .i64 qt]⟩] (by rw [← hC2]; rfl) ?_
 apply zAD (H := [none, none, none, some ⟨35, .box poZ⟩, none, none, some ⟨3, .ints .i64 C2⟩, some ⟨3, .ints .i64 b⟩, some ⟨3, .ints .i64 A2⟩, some ⟨35, .box [.sl 6 0 cs.length, .sl 7 0 b.length, .sl 8 0 a.length, .int .i64 1, .int .i64 qt]⟩]) [(3, .rp (.box (ruC r)) 0 0), (4, .rp (.box [zr cs, zr b, zr a, .int .i64 1, .int .i64 qt]) 0 0), (5, .rp (.box (mvC m)) 0 0), (6, .ptr 3 0 0), (7, .ptr 9 0 0), (8, .int .i64 took)]
 ·intro fin
  refine zf J J (fun f1 => ?_) (fun f1 => ?_)
  ·have f1 : 0 < took := f1
   refine zAp ?_
   refine zAG J (fun f2 => ?_) (fun f2 => ?_)
   ·rw [if_pos ⟨f1, f2⟩] at hA2
    have hKl : zAQ took < A1.length := by have := htK (by omega); omega
    have hKl2 : zAQ took < (Cells.ints .i64 A1).len := hKl
    have hKC : (took - 1) / 2 = ((zAQ took : Nat) : Int) := by unfold zAQ; rw [Int.tdiv_eq_ediv_of_nonneg (by omega)]; omega
    have hKin := hA1in (zAQ took)
    generalize zAQ took = K at hA2 hKl hKl2 hKC hKin
    refine zX ?_
    repeat (first | refine zA (zG rfl) ?_ | refine zA (zP rfl) ?_ | refine zC ?_ | refine zB ?_ | refine zK rfl ?_ | refine zA (zBC rfl rfl (by omega)) ?_ | refine zA (zG2 rfl rfl (by omega)) ?_)
    refine zBh 9 (iN K) J (AEq.of_eq (by rw [hKC])) ?_
    refine zd (by kernel_rfl) ?_
    refine zj (fuel := 1) [0, 1, 2, 3, 4, 5, 6, 7, 8, 9, 10, 11, 12, 13, 14, 15, 16] [(3, .rp (.box (ruC r)) 0 0), (4, .rp (.box [zr cs, zr b, zr a, .int .i64 1, .int .i64 qt]) 0 0), (5, .rp (.box (mvC m)) 0 0), (6, .ptr 3 0 0), (7, .ptr 9 0 0), (8, .int .i64 took), (9, iN K)] ⟨J, J, J, J, J, J, J, trivial⟩ (by kernel_rfl) (by decide) J J ?_
    refine zJ J J (zI J J J J J J) ?_
    refine zJ J J (zD J J J J) ?_
    refine zJ J J (zM J J J J J J) ?_
    refine zJ J J (zAJ J J J J J (by show (0 : Int) ≤ 1 ∧ (1 : Int) < 2; decide)) ?_
    refine zJ J J (zT J J J J J) ?_
    refine zJ J J (zG J) ?_
    refine zJ J J (zI J J J J J J) ?_
    refine zJ J J (zD J J J J) ?_
    refine zJ J J (zM J J J J J J) ?_
    refine zJ J J (zAJ J J J J J (by show (0 : Int) ≤ 1 ∧ (1 : Int) < 2; decide)) ?_
    refine zJ J J (zT J J J J J) ?_
    refine zJ J J (zG J) ?_
    refine zJ J J (zh J J J J J (by first | (simp only [Nat.zero_add, Int.toNat_natCast, Int.toNat_zero]; exact J) | exact J) (by omega)) ?_
    refine zJ J J (zAv J J J J (by first | assumption | omega)) ?_
    refine zJ J J (zA4 J J (by omega)) ?_
    refine zJ J J (zKK J J) ?_
    refine zJ J J (zh J J J J J (by first | (simp only [Nat.zero_add, Int.toNat_natCast, Int.toNat_zero]; exact J) | exact J) (by omega)) ?_
    refine zz ?_
    refine zH (is := [17]) (by kernel_rfl) (by simp) J ⟨fun o ho => ?_, trivial⟩
    all_goals (cases ho)
    refine rn7 ?_
    refine zY (by kernel_rfl) ?_
    repeat (refine zB ?_)
    have e : (if A1.getD K 0 + 1 ≤ 1000 then A1.getD K 0 + 1 else (1000 : Int)) = (if 1000 < A1.getD K 0 + 1 then 1000 else A1.getD K 0 + 1) := by split <;> split <;> omega
    refine zAa [none, none, none, some ⟨35, .box poZ⟩, none, none, some ⟨3, .ints .i64 C2⟩, some ⟨3, .ints .i64 b⟩, some ⟨3, .ints .i64 A2⟩, some ⟨35, .box [.sl 6 0 cs.length, .sl 7 0 b.length, .sl 8 0 a.length, .int .i64 1, .int .i64 qt]⟩] (by rw [← hA2, Int.min_def, e]; rfl) ?_
    exact fin _ ⟨J, J, J, J, J, J, trivial⟩
   ·rw [if_neg (fun q => by rw [f2] at q; exact Bool.false_ne_true q.2)] at hA2
    subst hA2
    refine zFO ?_
    exact fin _ ⟨J, J, J, J, J, J, trivial⟩
  ·have f1 : ¬ 0 < took := f1
   rw [if_neg (fun q => f1 q.1)] at hA2
   subst hA2
   refine zFO ?_
   exact fin _ ⟨J, J, J, J, J, J, trivial⟩
 repeat (first | refine zA (zG rfl) ?_ | refine zC ?_ | refine zB ?_ | refine zX ?_ | refine zK rfl ?_ | refine zA (zCS rfl rfl) ?_ | refine zA (zA4 rfl rfl (by omega)) ?_ | refine zA (zD rfl rfl rfl rfl) ?_ | refine zA (zKK rfl rfl) ?_ | refine zA (zM rfl rfl rfl rfl rfl rfl) ?_ | refine zA (zI rfl rfl rfl rfl rfl rfl) ?_ | refine zAF rfl rfl rfl rfl rfl rfl rfl Nat.zero_lt_one ?_)
 refine zAe [none, none, none, some ⟨35, .box poZ⟩, none, none, some ⟨3, .ints .i64 C2⟩, some ⟨3, .ints .i64 b⟩, some ⟨3, .ints .i64 A2⟩, some ⟨35, .box [.sl 6 0 cs.length, .sl 7 0 b.length, .sl 8 0 a.length, .int .i64 1, .int .i64 (if 200 < qt + 1 then 200 else qt + 1)]⟩] J ?_
 apply zAD (H := [none, none, none, some ⟨35, .box poZ⟩, none, none, some ⟨3, .ints .i64 C2⟩, some ⟨3, .ints .i64 b⟩, some ⟨3, .ints .i64 A2⟩, some ⟨35, .box [.sl 6 0 cs.length, .sl 7 0 b.length, .sl 8 0 a.length, .int .i64 1, .int .i64 q3]⟩]) [(3, .rp (.box (ruC r)) 0 0), (4, .rp (.box [zr cs, zr b, zr a, .int .i64 1, .int .i64 qt]) 0 0), (5, .rp (.box (mvC m)) 0 0), (6, .ptr 3 0 0), (7, .ptr 9 0 0), (8, .int .i64 took)]
 ·intro fin
  refine zf J J (fun f1 => ?_) (fun f1 => ?_)
  ·have f1 : 0 < took := f1
   rw [if_pos (.inl f1)] at hq3
   subst hq3
   repeat (first | refine zC ?_ | refine zB ?_ | refine zK rfl ?_ | refine zAO rfl rfl rfl ?_ | refine zAY rfl ?_ | refine zA (ze rfl rfl) ?_ | refine zA (zM rfl rfl rfl rfl rfl rfl) ?_ | refine zAF rfl rfl rfl rfl rfl rfl rfl Nat.zero_lt_one ?_)
   exact fin _ ⟨J, J, J, J, J, J, trivial⟩
  ·have f1 : ¬ 0 < took := f1
   repeat (first | refine zC ?_ | refine zB ?_ | refine zl rfl rfl ?_ | refine zA (zB3 rfl rfl) ?_ | refine zA (ze rfl rfl) ?_ | refine zA (zD rfl rfl rfl rfl) ?_ | refine zA (zI rfl rfl rfl rfl rfl rfl) ?_)
   refine zF J (fun f2 => ?_) (fun f2 => ?_)
   ·have f2 : m.fr < 0 := f2
    rw [if_pos (.inr f2)] at hq3
    subst hq3
    repeat (first | refine zC ?_ | refine zB ?_ | refine zK rfl ?_ | refine zA (zM rfl rfl rfl rfl rfl rfl) ?_ | refine zAF rfl rfl rfl rfl rfl rfl rfl Nat.zero_lt_one ?_)
    exact fin _ ⟨J, J, J, J, J, J, trivial⟩
   ·have f2 : ¬ m.fr < 0 := f2
    rw [if_neg (fun q => q.elim f1 f2)] at hq3
    refine zFO ?_
    have e : (if 200 < qt + 1 then (200 : Int) else qt + 1) = q3 := by
     rw [← hq3, Int.min_def]
     split <;> split <;> omega
    refine zAa [none, none, none, some ⟨35, .box poZ⟩, none, none, some ⟨3, .ints .i64 C2⟩, some ⟨3, .ints .i64 b⟩, some ⟨3, .ints .i64 A2⟩, some ⟨35, .box [.sl 6 0 cs.length, .sl 7 0 b.length, .sl 8 0 a.length, .int .i64 1, .int .i64 q3]⟩] (by rw [e]) ?_
    exact fin _ ⟨J, J, J, J, J, J, trivial⟩
 repeat (first | refine zC ?_ | refine zB ?_ | refine zX ?_ | refine zK rfl ?_ | refine zA (zBC rfl rfl (by omega)) ?_ | refine zA (zD rfl rfl rfl rfl) ?_ | refine zA (zM rfl rfl rfl rfl rfl rfl) ?_ | refine zA (zI rfl rfl rfl rfl rfl rfl) ?_ | refine zA (qpp rfl rfl rfl rfl rfl rfl rfl) ?_ | refine zAF rfl rfl rfl rfl rfl rfl rfl Nat.zero_lt_one ?_)
 have hA2l : A2.length = a.length := by rw [← hA2]; split <;> simp [hA1l]
 have hmk : zAy r ⟨cs, b, a, 1, qt⟩ m = ⟨C2, b, A2, 1 - 1, q3⟩ := by
  have e : zAy r ⟨cs, b, a, 1, qt⟩ m = ⟨(if 0 ≤ m.fr then cs.set m.fr.toNat 0 else cs).set m.to.toNat (2 * m.pc + 1 + 1), b, (if 0 < zAC ⟨cs, b, a, 1, qt⟩ m.to.toNat ∧ r.keeps = true then (if 0 ≤ m.fr then a else a.set m.pc.toNat (a.getD m.pc.toNat 0 - 1)).set (zAQ (zAC ⟨cs, b, a, 1, qt⟩ m.to.toNat)) (min ((if 0 ≤ m.fr then a else a.set m.pc.toNat (a.getD m.pc.toNat 0 - 1)).getD (zAQ (zAC ⟨cs, b, a, 1, qt⟩ m.to.toNat)) 0 + 1) 1000) else (if 0 ≤ m.fr then a else a.set m.pc.toNat (a.getD m.pc.toNat 0 - 1))), 1 - 1, if 0 < zAC ⟨cs, b, a, 1, qt⟩ m.to.toNat ∨ m.fr < 0 then 0 else min (qt + 1) 200⟩ := rfl
  rw [e, htk2, hC1, hA1, hC2, hA2, hq3]
 refine zV [.sl 6 0 cs.length, .sl 7 0 b.length, .sl 8 0 a.length, .int .i64 (1 - 1), .int .i64 q3] J J J J J J J ?_
 refine rn7 ?_
 refine zA0 [none, none, none, none, none, none, some ⟨3, .ints .i64 C2⟩, some ⟨3, .ints .i64 b⟩, some ⟨3, .ints .i64 A2⟩, none] [none, none, none, some ⟨35, .box [.ro (.ints .i64 C2) 0 cs.length, .ro (.ints .i64 b) 0 b.length, .ro (.ints .i64 A2) 0 a.length, .int .i64 (1 - 1), .int .i64 q3]⟩, none, none, none, none, none, none] [(6, .ptr 3 0 0)] ?_ (zCJ (zCJ (zCJ (zCJ (zCJ (zCJ (zCI zAK (zCI zAK (zCI zAK (zCJ zCf)))))))))) J ?_ (zBz ⟨J, trivial⟩) ?_
 ·intro h o ho
  match h, ho with
  | 0, ho => simp at ho
  | 1, ho => simp at ho
  | 2, ho => simp at ho
  | 3, ho => simp at ho
  | 4, ho => simp at ho
  | 5, ho => simp at ho
  | 6, ho => exact ho
  | 7, ho => exact ho
  | 8, ho => exact ho
  | 9, ho => simp at ho
  | _ + 10, ho => simp at ho
 ·intro h o ho
  match h, ho with
  | 0, ho => simp at ho
  | 1, ho => simp at ho
  | 2, ho => simp at ho
  | 3, ho =>
   cases ho
   refine ⟨fun o h => by simp at h, ⟨35, .box [.sl 6 0 cs.length, .sl 7 0 b.length, .sl 8 0 a.length, .int .i64 (1 - 1), .int .i64 q3]⟩, J, J, J, J, fun i j hi hj => ?_⟩
   obtain rfl : i = 0 := Nat.lt_one_iff.1 hi
   have hj : j < 5 := hj
   match j, hj with
   | 0, _ => exact .inr (.inr ⟨rfl, fun o ho => by cases ho; show 0 + cs.length ≤ C2.length; omega⟩)
   | 1, _ => exact .inr (.inr ⟨rfl, fun o ho => by cases ho; show 0 + b.length ≤ b.length; omega⟩)
   | 2, _ => exact .inr (.inr ⟨rfl, fun o ho => by cases ho; show 0 + a.length ≤ A2.length; omega⟩)
   | 3, _ => exact .inl rfl
   | 4, _ => exact .inl rfl
  | 4, ho => simp at ho
  | 5, ho => simp at ho
  | 6, ho => simp at ho
  | 7, ho => simp at ho
  | 8, ho => simp at ho
  | 9, ho => simp at ho
  | _ + 10, ho => simp at ho
 repeat (refine z7 ?_)
 refine zN hR J ?_
 rw [hmk]
 show AV.agg [.ro (.ints .i64 C2) 0 cs.length, .ro (.ints .i64 b) 0 b.length, .ro (.ints .i64 A2) 0 a.length, .int .i64 (1 - 1), .int .i64 q3] = AV.agg [zr C2, zr b, zr A2, .int .i64 (1 - 1), .int .i64 q3]
 unfold zr
 rw [hC2l, hA2l]
/-- moves.Make -/
theorem zLY (r : Go.Ax.Gm.Rules) (hv : ValidR r) (p : Pos) (S : Sound r p) (m : Mv) (hm : MvOK r p m) : zi Tryz.prog 67 [ruA r, poA p, mvA m] (poA (zAy r p m)) := by
 obtain ⟨cs, h0, h1, turn, qt⟩ := p
 rcases S.tn with q | q
 ·have q : turn = 0 := q
  subst q
  exact make0_ok r hv cs h0 h1 qt S m hm
 ·have q : turn = 1 := q
  subst q
  exact make1_ok r hv cs h1 h0 qt S m hm
theorem zFE {r : Go.Ax.Gm.Rules} (hv : ValidR r) {p : Pos} (S : Sound r p) : zi Tryz.prog 86 [poA p] (.str (keyT p)) :=
 key_ok p (zAk hv S) S.tn (fun c hc => by have := S.cs c hc; have := hv.n6; omega) S.c0 S.c1
def zB1 (l : List Pos) : List AV := l.map (fun p => .str (keyT p))
def zCU (n : Nat) : List AV := (List.range n).map (fun i : Nat => iN i)
abbrev zC9 (nx : List (List Nat)) : Cells := zCV [] 1 (fun row : List Nat => [zr (row.map Int.ofNat)]) nx
abbrev tbC (r : Go.Ax.Gm.Rules) (l n : Nat) (e : AV) : List AV := [.str r.name, .int .i64 r.w, .int .i64 r.h, .ro (zAU r.pcs) 0 r.pcs.length, zr r.start, .bool r.falls, .bool r.keeps, .ro (zEj r.ends) 0 r.ends.length, .int .i64 r.blocked, .int .i64 r.quiet, .int .i64 r.rep, .sl 2 0 l, .sl 3 0 n, e, .mp 0]
abbrev zIE (r : Go.Ax.Gm.Rules) (l : List Pos) (nx : List (List Nat)) (L : List Int) : zO :=
 [some ⟨95, .mp (zB1 l) (zCU l.length)⟩, some ⟨97, .box (tbC r l.length nx.length .nil)⟩, some ⟨35, zBd l⟩, some ⟨23, zC9 nx⟩, some ⟨3, .ints .i64 L⟩]
theorem zCv (l : List Pos) : ∀ x ∈ zB1 l, zDc .str x = true := fun x hx => by
 obtain ⟨p, _, rfl⟩ := List.mem_map.1 hx
 rfl
theorem zL9 {l : List Pos} {i : Nat} (h : i < l.length) : (zB1 l)[i]? = some (.str (keyT (l.getD i zn))) := by
 unfold zB1
 rw [List.getElem?_map, List.getElem?_eq_getElem h]; simp [List.getD, h]
theorem zGp {n i : Nat} (h : i < n) : (zCU n)[i]? = some (iN i) := by
 unfold zCU
 rw [List.getElem?_map, List.getElem?_range h]; rfl
theorem zGc {l : List Pos} {p : Pos} (h : zA8 l p < l.length) : (zB1 l)[zA8 l p]? = some (.str (keyT p)) := by
 rw [zL9 h, zJI h]; rfl
theorem zEo {r : Go.Ax.Gm.Rules} (hv : ValidR r) {l : List Pos} {p : Pos} (S : Sound r p) (G : ∀ q ∈ l, Sound r q ∧ q.quiet = 0) (h : ¬ zA8 l p < l.length) : AV.str (keyT p) ∉ zB1 l := fun hm => by
 obtain ⟨q, hq, e⟩ := List.mem_map.1 hm
 have e := key_inj hv (G q hq).1 S (AV.str.inj e)
 rw [zGh (G q hq).2] at e
 exact idx_no h (e ▸ hq)
theorem zGW {n : Nat} : ∀ {l : List AV}, (∀ x ∈ l, zCE n x = true) → zBs n l = true
 | [], _ => rfl
 | x :: l, h => by
  show (zCE n x && zBs n l) = true
  rw [h x (List.mem_cons_self ..), zGW (fun y hy => h y (List.mem_cons_of_mem _ hy))]; rfl
theorem zHk {n : Nat} (l : List Pos) (m : Nat) : zAw n (.mp (zB1 l) (zCU m)) :=
 ⟨zGW (fun x hx => by obtain ⟨p, _, rfl⟩ := List.mem_map.1 hx; rfl), zGW (fun x hx => by obtain ⟨p, _, rfl⟩ := List.mem_map.1 hx; rfl)⟩
theorem zFJ {n : Nat} (l : List Pos) : zAw n (zBd l) := fun i j _ hj => by
 have hj : j < 5 := hj
 match j, hj with
 | 0, _ => rfl
 | 1, _ => rfl
 | 2, _ => rfl
 | 3, _ => rfl
 | 4, _ => rfl
theorem zH6 {n : Nat} (nx : List (List Nat)) : zAw n (zC9 nx) := fun i j _ hj => by
 obtain rfl : j = 0 := Nat.lt_one_iff.1 hj
 rfl
theorem zIF (r : Go.Ax.Gm.Rules) (l : List Pos) (nx : List (List Nat)) (L : List Int) : ∀ (h : Nat) (o : AObj), (zIE r l nx L)[h]? = some (some o) → zAw (zIE r l nx L).length o.c :=
 zBx (zHk l _) (zBx (zHC rfl) (zBx (zFJ l) (zBx (zH6 nx) (zBx (fun _ _ _ _ => rfl) zBV))))
theorem zEl {h : Nat} : ∀ {l : List AV}, (∀ x ∈ l, x.forget h = x) → AV.forgets h l = l
 | [], _ => rfl
 | x :: l, q => by
  show x.forget h :: AV.forgets h l = x :: l
  rw [q x (List.mem_cons_self ..), zEl (fun y hy => q y (List.mem_cons_of_mem _ hy))]
theorem zDd {h : Nat} (l : List Pos) (m : Nat) : (Cells.mp (zB1 l) (zCU m)).forget h = .mp (zB1 l) (zCU m) := by
 show Cells.mp (AV.forgets h (zB1 l)) (AV.forgets h (zCU m)) = _
 rw [zEl (fun x hx => by obtain ⟨p, _, rfl⟩ := List.mem_map.1 hx; rfl), zEl (fun x hx => by obtain ⟨p, _, rfl⟩ := List.mem_map.1 hx; rfl)]
theorem zB5 {α : Type} {d : α} {n h : Nat} {e : α → List AV} {l : List α} (q : ∀ a j, ((e a).getD j .any).forget h = (e a).getD j .any) : (zCV d n e l).forget h = zCV d n e l := by
 show Cells.fn l.length n (fun i j => ((e (l.getD i d)).getD j .any).forget h) = _
 simp only [q]; rfl
theorem zCx (a : Pos) (j k : Nat) : ((poC a).getD j .any).forget k = (poC a).getD j .any := by
 match j with
 | 0 => rfl
 | 1 => rfl
 | 2 => rfl
 | 3 => rfl
 | 4 => rfl
 | j + 5 => rfl
theorem zDi (a : List Nat) (j k : Nat) : (([zr (a.map Int.ofNat)] : List AV).getD j .any).forget k = ([zr (a.map Int.ofNat)] : List AV).getD j .any := by
 match j with
 | 0 => rfl
 | j + 1 => rfl
theorem zIp (l : List Pos) (p : Pos) : zB1 l ++ [.str (keyT p)] = zB1 (l ++ [zBn p]) := by unfold zB1; rw [List.map_append]; rfl
theorem zI3 (n : Nat) : zCU n ++ [iN n] = zCU (n + 1) := by unfold zCU; rw [List.range_succ, List.map_append]; rfl
/-- (*retro.Table).add -/
theorem add_ok (r : Go.Ax.Gm.Rules) (hv : ValidR r) (l : List Pos) (nx : List (List Nat)) (L : List Int) (p : Pos) (S : Sound r p) (G : ∀ q ∈ l, Sound r q ∧ q.quiet = 0) (hl : l.length ≤ 3001) :
 zb Tryz.prog 78 [.ptr 1 0 0, poA p] (zIE r l nx L) (fun h => h < 5 ∧ h ≠ 2) (fun v H => v = iN (zA8 l p) ∧ H = zIE r (zCX l p) nx L) := by
 have hc : zb Tryz.prog 78 [.ptr 1 0 0, poA p] (zIE r l nx L) (fun h => h < 5 ∧ h ≠ 2) (fun v H => v = iN (zA8 l p) ∧ ∃ x, H = zIE r (zCX l p) nx L ++ [x]) := by
  refine zL (P := Tryz.prog) (fn := Tryz.f78) J J (by kernel_rfl) J (fun c hR hfix => ?_)
  refine rn6 ?_
  refine zQ J J J (zFE hv S) ?_
  refine rn8 ?_
  by_cases hi : zA8 l p < l.length
  ·have hadd : zCX l p = l := by unfold zCX; rw [if_pos hi]
   rw [hadd] at hR
   refine zA (zEN J (.str J) J J J J (zCv l) (zA8 l p) (zGc hi) (zGp hi)) ?_
   refine rn5 ?_
   exact zN hR J ⟨J, _, J⟩
  ·have hadd : zCX l p = l ++ [zBn p] := by unfold zCX; rw [if_neg hi]
   have hidx : zA8 l p = l.length := by have := zJJ l p; omega
   rw [hadd, hidx] at hR
   refine zA (zDq J (.str J) J J J J J J J J (zCv l) (zEo hv S G hi)) ?_
   repeat (first | refine zA (zG rfl) ?_ | refine zA (zP rfl) ?_ | refine zC ?_ | refine zB ?_ | refine zX ?_ | refine zK rfl ?_ | refine zAY rfl ?_ | refine zA (zT rfl rfl rfl rfl rfl) ?_ | refine zA (zDh rfl) ?_ | refine zA (zAd rfl rfl) ?_ | refine zA (zA5 rfl rfl rfl) ?_ | refine zA (zZ rfl) ?_ | refine zA (zM rfl rfl rfl rfl rfl rfl) ?_ | refine zAF rfl rfl rfl rfl rfl rfl rfl Nat.zero_lt_one ?_)
   refine zEe J (.str J) J J J J J (zCv l) (zEo hv S G hi) ?_
   refine rn0 ?_
   have hll : (l ++ [zBn p]).length = l.length + 1 := by rw [List.length_append]; rfl
   refine zAa [some ⟨95, .mp (zB1 (l ++ [zBn p])) (zCU (l.length + 1))⟩, some ⟨97, .box (tbC r l.length nx.length .nil)⟩, some ⟨35, zBd l⟩, some ⟨23, zC9 nx⟩, some ⟨3, .ints .i64 L⟩, some ⟨35, .box (poC (zBn p))⟩] (by rw [← zIp, ← zI3]; rfl) ?_
   refine zd (by kernel_rfl) ?_
   refine zW 0 J (by kernel_rfl) (by kernel_rfl) (by kernel_rfl) J (zG J) J ?_
   refine zj (fuel := 4) [1, 2, 3, 4, 5, 6] [(33, .ptr 1 0 0), (0, .ptr 1 0 0), (3, .ptr 5 0 0), (6, iN l.length)] ⟨J, J, J, J, trivial⟩ (by kernel_rfl) (by decide) J J ?_
   refine zJ J J (zG J) ?_
   refine zJ J J (zZ J) ?_
   refine zJ J J (zM J J J J J J) ?_
   refine zJ J J (zT J J J J J) ?_
   refine zJ J J (qpp J J J J J J J) ?_
   refine px_b J J J J J J J J J J J J J ?_
   refine zz ?_
   refine zH (is := [7]) (by kernel_rfl) (by simp) J ⟨fun o ho => ?_, trivial⟩
   all_goals (cases ho)
   refine zBU [zBn p] J J J J J J J J J J J J J (Nat.le_refl _) (fun k' j hk' hj => ?_) (by show (l.length + 1) * 88 ≤ _ ∧ _; omega) (fun a j k _ => zCx a j k) (by rw [hfix]; exact fun h => h.2 J) ?_
   ·obtain rfl : k' = 0 := Nat.lt_one_iff.1 hk'
    match j, hj with
    | 0, _ => rfl
    | 1, _ => rfl
    | 2, _ => rfl
    | 3, _ => rfl
    | 4, _ => rfl
   refine zAe [some ⟨95, .mp (zB1 (l ++ [zBn p])) (zCU (l.length + 1))⟩, some ⟨97, .box ((tbC r l.length nx.length .nil).set 11 .any)⟩, some ⟨35, zBd (l ++ [zBn p])⟩, some ⟨23, zC9 nx⟩, some ⟨3, .ints .i64 L⟩, some ⟨35, .box (poC (zBn p))⟩] ?_ ?_
   ·show [some (AObj.mk _ ((Cells.mp _ _).forget 2)), some (AObj.mk _ ((Cells.box _).forget 2)), some (AObj.mk _ (zBd (l ++ [zBn p]))), some (AObj.mk _ ((zC9 nx).forget 2)), some (AObj.mk _ ((Cells.ints .i64 L).forget 2)), some (AObj.mk _ ((Cells.box (poC (zBn p))).forget 2))] = _
    rw [zDd, zB5 (fun a j => zDi a j 2)]; rfl
   refine rn1 ?_
   refine zW 8 J (by kernel_rfl) (by kernel_rfl) (by kernel_rfl) J (zZ J) J ?_
   refine zW 9 J (by kernel_rfl) (by kernel_rfl) (by kernel_rfl) J (zM J J J J J J) J ?_
   refine zH (is := [10]) (by kernel_rfl) (by simp) J ⟨fun o ho => ?_, trivial⟩
   all_goals (cases ho)
   refine rn9 ?_
   refine zY (by kernel_rfl) ?_
   refine rn0 ?_
   exact zN hR J ⟨J, _, by show _ = [_, _, _, _, _, _]; rw [hll]; rfl⟩
 exact zb.cutR hc (fun v H ⟨e1, x, e2⟩ => ⟨_, [x], e2, fun h q => q.1, zIF _ _ _ _, e1 ▸ J, e1, J⟩)
/-- slices.IndexFunc of numbers, the function looks at the caller's memory -/
theorem zKp {H : zO} (l : List Int) (q : Int → Bool) (g : Nat) (caps : List AV) (hl : l.length ≤ 1000000) (hc : ∀ x ∈ l, zb Tryz.prog g (.int .i64 x :: caps) H (fun h => h < H.length) (fun r H' => r = .bool (q x) ∧ H' = H)) :
 zb Tryz.prog 119 [zr l, .fn g caps] H (fun h => h < H.length) (fun r H' => (∃ n : Int, r = .int .i64 n ∧ (decide (0 ≤ n) = l.any q)) ∧ H' = H) := by
 refine zL (P := Tryz.prog) (fn := Tryz.f119) J J (by kernel_rfl) J (fun c hR hfix => ?_)
 refine rn3 ?_
 refine zt (ι := Nat) (fun k => [(0, zr l), (1, .fn g caps), (7, iN l.length), (8, iN k)]) (fun _ => H)
  (fun k => k ≤ l.length ∧ (l.take k).any q = false) (fun k => l.length - k) 0 ⟨⟨rfl, rfl, rfl, rfl, trivial⟩, rfl, Nat.zero_le _, by rw [List.take_zero]; rfl⟩ ?_
 intro k ⟨hk, hno⟩
 refine rn4 ?_
 refine zF J (fun h => ?_) (fun h => ?_)
 ·have hk' : k < l.length := by omega
  have hmem : l.getD k 0 ∈ l := zAg 0 hk'
  have htk : (l.take (k + 1)).any q = ((l.take k).any q || q (l.getD k 0)) := by rw [zx _ 0 k hk', List.any_append]; simp
  refine rn6 ?_
  refine zCt J J J (hc _ hmem) (fun _ h => h) (fun _ h => h) ?_
  rintro r H' ⟨rfl, rfl⟩
  refine rn0 ?_
  cases hq : q (l.getD k 0) with
  | true =>
   refine rn6 ?_
   refine zN hR J ⟨⟨(k : Nat), J, ?_⟩, J⟩
   rw [decide_eq_true (by omega : (0 : Int) ≤ (k : Nat)), List.any_eq_true.2 ⟨_, hmem, hq⟩]
  | false =>
   refine rn5 ?_
   exact zS ⟨k + 1, ⟨by omega, by rw [htk, hno, hq]; rfl⟩, by omega, ⟨J, J, J, J, trivial⟩, J⟩
 ·have hk' : k = l.length := by omega
  subst hk'
  rw [List.take_length] at hno
  refine rn5 ?_
  refine zN hR J ⟨⟨-1, J, ?_⟩, J⟩
  rw [hno]; rfl
/-- slices.ContainsFunc of numbers, the function looks at the caller's memory -/
theorem zGY {H : zO} (l : List Int) (q : Int → Bool) (g : Nat) (caps : List AV) (hl : l.length ≤ 1000000) (hc : ∀ x ∈ l, zb Tryz.prog g (.int .i64 x :: caps) H (fun h => h < H.length) (fun r H' => r = .bool (q x) ∧ H' = H)) :
 zb Tryz.prog 91 [zr l, .fn g caps] H (fun h => h < H.length) (fun r H' => r = .bool (l.any q) ∧ H' = H) := by
 refine zL (P := Tryz.prog) (fn := Tryz.f91) J J (by kernel_rfl) J (fun c hR hfix => ?_)
 refine rn0 ?_
 refine zCt J J J (zKp l q g caps hl hc) (fun _ h => h) (fun _ h => h) ?_
 rintro r H' ⟨⟨n, rfl, hn⟩, rfl⟩
 refine rn8 ?_
 exact zN hR J ⟨congrArg AV.bool hn, J⟩
abbrev tbF (r : Go.Ax.Gm.Rules) (l : List Pos) (nx : List (List Nat)) (e : AV) : List AV := [.str r.name, .int .i64 r.w, .int .i64 r.h, .ro (zAU r.pcs) 0 r.pcs.length, zr r.start, .bool r.falls, .bool r.keeps, .ro (zEj r.ends) 0 r.ends.length, .int .i64 r.blocked, .int .i64 r.quiet, .int .i64 r.rep, .ro (zBd l) 0 l.length, .ro (zC9 nx) 0 nx.length, e, .rom (zB1 l) (zCU l.length)]
abbrev zBX (E : List Ent) : Cells := zCV (0, 0) 2 zBt E
/-- the closures of solve, over its memory -/
structure SolveH (r : Go.Ax.Gm.Rules) (l : List Pos) (nx : List (List Nat)) (E : List Ent) (H : zO) : Prop where
 h1 : H[1]? = some (some ⟨97, .box (tbF r l nx (.sl 3 0 E.length))⟩)
 h2 : H[2]? = some (some ⟨28, .box [.ptr 1 0 0]⟩)
 h3 : H[3]? = some (some ⟨37, zBX E⟩)
theorem cl1_ok {r : Go.Ax.Gm.Rules} {l : List Pos} {nx : List (List Nat)} {E : List Ent} {H : zO} (S : SolveH r l nx E H) (own : Int) (k : Int) (hk : 0 ≤ k ∧ k < (E.length : Int)) :
 zb Tryz.prog 109 [.int .i64 k, .ptr 2 0 0, .rp (.box [.int .i64 own]) 0 0] H (fun h => h < H.length) (fun r H' => r = .bool (decide ((E.getD k.toNat (0, 0)).1 = own)) ∧ H' = H) := by
 obtain ⟨h1, h2, h3⟩ := S
 have hk' : k.toNat < E.length := by omega
 refine zL (P := Tryz.prog) (fn := Tryz.f109) J J (by kernel_rfl) J (fun c hR hfix => ?_)
 refine rn0 ?_
 refine zd (by kernel_rfl) ?_
 refine zj (fuel := 0) [0, 1, 2, 3, 4, 5, 6, 7, 8, 9, 10] [(0, .int .i64 k), (1, .ptr 2 0 0), (2, .rp (.box [.int .i64 own]) 0 0)] ⟨J, J, J, trivial⟩ (by kernel_rfl) (by decide) J J ?_
 refine zJ J J (zBF J J J (by assumption) (by rfl)) ?_
 refine zJ J J (zZ J) ?_
 refine zJ J J (zM J J J J J J) ?_
 refine zJ J J (zBF J J J (by assumption) (by rfl)) ?_
 refine zJ J J (zG J) ?_
 refine zJ J J (qis J J J) ?_
 refine zJ J J (zM J J J J J J) ?_
 refine zJ J J (zCz J J J (by assumption) J (by first | assumption | omega)) ?_
 refine zJ J J (zD J J J J) ?_
 refine zJ J J (zBq J J) ?_
 refine zJ J J (zP J) ?_
 refine zz ?_
 refine zY (by kernel_rfl) ?_
 refine rn0 ?_
 exact zN hR J ⟨J, J⟩
theorem cl2_ok {r : Go.Ax.Gm.Rules} {l : List Pos} {nx : List (List Nat)} {E : List Ent} {H : zO} (S : SolveH r l nx E H) (own : Int) (k : Int) (hk : 0 ≤ k ∧ k < (E.length : Int)) :
 zb Tryz.prog 110 [.int .i64 k, .ptr 2 0 0, .rp (.box [.int .i64 own]) 0 0] H (fun h => h < H.length) (fun r H' => r = .bool (decide ((E.getD k.toNat (0, 0)).1 ≠ own)) ∧ H' = H) := by
 obtain ⟨h1, h2, h3⟩ := S
 have hk' : k.toNat < E.length := by omega
 refine zL (P := Tryz.prog) (fn := Tryz.f110) J J (by kernel_rfl) J (fun c hR hfix => ?_)
 refine rn0 ?_
 refine zd (by kernel_rfl) ?_
 refine zj (fuel := 0) [0, 1, 2, 3, 4, 5, 6, 7, 8, 9, 10] [(0, .int .i64 k), (1, .ptr 2 0 0), (2, .rp (.box [.int .i64 own]) 0 0)] ⟨J, J, J, trivial⟩ (by kernel_rfl) (by decide) J J ?_
 refine zJ J J (zBF J J J (by assumption) (by rfl)) ?_
 refine zJ J J (zZ J) ?_
 refine zJ J J (zM J J J J J J) ?_
 refine zJ J J (zBF J J J (by assumption) (by rfl)) ?_
 refine zJ J J (zG J) ?_
 refine zJ J J (qis J J J) ?_
 refine zJ J J (zM J J J J J J) ?_
 refine zJ J J (zCz J J J (by assumption) J (by first | assumption | omega)) ?_
 refine zJ J J (zD J J J J) ?_
 refine zJ J J (zBG J J) ?_
 refine zJ J J (zP J) ?_
 refine zz ?_
 refine zY (by kernel_rfl) ?_
 refine rn0 ?_
 exact zN hR J ⟨J, J⟩
theorem cl3_ok {r : Go.Ax.Gm.Rules} {l : List Pos} {nx : List (List Nat)} {E : List Ent} {H : zO} (S : SolveH r l nx E H) (i : Nat) (hi : i < l.length) (ht : zAV l i = 0 ∨ zAV l i = 1) (k : Int) (hk : 0 ≤ k ∧ k < (E.length : Int)) :
 zb Tryz.prog 111 [.int .i64 k, .ptr 2 0 0, .rp (.box [iN i]) 0 0] H (fun h => h < H.length) (fun r H' => r = .bool (decide ((E.getD k.toNat (0, 0)).1 = 1 + zAV l i)) ∧ H' = H) := by
 obtain ⟨h1, h2, h3⟩ := S
 have hk' : k.toNat < E.length := by omega
 have ht : 0 ≤ (l.getD i zn).turn ∧ (l.getD i zn).turn ≤ 1 := by unfold zAV at ht; omega
 refine zL (P := Tryz.prog) (fn := Tryz.f111) J J (by kernel_rfl) J (fun c hR hfix => ?_)
 refine rn0 ?_
 refine zd (by kernel_rfl) ?_
 refine zj (fuel := 0) [0, 1, 2, 3, 4, 5, 6, 7, 8, 9, 10, 11, 12, 13, 14, 15, 16, 17, 18] [(0, .int .i64 k), (1, .ptr 2 0 0), (2, .rp (.box [iN i]) 0 0)] ⟨J, J, J, trivial⟩ (by kernel_rfl) (by decide) J J ?_
 refine zJ J J (zBF J J J (by assumption) (by rfl)) ?_
 refine zJ J J (zZ J) ?_
 refine zJ J J (zM J J J J J J) ?_
 refine zJ J J (zBF J J J (by assumption) (by rfl)) ?_
 refine zJ J J (zG J) ?_
 refine zJ J J (qis J J J) ?_
 refine zJ J J (zM J J J J J J) ?_
 refine zJ J J (zCz J J J (by assumption) J (by first | assumption | omega)) ?_
 refine zJ J J (zBF J J J (by assumption) (by rfl)) ?_
 refine zJ J J (zZ J) ?_
 refine zJ J J (zM J J J J J J) ?_
 refine zJ J J (zBF J J J (by assumption) (by rfl)) ?_
 refine zJ J J (zD J J J J) ?_
 refine zJ J J (zg J J J J (by first | (simp only [Nat.zero_add, Int.toNat_natCast, Int.toNat_zero]; exact J) | exact J) (by omega)) ?_
 refine zJ J J (zI J J J J J J) ?_
 refine zJ J J (zA2 J J J J) ?_
 refine zJ J J (zA4 J J (by omega)) ?_
 refine zJ J J (zBq J J) ?_
 refine zJ J J (zP J) ?_
 refine zz ?_
 refine zY (by kernel_rfl) ?_
 refine rn0 ?_
 exact zN hR J ⟨J, J⟩
/-- is(own): the box is only read from now on -/
theorem cl0_ok {H : zO} (own : Int) (hb : ∀ (h : Nat) (o : AObj), H[h]? = some (some o) → zAw H.length o.c) (hlt : 2 < H.length) :
 zb Tryz.prog 108 [.int .i64 own, .ptr 2 0 0] H (fun h => h < H.length) (fun r H' => r = .fn 109 [.ptr 2 0 0, .rp (.box [.int .i64 own]) 0 0] ∧ H' = H) := by
 have hc : zb Tryz.prog 108 [.int .i64 own, .ptr 2 0 0] H (fun h => h < H.length) (fun r H' => r = .fn 109 [.ptr 2 0 0, .rp (.box [.int .i64 own]) 0 0] ∧ H' = H ++ [none]) := by
  refine zL (P := Tryz.prog) (fn := Tryz.f108) J J (by kernel_rfl) J (fun c hR hfix => ?_)
  refine zX ?_
  repeat (first | refine zA (zP rfl) ?_ | refine zC ?_ | refine zB ?_ | refine zK rfl ?_ | refine zAm rfl rfl ?_)
  refine ax_fzN H 2 [(1, .ptr 2 0 0)] J J ⟨J, trivial⟩ ?_
  repeat (first | refine zA (zP rfl) ?_ | refine zC ?_ | refine zB ?_ | refine zX ?_ | refine zK rfl ?_ | refine z7 ?_ | refine zA (zCd rfl) ?_)
  exact zN hR J ⟨J, J⟩
 exact zb.cutR hc (fun v H' ⟨e1, e2⟩ => ⟨H, [none], e2, fun h q => q, hb, by rw [e1]; show (Nat.blt 2 H.length && _) = true; rw [show Nat.blt 2 H.length = true from Nat.ble_eq_true_of_le hlt]; rfl, e1, J⟩)
abbrev slH (r : Go.Ax.Gm.Rules) (l : List Pos) (nx : List (List Nat)) (E : List Ent) (T : zO) : zO :=
 none :: some ⟨97, .box (tbF r l nx (.sl 3 0 E.length))⟩ :: some ⟨28, .box [.ptr 1 0 0]⟩ :: some ⟨37, zBX E⟩ :: T
abbrev zFZ (f : List Nat) : Option AObj := some ⟨3, .ints .i64 (f.map Int.ofNat)⟩
abbrev resO (f : List Int) : Option AObj := some ⟨3, .ints .i64 f⟩
theorem slH_S (r : Go.Ax.Gm.Rules) (l : List Pos) (nx : List (List Nat)) (E : List Ent) (T : zO) : SolveH r l nx E (slH r l nx E T) := ⟨rfl, rfl, rfl⟩
theorem zKn {n : Nat} (E : List Ent) : zAw n (zBX E) := fun i j _ hj => by
 have hj : j < 2 := hj
 match j, hj with
 | 0, _ => rfl
 | 1, _ => rfl
theorem zF3 (a : Ent) (j k : Nat) : ((zBt a).getD j .any).forget k = (zBt a).getD j .any := by
 match j with
 | 0 => rfl
 | 1 => rfl
 | j + 2 => rfl
/-- what solve may rely on -/
structure SolveP (r : Go.Ax.Gm.Rules) (l : List Pos) (nx : List (List Nat)) : Prop where
 hv : ValidR r
 ll : l.length ≤ 3000
 S : ∀ i, i < l.length → Sound r (l.getD i zn)
 nl : nx.length = l.length
 rl : ∀ i, i < l.length → (nx.getD i []).length ≤ 1000000
 nk : ∀ i, i < l.length → ∀ k ∈ nx.getD i [], k < l.length
theorem zE8 (n : Nat) : CEq (zA7 n [.int .i64 0, .int .i64 0]) (zBX (List.replicate n (0, 0))) := by
 refine ⟨by show (List.replicate n ((0, 0) : Ent)).length = n; rw [List.length_replicate], J, fun i j hi hj => ?_⟩
 have hj : j < 2 := hj
 have e : (List.replicate n ((0, 0) : Ent)).getD i (0, 0) = (0, 0) := by
  simp only [List.getD, List.getElem?_replicate]; split <;> rfl
 show (zBt ((List.replicate n ((0, 0) : Ent)).getD i (0, 0))).getD j .any = _
 rw [e]
 match j, hj with
 | 0, _ => rfl
 | 1, _ => rfl
theorem zFD {H : zO} {t : TypeId} {a b : Cells} (h : CEq a b) : zAz (H ++ [some ⟨t, a⟩]) (H ++ [some ⟨t, b⟩]) :=
 zAz.append (zAz.refl H) (zAz.cons (fun o ho => by cases ho; exact ⟨_, rfl, rfl, h⟩) (zAz.refl []))
theorem zD4 (r : Go.Ax.Gm.Rules) (l : List Pos) (nx : List (List Nat)) (E : List Ent) {T : zO} (h : ∀ (h : Nat) (o : AObj), T[h]? = some (some o) → zAw (slH r l nx E T).length o.c) : ∀ (h : Nat) (o : AObj), (slH r l nx E T)[h]? = some (some o) → zAw (slH r l nx E T).length o.c :=
 have e : (slH r l nx E T).length = T.length + 4 := rfl
 have q : ∀ n, 4 ≤ n → (Nat.blt 3 n) = true ∧ (Nat.blt 1 n) = true := fun n hn => ⟨Nat.ble_eq_true_of_le hn, Nat.ble_eq_true_of_le (by omega)⟩
 bl_n (zBx (zHC (by show (true && (true && (true && (true && (true && (true && (true && (true && (true && (true && (true && (true && (true && (Nat.blt 3 _ && (true && true))))))))))))))) = true; rw [(q _ (by omega)).1]; rfl)) (zBx (zHC (by show (Nat.blt 1 _ && true) = true; rw [(q _ (by omega)).2]; rfl)) (zBx (zKn E) h)))
theorem zFn (r : Go.Ax.Gm.Rules) (l : List Pos) (nx : List (List Nat)) (E : List Ent) : ∀ (h : Nat) (o : AObj), (slH r l nx E [])[h]? = some (some o) → zAw (slH r l nx E []).length o.c := zD4 r l nx E zBV
/-- (*retro.Table).solve -/
theorem solve_ok (r : Go.Ax.Gm.Rules) (l : List Pos) (nx : List (List Nat)) (Q : SolveP r l nx) :
 zb Tryz.prog 79 [.ptr 1 0 0] [none, some ⟨97, .box (tbF r l nx .nil)⟩] (fun h => h < 2) (fun v H => v = .tup [] ∧ ∃ N, zAo l nx (zp l nx (zAE r l) N) = [] ∧ H = slH r l nx (zBj (zp l nx (zAE r l) N)) []) := by
 obtain ⟨hv, hll, hS, hnl, hrl, hnk⟩ := Q
 refine zL (P := Tryz.prog) (fn := Tryz.f79) J J (by kernel_rfl) J (fun c hR hfix => ?_)
 have turnB : ∀ i, zAV l i = 0 ∨ zAV l i = 1 := fun i => by
  rcases Nat.lt_or_ge i l.length with q | q
  ·exact (hS i q).tn
  ·left; unfold zAV; rw [List.getD, List.getElem?_eq_none q]; rfl
 have hfx : ∀ h, c.fix h → h < 2 := fun h q => by rw [hfix] at q; exact q
 refine zX ?_
 repeat (first | refine zC ?_ | refine zB ?_ | refine zK rfl ?_ | refine zAm rfl rfl ?_)
 refine zX ?_
 refine zd (by kernel_rfl) ?_
 apply zR (H := [none, some ⟨97, .box (tbF r l nx .nil)⟩, some ⟨28, .box [.ptr 1 0 0]⟩, some ⟨37, zBX (List.replicate l.length (0, 0))⟩]) [(1, .ptr 2 0 0), (19, .ptr 1 0 0), (25, .sl 3 0 l.length)]
 ·intro fin
  refine zH (is := [0, 1]) (by kernel_rfl) (by simp) J ⟨fun o ho => ?_, fun o ho => ?_, trivial⟩
  all_goals (cases ho)
  ·refine rn4 ?_
   refine zj (fuel := 4) [1, 2, 3, 4, 5] [(1, .ptr 2 0 0), (19, .ptr 1 0 0)] ⟨J, J, trivial⟩ (by kernel_rfl) (by decide) J J ?_
   refine zJ J J (zT J J J J J) ?_
   refine zJ J J (zZ J) ?_
   refine zJ J J (zM J J J J J J) ?_
   refine zJ J J (zT J J J J J) ?_
   refine zJ J J (zA5 J J J) ?_
   refine zz ?_
   refine zH (is := [6]) (by kernel_rfl) (by simp) J ⟨fun o ho => ?_, trivial⟩
   all_goals (cases ho)
   refine zFu J J J J J J J J (by show (0 : Int) ≤ _ ∧ _ ≤ _ ∧ (16 : Int) * _ ≤ _ ∧ _; omega) ?_
   refine zA6 _ (zFD (zE8 l.length)) ?_
   refine rn1 ?_
   exact fin _ ⟨J, J, J, trivial⟩
  ·refine rn4 ?_
   refine zW 2 J (by kernel_rfl) (by kernel_rfl) (by kernel_rfl) J (zZ J) J ?_
   refine zW 3 J (by kernel_rfl) (by kernel_rfl) (by kernel_rfl) J (zM J J J J J J) J ?_
   refine zH (is := [0, 4]) (by kernel_rfl) (by simp) J ⟨fun o ho => ?_, fun o ho => ?_, trivial⟩
   all_goals (cases ho)
   ·refine rn4 ?_
    refine zj (fuel := 4) [4, 5] [(1, .ptr 2 0 0), (19, .ptr 1 0 0), (22, .ptr 1 0 11)] ⟨J, J, J, trivial⟩ (by kernel_rfl) (by decide) J J ?_
    refine zJ J J (zT J J J J J) ?_
    refine zJ J J (zA5 J J J) ?_
    refine zz ?_
    refine zH (is := [6]) (by kernel_rfl) (by simp) J ⟨fun o ho => ?_, trivial⟩
    all_goals (cases ho)
    refine zFu J J J J J J J J (by show (0 : Int) ≤ _ ∧ _ ≤ _ ∧ (16 : Int) * _ ≤ _ ∧ _; omega) ?_
    refine zA6 _ (zFD (zE8 l.length)) ?_
    refine rn1 ?_
    exact fin _ ⟨J, J, J, trivial⟩
   ·refine rn4 ?_
    refine zW 5 J (by kernel_rfl) (by kernel_rfl) (by kernel_rfl) J (zA5 J J J) J ?_
    refine zH (is := [0, 6]) (by kernel_rfl) (by simp) J ⟨fun o ho => ?_, fun o ho => ?_, trivial⟩
    all_goals (cases ho)
    ·refine rn4 ?_
     refine zH (is := [6]) (by kernel_rfl) (by simp) J ⟨fun o ho => ?_, trivial⟩
     all_goals (cases ho)
     refine zFu J J J J J J J J (by show (0 : Int) ≤ _ ∧ _ ≤ _ ∧ (16 : Int) * _ ≤ _ ∧ _; omega) ?_
     refine zA6 _ (zFD (zE8 l.length)) ?_
     refine rn1 ?_
     exact fin _ ⟨J, J, J, trivial⟩
    ·refine zFu J J J J J J J J (by show (0 : Int) ≤ _ ∧ _ ≤ _ ∧ (16 : Int) * _ ≤ _ ∧ _; omega) ?_
     refine zA6 _ (zFD (zE8 l.length)) ?_
     refine rn1 ?_
     refine zH (is := [0]) (by kernel_rfl) (by simp) J ⟨fun o ho => ?_, trivial⟩
     all_goals (cases ho)
     refine rn4 ?_
     exact fin _ ⟨J, J, J, trivial⟩
 refine zW 7 J (by kernel_rfl) (by kernel_rfl) (by kernel_rfl) J (zZ J) J ?_
 refine zW 8 J (by kernel_rfl) (by kernel_rfl) (by kernel_rfl) J (zM J J J J J J) J ?_
 refine zH (is := [9]) (by kernel_rfl) (by simp) J ⟨fun o ho => ?_, trivial⟩
 all_goals (cases ho)
 refine rn9 ?_
 refine zY (by kernel_rfl) ?_
 repeat (refine zB ?_)
 refine zAa (slH r l nx (zCh r l 0) []) (by rw [zKS]; show _ = [none, some (AObj.mk _ (.box (tbF r l nx (.sl 3 0 (List.replicate l.length ((0, 0) : Ent)).length)))), _, _]; rw [List.length_replicate]; rfl) ?_
 refine zX ?_
 refine rn15 ?_
 refine zt (ι := Nat) (fun k => [(1, .ptr 2 0 0), (31, .ro (zBd l) 0 l.length), (32, iN l.length), (33, iN k)]) (fun k => slH r l nx (zCh r l k) []) (fun k => k ≤ l.length) (fun k => l.length - k) 0 ⟨⟨J, J, J, J, trivial⟩, J, Nat.zero_le _⟩ ?_
 ·intro k hk
  refine rn4 ?_
  refine zF J (fun h => ?_) (fun h => ?_)
  ·have hk' : k < l.length := by omega
   have hEl := zIC r hk
   generalize hp : l.getD k zn = p
   refine zFj ?_
   refine rn4 ?_
   refine zV (poC p) J J J J J (by rw [← hp]; rfl) J ?_
   refine rn0 ?_
   refine zDm (slH r l nx (zCh r l k) []) 3 [(1, .ptr 2 0 0), (31, .ro (zBd l) 0 l.length), (32, iN l.length), (33, iN k), (2, iN k)] J J ⟨J, J, J, J, J, trivial⟩ ⟨J, J, J, J, J, J, trivial⟩ (zFn _ _ _ _) J (fun h q => Nat.lt_of_lt_of_le (hfx h q) (by show 2 ≤ 4; decide)) ?_
   refine zd (by kernel_rfl) ?_
   refine zj (fuel := 3) [0, 1, 2, 3, 4, 5, 6, 7, 8, 9, 10] [(3, .rp (.box (poC p)) 0 0), (1, .ptr 2 0 0), (31, .ro (zBd l) 0 l.length), (32, iN l.length), (33, iN k), (2, iN k)] ⟨J, J, J, J, J, J, trivial⟩ (by kernel_rfl) (by decide) J J ?_
   refine zJ J J (zT J J J J J) ?_
   refine zJ J J (zZ J) ?_
   refine zJ J J (zM J J J J J J) ?_
   refine zJ J J (zT J J J J J) ?_
   refine zJ J J (zG J) ?_
   refine zJ J J (zT J J J J J) ?_
   refine zJ J J (zZ J) ?_
   refine zJ J J (zM J J J J J J) ?_
   refine zJ J J (qpp J J J J J J J) ?_
   refine zJ J J (z6 J J J J J J) ?_
   refine zCQ J J J J J (zGk r hv p (by rw [← hp]; exact hS k hk')) ?_
   refine zz ?_
   refine zW 11 J (by kernel_rfl) (by kernel_rfl) (by kernel_rfl) J (zh J J J J J (by first | (simp only [Nat.zero_add, Int.toNat_natCast, Int.toNat_zero]; exact J) | exact J) (by omega)) J ?_
   refine zW 12 J (by kernel_rfl) (by kernel_rfl) (by kernel_rfl) J (zM J J J J J J) J ?_
   refine zH (is := [13]) (by kernel_rfl) (by simp) J ⟨fun o ho => ?_, trivial⟩
   all_goals (cases ho)
   refine zIZ (zAc r p, 0) J J J J J J (by omega) (fun j' hj' => ?_) ?_
   ·rw [zMd r hk']
    match j', hj' with
    | 0, _ => rfl
    | 1, _ => rfl
   refine rn1 ?_
   refine zY (by kernel_rfl) ?_
   refine rn5 ?_
   refine zS ⟨k + 1, by omega, by omega, ⟨J, J, J, J, trivial⟩, ?_⟩
   rw [zKR r hk', hp]
   show _ = [none, some (AObj.mk _ (.box (tbF r l nx (.sl 3 0 (List.set _ _ _).length)))), _, _]
   rw [List.length_set]; rfl
  ·have hk' : k = l.length := by omega
   subst hk'
   rw [zG9]
   refine rn5 ?_
   have hE0 : (zAE r l).length = l.length := by rw [← zG9]; exact zIC r (Nat.le_refl _)
   have hopl : ∀ E : List Ent, zBc E ≤ E.length := fun E => List.length_filter_le ..
   refine zt (ι := Nat) (fun n => [(1, .ptr 2 0 0), (4, .int .i64 ((n : Int) + 1))]) (fun n => slH r l nx (zp l nx (zAE r l) n) []) (fun n => n + zBc (zp l nx (zAE r l) n) ≤ l.length) (fun n => zBc (zp l nx (zAE r l) n)) 0 ⟨⟨J, J, trivial⟩, J, by show 0 + zBc (zAE r l) ≤ _; have := hopl (zAE r l); omega⟩ ?_
   intro n hn
   have hEl : (zp l nx (zAE r l) n).length = l.length := zCT hE0 n
   have hst : zp l nx (zAE r l) (n + 1) = zDA l nx (n + 1) (zp l nx (zAE r l) n) := rfl
   have hop : zAo l nx (zp l nx (zAE r l) n) ≠ [] → zBc (zDA l nx (n + 1) (zp l nx (zAE r l) n)) < zBc (zp l nx (zAE r l) n) := fun q => zES hEl (fun i => turnB i) q
   generalize hEn : zp l nx (zAE r l) n = E at hn hEl hop hst
   refine rn15 ?_
   refine zBY 5 ⟨3, .ints .i64 []⟩ J J ?_
   skip
   refine zt (ι := Nat) (fun k => [(1, .ptr 2 0 0), (4, .int .i64 ((n : Int) + 1)), (57, .ro (zBd l) 0 l.length), (58, iN l.length), (59, iN k), (5, .sl 4 0 (zA1 l nx E k).length)]) (fun k => slH r l nx E [zFZ (zA1 l nx E k)]) (fun k => k ≤ l.length) (fun k => l.length - k) 0 ⟨⟨J, J, J, J, J, J, trivial⟩, J, Nat.zero_le _⟩ ?_
   intro k hk
   refine rn4 ?_
   refine zF J (fun h => ?_) (fun h => ?_)
   ·have hk' : k < l.length := by omega
    have hkE : k < E.length := by omega
    have hfl := zHf l nx E k
    have htn := turnB k
    have hfs := zJ0 l nx E k
    have hT : zAV l k = (l.getD k zn).turn := rfl
    generalize hp : l.getD k zn = p at hT
    refine zFj ?_
    refine rn4 ?_
    refine zV (poC p) J J J J J (by rw [← hp]; rfl) J ?_
    refine zAp ?_
    refine zDm (slH r l nx E [zFZ (zA1 l nx E k)]) 7 [(1, .ptr 2 0 0), (4, .int .i64 ((n : Int) + 1)), (57, .ro (zBd l) 0 l.length), (58, iN l.length), (59, iN k), (5, .sl 4 0 (zA1 l nx E k).length), (6, iN k)] J J ⟨J, J, J, J, J, J, J, trivial⟩ ⟨J, J, J, J, J, J, J, J, trivial⟩ (zD4 _ _ _ _ (zBx (fun _ _ _ _ => rfl) zBV)) J (fun h q => Nat.lt_of_lt_of_le (hfx h q) (by show 2 ≤ 5; decide)) ?_
    repeat (first | refine zA (zG rfl) ?_ | refine zC ?_ | refine zB ?_ | refine zK rfl ?_ | refine zA (zT rfl rfl rfl rfl rfl) ?_ | refine zA (zBG rfl rfl) ?_ | refine zA (zh rfl rfl rfl rfl rfl (by first | (simp only [Nat.zero_add, Int.toNat_natCast, Int.toNat_zero]; exact rfl) | exact rfl) (by omega)) ?_ | refine zA (zCy rfl rfl rfl rfl rfl (by first | assumption | omega)) ?_ | refine zA (zZ rfl) ?_ | refine zA (zM rfl rfl rfl rfl rfl rfl) ?_)
    refine zF J (fun o1 => ?_) (fun o1 => ?_)
    ·have hno : ¬ zBk l nx E k = true := fun q => o1 (zED q)
     refine rn5 ?_
     refine zS ⟨k + 1, by omega, by omega, ⟨J, J, J, J, J, ?_, trivial⟩, ?_⟩
     ·rw [hfs, if_neg hno]; rfl
     ·rw [hfs, if_neg hno]
    ·have ho : zCj E k = 0 := Classical.not_not.1 o1
     have hfb : zBk l nx E k = (zI4 l nx E k || zHq l nx E k) := by unfold zBk; rw [ho]; rfl
     refine rn1 ?_
     refine zd (by kernel_rfl) ?_
     refine zW 0 J (by kernel_rfl) (by kernel_rfl) (by kernel_rfl) J (zI J J J J J J) J ?_
     refine zW 3 J (by kernel_rfl) (by kernel_rfl) (by kernel_rfl) J (zI J J J J J J) J ?_
     apply zR (H := slH r l nx E [zFZ (zA1 l nx E k), some ⟨3, .box [.int .i64 0]⟩]) [(1, .ptr 2 0 0), (4, .int .i64 ((n : Int) + 1)), (57, .ro (zBd l) 0 l.length), (58, iN l.length), (59, iN k), (5, .sl 4 0 (zA1 l nx E k).length), (6, iN k), (8, .int .i64 (1 + p.turn)), (78, .int .i64 (2 - p.turn)), (9, .ptr 5 0 0)]
     ·intro fin
      refine zH (is := [1, 4, 6]) (by kernel_rfl) (by simp) J ⟨fun o ho => ?_, fun o ho => ?_, fun o ho => ?_, trivial⟩
      all_goals (cases ho)
      ·repeat (first | refine zC ?_ | refine zU ?_ | refine zA (zD rfl rfl rfl rfl) ?_)
       refine zW 2 J (by kernel_rfl) (by kernel_rfl) (by kernel_rfl) J (zA4 J J (by omega)) J ?_
       refine zH (is := [4, 6]) (by kernel_rfl) (by simp) J ⟨fun o ho => ?_, fun o ho => ?_, trivial⟩
       all_goals (cases ho)
       ·repeat (first | refine zC ?_ | refine zU ?_ | refine zA (zD rfl rfl rfl rfl) ?_)
        refine zW 5 J (by kernel_rfl) (by kernel_rfl) (by kernel_rfl) J (zBC J J (by omega)) J ?_
        refine zH (is := [6]) (by kernel_rfl) (by simp) J ⟨fun o ho => ?_, trivial⟩
        all_goals (cases ho)
        refine rn4 ?_
        refine zW 7 J (by kernel_rfl) (by kernel_rfl) (by kernel_rfl) J (zP J) J ?_
        exact fin _ ⟨J, J, J, J, J, J, J, J, J, J, trivial⟩
       ·refine rn4 ?_
        refine zW 7 J (by kernel_rfl) (by kernel_rfl) (by kernel_rfl) J (zP J) J ?_
        refine zH (is := [4]) (by kernel_rfl) (by simp) J ⟨fun o ho => ?_, trivial⟩
        all_goals (cases ho)
        repeat (first | refine zC ?_ | refine zU ?_ | refine zA (zD rfl rfl rfl rfl) ?_)
        refine zW 5 J (by kernel_rfl) (by kernel_rfl) (by kernel_rfl) J (zBC J J (by omega)) J ?_
        exact fin _ ⟨J, J, J, J, J, J, J, J, J, J, trivial⟩
      ·repeat (first | refine zC ?_ | refine zU ?_ | refine zA (zD rfl rfl rfl rfl) ?_)
       refine zW 5 J (by kernel_rfl) (by kernel_rfl) (by kernel_rfl) J (zBC J J (by omega)) J ?_
       refine zH (is := [1, 6]) (by kernel_rfl) (by simp) J ⟨fun o ho => ?_, fun o ho => ?_, trivial⟩
       all_goals (cases ho)
       ·repeat (first | refine zC ?_ | refine zU ?_ | refine zA (zD rfl rfl rfl rfl) ?_)
        refine zW 2 J (by kernel_rfl) (by kernel_rfl) (by kernel_rfl) J (zA4 J J (by omega)) J ?_
        refine zH (is := [6]) (by kernel_rfl) (by simp) J ⟨fun o ho => ?_, trivial⟩
        all_goals (cases ho)
        refine rn4 ?_
        refine zW 7 J (by kernel_rfl) (by kernel_rfl) (by kernel_rfl) J (zP J) J ?_
        exact fin _ ⟨J, J, J, J, J, J, J, J, J, J, trivial⟩
       ·refine rn4 ?_
        refine zH (is := [1]) (by kernel_rfl) (by simp) J ⟨fun o ho => ?_, trivial⟩
        all_goals (cases ho)
        repeat (first | refine zC ?_ | refine zU ?_ | refine zA (zD rfl rfl rfl rfl) ?_)
        refine zW 2 J (by kernel_rfl) (by kernel_rfl) (by kernel_rfl) J (zA4 J J (by omega)) J ?_
        refine zW 7 J (by kernel_rfl) (by kernel_rfl) (by kernel_rfl) J (zP J) J ?_
        exact fin _ ⟨J, J, J, J, J, J, J, J, J, J, trivial⟩
      ·refine rn4 ?_
       refine zH (is := [1, 4]) (by kernel_rfl) (by simp) J ⟨fun o ho => ?_, fun o ho => ?_, trivial⟩
       all_goals (cases ho)
       ·repeat (first | refine zC ?_ | refine zU ?_ | refine zA (zD rfl rfl rfl rfl) ?_)
        refine zW 2 J (by kernel_rfl) (by kernel_rfl) (by kernel_rfl) J (zA4 J J (by omega)) J ?_
        refine zW 7 J (by kernel_rfl) (by kernel_rfl) (by kernel_rfl) J (zP J) J ?_
        refine zH (is := [4]) (by kernel_rfl) (by simp) J ⟨fun o ho => ?_, trivial⟩
        all_goals (cases ho)
        repeat (first | refine zC ?_ | refine zU ?_ | refine zA (zD rfl rfl rfl rfl) ?_)
        refine zW 5 J (by kernel_rfl) (by kernel_rfl) (by kernel_rfl) J (zBC J J (by omega)) J ?_
        exact fin _ ⟨J, J, J, J, J, J, J, J, J, J, trivial⟩
       ·repeat (first | refine zC ?_ | refine zU ?_ | refine zA (zD rfl rfl rfl rfl) ?_)
        refine zW 5 J (by kernel_rfl) (by kernel_rfl) (by kernel_rfl) J (zBC J J (by omega)) J ?_
        refine zH (is := [1]) (by kernel_rfl) (by simp) J ⟨fun o ho => ?_, trivial⟩
        all_goals (cases ho)
        repeat (first | refine zC ?_ | refine zU ?_ | refine zA (zD rfl rfl rfl rfl) ?_)
        refine zW 2 J (by kernel_rfl) (by kernel_rfl) (by kernel_rfl) J (zA4 J J (by omega)) J ?_
        refine zW 7 J (by kernel_rfl) (by kernel_rfl) (by kernel_rfl) J (zP J) J ?_
        exact fin _ ⟨J, J, J, J, J, J, J, J, J, J, trivial⟩
     refine zH (is := [8]) (by kernel_rfl) (by simp) J ⟨fun o ho => ?_, trivial⟩
     all_goals (cases ho)
     refine rn9 ?_
     refine zY (by kernel_rfl) ?_
     refine zAp ?_
     refine zDm (slH r l nx E [zFZ (zA1 l nx E k)]) 9 [(1, .ptr 2 0 0), (4, .int .i64 ((n : Int) + 1)), (57, .ro (zBd l) 0 l.length), (58, iN l.length), (59, iN k), (5, .sl 4 0 (zA1 l nx E k).length), (6, iN k), (8, .int .i64 (1 + p.turn))] J J ⟨J, J, J, J, J, J, J, J, trivial⟩ ⟨J, J, J, J, J, J, J, J, J, trivial⟩ (zD4 _ _ _ _ (zBx (fun _ _ _ _ => rfl) zBV)) J (fun h q => Nat.lt_of_lt_of_le (hfx h q) (by show 2 ≤ 5; decide)) ?_
     refine zBe ?_
     have hkn : k < nx.length := by omega
     have hrow := hrl k hk'
     have hcl : ∀ x ∈ (nx.getD k []).map Int.ofNat, 0 ≤ x ∧ x < (E.length : Int) := fun x hx => by
      obtain ⟨q, hq, rfl⟩ := List.mem_map.1 hx
      have := hnk k hk' q hq
      exact ⟨Int.natCast_nonneg q, by show (q : Int) < _; omega⟩
     have hrl2 : ((nx.getD k []).map Int.ofNat).length ≤ 1000000 := by rw [List.length_map]; exact hrow
     have c1 := zGY (H := slH r l nx E [zFZ (zA1 l nx E k)]) ((nx.getD k []).map Int.ofNat) (fun x => decide ((E.getD x.toNat (0, 0)).1 = 1 + p.turn)) 109 [.ptr 2 0 0, .rp (.box [.int .i64 (1 + p.turn)]) 0 0] hrl2 (fun x hx => cl1_ok (slH_S r l nx E _) (1 + p.turn) x (hcl x hx))
     have c2 := zGY (H := slH r l nx E [zFZ (zA1 l nx E k)]) ((nx.getD k []).map Int.ofNat) (fun x => decide ((E.getD x.toNat (0, 0)).1 ≠ 2 - p.turn)) 110 [.ptr 2 0 0, .rp (.box [.int .i64 (2 - p.turn)]) 0 0] hrl2 (fun x hx => cl2_ok (slH_S r l nx E _) (2 - p.turn) x (hcl x hx))
     rw [← hT, zJf] at c1
     rw [← hT] at c2
     rw [← hT]
     refine zd (by kernel_rfl) ?_
     refine zj (fuel := 0) [0, 1, 2, 3, 4, 5, 6, 7, 8, 9, 10, 11] [(9, .rp (.box [.int .i64 (2 - zAV l k)]) 0 0), (1, .ptr 2 0 0), (4, .int .i64 ((n : Int) + 1)), (57, .ro (zBd l) 0 l.length), (58, iN l.length), (59, iN k), (5, .sl 4 0 (zA1 l nx E k).length), (6, iN k), (8, .int .i64 (1 + zAV l k)), (10, .fn 108 [.ptr 2 0 0])] ⟨J, J, J, J, J, J, J, J, J, J, trivial⟩ (by kernel_rfl) (by decide) J J ?_
     refine zJ J J (zT J J J J J) ?_
     refine zJ J J (zZ J) ?_
     refine zJ J J (zM J J J J J J) ?_
     refine zJ J J (zT J J J J J) ?_
     refine zJ J J (zG J) ?_
     refine zJ J J (zg J J J J (by first | (simp only [Nat.zero_add, Int.toNat_natCast, Int.toNat_zero]; exact J) | exact J) (by omega)) ?_
     refine zJ J J (zA2 J J J J) ?_
     refine zJ J J (zG J) ?_
     refine zJ J J (zG J) ?_
     refine px_c J J J J J (cl0_ok _ (zD4 _ _ _ _ (zBx (fun _ _ _ _ => rfl) zBV)) (by show 2 < 5; decide)) ?_
     refine px_c J J J J J c1 ?_
     refine zJ J J (zP J) ?_
     refine zz ?_
     refine zY (by kernel_rfl) ?_
     repeat (first | refine zA (zG rfl) ?_ | refine zB ?_ | refine zX ?_ | refine zK rfl ?_ | refine zA (zA2 rfl rfl rfl rfl) ?_ | refine zA (zT rfl rfl rfl rfl rfl) ?_ | refine zA (zg rfl rfl rfl rfl (by first | (simp only [Nat.zero_add, Int.toNat_natCast, Int.toNat_zero]; exact rfl) | exact rfl) (by omega)) ?_ | refine zA (zCd rfl) ?_ | refine zA (zZ rfl) ?_ | refine zA (zM rfl rfl rfl rfl rfl rfl) ?_)
     refine zCt J J J c2 (fun _ h => h) (fun _ h => h) ?_
     rintro r' H' ⟨rfl, rfl⟩
     refine rn5 ?_
     rw [zLo]
     have hml : ((zA1 l nx E k).map Int.ofNat).length = (zA1 l nx E k).length := List.length_map ..
     cases hw : zI4 l nx E k with
     | true =>
      have hyes : zBk l nx E k = true := by rw [hfb, hw]; rfl
      refine rn6 ?_
      refine zAX J J J J J J J J J hml J J (by show 0 + 1 ≤ 1; omega) J (by show ((zA1 l nx E k).length + 1) * 8 ≤ _ ∧ _; omega) (fun i j _ _ => rfl) (by rw [hfix]; show ¬ 4 < 2; decide) ?_
      refine zAe (slH r l nx E [zFZ (zA1 l nx E k ++ [k])]) ?_ ?_
      ·show [none, some (AObj.mk _ ((Cells.box _).forget 4)), some (AObj.mk _ ((Cells.box _).forget 4)), some (AObj.mk _ ((zBX E).forget 4)), _] = _
       rw [zB5 (fun a j => zF3 a j 4)]
       show _ = [none, _, _, _, some (AObj.mk _ (Cells.ints .i64 (List.map Int.ofNat (zA1 l nx E k ++ [k]))))]
       rw [List.map_append]; rfl
      refine rn5 ?_
      refine zS ⟨k + 1, by omega, by omega, ⟨J, J, J, J, J, ?_, trivial⟩, ?_⟩
      ·rw [hfs, hyes, if_pos rfl, List.length_append]; rfl
      ·rw [hfs, hyes]; rfl
     | false =>
      cases hl : zHq l nx E k with
      | true =>
       have hyes : zBk l nx E k = true := by rw [hfb, hw, hl]; rfl
       refine rn5 ?_
       refine zAX J J J J J J J J J hml J J (by show 0 + 1 ≤ 1; omega) J (by show ((zA1 l nx E k).length + 1) * 8 ≤ _ ∧ _; omega) (fun i j _ _ => rfl) (by rw [hfix]; show ¬ 4 < 2; decide) ?_
       refine zAe (slH r l nx E [zFZ (zA1 l nx E k ++ [k])]) ?_ ?_
       ·show [none, some (AObj.mk _ ((Cells.box _).forget 4)), some (AObj.mk _ ((Cells.box _).forget 4)), some (AObj.mk _ ((zBX E).forget 4)), _] = _
        rw [zB5 (fun a j => zF3 a j 4)]
        show _ = [none, _, _, _, some (AObj.mk _ (Cells.ints .i64 (List.map Int.ofNat (zA1 l nx E k ++ [k]))))]
        rw [List.map_append]; rfl
       refine rn5 ?_
       refine zS ⟨k + 1, by omega, by omega, ⟨J, J, J, J, J, ?_, trivial⟩, ?_⟩
       ·rw [hfs, hyes, if_pos rfl, List.length_append]; rfl
       ·rw [hfs, hyes]; rfl
      | false =>
       have hno : zBk l nx E k = false := by rw [hfb, hw, hl]; rfl
       refine rn5 ?_
       refine zS ⟨k + 1, by omega, by omega, ⟨J, J, J, J, J, ?_, trivial⟩, ?_⟩
       ·rw [hfs, hno]; rfl
       ·rw [hfs, hno]; rfl
   ·have hk' : k = l.length := by omega
    subst hk'
    have hF : zA1 l nx E l.length = zAo l nx E := rfl
    have hfl : (zAo l nx E).length ≤ l.length := zHf l nx E l.length
    have hlt : ∀ j, j < (zAo l nx E).length → (zAo l nx E).getD j 0 < l.length := fun j hj => zL3 (l := l) (nx := nx) (E := E) (k := l.length) (zAg 0 hj)
    have hstep := zJa (l := l) (nx := nx) (E := E) (n := n + 1) hEl
    rw [hF]
    generalize hf : zAo l nx E = f at hfl hlt hop hstep
    refine rn5 ?_
    refine zF J (fun z => ?_) (fun z => ?_)
    ·have z2 : f = [] := List.length_eq_zero_iff.1 (by omega)
     subst z2
     repeat (first | refine zB ?_ | refine zX ?_ | refine zCM ?_ | refine zAj ?_ | refine zAi ?_ | refine zAt ?_ | refine zFW rfl ?_)
     refine zB8 (slH r l nx E []) [zFZ []] [(1, .ptr 2 0 0)] J ⟨J, trivial⟩ (fun h q => Nat.lt_of_lt_of_le (hfx h q) (by show 2 ≤ 4; decide)) (zFn r l nx E) J ?_
     refine rn15 ?_
     refine zt (ι := Nat) (fun j => [(1, .ptr 2 0 0), (181, iN E.length), (182, iN j)]) (fun j => slH r l nx (zBy E j) []) (fun j => j ≤ E.length) (fun j => E.length - j) 0 ⟨⟨J, J, J, trivial⟩, by rw [zJr], Nat.zero_le _⟩ ?_
     intro j hj
     have hcl := zHY E j
     refine rn4 ?_
     refine zF J (fun q => ?_) (fun q => ?_)
     ·have hj' : j < E.length := by omega
      have hat := zLs hj'
      have hsu := zJq hj'
      have hsl : (zBy E (j + 1)).length = E.length := zHY E (j + 1)
      repeat (first | refine zA (zG rfl) ?_ | refine zA (zP rfl) ?_ | refine zC ?_ | refine zB ?_ | refine zX ?_ | refine zK rfl ?_ | refine zAN ?_ | refine zAH ?_ | refine zA (zT rfl rfl rfl rfl rfl) ?_ | refine zA (zBq rfl rfl) ?_ | refine zA (zh rfl rfl rfl rfl rfl (by first | (simp only [Nat.zero_add, Int.toNat_natCast, Int.toNat_zero]; exact rfl) | exact rfl) (by omega)) ?_ | refine zA (zCy rfl rfl rfl rfl rfl (by first | assumption | omega)) ?_ | refine zA (zZ rfl) ?_ | refine zA (zM rfl rfl rfl rfl rfl rfl) ?_)
      refine zF J (fun o => ?_) (fun o => ?_)
      ·have o : ((zBy E j).getD j (0, 0)).1 = 0 := o
       rw [hat] at o
       rw [if_pos o] at hsu
       repeat (first | refine zA (zG rfl) ?_ | refine zK rfl ?_ | refine zA (zT rfl rfl rfl rfl rfl) ?_ | refine zA (zh rfl rfl rfl rfl rfl (by first | (simp only [Nat.zero_add, Int.toNat_natCast, Int.toNat_zero]; exact rfl) | exact rfl) (by omega)) ?_ | refine zA (zZ rfl) ?_ | refine zA (zM rfl rfl rfl rfl rfl rfl) ?_)
       refine zIZ (3, (E.getD j (0, 0)).2) J J J J J J (by show j < (zBy E j).length; omega) (fun j' hj' => ?_) ?_
       ·rw [hat]
        match j', hj' with
        | 0, _ => rfl
        | 1, _ => rfl
       refine rn5 ?_
       refine zS ⟨j + 1, by omega, by omega, ⟨J, J, J, trivial⟩, ?_⟩
       rw [hsu]
       show _ = [none, some (AObj.mk _ (.box (tbF r l nx (.sl 3 0 (List.set _ _ _).length)))), _, _]
       rw [List.length_set]; rfl
      ·have o : ¬ ((zBy E j).getD j (0, 0)).1 = 0 := o
       rw [hat] at o
       rw [if_neg o] at hsu
       refine rn5 ?_
       refine zS ⟨j + 1, by omega, by omega, ⟨J, J, J, trivial⟩, ?_⟩
       rw [hsu]
     ·have hj' : j = E.length := by omega
      subst hj'
      rw [zJp]
      refine rn5 ?_
      refine ax_end (vs := []) hR J ?_
      exact ⟨J, n, by rw [hEn]; exact hf, by rw [hEn]⟩
    ·have hne : f ≠ [] := fun c => z (by rw [c]; rfl)
     have hop := hop hne
     have hml : (f.map Int.ofNat).length = f.length := List.length_map ..
     refine rn3 ?_
     refine zFu J J J J J J J J (by show (0 : Int) ≤ _ ∧ _ ≤ _ ∧ (8 : Int) * _ ≤ _ ∧ _; omega) ?_
     refine rn3 ?_
     refine zt (ι := Nat) (fun j => [(1, .ptr 2 0 0), (4, .int .i64 ((n : Int) + 1)), (5, .sl 4 0 f.length), (13, .sl 5 0 f.length), (116, .sl 4 0 f.length), (117, iN f.length), (118, iN j)]) (fun j => slH r l nx E [zFZ f, resO (zEZ l nx E f j)]) (fun j => j ≤ f.length) (fun j => f.length - j) 0 ⟨⟨J, J, J, J, J, J, J, trivial⟩, J, Nat.zero_le _⟩ ?_
     intro j hj
     have hrl0 := hrl
     have hrl := resK_len (l := l) (nx := nx) (E := E) hj
     refine rn4 ?_
     refine zF J (fun q => ?_) (fun q => ?_)
     ·have hj' : j < f.length := by omega
      have hjr : j < (zEZ l nx E f j).length := by omega
      have hil := hlt j hj'
      have hsu := zMQ (l := l) (nx := nx) (E := E) hj'
      have hgi : (f.map Int.ofNat).getD j 0 = ((f.getD j 0 : Nat) : Int) := by simp [List.getD, List.getElem?_eq_getElem hj']
      generalize hi : f.getD j 0 = i at hil hsu hgi
      have htn := turnB i
      have hT : zAV l i = (l.getD i zn).turn := rfl
      refine rn20 ?_
      refine zK J ?_
      repeat (first | refine zA (zG rfl) ?_ | refine zA (zP rfl) ?_ | refine zC ?_ | refine zB ?_ | refine zX ?_ | refine zA (zh rfl rfl rfl rfl rfl (by first | (simp only [Nat.zero_add, Int.toNat_natCast, Int.toNat_zero]; exact rfl) | exact rfl) (by omega)) ?_ | refine zA (zAv rfl rfl rfl rfl (by first | assumption | omega)) ?_ | refine zAF rfl rfl rfl rfl rfl rfl rfl Nat.zero_lt_one ?_ | refine zAM rfl rfl rfl ?_)
      rw [hgi]
      refine zDm (slH r l nx E [zFZ f, resO (zEZ l nx E f j)]) 15 [(1, .ptr 2 0 0), (4, .int .i64 ((n : Int) + 1)), (5, .sl 4 0 f.length), (13, .sl 5 0 f.length), (116, .sl 4 0 f.length), (117, iN f.length), (118, iN j), (14, iN j)] J J ⟨J, J, J, J, J, J, J, J, trivial⟩ ⟨J, J, J, J, J, J, J, J, J, trivial⟩ (zD4 _ _ _ _ (zBx (fun _ _ _ _ => rfl) (zBx (fun _ _ _ _ => rfl) zBV))) J (fun h q => Nat.lt_of_lt_of_le (hfx h q) (by show 2 ≤ 6; decide)) ?_
      skip
      refine zd (by kernel_rfl) ?_
      refine zj (fuel := 1) [0, 1, 2, 3, 4, 5, 6, 7, 8, 9, 10, 11] [(15, .rp (.box [iN i]) 0 0), (1, .ptr 2 0 0), (4, .int .i64 ((n : Int) + 1)), (5, .sl 4 0 f.length), (13, .sl 5 0 f.length), (116, .sl 4 0 f.length), (117, iN f.length), (118, iN j), (14, iN j)] ⟨J, J, J, J, J, J, J, J, J, trivial⟩ (by kernel_rfl) (by decide) J J ?_
      refine zJ J J (zG J) ?_
      refine zJ J J (zG J) ?_
      refine zJ J J (zT J J J J J) ?_
      refine zJ J J (zZ J) ?_
      refine zJ J J (zM J J J J J J) ?_
      refine zJ J J (zT J J J J J) ?_
      refine zJ J J (zD J J J J) ?_
      refine zJ J J (zg J J J J (by first | (simp only [Nat.zero_add, Int.toNat_natCast, Int.toNat_zero]; exact J) | exact J) (by omega)) ?_
      refine zJ J J (zI J J J J J J) ?_
      refine zJ J J (zA2 J J J J) ?_
      refine zJ J J (zBC J J (by omega)) ?_
      refine zJ J J (zh J J J J J (by first | (simp only [Nat.zero_add, Int.toNat_natCast, Int.toNat_zero]; exact J) | exact J) (by omega)) ?_
      refine zz ?_
      refine zH (is := [12]) (by kernel_rfl) (by simp) J ⟨fun o ho => ?_, trivial⟩
      all_goals (cases ho)
      refine rn7 ?_
      refine zY (by kernel_rfl) ?_
      refine rn0 ?_
      have hrow := hrl0 i hil
      have hcl : ∀ x ∈ (nx.getD i []).map Int.ofNat, 0 ≤ x ∧ x < (E.length : Int) := fun x hx => by
       obtain ⟨q, hq, rfl⟩ := List.mem_map.1 hx
       have := hnk i hil q hq
       exact ⟨Int.natCast_nonneg q, by show (q : Int) < _; omega⟩
      have hrl2 : ((nx.getD i []).map Int.ofNat).length ≤ 1000000 := by rw [List.length_map]; exact hrow
      have c3 := zGY (H := slH r l nx E [zFZ f, resO ((zEZ l nx E f j).set j (2 - (l.getD i zn).turn))]) ((nx.getD i []).map Int.ofNat) (fun x => decide ((E.getD x.toNat (0, 0)).1 = 1 + zAV l i)) 111 [.ptr 2 0 0, .rp (.box [iN i]) 0 0] hrl2 (fun x hx => cl3_ok (slH_S r l nx E _) i hil htn x (hcl x hx))
      rw [zJf] at c3
      refine zd (by kernel_rfl) ?_
      refine zj (fuel := 0) [0, 1, 2, 3, 4, 5, 6, 7, 8] [(15, .rp (.box [iN i]) 0 0), (1, .ptr 2 0 0), (4, .int .i64 ((n : Int) + 1)), (5, .sl 4 0 f.length), (13, .sl 5 0 f.length), (116, .sl 4 0 f.length), (117, iN f.length), (118, iN j), (14, iN j)] ⟨J, J, J, J, J, J, J, J, J, trivial⟩ (by kernel_rfl) (by decide) J J ?_
      refine zJ J J (zT J J J J J) ?_
      refine zJ J J (zZ J) ?_
      refine zJ J J (zM J J J J J J) ?_
      refine zJ J J (zT J J J J J) ?_
      refine zJ J J (zD J J J J) ?_
      refine zJ J J (zg J J J J (by first | (simp only [Nat.zero_add, Int.toNat_natCast, Int.toNat_zero]; exact J) | exact J) (by omega)) ?_
      refine zJ J J (zA2 J J J J) ?_
      refine zJ J J (zCd J) ?_
      refine px_c J J J J J c3 ?_
      refine zz ?_
      refine zY (by kernel_rfl) ?_
      cases hw : zI4 l nx E i with
      | true =>
       have hres : zCp l nx E i = 1 + (l.getD i zn).turn := by unfold zCp; rw [hw, if_pos rfl]; rfl
       refine rn5 ?_
       refine zd (by kernel_rfl) ?_
       refine zj (fuel := 1) [0, 1, 2, 3, 4, 5, 6, 7, 8, 9, 10, 11] [(15, .rp (.box [iN i]) 0 0), (1, .ptr 2 0 0), (4, .int .i64 ((n : Int) + 1)), (5, .sl 4 0 f.length), (13, .sl 5 0 f.length), (116, .sl 4 0 f.length), (117, iN f.length), (118, iN j), (14, iN j)] ⟨J, J, J, J, J, J, J, J, J, trivial⟩ (by kernel_rfl) (by decide) J J ?_
       refine zJ J J (zG J) ?_
       refine zJ J J (zG J) ?_
       refine zJ J J (zT J J J J J) ?_
       refine zJ J J (zZ J) ?_
       refine zJ J J (zM J J J J J J) ?_
       refine zJ J J (zT J J J J J) ?_
       refine zJ J J (zD J J J J) ?_
       refine zJ J J (zg J J J J (by first | (simp only [Nat.zero_add, Int.toNat_natCast, Int.toNat_zero]; exact J) | exact J) (by omega)) ?_
       refine zJ J J (zI J J J J J J) ?_
       refine zJ J J (zA2 J J J J) ?_
       refine zJ J J (zA4 J J (by omega)) ?_
       refine zJ J J (zh J J J J J (by first | (simp only [Nat.zero_add, Int.toNat_natCast, Int.toNat_zero]; exact J) | exact J) (by omega)) ?_
       refine zz ?_
       refine zH (is := [12]) (by kernel_rfl) (by simp) J ⟨fun o ho => ?_, trivial⟩
       all_goals (cases ho)
       have hjr2 : j < ((zEZ l nx E f j).set j (2 - (l.getD i zn).turn)).length := by rw [List.length_set]; exact hjr
       refine rn7 ?_
       refine zY (by kernel_rfl) ?_
       refine rn5 ?_
       refine zS ⟨j + 1, by omega, by omega, ⟨J, J, J, J, J, J, J, trivial⟩, ?_⟩
       rw [hsu, hres]
       show [_, _, _, _, _, some (AObj.mk _ (Cells.ints .i64 (((zEZ l nx E f j).set j (2 - (l.getD i zn).turn)).set j (1 + (l.getD i zn).turn))))] = _
       rw [List.set_set]
      | false =>
       have hres : zCp l nx E i = 2 - (l.getD i zn).turn := by unfold zCp; rw [hw, if_neg (by decide)]; rfl
       refine rn5 ?_
       refine zS ⟨j + 1, by omega, by omega, ⟨J, J, J, J, J, J, J, trivial⟩, ?_⟩
       rw [hsu, hres]; rfl
     ·have hj' : j = f.length := by omega
      subst hj'
      refine rn5 ?_
      refine zt (ι := Nat) (fun j => [(1, .ptr 2 0 0), (4, .int .i64 ((n : Int) + 1)), (13, .sl 5 0 f.length), (157, .sl 4 0 f.length), (158, iN f.length), (159, iN j)]) (fun j => slH r l nx (zCP (fun i => (zCp l nx E i, ((n + 1 : Nat) : Int))) (f.take j) E) [zFZ f, resO (zEZ l nx E f f.length)]) (fun j => j ≤ f.length) (fun j => f.length - j) 0 ⟨⟨J, J, J, J, J, J, trivial⟩, J, Nat.zero_le _⟩ ?_
      intro j hj
      refine rn4 ?_
      refine zF J (fun q => ?_) (fun q => ?_)
      ·have hj' : j < f.length := by omega
       have hjr : j < (zEZ l nx E f f.length).length := by omega
       have hil := hlt j hj'
       have hgi : (f.map Int.ofNat).getD j 0 = ((f.getD j 0 : Nat) : Int) := by simp [List.getD, List.getElem?_eq_getElem hj']
       have hrf := zMP (l := l) (nx := nx) (E := E) hj'
       have hsn := zJZ (fun i => (zCp l nx E i, ((n + 1 : Nat) : Int))) (f.take j) (f.getD j 0) E
       rw [← zx _ 0 j hj'] at hsn
       have hsl := zC0 (fun i => (zCp l nx E i, ((n + 1 : Nat) : Int))) (f.take j) E
       have hsl2 := zC0 (fun i => (zCp l nx E i, ((n + 1 : Nat) : Int))) (f.take (j + 1)) E
       generalize hi : f.getD j 0 = i at hil hgi hrf hsn
       generalize hA : zCP (fun i => (zCp l nx E i, ((n + 1 : Nat) : Int))) (f.take j) E = A at hsl hsn
       generalize hA2 : zCP (fun i => (zCp l nx E i, ((n + 1 : Nat) : Int))) (f.take (j + 1)) E = A2 at hsn hsl2
       refine rn20 ?_
       refine zK J ?_
       repeat (first | refine zA (zG rfl) ?_ | refine zA (zP rfl) ?_ | refine zC ?_ | refine zB ?_ | refine zA (zh rfl rfl rfl rfl rfl (by first | (simp only [Nat.zero_add, Int.toNat_natCast, Int.toNat_zero]; exact rfl) | exact rfl) (by omega)) ?_ | refine zA (zAv rfl rfl rfl rfl (by first | assumption | omega)) ?_)
       rw [hgi]
       skip
       refine zd (by kernel_rfl) ?_
       refine zj (fuel := 1) [0, 1, 2, 3, 4, 5, 6, 7, 8, 9, 10, 11] [(1, .ptr 2 0 0), (4, .int .i64 ((n : Int) + 1)), (13, .sl 5 0 f.length), (157, .sl 4 0 f.length), (158, iN f.length), (159, iN j), (16, iN j), (17, iN i)] ⟨J, J, J, J, J, J, J, J, trivial⟩ (by kernel_rfl) (by decide) J J ?_
       refine zJ J J (zT J J J J J) ?_
       refine zJ J J (zZ J) ?_
       refine zJ J J (zM J J J J J J) ?_
       refine zJ J J (zT J J J J J) ?_
       refine zJ J J (zG J) ?_
       refine zJ J J (zG J) ?_
       refine zJ J J (zG J) ?_
       refine zJ J J (zh J J J J J (by first | (simp only [Nat.zero_add, Int.toNat_natCast, Int.toNat_zero]; exact J) | exact J) (by omega)) ?_
       refine zJ J J (zAv J J J J (by first | assumption | omega)) ?_
       refine zJ J J (zG J) ?_
       refine zJ J J (zDF J J J J J J) ?_
       refine zJ J J (zh J J J J J (by first | (simp only [Nat.zero_add, Int.toNat_natCast, Int.toNat_zero]; exact J) | exact J) (by omega)) ?_
       refine zz ?_
       refine zH (is := [12]) (by kernel_rfl) (by simp) J ⟨fun o ho => ?_, trivial⟩
       all_goals (cases ho)
       refine zKe (zCp l nx E i, ((n + 1 : Nat) : Int)) J J J J J (by show i < A.length; omega) (by decide) (fun j' hj' => ?_) ?_
       ·match j', hj' with
        | 0, _ => show AV.int .i64 (zCp l nx E i) = AV.int .i64 ((zEZ l nx E f f.length).getD j 0); rw [hrf]
        | 1, _ => rfl
       refine rn1 ?_
       refine zY (by kernel_rfl) ?_
       refine rn5 ?_
       refine zS ⟨j + 1, by omega, by omega, ⟨J, J, J, J, J, J, trivial⟩, ?_⟩
       show _ = slH r l nx (zCP (fun i => (zCp l nx E i, ((n + 1 : Nat) : Int))) (f.take (j + 1)) E) [zFZ f, resO (zEZ l nx E f f.length)]
       rw [hA2, hsn]
       show _ = [none, some (AObj.mk _ (.box (tbF r l nx (.sl 3 0 (List.set _ _ _).length)))), _, _, _, _]
       rw [List.length_set]; rfl
      ·have hj' : j = f.length := by omega
       subst hj'
       rw [List.take_length, hstep, ← hst]
       refine zFO ?_
       refine zB8 (slH r l nx (zp l nx (zAE r l) (n + 1)) []) [zFZ f, resO (zEZ l nx E f f.length)] [(1, .ptr 2 0 0), (4, .int .i64 ((n : Int) + 1))] J ⟨J, J, trivial⟩ (fun h q => Nat.lt_of_lt_of_le (hfx h q) (by show 2 ≤ 4; decide)) (zFn r l nx _) J ?_
       refine rn3 ?_
       refine zS ⟨n + 1, by rw [hst]; omega, by rw [hst]; omega, ⟨J, J, trivial⟩, J⟩
abbrev zEY (r : Go.Ax.Gm.Rules) (l : List Pos) (nx : List (List Nat)) : zO :=
 [some ⟨95, .mp (zB1 l) (zCU l.length)⟩, some ⟨97, .box (tbC r l.length nx.length .nil)⟩, some ⟨35, zBd l⟩, some ⟨23, zC9 nx⟩]
theorem zE6 (r : Go.Ax.Gm.Rules) (l : List Pos) (nx : List (List Nat)) : ∀ (h : Nat) (o : AObj), (zEY r l nx)[h]? = some (some o) → zAw (zEY r l nx).length o.c :=
 zBx (zHk l _) (zBx (zHC rfl) (zBx (zFJ l) (zBx (zH6 nx) zBV)))
/-- (*retro.Table).add -/
theorem add0_ok (r : Go.Ax.Gm.Rules) (hv : ValidR r) (l : List Pos) (nx : List (List Nat)) (p : Pos) (S : Sound r p) (G : ∀ q ∈ l, Sound r q ∧ q.quiet = 0) (hl : l.length ≤ 3001) :
 zb Tryz.prog 78 [.ptr 1 0 0, poA p] (zEY r l nx) (fun h => h < 4 ∧ h ≠ 2) (fun v H => v = iN (zA8 l p) ∧ H = zEY r (zCX l p) nx) := by
 have hc : zb Tryz.prog 78 [.ptr 1 0 0, poA p] (zEY r l nx) (fun h => h < 4 ∧ h ≠ 2) (fun v H => v = iN (zA8 l p) ∧ ∃ x, H = zEY r (zCX l p) nx ++ [x]) := by
  refine zL (P := Tryz.prog) (fn := Tryz.f78) J J (by kernel_rfl) J (fun c hR hfix => ?_)
  refine rn6 ?_
  refine zQ J J J (zFE hv S) ?_
  refine rn8 ?_
  by_cases hi : zA8 l p < l.length
  ·have hadd : zCX l p = l := by unfold zCX; rw [if_pos hi]
   rw [hadd] at hR
   refine zA (zEN J (.str J) J J J J (zCv l) (zA8 l p) (zGc hi) (zGp hi)) ?_
   refine rn5 ?_
   exact zN hR J ⟨J, _, J⟩
  ·have hadd : zCX l p = l ++ [zBn p] := by unfold zCX; rw [if_neg hi]
   have hidx : zA8 l p = l.length := by have := zJJ l p; omega
   rw [hadd, hidx] at hR
   refine zA (zDq J (.str J) J J J J J J J J (zCv l) (zEo hv S G hi)) ?_
   repeat (first | refine zA (zG rfl) ?_ | refine zA (zP rfl) ?_ | refine zC ?_ | refine zB ?_ | refine zX ?_ | refine zK rfl ?_ | refine zAY rfl ?_ | refine zA (zT rfl rfl rfl rfl rfl) ?_ | refine zA (zDh rfl) ?_ | refine zA (zAd rfl rfl) ?_ | refine zA (zA5 rfl rfl rfl) ?_ | refine zA (zZ rfl) ?_ | refine zA (zM rfl rfl rfl rfl rfl rfl) ?_ | refine zAF rfl rfl rfl rfl rfl rfl rfl Nat.zero_lt_one ?_)
   refine zEe J (.str J) J J J J J (zCv l) (zEo hv S G hi) ?_
   refine rn0 ?_
   have hll : (l ++ [zBn p]).length = l.length + 1 := by rw [List.length_append]; rfl
   refine zAa [some ⟨95, .mp (zB1 (l ++ [zBn p])) (zCU (l.length + 1))⟩, some ⟨97, .box (tbC r l.length nx.length .nil)⟩, some ⟨35, zBd l⟩, some ⟨23, zC9 nx⟩, some ⟨35, .box (poC (zBn p))⟩] (by rw [← zIp, ← zI3]; rfl) ?_
   refine zd (by kernel_rfl) ?_
   refine zW 0 J (by kernel_rfl) (by kernel_rfl) (by kernel_rfl) J (zG J) J ?_
   refine zj (fuel := 4) [1, 2, 3, 4, 5, 6] [(33, .ptr 1 0 0), (0, .ptr 1 0 0), (3, .ptr 4 0 0), (6, iN l.length)] ⟨J, J, J, J, trivial⟩ (by kernel_rfl) (by decide) J J ?_
   refine zJ J J (zG J) ?_
   refine zJ J J (zZ J) ?_
   refine zJ J J (zM J J J J J J) ?_
   refine zJ J J (zT J J J J J) ?_
   refine zJ J J (qpp J J J J J J J) ?_
   refine px_b J J J J J J J J J J J J J ?_
   refine zz ?_
   refine zH (is := [7]) (by kernel_rfl) (by simp) J ⟨fun o ho => ?_, trivial⟩
   all_goals (cases ho)
   refine zBU [zBn p] J J J J J J J J J J J J J (Nat.le_refl _) (fun k' j hk' hj => ?_) (by show (l.length + 1) * 88 ≤ _ ∧ _; omega) (fun a j k _ => zCx a j k) (by rw [hfix]; exact fun h => h.2 J) ?_
   ·obtain rfl : k' = 0 := Nat.lt_one_iff.1 hk'
    match j, hj with
    | 0, _ => rfl
    | 1, _ => rfl
    | 2, _ => rfl
    | 3, _ => rfl
    | 4, _ => rfl
   refine zAe [some ⟨95, .mp (zB1 (l ++ [zBn p])) (zCU (l.length + 1))⟩, some ⟨97, .box ((tbC r l.length nx.length .nil).set 11 .any)⟩, some ⟨35, zBd (l ++ [zBn p])⟩, some ⟨23, zC9 nx⟩, some ⟨35, .box (poC (zBn p))⟩] ?_ ?_
   ·show [some (AObj.mk _ ((Cells.mp _ _).forget 2)), some (AObj.mk _ ((Cells.box _).forget 2)), some (AObj.mk _ (zBd (l ++ [zBn p]))), some (AObj.mk _ ((zC9 nx).forget 2)), some (AObj.mk _ ((Cells.box (poC (zBn p))).forget 2))] = _
    rw [zDd, zB5 (fun a j => zDi a j 2)]; rfl
   refine rn1 ?_
   refine zW 8 J (by kernel_rfl) (by kernel_rfl) (by kernel_rfl) J (zZ J) J ?_
   refine zW 9 J (by kernel_rfl) (by kernel_rfl) (by kernel_rfl) J (zM J J J J J J) J ?_
   refine zH (is := [10]) (by kernel_rfl) (by simp) J ⟨fun o ho => ?_, trivial⟩
   all_goals (cases ho)
   refine rn9 ?_
   refine zY (by kernel_rfl) ?_
   refine rn0 ?_
   exact zN hR J ⟨J, _, by show _ = [_, _, _, _, _]; rw [hll]; rfl⟩
 exact zb.cutR hc (fun v H ⟨e1, x, e2⟩ => ⟨_, [x], e2, fun h q => q.1, zE6 _ _ _, e1 ▸ J, e1, J⟩)
theorem zHo {r : Go.Ax.Gm.Rules} (hv : ValidR r) {p : Pos} (S : Sound r p) : (zAb r p).length ≤ 10000 := by
 have h1 := zGj hv S p.cells.length
 have h2 := (zAk hv S).c
 have h3 : (rawM r p).length ≤ 384 + 112 * p.cells.length := h1
 unfold zAb
 have h4 := zGv ((rawM r p).mergeSort leM)
 rw [List.length_mergeSort] at h4
 omega
theorem zGd {r : Go.Ax.Gm.Rules} (hv : ValidR r) {p : Pos} (S : Sound r p) : (zAx r p).length ≤ 10000 := by
 unfold zAx
 split
 ·exact Nat.zero_le _
 ·exact zHo hv S
abbrev zB6 (T : Tab) : AV := .rp (.box (tbF T.r T.l T.nx (.ro (zBX T.E) 0 T.E.length))) 0 0
def zEr (r : Go.Ax.Gm.Rules) : AV := if zC4 r ≠ 0 then .nilp else match zD1 r with
 | some x => zB6 (zE5 r x)
 | none => .nilp
theorem zGg : ∀ {l : List AV}, (∀ x ∈ l, noRef x = true) → noRef.noRefs l = true
 | [], _ => rfl
 | x :: l, h => by
  show (noRef x && noRef.noRefs l) = true
  rw [h x (List.mem_cons_self ..), zGg (fun y hy => h y (List.mem_cons_of_mem _ hy))]; rfl
theorem zJK (l : List Pos) (n : Nat) : zAA (.mp (zB1 l) (zCU n)) :=
 ⟨zGg (fun x hx => by obtain ⟨p, _, rfl⟩ := List.mem_map.1 hx; rfl), zGg (fun x hx => by obtain ⟨p, _, rfl⟩ := List.mem_map.1 hx; rfl)⟩
theorem zEu (l : List Pos) : zAA (zBd l) := zBD (fun a j hj => by
 match j, hj with
 | 0, _ => rfl
 | 1, _ => rfl
 | 2, _ => rfl
 | 3, _ => rfl
 | 4, _ => rfl)
theorem zJY (nx : List (List Nat)) : zAA (zC9 nx) := zBD (fun a j hj => by
 obtain rfl : j = 0 := Nat.lt_one_iff.1 hj
 rfl)
theorem zJG (E : List Ent) : zAA (zBX E) := zBD (fun a j hj => by
 match j, hj with
 | 0, _ => rfl
 | 1, _ => rfl)
/-- retro.New, refused -/
theorem new_no (r : Go.Ax.Gm.Rules) (hr : Lens r) (h : zAh r ≠ 0) : zi Tryz.prog 48 [ruA r] (.tup [.nilp, .int .i64 (zAh r)]) := by
 refine zb.value0 (zL (P := Tryz.prog) (fn := Tryz.f48) J J (by kernel_rfl) J (fun c hR hfix => ?_)) (fix := fun _ => False) (fun _ h => h) J J
 refine rn6 ?_
 refine zQ J J J (begin_no r hr h) ?_
 refine rn4 ?_
 refine zV (poC zn) J J J J J J J ?_
 refine rn3 ?_
 refine zF J (fun q => ?_) (fun q => absurd h q)
 refine rn2 ?_
 exact zN hR J J
/-- retro.New, a limit of quiet moves -/
theorem zMF (r : Go.Ax.Gm.Rules) (hr : Lens r) (h : zAh r = 0) (hq : r.quiet ≠ 0) : zi Tryz.prog 48 [ruA r] (.tup [.nilp, .int .i64 1]) := by
 refine zb.value0 (zL (P := Tryz.prog) (fn := Tryz.f48) J J (by kernel_rfl) J (fun c hR hfix => ?_)) (fix := fun _ => False) (fun _ h => h) J J
 refine rn6 ?_
 refine zQ J J J (zHQ r hr h) ?_
 refine rn4 ?_
 refine zV (poC (zAZ r)) J J J J J J J ?_
 refine rn5 ?_
 refine zF J (fun q => ?_) (fun q => absurd hq q)
 refine rn2 ?_
 exact zN hR J J
/-- retro.New -/
theorem new_run (r : Go.Ax.Gm.Rules) (hr : Lens r) (h : zAh r = 0) (hq : r.quiet = 0) : zi Tryz.prog 48 [ruA r] (.tup [zEr r, .int .i64 (zC4 r)]) := by
 have hE : zC4 r = match zD1 r with | none => 2 | some _ => 0 := by
  unfold zC4
  rw [if_neg (fun c => c h), if_neg (fun c => c hq)]
  cases zD1 r <;> rfl
 have hnone : zD1 r = none → zC4 r = 2 ∧ zEr r = .nilp := fun q => by
  have e : zC4 r = 2 := by rw [hE, q]
  exact ⟨e, by unfold zEr; rw [e, if_pos (by decide)]⟩
 have hsome : ∀ x, zD1 r = some x → zC4 r = 0 ∧ zEr r = zB6 (zE5 r x) := fun x q => by
  have e : zC4 r = 0 := by rw [hE, q]
  exact ⟨e, by unfold zEr; rw [e, if_neg (by decide), q]⟩
 have hv := zBH h
 refine zb.value0 (zL (P := Tryz.prog) (fn := Tryz.f48) J J (by kernel_rfl) J (fun c hR hfix => ?_)) (fix := fun _ => False) (fun _ h => h) ?_ ?_
 rotate_left
 ·rfl
 ·show (noRef (zEr r) && true) = true
  rcases hx : zD1 r with _ | x
  ·rw [(hnone hx).2]; rfl
  ·rw [(hsome x hx).2]; rfl
 refine zX ?_
 repeat (first | refine zA (zP rfl) ?_ | refine zC ?_ | refine zB ?_ | refine zK rfl ?_ | refine zAm rfl rfl ?_)
 refine zBg 1 [] J ⟨J, trivial⟩ trivial J hfix ?_
 refine rn6 ?_
 refine zQ J J J (zHQ r hr h) ?_
 refine rn4 ?_
 refine zV (poC (zAZ r)) J J J J J J J ?_
 refine zAp ?_
 refine zBg 4 [(1, .rp (.box (ruC r)) 0 0), (5, .int .i64 0)] J ⟨J, J, J, trivial⟩ ⟨J, J, trivial⟩ J hfix ?_
 refine zBe ?_
 refine zF J (fun q => absurd hq q) (fun q => ?_)
 refine rn6 ?_
 refine zQ J J J (copyR_ok r (zKP hv)) ?_
 skip
 refine zKc ?_
 skip
 refine zA (q_buildM J J J J J J) ?_
 repeat (first | refine zA (zP rfl) ?_ | refine zC ?_ | refine zB ?_ | refine zX ?_ | refine zAm rfl rfl ?_)
 refine zAa [some ⟨95, .mp (zB1 []) (zCU 0)⟩, some ⟨97, .box [.str r.name, .int .i64 r.w, .int .i64 r.h, .ro (zAU r.pcs) 0 r.pcs.length, zr r.start, .bool r.falls, .bool r.keeps, .ro (zEj r.ends) 0 r.ends.length, .int .i64 r.blocked, .int .i64 r.quiet, .int .i64 r.rep, .nil, .nil, .nil, .mp 0]⟩] J ?_
 refine zDK 1 ⟨35, zBd []⟩ (.box [.str r.name, .int .i64 r.w, .int .i64 r.h, .ro (zAU r.pcs) 0 r.pcs.length, zr r.start, .bool r.falls, .bool r.keeps, .ro (zEj r.ends) 0 r.ends.length, .int .i64 r.blocked, .int .i64 r.quiet, .int .i64 r.rep, .sl 2 0 0, .nil, .nil, .mp 0]) J J J J (fun i j hi hj => by
  obtain rfl : i = 0 := Nat.lt_one_iff.1 hi
  have hj : j < 15 := hj
  match j, hj with
  | 0, _ => exact .inl rfl
  | 1, _ => exact .inl rfl
  | 2, _ => exact .inl rfl
  | 3, _ => exact .inl rfl
  | 4, _ => exact .inl rfl
  | 5, _ => exact .inl rfl
  | 6, _ => exact .inl rfl
  | 7, _ => exact .inl rfl
  | 8, _ => exact .inl rfl
  | 9, _ => exact .inl rfl
  | 10, _ => exact .inl rfl
  | 11, _ => exact .inr ⟨rfl, rfl⟩
  | 12, _ => exact .inl rfl
  | 13, _ => exact .inl rfl
  | 14, _ => exact .inl rfl) ?_
 refine zDK 1 ⟨23, zC9 []⟩ (.box [.str r.name, .int .i64 r.w, .int .i64 r.h, .ro (zAU r.pcs) 0 r.pcs.length, zr r.start, .bool r.falls, .bool r.keeps, .ro (zEj r.ends) 0 r.ends.length, .int .i64 r.blocked, .int .i64 r.quiet, .int .i64 r.rep, .sl 2 0 0, .sl 3 0 0, .nil, .mp 0]) J J J J (fun i j hi hj => by
  obtain rfl : i = 0 := Nat.lt_one_iff.1 hi
  have hj : j < 15 := hj
  match j, hj with
  | 0, _ => exact .inl rfl
  | 1, _ => exact .inl rfl
  | 2, _ => exact .inl rfl
  | 3, _ => exact .inl rfl
  | 4, _ => exact .inl rfl
  | 5, _ => exact .inl rfl
  | 6, _ => exact .inl rfl
  | 7, _ => exact .inl rfl
  | 8, _ => exact .inl rfl
  | 9, _ => exact .inl rfl
  | 10, _ => exact .inl rfl
  | 11, _ => exact .inl rfl
  | 12, _ => exact .inr ⟨rfl, rfl⟩
  | 13, _ => exact .inl rfl
  | 14, _ => exact .inl rfl) ?_
 refine zAa (zEY r [] []) J ?_
 have nofix : ∀ (h n : Nat), c.fix h → h < n := fun h n q => by rw [hfix] at q; exact q.elim
 refine zB8 (zEY r [] []) [] [(4, .rp (.box (poC (zAZ r))) 0 0), (6, .ptr 1 0 0)] J ⟨J, J, trivial⟩ (fun h q => nofix h _ q) (zE6 _ _ _) J ?_
 refine rn6 ?_
 refine zEd 2 J J J (add0_ok r hv [] [] (zAZ r) (zDa hv) (fun q hq => absurd hq (by simp)) (Nat.zero_le _)) (fun h q1 q2 => ⟨q1, q2⟩) (fun h q => q.1) (by rw [hfix]; exact fun h => h) ?_
 rintro v H ⟨rfl, rfl⟩
 refine ⟨Nat.le_refl _, ?_⟩
 refine rn1 ?_
 refine zt (ι := Nat × List Pos × List (List Nat)) (fun x => [(6, .ptr 1 0 0), (7, iN x.1)]) (fun x => zEY r x.2.1 x.2.2) (fun x => Grown r x.1 x.2.1 x.2.2 ∧ Go.Ax.Gm.grow r (3001 - x.1) x.1 x.2.1 x.2.2 = zD1 r) (fun x => 3001 - x.1) (0, [zAZ r], []) ⟨⟨J, J, trivial⟩, J, zG0 hv, J⟩ ?_
 rintro ⟨i, l, nx⟩ ⟨G, hg⟩
 have G : Grown r i l nx := G
 have hg : Go.Ax.Gm.grow r (3001 - i) i l nx = zD1 r := hg
 change Ax _ _ _ _ [(6, .ptr 1 0 0), (7, iN i)] (zEY r l nx)
 have hmost := G.most
 have hle := G.le
 repeat (first | refine zA (zG rfl) ?_ | refine zC ?_ | refine zB ?_ | refine zX ?_ | refine zK rfl ?_ | refine zA (zT rfl rfl rfl rfl rfl) ?_ | refine zA (zB3 rfl rfl) ?_ | refine zA (zA5 rfl rfl rfl) ?_ | refine zA (zZ rfl) ?_ | refine zA (zM rfl rfl rfl rfl rfl rfl) ?_)
 refine zF J (fun q => ?_) (fun q => ?_)
 ·have hi : i < l.length := by omega
  have S := (G.snd (l.getD i zn) (by
   rw [show l.getD i zn = l[i] by simp [List.getD, hi]]
   exact List.getElem_mem hi)).1
  have hml := zGd hv S
  refine rn20 ?_
  refine zK J ?_
  refine zAp ?_
  refine zBY 8 ⟨3, .ints .i64 []⟩ J J ?_
  refine zAa (zIE r l nx []) J ?_
  skip
  refine zd (by kernel_rfl) ?_
  refine zj (fuel := 0) [0, 1, 2, 3, 4, 5, 6, 7, 8, 9, 10, 11, 12, 13] [(6, .ptr 1 0 0), (7, iN i), (8, .sl 4 0 0)] ⟨J, J, J, trivial⟩ (by kernel_rfl) (by decide) J J ?_
  refine zJ J J (zG J) ?_
  refine zJ J J (zZ J) ?_
  refine zJ J J (zM J J J J J J) ?_
  refine zJ J J (qpp J J J J J J J) ?_
  refine zJ J J (zG J) ?_
  refine zJ J J (zZ J) ?_
  refine zJ J J (zM J J J J J J) ?_
  refine zJ J J (zT J J J J J) ?_
  refine zJ J J (zG J) ?_
  refine zJ J J (zh J J J J J (by first | (simp only [Nat.zero_add, Int.toNat_natCast, Int.toNat_zero]; exact J) | exact J) (by omega)) ?_
  refine zJ J J (qpp J J J J J J J) ?_
  refine zCQ J J J J J (zGx r hv (l.getD i zn) S) ?_
  refine zJ J J (zA5 J J J) ?_
  refine zJ J J (zG J) ?_
  refine zz ?_
  refine zY (by kernel_rfl) ?_
  refine rn1 ?_
  have hok : ∀ m ∈ zAx r (l.getD i zn), MvOK r (l.getD i zn) m ∧ Sound r (zAy r (l.getD i zn) m) := fun m hm => ⟨zGB hv S hm, zEI hv S (zGB hv S hm)⟩
  have hstep := fun l' ix (h : zCD r (l.getD i zn) (zAx r (l.getD i zn)) l [] = some (l', ix)) => zHg G hi (fun m hm => (hok m hm).2) h
  have hgN : zCD r (l.getD i zn) (zAx r (l.getD i zn)) l [] = none → ∀ f, Go.Ax.Gm.grow r (f + 1) i l nx = none := fun a f => by rw [Go.Ax.Gm.grow, if_pos hi, a]
  have hgS : ∀ x, zCD r (l.getD i zn) (zAx r (l.getD i zn)) l [] = some x → ∀ f, Go.Ax.Gm.grow r (f + 1) i l nx = Go.Ax.Gm.grow r f (i + 1) x.1 (nx ++ [x.2]) := fun x a f => by rw [Go.Ax.Gm.grow, if_pos hi, a]
  generalize hms : zAx r (l.getD i zn) = ms at hok hstep hgN hgS hml
  refine zt (ι := Nat × List Pos × List Nat) (fun x => [(6, .ptr 1 0 0), (7, iN i), (8, .sl 4 0 x.2.2.length), (50, zCA ms), (51, iN ms.length), (52, iN x.1)]) (fun x => zIE r x.2.1 nx (x.2.2.map Int.ofNat)) (fun x => x.1 ≤ ms.length ∧ zCD r (l.getD i zn) (ms.drop x.1) x.2.1 x.2.2 = zCD r (l.getD i zn) ms l [] ∧ l <+: x.2.1 ∧ (∀ q ∈ x.2.1, Sound r q ∧ q.quiet = 0) ∧ x.2.1.length ≤ 3000 ∧ x.2.2.length = x.1) (fun x => ms.length - x.1) (0, l, []) ⟨⟨J, J, J, J, J, J, trivial⟩, J, Nat.zero_le _, J, List.prefix_refl _, G.snd, hmost, J⟩ ?_
  rintro ⟨k, l', ix⟩ ⟨hk, ha, hpre, hsnd, hl3, hix⟩
  have hk : k ≤ ms.length := hk
  have ha : zCD r (l.getD i zn) (ms.drop k) l' ix = zCD r (l.getD i zn) ms l [] := ha
  have hpre : l <+: l' := hpre
  have hsnd : ∀ q ∈ l', Sound r q ∧ q.quiet = 0 := hsnd
  have hl3 : l'.length ≤ 3000 := hl3
  have hix : ix.length = k := hix
  change Ax _ _ _ _ [(6, .ptr 1 0 0), (7, iN i), (8, .sl 4 0 ix.length), (50, zCA ms), (51, iN ms.length), (52, iN k)] (zIE r l' nx (ix.map Int.ofNat))
  have hli : (ix.map Int.ofNat).length = ix.length := List.length_map ..
  refine rn4 ?_
  refine zF J (fun q2 => ?_) (fun q2 => ?_)
  ·have hk' : k < ms.length := by omega
   have hd : ms.drop k = ms.getD k mv0 :: ms.drop (k + 1) := by rw [List.drop_eq_getElem_cons hk', zEE mv0 hk']
   have hm := hok (ms.getD k mv0) (zAg mv0 hk')
   rw [hd, zCD] at ha
   have hpi : l'.getD i zn = l.getD i zn := zEv hpre hi
   have hi' : i < l'.length := Nat.lt_of_lt_of_le hi hpre.length_le
   rw [← hpi] at hm S
   generalize hmk : ms.getD k mv0 = m at ha hm
   refine zFj ?_
   repeat (refine zAM rfl rfl rfl ?_)
   refine zV (mvC m) J J J J J (by rw [← hmk]; rfl) J ?_
   refine rn0 ?_
   refine zDm (zIE r l' nx (ix.map Int.ofNat)) 10 [(6, .ptr 1 0 0), (7, iN i), (8, .sl 4 0 ix.length), (50, zCA ms), (51, iN ms.length), (52, iN k)] J J ⟨J, J, J, J, J, J, trivial⟩ ⟨J, J, J, J, J, J, J, trivial⟩ (zIF _ _ _ _) J (fun h q => nofix h _ q) ?_
   refine zd (by kernel_rfl) ?_
   refine zW 0 J (by kernel_rfl) (by kernel_rfl) (by kernel_rfl) J (zG J) J ?_
   refine zj (fuel := 4) [1, 2, 3, 4, 5, 6, 7, 8, 9, 10, 11, 12, 13, 14] [(56, .sl 4 0 ix.length), (10, .rp (.box (mvC m)) 0 0), (6, .ptr 1 0 0), (7, iN i), (8, .sl 4 0 ix.length), (50, zCA ms), (51, iN ms.length), (52, iN k)] ⟨J, J, J, J, J, J, J, J, trivial⟩ (by kernel_rfl) (by decide) J J ?_
   refine zJ J J (zG J) ?_
   refine zJ J J (zG J) ?_
   refine zJ J J (zZ J) ?_
   refine zJ J J (zM J J J J J J) ?_
   refine zJ J J (qpp J J J J J J J) ?_
   refine zJ J J (zG J) ?_
   refine zJ J J (zZ J) ?_
   refine zJ J J (zM J J J J J J) ?_
   refine zJ J J (zT J J J J J) ?_
   refine zJ J J (zG J) ?_
   refine zJ J J (zh J J J J J (by first | (simp only [Nat.zero_add, Int.toNat_natCast, Int.toNat_zero]; exact J) | exact J) (by omega)) ?_
   refine zJ J J (qpp J J J J J J J) ?_
   refine zJ J J (z6 J J J J J J) ?_
   refine zCQ J J J J J (zLY r hv (l'.getD i zn) S m hm.1) ?_
   refine zz ?_
   refine zH (is := [15]) (by kernel_rfl) (by simp) J ⟨fun o ho => ?_, trivial⟩
   all_goals (cases ho)
   refine zEd 2 J J J (add_ok r hv l' nx (ix.map Int.ofNat) (zAy r (l'.getD i zn) m) hm.2 hsnd (by omega)) (fun h q1 q2 => ⟨q1, q2⟩) (fun h q => q.1) (by rw [hfix]; exact fun h => h) ?_
   rintro v H ⟨rfl, rfl⟩
   refine ⟨Nat.le_refl _, ?_⟩
   rw [hpi]
   generalize hP : zAy r (l.getD i zn) m = P at ha hm
   have hadd := zLK l' P
   refine rn1 ?_
   refine zH (is := [16]) (by kernel_rfl) (by simp) J ⟨fun o ho => ?_, trivial⟩
   all_goals (cases ho)
   refine rn3 ?_
   refine zH (is := [17]) (by kernel_rfl) (by simp) J ⟨fun o ho => ?_, trivial⟩
   all_goals (cases ho)
   refine zAX J J J J J J J J J hli J J (by show 0 + 1 ≤ 1; omega) J (by show (ix.length + 1) * 8 ≤ _ ∧ _; omega) (fun i j _ _ => rfl) (by rw [hfix]; exact fun h => h) ?_
   refine zAe (zIE r (zCX l' P) nx ((ix ++ [zA8 l' P]).map Int.ofNat)) ?_ ?_
   ·show [some (AObj.mk _ ((Cells.mp _ _).forget 4)), some (AObj.mk _ ((Cells.box _).forget 4)), some (AObj.mk _ ((zBd _).forget 4)), some (AObj.mk _ ((zC9 nx).forget 4)), _] = _
    rw [zDd, zB5 (fun a j => zCx a j 4), zB5 (fun a j => zDi a j 4)]
    show _ = [_, _, _, _, some (AObj.mk _ (Cells.ints .i64 ((ix ++ [zA8 l' P]).map Int.ofNat)))]
    rw [List.map_append]; rfl
   refine rn1 ?_
   refine zH (is := [18]) (by kernel_rfl) (by simp) J ⟨fun o ho => ?_, trivial⟩
   all_goals (cases ho)
   refine rn1 ?_
   refine zY (by kernel_rfl) ?_
   refine rn15 ?_
   refine zF J (fun g => ?_) (fun g => ?_)
   ·rw [if_pos (by omega)] at ha
    have hN : zD1 r = none := by
     rw [← hg, show 3001 - i = (3000 - i) + 1 by omega]
     exact hgN ha.symm _
    refine rn6 ?_
    refine zN hR J ?_
    show _ = AV.tup [zEr r, .int .i64 (zC4 r)]
    rw [(hnone hN).1, (hnone hN).2]; rfl
   ·rw [if_neg (by omega)] at ha
    have hmP : Sound r P := by rw [← hP, ← hpi]; exact hm.2
    refine rn5 ?_
    refine zS ⟨(k + 1, zCX l' P, ix ++ [zA8 l' P]), ⟨by show k + 1 ≤ ms.length; omega, ha, hpre.trans (zLL l' P), zIW hmP hsnd, by show (zCX l' P).length ≤ 3000; omega, by show (ix ++ [zA8 l' P]).length = k + 1; rw [List.length_append, hix]; rfl⟩, by show ms.length - (k + 1) < ms.length - k; omega, ⟨J, J, ?_, J, J, J, trivial⟩, J⟩
    show some (AV.sl 4 0 (ix.length + 1)) = some (AV.sl 4 0 (ix ++ [zA8 l' P]).length)
    rw [List.length_append]; rfl
  ·have hk' : k = ms.length := by omega
   subst hk'
   rw [List.drop_length, zCD] at ha
   have ha := ha.symm
   refine zAp ?_
   refine zDC 4 8 ix.length [(6, .ptr 1 0 0), (7, iN i)] J zAK J (by show ix.length ≤ (ix.map Int.ofNat).length; rw [hli]; exact Nat.le_refl _) ⟨J, J, trivial⟩ ?_
   have hnl : (nx ++ [ix]).length = nx.length + 1 := by rw [List.length_append]; rfl
   have hnx : nx.length ≤ 3000 := by have := G.len; omega
   refine zK J ?_
   repeat (first | refine zA (zG rfl) ?_ | refine zA (zT rfl rfl rfl rfl rfl) ?_ | refine zA (zZ rfl) ?_ | refine zA (zM rfl rfl rfl rfl rfl rfl) ?_ | refine z8 rfl rfl rfl rfl rfl rfl rfl rfl rfl rfl rfl ?_)
   refine zBU [ix] J J J J J J J J J J J J J (by show 0 + 1 ≤ 1; omega) (fun k' j hk' hj => ?_) (by show (nx.length + 1) * 24 ≤ _ ∧ _; omega) (fun a j k _ => zDi a j k) (by rw [hfix]; exact fun h => h) ?_
   ·obtain rfl : k' = 0 := Nat.lt_one_iff.1 hk'
    obtain rfl : j = 0 := Nat.lt_one_iff.1 hj
    show AV.ro (Cells.ints .i64 (List.map Int.ofNat ix)) 0 ix.length = AV.ro (Cells.ints .i64 (List.map Int.ofNat ix)) 0 (List.map Int.ofNat ix).length
    rw [hli]
   refine zAe [some ⟨95, .mp (zB1 l') (zCU l'.length)⟩, some ⟨97, .box ((tbC r l'.length nx.length .nil).set 12 .any)⟩, some ⟨35, zBd l'⟩, some ⟨23, zC9 (nx ++ [ix])⟩, none] ?_ ?_
   ·show [some (AObj.mk _ ((Cells.mp _ _).forget 3)), some (AObj.mk _ ((Cells.box _).forget 3)), some (AObj.mk _ ((zBd _).forget 3)), some (AObj.mk _ (zC9 (nx ++ [ix]))), none] = _
    rw [zDd, zB5 (fun a j => zCx a j 3)]; rfl
   repeat (first | refine zC ?_ | refine zAI ?_ | refine zA (zZ rfl) ?_ | refine zA (zM rfl rfl rfl rfl rfl rfl) ?_ | refine zAF rfl rfl rfl rfl rfl rfl rfl Nat.zero_lt_one ?_)
   refine zB ?_
   refine zAa (zEY r l' (nx ++ [ix]) ++ [none]) (by show _ = [_, some (AObj.mk _ (.box (tbC r l'.length (nx ++ [ix]).length .nil))), _, _, _]; rw [hnl]; rfl) ?_
   refine zB8 (zEY r l' (nx ++ [ix])) [none] [(6, .ptr 1 0 0), (7, iN i)] J ⟨J, J, trivial⟩ (fun h q => nofix h _ q) (zE6 _ _ _) J ?_
   refine rn3 ?_
   refine zS ⟨(i + 1, l', nx ++ [ix]), ⟨hstep l' ix ha, ?_⟩, by show 3001 - (i + 1) < 3001 - i; omega, ⟨J, J, trivial⟩, J⟩
   show Go.Ax.Gm.grow r (3001 - (i + 1)) (i + 1) l' (nx ++ [ix]) = zD1 r
   rw [← hg, show 3001 - i = (3001 - (i + 1)) + 1 by omega]
   exact (hgS (l', ix) ha _).symm
 ·have hi : i = l.length := by omega
  subst hi
  have hN : zD1 r = some (l, nx) := by
   rw [← hg]
   cases 3001 - l.length with
   | zero => rfl
   | succ f => rw [Go.Ax.Gm.grow, if_neg (Nat.lt_irrefl _)]
  refine zAp ?_
  refine zA0 [some ⟨95, .mp (zB1 l) (zCU l.length)⟩, none, some ⟨35, zBd l⟩, some ⟨23, zC9 nx⟩] [none, some ⟨97, .box (tbF r l nx .nil)⟩, none, none] [(6, .ptr 1 0 0)] ?_ (zCI (zJK l _) (zCJ (zCI (zEu l) (zCI (zJY nx) zCf)))) J ?_ ⟨⟨.ptr 1 0 0, J, .inl J⟩, trivial⟩ ?_
  ·intro h o ho
   match h, ho with
   | 0, ho => exact ho
   | 1, ho => simp at ho
   | 2, ho => exact ho
   | 3, ho => exact ho
   | _ + 4, ho => simp at ho
  ·intro h o ho
   match h, ho with
   | 0, ho => simp at ho
   | 1, ho =>
    cases ho
    refine ⟨fun o h => by simp at h, _, J, J, J, J, fun i j hi hj => ?_⟩
    obtain rfl : i = 0 := Nat.lt_one_iff.1 hi
    have hj : j < 15 := hj
    match j, hj with
    | 0, _ => exact .inl rfl
    | 1, _ => exact .inl rfl
    | 2, _ => exact .inl rfl
    | 3, _ => exact .inl rfl
    | 4, _ => exact .inl rfl
    | 5, _ => exact .inl rfl
    | 6, _ => exact .inl rfl
    | 7, _ => exact .inl rfl
    | 8, _ => exact .inl rfl
    | 9, _ => exact .inl rfl
    | 10, _ => exact .inl rfl
    | 11, _ => exact .inr (.inr ⟨rfl, fun o ho => by cases ho; show 0 + l.length ≤ l.length; omega⟩)
    | 12, _ => exact .inr (.inr ⟨rfl, fun o ho => by cases ho; show 0 + nx.length ≤ nx.length; omega⟩)
    | 13, _ => exact .inl rfl
    | 14, _ => exact .inr (.inr ⟨rfl, trivial⟩)
   | 2, ho => simp at ho
   | 3, ho => simp at ho
   | _ + 4, ho => simp at ho
  refine zB8 [none, some ⟨97, .box (tbF r l nx .nil)⟩] [none, none] [(6, .ptr 1 0 0)] J ⟨J, trivial⟩ (fun h q => nofix h _ q) (bl_n (zBx (zHC J) zBV)) J ?_
  have hmem : ∀ i, i < l.length → Sound r (l.getD i zn) := fun i hi => by
   rw [show l.getD i zn = l[i] by simp [List.getD, hi]]
   exact (G.snd _ (List.getElem_mem hi)).1
  have hP : SolveP r l nx := ⟨hv, hmost, hmem, G.len, fun i hi => by
   have h1 := G.nxl i hi
   have h2 := zGd hv (hmem i hi)
   omega, fun i hi k hk => by
   obtain ⟨j, hj, rfl⟩ := List.mem_iff_getElem.1 hk
   have h1 := G.nxl i hi
   have := (G.nxt i hi j (by omega)).1
   rwa [Go.Ax.Gm.get_at (nx.getD i []) hj] at this⟩
  refine rn0 ?_
  refine zCt J J J (solve_ok r l nx hP) (fun h q => q) (fun h q => q) ?_
  rintro v H ⟨rfl, N, hN2, rfl⟩
  have hE2 : zBj (zp l nx (zAE r l) N) = (zE5 r (l, nx)).E := new_ent (x := (l, nx)) G hN2
  rw [hE2]
  generalize hEE : (zE5 r (l, nx)).E = E
  refine zAp ?_
  refine zA0 [none, none, none, some ⟨37, zBX E⟩] [none, some ⟨97, .box (tbF r l nx (.ro (zBX E) 0 E.length))⟩, none, none] [(6, .ptr 1 0 0)] ?_ (zCJ (zCJ (zCJ (zCI (zJG E) zCf)))) J ?_ ⟨⟨.ptr 1 0 0, J, .inl J⟩, trivial⟩ ?_
  ·intro h o ho
   match h, ho with
   | 0, ho => simp at ho
   | 1, ho => simp at ho
   | 2, ho => simp at ho
   | 3, ho => exact ho
   | _ + 4, ho => simp at ho
  ·intro h o ho
   match h, ho with
   | 0, ho => simp at ho
   | 1, ho =>
    cases ho
    refine ⟨fun o h => by simp at h, _, J, J, J, J, fun i j hi hj => ?_⟩
    obtain rfl : i = 0 := Nat.lt_one_iff.1 hi
    have hj : j < 15 := hj
    match j, hj with
    | 0, _ => exact .inl rfl
    | 1, _ => exact .inl rfl
    | 2, _ => exact .inl rfl
    | 3, _ => exact .inl rfl
    | 4, _ => exact .inl rfl
    | 5, _ => exact .inl rfl
    | 6, _ => exact .inl rfl
    | 7, _ => exact .inl rfl
    | 8, _ => exact .inl rfl
    | 9, _ => exact .inl rfl
    | 10, _ => exact .inl rfl
    | 11, _ => exact .inl rfl
    | 12, _ => exact .inl rfl
    | 13, _ => exact .inr (.inr ⟨rfl, fun o ho => by cases ho; show 0 + E.length ≤ E.length; omega⟩)
    | 14, _ => exact .inl rfl
   | 2, ho => simp at ho
   | 3, ho => simp at ho
   | _ + 4, ho => simp at ho
  refine zB8 [none, some ⟨97, .box (tbF r l nx (.ro (zBX E) 0 E.length))⟩] [none, none] [(6, .ptr 1 0 0)] J ⟨J, trivial⟩ (fun h q => nofix h _ q) (bl_n (zBx (zHC J) zBV)) J ?_
  refine zDm [none] 6 [] J J trivial ⟨J, trivial⟩ (bl_n zBV) J (fun h q => nofix h _ q) ?_
  refine rn0 ?_
  refine zN hR J ?_
  show _ = AV.tup [zEr r, .int .i64 (zC4 r)]
  rw [(hsome _ hN).1, (hsome _ hN).2]
  show _ = AV.tup [.rp (.box (tbF r l nx (.ro (zBX (zE5 r (l, nx)).E) 0 (zE5 r (l, nx)).E.length))) 0 0, .int .i64 0]
  rw [hEE]; rfl
/-- retro.New -/
theorem zJP (r : Go.Ax.Gm.Rules) (hr : Lens r) : zi Tryz.prog 48 [ruA r] (.tup [zEr r, .int .i64 (zC4 r)]) := by
 by_cases h : zAh r = 0
 ·by_cases hq : r.quiet = 0
  ·exact new_run r hr h hq
  ·have e : zC4 r = 1 := by unfold zC4; rw [if_neg (fun c => c h), if_pos hq]
   have e2 : zEr r = .nilp := by unfold zEr; rw [e, if_pos (by decide)]
   rw [e, e2]; exact zMF r hr h hq
 ·have e : zC4 r = zAh r := by unfold zC4; rw [if_pos h]
  have e2 : zEr r = .nilp := by unfold zEr; rw [e, if_pos h]
  rw [e, e2]; exact new_no r hr h
/-- the zero position has empty rows -/
theorem zIY {P : Program} {fn : Func} {c : Ctx} {fr : Fr} {H : zO} {k : List It} {x : Code} {ty : TypeId} (h : Nat) (hh : H[h]? = some (some ⟨ty, .box poZ⟩)) (hk : Ax P fn c (.code x k) fr (H.set h (some ⟨ty, .box (poC zn)⟩))) : Ax P fn c (.code x k) fr H := by
 have hlt : h < H.length := (List.getElem?_eq_some_iff.1 hh).1
 refine zJj (H.set h (some ⟨ty, .box (poC zn)⟩)) (List.length_set ..) (fun h' o ho => ?_) hk
 by_cases e : h' = h
 ·subst e
  rw [List.getElem?_set_self hlt] at ho
  cases ho
  refine ⟨_, hh, J, J, J, fun i j hi hj => ?_⟩
  obtain rfl : i = 0 := Nat.lt_one_iff.1 hi
  have hj : j < 5 := hj
  match j, hj with
  | 0, _ => exact AEq.nil
  | 1, _ => exact AEq.nil
  | 2, _ => exact AEq.nil
  | 3, _ => exact AEq.rfl'
  | 4, _ => exact AEq.rfl'
 ·rw [List.getElem?_set_ne (Ne.symm e)] at ho
  exact ⟨o, ho, J, J, J, fun _ _ _ _ => AEq.rfl'⟩
/-- (*retro.Table).Size -/
theorem zGN (T : Tab) : zi Tryz.prog 18 [zB6 T] (iN T.l.length) := by
 refine zb.value0 (zL (P := Tryz.prog) (fn := Tryz.f18) J J (by kernel_rfl) J (fun c hR hfix => ?_)) (fix := fun _ => False) (fun _ h => h) J J
 repeat (first | refine zA (zG rfl) ?_ | refine zA (zP rfl) ?_ | refine zC ?_ | refine zB ?_ | refine zX ?_ | refine zK rfl ?_ | refine z7 ?_ | refine zA (zA5 rfl rfl rfl) ?_ | refine zA (zD rfl rfl rfl rfl) ?_ | refine zA (zAB rfl) ?_ | refine zA (zI rfl rfl rfl rfl rfl rfl) ?_)
 exact zN hR J J
def atE (T : Tab) (i : Int) : Int := if i < 0 ∨ (T.l.length : Int) ≤ i then 4 else 0
def atP (T : Tab) (i : Int) : Pos := if atE T i ≠ 0 then zn else T.l.getD i.toNat zn
def atX (T : Tab) (i : Int) : Ent := if atE T i ≠ 0 then (0, 0) else zAr T i.toNat
theorem zD2 {T : Tab} (h : TabOK T) {i : Nat} (hi : i < T.l.length) : SmallP (T.l.getD i zn) := zAk h.v (h.sound hi).1
/-- (*retro.Table).At -/
theorem at_ok (T : Tab) (h : TabOK T) (i : Int) : zi Tryz.prog 17 [zB6 T, .int .i64 i] (.tup [poA (atP T i), entA (atX T i), .int .i64 (atE T i)]) := by
 refine zb.value0 (zL (P := Tryz.prog) (fn := Tryz.f17) J J (by kernel_rfl) J (fun c hR hfix => ?_)) (fix := fun _ => False) (fun _ h => h) J J
 have hEl := h.len
 have hmost := h.G.most
 by_cases hi : i < 0 ∨ (T.l.length : Int) ≤ i
 ·have e : atE T i = 4 := by unfold atE; rw [if_pos hi]
  have e1 : atP T i = zn := by unfold atP; rw [e, if_pos (by decide)]
  have e2 : atX T i = (0, 0) := by unfold atX; rw [e, if_pos (by decide)]
  rw [e, e1, e2] at hR
  refine rn4 ?_
  refine zf J J (fun g => ?_) (fun g => ?_)
  ·refine rn18 ?_
   refine zV poZ J J J J J J J ?_
   skip
   refine zV (zBt (0, 0)) J J J J J J J ?_
   refine rn7 ?_
   refine zIY 0 J ?_
   refine rn2 ?_
   exact zN hR J J
  ·repeat (first | refine zA (zG rfl) ?_ | refine zC ?_ | refine zB ?_ | refine zl rfl rfl ?_ | refine zA (zDf rfl rfl) ?_ | refine zA (ze rfl rfl) ?_ | refine zA (zA5 rfl rfl rfl) ?_ | refine zA (zD rfl rfl rfl rfl) ?_ | refine zA (zAB rfl) ?_ | refine zA (zI rfl rfl rfl rfl rfl rfl) ?_)
   refine zF J (fun q => ?_) (fun q => absurd q (by omega))
   refine rn8 ?_
   refine zV poZ J J J J J J J ?_
   skip
   refine zV (zBt (0, 0)) J J J J J J J ?_
   refine rn7 ?_
   refine zIY 0 J ?_
   refine rn2 ?_
   exact zN hR J J
 ·have e : atE T i = 0 := by unfold atE; rw [if_neg hi]
  have e1 : atP T i = T.l.getD i.toNat zn := by unfold atP; rw [e, if_neg (by decide)]
  have e2 : atX T i = zAr T i.toNat := by unfold atX; rw [e, if_neg (by decide)]
  rw [e, e1, e2] at hR
  obtain ⟨n, rfl⟩ : ∃ n : Nat, i = (n : Int) := ⟨i.toNat, by omega⟩
  rw [Int.toNat_natCast] at hR
  have hn : n < T.l.length := by omega
  repeat (first | refine zA (zG rfl) ?_ | refine zA (zP rfl) ?_ | refine zC ?_ | refine zB ?_ | refine zX ?_ | refine zK rfl ?_ | refine zl rfl rfl ?_ | refine zA (zB3 rfl rfl) ?_ | refine zA (zDf rfl rfl) ?_ | refine zA (ze rfl rfl) ?_ | refine zA (zA5 rfl rfl rfl) ?_ | refine zA (zD rfl rfl rfl rfl) ?_ | refine zA (zAB rfl) ?_ | refine zA (zI rfl rfl rfl rfl rfl rfl) ?_ | refine zAM rfl rfl rfl ?_)
  refine zF J (fun q => ?_) (fun q => ?_)
  ·exact absurd q (by omega)
  refine rn1 ?_
  refine zd (by kernel_rfl) ?_
  refine zW 0 J (by kernel_rfl) (by kernel_rfl) (by kernel_rfl) J (zG J) J ?_
  refine zW 1 J (by kernel_rfl) (by kernel_rfl) (by kernel_rfl) J (zAB J) J ?_
  refine zW 2 J (by kernel_rfl) (by kernel_rfl) (by kernel_rfl) J (zI J J J J J J) J ?_
  refine zW 4 J (by kernel_rfl) (by kernel_rfl) (by kernel_rfl) J (zG J) J ?_
  refine zW 8 J (by kernel_rfl) (by kernel_rfl) (by kernel_rfl) J (zG J) J ?_
  refine zW 9 J (by kernel_rfl) (by kernel_rfl) (by kernel_rfl) J (zAB J) J ?_
  refine zW 10 J (by kernel_rfl) (by kernel_rfl) (by kernel_rfl) J (zI J J J J J J) J ?_
  refine zW 12 J (by kernel_rfl) (by kernel_rfl) (by kernel_rfl) J (zG J) J ?_
  apply zR (H := [some ⟨35, .box (poC (T.l.getD n zn))⟩, some ⟨37, .box (zBt (0, 0))⟩]) [(4, .ptr 0 0 0), (5, .ptr 1 0 0), (34, entA (zAr T n))]
  ·intro f42
   apply zR (H := [some ⟨35, .box poZ⟩, some ⟨37, .box (zBt (0, 0))⟩]) [(4, .ptr 0 0 0), (5, .ptr 1 0 0), (27, poA (T.l.getD n zn)), (34, entA (zAr T n))]
   ·intro f32
    apply zR (H := [some ⟨35, .box (poC (T.l.getD n zn))⟩, some ⟨37, .box (zBt (0, 0))⟩]) [(4, .ptr 0 0 0), (5, .ptr 1 0 0), (33, .rp (zBX T.E) n 0)]
    ·intro f41
     apply zR (H := [some ⟨35, .box poZ⟩, some ⟨37, .box (zBt (0, 0))⟩]) [(4, .ptr 0 0 0), (5, .ptr 1 0 0), (26, poA (T.l.getD n zn)), (34, entA (zAr T n))]
     ·intro f22
      apply zR (H := [some ⟨35, .box poZ⟩, some ⟨37, .box (zBt (0, 0))⟩]) [(4, .ptr 0 0 0), (5, .ptr 1 0 0), (27, poA (T.l.getD n zn)), (33, .rp (zBX T.E) n 0)]
      ·intro f31
       apply zR (H := [some ⟨35, .box (poC (T.l.getD n zn))⟩, some ⟨37, .box (zBt (0, 0))⟩]) [(4, .ptr 0 0 0), (5, .ptr 1 0 0), (30, .rp (.box (tbF T.r T.l T.nx (.ro (zBX T.E) 0 T.E.length))) 0 13), (32, iN n)]
       ·intro f40
        apply zR (H := [some ⟨35, .box poZ⟩, some ⟨37, .box (zBt (0, 0))⟩]) [(4, .ptr 0 0 0), (5, .ptr 1 0 0), (25, .rp (zBd T.l) n 0), (34, entA (zAr T n))]
        ·intro f12
         apply zR (H := [some ⟨35, .box poZ⟩, some ⟨37, .box (zBt (0, 0))⟩]) [(4, .ptr 0 0 0), (5, .ptr 1 0 0), (26, poA (T.l.getD n zn)), (33, .rp (zBX T.E) n 0)]
         ·intro f21
          apply zR (H := [some ⟨35, .box poZ⟩, some ⟨37, .box (zBt (0, 0))⟩]) [(4, .ptr 0 0 0), (5, .ptr 1 0 0), (27, poA (T.l.getD n zn)), (30, .rp (.box (tbF T.r T.l T.nx (.ro (zBX T.E) 0 T.E.length))) 0 13), (32, iN n)]
          ·intro f30
           apply zR (H := [some ⟨35, .box poZ⟩, some ⟨37, .box (zBt (0, 0))⟩]) [(4, .ptr 0 0 0), (5, .ptr 1 0 0), (22, .rp (.box (tbF T.r T.l T.nx (.ro (zBX T.E) 0 T.E.length))) 0 11), (24, iN n), (34, entA (zAr T n))]
           ·intro f02
            apply zR (H := [some ⟨35, .box poZ⟩, some ⟨37, .box (zBt (0, 0))⟩]) [(4, .ptr 0 0 0), (5, .ptr 1 0 0), (25, .rp (zBd T.l) n 0), (33, .rp (zBX T.E) n 0)]
            ·intro f11
             apply zR (H := [some ⟨35, .box poZ⟩, some ⟨37, .box (zBt (0, 0))⟩]) [(4, .ptr 0 0 0), (5, .ptr 1 0 0), (26, poA (T.l.getD n zn)), (30, .rp (.box (tbF T.r T.l T.nx (.ro (zBX T.E) 0 T.E.length))) 0 13), (32, iN n)]
             ·intro f20
              apply zR (H := [some ⟨35, .box poZ⟩, some ⟨37, .box (zBt (0, 0))⟩]) [(4, .ptr 0 0 0), (5, .ptr 1 0 0), (22, .rp (.box (tbF T.r T.l T.nx (.ro (zBX T.E) 0 T.E.length))) 0 11), (24, iN n), (33, .rp (zBX T.E) n 0)]
              ·intro f01
               apply zR (H := [some ⟨35, .box poZ⟩, some ⟨37, .box (zBt (0, 0))⟩]) [(4, .ptr 0 0 0), (5, .ptr 1 0 0), (25, .rp (zBd T.l) n 0), (30, .rp (.box (tbF T.r T.l T.nx (.ro (zBX T.E) 0 T.E.length))) 0 13), (32, iN n)]
               ·intro f10
                refine zH (is := [3, 11]) (by kernel_rfl) (by simp) J ⟨fun o ho => ?_, fun o ho => ?_, trivial⟩
                all_goals (cases ho)
                ·repeat (first | refine zC ?_ | refine zU ?_ | refine zA (zD rfl rfl rfl rfl) ?_)
                 refine zW 5 J (by kernel_rfl) (by kernel_rfl) (by kernel_rfl) J (zg J J J J (by first | (simp only [Nat.zero_add, Int.toNat_natCast, Int.toNat_zero]; exact J) | exact J) (by omega)) J ?_
                 exact f10 _ ⟨J, J, J, J, J, trivial⟩
                ·repeat (first | refine zC ?_ | refine zU ?_ | refine zA (zD rfl rfl rfl rfl) ?_)
                 refine zW 13 J (by kernel_rfl) (by kernel_rfl) (by kernel_rfl) J (zg J J J J (by first | (simp only [Nat.zero_add, Int.toNat_natCast, Int.toNat_zero]; exact J) | exact J) (by omega)) J ?_
                 exact f01 _ ⟨J, J, J, J, J, trivial⟩
               ·refine zH (is := [6, 11]) (by kernel_rfl) (by simp) J ⟨fun o ho => ?_, fun o ho => ?_, trivial⟩
                all_goals (cases ho)
                ·refine rn6 ?_
                 exact f20 _ ⟨J, J, J, J, J, trivial⟩
                ·repeat (first | refine zC ?_ | refine zU ?_ | refine zA (zD rfl rfl rfl rfl) ?_)
                 refine zW 13 J (by kernel_rfl) (by kernel_rfl) (by kernel_rfl) J (zg J J J J (by first | (simp only [Nat.zero_add, Int.toNat_natCast, Int.toNat_zero]; exact J) | exact J) (by omega)) J ?_
                 exact f11 _ ⟨J, J, J, J, trivial⟩
              ·refine zH (is := [3, 14]) (by kernel_rfl) (by simp) J ⟨fun o ho => ?_, fun o ho => ?_, trivial⟩
               all_goals (cases ho)
               ·repeat (first | refine zC ?_ | refine zU ?_ | refine zA (zD rfl rfl rfl rfl) ?_)
                refine zW 5 J (by kernel_rfl) (by kernel_rfl) (by kernel_rfl) J (zg J J J J (by first | (simp only [Nat.zero_add, Int.toNat_natCast, Int.toNat_zero]; exact J) | exact J) (by omega)) J ?_
                exact f11 _ ⟨J, J, J, J, trivial⟩
               ·refine rn6 ?_
                exact f02 _ ⟨J, J, J, J, J, trivial⟩
             ·refine zH (is := [7, 11]) (by kernel_rfl) (by simp) J ⟨fun o ho => ?_, fun o ho => ?_, trivial⟩
              all_goals (cases ho)
              ·refine zQ J J J (zHb (T.l.getD n zn) (zD2 h hn)) ?_
               refine rn1 ?_
               exact f30 _ ⟨J, J, J, J, J, trivial⟩
              ·repeat (first | refine zC ?_ | refine zU ?_ | refine zA (zD rfl rfl rfl rfl) ?_)
               refine zW 13 J (by kernel_rfl) (by kernel_rfl) (by kernel_rfl) J (zg J J J J (by first | (simp only [Nat.zero_add, Int.toNat_natCast, Int.toNat_zero]; exact J) | exact J) (by omega)) J ?_
               exact f21 _ ⟨J, J, J, J, trivial⟩
            ·refine zH (is := [6, 14]) (by kernel_rfl) (by simp) J ⟨fun o ho => ?_, fun o ho => ?_, trivial⟩
             all_goals (cases ho)
             ·refine rn6 ?_
              exact f21 _ ⟨J, J, J, J, trivial⟩
             ·refine rn6 ?_
              exact f12 _ ⟨J, J, J, J, trivial⟩
           ·refine zH (is := [3]) (by kernel_rfl) (by simp) J ⟨fun o ho => ?_, trivial⟩
            all_goals (cases ho)
            repeat (first | refine zC ?_ | refine zU ?_ | refine zA (zD rfl rfl rfl rfl) ?_)
            refine zW 5 J (by kernel_rfl) (by kernel_rfl) (by kernel_rfl) J (zg J J J J (by first | (simp only [Nat.zero_add, Int.toNat_natCast, Int.toNat_zero]; exact J) | exact J) (by omega)) J ?_
            exact f12 _ ⟨J, J, J, J, trivial⟩
          ·refine zH (is := [11, 15]) (by kernel_rfl) (by simp) J ⟨fun o ho => ?_, fun o ho => ?_, trivial⟩
           all_goals (cases ho)
           ·repeat (first | refine zC ?_ | refine zU ?_ | refine zA (zD rfl rfl rfl rfl) ?_)
            refine zW 13 J (by kernel_rfl) (by kernel_rfl) (by kernel_rfl) J (zg J J J J (by first | (simp only [Nat.zero_add, Int.toNat_natCast, Int.toNat_zero]; exact J) | exact J) (by omega)) J ?_
            exact f31 _ ⟨J, J, J, J, trivial⟩
           ·refine zV (poC (T.l.getD n zn)) J J J J J J J ?_
            refine rn1 ?_
            exact f40 _ ⟨J, J, J, J, trivial⟩
         ·refine zH (is := [7, 14]) (by kernel_rfl) (by simp) J ⟨fun o ho => ?_, fun o ho => ?_, trivial⟩
          all_goals (cases ho)
          ·refine zQ J J J (zHb (T.l.getD n zn) (zD2 h hn)) ?_
           refine rn1 ?_
           exact f31 _ ⟨J, J, J, J, trivial⟩
          ·refine rn6 ?_
           exact f22 _ ⟨J, J, J, J, trivial⟩
        ·refine zH (is := [6]) (by kernel_rfl) (by simp) J ⟨fun o ho => ?_, trivial⟩
         all_goals (cases ho)
         refine rn6 ?_
         exact f22 _ ⟨J, J, J, J, trivial⟩
       ·refine zH (is := [11]) (by kernel_rfl) (by simp) J ⟨fun o ho => ?_, trivial⟩
        all_goals (cases ho)
        repeat (first | refine zC ?_ | refine zU ?_ | refine zA (zD rfl rfl rfl rfl) ?_)
        refine zW 13 J (by kernel_rfl) (by kernel_rfl) (by kernel_rfl) J (zg J J J J (by first | (simp only [Nat.zero_add, Int.toNat_natCast, Int.toNat_zero]; exact J) | exact J) (by omega)) J ?_
        exact f41 _ ⟨J, J, J, trivial⟩
      ·refine zH (is := [14, 15]) (by kernel_rfl) (by simp) J ⟨fun o ho => ?_, fun o ho => ?_, trivial⟩
       all_goals (cases ho)
       ·refine rn6 ?_
        exact f32 _ ⟨J, J, J, J, trivial⟩
       ·refine zV (poC (T.l.getD n zn)) J J J J J J J ?_
        refine rn1 ?_
        exact f41 _ ⟨J, J, J, trivial⟩
     ·refine zH (is := [7]) (by kernel_rfl) (by simp) J ⟨fun o ho => ?_, trivial⟩
      all_goals (cases ho)
      refine zQ J J J (zHb (T.l.getD n zn) (zD2 h hn)) ?_
      refine rn1 ?_
      exact f32 _ ⟨J, J, J, J, trivial⟩
    ·refine zH (is := [14]) (by kernel_rfl) (by simp) J ⟨fun o ho => ?_, trivial⟩
     all_goals (cases ho)
     refine rn6 ?_
     exact f42 _ ⟨J, J, J, trivial⟩
   ·refine zH (is := [15]) (by kernel_rfl) (by simp) J ⟨fun o ho => ?_, trivial⟩
    all_goals (cases ho)
    refine zV (poC (T.l.getD n zn)) J J J J J J J ?_
    refine rn1 ?_
    exact f42 _ ⟨J, J, J, trivial⟩
  refine zH (is := [16]) (by kernel_rfl) (by simp) J ⟨fun o ho => ?_, trivial⟩
  all_goals (cases ho)
  refine zV (zBt (zAr T n)) J J J J J J J ?_
  refine rn1 ?_
  refine zH (is := [17]) (by kernel_rfl) (by simp) J ⟨fun o ho => ?_, trivial⟩
  all_goals (cases ho)
  refine rn1 ?_
  refine zY (by kernel_rfl) ?_
  refine rn0 ?_
  exact zN hR J J
/-- (*retro.Table).find -/
theorem zLT (T : Tab) (h : TabOK T) (hr : Lens T.r) (p : Pos) (hp : LenP p) : zi Tryz.prog 57 [zB6 T, poA p] (.tup [.int .i64 (if zBv T p ≠ 0 then 0 else ((zA8 T.l p : Nat) : Int)), .int .i64 (zBv T p)]) := by
 refine zb.value0 (zL (P := Tryz.prog) (fn := Tryz.f57) J J (by kernel_rfl) J (fun c hR hfix => ?_)) (fix := fun _ => False) (fun _ h => h) J J
 refine zX ?_
 repeat (first | refine zA (zP rfl) ?_ | refine zC ?_ | refine zB ?_ | refine zK rfl ?_ | refine zAm rfl rfl ?_)
 refine zBg 3 [(0, zB6 T)] J ⟨J, J, trivial⟩ ⟨J, trivial⟩ J hfix ?_
 repeat (refine zX ?_)
 refine zd (by kernel_rfl) ?_
 refine zj (fuel := 0) [0, 1, 2, 3, 4, 5, 6] [(3, .rp (.box (poC p)) 0 0), (0, zB6 T)] ⟨J, J, trivial⟩ (by kernel_rfl) (by decide) J J ?_
 refine zJ J J (zG J) ?_
 refine zJ J J (zAB J) ?_
 refine zJ J J (zI J J J J J J) ?_
 refine zJ J J (zFU J J J J J J) ?_
 refine zJ J J (z6 J J J J J J) ?_
 refine zCQ J J J J J (zDp T.r hr p hp) ?_
 refine zJ J J (zP J) ?_
 refine zz ?_
 refine zY (by kernel_rfl) ?_
 refine rn3 ?_
 refine zF J (fun q => ?_) (fun q => ?_)
 ·have e : zBv T p = zCH T.r p := by unfold zBv; rw [if_pos q]
  rw [e, if_pos q] at hR
  refine rn2 ?_
  exact zN hR J J
 have q2 := Classical.not_not.1 q
 obtain ⟨hz, S⟩ := zDe q2
 refine rn1 ?_
 by_cases hi : zA8 T.l p < T.l.length
 ·have e : zBv T p = 0 := by unfold zBv; rw [if_neg q, if_pos hi]
  rw [e, if_neg (by decide)] at hR
  refine zd (by kernel_rfl) ?_
  refine zj (fuel := 0) [0, 1, 2, 3, 4, 5, 6, 7, 8, 9, 10, 11] [(3, .rp (.box (poC p)) 0 0), (0, zB6 T)] ⟨J, J, trivial⟩ (by kernel_rfl) (by decide) J J ?_
  refine zJ J J (zG J) ?_
  refine zJ J J (zAB J) ?_
  refine zJ J J (zI J J J J J J) ?_
  refine zJ J J (zD J J J J) ?_
  refine zJ J J (z6 J J J J J J) ?_
  refine zCQ J J J J J (zFE h.v S) ?_
  refine zJ J J (zEN J (.str J) J J J J (zCv T.l) (zA8 T.l p) (zGc hi) (zGp hi)) ?_
  refine zJ J J (zG J) ?_
  refine zJ J J (zAd J J) ?_
  refine zJ J J (zAd J J) ?_
  refine zJ J J (zP J) ?_
  refine zJ J J (zP J) ?_
  refine zz ?_
  refine zY (by kernel_rfl) ?_
  refine rn5 ?_
  exact zN hR J J
 ·have e : zBv T p = 8 := by unfold zBv; rw [if_neg q, if_neg hi]
  rw [e, if_pos (by decide)] at hR
  refine zd (by kernel_rfl) ?_
  refine zj (fuel := 0) [0, 1, 2, 3, 4, 5, 6, 7, 8, 9, 10, 11] [(3, .rp (.box (poC p)) 0 0), (0, zB6 T)] ⟨J, J, trivial⟩ (by kernel_rfl) (by decide) J J ?_
  refine zJ J J (zG J) ?_
  refine zJ J J (zAB J) ?_
  refine zJ J J (zI J J J J J J) ?_
  refine zJ J J (zD J J J J) ?_
  refine zJ J J (z6 J J J J J J) ?_
  refine zCQ J J J J J (zFE h.v S) ?_
  refine zJ J J (zDq J (.str J) J J J J J J J J (zCv T.l) (zEo h.v S h.G.snd hi)) ?_
  refine zJ J J (zG J) ?_
  refine zJ J J (zAd J J) ?_
  refine zJ J J (zAd J J) ?_
  refine zJ J J (zP J) ?_
  refine zJ J J (zP J) ?_
  refine zz ?_
  refine zY (by kernel_rfl) ?_
  refine rn5 ?_
  exact zN hR J J
/-- (*retro.Table).Of -/
theorem of_ok (T : Tab) (h : TabOK T) (hr : Lens T.r) (p : Pos) (hp : LenP p) : zi Tryz.prog 21 [zB6 T, poA p] (.tup [entA (ofT T p), .int .i64 (zBv T p)]) := by
 refine zb.value0 (zL (P := Tryz.prog) (fn := Tryz.f21) J J (by kernel_rfl) J (fun c hR hfix => ?_)) (fix := fun _ => False) (fun _ h => h) J J
 have hEl := h.len
 refine rn6 ?_
 refine zQ J J J (zLT T h hr p hp) ?_
 refine rn3 ?_
 refine zF J (fun q => ?_) (fun q => ?_)
 ·have e : ofT T p = (0, 0) := by unfold ofT; rw [if_pos q]
  rw [e] at hR
  refine rn8 ?_
  refine zV (zBt (0, 0)) J J J J J J J ?_
  refine rn2 ?_
  exact zN hR J J
 ·have q2 : zBv T p = 0 := Classical.not_not.1 q
  have hi : zA8 T.l p < T.l.length := by
   unfold zBv at q2
   split at q2
   ·rename_i h1; exact absurd q2 h1
   ·split at q2
    ·assumption
    ·cases q2
  have e : ofT T p = zAr T (zA8 T.l p) := by unfold ofT; rw [if_neg q]
  rw [e, q2] at hR
  rw [if_neg q]
  repeat (first | refine zA (zG rfl) ?_ | refine zB ?_ | refine zX ?_ | refine zK rfl ?_ | refine zAH ?_ | refine zA (zg rfl rfl rfl rfl (by first | (simp only [Nat.zero_add, Int.toNat_natCast, Int.toNat_zero]; exact rfl) | exact rfl) (by omega)) ?_ | refine zA (zD rfl rfl rfl rfl) ?_ | refine zA (zAB rfl) ?_ | refine zA (zI rfl rfl rfl rfl rfl rfl) ?_ | refine zA (z6 rfl rfl rfl rfl rfl rfl) ?_)
  refine zV (zBt (zAr T (zA8 T.l p))) J J J J J J J ?_
  refine rn0 ?_
  exact zN hR J J
def zCF (T : Tab) (i : Nat) (ms : List Mv) (k : Nat) : List Mv := ((List.range k).filter (fun k => decide (zAr T ((T.nx.getD i []).getD k 0) = zDY (zAr T i)))).map (fun k => ms.getD k mv0)
theorem zJl (T : Tab) (i : Nat) (ms : List Mv) (k : Nat) : zCF T i ms (k + 1) = if zAr T ((T.nx.getD i []).getD k 0) = zDY (zAr T i) then zCF T i ms k ++ [ms.getD k mv0] else zCF T i ms k := by
 unfold zCF
 rw [List.range_succ, List.filter_append, List.map_append]
 by_cases h : zAr T ((T.nx.getD i []).getD k 0) = zDY (zAr T i)
 ·rw [if_pos h, List.filter_cons_of_pos (p := fun k => decide (zAr T ((T.nx.getD i []).getD k 0) = zDY (zAr T i))) (decide_eq_true h)]; rfl
 ·rw [if_neg h, List.filter_cons_of_neg (p := fun k => decide (zAr T ((T.nx.getD i []).getD k 0) = zDY (zAr T i))) (by rw [decide_eq_true_eq]; exact h)]; simp
theorem zKf (T : Tab) (i : Nat) (ms : List Mv) (k : Nat) : (zCF T i ms k).length ≤ k := by
 unfold zCF
 rw [List.length_map]
 exact Nat.le_trans (List.length_filter_le ..) (by rw [List.length_range]; exact Nat.le_refl _)
theorem mapI_get (l : List Nat) (k : Nat) : (l.map Int.ofNat).getD k 0 = ((l.getD k 0 : Nat) : Int) := by
 rw [List.getD, List.getElem?_map, List.getD]
 cases l[k]? <;> rfl
theorem find_is {T : Tab} {p : Pos} (h : zBv T p = 0) : zCH T.r p = 0 ∧ zA8 T.l p < T.l.length := by
 unfold zBv at h
 split at h
 ·rename_i h1; exact absurd h h1
 ·rename_i h1
  split at h
  ·exact ⟨Classical.not_not.1 h1, by assumption⟩
  ·cases h
theorem next_lt {T : Tab} (h : TabOK T) {i k : Nat} (hi : i < T.l.length) (hk : k < (zAx T.r (T.l.getD i zn)).length) : k < (T.nx.getD i []).length ∧ (T.nx.getD i []).getD k 0 < T.l.length := by
 have := h.G.nxl i hi
 exact ⟨by omega, (h.G.nxt i hi k hk).1⟩
theorem ent_eqA (x y : Ent) : (decide (x.1 = y.1) && (decide (x.2 = y.2) && true)) = decide (x = y) := by
 by_cases h : x = y
 ·subst h; simp
 ·rw [decide_eq_false h]
  by_cases h1 : x.1 = y.1
  ·rw [decide_eq_true h1, decide_eq_false (fun q => h (Prod.ext h1 q))]; rfl
  ·rw [decide_eq_false h1]; rfl
/-- (*retro.Table).Best -/
theorem best_ok (T : Tab) (h : TabOK T) (hr : Lens T.r) (p : Pos) (hp : LenP p) : zi Tryz.prog 26 [zB6 T, poA p] (.tup [zCA (zFw T p), .int .i64 (zFP T p)]) := by
 refine zb.value0 (zL (P := Tryz.prog) (fn := Tryz.f26) J J (by kernel_rfl) J (fun c hR hfix => ?_)) (fix := fun _ => False) (fun _ h => h) J J
 have hEl := h.len
 have hmost := h.G.most
 refine zX ?_
 repeat (first | refine zA (zP rfl) ?_ | refine zC ?_ | refine zB ?_ | refine zK rfl ?_ | refine zAm rfl rfl ?_)
 refine zBg 3 [(0, zB6 T)] J ⟨J, J, trivial⟩ ⟨J, trivial⟩ J hfix ?_
 refine rn6 ?_
 refine zQ J J J (zLT T h hr p hp) ?_
 refine rn3 ?_
 refine zF J (fun q => ?_) (fun q => ?_)
 ·have q : zBv T p ≠ 0 := q
  have e : zFP T p = zBv T p := by unfold zFP; rw [if_pos q]
  have e2 : zFw T p = [] := by unfold zFw; rw [e, if_pos q]
  rw [e, e2] at hR
  refine rn7 ?_
  refine zBh 4 (zCA []) J AEq.nil ?_
  refine rn2 ?_
  exact zN hR J J
 have q2 : zBv T p = 0 := Classical.not_not.1 q
 obtain ⟨hz, hi⟩ := find_is q2
 have eb : zFP T p = if (zEJ T p).length = 0 then 14 else 0 := by unfold zFP; rw [if_neg q]
 have ebl : zFP T p = 0 → zFw T p = zCF T (zA8 T.l p) (zEJ T p) (zEJ T p).length := fun e => by unfold zFw; rw [if_neg (fun c => c e)]; rfl
 rw [if_neg q]
 have hmt : zEJ T p = zAx T.r (T.l.getD (zA8 T.l p) zn) := rfl
 have S := (h.sound hi).1
 have hml := zGd h.v S
 have hnx := fun k => next_lt h (k := k) hi
 have hpl := h.plies hi
 have hpu := h.plies_le hi
 have hnlen : T.nx.length = T.l.length := h.G.len
 rw [← hmt] at hml
 simp only [← hmt] at hnx
 have cm := zGx T.r h.v (T.l.getD (zA8 T.l p) zn) S
 rw [← hmt] at cm
 generalize hix : zA8 T.l p = ix at hi hml hnx hpl hpu ebl cm
 generalize hms : zEJ T p = ms at hml hnx eb ebl cm
 refine rn1 ?_
 refine zd (by kernel_rfl) ?_
 refine zj (fuel := 0) [0, 1, 2, 3, 4, 5, 6, 7, 8, 9, 10, 11, 12] [(0, zB6 T), (6, iN ix)] ⟨J, J, trivial⟩ (by kernel_rfl) (by decide) J J ?_
 refine zJ J J (zG J) ?_
 refine zJ J J (zAB J) ?_
 refine zJ J J (zI J J J J J J) ?_
 refine zJ J J (zFU J J J J J J) ?_
 refine zJ J J (zG J) ?_
 refine zJ J J (zAB J) ?_
 refine zJ J J (zI J J J J J J) ?_
 refine zJ J J (zD J J J J) ?_
 refine zJ J J (zG J) ?_
 refine zJ J J (zg J J J J (by first | (simp only [Nat.zero_add, Int.toNat_natCast, Int.toNat_zero]; exact J) | exact J) (by omega)) ?_
 refine zJ J J (z6 J J J J J J) ?_
 refine zCQ J J J J J cm ?_
 refine zJ J J (zP J) ?_
 refine zz ?_
 refine zY (by kernel_rfl) ?_
 refine rn4 ?_
 refine zF J (fun z => ?_) (fun z => ?_)
 ·rw [if_pos (by omega)] at eb
  have e2 : zFw T p = [] := by unfold zFw; rw [eb, if_pos (by decide)]
  rw [eb, e2] at hR
  refine rn7 ?_
  refine zBh 4 (zCA []) J AEq.nil ?_
  refine rn2 ?_
  exact zN hR J J
 rw [if_neg (by omega)] at eb
 have ebl := ebl eb
 rw [eb, ebl] at hR
 repeat (first | refine zA (zG rfl) ?_ | refine zB ?_ | refine zX ?_ | refine zK rfl ?_ | refine zAH ?_ | refine zA (zg rfl rfl rfl rfl (by first | (simp only [Nat.zero_add, Int.toNat_natCast, Int.toNat_zero]; exact rfl) | exact rfl) (by omega)) ?_ | refine zA (zD rfl rfl rfl rfl) ?_ | refine zA (zAB rfl) ?_ | refine zA (zI rfl rfl rfl rfl rfl rfl) ?_ | refine zA (z6 rfl rfl rfl rfl rfl rfl) ?_ | refine zAM rfl rfl rfl ?_)
 refine zV (zBt (zAr T ix)) J J J J J J J ?_
 repeat (first | refine zC ?_ | refine zB ?_ | refine zX ?_ | refine zK rfl ?_ | refine zA (zT rfl rfl rfl rfl rfl) ?_ | refine zA (zBG rfl rfl) ?_ | refine zA (zM rfl rfl rfl rfl rfl rfl) ?_)
 apply zAD (H := [some ⟨37, .box (zBt (zDY (zAr T ix)))⟩]) [(0, zB6 T), (6, iN ix), (8, zCA ms), (9, .ptr 0 0 0)]
 ·intro fin
  refine zF J (fun d => ?_) (fun d => ?_)
  ·have d : (zAr T ix).1 ≠ 3 := d
   have ew : zDY (zAr T ix) = ((zAr T ix).1, (zAr T ix).2 - 1) := by unfold zDY; rw [if_pos d]
   rw [ew] at fin
   repeat (first | refine zC ?_ | refine zB ?_ | refine zK rfl ?_ | refine zA (zT rfl rfl rfl rfl rfl) ?_ | refine zA (zBC rfl rfl (by omega)) ?_ | refine zA (zM rfl rfl rfl rfl rfl rfl) ?_ | refine zAF rfl rfl rfl rfl rfl rfl rfl Nat.zero_lt_one ?_)
   exact fin _ ⟨J, J, J, J, trivial⟩
  ·have d : ¬ (zAr T ix).1 ≠ 3 := d
   have ew : zDY (zAr T ix) = zAr T ix := by unfold zDY; rw [if_neg d]
   rw [ew] at fin
   refine zFO ?_
   exact fin _ ⟨J, J, J, J, trivial⟩
 refine zBg 9 [(0, zB6 T), (6, iN ix), (8, zCA ms)] J ⟨J, J, J, J, trivial⟩ ⟨J, J, J, trivial⟩ J hfix ?_
 repeat (refine zX ?_)
 refine zK J ?_
 refine zAp ?_
 refine zBY 10 ⟨58, zBK []⟩ J J ?_
 refine rn3 ?_
 refine zt (ι := Nat) (fun k => [(0, zB6 T), (6, iN ix), (8, zCA ms), (9, .rp (.box (zBt (zDY (zAr T ix)))) 0 0), (10, .sl 0 0 (zCF T ix ms k).length), (51, zCA ms), (52, iN ms.length), (53, iN k)]) (fun k => [some ⟨58, zBK (zCF T ix ms k)⟩]) (fun k => k ≤ ms.length) (fun k => ms.length - k) 0 ⟨⟨J, J, J, J, J, J, J, J, trivial⟩, J, Nat.zero_le _⟩ ?_
 intro k hk
 have hbl := zKf T ix ms k
 refine rn4 ?_
 refine zF J (fun g => ?_) (fun g => ?_)
 ·have hk' : k < ms.length := by omega
  obtain ⟨n1, n2⟩ := hnx k hk'
  have hbs := zJl T ix ms k
  have hgi : ((T.nx.getD ix []).map Int.ofNat).getD k 0 = (((T.nx.getD ix []).getD k 0 : Nat) : Int) := mapI_get _ _
  have hgl : ((T.nx.getD ix []).map Int.ofNat).length = (T.nx.getD ix []).length := List.length_map ..
  generalize hj : (T.nx.getD ix []).getD k 0 = j at n2 hgi hbs
  generalize hmk : ms.getD k mv0 = m at hbs
  refine zFj ?_
  refine rn4 ?_
  refine zV (mvC m) J J J J J (by rw [← hmk]; rfl) J ?_
  refine rn0 ?_
  refine zDm [some ⟨58, zBK (zCF T ix ms k)⟩] 12 [(0, zB6 T), (6, iN ix), (8, zCA ms), (9, .rp (.box (zBt (zDY (zAr T ix)))) 0 0), (10, .sl 0 0 (zCF T ix ms k).length), (51, zCA ms), (52, iN ms.length), (53, iN k), (11, iN k)] J J ⟨J, J, J, J, J, J, J, J, J, trivial⟩ ⟨J, J, J, J, J, J, J, J, J, J, trivial⟩ (zBx (zGf _) zBV) J (fun h q => by rw [hfix] at q; exact q.elim) ?_
  refine zd (by kernel_rfl) ?_
  refine zj (fuel := 0) [0, 1, 2, 3, 4, 5, 6, 7, 8, 9, 10, 11, 12, 13, 14, 15, 16, 17] [(12, .rp (.box (mvC m)) 0 0), (0, zB6 T), (6, iN ix), (8, zCA ms), (9, .rp (.box (zBt (zDY (zAr T ix)))) 0 0), (10, .sl 0 0 (zCF T ix ms k).length), (51, zCA ms), (52, iN ms.length), (53, iN k), (11, iN k)] ⟨J, J, J, J, J, J, J, J, J, J, trivial⟩ (by kernel_rfl) (by decide) J J ?_
  refine zJ J J (zG J) ?_
  refine zJ J J (zAB J) ?_
  refine zJ J J (zI J J J J J J) ?_
  refine zJ J J (zD J J J J) ?_
  refine zJ J J (zG J) ?_
  refine zJ J J (zAB J) ?_
  refine zJ J J (zI J J J J J J) ?_
  refine zJ J J (zD J J J J) ?_
  refine zJ J J (zG J) ?_
  refine zJ J J (zg J J J J (by first | (simp only [Nat.zero_add, Int.toNat_natCast, Int.toNat_zero]; exact J) | exact J) (by omega)) ?_
  refine zJ J J (zA2 J J J J) ?_
  refine zJ J J (zG J) ?_
  refine zJ J J (zg J J J J (by first | (simp only [Nat.zero_add, Int.toNat_natCast, Int.toNat_zero]; exact J) | exact J) (by omega)) ?_
  refine zJ J J (zBW J J J) ?_
  rw [hgi]
  refine zJ J J (zg J J J J (by first | (simp only [Nat.zero_add, Int.toNat_natCast, Int.toNat_zero]; exact J) | exact J) (by omega)) ?_
  refine zJ J J (z6 J J J J J J) ?_
  refine zJ J J (z6 J J J J J J) ?_
  refine zJ J J (zEO J J J (by kernel_rfl) (by kernel_rfl) (by kernel_rfl) J) ?_
  refine zz ?_
  refine zY (by kernel_rfl) ?_
  repeat (refine zB ?_)
  refine zAG (b := decide (zAr T j = zDY (zAr T ix))) (by rw [← ent_eqA]; rfl) (fun g2 => ?_) (fun g2 => ?_)
  ·have g2 := of_decide_eq_true g2
   rw [if_pos g2] at hbs
   have hnl : (zCF T ix ms (k + 1)).length = (zCF T ix ms k).length + 1 := by rw [hbs, List.length_append]; rfl
   refine rn6 ?_
   refine zBU [m] J J J J J J J J J J J J J (by show 0 + 1 ≤ 1; omega) (fun k' j' hk' hj' => ?_) (by show ((zCF T ix ms k).length + 1) * 24 ≤ _ ∧ _; omega) zFd (by rw [hfix]; exact fun h => h) ?_
   ·obtain rfl : k' = 0 := Nat.lt_one_iff.1 hk'
    match j', hj' with
    | 0, _ => rfl
    | 1, _ => rfl
    | 2, _ => rfl
   refine rn5 ?_
   refine zS ⟨k + 1, by omega, by omega, ⟨J, J, J, J, ?_, J, J, J, trivial⟩, ?_⟩
   ·rw [hnl]; rfl
   ·rw [hbs]; rfl
  ·have g2 := of_decide_eq_false g2
   rw [if_neg g2] at hbs
   refine rn5 ?_
   refine zS ⟨k + 1, by omega, by omega, ⟨J, J, J, J, ?_, J, J, J, trivial⟩, ?_⟩
   ·rw [hbs]; rfl
   ·rw [hbs]
 ·have hk' : k = ms.length := by omega
  subst hk'
  refine zAp ?_
  refine zDC 0 10 (zCF T ix ms ms.length).length [] J (zBD zGe) J (Nat.le_refl _) trivial ?_
  refine rn0 ?_
  exact zN hR J J
def zCG (T : Tab) (k : Nat) : List Nat := (List.range k).filter (fun i => decide ((zAr T i).2 = zEW T))
theorem zKA (T : Tab) (k : Nat) : zCG T (k + 1) = if (zAr T k).2 = zEW T then zCG T k ++ [k] else zCG T k := by
 unfold zCG
 rw [List.range_succ, List.filter_append]
 by_cases h : (zAr T k).2 = zEW T
 ·rw [if_pos h, List.filter_cons_of_pos (p := fun i => decide ((zAr T i).2 = zEW T)) (decide_eq_true h)]; rfl
 ·rw [if_neg h, List.filter_cons_of_neg (p := fun i => decide ((zAr T i).2 = zEW T)) (by rw [decide_eq_true_eq]; exact h)]; simp
theorem zKr (T : Tab) (k : Nat) : (zCG T k).length ≤ k := by
 unfold zCG
 exact Nat.le_trans (List.length_filter_le ..) (by rw [List.length_range]; exact Nat.le_refl _)
def zDo (T : Tab) (k : Nat) : Int := (T.E.take k).foldl (fun a x => max a x.2) 0
theorem zKE (T : Tab) {k : Nat} (h : k < T.E.length) : zDo T (k + 1) = max (zDo T k) (zAr T k).2 := by
 unfold zDo zAr
 rw [zx _ (0, 0) k h, List.foldl_append]; rfl
/-- (*retro.Table).Longest -/
theorem long_ok (T : Tab) (h : TabOK T) : zi Tryz.prog 15 [zB6 T] (zr ((zFR T).map Int.ofNat)) := by
 refine zb.value0 (zL (P := Tryz.prog) (fn := Tryz.f15) J J (by kernel_rfl) J (fun c hR hfix => ?_)) (fix := fun _ => False) (fun _ h => h) J J
 have hEl := h.len
 have hmost := h.G.most
 repeat (first | refine zA (zG rfl) ?_ | refine zA (zP rfl) ?_ | refine zC ?_ | refine zB ?_ | refine zX ?_ | refine zK rfl ?_ | refine zAN ?_ | refine zA (zA5 rfl rfl rfl) ?_ | refine zA (zD rfl rfl rfl rfl) ?_ | refine zA (zAB rfl) ?_ | refine zA (zI rfl rfl rfl rfl rfl rfl) ?_)
 refine zt (ι := Nat) (fun k => [(0, zB6 T), (3, .int .i64 (zDo T k)), (12, .ro (zBX T.E) 0 T.E.length), (13, iN T.E.length), (14, iN k)]) (fun k => []) (fun k => k ≤ T.E.length) (fun k => T.E.length - k) 0 ⟨⟨J, J, J, J, J, trivial⟩, J, Nat.zero_le _⟩ ?_
 intro k hk
 refine rn4 ?_
 refine zF J (fun g => ?_) (fun g => ?_)
 ·have hk' : k < T.E.length := by omega
  have hms : zDo T (k + 1) = if (zAr T k).2 > zDo T k then (zAr T k).2 else zDo T k := by rw [zKE T hk']; split <;> omega
  refine zFj ?_
  repeat (refine zAM rfl rfl rfl ?_)
  refine zV (zBt (zAr T k)) J J J J J J J ?_
  refine zAp ?_
  refine zBg 5 [(0, zB6 T), (3, .int .i64 (zDo T k)), (12, .ro (zBX T.E) 0 T.E.length), (13, iN T.E.length), (14, iN k)] J ⟨J, J, J, J, J, J, trivial⟩ ⟨J, J, J, J, J, trivial⟩ J hfix ?_
  repeat (first | refine zA (zG rfl) ?_ | refine zA (zP rfl) ?_ | refine zC ?_ | refine zB ?_ | refine zK rfl ?_ | refine zAI ?_ | refine zA (zA4 rfl rfl (by omega)) ?_ | refine zA (zD rfl rfl rfl rfl) ?_ | refine zA (q_max rfl rfl) ?_ | refine zA (zI rfl rfl rfl rfl rfl rfl) ?_)
  refine zS ⟨k + 1, by omega, by omega, ⟨J, ?_, J, J, J, trivial⟩, J⟩
  rw [hms]; rfl
 have hk' : k = T.E.length := by omega
 subst hk'
 have hmt : zDo T T.E.length = zEW T := by unfold zDo zEW; rw [List.take_length]
 rw [hmt]
 refine zAp ?_
 refine zK J ?_
 refine zAp ?_
 refine zBY 6 ⟨3, .ints .i64 []⟩ J J ?_
 repeat (first | refine zA (zG rfl) ?_ | refine zC ?_ | refine zB ?_ | refine zK rfl ?_ | refine zAN ?_ | refine zA (zA5 rfl rfl rfl) ?_ | refine zA (zD rfl rfl rfl rfl) ?_ | refine zA (zAB rfl) ?_ | refine zA (zI rfl rfl rfl rfl rfl rfl) ?_)
 refine zt (ι := Nat) (fun k => [(3, .int .i64 (zEW T)), (6, .sl 0 0 (zCG T k).length), (26, .ro (zBX T.E) 0 T.E.length), (27, iN T.E.length), (28, iN k)]) (fun k => [some ⟨3, .ints .i64 ((zCG T k).map Int.ofNat)⟩]) (fun k => k ≤ T.E.length) (fun k => T.E.length - k) 0 ⟨⟨J, J, J, J, J, trivial⟩, J, Nat.zero_le _⟩ ?_
 intro k hk
 have hll := zKr T k
 have hml : ((zCG T k).map Int.ofNat).length = (zCG T k).length := List.length_map ..
 refine rn4 ?_
 refine zF J (fun g => ?_) (fun g => ?_)
 ·have hk' : k < T.E.length := by omega
  have hls := zKA T k
  refine zFj ?_
  refine rn4 ?_
  refine zV (zBt (zAr T k)) J J J J J J J ?_
  refine zAp ?_
  refine zDm [some ⟨3, .ints .i64 ((zCG T k).map Int.ofNat)⟩] 8 [(3, .int .i64 (zEW T)), (6, .sl 0 0 (zCG T k).length), (26, .ro (zBX T.E) 0 T.E.length), (27, iN T.E.length), (28, iN k), (7, iN k)] J J ⟨J, J, J, J, J, J, trivial⟩ ⟨J, J, J, J, J, J, J, trivial⟩ (zBx (fun _ _ _ _ => rfl) zBV) J (fun h q => by rw [hfix] at q; exact q.elim) ?_
  refine zBe ?_
  refine zF J (fun q => ?_) (fun q => ?_)
  ·have q : (zAr T k).2 = zEW T := q
   rw [if_pos q] at hls
   have hnl : (zCG T (k + 1)).length = (zCG T k).length + 1 := by rw [hls, List.length_append]; rfl
   refine rn3 ?_
   refine zAX J J J J J J J J J hml J J (by show 0 + 1 ≤ 1; omega) J (by show ((zCG T k).length + 1) * 8 ≤ _ ∧ _; omega) (fun i j _ _ => rfl) (by rw [hfix]; exact fun h => h) ?_
   refine rn5 ?_
   refine zS ⟨k + 1, by omega, by omega, ⟨J, ?_, J, J, J, trivial⟩, ?_⟩
   ·rw [hnl]; rfl
   ·rw [hls, List.map_append]; rfl
  ·have q : ¬ (zAr T k).2 = zEW T := q
   rw [if_neg q] at hls
   refine rn5 ?_
   refine zS ⟨k + 1, by omega, by omega, ⟨J, ?_, J, J, J, trivial⟩, ?_⟩
   ·rw [hls]; rfl
   ·rw [hls]
 ·have hk' : k = T.E.length := by omega
  subst hk'
  have hlt : zCG T T.E.length = zFR T := rfl
  rw [hlt] at hml ⊢
  refine zAp ?_
  refine zDC 0 6 (zFR T).length [] J zAK J (by show (zFR T).length ≤ ((zFR T).map Int.ofNat).length; rw [hml]; exact Nat.le_refl _) trivial ?_
  refine rn0 ?_
  refine zN hR J ?_
  show AV.ro (Cells.ints .i64 ((zFR T).map Int.ofNat)) 0 (zFR T).length = AV.ro (Cells.ints .i64 ((zFR T).map Int.ofNat)) 0 ((zFR T).map Int.ofNat).length
  rw [hml]
def isM (m x : Mv) : Bool := decide (x = m)
theorem indexMv (l : List Mv) (m : Mv) (hlen : l.length ≤ 1000000) : zi Tryz.prog 72 [zCA l, mvA m] (.int .i64 (zCn (isM m) l)) := by
 refine zb.value0 (zL (P := Tryz.prog) (fn := Tryz.f72) J J (by kernel_rfl) J (fun c hR hfix => ?_)) (fix := fun _ => False) (fun _ h => h) J J
 refine zX ?_
 repeat (first | refine zA (zP rfl) ?_ | refine zC ?_ | refine zB ?_ | refine zK rfl ?_ | refine zAm rfl rfl ?_)
 refine zBg 3 [(0, zCA l)] J ⟨J, J, trivial⟩ ⟨J, trivial⟩ J hfix ?_
 refine rn3 ?_
 refine zt (ι := Nat) (fun k => [(0, zCA l), (3, .rp (.box (mvC m)) 0 0), (7, iN l.length), (8, iN k)]) (fun _ => [])
  (fun k => k ≤ l.length ∧ (l.take k).any (isM m) = false) (fun k => l.length - k) 0 ⟨⟨rfl, rfl, rfl, rfl, trivial⟩, rfl, Nat.zero_le _, rfl⟩ ?_
 intro k ⟨hk, hany⟩
 refine rn4 ?_
 refine zF J (fun h => ?_) (fun h => ?_)
 ·have hk' : k < l.length := by omega
  have hanys := zBT (isM m) l mv0 k hk'
  refine rn1 ?_
  refine zd (by kernel_rfl) ?_
  refine zj (fuel := 0) [0, 1, 2, 3, 4, 5] [(0, zCA l), (3, .rp (.box (mvC m)) 0 0), (7, iN l.length), (8, iN k), (5, iN k)] ⟨J, J, J, J, J, trivial⟩ (by kernel_rfl) (by decide) J J ?_
  refine zJ J J (z6 J J J J J J) ?_
  refine zJ J J (zG J) ?_
  refine zJ J J (zG J) ?_
  refine zJ J J (zg J J J J (by first | (simp only [Nat.zero_add, Int.toNat_natCast, Int.toNat_zero]; exact J) | exact J) (by omega)) ?_
  refine zJ J J (z6 J J J J J J) ?_
  refine zJ J J (zEO J J J (by kernel_rfl) (by kernel_rfl) (by kernel_rfl) J) ?_
  refine zz ?_
  refine zY (by kernel_rfl) ?_
  repeat (refine zB ?_)
  refine zAG (b := isM m (l.getD k mv0)) (by unfold isM; rw [← eqMv]; rfl) (fun h2 => ?_) (fun h2 => ?_)
  ·refine rn6 ?_
   refine zN hR J ?_
   have := zBQ (isM m) l k hany hk
   rw [zDH l mv0 k hk'] at this
   simp only [zCn, h2, if_true] at this
   rw [this]; simp [zB7]
  ·refine rn5 ?_
   refine zS ⟨k + 1, ⟨by omega, by rw [hanys, hany, h2]; rfl⟩, by omega, ⟨J, J, J, J, trivial⟩, J⟩
 ·have hk' : k = l.length := by omega
  subst hk'
  refine rn5 ?_
  refine zN hR J ?_
  have := zBQ (isM m) l l.length hany hk
  rw [List.drop_length] at this
  rw [this]; rfl
theorem zLt (l : List Mv) (m : Mv) (hlen : l.length ≤ 1000000) : zi Tryz.prog 40 [zCA l, mvA m] (.bool (l.any (isM m))) := by
 refine zb.value0 (zL (P := Tryz.prog) (fn := Tryz.f40) J J (by kernel_rfl) J (fun c hR hfix => ?_)) (fix := fun _ => False) (fun _ h => h) J J
 refine rn6 ?_
 refine zQ J J J (indexMv l m hlen) ?_
 refine rn8 ?_
 refine zN hR J ?_
 simp only [zB7, zEn]
theorem any_isM {l : List Mv} {m : Mv} : l.any (isM m) = decide (m ∈ l) := by
 by_cases h : m ∈ l
 ·rw [decide_eq_true h, List.any_eq_true]; exact ⟨m, h, decide_eq_true rfl⟩
 ·rw [decide_eq_false h, ← Bool.not_eq_true, List.any_eq_true]
  rintro ⟨x, hx, e⟩
  exact h (by rw [← of_decide_eq_true e]; exact hx)
theorem equalMv (a b : List Mv) (hlen : a.length ≤ 1000000) (hlb : b.length ≤ 1000000) : zi Tryz.prog 27 [zCA a, zCA b] (.bool (decide (a = b))) := by
 refine zb.value0 (zL (P := Tryz.prog) (fn := Tryz.f27) J J (by kernel_rfl) J (fun c hR hfix => ?_)) (fix := fun _ => False) (fun _ h => h) J J
 refine rn3 ?_
 refine zF J (fun h => ?_) (fun h => ?_)
 ·refine rn2 ?_
  refine zN hR J ?_
  have : ¬ a = b := by rintro rfl; exact h rfl
  simp [zB7, this]
 have hab : a.length = b.length := by omega
 refine rn3 ?_
 refine zt (ι := Nat) (fun k => [(0, zCA a), (1, zCA b), (12, iN a.length), (13, iN k)]) (fun _ => [])
  (fun k => k ≤ a.length ∧ a.take k = b.take k) (fun k => a.length - k) 0 ⟨⟨rfl, rfl, rfl, rfl, trivial⟩, rfl, Nat.zero_le _, rfl⟩ ?_
 intro k ⟨hk, heq⟩
 refine rn4 ?_
 refine zF J (fun h2 => ?_) (fun h2 => ?_)
 ·have hk' : k < a.length := by omega
  have ha := zx a mv0 k hk'
  have hb := zx b mv0 k (by omega)
  refine rn1 ?_
  refine zd (by kernel_rfl) ?_
  refine zj (fuel := 0) [0, 1, 2, 3, 4, 5, 6, 7, 8] [(0, zCA a), (1, zCA b), (12, iN a.length), (13, iN k), (5, iN k)] ⟨J, J, J, J, J, trivial⟩ (by kernel_rfl) (by decide) J J ?_
  refine zJ J J (zG J) ?_
  refine zJ J J (zG J) ?_
  refine zJ J J (zg J J J J (by first | (simp only [Nat.zero_add, Int.toNat_natCast, Int.toNat_zero]; exact J) | exact J) (by omega)) ?_
  refine zJ J J (z6 J J J J J J) ?_
  refine zJ J J (zG J) ?_
  refine zJ J J (zG J) ?_
  refine zJ J J (zg J J J J (by first | (simp only [Nat.zero_add, Int.toNat_natCast, Int.toNat_zero]; exact J) | exact J) (by omega)) ?_
  refine zJ J J (z6 J J J J J J) ?_
  refine zJ J J (zG4 J J J (by kernel_rfl) (by kernel_rfl) (by kernel_rfl) J) ?_
  refine zz ?_
  refine zY (by kernel_rfl) ?_
  repeat (refine zB ?_)
  refine zAG (b := !(decide (b.getD k mv0 = a.getD k mv0))) (by rw [← eqMv]; rfl) (fun h3 => ?_) (fun h3 => ?_)
  ·refine rn6 ?_
   refine zN hR J ?_
   rw [Bool.not_eq_true', decide_eq_false_iff_not] at h3
   have : ¬ a = b := by rintro rfl; exact h3 rfl
   simp [zB7, this]
  ·rw [Bool.not_eq_false', decide_eq_true_eq] at h3
   refine rn5 ?_
   exact zS ⟨k + 1, ⟨by omega, by rw [ha, hb, heq, h3]⟩, by omega, ⟨J, J, J, J, trivial⟩, J⟩
 ·have hk' : k = a.length := by omega
  subst hk'
  rw [List.take_length, hab, List.take_length] at heq
  refine rn5 ?_
  refine zN hR J ?_
  simp [zB7, heq]
/-- moves.Legal -/
theorem legal_ok (r : Go.Ax.Gm.Rules) (hr : Lens r) (p : Pos) (hp : LenP p) (m : Mv) (hl : zCH r p = 0) : zi Tryz.prog 66 [ruA r, poA p, mvA m] (.tup [.bool (decide (m ∈ zAb r p)), .int .i64 0]) := by
 refine zb.value0 (zL (P := Tryz.prog) (fn := Tryz.f66) J J (by kernel_rfl) J (fun c hR hfix => ?_)) (fix := fun _ => False) (fun _ h => h) J J
 obtain ⟨hz, S⟩ := zDe hl
 have ca := all_ok r hr p hp
 rw [hl, if_neg (by decide)] at ca
 have cc := zLt (zAb r p) m (by have := zHo (zBH hz) S; omega)
 rw [any_isM] at cc
 refine rn6 ?_
 refine zQ J J J ca ?_
 refine rn6 ?_
 refine zQ J J J cc ?_
 refine rn0 ?_
 exact zN hR J J
/-- moves.After, a legal move -/
theorem after_ok (r : Go.Ax.Gm.Rules) (hr : Lens r) (p : Pos) (m : Mv) (hz : zAh r = 0) (S : Sound r p) (hm : m ∈ zAb r p) : zi Tryz.prog 33 [ruA r, poA p, mvA m] (.tup [poA (zAy r p m), .int .i64 0]) := by
 refine zb.value0 (zL (P := Tryz.prog) (fn := Tryz.f33) J J (by kernel_rfl) J (fun c hR hfix => ?_)) (fix := fun _ => False) (fun _ h => h) J J
 have hv := zBH hz
 have cl := legal_ok r hr p (zAk hv S).len m (zEL hz S)
 rw [decide_eq_true hm] at cl
 refine rn6 ?_
 refine zQ J J J cl ?_
 refine rn6 ?_
 refine zQ J J J (zLY r hv p S m (Go.Ax.Gm.list_ok hv S hm)) ?_
 skip
 refine zV (poC (zAy r p m)) J J J J J J J ?_
 refine rn0 ?_
 exact zN hR J J
/-- place.Same -/
theorem zLg (p q : Pos) (hp : LenP p) (hq : LenP q) : zi Tryz.prog 31 [poA p, poA q] (.bool (zGL p q)) := by
 refine zb.value0 (zL (P := Tryz.prog) (fn := Tryz.f31) J J (by kernel_rfl) J (fun c hR hfix => ?_)) (fix := fun _ => False) (fun _ h => h) J J
 have hb : zGL p q = (decide (p.cells = q.cells) && (decide (p.h0 = q.h0) && (decide (p.h1 = q.h1) && decide (p.turn = q.turn)))) := rfl
 refine rn6 ?_
 refine zQ J J J (zJH p.cells q.cells hp.c hq.c) ?_
 repeat (refine zA (zG rfl) ?_)
 refine zf J J (fun h1 => ?_) (fun h1 => ?_)
 ·rw [decide_eq_true h1, Bool.true_and] at hb
  repeat (first | refine zl rfl rfl ?_ | refine zA (zT rfl rfl rfl rfl rfl) ?_ | refine zA (zM rfl rfl rfl rfl rfl rfl) ?_ | refine zA (zAJ rfl rfl rfl rfl (by first | (simp only [Nat.zero_add, Int.toNat_natCast]; exact rfl) | exact rfl) (by omega)) ?_)
  refine zQ J J J (zJH p.h0 q.h0 hp.h0 hq.h0) ?_
  refine rn2 ?_
  refine zf J J (fun h2 => ?_) (fun h2 => ?_)
  ·rw [decide_eq_true h2, Bool.true_and] at hb
   repeat (first | refine zl rfl rfl ?_ | refine zA (zT rfl rfl rfl rfl rfl) ?_ | refine zA (zM rfl rfl rfl rfl rfl rfl) ?_ | refine zA (zAJ rfl rfl rfl rfl (by first | (simp only [Nat.zero_add, Int.toNat_natCast]; exact rfl) | exact rfl) (by omega)) ?_)
   refine zQ J J J (zJH p.h1 q.h1 hp.h1 hq.h1) ?_
   refine rn2 ?_
   refine zf J J (fun h3 => ?_) (fun h3 => ?_)
   ·rw [decide_eq_true h3, Bool.true_and] at hb
    refine rn5 ?_
    refine zN hR J ?_
    rw [hb]; rfl
   ·rw [decide_eq_false h3, Bool.false_and] at hb
    refine rn6 ?_
    refine zN hR J ?_
    rw [hb]; rfl
  ·rw [decide_eq_false h2, Bool.false_and] at hb
   refine rn6 ?_
   refine zN hR J ?_
   rw [hb]; rfl
 ·rw [decide_eq_false h1, Bool.false_and] at hb
  refine rn6 ?_
  refine zN hR J ?_
  rw [hb]; rfl
theorem zIa : zi Tryz.prog 50 [] (poA (zAZ two)) := by
 refine zb.value0 (zL (P := Tryz.prog) (fn := Tryz.f50) J J (by kernel_rfl) J (fun c hR hfix => ?_)) (fix := fun _ => False) (fun _ h => h) J J
 refine rn8 ?_
 refine zAu 5 (poA (zAZ two)) J (zLJ ⟨AEq.ro J (fun d j hd hj => by
  have hj : j < 1 := hj
  obtain rfl : j = 0 := by omega
  match d, hd with
  | 0, _ => rfl
  | 1, _ => rfl
  ), AEq.ro rfl (fun d j hd hj => by
  have hj : j < 1 := hj
  obtain rfl : j = 0 := by omega
  match d, hd with
  | 0, _ => rfl
  ), AEq.ro rfl (fun d j hd hj => by
  have hj : j < 1 := hj
  obtain rfl : j = 0 := by omega
  match d, hd with
  | 0, _ => rfl
  ), AEq.rfl', AEq.rfl', trivial⟩) ?_
 refine zV (poC (zAZ two)) J J J J J J J ?_
 refine rn0 ?_
 exact zN hR J J
theorem two_ok' : zi Tryz.prog 49 [] (ruA two) := by
 refine zb.value0 (zL (P := Tryz.prog) (fn := Tryz.f49) J J (by kernel_rfl) J (fun c hR hfix => ?_)) (fix := fun _ => False) (fun _ h => h) J J
 refine rn8 ?_
 refine zAu 6 (ruA two) J (zLJ ⟨AEq.rfl', AEq.rfl', AEq.rfl', AEq.ro_in J (fun d j hd hj => by
  have hd : d < 1 := hd
  obtain rfl : d = 0 := by omega
  have hj : j < 4 := hj
  match j, hj with
  | 0, _ => exact AEq.rfl'
  | 1, _ => exact AEq.rfl'
  | 2, _ => exact AEq.rfl'
  | 3, _ => exact AEq.nil
  ), AEq.ro rfl (fun d j hd hj => by
  have hj : j < 1 := hj
  obtain rfl : j = 0 := by omega
  match d, hd with
  | 0, _ => rfl
  | 1, _ => rfl
  ), AEq.rfl', AEq.rfl', AEq.ro_in rfl (fun d j hd hj => by
  have hd : d < 1 := hd
  obtain rfl : d = 0 := by omega
  have hj : j < 4 := hj
  match j, hj with
  | 0, _ => exact AEq.rfl'
  | 1, _ => exact AEq.rfl'
  | 2, _ => exact AEq.rfl'
  | 3, _ => exact AEq.rfl'
  ), AEq.rfl', AEq.rfl', AEq.rfl', trivial⟩) ?_
 refine zV (ruC two) J J J J J J J ?_
 refine rn0 ?_
 exact zN hR J J
def whW (r : Go.Ax.Gm.Rules) : Int := IntKind.i64.wrap (r.w * r.h)
/-- is there a table of at most so many positions? -/
structure HasT (r : Go.Ax.Gm.Rules) (most : Int) (x : List Pos × List (List Nat)) : Prop where
 wh : ¬ whW r > 9
 pc : ¬ (r.pcs.length : Int) > 3
 e : zC4 r = 0
 g : zD1 r = some x
 len : ¬ (x.1.length : Int) > most
theorem HasT.tab {r : Go.Ax.Gm.Rules} {most : Int} {x : List Pos × List (List Nat)} (h : HasT r most x) : TabOK (zE5 r x) := by
 obtain ⟨h1, h2, _⟩ := zIt h.e
 exact zLb h1 h2 h.g
theorem newA_no {r : Go.Ax.Gm.Rules} (h : zC4 r ≠ 0) : zEr r = .nilp := by unfold zEr; rw [if_pos h]
theorem zHv {r : Go.Ax.Gm.Rules} {x : List Pos × List (List Nat)} (h : zC4 r = 0) (g : zD1 r = some x) : zEr r = zB6 (zE5 r x) := by unfold zEr; rw [if_neg (fun c => c h), g]
theorem zMZ (r : Go.Ax.Gm.Rules) (most : Int) (h : whW r > 9) : zi Tryz.prog 14 [ruA r, .int .i64 most] (.tup [.nilp, .bool false]) := by
 refine zb.value0 (zL (P := Tryz.prog) (fn := Tryz.f14) J J (by kernel_rfl) J (fun c hR hfix => ?_)) (fix := fun _ => False) (fun _ h => h) J J
 refine rn6 ?_
 refine zA (zGG J J J) ?_
 refine rn6 ?_
 refine zf J J (fun q => ?_) (fun q => absurd h q)
 refine rn6 ?_
 exact zN hR J J
theorem zMY (r : Go.Ax.Gm.Rules) (hr : Lens r) (most : Int) (h : ¬ whW r > 9) (h2 : (r.pcs.length : Int) > 3) : zi Tryz.prog 14 [ruA r, .int .i64 most] (.tup [.nilp, .bool false]) := by
 refine zb.value0 (zL (P := Tryz.prog) (fn := Tryz.f14) J J (by kernel_rfl) J (fun c hR hfix => ?_)) (fix := fun _ => False) (fun _ h => h) J J
 have hpl := hr.pcs
 refine rn6 ?_
 refine zA (zGG J J J) ?_
 refine rn6 ?_
 refine zf J J (fun q => absurd q h) (fun q => ?_)
 refine rn6 ?_
 refine zF J (fun q => ?_) (fun q => absurd h2 q)
 refine rn2 ?_
 exact zN hR J J
theorem zLB (r : Go.Ax.Gm.Rules) (hr : Lens r) (most : Int) (h : ¬ whW r > 9) (h2 : ¬ (r.pcs.length : Int) > 3) (h3 : zC4 r ≠ 0) : zi Tryz.prog 14 [ruA r, .int .i64 most] (.tup [.nilp, .bool false]) := by
 refine zb.value0 (zL (P := Tryz.prog) (fn := Tryz.f14) J J (by kernel_rfl) J (fun c hR hfix => ?_)) (fix := fun _ => False) (fun _ h => h) J J
 have hpl := hr.pcs
 have cn := zJP r hr
 rw [newA_no h3] at cn
 refine rn6 ?_
 refine zA (zGG J J J) ?_
 refine rn6 ?_
 refine zf J J (fun q => absurd q h) (fun q => ?_)
 refine rn6 ?_
 refine zF J (fun q => absurd q h2) (fun q => ?_)
 refine rn6 ?_
 refine zQ J J J cn ?_
 refine rn3 ?_
 refine zf J J (fun q => ?_) (fun q => absurd h3 q)
 refine rn6 ?_
 exact zN hR J J
theorem zLA (r : Go.Ax.Gm.Rules) (hr : Lens r) (most : Int) (x : List Pos × List (List Nat)) (h : ¬ whW r > 9) (h2 : ¬ (r.pcs.length : Int) > 3) (h3 : zC4 r = 0) (h4 : zD1 r = some x) (h5 : (x.1.length : Int) > most) : zi Tryz.prog 14 [ruA r, .int .i64 most] (.tup [.nilp, .bool false]) := by
 refine zb.value0 (zL (P := Tryz.prog) (fn := Tryz.f14) J J (by kernel_rfl) J (fun c hR hfix => ?_)) (fix := fun _ => False) (fun _ h => h) J J
 have hpl := hr.pcs
 have cn := zJP r hr
 rw [zHv h3 h4, h3] at cn
 refine rn6 ?_
 refine zA (zGG J J J) ?_
 refine rn6 ?_
 refine zf J J (fun q => absurd q h) (fun q => ?_)
 refine rn6 ?_
 refine zF J (fun q => absurd q h2) (fun q => ?_)
 refine rn6 ?_
 refine zQ J J J cn ?_
 repeat (first | refine zA (zG rfl) ?_ | refine zA (zP rfl) ?_ | refine zC ?_ | refine zB ?_ | refine zX ?_ | refine zK rfl ?_ | refine zl rfl rfl ?_ | refine zA (zBG rfl rfl) ?_ | refine zA (ze rfl rfl) ?_ | refine zA (zAd rfl rfl) ?_ | refine zA (zJT rfl rfl rfl rfl) ?_)
 refine zQ J J J (zGN (zE5 r x)) ?_
 refine rn6 ?_
 refine zF J (fun q => ?_) (fun q => absurd h5 q)
 refine rn2 ?_
 exact zN hR J J
theorem zLC (r : Go.Ax.Gm.Rules) (hr : Lens r) (most : Int) (x : List Pos × List (List Nat)) (h : HasT r most x) : zi Tryz.prog 14 [ruA r, .int .i64 most] (.tup [zB6 (zE5 r x), .bool true]) := by
 refine zb.value0 (zL (P := Tryz.prog) (fn := Tryz.f14) J J (by kernel_rfl) J (fun c hR hfix => ?_)) (fix := fun _ => False) (fun _ h => h) J J
 obtain ⟨h, h2, h3, h4, h5⟩ := h
 have hpl := hr.pcs
 have cn := zJP r hr
 rw [zHv h3 h4, h3] at cn
 refine rn6 ?_
 refine zA (zGG J J J) ?_
 refine rn6 ?_
 refine zf J J (fun q => absurd q h) (fun q => ?_)
 refine rn6 ?_
 refine zF J (fun q => absurd q h2) (fun q => ?_)
 refine rn6 ?_
 refine zQ J J J cn ?_
 repeat (first | refine zA (zG rfl) ?_ | refine zA (zP rfl) ?_ | refine zC ?_ | refine zB ?_ | refine zX ?_ | refine zK rfl ?_ | refine zl rfl rfl ?_ | refine zA (zBG rfl rfl) ?_ | refine zA (ze rfl rfl) ?_ | refine zA (zAd rfl rfl) ?_ | refine zA (zJT rfl rfl rfl rfl) ?_)
 refine zQ J J J (zGN (zE5 r x)) ?_
 refine rn6 ?_
 refine zF J (fun q => absurd q h5) (fun q => ?_)
 refine rn1 ?_
 exact zN hR J J
/-- solved: no table, or one -/
theorem zMX (r : Go.Ax.Gm.Rules) (hr : Lens r) (most : Int) : zi Tryz.prog 14 [ruA r, .int .i64 most] (.tup [.nilp, .bool false]) ∨ ∃ x, HasT r most x ∧ zi Tryz.prog 14 [ruA r, .int .i64 most] (.tup [zB6 (zE5 r x), .bool true]) := by
 by_cases h : whW r > 9
 ·exact .inl (zMZ r most h)
 by_cases h2 : (r.pcs.length : Int) > 3
 ·exact .inl (zMY r hr most h h2)
 by_cases h3 : zC4 r = 0
 ·obtain ⟨_, _, x, h4⟩ := zIt h3
  by_cases h5 : (x.1.length : Int) > most
  ·exact .inl (zLA r hr most x h h2 h3 h4 h5)
  ·exact .inr ⟨x, ⟨h, h2, h3, h4, h5⟩, zLC r hr most x ⟨h, h2, h3, h4, h5⟩⟩
 ·exact .inl (zLB r hr most h h2 h3)
theorem zHn : Lens two := ⟨by decide, by decide, by decide, by decide, by decide⟩
theorem zMc : Sound two (zAZ two) := zDa (zBH zGo)
/-- retroFact -/
theorem zH3 : zi Tryz.prog 13 [] (.bool true) := by
 refine zb.value0 (zL (P := Tryz.prog) (fn := Tryz.f13) J J (by kernel_rfl) J (fun c hR hfix => ?_)) (fix := fun _ => False) (fun _ h => h) J J
 have cn := zJP two zHn
 rw [zHv zLh zIH, zLh, zLi] at cn
 have hl := (zAk two_ok.v zMc).len
 have co := of_ok zEa two_ok zHn (zAZ two) hl
 rw [two_of, zKW] at co
 have ca := at_ok zEa two_ok 0
 have e0 : atE zEa 0 = 0 := by decide
 have e1 : atP zEa 0 = zAZ two := by unfold atP; rw [e0]; rfl
 have e2 : atX zEa 0 = (2, 2) := by unfold atX; rw [e0]; rfl
 rw [e0, e1, e2] at ca
 have cb := best_ok zEa two_ok zHn (zAZ two) hl
 rw [zKV.1, zKV.2] at cb
 have cl := long_ok zEa two_ok
 rw [two_long] at cl
 refine rn0 ?_
 refine zQ J J J two_ok' ?_
 skip
 refine zQ J J J cn ?_
 repeat (first | refine zA (zG rfl) ?_ | refine zA (zP rfl) ?_ | refine zC ?_ | refine zB ?_ | refine zX ?_ | refine zK rfl ?_ | refine zl rfl rfl ?_ | refine zAS rfl ?_ | refine zAH ?_ | refine zA (zBG rfl rfl) ?_ | refine zA (ze rfl rfl) ?_ | refine zA (zAd rfl rfl) ?_ | refine zA (zJT rfl rfl rfl rfl) ?_)
 refine zQ J J J zIa ?_
 skip
 refine zQ J J J co ?_
 refine rn4 ?_
 refine zV (zBt (2, 2)) J J J J J J J ?_
 refine rn0 ?_
 refine zQ J J J ca ?_
 refine rn4 ?_
 refine zV (poC (zAZ two)) J J J J J J J ?_
 skip
 refine zV (zBt (2, 2)) J J J J J J J ?_
 refine rn0 ?_
 refine zQ J J J zIa ?_
 skip
 refine zQ J J J cb ?_
 refine rn3 ?_
 refine zQ J J J (fineI [0, 0, 0] (by decide)) ?_
 refine rn2 ?_
 refine zQ J J J (zGN zEa) ?_
 repeat (first | refine zA (zG rfl) ?_ | refine zl rfl rfl ?_ | refine zA (zT rfl rfl rfl rfl rfl) ?_ | refine zA (zBq rfl rfl) ?_ | refine zA (ze rfl rfl) ?_ | refine zA (zA5 rfl rfl rfl) ?_ | refine zA (zDF rfl rfl rfl rfl rfl rfl) ?_ | refine zA (zM rfl rfl rfl rfl rfl rfl) ?_ | refine zA (zEO rfl rfl rfl (by kernel_rfl) (by kernel_rfl) (by kernel_rfl) rfl) ?_ | refine zA (qpp rfl rfl rfl rfl rfl rfl rfl) ?_ | refine z8 rfl rfl rfl rfl rfl rfl rfl rfl rfl rfl rfl ?_)
 refine zAu 69 (zCA [⟨-1, 0, 0⟩, ⟨-1, 1, 0⟩]) J (AEq.ro J (fun d j hd hj => ?_)) ?_
 ·have hj : j < 3 := hj
  match d, hd, j, hj with
  | 0, _, 0, _ => rfl
  | 0, _, 1, _ => rfl
  | 0, _, 2, _ => rfl
  | 1, _, 0, _ => rfl
  | 1, _, 1, _ => rfl
  | 1, _, 2, _ => rfl
 refine zQ J J J (equalMv [⟨-1, 0, 0⟩, ⟨-1, 1, 0⟩] [⟨-1, 0, 0⟩, ⟨-1, 1, 0⟩] (by decide) (by decide)) ?_
 refine rn2 ?_
 refine zQ J J J cl ?_
 refine rn3 ?_
 refine zQ J J J (zJH [0] [0] (by decide) (by decide)) ?_
 refine rn2 ?_
 exact zN hR J J
theorem at_yes {T : Tab} {i : Nat} (hi : i < T.l.length) : atE T (i : Int) = 0 ∧ atP T (i : Int) = T.l.getD i zn ∧ atX T (i : Int) = zAr T i := by
 have e : atE T (i : Int) = 0 := by unfold atE; rw [if_neg (by omega)]
 exact ⟨e, by unfold atP; rw [e, if_neg (by decide), Int.toNat_natCast], by unfold atX; rw [e, if_neg (by decide), Int.toNat_natCast]⟩
theorem zKa {T : Tab} (h : TabOK T) {i : Nat} (hi : i < T.l.length) (hr : zAc T.r (T.l.getD i zn) = 0) : ∀ m ∈ zAb T.r (T.l.getD i zn), zBv T (zAy T.r (T.l.getD i zn) m) = 0 := fun m hm => by
 obtain ⟨k, hk, rfl⟩ := List.mem_iff_getElem.1 hm
 have := (h.next hi hr hk).2.1
 rwa [zEE mv0 hk] at this
theorem zKg (p q : Pos) (hp : LenP p) (hq : LenP q) : zi Tryz.prog 30 [poA q, .rp (.box (poC p)) 0 0] (.bool (zGL p q)) := by
 refine zb.value0 (zL (P := Tryz.prog) (fn := Tryz.f30) J J (by kernel_rfl) J (fun c hR hfix => ?_)) (fix := fun _ => False) (fun _ h => h) J J
 refine rn6 ?_
 refine zQ J J J (zLg p q hp hq) ?_
 refine rn0 ?_
 exact zN hR J J
theorem zE0 {p q : Pos} (hp : p.quiet = 0) (hq : q.quiet = 0) : zGL p q = decide (p = q) := by
 by_cases h : p = q
 ·rw [decide_eq_true h]; exact zI0.2 (by rw [h])
 ·rw [decide_eq_false h, ← Bool.not_eq_true, zI0, zGh hp, zGh hq]; exact h
/-- RetroClosed -/
theorem zHB (r : Go.Ax.Gm.Rules) (hr : Lens r) : zi Tryz.prog 6 [ruA r] (.bool true) := by
 rcases zMX r hr 150 with cs | ⟨x, hx, cs⟩
 ·refine zb.value0 (zL (P := Tryz.prog) (fn := Tryz.f6) J J (by kernel_rfl) J (fun c hR hfix => ?_)) (fix := fun _ => False) (fun _ h => h) J J
  refine rn6 ?_
  refine zQ J J J zH3 ?_
  refine rn6 ?_
  refine zQ J J J cs ?_
  refine rn5 ?_
  exact zN hR J J
 have hT := hx.tab
 obtain ⟨T, eT⟩ : ∃ T, zE5 r x = T := ⟨_, rfl⟩
 have er : T.r = r := by rw [← eT]; rfl
 rw [eT] at hT cs
 clear eT hx
 subst er
 have hmost := hT.G.most
 have h0 := hT.G.fst
 have cb := zHQ T.r hr hT.z
 have hq : ∀ {i : Nat}, i < T.l.length → (T.l.getD i zn).quiet = 0 := fun hi => (hT.sound hi).2
 have hmem : ∀ {k : Nat}, k ≤ T.l.length → ∀ q ∈ T.l.take k, LenP q ∧ q.quiet = 0 := fun {k} hk q hq => by
  obtain ⟨i, hi, rfl⟩ := List.mem_iff_getElem.1 (List.mem_of_mem_take hq)
  have h1 := hT.sound hi
  rw [show T.l.getD i zn = T.l[i] by simp [List.getD, hi]] at h1
  exact ⟨(zAk hT.v h1.1).len, h1.2⟩
 have hno : ∀ {k : Nat}, k < T.l.length → (T.l.take k).any (zGL (T.l.getD k zn)) = false := fun {k} hk => by
  rw [← Bool.not_eq_true, List.any_eq_true]
  rintro ⟨q, hq1, hq2⟩
  rw [zE0 (hq hk) (hmem (Nat.le_of_lt hk) q hq1).2, decide_eq_true_eq] at hq2
  obtain ⟨j, hj, rfl⟩ := List.mem_iff_getElem.1 hq1
  rw [List.length_take] at hj
  rw [List.getElem_take, show T.l.getD k zn = T.l[k] by simp [List.getD, hk]] at hq2
  exact List.pairwise_iff_getElem.1 hT.G.nd j k (by omega) hk (by omega) hq2.symm
 have hB : SmallP (zAZ T.r) := zAk hT.v (zDa hT.v)
 refine zb.value0 (zL (P := Tryz.prog) (fn := Tryz.f6) J J (by kernel_rfl) J (fun c hR hfix => ?_)) (fix := fun _ => False) (fun _ h => h) J J
 have nofix : ∀ (h n : Nat), c.fix h → h < n := fun h n q => by rw [hfix] at q; exact q.elim
 refine zX ?_
 repeat (first | refine zA (zP rfl) ?_ | refine zC ?_ | refine zB ?_ | refine zK rfl ?_ | refine zAm rfl rfl ?_)
 refine zBg 1 [] J ⟨J, trivial⟩ trivial J hfix ?_
 refine rn0 ?_
 refine zQ J J J zH3 ?_
 refine rn6 ?_
 refine zQ J J J cs ?_
 refine rn6 ?_
 refine zQ J J J cb ?_
 refine rn4 ?_
 refine zV (poC (zAZ T.r)) J J J J J J J ?_
 refine zAp ?_
 refine zBg 5 [(1, .rp (.box (ruC T.r)) 0 0), (3, zB6 T), (6, .int .i64 0)] J ⟨J, J, J, J, trivial⟩ ⟨J, J, J, trivial⟩ J hfix ?_
 refine zK J ?_
 repeat (first | refine zA (zG rfl) ?_ | refine zC ?_ | refine zB ?_ | refine zX ?_ | refine zAS rfl ?_ | refine zAH ?_ | refine zA (zBG rfl rfl) ?_)
 refine zK J ?_
 refine zAp ?_
 refine zBY 7 ⟨35, zBd []⟩ J J ?_
 refine rn0 ?_
 refine zQ J J J (zGN T) ?_
 refine rn1 ?_
 refine zt (ι := Nat) (fun k => [(1, .rp (.box (ruC T.r)) 0 0), (3, zB6 T), (5, .rp (.box (poC (zAZ T.r))) 0 0), (7, .sl 0 0 (T.l.take k).length), (44, iN T.l.length), (45, iN k)]) (fun k => [some ⟨35, zBd (T.l.take k)⟩]) (fun k => k ≤ T.l.length) (fun k => T.l.length - k) 0 ⟨⟨J, J, J, J, J, J, trivial⟩, J, Nat.zero_le _⟩ ?_
 intro k hk
 refine rn4 ?_
 refine zF J (fun g => ?_) (fun g => ?_)
 ·have hk' : k < T.l.length := by omega
  have ca := at_ok T hT (k : Int)
  obtain ⟨a1, a2, a3⟩ := at_yes hk'
  rw [a1, a2, a3] at ca
  have hlp := (zD2 hT hk').len
  have hqk := hq hk'
  have hnk := hno hk'
  have htk := zx T.l zn k hk'
  have hlk : (T.l.take k).length = k := by rw [List.length_take]; omega
  have hme := hmem (Nat.le_of_lt hk')
  generalize hP : T.l.getD k zn = P at *
  generalize hL : T.l.take k = L at *
  have cc := zKj L L.length 30 [.rp (.box (poC P)) 0 0] (zGL P) (Nat.le_refl _) rfl (by omega) (fun q hq => zKg P q hlp (hme q hq).1)
  rw [List.take_length, hnk] at cc
  refine rn1 ?_
  refine zQ J J J ca ?_
  refine rn4 ?_
  refine zV (poC P) J J J J J J J ?_
  skip
  refine zV (zBt (zAr T k)) J J J J J J J ?_
  refine zAp ?_
  refine zDm [some ⟨35, zBd L⟩, some ⟨35, .box (poC P)⟩] 10 [(9, .ptr 1 0 0), (1, .rp (.box (ruC T.r)) 0 0), (3, zB6 T), (5, .rp (.box (poC (zAZ T.r))) 0 0), (7, .sl 0 0 L.length), (44, iN T.l.length), (45, iN k), (11, .int .i64 0)] J J ⟨J, J, J, J, J, J, J, J, trivial⟩ ⟨J, J, J, J, J, J, J, J, J, trivial⟩ (zBx (zFJ _) (zBx (zHC J) zBV)) J (fun h q => nofix h _ q) ?_
  refine zDm [some ⟨35, zBd L⟩] 9 [(1, .rp (.box (ruC T.r)) 0 0), (3, zB6 T), (5, .rp (.box (poC (zAZ T.r))) 0 0), (7, .sl 0 0 L.length), (44, iN T.l.length), (45, iN k), (11, .int .i64 0)] J J ⟨J, J, J, J, J, J, J, trivial⟩ ⟨J, J, J, J, J, J, J, J, trivial⟩ (zBx (zFJ _) zBV) J (fun h q => nofix h _ q) ?_
  repeat (first | refine zA (zG rfl) ?_ | refine zK rfl ?_ | refine zl rfl rfl ?_ | refine zA (zBG rfl rfl) ?_ | refine zA (ze rfl rfl) ?_ | refine zA (zD rfl rfl rfl rfl) ?_ | refine zA (zI rfl rfl rfl rfl rfl rfl) ?_)
  refine zf J J (fun q => ?_) (fun q => ?_)
  ·exact absurd hqk q
  refine rn10 ?_
  refine ax_calll rfl rfl rfl rfl cc (zEy (zEu L)) ⟨fun o ho => by cases ho; show 0 + L.length ≤ L.length; omega, ⟨trivial, trivial⟩, trivial⟩ rfl rfl rfl ?_
  refine rn6 ?_
  refine zBU [P] J J J J J J J J J J J J J (by show 0 + 1 ≤ 1; omega) (fun k' j' hk' hj' => ?_) (by show (L.length + 1) * 88 ≤ _ ∧ _; omega) (fun a j k _ => zCx a j k) (by rw [hfix]; exact fun h => h) ?_
  ·obtain rfl : k' = 0 := Nat.lt_one_iff.1 hk'
   match j', hj' with
   | 0, _ => rfl
   | 1, _ => rfl
   | 2, _ => rfl
   | 3, _ => rfl
   | 4, _ => rfl
  refine rn5 ?_
  refine zS ⟨k + 1, by omega, by omega, ⟨J, J, J, ?_, J, J, trivial⟩, ?_⟩
  ·rw [htk, List.length_append]; rfl
  ·rw [htk]; rfl
 have hk' : k = T.l.length := by omega
 subst hk'
 rw [List.take_length]
 refine zAp ?_
 refine zDC 0 7 T.l.length [(1, .rp (.box (ruC T.r)) 0 0), (3, zB6 T), (5, .rp (.box (poC (zAZ T.r))) 0 0)] J (zEu _) J (Nat.le_refl _) ⟨J, J, J, trivial⟩ ?_
 refine zB8 [] [none] [(7, .ro (zBd T.l) 0 T.l.length), (1, .rp (.box (ruC T.r)) 0 0), (3, zB6 T), (5, .rp (.box (poC (zAZ T.r))) 0 0)] J ⟨J, J, J, J, trivial⟩ (fun h q => nofix h _ q) zBV J ?_
 have csame := zLg (T.l.getD 0 zn) (zAZ T.r) (by rw [h0.1]; exact hB.len) hB.len
 rw [show zGL (T.l.getD 0 zn) (zAZ T.r) = true by rw [h0.1, zE0 rfl rfl, decide_eq_true rfl]] at csame
 skip
 refine zd (by kernel_rfl) ?_
 refine zj (fuel := 0) [0, 1, 2, 3, 4, 5, 6, 7, 8, 9, 10] [(7, .ro (zBd T.l) 0 T.l.length), (1, .rp (.box (ruC T.r)) 0 0), (3, zB6 T), (5, .rp (.box (poC (zAZ T.r))) 0 0)] ⟨J, J, J, J, trivial⟩ (by kernel_rfl) (by decide) J J ?_
 refine zJ J J (zG J) ?_
 refine zJ J J (zA5 J J J) ?_
 refine zJ J J (zBq J J) ?_
 rw [decide_eq_false (show ¬ ((T.l.length : Nat) : Int) = 0 by omega)]
 refine zJ J J (zG J) ?_
 refine zm J J J J (zG J) ?_
 refine zm J J J J (zg J J J J (by first | (simp only [Nat.zero_add, Int.toNat_natCast, Int.toNat_zero]; exact J) | exact J) (by omega)) ?_
 refine zm J J J J (z6 J J J J J J) ?_
 refine zm J J J J (z6 J J J J J J) ?_
 refine zCc J J J J J J J csame ?_
 refine zm J J J J (zDh J) ?_
 refine zJ J J (ze J J) ?_
 refine zz ?_
 refine zY (by kernel_rfl) ?_
 refine rn4 ?_
 refine zt (ι := Nat) (fun k => [(1, .rp (.box (ruC T.r)) 0 0), (3, zB6 T), (83, .ro (zBd T.l) 0 T.l.length), (84, iN T.l.length), (85, iN k)]) (fun _ => []) (fun k => k ≤ T.l.length) (fun k => T.l.length - k) 0 ⟨⟨J, J, J, J, J, trivial⟩, J, Nat.zero_le _⟩ ?_
 intro k hk
 refine rn4 ?_
 refine zF J (fun g => ?_) (fun g => ?_)
 ·have hk' : k < T.l.length := by omega
  have S := (hT.sound hk').1
  have hlp := (zD2 hT hk').len
  have ce := endOf_ok T.r hr (T.l.getD k zn) hlp
  rw [zEL hT.z S, if_neg (by decide)] at ce
  have cl := all_ok T.r hr (T.l.getD k zn) hlp
  rw [zEL hT.z S, if_neg (by decide)] at cl
  have hfnd := zKa hT hk'
  have hml := zHo hT.v S
  obtain ⟨P, hP⟩ : ∃ P, T.l.getD k zn = P := ⟨_, rfl⟩
  rw [hP] at S hlp ce cl hfnd hml
  have hms : ∀ m ∈ zAb T.r P, Sound T.r (zAy T.r P m) := fun m hm => zEI hT.v S (Go.Ax.Gm.list_ok hT.v S hm)
  have hca := fun m (hm : m ∈ zAb T.r P) => after_ok T.r hr P m hT.z S hm
  generalize hM : zAb T.r P = ms at *
  refine zFj ?_
  repeat (refine zAM rfl rfl rfl ?_)
  refine zV (poC P) J J J J J (by rw [← hP]; rfl) J ?_
  refine zAp ?_
  refine zBg 13 [(1, .rp (.box (ruC T.r)) 0 0), (3, zB6 T), (83, .ro (zBd T.l) 0 T.l.length), (84, iN T.l.length), (85, iN k)] J ⟨J, J, J, J, J, J, trivial⟩ ⟨J, J, J, J, J, trivial⟩ J hfix ?_
  refine rn6 ?_
  refine zQ J J J ce ?_
  refine rn3 ?_
  refine zF J (fun o => ?_) (fun o => ?_)
  ·refine rn5 ?_
   exact zS ⟨k + 1, by omega, by omega, ⟨J, J, J, J, J, trivial⟩, J⟩
  have o : zAc T.r P = 0 := Classical.not_not.1 o
  have hfnd := hfnd o
  refine rn6 ?_
  refine zQ J J J cl ?_
  refine rn4 ?_
  refine zt (ι := Nat) (fun j => [(13, .rp (.box (poC P)) 0 0), (1, .rp (.box (ruC T.r)) 0 0), (3, zB6 T), (83, .ro (zBd T.l) 0 T.l.length), (84, iN T.l.length), (85, iN k), (109, zCA ms), (110, iN ms.length), (111, iN j)]) (fun _ => []) (fun j => j ≤ ms.length) (fun j => ms.length - j) 0 ⟨⟨J, J, J, J, J, J, J, J, J, trivial⟩, J, Nat.zero_le _⟩ ?_
  intro j hj
  refine rn4 ?_
  refine zF J (fun g2 => ?_) (fun g2 => ?_)
  ·have hj' : j < ms.length := by omega
   have hmem2 : ms.getD j mv0 ∈ ms := zAg mv0 hj'
   obtain ⟨m, hm⟩ : ∃ m, ms.getD j mv0 = m := ⟨_, rfl⟩
   rw [hm] at hmem2
   have co := of_ok T hT hr (zAy T.r P m) (zAk hT.v (hms m hmem2)).len
   rw [hfnd m hmem2] at co
   refine zFj ?_
   repeat (refine zAM rfl rfl rfl ?_)
   refine zV (mvC m) J J J J J (by rw [← hm]; rfl) J ?_
   refine rn6 ?_
   refine zQ J J J (hca m hmem2) ?_
   refine rn4 ?_
   refine zV (poC (zAy T.r P m)) J J J J J J J ?_
   refine rn6 ?_
   refine zQ J J J co ?_
   refine rn4 ?_
   refine zV (zBt (ofT T (zAy T.r P m))) J J J J J J J ?_
   refine rn10 ?_
   refine zB ?_
   repeat (first | refine zA (zG rfl) ?_ | refine zC ?_ | refine zX ?_ | refine zK rfl ?_ | refine zl rfl rfl ?_ | refine zA (zBG rfl rfl) ?_ | refine zA (ze rfl rfl) ?_)
   refine zB ?_
   refine rn10 ?_
   refine zB ?_
   refine zB8 [] [some ⟨58, .box (mvC m)⟩, some ⟨35, .box (poC (zAy T.r P m))⟩, some ⟨37, .box (zBt (ofT T (zAy T.r P m)))⟩] [(13, .rp (.box (poC P)) 0 0), (1, .rp (.box (ruC T.r)) 0 0), (3, zB6 T), (83, .ro (zBd T.l) 0 T.l.length), (84, iN T.l.length), (85, iN k), (109, zCA ms), (110, iN ms.length), (111, iN j)] J ⟨J, J, J, J, J, J, J, J, J, trivial⟩ (fun h q => nofix h _ q) zBV J ?_
   refine rn3 ?_
   refine zS ⟨j + 1, by omega, by omega, ⟨J, J, J, J, J, J, J, J, J, trivial⟩, J⟩
  ·refine rn5 ?_
   exact zS ⟨k + 1, by omega, by omega, ⟨J, J, J, J, J, trivial⟩, J⟩
 have hk' : k = T.l.length := by omega
 subst hk'
 have ca := at_ok T hT (T.l.length : Nat)
 have e0 : atE T (T.l.length : Nat) = 4 := by unfold atE; rw [if_pos (.inr (Int.le_refl _))]
 have e1 : atP T (T.l.length : Nat) = zn := by unfold atP; rw [e0, if_pos (by decide)]
 have e2 : atX T (T.l.length : Nat) = (0, 0) := by unfold atX; rw [e0, if_pos (by decide)]
 rw [e0, e1, e2] at ca
 refine rn5 ?_
 refine zQ J J J (zGN T) ?_
 skip
 refine zQ J J J ca ?_
 refine rn4 ?_
 refine zV (poC zn) J J J J J J J ?_
 skip
 refine zV (zBt (0, 0)) J J J J J J J ?_
 refine rn4 ?_
 exact zN hR J J
end Go.Proofs.YtiifcejepaeepaaGreatDoor
namespace Go.Proofs.YtiifcejepaeepaaGreatDoor
open Go.Ax Go.Ax.Gm Go.RowKit
theorem rdWay {H : Type} {enc : TypeId × Value → H} {W : World} : Rd enc Tryz.prog W 143 4 zE7 (fun _ => True) :=
 (Rd.struct Tryz.underlying143 (by kernel_rfl) (RdF.cons rfl rfl (Rd.int Tryz.underlying3) (RdF.cons rfl rfl (Rd.int Tryz.underlying3) (RdF.cons rfl rfl (Rd.int Tryz.underlying3) (RdF.cons rfl rfl (Rd.int Tryz.underlying3) RdF.nil))))).map
  (fun a => (⟨a.1, a.2.1, a.2.2.1, a.2.2.2.1⟩ : Go.Ax.Gm.Way)) (fun a h => trivial) (fun a => rfl) (fun a i hi => AEq.rfl')
theorem rdPc {H : Type} {enc : TypeId × Value → H} {W : World} : Rd enc Tryz.prog W 114 4 pcC (fun p => p.ways.length ≤ 9223372036854775807) :=
 (Rd.struct Tryz.underlying114 (by kernel_rfl) (RdF.cons rfl rfl (Rd.int Tryz.underlying5) (RdF.cons rfl rfl (Rd.int Tryz.underlying3) (RdF.cons rfl rfl (Rd.int Tryz.underlying3) (RdF.cons rfl rfl (Rd.slice way0 Tryz.underlying112 (by kernel_rfl) rfl rdWay) RdF.nil))))).map
  (fun a => (⟨a.1, a.2.1, a.2.2.1, a.2.2.2.1⟩ : Go.Ax.Gm.Pc)) (fun a h => h.2.2.2.1.1) (fun a => rfl) (fun a i hi => AEq.rfl')
theorem rdEn {H : Type} {enc : TypeId × Value → H} {W : World} : Rd enc Tryz.prog W 132 4 enC (fun _ => True) :=
 (Rd.struct Tryz.underlying132 (by kernel_rfl) (RdF.cons rfl rfl (Rd.int Tryz.underlying3) (RdF.cons rfl rfl (Rd.int Tryz.underlying3) (RdF.cons rfl rfl (Rd.int Tryz.underlying3) (RdF.cons rfl rfl (Rd.bool Tryz.underlying4) RdF.nil))))).map
  (fun a => (⟨a.1, a.2.1, a.2.2.1, a.2.2.2.1⟩ : Go.Ax.Gm.En)) (fun a h => trivial) (fun a => rfl) (fun a i hi => AEq.rfl')
theorem rdRules {H : Type} {enc : TypeId × Value → H} {W : World} : Rd enc Tryz.prog W 26 11 ruC Lens :=
 (Rd.struct Tryz.underlying26 (by kernel_rfl) (RdF.cons rfl rfl (Rd.str Tryz.underlying9) (RdF.cons rfl rfl (Rd.int Tryz.underlying3) (RdF.cons rfl rfl (Rd.int Tryz.underlying3) (RdF.cons rfl rfl (Rd.slice pc0 Tryz.underlying22 (by kernel_rfl) rfl rdPc) (RdF.cons rfl rfl (Rd.ints Tryz.underlying23 (by kernel_rfl) Tryz.underlying3) (RdF.cons rfl rfl (Rd.bool Tryz.underlying4) (RdF.cons rfl rfl (Rd.bool Tryz.underlying4) (RdF.cons rfl rfl (Rd.slice en0 Tryz.underlying24 (by kernel_rfl) rfl rdEn) (RdF.cons rfl rfl (Rd.int Tryz.underlying3) (RdF.cons rfl rfl (Rd.int Tryz.underlying3) (RdF.cons rfl rfl (Rd.int Tryz.underlying3) RdF.nil)))))))))))).map
  (fun a => (⟨a.1, a.2.1, a.2.2.1, a.2.2.2.1, a.2.2.2.2.1, a.2.2.2.2.2.1, a.2.2.2.2.2.2.1, a.2.2.2.2.2.2.2.1, a.2.2.2.2.2.2.2.2.1, a.2.2.2.2.2.2.2.2.2.1, a.2.2.2.2.2.2.2.2.2.2.1⟩ : Go.Ax.Gm.Rules))
  (fun a h => ⟨h.1, h.2.2.2.1.1, h.2.2.2.1.2, h.2.2.2.2.1.1, h.2.2.2.2.2.2.2.1.1⟩) (fun a => rfl) (fun a i hi => AEq.rfl')
end Go.Proofs.YtiifcejepaeepaaGreatDoor
