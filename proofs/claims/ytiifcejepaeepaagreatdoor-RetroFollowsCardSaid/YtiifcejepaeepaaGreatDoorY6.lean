import Derived.Test.YtiifcejepaeepaaGreatDoorY5
set_option linter.unusedVariables false
set_option linter.unusedSimpArgs false
set_option maxRecDepth 100000
set_option maxHeartbeats 4000000
namespace Go.Proofs.YtiifcejepaeepaaGreatDoor
open Go.Ax Go.Ax.Gm Go.RowKit Go.Ax.Idx Go.Ax.Cd
attribute [local irreducible] Ax zCE QOp zd
/-- moves.Make, player 0 -/
theorem make0_ok (r : Go.Ax.Gm.Rules) (hv : ValidR r) (cs a b : List Int) (qt : Int) (S : Sound r ⟨cs, a, b, 0, qt⟩) (m : Mv) (hm : MvOK r ⟨cs, a, b, 0, qt⟩ m) : zn Tryz.prog 67 [ruA r, poA ⟨cs, a, b, 0, qt⟩, mvA m] (poA (zAY r ⟨cs, a, b, 0, qt⟩ m)) := by
 refine zd.value0 (zL (P := Tryz.prog) (fn := Tryz.f67) J J (by kernel_rfl) J (fun c hR hfix => ?_)) (fix := fun _ => False) (fun _ h => h) J J
 have SP := zAt hv S
 have hcc : cs.length ≤ 64 := SP.c
 have hcl : (cs.length : Int) = r.w * r.h := S.cl
 have hal : a.length = r.pcs.length := S.l0
 have hn6 := hv.n6
 have hqt : 0 ≤ qt ∧ qt ≤ 200 := S.qt
 have hain : ∀ n ∈ a, 0 ≤ n ∧ n ≤ 1000 := S.c0
 have hC12 := fun s => zHl hv S s
 have hKlt := fun s => zEN S s
 obtain ⟨m1, m2, m3, m4, m5⟩ := hm
 have m2 : m.to.toNat < cs.length := m2
 have m4 : m.pc.toNat < a.length := by omega
 have m5 : (m.fr = -1 ∧ 0 < a.getD m.pc.toNat 0) ∨ (0 ≤ m.fr ∧ m.fr.toNat < cs.length) := m5
 have hapc := hain _ (zAp 0 m4)
 refine zY ?_
 repeat (first | refine zC ?_ | refine zB ?_ | refine zK rfl ?_ | refine zAn rfl rfl ?_ | refine zAN rfl rfl rfl ?_)
 refine zA3 [some ⟨26, .box (ruC r)⟩, some ⟨35, .box (poC ⟨cs, a, b, 0, qt⟩)⟩, some ⟨58, .box (mvC m)⟩, none] [none, none, none, some ⟨35, .box poZ⟩] [(3, .rp (.box (ruC r)) 0 0), (4, .rp (.box [zt cs, zt a, zt b, .int .i64 0, .int .i64 qt]) 0 0), (5, .rp (.box (mvC m)) 0 0), (6, .ptr 3 0 0)] ?_ (zCK (zz rfl) (zCK (zz rfl) (zCK (zz rfl) (zCL zCj)))) rfl ?_ ⟨⟨.ptr 0 0 0, rfl, .inr (.inr ⟨rfl, fun o ho => by cases ho; exact Nat.zero_lt_one⟩)⟩, ⟨.ptr 1 0 0, rfl, .inr (.inr ⟨rfl, fun o ho => by cases ho; exact Nat.zero_lt_one⟩)⟩, ⟨.ptr 2 0 0, rfl, .inr (.inr ⟨rfl, fun o ho => by cases ho; exact Nat.zero_lt_one⟩)⟩, ⟨_, rfl, .inl rfl⟩, trivial⟩ ?_
 ·intro h o ho
  match h, ho with
  | 0, ho => exact ho
  | 1, ho => exact ho
  | 2, ho => exact ho
  | 3, ho => simp at ho
  | _ + 4, ho => simp at ho
 ·intro h o ho
  match h, ho with
  | 0, ho => simp at ho
  | 1, ho => simp at ho
  | 2, ho => simp at ho
  | 3, ho => cases ho; exact ⟨fun o h => by simp at h, _, rfl, rfl, rfl, rfl, fun _ _ _ _ => .inl rfl⟩
  | _ + 4, ho => simp at ho
 refine rn6 ?_
 refine zJz (.agg (poS ⟨cs, a, b, 0, qt⟩ 6)) [none, none, none, some ⟨35, .box poZ⟩, some ⟨35, .box (poS ⟨cs, a, b, 0, qt⟩ 6)⟩, some ⟨35, .box (poS ⟨cs, a, b, 0, qt⟩ 6)⟩, some ⟨3, .ints .i64 cs⟩, some ⟨3, .ints .i64 a⟩, some ⟨3, .ints .i64 b⟩] J J J (zKB _ SP) J J ?_
 repeat (refine zAN rfl rfl rfl ?_)
 refine zV (poS ⟨cs, a, b, 0, qt⟩ 6) J J J J J J J ?_
 refine zA7 [none, none, none, some ⟨35, .box poZ⟩, none, none, some ⟨3, .ints .i64 cs⟩, some ⟨3, .ints .i64 a⟩, some ⟨3, .ints .i64 b⟩, some ⟨35, .box [.sl 6 0 cs.length, .sl 7 0 a.length, .sl 8 0 b.length, .int .i64 0, .int .i64 qt]⟩] (zA2.drop (zA2.drop (zA2.drop (zA2.eqv (CEq.refl _) (zA2.drop (zA2.drop (zA2.refl _))))))) ?_
 repeat (first | refine zA (zO rfl) ?_ | refine zC ?_ | refine zB ?_ | refine zY ?_ | refine zK rfl ?_ | refine zA (zT rfl rfl rfl rfl rfl) ?_ | refine zA (zDb rfl rfl) ?_ | refine zA (zj rfl rfl rfl rfl rfl (by first | (simp only [Nat.zero_add, Int.toNat_natCast, Int.toNat_zero]; exact rfl) | exact rfl) (by omega)) ?_ | refine zA (zAy rfl rfl rfl rfl (by first | assumption | omega)) ?_ | refine zA (zD rfl rfl rfl rfl) ?_ | refine zA (zM rfl rfl rfl rfl rfl rfl) ?_ | refine zA (zI rfl rfl rfl rfl rfl rfl) ?_)
 obtain ⟨took, htk⟩ : ∃ took, cs.getD m.to.toNat 0 = took := ⟨_, rfl⟩
 have htk2 : zAD ⟨cs, a, b, 0, qt⟩ m.to.toNat = took := htk
 have ht12 := hC12 m.to.toNat
 have htK : took ≠ 0 → zAT took < r.pcs.length := fun q => by
  have h := hKlt m.to.toNat
  rw [htk2] at h
  exact zFQ q h.1 h.2
 rw [htk2] at ht12
 obtain ⟨C1, hC1⟩ : ∃ C1, (if 0 ≤ m.fr then cs.set m.fr.toNat 0 else cs) = C1 := ⟨_, rfl⟩
 obtain ⟨A1, hA1⟩ : ∃ A1, (if 0 ≤ m.fr then a else a.set m.pc.toNat (a.getD m.pc.toNat 0 - 1)) = A1 := ⟨_, rfl⟩
 have hC1l : C1.length = cs.length := by rw [← hC1]; split <;> simp
 have hA1l : A1.length = a.length := by rw [← hA1]; split <;> simp
 have hA1in : ∀ i, -1 ≤ A1.getD i 0 ∧ A1.getD i 0 ≤ 1000 := fun i => by
  rw [← hA1]
  split
  ·by_cases q : i < a.length
   ·have := hain _ (zAp 0 q); omega
   ·rw [List.getD, List.getElem?_eq_none (by omega)]; exact ⟨by decide, by decide⟩
  ·by_cases q : i < a.length
   ·by_cases q2 : m.pc.toNat = i
    ·rw [← q2, List.getD, List.getElem?_set_self m4]; show -1 ≤ a.getD m.pc.toNat 0 - 1 ∧ a.getD m.pc.toNat 0 - 1 ≤ 1000; omega
    ·rw [List.getD, List.getElem?_set_ne q2]; have := hain _ (zAp 0 q); rw [List.getD] at this; omega
   ·rw [List.getD, List.getElem?_eq_none (by rw [List.length_set]; omega)]; exact ⟨by decide, by decide⟩
 refine zBj 8 (.int .i64 took) J (AEq.of_eq (by rw [← htk])) ?_
 apply z8 (H := [none, none, none, some ⟨35, .box poZ⟩, none, none, some ⟨3, .ints .i64 C1⟩, some ⟨3, .ints .i64 A1⟩, some ⟨3, .ints .i64 b⟩, some ⟨35, .box [.sl 6 0 cs.length, .sl 7 0 a.length, .sl 8 0 b.length, .int .i64 0, .int .i64 qt]⟩]) [(3, .rp (.box (ruC r)) 0 0), (4, .rp (.box [zt cs, zt a, zt b, .int .i64 0, .int .i64 qt]) 0 0), (5, .rp (.box (mvC m)) 0 0), (6, .ptr 3 0 0), (7, .ptr 9 0 0), (8, .int .i64 took)]
 ·intro fin
  refine zH J (fun f1 => ?_) (fun f1 => ?_)
  ·have f1 : 0 ≤ m.fr := f1
   rw [if_pos f1] at hC1 hA1
   have f2 : m.fr.toNat < cs.length := by rcases m5 with q | q; omega; exact q.2
   subst hC1 hA1
   repeat (first | refine zC ?_ | refine zB ?_ | refine zK rfl ?_ | refine zA (zT rfl rfl rfl rfl rfl) ?_ | refine zA (zj rfl rfl rfl rfl rfl (by first | (simp only [Nat.zero_add, Int.toNat_natCast, Int.toNat_zero]; exact rfl) | exact rfl) (by omega)) ?_ | refine zA (zD rfl rfl rfl rfl) ?_ | refine zA (zM rfl rfl rfl rfl rfl rfl) ?_ | refine zA (zI rfl rfl rfl rfl rfl rfl) ?_ | refine zAG rfl rfl rfl rfl rfl rfl rfl (by first | assumption | (show _ < List.length _; first | assumption | omega)) ?_)
   exact fin _ ⟨J, J, J, J, J, J, trivial⟩
  ·have f1 : ¬ 0 ≤ m.fr := f1
   rw [if_neg f1] at hC1 hA1
   subst hC1 hA1
   skip
   refine zf (by kernel_rfl) ?_
   refine zl (fuel := 1) [0, 1, 2, 3, 4, 5, 6, 7, 8, 9, 10] [(3, .rp (.box (ruC r)) 0 0), (4, .rp (.box [zt cs, zt a, zt b, .int .i64 0, .int .i64 qt]) 0 0), (5, .rp (.box (mvC m)) 0 0), (6, .ptr 3 0 0), (7, .ptr 9 0 0), (8, .int .i64 took)] ⟨J, J, J, J, J, J, trivial⟩ (by kernel_rfl) (by decide) J J ?_
   refine zJ J J (zI J J J J J J) ?_
   refine zJ J J (zD J J J J) ?_
   refine zJ J J (zM J J J J J J) ?_
   refine zJ J J (zAZ J J J J J (by show (0 : Int) ≤ 0 ∧ (0 : Int) < 2; decide)) ?_
   refine zJ J J (zT J J J J J) ?_
   refine zJ J J (zI J J J J J J) ?_
   refine zJ J J (zD J J J J) ?_
   refine zJ J J (zj J J J J J (by first | (simp only [Nat.zero_add, Int.toNat_natCast, Int.toNat_zero]; exact J) | exact J) (by omega)) ?_
   refine zJ J J (zAy J J J J (by first | assumption | omega)) ?_
   refine zJ J J (zBD J J (by omega)) ?_
   refine zJ J J (zj J J J J J (by first | (simp only [Nat.zero_add, Int.toNat_natCast, Int.toNat_zero]; exact J) | exact J) (by omega)) ?_
   refine zr ?_
   refine zG (is := [11]) (by kernel_rfl) (by simp) J ⟨fun o ho => ?_, trivial⟩
   all_goals (cases ho)
   refine rn7 ?_
   refine zX (by kernel_rfl) ?_
   repeat (refine zB ?_)
   exact fin _ ⟨J, J, J, J, J, J, trivial⟩
 obtain ⟨C2, hC2⟩ : ∃ C2, C1.set m.to.toNat (2 * m.pc + 0 + 1) = C2 := ⟨_, rfl⟩
 have hC2l : C2.length = cs.length := by rw [← hC2, List.length_set, hC1l]
 obtain ⟨A2, hA2⟩ : ∃ A2, (if 0 < took ∧ r.keeps = true then A1.set (zAT took) (min (A1.getD (zAT took) 0 + 1) 1000) else A1) = A2 := ⟨_, rfl⟩
 have hmt : m.to.toNat < C1.length := by omega
 have hmt2 : m.to.toNat < (Cells.ints .i64 C1).len := hmt
 obtain ⟨q3, hq3⟩ : ∃ q3, (if 0 < took ∨ m.fr < 0 then 0 else min (qt + 1) 200) = q3 := ⟨_, rfl⟩
 repeat (first | refine zY ?_ | refine zK rfl ?_ | refine zA (zT rfl rfl rfl rfl rfl) ?_ | refine zA (zD rfl rfl rfl rfl) ?_ | refine zA (zM rfl rfl rfl rfl rfl rfl) ?_ | refine zA (zI rfl rfl rfl rfl rfl rfl) ?_)
 refine zA (zCi J J (by omega)) ?_
 repeat (first | refine zA (zF rfl) ?_ | refine zC ?_ | refine zB ?_ | refine zY ?_ | refine zK rfl ?_ | refine zA (zCX rfl rfl) ?_ | refine zA (zA1 rfl rfl (by omega)) ?_ | refine zA (zj rfl rfl rfl rfl rfl (by first | (simp only [Nat.zero_add, Int.toNat_natCast, Int.toNat_zero]; exact rfl) | exact rfl) (by omega)) ?_ | refine zA (zD rfl rfl rfl rfl) ?_ | refine zA (zI rfl rfl rfl rfl rfl rfl) ?_ | refine zAG rfl rfl rfl rfl rfl rfl rfl (by first | assumption | (show _ < List.length _; first | assumption | omega)) ?_)
 refine zAk [none, none, none, some ⟨35, .box poZ⟩, none, none, some ⟨3, .ints .i64 C2⟩, some ⟨3, .ints .i64 A1⟩, some ⟨3, .ints .i64 b⟩, some ⟨35, .box [.sl 6 0 cs.length, .sl 7 0 a.length, .sl 8 0 b.length, .int .i64 0, .int .i64 qt]⟩] (by rw [← hC2]; rfl) ?_
 apply z8 (H := [none, none, none, some ⟨35, .box poZ⟩, none, none, some ⟨3, .ints .i64 C2⟩, some ⟨3, .ints .i64 A2⟩, some ⟨3, .ints .i64 b⟩, some ⟨35, .box [.sl 6 0 cs.length, .sl 7 0 a.length, .sl 8 0 b.length, .int .i64 0, .int .i64 qt]⟩]) [(3, .rp (.box (ruC r)) 0 0), (4, .rp (.box [zt cs, zt a, zt b, .int .i64 0, .int .i64 qt]) 0 0), (5, .rp (.box (mvC m)) 0 0), (6, .ptr 3 0 0), (7, .ptr 9 0 0), (8, .int .i64 took)]
 ·intro fin
  refine zi J J (fun f1 => ?_) (fun f1 => ?_)
  ·have f1 : 0 < took := f1
   refine zAv ?_
   refine zAH J (fun f2 => ?_) (fun f2 => ?_)
   ·rw [if_pos ⟨f1, f2⟩] at hA2
    have hKl : zAT took < A1.length := by have := htK (by omega); omega
    have hKl2 : zAT took < (Cells.ints .i64 A1).len := hKl
    have hKC : (took - 1) / 2 = ((zAT took : Nat) : Int) := by unfold zAT; rw [Int.tdiv_eq_ediv_of_nonneg (by omega)]; omega
    have hKin := hA1in (zAT took)
    generalize zAT took = K at hA2 hKl hKl2 hKC hKin
    refine zY ?_
    repeat (first | refine zA (zF rfl) ?_ | refine zA (zO rfl) ?_ | refine zC ?_ | refine zB ?_ | refine zK rfl ?_ | refine zA (zBD rfl rfl (by omega)) ?_ | refine zA (zHG rfl rfl (by omega)) ?_)
    refine zBj 9 (iN K) J (AEq.of_eq (by rw [hKC])) ?_
    refine zf (by kernel_rfl) ?_
    refine zl (fuel := 1) [0, 1, 2, 3, 4, 5, 6, 7, 8, 9, 10, 11, 12, 13, 14, 15, 16] [(3, .rp (.box (ruC r)) 0 0), (4, .rp (.box [zt cs, zt a, zt b, .int .i64 0, .int .i64 qt]) 0 0), (5, .rp (.box (mvC m)) 0 0), (6, .ptr 3 0 0), (7, .ptr 9 0 0), (8, .int .i64 took), (9, iN K)] ⟨J, J, J, J, J, J, J, trivial⟩ (by kernel_rfl) (by decide) J J ?_
    refine zJ J J (zI J J J J J J) ?_
    refine zJ J J (zD J J J J) ?_
    refine zJ J J (zM J J J J J J) ?_
    refine zJ J J (zAZ J J J J J (by show (0 : Int) ≤ 0 ∧ (0 : Int) < 2; decide)) ?_
    refine zJ J J (zT J J J J J) ?_
    refine zJ J J (zF J) ?_
    refine zJ J J (zI J J J J J J) ?_
    refine zJ J J (zD J J J J) ?_
    refine zJ J J (zM J J J J J J) ?_
    refine zJ J J (zAZ J J J J J (by show (0 : Int) ≤ 0 ∧ (0 : Int) < 2; decide)) ?_
    refine zJ J J (zT J J J J J) ?_
    refine zJ J J (zF J) ?_
    refine zJ J J (zj J J J J J (by first | (simp only [Nat.zero_add, Int.toNat_natCast, Int.toNat_zero]; exact J) | exact J) (by omega)) ?_
    refine zJ J J (zAy J J J J (by first | assumption | omega)) ?_
    refine zJ J J (zA1 J J (by omega)) ?_
    refine zJ J J (zKc J J) ?_
    refine zJ J J (zj J J J J J (by first | (simp only [Nat.zero_add, Int.toNat_natCast, Int.toNat_zero]; exact J) | exact J) (by omega)) ?_
    refine zr ?_
    refine zG (is := [17]) (by kernel_rfl) (by simp) J ⟨fun o ho => ?_, trivial⟩
    all_goals (cases ho)
    refine rn7 ?_
    refine zX (by kernel_rfl) ?_
    repeat (refine zB ?_)
    have e : (if A1.getD K 0 + 1 ≤ 1000 then A1.getD K 0 + 1 else (1000 : Int)) = (if 1000 < A1.getD K 0 + 1 then 1000 else A1.getD K 0 + 1) := by split <;> split <;> omega
    refine zAi [none, none, none, some ⟨35, .box poZ⟩, none, none, some ⟨3, .ints .i64 C2⟩, some ⟨3, .ints .i64 A2⟩, some ⟨3, .ints .i64 b⟩, some ⟨35, .box [.sl 6 0 cs.length, .sl 7 0 a.length, .sl 8 0 b.length, .int .i64 0, .int .i64 qt]⟩] (by rw [← hA2, Int.min_def, e]; rfl) ?_
    exact fin _ ⟨J, J, J, J, J, J, trivial⟩
   ·rw [if_neg (fun q => by rw [f2] at q; exact Bool.false_ne_true q.2)] at hA2
    subst hA2
    refine zEk ?_
    exact fin _ ⟨J, J, J, J, J, J, trivial⟩
  ·have f1 : ¬ 0 < took := f1
   rw [if_neg (fun q => f1 q.1)] at hA2
   subst hA2
   refine zEk ?_
   exact fin _ ⟨J, J, J, J, J, J, trivial⟩
 repeat (first | refine zA (zF rfl) ?_ | refine zC ?_ | refine zB ?_ | refine zY ?_ | refine zK rfl ?_ | refine zA (zCX rfl rfl) ?_ | refine zA (zA1 rfl rfl (by omega)) ?_ | refine zA (zD rfl rfl rfl rfl) ?_ | refine zA (zKc rfl rfl) ?_ | refine zA (zM rfl rfl rfl rfl rfl rfl) ?_ | refine zA (zI rfl rfl rfl rfl rfl rfl) ?_ | refine zAG rfl rfl rfl rfl rfl rfl rfl Nat.zero_lt_one ?_)
 refine zAk [none, none, none, some ⟨35, .box poZ⟩, none, none, some ⟨3, .ints .i64 C2⟩, some ⟨3, .ints .i64 A2⟩, some ⟨3, .ints .i64 b⟩, some ⟨35, .box [.sl 6 0 cs.length, .sl 7 0 a.length, .sl 8 0 b.length, .int .i64 0, .int .i64 (if 200 < qt + 1 then 200 else qt + 1)]⟩] J ?_
 apply z8 (H := [none, none, none, some ⟨35, .box poZ⟩, none, none, some ⟨3, .ints .i64 C2⟩, some ⟨3, .ints .i64 A2⟩, some ⟨3, .ints .i64 b⟩, some ⟨35, .box [.sl 6 0 cs.length, .sl 7 0 a.length, .sl 8 0 b.length, .int .i64 0, .int .i64 q3]⟩]) [(3, .rp (.box (ruC r)) 0 0), (4, .rp (.box [zt cs, zt a, zt b, .int .i64 0, .int .i64 qt]) 0 0), (5, .rp (.box (mvC m)) 0 0), (6, .ptr 3 0 0), (7, .ptr 9 0 0), (8, .int .i64 took)]
 ·intro fin
  refine zi J J (fun f1 => ?_) (fun f1 => ?_)
  ·have f1 : 0 < took := f1
   rw [if_pos (.inl f1)] at hq3
   subst hq3
   repeat (first | refine zC ?_ | refine zB ?_ | refine zK rfl ?_ | refine zAP rfl rfl rfl ?_ | refine zAQ rfl ?_ | refine zA (zb rfl rfl) ?_ | refine zA (zM rfl rfl rfl rfl rfl rfl) ?_ | refine zAG rfl rfl rfl rfl rfl rfl rfl Nat.zero_lt_one ?_)
   exact fin _ ⟨J, J, J, J, J, J, trivial⟩
  ·have f1 : ¬ 0 < took := f1
   repeat (first | refine zC ?_ | refine zB ?_ | refine zp rfl rfl ?_ | refine zA (zBs rfl rfl) ?_ | refine zA (zb rfl rfl) ?_ | refine zA (zD rfl rfl rfl rfl) ?_ | refine zA (zI rfl rfl rfl rfl rfl rfl) ?_)
   refine zH J (fun f2 => ?_) (fun f2 => ?_)
   ·have f2 : m.fr < 0 := f2
    rw [if_pos (.inr f2)] at hq3
    subst hq3
    repeat (first | refine zC ?_ | refine zB ?_ | refine zK rfl ?_ | refine zA (zM rfl rfl rfl rfl rfl rfl) ?_ | refine zAG rfl rfl rfl rfl rfl rfl rfl Nat.zero_lt_one ?_)
    exact fin _ ⟨J, J, J, J, J, J, trivial⟩
   ·have f2 : ¬ m.fr < 0 := f2
    rw [if_neg (fun q => q.elim f1 f2)] at hq3
    refine zEk ?_
    have e : (if 200 < qt + 1 then (200 : Int) else qt + 1) = q3 := by
     rw [← hq3, Int.min_def]
     split <;> split <;> omega
    refine zAi [none, none, none, some ⟨35, .box poZ⟩, none, none, some ⟨3, .ints .i64 C2⟩, some ⟨3, .ints .i64 A2⟩, some ⟨3, .ints .i64 b⟩, some ⟨35, .box [.sl 6 0 cs.length, .sl 7 0 a.length, .sl 8 0 b.length, .int .i64 0, .int .i64 q3]⟩] (by rw [e]) ?_
    exact fin _ ⟨J, J, J, J, J, J, trivial⟩
 repeat (first | refine zC ?_ | refine zB ?_ | refine zY ?_ | refine zK rfl ?_ | refine zA (zBD rfl rfl (by omega)) ?_ | refine zA (zD rfl rfl rfl rfl) ?_ | refine zA (zM rfl rfl rfl rfl rfl rfl) ?_ | refine zA (zI rfl rfl rfl rfl rfl rfl) ?_ | refine zA (qpp rfl rfl rfl rfl rfl rfl rfl) ?_ | refine zAG rfl rfl rfl rfl rfl rfl rfl Nat.zero_lt_one ?_)
 have hA2l : A2.length = a.length := by rw [← hA2]; split <;> simp [hA1l]
 have hmk : zAY r ⟨cs, a, b, 0, qt⟩ m = ⟨C2, A2, b, 1 - 0, q3⟩ := by
  have e : zAY r ⟨cs, a, b, 0, qt⟩ m = ⟨(if 0 ≤ m.fr then cs.set m.fr.toNat 0 else cs).set m.to.toNat (2 * m.pc + 0 + 1), (if 0 < zAD ⟨cs, a, b, 0, qt⟩ m.to.toNat ∧ r.keeps = true then (if 0 ≤ m.fr then a else a.set m.pc.toNat (a.getD m.pc.toNat 0 - 1)).set (zAT (zAD ⟨cs, a, b, 0, qt⟩ m.to.toNat)) (min ((if 0 ≤ m.fr then a else a.set m.pc.toNat (a.getD m.pc.toNat 0 - 1)).getD (zAT (zAD ⟨cs, a, b, 0, qt⟩ m.to.toNat)) 0 + 1) 1000) else (if 0 ≤ m.fr then a else a.set m.pc.toNat (a.getD m.pc.toNat 0 - 1))), b, 1 - 0, if 0 < zAD ⟨cs, a, b, 0, qt⟩ m.to.toNat ∨ m.fr < 0 then 0 else min (qt + 1) 200⟩ := rfl
  rw [e, htk2, hC1, hA1, hC2, hA2, hq3]
 refine zV [.sl 6 0 cs.length, .sl 7 0 a.length, .sl 8 0 b.length, .int .i64 (1 - 0), .int .i64 q3] J J J J J J J ?_
 refine rn7 ?_
 refine zA3 [none, none, none, none, none, none, some ⟨3, .ints .i64 C2⟩, some ⟨3, .ints .i64 A2⟩, some ⟨3, .ints .i64 b⟩, none] [none, none, none, some ⟨35, .box [.ro (.ints .i64 C2) 0 cs.length, .ro (.ints .i64 A2) 0 a.length, .ro (.ints .i64 b) 0 b.length, .int .i64 (1 - 0), .int .i64 q3]⟩, none, none, none, none, none, none] [(6, .ptr 3 0 0)] ?_ (zCL (zCL (zCL (zCL (zCL (zCL (zCK zAL (zCK zAL (zCK zAL (zCL zCj)))))))))) J ?_ (zB4 ⟨J, trivial⟩) ?_
 ·intro h o ho
  match h, ho with
  | 0, ho => simp at ho
  | 1, ho => simp at ho
  | 2, ho => simp at ho
  | 3, ho => simp at ho
  | 4, ho => simp at ho
  | 5, ho => simp at ho
  | 6, ho => exact ho
  | 7, ho => exact ho
  | 8, ho => exact ho
  | 9, ho => simp at ho
  | _ + 10, ho => simp at ho
 ·intro h o ho
  match h, ho with
  | 0, ho => simp at ho
  | 1, ho => simp at ho
  | 2, ho => simp at ho
  | 3, ho =>
   cases ho
   refine ⟨fun o h => by simp at h, ⟨35, .box [.sl 6 0 cs.length, .sl 7 0 a.length, .sl 8 0 b.length, .int .i64 (1 - 0), .int .i64 q3]⟩, J, J, J, J, fun i j hi hj => ?_⟩
   obtain rfl : i = 0 := Nat.lt_one_iff.1 hi
   have hj : j < 5 := hj
   match j, hj with
   | 0, _ => exact .inr (.inr ⟨rfl, fun o ho => by cases ho; show 0 + cs.length ≤ C2.length; omega⟩)
   | 1, _ => exact .inr (.inr ⟨rfl, fun o ho => by cases ho; show 0 + a.length ≤ A2.length; omega⟩)
   | 2, _ => exact .inr (.inr ⟨rfl, fun o ho => by cases ho; show 0 + b.length ≤ b.length; omega⟩)
   | 3, _ => exact .inl rfl
   | 4, _ => exact .inl rfl
  | 4, ho => simp at ho
  | 5, ho => simp at ho
  | 6, ho => simp at ho
  | 7, ho => simp at ho
  | 8, ho => simp at ho
  | 9, ho => simp at ho
  | _ + 10, ho => simp at ho
 repeat (refine z7 ?_)
 refine zN hR J ?_
 rw [hmk]
 show AV.agg [.ro (.ints .i64 C2) 0 cs.length, .ro (.ints .i64 A2) 0 a.length, .ro (.ints .i64 b) 0 b.length, .int .i64 (1 - 0), .int .i64 q3] = AV.agg [zt C2, zt A2, zt b, .int .i64 (1 - 0), .int .i64 q3]
 unfold zt
 rw [hC2l, hA2l]
/-- moves.Make, player 1 -/
theorem make1_ok (r : Go.Ax.Gm.Rules) (hv : ValidR r) (cs a b : List Int) (qt : Int) (S : Sound r ⟨cs, b, a, 1, qt⟩) (m : Mv) (hm : MvOK r ⟨cs, b, a, 1, qt⟩ m) : zn Tryz.prog 67 [ruA r, poA ⟨cs, b, a, 1, qt⟩, mvA m] (poA (zAY r ⟨cs, b, a, 1, qt⟩ m)) := by
 refine zd.value0 (zL (P := Tryz.prog) (fn := Tryz.f67) J J (by kernel_rfl) J (fun c hR hfix => ?_)) (fix := fun _ => False) (fun _ h => h) J J
 have SP := zAt hv S
 have hcc : cs.length ≤ 64 := SP.c
 have hcl : (cs.length : Int) = r.w * r.h := S.cl
 have hal : a.length = r.pcs.length := S.l1
 have hn6 := hv.n6
 have hqt : 0 ≤ qt ∧ qt ≤ 200 := S.qt
 have hain : ∀ n ∈ a, 0 ≤ n ∧ n ≤ 1000 := S.c1
 have hC12 := fun s => zHl hv S s
 have hKlt := fun s => zEN S s
 obtain ⟨m1, m2, m3, m4, m5⟩ := hm
 have m2 : m.to.toNat < cs.length := m2
 have m4 : m.pc.toNat < a.length := by omega
 have m5 : (m.fr = -1 ∧ 0 < a.getD m.pc.toNat 0) ∨ (0 ≤ m.fr ∧ m.fr.toNat < cs.length) := m5
 have hapc := hain _ (zAp 0 m4)
 refine zY ?_
 repeat (first | refine zC ?_ | refine zB ?_ | refine zK rfl ?_ | refine zAn rfl rfl ?_ | refine zAN rfl rfl rfl ?_)
 refine zA3 [some ⟨26, .box (ruC r)⟩, some ⟨35, .box (poC ⟨cs, b, a, 1, qt⟩)⟩, some ⟨58, .box (mvC m)⟩, none] [none, none, none, some ⟨35, .box poZ⟩] [(3, .rp (.box (ruC r)) 0 0), (4, .rp (.box [zt cs, zt b, zt a, .int .i64 1, .int .i64 qt]) 0 0), (5, .rp (.box (mvC m)) 0 0), (6, .ptr 3 0 0)] ?_ (zCK (zz rfl) (zCK (zz rfl) (zCK (zz rfl) (zCL zCj)))) rfl ?_ ⟨⟨.ptr 0 0 0, rfl, .inr (.inr ⟨rfl, fun o ho => by cases ho; exact Nat.zero_lt_one⟩)⟩, ⟨.ptr 1 0 0, rfl, .inr (.inr ⟨rfl, fun o ho => by cases ho; exact Nat.zero_lt_one⟩)⟩, ⟨.ptr 2 0 0, rfl, .inr (.inr ⟨rfl, fun o ho => by cases ho; exact Nat.zero_lt_one⟩)⟩, ⟨_, rfl, .inl rfl⟩, trivial⟩ ?_
 ·intro h o ho
  match h, ho with
  | 0, ho => exact ho
  | 1, ho => exact ho
  | 2, ho => exact ho
  | 3, ho => simp at ho
  | _ + 4, ho => simp at ho
 ·intro h o ho
  match h, ho with
  | 0, ho => simp at ho
  | 1, ho => simp at ho
  | 2, ho => simp at ho
  | 3, ho => cases ho; exact ⟨fun o h => by simp at h, _, rfl, rfl, rfl, rfl, fun _ _ _ _ => .inl rfl⟩
  | _ + 4, ho => simp at ho
 refine rn6 ?_
 refine zJz (.agg (poS ⟨cs, b, a, 1, qt⟩ 6)) [none, none, none, some ⟨35, .box poZ⟩, some ⟨35, .box (poS ⟨cs, b, a, 1, qt⟩ 6)⟩, some ⟨35, .box (poS ⟨cs, b, a, 1, qt⟩ 6)⟩, some ⟨3, .ints .i64 cs⟩, some ⟨3, .ints .i64 b⟩, some ⟨3, .ints .i64 a⟩] J J J (zKB _ SP) J J ?_
 repeat (refine zAN rfl rfl rfl ?_)
 refine zV (poS ⟨cs, b, a, 1, qt⟩ 6) J J J J J J J ?_
 refine zA7 [none, none, none, some ⟨35, .box poZ⟩, none, none, some ⟨3, .ints .i64 cs⟩, some ⟨3, .ints .i64 b⟩, some ⟨3, .ints .i64 a⟩, some ⟨35, .box [.sl 6 0 cs.length, .sl 7 0 b.length, .sl 8 0 a.length, .int .i64 1, .int .i64 qt]⟩] (zA2.drop (zA2.drop (zA2.drop (zA2.eqv (CEq.refl _) (zA2.drop (zA2.drop (zA2.refl _))))))) ?_
 repeat (first | refine zA (zO rfl) ?_ | refine zC ?_ | refine zB ?_ | refine zY ?_ | refine zK rfl ?_ | refine zA (zT rfl rfl rfl rfl rfl) ?_ | refine zA (zDb rfl rfl) ?_ | refine zA (zj rfl rfl rfl rfl rfl (by first | (simp only [Nat.zero_add, Int.toNat_natCast, Int.toNat_zero]; exact rfl) | exact rfl) (by omega)) ?_ | refine zA (zAy rfl rfl rfl rfl (by first | assumption | omega)) ?_ | refine zA (zD rfl rfl rfl rfl) ?_ | refine zA (zM rfl rfl rfl rfl rfl rfl) ?_ | refine zA (zI rfl rfl rfl rfl rfl rfl) ?_)
 obtain ⟨took, htk⟩ : ∃ took, cs.getD m.to.toNat 0 = took := ⟨_, rfl⟩
 have htk2 : zAD ⟨cs, b, a, 1, qt⟩ m.to.toNat = took := htk
 have ht12 := hC12 m.to.toNat
 have htK : took ≠ 0 → zAT took < r.pcs.length := fun q => by
  have h := hKlt m.to.toNat
  rw [htk2] at h
  exact zFQ q h.1 h.2
 rw [htk2] at ht12
 obtain ⟨C1, hC1⟩ : ∃ C1, (if 0 ≤ m.fr then cs.set m.fr.toNat 0 else cs) = C1 := ⟨_, rfl⟩
 obtain ⟨A1, hA1⟩ : ∃ A1, (if 0 ≤ m.fr then a else a.set m.pc.toNat (a.getD m.pc.toNat 0 - 1)) = A1 := ⟨_, rfl⟩
 have hC1l : C1.length = cs.length := by rw [← hC1]; split <;> simp
 have hA1l : A1.length = a.length := by rw [← hA1]; split <;> simp
 have hA1in : ∀ i, -1 ≤ A1.getD i 0 ∧ A1.getD i 0 ≤ 1000 := fun i => by
  rw [← hA1]
  split
  ·by_cases q : i < a.length
   ·have := hain _ (zAp 0 q); omega
   ·rw [List.getD, List.getElem?_eq_none (by omega)]; exact ⟨by decide, by decide⟩
  ·by_cases q : i < a.length
   ·by_cases q2 : m.pc.toNat = i
    ·rw [← q2, List.getD, List.getElem?_set_self m4]; show -1 ≤ a.getD m.pc.toNat 0 - 1 ∧ a.getD m.pc.toNat 0 - 1 ≤ 1000; omega
    ·rw [List.getD, List.getElem?_set_ne q2]; have := hain _ (zAp 0 q); rw [List.getD] at this; omega
   ·rw [List.getD, List.getElem?_eq_none (by rw [List.length_set]; omega)]; exact ⟨by decide, by decide⟩
 refine zBj 8 (.int .i64 took) J (AEq.of_eq (by rw [← htk])) ?_
 apply z8 (H := [none, none, none, some ⟨35, .box poZ⟩, none, none, some ⟨3, .ints .i64 C1⟩, some ⟨3, .ints .i64 b⟩, some ⟨3, .ints .i64 A1⟩, some ⟨35, .box [.sl 6 0 cs.length, .sl 7 0 b.length, .sl 8 0 a.length, .int .i64 1, .int .i64 qt]⟩]) [(3, .rp (.box (ruC r)) 0 0), (4, .rp (.box [zt cs, zt b, zt a, .int .i64 1, .int .i64 qt]) 0 0), (5, .rp (.box (mvC m)) 0 0), (6, .ptr 3 0 0), (7, .ptr 9 0 0), (8, .int .i64 took)]
 ·intro fin
  refine zH J (fun f1 => ?_) (fun f1 => ?_)
  ·have f1 : 0 ≤ m.fr := f1
   rw [if_pos f1] at hC1 hA1
   have f2 : m.fr.toNat < cs.length := by rcases m5 with q | q; omega; exact q.2
   subst hC1 hA1
   repeat (first | refine zC ?_ | refine zB ?_ | refine zK rfl ?_ | refine zA (zT rfl rfl rfl rfl rfl) ?_ | refine zA (zj rfl rfl rfl rfl rfl (by first | (simp only [Nat.zero_add, Int.toNat_natCast, Int.toNat_zero]; exact rfl) | exact rfl) (by omega)) ?_ | refine zA (zD rfl rfl rfl rfl) ?_ | refine zA (zM rfl rfl rfl rfl rfl rfl) ?_ | refine zA (zI rfl rfl rfl rfl rfl rfl) ?_ | refine zAG rfl rfl rfl rfl rfl rfl rfl (by first | assumption | (show _ < List.length _; first | assumption | omega)) ?_)
   exact fin _ ⟨J, J, J, J, J, J, trivial⟩
  ·have f1 : ¬ 0 ≤ m.fr := f1
   rw [if_neg f1] at hC1 hA1
   subst hC1 hA1
   skip
   refine zf (by kernel_rfl) ?_
   refine zl (fuel := 1) [0, 1, 2, 3, 4, 5, 6, 7, 8, 9, 10] [(3, .rp (.box (ruC r)) 0 0), (4, .rp (.box [zt cs, zt b, zt a, .int .i64 1, .int .i64 qt]) 0 0), (5, .rp (.box (mvC m)) 0 0), (6, .ptr 3 0 0), (7, .ptr 9 0 0), (8, .int .i64 took)] ⟨J, J, J, J, J, J, trivial⟩ (by kernel_rfl) (by decide) J J ?_
   refine zJ J J (zI J J J J J J) ?_
   refine zJ J J (zD J J J J) ?_
   refine zJ J J (zM J J J J J J) ?_
   refine zJ J J (zAZ J J J J J (by show (0 : Int) ≤ 1 ∧ (1 : Int) < 2; decide)) ?_
   refine zJ J J (zT J J J J J) ?_
   refine zJ J J (zI J J J J J J) ?_
   refine zJ J J (zD J J J J) ?_
   refine zJ J J (zj J J J J J (by first | (simp only [Nat.zero_add, Int.toNat_natCast, Int.toNat_zero]; exact J) | exact J) (by omega)) ?_
   refine zJ J J (zAy J J J J (by first | assumption | omega)) ?_
   refine zJ J J (zBD J J (by omega)) ?_
   refine zJ J J (zj J J J J J (by first | (simp only [Nat.zero_add, Int.toNat_natCast, Int.toNat_zero]; exact J) | exact J) (by omega)) ?_
   refine zr ?_
   refine zG (is := [11]) (by kernel_rfl) (by simp) J ⟨fun o ho => ?_, trivial⟩
   all_goals (cases ho)
   refine rn7 ?_
   refine zX (by kernel_rfl) ?_
   repeat (refine zB ?_)
   exact fin _ ⟨J, J, J, J, J, J, trivial⟩
 obtain ⟨C2, hC2⟩ : ∃ C2, C1.set m.to.toNat (2 * m.pc + 1 + 1) = C2 := ⟨_, rfl⟩
 have hC2l : C2.length = cs.length := by rw [← hC2, List.length_set, hC1l]
 obtain ⟨A2, hA2⟩ : ∃ A2, (if 0 < took ∧ r.keeps = true then A1.set (zAT took) (min (A1.getD (zAT took) 0 + 1) 1000) else A1) = A2 := ⟨_, rfl⟩
 have hmt : m.to.toNat < C1.length := by omega
 have hmt2 : m.to.toNat < (Cells.ints .i64 C1).len := hmt
 obtain ⟨q3, hq3⟩ : ∃ q3, (if 0 < took ∨ m.fr < 0 then 0 else min (qt + 1) 200) = q3 := ⟨_, rfl⟩
 repeat (first | refine zY ?_ | refine zK rfl ?_ | refine zA (zT rfl rfl rfl rfl rfl) ?_ | refine zA (zD rfl rfl rfl rfl) ?_ | refine zA (zM rfl rfl rfl rfl rfl rfl) ?_ | refine zA (zI rfl rfl rfl rfl rfl rfl) ?_)
 refine zA (zCi J J (by omega)) ?_
 repeat (first | refine zA (zF rfl) ?_ | refine zC ?_ | refine zB ?_ | refine zY ?_ | refine zK rfl ?_ | refine zA (zCX rfl rfl) ?_ | refine zA (zA1 rfl rfl (by omega)) ?_ | refine zA (zj rfl rfl rfl rfl rfl (by first | (simp only [Nat.zero_add, Int.toNat_natCast, Int.toNat_zero]; exact rfl) | exact rfl) (by omega)) ?_ | refine zA (zD rfl rfl rfl rfl) ?_ | refine zA (zI rfl rfl rfl rfl rfl rfl) ?_ | refine zAG rfl rfl rfl rfl rfl rfl rfl (by first | assumption | (show _ < List.length _; first | assumption | omega)) ?_)
 refine zAk [none, none, none, some ⟨35, .box poZ⟩, none, none, some ⟨3, .ints .i64 C2⟩, some ⟨3, .ints .i64 b⟩, some ⟨3, .ints .i64 A1⟩, some ⟨35, .box [.sl 6 0 cs.length, .sl 7 0 b.length, .sl 8 0 a.length, .int .i64 1, .int .i64 qt]⟩] (by rw [← hC2]; rfl) ?_
 apply z8 (H := [none, none, none, some ⟨35, .box poZ⟩, none, none, some ⟨3, .ints .i64 C2⟩, some ⟨3, .ints .i64 b⟩, some ⟨3, .ints .i64 A2⟩, some ⟨35, .box [.sl 6 0 cs.length, .sl 7 0 b.length, .sl 8 0 a.length, .int .i64 1, .int .i64 qt]⟩]) [(3, .rp (.box (ruC r)) 0 0), (4, .rp (.box [zt cs, zt b, zt a, .int .i64 1, .int .i64 qt]) 0 0), (5, .rp (.box (mvC m)) 0 0), (6, .ptr 3 0 0), (7, .ptr 9 0 0), (8, .int .i64 took)]
 ·intro fin
  refine zi J J (fun f1 => ?_) (fun f1 => ?_)
  ·have f1 : 0 < took := f1
   refine zAv ?_
   refine zAH J (fun f2 => ?_) (fun f2 => ?_)
   ·rw [if_pos ⟨f1, f2⟩] at hA2
    have hKl : zAT took < A1.length := by have := htK (by omega); omega
    have hKl2 : zAT took < (Cells.ints .i64 A1).len := hKl
    have hKC : (took - 1) / 2 = ((zAT took : Nat) : Int) := by unfold zAT; rw [Int.tdiv_eq_ediv_of_nonneg (by omega)]; omega
    have hKin := hA1in (zAT took)
    generalize zAT took = K at hA2 hKl hKl2 hKC hKin
    refine zY ?_
    repeat (first | refine zA (zF rfl) ?_ | refine zA (zO rfl) ?_ | refine zC ?_ | refine zB ?_ | refine zK rfl ?_ | refine zA (zBD rfl rfl (by omega)) ?_ | refine zA (zHG rfl rfl (by omega)) ?_)
    refine zBj 9 (iN K) J (AEq.of_eq (by rw [hKC])) ?_
    refine zf (by kernel_rfl) ?_
    refine zl (fuel := 1) [0, 1, 2, 3, 4, 5, 6, 7, 8, 9, 10, 11, 12, 13, 14, 15, 16] [(3, .rp (.box (ruC r)) 0 0), (4, .rp (.box [zt cs, zt b, zt a, .int .i64 1, .int .i64 qt]) 0 0), (5, .rp (.box (mvC m)) 0 0), (6, .ptr 3 0 0), (7, .ptr 9 0 0), (8, .int .i64 took), (9, iN K)] ⟨J, J, J, J, J, J, J, trivial⟩ (by kernel_rfl) (by decide) J J ?_
    refine zJ J J (zI J J J J J J) ?_
    refine zJ J J (zD J J J J) ?_
    refine zJ J J (zM J J J J J J) ?_
    refine zJ J J (zAZ J J J J J (by show (0 : Int) ≤ 1 ∧ (1 : Int) < 2; decide)) ?_
    refine zJ J J (zT J J J J J) ?_
    refine zJ J J (zF J) ?_
    refine zJ J J (zI J J J J J J) ?_
    refine zJ J J (zD J J J J) ?_
    refine zJ J J (zM J J J J J J) ?_
    refine zJ J J (zAZ J J J J J (by show (0 : Int) ≤ 1 ∧ (1 : Int) < 2; decide)) ?_
    refine zJ J J (zT J J J J J) ?_
    refine zJ J J (zF J) ?_
    refine zJ J J (zj J J J J J (by first | (simp only [Nat.zero_add, Int.toNat_natCast, Int.toNat_zero]; exact J) | exact J) (by omega)) ?_
    refine zJ J J (zAy J J J J (by first | assumption | omega)) ?_
    refine zJ J J (zA1 J J (by omega)) ?_
    refine zJ J J (zKc J J) ?_
    refine zJ J J (zj J J J J J (by first | (simp only [Nat.zero_add, Int.toNat_natCast, Int.toNat_zero]; exact J) | exact J) (by omega)) ?_
    refine zr ?_
    refine zG (is := [17]) (by kernel_rfl) (by simp) J ⟨fun o ho => ?_, trivial⟩
    all_goals (cases ho)
    refine rn7 ?_
    refine zX (by kernel_rfl) ?_
    repeat (refine zB ?_)
    have e : (if A1.getD K 0 + 1 ≤ 1000 then A1.getD K 0 + 1 else (1000 : Int)) = (if 1000 < A1.getD K 0 + 1 then 1000 else A1.getD K 0 + 1) := by split <;> split <;> omega
    refine zAi [none, none, none, some ⟨35, .box poZ⟩, none, none, some ⟨3, .ints .i64 C2⟩, some ⟨3, .ints .i64 b⟩, some ⟨3, .ints .i64 A2⟩, some ⟨35, .box [.sl 6 0 cs.length, .sl 7 0 b.length, .sl 8 0 a.length, .int .i64 1, .int .i64 qt]⟩] (by rw [← hA2, Int.min_def, e]; rfl) ?_
    exact fin _ ⟨J, J, J, J, J, J, trivial⟩
   ·rw [if_neg (fun q => by rw [f2] at q; exact Bool.false_ne_true q.2)] at hA2
    subst hA2
    refine zEk ?_
    exact fin _ ⟨J, J, J, J, J, J, trivial⟩
  ·have f1 : ¬ 0 < took := f1
   rw [if_neg (fun q => f1 q.1)] at hA2
   subst hA2
   refine zEk ?_
   exact fin _ ⟨J, J, J, J, J, J, trivial⟩
 repeat (first | refine zA (zF rfl) ?_ | refine zC ?_ | refine zB ?_ | refine zY ?_ | refine zK rfl ?_ | refine zA (zCX rfl rfl) ?_ | refine zA (zA1 rfl rfl (by omega)) ?_ | refine zA (zD rfl rfl rfl rfl) ?_ | refine zA (zKc rfl rfl) ?_ | refine zA (zM rfl rfl rfl rfl rfl rfl) ?_ | refine zA (zI rfl rfl rfl rfl rfl rfl) ?_ | refine zAG rfl rfl rfl rfl rfl rfl rfl Nat.zero_lt_one ?_)
 refine zAk [none, none, none, some ⟨35, .box poZ⟩, none, none, some ⟨3, .ints .i64 C2⟩, some ⟨3, .ints .i64 b⟩, some ⟨3, .ints .i64 A2⟩, some ⟨35, .box [.sl 6 0 cs.length, .sl 7 0 b.length, .sl 8 0 a.length, .int .i64 1, .int .i64 (if 200 < qt + 1 then 200 else qt + 1)]⟩] J ?_
 apply z8 (H := [none, none, none, some ⟨35, .box poZ⟩, none, none, some ⟨3, .ints .i64 C2⟩, some ⟨3, .ints .i64 b⟩, some ⟨3, .ints .i64 A2⟩, some ⟨35, .box [.sl 6 0 cs.length, .sl 7 0 b.length, .sl 8 0 a.length, .int .i64 1, .int .i64 q3]⟩]) [(3, .rp (.box (ruC r)) 0 0), (4, .rp (.box [zt cs, zt b, zt a, .int .i64 1, .int .i64 qt]) 0 0), (5, .rp (.box (mvC m)) 0 0), (6, .ptr 3 0 0), (7, .ptr 9 0 0), (8, .int .i64 took)]
 ·intro fin
  refine zi J J (fun f1 => ?_) (fun f1 => ?_)
  ·have f1 : 0 < took := f1
   rw [if_pos (.inl f1)] at hq3
   subst hq3
   repeat (first | refine zC ?_ | refine zB ?_ | refine zK rfl ?_ | refine zAP rfl rfl rfl ?_ | refine zAQ rfl ?_ | refine zA (zb rfl rfl) ?_ | refine zA (zM rfl rfl rfl rfl rfl rfl) ?_ | refine zAG rfl rfl rfl rfl rfl rfl rfl Nat.zero_lt_one ?_)
   exact fin _ ⟨J, J, J, J, J, J, trivial⟩
  ·have f1 : ¬ 0 < took := f1
   repeat (first | refine zC ?_ | refine zB ?_ | refine zp rfl rfl ?_ | refine zA (zBs rfl rfl) ?_ | refine zA (zb rfl rfl) ?_ | refine zA (zD rfl rfl rfl rfl) ?_ | refine zA (zI rfl rfl rfl rfl rfl rfl) ?_)
   refine zH J (fun f2 => ?_) (fun f2 => ?_)
   ·have f2 : m.fr < 0 := f2
    rw [if_pos (.inr f2)] at hq3
    subst hq3
    repeat (first | refine zC ?_ | refine zB ?_ | refine zK rfl ?_ | refine zA (zM rfl rfl rfl rfl rfl rfl) ?_ | refine zAG rfl rfl rfl rfl rfl rfl rfl Nat.zero_lt_one ?_)
    exact fin _ ⟨J, J, J, J, J, J, trivial⟩
   ·have f2 : ¬ m.fr < 0 := f2
    rw [if_neg (fun q => q.elim f1 f2)] at hq3
    refine zEk ?_
    have e : (if 200 < qt + 1 then (200 : Int) else qt + 1) = q3 := by
     rw [← hq3, Int.min_def]
     split <;> split <;> omega
    refine zAi [none, none, none, some ⟨35, .box poZ⟩, none, none, some ⟨3, .ints .i64 C2⟩, some ⟨3, .ints .i64 b⟩, some ⟨3, .ints .i64 A2⟩, some ⟨35, .box [.sl 6 0 cs.length, .sl 7 0 b.length, .sl 8 0 a.length, .int .i64 1, .int .i64 q3]⟩] (by rw [e]) ?_
    exact fin _ ⟨J, J, J, J, J, J, trivial⟩
 repeat (first | refine zC ?_ | refine zB ?_ | refine zY ?_ | refine zK rfl ?_ | refine zA (zBD rfl rfl (by omega)) ?_ | refine zA (zD rfl rfl rfl rfl) ?_ | refine zA (zM rfl rfl rfl rfl rfl rfl) ?_ | refine zA (zI rfl rfl rfl rfl rfl rfl) ?_ | refine zA (qpp rfl rfl rfl rfl rfl rfl rfl) ?_ | refine zAG rfl rfl rfl rfl rfl rfl rfl Nat.zero_lt_one ?_)
 have hA2l : A2.length = a.length := by rw [← hA2]; split <;> simp [hA1l]
 have hmk : zAY r ⟨cs, b, a, 1, qt⟩ m = ⟨C2, b, A2, 1 - 1, q3⟩ := by
  have e : zAY r ⟨cs, b, a, 1, qt⟩ m = ⟨(if 0 ≤ m.fr then cs.set m.fr.toNat 0 else cs).set m.to.toNat (2 * m.pc + 1 + 1), b, (if 0 < zAD ⟨cs, b, a, 1, qt⟩ m.to.toNat ∧ r.keeps = true then (if 0 ≤ m.fr then a else a.set m.pc.toNat (a.getD m.pc.toNat 0 - 1)).set (zAT (zAD ⟨cs, b, a, 1, qt⟩ m.to.toNat)) (min ((if 0 ≤ m.fr then a else a.set m.pc.toNat (a.getD m.pc.toNat 0 - 1)).getD (zAT (zAD ⟨cs, b, a, 1, qt⟩ m.to.toNat)) 0 + 1) 1000) else (if 0 ≤ m.fr then a else a.set m.pc.toNat (a.getD m.pc.toNat 0 - 1))), 1 - 1, if 0 < zAD ⟨cs, b, a, 1, qt⟩ m.to.toNat ∨ m.fr < 0 then 0 else min (qt + 1) 200⟩ := rfl
  rw [e, htk2, hC1, hA1, hC2, hA2, hq3]
 refine zV [.sl 6 0 cs.length, .sl 7 0 b.length, .sl 8 0 a.length, .int .i64 (1 - 1), .int .i64 q3] J J J J J J J ?_
 refine rn7 ?_
 refine zA3 [none, none, none, none, none, none, some ⟨3, .ints .i64 C2⟩, some ⟨3, .ints .i64 b⟩, some ⟨3, .ints .i64 A2⟩, none] [none, none, none, some ⟨35, .box [.ro (.ints .i64 C2) 0 cs.length, .ro (.ints .i64 b) 0 b.length, .ro (.ints .i64 A2) 0 a.length, .int .i64 (1 - 1), .int .i64 q3]⟩, none, none, none, none, none, none] [(6, .ptr 3 0 0)] ?_ (zCL (zCL (zCL (zCL (zCL (zCL (zCK zAL (zCK zAL (zCK zAL (zCL zCj)))))))))) J ?_ (zB4 ⟨J, trivial⟩) ?_
 ·intro h o ho
  match h, ho with
  | 0, ho => simp at ho
  | 1, ho => simp at ho
  | 2, ho => simp at ho
  | 3, ho => simp at ho
  | 4, ho => simp at ho
  | 5, ho => simp at ho
  | 6, ho => exact ho
  | 7, ho => exact ho
  | 8, ho => exact ho
  | 9, ho => simp at ho
  | _ + 10, ho => simp at ho
 ·intro h o ho
  match h, ho with
  | 0, ho => simp at ho
  | 1, ho => simp at ho
  | 2, ho => simp at ho
  | 3, ho =>
   cases ho
   refine ⟨fun o h => by simp at h, ⟨35, .box [.sl 6 0 cs.length, .sl 7 0 b.length, .sl 8 0 a.length, .int .i64 (1 - 1), .int .i64 q3]⟩, J, J, J, J, fun i j hi hj => ?_⟩
   obtain rfl : i = 0 := Nat.lt_one_iff.1 hi
   have hj : j < 5 := hj
   match j, hj with
   | 0, _ => exact .inr (.inr ⟨rfl, fun o ho => by cases ho; show 0 + cs.length ≤ C2.length; omega⟩)
   | 1, _ => exact .inr (.inr ⟨rfl, fun o ho => by cases ho; show 0 + b.length ≤ b.length; omega⟩)
   | 2, _ => exact .inr (.inr ⟨rfl, fun o ho => by cases ho; show 0 + a.length ≤ A2.length; omega⟩)
   | 3, _ => exact .inl rfl
   | 4, _ => exact .inl rfl
  | 4, ho => simp at ho
  | 5, ho => simp at ho
  | 6, ho => simp at ho
  | 7, ho => simp at ho
  | 8, ho => simp at ho
  | 9, ho => simp at ho
  | _ + 10, ho => simp at ho
 repeat (refine z7 ?_)
 refine zN hR J ?_
 rw [hmk]
 show AV.agg [.ro (.ints .i64 C2) 0 cs.length, .ro (.ints .i64 b) 0 b.length, .ro (.ints .i64 A2) 0 a.length, .int .i64 (1 - 1), .int .i64 q3] = AV.agg [zt C2, zt b, zt A2, .int .i64 (1 - 1), .int .i64 q3]
 unfold zt
 rw [hC2l, hA2l]
/-- moves.Make -/
theorem zLn (r : Go.Ax.Gm.Rules) (hv : ValidR r) (p : Pos) (S : Sound r p) (m : Mv) (hm : MvOK r p m) : zn Tryz.prog 67 [ruA r, poA p, mvA m] (poA (zAY r p m)) := by
 obtain ⟨cs, h0, h1, turn, qt⟩ := p
 rcases S.tn with q | q
 ·have q : turn = 0 := q
  subst q
  exact make0_ok r hv cs h0 h1 qt S m hm
 ·have q : turn = 1 := q
  subst q
  exact make1_ok r hv cs h1 h0 qt S m hm
theorem zFP {r : Go.Ax.Gm.Rules} (hv : ValidR r) {p : Pos} (S : Sound r p) : zn Tryz.prog 86 [poA p] (.str (keyT p)) :=
 key_ok p (zAt hv S) S.tn (fun c hc => by have := S.cs c hc; have := hv.n6; omega) S.c0 S.c1
def zB6 (l : List Pos) : List AV := l.map (fun p => .str (keyT p))
def zCZ (n : Nat) : List AV := (List.range n).map (fun i : Nat => iN i)
abbrev zDE (nx : List (List Nat)) : Cells := zCa [] 1 (fun row : List Nat => [zt (row.map Int.ofNat)]) nx
abbrev tbC (r : Go.Ax.Gm.Rules) (l n : Nat) (e : AV) : List AV := [.str r.name, .int .i64 r.w, .int .i64 r.h, .ro (zAd r.pcs) 0 r.pcs.length, zt r.start, .bool r.falls, .bool r.keeps, .ro (zEv r.ends) 0 r.ends.length, .int .i64 r.blocked, .int .i64 r.quiet, .int .i64 r.rep, .sl 2 0 l, .sl 3 0 n, e, .mp 0]
abbrev zIW (r : Go.Ax.Gm.Rules) (l : List Pos) (nx : List (List Nat)) (L : List Int) : zP :=
 [some ⟨95, .mp (zB6 l) (zCZ l.length)⟩, some ⟨97, .box (tbC r l.length nx.length .nil)⟩, some ⟨35, zCq l⟩, some ⟨23, zDE nx⟩, some ⟨3, .ints .i64 L⟩]
theorem zCz (l : List Pos) : ∀ x ∈ zB6 l, zDl .str x = true := fun x hx => by
 obtain ⟨p, _, rfl⟩ := List.mem_map.1 hx
 rfl
theorem zMP {l : List Pos} {i : Nat} (h : i < l.length) : (zB6 l)[i]? = some (.str (keyT (l.getD i zo))) := by
 unfold zB6
 rw [List.getElem?_map, List.getElem?_eq_getElem h]; simp [List.getD, h]
theorem zG2 {n i : Nat} (h : i < n) : (zCZ n)[i]? = some (iN i) := by
 unfold zCZ
 rw [List.getElem?_map, List.getElem?_range h]; rfl
theorem zGt {l : List Pos} {p : Pos} (h : zBA l p < l.length) : (zB6 l)[zBA l p]? = some (.str (keyT p)) := by
 rw [zMP h, zJZ h]; rfl
theorem zE0 {r : Go.Ax.Gm.Rules} (hv : ValidR r) {l : List Pos} {p : Pos} (S : Sound r p) (G : ∀ q ∈ l, Sound r q ∧ q.quiet = 0) (h : ¬ zBA l p < l.length) : AV.str (keyT p) ∉ zB6 l := fun hm => by
 obtain ⟨q, hq, e⟩ := List.mem_map.1 hm
 have e := key_inj hv (G q hq).1 S (AV.str.inj e)
 rw [zJC (G q hq).2] at e
 exact idx_no h (e ▸ hq)
theorem zGn {n : Nat} : ∀ {l : List AV}, (∀ x ∈ l, zCG n x = true) → zBx n l = true
 | [], _ => rfl
 | x :: l, h => by
  show (zCG n x && zBx n l) = true
  rw [h x (List.mem_cons_self ..), zGn (fun y hy => h y (List.mem_cons_of_mem _ hy))]; rfl
theorem zH1 {n : Nat} (l : List Pos) (m : Nat) : zAz n (.mp (zB6 l) (zCZ m)) :=
 ⟨zGn (fun x hx => by obtain ⟨p, _, rfl⟩ := List.mem_map.1 hx; rfl), zGn (fun x hx => by obtain ⟨p, _, rfl⟩ := List.mem_map.1 hx; rfl)⟩
theorem zJG {n : Nat} (l : List Pos) : zAz n (zCq l) := fun i j _ hj => by
 have hj : j < 5 := hj
 match j, hj with
 | 0, _ => rfl
 | 1, _ => rfl
 | 2, _ => rfl
 | 3, _ => rfl
 | 4, _ => rfl
theorem zIL {n : Nat} (nx : List (List Nat)) : zAz n (zDE nx) := fun i j _ hj => by
 obtain rfl : j = 0 := Nat.lt_one_iff.1 hj
 rfl
theorem zIX (r : Go.Ax.Gm.Rules) (l : List Pos) (nx : List (List Nat)) (L : List Int) : ∀ (h : Nat) (o : AObj), (zIW r l nx L)[h]? = some (some o) → zAz (zIW r l nx L).length o.c :=
 zCB (zH1 l _) (zCB (zHP rfl) (zCB (zJG l) (zCB (zIL nx) (zCB (fun _ _ _ _ => rfl) zBY))))
theorem zEy {h : Nat} : ∀ {l : List AV}, (∀ x ∈ l, x.forget h = x) → AV.forgets h l = l
 | [], _ => rfl
 | x :: l, q => by
  show x.forget h :: AV.forgets h l = x :: l
  rw [q x (List.mem_cons_self ..), zEy (fun y hy => q y (List.mem_cons_of_mem _ hy))]
theorem zDm {h : Nat} (l : List Pos) (m : Nat) : (Cells.mp (zB6 l) (zCZ m)).forget h = .mp (zB6 l) (zCZ m) := by
 show Cells.mp (AV.forgets h (zB6 l)) (AV.forgets h (zCZ m)) = _
 rw [zEy (fun x hx => by obtain ⟨p, _, rfl⟩ := List.mem_map.1 hx; rfl), zEy (fun x hx => by obtain ⟨p, _, rfl⟩ := List.mem_map.1 hx; rfl)]
theorem zB9 {α : Type} {d : α} {n h : Nat} {e : α → List AV} {l : List α} (q : ∀ a j, ((e a).getD j .any).forget h = (e a).getD j .any) : (zCa d n e l).forget h = zCa d n e l := by
 show Cells.fn l.length n (fun i j => ((e (l.getD i d)).getD j .any).forget h) = _
 simp only [q]; rfl
theorem zDp (a : Pos) (j k : Nat) : ((poC a).getD j .any).forget k = (poC a).getD j .any := by
 match j with
 | 0 => rfl
 | 1 => rfl
 | 2 => rfl
 | 3 => rfl
 | 4 => rfl
 | j + 5 => rfl
theorem zDr (a : List Nat) (j k : Nat) : (([zt (a.map Int.ofNat)] : List AV).getD j .any).forget k = ([zt (a.map Int.ofNat)] : List AV).getD j .any := by
 match j with
 | 0 => rfl
 | j + 1 => rfl
theorem zI7 (l : List Pos) (p : Pos) : zB6 l ++ [.str (keyT p)] = zB6 (l ++ [zB1 p]) := by unfold zB6; rw [List.map_append]; rfl
theorem zJL (n : Nat) : zCZ n ++ [iN n] = zCZ (n + 1) := by unfold zCZ; rw [List.range_succ, List.map_append]; rfl
/-- (*retro.Table).add -/
theorem add_ok (r : Go.Ax.Gm.Rules) (hv : ValidR r) (l : List Pos) (nx : List (List Nat)) (L : List Int) (p : Pos) (S : Sound r p) (G : ∀ q ∈ l, Sound r q ∧ q.quiet = 0) (hl : l.length ≤ 3001) :
 zd Tryz.prog 78 [.ptr 1 0 0, poA p] (zIW r l nx L) (fun h => h < 5 ∧ h ≠ 2) (fun v H => v = iN (zBA l p) ∧ H = zIW r (zCc l p) nx L) := by
 have hc : zd Tryz.prog 78 [.ptr 1 0 0, poA p] (zIW r l nx L) (fun h => h < 5 ∧ h ≠ 2) (fun v H => v = iN (zBA l p) ∧ ∃ x, H = zIW r (zCc l p) nx L ++ [x]) := by
  refine zL (P := Tryz.prog) (fn := Tryz.f78) J J (by kernel_rfl) J (fun c hR hfix => ?_)
  refine rn6 ?_
  refine zQ J J J (zFP hv S) ?_
  refine rn8 ?_
  by_cases hi : zBA l p < l.length
  ·have hadd : zCc l p = l := by unfold zCc; rw [if_pos hi]
   rw [hadd] at hR
   refine zA (zEX J (.str J) J J J J (zCz l) (zBA l p) (zGt hi) (zG2 hi)) ?_
   refine rn5 ?_
   exact zN hR J ⟨J, _, J⟩
  ·have hadd : zCc l p = l ++ [zB1 p] := by unfold zCc; rw [if_neg hi]
   have hidx : zBA l p = l.length := by have := zJa l p; omega
   rw [hadd, hidx] at hR
   refine zA (zDz J (.str J) J J J J J J J J (zCz l) (zE0 hv S G hi)) ?_
   repeat (first | refine zA (zF rfl) ?_ | refine zA (zO rfl) ?_ | refine zC ?_ | refine zB ?_ | refine zY ?_ | refine zK rfl ?_ | refine zAQ rfl ?_ | refine zA (zT rfl rfl rfl rfl rfl) ?_ | refine zA (zDd rfl) ?_ | refine zA (zAj rfl rfl) ?_ | refine zA (zBB rfl rfl rfl) ?_ | refine zA (zZ rfl) ?_ | refine zA (zM rfl rfl rfl rfl rfl rfl) ?_ | refine zAG rfl rfl rfl rfl rfl rfl rfl Nat.zero_lt_one ?_)
   refine zEp J (.str J) J J J J J (zCz l) (zE0 hv S G hi) ?_
   refine rn0 ?_
   have hll : (l ++ [zB1 p]).length = l.length + 1 := by rw [List.length_append]; rfl
   refine zAi [some ⟨95, .mp (zB6 (l ++ [zB1 p])) (zCZ (l.length + 1))⟩, some ⟨97, .box (tbC r l.length nx.length .nil)⟩, some ⟨35, zCq l⟩, some ⟨23, zDE nx⟩, some ⟨3, .ints .i64 L⟩, some ⟨35, .box (poC (zB1 p))⟩] (by rw [← zI7, ← zJL]; rfl) ?_
   refine zf (by kernel_rfl) ?_
   refine zW 0 J (by kernel_rfl) (by kernel_rfl) (by kernel_rfl) J (zF J) J ?_
   refine zl (fuel := 4) [1, 2, 3, 4, 5, 6] [(33, .ptr 1 0 0), (0, .ptr 1 0 0), (3, .ptr 5 0 0), (6, iN l.length)] ⟨J, J, J, J, trivial⟩ (by kernel_rfl) (by decide) J J ?_
   refine zJ J J (zF J) ?_
   refine zJ J J (zZ J) ?_
   refine zJ J J (zM J J J J J J) ?_
   refine zJ J J (zT J J J J J) ?_
   refine zJ J J (qpp J J J J J J J) ?_
   refine px_b J J J J J J J J J J J J J ?_
   refine zr ?_
   refine zG (is := [7]) (by kernel_rfl) (by simp) J ⟨fun o ho => ?_, trivial⟩
   all_goals (cases ho)
   refine zBX [zB1 p] J J J J J J J J J J J J J (Nat.le_refl _) (fun k' j hk' hj => ?_) (by show (l.length + 1) * 88 ≤ _ ∧ _; omega) (fun a j k _ => zDp a j k) (by rw [hfix]; exact fun h => h.2 J) ?_
   ·obtain rfl : k' = 0 := Nat.lt_one_iff.1 hk'
    match j, hj with
    | 0, _ => rfl
    | 1, _ => rfl
    | 2, _ => rfl
    | 3, _ => rfl
    | 4, _ => rfl
   refine zAk [some ⟨95, .mp (zB6 (l ++ [zB1 p])) (zCZ (l.length + 1))⟩, some ⟨97, .box ((tbC r l.length nx.length .nil).set 11 .any)⟩, some ⟨35, zCq (l ++ [zB1 p])⟩, some ⟨23, zDE nx⟩, some ⟨3, .ints .i64 L⟩, some ⟨35, .box (poC (zB1 p))⟩] ?_ ?_
   ·show [some (AObj.mk _ ((Cells.mp _ _).forget 2)), some (AObj.mk _ ((Cells.box _).forget 2)), some (AObj.mk _ (zCq (l ++ [zB1 p]))), some (AObj.mk _ ((zDE nx).forget 2)), some (AObj.mk _ ((Cells.ints .i64 L).forget 2)), some (AObj.mk _ ((Cells.box (poC (zB1 p))).forget 2))] = _
    rw [zDm, zB9 (fun a j => zDr a j 2)]; rfl
   refine rn1 ?_
   refine zW 8 J (by kernel_rfl) (by kernel_rfl) (by kernel_rfl) J (zZ J) J ?_
   refine zW 9 J (by kernel_rfl) (by kernel_rfl) (by kernel_rfl) J (zM J J J J J J) J ?_
   refine zG (is := [10]) (by kernel_rfl) (by simp) J ⟨fun o ho => ?_, trivial⟩
   all_goals (cases ho)
   refine rn9 ?_
   refine zX (by kernel_rfl) ?_
   refine rn0 ?_
   exact zN hR J ⟨J, _, by show _ = [_, _, _, _, _, _]; rw [hll]; rfl⟩
 exact zd.cutR hc (fun v H ⟨e1, x, e2⟩ => ⟨_, [x], e2, fun h q => q.1, zIX _ _ _ _, e1 ▸ J, e1, J⟩)
/-- slices.IndexFunc of numbers, the function looks at the caller's memory -/
theorem zK2 {H : zP} (l : List Int) (q : Int → Bool) (g : Nat) (caps : List AV) (hl : l.length ≤ 1000000) (hc : ∀ x ∈ l, zd Tryz.prog g (.int .i64 x :: caps) H (fun h => h < H.length) (fun r H' => r = .bool (q x) ∧ H' = H)) :
 zd Tryz.prog 119 [zt l, .fn g caps] H (fun h => h < H.length) (fun r H' => (∃ n : Int, r = .int .i64 n ∧ (decide (0 ≤ n) = l.any q)) ∧ H' = H) := by
 refine zL (P := Tryz.prog) (fn := Tryz.f119) J J (by kernel_rfl) J (fun c hR hfix => ?_)
 refine rn3 ?_
 refine zw (ι := Nat) (fun k => [(0, zt l), (1, .fn g caps), (7, iN l.length), (8, iN k)]) (fun _ => H)
  (fun k => k ≤ l.length ∧ (l.take k).any q = false) (fun k => l.length - k) 0 ⟨⟨rfl, rfl, rfl, rfl, trivial⟩, rfl, Nat.zero_le _, by rw [List.take_zero]; rfl⟩ ?_
 intro k ⟨hk, hno⟩
 refine rn4 ?_
 refine zH J (fun h => ?_) (fun h => ?_)
 ·have hk' : k < l.length := by omega
  have hmem : l.getD k 0 ∈ l := zAp 0 hk'
  have htk : (l.take (k + 1)).any q = ((l.take k).any q || q (l.getD k 0)) := by rw [zu _ 0 k hk', List.any_append]; simp
  refine rn6 ?_
  refine zCx J J J (hc _ hmem) (fun _ h => h) (fun _ h => h) ?_
  rintro r H' ⟨rfl, rfl⟩
  refine rn0 ?_
  cases hq : q (l.getD k 0) with
  | true =>
   refine rn6 ?_
   refine zN hR J ⟨⟨(k : Nat), J, ?_⟩, J⟩
   rw [decide_eq_true (by omega : (0 : Int) ≤ (k : Nat)), List.any_eq_true.2 ⟨_, hmem, hq⟩]
  | false =>
   refine rn5 ?_
   exact zS ⟨k + 1, ⟨by omega, by rw [htk, hno, hq]; rfl⟩, by omega, ⟨J, J, J, J, trivial⟩, J⟩
 ·have hk' : k = l.length := by omega
  subst hk'
  rw [List.take_length] at hno
  refine rn5 ?_
  refine zN hR J ⟨⟨-1, J, ?_⟩, J⟩
  rw [hno]; rfl
/-- slices.ContainsFunc of numbers, the function looks at the caller's memory -/
theorem zGp {H : zP} (l : List Int) (q : Int → Bool) (g : Nat) (caps : List AV) (hl : l.length ≤ 1000000) (hc : ∀ x ∈ l, zd Tryz.prog g (.int .i64 x :: caps) H (fun h => h < H.length) (fun r H' => r = .bool (q x) ∧ H' = H)) :
 zd Tryz.prog 91 [zt l, .fn g caps] H (fun h => h < H.length) (fun r H' => r = .bool (l.any q) ∧ H' = H) := by
 refine zL (P := Tryz.prog) (fn := Tryz.f91) J J (by kernel_rfl) J (fun c hR hfix => ?_)
 refine rn0 ?_
 refine zCx J J J (zK2 l q g caps hl hc) (fun _ h => h) (fun _ h => h) ?_
 rintro r H' ⟨⟨n, rfl, hn⟩, rfl⟩
 refine rn8 ?_
 exact zN hR J ⟨congrArg AV.bool hn, J⟩
abbrev tbF (r : Go.Ax.Gm.Rules) (l : List Pos) (nx : List (List Nat)) (e : AV) : List AV := [.str r.name, .int .i64 r.w, .int .i64 r.h, .ro (zAd r.pcs) 0 r.pcs.length, zt r.start, .bool r.falls, .bool r.keeps, .ro (zEv r.ends) 0 r.ends.length, .int .i64 r.blocked, .int .i64 r.quiet, .int .i64 r.rep, .ro (zCq l) 0 l.length, .ro (zDE nx) 0 nx.length, e, .rom (zB6 l) (zCZ l.length)]
abbrev zAr (E : List Ent) : Cells := zCa (0, 0) 2 zA8 E
/-- the closures of solve, over its memory -/
structure SolveH (r : Go.Ax.Gm.Rules) (l : List Pos) (nx : List (List Nat)) (E : List Ent) (H : zP) : Prop where
 h1 : H[1]? = some (some ⟨97, .box (tbF r l nx (.sl 3 0 E.length))⟩)
 h2 : H[2]? = some (some ⟨28, .box [.ptr 1 0 0]⟩)
 h3 : H[3]? = some (some ⟨37, zAr E⟩)
theorem cl1_ok {r : Go.Ax.Gm.Rules} {l : List Pos} {nx : List (List Nat)} {E : List Ent} {H : zP} (S : SolveH r l nx E H) (own : Int) (k : Int) (hk : 0 ≤ k ∧ k < (E.length : Int)) :
 zd Tryz.prog 109 [.int .i64 k, .ptr 2 0 0, .rp (.box [.int .i64 own]) 0 0] H (fun h => h < H.length) (fun r H' => r = .bool (decide ((E.getD k.toNat (0, 0)).1 = own)) ∧ H' = H) := by
 obtain ⟨h1, h2, h3⟩ := S
 have hk' : k.toNat < E.length := by omega
 refine zL (P := Tryz.prog) (fn := Tryz.f109) J J (by kernel_rfl) J (fun c hR hfix => ?_)
 refine rn0 ?_
 refine zf (by kernel_rfl) ?_
 refine zl (fuel := 0) [0, 1, 2, 3, 4, 5, 6, 7, 8, 9, 10] [(0, .int .i64 k), (1, .ptr 2 0 0), (2, .rp (.box [.int .i64 own]) 0 0)] ⟨J, J, J, trivial⟩ (by kernel_rfl) (by decide) J J ?_
 refine zJ J J (zBK J J J (by assumption) (by rfl)) ?_
 refine zJ J J (zZ J) ?_
 refine zJ J J (zM J J J J J J) ?_
 refine zJ J J (zBK J J J (by assumption) (by rfl)) ?_
 refine zJ J J (zF J) ?_
 refine zJ J J (qis J J J) ?_
 refine zJ J J (zM J J J J J J) ?_
 refine zJ J J (zC2 J J J (by assumption) J (by first | assumption | omega)) ?_
 refine zJ J J (zD J J J J) ?_
 refine zJ J J (zBh J J) ?_
 refine zJ J J (zO J) ?_
 refine zr ?_
 refine zX (by kernel_rfl) ?_
 refine rn0 ?_
 exact zN hR J ⟨J, J⟩
theorem cl2_ok {r : Go.Ax.Gm.Rules} {l : List Pos} {nx : List (List Nat)} {E : List Ent} {H : zP} (S : SolveH r l nx E H) (own : Int) (k : Int) (hk : 0 ≤ k ∧ k < (E.length : Int)) :
 zd Tryz.prog 110 [.int .i64 k, .ptr 2 0 0, .rp (.box [.int .i64 own]) 0 0] H (fun h => h < H.length) (fun r H' => r = .bool (decide ((E.getD k.toNat (0, 0)).1 ≠ own)) ∧ H' = H) := by
 obtain ⟨h1, h2, h3⟩ := S
 have hk' : k.toNat < E.length := by omega
 refine zL (P := Tryz.prog) (fn := Tryz.f110) J J (by kernel_rfl) J (fun c hR hfix => ?_)
 refine rn0 ?_
 refine zf (by kernel_rfl) ?_
 refine zl (fuel := 0) [0, 1, 2, 3, 4, 5, 6, 7, 8, 9, 10] [(0, .int .i64 k), (1, .ptr 2 0 0), (2, .rp (.box [.int .i64 own]) 0 0)] ⟨J, J, J, trivial⟩ (by kernel_rfl) (by decide) J J ?_
 refine zJ J J (zBK J J J (by assumption) (by rfl)) ?_
 refine zJ J J (zZ J) ?_
 refine zJ J J (zM J J J J J J) ?_
 refine zJ J J (zBK J J J (by assumption) (by rfl)) ?_
 refine zJ J J (zF J) ?_
 refine zJ J J (qis J J J) ?_
 refine zJ J J (zM J J J J J J) ?_
 refine zJ J J (zC2 J J J (by assumption) J (by first | assumption | omega)) ?_
 refine zJ J J (zD J J J J) ?_
 refine zJ J J (zBQ J J) ?_
 refine zJ J J (zO J) ?_
 refine zr ?_
 refine zX (by kernel_rfl) ?_
 refine rn0 ?_
 exact zN hR J ⟨J, J⟩
theorem cl3_ok {r : Go.Ax.Gm.Rules} {l : List Pos} {nx : List (List Nat)} {E : List Ent} {H : zP} (S : SolveH r l nx E H) (i : Nat) (hi : i < l.length) (ht : z6 l i = 0 ∨ z6 l i = 1) (k : Int) (hk : 0 ≤ k ∧ k < (E.length : Int)) :
 zd Tryz.prog 111 [.int .i64 k, .ptr 2 0 0, .rp (.box [iN i]) 0 0] H (fun h => h < H.length) (fun r H' => r = .bool (decide ((E.getD k.toNat (0, 0)).1 = 1 + z6 l i)) ∧ H' = H) := by
 obtain ⟨h1, h2, h3⟩ := S
 have hk' : k.toNat < E.length := by omega
 have ht : 0 ≤ (l.getD i zo).turn ∧ (l.getD i zo).turn ≤ 1 := by unfold z6 at ht; omega
 refine zL (P := Tryz.prog) (fn := Tryz.f111) J J (by kernel_rfl) J (fun c hR hfix => ?_)
 refine rn0 ?_
 refine zf (by kernel_rfl) ?_
 refine zl (fuel := 0) [0, 1, 2, 3, 4, 5, 6, 7, 8, 9, 10, 11, 12, 13, 14, 15, 16, 17, 18] [(0, .int .i64 k), (1, .ptr 2 0 0), (2, .rp (.box [iN i]) 0 0)] ⟨J, J, J, trivial⟩ (by kernel_rfl) (by decide) J J ?_
 refine zJ J J (zBK J J J (by assumption) (by rfl)) ?_
 refine zJ J J (zZ J) ?_
 refine zJ J J (zM J J J J J J) ?_
 refine zJ J J (zBK J J J (by assumption) (by rfl)) ?_
 refine zJ J J (zF J) ?_
 refine zJ J J (qis J J J) ?_
 refine zJ J J (zM J J J J J J) ?_
 refine zJ J J (zC2 J J J (by assumption) J (by first | assumption | omega)) ?_
 refine zJ J J (zBK J J J (by assumption) (by rfl)) ?_
 refine zJ J J (zZ J) ?_
 refine zJ J J (zM J J J J J J) ?_
 refine zJ J J (zBK J J J (by assumption) (by rfl)) ?_
 refine zJ J J (zD J J J J) ?_
 refine zJ J J (zg J J J J (by first | (simp only [Nat.zero_add, Int.toNat_natCast, Int.toNat_zero]; exact J) | exact J) (by omega)) ?_
 refine zJ J J (zI J J J J J J) ?_
 refine zJ J J (zA5 J J J J) ?_
 refine zJ J J (zA1 J J (by omega)) ?_
 refine zJ J J (zBh J J) ?_
 refine zJ J J (zO J) ?_
 refine zr ?_
 refine zX (by kernel_rfl) ?_
 refine rn0 ?_
 exact zN hR J ⟨J, J⟩
/-- is(own): the box is only read from now on -/
theorem cl0_ok {H : zP} (own : Int) (hb : ∀ (h : Nat) (o : AObj), H[h]? = some (some o) → zAz H.length o.c) (hlt : 2 < H.length) :
 zd Tryz.prog 108 [.int .i64 own, .ptr 2 0 0] H (fun h => h < H.length) (fun r H' => r = .fn 109 [.ptr 2 0 0, .rp (.box [.int .i64 own]) 0 0] ∧ H' = H) := by
 have hc : zd Tryz.prog 108 [.int .i64 own, .ptr 2 0 0] H (fun h => h < H.length) (fun r H' => r = .fn 109 [.ptr 2 0 0, .rp (.box [.int .i64 own]) 0 0] ∧ H' = H ++ [none]) := by
  refine zL (P := Tryz.prog) (fn := Tryz.f108) J J (by kernel_rfl) J (fun c hR hfix => ?_)
  refine zY ?_
  repeat (first | refine zA (zO rfl) ?_ | refine zC ?_ | refine zB ?_ | refine zK rfl ?_ | refine zAn rfl rfl ?_)
  refine ax_fzN H 2 [(1, .ptr 2 0 0)] J J ⟨J, trivial⟩ ?_
  repeat (first | refine zA (zO rfl) ?_ | refine zC ?_ | refine zB ?_ | refine zY ?_ | refine zK rfl ?_ | refine z7 ?_ | refine zA (zCh rfl) ?_)
  exact zN hR J ⟨J, J⟩
 exact zd.cutR hc (fun v H' ⟨e1, e2⟩ => ⟨H, [none], e2, fun h q => q, hb, by rw [e1]; show (Nat.blt 2 H.length && _) = true; rw [show Nat.blt 2 H.length = true from Nat.ble_eq_true_of_le hlt]; rfl, e1, J⟩)
abbrev slH (r : Go.Ax.Gm.Rules) (l : List Pos) (nx : List (List Nat)) (E : List Ent) (T : zP) : zP :=
 none :: some ⟨97, .box (tbF r l nx (.sl 3 0 E.length))⟩ :: some ⟨28, .box [.ptr 1 0 0]⟩ :: some ⟨37, zAr E⟩ :: T
abbrev zFq (f : List Nat) : Option AObj := some ⟨3, .ints .i64 (f.map Int.ofNat)⟩
abbrev resO (f : List Int) : Option AObj := some ⟨3, .ints .i64 f⟩
theorem slH_S (r : Go.Ax.Gm.Rules) (l : List Pos) (nx : List (List Nat)) (E : List Ent) (T : zP) : SolveH r l nx E (slH r l nx E T) := ⟨rfl, rfl, rfl⟩
theorem zHu {n : Nat} (E : List Ent) : zAz n (zAr E) := fun i j _ hj => by
 have hj : j < 2 := hj
 match j, hj with
 | 0, _ => rfl
 | 1, _ => rfl
theorem zEP (a : Ent) (j k : Nat) : ((zA8 a).getD j .any).forget k = (zA8 a).getD j .any := by
 match j with
 | 0 => rfl
 | 1 => rfl
 | j + 2 => rfl
/-- what solve may rely on -/
structure SolveP (r : Go.Ax.Gm.Rules) (l : List Pos) (nx : List (List Nat)) : Prop where
 hv : ValidR r
 ll : l.length ≤ 3000
 S : ∀ i, i < l.length → Sound r (l.getD i zo)
 nl : nx.length = l.length
 rl : ∀ i, i < l.length → (nx.getD i []).length ≤ 1000000
 nk : ∀ i, i < l.length → ∀ k ∈ nx.getD i [], k < l.length
theorem zFI (n : Nat) : CEq (zBC n [.int .i64 0, .int .i64 0]) (zAr (List.replicate n (0, 0))) := by
 refine ⟨by show (List.replicate n ((0, 0) : Ent)).length = n; rw [List.length_replicate], J, fun i j hi hj => ?_⟩
 have hj : j < 2 := hj
 have e : (List.replicate n ((0, 0) : Ent)).getD i (0, 0) = (0, 0) := by
  simp only [List.getD, List.getElem?_replicate]; split <;> rfl
 show (zA8 ((List.replicate n ((0, 0) : Ent)).getD i (0, 0))).getD j .any = _
 rw [e]
 match j, hj with
 | 0, _ => rfl
 | 1, _ => rfl
theorem zFO {H : zP} {t : TypeId} {a b : Cells} (h : CEq a b) : zA2 (H ++ [some ⟨t, a⟩]) (H ++ [some ⟨t, b⟩]) :=
 zA2.append (zA2.refl H) (zA2.cons (fun o ho => by cases ho; exact ⟨_, rfl, rfl, h⟩) (zA2.refl []))
theorem zEF (r : Go.Ax.Gm.Rules) (l : List Pos) (nx : List (List Nat)) (E : List Ent) {T : zP} (h : ∀ (h : Nat) (o : AObj), T[h]? = some (some o) → zAz (slH r l nx E T).length o.c) : ∀ (h : Nat) (o : AObj), (slH r l nx E T)[h]? = some (some o) → zAz (slH r l nx E T).length o.c :=
 have e : (slH r l nx E T).length = T.length + 4 := rfl
 have q : ∀ n, 4 ≤ n → (Nat.blt 3 n) = true ∧ (Nat.blt 1 n) = true := fun n hn => ⟨Nat.ble_eq_true_of_le hn, Nat.ble_eq_true_of_le (by omega)⟩
 bl_n (zCB (zHP (by show (true && (true && (true && (true && (true && (true && (true && (true && (true && (true && (true && (true && (true && (Nat.blt 3 _ && (true && true))))))))))))))) = true; rw [(q _ (by omega)).1]; rfl)) (zCB (zHP (by show (Nat.blt 1 _ && true) = true; rw [(q _ (by omega)).2]; rfl)) (zCB (zHu E) h)))
theorem zF5 (r : Go.Ax.Gm.Rules) (l : List Pos) (nx : List (List Nat)) (E : List Ent) : ∀ (h : Nat) (o : AObj), (slH r l nx E [])[h]? = some (some o) → zAz (slH r l nx E []).length o.c := zEF r l nx E zBY
/-- (*retro.Table).solve -/
theorem solve_ok (r : Go.Ax.Gm.Rules) (l : List Pos) (nx : List (List Nat)) (Q : SolveP r l nx) :
 zd Tryz.prog 79 [.ptr 1 0 0] [none, some ⟨97, .box (tbF r l nx .nil)⟩] (fun h => h < 2) (fun v H => v = .tup [] ∧ ∃ N, zAq l nx (ze l nx (zAE r l) N) = [] ∧ H = slH r l nx (zBl (ze l nx (zAE r l) N)) []) := by
 obtain ⟨hv, hll, hS, hnl, hrl, hnk⟩ := Q
 refine zL (P := Tryz.prog) (fn := Tryz.f79) J J (by kernel_rfl) J (fun c hR hfix => ?_)
 have turnB : ∀ i, z6 l i = 0 ∨ z6 l i = 1 := fun i => by
  rcases Nat.lt_or_ge i l.length with q | q
  ·exact (hS i q).tn
  ·left; unfold z6; rw [List.getD, List.getElem?_eq_none q]; rfl
 have hfx : ∀ h, c.fix h → h < 2 := fun h q => by rw [hfix] at q; exact q
 refine zY ?_
 repeat (first | refine zC ?_ | refine zB ?_ | refine zK rfl ?_ | refine zAn rfl rfl ?_)
 refine zY ?_
 refine zf (by kernel_rfl) ?_
 apply zR (H := [none, some ⟨97, .box (tbF r l nx .nil)⟩, some ⟨28, .box [.ptr 1 0 0]⟩, some ⟨37, zAr (List.replicate l.length (0, 0))⟩]) [(1, .ptr 2 0 0), (19, .ptr 1 0 0), (25, .sl 3 0 l.length)]
 ·intro fin
  refine zG (is := [0, 1]) (by kernel_rfl) (by simp) J ⟨fun o ho => ?_, fun o ho => ?_, trivial⟩
  all_goals (cases ho)
  ·refine rn4 ?_
   refine zl (fuel := 4) [1, 2, 3, 4, 5] [(1, .ptr 2 0 0), (19, .ptr 1 0 0)] ⟨J, J, trivial⟩ (by kernel_rfl) (by decide) J J ?_
   refine zJ J J (zT J J J J J) ?_
   refine zJ J J (zZ J) ?_
   refine zJ J J (zM J J J J J J) ?_
   refine zJ J J (zT J J J J J) ?_
   refine zJ J J (zBB J J J) ?_
   refine zr ?_
   refine zG (is := [6]) (by kernel_rfl) (by simp) J ⟨fun o ho => ?_, trivial⟩
   all_goals (cases ho)
   refine zGA J J J J J J J J (by show (0 : Int) ≤ _ ∧ _ ≤ _ ∧ (16 : Int) * _ ≤ _ ∧ _; omega) ?_
   refine zA7 _ (zFO (zFI l.length)) ?_
   refine rn1 ?_
   exact fin _ ⟨J, J, J, trivial⟩
  ·refine rn4 ?_
   refine zW 2 J (by kernel_rfl) (by kernel_rfl) (by kernel_rfl) J (zZ J) J ?_
   refine zW 3 J (by kernel_rfl) (by kernel_rfl) (by kernel_rfl) J (zM J J J J J J) J ?_
   refine zG (is := [0, 4]) (by kernel_rfl) (by simp) J ⟨fun o ho => ?_, fun o ho => ?_, trivial⟩
   all_goals (cases ho)
   ·refine rn4 ?_
    refine zl (fuel := 4) [4, 5] [(1, .ptr 2 0 0), (19, .ptr 1 0 0), (22, .ptr 1 0 11)] ⟨J, J, J, trivial⟩ (by kernel_rfl) (by decide) J J ?_
    refine zJ J J (zT J J J J J) ?_
    refine zJ J J (zBB J J J) ?_
    refine zr ?_
    refine zG (is := [6]) (by kernel_rfl) (by simp) J ⟨fun o ho => ?_, trivial⟩
    all_goals (cases ho)
    refine zGA J J J J J J J J (by show (0 : Int) ≤ _ ∧ _ ≤ _ ∧ (16 : Int) * _ ≤ _ ∧ _; omega) ?_
    refine zA7 _ (zFO (zFI l.length)) ?_
    refine rn1 ?_
    exact fin _ ⟨J, J, J, trivial⟩
   ·refine rn4 ?_
    refine zW 5 J (by kernel_rfl) (by kernel_rfl) (by kernel_rfl) J (zBB J J J) J ?_
    refine zG (is := [0, 6]) (by kernel_rfl) (by simp) J ⟨fun o ho => ?_, fun o ho => ?_, trivial⟩
    all_goals (cases ho)
    ·refine rn4 ?_
     refine zG (is := [6]) (by kernel_rfl) (by simp) J ⟨fun o ho => ?_, trivial⟩
     all_goals (cases ho)
     refine zGA J J J J J J J J (by show (0 : Int) ≤ _ ∧ _ ≤ _ ∧ (16 : Int) * _ ≤ _ ∧ _; omega) ?_
     refine zA7 _ (zFO (zFI l.length)) ?_
     refine rn1 ?_
     exact fin _ ⟨J, J, J, trivial⟩
    ·refine zGA J J J J J J J J (by show (0 : Int) ≤ _ ∧ _ ≤ _ ∧ (16 : Int) * _ ≤ _ ∧ _; omega) ?_
     refine zA7 _ (zFO (zFI l.length)) ?_
     refine rn1 ?_
     refine zG (is := [0]) (by kernel_rfl) (by simp) J ⟨fun o ho => ?_, trivial⟩
     all_goals (cases ho)
     refine rn4 ?_
     exact fin _ ⟨J, J, J, trivial⟩
 refine zW 7 J (by kernel_rfl) (by kernel_rfl) (by kernel_rfl) J (zZ J) J ?_
 refine zW 8 J (by kernel_rfl) (by kernel_rfl) (by kernel_rfl) J (zM J J J J J J) J ?_
 refine zG (is := [9]) (by kernel_rfl) (by simp) J ⟨fun o ho => ?_, trivial⟩
 all_goals (cases ho)
 refine rn9 ?_
 refine zX (by kernel_rfl) ?_
 repeat (refine zB ?_)
 refine zAi (slH r l nx (zCl r l 0) []) (by rw [zKj]; show _ = [none, some (AObj.mk _ (.box (tbF r l nx (.sl 3 0 (List.replicate l.length ((0, 0) : Ent)).length)))), _, _]; rw [List.length_replicate]; rfl) ?_
 refine zY ?_
 refine rn15 ?_
 refine zw (ι := Nat) (fun k => [(1, .ptr 2 0 0), (31, .ro (zCq l) 0 l.length), (32, iN l.length), (33, iN k)]) (fun k => slH r l nx (zCl r l k) []) (fun k => k ≤ l.length) (fun k => l.length - k) 0 ⟨⟨J, J, J, J, trivial⟩, J, Nat.zero_le _⟩ ?_
 ·intro k hk
  refine rn4 ?_
  refine zH J (fun h => ?_) (fun h => ?_)
  ·have hk' : k < l.length := by omega
   have hEl := zIU r hk
   generalize hp : l.getD k zo = p
   refine zF1 ?_
   refine rn4 ?_
   refine zV (poC p) J J J J J (by rw [← hp]; rfl) J ?_
   refine rn0 ?_
   refine zEK (slH r l nx (zCl r l k) []) 3 [(1, .ptr 2 0 0), (31, .ro (zCq l) 0 l.length), (32, iN l.length), (33, iN k), (2, iN k)] J J ⟨J, J, J, J, J, trivial⟩ ⟨J, J, J, J, J, J, trivial⟩ (zF5 _ _ _ _) J (fun h q => Nat.lt_of_lt_of_le (hfx h q) (by show 2 ≤ 4; decide)) ?_
   refine zf (by kernel_rfl) ?_
   refine zl (fuel := 3) [0, 1, 2, 3, 4, 5, 6, 7, 8, 9, 10] [(3, .rp (.box (poC p)) 0 0), (1, .ptr 2 0 0), (31, .ro (zCq l) 0 l.length), (32, iN l.length), (33, iN k), (2, iN k)] ⟨J, J, J, J, J, J, trivial⟩ (by kernel_rfl) (by decide) J J ?_
   refine zJ J J (zT J J J J J) ?_
   refine zJ J J (zZ J) ?_
   refine zJ J J (zM J J J J J J) ?_
   refine zJ J J (zT J J J J J) ?_
   refine zJ J J (zF J) ?_
   refine zJ J J (zT J J J J J) ?_
   refine zJ J J (zZ J) ?_
   refine zJ J J (zM J J J J J J) ?_
   refine zJ J J (qpp J J J J J J J) ?_
   refine zJ J J (zAB J J J J J J) ?_
   refine zCN J J J J J (zG0 r hv p (by rw [← hp]; exact hS k hk')) ?_
   refine zr ?_
   refine zW 11 J (by kernel_rfl) (by kernel_rfl) (by kernel_rfl) J (zj J J J J J (by first | (simp only [Nat.zero_add, Int.toNat_natCast, Int.toNat_zero]; exact J) | exact J) (by omega)) J ?_
   refine zW 12 J (by kernel_rfl) (by kernel_rfl) (by kernel_rfl) J (zM J J J J J J) J ?_
   refine zG (is := [13]) (by kernel_rfl) (by simp) J ⟨fun o ho => ?_, trivial⟩
   all_goals (cases ho)
   refine zIs (zAK r p, 0) J J J J J J (by omega) (fun j' hj' => ?_) ?_
   ·rw [zMu r hk']
    match j', hj' with
    | 0, _ => rfl
    | 1, _ => rfl
   refine rn1 ?_
   refine zX (by kernel_rfl) ?_
   refine rn5 ?_
   refine zS ⟨k + 1, by omega, by omega, ⟨J, J, J, J, trivial⟩, ?_⟩
   rw [zKi r hk', hp]
   show _ = [none, some (AObj.mk _ (.box (tbF r l nx (.sl 3 0 (List.set _ _ _).length)))), _, _]
   rw [List.length_set]; rfl
  ·have hk' : k = l.length := by omega
   subst hk'
   rw [zHN]
   refine rn5 ?_
   have hE0 : (zAE r l).length = l.length := by rw [← zHN]; exact zIU r (Nat.le_refl _)
   have hopl : ∀ E : List Ent, zBf E ≤ E.length := fun E => List.length_filter_le ..
   refine zw (ι := Nat) (fun n => [(1, .ptr 2 0 0), (4, .int .i64 ((n : Int) + 1))]) (fun n => slH r l nx (ze l nx (zAE r l) n) []) (fun n => n + zBf (ze l nx (zAE r l) n) ≤ l.length) (fun n => zBf (ze l nx (zAE r l) n)) 0 ⟨⟨J, J, trivial⟩, J, by show 0 + zBf (zAE r l) ≤ _; have := hopl (zAE r l); omega⟩ ?_
   intro n hn
   have hEl : (ze l nx (zAE r l) n).length = l.length := zCY hE0 n
   have hst : ze l nx (zAE r l) (n + 1) = zDF l nx (n + 1) (ze l nx (zAE r l) n) := rfl
   have hop : zAq l nx (ze l nx (zAE r l) n) ≠ [] → zBf (zDF l nx (n + 1) (ze l nx (zAE r l) n)) < zBf (ze l nx (zAE r l) n) := fun q => zEc hEl (fun i => turnB i) q
   generalize hEn : ze l nx (zAE r l) n = E at hn hEl hop hst
   refine rn15 ?_
   refine zBa 5 ⟨3, .ints .i64 []⟩ J J ?_
   skip
   refine zw (ι := Nat) (fun k => [(1, .ptr 2 0 0), (4, .int .i64 ((n : Int) + 1)), (57, .ro (zCq l) 0 l.length), (58, iN l.length), (59, iN k), (5, .sl 4 0 (zA4 l nx E k).length)]) (fun k => slH r l nx E [zFq (zA4 l nx E k)]) (fun k => k ≤ l.length) (fun k => l.length - k) 0 ⟨⟨J, J, J, J, J, J, trivial⟩, J, Nat.zero_le _⟩ ?_
   intro k hk
   refine rn4 ?_
   refine zH J (fun h => ?_) (fun h => ?_)
   ·have hk' : k < l.length := by omega
    have hkE : k < E.length := by omega
    have hfl := zHv l nx E k
    have htn := turnB k
    have hfs := zKI l nx E k
    have hT : z6 l k = (l.getD k zo).turn := rfl
    generalize hp : l.getD k zo = p at hT
    refine zF1 ?_
    refine rn4 ?_
    refine zV (poC p) J J J J J (by rw [← hp]; rfl) J ?_
    refine zAv ?_
    refine zEK (slH r l nx E [zFq (zA4 l nx E k)]) 7 [(1, .ptr 2 0 0), (4, .int .i64 ((n : Int) + 1)), (57, .ro (zCq l) 0 l.length), (58, iN l.length), (59, iN k), (5, .sl 4 0 (zA4 l nx E k).length), (6, iN k)] J J ⟨J, J, J, J, J, J, J, trivial⟩ ⟨J, J, J, J, J, J, J, J, trivial⟩ (zEF _ _ _ _ (zCB (fun _ _ _ _ => rfl) zBY)) J (fun h q => Nat.lt_of_lt_of_le (hfx h q) (by show 2 ≤ 5; decide)) ?_
    repeat (first | refine zA (zF rfl) ?_ | refine zC ?_ | refine zB ?_ | refine zK rfl ?_ | refine zA (zT rfl rfl rfl rfl rfl) ?_ | refine zA (zBQ rfl rfl) ?_ | refine zA (zj rfl rfl rfl rfl rfl (by first | (simp only [Nat.zero_add, Int.toNat_natCast, Int.toNat_zero]; exact rfl) | exact rfl) (by omega)) ?_ | refine zA (zC1 rfl rfl rfl rfl rfl (by first | assumption | omega)) ?_ | refine zA (zZ rfl) ?_ | refine zA (zM rfl rfl rfl rfl rfl rfl) ?_)
    refine zH J (fun o1 => ?_) (fun o1 => ?_)
    ·have hno : ¬ zA9 l nx E k = true := fun q => o1 (zDS q)
     refine rn5 ?_
     refine zS ⟨k + 1, by omega, by omega, ⟨J, J, J, J, J, ?_, trivial⟩, ?_⟩
     ·rw [hfs, if_neg hno]; rfl
     ·rw [hfs, if_neg hno]
    ·have ho : zAa E k = 0 := Classical.not_not.1 o1
     have hfb : zA9 l nx E k = (zFk l nx E k || zDw l nx E k) := by unfold zA9; rw [ho]; rfl
     refine rn1 ?_
     refine zf (by kernel_rfl) ?_
     refine zW 0 J (by kernel_rfl) (by kernel_rfl) (by kernel_rfl) J (zI J J J J J J) J ?_
     refine zW 3 J (by kernel_rfl) (by kernel_rfl) (by kernel_rfl) J (zI J J J J J J) J ?_
     apply zR (H := slH r l nx E [zFq (zA4 l nx E k), some ⟨3, .box [.int .i64 0]⟩]) [(1, .ptr 2 0 0), (4, .int .i64 ((n : Int) + 1)), (57, .ro (zCq l) 0 l.length), (58, iN l.length), (59, iN k), (5, .sl 4 0 (zA4 l nx E k).length), (6, iN k), (8, .int .i64 (1 + p.turn)), (78, .int .i64 (2 - p.turn)), (9, .ptr 5 0 0)]
     ·intro fin
      refine zG (is := [1, 4, 6]) (by kernel_rfl) (by simp) J ⟨fun o ho => ?_, fun o ho => ?_, fun o ho => ?_, trivial⟩
      all_goals (cases ho)
      ·repeat (first | refine zC ?_ | refine zU ?_ | refine zA (zD rfl rfl rfl rfl) ?_)
       refine zW 2 J (by kernel_rfl) (by kernel_rfl) (by kernel_rfl) J (zA1 J J (by omega)) J ?_
       refine zG (is := [4, 6]) (by kernel_rfl) (by simp) J ⟨fun o ho => ?_, fun o ho => ?_, trivial⟩
       all_goals (cases ho)
       ·repeat (first | refine zC ?_ | refine zU ?_ | refine zA (zD rfl rfl rfl rfl) ?_)
        refine zW 5 J (by kernel_rfl) (by kernel_rfl) (by kernel_rfl) J (zBD J J (by omega)) J ?_
        refine zG (is := [6]) (by kernel_rfl) (by simp) J ⟨fun o ho => ?_, trivial⟩
        all_goals (cases ho)
        refine rn4 ?_
        refine zW 7 J (by kernel_rfl) (by kernel_rfl) (by kernel_rfl) J (zO J) J ?_
        exact fin _ ⟨J, J, J, J, J, J, J, J, J, J, trivial⟩
       ·refine rn4 ?_
        refine zW 7 J (by kernel_rfl) (by kernel_rfl) (by kernel_rfl) J (zO J) J ?_
        refine zG (is := [4]) (by kernel_rfl) (by simp) J ⟨fun o ho => ?_, trivial⟩
        all_goals (cases ho)
        repeat (first | refine zC ?_ | refine zU ?_ | refine zA (zD rfl rfl rfl rfl) ?_)
        refine zW 5 J (by kernel_rfl) (by kernel_rfl) (by kernel_rfl) J (zBD J J (by omega)) J ?_
        exact fin _ ⟨J, J, J, J, J, J, J, J, J, J, trivial⟩
      ·repeat (first | refine zC ?_ | refine zU ?_ | refine zA (zD rfl rfl rfl rfl) ?_)
       refine zW 5 J (by kernel_rfl) (by kernel_rfl) (by kernel_rfl) J (zBD J J (by omega)) J ?_
       refine zG (is := [1, 6]) (by kernel_rfl) (by simp) J ⟨fun o ho => ?_, fun o ho => ?_, trivial⟩
       all_goals (cases ho)
       ·repeat (first | refine zC ?_ | refine zU ?_ | refine zA (zD rfl rfl rfl rfl) ?_)
        refine zW 2 J (by kernel_rfl) (by kernel_rfl) (by kernel_rfl) J (zA1 J J (by omega)) J ?_
        refine zG (is := [6]) (by kernel_rfl) (by simp) J ⟨fun o ho => ?_, trivial⟩
        all_goals (cases ho)
        refine rn4 ?_
        refine zW 7 J (by kernel_rfl) (by kernel_rfl) (by kernel_rfl) J (zO J) J ?_
        exact fin _ ⟨J, J, J, J, J, J, J, J, J, J, trivial⟩
       ·refine rn4 ?_
        refine zG (is := [1]) (by kernel_rfl) (by simp) J ⟨fun o ho => ?_, trivial⟩
        all_goals (cases ho)
        repeat (first | refine zC ?_ | refine zU ?_ | refine zA (zD rfl rfl rfl rfl) ?_)
        refine zW 2 J (by kernel_rfl) (by kernel_rfl) (by kernel_rfl) J (zA1 J J (by omega)) J ?_
        refine zW 7 J (by kernel_rfl) (by kernel_rfl) (by kernel_rfl) J (zO J) J ?_
        exact fin _ ⟨J, J, J, J, J, J, J, J, J, J, trivial⟩
      ·refine rn4 ?_
       refine zG (is := [1, 4]) (by kernel_rfl) (by simp) J ⟨fun o ho => ?_, fun o ho => ?_, trivial⟩
       all_goals (cases ho)
       ·repeat (first | refine zC ?_ | refine zU ?_ | refine zA (zD rfl rfl rfl rfl) ?_)
        refine zW 2 J (by kernel_rfl) (by kernel_rfl) (by kernel_rfl) J (zA1 J J (by omega)) J ?_
        refine zW 7 J (by kernel_rfl) (by kernel_rfl) (by kernel_rfl) J (zO J) J ?_
        refine zG (is := [4]) (by kernel_rfl) (by simp) J ⟨fun o ho => ?_, trivial⟩
        all_goals (cases ho)
        repeat (first | refine zC ?_ | refine zU ?_ | refine zA (zD rfl rfl rfl rfl) ?_)
        refine zW 5 J (by kernel_rfl) (by kernel_rfl) (by kernel_rfl) J (zBD J J (by omega)) J ?_
        exact fin _ ⟨J, J, J, J, J, J, J, J, J, J, trivial⟩
       ·repeat (first | refine zC ?_ | refine zU ?_ | refine zA (zD rfl rfl rfl rfl) ?_)
        refine zW 5 J (by kernel_rfl) (by kernel_rfl) (by kernel_rfl) J (zBD J J (by omega)) J ?_
        refine zG (is := [1]) (by kernel_rfl) (by simp) J ⟨fun o ho => ?_, trivial⟩
        all_goals (cases ho)
        repeat (first | refine zC ?_ | refine zU ?_ | refine zA (zD rfl rfl rfl rfl) ?_)
        refine zW 2 J (by kernel_rfl) (by kernel_rfl) (by kernel_rfl) J (zA1 J J (by omega)) J ?_
        refine zW 7 J (by kernel_rfl) (by kernel_rfl) (by kernel_rfl) J (zO J) J ?_
        exact fin _ ⟨J, J, J, J, J, J, J, J, J, J, trivial⟩
     refine zG (is := [8]) (by kernel_rfl) (by simp) J ⟨fun o ho => ?_, trivial⟩
     all_goals (cases ho)
     refine rn9 ?_
     refine zX (by kernel_rfl) ?_
     refine zAv ?_
     refine zEK (slH r l nx E [zFq (zA4 l nx E k)]) 9 [(1, .ptr 2 0 0), (4, .int .i64 ((n : Int) + 1)), (57, .ro (zCq l) 0 l.length), (58, iN l.length), (59, iN k), (5, .sl 4 0 (zA4 l nx E k).length), (6, iN k), (8, .int .i64 (1 + p.turn))] J J ⟨J, J, J, J, J, J, J, J, trivial⟩ ⟨J, J, J, J, J, J, J, J, J, trivial⟩ (zEF _ _ _ _ (zCB (fun _ _ _ _ => rfl) zBY)) J (fun h q => Nat.lt_of_lt_of_le (hfx h q) (by show 2 ≤ 5; decide)) ?_
     refine zBg ?_
     have hkn : k < nx.length := by omega
     have hrow := hrl k hk'
     have hcl : ∀ x ∈ (nx.getD k []).map Int.ofNat, 0 ≤ x ∧ x < (E.length : Int) := fun x hx => by
      obtain ⟨q, hq, rfl⟩ := List.mem_map.1 hx
      have := hnk k hk' q hq
      exact ⟨Int.natCast_nonneg q, by show (q : Int) < _; omega⟩
     have hrl2 : ((nx.getD k []).map Int.ofNat).length ≤ 1000000 := by rw [List.length_map]; exact hrow
     have c1 := zGp (H := slH r l nx E [zFq (zA4 l nx E k)]) ((nx.getD k []).map Int.ofNat) (fun x => decide ((E.getD x.toNat (0, 0)).1 = 1 + p.turn)) 109 [.ptr 2 0 0, .rp (.box [.int .i64 (1 + p.turn)]) 0 0] hrl2 (fun x hx => cl1_ok (slH_S r l nx E _) (1 + p.turn) x (hcl x hx))
     have c2 := zGp (H := slH r l nx E [zFq (zA4 l nx E k)]) ((nx.getD k []).map Int.ofNat) (fun x => decide ((E.getD x.toNat (0, 0)).1 ≠ 2 - p.turn)) 110 [.ptr 2 0 0, .rp (.box [.int .i64 (2 - p.turn)]) 0 0] hrl2 (fun x hx => cl2_ok (slH_S r l nx E _) (2 - p.turn) x (hcl x hx))
     rw [← hT, zJw] at c1
     rw [← hT] at c2
     rw [← hT]
     refine zf (by kernel_rfl) ?_
     refine zl (fuel := 0) [0, 1, 2, 3, 4, 5, 6, 7, 8, 9, 10, 11] [(9, .rp (.box [.int .i64 (2 - z6 l k)]) 0 0), (1, .ptr 2 0 0), (4, .int .i64 ((n : Int) + 1)), (57, .ro (zCq l) 0 l.length), (58, iN l.length), (59, iN k), (5, .sl 4 0 (zA4 l nx E k).length), (6, iN k), (8, .int .i64 (1 + z6 l k)), (10, .fn 108 [.ptr 2 0 0])] ⟨J, J, J, J, J, J, J, J, J, J, trivial⟩ (by kernel_rfl) (by decide) J J ?_
     refine zJ J J (zT J J J J J) ?_
     refine zJ J J (zZ J) ?_
     refine zJ J J (zM J J J J J J) ?_
     refine zJ J J (zT J J J J J) ?_
     refine zJ J J (zF J) ?_
     refine zJ J J (zg J J J J (by first | (simp only [Nat.zero_add, Int.toNat_natCast, Int.toNat_zero]; exact J) | exact J) (by omega)) ?_
     refine zJ J J (zA5 J J J J) ?_
     refine zJ J J (zF J) ?_
     refine zJ J J (zF J) ?_
     refine px_c J J J J J (cl0_ok _ (zEF _ _ _ _ (zCB (fun _ _ _ _ => rfl) zBY)) (by show 2 < 5; decide)) ?_
     refine px_c J J J J J c1 ?_
     refine zJ J J (zO J) ?_
     refine zr ?_
     refine zX (by kernel_rfl) ?_
     repeat (first | refine zA (zF rfl) ?_ | refine zB ?_ | refine zY ?_ | refine zK rfl ?_ | refine zA (zA5 rfl rfl rfl rfl) ?_ | refine zA (zT rfl rfl rfl rfl rfl) ?_ | refine zA (zg rfl rfl rfl rfl (by first | (simp only [Nat.zero_add, Int.toNat_natCast, Int.toNat_zero]; exact rfl) | exact rfl) (by omega)) ?_ | refine zA (zCh rfl) ?_ | refine zA (zZ rfl) ?_ | refine zA (zM rfl rfl rfl rfl rfl rfl) ?_)
     refine zCx J J J c2 (fun _ h => h) (fun _ h => h) ?_
     rintro r' H' ⟨rfl, rfl⟩
     refine rn5 ?_
     rw [zL4]
     have hml : ((zA4 l nx E k).map Int.ofNat).length = (zA4 l nx E k).length := List.length_map ..
     cases hw : zFk l nx E k with
     | true =>
      have hyes : zA9 l nx E k = true := by rw [hfb, hw]; rfl
      refine rn6 ?_
      refine zAf J J J J J J J J J hml J J (by show 0 + 1 ≤ 1; omega) J (by show ((zA4 l nx E k).length + 1) * 8 ≤ _ ∧ _; omega) (fun i j _ _ => rfl) (by rw [hfix]; show ¬ 4 < 2; decide) ?_
      refine zAk (slH r l nx E [zFq (zA4 l nx E k ++ [k])]) ?_ ?_
      ·show [none, some (AObj.mk _ ((Cells.box _).forget 4)), some (AObj.mk _ ((Cells.box _).forget 4)), some (AObj.mk _ ((zAr E).forget 4)), _] = _
       rw [zB9 (fun a j => zEP a j 4)]
       show _ = [none, _, _, _, some (AObj.mk _ (Cells.ints .i64 (List.map Int.ofNat (zA4 l nx E k ++ [k]))))]
       rw [List.map_append]; rfl
      refine rn5 ?_
      refine zS ⟨k + 1, by omega, by omega, ⟨J, J, J, J, J, ?_, trivial⟩, ?_⟩
      ·rw [hfs, hyes, if_pos rfl, List.length_append]; rfl
      ·rw [hfs, hyes]; rfl
     | false =>
      cases hl : zDw l nx E k with
      | true =>
       have hyes : zA9 l nx E k = true := by rw [hfb, hw, hl]; rfl
       refine rn5 ?_
       refine zAf J J J J J J J J J hml J J (by show 0 + 1 ≤ 1; omega) J (by show ((zA4 l nx E k).length + 1) * 8 ≤ _ ∧ _; omega) (fun i j _ _ => rfl) (by rw [hfix]; show ¬ 4 < 2; decide) ?_
       refine zAk (slH r l nx E [zFq (zA4 l nx E k ++ [k])]) ?_ ?_
       ·show [none, some (AObj.mk _ ((Cells.box _).forget 4)), some (AObj.mk _ ((Cells.box _).forget 4)), some (AObj.mk _ ((zAr E).forget 4)), _] = _
        rw [zB9 (fun a j => zEP a j 4)]
        show _ = [none, _, _, _, some (AObj.mk _ (Cells.ints .i64 (List.map Int.ofNat (zA4 l nx E k ++ [k]))))]
        rw [List.map_append]; rfl
       refine rn5 ?_
       refine zS ⟨k + 1, by omega, by omega, ⟨J, J, J, J, J, ?_, trivial⟩, ?_⟩
       ·rw [hfs, hyes, if_pos rfl, List.length_append]; rfl
       ·rw [hfs, hyes]; rfl
      | false =>
       have hno : zA9 l nx E k = false := by rw [hfb, hw, hl]; rfl
       refine rn5 ?_
       refine zS ⟨k + 1, by omega, by omega, ⟨J, J, J, J, J, ?_, trivial⟩, ?_⟩
       ·rw [hfs, hno]; rfl
       ·rw [hfs, hno]; rfl
   ·have hk' : k = l.length := by omega
    subst hk'
    have hF : zA4 l nx E l.length = zAq l nx E := rfl
    have hfl : (zAq l nx E).length ≤ l.length := zHv l nx E l.length
    have hlt : ∀ j, j < (zAq l nx E).length → (zAq l nx E).getD j 0 < l.length := fun j hj => zMJ (l := l) (nx := nx) (E := E) (k := l.length) (zAp 0 hj)
    have hstep := zJr (l := l) (nx := nx) (E := E) (n := n + 1) hEl
    rw [hF]
    generalize hf : zAq l nx E = f at hfl hlt hop hstep
    refine rn5 ?_
    refine zH J (fun z => ?_) (fun z => ?_)
    ·have z2 : f = [] := List.length_eq_zero_iff.1 (by omega)
     subst z2
     repeat (first | refine zB ?_ | refine zY ?_ | refine zCA ?_ | refine zAh ?_ | refine zAg ?_ | refine zAo ?_ | refine zFm rfl ?_)
     refine zBy (slH r l nx E []) [zFq []] [(1, .ptr 2 0 0)] J ⟨J, trivial⟩ (fun h q => Nat.lt_of_lt_of_le (hfx h q) (by show 2 ≤ 4; decide)) (zF5 r l nx E) J ?_
     refine rn15 ?_
     refine zw (ι := Nat) (fun j => [(1, .ptr 2 0 0), (181, iN E.length), (182, iN j)]) (fun j => slH r l nx (zB3 E j) []) (fun j => j ≤ E.length) (fun j => E.length - j) 0 ⟨⟨J, J, J, trivial⟩, by rw [zJ9], Nat.zero_le _⟩ ?_
     intro j hj
     have hcl := zHo E j
     refine rn4 ?_
     refine zH J (fun q => ?_) (fun q => ?_)
     ·have hj' : j < E.length := by omega
      have hat := zL8 hj'
      have hsu := zJ8 hj'
      have hsl : (zB3 E (j + 1)).length = E.length := zHo E (j + 1)
      repeat (first | refine zA (zF rfl) ?_ | refine zA (zO rfl) ?_ | refine zC ?_ | refine zB ?_ | refine zY ?_ | refine zK rfl ?_ | refine zAO ?_ | refine zAJ ?_ | refine zA (zT rfl rfl rfl rfl rfl) ?_ | refine zA (zBh rfl rfl) ?_ | refine zA (zj rfl rfl rfl rfl rfl (by first | (simp only [Nat.zero_add, Int.toNat_natCast, Int.toNat_zero]; exact rfl) | exact rfl) (by omega)) ?_ | refine zA (zC1 rfl rfl rfl rfl rfl (by first | assumption | omega)) ?_ | refine zA (zZ rfl) ?_ | refine zA (zM rfl rfl rfl rfl rfl rfl) ?_)
      refine zH J (fun o => ?_) (fun o => ?_)
      ·have o : ((zB3 E j).getD j (0, 0)).1 = 0 := o
       rw [hat] at o
       rw [if_pos o] at hsu
       repeat (first | refine zA (zF rfl) ?_ | refine zK rfl ?_ | refine zA (zT rfl rfl rfl rfl rfl) ?_ | refine zA (zj rfl rfl rfl rfl rfl (by first | (simp only [Nat.zero_add, Int.toNat_natCast, Int.toNat_zero]; exact rfl) | exact rfl) (by omega)) ?_ | refine zA (zZ rfl) ?_ | refine zA (zM rfl rfl rfl rfl rfl rfl) ?_)
       refine zIs (3, (E.getD j (0, 0)).2) J J J J J J (by show j < (zB3 E j).length; omega) (fun j' hj' => ?_) ?_
       ·rw [hat]
        match j', hj' with
        | 0, _ => rfl
        | 1, _ => rfl
       refine rn5 ?_
       refine zS ⟨j + 1, by omega, by omega, ⟨J, J, J, trivial⟩, ?_⟩
       rw [hsu]
       show _ = [none, some (AObj.mk _ (.box (tbF r l nx (.sl 3 0 (List.set _ _ _).length)))), _, _]
       rw [List.length_set]; rfl
      ·have o : ¬ ((zB3 E j).getD j (0, 0)).1 = 0 := o
       rw [hat] at o
       rw [if_neg o] at hsu
       refine rn5 ?_
       refine zS ⟨j + 1, by omega, by omega, ⟨J, J, J, trivial⟩, ?_⟩
       rw [hsu]
     ·have hj' : j = E.length := by omega
      subst hj'
      rw [zJ7]
      refine rn5 ?_
      refine ax_end (vs := []) hR J ?_
      exact ⟨J, n, by rw [hEn]; exact hf, by rw [hEn]⟩
    ·have hne : f ≠ [] := fun c => z (by rw [c]; rfl)
     have hop := hop hne
     have hml : (f.map Int.ofNat).length = f.length := List.length_map ..
     refine rn3 ?_
     refine zGA J J J J J J J J (by show (0 : Int) ≤ _ ∧ _ ≤ _ ∧ (8 : Int) * _ ≤ _ ∧ _; omega) ?_
     refine rn3 ?_
     refine zw (ι := Nat) (fun j => [(1, .ptr 2 0 0), (4, .int .i64 ((n : Int) + 1)), (5, .sl 4 0 f.length), (13, .sl 5 0 f.length), (116, .sl 4 0 f.length), (117, iN f.length), (118, iN j)]) (fun j => slH r l nx E [zFq f, resO (zEj l nx E f j)]) (fun j => j ≤ f.length) (fun j => f.length - j) 0 ⟨⟨J, J, J, J, J, J, J, trivial⟩, J, Nat.zero_le _⟩ ?_
     intro j hj
     have hrl0 := hrl
     have hrl := resK_len (l := l) (nx := nx) (E := E) hj
     refine rn4 ?_
     refine zH J (fun q => ?_) (fun q => ?_)
     ·have hj' : j < f.length := by omega
      have hjr : j < (zEj l nx E f j).length := by omega
      have hil := hlt j hj'
      have hsu := zMh (l := l) (nx := nx) (E := E) hj'
      have hgi : (f.map Int.ofNat).getD j 0 = ((f.getD j 0 : Nat) : Int) := by simp [List.getD, List.getElem?_eq_getElem hj']
      generalize hi : f.getD j 0 = i at hil hsu hgi
      have htn := turnB i
      have hT : z6 l i = (l.getD i zo).turn := rfl
      refine rn20 ?_
      refine zK J ?_
      repeat (first | refine zA (zF rfl) ?_ | refine zA (zO rfl) ?_ | refine zC ?_ | refine zB ?_ | refine zY ?_ | refine zA (zj rfl rfl rfl rfl rfl (by first | (simp only [Nat.zero_add, Int.toNat_natCast, Int.toNat_zero]; exact rfl) | exact rfl) (by omega)) ?_ | refine zA (zAy rfl rfl rfl rfl (by first | assumption | omega)) ?_ | refine zAG rfl rfl rfl rfl rfl rfl rfl Nat.zero_lt_one ?_ | refine zAN rfl rfl rfl ?_)
      rw [hgi]
      refine zEK (slH r l nx E [zFq f, resO (zEj l nx E f j)]) 15 [(1, .ptr 2 0 0), (4, .int .i64 ((n : Int) + 1)), (5, .sl 4 0 f.length), (13, .sl 5 0 f.length), (116, .sl 4 0 f.length), (117, iN f.length), (118, iN j), (14, iN j)] J J ⟨J, J, J, J, J, J, J, J, trivial⟩ ⟨J, J, J, J, J, J, J, J, J, trivial⟩ (zEF _ _ _ _ (zCB (fun _ _ _ _ => rfl) (zCB (fun _ _ _ _ => rfl) zBY))) J (fun h q => Nat.lt_of_lt_of_le (hfx h q) (by show 2 ≤ 6; decide)) ?_
      skip
      refine zf (by kernel_rfl) ?_
      refine zl (fuel := 1) [0, 1, 2, 3, 4, 5, 6, 7, 8, 9, 10, 11] [(15, .rp (.box [iN i]) 0 0), (1, .ptr 2 0 0), (4, .int .i64 ((n : Int) + 1)), (5, .sl 4 0 f.length), (13, .sl 5 0 f.length), (116, .sl 4 0 f.length), (117, iN f.length), (118, iN j), (14, iN j)] ⟨J, J, J, J, J, J, J, J, J, trivial⟩ (by kernel_rfl) (by decide) J J ?_
      refine zJ J J (zF J) ?_
      refine zJ J J (zF J) ?_
      refine zJ J J (zT J J J J J) ?_
      refine zJ J J (zZ J) ?_
      refine zJ J J (zM J J J J J J) ?_
      refine zJ J J (zT J J J J J) ?_
      refine zJ J J (zD J J J J) ?_
      refine zJ J J (zg J J J J (by first | (simp only [Nat.zero_add, Int.toNat_natCast, Int.toNat_zero]; exact J) | exact J) (by omega)) ?_
      refine zJ J J (zI J J J J J J) ?_
      refine zJ J J (zA5 J J J J) ?_
      refine zJ J J (zBD J J (by omega)) ?_
      refine zJ J J (zj J J J J J (by first | (simp only [Nat.zero_add, Int.toNat_natCast, Int.toNat_zero]; exact J) | exact J) (by omega)) ?_
      refine zr ?_
      refine zG (is := [12]) (by kernel_rfl) (by simp) J ⟨fun o ho => ?_, trivial⟩
      all_goals (cases ho)
      refine rn7 ?_
      refine zX (by kernel_rfl) ?_
      refine rn0 ?_
      have hrow := hrl0 i hil
      have hcl : ∀ x ∈ (nx.getD i []).map Int.ofNat, 0 ≤ x ∧ x < (E.length : Int) := fun x hx => by
       obtain ⟨q, hq, rfl⟩ := List.mem_map.1 hx
       have := hnk i hil q hq
       exact ⟨Int.natCast_nonneg q, by show (q : Int) < _; omega⟩
      have hrl2 : ((nx.getD i []).map Int.ofNat).length ≤ 1000000 := by rw [List.length_map]; exact hrow
      have c3 := zGp (H := slH r l nx E [zFq f, resO ((zEj l nx E f j).set j (2 - (l.getD i zo).turn))]) ((nx.getD i []).map Int.ofNat) (fun x => decide ((E.getD x.toNat (0, 0)).1 = 1 + z6 l i)) 111 [.ptr 2 0 0, .rp (.box [iN i]) 0 0] hrl2 (fun x hx => cl3_ok (slH_S r l nx E _) i hil htn x (hcl x hx))
      rw [zJw] at c3
      refine zf (by kernel_rfl) ?_
      refine zl (fuel := 0) [0, 1, 2, 3, 4, 5, 6, 7, 8] [(15, .rp (.box [iN i]) 0 0), (1, .ptr 2 0 0), (4, .int .i64 ((n : Int) + 1)), (5, .sl 4 0 f.length), (13, .sl 5 0 f.length), (116, .sl 4 0 f.length), (117, iN f.length), (118, iN j), (14, iN j)] ⟨J, J, J, J, J, J, J, J, J, trivial⟩ (by kernel_rfl) (by decide) J J ?_
      refine zJ J J (zT J J J J J) ?_
      refine zJ J J (zZ J) ?_
      refine zJ J J (zM J J J J J J) ?_
      refine zJ J J (zT J J J J J) ?_
      refine zJ J J (zD J J J J) ?_
      refine zJ J J (zg J J J J (by first | (simp only [Nat.zero_add, Int.toNat_natCast, Int.toNat_zero]; exact J) | exact J) (by omega)) ?_
      refine zJ J J (zA5 J J J J) ?_
      refine zJ J J (zCh J) ?_
      refine px_c J J J J J c3 ?_
      refine zr ?_
      refine zX (by kernel_rfl) ?_
      cases hw : zFk l nx E i with
      | true =>
       have hres : zBo l nx E i = 1 + (l.getD i zo).turn := by unfold zBo; rw [hw, if_pos rfl]; rfl
       refine rn5 ?_
       refine zf (by kernel_rfl) ?_
       refine zl (fuel := 1) [0, 1, 2, 3, 4, 5, 6, 7, 8, 9, 10, 11] [(15, .rp (.box [iN i]) 0 0), (1, .ptr 2 0 0), (4, .int .i64 ((n : Int) + 1)), (5, .sl 4 0 f.length), (13, .sl 5 0 f.length), (116, .sl 4 0 f.length), (117, iN f.length), (118, iN j), (14, iN j)] ⟨J, J, J, J, J, J, J, J, J, trivial⟩ (by kernel_rfl) (by decide) J J ?_
       refine zJ J J (zF J) ?_
       refine zJ J J (zF J) ?_
       refine zJ J J (zT J J J J J) ?_
       refine zJ J J (zZ J) ?_
       refine zJ J J (zM J J J J J J) ?_
       refine zJ J J (zT J J J J J) ?_
       refine zJ J J (zD J J J J) ?_
       refine zJ J J (zg J J J J (by first | (simp only [Nat.zero_add, Int.toNat_natCast, Int.toNat_zero]; exact J) | exact J) (by omega)) ?_
       refine zJ J J (zI J J J J J J) ?_
       refine zJ J J (zA5 J J J J) ?_
       refine zJ J J (zA1 J J (by omega)) ?_
       refine zJ J J (zj J J J J J (by first | (simp only [Nat.zero_add, Int.toNat_natCast, Int.toNat_zero]; exact J) | exact J) (by omega)) ?_
       refine zr ?_
       refine zG (is := [12]) (by kernel_rfl) (by simp) J ⟨fun o ho => ?_, trivial⟩
       all_goals (cases ho)
       have hjr2 : j < ((zEj l nx E f j).set j (2 - (l.getD i zo).turn)).length := by rw [List.length_set]; exact hjr
       refine rn7 ?_
       refine zX (by kernel_rfl) ?_
       refine rn5 ?_
       refine zS ⟨j + 1, by omega, by omega, ⟨J, J, J, J, J, J, J, trivial⟩, ?_⟩
       rw [hsu, hres]
       show [_, _, _, _, _, some (AObj.mk _ (Cells.ints .i64 (((zEj l nx E f j).set j (2 - (l.getD i zo).turn)).set j (1 + (l.getD i zo).turn))))] = _
       rw [List.set_set]
      | false =>
       have hres : zBo l nx E i = 2 - (l.getD i zo).turn := by unfold zBo; rw [hw, if_neg (by decide)]; rfl
       refine rn5 ?_
       refine zS ⟨j + 1, by omega, by omega, ⟨J, J, J, J, J, J, J, trivial⟩, ?_⟩
       rw [hsu, hres]; rfl
     ·have hj' : j = f.length := by omega
      subst hj'
      refine rn5 ?_
      refine zw (ι := Nat) (fun j => [(1, .ptr 2 0 0), (4, .int .i64 ((n : Int) + 1)), (13, .sl 5 0 f.length), (157, .sl 4 0 f.length), (158, iN f.length), (159, iN j)]) (fun j => slH r l nx (zCT (fun i => (zBo l nx E i, ((n + 1 : Nat) : Int))) (f.take j) E) [zFq f, resO (zEj l nx E f f.length)]) (fun j => j ≤ f.length) (fun j => f.length - j) 0 ⟨⟨J, J, J, J, J, J, trivial⟩, J, Nat.zero_le _⟩ ?_
      intro j hj
      refine rn4 ?_
      refine zH J (fun q => ?_) (fun q => ?_)
      ·have hj' : j < f.length := by omega
       have hjr : j < (zEj l nx E f f.length).length := by omega
       have hil := hlt j hj'
       have hgi : (f.map Int.ofNat).getD j 0 = ((f.getD j 0 : Nat) : Int) := by simp [List.getD, List.getElem?_eq_getElem hj']
       have hrf := zMg (l := l) (nx := nx) (E := E) hj'
       have hsn := zJq (fun i => (zBo l nx E i, ((n + 1 : Nat) : Int))) (f.take j) (f.getD j 0) E
       rw [← zu _ 0 j hj'] at hsn
       have hsl := zC4 (fun i => (zBo l nx E i, ((n + 1 : Nat) : Int))) (f.take j) E
       have hsl2 := zC4 (fun i => (zBo l nx E i, ((n + 1 : Nat) : Int))) (f.take (j + 1)) E
       generalize hi : f.getD j 0 = i at hil hgi hrf hsn
       generalize hA : zCT (fun i => (zBo l nx E i, ((n + 1 : Nat) : Int))) (f.take j) E = A at hsl hsn
       generalize hA2 : zCT (fun i => (zBo l nx E i, ((n + 1 : Nat) : Int))) (f.take (j + 1)) E = A2 at hsn hsl2
       refine rn20 ?_
       refine zK J ?_
       repeat (first | refine zA (zF rfl) ?_ | refine zA (zO rfl) ?_ | refine zC ?_ | refine zB ?_ | refine zA (zj rfl rfl rfl rfl rfl (by first | (simp only [Nat.zero_add, Int.toNat_natCast, Int.toNat_zero]; exact rfl) | exact rfl) (by omega)) ?_ | refine zA (zAy rfl rfl rfl rfl (by first | assumption | omega)) ?_)
       rw [hgi]
       skip
       refine zf (by kernel_rfl) ?_
       refine zl (fuel := 1) [0, 1, 2, 3, 4, 5, 6, 7, 8, 9, 10, 11] [(1, .ptr 2 0 0), (4, .int .i64 ((n : Int) + 1)), (13, .sl 5 0 f.length), (157, .sl 4 0 f.length), (158, iN f.length), (159, iN j), (16, iN j), (17, iN i)] ⟨J, J, J, J, J, J, J, J, trivial⟩ (by kernel_rfl) (by decide) J J ?_
       refine zJ J J (zT J J J J J) ?_
       refine zJ J J (zZ J) ?_
       refine zJ J J (zM J J J J J J) ?_
       refine zJ J J (zT J J J J J) ?_
       refine zJ J J (zF J) ?_
       refine zJ J J (zF J) ?_
       refine zJ J J (zF J) ?_
       refine zJ J J (zj J J J J J (by first | (simp only [Nat.zero_add, Int.toNat_natCast, Int.toNat_zero]; exact J) | exact J) (by omega)) ?_
       refine zJ J J (zAy J J J J (by first | assumption | omega)) ?_
       refine zJ J J (zF J) ?_
       refine zJ J J (zCu J J J J J J) ?_
       refine zJ J J (zj J J J J J (by first | (simp only [Nat.zero_add, Int.toNat_natCast, Int.toNat_zero]; exact J) | exact J) (by omega)) ?_
       refine zr ?_
       refine zG (is := [12]) (by kernel_rfl) (by simp) J ⟨fun o ho => ?_, trivial⟩
       all_goals (cases ho)
       refine zKv (zBo l nx E i, ((n + 1 : Nat) : Int)) J J J J J (by show i < A.length; omega) (by decide) (fun j' hj' => ?_) ?_
       ·match j', hj' with
        | 0, _ => show AV.int .i64 (zBo l nx E i) = AV.int .i64 ((zEj l nx E f f.length).getD j 0); rw [hrf]
        | 1, _ => rfl
       refine rn1 ?_
       refine zX (by kernel_rfl) ?_
       refine rn5 ?_
       refine zS ⟨j + 1, by omega, by omega, ⟨J, J, J, J, J, J, trivial⟩, ?_⟩
       show _ = slH r l nx (zCT (fun i => (zBo l nx E i, ((n + 1 : Nat) : Int))) (f.take (j + 1)) E) [zFq f, resO (zEj l nx E f f.length)]
       rw [hA2, hsn]
       show _ = [none, some (AObj.mk _ (.box (tbF r l nx (.sl 3 0 (List.set _ _ _).length)))), _, _, _, _]
       rw [List.length_set]; rfl
      ·have hj' : j = f.length := by omega
       subst hj'
       rw [List.take_length, hstep, ← hst]
       refine zEk ?_
       refine zBy (slH r l nx (ze l nx (zAE r l) (n + 1)) []) [zFq f, resO (zEj l nx E f f.length)] [(1, .ptr 2 0 0), (4, .int .i64 ((n : Int) + 1))] J ⟨J, J, trivial⟩ (fun h q => Nat.lt_of_lt_of_le (hfx h q) (by show 2 ≤ 4; decide)) (zF5 r l nx _) J ?_
       refine rn3 ?_
       refine zS ⟨n + 1, by rw [hst]; omega, by rw [hst]; omega, ⟨J, J, trivial⟩, J⟩
abbrev zEi (r : Go.Ax.Gm.Rules) (l : List Pos) (nx : List (List Nat)) : zP :=
 [some ⟨95, .mp (zB6 l) (zCZ l.length)⟩, some ⟨97, .box (tbC r l.length nx.length .nil)⟩, some ⟨35, zCq l⟩, some ⟨23, zDE nx⟩]
theorem zFF (r : Go.Ax.Gm.Rules) (l : List Pos) (nx : List (List Nat)) : ∀ (h : Nat) (o : AObj), (zEi r l nx)[h]? = some (some o) → zAz (zEi r l nx).length o.c :=
 zCB (zH1 l _) (zCB (zHP rfl) (zCB (zJG l) (zCB (zIL nx) zBY)))
/-- (*retro.Table).add -/
theorem add0_ok (r : Go.Ax.Gm.Rules) (hv : ValidR r) (l : List Pos) (nx : List (List Nat)) (p : Pos) (S : Sound r p) (G : ∀ q ∈ l, Sound r q ∧ q.quiet = 0) (hl : l.length ≤ 3001) :
 zd Tryz.prog 78 [.ptr 1 0 0, poA p] (zEi r l nx) (fun h => h < 4 ∧ h ≠ 2) (fun v H => v = iN (zBA l p) ∧ H = zEi r (zCc l p) nx) := by
 have hc : zd Tryz.prog 78 [.ptr 1 0 0, poA p] (zEi r l nx) (fun h => h < 4 ∧ h ≠ 2) (fun v H => v = iN (zBA l p) ∧ ∃ x, H = zEi r (zCc l p) nx ++ [x]) := by
  refine zL (P := Tryz.prog) (fn := Tryz.f78) J J (by kernel_rfl) J (fun c hR hfix => ?_)
  refine rn6 ?_
  refine zQ J J J (zFP hv S) ?_
  refine rn8 ?_
  by_cases hi : zBA l p < l.length
  ·have hadd : zCc l p = l := by unfold zCc; rw [if_pos hi]
   rw [hadd] at hR
   refine zA (zEX J (.str J) J J J J (zCz l) (zBA l p) (zGt hi) (zG2 hi)) ?_
   refine rn5 ?_
   exact zN hR J ⟨J, _, J⟩
  ·have hadd : zCc l p = l ++ [zB1 p] := by unfold zCc; rw [if_neg hi]
   have hidx : zBA l p = l.length := by have := zJa l p; omega
   rw [hadd, hidx] at hR
   refine zA (zDz J (.str J) J J J J J J J J (zCz l) (zE0 hv S G hi)) ?_
   repeat (first | refine zA (zF rfl) ?_ | refine zA (zO rfl) ?_ | refine zC ?_ | refine zB ?_ | refine zY ?_ | refine zK rfl ?_ | refine zAQ rfl ?_ | refine zA (zT rfl rfl rfl rfl rfl) ?_ | refine zA (zDd rfl) ?_ | refine zA (zAj rfl rfl) ?_ | refine zA (zBB rfl rfl rfl) ?_ | refine zA (zZ rfl) ?_ | refine zA (zM rfl rfl rfl rfl rfl rfl) ?_ | refine zAG rfl rfl rfl rfl rfl rfl rfl Nat.zero_lt_one ?_)
   refine zEp J (.str J) J J J J J (zCz l) (zE0 hv S G hi) ?_
   refine rn0 ?_
   have hll : (l ++ [zB1 p]).length = l.length + 1 := by rw [List.length_append]; rfl
   refine zAi [some ⟨95, .mp (zB6 (l ++ [zB1 p])) (zCZ (l.length + 1))⟩, some ⟨97, .box (tbC r l.length nx.length .nil)⟩, some ⟨35, zCq l⟩, some ⟨23, zDE nx⟩, some ⟨35, .box (poC (zB1 p))⟩] (by rw [← zI7, ← zJL]; rfl) ?_
   refine zf (by kernel_rfl) ?_
   refine zW 0 J (by kernel_rfl) (by kernel_rfl) (by kernel_rfl) J (zF J) J ?_
   refine zl (fuel := 4) [1, 2, 3, 4, 5, 6] [(33, .ptr 1 0 0), (0, .ptr 1 0 0), (3, .ptr 4 0 0), (6, iN l.length)] ⟨J, J, J, J, trivial⟩ (by kernel_rfl) (by decide) J J ?_
   refine zJ J J (zF J) ?_
   refine zJ J J (zZ J) ?_
   refine zJ J J (zM J J J J J J) ?_
   refine zJ J J (zT J J J J J) ?_
   refine zJ J J (qpp J J J J J J J) ?_
   refine px_b J J J J J J J J J J J J J ?_
   refine zr ?_
   refine zG (is := [7]) (by kernel_rfl) (by simp) J ⟨fun o ho => ?_, trivial⟩
   all_goals (cases ho)
   refine zBX [zB1 p] J J J J J J J J J J J J J (Nat.le_refl _) (fun k' j hk' hj => ?_) (by show (l.length + 1) * 88 ≤ _ ∧ _; omega) (fun a j k _ => zDp a j k) (by rw [hfix]; exact fun h => h.2 J) ?_
   ·obtain rfl : k' = 0 := Nat.lt_one_iff.1 hk'
    match j, hj with
    | 0, _ => rfl
    | 1, _ => rfl
    | 2, _ => rfl
    | 3, _ => rfl
    | 4, _ => rfl
   refine zAk [some ⟨95, .mp (zB6 (l ++ [zB1 p])) (zCZ (l.length + 1))⟩, some ⟨97, .box ((tbC r l.length nx.length .nil).set 11 .any)⟩, some ⟨35, zCq (l ++ [zB1 p])⟩, some ⟨23, zDE nx⟩, some ⟨35, .box (poC (zB1 p))⟩] ?_ ?_
   ·show [some (AObj.mk _ ((Cells.mp _ _).forget 2)), some (AObj.mk _ ((Cells.box _).forget 2)), some (AObj.mk _ (zCq (l ++ [zB1 p]))), some (AObj.mk _ ((zDE nx).forget 2)), some (AObj.mk _ ((Cells.box (poC (zB1 p))).forget 2))] = _
    rw [zDm, zB9 (fun a j => zDr a j 2)]; rfl
   refine rn1 ?_
   refine zW 8 J (by kernel_rfl) (by kernel_rfl) (by kernel_rfl) J (zZ J) J ?_
   refine zW 9 J (by kernel_rfl) (by kernel_rfl) (by kernel_rfl) J (zM J J J J J J) J ?_
   refine zG (is := [10]) (by kernel_rfl) (by simp) J ⟨fun o ho => ?_, trivial⟩
   all_goals (cases ho)
   refine rn9 ?_
   refine zX (by kernel_rfl) ?_
   refine rn0 ?_
   exact zN hR J ⟨J, _, by show _ = [_, _, _, _, _]; rw [hll]; rfl⟩
 exact zd.cutR hc (fun v H ⟨e1, x, e2⟩ => ⟨_, [x], e2, fun h q => q.1, zFF _ _ _, e1 ▸ J, e1, J⟩)
theorem zGR {r : Go.Ax.Gm.Rules} (hv : ValidR r) {p : Pos} (S : Sound r p) : (zAX r p).length ≤ 10000 := by
 have h1 := zGz hv S p.cells.length
 have h2 := (zAt hv S).c
 have h3 : (rawM r p).length ≤ 384 + 112 * p.cells.length := h1
 unfold zAX
 have h4 := zG8 ((rawM r p).mergeSort leM)
 rw [List.length_mergeSort] at h4
 omega
theorem zGv {r : Go.Ax.Gm.Rules} (hv : ValidR r) {p : Pos} (S : Sound r p) : (zA0 r p).length ≤ 10000 := by
 unfold zA0
 split
 ·exact Nat.zero_le _
 ·exact zGR hv S
abbrev zCP (T : Tab) : AV := .rp (.box (tbF T.r T.l T.nx (.ro (zAr T.E) 0 T.E.length))) 0 0
def zE3 (r : Go.Ax.Gm.Rules) : AV := if zC9 r ≠ 0 then .nilp else match zEC r with
 | some x => zCP (zFE r x)
 | none => .nilp
theorem zGy : ∀ {l : List AV}, (∀ x ∈ l, noRef x = true) → noRef.noRefs l = true
 | [], _ => rfl
 | x :: l, h => by
  show (noRef x && noRef.noRefs l) = true
  rw [h x (List.mem_cons_self ..), zGy (fun y hy => h y (List.mem_cons_of_mem _ hy))]; rfl
theorem zJb (l : List Pos) (n : Nat) : zAF (.mp (zB6 l) (zCZ n)) :=
 ⟨zGy (fun x hx => by obtain ⟨p, _, rfl⟩ := List.mem_map.1 hx; rfl), zGy (fun x hx => by obtain ⟨p, _, rfl⟩ := List.mem_map.1 hx; rfl)⟩
theorem zKZ (l : List Pos) : zAF (zCq l) := zBI (fun a j hj => by
 match j, hj with
 | 0, _ => rfl
 | 1, _ => rfl
 | 2, _ => rfl
 | 3, _ => rfl
 | 4, _ => rfl)
theorem zJp (nx : List (List Nat)) : zAF (zDE nx) := zBI (fun a j hj => by
 obtain rfl : j = 0 := Nat.lt_one_iff.1 hj
 rfl)
theorem zGI (E : List Ent) : zAF (zAr E) := zBI (fun a j hj => by
 match j, hj with
 | 0, _ => rfl
 | 1, _ => rfl)
/-- retro.New, refused -/
theorem new_no (r : Go.Ax.Gm.Rules) (hr : Lens r) (h : zAm r ≠ 0) : zn Tryz.prog 48 [ruA r] (.tup [.nilp, .int .i64 (zAm r)]) := by
 refine zd.value0 (zL (P := Tryz.prog) (fn := Tryz.f48) J J (by kernel_rfl) J (fun c hR hfix => ?_)) (fix := fun _ => False) (fun _ h => h) J J
 refine rn6 ?_
 refine zQ J J J (begin_no r hr h) ?_
 refine rn4 ?_
 refine zV (poC zo) J J J J J J J ?_
 refine rn3 ?_
 refine zH J (fun q => ?_) (fun q => absurd h q)
 refine rn2 ?_
 exact zN hR J J
/-- retro.New, a limit of quiet moves -/
theorem zMV (r : Go.Ax.Gm.Rules) (hr : Lens r) (h : zAm r = 0) (hq : r.quiet ≠ 0) : zn Tryz.prog 48 [ruA r] (.tup [.nilp, .int .i64 1]) := by
 refine zd.value0 (zL (P := Tryz.prog) (fn := Tryz.f48) J J (by kernel_rfl) J (fun c hR hfix => ?_)) (fix := fun _ => False) (fun _ h => h) J J
 refine rn6 ?_
 refine zQ J J J (zJ2 r hr h) ?_
 refine rn4 ?_
 refine zV (poC (zBH r)) J J J J J J J ?_
 refine rn5 ?_
 refine zH J (fun q => ?_) (fun q => absurd hq q)
 refine rn2 ?_
 exact zN hR J J
/-- retro.New -/
theorem new_run (r : Go.Ax.Gm.Rules) (hr : Lens r) (h : zAm r = 0) (hq : r.quiet = 0) : zn Tryz.prog 48 [ruA r] (.tup [zE3 r, .int .i64 (zC9 r)]) := by
 have hE : zC9 r = match zEC r with | none => 2 | some _ => 0 := by
  unfold zC9
  rw [if_neg (fun c => c h), if_neg (fun c => c hq)]
  cases zEC r <;> rfl
 have hnone : zEC r = none → zC9 r = 2 ∧ zE3 r = .nilp := fun q => by
  have e : zC9 r = 2 := by rw [hE, q]
  exact ⟨e, by unfold zE3; rw [e, if_pos (by decide)]⟩
 have hsome : ∀ x, zEC r = some x → zC9 r = 0 ∧ zE3 r = zCP (zFE r x) := fun x q => by
  have e : zC9 r = 0 := by rw [hE, q]
  exact ⟨e, by unfold zE3; rw [e, if_neg (by decide), q]⟩
 have hv := zBL h
 refine zd.value0 (zL (P := Tryz.prog) (fn := Tryz.f48) J J (by kernel_rfl) J (fun c hR hfix => ?_)) (fix := fun _ => False) (fun _ h => h) ?_ ?_
 rotate_left
 ·rfl
 ·show (noRef (zE3 r) && true) = true
  rcases hx : zEC r with _ | x
  ·rw [(hnone hx).2]; rfl
  ·rw [(hsome x hx).2]; rfl
 refine zY ?_
 repeat (first | refine zA (zO rfl) ?_ | refine zC ?_ | refine zB ?_ | refine zK rfl ?_ | refine zAn rfl rfl ?_)
 refine zB2 1 [] J ⟨J, trivial⟩ trivial J hfix ?_
 refine rn6 ?_
 refine zQ J J J (zJ2 r hr h) ?_
 refine rn4 ?_
 refine zV (poC (zBH r)) J J J J J J J ?_
 refine zAv ?_
 refine zB2 4 [(1, .rp (.box (ruC r)) 0 0), (5, .int .i64 0)] J ⟨J, J, J, trivial⟩ ⟨J, J, trivial⟩ J hfix ?_
 refine zBg ?_
 refine zH J (fun q => absurd hq q) (fun q => ?_)
 refine rn6 ?_
 refine zQ J J J (copyR_ok r (zKg hv)) ?_
 skip
 refine zKt ?_
 skip
 refine zA (q_buildM J J J J J J) ?_
 repeat (first | refine zA (zO rfl) ?_ | refine zC ?_ | refine zB ?_ | refine zY ?_ | refine zAn rfl rfl ?_)
 refine zAi [some ⟨95, .mp (zB6 []) (zCZ 0)⟩, some ⟨97, .box [.str r.name, .int .i64 r.w, .int .i64 r.h, .ro (zAd r.pcs) 0 r.pcs.length, zt r.start, .bool r.falls, .bool r.keeps, .ro (zEv r.ends) 0 r.ends.length, .int .i64 r.blocked, .int .i64 r.quiet, .int .i64 r.rep, .nil, .nil, .nil, .mp 0]⟩] J ?_
 refine zDO 1 ⟨35, zCq []⟩ (.box [.str r.name, .int .i64 r.w, .int .i64 r.h, .ro (zAd r.pcs) 0 r.pcs.length, zt r.start, .bool r.falls, .bool r.keeps, .ro (zEv r.ends) 0 r.ends.length, .int .i64 r.blocked, .int .i64 r.quiet, .int .i64 r.rep, .sl 2 0 0, .nil, .nil, .mp 0]) J J J J (fun i j hi hj => by
  obtain rfl : i = 0 := Nat.lt_one_iff.1 hi
  have hj : j < 15 := hj
  match j, hj with
  | 0, _ => exact .inl rfl
  | 1, _ => exact .inl rfl
  | 2, _ => exact .inl rfl
  | 3, _ => exact .inl rfl
  | 4, _ => exact .inl rfl
  | 5, _ => exact .inl rfl
  | 6, _ => exact .inl rfl
  | 7, _ => exact .inl rfl
  | 8, _ => exact .inl rfl
  | 9, _ => exact .inl rfl
  | 10, _ => exact .inl rfl
  | 11, _ => exact .inr ⟨rfl, rfl⟩
  | 12, _ => exact .inl rfl
  | 13, _ => exact .inl rfl
  | 14, _ => exact .inl rfl) ?_
 refine zDO 1 ⟨23, zDE []⟩ (.box [.str r.name, .int .i64 r.w, .int .i64 r.h, .ro (zAd r.pcs) 0 r.pcs.length, zt r.start, .bool r.falls, .bool r.keeps, .ro (zEv r.ends) 0 r.ends.length, .int .i64 r.blocked, .int .i64 r.quiet, .int .i64 r.rep, .sl 2 0 0, .sl 3 0 0, .nil, .mp 0]) J J J J (fun i j hi hj => by
  obtain rfl : i = 0 := Nat.lt_one_iff.1 hi
  have hj : j < 15 := hj
  match j, hj with
  | 0, _ => exact .inl rfl
  | 1, _ => exact .inl rfl
  | 2, _ => exact .inl rfl
  | 3, _ => exact .inl rfl
  | 4, _ => exact .inl rfl
  | 5, _ => exact .inl rfl
  | 6, _ => exact .inl rfl
  | 7, _ => exact .inl rfl
  | 8, _ => exact .inl rfl
  | 9, _ => exact .inl rfl
  | 10, _ => exact .inl rfl
  | 11, _ => exact .inl rfl
  | 12, _ => exact .inr ⟨rfl, rfl⟩
  | 13, _ => exact .inl rfl
  | 14, _ => exact .inl rfl) ?_
 refine zAi (zEi r [] []) J ?_
 have nofix : ∀ (h n : Nat), c.fix h → h < n := fun h n q => by rw [hfix] at q; exact q.elim
 refine zBy (zEi r [] []) [] [(4, .rp (.box (poC (zBH r))) 0 0), (6, .ptr 1 0 0)] J ⟨J, J, trivial⟩ (fun h q => nofix h _ q) (zFF _ _ _) J ?_
 refine rn6 ?_
 refine zEo 2 J J J (add0_ok r hv [] [] (zBH r) (zEr hv) (fun q hq => absurd hq (by simp)) (Nat.zero_le _)) (fun h q1 q2 => ⟨q1, q2⟩) (fun h q => q.1) (by rw [hfix]; exact fun h => h) ?_
 rintro v H ⟨rfl, rfl⟩
 refine ⟨Nat.le_refl _, ?_⟩
 refine rn1 ?_
 refine zw (ι := Nat × List Pos × List (List Nat)) (fun x => [(6, .ptr 1 0 0), (7, iN x.1)]) (fun x => zEi r x.2.1 x.2.2) (fun x => Grown r x.1 x.2.1 x.2.2 ∧ Go.Ax.Gm.grow r (3001 - x.1) x.1 x.2.1 x.2.2 = zEC r) (fun x => 3001 - x.1) (0, [zBH r], []) ⟨⟨J, J, trivial⟩, J, zHD hv, J⟩ ?_
 rintro ⟨i, l, nx⟩ ⟨G, hg⟩
 have G : Grown r i l nx := G
 have hg : Go.Ax.Gm.grow r (3001 - i) i l nx = zEC r := hg
 change Ax _ _ _ _ [(6, .ptr 1 0 0), (7, iN i)] (zEi r l nx)
 have hmost := G.most
 have hle := G.le
 repeat (first | refine zA (zF rfl) ?_ | refine zC ?_ | refine zB ?_ | refine zY ?_ | refine zK rfl ?_ | refine zA (zT rfl rfl rfl rfl rfl) ?_ | refine zA (zBs rfl rfl) ?_ | refine zA (zBB rfl rfl rfl) ?_ | refine zA (zZ rfl) ?_ | refine zA (zM rfl rfl rfl rfl rfl rfl) ?_)
 refine zH J (fun q => ?_) (fun q => ?_)
 ·have hi : i < l.length := by omega
  have S := (G.snd (l.getD i zo) (by
   rw [show l.getD i zo = l[i] by simp [List.getD, hi]]
   exact List.getElem_mem hi)).1
  have hml := zGv hv S
  refine rn20 ?_
  refine zK J ?_
  refine zAv ?_
  refine zBa 8 ⟨3, .ints .i64 []⟩ J J ?_
  refine zAi (zIW r l nx []) J ?_
  skip
  refine zf (by kernel_rfl) ?_
  refine zl (fuel := 0) [0, 1, 2, 3, 4, 5, 6, 7, 8, 9, 10, 11, 12, 13] [(6, .ptr 1 0 0), (7, iN i), (8, .sl 4 0 0)] ⟨J, J, J, trivial⟩ (by kernel_rfl) (by decide) J J ?_
  refine zJ J J (zF J) ?_
  refine zJ J J (zZ J) ?_
  refine zJ J J (zM J J J J J J) ?_
  refine zJ J J (qpp J J J J J J J) ?_
  refine zJ J J (zF J) ?_
  refine zJ J J (zZ J) ?_
  refine zJ J J (zM J J J J J J) ?_
  refine zJ J J (zT J J J J J) ?_
  refine zJ J J (zF J) ?_
  refine zJ J J (zj J J J J J (by first | (simp only [Nat.zero_add, Int.toNat_natCast, Int.toNat_zero]; exact J) | exact J) (by omega)) ?_
  refine zJ J J (qpp J J J J J J J) ?_
  refine zCN J J J J J (zHA r hv (l.getD i zo) S) ?_
  refine zJ J J (zBB J J J) ?_
  refine zJ J J (zF J) ?_
  refine zr ?_
  refine zX (by kernel_rfl) ?_
  refine rn1 ?_
  have hok : ∀ m ∈ zA0 r (l.getD i zo), MvOK r (l.getD i zo) m ∧ Sound r (zAY r (l.getD i zo) m) := fun m hm => ⟨zGS hv S hm, zET hv S (zGS hv S hm)⟩
  have hstep := fun l' ix (h : zCF r (l.getD i zo) (zA0 r (l.getD i zo)) l [] = some (l', ix)) => zHw G hi (fun m hm => (hok m hm).2) h
  have hgN : zCF r (l.getD i zo) (zA0 r (l.getD i zo)) l [] = none → ∀ f, Go.Ax.Gm.grow r (f + 1) i l nx = none := fun a f => by rw [Go.Ax.Gm.grow, if_pos hi, a]
  have hgS : ∀ x, zCF r (l.getD i zo) (zA0 r (l.getD i zo)) l [] = some x → ∀ f, Go.Ax.Gm.grow r (f + 1) i l nx = Go.Ax.Gm.grow r f (i + 1) x.1 (nx ++ [x.2]) := fun x a f => by rw [Go.Ax.Gm.grow, if_pos hi, a]
  generalize hms : zA0 r (l.getD i zo) = ms at hok hstep hgN hgS hml
  refine zw (ι := Nat × List Pos × List Nat) (fun x => [(6, .ptr 1 0 0), (7, iN i), (8, .sl 4 0 x.2.2.length), (50, zBq ms), (51, iN ms.length), (52, iN x.1)]) (fun x => zIW r x.2.1 nx (x.2.2.map Int.ofNat)) (fun x => x.1 ≤ ms.length ∧ zCF r (l.getD i zo) (ms.drop x.1) x.2.1 x.2.2 = zCF r (l.getD i zo) ms l [] ∧ l <+: x.2.1 ∧ (∀ q ∈ x.2.1, Sound r q ∧ q.quiet = 0) ∧ x.2.1.length ≤ 3000 ∧ x.2.2.length = x.1) (fun x => ms.length - x.1) (0, l, []) ⟨⟨J, J, J, J, J, J, trivial⟩, J, Nat.zero_le _, J, List.prefix_refl _, G.snd, hmost, J⟩ ?_
  rintro ⟨k, l', ix⟩ ⟨hk, ha, hpre, hsnd, hl3, hix⟩
  have hk : k ≤ ms.length := hk
  have ha : zCF r (l.getD i zo) (ms.drop k) l' ix = zCF r (l.getD i zo) ms l [] := ha
  have hpre : l <+: l' := hpre
  have hsnd : ∀ q ∈ l', Sound r q ∧ q.quiet = 0 := hsnd
  have hl3 : l'.length ≤ 3000 := hl3
  have hix : ix.length = k := hix
  change Ax _ _ _ _ [(6, .ptr 1 0 0), (7, iN i), (8, .sl 4 0 ix.length), (50, zBq ms), (51, iN ms.length), (52, iN k)] (zIW r l' nx (ix.map Int.ofNat))
  have hli : (ix.map Int.ofNat).length = ix.length := List.length_map ..
  refine rn4 ?_
  refine zH J (fun q2 => ?_) (fun q2 => ?_)
  ·have hk' : k < ms.length := by omega
   have hd : ms.drop k = ms.getD k mv0 :: ms.drop (k + 1) := by rw [List.drop_eq_getElem_cons hk', zDk mv0 hk']
   have hm := hok (ms.getD k mv0) (zAp mv0 hk')
   rw [hd, zCF] at ha
   have hpi : l'.getD i zo = l.getD i zo := zE6 hpre hi
   have hi' : i < l'.length := Nat.lt_of_lt_of_le hi hpre.length_le
   rw [← hpi] at hm S
   generalize hmk : ms.getD k mv0 = m at ha hm
   refine zF1 ?_
   repeat (refine zAN rfl rfl rfl ?_)
   refine zV (mvC m) J J J J J (by rw [← hmk]; rfl) J ?_
   refine rn0 ?_
   refine zEK (zIW r l' nx (ix.map Int.ofNat)) 10 [(6, .ptr 1 0 0), (7, iN i), (8, .sl 4 0 ix.length), (50, zBq ms), (51, iN ms.length), (52, iN k)] J J ⟨J, J, J, J, J, J, trivial⟩ ⟨J, J, J, J, J, J, J, trivial⟩ (zIX _ _ _ _) J (fun h q => nofix h _ q) ?_
   refine zf (by kernel_rfl) ?_
   refine zW 0 J (by kernel_rfl) (by kernel_rfl) (by kernel_rfl) J (zF J) J ?_
   refine zl (fuel := 4) [1, 2, 3, 4, 5, 6, 7, 8, 9, 10, 11, 12, 13, 14] [(56, .sl 4 0 ix.length), (10, .rp (.box (mvC m)) 0 0), (6, .ptr 1 0 0), (7, iN i), (8, .sl 4 0 ix.length), (50, zBq ms), (51, iN ms.length), (52, iN k)] ⟨J, J, J, J, J, J, J, J, trivial⟩ (by kernel_rfl) (by decide) J J ?_
   refine zJ J J (zF J) ?_
   refine zJ J J (zF J) ?_
   refine zJ J J (zZ J) ?_
   refine zJ J J (zM J J J J J J) ?_
   refine zJ J J (qpp J J J J J J J) ?_
   refine zJ J J (zF J) ?_
   refine zJ J J (zZ J) ?_
   refine zJ J J (zM J J J J J J) ?_
   refine zJ J J (zT J J J J J) ?_
   refine zJ J J (zF J) ?_
   refine zJ J J (zj J J J J J (by first | (simp only [Nat.zero_add, Int.toNat_natCast, Int.toNat_zero]; exact J) | exact J) (by omega)) ?_
   refine zJ J J (qpp J J J J J J J) ?_
   refine zJ J J (zAB J J J J J J) ?_
   refine zCN J J J J J (zLn r hv (l'.getD i zo) S m hm.1) ?_
   refine zr ?_
   refine zG (is := [15]) (by kernel_rfl) (by simp) J ⟨fun o ho => ?_, trivial⟩
   all_goals (cases ho)
   refine zEo 2 J J J (add_ok r hv l' nx (ix.map Int.ofNat) (zAY r (l'.getD i zo) m) hm.2 hsnd (by omega)) (fun h q1 q2 => ⟨q1, q2⟩) (fun h q => q.1) (by rw [hfix]; exact fun h => h) ?_
   rintro v H ⟨rfl, rfl⟩
   refine ⟨Nat.le_refl _, ?_⟩
   rw [hpi]
   generalize hP : zAY r (l.getD i zo) m = P at ha hm
   have hadd := zLZ l' P
   refine rn1 ?_
   refine zG (is := [16]) (by kernel_rfl) (by simp) J ⟨fun o ho => ?_, trivial⟩
   all_goals (cases ho)
   refine rn3 ?_
   refine zG (is := [17]) (by kernel_rfl) (by simp) J ⟨fun o ho => ?_, trivial⟩
   all_goals (cases ho)
   refine zAf J J J J J J J J J hli J J (by show 0 + 1 ≤ 1; omega) J (by show (ix.length + 1) * 8 ≤ _ ∧ _; omega) (fun i j _ _ => rfl) (by rw [hfix]; exact fun h => h) ?_
   refine zAk (zIW r (zCc l' P) nx ((ix ++ [zBA l' P]).map Int.ofNat)) ?_ ?_
   ·show [some (AObj.mk _ ((Cells.mp _ _).forget 4)), some (AObj.mk _ ((Cells.box _).forget 4)), some (AObj.mk _ ((zCq _).forget 4)), some (AObj.mk _ ((zDE nx).forget 4)), _] = _
    rw [zDm, zB9 (fun a j => zDp a j 4), zB9 (fun a j => zDr a j 4)]
    show _ = [_, _, _, _, some (AObj.mk _ (Cells.ints .i64 ((ix ++ [zBA l' P]).map Int.ofNat)))]
    rw [List.map_append]; rfl
   refine rn1 ?_
   refine zG (is := [18]) (by kernel_rfl) (by simp) J ⟨fun o ho => ?_, trivial⟩
   all_goals (cases ho)
   refine rn1 ?_
   refine zX (by kernel_rfl) ?_
   refine rn15 ?_
   refine zH J (fun g => ?_) (fun g => ?_)
   ·rw [if_pos (by omega)] at ha
    have hN : zEC r = none := by
     rw [← hg, show 3001 - i = (3000 - i) + 1 by omega]
     exact hgN ha.symm _
    refine rn6 ?_
    refine zN hR J ?_
    show _ = AV.tup [zE3 r, .int .i64 (zC9 r)]
    rw [(hnone hN).1, (hnone hN).2]; rfl
   ·rw [if_neg (by omega)] at ha
    have hmP : Sound r P := by rw [← hP, ← hpi]; exact hm.2
    refine rn5 ?_
    refine zS ⟨(k + 1, zCc l' P, ix ++ [zBA l' P]), ⟨by show k + 1 ≤ ms.length; omega, ha, hpre.trans (zLa l' P), zIp hmP hsnd, by show (zCc l' P).length ≤ 3000; omega, by show (ix ++ [zBA l' P]).length = k + 1; rw [List.length_append, hix]; rfl⟩, by show ms.length - (k + 1) < ms.length - k; omega, ⟨J, J, ?_, J, J, J, trivial⟩, J⟩
    show some (AV.sl 4 0 (ix.length + 1)) = some (AV.sl 4 0 (ix ++ [zBA l' P]).length)
    rw [List.length_append]; rfl
  ·have hk' : k = ms.length := by omega
   subst hk'
   rw [List.drop_length, zCF] at ha
   have ha := ha.symm
   refine zAv ?_
   refine zDH 4 8 ix.length [(6, .ptr 1 0 0), (7, iN i)] J zAL J (by show ix.length ≤ (ix.map Int.ofNat).length; rw [hli]; exact Nat.le_refl _) ⟨J, J, trivial⟩ ?_
   have hnl : (nx ++ [ix]).length = nx.length + 1 := by rw [List.length_append]; rfl
   have hnx : nx.length ≤ 3000 := by have := G.len; omega
   refine zK J ?_
   repeat (first | refine zA (zF rfl) ?_ | refine zA (zT rfl rfl rfl rfl rfl) ?_ | refine zA (zZ rfl) ?_ | refine zA (zM rfl rfl rfl rfl rfl rfl) ?_ | refine zAA rfl rfl rfl rfl rfl rfl rfl rfl rfl rfl rfl ?_)
   refine zBX [ix] J J J J J J J J J J J J J (by show 0 + 1 ≤ 1; omega) (fun k' j hk' hj => ?_) (by show (nx.length + 1) * 24 ≤ _ ∧ _; omega) (fun a j k _ => zDr a j k) (by rw [hfix]; exact fun h => h) ?_
   ·obtain rfl : k' = 0 := Nat.lt_one_iff.1 hk'
    obtain rfl : j = 0 := Nat.lt_one_iff.1 hj
    show AV.ro (Cells.ints .i64 (List.map Int.ofNat ix)) 0 ix.length = AV.ro (Cells.ints .i64 (List.map Int.ofNat ix)) 0 (List.map Int.ofNat ix).length
    rw [hli]
   refine zAk [some ⟨95, .mp (zB6 l') (zCZ l'.length)⟩, some ⟨97, .box ((tbC r l'.length nx.length .nil).set 12 .any)⟩, some ⟨35, zCq l'⟩, some ⟨23, zDE (nx ++ [ix])⟩, none] ?_ ?_
   ·show [some (AObj.mk _ ((Cells.mp _ _).forget 3)), some (AObj.mk _ ((Cells.box _).forget 3)), some (AObj.mk _ ((zCq _).forget 3)), some (AObj.mk _ (zDE (nx ++ [ix]))), none] = _
    rw [zDm, zB9 (fun a j => zDp a j 3)]; rfl
   repeat (first | refine zC ?_ | refine zAI ?_ | refine zA (zZ rfl) ?_ | refine zA (zM rfl rfl rfl rfl rfl rfl) ?_ | refine zAG rfl rfl rfl rfl rfl rfl rfl Nat.zero_lt_one ?_)
   refine zB ?_
   refine zAi (zEi r l' (nx ++ [ix]) ++ [none]) (by show _ = [_, some (AObj.mk _ (.box (tbC r l'.length (nx ++ [ix]).length .nil))), _, _, _]; rw [hnl]; rfl) ?_
   refine zBy (zEi r l' (nx ++ [ix])) [none] [(6, .ptr 1 0 0), (7, iN i)] J ⟨J, J, trivial⟩ (fun h q => nofix h _ q) (zFF _ _ _) J ?_
   refine rn3 ?_
   refine zS ⟨(i + 1, l', nx ++ [ix]), ⟨hstep l' ix ha, ?_⟩, by show 3001 - (i + 1) < 3001 - i; omega, ⟨J, J, trivial⟩, J⟩
   show Go.Ax.Gm.grow r (3001 - (i + 1)) (i + 1) l' (nx ++ [ix]) = zEC r
   rw [← hg, show 3001 - i = (3001 - (i + 1)) + 1 by omega]
   exact (hgS (l', ix) ha _).symm
 ·have hi : i = l.length := by omega
  subst hi
  have hN : zEC r = some (l, nx) := by
   rw [← hg]
   cases 3001 - l.length with
   | zero => rfl
   | succ f => rw [Go.Ax.Gm.grow, if_neg (Nat.lt_irrefl _)]
  refine zAv ?_
  refine zA3 [some ⟨95, .mp (zB6 l) (zCZ l.length)⟩, none, some ⟨35, zCq l⟩, some ⟨23, zDE nx⟩] [none, some ⟨97, .box (tbF r l nx .nil)⟩, none, none] [(6, .ptr 1 0 0)] ?_ (zCK (zJb l _) (zCL (zCK (zKZ l) (zCK (zJp nx) zCj)))) J ?_ ⟨⟨.ptr 1 0 0, J, .inl J⟩, trivial⟩ ?_
  ·intro h o ho
   match h, ho with
   | 0, ho => exact ho
   | 1, ho => simp at ho
   | 2, ho => exact ho
   | 3, ho => exact ho
   | _ + 4, ho => simp at ho
  ·intro h o ho
   match h, ho with
   | 0, ho => simp at ho
   | 1, ho =>
    cases ho
    refine ⟨fun o h => by simp at h, _, J, J, J, J, fun i j hi hj => ?_⟩
    obtain rfl : i = 0 := Nat.lt_one_iff.1 hi
    have hj : j < 15 := hj
    match j, hj with
    | 0, _ => exact .inl rfl
    | 1, _ => exact .inl rfl
    | 2, _ => exact .inl rfl
    | 3, _ => exact .inl rfl
    | 4, _ => exact .inl rfl
    | 5, _ => exact .inl rfl
    | 6, _ => exact .inl rfl
    | 7, _ => exact .inl rfl
    | 8, _ => exact .inl rfl
    | 9, _ => exact .inl rfl
    | 10, _ => exact .inl rfl
    | 11, _ => exact .inr (.inr ⟨rfl, fun o ho => by cases ho; show 0 + l.length ≤ l.length; omega⟩)
    | 12, _ => exact .inr (.inr ⟨rfl, fun o ho => by cases ho; show 0 + nx.length ≤ nx.length; omega⟩)
    | 13, _ => exact .inl rfl
    | 14, _ => exact .inr (.inr ⟨rfl, trivial⟩)
   | 2, ho => simp at ho
   | 3, ho => simp at ho
   | _ + 4, ho => simp at ho
  refine zBy [none, some ⟨97, .box (tbF r l nx .nil)⟩] [none, none] [(6, .ptr 1 0 0)] J ⟨J, trivial⟩ (fun h q => nofix h _ q) (bl_n (zCB (zHP J) zBY)) J ?_
  have hmem : ∀ i, i < l.length → Sound r (l.getD i zo) := fun i hi => by
   rw [show l.getD i zo = l[i] by simp [List.getD, hi]]
   exact (G.snd _ (List.getElem_mem hi)).1
  have hP : SolveP r l nx := ⟨hv, hmost, hmem, G.len, fun i hi => by
   have h1 := G.nxl i hi
   have h2 := zGv hv (hmem i hi)
   omega, fun i hi k hk => by
   obtain ⟨j, hj, rfl⟩ := List.mem_iff_getElem.1 hk
   have h1 := G.nxl i hi
   have := (G.nxt i hi j (by omega)).1
   rwa [Go.Ax.Gm.get_at (nx.getD i []) hj] at this⟩
  refine rn0 ?_
  refine zCx J J J (solve_ok r l nx hP) (fun h q => q) (fun h q => q) ?_
  rintro v H ⟨rfl, N, hN2, rfl⟩
  have hE2 : zBl (ze l nx (zAE r l) N) = (zFE r (l, nx)).E := new_ent (x := (l, nx)) G hN2
  rw [hE2]
  generalize hEE : (zFE r (l, nx)).E = E
  refine zAv ?_
  refine zA3 [none, none, none, some ⟨37, zAr E⟩] [none, some ⟨97, .box (tbF r l nx (.ro (zAr E) 0 E.length))⟩, none, none] [(6, .ptr 1 0 0)] ?_ (zCL (zCL (zCL (zCK (zGI E) zCj)))) J ?_ ⟨⟨.ptr 1 0 0, J, .inl J⟩, trivial⟩ ?_
  ·intro h o ho
   match h, ho with
   | 0, ho => simp at ho
   | 1, ho => simp at ho
   | 2, ho => simp at ho
   | 3, ho => exact ho
   | _ + 4, ho => simp at ho
  ·intro h o ho
   match h, ho with
   | 0, ho => simp at ho
   | 1, ho =>
    cases ho
    refine ⟨fun o h => by simp at h, _, J, J, J, J, fun i j hi hj => ?_⟩
    obtain rfl : i = 0 := Nat.lt_one_iff.1 hi
    have hj : j < 15 := hj
    match j, hj with
    | 0, _ => exact .inl rfl
    | 1, _ => exact .inl rfl
    | 2, _ => exact .inl rfl
    | 3, _ => exact .inl rfl
    | 4, _ => exact .inl rfl
    | 5, _ => exact .inl rfl
    | 6, _ => exact .inl rfl
    | 7, _ => exact .inl rfl
    | 8, _ => exact .inl rfl
    | 9, _ => exact .inl rfl
    | 10, _ => exact .inl rfl
    | 11, _ => exact .inl rfl
    | 12, _ => exact .inl rfl
    | 13, _ => exact .inr (.inr ⟨rfl, fun o ho => by cases ho; show 0 + E.length ≤ E.length; omega⟩)
    | 14, _ => exact .inl rfl
   | 2, ho => simp at ho
   | 3, ho => simp at ho
   | _ + 4, ho => simp at ho
  refine zBy [none, some ⟨97, .box (tbF r l nx (.ro (zAr E) 0 E.length))⟩] [none, none] [(6, .ptr 1 0 0)] J ⟨J, trivial⟩ (fun h q => nofix h _ q) (bl_n (zCB (zHP J) zBY)) J ?_
  refine zEK [none] 6 [] J J trivial ⟨J, trivial⟩ (bl_n zBY) J (fun h q => nofix h _ q) ?_
  refine rn0 ?_
  refine zN hR J ?_
  show _ = AV.tup [zE3 r, .int .i64 (zC9 r)]
  rw [(hsome _ hN).1, (hsome _ hN).2]
  show _ = AV.tup [.rp (.box (tbF r l nx (.ro (zAr (zFE r (l, nx)).E) 0 (zFE r (l, nx)).E.length))) 0 0, .int .i64 0]
  rw [hEE]; rfl
/-- retro.New -/
theorem zJg (r : Go.Ax.Gm.Rules) (hr : Lens r) : zn Tryz.prog 48 [ruA r] (.tup [zE3 r, .int .i64 (zC9 r)]) := by
 by_cases h : zAm r = 0
 ·by_cases hq : r.quiet = 0
  ·exact new_run r hr h hq
  ·have e : zC9 r = 1 := by unfold zC9; rw [if_neg (fun c => c h), if_pos hq]
   have e2 : zE3 r = .nilp := by unfold zE3; rw [e, if_pos (by decide)]
   rw [e, e2]; exact zMV r hr h hq
 ·have e : zC9 r = zAm r := by unfold zC9; rw [if_pos h]
  have e2 : zE3 r = .nilp := by unfold zE3; rw [e, if_pos h]
  rw [e, e2]; exact new_no r hr h
/-- the zero position has empty rows -/
theorem zIr {P : Program} {fn : Func} {c : Ctx} {fr : Fr} {H : zP} {k : List It} {x : Code} {ty : TypeId} (h : Nat) (hh : H[h]? = some (some ⟨ty, .box poZ⟩)) (hk : Ax P fn c (.code x k) fr (H.set h (some ⟨ty, .box (poC zo)⟩))) : Ax P fn c (.code x k) fr H := by
 have hlt : h < H.length := (List.getElem?_eq_some_iff.1 hh).1
 refine zJ0 (H.set h (some ⟨ty, .box (poC zo)⟩)) (List.length_set ..) (fun h' o ho => ?_) hk
 by_cases e : h' = h
 ·subst e
  rw [List.getElem?_set_self hlt] at ho
  cases ho
  refine ⟨_, hh, J, J, J, fun i j hi hj => ?_⟩
  obtain rfl : i = 0 := Nat.lt_one_iff.1 hi
  have hj : j < 5 := hj
  match j, hj with
  | 0, _ => exact AEq.nil
  | 1, _ => exact AEq.nil
  | 2, _ => exact AEq.nil
  | 3, _ => exact AEq.rfl'
  | 4, _ => exact AEq.rfl'
 ·rw [List.getElem?_set_ne (Ne.symm e)] at ho
  exact ⟨o, ho, J, J, J, fun _ _ _ _ => AEq.rfl'⟩
/-- (*retro.Table).Size -/
theorem zHZ (T : Tab) : zn Tryz.prog 18 [zCP T] (iN T.l.length) := by
 refine zd.value0 (zL (P := Tryz.prog) (fn := Tryz.f18) J J (by kernel_rfl) J (fun c hR hfix => ?_)) (fix := fun _ => False) (fun _ h => h) J J
 repeat (first | refine zA (zF rfl) ?_ | refine zA (zO rfl) ?_ | refine zC ?_ | refine zB ?_ | refine zY ?_ | refine zK rfl ?_ | refine z7 ?_ | refine zA (zBB rfl rfl rfl) ?_ | refine zA (zD rfl rfl rfl rfl) ?_ | refine zA (zAC rfl) ?_ | refine zA (zI rfl rfl rfl rfl rfl rfl) ?_)
 exact zN hR J J
def atE (T : Tab) (i : Int) : Int := if i < 0 ∨ (T.l.length : Int) ≤ i then 4 else 0
def atP (T : Tab) (i : Int) : Pos := if atE T i ≠ 0 then zo else T.l.getD i.toNat zo
def atX (T : Tab) (i : Int) : Ent := if atE T i ≠ 0 then (0, 0) else zAR T i.toNat
theorem zFU {T : Tab} (h : TabOK T) {i : Nat} (hi : i < T.l.length) : SmallP (T.l.getD i zo) := zAt h.v (h.sound hi).1
/-- (*retro.Table).At -/
theorem at_ok (T : Tab) (h : TabOK T) (i : Int) : zn Tryz.prog 17 [zCP T, .int .i64 i] (.tup [poA (atP T i), entA (atX T i), .int .i64 (atE T i)]) := by
 refine zd.value0 (zL (P := Tryz.prog) (fn := Tryz.f17) J J (by kernel_rfl) J (fun c hR hfix => ?_)) (fix := fun _ => False) (fun _ h => h) J J
 have hEl := h.len
 have hmost := h.G.most
 by_cases hi : i < 0 ∨ (T.l.length : Int) ≤ i
 ·have e : atE T i = 4 := by unfold atE; rw [if_pos hi]
  have e1 : atP T i = zo := by unfold atP; rw [e, if_pos (by decide)]
  have e2 : atX T i = (0, 0) := by unfold atX; rw [e, if_pos (by decide)]
  rw [e, e1, e2] at hR
  refine rn4 ?_
  refine zi J J (fun g => ?_) (fun g => ?_)
  ·refine rn18 ?_
   refine zV poZ J J J J J J J ?_
   skip
   refine zV (zA8 (0, 0)) J J J J J J J ?_
   refine rn7 ?_
   refine zIr 0 J ?_
   refine rn2 ?_
   exact zN hR J J
  ·repeat (first | refine zA (zF rfl) ?_ | refine zC ?_ | refine zB ?_ | refine zp rfl rfl ?_ | refine zA (zDb rfl rfl) ?_ | refine zA (zb rfl rfl) ?_ | refine zA (zBB rfl rfl rfl) ?_ | refine zA (zD rfl rfl rfl rfl) ?_ | refine zA (zAC rfl) ?_ | refine zA (zI rfl rfl rfl rfl rfl rfl) ?_)
   refine zH J (fun q => ?_) (fun q => absurd q (by omega))
   refine rn8 ?_
   refine zV poZ J J J J J J J ?_
   skip
   refine zV (zA8 (0, 0)) J J J J J J J ?_
   refine rn7 ?_
   refine zIr 0 J ?_
   refine rn2 ?_
   exact zN hR J J
 ·have e : atE T i = 0 := by unfold atE; rw [if_neg hi]
  have e1 : atP T i = T.l.getD i.toNat zo := by unfold atP; rw [e, if_neg (by decide)]
  have e2 : atX T i = zAR T i.toNat := by unfold atX; rw [e, if_neg (by decide)]
  rw [e, e1, e2] at hR
  obtain ⟨n, rfl⟩ : ∃ n : Nat, i = (n : Int) := ⟨i.toNat, by omega⟩
  rw [Int.toNat_natCast] at hR
  have hn : n < T.l.length := by omega
  repeat (first | refine zA (zF rfl) ?_ | refine zA (zO rfl) ?_ | refine zC ?_ | refine zB ?_ | refine zY ?_ | refine zK rfl ?_ | refine zp rfl rfl ?_ | refine zA (zBs rfl rfl) ?_ | refine zA (zDb rfl rfl) ?_ | refine zA (zb rfl rfl) ?_ | refine zA (zBB rfl rfl rfl) ?_ | refine zA (zD rfl rfl rfl rfl) ?_ | refine zA (zAC rfl) ?_ | refine zA (zI rfl rfl rfl rfl rfl rfl) ?_ | refine zAN rfl rfl rfl ?_)
  refine zH J (fun q => ?_) (fun q => ?_)
  ·exact absurd q (by omega)
  refine rn1 ?_
  refine zf (by kernel_rfl) ?_
  refine zW 0 J (by kernel_rfl) (by kernel_rfl) (by kernel_rfl) J (zF J) J ?_
  refine zW 1 J (by kernel_rfl) (by kernel_rfl) (by kernel_rfl) J (zAC J) J ?_
  refine zW 2 J (by kernel_rfl) (by kernel_rfl) (by kernel_rfl) J (zI J J J J J J) J ?_
  refine zW 4 J (by kernel_rfl) (by kernel_rfl) (by kernel_rfl) J (zF J) J ?_
  refine zW 8 J (by kernel_rfl) (by kernel_rfl) (by kernel_rfl) J (zF J) J ?_
  refine zW 9 J (by kernel_rfl) (by kernel_rfl) (by kernel_rfl) J (zAC J) J ?_
  refine zW 10 J (by kernel_rfl) (by kernel_rfl) (by kernel_rfl) J (zI J J J J J J) J ?_
  refine zW 12 J (by kernel_rfl) (by kernel_rfl) (by kernel_rfl) J (zF J) J ?_
  apply zR (H := [some ⟨35, .box (poC (T.l.getD n zo))⟩, some ⟨37, .box (zA8 (0, 0))⟩]) [(4, .ptr 0 0 0), (5, .ptr 1 0 0), (34, entA (zAR T n))]
  ·intro f42
   apply zR (H := [some ⟨35, .box poZ⟩, some ⟨37, .box (zA8 (0, 0))⟩]) [(4, .ptr 0 0 0), (5, .ptr 1 0 0), (27, poA (T.l.getD n zo)), (34, entA (zAR T n))]
   ·intro f32
    apply zR (H := [some ⟨35, .box (poC (T.l.getD n zo))⟩, some ⟨37, .box (zA8 (0, 0))⟩]) [(4, .ptr 0 0 0), (5, .ptr 1 0 0), (33, .rp (zAr T.E) n 0)]
    ·intro f41
     apply zR (H := [some ⟨35, .box poZ⟩, some ⟨37, .box (zA8 (0, 0))⟩]) [(4, .ptr 0 0 0), (5, .ptr 1 0 0), (26, poA (T.l.getD n zo)), (34, entA (zAR T n))]
     ·intro f22
      apply zR (H := [some ⟨35, .box poZ⟩, some ⟨37, .box (zA8 (0, 0))⟩]) [(4, .ptr 0 0 0), (5, .ptr 1 0 0), (27, poA (T.l.getD n zo)), (33, .rp (zAr T.E) n 0)]
      ·intro f31
       apply zR (H := [some ⟨35, .box (poC (T.l.getD n zo))⟩, some ⟨37, .box (zA8 (0, 0))⟩]) [(4, .ptr 0 0 0), (5, .ptr 1 0 0), (30, .rp (.box (tbF T.r T.l T.nx (.ro (zAr T.E) 0 T.E.length))) 0 13), (32, iN n)]
       ·intro f40
        apply zR (H := [some ⟨35, .box poZ⟩, some ⟨37, .box (zA8 (0, 0))⟩]) [(4, .ptr 0 0 0), (5, .ptr 1 0 0), (25, .rp (zCq T.l) n 0), (34, entA (zAR T n))]
        ·intro f12
         apply zR (H := [some ⟨35, .box poZ⟩, some ⟨37, .box (zA8 (0, 0))⟩]) [(4, .ptr 0 0 0), (5, .ptr 1 0 0), (26, poA (T.l.getD n zo)), (33, .rp (zAr T.E) n 0)]
         ·intro f21
          apply zR (H := [some ⟨35, .box poZ⟩, some ⟨37, .box (zA8 (0, 0))⟩]) [(4, .ptr 0 0 0), (5, .ptr 1 0 0), (27, poA (T.l.getD n zo)), (30, .rp (.box (tbF T.r T.l T.nx (.ro (zAr T.E) 0 T.E.length))) 0 13), (32, iN n)]
          ·intro f30
           apply zR (H := [some ⟨35, .box poZ⟩, some ⟨37, .box (zA8 (0, 0))⟩]) [(4, .ptr 0 0 0), (5, .ptr 1 0 0), (22, .rp (.box (tbF T.r T.l T.nx (.ro (zAr T.E) 0 T.E.length))) 0 11), (24, iN n), (34, entA (zAR T n))]
           ·intro f02
            apply zR (H := [some ⟨35, .box poZ⟩, some ⟨37, .box (zA8 (0, 0))⟩]) [(4, .ptr 0 0 0), (5, .ptr 1 0 0), (25, .rp (zCq T.l) n 0), (33, .rp (zAr T.E) n 0)]
            ·intro f11
             apply zR (H := [some ⟨35, .box poZ⟩, some ⟨37, .box (zA8 (0, 0))⟩]) [(4, .ptr 0 0 0), (5, .ptr 1 0 0), (26, poA (T.l.getD n zo)), (30, .rp (.box (tbF T.r T.l T.nx (.ro (zAr T.E) 0 T.E.length))) 0 13), (32, iN n)]
             ·intro f20
              apply zR (H := [some ⟨35, .box poZ⟩, some ⟨37, .box (zA8 (0, 0))⟩]) [(4, .ptr 0 0 0), (5, .ptr 1 0 0), (22, .rp (.box (tbF T.r T.l T.nx (.ro (zAr T.E) 0 T.E.length))) 0 11), (24, iN n), (33, .rp (zAr T.E) n 0)]
              ·intro f01
               apply zR (H := [some ⟨35, .box poZ⟩, some ⟨37, .box (zA8 (0, 0))⟩]) [(4, .ptr 0 0 0), (5, .ptr 1 0 0), (25, .rp (zCq T.l) n 0), (30, .rp (.box (tbF T.r T.l T.nx (.ro (zAr T.E) 0 T.E.length))) 0 13), (32, iN n)]
               ·intro f10
                refine zG (is := [3, 11]) (by kernel_rfl) (by simp) J ⟨fun o ho => ?_, fun o ho => ?_, trivial⟩
                all_goals (cases ho)
                ·repeat (first | refine zC ?_ | refine zU ?_ | refine zA (zD rfl rfl rfl rfl) ?_)
                 refine zW 5 J (by kernel_rfl) (by kernel_rfl) (by kernel_rfl) J (zg J J J J (by first | (simp only [Nat.zero_add, Int.toNat_natCast, Int.toNat_zero]; exact J) | exact J) (by omega)) J ?_
                 exact f10 _ ⟨J, J, J, J, J, trivial⟩
                ·repeat (first | refine zC ?_ | refine zU ?_ | refine zA (zD rfl rfl rfl rfl) ?_)
                 refine zW 13 J (by kernel_rfl) (by kernel_rfl) (by kernel_rfl) J (zg J J J J (by first | (simp only [Nat.zero_add, Int.toNat_natCast, Int.toNat_zero]; exact J) | exact J) (by omega)) J ?_
                 exact f01 _ ⟨J, J, J, J, J, trivial⟩
               ·refine zG (is := [6, 11]) (by kernel_rfl) (by simp) J ⟨fun o ho => ?_, fun o ho => ?_, trivial⟩
                all_goals (cases ho)
                ·refine rn6 ?_
                 exact f20 _ ⟨J, J, J, J, J, trivial⟩
                ·repeat (first | refine zC ?_ | refine zU ?_ | refine zA (zD rfl rfl rfl rfl) ?_)
                 refine zW 13 J (by kernel_rfl) (by kernel_rfl) (by kernel_rfl) J (zg J J J J (by first | (simp only [Nat.zero_add, Int.toNat_natCast, Int.toNat_zero]; exact J) | exact J) (by omega)) J ?_
                 exact f11 _ ⟨J, J, J, J, trivial⟩
              ·refine zG (is := [3, 14]) (by kernel_rfl) (by simp) J ⟨fun o ho => ?_, fun o ho => ?_, trivial⟩
               all_goals (cases ho)
               ·repeat (first | refine zC ?_ | refine zU ?_ | refine zA (zD rfl rfl rfl rfl) ?_)
                refine zW 5 J (by kernel_rfl) (by kernel_rfl) (by kernel_rfl) J (zg J J J J (by first | (simp only [Nat.zero_add, Int.toNat_natCast, Int.toNat_zero]; exact J) | exact J) (by omega)) J ?_
                exact f11 _ ⟨J, J, J, J, trivial⟩
               ·refine rn6 ?_
                exact f02 _ ⟨J, J, J, J, J, trivial⟩
             ·refine zG (is := [7, 11]) (by kernel_rfl) (by simp) J ⟨fun o ho => ?_, fun o ho => ?_, trivial⟩
              all_goals (cases ho)
              ·refine zQ J J J (zHr (T.l.getD n zo) (zFU h hn)) ?_
               refine rn1 ?_
               exact f30 _ ⟨J, J, J, J, J, trivial⟩
              ·repeat (first | refine zC ?_ | refine zU ?_ | refine zA (zD rfl rfl rfl rfl) ?_)
               refine zW 13 J (by kernel_rfl) (by kernel_rfl) (by kernel_rfl) J (zg J J J J (by first | (simp only [Nat.zero_add, Int.toNat_natCast, Int.toNat_zero]; exact J) | exact J) (by omega)) J ?_
               exact f21 _ ⟨J, J, J, J, trivial⟩
            ·refine zG (is := [6, 14]) (by kernel_rfl) (by simp) J ⟨fun o ho => ?_, fun o ho => ?_, trivial⟩
             all_goals (cases ho)
             ·refine rn6 ?_
              exact f21 _ ⟨J, J, J, J, trivial⟩
             ·refine rn6 ?_
              exact f12 _ ⟨J, J, J, J, trivial⟩
           ·refine zG (is := [3]) (by kernel_rfl) (by simp) J ⟨fun o ho => ?_, trivial⟩
            all_goals (cases ho)
            repeat (first | refine zC ?_ | refine zU ?_ | refine zA (zD rfl rfl rfl rfl) ?_)
            refine zW 5 J (by kernel_rfl) (by kernel_rfl) (by kernel_rfl) J (zg J J J J (by first | (simp only [Nat.zero_add, Int.toNat_natCast, Int.toNat_zero]; exact J) | exact J) (by omega)) J ?_
            exact f12 _ ⟨J, J, J, J, trivial⟩
          ·refine zG (is := [11, 15]) (by kernel_rfl) (by simp) J ⟨fun o ho => ?_, fun o ho => ?_, trivial⟩
           all_goals (cases ho)
           ·repeat (first | refine zC ?_ | refine zU ?_ | refine zA (zD rfl rfl rfl rfl) ?_)
            refine zW 13 J (by kernel_rfl) (by kernel_rfl) (by kernel_rfl) J (zg J J J J (by first | (simp only [Nat.zero_add, Int.toNat_natCast, Int.toNat_zero]; exact J) | exact J) (by omega)) J ?_
            exact f31 _ ⟨J, J, J, J, trivial⟩
           ·refine zV (poC (T.l.getD n zo)) J J J J J J J ?_
            refine rn1 ?_
            exact f40 _ ⟨J, J, J, J, trivial⟩
         ·refine zG (is := [7, 14]) (by kernel_rfl) (by simp) J ⟨fun o ho => ?_, fun o ho => ?_, trivial⟩
          all_goals (cases ho)
          ·refine zQ J J J (zHr (T.l.getD n zo) (zFU h hn)) ?_
           refine rn1 ?_
           exact f31 _ ⟨J, J, J, J, trivial⟩
          ·refine rn6 ?_
           exact f22 _ ⟨J, J, J, J, trivial⟩
        ·refine zG (is := [6]) (by kernel_rfl) (by simp) J ⟨fun o ho => ?_, trivial⟩
         all_goals (cases ho)
         refine rn6 ?_
         exact f22 _ ⟨J, J, J, J, trivial⟩
       ·refine zG (is := [11]) (by kernel_rfl) (by simp) J ⟨fun o ho => ?_, trivial⟩
        all_goals (cases ho)
        repeat (first | refine zC ?_ | refine zU ?_ | refine zA (zD rfl rfl rfl rfl) ?_)
        refine zW 13 J (by kernel_rfl) (by kernel_rfl) (by kernel_rfl) J (zg J J J J (by first | (simp only [Nat.zero_add, Int.toNat_natCast, Int.toNat_zero]; exact J) | exact J) (by omega)) J ?_
        exact f41 _ ⟨J, J, J, trivial⟩
      ·refine zG (is := [14, 15]) (by kernel_rfl) (by simp) J ⟨fun o ho => ?_, fun o ho => ?_, trivial⟩
       all_goals (cases ho)
       ·refine rn6 ?_
        exact f32 _ ⟨J, J, J, J, trivial⟩
       ·refine zV (poC (T.l.getD n zo)) J J J J J J J ?_
        refine rn1 ?_
        exact f41 _ ⟨J, J, J, trivial⟩
     ·refine zG (is := [7]) (by kernel_rfl) (by simp) J ⟨fun o ho => ?_, trivial⟩
      all_goals (cases ho)
      refine zQ J J J (zHr (T.l.getD n zo) (zFU h hn)) ?_
      refine rn1 ?_
      exact f32 _ ⟨J, J, J, J, trivial⟩
    ·refine zG (is := [14]) (by kernel_rfl) (by simp) J ⟨fun o ho => ?_, trivial⟩
     all_goals (cases ho)
     refine rn6 ?_
     exact f42 _ ⟨J, J, J, trivial⟩
   ·refine zG (is := [15]) (by kernel_rfl) (by simp) J ⟨fun o ho => ?_, trivial⟩
    all_goals (cases ho)
    refine zV (poC (T.l.getD n zo)) J J J J J J J ?_
    refine rn1 ?_
    exact f42 _ ⟨J, J, J, trivial⟩
  refine zG (is := [16]) (by kernel_rfl) (by simp) J ⟨fun o ho => ?_, trivial⟩
  all_goals (cases ho)
  refine zV (zA8 (zAR T n)) J J J J J J J ?_
  refine rn1 ?_
  refine zG (is := [17]) (by kernel_rfl) (by simp) J ⟨fun o ho => ?_, trivial⟩
  all_goals (cases ho)
  refine rn1 ?_
  refine zX (by kernel_rfl) ?_
  refine rn0 ?_
  exact zN hR J J
/-- (*retro.Table).find -/
theorem zLi (T : Tab) (h : TabOK T) (hr : Lens T.r) (p : Pos) (hp : LenP p) : zn Tryz.prog 57 [zCP T, poA p] (.tup [.int .i64 (if zBb T p ≠ 0 then 0 else ((zBA T.l p : Nat) : Int)), .int .i64 (zBb T p)]) := by
 refine zd.value0 (zL (P := Tryz.prog) (fn := Tryz.f57) J J (by kernel_rfl) J (fun c hR hfix => ?_)) (fix := fun _ => False) (fun _ h => h) J J
 refine zY ?_
 repeat (first | refine zA (zO rfl) ?_ | refine zC ?_ | refine zB ?_ | refine zK rfl ?_ | refine zAn rfl rfl ?_)
 refine zB2 3 [(0, zCP T)] J ⟨J, J, trivial⟩ ⟨J, trivial⟩ J hfix ?_
 repeat (refine zY ?_)
 refine zf (by kernel_rfl) ?_
 refine zl (fuel := 0) [0, 1, 2, 3, 4, 5, 6] [(3, .rp (.box (poC p)) 0 0), (0, zCP T)] ⟨J, J, trivial⟩ (by kernel_rfl) (by decide) J J ?_
 refine zJ J J (zF J) ?_
 refine zJ J J (zAC J) ?_
 refine zJ J J (zI J J J J J J) ?_
 refine zJ J J (zFh J J J J J J) ?_
 refine zJ J J (zAB J J J J J J) ?_
 refine zCN J J J J J (zDy T.r hr p hp) ?_
 refine zJ J J (zO J) ?_
 refine zr ?_
 refine zX (by kernel_rfl) ?_
 refine rn3 ?_
 refine zH J (fun q => ?_) (fun q => ?_)
 ·have e : zBb T p = zCJ T.r p := by unfold zBb; rw [if_pos q]
  rw [e, if_pos q] at hR
  refine rn2 ?_
  exact zN hR J J
 have q2 := Classical.not_not.1 q
 obtain ⟨hz, S⟩ := zDo q2
 refine rn1 ?_
 by_cases hi : zBA T.l p < T.l.length
 ·have e : zBb T p = 0 := by unfold zBb; rw [if_neg q, if_pos hi]
  rw [e, if_neg (by decide)] at hR
  refine zf (by kernel_rfl) ?_
  refine zl (fuel := 0) [0, 1, 2, 3, 4, 5, 6, 7, 8, 9, 10, 11] [(3, .rp (.box (poC p)) 0 0), (0, zCP T)] ⟨J, J, trivial⟩ (by kernel_rfl) (by decide) J J ?_
  refine zJ J J (zF J) ?_
  refine zJ J J (zAC J) ?_
  refine zJ J J (zI J J J J J J) ?_
  refine zJ J J (zD J J J J) ?_
  refine zJ J J (zAB J J J J J J) ?_
  refine zCN J J J J J (zFP h.v S) ?_
  refine zJ J J (zEX J (.str J) J J J J (zCz T.l) (zBA T.l p) (zGt hi) (zG2 hi)) ?_
  refine zJ J J (zF J) ?_
  refine zJ J J (zAj J J) ?_
  refine zJ J J (zAj J J) ?_
  refine zJ J J (zO J) ?_
  refine zJ J J (zO J) ?_
  refine zr ?_
  refine zX (by kernel_rfl) ?_
  refine rn5 ?_
  exact zN hR J J
 ·have e : zBb T p = 8 := by unfold zBb; rw [if_neg q, if_neg hi]
  rw [e, if_pos (by decide)] at hR
  refine zf (by kernel_rfl) ?_
  refine zl (fuel := 0) [0, 1, 2, 3, 4, 5, 6, 7, 8, 9, 10, 11] [(3, .rp (.box (poC p)) 0 0), (0, zCP T)] ⟨J, J, trivial⟩ (by kernel_rfl) (by decide) J J ?_
  refine zJ J J (zF J) ?_
  refine zJ J J (zAC J) ?_
  refine zJ J J (zI J J J J J J) ?_
  refine zJ J J (zD J J J J) ?_
  refine zJ J J (zAB J J J J J J) ?_
  refine zCN J J J J J (zFP h.v S) ?_
  refine zJ J J (zDz J (.str J) J J J J J J J J (zCz T.l) (zE0 h.v S h.G.snd hi)) ?_
  refine zJ J J (zF J) ?_
  refine zJ J J (zAj J J) ?_
  refine zJ J J (zAj J J) ?_
  refine zJ J J (zO J) ?_
  refine zJ J J (zO J) ?_
  refine zr ?_
  refine zX (by kernel_rfl) ?_
  refine rn5 ?_
  exact zN hR J J
/-- (*retro.Table).Of -/
theorem of_ok (T : Tab) (h : TabOK T) (hr : Lens T.r) (p : Pos) (hp : LenP p) : zn Tryz.prog 21 [zCP T, poA p] (.tup [entA (ofT T p), .int .i64 (zBb T p)]) := by
 refine zd.value0 (zL (P := Tryz.prog) (fn := Tryz.f21) J J (by kernel_rfl) J (fun c hR hfix => ?_)) (fix := fun _ => False) (fun _ h => h) J J
 have hEl := h.len
 refine rn6 ?_
 refine zQ J J J (zLi T h hr p hp) ?_
 refine rn3 ?_
 refine zH J (fun q => ?_) (fun q => ?_)
 ·have e : ofT T p = (0, 0) := by unfold ofT; rw [if_pos q]
  rw [e] at hR
  refine rn8 ?_
  refine zV (zA8 (0, 0)) J J J J J J J ?_
  refine rn2 ?_
  exact zN hR J J
 ·have q2 : zBb T p = 0 := Classical.not_not.1 q
  have hi : zBA T.l p < T.l.length := by
   unfold zBb at q2
   split at q2
   ·rename_i h1; exact absurd q2 h1
   ·split at q2
    ·assumption
    ·cases q2
  have e : ofT T p = zAR T (zBA T.l p) := by unfold ofT; rw [if_neg q]
  rw [e, q2] at hR
  rw [if_neg q]
  repeat (first | refine zA (zF rfl) ?_ | refine zB ?_ | refine zY ?_ | refine zK rfl ?_ | refine zAJ ?_ | refine zA (zg rfl rfl rfl rfl (by first | (simp only [Nat.zero_add, Int.toNat_natCast, Int.toNat_zero]; exact rfl) | exact rfl) (by omega)) ?_ | refine zA (zD rfl rfl rfl rfl) ?_ | refine zA (zAC rfl) ?_ | refine zA (zI rfl rfl rfl rfl rfl rfl) ?_ | refine zA (zAB rfl rfl rfl rfl rfl rfl) ?_)
  refine zV (zA8 (zAR T (zBA T.l p))) J J J J J J J ?_
  refine rn0 ?_
  exact zN hR J J
def zCH (T : Tab) (i : Nat) (ms : List Mv) (k : Nat) : List Mv := ((List.range k).filter (fun k => decide (zAR T ((T.nx.getD i []).getD k 0) = zDg (zAR T i)))).map (fun k => ms.getD k mv0)
theorem zJ3 (T : Tab) (i : Nat) (ms : List Mv) (k : Nat) : zCH T i ms (k + 1) = if zAR T ((T.nx.getD i []).getD k 0) = zDg (zAR T i) then zCH T i ms k ++ [ms.getD k mv0] else zCH T i ms k := by
 unfold zCH
 rw [List.range_succ, List.filter_append, List.map_append]
 by_cases h : zAR T ((T.nx.getD i []).getD k 0) = zDg (zAR T i)
 ·rw [if_pos h, List.filter_cons_of_pos (p := fun k => decide (zAR T ((T.nx.getD i []).getD k 0) = zDg (zAR T i))) (decide_eq_true h)]; rfl
 ·rw [if_neg h, List.filter_cons_of_neg (p := fun k => decide (zAR T ((T.nx.getD i []).getD k 0) = zDg (zAR T i))) (by rw [decide_eq_true_eq]; exact h)]; simp
theorem zKw (T : Tab) (i : Nat) (ms : List Mv) (k : Nat) : (zCH T i ms k).length ≤ k := by
 unfold zCH
 rw [List.length_map]
 exact Nat.le_trans (List.length_filter_le ..) (by rw [List.length_range]; exact Nat.le_refl _)
theorem mapI_get (l : List Nat) (k : Nat) : (l.map Int.ofNat).getD k 0 = ((l.getD k 0 : Nat) : Int) := by
 rw [List.getD, List.getElem?_map, List.getD]
 cases l[k]? <;> rfl
theorem find_is {T : Tab} {p : Pos} (h : zBb T p = 0) : zCJ T.r p = 0 ∧ zBA T.l p < T.l.length := by
 unfold zBb at h
 split at h
 ·rename_i h1; exact absurd h h1
 ·rename_i h1
  split at h
  ·exact ⟨Classical.not_not.1 h1, by assumption⟩
  ·cases h
theorem next_lt {T : Tab} (h : TabOK T) {i k : Nat} (hi : i < T.l.length) (hk : k < (zA0 T.r (T.l.getD i zo)).length) : k < (T.nx.getD i []).length ∧ (T.nx.getD i []).getD k 0 < T.l.length := by
 have := h.G.nxl i hi
 exact ⟨by omega, (h.G.nxt i hi k hk).1⟩
theorem zHW (x y : Ent) : (decide (x.1 = y.1) && (decide (x.2 = y.2) && true)) = decide (x = y) := by
 by_cases h : x = y
 ·subst h; simp
 ·rw [decide_eq_false h]
  by_cases h1 : x.1 = y.1
  ·rw [decide_eq_true h1, decide_eq_false (fun q => h (Prod.ext h1 q))]; rfl
  ·rw [decide_eq_false h1]; rfl
/-- (*retro.Table).Best -/
theorem best_ok (T : Tab) (h : TabOK T) (hr : Lens T.r) (p : Pos) (hp : LenP p) : zn Tryz.prog 26 [zCP T, poA p] (.tup [zBq (zGC T p), .int .i64 (zFc T p)]) := by
 refine zd.value0 (zL (P := Tryz.prog) (fn := Tryz.f26) J J (by kernel_rfl) J (fun c hR hfix => ?_)) (fix := fun _ => False) (fun _ h => h) J J
 have hEl := h.len
 have hmost := h.G.most
 refine zY ?_
 repeat (first | refine zA (zO rfl) ?_ | refine zC ?_ | refine zB ?_ | refine zK rfl ?_ | refine zAn rfl rfl ?_)
 refine zB2 3 [(0, zCP T)] J ⟨J, J, trivial⟩ ⟨J, trivial⟩ J hfix ?_
 refine rn6 ?_
 refine zQ J J J (zLi T h hr p hp) ?_
 refine rn3 ?_
 refine zH J (fun q => ?_) (fun q => ?_)
 ·have q : zBb T p ≠ 0 := q
  have e : zFc T p = zBb T p := by unfold zFc; rw [if_pos q]
  have e2 : zGC T p = [] := by unfold zGC; rw [e, if_pos q]
  rw [e, e2] at hR
  refine rn7 ?_
  refine zBj 4 (zBq []) J AEq.nil ?_
  refine rn2 ?_
  exact zN hR J J
 have q2 : zBb T p = 0 := Classical.not_not.1 q
 obtain ⟨hz, hi⟩ := find_is q2
 have eb : zFc T p = if (zEU T p).length = 0 then 14 else 0 := by unfold zFc; rw [if_neg q]
 have ebl : zFc T p = 0 → zGC T p = zCH T (zBA T.l p) (zEU T p) (zEU T p).length := fun e => by unfold zGC; rw [if_neg (fun c => c e)]; rfl
 rw [if_neg q]
 have hmt : zEU T p = zA0 T.r (T.l.getD (zBA T.l p) zo) := rfl
 have S := (h.sound hi).1
 have hml := zGv h.v S
 have hnx := fun k => next_lt h (k := k) hi
 have hpl := h.plies hi
 have hpu := h.plies_le hi
 have hnlen : T.nx.length = T.l.length := h.G.len
 rw [← hmt] at hml
 simp only [← hmt] at hnx
 have cm := zHA T.r h.v (T.l.getD (zBA T.l p) zo) S
 rw [← hmt] at cm
 generalize hix : zBA T.l p = ix at hi hml hnx hpl hpu ebl cm
 generalize hms : zEU T p = ms at hml hnx eb ebl cm
 refine rn1 ?_
 refine zf (by kernel_rfl) ?_
 refine zl (fuel := 0) [0, 1, 2, 3, 4, 5, 6, 7, 8, 9, 10, 11, 12] [(0, zCP T), (6, iN ix)] ⟨J, J, trivial⟩ (by kernel_rfl) (by decide) J J ?_
 refine zJ J J (zF J) ?_
 refine zJ J J (zAC J) ?_
 refine zJ J J (zI J J J J J J) ?_
 refine zJ J J (zFh J J J J J J) ?_
 refine zJ J J (zF J) ?_
 refine zJ J J (zAC J) ?_
 refine zJ J J (zI J J J J J J) ?_
 refine zJ J J (zD J J J J) ?_
 refine zJ J J (zF J) ?_
 refine zJ J J (zg J J J J (by first | (simp only [Nat.zero_add, Int.toNat_natCast, Int.toNat_zero]; exact J) | exact J) (by omega)) ?_
 refine zJ J J (zAB J J J J J J) ?_
 refine zCN J J J J J cm ?_
 refine zJ J J (zO J) ?_
 refine zr ?_
 refine zX (by kernel_rfl) ?_
 refine rn4 ?_
 refine zH J (fun z => ?_) (fun z => ?_)
 ·rw [if_pos (by omega)] at eb
  have e2 : zGC T p = [] := by unfold zGC; rw [eb, if_pos (by decide)]
  rw [eb, e2] at hR
  refine rn7 ?_
  refine zBj 4 (zBq []) J AEq.nil ?_
  refine rn2 ?_
  exact zN hR J J
 rw [if_neg (by omega)] at eb
 have ebl := ebl eb
 rw [eb, ebl] at hR
 repeat (first | refine zA (zF rfl) ?_ | refine zB ?_ | refine zY ?_ | refine zK rfl ?_ | refine zAJ ?_ | refine zA (zg rfl rfl rfl rfl (by first | (simp only [Nat.zero_add, Int.toNat_natCast, Int.toNat_zero]; exact rfl) | exact rfl) (by omega)) ?_ | refine zA (zD rfl rfl rfl rfl) ?_ | refine zA (zAC rfl) ?_ | refine zA (zI rfl rfl rfl rfl rfl rfl) ?_ | refine zA (zAB rfl rfl rfl rfl rfl rfl) ?_ | refine zAN rfl rfl rfl ?_)
 refine zV (zA8 (zAR T ix)) J J J J J J J ?_
 repeat (first | refine zC ?_ | refine zB ?_ | refine zY ?_ | refine zK rfl ?_ | refine zA (zT rfl rfl rfl rfl rfl) ?_ | refine zA (zBQ rfl rfl) ?_ | refine zA (zM rfl rfl rfl rfl rfl rfl) ?_)
 apply z8 (H := [some ⟨37, .box (zA8 (zDg (zAR T ix)))⟩]) [(0, zCP T), (6, iN ix), (8, zBq ms), (9, .ptr 0 0 0)]
 ·intro fin
  refine zH J (fun d => ?_) (fun d => ?_)
  ·have d : (zAR T ix).1 ≠ 3 := d
   have ew : zDg (zAR T ix) = ((zAR T ix).1, (zAR T ix).2 - 1) := by unfold zDg; rw [if_pos d]
   rw [ew] at fin
   repeat (first | refine zC ?_ | refine zB ?_ | refine zK rfl ?_ | refine zA (zT rfl rfl rfl rfl rfl) ?_ | refine zA (zBD rfl rfl (by omega)) ?_ | refine zA (zM rfl rfl rfl rfl rfl rfl) ?_ | refine zAG rfl rfl rfl rfl rfl rfl rfl Nat.zero_lt_one ?_)
   exact fin _ ⟨J, J, J, J, trivial⟩
  ·have d : ¬ (zAR T ix).1 ≠ 3 := d
   have ew : zDg (zAR T ix) = zAR T ix := by unfold zDg; rw [if_neg d]
   rw [ew] at fin
   refine zEk ?_
   exact fin _ ⟨J, J, J, J, trivial⟩
 refine zB2 9 [(0, zCP T), (6, iN ix), (8, zBq ms)] J ⟨J, J, J, J, trivial⟩ ⟨J, J, J, trivial⟩ J hfix ?_
 repeat (refine zY ?_)
 refine zK J ?_
 refine zAv ?_
 refine zBa 10 ⟨58, zBO []⟩ J J ?_
 refine rn3 ?_
 refine zw (ι := Nat) (fun k => [(0, zCP T), (6, iN ix), (8, zBq ms), (9, .rp (.box (zA8 (zDg (zAR T ix)))) 0 0), (10, .sl 0 0 (zCH T ix ms k).length), (51, zBq ms), (52, iN ms.length), (53, iN k)]) (fun k => [some ⟨58, zBO (zCH T ix ms k)⟩]) (fun k => k ≤ ms.length) (fun k => ms.length - k) 0 ⟨⟨J, J, J, J, J, J, J, J, trivial⟩, J, Nat.zero_le _⟩ ?_
 intro k hk
 have hbl := zKw T ix ms k
 refine rn4 ?_
 refine zH J (fun g => ?_) (fun g => ?_)
 ·have hk' : k < ms.length := by omega
  obtain ⟨n1, n2⟩ := hnx k hk'
  have hbs := zJ3 T ix ms k
  have hgi : ((T.nx.getD ix []).map Int.ofNat).getD k 0 = (((T.nx.getD ix []).getD k 0 : Nat) : Int) := mapI_get _ _
  have hgl : ((T.nx.getD ix []).map Int.ofNat).length = (T.nx.getD ix []).length := List.length_map ..
  generalize hj : (T.nx.getD ix []).getD k 0 = j at n2 hgi hbs
  generalize hmk : ms.getD k mv0 = m at hbs
  refine zF1 ?_
  refine rn4 ?_
  refine zV (mvC m) J J J J J (by rw [← hmk]; rfl) J ?_
  refine rn0 ?_
  refine zEK [some ⟨58, zBO (zCH T ix ms k)⟩] 12 [(0, zCP T), (6, iN ix), (8, zBq ms), (9, .rp (.box (zA8 (zDg (zAR T ix)))) 0 0), (10, .sl 0 0 (zCH T ix ms k).length), (51, zBq ms), (52, iN ms.length), (53, iN k), (11, iN k)] J J ⟨J, J, J, J, J, J, J, J, J, trivial⟩ ⟨J, J, J, J, J, J, J, J, J, J, trivial⟩ (zCB (zGx _) zBY) J (fun h q => by rw [hfix] at q; exact q.elim) ?_
  refine zf (by kernel_rfl) ?_
  refine zl (fuel := 0) [0, 1, 2, 3, 4, 5, 6, 7, 8, 9, 10, 11, 12, 13, 14, 15, 16, 17] [(12, .rp (.box (mvC m)) 0 0), (0, zCP T), (6, iN ix), (8, zBq ms), (9, .rp (.box (zA8 (zDg (zAR T ix)))) 0 0), (10, .sl 0 0 (zCH T ix ms k).length), (51, zBq ms), (52, iN ms.length), (53, iN k), (11, iN k)] ⟨J, J, J, J, J, J, J, J, J, J, trivial⟩ (by kernel_rfl) (by decide) J J ?_
  refine zJ J J (zF J) ?_
  refine zJ J J (zAC J) ?_
  refine zJ J J (zI J J J J J J) ?_
  refine zJ J J (zD J J J J) ?_
  refine zJ J J (zF J) ?_
  refine zJ J J (zAC J) ?_
  refine zJ J J (zI J J J J J J) ?_
  refine zJ J J (zD J J J J) ?_
  refine zJ J J (zF J) ?_
  refine zJ J J (zg J J J J (by first | (simp only [Nat.zero_add, Int.toNat_natCast, Int.toNat_zero]; exact J) | exact J) (by omega)) ?_
  refine zJ J J (zA5 J J J J) ?_
  refine zJ J J (zF J) ?_
  refine zJ J J (zg J J J J (by first | (simp only [Nat.zero_add, Int.toNat_natCast, Int.toNat_zero]; exact J) | exact J) (by omega)) ?_
  refine zJ J J (zBZ J J J) ?_
  rw [hgi]
  refine zJ J J (zg J J J J (by first | (simp only [Nat.zero_add, Int.toNat_natCast, Int.toNat_zero]; exact J) | exact J) (by omega)) ?_
  refine zJ J J (zAB J J J J J J) ?_
  refine zJ J J (zAB J J J J J J) ?_
  refine zJ J J (zEY J J J (by kernel_rfl) (by kernel_rfl) (by kernel_rfl) J) ?_
  refine zr ?_
  refine zX (by kernel_rfl) ?_
  repeat (refine zB ?_)
  refine zAH (b := decide (zAR T j = zDg (zAR T ix))) (by rw [← zHW]; rfl) (fun g2 => ?_) (fun g2 => ?_)
  ·have g2 := of_decide_eq_true g2
   rw [if_pos g2] at hbs
   have hnl : (zCH T ix ms (k + 1)).length = (zCH T ix ms k).length + 1 := by rw [hbs, List.length_append]; rfl
   refine rn6 ?_
   refine zBX [m] J J J J J J J J J J J J J (by show 0 + 1 ≤ 1; omega) (fun k' j' hk' hj' => ?_) (by show ((zCH T ix ms k).length + 1) * 24 ≤ _ ∧ _; omega) zFu (by rw [hfix]; exact fun h => h) ?_
   ·obtain rfl : k' = 0 := Nat.lt_one_iff.1 hk'
    match j', hj' with
    | 0, _ => rfl
    | 1, _ => rfl
    | 2, _ => rfl
   refine rn5 ?_
   refine zS ⟨k + 1, by omega, by omega, ⟨J, J, J, J, ?_, J, J, J, trivial⟩, ?_⟩
   ·rw [hnl]; rfl
   ·rw [hbs]; rfl
  ·have g2 := of_decide_eq_false g2
   rw [if_neg g2] at hbs
   refine rn5 ?_
   refine zS ⟨k + 1, by omega, by omega, ⟨J, J, J, J, ?_, J, J, J, trivial⟩, ?_⟩
   ·rw [hbs]; rfl
   ·rw [hbs]
 ·have hk' : k = ms.length := by omega
  subst hk'
  refine zAv ?_
  refine zDH 0 10 (zCH T ix ms ms.length).length [] J (zBI zGw) J (Nat.le_refl _) trivial ?_
  refine rn0 ?_
  exact zN hR J J
def zCI (T : Tab) (k : Nat) : List Nat := (List.range k).filter (fun i => decide ((zAR T i).2 = zEg T))
theorem zKR (T : Tab) (k : Nat) : zCI T (k + 1) = if (zAR T k).2 = zEg T then zCI T k ++ [k] else zCI T k := by
 unfold zCI
 rw [List.range_succ, List.filter_append]
 by_cases h : (zAR T k).2 = zEg T
 ·rw [if_pos h, List.filter_cons_of_pos (p := fun i => decide ((zAR T i).2 = zEg T)) (decide_eq_true h)]; rfl
 ·rw [if_neg h, List.filter_cons_of_neg (p := fun i => decide ((zAR T i).2 = zEg T)) (by rw [decide_eq_true_eq]; exact h)]; simp
theorem zK4 (T : Tab) (k : Nat) : (zCI T k).length ≤ k := by
 unfold zCI
 exact Nat.le_trans (List.length_filter_le ..) (by rw [List.length_range]; exact Nat.le_refl _)
def zDx (T : Tab) (k : Nat) : Int := (T.E.take k).foldl (fun a x => max a x.2) 0
theorem zKV (T : Tab) {k : Nat} (h : k < T.E.length) : zDx T (k + 1) = max (zDx T k) (zAR T k).2 := by
 unfold zDx zAR
 rw [zu _ (0, 0) k h, List.foldl_append]; rfl
/-- (*retro.Table).Longest -/
theorem long_ok (T : Tab) (h : TabOK T) : zn Tryz.prog 15 [zCP T] (zt ((zFe T).map Int.ofNat)) := by
 refine zd.value0 (zL (P := Tryz.prog) (fn := Tryz.f15) J J (by kernel_rfl) J (fun c hR hfix => ?_)) (fix := fun _ => False) (fun _ h => h) J J
 have hEl := h.len
 have hmost := h.G.most
 repeat (first | refine zA (zF rfl) ?_ | refine zA (zO rfl) ?_ | refine zC ?_ | refine zB ?_ | refine zY ?_ | refine zK rfl ?_ | refine zAO ?_ | refine zA (zBB rfl rfl rfl) ?_ | refine zA (zD rfl rfl rfl rfl) ?_ | refine zA (zAC rfl) ?_ | refine zA (zI rfl rfl rfl rfl rfl rfl) ?_)
 refine zw (ι := Nat) (fun k => [(0, zCP T), (3, .int .i64 (zDx T k)), (12, .ro (zAr T.E) 0 T.E.length), (13, iN T.E.length), (14, iN k)]) (fun k => []) (fun k => k ≤ T.E.length) (fun k => T.E.length - k) 0 ⟨⟨J, J, J, J, J, trivial⟩, J, Nat.zero_le _⟩ ?_
 intro k hk
 refine rn4 ?_
 refine zH J (fun g => ?_) (fun g => ?_)
 ·have hk' : k < T.E.length := by omega
  have hms : zDx T (k + 1) = if (zAR T k).2 > zDx T k then (zAR T k).2 else zDx T k := by rw [zKV T hk']; split <;> omega
  refine zF1 ?_
  repeat (refine zAN rfl rfl rfl ?_)
  refine zV (zA8 (zAR T k)) J J J J J J J ?_
  refine zAv ?_
  refine zB2 5 [(0, zCP T), (3, .int .i64 (zDx T k)), (12, .ro (zAr T.E) 0 T.E.length), (13, iN T.E.length), (14, iN k)] J ⟨J, J, J, J, J, J, trivial⟩ ⟨J, J, J, J, J, trivial⟩ J hfix ?_
  repeat (first | refine zA (zF rfl) ?_ | refine zA (zO rfl) ?_ | refine zC ?_ | refine zB ?_ | refine zK rfl ?_ | refine zAI ?_ | refine zA (zA1 rfl rfl (by omega)) ?_ | refine zA (zD rfl rfl rfl rfl) ?_ | refine zA (q_max rfl rfl) ?_ | refine zA (zI rfl rfl rfl rfl rfl rfl) ?_)
  refine zS ⟨k + 1, by omega, by omega, ⟨J, ?_, J, J, J, trivial⟩, J⟩
  rw [hms]; rfl
 have hk' : k = T.E.length := by omega
 subst hk'
 have hmt : zDx T T.E.length = zEg T := by unfold zDx zEg; rw [List.take_length]
 rw [hmt]
 refine zAv ?_
 refine zK J ?_
 refine zAv ?_
 refine zBa 6 ⟨3, .ints .i64 []⟩ J J ?_
 repeat (first | refine zA (zF rfl) ?_ | refine zC ?_ | refine zB ?_ | refine zK rfl ?_ | refine zAO ?_ | refine zA (zBB rfl rfl rfl) ?_ | refine zA (zD rfl rfl rfl rfl) ?_ | refine zA (zAC rfl) ?_ | refine zA (zI rfl rfl rfl rfl rfl rfl) ?_)
 refine zw (ι := Nat) (fun k => [(3, .int .i64 (zEg T)), (6, .sl 0 0 (zCI T k).length), (26, .ro (zAr T.E) 0 T.E.length), (27, iN T.E.length), (28, iN k)]) (fun k => [some ⟨3, .ints .i64 ((zCI T k).map Int.ofNat)⟩]) (fun k => k ≤ T.E.length) (fun k => T.E.length - k) 0 ⟨⟨J, J, J, J, J, trivial⟩, J, Nat.zero_le _⟩ ?_
 intro k hk
 have hll := zK4 T k
 have hml : ((zCI T k).map Int.ofNat).length = (zCI T k).length := List.length_map ..
 refine rn4 ?_
 refine zH J (fun g => ?_) (fun g => ?_)
 ·have hk' : k < T.E.length := by omega
  have hls := zKR T k
  refine zF1 ?_
  refine rn4 ?_
  refine zV (zA8 (zAR T k)) J J J J J J J ?_
  refine zAv ?_
  refine zEK [some ⟨3, .ints .i64 ((zCI T k).map Int.ofNat)⟩] 8 [(3, .int .i64 (zEg T)), (6, .sl 0 0 (zCI T k).length), (26, .ro (zAr T.E) 0 T.E.length), (27, iN T.E.length), (28, iN k), (7, iN k)] J J ⟨J, J, J, J, J, J, trivial⟩ ⟨J, J, J, J, J, J, J, trivial⟩ (zCB (fun _ _ _ _ => rfl) zBY) J (fun h q => by rw [hfix] at q; exact q.elim) ?_
  refine zBg ?_
  refine zH J (fun q => ?_) (fun q => ?_)
  ·have q : (zAR T k).2 = zEg T := q
   rw [if_pos q] at hls
   have hnl : (zCI T (k + 1)).length = (zCI T k).length + 1 := by rw [hls, List.length_append]; rfl
   refine rn3 ?_
   refine zAf J J J J J J J J J hml J J (by show 0 + 1 ≤ 1; omega) J (by show ((zCI T k).length + 1) * 8 ≤ _ ∧ _; omega) (fun i j _ _ => rfl) (by rw [hfix]; exact fun h => h) ?_
   refine rn5 ?_
   refine zS ⟨k + 1, by omega, by omega, ⟨J, ?_, J, J, J, trivial⟩, ?_⟩
   ·rw [hnl]; rfl
   ·rw [hls, List.map_append]; rfl
  ·have q : ¬ (zAR T k).2 = zEg T := q
   rw [if_neg q] at hls
   refine rn5 ?_
   refine zS ⟨k + 1, by omega, by omega, ⟨J, ?_, J, J, J, trivial⟩, ?_⟩
   ·rw [hls]; rfl
   ·rw [hls]
 ·have hk' : k = T.E.length := by omega
  subst hk'
  have hlt : zCI T T.E.length = zFe T := rfl
  rw [hlt] at hml ⊢
  refine zAv ?_
  refine zDH 0 6 (zFe T).length [] J zAL J (by show (zFe T).length ≤ ((zFe T).map Int.ofNat).length; rw [hml]; exact Nat.le_refl _) trivial ?_
  refine rn0 ?_
  refine zN hR J ?_
  show AV.ro (Cells.ints .i64 ((zFe T).map Int.ofNat)) 0 (zFe T).length = AV.ro (Cells.ints .i64 ((zFe T).map Int.ofNat)) 0 ((zFe T).map Int.ofNat).length
  rw [hml]
def isM (m x : Mv) : Bool := decide (x = m)
theorem indexMv (l : List Mv) (m : Mv) (hlen : l.length ≤ 1000000) : zn Tryz.prog 72 [zBq l, mvA m] (.int .i64 (zC8 (isM m) l)) := by
 refine zd.value0 (zL (P := Tryz.prog) (fn := Tryz.f72) J J (by kernel_rfl) J (fun c hR hfix => ?_)) (fix := fun _ => False) (fun _ h => h) J J
 refine zY ?_
 repeat (first | refine zA (zO rfl) ?_ | refine zC ?_ | refine zB ?_ | refine zK rfl ?_ | refine zAn rfl rfl ?_)
 refine zB2 3 [(0, zBq l)] J ⟨J, J, trivial⟩ ⟨J, trivial⟩ J hfix ?_
 refine rn3 ?_
 refine zw (ι := Nat) (fun k => [(0, zBq l), (3, .rp (.box (mvC m)) 0 0), (7, iN l.length), (8, iN k)]) (fun _ => [])
  (fun k => k ≤ l.length ∧ (l.take k).any (isM m) = false) (fun k => l.length - k) 0 ⟨⟨rfl, rfl, rfl, rfl, trivial⟩, rfl, Nat.zero_le _, rfl⟩ ?_
 intro k ⟨hk, hany⟩
 refine rn4 ?_
 refine zH J (fun h => ?_) (fun h => ?_)
 ·have hk' : k < l.length := by omega
  have hanys := zBu (isM m) l mv0 k hk'
  refine rn1 ?_
  refine zf (by kernel_rfl) ?_
  refine zl (fuel := 0) [0, 1, 2, 3, 4, 5] [(0, zBq l), (3, .rp (.box (mvC m)) 0 0), (7, iN l.length), (8, iN k), (5, iN k)] ⟨J, J, J, J, J, trivial⟩ (by kernel_rfl) (by decide) J J ?_
  refine zJ J J (zAB J J J J J J) ?_
  refine zJ J J (zF J) ?_
  refine zJ J J (zF J) ?_
  refine zJ J J (zg J J J J (by first | (simp only [Nat.zero_add, Int.toNat_natCast, Int.toNat_zero]; exact J) | exact J) (by omega)) ?_
  refine zJ J J (zAB J J J J J J) ?_
  refine zJ J J (zEY J J J (by kernel_rfl) (by kernel_rfl) (by kernel_rfl) J) ?_
  refine zr ?_
  refine zX (by kernel_rfl) ?_
  repeat (refine zB ?_)
  refine zAH (b := isM m (l.getD k mv0)) (by unfold isM; rw [← eqMv]; rfl) (fun h2 => ?_) (fun h2 => ?_)
  ·refine rn6 ?_
   refine zN hR J ?_
   have := zBw (isM m) l k hany hk
   rw [zD5 l mv0 k hk'] at this
   simp only [zC8, h2, if_true] at this
   rw [this]; simp [zCQ]
  ·refine rn5 ?_
   refine zS ⟨k + 1, ⟨by omega, by rw [hanys, hany, h2]; rfl⟩, by omega, ⟨J, J, J, J, trivial⟩, J⟩
 ·have hk' : k = l.length := by omega
  subst hk'
  refine rn5 ?_
  refine zN hR J ?_
  have := zBw (isM m) l l.length hany hk
  rw [List.drop_length] at this
  rw [this]; rfl
theorem zL9 (l : List Mv) (m : Mv) (hlen : l.length ≤ 1000000) : zn Tryz.prog 40 [zBq l, mvA m] (.bool (l.any (isM m))) := by
 refine zd.value0 (zL (P := Tryz.prog) (fn := Tryz.f40) J J (by kernel_rfl) J (fun c hR hfix => ?_)) (fix := fun _ => False) (fun _ h => h) J J
 refine rn6 ?_
 refine zQ J J J (indexMv l m hlen) ?_
 refine rn8 ?_
 refine zN hR J ?_
 simp only [zCQ, zGP]
theorem any_isM {l : List Mv} {m : Mv} : l.any (isM m) = decide (m ∈ l) := by
 by_cases h : m ∈ l
 ·rw [decide_eq_true h, List.any_eq_true]; exact ⟨m, h, decide_eq_true rfl⟩
 ·rw [decide_eq_false h, ← Bool.not_eq_true, List.any_eq_true]
  rintro ⟨x, hx, e⟩
  exact h (by rw [← of_decide_eq_true e]; exact hx)
theorem equalMv (a b : List Mv) (hlen : a.length ≤ 1000000) (hlb : b.length ≤ 1000000) : zn Tryz.prog 27 [zBq a, zBq b] (.bool (decide (a = b))) := by
 refine zd.value0 (zL (P := Tryz.prog) (fn := Tryz.f27) J J (by kernel_rfl) J (fun c hR hfix => ?_)) (fix := fun _ => False) (fun _ h => h) J J
 refine rn3 ?_
 refine zH J (fun h => ?_) (fun h => ?_)
 ·refine rn2 ?_
  refine zN hR J ?_
  have : ¬ a = b := by rintro rfl; exact h rfl
  simp [zCQ, this]
 have hab : a.length = b.length := by omega
 refine rn3 ?_
 refine zw (ι := Nat) (fun k => [(0, zBq a), (1, zBq b), (12, iN a.length), (13, iN k)]) (fun _ => [])
  (fun k => k ≤ a.length ∧ a.take k = b.take k) (fun k => a.length - k) 0 ⟨⟨rfl, rfl, rfl, rfl, trivial⟩, rfl, Nat.zero_le _, rfl⟩ ?_
 intro k ⟨hk, heq⟩
 refine rn4 ?_
 refine zH J (fun h2 => ?_) (fun h2 => ?_)
 ·have hk' : k < a.length := by omega
  have ha := zu a mv0 k hk'
  have hb := zu b mv0 k (by omega)
  refine rn1 ?_
  refine zf (by kernel_rfl) ?_
  refine zl (fuel := 0) [0, 1, 2, 3, 4, 5, 6, 7, 8] [(0, zBq a), (1, zBq b), (12, iN a.length), (13, iN k), (5, iN k)] ⟨J, J, J, J, J, trivial⟩ (by kernel_rfl) (by decide) J J ?_
  refine zJ J J (zF J) ?_
  refine zJ J J (zF J) ?_
  refine zJ J J (zg J J J J (by first | (simp only [Nat.zero_add, Int.toNat_natCast, Int.toNat_zero]; exact J) | exact J) (by omega)) ?_
  refine zJ J J (zAB J J J J J J) ?_
  refine zJ J J (zF J) ?_
  refine zJ J J (zF J) ?_
  refine zJ J J (zg J J J J (by first | (simp only [Nat.zero_add, Int.toNat_natCast, Int.toNat_zero]; exact J) | exact J) (by omega)) ?_
  refine zJ J J (zAB J J J J J J) ?_
  refine zJ J J (zC3 J J J (by kernel_rfl) (by kernel_rfl) (by kernel_rfl) J) ?_
  refine zr ?_
  refine zX (by kernel_rfl) ?_
  repeat (refine zB ?_)
  refine zAH (b := !(decide (b.getD k mv0 = a.getD k mv0))) (by rw [← eqMv]; rfl) (fun h3 => ?_) (fun h3 => ?_)
  ·refine rn6 ?_
   refine zN hR J ?_
   rw [Bool.not_eq_true', decide_eq_false_iff_not] at h3
   have : ¬ a = b := by rintro rfl; exact h3 rfl
   simp [zCQ, this]
  ·rw [Bool.not_eq_false', decide_eq_true_eq] at h3
   refine rn5 ?_
   exact zS ⟨k + 1, ⟨by omega, by rw [ha, hb, heq, h3]⟩, by omega, ⟨J, J, J, J, trivial⟩, J⟩
 ·have hk' : k = a.length := by omega
  subst hk'
  rw [List.take_length, hab, List.take_length] at heq
  refine rn5 ?_
  refine zN hR J ?_
  simp [zCQ, heq]
/-- moves.Legal -/
theorem legal_ok (r : Go.Ax.Gm.Rules) (hr : Lens r) (p : Pos) (hp : LenP p) (m : Mv) (hl : zCJ r p = 0) : zn Tryz.prog 66 [ruA r, poA p, mvA m] (.tup [.bool (decide (m ∈ zAX r p)), .int .i64 0]) := by
 refine zd.value0 (zL (P := Tryz.prog) (fn := Tryz.f66) J J (by kernel_rfl) J (fun c hR hfix => ?_)) (fix := fun _ => False) (fun _ h => h) J J
 obtain ⟨hz, S⟩ := zDo hl
 have ca := all_ok r hr p hp
 rw [hl, if_neg (by decide)] at ca
 have cc := zL9 (zAX r p) m (by have := zGR (zBL hz) S; omega)
 rw [any_isM] at cc
 refine rn6 ?_
 refine zQ J J J ca ?_
 refine rn6 ?_
 refine zQ J J J cc ?_
 refine rn0 ?_
 exact zN hR J J
/-- moves.After, a legal move -/
theorem after_ok (r : Go.Ax.Gm.Rules) (hr : Lens r) (p : Pos) (m : Mv) (hz : zAm r = 0) (S : Sound r p) (hm : m ∈ zAX r p) : zn Tryz.prog 33 [ruA r, poA p, mvA m] (.tup [poA (zAY r p m), .int .i64 0]) := by
 refine zd.value0 (zL (P := Tryz.prog) (fn := Tryz.f33) J J (by kernel_rfl) J (fun c hR hfix => ?_)) (fix := fun _ => False) (fun _ h => h) J J
 have hv := zBL hz
 have cl := legal_ok r hr p (zAt hv S).len m (zDa hz S)
 rw [decide_eq_true hm] at cl
 refine rn6 ?_
 refine zQ J J J cl ?_
 refine rn6 ?_
 refine zQ J J J (zLn r hv p S m (Go.Ax.Gm.list_ok hv S hm)) ?_
 skip
 refine zV (poC (zAY r p m)) J J J J J J J ?_
 refine rn0 ?_
 exact zN hR J J
/-- winner -/
theorem zJN (t : Int) (ht : t = 0 ∨ t = 1) : zn Tryz.prog 60 [.int .i64 t] (.int .i64 (1 + t)) := by
 refine zd.value0 (zL (P := Tryz.prog) (fn := Tryz.f60) J J (by kernel_rfl) J (fun c hR hfix => ?_)) (fix := fun _ => False) (fun _ h => h) J J
 rcases ht with rfl | rfl
 ·refine rn5 ?_
  exact zN hR J J
 ·refine rn4 ?_
  exact zN hR J J
theorem zIt : zn Tryz.prog 50 [] (poA (zBH two)) := by
 refine zd.value0 (zL (P := Tryz.prog) (fn := Tryz.f50) J J (by kernel_rfl) J (fun c hR hfix => ?_)) (fix := fun _ => False) (fun _ h => h) J J
 refine rn8 ?_
 refine zAx 5 (poA (zBH two)) J (zLY ⟨AEq.ro J (fun d j hd hj => by
  have hj : j < 1 := hj
  obtain rfl : j = 0 := by omega
  match d, hd with
  | 0, _ => rfl
  | 1, _ => rfl
  ), AEq.ro rfl (fun d j hd hj => by
  have hj : j < 1 := hj
  obtain rfl : j = 0 := by omega
  match d, hd with
  | 0, _ => rfl
  ), AEq.ro rfl (fun d j hd hj => by
  have hj : j < 1 := hj
  obtain rfl : j = 0 := by omega
  match d, hd with
  | 0, _ => rfl
  ), AEq.rfl', AEq.rfl', trivial⟩) ?_
 refine zV (poC (zBH two)) J J J J J J J ?_
 refine rn0 ?_
 exact zN hR J J
theorem two_ok' : zn Tryz.prog 49 [] (ruA two) := by
 refine zd.value0 (zL (P := Tryz.prog) (fn := Tryz.f49) J J (by kernel_rfl) J (fun c hR hfix => ?_)) (fix := fun _ => False) (fun _ h => h) J J
 refine rn8 ?_
 refine zAx 6 (ruA two) J (zLY ⟨AEq.rfl', AEq.rfl', AEq.rfl', AEq.ro_in J (fun d j hd hj => by
  have hd : d < 1 := hd
  obtain rfl : d = 0 := by omega
  have hj : j < 4 := hj
  match j, hj with
  | 0, _ => exact AEq.rfl'
  | 1, _ => exact AEq.rfl'
  | 2, _ => exact AEq.rfl'
  | 3, _ => exact AEq.nil
  ), AEq.ro rfl (fun d j hd hj => by
  have hj : j < 1 := hj
  obtain rfl : j = 0 := by omega
  match d, hd with
  | 0, _ => rfl
  | 1, _ => rfl
  ), AEq.rfl', AEq.rfl', AEq.ro_in rfl (fun d j hd hj => by
  have hd : d < 1 := hd
  obtain rfl : d = 0 := by omega
  have hj : j < 4 := hj
  match j, hj with
  | 0, _ => exact AEq.rfl'
  | 1, _ => exact AEq.rfl'
  | 2, _ => exact AEq.rfl'
  | 3, _ => exact AEq.rfl'
  ), AEq.rfl', AEq.rfl', AEq.rfl', trivial⟩) ?_
 refine zV (ruC two) J J J J J J J ?_
 refine rn0 ?_
 exact zN hR J J
def whW (r : Go.Ax.Gm.Rules) : Int := IntKind.i64.wrap (r.w * r.h)
/-- is there a table of at most so many positions? -/
structure HasT (r : Go.Ax.Gm.Rules) (most : Int) (x : List Pos × List (List Nat)) : Prop where
 wh : ¬ whW r > 9
 pc : ¬ (r.pcs.length : Int) > 3
 e : zC9 r = 0
 g : zEC r = some x
 len : ¬ (x.1.length : Int) > most
theorem HasT.tab {r : Go.Ax.Gm.Rules} {most : Int} {x : List Pos × List (List Nat)} (h : HasT r most x) : TabOK (zFE r x) := by
 obtain ⟨h1, h2, _⟩ := zJB h.e
 exact zLq h1 h2 h.g
theorem newA_no {r : Go.Ax.Gm.Rules} (h : zC9 r ≠ 0) : zE3 r = .nilp := by unfold zE3; rw [if_pos h]
theorem zIB {r : Go.Ax.Gm.Rules} {x : List Pos × List (List Nat)} (h : zC9 r = 0) (g : zEC r = some x) : zE3 r = zCP (zFE r x) := by unfold zE3; rw [if_neg (fun c => c h), g]
theorem zMq (r : Go.Ax.Gm.Rules) (most : Int) (h : whW r > 9) : zn Tryz.prog 14 [ruA r, .int .i64 most] (.tup [.nilp, .bool false]) := by
 refine zd.value0 (zL (P := Tryz.prog) (fn := Tryz.f14) J J (by kernel_rfl) J (fun c hR hfix => ?_)) (fix := fun _ => False) (fun _ h => h) J J
 refine rn6 ?_
 refine zA (zGX J J J) ?_
 refine rn6 ?_
 refine zi J J (fun q => ?_) (fun q => absurd h q)
 refine rn6 ?_
 exact zN hR J J
theorem zMp (r : Go.Ax.Gm.Rules) (hr : Lens r) (most : Int) (h : ¬ whW r > 9) (h2 : (r.pcs.length : Int) > 3) : zn Tryz.prog 14 [ruA r, .int .i64 most] (.tup [.nilp, .bool false]) := by
 refine zd.value0 (zL (P := Tryz.prog) (fn := Tryz.f14) J J (by kernel_rfl) J (fun c hR hfix => ?_)) (fix := fun _ => False) (fun _ h => h) J J
 have hpl := hr.pcs
 refine rn6 ?_
 refine zA (zGX J J J) ?_
 refine rn6 ?_
 refine zi J J (fun q => absurd q h) (fun q => ?_)
 refine rn6 ?_
 refine zH J (fun q => ?_) (fun q => absurd h2 q)
 refine rn2 ?_
 exact zN hR J J
theorem zLR (r : Go.Ax.Gm.Rules) (hr : Lens r) (most : Int) (h : ¬ whW r > 9) (h2 : ¬ (r.pcs.length : Int) > 3) (h3 : zC9 r ≠ 0) : zn Tryz.prog 14 [ruA r, .int .i64 most] (.tup [.nilp, .bool false]) := by
 refine zd.value0 (zL (P := Tryz.prog) (fn := Tryz.f14) J J (by kernel_rfl) J (fun c hR hfix => ?_)) (fix := fun _ => False) (fun _ h => h) J J
 have hpl := hr.pcs
 have cn := zJg r hr
 rw [newA_no h3] at cn
 refine rn6 ?_
 refine zA (zGX J J J) ?_
 refine rn6 ?_
 refine zi J J (fun q => absurd q h) (fun q => ?_)
 refine rn6 ?_
 refine zH J (fun q => absurd q h2) (fun q => ?_)
 refine rn6 ?_
 refine zQ J J J cn ?_
 refine rn3 ?_
 refine zi J J (fun q => ?_) (fun q => absurd h3 q)
 refine rn6 ?_
 exact zN hR J J
theorem zLQ (r : Go.Ax.Gm.Rules) (hr : Lens r) (most : Int) (x : List Pos × List (List Nat)) (h : ¬ whW r > 9) (h2 : ¬ (r.pcs.length : Int) > 3) (h3 : zC9 r = 0) (h4 : zEC r = some x) (h5 : (x.1.length : Int) > most) : zn Tryz.prog 14 [ruA r, .int .i64 most] (.tup [.nilp, .bool false]) := by
 refine zd.value0 (zL (P := Tryz.prog) (fn := Tryz.f14) J J (by kernel_rfl) J (fun c hR hfix => ?_)) (fix := fun _ => False) (fun _ h => h) J J
 have hpl := hr.pcs
 have cn := zJg r hr
 rw [zIB h3 h4, h3] at cn
 refine rn6 ?_
 refine zA (zGX J J J) ?_
 refine rn6 ?_
 refine zi J J (fun q => absurd q h) (fun q => ?_)
 refine rn6 ?_
 refine zH J (fun q => absurd q h2) (fun q => ?_)
 refine rn6 ?_
 refine zQ J J J cn ?_
 repeat (first | refine zA (zF rfl) ?_ | refine zA (zO rfl) ?_ | refine zC ?_ | refine zB ?_ | refine zY ?_ | refine zK rfl ?_ | refine zp rfl rfl ?_ | refine zA (zBQ rfl rfl) ?_ | refine zA (zb rfl rfl) ?_ | refine zA (zAj rfl rfl) ?_ | refine zA (zJk rfl rfl rfl rfl) ?_)
 refine zQ J J J (zHZ (zFE r x)) ?_
 refine rn6 ?_
 refine zH J (fun q => ?_) (fun q => absurd h5 q)
 refine rn2 ?_
 exact zN hR J J
theorem zLS (r : Go.Ax.Gm.Rules) (hr : Lens r) (most : Int) (x : List Pos × List (List Nat)) (h : HasT r most x) : zn Tryz.prog 14 [ruA r, .int .i64 most] (.tup [zCP (zFE r x), .bool true]) := by
 refine zd.value0 (zL (P := Tryz.prog) (fn := Tryz.f14) J J (by kernel_rfl) J (fun c hR hfix => ?_)) (fix := fun _ => False) (fun _ h => h) J J
 obtain ⟨h, h2, h3, h4, h5⟩ := h
 have hpl := hr.pcs
 have cn := zJg r hr
 rw [zIB h3 h4, h3] at cn
 refine rn6 ?_
 refine zA (zGX J J J) ?_
 refine rn6 ?_
 refine zi J J (fun q => absurd q h) (fun q => ?_)
 refine rn6 ?_
 refine zH J (fun q => absurd q h2) (fun q => ?_)
 refine rn6 ?_
 refine zQ J J J cn ?_
 repeat (first | refine zA (zF rfl) ?_ | refine zA (zO rfl) ?_ | refine zC ?_ | refine zB ?_ | refine zY ?_ | refine zK rfl ?_ | refine zp rfl rfl ?_ | refine zA (zBQ rfl rfl) ?_ | refine zA (zb rfl rfl) ?_ | refine zA (zAj rfl rfl) ?_ | refine zA (zJk rfl rfl rfl rfl) ?_)
 refine zQ J J J (zHZ (zFE r x)) ?_
 refine rn6 ?_
 refine zH J (fun q => absurd q h5) (fun q => ?_)
 refine rn1 ?_
 exact zN hR J J
/-- solved: no table, or one -/
theorem zMo (r : Go.Ax.Gm.Rules) (hr : Lens r) (most : Int) : zn Tryz.prog 14 [ruA r, .int .i64 most] (.tup [.nilp, .bool false]) ∨ ∃ x, HasT r most x ∧ zn Tryz.prog 14 [ruA r, .int .i64 most] (.tup [zCP (zFE r x), .bool true]) := by
 by_cases h : whW r > 9
 ·exact .inl (zMq r most h)
 by_cases h2 : (r.pcs.length : Int) > 3
 ·exact .inl (zMp r hr most h h2)
 by_cases h3 : zC9 r = 0
 ·obtain ⟨_, _, x, h4⟩ := zJB h3
  by_cases h5 : (x.1.length : Int) > most
  ·exact .inl (zLQ r hr most x h h2 h3 h4 h5)
  ·exact .inr ⟨x, ⟨h, h2, h3, h4, h5⟩, zLS r hr most x ⟨h, h2, h3, h4, h5⟩⟩
 ·exact .inl (zLR r hr most h h2 h3)
theorem zH4 : Lens two := ⟨by decide, by decide, by decide, by decide, by decide⟩
theorem zMt : Sound two (zBH two) := zEr (zBL zG1)
/-- retroFact -/
theorem zII : zn Tryz.prog 13 [] (.bool true) := by
 refine zd.value0 (zL (P := Tryz.prog) (fn := Tryz.f13) J J (by kernel_rfl) J (fun c hR hfix => ?_)) (fix := fun _ => False) (fun _ h => h) J J
 have cn := zJg two zH4
 rw [zIB zLv zIZ, zLv, zLw] at cn
 have hl := (zAt two_ok.v zMt).len
 have co := of_ok zEl two_ok zH4 (zBH two) hl
 rw [two_of, zKn] at co
 have ca := at_ok zEl two_ok 0
 have e0 : atE zEl 0 = 0 := by decide
 have e1 : atP zEl 0 = zBH two := by unfold atP; rw [e0]; rfl
 have e2 : atX zEl 0 = (2, 2) := by unfold atX; rw [e0]; rfl
 rw [e0, e1, e2] at ca
 have cb := best_ok zEl two_ok zH4 (zBH two) hl
 rw [zKm.1, zKm.2] at cb
 have cl := long_ok zEl two_ok
 rw [two_long] at cl
 refine rn0 ?_
 refine zQ J J J two_ok' ?_
 skip
 refine zQ J J J cn ?_
 repeat (first | refine zA (zF rfl) ?_ | refine zA (zO rfl) ?_ | refine zC ?_ | refine zB ?_ | refine zY ?_ | refine zK rfl ?_ | refine zp rfl rfl ?_ | refine zAV rfl ?_ | refine zAJ ?_ | refine zA (zBQ rfl rfl) ?_ | refine zA (zb rfl rfl) ?_ | refine zA (zAj rfl rfl) ?_ | refine zA (zJk rfl rfl rfl rfl) ?_)
 refine zQ J J J zIt ?_
 skip
 refine zQ J J J co ?_
 refine rn4 ?_
 refine zV (zA8 (2, 2)) J J J J J J J ?_
 refine rn0 ?_
 refine zQ J J J ca ?_
 refine rn4 ?_
 refine zV (poC (zBH two)) J J J J J J J ?_
 skip
 refine zV (zA8 (2, 2)) J J J J J J J ?_
 refine rn0 ?_
 refine zQ J J J zIt ?_
 skip
 refine zQ J J J cb ?_
 refine rn3 ?_
 refine zQ J J J (fineI [0, 0, 0] (by decide)) ?_
 refine rn2 ?_
 refine zQ J J J (zHZ zEl) ?_
 repeat (first | refine zA (zF rfl) ?_ | refine zp rfl rfl ?_ | refine zA (zT rfl rfl rfl rfl rfl) ?_ | refine zA (zBh rfl rfl) ?_ | refine zA (zb rfl rfl) ?_ | refine zA (zBB rfl rfl rfl) ?_ | refine zA (zCu rfl rfl rfl rfl rfl rfl) ?_ | refine zA (zM rfl rfl rfl rfl rfl rfl) ?_ | refine zA (zEY rfl rfl rfl (by kernel_rfl) (by kernel_rfl) (by kernel_rfl) rfl) ?_ | refine zA (qpp rfl rfl rfl rfl rfl rfl rfl) ?_ | refine zAA rfl rfl rfl rfl rfl rfl rfl rfl rfl rfl rfl ?_)
 refine zAx 69 (zBq [⟨-1, 0, 0⟩, ⟨-1, 1, 0⟩]) J (AEq.ro J (fun d j hd hj => ?_)) ?_
 ·have hj : j < 3 := hj
  match d, hd, j, hj with
  | 0, _, 0, _ => rfl
  | 0, _, 1, _ => rfl
  | 0, _, 2, _ => rfl
  | 1, _, 0, _ => rfl
  | 1, _, 1, _ => rfl
  | 1, _, 2, _ => rfl
 refine zQ J J J (equalMv [⟨-1, 0, 0⟩, ⟨-1, 1, 0⟩] [⟨-1, 0, 0⟩, ⟨-1, 1, 0⟩] (by decide) (by decide)) ?_
 refine rn2 ?_
 refine zQ J J J cl ?_
 refine rn3 ?_
 refine zQ J J J (equalI [0] [0] (by decide) (by decide)) ?_
 refine rn2 ?_
 exact zN hR J J
theorem zK5 (L : List Ent) (x : Ent) : zDn (L ++ [x]) = max (zDn L) x.2 := by
 unfold zDn
 rw [List.foldl_append]; rfl
theorem winF_lt {t : Int} {L : List Ent} (h : ∀ x ∈ L, 0 ≤ x.2 ∧ x.2 ≤ 3000) : -1 ≤ zDi t L ∧ zDi t L ≤ 3000 := by
 obtain ⟨_, _, i3⟩ := zHb t L (-1) (fun x hx => (h x hx).1)
 rcases i3 with q | ⟨y, hy, _, q⟩
 ·have q : zDi t L = -1 := q
  omega
 ·have q : zDi t L = y.2 := q
  have := h y hy
  omega
theorem lossF_lt {L : List Ent} (h : ∀ x ∈ L, 0 ≤ x.2 ∧ x.2 ≤ 3000) : -1 ≤ zDn L ∧ zDn L ≤ 3000 := by
 obtain ⟨_, _, i3⟩ := zH6 L (-1)
 rcases i3 with q | ⟨y, hy, q⟩
 ·have q : zDn L = -1 := q
  omega
 ·have q : zDn L = y.2 := q
  have := h y hy
  omega
def zHE (t : Int) (L : List Ent) : Bool := L.all (fun x => decide (x.1 = 1 + 1 - t))
theorem zK6 (t : Int) (L : List Ent) (x : Ent) : zHE t (L ++ [x]) = (zHE t L && decide (x.1 = 1 + 1 - t)) := by
 unfold zHE
 rw [List.all_append]; simp
/-- entry -/
theorem entry_ok (t : Int) (ht : t = 0 ∨ t = 1) (L : List Ent) (hl : L.length ≤ 100000) (hb : ∀ x ∈ L, 0 ≤ x.2 ∧ x.2 ≤ 3000) : zn Tryz.prog 24 [.int .i64 t, .ro (zAr L) 0 L.length] (entA (zFp t L)) := by
 refine zd.value0 (zL (P := Tryz.prog) (fn := Tryz.f24) J J (by kernel_rfl) J (fun c hR hfix => ?_)) (fix := fun _ => False) (fun _ h => h) J J
 have e2 : 1 + (1 - t) = 1 + 1 - t := by omega
 have cw := zJN t ht
 have cl := zJN (1 - t) (by omega)
 rw [e2] at cl
 refine rn4 ?_
 refine zw (ι := Nat) (fun k => [(0, .int .i64 t), (4, .ptr 0 0 0), (5, .int .i64 (zDi t (L.take k))), (6, .int .i64 (zDn (L.take k))), (7, .bool (zHE t (L.take k))), (10, .ro (zAr L) 0 L.length), (11, iN L.length), (12, iN k)]) (fun _ => [some ⟨37, .box (zA8 (0, 0))⟩]) (fun k => k ≤ L.length) (fun k => L.length - k) 0 ⟨⟨J, J, J, J, J, J, J, J, trivial⟩, J, Nat.zero_le _⟩ ?_
 intro k hk
 refine rn4 ?_
 refine zH J (fun g => ?_) (fun g => ?_)
 ·have hk' : k < L.length := by omega
  have htk := zu L (0, 0) k hk'
  have hws := zM1 t (L.take k) (L.getD k (0, 0))
  have hls := zK5 (L.take k) (L.getD k (0, 0))
  have hbs := zK6 t (L.take k) (L.getD k (0, 0))
  rw [← htk] at hws hls hbs
  obtain ⟨x, hx⟩ : ∃ x, L.getD k (0, 0) = x := ⟨_, rfl⟩
  rw [hx] at hws hls hbs
  generalize hw0 : zDi t (L.take k) = w0 at hws
  generalize hl0 : zDn (L.take k) = l0 at hls
  generalize hb0 : zHE t (L.take k) = b0 at hbs
  refine zF1 ?_
  repeat (refine zAN rfl rfl rfl ?_)
  refine zV (zA8 x) J J J J J (by rw [← hx]; rfl) J ?_
  refine zAv ?_
  refine zEK [some ⟨37, .box (zA8 (0, 0))⟩] 9 [(0, .int .i64 t), (4, .ptr 0 0 0), (5, .int .i64 w0), (6, .int .i64 l0), (7, .bool b0), (10, .ro (zAr L) 0 L.length), (11, iN L.length), (12, iN k)] J J ⟨J, J, J, J, J, J, J, J, trivial⟩ ⟨J, J, J, J, J, J, J, J, J, trivial⟩ (zCB (zHP J) zBY) J (fun h q => by rw [hfix] at q; exact q.elim) ?_
  skip
  apply z8 (H := [some ⟨37, .box (zA8 (0, 0))⟩]) [(9, .rp (.box (zA8 x)) 0 0), (0, .int .i64 t), (4, .ptr 0 0 0), (5, .int .i64 (zDi t (L.take (k + 1)))), (6, .int .i64 l0), (7, .bool b0), (10, .ro (zAr L) 0 L.length), (11, iN L.length), (12, iN k)]
  ·intro fin
   rw [hws] at fin
   refine zf (by kernel_rfl) ?_
   refine zl (fuel := 0) [0, 1, 2, 3, 4, 5, 6, 7, 8, 9, 10, 11, 12, 13, 14] [(9, .rp (.box (zA8 x)) 0 0), (0, .int .i64 t), (4, .ptr 0 0 0), (5, .int .i64 w0), (6, .int .i64 l0), (7, .bool b0), (10, .ro (zAr L) 0 L.length), (11, iN L.length), (12, iN k)] ⟨J, J, J, J, J, J, J, J, J, trivial⟩ (by kernel_rfl) (by decide) J J ?_
   refine zJ J J (zI J J J J J J) ?_
   refine zJ J J (zD J J J J) ?_
   refine zJ J J (zF J) ?_
   refine zCN J J J J J cw ?_
   refine zJ J J (zBh J J) ?_
   by_cases c1 : x.1 = 1 + t
   ·rw [decide_eq_true (show x.1 = 1 + t from c1)]
    refine zJ J J (zF J) ?_
    refine zh J J J J (zF J) ?_
    refine zh J J J J (zBs J J) ?_
    by_cases c2 : w0 < 0
    ·rw [decide_eq_true c2]
     rw [if_pos ⟨c1, .inl c2⟩] at fin
     refine zh J J J J (zF J) ?_
     refine zm J J J J J ?_
     refine zm J J J J J ?_
     refine zm J J J J J ?_
     refine zm J J J J J ?_
     refine zh J J J J (zb J J) ?_
     refine zJ J J (zb J J) ?_
     refine zr ?_
     refine zX (by kernel_rfl) ?_
     repeat (first | refine zA (zO rfl) ?_ | refine zC ?_ | refine zB ?_ | refine zK rfl ?_ | refine zAQ rfl ?_ | refine zA (zD rfl rfl rfl rfl) ?_ | refine zA (zI rfl rfl rfl rfl rfl rfl) ?_)
     exact fin _ ⟨J, J, J, J, J, J, J, J, J, trivial⟩
    ·rw [decide_eq_false c2]
     refine zh J J J J (zF J) ?_
     refine zh J J J J (zI J J J J J J) ?_
     refine zh J J J J (zD J J J J) ?_
     refine zh J J J J (zF J) ?_
     refine zh J J J J (zBs J J) ?_
     by_cases c3 : x.2 < w0
     ·rw [decide_eq_true (show x.2 < w0 from c3)]
      rw [if_pos ⟨c1, .inr c3⟩] at fin
      refine zh J J J J (zb J J) ?_
      refine zJ J J (zb J J) ?_
      refine zr ?_
      refine zX (by kernel_rfl) ?_
      repeat (first | refine zA (zO rfl) ?_ | refine zC ?_ | refine zB ?_ | refine zK rfl ?_ | refine zAQ rfl ?_ | refine zA (zD rfl rfl rfl rfl) ?_ | refine zA (zI rfl rfl rfl rfl rfl rfl) ?_)
      exact fin _ ⟨J, J, J, J, J, J, J, J, J, trivial⟩
     ·rw [decide_eq_false (show ¬ x.2 < w0 from c3)]
      rw [if_neg (fun q => q.2.elim c2 c3)] at fin
      refine zh J J J J (zb J J) ?_
      refine zJ J J (zb J J) ?_
      refine zr ?_
      refine zX (by kernel_rfl) ?_
      refine zEk ?_
      exact fin _ ⟨J, J, J, J, J, J, J, J, J, trivial⟩
   ·rw [decide_eq_false (show ¬ x.1 = 1 + t from c1)]
    rw [if_neg (fun q => c1 q.1)] at fin
    refine zJ J J (zF J) ?_
    refine zm J J J J J ?_
    refine zm J J J J J ?_
    refine zm J J J J J ?_
    refine zAc J J J J ?_
    refine zAc J J J J ?_
    refine zAc J J J J ?_
    refine zAc J J J J ?_
    refine zm J J J J J ?_
    refine zJ J J (zb J J) ?_
    refine zr ?_
    refine zX (by kernel_rfl) ?_
    refine zEk ?_
    exact fin _ ⟨J, J, J, J, J, J, J, J, J, trivial⟩
  repeat (refine zY ?_)
  apply z8 (H := [some ⟨37, .box (zA8 (0, 0))⟩]) [(9, .rp (.box (zA8 x)) 0 0), (0, .int .i64 t), (4, .ptr 0 0 0), (5, .int .i64 (zDi t (L.take (k + 1)))), (6, .int .i64 l0), (7, .bool (zHE t (L.take (k + 1)))), (10, .ro (zAr L) 0 L.length), (11, iN L.length), (12, iN k)]
  ·intro fin
   rw [hbs] at fin
   refine zf (by kernel_rfl) ?_
   refine zl (fuel := 1) [0, 1, 2, 3, 4, 5, 6, 7, 8] [(9, .rp (.box (zA8 x)) 0 0), (0, .int .i64 t), (4, .ptr 0 0 0), (5, .int .i64 (zDi t (L.take (k + 1)))), (6, .int .i64 l0), (7, .bool b0), (10, .ro (zAr L) 0 L.length), (11, iN L.length), (12, iN k)] ⟨J, J, J, J, J, J, J, J, J, trivial⟩ (by kernel_rfl) (by decide) J J ?_
   cases b0 with
   | true =>
    refine zJ J J (zF J) ?_
    refine zJ J J (zF J) ?_
    refine zh J J J J (zI J J J J J J) ?_
    refine zh J J J J (zD J J J J) ?_
    refine zh J J J J (zF J) ?_
    refine zh J J J J (zBD J J (by omega)) ?_
    refine zCW J J J J J J J cl ?_
    refine zh J J J J (zBh J J) ?_
    refine zJ J J (zb J J) ?_
    refine zr ?_
    refine zG (is := [9]) (by kernel_rfl) (by simp) J ⟨fun o ho => ?_, trivial⟩
    all_goals (cases ho)
    refine rn1 ?_
    refine zX (by kernel_rfl) ?_
    repeat (refine zB ?_)
    exact fin _ ⟨J, J, J, J, J, J, J, J, J, trivial⟩
   | false =>
    refine zJ J J (zF J) ?_
    refine zJ J J (zF J) ?_
    refine zm J J J J J ?_
    refine zm J J J J J ?_
    refine zm J J J J J ?_
    refine zm J J J J J ?_
    refine zm J J J J J ?_
    refine zm J J J J J ?_
    refine zJ J J (zb J J) ?_
    refine zr ?_
    refine zG (is := [9]) (by kernel_rfl) (by simp) J ⟨fun o ho => ?_, trivial⟩
    all_goals (cases ho)
    refine rn1 ?_
    refine zX (by kernel_rfl) ?_
    repeat (refine zB ?_)
    exact fin _ ⟨J, J, J, J, J, J, J, J, J, trivial⟩
  repeat (first | refine zA (zF rfl) ?_ | refine zA (zO rfl) ?_ | refine zC ?_ | refine zB ?_ | refine zK rfl ?_ | refine zAI ?_ | refine zA (zA1 rfl rfl (by omega)) ?_ | refine zA (zD rfl rfl rfl rfl) ?_ | refine zA (q_max rfl rfl) ?_ | refine zA (zI rfl rfl rfl rfl rfl rfl) ?_)
  refine zS ⟨k + 1, by omega, by omega, ⟨J, J, J, ?_, J, J, J, J, trivial⟩, J⟩
  rw [hls]
  show some (AV.int .i64 (if x.2 > l0 then x.2 else l0)) = some (AV.int .i64 (max l0 x.2))
  congr 2
  split <;> omega
 ·have hk' : k = L.length := by omega
  subst hk'
  rw [List.take_length]
  have hw := winF_lt (t := t) hb
  have hl := lossF_lt hb
  have he : zFp t L = if 0 ≤ zDi t L then (1 + t, zDi t L + 1) else if zHE t L = true then (1 + 1 - t, zDn L + 1) else (3, 0) := rfl
  repeat (first | refine zA (zF rfl) ?_ | refine zA (zO rfl) ?_ | refine zC ?_ | refine zB ?_ | refine zY ?_ | refine zK rfl ?_ | refine zAO ?_ | refine zCA ?_ | refine zAh ?_ | refine zAg ?_ | refine zAo ?_ | refine zA (zDb rfl rfl) ?_)
  refine zH J (fun q => ?_) (fun q => ?_)
  ·rw [he, if_pos (by omega)] at hR
   refine rn0 ?_
   refine zQ J J J cw ?_
   refine rn9 ?_
   refine zV (zA8 (1 + t, zDi t L + 1)) J J J J J J J ?_
   refine rn6 ?_
   exact zN hR J J
  ·rw [he, if_neg (by omega)] at hR
   cases hb : zHE t L with
   | true =>
    rw [hb, if_pos rfl] at hR
    refine rn16 ?_
    refine zQ J J J cl ?_
    refine rn9 ?_
    refine zV (zA8 (1 + 1 - t, zDn L + 1)) J J J J J J J ?_
    refine rn6 ?_
    exact zN hR J J
   | false =>
    rw [hb, if_neg (by decide)] at hR
    refine rn9 ?_
    refine zV (zA8 (3, 0)) J J J J J J J ?_
    refine rn0 ?_
    exact zN hR J J
/-- after: the moves, and the entries after them -/
theorem zL2 (T : Tab) (h : TabOK T) (hr : Lens T.r) (p : Pos) (S : Sound T.r p) (hf : ∀ m ∈ zAX T.r p, zBb T (zAY T.r p m) = 0) : zn Tryz.prog 23 [ruA T.r, zCP T, poA p] (.tup [zBq (zAX T.r p), .ro (zAr (zCU T p)) 0 (zCU T p).length, .bool true]) := by
 refine zd.value0 (zL (P := Tryz.prog) (fn := Tryz.f23) J J (by kernel_rfl) J (fun c hR hfix => ?_)) (fix := fun _ => False) (fun _ h => h) J J
 have ca := all_ok T.r hr p (zAt h.v S).len
 rw [zDa h.z S, if_neg (by decide)] at ca
 have hml := zGR h.v S
 have hms : ∀ m ∈ zAX T.r p, Sound T.r (zAY T.r p m) := fun m hm => zET h.v S (Go.Ax.Gm.list_ok h.v S hm)
 have hca := fun m (hm : m ∈ zAX T.r p) => after_ok T.r hr p m h.z S hm
 have hA : zCU T p = (zAX T.r p).map (fun m => ofT T (zAY T.r p m)) := rfl
 generalize hM : zAX T.r p = ms at *
 refine zY ?_
 repeat (first | refine zA (zO rfl) ?_ | refine zC ?_ | refine zB ?_ | refine zK rfl ?_ | refine zAn rfl rfl ?_)
 refine zFH 3 5 [(1, zCP T)] J J J J ⟨J, trivial⟩ ⟨J, J, J, trivial⟩ J hfix ?_
 refine rn6 ?_
 refine zQ J J J ca ?_
 refine zAv ?_
 refine zK J ?_
 repeat (first | refine zA (zF rfl) ?_ | refine zC ?_ | refine zB ?_ | refine zY ?_ | refine zAV rfl ?_ | refine zAJ ?_ | refine zA (zBQ rfl rfl) ?_)
 refine zK J ?_
 refine zAv ?_
 refine zBa 11 ⟨37, zAr []⟩ J J ?_
 refine rn3 ?_
 refine zw (ι := Nat) (fun k => [(3, .rp (.box (ruC T.r)) 0 0), (5, .rp (.box (poC p)) 0 0), (1, zCP T), (9, zBq ms), (11, .sl 0 0 ((ms.take k).map (fun m => ofT T (zAY T.r p m))).length), (26, zBq ms), (27, iN ms.length), (28, iN k)]) (fun k => [some ⟨37, zAr ((ms.take k).map (fun m => ofT T (zAY T.r p m)))⟩]) (fun k => k ≤ ms.length) (fun k => ms.length - k) 0 ⟨⟨J, J, J, J, J, J, J, J, trivial⟩, J, Nat.zero_le _⟩ ?_
 intro k hk
 refine rn4 ?_
 refine zH J (fun g => ?_) (fun g => ?_)
 ·have hk' : k < ms.length := by omega
  have hmem : ms.getD k mv0 ∈ ms := zAp mv0 hk'
  have htk : (ms.take (k + 1)).map (fun m => ofT T (zAY T.r p m)) = (ms.take k).map (fun m => ofT T (zAY T.r p m)) ++ [ofT T (zAY T.r p (ms.getD k mv0))] := by
   rw [zu ms mv0 k hk', List.map_append]; rfl
  have hlk : ((ms.take k).map (fun m => ofT T (zAY T.r p m))).length ≤ 10000 := by rw [List.length_map, List.length_take]; omega
  generalize hO : (ms.take k).map (fun m => ofT T (zAY T.r p m)) = O at htk hlk
  obtain ⟨m, hm⟩ : ∃ m, ms.getD k mv0 = m := ⟨_, rfl⟩
  rw [hm] at hmem htk
  have co := of_ok T h hr (zAY T.r p m) (zAt h.v (hms m hmem)).len
  rw [hf m hmem] at co
  refine zF1 ?_
  repeat (refine zAN rfl rfl rfl ?_)
  refine zV (mvC m) J J J J J (by rw [← hm]; rfl) J ?_
  refine rn6 ?_
  refine zQ J J J (hca m hmem) ?_
  refine rn4 ?_
  refine zV (poC (zAY T.r p m)) J J J J J J J ?_
  refine rn6 ?_
  refine zQ J J J co ?_
  refine rn4 ?_
  refine zV (zA8 (ofT T (zAY T.r p m))) J J J J J J J ?_
  refine rn3 ?_
  refine zQ J J J (fineI [0, 0] (by decide)) ?_
  refine rn6 ?_
  refine zBX [ofT T (zAY T.r p m)] J J J J J J J J J J J J J (by show 0 + 1 ≤ 1; omega) (fun k' j' hk' hj' => ?_) (by show (O.length + 1) * 16 ≤ _ ∧ _; omega) (fun a j k _ => zEP a j k) (by rw [hfix]; exact fun h => h) ?_
  ·obtain rfl : k' = 0 := Nat.lt_one_iff.1 hk'
   match j', hj' with
   | 0, _ => rfl
   | 1, _ => rfl
  refine rn10 ?_
  refine zB ?_
  refine zBy [some ⟨37, zAr (O ++ [ofT T (zAY T.r p m)])⟩] [some ⟨58, .box (mvC m)⟩, some ⟨35, .box (poC (zAY T.r p m))⟩, some ⟨37, .box (zA8 (ofT T (zAY T.r p m)))⟩] [(3, .rp (.box (ruC T.r)) 0 0), (5, .rp (.box (poC p)) 0 0), (1, zCP T), (9, zBq ms), (11, .sl 0 0 (O.length + 1)), (26, zBq ms), (27, iN ms.length), (28, iN k)] J ⟨J, J, J, J, J, J, J, J, trivial⟩ (fun h q => by rw [hfix] at q; exact q.elim) (zCB (zHu _) zBY) J ?_
  refine rn3 ?_
  refine zS ⟨k + 1, by omega, by omega, ⟨J, J, J, J, ?_, J, J, J, trivial⟩, ?_⟩
  ·rw [htk, List.length_append]; rfl
  ·rw [htk]
 ·have hk' : k = ms.length := by omega
  subst hk'
  rw [List.take_length, ← hA]
  refine zAv ?_
  refine zDH 0 11 (zCU T p).length [(9, zBq ms)] J (zGI _) J (Nat.le_refl _) ⟨J, trivial⟩ ?_
  refine rn0 ?_
  exact zN hR J J
theorem at_yes {T : Tab} {i : Nat} (hi : i < T.l.length) : atE T (i : Int) = 0 ∧ atP T (i : Int) = T.l.getD i zo ∧ atX T (i : Int) = zAR T i := by
 have e : atE T (i : Int) = 0 := by unfold atE; rw [if_neg (by omega)]
 exact ⟨e, by unfold atP; rw [e, if_neg (by decide), Int.toNat_natCast], by unfold atX; rw [e, if_neg (by decide), Int.toNat_natCast]⟩
theorem zKr {T : Tab} (h : TabOK T) {i : Nat} (hi : i < T.l.length) (hr : zAK T.r (T.l.getD i zo) = 0) : ∀ m ∈ zAX T.r (T.l.getD i zo), zBb T (zAY T.r (T.l.getD i zo) m) = 0 := fun m hm => by
 obtain ⟨k, hk, rfl⟩ := List.mem_iff_getElem.1 hm
 have := (h.next hi hr hk).2.1
 rwa [zDk mv0 hk] at this
theorem zL3 {T : Tab} (h : TabOK T) {i : Nat} (hi : i < T.l.length) (hr : zAK T.r (T.l.getD i zo) = 0) : (∀ x ∈ zCU T (T.l.getD i zo), 0 ≤ x.2 ∧ x.2 ≤ 3000) ∧ (zCU T (T.l.getD i zo)).length ≤ 10000 := by
 refine ⟨fun x hx => ?_, ?_⟩
 ·rw [h.after hi hr] at hx
  obtain ⟨k, hk, rfl⟩ := List.mem_map.1 hx
  obtain ⟨j, hj, rfl⟩ := List.mem_iff_getElem.1 hk
  have := (h.next hi hr (by rw [← h.nlen hi hr]; exact hj)).1
  rw [Go.Ax.Gm.get_at _ hj] at this
  exact ⟨h.plies this, h.plies_le this⟩
 ·unfold zCU
  rw [List.length_map]
  exact zGR h.v (h.sound hi).1
/-- RetroFollows -/
theorem zGj (r : Go.Ax.Gm.Rules) (hr : Lens r) : zn Tryz.prog 4 [ruA r] (.bool true) := by
 rcases zMo r hr 150 with cs | ⟨x, hx, cs⟩
 ·refine zd.value0 (zL (P := Tryz.prog) (fn := Tryz.f4) J J (by kernel_rfl) J (fun c hR hfix => ?_)) (fix := fun _ => False) (fun _ h => h) J J
  refine rn6 ?_
  refine zQ J J J zII ?_
  refine rn6 ?_
  refine zQ J J J cs ?_
  refine rn5 ?_
  exact zN hR J J
 have hT := hx.tab
 obtain ⟨T, eT⟩ : ∃ T, zFE r x = T := ⟨_, rfl⟩
 have er : T.r = r := by rw [← eT]; rfl
 rw [eT] at hT cs
 clear eT hx
 subst er
 have hmost := hT.G.most
 refine zd.value0 (zL (P := Tryz.prog) (fn := Tryz.f4) J J (by kernel_rfl) J (fun c hR hfix => ?_)) (fix := fun _ => False) (fun _ h => h) J J
 refine zY ?_
 repeat (first | refine zA (zO rfl) ?_ | refine zC ?_ | refine zB ?_ | refine zK rfl ?_ | refine zAn rfl rfl ?_)
 refine zB2 1 [] J ⟨J, trivial⟩ trivial J hfix ?_
 refine rn0 ?_
 refine zQ J J J zII ?_
 refine rn6 ?_
 refine zQ J J J cs ?_
 refine rn5 ?_
 refine zQ J J J (zHZ T) ?_
 refine rn1 ?_
 refine zw (ι := Nat) (fun k => [(1, .rp (.box (ruC T.r)) 0 0), (3, zCP T), (26, iN T.l.length), (27, iN k)]) (fun _ => []) (fun k => k ≤ T.l.length) (fun k => T.l.length - k) 0 ⟨⟨J, J, J, J, trivial⟩, J, Nat.zero_le _⟩ ?_
 intro k hk
 refine rn4 ?_
 refine zH J (fun g => ?_) (fun g => ?_)
 ·have hk' : k < T.l.length := by omega
  have ca := at_ok T hT (k : Int)
  obtain ⟨a1, a2, a3⟩ := at_yes hk'
  rw [a1, a2, a3] at ca
  have S := (hT.sound hk').1
  have hlp := (zFU hT hk').len
  have ce := endOf_ok T.r hr (T.l.getD k zo) hlp
  rw [zDa hT.z S, if_neg (by decide)] at ce
  have co := of_ok T hT hr (T.l.getD k zo) hlp
  rw [hT.of hk', hT.find hk'] at co
  have hover := hT.over hk'
  have hfol := fun q => (hT.follows hk' q).1
  have hfew := zL3 hT hk'
  have hfnd := zKr hT hk'
  have htn := S.tn
  have cA := zL2 T hT hr (T.l.getD k zo) S
  generalize hP : T.l.getD k zo = P at *
  refine rn1 ?_
  refine zQ J J J ca ?_
  refine rn4 ?_
  refine zV (poC P) J J J J J J J ?_
  skip
  refine zV (zA8 (zAR T k)) J J J J J J J ?_
  refine rn6 ?_
  refine zQ J J J ce ?_
  refine rn6 ?_
  refine zQ J J J co ?_
  refine rn4 ?_
  refine zV (zA8 (zAR T k)) J J J J J J J ?_
  refine rn3 ?_
  refine zQ J J J (fineI [0, 0, 0] (by decide)) ?_
  repeat (first | refine zA (zF rfl) ?_ | refine zC ?_ | refine zB ?_ | refine zp rfl rfl ?_ | refine zA (zDd rfl) ?_ | refine zA (zb rfl rfl) ?_ | refine zA (zC3 rfl rfl rfl (by kernel_rfl) (by kernel_rfl) (by kernel_rfl) rfl) ?_ | refine zA (qpp rfl rfl rfl rfl rfl rfl rfl) ?_)
  refine zAH (b := !(decide (zAR T k = zAR T k))) (by rw [← zHW]; rfl) (fun q => ?_) (fun _ => ?_)
  ·rw [decide_eq_true rfl] at q; cases q
  refine rn3 ?_
  refine zH J (fun q => ?_) (fun q => ?_)
  ·have hov := hover q
   repeat (first | refine zA (zF rfl) ?_ | refine zC ?_ | refine zB ?_ | refine zY ?_ | refine zK rfl ?_ | refine zA (zCu rfl rfl rfl rfl rfl rfl) ?_ | refine zA (zC3 rfl rfl rfl (by kernel_rfl) (by kernel_rfl) (by kernel_rfl) rfl) ?_ | refine zA (qpp rfl rfl rfl rfl rfl rfl rfl) ?_)
   refine zAH (b := !(decide (zAR T k = (zAK T.r P, 0)))) (by rw [← zHW]; rfl) (fun q => ?_) (fun _ => ?_)
   ·rw [decide_eq_true hov] at q; cases q
   repeat (refine zAJ ?_)
   refine zB ?_
   refine zBy [] [some ⟨35, .box (poC P)⟩, some ⟨37, .box (zA8 (zAR T k))⟩, some ⟨37, .box (zA8 (zAR T k))⟩] [(1, .rp (.box (ruC T.r)) 0 0), (3, zCP T), (26, iN T.l.length), (27, iN k)] J ⟨J, J, J, J, trivial⟩ (fun h q => by rw [hfix] at q; exact q.elim) zBY J ?_
   refine rn5 ?_
   exact zS ⟨k + 1, by omega, by omega, ⟨J, J, J, J, trivial⟩, J⟩
  ·have q : zAK T.r P = 0 := Classical.not_not.1 q
   have hfo := hfol q
   obtain ⟨hf1, hf2⟩ := hfew q
   have cE := entry_ok P.turn htn (zCU T P) (by omega) hf1
   rw [← hfo] at cE
   refine rn6 ?_
   refine zQ J J J (cA (hfnd q)) ?_
   refine rn2 ?_
   refine zf (by kernel_rfl) ?_
   refine zl (fuel := 0) [0, 1, 2, 3, 4, 5, 6, 7, 8, 9] [(15, .bool true), (14, .ro (zAr (zCU T P)) 0 (zCU T P).length), (6, .ptr 0 0 0), (7, .ptr 1 0 0), (1, .rp (.box (ruC T.r)) 0 0), (3, zCP T), (26, iN T.l.length), (27, iN k)] ⟨J, J, J, J, J, J, J, J, trivial⟩ (by kernel_rfl) (by decide) J J ?_
   refine zJ J J (zF J) ?_
   refine zJ J J (zDd J) ?_
   refine zJ J J (zF J) ?_
   refine zh J J J J (qpp J J J J J J J) ?_
   refine zh J J J J (zM J J J J J J) ?_
   refine zh J J J J (zT J J J J J) ?_
   refine zh J J J J (zF J) ?_
   refine zCW J J J J J J J cE ?_
   refine zh J J J J (zC3 J J J (by kernel_rfl) (by kernel_rfl) (by kernel_rfl) J) ?_
   refine zJ J J (zb J J) ?_
   refine zr ?_
   refine zX (by kernel_rfl) ?_
   repeat (refine zB ?_)
   refine zAH (b := !(decide (zAR T k = zAR T k))) (by rw [← zHW]; rfl) (fun q => ?_) (fun _ => ?_)
   ·rw [decide_eq_true rfl] at q; cases q
   refine rn10 ?_
   refine zB ?_
   refine zBy [] [some ⟨35, .box (poC P)⟩, some ⟨37, .box (zA8 (zAR T k))⟩, some ⟨37, .box (zA8 (zAR T k))⟩] [(1, .rp (.box (ruC T.r)) 0 0), (3, zCP T), (26, iN T.l.length), (27, iN k)] J ⟨J, J, J, J, trivial⟩ (fun h q => by rw [hfix] at q; exact q.elim) zBY J ?_
   refine rn3 ?_
   exact zS ⟨k + 1, by omega, by omega, ⟨J, J, J, J, trivial⟩, J⟩
 ·refine rn5 ?_
  exact zN hR J J
end Go.Proofs.YtiifcejepaeepaaGreatDoor
namespace Go.Proofs.YtiifcejepaeepaaGreatDoor
open Go.Ax Go.Ax.Gm Go.RowKit
theorem rdWay {H : Type} {enc : TypeId × Value → H} {W : World} : Rd enc Tryz.prog W 143 4 zFG (fun _ => True) :=
 (Rd.struct Tryz.underlying143 (by kernel_rfl) (RdF.cons rfl rfl (Rd.int Tryz.underlying3) (RdF.cons rfl rfl (Rd.int Tryz.underlying3) (RdF.cons rfl rfl (Rd.int Tryz.underlying3) (RdF.cons rfl rfl (Rd.int Tryz.underlying3) RdF.nil))))).map
  (fun a => (⟨a.1, a.2.1, a.2.2.1, a.2.2.2.1⟩ : Go.Ax.Gm.Way)) (fun a h => trivial) (fun a => rfl) (fun a i hi => AEq.rfl')
theorem rdPc {H : Type} {enc : TypeId × Value → H} {W : World} : Rd enc Tryz.prog W 114 4 pcC (fun p => p.ways.length ≤ 9223372036854775807) :=
 (Rd.struct Tryz.underlying114 (by kernel_rfl) (RdF.cons rfl rfl (Rd.int Tryz.underlying5) (RdF.cons rfl rfl (Rd.int Tryz.underlying3) (RdF.cons rfl rfl (Rd.int Tryz.underlying3) (RdF.cons rfl rfl (Rd.slice way0 Tryz.underlying112 (by kernel_rfl) rfl rdWay) RdF.nil))))).map
  (fun a => (⟨a.1, a.2.1, a.2.2.1, a.2.2.2.1⟩ : Go.Ax.Gm.Pc)) (fun a h => h.2.2.2.1.1) (fun a => rfl) (fun a i hi => AEq.rfl')
theorem rdEn {H : Type} {enc : TypeId × Value → H} {W : World} : Rd enc Tryz.prog W 132 4 enC (fun _ => True) :=
 (Rd.struct Tryz.underlying132 (by kernel_rfl) (RdF.cons rfl rfl (Rd.int Tryz.underlying3) (RdF.cons rfl rfl (Rd.int Tryz.underlying3) (RdF.cons rfl rfl (Rd.int Tryz.underlying3) (RdF.cons rfl rfl (Rd.bool Tryz.underlying4) RdF.nil))))).map
  (fun a => (⟨a.1, a.2.1, a.2.2.1, a.2.2.2.1⟩ : Go.Ax.Gm.En)) (fun a h => trivial) (fun a => rfl) (fun a i hi => AEq.rfl')
theorem rdRules {H : Type} {enc : TypeId × Value → H} {W : World} : Rd enc Tryz.prog W 26 11 ruC Lens :=
 (Rd.struct Tryz.underlying26 (by kernel_rfl) (RdF.cons rfl rfl (Rd.str Tryz.underlying9) (RdF.cons rfl rfl (Rd.int Tryz.underlying3) (RdF.cons rfl rfl (Rd.int Tryz.underlying3) (RdF.cons rfl rfl (Rd.slice pc0 Tryz.underlying22 (by kernel_rfl) rfl rdPc) (RdF.cons rfl rfl (Rd.ints Tryz.underlying23 (by kernel_rfl) Tryz.underlying3) (RdF.cons rfl rfl (Rd.bool Tryz.underlying4) (RdF.cons rfl rfl (Rd.bool Tryz.underlying4) (RdF.cons rfl rfl (Rd.slice en0 Tryz.underlying24 (by kernel_rfl) rfl rdEn) (RdF.cons rfl rfl (Rd.int Tryz.underlying3) (RdF.cons rfl rfl (Rd.int Tryz.underlying3) (RdF.cons rfl rfl (Rd.int Tryz.underlying3) RdF.nil)))))))))))).map
  (fun a => (⟨a.1, a.2.1, a.2.2.1, a.2.2.2.1, a.2.2.2.2.1, a.2.2.2.2.2.1, a.2.2.2.2.2.2.1, a.2.2.2.2.2.2.2.1, a.2.2.2.2.2.2.2.2.1, a.2.2.2.2.2.2.2.2.2.1, a.2.2.2.2.2.2.2.2.2.2.1⟩ : Go.Ax.Gm.Rules))
  (fun a h => ⟨h.1, h.2.2.2.1.1, h.2.2.2.1.2, h.2.2.2.2.1.1, h.2.2.2.2.2.2.2.1.1⟩) (fun a => rfl) (fun a i hi => AEq.rfl')
end Go.Proofs.YtiifcejepaeepaaGreatDoor
