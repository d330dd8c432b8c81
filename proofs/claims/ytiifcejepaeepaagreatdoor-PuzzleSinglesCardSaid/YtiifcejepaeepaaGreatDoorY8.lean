import Derived.Test.YtiifcejepaeepaaGreatDoorY7
set_option linter.unusedVariables false
set_option linter.unusedSimpArgs false
set_option maxRecDepth 100000
set_option maxHeartbeats 4000000
namespace Go.Proofs.YtiifcejepaeepaaGreatDoor
open Go.Ax Go.Ax.Gm Go.RowKit Go.Ax.Idx Go.Ax.Cd
attribute [local irreducible] Ax zCT QOp zb
theorem winsL_no {r : Go.Ax.Gm.Rules} {p : Pos} {n : Int} (h : zAF r p n ≠ 0) : zCi r p n = [] := by unfold zCi; rw [if_pos h]
theorem zPX {r : Go.Ax.Gm.Rules} {p : Pos} {k : Nat} (h : zAF r p (zBY k) = 0) : zCi r p (zBY k) = zAr r k p := by
 unfold zCi
 rw [if_neg (fun d => d h)]
 show zAr r (zBy (2 * (k : Int) + 1)) p = _
 rw [zFA]
theorem singleE_no {r : Go.Ax.Gm.Rules} {p : Pos} {n : Int} (h : zAF r p n ≠ 0) : zFh r p n = zAF r p n := by unfold zFh; rw [if_pos h]
theorem check_up {r : Go.Ax.Gm.Rules} {p : Pos} (h : zAF r p 1 ≠ 0) : zAF r p 3 = zAF r p 1 := by
 by_cases hpz : zAs r p = 0
 ·obtain ⟨hz, S⟩ := place_is hpz
  by_cases ho : ze r p = 0
  ·have h0 : zAF r p 1 = if 50000 < zCk r (2 * 0 + 1) p then 17 else 0 := check_bound (k := 0) hz S ho (by decide)
   have h1 : zAF r p 3 = if 50000 < zCk r (2 * 1 + 1) p then 17 else 0 := check_bound (k := 1) hz S ho (by decide)
   have hle := cnt_le r p (show 2 * 0 + 1 ≤ 2 * 1 + 1 by decide)
   have hb : 50000 < zCk r (2 * 0 + 1) p := by
    rcases Nat.lt_or_ge 50000 (zCk r (2 * 0 + 1) p) with q | q
    ·exact q
    ·rw [if_neg (by omega)] at h0; exact absurd h0 h
   rw [h0, h1, if_pos hb, if_pos (by omega)]
  ·unfold zAF
   rw [if_neg (fun d => d hpz), if_neg (show ¬ zJa 3 = false by decide), if_pos ho, if_neg (fun d => d hpz), if_neg (show ¬ zJa 1 = false by decide), if_pos ho]
 ·unfold zAF
  rw [if_pos hpz, if_pos hpz]
theorem check_three {r : Go.Ax.Gm.Rules} {p : Pos} (h : zAF r p 1 = 0) (h3 : zAF r p 3 ≠ 17) : zAF r p 3 = 0 := by
 obtain ⟨k, e, hc⟩ := zFv h
 have h1 : zAF r p 3 = if 50000 < zCk r (2 * 1 + 1) p then 17 else 0 := check_bound (k := 1) hc.z hc.S hc.o (by decide)
 by_cases q : 50000 < zCk r (2 * 1 + 1) p
 ·rw [if_pos q] at h1; exact absurd h1 h3
 ·rw [h1, if_neg q]
theorem single_is {r : Go.Ax.Gm.Rules} {p : Pos} {k : Nat} (h : zAF r p (zBY k) = 0) : zFh r p (zBY k) = (if (zAr r k p).length = 0 then 8 else if 1 < (zAr r k p).length then 7 else 0) ∧ ((zAr r k p).length = 1 → zIx r p (zBY k) = (zAr r k p).getD 0 mv0) := by
 have e : zBy (zBY k) = k := zFA k
 have h1 : zFh r p (zBY k) = (if (zAr r k p).length = 0 then 8 else if 1 < (zAr r k p).length then 7 else 0) := by
  unfold zFh
  rw [if_neg (fun d => d h), e]
 refine ⟨h1, fun q => ?_⟩
 unfold zIx
 rw [h1, q, if_neg (by decide), e]
theorem least_zero {r : Go.Ax.Gm.Rules} {p : Pos} (h : zAF r p (zBY 0) = 0) (hw : zAr r 0 p ≠ []) : zJP r p = (1, 0) := by
 have h : zAF r p (2 * ((0 : Nat) : Int) + 1) = 0 := h
 show zH6 r p 3 0 = _
 rw [zH6, if_neg (fun d => d h), if_pos (List.length_pos_iff.2 hw)]; rfl
theorem least_one {r : Go.Ax.Gm.Rules} {p : Pos} (h : zAF r p (zBY 0) = 0) (hw : zAr r 0 p = []) (h1 : zAF r p (zBY 1) = 0) (hw1 : zAr r 1 p ≠ []) : zJP r p = (3, 0) := by
 have h : zAF r p (2 * ((0 : Nat) : Int) + 1) = 0 := h
 have h1 : zAF r p (2 * ((0 + 1 : Nat) : Int) + 1) = 0 := h1
 show zH6 r p 3 0 = _
 rw [zH6, if_neg (fun d => d h), if_neg (by rw [hw]; decide), zH6, if_neg (fun d => d h1), if_pos (List.length_pos_iff.2 hw1)]; rfl
/-- PuzzleSingles -/
theorem PuzzleSingles_law (r : Go.Ax.Gm.Rules) (p : Pos) (hr : Lens r) (hp : LenP p) : zj Tryz.prog 7 [ruA r, poA p] (.bool true) := by
 refine zb.value0 (zM (P := Tryz.prog) (fn := Tryz.f7) rfl rfl (by kernel_rfl) rfl (fun c hR hfix => ?_)) (fix := fun _ => False) (fun _ h => h) rfl rfl
 have cl := light_ok r hr p hp
 generalize zNO r p = lb at cl
 refine zZ ?_
 repeat (first | refine zA (zP rfl) ?_ | refine zC ?_ | refine zB ?_ | refine zK rfl ?_ | refine zAQ rfl rfl ?_)
 refine zC0 2 3 [] rfl rfl rfl rfl trivial ⟨rfl, rfl, trivial⟩ rfl hfix ?_
 refine rn0 ?_
 refine zN rfl rfl rfl zMf ?_
 refine rn6 ?_
 refine zN rfl rfl rfl cl ?_
 cases lb with
 | false =>
  refine rn5 ?_
  exact zJ hR rfl rfl
 | true =>
 refine rn6 ?_
 have c1 := zFM r hr p hp (zBY 0)
 have c2 := zFM r hr p hp (zBY 1)
 have c3 := zPB r hr p hp (zBY 1)
 by_cases he : zAF r p (zBY 0) = 0
 rotate_left
 ·have hu : zAF r p (zBY 1) = zAF r p (zBY 0) := check_up he
  rw [winsL_no he] at c1
  rw [winsL_no (hu ▸ he), hu] at c2
  rw [singleE_no (hu ▸ he), hu] at c3
  generalize zAF r p (zBY 0) = e at c1 c2 c3 he
  generalize zIx r p (zBY 1) = sM at c3
  refine zN rfl rfl rfl c1 ?_
  refine rn6 ?_
  refine zN rfl rfl rfl c2 ?_
  repeat (first | refine zA (zG rfl) ?_ | refine zA (zP rfl) ?_ | refine zC ?_ | refine zB ?_ | refine zZ ?_ | refine zK rfl ?_ | refine zA (zA5 rfl rfl) ?_ | refine zA (zf rfl rfl rfl rfl rfl rfl) ?_ | refine zAH rfl rfl rfl rfl rfl rfl rfl Nat.zero_lt_one ?_ | refine zAG rfl rfl rfl ?_)
  refine zN rfl rfl rfl c3 ?_
  refine rn4 ?_
  refine zd (mvC sM) rfl rfl rfl rfl rfl rfl rfl ?_
  refine rn3 ?_
  refine zD rfl (fun q => ?_) (fun q => ?_)
  ·refine rn4 ?_
   rw [decide_eq_true (rfl : e = e)]
   refine rn4 ?_
   exact zJ hR rfl (congrArg AV.bool (decide_eq_true rfl))
  ·exact absurd he q
 by_cases h17 : zAF r p (zBY 1) = 17
 ·have hne : zAF r p (zBY 1) ≠ 0 := by rw [h17]; decide
  rw [winsL_no hne, h17] at c2
  rw [singleE_no hne, h17] at c3
  rw [he] at c1
  generalize zCi r p (zBY 0) = W0 at c1
  generalize zIx r p (zBY 1) = sM at c3
  refine zN rfl rfl rfl c1 ?_
  refine rn6 ?_
  refine zN rfl rfl rfl c2 ?_
  repeat (first | refine zA (zG rfl) ?_ | refine zA (zP rfl) ?_ | refine zC ?_ | refine zB ?_ | refine zZ ?_ | refine zK rfl ?_ | refine zA (zA5 rfl rfl) ?_ | refine zA (zf rfl rfl rfl rfl rfl rfl) ?_ | refine zAH rfl rfl rfl rfl rfl rfl rfl Nat.zero_lt_one ?_ | refine zAG rfl rfl rfl ?_)
  refine zN rfl rfl rfl c3 ?_
  refine rn4 ?_
  refine zd (mvC sM) rfl rfl rfl rfl rfl rfl rfl ?_
  refine rn5 ?_
  exact zJ hR rfl rfl
 have he1 : zAF r p (zBY 1) = 0 := check_three he h17
 obtain ⟨k', e1, hc⟩ := zFv he1
 have hv := hc.v
 have S := hc.S
 rw [zPX he, he] at c1
 rw [zPX he1, he1] at c2
 rw [(single_is he1).1] at c3
 have hsm := (single_is he1).2
 have c4 := least_ok r hr p hp
 have hl0 := least_zero he
 have hl1 := fun q q1 => least_one he q he1 q1
 have hAl := zLr hv 0 S
 have hBl := zLr hv 1 S
 have hAB : ∀ a ∈ zAr r 0 p, a ∈ zAr r 1 p := fun a ha => by
  obtain ⟨h1, h2⟩ := List.mem_filter.1 ha
  exact List.mem_filter.2 ⟨h1, zPY r 0 p a S.tn h2⟩
 generalize zIx r p (zBY 1) = sM at c3 hsm
 generalize zAr r 0 p = A at *
 generalize zAr r 1 p = B at *
 have cc := containsFMv A A.length 39 [.rp (.box [zAy B]) 0 0] (fun x => !(B.any (isM x))) (Nat.le_refl _) rfl (by omega) (fun x _ => single1_ok B (by omega) x)
 have hno : (A.take A.length).any (fun x => !(B.any (isM x))) = false := by
  rw [List.take_length, ← Bool.not_eq_true, List.any_eq_true]
  rintro ⟨x, h1, h2⟩
  rw [zNw, decide_eq_true (hAB x h1)] at h2
  cases h2
 rw [hno] at cc
 refine zN rfl rfl rfl c1 ?_
 refine rn6 ?_
 refine zN rfl rfl rfl c2 ?_
 repeat (first | refine zA (zG rfl) ?_ | refine zA (zP rfl) ?_ | refine zC ?_ | refine zB ?_ | refine zZ ?_ | refine zK rfl ?_ | refine zA (zA5 rfl rfl) ?_ | refine zA (zf rfl rfl rfl rfl rfl rfl) ?_ | refine zAH rfl rfl rfl rfl rfl rfl rfl Nat.zero_lt_one ?_ | refine zAG rfl rfl rfl ?_)
 obtain ⟨E, hE⟩ : ∃ E : Int, (if B.length = 0 then 8 else if 1 < B.length then 7 else 0) = E := ⟨_, rfl⟩
 rw [hE] at c3
 refine zN rfl rfl rfl c3 ?_
 refine rn4 ?_
 refine zd (mvC sM) rfl rfl rfl rfl rfl rfl rfl ?_
 refine zBC ?_
 refine zC0 7 9 [(2, .rp (.box (ruC r)) 0 0), (3, .rp (.box (poC p)) 0 0), (5, zAy A), (6, .int .i64 0), (8, .int .i64 0), (10, .int .i64 E)] rfl rfl rfl rfl ⟨rfl, rfl, rfl, rfl, rfl, rfl, trivial⟩ ⟨rfl, rfl, rfl, rfl, rfl, rfl, rfl, rfl, trivial⟩ rfl hfix ?_
 repeat (first | refine zA (zG rfl) ?_ | refine zC ?_ | refine zB ?_ | refine zZ ?_ | refine zK rfl ?_ | refine zw rfl rfl ?_ | refine zAh rfl ?_ | refine zAO ?_ | refine zA (zBb rfl rfl) ?_ | refine zA (zBj rfl rfl) ?_ | refine zA (zCw rfl) ?_)
 refine zN rfl rfl rfl cc ?_
 rcases Nat.lt_or_ge 1 B.length with h2 | h2
 ·have hB : B ≠ [] := fun d => by rw [d] at h2; exact absurd h2 (by decide)
  rw [if_neg (by omega), if_pos h2] at hE
  subst hE
  repeat (first | refine zA (zP rfl) ?_ | refine zC ?_ | refine zB ?_ | refine zZ ?_ | refine zK rfl ?_ | refine zAh rfl ?_ | refine zAe ?_ | refine zAO ?_ | refine zA (zBb rfl rfl) ?_ | refine zA (zh rfl rfl) ?_ | refine zA (zBB rfl rfl rfl) ?_ | refine zA (zF rfl rfl rfl rfl) ?_)
  refine zD rfl (fun q => ?_) (fun q => ?_)
  ·exact absurd q (by omega)
  refine rn4 ?_
  refine zD rfl (fun q => ?_) (fun q => ?_)
  ·exact absurd q (by omega)
  by_cases hA : A = []
  ·rw [hl1 hA hB] at c4
   subst hA
   refine rn6 ?_
   refine zN rfl rfl rfl c4 ?_
   refine rn6 ?_
   exact zJ hR rfl rfl
  ·rw [hl0 hA] at c4
   have hA0 : ((A.length : Nat) : Int) > 0 := by have := List.length_pos_iff.2 hA; omega
   refine rn6 ?_
   refine zN rfl rfl rfl c4 ?_
   refine rn6 ?_
   rw [decide_eq_true hA0]
   repeat (first | refine zA (zG rfl) ?_ | refine zA (zP rfl) ?_ | refine zC ?_ | refine zB ?_ | refine zw rfl rfl ?_ | refine zAw rfl rfl ?_ | refine zAb rfl rfl rfl ?_ | refine zAC ?_ | refine zA (zBb rfl rfl) ?_ | refine zA (zh rfl rfl) ?_)
   exact zJ hR rfl rfl
 cases B with
 | nil =>
  have hA : A = [] := by
   cases A with
   | nil => rfl
   | cons a A => exact absurd (hAB a (List.mem_cons_self ..)) (by simp)
  subst hA
  rw [if_pos (show ([] : List Mv).length = 0 from rfl)] at hE
  subst hE
  repeat (first | refine zA (zG rfl) ?_ | refine zA (zP rfl) ?_ | refine zC ?_ | refine zB ?_ | refine zZ ?_ | refine zK rfl ?_ | refine zw rfl rfl ?_ | refine zAj rfl ?_ | refine zAh rfl ?_ | refine zAe ?_ | refine zAO ?_ | refine zAC ?_ | refine zBJ ?_ | refine zFP ?_ | refine zA (zBb rfl rfl) ?_ | refine zA (zh rfl rfl) ?_ | refine zA (zBB rfl rfl rfl) ?_ | refine zA (zF rfl rfl rfl rfl) ?_)
  exact zJ hR rfl rfl
 | cons b B =>
  have hBn : B = [] := List.length_eq_zero_iff.1 (by have h2 : B.length + 1 ≤ 1 := h2; omega)
  subst hBn
  have hB : [b] ≠ [] := by simp
  have hbl : [b].length = 1 := rfl
  rw [if_neg (show ¬ [b].length = 0 by simp), if_neg (show ¬ 1 < [b].length by simp)] at hE
  subst hE
  have hsm := hsm rfl
  have hsm : sM = b := hsm
  subst hsm
  repeat (first | refine zA (zP rfl) ?_ | refine zC ?_ | refine zB ?_ | refine zZ ?_ | refine zK rfl ?_ | refine zAj rfl ?_ | refine zAh rfl ?_ | refine zAe ?_ | refine zAO ?_ | refine zA (zBb rfl rfl) ?_ | refine zA (zh rfl rfl) ?_ | refine zA (zBB rfl rfl rfl) ?_ | refine zA (zF rfl rfl rfl rfl) ?_)
  refine zg (by kernel_rfl) ?_
  refine zq (fuel := 0) [0, 1, 2, 3, 4, 5, 6, 7, 8] [(7, .rp (.box [zAy [sM]]) 0 0), (9, .rp (.box (mvC sM)) 0 0), (2, .rp (.box (ruC r)) 0 0), (3, .rp (.box (poC p)) 0 0), (5, zAy A), (10, .int .i64 0)] ⟨rfl, rfl, rfl, rfl, rfl, rfl, trivial⟩ (by kernel_rfl) (by decide) rfl rfl ?_
  refine zI rfl rfl (zG rfl) ?_
  refine zI rfl rfl (zBj rfl rfl) ?_
  refine zI rfl rfl (zG rfl) ?_
  refine zl rfl rfl rfl rfl (zf rfl rfl rfl rfl rfl rfl) ?_
  refine zl rfl rfl rfl rfl (zF rfl rfl rfl rfl) ?_
  refine zl rfl rfl rfl rfl (zi rfl rfl rfl rfl (by first | (simp only [Nat.zero_add, Int.toNat_natCast, Int.toNat_zero]; exact rfl) | exact rfl) (by omega)) ?_
  refine zl rfl rfl rfl rfl (zf rfl rfl rfl rfl rfl rfl) ?_
  refine zl rfl rfl rfl rfl (zGF (b := true) rfl rfl rfl (by kernel_rfl) (by kernel_rfl) (by kernel_rfl) (by
   show some (decide (sM.fr = sM.fr) && (decide (sM.to = sM.to) && (decide (sM.pc = sM.pc) && true))) = some true
   simp)) ?_
  refine zI rfl rfl (zh rfl rfl) ?_
  refine z7 ?_
  refine zX (by kernel_rfl) ?_
  by_cases hA : A = []
  ·rw [hl1 hA hB] at c4
   subst hA
   refine rn6 ?_
   refine zN rfl rfl rfl c4 ?_
   refine rn6 ?_
   exact zJ hR rfl rfl
  ·rw [hl0 hA] at c4
   have hA0 : ((A.length : Nat) : Int) > 0 := by have := List.length_pos_iff.2 hA; omega
   refine rn6 ?_
   refine zN rfl rfl rfl c4 ?_
   refine rn6 ?_
   rw [decide_eq_true hA0]
   repeat (first | refine zA (zG rfl) ?_ | refine zA (zP rfl) ?_ | refine zC ?_ | refine zB ?_ | refine zw rfl rfl ?_ | refine zAw rfl rfl ?_ | refine zAb rfl rfl rfl ?_ | refine zAC ?_ | refine zA (zBb rfl rfl) ?_ | refine zA (zh rfl rfl) ?_)
   exact zJ hR rfl rfl
end Go.Proofs.YtiifcejepaeepaaGreatDoor
namespace Go.Proofs.YtiifcejepaeepaaGreatDoor
open Go.Ax Go.Ax.Gm Go.RowKit
theorem rdWay {H : Type} {enc : TypeId × Value → H} {W : World} : Rd enc Tryz.prog W 143 4 zGO (fun _ => True) :=
 (Rd.struct Tryz.underlying143 (by kernel_rfl) (RdF.cons rfl rfl (Rd.int Tryz.underlying3) (RdF.cons rfl rfl (Rd.int Tryz.underlying3) (RdF.cons rfl rfl (Rd.int Tryz.underlying3) (RdF.cons rfl rfl (Rd.int Tryz.underlying3) RdF.nil))))).map
  (fun a => (⟨a.1, a.2.1, a.2.2.1, a.2.2.2.1⟩ : Go.Ax.Gm.Way)) (fun a h => trivial) (fun a => rfl) (fun a i hi => AEq.rfl')
theorem rdPc {H : Type} {enc : TypeId × Value → H} {W : World} : Rd enc Tryz.prog W 114 4 pcC (fun p => p.ways.length ≤ 9223372036854775807) :=
 (Rd.struct Tryz.underlying114 (by kernel_rfl) (RdF.cons rfl rfl (Rd.int Tryz.underlying5) (RdF.cons rfl rfl (Rd.int Tryz.underlying3) (RdF.cons rfl rfl (Rd.int Tryz.underlying3) (RdF.cons rfl rfl (Rd.slice way0 Tryz.underlying112 (by kernel_rfl) rfl rdWay) RdF.nil))))).map
  (fun a => (⟨a.1, a.2.1, a.2.2.1, a.2.2.2.1⟩ : Go.Ax.Gm.Pc)) (fun a h => h.2.2.2.1.1) (fun a => rfl) (fun a i hi => AEq.rfl')
theorem rdEn {H : Type} {enc : TypeId × Value → H} {W : World} : Rd enc Tryz.prog W 132 4 enC (fun _ => True) :=
 (Rd.struct Tryz.underlying132 (by kernel_rfl) (RdF.cons rfl rfl (Rd.int Tryz.underlying3) (RdF.cons rfl rfl (Rd.int Tryz.underlying3) (RdF.cons rfl rfl (Rd.int Tryz.underlying3) (RdF.cons rfl rfl (Rd.bool Tryz.underlying4) RdF.nil))))).map
  (fun a => (⟨a.1, a.2.1, a.2.2.1, a.2.2.2.1⟩ : Go.Ax.Gm.En)) (fun a h => trivial) (fun a => rfl) (fun a i hi => AEq.rfl')
theorem rdRules {H : Type} {enc : TypeId × Value → H} {W : World} : Rd enc Tryz.prog W 26 11 ruC Lens :=
 (Rd.struct Tryz.underlying26 (by kernel_rfl) (RdF.cons rfl rfl (Rd.str Tryz.underlying9) (RdF.cons rfl rfl (Rd.int Tryz.underlying3) (RdF.cons rfl rfl (Rd.int Tryz.underlying3) (RdF.cons rfl rfl (Rd.slice pc0 Tryz.underlying22 (by kernel_rfl) rfl rdPc) (RdF.cons rfl rfl (Rd.ints Tryz.underlying23 (by kernel_rfl) Tryz.underlying3) (RdF.cons rfl rfl (Rd.bool Tryz.underlying4) (RdF.cons rfl rfl (Rd.bool Tryz.underlying4) (RdF.cons rfl rfl (Rd.slice en0 Tryz.underlying24 (by kernel_rfl) rfl rdEn) (RdF.cons rfl rfl (Rd.int Tryz.underlying3) (RdF.cons rfl rfl (Rd.int Tryz.underlying3) (RdF.cons rfl rfl (Rd.int Tryz.underlying3) RdF.nil)))))))))))).map
  (fun a => (⟨a.1, a.2.1, a.2.2.1, a.2.2.2.1, a.2.2.2.2.1, a.2.2.2.2.2.1, a.2.2.2.2.2.2.1, a.2.2.2.2.2.2.2.1, a.2.2.2.2.2.2.2.2.1, a.2.2.2.2.2.2.2.2.2.1, a.2.2.2.2.2.2.2.2.2.2.1⟩ : Go.Ax.Gm.Rules))
  (fun a h => ⟨h.1, h.2.2.2.1.1, h.2.2.2.1.2, h.2.2.2.2.1.1, h.2.2.2.2.2.2.2.1.1⟩) (fun a => rfl) (fun a i hi => AEq.rfl')
theorem rdPos {H : Type} {enc : TypeId × Value → H} {W : World} : Rd enc Tryz.prog W 35 5 poC LenP :=
 (Rd.struct Tryz.underlying35 (by kernel_rfl) (RdF.cons rfl rfl (Rd.ints Tryz.underlying23 (by kernel_rfl) Tryz.underlying3) (RdF.cons rfl rfl (Rd.arr2 Tryz.underlying33 (by kernel_rfl) (by kernel_rfl) (Rd.ints Tryz.underlying23 (by kernel_rfl) Tryz.underlying3)) (RdF.cons rfl rfl (Rd.int Tryz.underlying3) (RdF.cons rfl rfl (Rd.int Tryz.underlying3) RdF.nil))))).map
  (fun a => (⟨a.1, a.2.1.1, a.2.1.2, a.2.2.1, a.2.2.2.1⟩ : Go.Ax.Gm.Pos)) (fun a h => ⟨h.1.1, h.2.1.1.1, h.2.1.2.1⟩) (fun a => rfl) (fun a i hi => AEq.rfl')
end Go.Proofs.YtiifcejepaeepaaGreatDoor
