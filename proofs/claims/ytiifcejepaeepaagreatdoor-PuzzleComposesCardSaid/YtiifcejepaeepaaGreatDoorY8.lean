import Derived.Test.YtiifcejepaeepaaGreatDoorY7
set_option linter.unusedVariables false
set_option linter.unusedSimpArgs false
set_option maxRecDepth 100000
set_option maxHeartbeats 4000000
namespace Go.Proofs.YtiifcejepaeepaaGreatDoor
open Go.Ax Go.Ax.Gm Go.RowKit Go.Ax.Idx Go.Ax.Cd
attribute [local irreducible] Ax zCT QOp zb
theorem single_is {r : Go.Ax.Gm.Rules} {p : Pos} {k : Nat} (h : zAF r p (zBY k) = 0) : zFh r p (zBY k) = (if (zAr r k p).length = 0 then 8 else if 1 < (zAr r k p).length then 7 else 0) ∧ ((zAr r k p).length = 1 → zIx r p (zBY k) = (zAr r k p).getD 0 mv0) := by
 have e : zBy (zBY k) = k := zFA k
 have h1 : zFh r p (zBY k) = (if (zAr r k p).length = 0 then 8 else if 1 < (zAr r k p).length then 7 else 0) := by
  unfold zFh
  rw [if_neg (fun d => d h), e]
 refine ⟨h1, fun q => ?_⟩
 unfold zIx
 rw [h1, q, if_neg (by decide), e]
theorem least_zero {r : Go.Ax.Gm.Rules} {p : Pos} (h : zAF r p (zBY 0) = 0) (hw : zAr r 0 p ≠ []) : zJP r p = (1, 0) := by
 have h : zAF r p (2 * ((0 : Nat) : Int) + 1) = 0 := h
 show zH6 r p 3 0 = _
 rw [zH6, if_neg (fun d => d h), if_pos (List.length_pos_iff.2 hw)]; rfl
theorem least_one {r : Go.Ax.Gm.Rules} {p : Pos} (h : zAF r p (zBY 0) = 0) (hw : zAr r 0 p = []) (h1 : zAF r p (zBY 1) = 0) (hw1 : zAr r 1 p ≠ []) : zJP r p = (3, 0) := by
 have h : zAF r p (2 * ((0 : Nat) : Int) + 1) = 0 := h
 have h1 : zAF r p (2 * ((0 + 1 : Nat) : Int) + 1) = 0 := h1
 show zH6 r p 3 0 = _
 rw [zH6, if_neg (fun d => d h), if_neg (by rw [hw]; decide), zH6, if_neg (fun d => d h1), if_pos (List.length_pos_iff.2 hw1)]; rfl
/-- PuzzleComposes -/
theorem PuzzleComposes_law (r : Go.Ax.Gm.Rules) (n : Int) (hr : Lens r) : zj Tryz.prog 10 [ruA r, .int .i64 n] (.bool true) := by
 obtain ⟨k, hk, cp⟩ := pickN n 2 ⟨by decide, by decide⟩
 refine zb.value0 (zM (P := Tryz.prog) (fn := Tryz.f10) rfl rfl (by kernel_rfl) rfl (fun c hR hfix => ?_)) (fix := fun _ => False) (fun _ h => h) rfl rfl
 refine zZ ?_
 repeat (first | refine zA (zP rfl) ?_ | refine zC ?_ | refine zB ?_ | refine zK rfl ?_ | refine zAQ rfl rfl ?_)
 refine zB1 2 [(1, .int .i64 n)] rfl ⟨rfl, rfl, trivial⟩ ⟨rfl, trivial⟩ rfl hfix ?_
 refine rn0 ?_
 refine zN rfl rfl rfl zMf ?_
 refine rn5 ?_
 refine zN rfl rfl rfl cp ?_
 skip
 refine zA (zDC rfl rfl (by omega)) ?_
 refine rn6 ?_
 rw [show (1 : Int) + 2 * (k : Int) = zBY k by show _ = 2 * (k : Int) + 1; omega]
 skip
 rcases solved_ok r hr 400 with cs | ⟨x, hx, cs⟩
 ·refine zN rfl rfl rfl cs ?_
  refine rn5 ?_
  exact zJ hR rfl rfl
 have hT := hx.tab
 have hk2 : k ≤ 2 := by omega
 have hcE : zEO r (zBY k) = 0 := by
  unfold zEO
  rw [if_neg (fun d => d hT.z), if_neg (by rw [show zJa (zBY k) = true from odd_of hk2]; decide)]
  exact hx.e
 have hcF : zDq r (zBY k) = zDN (zEF r x) (zBY k) := by
  unfold zDq
  rw [if_neg (fun d => d hcE), hx.g]
 have cc := zNG r hr (zBY k)
 rw [hcE, hcF] at cc
 have hone := fun (p : Pos) (hp : p ∈ zDN (zEF r x) (zBY k)) => hT.compose_one hp
 have hfacts : ∀ p ∈ zDN (zEF r x) (zBY k), LenP p ∧ (zAF r p (zBY k) ≠ 17 → zFh r p (zBY k) = 0 ∧ zJP r p = (zBY k, 0)) := fun p hp => by
  obtain ⟨S, ho, h1, h0⟩ := hone p hp
  have S : Sound r p := S
  have ho : ze r p = 0 := ho
  have h1 : (zAr r k p).length = 1 := h1
  have h0 : ∀ e, e < k → zAr r e p = [] := h0
  refine ⟨(zAv hT.v S).len, fun h17 => ?_⟩
  have hb : zAF r p (zBY k) = if 50000 < zCk r (2 * k + 1) p then 17 else 0 := check_bound hT.z S ho hk2
  have hcn : ¬ 50000 < zCk r (2 * k + 1) p := fun d => by rw [if_pos d] at hb; exact h17 hb
  rw [if_neg hcn] at hb
  have hw : zAr r k p ≠ [] := fun d => by rw [d] at h1; exact absurd h1 (by decide)
  refine ⟨by rw [(single_is hb).1, h1, if_neg (by decide), if_neg (by decide)], ?_⟩
  match k, hk with
  | 0, _ => exact least_zero hb hw
  | 1, _ =>
   have hb0 : zAF r p (zBY 0) = if 50000 < zCk r (2 * 0 + 1) p then 17 else 0 := check_bound (k := 0) hT.z S ho (by decide)
   have hle := cnt_le r p (show 2 * 0 + 1 ≤ 2 * 1 + 1 by decide)
   rw [if_neg (by omega)] at hb0
   exact least_one hb0 (h0 0 (by decide)) hb hw
 have hpl : zBY k ≤ 1000 := by show 2 * (k : Int) + 1 ≤ 1000; omega
 generalize zDN (zEF r x) (zBY k) = L at *
 generalize zBY k = N at *
 refine zN rfl rfl rfl cs ?_
 refine rn6 ?_
 refine zN rfl rfl rfl cc ?_
 repeat (first | refine zA (zG rfl) ?_ | refine zA (zP rfl) ?_ | refine zC ?_ | refine zB ?_ | refine zZ ?_ | refine zK rfl ?_ | refine zAh rfl ?_ | refine zAe ?_ | refine zAO ?_ | refine zA (zBj rfl rfl) ?_ | refine zA (zA5 rfl rfl) ?_ | refine zA (zBB rfl rfl rfl) ?_ | refine zA (zG7 rfl rfl rfl rfl rfl rfl rfl (by omega)) ?_ | refine zA (zMj rfl rfl) ?_)
 obtain ⟨cnt, hcnt⟩ : ∃ cnt : Nat, ((if (5 : Int) < ((L.length : Nat) : Int) then 5 else ((L.length : Nat) : Int)) - ((0 : Nat) : Int)).toNat = cnt := ⟨_, rfl⟩
 have hcl : cnt ≤ L.length := by
  rw [← hcnt]; split <;> omega
 refine zAA (ι := Nat) (fun j => [(2, .rp (.box (ruC r)) 0 0), (1, .int .i64 N), (40, .ro (zCJ L) 0 cnt), (41, iN cnt), (42, iN j)]) (fun _ => []) (fun j => j ≤ cnt) (fun j => cnt - j) 0 ⟨⟨rfl, rfl, by rw [← hcnt]; rfl, by rw [← hcnt]; rfl, rfl, trivial⟩, rfl, Nat.zero_le _⟩ ?_
 intro j hj
 refine rn4 ?_
 refine zD rfl (fun g => ?_) (fun g => ?_)
 ·have hj' : j < cnt := by omega
  obtain ⟨q, hq⟩ : ∃ q, L.getD j zu = q := ⟨_, rfl⟩
  have hmem : q ∈ L := hq ▸ zAL zu (show j < L.length by omega)
  obtain ⟨hlq, hfq⟩ := hfacts q hmem
  have clq := light_ok r hr q hlq
  have ckq := zHy r hr q hlq N
  have csq := zPB r hr q hlq N
  have ceq := least_ok r hr q hlq
  generalize zNO r q = lb at clq
  refine zFc ?_
  repeat (refine zAG rfl rfl rfl ?_)
  refine zd (poC q) rfl rfl rfl rfl rfl (by rw [← hq]; rfl) rfl ?_
  refine zBC ?_
  refine zB1 10 [(2, .rp (.box (ruC r)) 0 0), (1, .int .i64 N), (40, .ro (zCJ L) 0 cnt), (41, iN cnt), (42, iN j)] rfl ⟨rfl, rfl, rfl, rfl, rfl, rfl, trivial⟩ ⟨rfl, rfl, rfl, rfl, rfl, trivial⟩ rfl hfix ?_
  refine rn6 ?_
  refine zN rfl rfl rfl clq ?_
  cases lb with
  | false =>
   refine rn5 ?_
   exact zS ⟨j + 1, by omega, by omega, ⟨rfl, rfl, rfl, rfl, rfl, trivial⟩, rfl⟩
  | true =>
  refine rn6 ?_
  refine zN rfl rfl rfl ckq ?_
  refine rn4 ?_
  refine zD rfl (fun w => ?_) (fun w => ?_)
  ·refine rn5 ?_
   exact zS ⟨j + 1, by omega, by omega, ⟨rfl, rfl, rfl, rfl, rfl, trivial⟩, rfl⟩
  obtain ⟨f1, f2⟩ := hfq w
  rw [f1] at csq
  rw [f2] at ceq
  generalize zIx r q N = sM at csq
  refine rn6 ?_
  refine zN rfl rfl rfl csq ?_
  refine rn4 ?_
  refine zd (mvC sM) rfl rfl rfl rfl rfl rfl rfl ?_
  refine zBC ?_
  refine zB1 11 [(10, .rp (.box (poC q)) 0 0), (12, .int .i64 0), (2, .rp (.box (ruC r)) 0 0), (1, .int .i64 N), (40, .ro (zCJ L) 0 cnt), (41, iN cnt), (42, iN j)] rfl ⟨rfl, rfl, rfl, rfl, rfl, rfl, rfl, rfl, trivial⟩ ⟨rfl, rfl, rfl, rfl, rfl, rfl, rfl, trivial⟩ rfl hfix ?_
  refine rn6 ?_
  refine zN rfl rfl rfl ceq ?_
  refine rn3 ?_
  refine zD rfl (fun w2 => ?_) (fun w2 => ?_)
  ·exact absurd rfl w2
  refine rn5 ?_
  exact zS ⟨j + 1, by omega, by omega, ⟨rfl, rfl, rfl, rfl, rfl, trivial⟩, rfl⟩
 ·refine rn5 ?_
  exact zJ hR rfl rfl
end Go.Proofs.YtiifcejepaeepaaGreatDoor
namespace Go.Proofs.YtiifcejepaeepaaGreatDoor
open Go.Ax Go.Ax.Gm Go.RowKit
theorem rdWay {H : Type} {enc : TypeId × Value → H} {W : World} : Rd enc Tryz.prog W 143 4 zGO (fun _ => True) :=
 (Rd.struct Tryz.underlying143 (by kernel_rfl) (RdF.cons rfl rfl (Rd.int Tryz.underlying3) (RdF.cons rfl rfl (Rd.int Tryz.underlying3) (RdF.cons rfl rfl (Rd.int Tryz.underlying3) (RdF.cons rfl rfl (Rd.int Tryz.underlying3) RdF.nil))))).map
  (fun a => (⟨a.1, a.2.1, a.2.2.1, a.2.2.2.1⟩ : Go.Ax.Gm.Way)) (fun a h => trivial) (fun a => rfl) (fun a i hi => AEq.rfl')
theorem rdPc {H : Type} {enc : TypeId × Value → H} {W : World} : Rd enc Tryz.prog W 114 4 pcC (fun p => p.ways.length ≤ 9223372036854775807) :=
 (Rd.struct Tryz.underlying114 (by kernel_rfl) (RdF.cons rfl rfl (Rd.int Tryz.underlying5) (RdF.cons rfl rfl (Rd.int Tryz.underlying3) (RdF.cons rfl rfl (Rd.int Tryz.underlying3) (RdF.cons rfl rfl (Rd.slice way0 Tryz.underlying112 (by kernel_rfl) rfl rdWay) RdF.nil))))).map
  (fun a => (⟨a.1, a.2.1, a.2.2.1, a.2.2.2.1⟩ : Go.Ax.Gm.Pc)) (fun a h => h.2.2.2.1.1) (fun a => rfl) (fun a i hi => AEq.rfl')
theorem rdEn {H : Type} {enc : TypeId × Value → H} {W : World} : Rd enc Tryz.prog W 132 4 enC (fun _ => True) :=
 (Rd.struct Tryz.underlying132 (by kernel_rfl) (RdF.cons rfl rfl (Rd.int Tryz.underlying3) (RdF.cons rfl rfl (Rd.int Tryz.underlying3) (RdF.cons rfl rfl (Rd.int Tryz.underlying3) (RdF.cons rfl rfl (Rd.bool Tryz.underlying4) RdF.nil))))).map
  (fun a => (⟨a.1, a.2.1, a.2.2.1, a.2.2.2.1⟩ : Go.Ax.Gm.En)) (fun a h => trivial) (fun a => rfl) (fun a i hi => AEq.rfl')
theorem rdRules {H : Type} {enc : TypeId × Value → H} {W : World} : Rd enc Tryz.prog W 26 11 ruC Lens :=
 (Rd.struct Tryz.underlying26 (by kernel_rfl) (RdF.cons rfl rfl (Rd.str Tryz.underlying9) (RdF.cons rfl rfl (Rd.int Tryz.underlying3) (RdF.cons rfl rfl (Rd.int Tryz.underlying3) (RdF.cons rfl rfl (Rd.slice pc0 Tryz.underlying22 (by kernel_rfl) rfl rdPc) (RdF.cons rfl rfl (Rd.ints Tryz.underlying23 (by kernel_rfl) Tryz.underlying3) (RdF.cons rfl rfl (Rd.bool Tryz.underlying4) (RdF.cons rfl rfl (Rd.bool Tryz.underlying4) (RdF.cons rfl rfl (Rd.slice en0 Tryz.underlying24 (by kernel_rfl) rfl rdEn) (RdF.cons rfl rfl (Rd.int Tryz.underlying3) (RdF.cons rfl rfl (Rd.int Tryz.underlying3) (RdF.cons rfl rfl (Rd.int Tryz.underlying3) RdF.nil)))))))))))).map
  (fun a => (⟨a.1, a.2.1, a.2.2.1, a.2.2.2.1, a.2.2.2.2.1, a.2.2.2.2.2.1, a.2.2.2.2.2.2.1, a.2.2.2.2.2.2.2.1, a.2.2.2.2.2.2.2.2.1, a.2.2.2.2.2.2.2.2.2.1, a.2.2.2.2.2.2.2.2.2.2.1⟩ : Go.Ax.Gm.Rules))
  (fun a h => ⟨h.1, h.2.2.2.1.1, h.2.2.2.1.2, h.2.2.2.2.1.1, h.2.2.2.2.2.2.2.1.1⟩) (fun a => rfl) (fun a i hi => AEq.rfl')
end Go.Proofs.YtiifcejepaeepaaGreatDoor
