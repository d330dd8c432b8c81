import Derived.Test.YtiifcejepaeepaaGreatDoorY7
set_option linter.unusedVariables false
set_option linter.unusedSimpArgs false
set_option maxRecDepth 100000
set_option maxHeartbeats 4000000
namespace Go.Proofs.YtiifcejepaeepaaGreatDoor
open Go.Ax Go.Ax.Gm Go.RowKit Go.Ax.Idx Go.Ax.Cd
attribute [local irreducible] Ax zCT QOp zb
theorem winsL_no {r : Go.Ax.Gm.Rules} {p : Pos} {n : Int} (h : zAF r p n ≠ 0) : zCi r p n = [] := by unfold zCi; rw [if_pos h]
theorem zPX {r : Go.Ax.Gm.Rules} {p : Pos} {k : Nat} (h : zAF r p (zBY k) = 0) : zCi r p (zBY k) = zAr r k p := by
 unfold zCi
 rw [if_neg (fun d => d h)]
 show zAr r (zBy (2 * (k : Int) + 1)) p = _
 rw [zFA]
/-- PuzzleWins -/
theorem zI1 (r : Go.Ax.Gm.Rules) (p : Pos) (n : Int) (hr : Lens r) (hp : LenP p) : zj Tryz.prog 12 [ruA r, poA p, .int .i64 n] (.bool true) := by
 refine zb.value0 (zM (P := Tryz.prog) (fn := Tryz.f12) rfl rfl (by kernel_rfl) rfl (fun c hR hfix => ?_)) (fix := fun _ => False) (fun _ h => h) rfl rfl
 obtain ⟨k, hk, cp⟩ := pickN n 2 ⟨by decide, by decide⟩
 have cl := light_ok r hr p hp
 generalize zNO r p = lb at cl
 refine zZ ?_
 repeat (first | refine zA (zP rfl) ?_ | refine zC ?_ | refine zB ?_ | refine zK rfl ?_ | refine zAQ rfl rfl ?_)
 refine zC0 3 4 [(2, .int .i64 n)] rfl rfl rfl rfl ⟨rfl, trivial⟩ ⟨rfl, rfl, rfl, trivial⟩ rfl hfix ?_
 refine rn0 ?_
 refine zN rfl rfl rfl zMf ?_
 refine rn5 ?_
 refine zN rfl rfl rfl cp ?_
 skip
 refine zA (zDC rfl rfl (by omega)) ?_
 refine rn6 ?_
 rw [show (1 : Int) + 2 * (k : Int) = zBY k by show _ = 2 * (k : Int) + 1; omega]
 skip
 refine zN rfl rfl rfl cl ?_
 cases lb with
 | false =>
  refine rn5 ?_
  exact zJ hR rfl rfl
 | true =>
 refine rn6 ?_
 have c2 := zFM r hr p hp (zBY k)
 by_cases he : zAF r p (zBY k) = 0
 rotate_left
 ·rw [winsL_no he] at c2
  generalize zAF r p (zBY k) = e at c2 he
  refine zN rfl rfl rfl c2 ?_
  refine rn3 ?_
  refine zD rfl (fun q => ?_) (fun q => ?_)
  ·refine rn4 ?_
   exact zJ hR rfl rfl
  ·exact absurd he q
 obtain ⟨k', e1, hc⟩ := zFv he
 have e1 : 2 * (k : Int) + 1 = 2 * (k' : Int) + 1 := e1
 obtain rfl : k = k' := by omega
 have hpz : zAs r p = 0 := zCD hc.z hc.S
 have ca := zK7 r hr p hp
 rw [hpz, if_neg (fun d => d rfl)] at ca
 rw [zPX he, he] at c2
 have hml := zCc hc.v hc.S
 have cf := zOe r hr k p hc
 have hAll : zAr r k p = (zo r p).filter (zAT r k p) := rfl
 generalize hMs : zo r p = ms at *
 generalize hN : zBY k = N at *
 refine zN rfl rfl rfl c2 ?_
 refine rn6 ?_
 refine zN rfl rfl rfl ca ?_
 refine rn4 ?_
 refine zBp 11 ⟨58, zA2 []⟩ rfl rfl ?_
 skip
 have hfl : ∀ j, ((ms.take j).filter (zAT r k p)).length ≤ ms.length := fun j => Nat.le_trans (List.length_filter_le ..) (by rw [List.length_take]; omega)
 refine zAA (ι := Nat) (fun j => [(3, .rp (.box (ruC r)) 0 0), (4, .rp (.box (poC p)) 0 0), (2, .int .i64 N), (7, zAy (zAr r k p)), (11, .sl 0 0 ((ms.take j).filter (zAT r k p)).length), (46, zAy ms), (47, iN ms.length), (48, iN j)]) (fun j => [some ⟨58, zA2 ((ms.take j).filter (zAT r k p))⟩]) (fun j => j ≤ ms.length) (fun j => ms.length - j) 0 ⟨⟨rfl, rfl, rfl, rfl, rfl, rfl, rfl, rfl, trivial⟩, rfl, Nat.zero_le _⟩ ?_
 intro j hj
 have hFl := hfl j
 refine rn4 ?_
 refine zD rfl (fun g => ?_) (fun g => ?_)
 ·have hj' : j < ms.length := by omega
  have hmem := zAL mv0 hj'
  obtain ⟨a, ha⟩ : ∃ a, ms.getD j mv0 = a := ⟨_, rfl⟩
  rw [ha] at hmem
  have cfa := cf a hmem
  have hfs : (ms.take (j + 1)).filter (zAT r k p) = (ms.take j).filter (zAT r k p) ++ if zAT r k p a = true then [a] else [] := by
   rw [zz ms mv0 j hj', ha, List.filter_append]
   congr 1
   by_cases w : zAT r k p a = true
   ·rw [if_pos w, List.filter_cons_of_pos w]; rfl
   ·rw [if_neg w, List.filter_cons_of_neg w]; rfl
  generalize (ms.take j).filter (zAT r k p) = F at hfs hFl ⊢
  generalize zAT r k p a = wa at hfs cfa
  refine zFc ?_
  repeat (refine zAG rfl rfl rfl ?_)
  refine zd (mvC a) rfl rfl rfl rfl rfl (by rw [← ha]; rfl) rfl ?_
  refine zBC ?_
  refine zCU [some ⟨58, zA2 F⟩] 13 [(3, .rp (.box (ruC r)) 0 0), (4, .rp (.box (poC p)) 0 0), (2, .int .i64 N), (7, zAy (zAr r k p)), (11, .sl 0 0 F.length), (46, zAy ms), (47, iN ms.length), (48, iN j)] rfl rfl ⟨rfl, rfl, rfl, rfl, rfl, rfl, rfl, rfl, trivial⟩ ⟨rfl, rfl, rfl, rfl, rfl, rfl, rfl, rfl, rfl, trivial⟩ (zBs (zFE _) zBP) rfl (fun h q => by rw [hfix] at q; exact q.elim) ?_
  refine rn6 ?_
  refine zN rfl rfl rfl cfa ?_
  cases wa with
  | true =>
   rw [if_pos rfl] at hfs
   refine rn6 ?_
   refine zBW [a] rfl rfl rfl rfl rfl rfl rfl rfl rfl rfl rfl rfl rfl (by show 0 + 1 ≤ 1; omega) (fun k' j' hk' hj' => ?_) (by show (F.length + 1) * 24 ≤ _ ∧ _; omega) zFY (by rw [hfix]; exact fun h => h) ?_
   ·obtain rfl : k' = 0 := Nat.lt_one_iff.1 hk'
    match j', hj' with
    | 0, _ => rfl
    | 1, _ => rfl
    | 2, _ => rfl
   refine rn5 ?_
   refine zS ⟨j + 1, by omega, by omega, ⟨rfl, rfl, rfl, rfl, ?_, rfl, rfl, rfl, trivial⟩, ?_⟩
   ·rw [hfs, List.length_append]; rfl
   ·rw [hfs]; rfl
  | false =>
   rw [if_neg (by decide), List.append_nil] at hfs
   refine rn5 ?_
   refine zS ⟨j + 1, by omega, by omega, ⟨rfl, rfl, rfl, rfl, ?_, rfl, rfl, rfl, trivial⟩, ?_⟩
   ·rw [hfs]; rfl
   ·rw [hfs]
 ·have hj' : j = ms.length := by omega
  rw [hj', List.take_length, ← hAll]
  rw [hj', List.take_length, ← hAll] at hFl
  have ceq := zN6 (zAr r k p) (zAr r k p) (by omega) (by omega)
  rw [decide_eq_true rfl] at ceq
  refine zBC ?_
  refine zCj 0 11 (zAr r k p).length [(7, zAy (zAr r k p))] rfl (zAV zDA) rfl (Nat.le_refl _) ⟨rfl, trivial⟩ ?_
  refine rn0 ?_
  refine zN rfl rfl rfl ceq ?_
  refine rn0 ?_
  exact zJ hR rfl rfl
end Go.Proofs.YtiifcejepaeepaaGreatDoor
namespace Go.Proofs.YtiifcejepaeepaaGreatDoor
open Go.Ax Go.Ax.Gm Go.RowKit
theorem rdWay {H : Type} {enc : TypeId × Value → H} {W : World} : Rd enc Tryz.prog W 143 4 zGO (fun _ => True) :=
 (Rd.struct Tryz.underlying143 (by kernel_rfl) (RdF.cons rfl rfl (Rd.int Tryz.underlying3) (RdF.cons rfl rfl (Rd.int Tryz.underlying3) (RdF.cons rfl rfl (Rd.int Tryz.underlying3) (RdF.cons rfl rfl (Rd.int Tryz.underlying3) RdF.nil))))).map
  (fun a => (⟨a.1, a.2.1, a.2.2.1, a.2.2.2.1⟩ : Go.Ax.Gm.Way)) (fun a h => trivial) (fun a => rfl) (fun a i hi => AEq.rfl')
theorem rdPc {H : Type} {enc : TypeId × Value → H} {W : World} : Rd enc Tryz.prog W 114 4 pcC (fun p => p.ways.length ≤ 9223372036854775807) :=
 (Rd.struct Tryz.underlying114 (by kernel_rfl) (RdF.cons rfl rfl (Rd.int Tryz.underlying5) (RdF.cons rfl rfl (Rd.int Tryz.underlying3) (RdF.cons rfl rfl (Rd.int Tryz.underlying3) (RdF.cons rfl rfl (Rd.slice way0 Tryz.underlying112 (by kernel_rfl) rfl rdWay) RdF.nil))))).map
  (fun a => (⟨a.1, a.2.1, a.2.2.1, a.2.2.2.1⟩ : Go.Ax.Gm.Pc)) (fun a h => h.2.2.2.1.1) (fun a => rfl) (fun a i hi => AEq.rfl')
theorem rdEn {H : Type} {enc : TypeId × Value → H} {W : World} : Rd enc Tryz.prog W 132 4 enC (fun _ => True) :=
 (Rd.struct Tryz.underlying132 (by kernel_rfl) (RdF.cons rfl rfl (Rd.int Tryz.underlying3) (RdF.cons rfl rfl (Rd.int Tryz.underlying3) (RdF.cons rfl rfl (Rd.int Tryz.underlying3) (RdF.cons rfl rfl (Rd.bool Tryz.underlying4) RdF.nil))))).map
  (fun a => (⟨a.1, a.2.1, a.2.2.1, a.2.2.2.1⟩ : Go.Ax.Gm.En)) (fun a h => trivial) (fun a => rfl) (fun a i hi => AEq.rfl')
theorem rdRules {H : Type} {enc : TypeId × Value → H} {W : World} : Rd enc Tryz.prog W 26 11 ruC Lens :=
 (Rd.struct Tryz.underlying26 (by kernel_rfl) (RdF.cons rfl rfl (Rd.str Tryz.underlying9) (RdF.cons rfl rfl (Rd.int Tryz.underlying3) (RdF.cons rfl rfl (Rd.int Tryz.underlying3) (RdF.cons rfl rfl (Rd.slice pc0 Tryz.underlying22 (by kernel_rfl) rfl rdPc) (RdF.cons rfl rfl (Rd.ints Tryz.underlying23 (by kernel_rfl) Tryz.underlying3) (RdF.cons rfl rfl (Rd.bool Tryz.underlying4) (RdF.cons rfl rfl (Rd.bool Tryz.underlying4) (RdF.cons rfl rfl (Rd.slice en0 Tryz.underlying24 (by kernel_rfl) rfl rdEn) (RdF.cons rfl rfl (Rd.int Tryz.underlying3) (RdF.cons rfl rfl (Rd.int Tryz.underlying3) (RdF.cons rfl rfl (Rd.int Tryz.underlying3) RdF.nil)))))))))))).map
  (fun a => (⟨a.1, a.2.1, a.2.2.1, a.2.2.2.1, a.2.2.2.2.1, a.2.2.2.2.2.1, a.2.2.2.2.2.2.1, a.2.2.2.2.2.2.2.1, a.2.2.2.2.2.2.2.2.1, a.2.2.2.2.2.2.2.2.2.1, a.2.2.2.2.2.2.2.2.2.2.1⟩ : Go.Ax.Gm.Rules))
  (fun a h => ⟨h.1, h.2.2.2.1.1, h.2.2.2.1.2, h.2.2.2.2.1.1, h.2.2.2.2.2.2.2.1.1⟩) (fun a => rfl) (fun a i hi => AEq.rfl')
theorem rdPos {H : Type} {enc : TypeId × Value → H} {W : World} : Rd enc Tryz.prog W 35 5 poC LenP :=
 (Rd.struct Tryz.underlying35 (by kernel_rfl) (RdF.cons rfl rfl (Rd.ints Tryz.underlying23 (by kernel_rfl) Tryz.underlying3) (RdF.cons rfl rfl (Rd.arr2 Tryz.underlying33 (by kernel_rfl) (by kernel_rfl) (Rd.ints Tryz.underlying23 (by kernel_rfl) Tryz.underlying3)) (RdF.cons rfl rfl (Rd.int Tryz.underlying3) (RdF.cons rfl rfl (Rd.int Tryz.underlying3) RdF.nil))))).map
  (fun a => (⟨a.1, a.2.1.1, a.2.1.2, a.2.2.1, a.2.2.2.1⟩ : Go.Ax.Gm.Pos)) (fun a h => ⟨h.1.1, h.2.1.1.1, h.2.1.2.1⟩) (fun a => rfl) (fun a i hi => AEq.rfl')
end Go.Proofs.YtiifcejepaeepaaGreatDoor
