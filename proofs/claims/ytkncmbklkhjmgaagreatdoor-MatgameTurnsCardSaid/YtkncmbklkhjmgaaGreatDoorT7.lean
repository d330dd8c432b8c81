import Derived.Test.YtkncmbklkhjmgaaGreatDoorT6
set_option linter.unusedVariables false
set_option linter.unusedSimpArgs false
set_option maxRecDepth 100000
set_option maxHeartbeats 40000000
namespace Go.Proofs.YtkncmbklkhjmgaaGreatDoor
open Go.Ax Go.Ax.Bg Go.Ax.Rt Go.RowKit Go.Ax.Dt Go.Ax.Sx
attribute [local irreducible] Ax zBn QOp zQ zBX
theorem rowN1 (n : Nat) (j : Nat) (hj : j < 1) : (zBt 1 1 [zh n]).at 0 j = ([zh n] : List AV).getD j .any := by
 obtain rfl := Nat.lt_one_iff.1 hj
 rfl
theorem zPB (n : Nat) (j h : Nat) (hj : j < 1) : (([zh n] : List AV).getD j .any).forget h = ([zh n] : List AV).getD j .any := by
 obtain rfl := Nat.lt_one_iff.1 hj
 rfl
theorem zNC (l : List Nat) (n : Nat) : zAz n (nsC l) := by
 intro i j _ hj
 obtain rfl := Nat.lt_one_iff.1 (show j < 1 from hj)
 rfl
theorem zFd (m : Nat) (x : Int) (j : Nat) (hj : j < 2) : zCB m ((zj x).getD j .any) = true := by
 match j, hj with
 | 0, _ => rfl
 | 1, _ => rfl
theorem zH2 (p : Prog) (m : Nat) : zAz m (.box [.ro (zY p.A) 0 p.A.length, .ro (qsC p.B) 0 p.B.length, .ro (qsC p.C) 0 p.C.length]) := by
 intro i j hi hj
 obtain rfl := Nat.lt_one_iff.1 (show i < 1 from hi)
 match j, (show j < 3 from hj) with
 | 0, _ => rfl
 | 1, _ => rfl
 | 2, _ => rfl
theorem start_ok (p : Prog) (N k : Nat) (hp : p.Ok) (hk : p.Dig k) (hN : N = p.C.length + p.B.length + (zAW p.B p.B.length).length) (hm : p.B.length ≤ 40) (hn : p.C.length ≤ 40) (hk40 : k ≤ 10000) :
 zQ Tryz.prog 193 [.agg [.ro (zY p.A) 0 p.A.length, .ro (qsC p.B) 0 p.B.length, .ro (qsC p.C) 0 p.C.length]] [] (fun _ => False)
  (fun r' H' => r' = .tup [.ptr 2 0 0, .ro (nsC ((List.range p.B.length).map p.fac)) 0 p.B.length, iN ((zAW p.B p.B.length).length)] ∧ H' = zc [none, none] none (N + 1) (p.C.length + p.B.length) p.B.length (zBB p) 1 (zBd p) []) := by
 refine zE (P := Tryz.prog) (fn := Tryz.f193) Z Z (by kernel_rfl) Z (fun c hR hfix => ?_)
 have hal : (zAW p.B p.B.length).length ≤ p.B.length := zKD p.B p.B.length
 repeat (first | refine zG (zm rfl) ?_ | refine zR ?_ | refine zI ?_ | refine z7 ?_ | refine zg rfl ?_ | refine zGF rfl rfl ?_)
 refine zi (by kernel_rfl) ?_
 refine zq (fuel := 0) [0, 1, 2, 3, 4, 5, 6, 7] [(1, .ptr 0 0 0), (3, .nil)] ⟨Z, Z, trivial⟩ (by kernel_rfl) (by decide) Z Z ?_
 refine zM Z Z (zH Z Z Z Z Z Z) ?_
 refine zM Z Z (zX Z Z Z Z Z) ?_
 refine zM Z Z (zBy Z Z Z) ?_
 refine zM Z Z (zH Z Z Z Z Z Z) ?_
 refine zM Z Z (zX Z Z Z Z Z) ?_
 refine zM Z Z (zBy Z Z Z) ?_
 refine zM Z Z (zm Z) ?_
 refine zM Z Z (zm Z) ?_
 refine zAC ?_
 refine zW (by kernel_rfl) ?_
 repeat (first | refine zG (zK rfl) ?_ | refine zG (zm rfl) ?_ | refine zR ?_ | refine zI ?_ | refine z7 ?_ | refine zg rfl ?_ | refine zG (zX rfl rfl rfl rfl rfl) ?_ | refine zG (zBy rfl rfl rfl) ?_ | refine zG (zH rfl rfl rfl rfl rfl rfl) ?_)
 refine zAb 7 ⟨3, zB0 (zAW p.B 0)⟩ Z Z ?_
 repeat (refine zAA ?_)
 refine zZ (ι := Nat) (fun i => [(1, .ptr 0 0 0), (3, .nil), (5, iN p.C.length), (6, iN p.B.length), (7, .sl 1 0 (zAW p.B i).length), (24, .ro (qsC p.B) 0 p.B.length), (25, iN p.B.length), (26, iN i)]) (fun i => [some ⟨193, .box [.ro (zY p.A) 0 p.A.length, .ro (qsC p.B) 0 p.B.length, .ro (qsC p.C) 0 p.C.length]⟩, some ⟨3, zB0 (zAW p.B i)⟩]) (fun i => i ≤ p.B.length) (fun i => p.B.length - i) 0 ⟨⟨Z, Z, Z, Z, Z, Z, Z, Z, trivial⟩, Z, Nat.zero_le _⟩ ?_
 intro i hi
 repeat (first | refine zR ?_ | refine zI ?_ | refine z7 ?_ | refine zg rfl ?_ | refine zG (zEd rfl rfl) ?_)
 refine zA Z (fun h => ?_) (fun h => ?_)
 ·have hi' : i < p.B.length := by omega
  have hle := zKD p.B i
  repeat (first | refine zG (zK rfl) ?_ | refine zG (zm rfl) ?_ | refine zI ?_ | refine z7 ?_ | refine zg rfl ?_ | refine zAA ?_ | refine zA6 ?_ | refine zG (zAE rfl rfl rfl rfl (by first | (simp only [Nat.zero_add, Int.toNat_natCast, Int.toNat_zero]; exact rfl) | exact rfl) (by omega)) ?_ | refine zG (zA9 rfl rfl rfl rfl rfl rfl) ?_ | refine zBD rfl rfl rfl ?_)
  refine zO [some ⟨193, .box [.ro (zY p.A) 0 p.A.length, .ro (qsC p.B) 0 p.B.length, .ro (qsC p.C) 0 p.C.length]⟩, some ⟨3, zB0 (zAW p.B i)⟩, some ⟨104, .box [.bool false, .nil, .nil]⟩] Z ?_
  refine zD 9 (.ptr 2 0 0) Z (AEq.of_eq Z) ?_
  refine zD 30 (.agg (zT (p.B.getD i 0))) Z (AEq.of_eq Z) ?_
  refine sa1 (c' := .box (zT (p.B.getD i 0))) Z Z Z Z Z Z Z ?_
  refine zO [some ⟨193, .box [.ro (zY p.A) 0 p.A.length, .ro (qsC p.B) 0 p.B.length, .ro (qsC p.C) 0 p.C.length]⟩, some ⟨3, zB0 (zAW p.B i)⟩, some ⟨104, .box (zT (p.B.getD i 0))⟩] Z ?_
  have cs := zKk (p.B.getD i 0)
  have hs : zAW p.B (i + 1) = if (p.B.getD i 0).num < 0 then zAW p.B i ++ [i] else zAW p.B i := by rw [zAW]
  apply zAK (H := [some ⟨193, .box [.ro (zY p.A) 0 p.A.length, .ro (qsC p.B) 0 p.B.length, .ro (qsC p.C) 0 p.C.length]⟩, some ⟨3, zB0 (zAW p.B (i + 1))⟩, some ⟨104, .box (zT (p.B.getD i 0))⟩]) [(1, .ptr 0 0 0), (3, .nil), (5, iN p.C.length), (6, iN p.B.length), (7, .sl 1 0 (zAW p.B (i + 1)).length), (24, .ro (qsC p.B) 0 p.B.length), (25, iN p.B.length), (26, iN i)]
  ·intro fin
   repeat (first | refine zR ?_ | refine zI ?_ | refine z7 ?_ | refine zg rfl ?_ | refine zG (qpp rfl rfl rfl rfl rfl rfl rfl) ?_)
   refine zD 31 (qA (p.B.getD i 0)) Z (AEq.of_eq Z) ?_
   refine zB Z Z Z cs ?_
   repeat (first | refine zR ?_ | refine zI ?_ | refine zG (zEd rfl rfl) ?_)
   refine zA Z (fun h1 => ?_) (fun h1 => ?_)
   ·rw [zF9] at h1
    rw [if_pos h1] at hs
    rw [hs] at fin
    have hll : (zAW p.B i ++ [i]).length = (zAW p.B i).length + 1 := by rw [List.length_append]; rfl
    have hol : (zB0 (zAW p.B i)).len = (zAW p.B i).length := List.length_map ..
    repeat (first | refine zG (zK rfl) ?_ | refine zg rfl ?_ | refine zf rfl rfl rfl rfl rfl rfl rfl rfl rfl rfl rfl ?_)
    refine zo Z Z Z Z Z Z Z Z Z hol Z Z (by show 0 + 1 ≤ 1; omega) Z (by show ((zAW p.B i).length + 1) * 8 ≤ _ ∧ _; have : (zAW p.B i).length ≤ i := hle; omega) (fun _ _ _ _ => rfl) (by rw [hfix]; exact fun h => h) ?_
    refine zu [some ⟨193, .box [.ro (zY p.A) 0 p.A.length, .ro (qsC p.B) 0 p.B.length, .ro (qsC p.C) 0 p.C.length]⟩, some ⟨3, zB0 (zAW p.B i ++ [i])⟩, some ⟨104, .box (zT (p.B.getD i 0))⟩] (zP.same (zP.eqv (zLu (zAW p.B i) i) (zP.same zP.nil))) ?_
    refine zD 37 (.sl 1 0 (zAW p.B i ++ [i]).length) Z (AEq.of_eq (by rw [hll])) ?_
    repeat (first | refine zG (zm rfl) ?_ | refine zR ?_ | refine zI ?_ | refine zAP ?_)
    exact fin _ ⟨Z, Z, Z, Z, Z, Z, Z, Z, trivial⟩
   ·rw [zF9] at h1
    rw [if_neg h1] at hs
    rw [hs] at fin
    repeat (first | refine zI ?_ | refine zAP ?_ | refine zA6 ?_)
    exact fin _ ⟨Z, Z, Z, Z, Z, Z, Z, Z, trivial⟩
  ·refine zA3 [some ⟨193, .box [.ro (zY p.A) 0 p.A.length, .ro (qsC p.B) 0 p.B.length, .ro (qsC p.C) 0 p.C.length]⟩, some ⟨3, zB0 (zAW p.B (i + 1))⟩] [some ⟨104, .box (zT (p.B.getD i 0))⟩] [(1, .ptr 0 0 0), (3, .nil), (5, iN p.C.length), (6, iN p.B.length), (7, .sl 1 0 (zAW p.B (i + 1)).length), (24, .ro (qsC p.B) 0 p.B.length), (25, iN p.B.length), (26, iN i)] Z ⟨Z, Z, Z, Z, Z, Z, Z, Z, trivial⟩ (fun h hh => by rw [hfix] at hh; exact hh.elim) (fun h o ho => by
    match h, ho with
    | 0, ho => cases ho; exact zH2 p _
    | 1, ho => cases ho; exact fun i j _ _ => rfl) rfl ?_
   repeat (first | refine zG (zK rfl) ?_ | refine zR ?_ | refine zg rfl ?_ | refine zG (zCF rfl rfl (by omega)) ?_)
   exact zJ ⟨i + 1, by omega, by omega, ⟨Z, Z, Z, Z, Z, Z, Z, Z, trivial⟩, Z⟩
 have hie : i = p.B.length := by omega
 rw [hie]
 clear hi h hie
 clear i
 have cw := zLF 1 (by decide)
 unfold zA1 at cw
 repeat (first | refine zI ?_ | refine z7 ?_ | refine zg rfl ?_ | refine zDM ?_ | refine zA5 ?_ | refine zA4 ?_ | refine zBP ?_)
 refine zB Z Z Z cw ?_
 repeat (first | refine zG (zK rfl) ?_ | refine zG (zCF rfl rfl (by omega)) ?_)
 refine zD 42 (.int .i64 ((p.C.length + p.B.length : Nat))) Z (AEq.of_eq (by show AV.int _ _ = AV.int _ _; congr 1)) ?_
 repeat (first | refine zG (zK rfl) ?_ | refine zG (zm rfl) ?_ | refine zR ?_ | refine zI ?_ | refine z7 ?_ | refine zg rfl ?_ | refine zG (zX rfl rfl rfl rfl rfl) ?_ | refine zG (zBy rfl rfl rfl) ?_ | refine zG (zBH rfl rfl rfl rfl rfl rfl) ?_ | refine zG (zH rfl rfl rfl rfl rfl rfl) ?_ | refine zGF rfl rfl ?_)
 refine zAb 3 ⟨100, nsC []⟩ Z Z ?_
 refine zE2 2 ⟨3, zB0 []⟩ (.box [.nil, .bool (decide ((1 : Int) < 0)), zh (1 : Int).natAbs, .sl 4 0 0, .int .i64 ((p.C.length + p.B.length : Nat))]) Z Z Z Z (fun i j hi hj => ?_) ?_
 ·obtain rfl := Nat.lt_one_iff.1 hi
  match j, hj with
  | 0, _ => exact .inl rfl
  | 1, _ => exact .inl rfl
  | 2, _ => exact .inl rfl
  | 3, _ => exact .inr ⟨rfl, rfl⟩
  | 4, _ => exact .inl rfl
 refine zE2 2 ⟨265, zBj 2 0 (N + 1)⟩ (zDu 2 0 0 (p.C.length + p.B.length) 1) Z Z Z Z (fun i j hi hj => ?_) ?_
 ·obtain rfl := Nat.lt_one_iff.1 hi
  match j, hj with
  | 0, _ => exact .inr ⟨rfl, rfl⟩
  | 1, _ => exact .inl rfl
  | 2, _ => exact .inl rfl
  | 3, _ => exact .inl rfl
  | 4, _ => exact .inl rfl
 generalize hGG : ([some ⟨193, .box [.ro (zY p.A) 0 p.A.length, .ro (qsC p.B) 0 p.B.length, .ro (qsC p.C) 0 p.C.length]⟩, some ⟨3, zB0 (zAW p.B p.B.length)⟩] : zN) = G
 refine zAj (zc G (some ⟨100, nsC []⟩) (N + 1) (p.C.length + p.B.length) 0 [] 1 [] []) (by subst hGG; rfl) ?_
 refine z8 2 (.ptr G.length 0 0) rfl (AEq.of_eq (by subst hGG; rfl)) ?_
 refine z8 3 (.sl (G.length + 1) 0 0) rfl (AEq.of_eq (by subst hGG; rfl)) ?_
 have hG2 : G.length = 2 := by subst hGG; rfl
 have hG : OkG G := by
  rw [← hGG]
  intro m hm o ho
  rcases List.mem_cons.1 ho with e | e
  ·cases e; exact zH2 p _
  ·cases List.mem_singleton.1 e; exact fun i j _ _ => rfl
 have hFG : ∀ h, zl h G = G := fun h => by subst hGG; rfl
 have hg0 : ∀ F kk X β T, (zc G F (N + 1) (p.C.length + p.B.length) kk X 1 β T)[0]? = some (some ⟨193, .box [.ro (zY p.A) 0 p.A.length, .ro (qsC p.B) 0 p.B.length, .ro (qsC p.C) 0 p.C.length]⟩) := fun F kk X β T => by subst hGG; rfl
 generalize hnd : zAW p.B p.B.length = nd at *
 have hg1 : ∀ F kk X β T, (zc G F (N + 1) (p.C.length + p.B.length) kk X 1 β T)[1]? = some (some ⟨3, zB0 nd⟩) := fun F kk X β T => by subst hGG; rfl
 have hAB : p.A.length = p.B.length := hp.rows
 repeat (refine zAA ?_)
 refine zZ (ι := Nat) (fun i => [(1, .ptr 0 0 0), (2, .ptr G.length 0 0), (3, .sl (G.length + 1) 0 i), (5, iN p.C.length), (6, iN p.B.length), (7, .sl 1 0 nd.length), (46, .ro (zY p.A) 0 p.A.length), (47, iN p.A.length), (48, iN i)]) (fun i => zc G (some ⟨100, nsC ((List.range i).map p.fac)⟩) (N + 1) (p.C.length + p.B.length) i ((zBB p).take i) 1 ((zBd p).take i) []) (fun i => i ≤ p.B.length) (fun i => p.B.length - i) 0 ⟨⟨Z, Z, Z, Z, Z, Z, Z, Z, Z, trivial⟩, Z, Nat.zero_le _⟩ ?_
 intro i hi
 repeat (first | refine zR ?_ | refine zI ?_ | refine z7 ?_ | refine zg rfl ?_ | refine zG (zEd rfl rfl) ?_)
 refine zA Z (fun h => ?_) (fun h => ?_)
 ·have hi' : i < p.B.length := by omega
  have hTl : (zBB p).length = p.B.length := zCY p
  have hBl : (zBd p).length = p.B.length := zGZ p
  have hX1 := zK2 (zBB p) [] (i := i) (by omega)
  have hβ1 := zK2 (zBd p) 0 (i := i) (by omega)
  have hXl : ((zBB p).take i).length = i := by rw [List.length_take, hTl]; omega
  have hβl : ((zBd p).take i).length = i := by rw [List.length_take, hBl]; omega
  have hf1 : (List.range (i + 1)).map p.fac = (List.range i).map p.fac ++ [p.fac i] := by rw [List.range_succ, List.map_append]; rfl
  have hfl : ((List.range i).map p.fac).length = i := by simp
  have hXv : (zBB p).getD i [] = zDJ p.C.length p.B.length nd.length (p.whole i) i (p.neg i) (zBe p.B i) := by rw [← hnd]; exact zD3 hi'
  have hβv : (zBd p).getD i 0 = if p.neg i then p.C.length + p.B.length + zBe p.B i else p.C.length + i := zGY p hi'
  rw [hXv] at hX1
  rw [hβv] at hβ1
  generalize hX2 : (zBB p).take (i + 1) = X2 at *
  generalize (zBB p).take i = X at *
  generalize hβ2 : (zBd p).take (i + 1) = β2 at *
  generalize (zBd p).take i = β at *
  generalize hfs2 : (List.range (i + 1)).map p.fac = fs2 at *
  generalize (List.range i).map p.fac = fs at *
  have hlen : ∀ T, (zc G (some ⟨100, nsC fs⟩) (N + 1) (p.C.length + p.B.length) i X 1 β T).length = G.length + 4 + i + T.length := fun T => by rw [zBC, hXl]
  have hFf : ∀ h (l : List Nat), zAp h (some (⟨100, nsC l⟩ : AObj)) = some ⟨100, nsC l⟩ := fun h l => by show some (⟨_, (nsC l).forget h⟩ : AObj) = _; rw [nsC_fg]
  have hlen0 : (zc G (some ⟨100, nsC fs⟩) (N + 1) (p.C.length + p.B.length) i X 1 β []).length = G.length + 4 + i := by rw [zBC, hXl]; rfl
  have hrl : (p.A.getD i []).length = p.C.length := hp.cols _ (zAD [] (by omega))
  have hful : p.full i = p.A.getD i [] ++ [p.B.getD i 0] := rfl
  have hfull : (p.full i).length = p.C.length + 1 := zD7 p hp hi'
  have hfD := zOx hp hk hi'
  have hWl : (p.whole i).length = p.C.length + 1 := by unfold Prog.whole; rw [zGe]; exact hfull
  have hWe : zAk (p.full i) = p.whole i := rfl
  have hFe : zCs 1 (p.full i) = p.fac i := rfl
  have cl := cloneQ (p.A.getD i []) (by omega)
  rw [hrl] at cl
  have cW := zM0 (p.full i) k hfD (by omega) (by rw [hfull]; have : k * (p.C.length + 1) ≤ 10000 * 41 := Nat.mul_le_mul hk40 (by omega); omega)
  rw [hfull, hWe, hFe] at cW
  rw [hful] at cW
  repeat (first | refine zG (zK rfl) ?_ | refine zG (zm rfl) ?_ | refine zR ?_ | refine zI ?_ | refine z7 ?_ | refine zg rfl ?_ | refine zAA ?_ | refine zA6 ?_ | refine zG (zCX rfl rfl rfl rfl) ?_ | refine zG (zAE rfl rfl rfl rfl (by first | (simp only [Nat.zero_add, Int.toNat_natCast, Int.toNat_zero]; exact rfl) | exact rfl) (by omega)) ?_)
  refine z8 11 (.ro (qsC (p.A.getD i [])) 0 p.C.length) Z (AEq.of_eq (by rw [← hrl]; rfl)) ?_
  generalize p.A.getD i [] = row at *
  have gB := hg0 (some ⟨100, nsC fs⟩) i X β [some ⟨104, qsC row⟩]
  have gA := hg0 (some ⟨100, nsC fs⟩) i X β []
  repeat (first | refine zG (zK rfl) ?_ | refine zG (zm rfl) ?_ | refine zR ?_ | refine zI ?_ | refine z7 ?_ | refine zg rfl ?_ | refine zBf rfl ?_ | refine zAh rfl ?_ | refine zAP ?_ | refine zAF ?_ | refine zAA ?_ | refine zA6 ?_ | refine zDM ?_ | refine zA5 ?_ | refine zA4 ?_ | refine zBP ?_ | refine zBY ?_ | refine zG (zCX rfl rfl rfl rfl) ?_ | refine zG (zX rfl rfl rfl rfl rfl) ?_ | refine zG (zEd rfl rfl) ?_ | refine zG (zJl rfl rfl) ?_ | refine zG (zBy rfl rfl rfl) ?_ | refine zG (zCF rfl rfl (by omega)) ?_ | refine zG (zFD rfl rfl (by omega)) ?_ | refine zG (zAE rfl rfl rfl rfl (by first | (simp only [Nat.zero_add, Int.toNat_natCast, Int.toNat_zero]; exact rfl) | exact rfl) (by omega)) ?_ | refine zG (zBH rfl rfl rfl rfl rfl rfl) ?_ | refine zG (zd rfl) ?_ | refine zG (zH rfl rfl rfl rfl rfl rfl) ?_ | refine zG (zA9 rfl rfl rfl rfl rfl rfl) ?_ | refine zG (qpp rfl rfl rfl rfl rfl rfl rfl) ?_ | refine zG (qis rfl rfl rfl) ?_ | refine zG (qas rfl rfl rfl rfl) ?_ | refine zG (zAB rfl rfl rfl (by assumption) (by rfl)) ?_ | refine zf rfl rfl rfl rfl rfl rfl rfl rfl rfl rfl rfl ?_ | refine zGF rfl rfl ?_ | refine zBD rfl rfl rfl ?_)
  refine zi (by kernel_rfl) ?_
  refine zV 0 Z (by kernel_rfl) (by kernel_rfl) (by kernel_rfl) Z (zK Z) Z ?_
  refine zV 2 Z (by kernel_rfl) (by kernel_rfl) (by kernel_rfl) Z (zH Z Z Z Z Z Z) Z ?_
  refine zV 4 Z (by kernel_rfl) (by kernel_rfl) (by kernel_rfl) Z (zK Z) Z ?_
  apply zDU (H := zc G (some ⟨100, nsC fs⟩) (N + 1) (p.C.length + p.B.length) i X 1 β [some ⟨104, qsC row⟩]) [(1, .ptr 0 0 0), (2, .ptr G.length 0 0), (3, .sl (G.length + 1) 0 i), (5, iN p.C.length), (6, iN p.B.length), (7, .sl 1 0 nd.length), (46, .ro (zY p.A) 0 p.A.length), (47, iN p.A.length), (48, iN i), (10, iN i), (55, .sl (G.length + 4 + i) 0 p.C.length), (61, .ro (zBt 1 3 (zT (p.B.getD i 0))) 0 1)]
  ·intro fin
   refine zF (is := [1, 3]) (by kernel_rfl) (by simp) Z ⟨fun o ho => ?_, fun o ho => ?_, trivial⟩
   all_goals (cases ho)
   ·refine zE1 Z Z Z cl ?_
    refine zO (zc G (some ⟨100, nsC fs⟩) (N + 1) (p.C.length + p.B.length) i X 1 β [some ⟨104, qsC row⟩]) (by rw [zAZ]; rfl) ?_
    refine zD 55 (.sl (G.length + 4 + i) 0 p.C.length) Z (AEq.of_eq (by rw [hlen]; rfl)) ?_
    repeat (first | refine zR ?_ | refine zAF ?_)
    refine zFN (fuel := 7) [3, 5, 6, 7] [(1, .ptr 0 0 0), (2, .ptr G.length 0 0), (3, .sl (G.length + 1) 0 i), (5, iN p.C.length), (6, iN p.B.length), (7, .sl 1 0 nd.length), (46, .ro (zY p.A) 0 p.A.length), (47, iN p.A.length), (48, iN i), (10, iN i), (56, .ptr 0 0 1), (58, iN i), (55, .sl (G.length + 4 + i) 0 p.C.length)] ⟨Z, Z, Z, Z, Z, Z, Z, Z, Z, Z, Z, Z, Z, trivial⟩ (by kernel_rfl) (by decide) Z Z ?_
    refine zM Z Z (zAB Z Z Z (by assumption) (by rfl)) ?_
    refine zM Z Z (zAE Z Z Z Z (by first | (simp only [Nat.zero_add, Int.toNat_natCast, Int.toNat_zero]; exact Z) | exact Z) (by omega)) ?_
    refine zM Z Z (zA9 Z Z Z Z Z Z) ?_
    refine px_b Z Z Z Z Z Z Z Z Z Z Z Z Z ?_
    refine zAC ?_
    exact fin _ ⟨Z, Z, Z, Z, Z, Z, Z, Z, Z, Z, Z, Z, trivial⟩
   ·repeat (first | refine zR ?_ | refine zAF ?_ | refine zG (zAB rfl rfl rfl (by assumption) (by rfl)) ?_)
    refine zF (is := [1, 5]) (by kernel_rfl) (by simp) Z ⟨fun o ho => ?_, fun o ho => ?_, trivial⟩
    all_goals (cases ho)
    ·refine zE1 Z Z Z cl ?_
     refine zO (zc G (some ⟨100, nsC fs⟩) (N + 1) (p.C.length + p.B.length) i X 1 β [some ⟨104, qsC row⟩]) (by rw [zAZ]; rfl) ?_
     refine zD 55 (.sl (G.length + 4 + i) 0 p.C.length) Z (AEq.of_eq (by rw [hlen]; rfl)) ?_
     repeat (first | refine zR ?_ | refine zAF ?_)
     refine zFN (fuel := 7) [5, 6, 7] [(1, .ptr 0 0 0), (2, .ptr G.length 0 0), (3, .sl (G.length + 1) 0 i), (5, iN p.C.length), (6, iN p.B.length), (7, .sl 1 0 nd.length), (46, .ro (zY p.A) 0 p.A.length), (47, iN p.A.length), (48, iN i), (10, iN i), (56, .ptr 0 0 1), (58, iN i), (55, .sl (G.length + 4 + i) 0 p.C.length), (57, .ro (qsC p.B) 0 p.B.length)] ⟨Z, Z, Z, Z, Z, Z, Z, Z, Z, Z, Z, Z, Z, Z, trivial⟩ (by kernel_rfl) (by decide) Z Z ?_
     refine zM Z Z (zAE Z Z Z Z (by first | (simp only [Nat.zero_add, Int.toNat_natCast, Int.toNat_zero]; exact Z) | exact Z) (by omega)) ?_
     refine zM Z Z (zA9 Z Z Z Z Z Z) ?_
     refine px_b Z Z Z Z Z Z Z Z Z Z Z Z Z ?_
     refine zAC ?_
     exact fin _ ⟨Z, Z, Z, Z, Z, Z, Z, Z, Z, Z, Z, Z, trivial⟩
    ·repeat (first | refine zR ?_ | refine zAF ?_ | refine zG (zAE rfl rfl rfl rfl (by first | (simp only [Nat.zero_add, Int.toNat_natCast, Int.toNat_zero]; exact rfl) | exact rfl) (by omega)) ?_)
     refine zF (is := [1, 6]) (by kernel_rfl) (by simp) Z ⟨fun o ho => ?_, fun o ho => ?_, trivial⟩
     all_goals (cases ho)
     ·refine zE1 Z Z Z cl ?_
      refine zO (zc G (some ⟨100, nsC fs⟩) (N + 1) (p.C.length + p.B.length) i X 1 β [some ⟨104, qsC row⟩]) (by rw [zAZ]; rfl) ?_
      refine zD 55 (.sl (G.length + 4 + i) 0 p.C.length) Z (AEq.of_eq (by rw [hlen]; rfl)) ?_
      repeat (first | refine zR ?_ | refine zAF ?_)
      refine zFN (fuel := 7) [6, 7] [(1, .ptr 0 0 0), (2, .ptr G.length 0 0), (3, .sl (G.length + 1) 0 i), (5, iN p.C.length), (6, iN p.B.length), (7, .sl 1 0 nd.length), (46, .ro (zY p.A) 0 p.A.length), (47, iN p.A.length), (48, iN i), (10, iN i), (56, .ptr 0 0 1), (58, iN i), (55, .sl (G.length + 4 + i) 0 p.C.length), (59, .rp (qsC p.B) i 0)] ⟨Z, Z, Z, Z, Z, Z, Z, Z, Z, Z, Z, Z, Z, Z, trivial⟩ (by kernel_rfl) (by decide) Z Z ?_
      refine zM Z Z (zA9 Z Z Z Z Z Z) ?_
      refine px_b Z Z Z Z Z Z Z Z Z Z Z Z Z ?_
      refine zAC ?_
      exact fin _ ⟨Z, Z, Z, Z, Z, Z, Z, Z, Z, Z, Z, Z, trivial⟩
     ·repeat (first | refine zR ?_ | refine zAF ?_ | refine zG (zA9 rfl rfl rfl rfl rfl rfl) ?_)
      refine zF (is := [1, 7]) (by kernel_rfl) (by simp) Z ⟨fun o ho => ?_, fun o ho => ?_, trivial⟩
      all_goals (cases ho)
      ·refine zE1 Z Z Z cl ?_
       refine zO (zc G (some ⟨100, nsC fs⟩) (N + 1) (p.C.length + p.B.length) i X 1 β [some ⟨104, qsC row⟩]) (by rw [zAZ]; rfl) ?_
       refine zD 55 (.sl (G.length + 4 + i) 0 p.C.length) Z (AEq.of_eq (by rw [hlen]; rfl)) ?_
       repeat (first | refine zR ?_ | refine zAF ?_)
       refine zFN (fuel := 7) [7] [(1, .ptr 0 0 0), (2, .ptr G.length 0 0), (3, .sl (G.length + 1) 0 i), (5, iN p.C.length), (6, iN p.B.length), (7, .sl 1 0 nd.length), (46, .ro (zY p.A) 0 p.A.length), (47, iN p.A.length), (48, iN i), (10, iN i), (56, .ptr 0 0 1), (58, iN i), (55, .sl (G.length + 4 + i) 0 p.C.length), (60, .agg (zT (p.B.getD i 0)))] ⟨Z, Z, Z, Z, Z, Z, Z, Z, Z, Z, Z, Z, Z, Z, trivial⟩ (by kernel_rfl) (by decide) Z Z ?_
       refine px_b Z Z Z Z Z Z Z Z Z Z Z Z Z ?_
       refine zAC ?_
       exact fin _ ⟨Z, Z, Z, Z, Z, Z, Z, Z, Z, Z, Z, Z, trivial⟩
      ·repeat (first | refine zR ?_ | refine zAF ?_ | refine zf rfl rfl rfl rfl rfl rfl rfl rfl rfl rfl rfl ?_)
       refine zF (is := [1]) (by kernel_rfl) (by simp) Z ⟨fun o ho => ?_, trivial⟩
       all_goals (cases ho)
       refine zE1 Z Z Z cl ?_
       refine zO (zc G (some ⟨100, nsC fs⟩) (N + 1) (p.C.length + p.B.length) i X 1 β [some ⟨104, qsC row⟩]) (by rw [zAZ]; rfl) ?_
       refine zD 55 (.sl (G.length + 4 + i) 0 p.C.length) Z (AEq.of_eq (by rw [hlen]; rfl)) ?_
       repeat (first | refine zR ?_ | refine zAF ?_)
       exact fin _ ⟨Z, Z, Z, Z, Z, Z, Z, Z, Z, Z, Z, Z, trivial⟩
  refine zF (is := [8]) (by kernel_rfl) (by simp) Z ⟨fun o ho => ?_, trivial⟩
  all_goals (cases ho)
  have q0 := zAa (G := G) (F := (some ⟨100, nsC fs⟩)) (L := N + 1) (w := p.C.length + p.B.length) (k := i) (X := X) (d := 1) (β := β) (T := [some ⟨104, qsC row⟩]) 0
  rw [hXl, Nat.add_zero] at q0
  have hol : (qsC row).len = p.C.length := hrl
  refine zo Z Z Z Z Z Z Z q0 Z hol Z Z (by show 0 + 1 ≤ 1; omega) Z (by show (p.C.length + 1) * 56 ≤ _ ∧ _; omega) ?_ (by rw [hfix]; exact fun h => h) ?_
  ·intro i' j' hi' hj'
   exact zAH 0 3 zT zAf row _ _ (zCh _) _ i' j' hi' hj'
  refine zBl ((62, .sl (G.length + 4 + i) 0 (p.C.length + 1)) :: [(1, .ptr 0 0 0), (2, .ptr G.length 0 0), (3, .sl (G.length + 1) 0 i), (5, iN p.C.length), (6, iN p.B.length), (7, .sl 1 0 nd.length), (46, .ro (zY p.A) 0 p.A.length), (47, iN p.A.length), (48, iN i), (10, iN i)]) ⟨Z, zAq (h := G.length + 4 + i) (L := [(1, .ptr 0 0 0), (2, .ptr G.length 0 0), (3, .sl (G.length + 1) 0 i), (5, iN p.C.length), (6, iN p.B.length), (7, .sl 1 0 nd.length), (46, .ro (zY p.A) 0 p.A.length), (47, iN p.A.length), (48, iN i), (10, iN i)]) ⟨Z, Z, Z, Z, Z, Z, Z, Z, Z, Z, trivial⟩ (by
   intro q hq
   simp only [List.mem_cons, List.mem_nil_iff, or_false] at hq
   rcases hq with rfl | rfl | rfl | rfl | rfl | rfl | rfl | rfl | rfl | rfl <;> simp [AV.forget, zr (show G.length ≠ G.length + 4 + i by omega), zr (show G.length + 1 ≠ G.length + 4 + i by omega), zr (show 0 ≠ G.length + 4 + i by omega), zr (show 1 ≠ G.length + 4 + i by omega)])⟩ ?_
  refine zu (zc G (some ⟨100, nsC fs⟩) (N + 1) (p.C.length + p.B.length) i X 1 β [some ⟨104, qsC (row ++ [p.B.getD i 0])⟩]) (by
   have q := zK5 (G := G) (F := some ⟨100, nsC fs⟩) (L := N + 1) (w := p.C.length + p.B.length) (k := i) (X := X) (d := 1) (β := β) (y := some ⟨104, qsC row⟩) (t := 104) (hFG _) (hFf _ _) (zAQ 0 3 zT row (p.B.getD i 0) _ (zCh (p.B.getD i 0)))
   rw [hXl] at q
   exact q) ?_
  repeat (first | refine zR ?_ | refine zAF ?_)
  refine zF (is := [9]) (by kernel_rfl) (by simp) Z ⟨fun o ho => ?_, trivial⟩
  all_goals (cases ho)
  have q1 := zAa (G := G) (F := (some ⟨100, nsC fs⟩)) (L := N + 1) (w := p.C.length + p.B.length) (k := i) (X := X) (d := 1) (β := β) (T := [some ⟨104, qsC (row ++ [p.B.getD i 0])⟩]) 0
  rw [hXl, Nat.add_zero] at q1
  refine zDN (G.length + 4 + i) 62 (p.C.length + 1) [(1, .ptr 0 0 0), (2, .ptr G.length 0 0), (3, .sl (G.length + 1) 0 i), (5, iN p.C.length), (6, iN p.B.length), (7, .sl 1 0 nd.length), (46, .ro (zY p.A) 0 p.A.length), (47, iN p.A.length), (48, iN i), (10, iN i)] q1 (zAv _) Z (by show p.C.length + 1 ≤ (row ++ [p.B.getD i 0]).length; rw [List.length_append, hrl]; exact Nat.le_refl _) ⟨Z, Z, Z, Z, Z, Z, Z, Z, Z, Z, trivial⟩ ?_
  refine zO (zc G (some ⟨100, nsC fs⟩) (N + 1) (p.C.length + p.B.length) i X 1 β [none]) (by have q := zAI (G := G) (F := (some ⟨100, nsC fs⟩)) (L := N + 1) (w := p.C.length + p.B.length) (k := i) (X := X) (d := 1) (β := β) (T := [some ⟨104, qsC (row ++ [p.B.getD i 0])⟩]) 0 none; rw [hXl, Nat.add_zero] at q; exact q) ?_
  refine zIL (.tup [.sl (G.length + 4 + i + 1) 0 (p.C.length + 1), zh (p.fac i)]) (zc G (some ⟨100, nsC fs⟩) (N + 1) (p.C.length + p.B.length) i X 1 β [none, some ⟨102, zC (p.whole i)⟩]) Z Z Z cW (by rw [hlen]; show AV.tup [AV.sl (0 + (G.length + 4 + i + 1)) 0 _, _] = _; rw [Nat.zero_add]; rfl) (by show _ ++ [some (⟨_, (zC (p.whole i)).shift _⟩ : AObj)] = _; rw [zHf, zAZ]; rfl) ?_
  repeat (first | refine zR ?_ | refine zAF ?_)
  refine zV 10 Z (by kernel_rfl) (by kernel_rfl) (by kernel_rfl) Z (zK Z) Z ?_
  refine zV 11 Z (by kernel_rfl) (by kernel_rfl) (by kernel_rfl) Z (zBr Z Z) Z ?_
  refine zV 12 Z (by kernel_rfl) (by kernel_rfl) (by kernel_rfl) Z (zBr Z Z) Z ?_
  refine zV 13 Z (by kernel_rfl) (by kernel_rfl) (by kernel_rfl) Z (zm Z) Z ?_
  refine zV 14 Z (by kernel_rfl) (by kernel_rfl) (by kernel_rfl) Z (zm Z) Z ?_
  refine zW (by kernel_rfl) ?_
  repeat (refine zI ?_)
  clear q0 q1 cl cW gB gA
  generalize p.whole i = W at *
  generalize p.fac i = fc at *
  have q2 := tb_fac (G := G) (F := (some ⟨100, nsC fs⟩)) (L := N + 1) (w := p.C.length + p.B.length) (k := i) (X := X) (d := 1) (β := β) (T := [none, some ⟨102, zC W⟩])
  have hol2 : (nsC fs).len = i := hfl
  repeat (first | refine zG (zK rfl) ?_ | refine z7 ?_ | refine zg rfl ?_ | refine zf rfl rfl rfl rfl rfl rfl rfl rfl rfl rfl rfl ?_)
  refine zo Z Z Z Z Z Z Z q2 Z hol2 Z Z (by show 0 + 1 ≤ 1; omega) Z (by show (i + 1) * 24 ≤ _ ∧ _; omega) ?_ (by rw [hfix]; exact fun h => h) ?_
  ·intro i' j' hi' hj'
   exact zAH 0 1 (fun n : Nat => [zh n]) zPB fs fc _ (rowN1 fc) _ i' j' hi' hj'
  refine zBl ((69, .sl (G.length + 1) 0 (i + 1)) :: [(1, .ptr 0 0 0), (2, .ptr G.length 0 0), (5, iN p.C.length), (6, iN p.B.length), (7, .sl 1 0 nd.length), (46, .ro (zY p.A) 0 p.A.length), (47, iN p.A.length), (48, iN i), (10, iN i), (12, .sl (G.length + 4 + i + 1) 0 (p.C.length + 1)), (13, zh fc)]) ⟨Z, zAq (h := G.length + 1) (L := [(1, .ptr 0 0 0), (2, .ptr G.length 0 0), (5, iN p.C.length), (6, iN p.B.length), (7, .sl 1 0 nd.length), (46, .ro (zY p.A) 0 p.A.length), (47, iN p.A.length), (48, iN i), (10, iN i), (12, .sl (G.length + 4 + i + 1) 0 (p.C.length + 1)), (13, zh fc)]) ⟨Z, Z, Z, Z, Z, Z, Z, Z, Z, Z, Z, trivial⟩ (by
   intro q hq
   simp only [List.mem_cons, List.mem_nil_iff, or_false] at hq
   rcases hq with rfl | rfl | rfl | rfl | rfl | rfl | rfl | rfl | rfl | rfl | rfl <;> simp [AV.forget, zh, zr (show 0 ≠ G.length + 1 by omega), zr (show 1 ≠ G.length + 1 by omega), zr (show G.length ≠ G.length + 1 by omega), zr (show G.length + 4 + i + 1 ≠ G.length + 1 by omega)])⟩ ?_
  refine zu (zc G (some ⟨100, nsC fs2⟩) (N + 1) (p.C.length + p.B.length) i X 1 β [none, some ⟨102, zC W⟩]) (by
   rw [hf1]
   exact zK4 (hFG _) (zAQ 0 1 (fun n : Nat => [zh n]) fs fc _ (rowN1 fc)) (by show zP [none, some (⟨_, (zC W).forget _⟩ : AObj)] _; rw [zBO]; exact zP.refl _)) ?_
  clear hf1 hol2 q2
  have hfs2' := hfs2
  clear hfs2
  have hlen2 : ∀ T, (zc G (some ⟨100, nsC fs2⟩) (N + 1) (p.C.length + p.B.length) i X 1 β T).length = G.length + 4 + i + T.length := fun T => by rw [zBC, hXl]
  repeat (first | refine zG (zK rfl) ?_ | refine zG (zm rfl) ?_ | refine zR ?_ | refine zI ?_ | refine z7 ?_ | refine zg rfl ?_ | refine zG (zBy rfl rfl rfl) ?_ | refine zG (zCF rfl rfl (by omega)) ?_)
  refine zD 76 (.int .i64 ((N + 1 : Nat))) Z (AEq.of_eq (by show AV.int _ _ = AV.int _ _; congr 1; omega)) ?_
  refine zCz Z Z Z Z Z Z Z Z (by show (0 : Int) ≤ _ ∧ _ ≤ _ ∧ (32 : Int) * _ ≤ _ ∧ _; omega) ?_
  refine zGG (zc G (some ⟨100, nsC fs2⟩) (N + 1) (p.C.length + p.B.length) i X 1 β [none, some ⟨102, zC W⟩] ++ [some ⟨102, zC (List.replicate (N + 1) 0)⟩]) (by simp only [List.length_append, List.length_cons, List.length_nil]) zIH ?_
  refine zO (zc G (some ⟨100, nsC fs2⟩) (N + 1) (p.C.length + p.B.length) i X 1 β [none, some ⟨102, zC W⟩, some ⟨102, zC (List.replicate (N + 1) 0)⟩]) (by rw [zAZ]; rfl) ?_
  refine zD 77 (.sl (G.length + 4 + i + 2) 0 (N + 1)) Z (AEq.of_eq (by rw [hlen2]; rfl)) ?_
  repeat (first | refine zG (zm rfl) ?_ | refine zR ?_ | refine zI ?_ | refine z7 ?_)
  apply zAK (H := zc G (some ⟨100, nsC fs2⟩) (N + 1) (p.C.length + p.B.length) i X 1 β [none, some ⟨102, zC W⟩, some ⟨102, zC (zEM p.C.length N W)⟩]) [(1, .ptr 0 0 0), (2, .ptr G.length 0 0), (3, .sl (G.length + 1) 0 (i + 1)), (5, iN p.C.length), (6, iN p.B.length), (7, .sl 1 0 nd.length), (46, .ro (zY p.A) 0 p.A.length), (47, iN p.A.length), (48, iN i), (10, iN i), (12, .sl (G.length + 4 + i + 1) 0 (p.C.length + 1)), (14, .sl (G.length + 4 + i + 2) 0 (N + 1))]
  ·intro fin
   have q3 := zAa (G := G) (F := (some ⟨100, nsC fs2⟩)) (L := N + 1) (w := p.C.length + p.B.length) (k := i) (X := X) (d := 1) (β := β) (T := [none, some ⟨102, zC W⟩, some ⟨102, zC (List.replicate (N + 1) 0)⟩]) 1
   have q4 := zAa (G := G) (F := (some ⟨100, nsC fs2⟩)) (L := N + 1) (w := p.C.length + p.B.length) (k := i) (X := X) (d := 1) (β := β) (T := [none, some ⟨102, zC W⟩, some ⟨102, zC (List.replicate (N + 1) 0)⟩]) 2
   rw [hXl] at q3 q4
   repeat (first | refine zG (zK rfl) ?_ | refine zg rfl ?_)
   refine zG (zFV Z Z q3 Z Z Z Z Z ⟨Z, by omega, by omega⟩) ?_
   by_cases hn0 : p.C.length = 0
   ·rw [show zEM p.C.length N W = List.replicate (N + 1) 0 by rw [hn0]; exact zPF] at fin
    refine zD 81 (.sl (G.length + 4 + i + 1) 0 0) Z (AEq.of_eq (by show AV.sl _ 0 p.C.length = _; rw [hn0])) ?_
    refine ax_copy0 Z Z Z Z ?_
    repeat (first | refine zR ?_ | refine zI ?_)
    exact fin _ ⟨Z, Z, Z, Z, Z, Z, Z, Z, Z, Z, Z, Z, trivial⟩
   ·refine zD 81 (.sl (G.length + 4 + i + 1) 0 p.C.length) Z (AEq.of_eq Z) ?_
    refine ax_copy (c' := zC (zEM p.C.length N W)) (q := p.C.length) Z Z Z Z q4 Z (zIu q3) (by show 0 + (N + 1) ≤ (List.replicate (N + 1) (0 : Int)).length; simp) (by omega) (by show 0 + p.C.length ≤ W.length; omega) (by omega) (Nat.min_eq_left (by omega)) Z Z (by show (zEM _ _ _).length = (List.replicate (N + 1) (0 : Int)).length; simp [zEM]) (fun i' j' hi' hj' => ?_) ?_
    ·have hi2 : i' < N + 1 := by have hi' : i' < (List.replicate (N + 1) (0 : Int)).length := hi'; simpa using hi'
     show (zj ((zEM p.C.length N W).getD i' 0)).getD j' .any = if 0 ≤ i' ∧ i' < 0 + p.C.length then (zj (W.getD (0 + (i' - 0)) 0)).getD j' .any else (zj ((List.replicate (N + 1) (0 : Int)).getD i' 0)).getD j' .any
     rw [show (zEM p.C.length N W).getD i' 0 = (if i' < p.C.length then W.getD i' 0 else 0) from zBA hi2, show (List.replicate (N + 1) (0 : Int)).getD i' 0 = 0 by simp [List.getD, hi2]]
     by_cases hh : i' < p.C.length
     ·rw [if_pos hh, if_pos ⟨Nat.zero_le _, by omega⟩, Nat.zero_add, Nat.sub_zero]
     ·rw [if_neg hh, if_neg (fun q => hh (by omega))]
    refine zO (zc G (some ⟨100, nsC fs2⟩) (N + 1) (p.C.length + p.B.length) i X 1 β [none, some ⟨102, zC W⟩, some ⟨102, zC (zEM p.C.length N W)⟩]) (by have q := zAI (G := G) (F := (some ⟨100, nsC fs2⟩)) (L := N + 1) (w := p.C.length + p.B.length) (k := i) (X := X) (d := 1) (β := β) (T := [none, some ⟨102, zC W⟩, some ⟨102, zC (List.replicate (N + 1) 0)⟩]) 2 (some ⟨102, zC (zEM p.C.length N W)⟩); rw [hXl] at q; exact q) ?_
    repeat (first | refine zR ?_ | refine zI ?_)
    exact fin _ ⟨Z, Z, Z, Z, Z, Z, Z, Z, Z, Z, Z, Z, trivial⟩
  have hO1 := zHX p.C.length N W
  have hOb : ((zEM p.C.length N W).set (p.C.length + i) 1).set N (W.getD p.C.length 0) = zEY p.C.length p.B.length nd.length W i := by rw [hN]; exact out_base hi'
  have hbl := zDV p.C.length p.B.length nd.length W i
  have hnb := neg_base (n := p.C.length) (m := p.B.length) (a := nd.length) (i := i) (W := W)
  have hrn := fun hk => row_neg (n := p.C.length) (m := p.B.length) (a := nd.length) (i := i) (k := zBe p.B i) (W := W) hk
  have hrp := row_pos (n := p.C.length) (m := p.B.length) (a := nd.length) (i := i) (k := zBe p.B i) (W := W)
  rw [← hN] at hbl hnb
  generalize zEM p.C.length N W = O at *
  have q3 := zAa (G := G) (F := (some ⟨100, nsC fs2⟩)) (L := N + 1) (w := p.C.length + p.B.length) (k := i) (X := X) (d := 1) (β := β) (T := [none, some ⟨102, zC W⟩, some ⟨102, zC O⟩]) 1
  have q4 := zAa (G := G) (F := (some ⟨100, nsC fs2⟩)) (L := N + 1) (w := p.C.length + p.B.length) (k := i) (X := X) (d := 1) (β := β) (T := [none, some ⟨102, zC W⟩, some ⟨102, zC O⟩]) 2
  rw [hXl] at q3 q4
  have g1 : p.C.length + i < (zC O).len := by show _ < O.length; omega
  repeat (first | refine zG (zK rfl) ?_ | refine z7 ?_ | refine zg rfl ?_ | refine zG (zCF rfl rfl (by omega)) ?_)
  refine zD 86 (.int .i64 ((p.C.length + i : Nat))) Z (AEq.of_eq (by show AV.int _ _ = AV.int _ _; congr 1)) ?_
  refine zB Z Z Z cw ?_
  repeat (refine zG (qis rfl rfl rfl) ?_)
  refine zz (c' := zC (O.set (p.C.length + i) 1)) Z Z Z q4 Z g1 (List.length_set ..) Z (zDL O (p.C.length + i) _) ?_
  refine zO (zc G (some ⟨100, nsC fs2⟩) (N + 1) (p.C.length + p.B.length) i X 1 β [none, some ⟨102, zC W⟩, some ⟨102, zC (O.set (p.C.length + i) 1)⟩]) (by have q := zAI (G := G) (F := (some ⟨100, nsC fs2⟩)) (L := N + 1) (w := p.C.length + p.B.length) (k := i) (X := X) (d := 1) (β := β) (T := [none, some ⟨102, zC W⟩, some ⟨102, zC O⟩]) 2 (some ⟨102, zC (O.set (p.C.length + i) 1)⟩); rw [hXl] at q; exact q) ?_
  clear q3 q4 g1
  have hO2 : (O.set (p.C.length + i) 1).length = N + 1 := by rw [List.length_set]; exact hO1
  generalize O.set (p.C.length + i) 1 = O2 at *
  have q3 := zAa (G := G) (F := (some ⟨100, nsC fs2⟩)) (L := N + 1) (w := p.C.length + p.B.length) (k := i) (X := X) (d := 1) (β := β) (T := [none, some ⟨102, zC W⟩, some ⟨102, zC O2⟩]) 1
  have q4 := zAa (G := G) (F := (some ⟨100, nsC fs2⟩)) (L := N + 1) (w := p.C.length + p.B.length) (k := i) (X := X) (d := 1) (β := β) (T := [none, some ⟨102, zC W⟩, some ⟨102, zC O2⟩]) 2
  rw [hXl] at q3 q4
  have g1 : N < (zC O2).len := by show _ < O2.length; omega
  have g2 : p.C.length < (zC W).len := by show _ < W.length; omega
  repeat (first | refine zG (zK rfl) ?_ | refine zR ?_ | refine zI ?_ | refine z7 ?_ | refine zg rfl ?_ | refine zG (zBy rfl rfl rfl) ?_ | refine zG (zFD rfl rfl (by omega)) ?_)
  refine zD 92 (iN N) Z (AEq.of_eq (by show AV.int _ (((N + 1 : Nat) : Int) - 1) = AV.int _ _; congr 1; omega)) ?_
  repeat (first | refine zG (qis rfl rfl rfl) ?_ | refine zG (qas rfl rfl rfl rfl) ?_)
  refine zD 96 (.agg (zj (W.getD p.C.length 0))) Z (AEq.of_eq Z) ?_
  refine zz (c' := zC (O2.set N (W.getD p.C.length 0))) Z Z Z q4 Z g1 (List.length_set ..) Z (zDL O2 N _) ?_
  refine zO (zc G (some ⟨100, nsC fs2⟩) (N + 1) (p.C.length + p.B.length) i X 1 β [none, some ⟨102, zC W⟩, some ⟨102, zC (zEY p.C.length p.B.length nd.length W i)⟩]) (by have q := zAI (G := G) (F := (some ⟨100, nsC fs2⟩)) (L := N + 1) (w := p.C.length + p.B.length) (k := i) (X := X) (d := 1) (β := β) (T := [none, some ⟨102, zC W⟩, some ⟨102, zC O2⟩]) 2 (some ⟨102, zC (O2.set N (W.getD p.C.length 0))⟩); rw [hXl, hOb] at q; rw [hOb]; exact q) ?_
  clear q3 q4 g1 g2 hOb
  generalize zEY p.C.length p.B.length nd.length W i = Bs at *
  have f1 := zA2 (G := G) (F := (some ⟨100, nsC fs2⟩)) (L := N + 1) (w := p.C.length + p.B.length) (k := i) (X := X) (d := 1) (β := β) (T := [none, some ⟨102, zC W⟩, some ⟨102, zC Bs⟩])
  repeat (first | refine zG (zK rfl) ?_ | refine zR ?_ | refine zI ?_ | refine z7 ?_ | refine zg rfl ?_ | refine zG (zCF rfl rfl (by omega)) ?_ | refine zG (zd rfl) ?_ | refine zG (zH rfl rfl rfl rfl rfl rfl) ?_ | refine zG (zAB rfl rfl rfl (by assumption) (by rfl)) ?_)
  refine zD 105 (.int .i64 ((p.C.length + i : Nat))) Z (AEq.of_eq (by show AV.int _ _ = AV.int _ _; congr 1)) ?_
  have q5 := zFn (G := G) (F := (some ⟨100, nsC fs2⟩)) (L := N + 1) (w := p.C.length + p.B.length) (k := i) (X := X) (d := 1) (β := β) (T := [none, some ⟨102, zC W⟩, some ⟨102, zC Bs⟩])
  have hol5 : (zB0 β).len = β.length := List.length_map ..
  repeat (refine zf rfl rfl rfl rfl rfl rfl rfl rfl rfl rfl rfl ?_)
  refine zo Z Z Z Z Z Z Z q5 Z hol5 Z Z (by show 0 + 1 ≤ 1; omega) Z (by show (β.length + 1) * 8 ≤ _ ∧ _; omega) (fun _ _ _ _ => rfl) (by rw [hfix]; exact fun h => h) ?_
  refine zBl ((107, .sl (G.length + 2) 0 (β.length + 1)) :: (98, .ptr G.length 0 0) :: [(1, .ptr 0 0 0), (2, .ptr G.length 0 0), (3, .sl (G.length + 1) 0 (i + 1)), (5, iN p.C.length), (6, iN p.B.length), (7, .sl 1 0 nd.length), (46, .ro (zY p.A) 0 p.A.length), (47, iN p.A.length), (48, iN i), (10, iN i), (14, .sl (G.length + 4 + i + 2) 0 (N + 1))]) ⟨Z, zAq (h := G.length + 2) (L := (98, .ptr G.length 0 0) :: [(1, .ptr 0 0 0), (2, .ptr G.length 0 0), (3, .sl (G.length + 1) 0 (i + 1)), (5, iN p.C.length), (6, iN p.B.length), (7, .sl 1 0 nd.length), (46, .ro (zY p.A) 0 p.A.length), (47, iN p.A.length), (48, iN i), (10, iN i), (14, .sl (G.length + 4 + i + 2) 0 (N + 1))]) ⟨Z, Z, Z, Z, Z, Z, Z, Z, Z, Z, Z, Z, trivial⟩ (by
   intro q hq
   simp only [List.mem_cons, List.mem_nil_iff, or_false] at hq
   rcases hq with rfl | rfl | rfl | rfl | rfl | rfl | rfl | rfl | rfl | rfl | rfl | rfl <;> simp [AV.forget, zr (show 0 ≠ G.length + 2 by omega), zr (show 1 ≠ G.length + 2 by omega), zr (show G.length ≠ G.length + 2 by omega), zr (show G.length + 1 ≠ G.length + 2 by omega), zr (show G.length + 4 + i + 2 ≠ G.length + 2 by omega)])⟩ ?_
  refine zu (zK1 G (some ⟨100, nsC fs2⟩) (N + 1) (p.C.length + p.B.length) i X 1 (β ++ [p.C.length + i]) [none, some ⟨102, zC W⟩, some ⟨102, zC Bs⟩]) (zK3 (hFG _) (hFf _ _) (zLu β (p.C.length + i)) (by show zP [none, some (⟨_, (zC W).forget _⟩ : AObj), some (⟨_, (zC Bs).forget _⟩ : AObj)] _; rw [zBO, zBO]; exact zP.refl _)) ?_
  refine zD 107 (.sl (G.length + 2) 0 (β ++ [p.C.length + i]).length) Z (AEq.of_eq (by rw [List.length_append]; rfl)) ?_
  repeat (first | refine zG (zd rfl) ?_ | refine zG (zH rfl rfl rfl rfl rfl rfl) ?_)
  refine zBg Z Z Z Z bas_box Z Z Nat.zero_lt_one ?_
  refine zO (zc G (some ⟨100, nsC fs2⟩) (N + 1) (p.C.length + p.B.length) i X 1 (β ++ [p.C.length + i]) [none, some ⟨102, zC W⟩, some ⟨102, zC Bs⟩]) bas_set ?_
  clear f1 q5 hol5
  have ci := indexI (nd.map (fun a : Nat => (a : Int))) (i : Nat) (by rw [List.length_map]; omega)
  have hid := need_idx p.B hi'
  rw [hnd] at hid
  rw [hid, List.length_map] at ci
  repeat (first | refine zG (zK rfl) ?_ | refine zR ?_ | refine zI ?_ | refine z7 ?_ | refine zg rfl ?_)
  refine zQl [none, some ⟨3, zB0 nd⟩] Z Z Z Z ci (fun h o ho => by
   match h, ho with
   | 1, ho => cases ho; exact hg1 _ _ _ _ _) (fun h o ho => by
   match h, ho with
   | 1, ho => cases ho; exact zAs) ⟨fun o ho => by cases ho; show 0 + nd.length ≤ (nd.map _).length; rw [List.length_map]; omega, trivial, trivial⟩ rfl rfl rfl ?_
  repeat (first | refine zG (zm rfl) ?_ | refine zR ?_ | refine zI ?_)
  clear hid ci hβv hXv
  have hneg : p.neg i = decide ((p.B.getD i 0).num < 0) := rfl
  apply zAK (H := zc G (some ⟨100, nsC fs2⟩) (N + 1) (p.C.length + p.B.length) i X 1 β2 [none, some ⟨102, zC W⟩, some ⟨102, zC (zDJ p.C.length p.B.length nd.length W i (p.neg i) (zBe p.B i))⟩]) [(1, .ptr 0 0 0), (2, .ptr G.length 0 0), (3, .sl (G.length + 1) 0 (i + 1)), (5, iN p.C.length), (6, iN p.B.length), (7, .sl 1 0 nd.length), (46, .ro (zY p.A) 0 p.A.length), (47, iN p.A.length), (48, iN i), (10, iN i), (14, .sl (G.length + 4 + i + 2) 0 (N + 1))]
  ·intro fin
   by_cases hng : (p.B.getD i 0).num < 0
   ·have hka : zBe p.B i < nd.length := by rw [← hnd]; exact zJB hng hi'
    rw [hneg, decide_eq_true hng] at fin
    rw [hneg, decide_eq_true hng, if_pos rfl] at hβ1
    rw [← hrn hka] at fin
    refine z8 15 (iN (zBe p.B i)) Z (AEq.of_eq (by rw [if_pos hng])) ?_
    repeat (first | refine zG (zK rfl) ?_ | refine zR ?_ | refine zI ?_ | refine z7 ?_ | refine zg rfl ?_ | refine zBf rfl ?_ | refine zAA ?_ | refine zG (zJl rfl rfl) ?_ | refine zG (zBy rfl rfl rfl) ?_)
    refine zZ (ι := Nat) (fun j => [(1, .ptr 0 0 0), (2, .ptr G.length 0 0), (3, .sl (G.length + 1) 0 (i + 1)), (5, iN p.C.length), (6, iN p.B.length), (7, .sl 1 0 nd.length), (46, .ro (zY p.A) 0 p.A.length), (47, iN p.A.length), (48, iN i), (10, iN i), (14, .sl (G.length + 4 + i + 2) 0 (N + 1)), (15, iN (zBe p.B i)), (116, .int .i64 ((N + 1 : Nat))), (117, iN j)]) (fun j => zc G (some ⟨100, nsC fs2⟩) (N + 1) (p.C.length + p.B.length) i X 1 (β ++ [p.C.length + i]) [none, some ⟨102, zC W⟩, some ⟨102, zC (chg (fun j => -(Bs.getD j 0)) 0 Bs j)⟩]) (fun j => j ≤ N + 1) (fun j => N + 1 - j) 0 ⟨⟨Z, Z, Z, Z, Z, Z, Z, Z, Z, Z, Z, Z, Z, Z, trivial⟩, by rw [zDB], Nat.zero_le _⟩ ?_
    intro j hj
    repeat (first | refine zR ?_ | refine zI ?_ | refine z7 ?_ | refine zg rfl ?_ | refine zG (zEd rfl rfl) ?_)
    refine zA Z (fun h9 => ?_) (fun h9 => ?_)
    ·have hj' : j < N + 1 := by omega
     have hgj := zC1 (fun j => -(Bs.getD j 0)) 0 Bs (k := j) (i := j) (by omega)
     rw [if_neg (Nat.lt_irrefl j)] at hgj
     have hsj := zDf (fun j => -(Bs.getD j 0)) 0 Bs (k := j) (by omega)
     have hlj := zCp (fun j => -(Bs.getD j 0)) 0 Bs j
     rw [← hgj] at hsj
     generalize chg (fun j => -(Bs.getD j 0)) 0 Bs j = Y at *
     have q4 := zAa (G := G) (F := (some ⟨100, nsC fs2⟩)) (L := N + 1) (w := p.C.length + p.B.length) (k := i) (X := X) (d := 1) (β := (β ++ [p.C.length + i])) (T := [none, some ⟨102, zC W⟩, some ⟨102, zC Y⟩]) 2
     rw [hXl] at q4
     have g1 : j < (zC Y).len := by show j < Y.length; omega
     have co := zGL (Y.getD j 0)
     repeat (first | refine zG (zK rfl) ?_ | refine zG (zm rfl) ?_ | refine zR ?_ | refine zI ?_ | refine z7 ?_ | refine zg rfl ?_ | refine zAA ?_ | refine zA6 ?_ | refine zG (qis rfl rfl rfl) ?_ | refine zG (qas rfl rfl rfl rfl) ?_)
     refine zD 125 (zA1 (Y.getD j 0)) Z (AEq.of_eq Z) ?_
     refine zB Z Z Z co ?_
     repeat (refine zG (qis rfl rfl rfl) ?_)
     refine zz (c' := zC (Y.set j (-(Y.getD j 0)))) Z Z Z q4 Z g1 (List.length_set ..) Z (zDL Y j _) ?_
     refine zO (zc G (some ⟨100, nsC fs2⟩) (N + 1) (p.C.length + p.B.length) i X 1 (β ++ [p.C.length + i]) [none, some ⟨102, zC W⟩, some ⟨102, zC (Y.set j (-(Y.getD j 0)))⟩]) (by have q := zAI (G := G) (F := (some ⟨100, nsC fs2⟩)) (L := N + 1) (w := p.C.length + p.B.length) (k := i) (X := X) (d := 1) (β := (β ++ [p.C.length + i])) (T := [none, some ⟨102, zC W⟩, some ⟨102, zC Y⟩]) 2 (some ⟨102, zC (Y.set j (-(Y.getD j 0)))⟩); rw [hXl] at q; exact q) ?_
     repeat (first | refine zG (zK rfl) ?_ | refine zR ?_ | refine zI ?_ | refine zg rfl ?_ | refine zAP ?_ | refine zG (zCF rfl rfl (by omega)) ?_)
     exact zJ ⟨j + 1, by omega, by omega, ⟨Z, Z, Z, Z, Z, Z, Z, Z, Z, Z, Z, Z, Z, Z, trivial⟩, by rw [← hsj]⟩
    ·have hje : j = N + 1 := by omega
     rw [hje, hnb]
     have hNl : (Bs.map (fun x => -x)).length = N + 1 := by rw [List.length_map]; omega
     have q4 := zAa (G := G) (F := (some ⟨100, nsC fs2⟩)) (L := N + 1) (w := p.C.length + p.B.length) (k := i) (X := X) (d := 1) (β := (β ++ [p.C.length + i])) (T := [none, some ⟨102, zC W⟩, some ⟨102, zC (Bs.map (fun x => -x))⟩]) 2
     rw [hXl] at q4
     have g1 : p.C.length + p.B.length + zBe p.B i < (zC (Bs.map (fun x => -x))).len := by show _ < (Bs.map (fun x => -x)).length; omega
     repeat (first | refine zG (zK rfl) ?_ | refine zR ?_ | refine zI ?_ | refine z7 ?_ | refine zg rfl ?_ | refine zA6 ?_ | refine zDM ?_ | refine zA5 ?_ | refine zA4 ?_ | refine zBP ?_ | refine zG (zCF rfl rfl (by omega)) ?_)
     refine zD 134 (.int .i64 ((p.C.length + p.B.length + zBe p.B i : Nat))) Z (AEq.of_eq (by show AV.int _ _ = AV.int _ _; congr 1)) ?_
     refine zB Z Z Z cw ?_
     repeat (refine zG (qis rfl rfl rfl) ?_)
     refine zz (c' := zC ((Bs.map (fun x => -x)).set (p.C.length + p.B.length + zBe p.B i) 1)) Z Z Z q4 Z g1 (List.length_set ..) Z (zDL (Bs.map (fun x => -x)) (p.C.length + p.B.length + zBe p.B i) _) ?_
     refine zO (zc G (some ⟨100, nsC fs2⟩) (N + 1) (p.C.length + p.B.length) i X 1 (β ++ [p.C.length + i]) [none, some ⟨102, zC W⟩, some ⟨102, zC ((Bs.map (fun x => -x)).set (p.C.length + p.B.length + zBe p.B i) 1)⟩]) (by have q := zAI (G := G) (F := (some ⟨100, nsC fs2⟩)) (L := N + 1) (w := p.C.length + p.B.length) (k := i) (X := X) (d := 1) (β := (β ++ [p.C.length + i])) (T := [none, some ⟨102, zC W⟩, some ⟨102, zC (Bs.map (fun x => -x))⟩]) 2 (some ⟨102, zC ((Bs.map (fun x => -x)).set (p.C.length + p.B.length + zBe p.B i) 1)⟩); rw [hXl] at q; exact q) ?_
     have f1 := zA2 (G := G) (F := (some ⟨100, nsC fs2⟩)) (L := N + 1) (w := p.C.length + p.B.length) (k := i) (X := X) (d := 1) (β := (β ++ [p.C.length + i])) (T := [none, some ⟨102, zC W⟩, some ⟨102, zC ((Bs.map (fun x => -x)).set (p.C.length + p.B.length + zBe p.B i) 1)⟩])
     have q5 := zFn (G := G) (F := (some ⟨100, nsC fs2⟩)) (L := N + 1) (w := p.C.length + p.B.length) (k := i) (X := X) (d := 1) (β := (β ++ [p.C.length + i])) (T := [none, some ⟨102, zC W⟩, some ⟨102, zC ((Bs.map (fun x => -x)).set (p.C.length + p.B.length + zBe p.B i) 1)⟩])
     have g5 : (β ++ [p.C.length + i]).length = i + 1 := by rw [List.length_append, hβl]; rfl
     repeat (first | refine zG (zK rfl) ?_ | refine zR ?_ | refine zI ?_ | refine z7 ?_ | refine zg rfl ?_ | refine zG (zCF rfl rfl (by omega)) ?_ | refine zG (zd rfl) ?_ | refine zG (zH rfl rfl rfl rfl rfl rfl) ?_ | refine zG (qis rfl rfl rfl) ?_ | refine zG (zAB rfl rfl rfl (by assumption) (by rfl)) ?_)
     refine zD 146 (.int .i64 ((p.C.length + p.B.length + zBe p.B i : Nat))) Z (AEq.of_eq (by show AV.int _ _ = AV.int _ _; congr 1)) ?_
     refine zBg Z Z Z Z q5 Z Z (by show i < (List.map _ _).length; rw [List.length_map, List.length_append]; show i < β.length + 1; omega) ?_
     have hset : (β ++ [p.C.length + i]).set i (p.C.length + p.B.length + zBe p.B i) = β2 := by
      rw [hβ1, List.set_append_right _ _ (by omega), hβl, Nat.sub_self]; rfl
     refine zO (zc G (some ⟨100, nsC fs2⟩) (N + 1) (p.C.length + p.B.length) i X 1 β2 [none, some ⟨102, zC W⟩, some ⟨102, zC ((Bs.map (fun x => -x)).set (p.C.length + p.B.length + zBe p.B i) 1)⟩]) (by
      rw [← hset]
      rw [← zK7 (β := β ++ [p.C.length + i]) (List.length_set ..)]
      show _ = List.set _ _ (some (⟨3, .ints .i64 (((β ++ [p.C.length + i]).set i (p.C.length + p.B.length + zBe p.B i)).map (fun a : Nat => (a : Int)))⟩ : AObj))
      rw [List.map_set]) ?_
     repeat (first | refine zR ?_ | refine zI ?_)
     exact fin _ ⟨Z, Z, Z, Z, Z, Z, Z, Z, Z, Z, Z, trivial⟩
   ·rw [hneg, decide_eq_false hng] at fin
    rw [hneg, decide_eq_false hng, if_neg Bool.false_ne_true] at hβ1
    rw [← hrp, hβ1] at fin
    refine z8 15 (.int .i64 (-1)) Z (AEq.of_eq (by rw [if_neg hng])) ?_
    repeat (first | refine zR ?_ | refine zI ?_)
    refine z7 ?_
    refine zg Z ?_
    repeat (first | refine zG (zK rfl) ?_ | refine zR ?_ | refine zI ?_ | refine zAh rfl ?_ | refine zA6 ?_ | refine zG (zJl rfl rfl) ?_)
    exact fin _ ⟨Z, Z, Z, Z, Z, Z, Z, Z, Z, Z, Z, trivial⟩
  clear hneg hβ1 hnb hrn hrp hbl cw hnd
  generalize hRW : (zDJ p.C.length p.B.length nd.length W i (p.neg i) (zBe p.B i)) = R at *
  have q6 := zAa (G := G) (F := (some ⟨100, nsC fs2⟩)) (L := N + 1) (w := p.C.length + p.B.length) (k := i) (X := X) (d := 1) (β := β2) (T := [none, some ⟨102, zC W⟩, some ⟨102, zC R⟩]) 2
  rw [hXl] at q6
  refine zPm (G.length + 4 + i) (G.length + 4 + i + 2) 14 (N + 1) (by omega) (by rw [zBC, hXl]; show G.length + 4 + i < G.length + 4 + i + 3; omega) q6 (by rw [hfix]; exact fun h => h) Z ?_
  refine zPl ((14, .sl (G.length + 4 + i) 0 (N + 1)) :: [(1, .ptr 0 0 0), (2, .ptr G.length 0 0), (3, .sl (G.length + 1) 0 (i + 1)), (5, iN p.C.length), (6, iN p.B.length), (7, .sl 1 0 nd.length), (46, .ro (zY p.A) 0 p.A.length), (47, iN p.A.length), (48, iN i), (10, iN i)]) ⟨Z, zAq (h := G.length + 4 + i) (L := [(1, .ptr 0 0 0), (2, .ptr G.length 0 0), (3, .sl (G.length + 1) 0 (i + 1)), (5, iN p.C.length), (6, iN p.B.length), (7, .sl 1 0 nd.length), (46, .ro (zY p.A) 0 p.A.length), (47, iN p.A.length), (48, iN i), (10, iN i)]) ⟨Z, Z, Z, Z, Z, Z, Z, Z, Z, Z, trivial⟩ (by
   intro q hq
   simp only [List.mem_cons, List.mem_nil_iff, or_false] at hq
   rcases hq with rfl | rfl | rfl | rfl | rfl | rfl | rfl | rfl | rfl | rfl <;> simp [AV.forget, zr (show G.length ≠ G.length + 4 + i by omega), zr (show G.length + 1 ≠ G.length + 4 + i by omega), zr (show 0 ≠ G.length + 4 + i by omega), zr (show 1 ≠ G.length + 4 + i by omega)])⟩ ?_
  refine zBL (zc G (some ⟨100, nsC fs2⟩) (N + 1) (p.C.length + p.B.length) i X 1 β2 [some ⟨102, zC R⟩, some ⟨102, zC W⟩, none]) (by
   have q := zP.set (zP.set (zK6 (G := G) (F := some ⟨100, nsC fs2⟩) (L := N + 1) (w := p.C.length + p.B.length) (k := i) (X := X) (d := 1) (β := β2) (T := [none, some ⟨102, zC W⟩, some ⟨102, zC R⟩]) (T' := [none, some ⟨102, zC W⟩, some ⟨102, zC R⟩]) (G.length + 4 + i) (.inl (by omega)) (hFG _) (hFf _ _) (by show zP [none, some (⟨_, (zC W).forget _⟩ : AObj), some (⟨_, (zC R).forget _⟩ : AObj)] _; rw [zBO, zBO]; exact zP.refl _)) (G.length + 4 + i) (x := some ⟨102, (zC R).forget (G.length + 4 + i)⟩) (x' := some ⟨102, zC R⟩) (fun o ho => by cases ho; exact ⟨_, rfl, rfl, by rw [zBO]; exact CEq.refl _⟩)) (G.length + 4 + i + 2) (x := none) (x' := none) (fun o ho => by cases ho)
   have e1 : (zc G (some ⟨100, nsC fs2⟩) (N + 1) (p.C.length + p.B.length) i X 1 β2 [none, some ⟨102, zC W⟩, some ⟨102, zC R⟩]).set (G.length + 4 + i) (some ⟨102, zC R⟩) = zc G (some ⟨100, nsC fs2⟩) (N + 1) (p.C.length + p.B.length) i X 1 β2 [some ⟨102, zC R⟩, some ⟨102, zC W⟩, some ⟨102, zC R⟩] := by
    have q := zAI (G := G) (F := (some ⟨100, nsC fs2⟩)) (L := N + 1) (w := p.C.length + p.B.length) (k := i) (X := X) (d := 1) (β := β2) (T := [none, some ⟨102, zC W⟩, some ⟨102, zC R⟩]) 0 (some ⟨102, zC R⟩)
    rw [hXl] at q
    exact q
   have e2 := zAI (G := G) (F := (some ⟨100, nsC fs2⟩)) (L := N + 1) (w := p.C.length + p.B.length) (k := i) (X := X) (d := 1) (β := β2) (T := [some ⟨102, zC R⟩, some ⟨102, zC W⟩, some ⟨102, zC R⟩]) 2 none
   rw [hXl] at e2
   rw [e1] at q
   exact (show zP _ _ from e2 ▸ q)) ?_
  refine zA3 (zc G (some ⟨100, nsC fs2⟩) (N + 1) (p.C.length + p.B.length) i X 1 β2 [some ⟨102, zC R⟩]) [some ⟨102, zC W⟩, none] ((14, .sl (G.length + 4 + i) 0 (N + 1)) :: [(1, .ptr 0 0 0), (2, .ptr G.length 0 0), (3, .sl (G.length + 1) 0 (i + 1)), (5, iN p.C.length), (6, iN p.B.length), (7, .sl 1 0 nd.length), (46, .ro (zY p.A) 0 p.A.length), (47, iN p.A.length), (48, iN i), (10, iN i)]) (by rw [zAZ]; rfl) ⟨Z, Z, Z, Z, Z, Z, Z, Z, Z, Z, Z, trivial⟩ (fun h hh => by rw [hfix] at hh; exact hh.elim)
   (zCN hG _ (by rw [zBC]; exact Nat.le_add_right _ _) (fun o ho => by cases ho; exact zNC _ _) (fun o ho => by cases List.mem_singleton.1 ho; exact fun i' j' hi' hj' => zFd _ _ _ hj')) (by rw [zBC, hXl]; simp [zDO, zCB]; omega) ?_
  clear q6
  have f1 := zA2 (G := G) (F := (some ⟨100, nsC fs2⟩)) (L := N + 1) (w := p.C.length + p.B.length) (k := i) (X := X) (d := 1) (β := β2) (T := [some ⟨102, zC R⟩])
  repeat (first | refine zG (zK rfl) ?_ | refine zg rfl ?_ | refine zG (zd rfl) ?_ | refine zG (zH rfl rfl rfl rfl rfl rfl) ?_ | refine zG (zAB rfl rfl rfl (by assumption) (by rfl)) ?_)
  refine zCj Z Z Z Z Z Z Z Z Z Z ?_
  refine zO (zc G (some ⟨100, nsC fs2⟩) (N + 1) (p.C.length + p.B.length) i X 1 β2 [some ⟨102, zC R⟩, some ⟨265, zBt 1 1 [.sl (G.length + 4 + i) 0 (N + 1)]⟩]) (by rw [zAZ]; rfl) ?_
  refine zD 154 (.sl (G.length + 4 + i + 1) 0 1) Z (AEq.of_eq (by rw [zBC, hXl]; rfl)) ?_
  have f2 := zCn (G := G) (F := (some ⟨100, nsC fs2⟩)) (L := N + 1) (w := p.C.length + p.B.length) (k := i) (X := X) (d := 1) (β := β2) (T := [some ⟨102, zC R⟩, some ⟨265, zBt 1 1 [.sl (G.length + 4 + i) 0 (N + 1)]⟩])
  have f3 := zAa (G := G) (F := (some ⟨100, nsC fs2⟩)) (L := N + 1) (w := p.C.length + p.B.length) (k := i) (X := X) (d := 1) (β := β2) (T := [some ⟨102, zC R⟩, some ⟨265, zBt 1 1 [.sl (G.length + 4 + i) 0 (N + 1)]⟩]) 1
  rw [hXl] at f3
  have hol : (zBj G.length X.length (N + 1)).len = i := hXl
  repeat (refine zR ?_)
  refine zo Z Z Z Z Z Z Z f2 Z hol Z (zIu f3) (by show 0 + 1 ≤ 1; omega) Z (by show (i + 1) * 24 ≤ _ ∧ _; omega) ?_ (by rw [hfix]; exact fun h => h) ?_
  ·intro i' j' hi' hj'
   obtain rfl := Nat.lt_one_iff.1 (show j' < 1 from hj')
   have q := (zEw G.length X.length (N + 1) (zBt 1 1 [AV.sl (G.length + 4 + i) 0 (N + 1)]) (by rw [hXl]; rfl)).2.2 i' 0 hi' Nat.zero_lt_one
   refine Eq.trans (congrArg (AV.forget _) q.symm) (Eq.trans ?_ q)
   show AV.forget _ (AV.sl (G.length + 4 + i') 0 (N + 1)) = _
   unfold AV.forget
   rw [zr (show G.length + 4 + i' ≠ G.length + 3 by omega)]; rfl
  refine zBl ((155, .sl (G.length + 3) 0 (i + 1)) :: (148, .ptr G.length 0 0) :: [(1, .ptr 0 0 0), (2, .ptr G.length 0 0), (3, .sl (G.length + 1) 0 (i + 1)), (5, iN p.C.length), (6, iN p.B.length), (7, .sl 1 0 nd.length), (46, .ro (zY p.A) 0 p.A.length), (47, iN p.A.length), (48, iN i), (10, iN i)]) ⟨Z, zAq (h := G.length + 3) (L := (148, .ptr G.length 0 0) :: [(1, .ptr 0 0 0), (2, .ptr G.length 0 0), (3, .sl (G.length + 1) 0 (i + 1)), (5, iN p.C.length), (6, iN p.B.length), (7, .sl 1 0 nd.length), (46, .ro (zY p.A) 0 p.A.length), (47, iN p.A.length), (48, iN i), (10, iN i)]) ⟨Z, Z, Z, Z, Z, Z, Z, Z, Z, Z, Z, trivial⟩ (by
   intro q hq
   simp only [List.mem_cons, List.mem_nil_iff, or_false] at hq
   rcases hq with rfl | rfl | rfl | rfl | rfl | rfl | rfl | rfl | rfl | rfl | rfl <;> simp [AV.forget, zr (show 0 ≠ G.length + 3 by omega), zr (show 1 ≠ G.length + 3 by omega), zr (show G.length ≠ G.length + 3 by omega), zr (show G.length + 1 ≠ G.length + 3 by omega)])⟩ ?_
  refine zu (zJ8 G (some ⟨100, nsC fs2⟩) (N + 1) (p.C.length + p.B.length) (X ++ [R]) 1 β2 [none]) (zPa (hFG _) (hFf _ _) (zEw G.length X.length (N + 1) _ (by rw [hXl]; rfl))) ?_
  repeat (first | refine zG (zd rfl) ?_ | refine zG (zH rfl rfl rfl rfl rfl rfl) ?_)
  refine zBg Z Z Z Z anyF_box Z Z Nat.zero_lt_one ?_
  refine zO (zc G (some ⟨100, nsC fs2⟩) (N + 1) (p.C.length + p.B.length) (i + 1) (X ++ [R]) 1 β2 [none]) anyF_set ?_
  repeat (first | refine zR ?_ | refine zI ?_ | refine zAP ?_)
  have hl1 : (X ++ [R]).length = i + 1 := by rw [List.length_append, hXl]; rfl
  refine zA3 (zc G (some ⟨100, nsC fs2⟩) (N + 1) (p.C.length + p.B.length) (i + 1) (X ++ [R]) 1 β2 []) [none] [(1, .ptr 0 0 0), (2, .ptr G.length 0 0), (3, .sl (G.length + 1) 0 (i + 1)), (5, iN p.C.length), (6, iN p.B.length), (7, .sl 1 0 nd.length), (46, .ro (zY p.A) 0 p.A.length), (47, iN p.A.length), (48, iN i), (10, iN i)] (by rw [zAZ]; rfl) ⟨Z, Z, Z, Z, Z, Z, Z, Z, Z, Z, trivial⟩ (fun h hh => by rw [hfix] at hh; exact hh.elim)
   (zCN hG _ (by rw [zBC]; exact Nat.le_add_right _ _) (fun o ho => by cases ho; exact zNC _ _) (fun o ho => by cases ho)) (by rw [zBC, hl1]; simp [zDO, zCB]; omega) ?_
  repeat (first | refine zG (zK rfl) ?_ | refine zR ?_ | refine zg rfl ?_ | refine zG (zCF rfl rfl (by omega)) ?_)
  exact zJ ⟨i + 1, by omega, by omega, ⟨Z, Z, Z, Z, Z, Z, Z, Z, Z, trivial⟩, by rw [hfs2', hX2, hβ2, hX1]⟩
 have hie : i = p.B.length := by omega
 rw [hie]
 clear hi h hie
 clear i
 have hT1 : (zBB p).take p.B.length = zBB p := List.take_of_length_le (by rw [show (zBB p).length = p.B.length from zCY p]; exact Nat.le_refl _)
 have hB1 : (zBd p).take p.B.length = zBd p := List.take_of_length_le (by rw [show (zBd p).length = p.B.length from zGZ p]; exact Nat.le_refl _)
 rw [hT1, hB1]
 have hfl : ((List.range p.B.length).map p.fac).length = p.B.length := by simp
 generalize (List.range p.B.length).map p.fac = fs at *
 have q2 := tb_fac (G := G) (F := (some ⟨100, nsC fs⟩)) (L := N + 1) (w := p.C.length + p.B.length) (k := p.B.length) (X := (zBB p)) (d := 1) (β := (zBd p)) (T := [])
 repeat (first | refine zI ?_ | refine zDM ?_ | refine zA5 ?_ | refine zA4 ?_ | refine zBP ?_)
 refine zAL (G.length + 1) 3 p.B.length [(2, .ptr G.length 0 0), (7, .sl 1 0 nd.length)] q2 (zPP _) Z (by show _ ≤ fs.length; omega) ⟨Z, Z, trivial⟩ ?_
 refine zBL (zc [none, none] none (N + 1) (p.C.length + p.B.length) p.B.length (zBB p) 1 (zBd p) []) (by
  subst hGG
  exact zP.drop (zP.drop (zP.same (zP.drop (zP.refl _))))) ?_
 repeat (first | refine zG (zK rfl) ?_ | refine zG (zm rfl) ?_ | refine zR ?_ | refine zI ?_ | refine z7 ?_ | refine zg rfl ?_ | refine zBY ?_ | refine zG (zBy rfl rfl rfl) ?_)
 exact zL hR Z ⟨by rw [← hGG]; rfl, Z⟩
end Go.Proofs.YtkncmbklkhjmgaaGreatDoor
namespace Go.Proofs.YtkncmbklkhjmgaaGreatDoor
open Go.Ax Go.Ax.Bg Go.Ax.Rt Go.RowKit Go.Ax.Dt Go.Ax.Sx
attribute [local irreducible] Ax zBn QOp zQ zBX
/-- Numbers that may not be there yet. -/
def zIP : Option Rat → List AV
 | some q => zT q
 | none => [.bool false, .nil, .nil]
abbrev zHh (l : List (Option Rat)) : Cells := rowE none 3 zIP l
theorem zOU (n : Nat) : CEq (zBG n [.bool false, .nil, .nil]) (zHh (List.replicate n none)) := by
 refine ⟨by simp [rowE, Cells.len, zBG], Z, fun i j hi hj => ?_⟩
 have hi : i < n := by simpa [Cells.len, zBG] using hi
 show (zIP ((List.replicate n (none : Option Rat)).getD i none)).getD j .any = _
 rw [zDz none (by simpa using hi), List.getElem_replicate]
 rfl
theorem zQi (l : List Rat) : CEq (zHh (l.map some)) (qsC l) := by
 refine ⟨by simp [rowE, Cells.len], Z, fun i j hi hj => ?_⟩
 have hi : i < l.length := by simpa [rowE, Cells.len] using hi
 show (zT (l.getD i 0)).getD j .any = (zIP ((l.map some).getD i none)).getD j .any
 rw [zCK some l 0 none i hi]
 rfl
theorem zC0 (l : List Rat) (n : Nat) : zAz n (qsC l) := by
 intro i j _ hj
 show zCB n ((zT (l.getD i 0)).getD j .any) = true
 have hj : j < 3 := hj
 match j, hj with
 | 0, _ => rfl
 | 1, _ => rfl
 | 2, _ => rfl
theorem zF8 {α : Type} (d : α) (n : Nat) (e : α → List AV) (zs : List α) (k : Nat) (a : α) (hk : k < zs.length) (i' j' : Nat) (hi' : i' < zs.length) (hj' : j' < n) : (rowE d n e (zs.set k a)).at i' j' = if i' = k then (e a).getD j' .any else (rowE d n e zs).at i' j' := by
 show (e ((zs.set k a).getD i' d)).getD j' .any = if i' = k then (e a).getD j' .any else (e (zs.getD i' d)).getD j' .any
 rw [Go.Ax.Dt.getD_set]
 by_cases h : i' = k
 ·rw [if_pos h, if_pos ⟨h, hk⟩]
 ·rw [if_neg h, if_neg (fun q => h q.1)]
theorem zQU (n : Nat) : chg (fun _ => some (0 : Rat)) none (List.replicate n none) n = (List.replicate n (0 : Rat)).map some := by
 have := zEi (fun _ => some (0 : Rat)) none (List.replicate n none)
 rw [List.length_replicate] at this
 rw [this, List.map_replicate]
 apply List.ext_getElem (by simp)
 intro i h1 h2
 simp
theorem zAr (β : List Nat) (i : Nat) : (β.map (fun a : Nat => (a : Int))).getD i 0 = ((β.getD i 0 : Nat) : Int) := by
 simp only [List.getD, List.getElem?_map]
 cases β[i]? <;> rfl
theorem zGC (G : zN) (hG : OkG G) (N w k : Nat) (X : Tab) (d : Int) (β : List Nat) (T : zN) (hT : ∀ m, G.length + 4 + X.length ≤ m → ∀ o : AObj, some o ∈ T → zAz m o.c) (n0 : Nat) (hn0 : n0 ≤ 1000000) (hkX : k ≤ X.length) (hβ : β.length ≤ k) (hk40 : k ≤ 1000000)
 (hL : ∀ x ∈ X, x.length = N + 1) (hL40 : N + 1 ≤ 1000000) (hd : d ≠ 0) (hX : ∀ i, i < β.length → (zS (at2 X i N).natAbs).length ≤ 1000000) (hdl : (zS d.natAbs).length ≤ 1000000) :
 zQ Tryz.prog 199 [.ptr G.length 0 0, iN n0] (zc G none (N + 1) w k X d β T) (fun h => h < (zc G none (N + 1) w k X d β T).length)
  (fun r' H' => r' = .ro (qsC (zBx n0 β (fun i => Rat.divInt (at2 X i N) d) (List.replicate n0 0) β.length)) 0 n0 ∧ H' = zc G none (N + 1) w k X d β T) := by
 have hlen : ∀ T, (zc G none (N + 1) w k X d β T).length = G.length + 4 + X.length + T.length := fun T => zBC
 refine zE (P := Tryz.prog) (fn := Tryz.f199) Z Z (by kernel_rfl) Z (fun c hR hfix => ?_)
 refine rn0 ?_
 refine zCz Z Z Z Z Z Z Z Z (by show (0 : Int) ≤ _ ∧ _ ≤ _ ∧ (56 : Int) * _ ≤ _ ∧ _; omega) ?_
 refine zu (zc G none (N + 1) w k X d β T ++ [some ⟨104, zHh (List.replicate n0 none)⟩]) (zP.append (zP.refl _) (zP.eqv (zOU _) zP.nil)) ?_
 refine zO (zc G none (N + 1) w k X d β (T ++ [some ⟨104, zHh (chg (fun _ => some (0 : Rat)) none (List.replicate n0 none) 0)⟩])) (by rw [zAZ, zDB]) ?_
 refine zD 10 (.sl (G.length + 4 + X.length + T.length) 0 n0) Z (AEq.of_eq (by rw [hlen]; rfl)) ?_
 refine rn3 ?_
 refine zZ (ι := Nat) (fun i => [(0, .ptr G.length 0 0), (1, iN n0), (5, .sl (G.length + 4 + X.length + T.length) 0 n0), (12, iN n0), (13, iN i)]) (fun i => zc G none (N + 1) w k X d β (T ++ [some ⟨104, zHh (chg (fun _ => some (0 : Rat)) none (List.replicate n0 none) i)⟩]))
  (fun i => i ≤ n0) (fun i => n0 - i) 0 ⟨⟨rfl, rfl, rfl, rfl, rfl, trivial⟩, rfl, Nat.zero_le _⟩ ?_
 intro i hi
 refine rn4 ?_
 refine zA Z (fun h => ?_) (fun h => ?_)
 ·have hi' : i < n0 := by omega
  have hst := zDf (fun _ => some (0 : Rat)) none (List.replicate n0 none) (k := i) (by simpa using hi')
  have hAl : (chg (fun _ => some (0 : Rat)) none (List.replicate n0 none) i).length = n0 := by rw [zCp]; simp
  generalize chg (fun _ => some (0 : Rat)) none (List.replicate n0 none) i = A at *
  have f1 := zGb (G := G) (F := none) (L := N + 1) (w := w) (k := k) (X := X) (d := d) (β := β) (T := T) (some ⟨104, zHh A⟩)
  have hiA : i < (zHh A).len := by show i < A.length; omega
  refine rn1 ?_
  refine zB Z Z Z zHW ?_
  unfold qA
  repeat (refine zG (qis rfl rfl rfl) ?_)
  refine zz (c' := zHh (A.set i (some 0))) Z Z Z f1 Z hiA (List.length_set ..) Z (fun i' j' hi' hj' => zF8 none 3 zIP A i (some 0) hiA i' j' hi' hj') ?_
  refine zO (zc G none (N + 1) w k X d β (T ++ [some ⟨104, zHh (A.set i (some 0))⟩])) (zCv _ _) ?_
  refine rn5 ?_
  exact zJ ⟨i + 1, by omega, by omega, ⟨Z, Z, Z, Z, Z, trivial⟩, by rw [hst]⟩
 have hie : i = n0 := by omega
 rw [hie, zQU]
 clear hi h hie
 clear i
 have f2 := zA2 (G := G) (F := none) (L := N + 1) (w := w) (k := k) (X := X) (d := d) (β := β) (T := T ++ [some ⟨104, qsC (zBx n0 β (fun i => Rat.divInt (at2 X i N) d) (List.replicate n0 0) 0)⟩])
 refine zBL (zc G none (N + 1) w k X d β T ++ [some ⟨104, qsC (List.replicate n0 0)⟩]) (by rw [← zAZ]; exact zP.append (zP.refl _) (zP.eqv (zQi _) zP.nil)) ?_
 refine zAj (zc G none (N + 1) w k X d β (T ++ [some ⟨104, qsC (zBx n0 β (fun i => Rat.divInt (at2 X i N) d) (List.replicate n0 0) 0)⟩])) (by rw [zAZ]; rfl) ?_
 refine rn15 ?_
 refine zZ (ι := Nat) (fun i => [(0, .ptr G.length 0 0), (1, iN n0), (5, .sl (G.length + 4 + X.length + T.length) 0 n0), (24, .sl (G.length + 2) 0 β.length), (25, iN β.length), (26, iN i)]) (fun i => zc G none (N + 1) w k X d β (T ++ [some ⟨104, qsC (zBx n0 β (fun i => Rat.divInt (at2 X i N) d) (List.replicate n0 0) i)⟩]))
  (fun i => i ≤ β.length) (fun i => β.length - i) 0 ⟨⟨rfl, rfl, rfl, rfl, rfl, rfl, trivial⟩, rfl, Nat.zero_le _⟩ ?_
 clear f2
 intro i hi
 have hVl := zDn n0 β (fun i => Rat.divInt (at2 X i N) d) (List.replicate n0 0) i
 rw [List.length_replicate] at hVl
 refine rn4 ?_
 refine zA Z (fun h => ?_) (fun h => ?_)
 ·have hi' : i < β.length := by omega
  have hst : zBx n0 β (fun i => Rat.divInt (at2 X i N) d) (List.replicate n0 0) (i + 1) = if β.getD i 0 < n0 then (zBx n0 β (fun i => Rat.divInt (at2 X i N) d) (List.replicate n0 0) i).set (β.getD i 0) (Rat.divInt (at2 X i N) d) else zBx n0 β (fun i => Rat.divInt (at2 X i N) d) (List.replicate n0 0) i := rfl
  generalize zBx n0 β (fun i => Rat.divInt (at2 X i N) d) (List.replicate n0 0) i = V at *
  have f1 := zA2 (G := G) (F := none) (L := N + 1) (w := w) (k := k) (X := X) (d := d) (β := β) (T := T ++ [some ⟨104, qsC V⟩])
  have f2 := zFn (G := G) (F := none) (L := N + 1) (w := w) (k := k) (X := X) (d := d) (β := β) (T := T ++ [some ⟨104, qsC V⟩])
  have g2 : i < (β.map (fun a : Nat => (a : Int))).length := by rw [List.length_map]; exact hi'
  refine rn7 ?_
  refine zA Z (fun h1 => ?_) (fun h1 => ?_)
  ·rw [zAr] at h1
   have hb : β.getD i 0 < n0 := by omega
   rw [if_pos hb] at hst
   refine z8 8 (iN (β.getD i 0)) Z (AEq.of_eq (by rw [zAr])) ?_
   have lI : (X.getD i []).length = N + 1 := hL _ (zAD [] (by omega))
   have f3 := zCn (G := G) (F := none) (L := N + 1) (w := w) (k := k) (X := X) (d := d) (β := β) (T := T ++ [some ⟨104, qsC V⟩])
   have f4 := zCZ (G := G) (F := none) (L := N + 1) (w := w) (k := k) (X := X) (d := d) (β := β) (T := T ++ [some ⟨104, qsC V⟩]) (a := i) (by omega)
   have f5 := zGb (G := G) (F := none) (L := N + 1) (w := w) (k := k) (X := X) (d := d) (β := β) (T := T) (some ⟨104, qsC V⟩)
   have g3 : i < (zBj G.length X.length (N + 1)).len := by show i < X.length; omega
   have g4 : N < (zC (X.getD i [])).len := by show N < (X.getD i []).length; omega
   have g5 : β.getD i 0 < (qsC V).len := by show _ < V.length; omega
   have hlT := hlen T
   have cq := q_ok G hG (N + 1) w k X d β (T ++ [some ⟨104, qsC V⟩]) (fun o ho => by
    rw [hlen]
    rcases List.mem_append.1 ho with q | q
    ·exact hT _ (by omega) o q
    ·cases List.mem_singleton.1 q; exact zC0 V _) (at2 X i N) hd (hX i hi') hdl
   skip
   refine zi (by kernel_rfl) ?_
   refine zq (fuel := 1) [0, 1, 2, 3, 4, 5, 6, 7, 8, 9, 10, 11, 12, 13, 14, 15, 16, 17, 18, 19, 20, 21, 22] [(0, .ptr G.length 0 0), (1, iN n0), (5, .sl (G.length + 4 + X.length + T.length) 0 n0), (7, iN i), (8, iN (β.getD i 0)), (24, .sl (G.length + 2) 0 β.length), (25, iN β.length), (26, iN i)] ⟨Z, Z, Z, Z, Z, Z, Z, Z, trivial⟩ (by kernel_rfl) (by decide) Z Z ?_
   refine zM Z Z (zK Z) ?_
   refine zM Z Z (zK Z) ?_
   refine zM Z Z (zK Z) ?_
   refine zM Z Z (zK Z) ?_
   refine zM Z Z (zd Z) ?_
   refine zM Z Z (zH Z Z Z Z Z Z) ?_
   refine zM Z Z (zAB Z Z Z (by assumption) (by rfl)) ?_
   refine zM Z Z (zK Z) ?_
   refine zM Z Z (qis Z Z Z) ?_
   refine zM Z Z (zAy Z Z Z (by assumption) Z (by first | assumption | omega)) ?_
   refine zM Z Z (zK Z) ?_
   refine zM Z Z (zd Z) ?_
   refine zM Z Z (zH Z Z Z Z Z Z) ?_
   refine zM Z Z (zAB Z Z Z (by assumption) (by rfl)) ?_
   refine zM Z Z (zK Z) ?_
   refine zM Z Z (qis Z Z Z) ?_
   refine zM Z Z (zAy Z Z Z (by assumption) Z (by first | assumption | omega)) ?_
   refine zM Z Z (zBy Z Z Z) ?_
   refine zM Z Z (zFD Z Z (by omega)) ?_
   refine zM Z Z (zCt (ix := N) Z Z Z f4 Z (by show 0 + (((N + 1 : Nat) : Int) - 1).toNat = N; omega) (by omega)) ?_
   refine zM Z Z (qas Z Z Z Z) ?_
   refine px_c Z Z Z Z Z cq ?_
   refine zM Z Z (qis Z Z Z) ?_
   refine zAC ?_
   unfold qA
   refine zF (is := [23]) (by kernel_rfl) (by simp) Z ⟨fun o ho => ?_, trivial⟩
   all_goals (cases ho)
   refine zz (c' := qsC (V.set (β.getD i 0) (Rat.divInt (at2 X i N) d))) Z Z Z f5 Z g5 (List.length_set ..) Z (fun i' j' hi' hj' => zF8 0 3 zT V (β.getD i 0) _ g5 i' j' hi' hj') ?_
   refine zO (zc G none (N + 1) w k X d β (T ++ [some ⟨104, qsC (V.set (β.getD i 0) (Rat.divInt (at2 X i N) d))⟩])) (zCv _ _) ?_
   refine rn1 ?_
   refine zW (by kernel_rfl) ?_
   refine rn5 ?_
   exact zJ ⟨i + 1, by omega, by omega, ⟨Z, Z, Z, Z, Z, Z, trivial⟩, by rw [hst]⟩
  ·rw [zAr] at h1
   rw [if_neg (by omega)] at hst
   refine rn5 ?_
   exact zJ ⟨i + 1, by omega, by omega, ⟨Z, Z, Z, Z, Z, Z, trivial⟩, by rw [hst]⟩
 have hie : i = β.length := by omega
 subst hie
 refine zBc ?_
 generalize zBx n0 β (fun i => Rat.divInt (at2 X i N) d) (List.replicate n0 0) β.length = V at *
 have f5 := zGb (G := G) (F := none) (L := N + 1) (w := w) (k := k) (X := X) (d := d) (β := β) (T := T) (some ⟨104, qsC V⟩)
 refine zAL (G.length + 4 + X.length + T.length) 5 n0 [] f5 (zAv _) Z (by show n0 ≤ V.length; omega) trivial ?_
 refine zAj (zc G none (N + 1) w k X d β T ++ [none]) (by rw [zCv, zAZ]) ?_
 refine zA3 (zc G none (N + 1) w k X d β T) [none] [(5, .ro (qsC V) 0 n0)] rfl ⟨rfl, trivial⟩ (fun h hh => by rw [hfix] at hh; exact hh) (zCN hG _ (by rw [hlen]; omega) (fun o ho => by cases ho) (hT _ (by rw [hlen]; omega))) rfl ?_
 refine rn0 ?_
 exact zL hR Z ⟨Z, Z⟩
theorem zNQ (G : zN) (hG : OkG G) (hFG : ∀ h, G.length ≤ h → zl h G = G) (n m a N : Nat) (X : Tab) (β : List Nat) (M : Tab) (K E : Nat) (hN : N = n + m + a) (hm : m ≤ 100) (hN40 : N + 1 ≤ 1000000) (hXl : X.length = m) (hβ : β.length = m) (hL : ∀ x ∈ X, x.length = N + 1)
 (hX : ∀ i j, i < m → j < N + 1 → (at2 X i j).natAbs ≤ 10 ^ E) (hE : E ≤ 3500000)
 (hi : Inv m N M ⟨X ++ [zBZ (n + m) a N ⟨X, 1, β⟩ m a], 1, β⟩) (hf : zDe m N ⟨X ++ [zBZ (n + m) a N ⟨X, 1, β⟩ m a], 1, β⟩)
 (hK : zBz m N (n + m) (zAc m N (n + m) ⟨X ++ [zBZ (n + m) a N ⟨X, 1, β⟩ m a], 1, β⟩ K) = none)
 (hB : ∀ t, Inv m N M t → (∀ i j, i < m + 1 → j < N + 1 → (at2 t.rows i j).natAbs ≤ 10 ^ E) ∧ t.den.natAbs ≤ 10 ^ E)
 (hz : ∀ t, Inv m N M t → zDe m N t → ¬ at2 t.rows m N < 0 → ∀ i, i < m → n + m ≤ t.basis.getD i 0 → at2 t.rows i N = 0) :
 zQ Tryz.prog 194 [.ptr G.length 0 0, iN n, iN m, iN a] (zc G none (N + 1) (n + m) m X 1 β []) (fun h => h < (zc G none (N + 1) (n + m) m X 1 β []).length ∧ h ≠ G.length + 3)
  (fun r' H' => (at2 (zAc m N (n + m) ⟨X ++ [zBZ (n + m) a N ⟨X, 1, β⟩ m a], 1, β⟩ K).rows m N < 0 ∧ r' = .tup [.ro (qsC ((List.range m).map (fun i => Rat.divInt (at2 (zAc m N (n + m) ⟨X ++ [zBZ (n + m) a N ⟨X, 1, β⟩ m a], 1, β⟩ K).rows m (n + i)) (zAc m N (n + m) ⟨X ++ [zBZ (n + m) a N ⟨X, 1, β⟩ m a], 1, β⟩ K).den))) 0 m, .bool false] ∧ H' = zc G none (N + 1) (n + m) (m + 1) (zAc m N (n + m) ⟨X ++ [zBZ (n + m) a N ⟨X, 1, β⟩ m a], 1, β⟩ K).rows (zAc m N (n + m) ⟨X ++ [zBZ (n + m) a N ⟨X, 1, β⟩ m a], 1, β⟩ K).den (zAc m N (n + m) ⟨X ++ [zBZ (n + m) a N ⟨X, 1, β⟩ m a], 1, β⟩ K).basis [none]) ∨
   (¬ at2 (zAc m N (n + m) ⟨X ++ [zBZ (n + m) a N ⟨X, 1, β⟩ m a], 1, β⟩ K).rows m N < 0 ∧ r' = .tup [.nil, .bool true] ∧ H' = stH G N (n + m) m (zBS (n + m) (Sx.cutS m (zAc m N (n + m) ⟨X ++ [zBZ (n + m) a N ⟨X, 1, β⟩ m a], 1, β⟩ K)) m))) := by
 refine zE (P := Tryz.prog) (fn := Tryz.f194) Z Z (by kernel_rfl) Z (fun c hR hfix => ?_)
 have hlen : (zc G none (N + 1) (n + m) m X 1 β []).length = G.length + 4 + m := by rw [zBC, hXl]; rfl
 rw [hlen] at hfix
 have hsz : ∀ x : Int, ∀ e, e ≤ 3599990 → x.natAbs ≤ 10 ^ e → (zS x.natAbs).length ≤ 400001 := fun x e he hx => zFR hx (by omega)
 refine rn3 ?_
 refine zD 28 (.int .i64 ((N + 1 : Nat))) Z (AEq.of_eq (by show AV.int _ _ = AV.int _ _; congr 1; omega)) ?_
 refine zD 10 (.int .i64 ((N + 1 : Nat))) Z (AEq.of_eq (by show AV.int _ _ = AV.int _ _; congr 1; omega)) ?_
 refine zCz Z Z Z Z Z Z Z Z (by show (0 : Int) ≤ _ ∧ _ ≤ _ ∧ (32 : Int) * _ ≤ _ ∧ _; omega) ?_
 refine zGG (zc G none (N + 1) (n + m) m X 1 β [] ++ [some ⟨102, zC (List.replicate (N + 1) 0)⟩]) (by simp only [List.length_append, List.length_cons, List.length_nil]) zIH ?_
 refine zO (zc G none (N + 1) (n + m) m X 1 β [some ⟨102, zC (zC6 (n + m) N (⟨X, 1, β⟩ : St) 0)⟩]) (by rw [zAZ, zOg]; rfl) ?_
 refine zD 29 (.sl (G.length + 4 + m) 0 (N + 1)) Z (AEq.of_eq (by rw [hlen]; rfl)) ?_
 have f1 := zA2 (G := G) (F := none) (L := N + 1) (w := n + m) (k := m) (X := X) (d := 1) (β := β) (T := [some ⟨102, zC (zC6 (n + m) N (⟨X, 1, β⟩ : St) 0)⟩])
 rw [hβ] at f1
 refine rn7 ?_
 refine zZ (ι := Nat) (fun i => [(0, .ptr G.length 0 0), (1, iN n), (2, iN m), (3, iN a), (10, .int .i64 ((N + 1 : Nat))), (11, .sl (G.length + 4 + m) 0 (N + 1)), (33, .sl (G.length + 2) 0 m), (34, iN m), (35, iN i)]) (fun i => zc G none (N + 1) (n + m) m X 1 β [some ⟨102, zC (zC6 (n + m) N (⟨X, 1, β⟩ : St) i)⟩]) (fun i => i ≤ m) (fun i => m - i) 0 ⟨⟨Z, Z, Z, Z, Z, Z, Z, Z, Z, trivial⟩, Z, Nat.zero_le _⟩ ?_
 clear f1
 intro i him
 refine rn4 ?_
 refine zA Z (fun h => ?_) (fun h => ?_)
 ·have hi' : i < m := by omega
  have f2 := zFn (G := G) (F := none) (L := N + 1) (w := n + m) (k := m) (X := X) (d := 1) (β := β) (T := [some ⟨102, zC (zC6 (n + m) N (⟨X, 1, β⟩ : St) i)⟩])
  have g2 : i < (β.map (fun a : Nat => (a : Int))).length := by rw [List.length_map, hβ]; exact hi'
  refine rn7 ?_
  refine zA Z (fun h1 => ?_) (fun h1 => ?_)
  ·rw [zAr] at h1
   have hb : n + m ≤ β.getD i 0 := by omega
   have hcl := zHI (n + m) N (⟨X, 1, β⟩ : St) i
   have hcl2 := zHI (n + m) N (⟨X, 1, β⟩ : St) (i + 1)
   have hnx := fun j (hj : j < N + 1) => zOe (w := n + m) (N := N) (s := (⟨X, 1, β⟩ : St)) (i := i) hb hj
   have hab := fun j (hj : j < N + 1) => zQw (w := n + m) (N := N) (E := E) (s := (⟨X, 1, β⟩ : St)) (i := i) (j := j) (by omega) (fun q hq => hX q j (by omega) hj) hj
   have lI : (X.getD i []).length = N + 1 := hL _ (zAD [] (by omega))
   generalize hC2 : (zC6 (n + m) N (⟨X, 1, β⟩ : St) (i + 1)) = C2 at *
   generalize (zC6 (n + m) N (⟨X, 1, β⟩ : St) i) = C1 at *
   have f6 := zA2 (G := G) (F := none) (L := N + 1) (w := n + m) (k := m) (X := X) (d := 1) (β := β) (T := [some ⟨102, zC C1⟩])
   have f7 := zAa (G := G) (F := none) (L := N + 1) (w := n + m) (k := m) (X := X) (d := 1) (β := β) (T := [some ⟨102, zC C1⟩]) 0
   rw [hXl, Nat.add_zero] at f7
   clear f2
   refine rn3 ?_
   refine zZ (ι := Nat) (fun j => [(0, .ptr G.length 0 0), (1, iN n), (2, iN m), (3, iN a), (10, .int .i64 ((N + 1 : Nat))), (11, .sl (G.length + 4 + m) 0 (N + 1)), (33, .sl (G.length + 2) 0 m), (34, iN m), (35, iN i), (12, iN i), (46, .int .i64 ((N + 1 : Nat))), (47, iN j)]) (fun j => zc G none (N + 1) (n + m) m X 1 β [some ⟨102, zC (chg (fun j => C2.getD j 0) 0 C1 j)⟩]) (fun j => j ≤ N + 1) (fun j => N + 1 - j) 0 ⟨⟨Z, Z, Z, Z, Z, Z, Z, Z, Z, Z, Z, Z, trivial⟩, by rw [zDB], Nat.zero_le _⟩ ?_
   intro j hj
   refine rn4 ?_
   refine zA Z (fun h2 => ?_) (fun h2 => ?_)
   ·have hj' : j < N + 1 := by omega
    have hgj := zC1 (fun j => C2.getD j 0) 0 C1 (k := j) (i := j) (by omega)
    rw [if_neg (Nat.lt_irrefl j)] at hgj
    have hsj := zDf (fun j => C2.getD j 0) 0 C1 (k := j) (by omega)
    have hlj := zCp (fun j => C2.getD j 0) 0 C1 j
    rw [hnx j hj', ← hgj] at hsj
    have ab := hab j hj'
    rw [← hgj] at ab
    generalize chg (fun j => C2.getD j 0) 0 C1 j = Y at *
    have q1 := zA2 (G := G) (F := none) (L := N + 1) (w := n + m) (k := m) (X := X) (d := 1) (β := β) (T := [some ⟨102, zC Y⟩])
    have q2 := zCn (G := G) (F := none) (L := N + 1) (w := n + m) (k := m) (X := X) (d := 1) (β := β) (T := [some ⟨102, zC Y⟩])
    have q3 := zCZ (G := G) (F := none) (L := N + 1) (w := n + m) (k := m) (X := X) (d := 1) (β := β) (T := [some ⟨102, zC Y⟩]) (a := i) (by omega)
    have q4 := zAa (G := G) (F := none) (L := N + 1) (w := n + m) (k := m) (X := X) (d := 1) (β := β) (T := [some ⟨102, zC Y⟩]) 0
    rw [hXl, Nat.add_zero] at q4
    have g3 : i < (zBj G.length X.length (N + 1)).len := by show i < X.length; omega
    have g4 : j < (zC (X.getD i [])).len := by show j < (X.getD i []).length; omega
    have g5 : j < (zC Y).len := by show j < Y.length; omega
    have cs := zMf (Y.getD j 0) (at2 X i j) (by have := hsz _ _ (by omega) ab; omega) (by have := hsz _ _ (by omega) (hX i j hi' hj'); omega)
    refine rn1 ?_
    refine zi (by kernel_rfl) ?_
    refine zq (fuel := 1) [0, 1, 2, 3, 4, 5, 6, 7, 8, 9, 10, 11, 12, 13, 14, 15, 16, 17] [(0, .ptr G.length 0 0), (1, iN n), (2, iN m), (3, iN a), (10, .int .i64 ((N + 1 : Nat))), (11, .sl (G.length + 4 + m) 0 (N + 1)), (33, .sl (G.length + 2) 0 m), (34, iN m), (35, iN i), (12, iN i), (46, .int .i64 ((N + 1 : Nat))), (47, iN j), (14, iN j)] ⟨Z, Z, Z, Z, Z, Z, Z, Z, Z, Z, Z, Z, Z, trivial⟩ (by kernel_rfl) (by decide) Z Z ?_
    refine zM Z Z (zK Z) ?_
    refine zM Z Z (zK Z) ?_
    refine zM Z Z (zK Z) ?_
    refine zM Z Z (zK Z) ?_
    refine zM Z Z (qis Z Z Z) ?_
    refine zM Z Z (qas Z Z Z Z) ?_
    refine zM Z Z (zK Z) ?_
    refine zM Z Z (zd Z) ?_
    refine zM Z Z (zH Z Z Z Z Z Z) ?_
    refine zM Z Z (zAB Z Z Z (by assumption) (by rfl)) ?_
    refine zM Z Z (zK Z) ?_
    refine zM Z Z (qis Z Z Z) ?_
    refine zM Z Z (zAy Z Z Z (by assumption) Z (by first | assumption | omega)) ?_
    refine zM Z Z (zK Z) ?_
    refine zM Z Z (qis Z Z Z) ?_
    refine zM Z Z (qas Z Z Z Z) ?_
    refine zA8 Z Z Z Z Z cs ?_
    refine zM Z Z (qis Z Z Z) ?_
    refine zAC ?_
    unfold at2
    refine zF (is := [18]) (by kernel_rfl) (by simp) Z ⟨fun o ho => ?_, trivial⟩
    all_goals (cases ho)
    refine zz (c' := zC (Y.set j (Y.getD j 0 - (X.getD i []).getD j 0))) Z Z Z q4 Z g5 (List.length_set ..) Z (zDL Y j _) ?_
    refine zO (zc G none (N + 1) (n + m) m X 1 β [some ⟨102, zC (Y.set j (Y.getD j 0 - (X.getD i []).getD j 0))⟩]) (by have q := zAI (G := G) (F := none) (L := N + 1) (w := n + m) (k := m) (X := X) (d := 1) (β := β) (T := [some ⟨102, zC Y⟩]) 0 (some ⟨102, zC (Y.set j (Y.getD j 0 - (X.getD i []).getD j 0))⟩); rw [hXl, Nat.add_zero] at q; exact q) ?_
    refine rn1 ?_
    refine zW (by kernel_rfl) ?_
    refine rn5 ?_
    exact zJ ⟨j + 1, by omega, by omega, ⟨Z, Z, Z, Z, Z, Z, Z, Z, Z, Z, Z, Z, trivial⟩, by rw [← hsj]; rfl⟩
   ·have hje : j = N + 1 := by omega
    subst hje
    rw [chg_to hcl hcl2]
    refine rn5 ?_
    exact zJ ⟨i + 1, by omega, by omega, ⟨Z, Z, Z, Z, Z, Z, Z, Z, Z, trivial⟩, by rw [hC2]⟩
  ·rw [zAr] at h1
   have hsk := zOf (w := n + m) (N := N) (s := (⟨X, 1, β⟩ : St)) (i := i) (by show ¬ n + m ≤ β.getD i 0; omega)
   refine rn5 ?_
   exact zJ ⟨i + 1, by omega, by omega, ⟨Z, Z, Z, Z, Z, Z, Z, Z, Z, trivial⟩, by rw [hsk]⟩
 have hie : m = i := by omega
 subst hie
 clear him h
 rw [← zNH (n + m) a N ⟨X, 1, β⟩ m]
 refine rn5 ?_
 refine zZ (ι := Nat) (fun q => [(0, .ptr G.length 0 0), (1, iN n), (2, iN m), (3, iN a), (10, .int .i64 ((N + 1 : Nat))), (11, .sl (G.length + 4 + m) 0 (N + 1)), (70, iN a), (71, iN q)]) (fun q => zc G none (N + 1) (n + m) m X 1 β [some ⟨102, zC (zBZ (n + m) a N (⟨X, 1, β⟩ : St) m q)⟩]) (fun q => q ≤ a) (fun q => a - q) 0 ⟨⟨Z, Z, Z, Z, Z, Z, Z, Z, trivial⟩, Z, Nat.zero_le _⟩ ?_
 intro q hq
 refine rn4 ?_
 refine zA Z (fun h => ?_) (fun h => ?_)
 ·have hq' : q < a := by omega
  have hst := zOd (w := n + m) (a := a) (N := N) (s := (⟨X, 1, β⟩ : St)) (m := m) (k := q) (by omega)
  have hFl := zDy (n + m) a N (⟨X, 1, β⟩ : St) m q
  generalize (zBZ (n + m) a N (⟨X, 1, β⟩ : St) m q) = Y at *
  have q4 := zAa (G := G) (F := none) (L := N + 1) (w := n + m) (k := m) (X := X) (d := 1) (β := β) (T := [some ⟨102, zC Y⟩]) 0
  rw [hXl, Nat.add_zero] at q4
  have g5 : n + m + q < (zC Y).len := by show n + m + q < Y.length; omega
  have cw := zLF 0 (by decide)
  refine rn3 ?_
  refine zD 79 (.int .i64 ((n + m + q : Nat))) Z (AEq.of_eq (by show AV.int _ _ = AV.int _ _; congr 1)) ?_
  refine zB Z Z Z cw ?_
  unfold zA1
  repeat (refine zG (qis rfl rfl rfl) ?_)
  refine zz (c' := zC (Y.set (n + m + q) 0)) Z Z Z q4 Z g5 (List.length_set ..) Z (zDL Y (n + m + q) _) ?_
  refine zO (zc G none (N + 1) (n + m) m X 1 β [some ⟨102, zC (Y.set (n + m + q) 0)⟩]) (by have q := zAI (G := G) (F := none) (L := N + 1) (w := n + m) (k := m) (X := X) (d := 1) (β := β) (T := [some ⟨102, zC Y⟩]) 0 (some ⟨102, zC (Y.set (n + m + q) 0)⟩); rw [hXl, Nat.add_zero] at q; exact q) ?_
  refine rn5 ?_
  exact zJ ⟨q + 1, by omega, by omega, ⟨Z, Z, Z, Z, Z, Z, Z, Z, trivial⟩, by rw [hst]⟩
 have hqe : q = a := by omega
 rw [hqe]
 clear hq h hqe
 clear q
 have hCl := zDy (n + m) a N (⟨X, 1, β⟩ : St) m a
 generalize (zBZ (n + m) a N (⟨X, 1, β⟩ : St) m a) = C at *
 have f1 := zA2 (G := G) (F := none) (L := N + 1) (w := n + m) (k := m) (X := X) (d := 1) (β := β) (T := [some ⟨102, zC C⟩])
 refine rn15 ?_
 refine zCj Z Z Z Z Z Z Z Z Z Z ?_
 refine zO (zc G none (N + 1) (n + m) m X 1 β [some ⟨102, zC C⟩, some ⟨265, zBt 1 1 [.sl (G.length + 4 + m) 0 (N + 1)]⟩]) (by rw [zAZ]; rfl) ?_
 refine zD 89 (.sl (G.length + 4 + m + 1) 0 1) Z (AEq.of_eq (by rw [zBC, hXl]; rfl)) ?_
 have f2 := zCn (G := G) (F := none) (L := N + 1) (w := n + m) (k := m) (X := X) (d := 1) (β := β) (T := [some ⟨102, zC C⟩, some ⟨265, zBt 1 1 [.sl (G.length + 4 + m) 0 (N + 1)]⟩])
 have f3 := zAa (G := G) (F := none) (L := N + 1) (w := n + m) (k := m) (X := X) (d := 1) (β := β) (T := [some ⟨102, zC C⟩, some ⟨265, zBt 1 1 [.sl (G.length + 4 + m) 0 (N + 1)]⟩]) 1
 rw [hXl] at f3
 have hol : (zBj G.length X.length (N + 1)).len = m := hXl
 skip
 refine zo Z Z Z Z Z Z Z f2 Z hol Z (zIu f3) (by show 0 + 1 ≤ 1; omega) Z (by show (m + 1) * 24 ≤ _ ∧ _; omega) ?_ (by rw [hfix]; exact fun q => q.2 Z) ?_
 ·intro i' j' hi' hj'
  obtain rfl := Nat.lt_one_iff.1 (show j' < 1 from hj')
  have q := (zEw G.length X.length (N + 1) (zBt 1 1 [AV.sl (G.length + 4 + m) 0 (N + 1)]) (by rw [hXl]; rfl)).2.2 i' 0 hi' Nat.zero_lt_one
  refine Eq.trans (congrArg (AV.forget _) q.symm) (Eq.trans ?_ q)
  show AV.forget _ (AV.sl (G.length + 4 + i') 0 (N + 1)) = _
  unfold AV.forget
  rw [zr (show G.length + 4 + i' ≠ G.length + 3 by omega)]; rfl
 refine zBl ((90, .sl (G.length + 3) 0 (m + 1)) :: (83, .ptr G.length 0 0) :: [(0, .ptr G.length 0 0), (1, iN n), (2, iN m), (3, iN a), (10, .int .i64 ((N + 1 : Nat)))]) ⟨Z, zAq (h := G.length + 3) (L := (83, .ptr G.length 0 0) :: [(0, .ptr G.length 0 0), (1, iN n), (2, iN m), (3, iN a), (10, .int .i64 ((N + 1 : Nat)))]) ⟨Z, Z, Z, Z, Z, Z, trivial⟩ (by
  intro p hp
  simp only [List.mem_cons, List.mem_nil_iff, or_false] at hp
  rcases hp with rfl | rfl | rfl | rfl | rfl | rfl <;> simp [AV.forget, zr])⟩ ?_
 refine zu (zK0 G (N + 1) (n + m) (X ++ [C]) 1 β [none]) (zMF (hFG _ (by omega)) (zEw G.length X.length (N + 1) _ (by rw [hXl]; rfl))) ?_
 refine rn7 ?_
 refine zBg Z Z Z Z zPg Z Z Nat.zero_lt_one ?_
 refine zO (zc G none (N + 1) (n + m) (m + 1) (X ++ [C]) 1 β [none]) zPi ?_
 refine zBc ?_
 have hl1 : (X ++ [C]).length = m + 1 := by rw [List.length_append, hXl]; rfl
 have hlen1 : ∀ t : St, t.rows.length = m + 1 → (stH G N (n + m) (m + 1) t).length = G.length + 4 + (m + 1) := fun t ht => by rw [zBC, ht]; rfl
 refine zA3 (stH G N (n + m) (m + 1) ⟨X ++ [C], 1, β⟩) [none] [(0, .ptr G.length 0 0), (1, iN n), (2, iN m), (3, iN a), (10, .int .i64 ((N + 1 : Nat)))] (by rw [zAZ]; rfl) ⟨Z, Z, Z, Z, Z, trivial⟩ (fun h hh => by rw [hfix] at hh; rw [hlen1 _ hl1]; exact Nat.lt_of_lt_of_le hh.1 (Nat.add_le_add_left (Nat.le_succ m) _))
  (zCN hG _ (by rw [hlen1 _ hl1, hl1]; exact Nat.le_refl _) (fun o ho => by cases ho) (fun o ho => by cases ho)) (by rw [hlen1 _ hl1]; simp [zDO, zCB]; omega) ?_
 have cr := run_ok G hG m N (n + m) M ⟨X ++ [C], 1, β⟩ hi hf (by omega) K hK E (by omega) hN40 hB (by omega)
 obtain ⟨hti, htf⟩ := zEt hi hf (w := n + m) (by omega) K
 obtain ⟨hb1, hb2⟩ := hB _ hti
 have hzt := hz _ hti htf
 refine rn0 ?_
 refine zCc Z Z Z cr (fun _ h => h) (fun _ h => h) ?_
 rintro r' H' ⟨rfl, rfl⟩
 clear cr hK hi hf hz f1 f2 f3 hol
 generalize zAc m N (n + m) ⟨X ++ [C], 1, β⟩ K = t at *
 have hn := hti.n
 have htb := hti.b
 have hrow := hti.row
 have hd : t.den ≠ 0 := by have := hti.dp; omega
 have lm : (t.rows.getD m []).length = N + 1 := hrow _ (zAD [] (by omega))
 have f1 := zA2 (G := G) (F := none) (L := N + 1) (w := n + m) (k := (m + 1)) (X := t.rows) (d := t.den) (β := t.basis) (T := [])
 have f2 := zCn (G := G) (F := none) (L := N + 1) (w := n + m) (k := (m + 1)) (X := t.rows) (d := t.den) (β := t.basis) (T := [])
 have f3 := zCZ (G := G) (F := none) (L := N + 1) (w := n + m) (k := (m + 1)) (X := t.rows) (d := t.den) (β := t.basis) (T := []) (a := m) (by omega)
 have g6 : N < (zC (t.rows.getD m [])).len := by show N < (t.rows.getD m []).length; omega
 refine rn0 ?_
 refine zi (by kernel_rfl) ?_
 refine zq (fuel := 0) [0, 1, 2, 3, 4, 5, 6, 7, 8, 9, 10, 11, 12] [(0, .ptr G.length 0 0), (1, iN n), (2, iN m), (3, iN a), (10, .int .i64 ((N + 1 : Nat)))] ⟨Z, Z, Z, Z, Z, trivial⟩ (by kernel_rfl) (by decide) Z Z ?_
 refine zM Z Z (zK Z) ?_
 refine zM Z Z (zd Z) ?_
 refine zM Z Z (zH Z Z Z Z Z Z) ?_
 refine zM Z Z (zAB Z Z Z (by assumption) (by rfl)) ?_
 refine zM Z Z (zK Z) ?_
 refine zM Z Z (zd Z) ?_
 refine zM Z Z (zH Z Z Z Z Z Z) ?_
 refine zM Z Z (zAB Z Z Z (by assumption) (by rfl)) ?_
 refine zM Z Z (zBy Z Z Z) ?_
 refine zM Z Z (zFD Z Z (by omega)) ?_
 refine zM Z Z (qis Z Z Z) ?_
 refine zM Z Z (zAy Z Z Z (by assumption) Z (by first | assumption | omega)) ?_
 refine zM Z Z (zm Z) ?_
 refine zAC ?_
 refine zW (by kernel_rfl) ?_
 repeat (refine zI ?_)
 refine z8 16 (.sl (G.length + 4 + m) 0 (N + 1)) Z (AEq.of_eq (by show AV.sl (G.length + 4 + (((m + 1 : Nat) : Int) - 1).toNat) 0 (N + 1) = _; rw [show (((m + 1 : Nat) : Int) - 1).toNat = m by omega])) ?_
 have cs := zEK (at2 t.rows m N)
 refine rn8 ?_
 refine zD 109 (iN N) Z (AEq.of_eq (by show AV.int _ (((N + 1 : Nat) : Int) - 1) = AV.int _ _; congr 1; omega)) ?_
 refine rn7 ?_
 refine zD 111 (zA1 (at2 t.rows m N)) Z (AEq.of_eq Z) ?_
 refine zB Z Z Z cs ?_
 refine rn4 ?_
 refine zA Z (fun h1 => ?_) (fun h1 => ?_)
 ·rw [zF9] at h1
  have hyl : ∀ i, ((List.range i).map (fun i => Rat.divInt (at2 t.rows m (n + i)) t.den)).length = i := fun i => by simp
  refine rn0 ?_
  refine zAb 17 ⟨104, qsC ((List.range 0).map (fun i => Rat.divInt (at2 t.rows m (n + i)) t.den))⟩ Z Z ?_
  refine zAj (zc G none (N + 1) (n + m) (m + 1) t.rows t.den t.basis [some ⟨104, qsC ((List.range 0).map (fun i => Rat.divInt (at2 t.rows m (n + i)) t.den))⟩]) (by rw [zAZ]; rfl) ?_
  refine z8 17 (.sl (G.length + 4 + (m + 1)) 0 0) Z (AEq.of_eq (by rw [hlen1 _ hn])) ?_
  repeat (refine zAA ?_)
  refine zZ (ι := Nat) (fun i => [(0, .ptr G.length 0 0), (1, iN n), (2, iN m), (3, iN a), (10, .int .i64 ((N + 1 : Nat))), (16, .sl (G.length + 4 + m) 0 (N + 1)), (17, .sl (G.length + 4 + (m + 1)) 0 i), (114, iN m), (115, iN i)]) (fun i => zc G none (N + 1) (n + m) (m + 1) t.rows t.den t.basis [some ⟨104, qsC ((List.range i).map (fun i => Rat.divInt (at2 t.rows m (n + i)) t.den))⟩]) (fun i => i ≤ m) (fun i => m - i) 0 ⟨⟨Z, Z, Z, Z, Z, Z, Z, Z, Z, trivial⟩, Z, Nat.zero_le _⟩ ?_
  intro i him
  refine rn4 ?_
  refine zA Z (fun h => ?_) (fun h => ?_)
  ·have hi' : i < m := by omega
   have hys : (List.range (i + 1)).map (fun i => Rat.divInt (at2 t.rows m (n + i)) t.den) = (List.range i).map (fun i => Rat.divInt (at2 t.rows m (n + i)) t.den) ++ [Rat.divInt (at2 t.rows m (n + i)) t.den] := by rw [List.range_succ, List.map_append]; rfl
   have hyi := hyl i
   generalize (List.range i).map (fun i => Rat.divInt (at2 t.rows m (n + i)) t.den) = Y at *
   have q3 := zCZ (G := G) (F := none) (L := N + 1) (w := n + m) (k := (m + 1)) (X := t.rows) (d := t.den) (β := t.basis) (T := [some ⟨104, qsC Y⟩]) (a := m) (by omega)
   have q4 := zAa (G := G) (F := none) (L := N + 1) (w := n + m) (k := (m + 1)) (X := t.rows) (d := t.den) (β := t.basis) (T := [some ⟨104, qsC Y⟩]) 0
   rw [hn, Nat.add_zero] at q4
   have g7 : n + i < (zC (t.rows.getD m [])).len := by show n + i < (t.rows.getD m []).length; omega
   have cq := q_ok G hG (N + 1) (n + m) (m + 1) t.rows t.den t.basis [some ⟨104, qsC Y⟩] (fun o ho => by cases List.mem_singleton.1 ho; exact zC0 Y _) (at2 t.rows m (n + i)) hd (by have := hsz _ _ (by omega) (hb1 m (n + i) (by omega) (by omega)); omega) (by have := hsz _ _ (by omega) hb2; omega)
   refine rn3 ?_
   refine zD 123 (.int .i64 ((n + i : Nat))) Z (AEq.of_eq (by show AV.int _ _ = AV.int _ _; congr 1)) ?_
   refine rn7 ?_
   refine zD 125 (zA1 (at2 t.rows m (n + i))) Z (AEq.of_eq Z) ?_
   refine zCc Z Z Z cq (fun _ h => h) (fun _ h => h) ?_
   rintro r' H' ⟨rfl, rfl⟩
   unfold qA
   repeat (refine zf rfl rfl rfl rfl rfl rfl rfl rfl rfl rfl rfl ?_)
   refine zo rfl rfl rfl rfl rfl rfl rfl q4 rfl hyi rfl rfl (by show 0 + 1 ≤ 1; omega) rfl (by show (i + 1) * 56 ≤ _ ∧ _; omega) ?_ (by rw [hfix]; intro q; have := q.1; omega) ?_
   ·intro i' j' hi' hj'
    exact zAH 0 3 zT zAf Y _ _ (zCh _) _ i' j' hi' hj'
   refine zBl ((128, .sl (G.length + 4 + (m + 1)) 0 (i + 1)) :: [(0, .ptr G.length 0 0), (1, iN n), (2, iN m), (3, iN a), (10, .int .i64 ((N + 1 : Nat))), (16, .sl (G.length + 4 + m) 0 (N + 1)), (114, iN m), (115, iN i)]) ⟨Z, zAq (h := G.length + 4 + (m + 1)) (L := [(0, .ptr G.length 0 0), (1, iN n), (2, iN m), (3, iN a), (10, .int .i64 ((N + 1 : Nat))), (16, .sl (G.length + 4 + m) 0 (N + 1)), (114, iN m), (115, iN i)]) ⟨Z, Z, Z, Z, Z, Z, Z, Z, trivial⟩ (by
    intro p hp
    simp only [List.mem_cons, List.mem_nil_iff, or_false] at hp
    rcases hp with rfl | rfl | rfl | rfl | rfl | rfl | rfl | rfl <;> simp [AV.forget, zr (show G.length ≠ G.length + 4 + (m + 1) by omega), zr (show G.length + 4 + m ≠ G.length + 4 + (m + 1) by omega)])⟩ ?_
   refine zu (zc G none (N + 1) (n + m) (m + 1) t.rows t.den t.basis [some ⟨104, qsC ((List.range (i + 1)).map (fun i => Rat.divInt (at2 t.rows m (n + i)) t.den))⟩]) (by
    rw [hys]
    have q := zLN (G := G) (L := N + 1) (w := n + m) (k := m + 1) (X := t.rows) (d := t.den) (β := t.basis) (y := some ⟨104, qsC Y⟩) (t := 104) (by rw [hn]; exact hFG _ (by omega)) (zAQ 0 3 zT Y _ _ (zCh (Rat.divInt (at2 t.rows m (n + i)) t.den)))
    rw [hn] at q
    exact q) ?_
   refine rn5 ?_
   exact zJ ⟨i + 1, by omega, by omega, ⟨Z, Z, Z, Z, Z, Z, Z, Z, Z, trivial⟩, Z⟩
  ·have hie : m = i := by omega
   subst hie
   have q4 := zAa (G := G) (F := none) (L := N + 1) (w := n + m) (k := (m + 1)) (X := t.rows) (d := t.den) (β := t.basis) (T := [some ⟨104, qsC ((List.range m).map (fun i => Rat.divInt (at2 t.rows m (n + i)) t.den))⟩]) 0
   rw [hn, Nat.add_zero] at q4
   refine zBc ?_
   refine zAL (G.length + 4 + (m + 1)) 17 m [] q4 (zAv _) Z (by show m ≤ (List.map _ _).length; rw [hyl m]; exact Nat.le_refl _) trivial ?_
   refine rn2 ?_
   refine zL hR Z (.inl ⟨h1, Z, ?_⟩)
   have q := zAI (G := G) (F := none) (L := N + 1) (w := n + m) (k := (m + 1)) (X := t.rows) (d := t.den) (β := t.basis) (T := [some ⟨104, qsC ((List.range m).map (fun i => Rat.divInt (at2 t.rows m (n + i)) t.den))⟩]) 0 none
   rw [hn, Nat.add_zero] at q
   exact q
 ·rw [zF9] at h1
  refine rn1 ?_
  refine zi (by kernel_rfl) ?_
  refine zq (fuel := 3) [0, 1, 2, 3, 4, 5, 6, 7, 8, 9, 10, 11] [(0, .ptr G.length 0 0), (1, iN n), (2, iN m), (3, iN a), (10, .int .i64 ((N + 1 : Nat)))] ⟨Z, Z, Z, Z, Z, trivial⟩ (by kernel_rfl) (by decide) Z Z ?_
  refine zM Z Z (zK Z) ?_
  refine zM Z Z (zK Z) ?_
  refine zM Z Z (zd Z) ?_
  refine zM Z Z (zH Z Z Z Z Z Z) ?_
  refine zM Z Z (zAB Z Z Z (by assumption) (by rfl)) ?_
  refine zM Z Z (zK Z) ?_
  refine zM Z Z (zd Z) ?_
  refine zM Z Z (zH Z Z Z Z Z Z) ?_
  refine zM Z Z (zAB Z Z Z (by assumption) (by rfl)) ?_
  refine zM Z Z (zBy Z Z Z) ?_
  refine zM Z Z (zFD Z Z (by omega)) ?_
  refine zM Z Z (zFV Z Z f2 Z Z Z Z Z ⟨Z, by omega, by omega⟩) ?_
  refine zAC ?_
  refine zV 12 Z (by kernel_rfl) (by kernel_rfl) (by kernel_rfl) Z (zd Z) Z ?_
  refine zV 13 Z (by kernel_rfl) (by kernel_rfl) (by kernel_rfl) Z (zH Z Z Z Z Z Z) Z ?_
  refine zF (is := [14]) (by kernel_rfl) (by simp) Z ⟨fun o ho => ?_, trivial⟩
  all_goals (cases ho)
  refine zD 142 (.sl (G.length + 3) 0 m) Z (AEq.of_eq (by show AV.sl (G.length + 3) 0 (((m + 1 : Nat) : Int) - 1).toNat = _; rw [show (((m + 1 : Nat) : Int) - 1).toNat = m by omega])) ?_
  refine zBg Z Z Z Z f1 Z Z Nat.zero_lt_one ?_
  refine zO (zc G none (N + 1) (n + m) m t.rows t.den t.basis []) (zIB m (n + m) t.den) ?_
  refine rn1 ?_
  refine zW (by kernel_rfl) ?_
  repeat (refine zI ?_)
  have hXm : (t.rows.take m).length = m := by rw [List.length_take, hn]; omega
  have hlenm : ∀ u : St, u.rows.length = m → (stH G N (n + m) m u).length = G.length + 4 + m := fun u hu => by rw [zBC, hu]; rfl
  refine zIM (G.length + 3) (zBj G.length m (N + 1)) zCn ⟨by show m ≤ t.rows.length; omega, Z, fun i j hi hj => rfl⟩ ?_
  refine zAj (zc G none (N + 1) (n + m) m (t.rows.take m) t.den t.basis [some ⟨102, zC (t.rows.getD m [])⟩]) (tb_trunc hn) ?_
  refine zA3 (stH G N (n + m) m (Sx.cutS m t)) [some ⟨102, zC (t.rows.getD m [])⟩] [(0, .ptr G.length 0 0), (1, iN n), (2, iN m), (3, iN a), (10, .int .i64 ((N + 1 : Nat)))] (by rw [zAZ]; rfl) ⟨Z, Z, Z, Z, Z, trivial⟩ (fun h hh => by rw [hfix] at hh; rw [hlenm _ hXm]; exact hh.1)
   (zCN hG _ (by rw [hlenm _ hXm]; show G.length + 4 + (t.rows.take m).length ≤ _; rw [hXm]; exact Nat.le_refl _) (fun o ho => by cases ho) (fun o ho => by cases ho)) (by rw [hlenm _ hXm]; simp [zDO, zCB]; omega) ?_
  clear f1 f2 f3 g6
  have f1 := zA2 (G := G) (F := none) (L := N + 1) (w := n + m) (k := m) (X := (t.rows.take m)) (d := t.den) (β := t.basis) (T := [])
  refine rn7 ?_
  refine z8 148 (.sl (G.length + 2) 0 m) Z (AEq.of_eq (by show AV.sl _ 0 t.basis.length = _; rw [htb])) ?_
  refine z8 149 (iN m) Z (AEq.of_eq (by show AV.int _ ((t.basis.length : Nat) : Int) = _; rw [htb])) ?_
  refine zZ (ι := Nat) (fun i => [(0, .ptr G.length 0 0), (1, iN n), (2, iN m), (3, iN a), (10, .int .i64 ((N + 1 : Nat))), (148, .sl (G.length + 2) 0 m), (149, iN m), (150, iN i)]) (fun i => stH G N (n + m) m (zBS (n + m) (Sx.cutS m t) i)) (fun i => i ≤ m) (fun i => m - i) 0 ⟨⟨Z, Z, Z, Z, Z, Z, Z, Z, trivial⟩, Z, Nat.zero_le _⟩ ?_
  clear f1
  intro i him
  refine rn4 ?_
  refine zA Z (fun h => ?_) (fun h => ?_)
  ·have hi' : i < m := by omega
   have hdc := zHu (w := n + m) (show m ≤ t.rows.length by omega) i him
   obtain ⟨hvi, _, _⟩ := hti.drives htf (hzt h1) (w := n + m) (by omega) i him
   obtain ⟨hb3, hb4⟩ := hB _ hvi
   have hnx : zBS (n + m) (Sx.cutS m t) (i + 1) = zB1 (n + m) (zBS (n + m) (Sx.cutS m t) i) i := rfl
   have hul : (zBS (n + m) (Sx.cutS m t) i).rows.length = m := by rw [hdc]; show ((zBS (n + m) t i).rows.take m).length = m; rw [List.length_take, hvi.n]; omega
   have hub : (zBS (n + m) (Sx.cutS m t) i).basis.length = m := by rw [hdc]; exact hvi.b
   have hur : ∀ x ∈ (zBS (n + m) (Sx.cutS m t) i).rows, x.length = N + 1 := by rw [hdc]; exact fun x hx => hvi.row x (List.mem_of_mem_take hx)
   have hud : (zBS (n + m) (Sx.cutS m t) i).den ≠ 0 := by rw [hdc]; have := hvi.dp; show (zBS (n + m) t i).den ≠ 0; omega
   have hu1 : ∀ q j, q < m → j < N + 1 → (at2 (zBS (n + m) (Sx.cutS m t) i).rows q j).natAbs ≤ 10 ^ E := by rw [hdc]; intro q j hq hj; show (at2 ((zBS (n + m) t i).rows.take m) q j).natAbs ≤ _; rw [zEG hq]; exact hb3 q j (by omega) hj
   have hu2 : (zBS (n + m) (Sx.cutS m t) i).den.natAbs ≤ 10 ^ E := by rw [hdc]; exact hb4
   clear hdc hvi hb3 hb4
   generalize hU : zBS (n + m) (Sx.cutS m t) (i + 1) = u' at *
   generalize zBS (n + m) (Sx.cutS m t) i = u at *
   have f2 := zFn (G := G) (F := none) (L := N + 1) (w := n + m) (k := m) (X := u.rows) (d := u.den) (β := u.basis) (T := [])
   have g2 : i < (u.basis.map (fun a : Nat => (a : Int))).length := by rw [List.length_map, hub]; exact hi'
   refine rn7 ?_
   refine zA Z (fun h2 => ?_) (fun h2 => ?_)
   ·rw [zAr] at h2
    have e : u' = u := by rw [hnx]; unfold zB1; rw [if_pos (by omega)]
    refine rn5 ?_
    exact zJ ⟨i + 1, by omega, by omega, ⟨Z, Z, Z, Z, Z, Z, Z, Z, trivial⟩, by rw [hU, e]⟩
   ·rw [zAr] at h2
    have e1 : u' = if nzN u.rows i (n + m) 0 = n + m then u else piv u i (nzN u.rows i (n + m) 0) := by rw [hnx]; unfold zB1; rw [if_neg (by omega)]
    clear f2 g2
    apply zAK (H := stH G N (n + m) m u') [(0, .ptr G.length 0 0), (1, iN n), (2, iN m), (3, iN a), (10, .int .i64 ((N + 1 : Nat))), (148, .sl (G.length + 2) 0 m), (149, iN m), (150, iN i)]
    ·intro fin
     refine rn3 ?_
     refine z8 162 (.int .i64 ((n + m : Nat))) Z (AEq.of_eq (by show AV.int _ _ = AV.int _ _; congr 1)) ?_
     refine zZ (ι := Nat) (fun j => [(0, .ptr G.length 0 0), (1, iN n), (2, iN m), (3, iN a), (10, .int .i64 ((N + 1 : Nat))), (148, .sl (G.length + 2) 0 m), (149, iN m), (150, iN i), (19, iN i), (162, .int .i64 ((n + m : Nat))), (163, iN j)]) (fun _ => stH G N (n + m) m u) (fun j => j ≤ n + m ∧ nzN u.rows i (n + m - j) j = nzN u.rows i (n + m) 0) (fun j => n + m - j) 0 ⟨⟨Z, Z, Z, Z, Z, Z, Z, Z, Z, Z, Z, trivial⟩, Z, Nat.zero_le _, Z⟩ ?_
     rintro j ⟨hj, hnz⟩
     refine rn4 ?_
     refine zA Z (fun h3 => ?_) (fun h3 => ?_)
     ·have hj' : j < n + m := by omega
      have lI : (u.rows.getD i []).length = N + 1 := hur _ (zAD [] (by omega))
      have f1 := zA2 (G := G) (F := none) (L := N + 1) (w := n + m) (k := m) (X := u.rows) (d := u.den) (β := u.basis) (T := [])
      have f2 := zCn (G := G) (F := none) (L := N + 1) (w := n + m) (k := m) (X := u.rows) (d := u.den) (β := u.basis) (T := [])
      have f3 := zCZ (G := G) (F := none) (L := N + 1) (w := n + m) (k := m) (X := u.rows) (d := u.den) (β := u.basis) (T := []) (a := i) (by omega)
      have g3 : i < (zBj G.length u.rows.length (N + 1)).len := by show i < u.rows.length; omega
      have g4 : j < (zC (u.rows.getD i [])).len := by show j < (u.rows.getD i []).length; omega
      have cs := zEK (at2 u.rows i j)
      refine rn7 ?_
      refine zD 175 (zA1 (at2 u.rows i j)) Z (AEq.of_eq Z) ?_
      refine zB Z Z Z cs ?_
      refine rn3 ?_
      refine zA Z (fun h4 => ?_) (fun h4 => ?_)
      ·rw [zJR] at h4
       rw [nz_stop h4] at hnz
       rw [← hnz, if_neg (by omega)] at e1
       have cp := zNp G hG (N + 1) (n + m) m u.rows u.den u.basis i j E hul (by omega) hur hN40 (by omega) (by omega) (by omega) hud hu1 hu2 (by omega)
       refine rn0 ?_
       refine zCc Z Z Z cp (fun _ h => h) (fun _ h => h) ?_
       rintro r' H' ⟨rfl, rfl⟩
       rw [e1] at fin
       refine zBc ?_
       exact fin _ ⟨Z, Z, Z, Z, Z, Z, Z, Z, trivial⟩
      ·rw [zJR] at h4
       refine rn5 ?_
       exact zJ ⟨j + 1, ⟨by omega, by rw [← hnz, show n + m - j = (n + m - (j + 1)) + 1 by omega, nz_go h4]⟩, by omega, ⟨Z, Z, Z, Z, Z, Z, Z, Z, Z, Z, Z, trivial⟩, Z⟩
     ·have hje : j = n + m := by omega
      rw [hje, Nat.sub_self] at hnz
      have hnz : n + m = nzN u.rows i (n + m) 0 := hnz
      rw [if_pos hnz.symm] at e1
      rw [e1] at fin
      refine zBc ?_
      exact fin _ ⟨Z, Z, Z, Z, Z, Z, Z, Z, trivial⟩
    ·refine rn3 ?_
     exact zJ ⟨i + 1, by omega, by omega, ⟨Z, Z, Z, Z, Z, Z, Z, Z, trivial⟩, by rw [hU]⟩
  ·have hie : m = i := by omega
   subst hie
   refine rn5 ?_
   exact zL hR Z (.inr ⟨h1, Z, Z⟩)
theorem zG7 (n c : Nat) : (zFL n c).length = n := by
 unfold zFL
 split
 ·simp
 ·simp
theorem ray_ok (G : zN) (hG : OkG G) (N w k : Nat) (X : Tab) (d : Int) (β : List Nat) (T : zN) (hT : ∀ m, G.length + 4 + X.length ≤ m → ∀ o : AObj, some o ∈ T → zAz m o.c) (n0 cc : Nat) (hn0 : n0 ≤ 1000000) (hc : cc < N + 1) (hkX : k ≤ X.length) (hβ : β.length ≤ k) (hk40 : k ≤ 1000000)
 (hL : ∀ x ∈ X, x.length = N + 1) (hL40 : N + 1 ≤ 1000000) (hd : d ≠ 0) (hX : ∀ i, i < β.length → (zS (at2 X i cc).natAbs).length ≤ 1000000) (hdl : (zS d.natAbs).length ≤ 1000000) :
 zQ Tryz.prog 200 [.ptr G.length 0 0, iN n0, iN cc] (zc G none (N + 1) w k X d β T) (fun h => h < (zc G none (N + 1) w k X d β T).length)
  (fun r' H' => r' = .ro (qsC (zBx n0 β (fun i => Rat.divInt (-(at2 X i cc)) d) (zFL n0 cc) β.length)) 0 n0 ∧ H' = zc G none (N + 1) w k X d β T) := by
 have hlen : ∀ T, (zc G none (N + 1) w k X d β T).length = G.length + 4 + X.length + T.length := fun T => zBC
 refine zE (P := Tryz.prog) (fn := Tryz.f200) Z Z (by kernel_rfl) Z (fun c hR hfix => ?_)
 refine rn0 ?_
 refine zCz Z Z Z Z Z Z Z Z (by show (0 : Int) ≤ _ ∧ _ ≤ _ ∧ (56 : Int) * _ ≤ _ ∧ _; omega) ?_
 refine zu (zc G none (N + 1) w k X d β T ++ [some ⟨104, zHh (List.replicate n0 none)⟩]) (zP.append (zP.refl _) (zP.eqv (zOU _) zP.nil)) ?_
 refine zO (zc G none (N + 1) w k X d β (T ++ [some ⟨104, zHh (chg (fun _ => some (0 : Rat)) none (List.replicate n0 none) 0)⟩])) (by rw [zAZ, zDB]) ?_
 refine zD 12 (.sl (G.length + 4 + X.length + T.length) 0 n0) Z (AEq.of_eq (by rw [hlen]; rfl)) ?_
 refine rn3 ?_
 refine zZ (ι := Nat) (fun i => [(0, .ptr G.length 0 0), (1, iN n0), (2, iN cc), (7, .sl (G.length + 4 + X.length + T.length) 0 n0), (14, iN n0), (15, iN i)]) (fun i => zc G none (N + 1) w k X d β (T ++ [some ⟨104, zHh (chg (fun _ => some (0 : Rat)) none (List.replicate n0 none) i)⟩]))
  (fun i => i ≤ n0) (fun i => n0 - i) 0 ⟨⟨rfl, rfl, rfl, rfl, rfl, rfl, trivial⟩, rfl, Nat.zero_le _⟩ ?_
 intro i hi
 refine rn4 ?_
 refine zA Z (fun h => ?_) (fun h => ?_)
 ·have hi' : i < n0 := by omega
  have hst := zDf (fun _ => some (0 : Rat)) none (List.replicate n0 none) (k := i) (by simpa using hi')
  have hAl : (chg (fun _ => some (0 : Rat)) none (List.replicate n0 none) i).length = n0 := by rw [zCp]; simp
  generalize chg (fun _ => some (0 : Rat)) none (List.replicate n0 none) i = A at *
  have f1 := zGb (G := G) (F := none) (L := N + 1) (w := w) (k := k) (X := X) (d := d) (β := β) (T := T) (some ⟨104, zHh A⟩)
  have hiA : i < (zHh A).len := by show i < A.length; omega
  refine rn1 ?_
  refine zB Z Z Z zHW ?_
  unfold qA
  repeat (refine zG (qis rfl rfl rfl) ?_)
  refine zz (c' := zHh (A.set i (some 0))) Z Z Z f1 Z hiA (List.length_set ..) Z (fun i' j' hi' hj' => zF8 none 3 zIP A i (some 0) hiA i' j' hi' hj') ?_
  refine zO (zc G none (N + 1) w k X d β (T ++ [some ⟨104, zHh (A.set i (some 0))⟩])) (zCv _ _) ?_
  refine rn5 ?_
  exact zJ ⟨i + 1, by omega, by omega, ⟨Z, Z, Z, Z, Z, Z, trivial⟩, by rw [hst]⟩
 have hie : i = n0 := by omega
 rw [hie, zQU]
 clear hi h hie
 clear i
 refine zBL (zc G none (N + 1) w k X d β T ++ [some ⟨104, qsC (List.replicate n0 0)⟩]) (by rw [← zAZ]; exact zP.append (zP.refl _) (zP.eqv (zQi _) zP.nil)) ?_
 refine zAj (zc G none (N + 1) w k X d β (T ++ [some ⟨104, qsC (List.replicate n0 0)⟩])) (by rw [zAZ]) ?_
 apply zAK (H := zc G none (N + 1) w k X d β (T ++ [some ⟨104, qsC (zFL n0 cc)⟩])) [(0, .ptr G.length 0 0), (1, iN n0), (2, iN cc), (7, .sl (G.length + 4 + X.length + T.length) 0 n0)]
 ·intro fin
  have f1 := zGb (G := G) (F := none) (L := N + 1) (w := w) (k := k) (X := X) (d := d) (β := β) (T := T) (some ⟨104, qsC (List.replicate n0 0)⟩)
  refine rn5 ?_
  refine zA Z (fun h1 => ?_) (fun h1 => ?_)
  ·have h1' : cc < n0 := by omega
   have hiA : cc < (qsC (List.replicate n0 0)).len := by show cc < (List.replicate n0 (0 : Rat)).length; rw [List.length_replicate]; exact h1'
   rw [show zFL n0 cc = (List.replicate n0 (0 : Rat)).set cc 1 by unfold zFL; rw [if_pos h1']] at fin
   generalize List.replicate n0 (0 : Rat) = A at *
   refine rn0 ?_
   refine zB Z Z Z zCL ?_
   unfold qA
   repeat (refine zG (qis rfl rfl rfl) ?_)
   refine zz (c' := qsC (A.set cc 1)) Z Z Z f1 Z hiA (List.length_set ..) Z (fun i' j' hi' hj' => zF8 0 3 zT A cc 1 hiA i' j' hi' hj') ?_
   refine zO (zc G none (N + 1) w k X d β (T ++ [some ⟨104, qsC (A.set cc 1)⟩])) (zCv _ _) ?_
   refine zBc ?_
   exact fin _ ⟨Z, Z, Z, Z, trivial⟩
  ·have h1' : ¬ cc < n0 := by omega
   rw [show zFL n0 cc = List.replicate n0 (0 : Rat) by unfold zFL; rw [if_neg h1']] at fin
   refine zBc ?_
   exact fin _ ⟨Z, Z, Z, Z, trivial⟩
 have f2 := zA2 (G := G) (F := none) (L := N + 1) (w := w) (k := k) (X := X) (d := d) (β := β) (T := T ++ [some ⟨104, qsC (zBx n0 β (fun i => Rat.divInt (-(at2 X i cc)) d) (zFL n0 cc) 0)⟩])
 refine zAj (zc G none (N + 1) w k X d β (T ++ [some ⟨104, qsC (zBx n0 β (fun i => Rat.divInt (-(at2 X i cc)) d) (zFL n0 cc) 0)⟩])) Z ?_
 refine rn7 ?_
 refine zZ (ι := Nat) (fun i => [(0, .ptr G.length 0 0), (1, iN n0), (2, iN cc), (7, .sl (G.length + 4 + X.length + T.length) 0 n0), (33, .sl (G.length + 2) 0 β.length), (34, iN β.length), (35, iN i)]) (fun i => zc G none (N + 1) w k X d β (T ++ [some ⟨104, qsC (zBx n0 β (fun i => Rat.divInt (-(at2 X i cc)) d) (zFL n0 cc) i)⟩]))
  (fun i => i ≤ β.length) (fun i => β.length - i) 0 ⟨⟨rfl, rfl, rfl, rfl, rfl, rfl, rfl, trivial⟩, rfl, Nat.zero_le _⟩ ?_
 clear f2
 intro i hi
 have hVl := zDn n0 β (fun i => Rat.divInt (-(at2 X i cc)) d) (zFL n0 cc) i
 rw [zG7] at hVl
 refine rn4 ?_
 refine zA Z (fun h => ?_) (fun h => ?_)
 ·have hi' : i < β.length := by omega
  have hst : zBx n0 β (fun i => Rat.divInt (-(at2 X i cc)) d) (zFL n0 cc) (i + 1) = if β.getD i 0 < n0 then (zBx n0 β (fun i => Rat.divInt (-(at2 X i cc)) d) (zFL n0 cc) i).set (β.getD i 0) (Rat.divInt (-(at2 X i cc)) d) else zBx n0 β (fun i => Rat.divInt (-(at2 X i cc)) d) (zFL n0 cc) i := rfl
  generalize zBx n0 β (fun i => Rat.divInt (-(at2 X i cc)) d) (zFL n0 cc) i = V at *
  have f1 := zA2 (G := G) (F := none) (L := N + 1) (w := w) (k := k) (X := X) (d := d) (β := β) (T := T ++ [some ⟨104, qsC V⟩])
  have f2 := zFn (G := G) (F := none) (L := N + 1) (w := w) (k := k) (X := X) (d := d) (β := β) (T := T ++ [some ⟨104, qsC V⟩])
  have g2 : i < (β.map (fun a : Nat => (a : Int))).length := by rw [List.length_map]; exact hi'
  refine rn7 ?_
  refine zA Z (fun h1 => ?_) (fun h1 => ?_)
  ·rw [zAr] at h1
   have hb : β.getD i 0 < n0 := by omega
   rw [if_pos hb] at hst
   refine z8 10 (iN (β.getD i 0)) Z (AEq.of_eq (by rw [zAr])) ?_
   have lI : (X.getD i []).length = N + 1 := hL _ (zAD [] (by omega))
   have f3 := zCn (G := G) (F := none) (L := N + 1) (w := w) (k := k) (X := X) (d := d) (β := β) (T := T ++ [some ⟨104, qsC V⟩])
   have f4 := zCZ (G := G) (F := none) (L := N + 1) (w := w) (k := k) (X := X) (d := d) (β := β) (T := T ++ [some ⟨104, qsC V⟩]) (a := i) (by omega)
   have f5 := zGb (G := G) (F := none) (L := N + 1) (w := w) (k := k) (X := X) (d := d) (β := β) (T := T) (some ⟨104, qsC V⟩)
   have g3 : i < (zBj G.length X.length (N + 1)).len := by show i < X.length; omega
   have g4 : cc < (zC (X.getD i [])).len := by show cc < (X.getD i []).length; omega
   have g5 : β.getD i 0 < (qsC V).len := by show _ < V.length; omega
   have hlT := hlen T
   have cq := q_ok G hG (N + 1) w k X d β (T ++ [some ⟨104, qsC V⟩]) (fun o ho => by
    rw [hlen]
    rcases List.mem_append.1 ho with q | q
    ·exact hT _ (by omega) o q
    ·cases List.mem_singleton.1 q; exact zC0 V _) (-(at2 X i cc)) hd (by rw [Int.natAbs_neg]; exact hX i hi') hdl
   have co := zGL (at2 X i cc)
   refine rn7 ?_
   refine zD 55 (zA1 (at2 X i cc)) Z (AEq.of_eq Z) ?_
   refine zB Z Z Z co ?_
   refine zCc Z Z Z cq (fun _ h => h) (fun _ h => h) ?_
   rintro r' H' ⟨rfl, rfl⟩
   repeat (refine zG (qis rfl rfl rfl) ?_)
   unfold qA
   refine zz (c' := qsC (V.set (β.getD i 0) (Rat.divInt (-(at2 X i cc)) d))) Z Z Z f5 Z g5 (List.length_set ..) Z (fun i' j' hi' hj' => zF8 0 3 zT V (β.getD i 0) _ g5 i' j' hi' hj') ?_
   refine zO (zc G none (N + 1) w k X d β (T ++ [some ⟨104, qsC (V.set (β.getD i 0) (Rat.divInt (-(at2 X i cc)) d))⟩])) (zCv _ _) ?_
   refine rn5 ?_
   exact zJ ⟨i + 1, by omega, by omega, ⟨Z, Z, Z, Z, Z, Z, Z, trivial⟩, by rw [hst]⟩
  ·rw [zAr] at h1
   rw [if_neg (by omega)] at hst
   refine rn5 ?_
   exact zJ ⟨i + 1, by omega, by omega, ⟨Z, Z, Z, Z, Z, Z, Z, trivial⟩, by rw [hst]⟩
 have hie : i = β.length := by omega
 subst hie
 refine zBc ?_
 generalize zBx n0 β (fun i => Rat.divInt (-(at2 X i cc)) d) (zFL n0 cc) β.length = V at *
 have f5 := zGb (G := G) (F := none) (L := N + 1) (w := w) (k := k) (X := X) (d := d) (β := β) (T := T) (some ⟨104, qsC V⟩)
 refine zAL (G.length + 4 + X.length + T.length) 7 n0 [] f5 (zAv _) Z (by show n0 ≤ V.length; omega) trivial ?_
 refine zAj (zc G none (N + 1) w k X d β T ++ [none]) (by rw [zCv, zAZ]) ?_
 refine zA3 (zc G none (N + 1) w k X d β T) [none] [(7, .ro (qsC V) 0 n0)] rfl ⟨rfl, trivial⟩ (fun h hh => by rw [hfix] at hh; exact hh) (zCN hG _ (by rw [hlen]; omega) (fun o ho => by cases ho) (hT _ (by rw [hlen]; omega))) rfl ?_
 refine rn0 ?_
 exact zL hR Z ⟨Z, Z⟩
end Go.Proofs.YtkncmbklkhjmgaaGreatDoor
