import Derived.Test.YtnkealfaldjipaaGreatDoorY6
set_option linter.unusedVariables false
set_option linter.unusedSimpArgs false
namespace Go.Proofs.YtnkealfaldjipaaGreatDoor
open Go.Ax Go.Ax.Bg Go.Ax.Rt Go.RowKit Go.Ax.Dt Go.Ax.Sx
attribute [local irreducible] Ax zBZ QOp zS zBC
set_option maxRecDepth 100000
set_option maxHeartbeats 40000000
theorem rowN1 (n : Nat) (j : Nat) (hj : j < 1) : (zB4 1 1 [zf n]).at 0 j = ([zf n] : List AV).getD j .any := by
 obtain rfl := Nat.lt_one_iff.1 hj
 rfl
theorem zOQ (n : Nat) (j h : Nat) (hj : j < 1) : (([zf n] : List AV).getD j .any).forget h = ([zf n] : List AV).getD j .any := by
 obtain rfl := Nat.lt_one_iff.1 hj
 rfl
theorem zMs (l : List Nat) (n : Nat) : zBu n (nsC l) := by
 intro i j _ hj
 obtain rfl := Nat.lt_one_iff.1 (show j < 1 from hj)
 rfl
theorem zFf (m : Nat) (x : Int) (j : Nat) (hj : j < 2) : zBR m ((zl x).getD j .any) = true := by
 match j, hj with
 | 0, _ => rfl
 | 1, _ => rfl
theorem zHx (p : Prog) (m : Nat) : zBu m (.box [.ro (zn p.A) 0 p.A.length, .ro (qsC p.B) 0 p.B.length, .ro (qsC p.C) 0 p.C.length]) := by
 intro i j hi hj
 obtain rfl := Nat.lt_one_iff.1 (show i < 1 from hi)
 match j, (show j < 3 from hj) with
 | 0, _ => rfl
 | 1, _ => rfl
 | 2, _ => rfl
theorem start_ok (p : Prog) (N k : Nat) (hp : p.Ok) (hk : p.Dig k) (hN : N = p.C.length + p.B.length + (zAe p.B p.B.length).length) (hm : p.B.length ≤ 40) (hn : p.C.length ≤ 40) (hk40 : k ≤ 10000) :
 zS Tryz.prog 165 [.agg [.ro (zn p.A) 0 p.A.length, .ro (qsC p.B) 0 p.B.length, .ro (qsC p.C) 0 p.C.length]] [] (fun _ => False)
  (fun r' H' => r' = .tup [.ptr 2 0 0, .ro (nsC ((List.range p.B.length).map p.fac)) 0 p.B.length, .int .i64 ((zAe p.B p.B.length).length : Nat)] ∧ H' = zY [none, none] none (N + 1) (p.C.length + p.B.length) p.B.length (zBK p) 1 (zBl p) []) := by
 refine zE (P := Tryz.prog) (fn := Tryz.f165) Z Z (by kernel_rfl) Z (fun c hR hfix => ?_)
 have hal : (zAe p.B p.B.length).length ≤ p.B.length := zKj p.B p.B.length
 repeat (first | refine zG (zi rfl) ?_ | refine zP ?_ | refine zF ?_ | refine z8 ?_ | refine zV rfl ?_ | refine zGH rfl rfl ?_)
 refine zo (by kernel_rfl) ?_
 refine zv (fuel := 0) [0, 1, 2, 3, 4, 5, 6, 7] [(1, .ptr 0 0 0), (3, .nil)] ⟨Z, Z, trivial⟩ (by kernel_rfl) (by decide) Z Z ?_
 refine zK Z Z (zJ Z Z Z Z Z Z) ?_
 refine zK Z Z (zQ Z Z Z Z Z) ?_
 refine zK Z Z (zA5 Z Z Z) ?_
 refine zK Z Z (zJ Z Z Z Z Z Z) ?_
 refine zK Z Z (zQ Z Z Z Z Z) ?_
 refine zK Z Z (zA5 Z Z Z) ?_
 refine zK Z Z (zi Z) ?_
 refine zK Z Z (zi Z) ?_
 refine zz ?_
 refine zX (by kernel_rfl) ?_
 repeat (first | refine zG (zL rfl) ?_ | refine zG (zi rfl) ?_ | refine zP ?_ | refine zF ?_ | refine z8 ?_ | refine zV rfl ?_ | refine zG (zQ rfl rfl rfl rfl rfl) ?_ | refine zG (zA5 rfl rfl rfl) ?_ | refine zG (zJ rfl rfl rfl rfl rfl rfl) ?_)
 refine zAi 7 ⟨3, zB5 (zAe p.B 0)⟩ Z Z ?_
 repeat (refine z7 ?_)
 refine zh (ι := Nat) (fun i => [(1, .ptr 0 0 0), (3, .nil), (5, .int .i64 (p.C.length : Nat)), (6, .int .i64 (p.B.length : Nat)), (7, .sl 1 0 (zAe p.B i).length), (24, .ro (qsC p.B) 0 p.B.length), (25, .int .i64 (p.B.length : Nat)), (26, .int .i64 (i : Nat))]) (fun i => [some ⟨188, .box [.ro (zn p.A) 0 p.A.length, .ro (qsC p.B) 0 p.B.length, .ro (qsC p.C) 0 p.C.length]⟩, some ⟨3, zB5 (zAe p.B i)⟩]) (fun i => i ≤ p.B.length) (fun i => p.B.length - i) 0 ⟨⟨Z, Z, Z, Z, Z, Z, Z, Z, trivial⟩, Z, Nat.zero_le _⟩ ?_
 intro i hi
 repeat (first | refine zP ?_ | refine zF ?_ | refine z8 ?_ | refine zV rfl ?_ | refine zG (zEZ rfl rfl) ?_)
 refine zD Z (fun h => ?_) (fun h => ?_)
 ·have hi' : i < p.B.length := by omega
  have hle := zKj p.B i
  repeat (first | refine zG (zL rfl) ?_ | refine zG (zi rfl) ?_ | refine zF ?_ | refine z8 ?_ | refine zV rfl ?_ | refine z7 ?_ | refine zAh ?_ | refine zG (zAU rfl rfl rfl rfl (by first | (simp only [Nat.zero_add, Int.toNat_natCast, Int.toNat_zero]; exact rfl) | exact rfl) (by omega)) ?_ | refine zG (zBW rfl rfl rfl rfl rfl rfl) ?_ | refine zBV rfl rfl rfl ?_)
  refine zR [some ⟨188, .box [.ro (zn p.A) 0 p.A.length, .ro (qsC p.B) 0 p.B.length, .ro (qsC p.C) 0 p.C.length]⟩, some ⟨3, zB5 (zAe p.B i)⟩, some ⟨122, .box [.bool false, .nil, .nil]⟩] Z ?_
  refine zA 9 (.ptr 2 0 0) Z (AEq.of_eq Z) ?_
  refine zA 30 (.agg (zq (p.B.getD i 0))) Z (AEq.of_eq Z) ?_
  refine zN (c' := .box (zq (p.B.getD i 0))) Z Z Z Z Z Nat.zero_lt_one Z Z (fun i' j' hi' hj' => ?_) ?_
  ·rw [if_pos (Nat.lt_one_iff.1 hi')]; rfl
  refine zR [some ⟨188, .box [.ro (zn p.A) 0 p.A.length, .ro (qsC p.B) 0 p.B.length, .ro (qsC p.C) 0 p.C.length]⟩, some ⟨3, zB5 (zAe p.B i)⟩, some ⟨122, .box (zq (p.B.getD i 0))⟩] Z ?_
  have cs := zEB (p.B.getD i 0)
  have hs : zAe p.B (i + 1) = if (p.B.getD i 0).num < 0 then zAe p.B i ++ [i] else zAe p.B i := by rw [zAe]
  apply zAM (H := [some ⟨188, .box [.ro (zn p.A) 0 p.A.length, .ro (qsC p.B) 0 p.B.length, .ro (qsC p.C) 0 p.C.length]⟩, some ⟨3, zB5 (zAe p.B (i + 1))⟩, some ⟨122, .box (zq (p.B.getD i 0))⟩]) [(1, .ptr 0 0 0), (3, .nil), (5, .int .i64 (p.C.length : Nat)), (6, .int .i64 (p.B.length : Nat)), (7, .sl 1 0 (zAe p.B (i + 1)).length), (24, .ro (qsC p.B) 0 p.B.length), (25, .int .i64 (p.B.length : Nat)), (26, .int .i64 (i : Nat))]
  ·intro fin
   repeat (first | refine zP ?_ | refine zF ?_ | refine z8 ?_ | refine zV rfl ?_ | refine zG (zu rfl rfl rfl rfl rfl rfl rfl (by first | exact Nat.zero_lt_one | assumption | omega)) ?_)
   refine zA 31 (qA (p.B.getD i 0)) Z (AEq.of_eq Z) ?_
   refine zB Z Z Z cs ?_
   repeat (first | refine zP ?_ | refine zF ?_ | refine zG (zEZ rfl rfl) ?_)
   refine zD Z (fun h1 => ?_) (fun h1 => ?_)
   ·rw [zF6] at h1
    rw [if_pos h1] at hs
    rw [hs] at fin
    have hll : (zAe p.B i ++ [i]).length = (zAe p.B i).length + 1 := by rw [List.length_append]; rfl
    have hol : (zB5 (zAe p.B i)).len = (zAe p.B i).length := List.length_map ..
    repeat (first | refine zG (zL rfl) ?_ | refine zV rfl ?_ | refine zW rfl rfl rfl rfl rfl rfl rfl rfl rfl rfl rfl ?_)
    refine zAG Z Z Z Z Z Z Z Z Z hol Z Z (by show 0 + 1 ≤ 1; omega) Z (by show ((zAe p.B i).length + 1) * 8 ≤ _ ∧ _; have : (zAe p.B i).length ≤ i := hle; omega) (fun _ _ _ _ => rfl) (by rw [hfix]; exact fun h => h) ?_
    refine zAl [some ⟨188, .box [.ro (zn p.A) 0 p.A.length, .ro (qsC p.B) 0 p.B.length, .ro (qsC p.C) 0 p.C.length]⟩, some ⟨3, zB5 (zAe p.B i ++ [i])⟩, some ⟨122, .box (zq (p.B.getD i 0))⟩] (ze.same (ze.eqv (zLh (zAe p.B i) i) (ze.same ze.nil))) ?_
    refine zA 37 (.sl 1 0 (zAe p.B i ++ [i]).length) Z (AEq.of_eq (by rw [hll])) ?_
    repeat (first | refine zG (zi rfl) ?_ | refine zP ?_ | refine zF ?_ | refine zAf ?_)
    exact fin _ ⟨Z, Z, Z, Z, Z, Z, Z, Z, trivial⟩
   ·rw [zF6] at h1
    rw [if_neg h1] at hs
    rw [hs] at fin
    repeat (first | refine zF ?_ | refine zAf ?_ | refine zAh ?_)
    exact fin _ ⟨Z, Z, Z, Z, Z, Z, Z, Z, trivial⟩
  ·refine zA3 [some ⟨188, .box [.ro (zn p.A) 0 p.A.length, .ro (qsC p.B) 0 p.B.length, .ro (qsC p.C) 0 p.C.length]⟩, some ⟨3, zB5 (zAe p.B (i + 1))⟩] [some ⟨122, .box (zq (p.B.getD i 0))⟩] [(1, .ptr 0 0 0), (3, .nil), (5, .int .i64 (p.C.length : Nat)), (6, .int .i64 (p.B.length : Nat)), (7, .sl 1 0 (zAe p.B (i + 1)).length), (24, .ro (qsC p.B) 0 p.B.length), (25, .int .i64 (p.B.length : Nat)), (26, .int .i64 (i : Nat))] Z ⟨Z, Z, Z, Z, Z, Z, Z, Z, trivial⟩ (fun h hh => by rw [hfix] at hh; exact hh.elim) (fun h o ho => by
    match h, ho with
    | 0, ho => cases ho; exact zHx p _
    | 1, ho => cases ho; exact fun i j _ _ => rfl) rfl ?_
   repeat (first | refine zG (zL rfl) ?_ | refine zP ?_ | refine zV rfl ?_ | refine zG (zCo rfl rfl (by omega)) ?_)
   exact zM ⟨i + 1, by omega, by omega, ⟨Z, Z, Z, Z, Z, Z, Z, Z, trivial⟩, Z⟩
 have hie : i = p.B.length := by omega
 rw [hie]
 clear hi h hie
 clear i
 have cw := zKe 1 (by decide)
 unfold zBD at cw
 repeat (first | refine zF ?_ | refine z8 ?_ | refine zV rfl ?_ | refine zDP ?_ | refine zBJ ?_ | refine zBF ?_ | refine zBa ?_)
 refine zB Z Z Z cw ?_
 repeat (first | refine zG (zL rfl) ?_ | refine zG (zCo rfl rfl (by omega)) ?_)
 refine zA 42 (.int .i64 ((p.C.length + p.B.length : Nat))) Z (AEq.of_eq (by show AV.int _ _ = AV.int _ _; congr 1)) ?_
 repeat (first | refine zG (zL rfl) ?_ | refine zG (zi rfl) ?_ | refine zP ?_ | refine zF ?_ | refine z8 ?_ | refine zV rfl ?_ | refine zG (zQ rfl rfl rfl rfl rfl) ?_ | refine zG (zA5 rfl rfl rfl) ?_ | refine zG (zA0 rfl rfl rfl rfl rfl rfl) ?_ | refine zG (zJ rfl rfl rfl rfl rfl rfl) ?_ | refine zGH rfl rfl ?_)
 refine zAi 3 ⟨118, nsC []⟩ Z Z ?_
 refine zKX 2 ⟨3, zB5 []⟩ (.box [.nil, .bool (decide ((1 : Int) < 0)), zf (1 : Int).natAbs, .sl 4 0 0, .int .i64 ((p.C.length + p.B.length : Nat))]) Z Z Z Z (fun i j hi hj => ?_) ?_
 ·obtain rfl := Nat.lt_one_iff.1 hi
  match j, hj with
  | 0, _ => exact .inl rfl
  | 1, _ => exact .inl rfl
  | 2, _ => exact .inl rfl
  | 3, _ => exact .inr ⟨rfl, rfl⟩
  | 4, _ => exact .inl rfl
 refine zKX 2 ⟨248, zBr 2 0 (N + 1)⟩ (zDt 2 0 0 (p.C.length + p.B.length) 1) Z Z Z Z (fun i j hi hj => ?_) ?_
 ·obtain rfl := Nat.lt_one_iff.1 hi
  match j, hj with
  | 0, _ => exact .inr ⟨rfl, rfl⟩
  | 1, _ => exact .inl rfl
  | 2, _ => exact .inl rfl
  | 3, _ => exact .inl rfl
  | 4, _ => exact .inl rfl
 generalize hGG : ([some ⟨188, .box [.ro (zn p.A) 0 p.A.length, .ro (qsC p.B) 0 p.B.length, .ro (qsC p.C) 0 p.C.length]⟩, some ⟨3, zB5 (zAe p.B p.B.length)⟩] : zO) = G
 refine zAV (zY G (some ⟨118, nsC []⟩) (N + 1) (p.C.length + p.B.length) 0 [] 1 [] []) (by subst hGG; rfl) ?_
 refine zAN 2 (.ptr G.length 0 0) rfl (AEq.of_eq (by subst hGG; rfl)) ?_
 refine zAN 3 (.sl (G.length + 1) 0 0) rfl (AEq.of_eq (by subst hGG; rfl)) ?_
 have hG2 : G.length = 2 := by subst hGG; rfl
 have hG : OkG G := by
  rw [← hGG]
  intro m hm o ho
  rcases List.mem_cons.1 ho with e | e
  ·cases e; exact zHx p _
  ·cases List.mem_singleton.1 e; exact fun i j _ _ => rfl
 have hFG : ∀ h, zm h G = G := fun h => by subst hGG; rfl
 have hg0 : ∀ F kk X β T, (zY G F (N + 1) (p.C.length + p.B.length) kk X 1 β T)[0]? = some (some ⟨188, .box [.ro (zn p.A) 0 p.A.length, .ro (qsC p.B) 0 p.B.length, .ro (qsC p.C) 0 p.C.length]⟩) := fun F kk X β T => by subst hGG; rfl
 generalize hnd : zAe p.B p.B.length = nd at *
 have hg1 : ∀ F kk X β T, (zY G F (N + 1) (p.C.length + p.B.length) kk X 1 β T)[1]? = some (some ⟨3, zB5 nd⟩) := fun F kk X β T => by subst hGG; rfl
 have hAB : p.A.length = p.B.length := hp.rows
 repeat (refine z7 ?_)
 refine zh (ι := Nat) (fun i => [(1, .ptr 0 0 0), (2, .ptr G.length 0 0), (3, .sl (G.length + 1) 0 i), (5, .int .i64 (p.C.length : Nat)), (6, .int .i64 (p.B.length : Nat)), (7, .sl 1 0 nd.length), (46, .ro (zn p.A) 0 p.A.length), (47, .int .i64 (p.A.length : Nat)), (48, .int .i64 (i : Nat))]) (fun i => zY G (some ⟨118, nsC ((List.range i).map p.fac)⟩) (N + 1) (p.C.length + p.B.length) i ((zBK p).take i) 1 ((zBl p).take i) []) (fun i => i ≤ p.B.length) (fun i => p.B.length - i) 0 ⟨⟨Z, Z, Z, Z, Z, Z, Z, Z, Z, trivial⟩, Z, Nat.zero_le _⟩ ?_
 intro i hi
 repeat (first | refine zP ?_ | refine zF ?_ | refine z8 ?_ | refine zV rfl ?_ | refine zG (zEZ rfl rfl) ?_)
 refine zD Z (fun h => ?_) (fun h => ?_)
 ·have hi' : i < p.B.length := by omega
  have hTl : (zBK p).length = p.B.length := zCb p
  have hBl : (zBl p).length = p.B.length := zGU p
  have hX1 := zKD (zBK p) [] (i := i) (by omega)
  have hβ1 := zKD (zBl p) 0 (i := i) (by omega)
  have hXl : ((zBK p).take i).length = i := by rw [List.length_take, hTl]; omega
  have hβl : ((zBl p).take i).length = i := by rw [List.length_take, hBl]; omega
  have hf1 : (List.range (i + 1)).map p.fac = (List.range i).map p.fac ++ [p.fac i] := by rw [List.range_succ, List.map_append]; rfl
  have hfl : ((List.range i).map p.fac).length = i := by simp
  have hXv : (zBK p).getD i [] = zDN p.C.length p.B.length nd.length (p.whole i) i (p.neg i) (zBm p.B i) := by rw [← hnd]; exact zDz hi'
  have hβv : (zBl p).getD i 0 = if p.neg i then p.C.length + p.B.length + zBm p.B i else p.C.length + i := zGM p hi'
  rw [hXv] at hX1
  rw [hβv] at hβ1
  generalize hX2 : (zBK p).take (i + 1) = X2 at *
  generalize (zBK p).take i = X at *
  generalize hβ2 : (zBl p).take (i + 1) = β2 at *
  generalize (zBl p).take i = β at *
  generalize hfs2 : (List.range (i + 1)).map p.fac = fs2 at *
  generalize (List.range i).map p.fac = fs at *
  have hlen : ∀ T, (zY G (some ⟨118, nsC fs⟩) (N + 1) (p.C.length + p.B.length) i X 1 β T).length = G.length + 4 + i + T.length := fun T => by rw [zBM, hXl]
  have hFf : ∀ h (l : List Nat), zA1 h (some (⟨118, nsC l⟩ : AObj)) = some ⟨118, nsC l⟩ := fun h l => by show some (⟨_, (nsC l).forget h⟩ : AObj) = _; rw [nsC_fg]
  have hlen0 : (zY G (some ⟨118, nsC fs⟩) (N + 1) (p.C.length + p.B.length) i X 1 β []).length = G.length + 4 + i := by rw [zBM, hXl]; rfl
  have hrl : (p.A.getD i []).length = p.C.length := hp.cols _ (zAr [] (by omega))
  have hful : p.full i = p.A.getD i [] ++ [p.B.getD i 0] := rfl
  have hfull : (p.full i).length = p.C.length + 1 := zEr p hp hi'
  have hfD := zOJ hp hk hi'
  have hWl : (p.whole i).length = p.C.length + 1 := by unfold Prog.whole; rw [zGP]; exact hfull
  have hWe : zA6 (p.full i) = p.whole i := rfl
  have hFe : zDH 1 (p.full i) = p.fac i := rfl
  have cl := cloneQ (p.A.getD i []) (by omega)
  rw [hrl] at cl
  have cW := zNj (p.full i) k hfD (by omega) (by rw [hfull]; have : k * (p.C.length + 1) ≤ 10000 * 41 := Nat.mul_le_mul hk40 (by omega); omega)
  rw [hfull, hWe, hFe] at cW
  rw [hful] at cW
  repeat (first | refine zG (zL rfl) ?_ | refine zG (zi rfl) ?_ | refine zP ?_ | refine zF ?_ | refine z8 ?_ | refine zV rfl ?_ | refine z7 ?_ | refine zAh ?_ | refine zG (zCx rfl rfl rfl rfl) ?_ | refine zG (zAU rfl rfl rfl rfl (by first | (simp only [Nat.zero_add, Int.toNat_natCast, Int.toNat_zero]; exact rfl) | exact rfl) (by omega)) ?_)
  refine zAN 11 (.ro (qsC (p.A.getD i [])) 0 p.C.length) Z (AEq.of_eq (by rw [← hrl]; rfl)) ?_
  generalize p.A.getD i [] = row at *
  have gB := hg0 (some ⟨118, nsC fs⟩) i X β [some ⟨122, qsC row⟩]
  have gA := hg0 (some ⟨118, nsC fs⟩) i X β []
  repeat (first | refine zG (zL rfl) ?_ | refine zG (zi rfl) ?_ | refine zP ?_ | refine zF ?_ | refine z8 ?_ | refine zV rfl ?_ | refine zBU rfl ?_ | refine zAT rfl ?_ | refine zAf ?_ | refine zAR ?_ | refine z7 ?_ | refine zAh ?_ | refine zDP ?_ | refine zBJ ?_ | refine zBF ?_ | refine zBa ?_ | refine zBO ?_ | refine zG (zCx rfl rfl rfl rfl) ?_ | refine zG (zQ rfl rfl rfl rfl rfl) ?_ | refine zG (zEZ rfl rfl) ?_ | refine zG (zIE rfl rfl) ?_ | refine zG (zA5 rfl rfl rfl) ?_ | refine zG (zCo rfl rfl (by omega)) ?_ | refine zG (zEN rfl rfl (by omega)) ?_ | refine zG (zAU rfl rfl rfl rfl (by first | (simp only [Nat.zero_add, Int.toNat_natCast, Int.toNat_zero]; exact rfl) | exact rfl) (by omega)) ?_ | refine zG (zA0 rfl rfl rfl rfl rfl rfl) ?_ | refine zG (zd rfl) ?_ | refine zG (zJ rfl rfl rfl rfl rfl rfl) ?_ | refine zG (zBW rfl rfl rfl rfl rfl rfl) ?_ | refine zG (zu rfl rfl rfl rfl rfl rfl rfl (by first | exact Nat.zero_lt_one | assumption | omega)) ?_ | refine zG (zZ rfl rfl rfl (by assumption) (by rfl) (by first | (simp only [Nat.zero_add, Int.toNat_natCast, Int.toNat_zero]; exact rfl) | exact rfl) (by omega)) ?_ | refine zG (zAD rfl rfl rfl rfl (by assumption) (by rfl) (by rfl) (by first | exact Nat.zero_lt_one | assumption | omega)) ?_ | refine zG (zAI rfl rfl rfl (by assumption) (by rfl)) ?_ | refine zW rfl rfl rfl rfl rfl rfl rfl rfl rfl rfl rfl ?_ | refine zGH rfl rfl ?_ | refine zBV rfl rfl rfl ?_)
  refine zo (by kernel_rfl) ?_
  refine zw 0 Z (by kernel_rfl) (by kernel_rfl) (by kernel_rfl) Z (zL Z) Z ?_
  refine zw 2 Z (by kernel_rfl) (by kernel_rfl) (by kernel_rfl) Z (zJ Z Z Z Z Z Z) Z ?_
  refine zw 4 Z (by kernel_rfl) (by kernel_rfl) (by kernel_rfl) Z (zL Z) Z ?_
  apply zAQ (H := zY G (some ⟨118, nsC fs⟩) (N + 1) (p.C.length + p.B.length) i X 1 β [some ⟨122, qsC row⟩]) [(1, .ptr 0 0 0), (2, .ptr G.length 0 0), (3, .sl (G.length + 1) 0 i), (5, .int .i64 (p.C.length : Nat)), (6, .int .i64 (p.B.length : Nat)), (7, .sl 1 0 nd.length), (46, .ro (zn p.A) 0 p.A.length), (47, .int .i64 (p.A.length : Nat)), (48, .int .i64 (i : Nat)), (10, .int .i64 (i : Nat)), (55, .sl (G.length + 4 + i) 0 p.C.length), (61, .ro (zB4 1 3 (zq (p.B.getD i 0))) 0 1)]
  ·intro fin
   refine zH (is := [1, 3]) (by kernel_rfl) (by simp) Z ⟨fun o ho => ?_, fun o ho => ?_, trivial⟩
   all_goals (cases ho)
   ·refine zEJ Z Z Z cl ?_
    refine zR (zY G (some ⟨118, nsC fs⟩) (N + 1) (p.C.length + p.B.length) i X 1 β [some ⟨122, qsC row⟩]) (by rw [zAj]; rfl) ?_
    refine zA 55 (.sl (G.length + 4 + i) 0 p.C.length) Z (AEq.of_eq (by rw [hlen]; rfl)) ?_
    repeat (first | refine zP ?_ | refine zAR ?_)
    refine zAm (fuel := 7) [3, 5, 6, 7] [(1, .ptr 0 0 0), (2, .ptr G.length 0 0), (3, .sl (G.length + 1) 0 i), (5, .int .i64 (p.C.length : Nat)), (6, .int .i64 (p.B.length : Nat)), (7, .sl 1 0 nd.length), (46, .ro (zn p.A) 0 p.A.length), (47, .int .i64 (p.A.length : Nat)), (48, .int .i64 (i : Nat)), (10, .int .i64 (i : Nat)), (56, .ptr 0 0 1), (58, .int .i64 (i : Nat)), (55, .sl (G.length + 4 + i) 0 p.C.length)] ⟨Z, Z, Z, Z, Z, Z, Z, Z, Z, Z, Z, Z, Z, trivial⟩ (by kernel_rfl) (by decide) Z Z ?_
    refine zK Z Z (zAI Z Z Z (by assumption) (by rfl)) ?_
    refine zK Z Z (zAU Z Z Z Z (by first | (simp only [Nat.zero_add, Int.toNat_natCast, Int.toNat_zero]; exact Z) | exact Z) (by omega)) ?_
    refine zK Z Z (zBW Z Z Z Z Z Z) ?_
    refine px_b Z Z Z Z Z Z Z Z Z Z Z Z Z ?_
    refine zz ?_
    exact fin _ ⟨Z, Z, Z, Z, Z, Z, Z, Z, Z, Z, Z, Z, trivial⟩
   ·repeat (first | refine zP ?_ | refine zAR ?_ | refine zG (zAI rfl rfl rfl (by assumption) (by rfl)) ?_)
    refine zH (is := [1, 5]) (by kernel_rfl) (by simp) Z ⟨fun o ho => ?_, fun o ho => ?_, trivial⟩
    all_goals (cases ho)
    ·refine zEJ Z Z Z cl ?_
     refine zR (zY G (some ⟨118, nsC fs⟩) (N + 1) (p.C.length + p.B.length) i X 1 β [some ⟨122, qsC row⟩]) (by rw [zAj]; rfl) ?_
     refine zA 55 (.sl (G.length + 4 + i) 0 p.C.length) Z (AEq.of_eq (by rw [hlen]; rfl)) ?_
     repeat (first | refine zP ?_ | refine zAR ?_)
     refine zAm (fuel := 7) [5, 6, 7] [(1, .ptr 0 0 0), (2, .ptr G.length 0 0), (3, .sl (G.length + 1) 0 i), (5, .int .i64 (p.C.length : Nat)), (6, .int .i64 (p.B.length : Nat)), (7, .sl 1 0 nd.length), (46, .ro (zn p.A) 0 p.A.length), (47, .int .i64 (p.A.length : Nat)), (48, .int .i64 (i : Nat)), (10, .int .i64 (i : Nat)), (56, .ptr 0 0 1), (58, .int .i64 (i : Nat)), (55, .sl (G.length + 4 + i) 0 p.C.length), (57, .ro (qsC p.B) 0 p.B.length)] ⟨Z, Z, Z, Z, Z, Z, Z, Z, Z, Z, Z, Z, Z, Z, trivial⟩ (by kernel_rfl) (by decide) Z Z ?_
     refine zK Z Z (zAU Z Z Z Z (by first | (simp only [Nat.zero_add, Int.toNat_natCast, Int.toNat_zero]; exact Z) | exact Z) (by omega)) ?_
     refine zK Z Z (zBW Z Z Z Z Z Z) ?_
     refine px_b Z Z Z Z Z Z Z Z Z Z Z Z Z ?_
     refine zz ?_
     exact fin _ ⟨Z, Z, Z, Z, Z, Z, Z, Z, Z, Z, Z, Z, trivial⟩
    ·repeat (first | refine zP ?_ | refine zAR ?_ | refine zG (zAU rfl rfl rfl rfl (by first | (simp only [Nat.zero_add, Int.toNat_natCast, Int.toNat_zero]; exact rfl) | exact rfl) (by omega)) ?_)
     refine zH (is := [1, 6]) (by kernel_rfl) (by simp) Z ⟨fun o ho => ?_, fun o ho => ?_, trivial⟩
     all_goals (cases ho)
     ·refine zEJ Z Z Z cl ?_
      refine zR (zY G (some ⟨118, nsC fs⟩) (N + 1) (p.C.length + p.B.length) i X 1 β [some ⟨122, qsC row⟩]) (by rw [zAj]; rfl) ?_
      refine zA 55 (.sl (G.length + 4 + i) 0 p.C.length) Z (AEq.of_eq (by rw [hlen]; rfl)) ?_
      repeat (first | refine zP ?_ | refine zAR ?_)
      refine zAm (fuel := 7) [6, 7] [(1, .ptr 0 0 0), (2, .ptr G.length 0 0), (3, .sl (G.length + 1) 0 i), (5, .int .i64 (p.C.length : Nat)), (6, .int .i64 (p.B.length : Nat)), (7, .sl 1 0 nd.length), (46, .ro (zn p.A) 0 p.A.length), (47, .int .i64 (p.A.length : Nat)), (48, .int .i64 (i : Nat)), (10, .int .i64 (i : Nat)), (56, .ptr 0 0 1), (58, .int .i64 (i : Nat)), (55, .sl (G.length + 4 + i) 0 p.C.length), (59, .rp (qsC p.B) i 0)] ⟨Z, Z, Z, Z, Z, Z, Z, Z, Z, Z, Z, Z, Z, Z, trivial⟩ (by kernel_rfl) (by decide) Z Z ?_
      refine zK Z Z (zBW Z Z Z Z Z Z) ?_
      refine px_b Z Z Z Z Z Z Z Z Z Z Z Z Z ?_
      refine zz ?_
      exact fin _ ⟨Z, Z, Z, Z, Z, Z, Z, Z, Z, Z, Z, Z, trivial⟩
     ·repeat (first | refine zP ?_ | refine zAR ?_ | refine zG (zBW rfl rfl rfl rfl rfl rfl) ?_)
      refine zH (is := [1, 7]) (by kernel_rfl) (by simp) Z ⟨fun o ho => ?_, fun o ho => ?_, trivial⟩
      all_goals (cases ho)
      ·refine zEJ Z Z Z cl ?_
       refine zR (zY G (some ⟨118, nsC fs⟩) (N + 1) (p.C.length + p.B.length) i X 1 β [some ⟨122, qsC row⟩]) (by rw [zAj]; rfl) ?_
       refine zA 55 (.sl (G.length + 4 + i) 0 p.C.length) Z (AEq.of_eq (by rw [hlen]; rfl)) ?_
       repeat (first | refine zP ?_ | refine zAR ?_)
       refine zAm (fuel := 7) [7] [(1, .ptr 0 0 0), (2, .ptr G.length 0 0), (3, .sl (G.length + 1) 0 i), (5, .int .i64 (p.C.length : Nat)), (6, .int .i64 (p.B.length : Nat)), (7, .sl 1 0 nd.length), (46, .ro (zn p.A) 0 p.A.length), (47, .int .i64 (p.A.length : Nat)), (48, .int .i64 (i : Nat)), (10, .int .i64 (i : Nat)), (56, .ptr 0 0 1), (58, .int .i64 (i : Nat)), (55, .sl (G.length + 4 + i) 0 p.C.length), (60, .agg (zq (p.B.getD i 0)))] ⟨Z, Z, Z, Z, Z, Z, Z, Z, Z, Z, Z, Z, Z, Z, trivial⟩ (by kernel_rfl) (by decide) Z Z ?_
       refine px_b Z Z Z Z Z Z Z Z Z Z Z Z Z ?_
       refine zz ?_
       exact fin _ ⟨Z, Z, Z, Z, Z, Z, Z, Z, Z, Z, Z, Z, trivial⟩
      ·repeat (first | refine zP ?_ | refine zAR ?_ | refine zW rfl rfl rfl rfl rfl rfl rfl rfl rfl rfl rfl ?_)
       refine zH (is := [1]) (by kernel_rfl) (by simp) Z ⟨fun o ho => ?_, trivial⟩
       all_goals (cases ho)
       refine zEJ Z Z Z cl ?_
       refine zR (zY G (some ⟨118, nsC fs⟩) (N + 1) (p.C.length + p.B.length) i X 1 β [some ⟨122, qsC row⟩]) (by rw [zAj]; rfl) ?_
       refine zA 55 (.sl (G.length + 4 + i) 0 p.C.length) Z (AEq.of_eq (by rw [hlen]; rfl)) ?_
       repeat (first | refine zP ?_ | refine zAR ?_)
       exact fin _ ⟨Z, Z, Z, Z, Z, Z, Z, Z, Z, Z, Z, Z, trivial⟩
  refine zH (is := [8]) (by kernel_rfl) (by simp) Z ⟨fun o ho => ?_, trivial⟩
  all_goals (cases ho)
  have q0 := zAk (G := G) (F := (some ⟨118, nsC fs⟩)) (L := N + 1) (w := p.C.length + p.B.length) (k := i) (X := X) (d := 1) (β := β) (T := [some ⟨122, qsC row⟩]) 0
  rw [hXl, Nat.add_zero] at q0
  have hol : (qsC row).len = p.C.length := hrl
  refine zAG Z Z Z Z Z Z Z q0 Z hol Z Z (by show 0 + 1 ≤ 1; omega) Z (by show (p.C.length + 1) * 56 ≤ _ ∧ _; omega) ?_ (by rw [hfix]; exact fun h => h) ?_
  ·intro i' j' hi' hj'
   exact zA9 0 3 zq zBS row _ _ (zDb _) _ i' j' hi' hj'
  refine zBw ((62, .sl (G.length + 4 + i) 0 (p.C.length + 1)) :: [(1, .ptr 0 0 0), (2, .ptr G.length 0 0), (3, .sl (G.length + 1) 0 i), (5, .int .i64 (p.C.length : Nat)), (6, .int .i64 (p.B.length : Nat)), (7, .sl 1 0 nd.length), (46, .ro (zn p.A) 0 p.A.length), (47, .int .i64 (p.A.length : Nat)), (48, .int .i64 (i : Nat)), (10, .int .i64 (i : Nat))]) ⟨Z, zA4 (h := G.length + 4 + i) (L := [(1, .ptr 0 0 0), (2, .ptr G.length 0 0), (3, .sl (G.length + 1) 0 i), (5, .int .i64 (p.C.length : Nat)), (6, .int .i64 (p.B.length : Nat)), (7, .sl 1 0 nd.length), (46, .ro (zn p.A) 0 p.A.length), (47, .int .i64 (p.A.length : Nat)), (48, .int .i64 (i : Nat)), (10, .int .i64 (i : Nat))]) ⟨Z, Z, Z, Z, Z, Z, Z, Z, Z, Z, trivial⟩ (by
   intro q hq
   simp only [List.mem_cons, List.mem_nil_iff, or_false] at hq
   rcases hq with rfl | rfl | rfl | rfl | rfl | rfl | rfl | rfl | rfl | rfl <;> simp [AV.forget, zx (show G.length ≠ G.length + 4 + i by omega), zx (show G.length + 1 ≠ G.length + 4 + i by omega), zx (show 0 ≠ G.length + 4 + i by omega), zx (show 1 ≠ G.length + 4 + i by omega)])⟩ ?_
  refine zAl (zY G (some ⟨118, nsC fs⟩) (N + 1) (p.C.length + p.B.length) i X 1 β [some ⟨122, qsC (row ++ [p.B.getD i 0])⟩]) (by
   have q := zKw (G := G) (F := some ⟨118, nsC fs⟩) (L := N + 1) (w := p.C.length + p.B.length) (k := i) (X := X) (d := 1) (β := β) (y := some ⟨122, qsC row⟩) (t := 122) (hFG _) (hFf _ _) (zBX 0 3 zq row (p.B.getD i 0) _ (zDb (p.B.getD i 0)))
   rw [hXl] at q
   exact q) ?_
  repeat (first | refine zP ?_ | refine zAR ?_)
  refine zH (is := [9]) (by kernel_rfl) (by simp) Z ⟨fun o ho => ?_, trivial⟩
  all_goals (cases ho)
  have q1 := zAk (G := G) (F := (some ⟨118, nsC fs⟩)) (L := N + 1) (w := p.C.length + p.B.length) (k := i) (X := X) (d := 1) (β := β) (T := [some ⟨122, qsC (row ++ [p.B.getD i 0])⟩]) 0
  rw [hXl, Nat.add_zero] at q1
  refine zDh (G.length + 4 + i) 62 (p.C.length + 1) [(1, .ptr 0 0 0), (2, .ptr G.length 0 0), (3, .sl (G.length + 1) 0 i), (5, .int .i64 (p.C.length : Nat)), (6, .int .i64 (p.B.length : Nat)), (7, .sl 1 0 nd.length), (46, .ro (zn p.A) 0 p.A.length), (47, .int .i64 (p.A.length : Nat)), (48, .int .i64 (i : Nat)), (10, .int .i64 (i : Nat))] q1 (zBk _) Z (by show p.C.length + 1 ≤ (row ++ [p.B.getD i 0]).length; rw [List.length_append, hrl]; exact Nat.le_refl _) ⟨Z, Z, Z, Z, Z, Z, Z, Z, Z, Z, trivial⟩ ?_
  refine zR (zY G (some ⟨118, nsC fs⟩) (N + 1) (p.C.length + p.B.length) i X 1 β [none]) (by have q := zAP (G := G) (F := (some ⟨118, nsC fs⟩)) (L := N + 1) (w := p.C.length + p.B.length) (k := i) (X := X) (d := 1) (β := β) (T := [some ⟨122, qsC (row ++ [p.B.getD i 0])⟩]) 0 none; rw [hXl, Nat.add_zero] at q; exact q) ?_
  refine zIj (.tup [.sl (G.length + 4 + i + 1) 0 (p.C.length + 1), zf (p.fac i)]) (zY G (some ⟨118, nsC fs⟩) (N + 1) (p.C.length + p.B.length) i X 1 β [none, some ⟨120, zC (p.whole i)⟩]) Z Z Z cW (by rw [hlen]; show AV.tup [AV.sl (0 + (G.length + 4 + i + 1)) 0 _, _] = _; rw [Nat.zero_add]; rfl) (by show _ ++ [some (⟨_, (zC (p.whole i)).shift _⟩ : AObj)] = _; rw [zHP, zAj]; rfl) ?_
  repeat (first | refine zP ?_ | refine zAR ?_)
  refine zw 10 Z (by kernel_rfl) (by kernel_rfl) (by kernel_rfl) Z (zL Z) Z ?_
  refine zw 11 Z (by kernel_rfl) (by kernel_rfl) (by kernel_rfl) Z (zBz Z Z) Z ?_
  refine zw 12 Z (by kernel_rfl) (by kernel_rfl) (by kernel_rfl) Z (zBz Z Z) Z ?_
  refine zw 13 Z (by kernel_rfl) (by kernel_rfl) (by kernel_rfl) Z (zi Z) Z ?_
  refine zw 14 Z (by kernel_rfl) (by kernel_rfl) (by kernel_rfl) Z (zi Z) Z ?_
  refine zX (by kernel_rfl) ?_
  repeat (refine zF ?_)
  clear q0 q1 cl cW gB gA
  generalize p.whole i = W at *
  generalize p.fac i = fc at *
  have q2 := tb_fac (G := G) (F := (some ⟨118, nsC fs⟩)) (L := N + 1) (w := p.C.length + p.B.length) (k := i) (X := X) (d := 1) (β := β) (T := [none, some ⟨120, zC W⟩])
  have hol2 : (nsC fs).len = i := hfl
  repeat (first | refine zG (zL rfl) ?_ | refine z8 ?_ | refine zV rfl ?_ | refine zW rfl rfl rfl rfl rfl rfl rfl rfl rfl rfl rfl ?_)
  refine zAG Z Z Z Z Z Z Z q2 Z hol2 Z Z (by show 0 + 1 ≤ 1; omega) Z (by show (i + 1) * 24 ≤ _ ∧ _; omega) ?_ (by rw [hfix]; exact fun h => h) ?_
  ·intro i' j' hi' hj'
   exact zA9 0 1 (fun n : Nat => [zf n]) zOQ fs fc _ (rowN1 fc) _ i' j' hi' hj'
  refine zBw ((69, .sl (G.length + 1) 0 (i + 1)) :: [(1, .ptr 0 0 0), (2, .ptr G.length 0 0), (5, .int .i64 (p.C.length : Nat)), (6, .int .i64 (p.B.length : Nat)), (7, .sl 1 0 nd.length), (46, .ro (zn p.A) 0 p.A.length), (47, .int .i64 (p.A.length : Nat)), (48, .int .i64 (i : Nat)), (10, .int .i64 (i : Nat)), (12, .sl (G.length + 4 + i + 1) 0 (p.C.length + 1)), (13, zf fc)]) ⟨Z, zA4 (h := G.length + 1) (L := [(1, .ptr 0 0 0), (2, .ptr G.length 0 0), (5, .int .i64 (p.C.length : Nat)), (6, .int .i64 (p.B.length : Nat)), (7, .sl 1 0 nd.length), (46, .ro (zn p.A) 0 p.A.length), (47, .int .i64 (p.A.length : Nat)), (48, .int .i64 (i : Nat)), (10, .int .i64 (i : Nat)), (12, .sl (G.length + 4 + i + 1) 0 (p.C.length + 1)), (13, zf fc)]) ⟨Z, Z, Z, Z, Z, Z, Z, Z, Z, Z, Z, trivial⟩ (by
   intro q hq
   simp only [List.mem_cons, List.mem_nil_iff, or_false] at hq
   rcases hq with rfl | rfl | rfl | rfl | rfl | rfl | rfl | rfl | rfl | rfl | rfl <;> simp [AV.forget, zf, zx (show 0 ≠ G.length + 1 by omega), zx (show 1 ≠ G.length + 1 by omega), zx (show G.length ≠ G.length + 1 by omega), zx (show G.length + 4 + i + 1 ≠ G.length + 1 by omega)])⟩ ?_
  refine zAl (zY G (some ⟨118, nsC fs2⟩) (N + 1) (p.C.length + p.B.length) i X 1 β [none, some ⟨120, zC W⟩]) (by
   rw [hf1]
   exact zKo (hFG _) (zBX 0 1 (fun n : Nat => [zf n]) fs fc _ (rowN1 fc)) (by show ze [none, some (⟨_, (zC W).forget _⟩ : AObj)] _; rw [zBY]; exact ze.refl _)) ?_
  clear hf1 hol2 q2
  have hfs2' := hfs2
  clear hfs2
  have hlen2 : ∀ T, (zY G (some ⟨118, nsC fs2⟩) (N + 1) (p.C.length + p.B.length) i X 1 β T).length = G.length + 4 + i + T.length := fun T => by rw [zBM, hXl]
  repeat (first | refine zG (zL rfl) ?_ | refine zG (zi rfl) ?_ | refine zP ?_ | refine zF ?_ | refine z8 ?_ | refine zV rfl ?_ | refine zG (zA5 rfl rfl rfl) ?_ | refine zG (zCo rfl rfl (by omega)) ?_)
  refine zA 76 (.int .i64 ((N + 1 : Nat))) Z (AEq.of_eq (by show AV.int _ _ = AV.int _ _; congr 1; omega)) ?_
  refine zC4 Z Z Z Z Z Z Z Z (by show (0 : Int) ≤ _ ∧ _ ≤ _ ∧ (32 : Int) * _ ≤ _ ∧ _; omega) ?_
  refine zGX (zY G (some ⟨118, nsC fs2⟩) (N + 1) (p.C.length + p.B.length) i X 1 β [none, some ⟨120, zC W⟩] ++ [some ⟨120, zC (List.replicate (N + 1) 0)⟩]) (by simp only [List.length_append, List.length_cons, List.length_nil]) zHy ?_
  refine zR (zY G (some ⟨118, nsC fs2⟩) (N + 1) (p.C.length + p.B.length) i X 1 β [none, some ⟨120, zC W⟩, some ⟨120, zC (List.replicate (N + 1) 0)⟩]) (by rw [zAj]; rfl) ?_
  refine zA 77 (.sl (G.length + 4 + i + 2) 0 (N + 1)) Z (AEq.of_eq (by rw [hlen2]; rfl)) ?_
  repeat (first | refine zG (zi rfl) ?_ | refine zP ?_ | refine zF ?_ | refine z8 ?_)
  apply zAM (H := zY G (some ⟨118, nsC fs2⟩) (N + 1) (p.C.length + p.B.length) i X 1 β [none, some ⟨120, zC W⟩, some ⟨120, zC (zEE p.C.length N W)⟩]) [(1, .ptr 0 0 0), (2, .ptr G.length 0 0), (3, .sl (G.length + 1) 0 (i + 1)), (5, .int .i64 (p.C.length : Nat)), (6, .int .i64 (p.B.length : Nat)), (7, .sl 1 0 nd.length), (46, .ro (zn p.A) 0 p.A.length), (47, .int .i64 (p.A.length : Nat)), (48, .int .i64 (i : Nat)), (10, .int .i64 (i : Nat)), (12, .sl (G.length + 4 + i + 1) 0 (p.C.length + 1)), (14, .sl (G.length + 4 + i + 2) 0 (N + 1))]
  ·intro fin
   have q3 := zAk (G := G) (F := (some ⟨118, nsC fs2⟩)) (L := N + 1) (w := p.C.length + p.B.length) (k := i) (X := X) (d := 1) (β := β) (T := [none, some ⟨120, zC W⟩, some ⟨120, zC (List.replicate (N + 1) 0)⟩]) 1
   have q4 := zAk (G := G) (F := (some ⟨118, nsC fs2⟩)) (L := N + 1) (w := p.C.length + p.B.length) (k := i) (X := X) (d := 1) (β := β) (T := [none, some ⟨120, zC W⟩, some ⟨120, zC (List.replicate (N + 1) 0)⟩]) 2
   rw [hXl] at q3 q4
   repeat (first | refine zG (zL rfl) ?_ | refine zV rfl ?_)
   refine zG (zFb Z Z q3 Z Z Z Z Z ⟨Z, by omega, by omega⟩) ?_
   by_cases hn0 : p.C.length = 0
   ·rw [show zEE p.C.length N W = List.replicate (N + 1) 0 by rw [hn0]; exact zPD] at fin
    refine zA 81 (.sl (G.length + 4 + i + 1) 0 0) Z (AEq.of_eq (by show AV.sl _ 0 p.C.length = _; rw [hn0])) ?_
    refine ax_copy0 Z Z Z Z ?_
    repeat (first | refine zP ?_ | refine zF ?_)
    exact fin _ ⟨Z, Z, Z, Z, Z, Z, Z, Z, Z, Z, Z, Z, trivial⟩
   ·refine zA 81 (.sl (G.length + 4 + i + 1) 0 p.C.length) Z (AEq.of_eq Z) ?_
    refine ax_copy (c' := zC (zEE p.C.length N W)) (q := p.C.length) Z Z Z Z q4 Z (zIn q3) (by show 0 + (N + 1) ≤ (List.replicate (N + 1) (0 : Int)).length; simp) (by omega) (by show 0 + p.C.length ≤ W.length; omega) (by omega) (Nat.min_eq_left (by omega)) Z Z (by show (zEE _ _ _).length = (List.replicate (N + 1) (0 : Int)).length; simp [zEE]) (fun i' j' hi' hj' => ?_) ?_
    ·have hi2 : i' < N + 1 := by have hi' : i' < (List.replicate (N + 1) (0 : Int)).length := hi'; simpa using hi'
     show (zl ((zEE p.C.length N W).getD i' 0)).getD j' .any = if 0 ≤ i' ∧ i' < 0 + p.C.length then (zl (W.getD (0 + (i' - 0)) 0)).getD j' .any else (zl ((List.replicate (N + 1) (0 : Int)).getD i' 0)).getD j' .any
     rw [show (zEE p.C.length N W).getD i' 0 = (if i' < p.C.length then W.getD i' 0 else 0) from zBL hi2, show (List.replicate (N + 1) (0 : Int)).getD i' 0 = 0 by simp [List.getD, hi2]]
     by_cases hh : i' < p.C.length
     ·rw [if_pos hh, if_pos ⟨Nat.zero_le _, by omega⟩, Nat.zero_add, Nat.sub_zero]
     ·rw [if_neg hh, if_neg (fun q => hh (by omega))]
    refine zR (zY G (some ⟨118, nsC fs2⟩) (N + 1) (p.C.length + p.B.length) i X 1 β [none, some ⟨120, zC W⟩, some ⟨120, zC (zEE p.C.length N W)⟩]) (by have q := zAP (G := G) (F := (some ⟨118, nsC fs2⟩)) (L := N + 1) (w := p.C.length + p.B.length) (k := i) (X := X) (d := 1) (β := β) (T := [none, some ⟨120, zC W⟩, some ⟨120, zC (List.replicate (N + 1) 0)⟩]) 2 (some ⟨120, zC (zEE p.C.length N W)⟩); rw [hXl] at q; exact q) ?_
    repeat (first | refine zP ?_ | refine zF ?_)
    exact fin _ ⟨Z, Z, Z, Z, Z, Z, Z, Z, Z, Z, Z, Z, trivial⟩
  have hO1 := zHR p.C.length N W
  have hOb : ((zEE p.C.length N W).set (p.C.length + i) 1).set N (W.getD p.C.length 0) = zEb p.C.length p.B.length nd.length W i := by rw [hN]; exact out_base hi'
  have hbl := zDY p.C.length p.B.length nd.length W i
  have hnb := neg_base (n := p.C.length) (m := p.B.length) (a := nd.length) (i := i) (W := W)
  have hrn := fun hk => row_neg (n := p.C.length) (m := p.B.length) (a := nd.length) (i := i) (k := zBm p.B i) (W := W) hk
  have hrp := row_pos (n := p.C.length) (m := p.B.length) (a := nd.length) (i := i) (k := zBm p.B i) (W := W)
  rw [← hN] at hbl hnb
  generalize zEE p.C.length N W = O at *
  have q3 := zAk (G := G) (F := (some ⟨118, nsC fs2⟩)) (L := N + 1) (w := p.C.length + p.B.length) (k := i) (X := X) (d := 1) (β := β) (T := [none, some ⟨120, zC W⟩, some ⟨120, zC O⟩]) 1
  have q4 := zAk (G := G) (F := (some ⟨118, nsC fs2⟩)) (L := N + 1) (w := p.C.length + p.B.length) (k := i) (X := X) (d := 1) (β := β) (T := [none, some ⟨120, zC W⟩, some ⟨120, zC O⟩]) 2
  rw [hXl] at q3 q4
  have g1 : p.C.length + i < (zC O).len := by show _ < O.length; omega
  repeat (first | refine zG (zL rfl) ?_ | refine z8 ?_ | refine zV rfl ?_ | refine zG (zCo rfl rfl (by omega)) ?_)
  refine zA 86 (.int .i64 ((p.C.length + i : Nat))) Z (AEq.of_eq (by show AV.int _ _ = AV.int _ _; congr 1)) ?_
  refine zB Z Z Z cw ?_
  repeat (refine zG (zZ rfl rfl rfl (by assumption) (by rfl) (by first | (simp only [Nat.zero_add, Int.toNat_natCast, Int.toNat_zero]; exact rfl) | exact rfl) (by omega)) ?_)
  refine zN (c' := zC (O.set (p.C.length + i) 1)) Z Z Z q4 Z g1 (List.length_set ..) Z (zDM O (p.C.length + i) _) ?_
  refine zR (zY G (some ⟨118, nsC fs2⟩) (N + 1) (p.C.length + p.B.length) i X 1 β [none, some ⟨120, zC W⟩, some ⟨120, zC (O.set (p.C.length + i) 1)⟩]) (by have q := zAP (G := G) (F := (some ⟨118, nsC fs2⟩)) (L := N + 1) (w := p.C.length + p.B.length) (k := i) (X := X) (d := 1) (β := β) (T := [none, some ⟨120, zC W⟩, some ⟨120, zC O⟩]) 2 (some ⟨120, zC (O.set (p.C.length + i) 1)⟩); rw [hXl] at q; exact q) ?_
  clear q3 q4 g1
  have hO2 : (O.set (p.C.length + i) 1).length = N + 1 := by rw [List.length_set]; exact hO1
  generalize O.set (p.C.length + i) 1 = O2 at *
  have q3 := zAk (G := G) (F := (some ⟨118, nsC fs2⟩)) (L := N + 1) (w := p.C.length + p.B.length) (k := i) (X := X) (d := 1) (β := β) (T := [none, some ⟨120, zC W⟩, some ⟨120, zC O2⟩]) 1
  have q4 := zAk (G := G) (F := (some ⟨118, nsC fs2⟩)) (L := N + 1) (w := p.C.length + p.B.length) (k := i) (X := X) (d := 1) (β := β) (T := [none, some ⟨120, zC W⟩, some ⟨120, zC O2⟩]) 2
  rw [hXl] at q3 q4
  have g1 : N < (zC O2).len := by show _ < O2.length; omega
  have g2 : p.C.length < (zC W).len := by show _ < W.length; omega
  repeat (first | refine zG (zL rfl) ?_ | refine zP ?_ | refine zF ?_ | refine z8 ?_ | refine zV rfl ?_ | refine zG (zA5 rfl rfl rfl) ?_ | refine zG (zEN rfl rfl (by omega)) ?_)
  refine zA 92 (.int .i64 (N : Nat)) Z (AEq.of_eq (by show AV.int _ (((N + 1 : Nat) : Int) - 1) = AV.int _ _; congr 1; omega)) ?_
  repeat (first | refine zG (zZ rfl rfl rfl (by assumption) (by rfl) (by first | (simp only [Nat.zero_add, Int.toNat_natCast, Int.toNat_zero]; exact rfl) | exact rfl) (by omega)) ?_ | refine zG (zAD rfl rfl rfl rfl (by assumption) (by rfl) (by rfl) (by first | exact Nat.zero_lt_one | assumption | omega)) ?_)
  refine zA 96 (.agg (zl (W.getD p.C.length 0))) Z (AEq.of_eq Z) ?_
  refine zN (c' := zC (O2.set N (W.getD p.C.length 0))) Z Z Z q4 Z g1 (List.length_set ..) Z (zDM O2 N _) ?_
  refine zR (zY G (some ⟨118, nsC fs2⟩) (N + 1) (p.C.length + p.B.length) i X 1 β [none, some ⟨120, zC W⟩, some ⟨120, zC (zEb p.C.length p.B.length nd.length W i)⟩]) (by have q := zAP (G := G) (F := (some ⟨118, nsC fs2⟩)) (L := N + 1) (w := p.C.length + p.B.length) (k := i) (X := X) (d := 1) (β := β) (T := [none, some ⟨120, zC W⟩, some ⟨120, zC O2⟩]) 2 (some ⟨120, zC (O2.set N (W.getD p.C.length 0))⟩); rw [hXl, hOb] at q; rw [hOb]; exact q) ?_
  clear q3 q4 g1 g2 hOb
  generalize zEb p.C.length p.B.length nd.length W i = Bs at *
  have f1 := zBB (G := G) (F := (some ⟨118, nsC fs2⟩)) (L := N + 1) (w := p.C.length + p.B.length) (k := i) (X := X) (d := 1) (β := β) (T := [none, some ⟨120, zC W⟩, some ⟨120, zC Bs⟩])
  repeat (first | refine zG (zL rfl) ?_ | refine zP ?_ | refine zF ?_ | refine z8 ?_ | refine zV rfl ?_ | refine zG (zCo rfl rfl (by omega)) ?_ | refine zG (zd rfl) ?_ | refine zG (zJ rfl rfl rfl rfl rfl rfl) ?_ | refine zG (zAI rfl rfl rfl (by assumption) (by rfl)) ?_)
  refine zA 105 (.int .i64 ((p.C.length + i : Nat))) Z (AEq.of_eq (by show AV.int _ _ = AV.int _ _; congr 1)) ?_
  have q5 := zFe (G := G) (F := (some ⟨118, nsC fs2⟩)) (L := N + 1) (w := p.C.length + p.B.length) (k := i) (X := X) (d := 1) (β := β) (T := [none, some ⟨120, zC W⟩, some ⟨120, zC Bs⟩])
  have hol5 : (zB5 β).len = β.length := List.length_map ..
  repeat (refine zW rfl rfl rfl rfl rfl rfl rfl rfl rfl rfl rfl ?_)
  refine zAG Z Z Z Z Z Z Z q5 Z hol5 Z Z (by show 0 + 1 ≤ 1; omega) Z (by show (β.length + 1) * 8 ≤ _ ∧ _; omega) (fun _ _ _ _ => rfl) (by rw [hfix]; exact fun h => h) ?_
  refine zBw ((107, .sl (G.length + 2) 0 (β.length + 1)) :: (98, .ptr G.length 0 0) :: [(1, .ptr 0 0 0), (2, .ptr G.length 0 0), (3, .sl (G.length + 1) 0 (i + 1)), (5, .int .i64 (p.C.length : Nat)), (6, .int .i64 (p.B.length : Nat)), (7, .sl 1 0 nd.length), (46, .ro (zn p.A) 0 p.A.length), (47, .int .i64 (p.A.length : Nat)), (48, .int .i64 (i : Nat)), (10, .int .i64 (i : Nat)), (14, .sl (G.length + 4 + i + 2) 0 (N + 1))]) ⟨Z, zA4 (h := G.length + 2) (L := (98, .ptr G.length 0 0) :: [(1, .ptr 0 0 0), (2, .ptr G.length 0 0), (3, .sl (G.length + 1) 0 (i + 1)), (5, .int .i64 (p.C.length : Nat)), (6, .int .i64 (p.B.length : Nat)), (7, .sl 1 0 nd.length), (46, .ro (zn p.A) 0 p.A.length), (47, .int .i64 (p.A.length : Nat)), (48, .int .i64 (i : Nat)), (10, .int .i64 (i : Nat)), (14, .sl (G.length + 4 + i + 2) 0 (N + 1))]) ⟨Z, Z, Z, Z, Z, Z, Z, Z, Z, Z, Z, Z, trivial⟩ (by
   intro q hq
   simp only [List.mem_cons, List.mem_nil_iff, or_false] at hq
   rcases hq with rfl | rfl | rfl | rfl | rfl | rfl | rfl | rfl | rfl | rfl | rfl | rfl <;> simp [AV.forget, zx (show 0 ≠ G.length + 2 by omega), zx (show 1 ≠ G.length + 2 by omega), zx (show G.length ≠ G.length + 2 by omega), zx (show G.length + 1 ≠ G.length + 2 by omega), zx (show G.length + 4 + i + 2 ≠ G.length + 2 by omega)])⟩ ?_
  refine zAl (zKN G (some ⟨118, nsC fs2⟩) (N + 1) (p.C.length + p.B.length) i X 1 (β ++ [p.C.length + i]) [none, some ⟨120, zC W⟩, some ⟨120, zC Bs⟩]) (zKI (hFG _) (hFf _ _) (zLh β (p.C.length + i)) (by show ze [none, some (⟨_, (zC W).forget _⟩ : AObj), some (⟨_, (zC Bs).forget _⟩ : AObj)] _; rw [zBY, zBY]; exact ze.refl _)) ?_
  refine zA 107 (.sl (G.length + 2) 0 (β ++ [p.C.length + i]).length) Z (AEq.of_eq (by rw [List.length_append]; rfl)) ?_
  repeat (first | refine zG (zd rfl) ?_ | refine zG (zJ rfl rfl rfl rfl rfl rfl) ?_)
  refine zCG Z Z Z Z bas_box Z Z Nat.zero_lt_one ?_
  refine zR (zY G (some ⟨118, nsC fs2⟩) (N + 1) (p.C.length + p.B.length) i X 1 (β ++ [p.C.length + i]) [none, some ⟨120, zC W⟩, some ⟨120, zC Bs⟩]) bas_set ?_
  clear f1 q5 hol5
  have ci := indexI (nd.map (fun a : Nat => (a : Int))) (i : Nat) (by rw [List.length_map]; omega)
  have hid := need_idx p.B hi'
  rw [hnd] at hid
  rw [hid, List.length_map] at ci
  repeat (first | refine zG (zL rfl) ?_ | refine zP ?_ | refine zF ?_ | refine z8 ?_ | refine zV rfl ?_)
  refine zQZ [none, some ⟨3, zB5 nd⟩] Z Z Z Z ci (fun h o ho => by
   match h, ho with
   | 1, ho => cases ho; exact hg1 _ _ _ _ _) (fun h o ho => by
   match h, ho with
   | 1, ho => cases ho; exact zBI) ⟨fun o ho => by cases ho; show 0 + nd.length ≤ (nd.map _).length; rw [List.length_map]; omega, trivial, trivial⟩ rfl rfl rfl ?_
  repeat (first | refine zG (zi rfl) ?_ | refine zP ?_ | refine zF ?_)
  clear hid ci hβv hXv
  have hneg : p.neg i = decide ((p.B.getD i 0).num < 0) := rfl
  apply zAM (H := zY G (some ⟨118, nsC fs2⟩) (N + 1) (p.C.length + p.B.length) i X 1 β2 [none, some ⟨120, zC W⟩, some ⟨120, zC (zDN p.C.length p.B.length nd.length W i (p.neg i) (zBm p.B i))⟩]) [(1, .ptr 0 0 0), (2, .ptr G.length 0 0), (3, .sl (G.length + 1) 0 (i + 1)), (5, .int .i64 (p.C.length : Nat)), (6, .int .i64 (p.B.length : Nat)), (7, .sl 1 0 nd.length), (46, .ro (zn p.A) 0 p.A.length), (47, .int .i64 (p.A.length : Nat)), (48, .int .i64 (i : Nat)), (10, .int .i64 (i : Nat)), (14, .sl (G.length + 4 + i + 2) 0 (N + 1))]
  ·intro fin
   by_cases hng : (p.B.getD i 0).num < 0
   ·have hka : zBm p.B i < nd.length := by rw [← hnd]; exact zIu hng hi'
    rw [hneg, decide_eq_true hng] at fin
    rw [hneg, decide_eq_true hng, if_pos rfl] at hβ1
    rw [← hrn hka] at fin
    refine zAN 15 (.int .i64 (zBm p.B i : Nat)) Z (AEq.of_eq (by rw [if_pos hng])) ?_
    repeat (first | refine zG (zL rfl) ?_ | refine zP ?_ | refine zF ?_ | refine z8 ?_ | refine zV rfl ?_ | refine zBU rfl ?_ | refine z7 ?_ | refine zG (zIE rfl rfl) ?_ | refine zG (zA5 rfl rfl rfl) ?_)
    refine zh (ι := Nat) (fun j => [(1, .ptr 0 0 0), (2, .ptr G.length 0 0), (3, .sl (G.length + 1) 0 (i + 1)), (5, .int .i64 (p.C.length : Nat)), (6, .int .i64 (p.B.length : Nat)), (7, .sl 1 0 nd.length), (46, .ro (zn p.A) 0 p.A.length), (47, .int .i64 (p.A.length : Nat)), (48, .int .i64 (i : Nat)), (10, .int .i64 (i : Nat)), (14, .sl (G.length + 4 + i + 2) 0 (N + 1)), (15, .int .i64 (zBm p.B i : Nat)), (116, .int .i64 ((N + 1 : Nat))), (117, .int .i64 (j : Nat))]) (fun j => zY G (some ⟨118, nsC fs2⟩) (N + 1) (p.C.length + p.B.length) i X 1 (β ++ [p.C.length + i]) [none, some ⟨120, zC W⟩, some ⟨120, zC (chg (fun j => -(Bs.getD j 0)) 0 Bs j)⟩]) (fun j => j ≤ N + 1) (fun j => N + 1 - j) 0 ⟨⟨Z, Z, Z, Z, Z, Z, Z, Z, Z, Z, Z, Z, Z, Z, trivial⟩, by rw [zDC], Nat.zero_le _⟩ ?_
    intro j hj
    repeat (first | refine zP ?_ | refine zF ?_ | refine z8 ?_ | refine zV rfl ?_ | refine zG (zEZ rfl rfl) ?_)
    refine zD Z (fun h9 => ?_) (fun h9 => ?_)
    ·have hj' : j < N + 1 := by omega
     have hgj := zC5 (fun j => -(Bs.getD j 0)) 0 Bs (k := j) (i := j) (by omega)
     rw [if_neg (Nat.lt_irrefl j)] at hgj
     have hsj := zDp (fun j => -(Bs.getD j 0)) 0 Bs (k := j) (by omega)
     have hlj := zCm (fun j => -(Bs.getD j 0)) 0 Bs j
     rw [← hgj] at hsj
     generalize chg (fun j => -(Bs.getD j 0)) 0 Bs j = Y at *
     have q4 := zAk (G := G) (F := (some ⟨118, nsC fs2⟩)) (L := N + 1) (w := p.C.length + p.B.length) (k := i) (X := X) (d := 1) (β := (β ++ [p.C.length + i])) (T := [none, some ⟨120, zC W⟩, some ⟨120, zC Y⟩]) 2
     rw [hXl] at q4
     have g1 : j < (zC Y).len := by show j < Y.length; omega
     have co := zGZ (Y.getD j 0)
     repeat (first | refine zG (zL rfl) ?_ | refine zG (zi rfl) ?_ | refine zP ?_ | refine zF ?_ | refine z8 ?_ | refine zV rfl ?_ | refine z7 ?_ | refine zAh ?_ | refine zG (zZ rfl rfl rfl (by assumption) (by rfl) (by first | (simp only [Nat.zero_add, Int.toNat_natCast, Int.toNat_zero]; exact rfl) | exact rfl) (by omega)) ?_ | refine zG (zAD rfl rfl rfl rfl (by assumption) (by rfl) (by rfl) (by first | exact Nat.zero_lt_one | assumption | omega)) ?_)
     refine zA 125 (zBD (Y.getD j 0)) Z (AEq.of_eq Z) ?_
     refine zB Z Z Z co ?_
     repeat (refine zG (zZ rfl rfl rfl (by assumption) (by rfl) (by first | (simp only [Nat.zero_add, Int.toNat_natCast, Int.toNat_zero]; exact rfl) | exact rfl) (by omega)) ?_)
     refine zN (c' := zC (Y.set j (-(Y.getD j 0)))) Z Z Z q4 Z g1 (List.length_set ..) Z (zDM Y j _) ?_
     refine zR (zY G (some ⟨118, nsC fs2⟩) (N + 1) (p.C.length + p.B.length) i X 1 (β ++ [p.C.length + i]) [none, some ⟨120, zC W⟩, some ⟨120, zC (Y.set j (-(Y.getD j 0)))⟩]) (by have q := zAP (G := G) (F := (some ⟨118, nsC fs2⟩)) (L := N + 1) (w := p.C.length + p.B.length) (k := i) (X := X) (d := 1) (β := (β ++ [p.C.length + i])) (T := [none, some ⟨120, zC W⟩, some ⟨120, zC Y⟩]) 2 (some ⟨120, zC (Y.set j (-(Y.getD j 0)))⟩); rw [hXl] at q; exact q) ?_
     repeat (first | refine zG (zL rfl) ?_ | refine zP ?_ | refine zF ?_ | refine zV rfl ?_ | refine zAf ?_ | refine zG (zCo rfl rfl (by omega)) ?_)
     exact zM ⟨j + 1, by omega, by omega, ⟨Z, Z, Z, Z, Z, Z, Z, Z, Z, Z, Z, Z, Z, Z, trivial⟩, by rw [← hsj]⟩
    ·have hje : j = N + 1 := by omega
     rw [hje, hnb]
     have hNl : (Bs.map (fun x => -x)).length = N + 1 := by rw [List.length_map]; omega
     have q4 := zAk (G := G) (F := (some ⟨118, nsC fs2⟩)) (L := N + 1) (w := p.C.length + p.B.length) (k := i) (X := X) (d := 1) (β := (β ++ [p.C.length + i])) (T := [none, some ⟨120, zC W⟩, some ⟨120, zC (Bs.map (fun x => -x))⟩]) 2
     rw [hXl] at q4
     have g1 : p.C.length + p.B.length + zBm p.B i < (zC (Bs.map (fun x => -x))).len := by show _ < (Bs.map (fun x => -x)).length; omega
     repeat (first | refine zG (zL rfl) ?_ | refine zP ?_ | refine zF ?_ | refine z8 ?_ | refine zV rfl ?_ | refine zAh ?_ | refine zDP ?_ | refine zBJ ?_ | refine zBF ?_ | refine zBa ?_ | refine zG (zCo rfl rfl (by omega)) ?_)
     refine zA 134 (.int .i64 ((p.C.length + p.B.length + zBm p.B i : Nat))) Z (AEq.of_eq (by show AV.int _ _ = AV.int _ _; congr 1)) ?_
     refine zB Z Z Z cw ?_
     repeat (refine zG (zZ rfl rfl rfl (by assumption) (by rfl) (by first | (simp only [Nat.zero_add, Int.toNat_natCast, Int.toNat_zero]; exact rfl) | exact rfl) (by omega)) ?_)
     refine zN (c' := zC ((Bs.map (fun x => -x)).set (p.C.length + p.B.length + zBm p.B i) 1)) Z Z Z q4 Z g1 (List.length_set ..) Z (zDM (Bs.map (fun x => -x)) (p.C.length + p.B.length + zBm p.B i) _) ?_
     refine zR (zY G (some ⟨118, nsC fs2⟩) (N + 1) (p.C.length + p.B.length) i X 1 (β ++ [p.C.length + i]) [none, some ⟨120, zC W⟩, some ⟨120, zC ((Bs.map (fun x => -x)).set (p.C.length + p.B.length + zBm p.B i) 1)⟩]) (by have q := zAP (G := G) (F := (some ⟨118, nsC fs2⟩)) (L := N + 1) (w := p.C.length + p.B.length) (k := i) (X := X) (d := 1) (β := (β ++ [p.C.length + i])) (T := [none, some ⟨120, zC W⟩, some ⟨120, zC (Bs.map (fun x => -x))⟩]) 2 (some ⟨120, zC ((Bs.map (fun x => -x)).set (p.C.length + p.B.length + zBm p.B i) 1)⟩); rw [hXl] at q; exact q) ?_
     have f1 := zBB (G := G) (F := (some ⟨118, nsC fs2⟩)) (L := N + 1) (w := p.C.length + p.B.length) (k := i) (X := X) (d := 1) (β := (β ++ [p.C.length + i])) (T := [none, some ⟨120, zC W⟩, some ⟨120, zC ((Bs.map (fun x => -x)).set (p.C.length + p.B.length + zBm p.B i) 1)⟩])
     have q5 := zFe (G := G) (F := (some ⟨118, nsC fs2⟩)) (L := N + 1) (w := p.C.length + p.B.length) (k := i) (X := X) (d := 1) (β := (β ++ [p.C.length + i])) (T := [none, some ⟨120, zC W⟩, some ⟨120, zC ((Bs.map (fun x => -x)).set (p.C.length + p.B.length + zBm p.B i) 1)⟩])
     have g5 : (β ++ [p.C.length + i]).length = i + 1 := by rw [List.length_append, hβl]; rfl
     repeat (first | refine zG (zL rfl) ?_ | refine zP ?_ | refine zF ?_ | refine z8 ?_ | refine zV rfl ?_ | refine zG (zCo rfl rfl (by omega)) ?_ | refine zG (zd rfl) ?_ | refine zG (zJ rfl rfl rfl rfl rfl rfl) ?_ | refine zG (zZ rfl rfl rfl (by assumption) (by rfl) (by first | (simp only [Nat.zero_add, Int.toNat_natCast, Int.toNat_zero]; exact rfl) | exact rfl) (by omega)) ?_ | refine zG (zAI rfl rfl rfl (by assumption) (by rfl)) ?_)
     refine zA 146 (.int .i64 ((p.C.length + p.B.length + zBm p.B i : Nat))) Z (AEq.of_eq (by show AV.int _ _ = AV.int _ _; congr 1)) ?_
     refine zCG Z Z Z Z q5 Z Z (by show i < (List.map _ _).length; rw [List.length_map, List.length_append]; show i < β.length + 1; omega) ?_
     have hset : (β ++ [p.C.length + i]).set i (p.C.length + p.B.length + zBm p.B i) = β2 := by
      rw [hβ1, List.set_append_right _ _ (by omega), hβl, Nat.sub_self]; rfl
     refine zR (zY G (some ⟨118, nsC fs2⟩) (N + 1) (p.C.length + p.B.length) i X 1 β2 [none, some ⟨120, zC W⟩, some ⟨120, zC ((Bs.map (fun x => -x)).set (p.C.length + p.B.length + zBm p.B i) 1)⟩]) (by
      rw [← hset]
      rw [← zKA (β := β ++ [p.C.length + i]) (List.length_set ..)]
      show _ = List.set _ _ (some (⟨3, .ints .i64 (((β ++ [p.C.length + i]).set i (p.C.length + p.B.length + zBm p.B i)).map (fun a : Nat => (a : Int)))⟩ : AObj))
      rw [List.map_set]) ?_
     repeat (first | refine zP ?_ | refine zF ?_)
     exact fin _ ⟨Z, Z, Z, Z, Z, Z, Z, Z, Z, Z, Z, trivial⟩
   ·rw [hneg, decide_eq_false hng] at fin
    rw [hneg, decide_eq_false hng, if_neg Bool.false_ne_true] at hβ1
    rw [← hrp, hβ1] at fin
    refine zAN 15 (.int .i64 (-1)) Z (AEq.of_eq (by rw [if_neg hng])) ?_
    repeat (first | refine zP ?_ | refine zF ?_)
    refine z8 ?_
    refine zV Z ?_
    repeat (first | refine zG (zL rfl) ?_ | refine zP ?_ | refine zF ?_ | refine zAT rfl ?_ | refine zAh ?_ | refine zG (zIE rfl rfl) ?_)
    exact fin _ ⟨Z, Z, Z, Z, Z, Z, Z, Z, Z, Z, Z, trivial⟩
  clear hneg hβ1 hnb hrn hrp hbl cw hnd
  generalize hRW : (zDN p.C.length p.B.length nd.length W i (p.neg i) (zBm p.B i)) = R at *
  have q6 := zAk (G := G) (F := (some ⟨118, nsC fs2⟩)) (L := N + 1) (w := p.C.length + p.B.length) (k := i) (X := X) (d := 1) (β := β2) (T := [none, some ⟨120, zC W⟩, some ⟨120, zC R⟩]) 2
  rw [hXl] at q6
  refine zP1 (G.length + 4 + i) (G.length + 4 + i + 2) 14 (N + 1) (by omega) (by rw [zBM, hXl]; show G.length + 4 + i < G.length + 4 + i + 3; omega) q6 (by rw [hfix]; exact fun h => h) Z ?_
  refine zQH ((14, .sl (G.length + 4 + i) 0 (N + 1)) :: [(1, .ptr 0 0 0), (2, .ptr G.length 0 0), (3, .sl (G.length + 1) 0 (i + 1)), (5, .int .i64 (p.C.length : Nat)), (6, .int .i64 (p.B.length : Nat)), (7, .sl 1 0 nd.length), (46, .ro (zn p.A) 0 p.A.length), (47, .int .i64 (p.A.length : Nat)), (48, .int .i64 (i : Nat)), (10, .int .i64 (i : Nat))]) ⟨Z, zA4 (h := G.length + 4 + i) (L := [(1, .ptr 0 0 0), (2, .ptr G.length 0 0), (3, .sl (G.length + 1) 0 (i + 1)), (5, .int .i64 (p.C.length : Nat)), (6, .int .i64 (p.B.length : Nat)), (7, .sl 1 0 nd.length), (46, .ro (zn p.A) 0 p.A.length), (47, .int .i64 (p.A.length : Nat)), (48, .int .i64 (i : Nat)), (10, .int .i64 (i : Nat))]) ⟨Z, Z, Z, Z, Z, Z, Z, Z, Z, Z, trivial⟩ (by
   intro q hq
   simp only [List.mem_cons, List.mem_nil_iff, or_false] at hq
   rcases hq with rfl | rfl | rfl | rfl | rfl | rfl | rfl | rfl | rfl | rfl <;> simp [AV.forget, zx (show G.length ≠ G.length + 4 + i by omega), zx (show G.length + 1 ≠ G.length + 4 + i by omega), zx (show 0 ≠ G.length + 4 + i by omega), zx (show 1 ≠ G.length + 4 + i by omega)])⟩ ?_
  refine zBH (zY G (some ⟨118, nsC fs2⟩) (N + 1) (p.C.length + p.B.length) i X 1 β2 [some ⟨120, zC R⟩, some ⟨120, zC W⟩, none]) (by
   have q := ze.set (ze.set (zLH (G := G) (F := some ⟨118, nsC fs2⟩) (L := N + 1) (w := p.C.length + p.B.length) (k := i) (X := X) (d := 1) (β := β2) (T := [none, some ⟨120, zC W⟩, some ⟨120, zC R⟩]) (T' := [none, some ⟨120, zC W⟩, some ⟨120, zC R⟩]) (G.length + 4 + i) (.inl (by omega)) (hFG _) (hFf _ _) (by show ze [none, some (⟨_, (zC W).forget _⟩ : AObj), some (⟨_, (zC R).forget _⟩ : AObj)] _; rw [zBY, zBY]; exact ze.refl _)) (G.length + 4 + i) (x := some ⟨120, (zC R).forget (G.length + 4 + i)⟩) (x' := some ⟨120, zC R⟩) (fun o ho => by cases ho; exact ⟨_, rfl, rfl, by rw [zBY]; exact CEq.refl _⟩)) (G.length + 4 + i + 2) (x := none) (x' := none) (fun o ho => by cases ho)
   have e1 : (zY G (some ⟨118, nsC fs2⟩) (N + 1) (p.C.length + p.B.length) i X 1 β2 [none, some ⟨120, zC W⟩, some ⟨120, zC R⟩]).set (G.length + 4 + i) (some ⟨120, zC R⟩) = zY G (some ⟨118, nsC fs2⟩) (N + 1) (p.C.length + p.B.length) i X 1 β2 [some ⟨120, zC R⟩, some ⟨120, zC W⟩, some ⟨120, zC R⟩] := by
    have q := zAP (G := G) (F := (some ⟨118, nsC fs2⟩)) (L := N + 1) (w := p.C.length + p.B.length) (k := i) (X := X) (d := 1) (β := β2) (T := [none, some ⟨120, zC W⟩, some ⟨120, zC R⟩]) 0 (some ⟨120, zC R⟩)
    rw [hXl] at q
    exact q
   have e2 := zAP (G := G) (F := (some ⟨118, nsC fs2⟩)) (L := N + 1) (w := p.C.length + p.B.length) (k := i) (X := X) (d := 1) (β := β2) (T := [some ⟨120, zC R⟩, some ⟨120, zC W⟩, some ⟨120, zC R⟩]) 2 none
   rw [hXl] at e2
   rw [e1] at q
   exact (show ze _ _ from e2 ▸ q)) ?_
  refine zA3 (zY G (some ⟨118, nsC fs2⟩) (N + 1) (p.C.length + p.B.length) i X 1 β2 [some ⟨120, zC R⟩]) [some ⟨120, zC W⟩, none] ((14, .sl (G.length + 4 + i) 0 (N + 1)) :: [(1, .ptr 0 0 0), (2, .ptr G.length 0 0), (3, .sl (G.length + 1) 0 (i + 1)), (5, .int .i64 (p.C.length : Nat)), (6, .int .i64 (p.B.length : Nat)), (7, .sl 1 0 nd.length), (46, .ro (zn p.A) 0 p.A.length), (47, .int .i64 (p.A.length : Nat)), (48, .int .i64 (i : Nat)), (10, .int .i64 (i : Nat))]) (by rw [zAj]; rfl) ⟨Z, Z, Z, Z, Z, Z, Z, Z, Z, Z, Z, trivial⟩ (fun h hh => by rw [hfix] at hh; exact hh.elim)
   (zCQ hG _ (by rw [zBM]; exact Nat.le_add_right _ _) (fun o ho => by cases ho; exact zMs _ _) (fun o ho => by cases List.mem_singleton.1 ho; exact fun i' j' hi' hj' => zFf _ _ _ hj')) (by rw [zBM, hXl]; simp [zCl, zBR]; omega) ?_
  clear q6
  have f1 := zBB (G := G) (F := (some ⟨118, nsC fs2⟩)) (L := N + 1) (w := p.C.length + p.B.length) (k := i) (X := X) (d := 1) (β := β2) (T := [some ⟨120, zC R⟩])
  repeat (first | refine zG (zL rfl) ?_ | refine zV rfl ?_ | refine zG (zd rfl) ?_ | refine zG (zJ rfl rfl rfl rfl rfl rfl) ?_ | refine zG (zAI rfl rfl rfl (by assumption) (by rfl)) ?_)
  refine zCj Z Z Z Z Z Z Z Z Z Z ?_
  refine zR (zY G (some ⟨118, nsC fs2⟩) (N + 1) (p.C.length + p.B.length) i X 1 β2 [some ⟨120, zC R⟩, some ⟨248, zB4 1 1 [.sl (G.length + 4 + i) 0 (N + 1)]⟩]) (by rw [zAj]; rfl) ?_
  refine zA 154 (.sl (G.length + 4 + i + 1) 0 1) Z (AEq.of_eq (by rw [zBM, hXl]; rfl)) ?_
  have f2 := zCk (G := G) (F := (some ⟨118, nsC fs2⟩)) (L := N + 1) (w := p.C.length + p.B.length) (k := i) (X := X) (d := 1) (β := β2) (T := [some ⟨120, zC R⟩, some ⟨248, zB4 1 1 [.sl (G.length + 4 + i) 0 (N + 1)]⟩])
  have f3 := zAk (G := G) (F := (some ⟨118, nsC fs2⟩)) (L := N + 1) (w := p.C.length + p.B.length) (k := i) (X := X) (d := 1) (β := β2) (T := [some ⟨120, zC R⟩, some ⟨248, zB4 1 1 [.sl (G.length + 4 + i) 0 (N + 1)]⟩]) 1
  rw [hXl] at f3
  have hol : (zBr G.length X.length (N + 1)).len = i := hXl
  repeat (refine zP ?_)
  refine zAG Z Z Z Z Z Z Z f2 Z hol Z (zIn f3) (by show 0 + 1 ≤ 1; omega) Z (by show (i + 1) * 24 ≤ _ ∧ _; omega) ?_ (by rw [hfix]; exact fun h => h) ?_
  ·intro i' j' hi' hj'
   obtain rfl := Nat.lt_one_iff.1 (show j' < 1 from hj')
   have q := (zEu G.length X.length (N + 1) (zB4 1 1 [AV.sl (G.length + 4 + i) 0 (N + 1)]) (by rw [hXl]; rfl)).2.2 i' 0 hi' Nat.zero_lt_one
   refine Eq.trans (congrArg (AV.forget _) q.symm) (Eq.trans ?_ q)
   show AV.forget _ (AV.sl (G.length + 4 + i') 0 (N + 1)) = _
   unfold AV.forget
   rw [zx (show G.length + 4 + i' ≠ G.length + 3 by omega)]; rfl
  refine zBw ((155, .sl (G.length + 3) 0 (i + 1)) :: (148, .ptr G.length 0 0) :: [(1, .ptr 0 0 0), (2, .ptr G.length 0 0), (3, .sl (G.length + 1) 0 (i + 1)), (5, .int .i64 (p.C.length : Nat)), (6, .int .i64 (p.B.length : Nat)), (7, .sl 1 0 nd.length), (46, .ro (zn p.A) 0 p.A.length), (47, .int .i64 (p.A.length : Nat)), (48, .int .i64 (i : Nat)), (10, .int .i64 (i : Nat))]) ⟨Z, zA4 (h := G.length + 3) (L := (148, .ptr G.length 0 0) :: [(1, .ptr 0 0 0), (2, .ptr G.length 0 0), (3, .sl (G.length + 1) 0 (i + 1)), (5, .int .i64 (p.C.length : Nat)), (6, .int .i64 (p.B.length : Nat)), (7, .sl 1 0 nd.length), (46, .ro (zn p.A) 0 p.A.length), (47, .int .i64 (p.A.length : Nat)), (48, .int .i64 (i : Nat)), (10, .int .i64 (i : Nat))]) ⟨Z, Z, Z, Z, Z, Z, Z, Z, Z, Z, Z, trivial⟩ (by
   intro q hq
   simp only [List.mem_cons, List.mem_nil_iff, or_false] at hq
   rcases hq with rfl | rfl | rfl | rfl | rfl | rfl | rfl | rfl | rfl | rfl | rfl <;> simp [AV.forget, zx (show 0 ≠ G.length + 3 by omega), zx (show 1 ≠ G.length + 3 by omega), zx (show G.length ≠ G.length + 3 by omega), zx (show G.length + 1 ≠ G.length + 3 by omega)])⟩ ?_
  refine zAl (zJw G (some ⟨118, nsC fs2⟩) (N + 1) (p.C.length + p.B.length) (X ++ [R]) 1 β2 [none]) (zOc (hFG _) (hFf _ _) (zEu G.length X.length (N + 1) _ (by rw [hXl]; rfl))) ?_
  repeat (first | refine zG (zd rfl) ?_ | refine zG (zJ rfl rfl rfl rfl rfl rfl) ?_)
  refine zCG Z Z Z Z anyF_box Z Z Nat.zero_lt_one ?_
  refine zR (zY G (some ⟨118, nsC fs2⟩) (N + 1) (p.C.length + p.B.length) (i + 1) (X ++ [R]) 1 β2 [none]) anyF_set ?_
  repeat (first | refine zP ?_ | refine zF ?_ | refine zAf ?_)
  have hl1 : (X ++ [R]).length = i + 1 := by rw [List.length_append, hXl]; rfl
  refine zA3 (zY G (some ⟨118, nsC fs2⟩) (N + 1) (p.C.length + p.B.length) (i + 1) (X ++ [R]) 1 β2 []) [none] [(1, .ptr 0 0 0), (2, .ptr G.length 0 0), (3, .sl (G.length + 1) 0 (i + 1)), (5, .int .i64 (p.C.length : Nat)), (6, .int .i64 (p.B.length : Nat)), (7, .sl 1 0 nd.length), (46, .ro (zn p.A) 0 p.A.length), (47, .int .i64 (p.A.length : Nat)), (48, .int .i64 (i : Nat)), (10, .int .i64 (i : Nat))] (by rw [zAj]; rfl) ⟨Z, Z, Z, Z, Z, Z, Z, Z, Z, Z, trivial⟩ (fun h hh => by rw [hfix] at hh; exact hh.elim)
   (zCQ hG _ (by rw [zBM]; exact Nat.le_add_right _ _) (fun o ho => by cases ho; exact zMs _ _) (fun o ho => by cases ho)) (by rw [zBM, hl1]; simp [zCl, zBR]; omega) ?_
  repeat (first | refine zG (zL rfl) ?_ | refine zP ?_ | refine zV rfl ?_ | refine zG (zCo rfl rfl (by omega)) ?_)
  exact zM ⟨i + 1, by omega, by omega, ⟨Z, Z, Z, Z, Z, Z, Z, Z, Z, trivial⟩, by rw [hfs2', hX2, hβ2, hX1]⟩
 have hie : i = p.B.length := by omega
 rw [hie]
 clear hi h hie
 clear i
 have hT1 : (zBK p).take p.B.length = zBK p := List.take_of_length_le (by rw [show (zBK p).length = p.B.length from zCb p]; exact Nat.le_refl _)
 have hB1 : (zBl p).take p.B.length = zBl p := List.take_of_length_le (by rw [show (zBl p).length = p.B.length from zGU p]; exact Nat.le_refl _)
 rw [hT1, hB1]
 have hfl : ((List.range p.B.length).map p.fac).length = p.B.length := by simp
 generalize (List.range p.B.length).map p.fac = fs at *
 have q2 := tb_fac (G := G) (F := (some ⟨118, nsC fs⟩)) (L := N + 1) (w := p.C.length + p.B.length) (k := p.B.length) (X := (zBK p)) (d := 1) (β := (zBl p)) (T := [])
 repeat (first | refine zF ?_ | refine zDP ?_ | refine zBJ ?_ | refine zBF ?_ | refine zBa ?_)
 refine zAW (G.length + 1) 3 p.B.length [(2, .ptr G.length 0 0), (7, .sl 1 0 nd.length)] q2 (zOk _) Z (by show _ ≤ fs.length; omega) ⟨Z, Z, trivial⟩ ?_
 refine zBH (zY [none, none] none (N + 1) (p.C.length + p.B.length) p.B.length (zBK p) 1 (zBl p) []) (by
  subst hGG
  exact ze.drop (ze.drop (ze.same (ze.drop (ze.refl _))))) ?_
 repeat (first | refine zG (zL rfl) ?_ | refine zG (zi rfl) ?_ | refine zP ?_ | refine zF ?_ | refine z8 ?_ | refine zV rfl ?_ | refine zBO ?_ | refine zG (zA5 rfl rfl rfl) ?_)
 exact zI hR Z ⟨by rw [← hGG]; rfl, Z⟩
end Go.Proofs.YtnkealfaldjipaaGreatDoor
namespace Go.Proofs.YtnkealfaldjipaaGreatDoor
open Go.Ax Go.Ax.Bg Go.Ax.Rt Go.RowKit Go.Ax.Dt Go.Ax.Sx
attribute [local irreducible] Ax zBZ QOp zS zBC
set_option maxRecDepth 100000
set_option maxHeartbeats 4000000
/-- Numbers that may not be there yet. -/
def zKZ : Option Rat → List AV
 | some q => zq q
 | none => [.bool false, .nil, .nil]
abbrev zsC (l : List (Option Rat)) : Cells := zDg none 3 zKZ l
theorem zPh (n : Nat) : CEq (zBN n [.bool false, .nil, .nil]) (zsC (List.replicate n none)) := by
 refine ⟨by simp [zDg, Cells.len, zBN], Z, fun i j hi hj => ?_⟩
 have hi : i < n := by simpa [Cells.len, zBN] using hi
 show (zKZ ((List.replicate n (none : Option Rat)).getD i none)).getD j .any = _
 rw [zDo none (by simpa using hi), List.getElem_replicate]
 rfl
theorem zs_map (l : List Rat) : CEq (zsC (l.map some)) (qsC l) := by
 refine ⟨by simp [zDg, Cells.len], Z, fun i j hi hj => ?_⟩
 have hi : i < l.length := by simpa [zDg, Cells.len] using hi
 show (zq (l.getD i 0)).getD j .any = (zKZ ((l.map some).getD i none)).getD j .any
 rw [zCe some l 0 none i hi]
 rfl
theorem zKk (l : List Rat) (n : Nat) : zBu n (qsC l) := by
 intro i j _ hj
 show zBR n ((zq (l.getD i 0)).getD j .any) = true
 have hj : j < 3 := hj
 match j, hj with
 | 0, _ => rfl
 | 1, _ => rfl
 | 2, _ => rfl
theorem zHE {α : Type} (d : α) (n : Nat) (e : α → List AV) (zs : List α) (k : Nat) (a : α) (hk : k < zs.length) (i' j' : Nat) (hi' : i' < zs.length) (hj' : j' < n) : (zDg d n e (zs.set k a)).at i' j' = if i' = k then (e a).getD j' .any else (zDg d n e zs).at i' j' := by
 show (e ((zs.set k a).getD i' d)).getD j' .any = if i' = k then (e a).getD j' .any else (e (zs.getD i' d)).getD j' .any
 rw [Go.Ax.Dt.getD_set]
 by_cases h : i' = k
 ·rw [if_pos h, if_pos ⟨h, hk⟩]
 ·rw [if_neg h, if_neg (fun q => h q.1)]
theorem zQB (n : Nat) : chg (fun _ => some (0 : Rat)) none (List.replicate n none) n = (List.replicate n (0 : Rat)).map some := by
 have := zEh (fun _ => some (0 : Rat)) none (List.replicate n none)
 rw [List.length_replicate] at this
 rw [this, List.map_replicate]
 apply List.ext_getElem (by simp)
 intro i h1 h2
 simp
theorem zAz (β : List Nat) (i : Nat) : (β.map (fun a : Nat => (a : Int))).getD i 0 = ((β.getD i 0 : Nat) : Int) := by
 simp only [List.getD, List.getElem?_map]
 cases β[i]? <;> rfl
theorem zFy (G : zO) (hG : OkG G) (N w k : Nat) (X : Tab) (d : Int) (β : List Nat) (T : zO) (hT : ∀ m, G.length + 4 + X.length ≤ m → ∀ o : AObj, some o ∈ T → zBu m o.c) (n0 : Nat) (hn0 : n0 ≤ 1000000) (hkX : k ≤ X.length) (hβ : β.length ≤ k) (hk40 : k ≤ 1000000)
 (hL : ∀ x ∈ X, x.length = N + 1) (hL40 : N + 1 ≤ 1000000) (hd : d ≠ 0) (hX : ∀ i, i < β.length → (zT (at2 X i N).natAbs).length ≤ 1000000) (hdl : (zT d.natAbs).length ≤ 1000000) :
 zS Tryz.prog 170 [.ptr G.length 0 0, .int .i64 (n0 : Nat)] (zY G none (N + 1) w k X d β T) (fun h => h < (zY G none (N + 1) w k X d β T).length)
  (fun r' H' => r' = .ro (qsC (zB3 n0 β (fun i => Rat.divInt (at2 X i N) d) (List.replicate n0 0) β.length)) 0 n0 ∧ H' = zY G none (N + 1) w k X d β T) := by
 have hlen : ∀ T, (zY G none (N + 1) w k X d β T).length = G.length + 4 + X.length + T.length := fun T => zBM
 refine zE (P := Tryz.prog) (fn := Tryz.f170) Z Z (by kernel_rfl) Z (fun c hR hfix => ?_)
 refine rn0 ?_
 refine zC4 Z Z Z Z Z Z Z Z (by show (0 : Int) ≤ _ ∧ _ ≤ _ ∧ (56 : Int) * _ ≤ _ ∧ _; omega) ?_
 refine zAl (zY G none (N + 1) w k X d β T ++ [some ⟨122, zsC (List.replicate n0 none)⟩]) (ze.append (ze.refl _) (ze.eqv (zPh _) ze.nil)) ?_
 refine zR (zY G none (N + 1) w k X d β (T ++ [some ⟨122, zsC (chg (fun _ => some (0 : Rat)) none (List.replicate n0 none) 0)⟩])) (by rw [zAj, zDC]) ?_
 refine zA 10 (.sl (G.length + 4 + X.length + T.length) 0 n0) Z (AEq.of_eq (by rw [hlen]; rfl)) ?_
 refine rn3 ?_
 refine zh (ι := Nat) (fun i => [(0, .ptr G.length 0 0), (1, .int .i64 (n0 : Nat)), (5, .sl (G.length + 4 + X.length + T.length) 0 n0), (12, .int .i64 (n0 : Nat)), (13, .int .i64 (i : Nat))]) (fun i => zY G none (N + 1) w k X d β (T ++ [some ⟨122, zsC (chg (fun _ => some (0 : Rat)) none (List.replicate n0 none) i)⟩]))
  (fun i => i ≤ n0) (fun i => n0 - i) 0 ⟨⟨rfl, rfl, rfl, rfl, rfl, trivial⟩, rfl, Nat.zero_le _⟩ ?_
 intro i hi
 refine rn4 ?_
 refine zD Z (fun h => ?_) (fun h => ?_)
 ·have hi' : i < n0 := by omega
  have hst := zDp (fun _ => some (0 : Rat)) none (List.replicate n0 none) (k := i) (by simpa using hi')
  have hAl : (chg (fun _ => some (0 : Rat)) none (List.replicate n0 none) i).length = n0 := by rw [zCm]; simp
  generalize chg (fun _ => some (0 : Rat)) none (List.replicate n0 none) i = A at *
  have f1 := zGC (G := G) (F := none) (L := N + 1) (w := w) (k := k) (X := X) (d := d) (β := β) (T := T) (some ⟨122, zsC A⟩)
  have hiA : i < (zsC A).len := by show i < A.length; omega
  refine rn1 ?_
  refine zB Z Z Z zJp ?_
  unfold qA
  repeat (refine zG (zZ rfl rfl rfl (by assumption) (by rfl) (by first | (simp only [Nat.zero_add, Int.toNat_natCast, Int.toNat_zero]; exact rfl) | exact rfl) (by omega)) ?_)
  refine zN (c' := zsC (A.set i (some 0))) Z Z Z f1 Z hiA (List.length_set ..) Z (fun i' j' hi' hj' => zHE none 3 zKZ A i (some 0) hiA i' j' hi' hj') ?_
  refine zR (zY G none (N + 1) w k X d β (T ++ [some ⟨122, zsC (A.set i (some 0))⟩])) (zCq _ _) ?_
  refine rn5 ?_
  exact zM ⟨i + 1, by omega, by omega, ⟨Z, Z, Z, Z, Z, trivial⟩, by rw [hst]⟩
 have hie : i = n0 := by omega
 rw [hie, zQB]
 clear hi h hie
 clear i
 have f2 := zBB (G := G) (F := none) (L := N + 1) (w := w) (k := k) (X := X) (d := d) (β := β) (T := T ++ [some ⟨122, qsC (zB3 n0 β (fun i => Rat.divInt (at2 X i N) d) (List.replicate n0 0) 0)⟩])
 refine zBH (zY G none (N + 1) w k X d β T ++ [some ⟨122, qsC (List.replicate n0 0)⟩]) (by rw [← zAj]; exact ze.append (ze.refl _) (ze.eqv (zs_map _) ze.nil)) ?_
 refine zAV (zY G none (N + 1) w k X d β (T ++ [some ⟨122, qsC (zB3 n0 β (fun i => Rat.divInt (at2 X i N) d) (List.replicate n0 0) 0)⟩])) (by rw [zAj]; rfl) ?_
 refine rn15 ?_
 refine zh (ι := Nat) (fun i => [(0, .ptr G.length 0 0), (1, .int .i64 (n0 : Nat)), (5, .sl (G.length + 4 + X.length + T.length) 0 n0), (24, .sl (G.length + 2) 0 β.length), (25, .int .i64 (β.length : Nat)), (26, .int .i64 (i : Nat))]) (fun i => zY G none (N + 1) w k X d β (T ++ [some ⟨122, qsC (zB3 n0 β (fun i => Rat.divInt (at2 X i N) d) (List.replicate n0 0) i)⟩]))
  (fun i => i ≤ β.length) (fun i => β.length - i) 0 ⟨⟨rfl, rfl, rfl, rfl, rfl, rfl, trivial⟩, rfl, Nat.zero_le _⟩ ?_
 clear f2
 intro i hi
 have hVl := zDn n0 β (fun i => Rat.divInt (at2 X i N) d) (List.replicate n0 0) i
 rw [List.length_replicate] at hVl
 refine rn4 ?_
 refine zD Z (fun h => ?_) (fun h => ?_)
 ·have hi' : i < β.length := by omega
  have hst : zB3 n0 β (fun i => Rat.divInt (at2 X i N) d) (List.replicate n0 0) (i + 1) = if β.getD i 0 < n0 then (zB3 n0 β (fun i => Rat.divInt (at2 X i N) d) (List.replicate n0 0) i).set (β.getD i 0) (Rat.divInt (at2 X i N) d) else zB3 n0 β (fun i => Rat.divInt (at2 X i N) d) (List.replicate n0 0) i := rfl
  generalize zB3 n0 β (fun i => Rat.divInt (at2 X i N) d) (List.replicate n0 0) i = V at *
  have f1 := zBB (G := G) (F := none) (L := N + 1) (w := w) (k := k) (X := X) (d := d) (β := β) (T := T ++ [some ⟨122, qsC V⟩])
  have f2 := zFe (G := G) (F := none) (L := N + 1) (w := w) (k := k) (X := X) (d := d) (β := β) (T := T ++ [some ⟨122, qsC V⟩])
  have g2 : i < (β.map (fun a : Nat => (a : Int))).length := by rw [List.length_map]; exact hi'
  refine zGh ?_
  refine zD Z (fun h1 => ?_) (fun h1 => ?_)
  ·rw [zAz] at h1
   have hb : β.getD i 0 < n0 := by omega
   rw [if_pos hb] at hst
   refine zAN 8 (.int .i64 (β.getD i 0 : Nat)) Z (AEq.of_eq (by rw [zAz])) ?_
   have lI : (X.getD i []).length = N + 1 := hL _ (zAr [] (by omega))
   have f3 := zCk (G := G) (F := none) (L := N + 1) (w := w) (k := k) (X := X) (d := d) (β := β) (T := T ++ [some ⟨122, qsC V⟩])
   have f4 := zCa (G := G) (F := none) (L := N + 1) (w := w) (k := k) (X := X) (d := d) (β := β) (T := T ++ [some ⟨122, qsC V⟩]) (a := i) (by omega)
   have f5 := zGC (G := G) (F := none) (L := N + 1) (w := w) (k := k) (X := X) (d := d) (β := β) (T := T) (some ⟨122, qsC V⟩)
   have g3 : i < (zBr G.length X.length (N + 1)).len := by show i < X.length; omega
   have g4 : N < (zC (X.getD i [])).len := by show N < (X.getD i []).length; omega
   have g5 : β.getD i 0 < (qsC V).len := by show _ < V.length; omega
   have hlT := hlen T
   have cq := q_ok G hG (N + 1) w k X d β (T ++ [some ⟨122, qsC V⟩]) (fun o ho => by
    rw [hlen]
    rcases List.mem_append.1 ho with q | q
    ·exact hT _ (by omega) o q
    ·cases List.mem_singleton.1 q; exact zKk V _) (at2 X i N) hd (hX i hi') hdl
   skip
   refine zo (by kernel_rfl) ?_
   refine zv (fuel := 1) [0, 1, 2, 3, 4, 5, 6, 7, 8, 9, 10, 11, 12, 13, 14, 15, 16, 17, 18, 19, 20, 21, 22] [(0, .ptr G.length 0 0), (1, .int .i64 (n0 : Nat)), (5, .sl (G.length + 4 + X.length + T.length) 0 n0), (7, .int .i64 (i : Nat)), (8, .int .i64 (β.getD i 0 : Nat)), (24, .sl (G.length + 2) 0 β.length), (25, .int .i64 (β.length : Nat)), (26, .int .i64 (i : Nat))] ⟨Z, Z, Z, Z, Z, Z, Z, Z, trivial⟩ (by kernel_rfl) (by decide) Z Z ?_
   refine zK Z Z (zL Z) ?_
   refine zK Z Z (zL Z) ?_
   refine zK Z Z (zL Z) ?_
   refine zK Z Z (zL Z) ?_
   refine zK Z Z (zd Z) ?_
   refine zK Z Z (zJ Z Z Z Z Z Z) ?_
   refine zK Z Z (zAI Z Z Z (by assumption) (by rfl)) ?_
   refine zK Z Z (zL Z) ?_
   refine zK Z Z (zZ Z Z Z (by assumption) (by rfl) (by first | (simp only [Nat.zero_add, Int.toNat_natCast, Int.toNat_zero]; exact Z) | exact Z) (by omega)) ?_
   refine zK Z Z (zBA Z Z Z (by assumption) Z (by first | assumption | omega)) ?_
   refine zK Z Z (zL Z) ?_
   refine zK Z Z (zd Z) ?_
   refine zK Z Z (zJ Z Z Z Z Z Z) ?_
   refine zK Z Z (zAI Z Z Z (by assumption) (by rfl)) ?_
   refine zK Z Z (zL Z) ?_
   refine zK Z Z (zZ Z Z Z (by assumption) (by rfl) (by first | (simp only [Nat.zero_add, Int.toNat_natCast, Int.toNat_zero]; exact Z) | exact Z) (by omega)) ?_
   refine zK Z Z (zBA Z Z Z (by assumption) Z (by first | assumption | omega)) ?_
   refine zK Z Z (zA5 Z Z Z) ?_
   refine zK Z Z (zEN Z Z (by omega)) ?_
   refine zK Z Z (zZ (ix := N) Z Z Z f4 Z (by show 0 + (((N + 1 : Nat) : Int) - 1).toNat = N; omega) (by omega)) ?_
   refine zK Z Z (zAD Z Z Z Z (by assumption) (by rfl) (by rfl) (by first | exact Nat.zero_lt_one | assumption | omega)) ?_
   refine px_c Z Z Z Z Z cq ?_
   refine zK Z Z (zZ Z Z Z (by assumption) (by rfl) (by first | (simp only [Nat.zero_add, Int.toNat_natCast, Int.toNat_zero]; exact Z) | exact Z) (by omega)) ?_
   refine zz ?_
   unfold qA
   refine zH (is := [23]) (by kernel_rfl) (by simp) Z ⟨fun o ho => ?_, trivial⟩
   all_goals (cases ho)
   refine zN (c' := qsC (V.set (β.getD i 0) (Rat.divInt (at2 X i N) d))) Z Z Z f5 Z g5 (List.length_set ..) Z (fun i' j' hi' hj' => zHE 0 3 zq V (β.getD i 0) _ g5 i' j' hi' hj') ?_
   refine zR (zY G none (N + 1) w k X d β (T ++ [some ⟨122, qsC (V.set (β.getD i 0) (Rat.divInt (at2 X i N) d))⟩])) (zCq _ _) ?_
   refine rn1 ?_
   refine zX (by kernel_rfl) ?_
   refine rn5 ?_
   exact zM ⟨i + 1, by omega, by omega, ⟨Z, Z, Z, Z, Z, Z, trivial⟩, by rw [hst]⟩
  ·rw [zAz] at h1
   rw [if_neg (by omega)] at hst
   refine rn5 ?_
   exact zM ⟨i + 1, by omega, by omega, ⟨Z, Z, Z, Z, Z, Z, trivial⟩, by rw [hst]⟩
 have hie : i = β.length := by omega
 subst hie
 refine rn9 ?_
 generalize zB3 n0 β (fun i => Rat.divInt (at2 X i N) d) (List.replicate n0 0) β.length = V at *
 have f5 := zGC (G := G) (F := none) (L := N + 1) (w := w) (k := k) (X := X) (d := d) (β := β) (T := T) (some ⟨122, qsC V⟩)
 refine zAW (G.length + 4 + X.length + T.length) 5 n0 [] f5 (zBk _) Z (by show n0 ≤ V.length; omega) trivial ?_
 refine zAV (zY G none (N + 1) w k X d β T ++ [none]) (by rw [zCq, zAj]) ?_
 refine zA3 (zY G none (N + 1) w k X d β T) [none] [(5, .ro (qsC V) 0 n0)] rfl ⟨rfl, trivial⟩ (fun h hh => by rw [hfix] at hh; exact hh) (zCQ hG _ (by rw [hlen]; omega) (fun o ho => by cases ho) (hT _ (by rw [hlen]; omega))) rfl ?_
 refine rn0 ?_
 exact zI hR Z ⟨Z, Z⟩
theorem zNB (G : zO) (hG : OkG G) (hFG : ∀ h, G.length ≤ h → zm h G = G) (n m a N : Nat) (X : Tab) (β : List Nat) (M : Tab) (K E : Nat) (hN : N = n + m + a) (hm : m ≤ 100) (hN40 : N + 1 ≤ 1000000) (hXl : X.length = m) (hβ : β.length = m) (hL : ∀ x ∈ X, x.length = N + 1)
 (hX : ∀ i j, i < m → j < N + 1 → (at2 X i j).natAbs ≤ 10 ^ E) (hE : E ≤ 3500000)
 (hi : Inv m N M ⟨X ++ [zBj (n + m) a N ⟨X, 1, β⟩ m a], 1, β⟩) (hf : zDf m N ⟨X ++ [zBj (n + m) a N ⟨X, 1, β⟩ m a], 1, β⟩)
 (hK : zB1 m N (n + m) (zAn m N (n + m) ⟨X ++ [zBj (n + m) a N ⟨X, 1, β⟩ m a], 1, β⟩ K) = none)
 (hB : ∀ t, Inv m N M t → (∀ i j, i < m + 1 → j < N + 1 → (at2 t.rows i j).natAbs ≤ 10 ^ E) ∧ t.den.natAbs ≤ 10 ^ E)
 (hz : ∀ t, Inv m N M t → zDf m N t → ¬ at2 t.rows m N < 0 → ∀ i, i < m → n + m ≤ t.basis.getD i 0 → at2 t.rows i N = 0) :
 zS Tryz.prog 166 [.ptr G.length 0 0, .int .i64 (n : Nat), .int .i64 (m : Nat), .int .i64 (a : Nat)] (zY G none (N + 1) (n + m) m X 1 β []) (fun h => h < (zY G none (N + 1) (n + m) m X 1 β []).length ∧ h ≠ G.length + 3)
  (fun r' H' => (at2 (zAn m N (n + m) ⟨X ++ [zBj (n + m) a N ⟨X, 1, β⟩ m a], 1, β⟩ K).rows m N < 0 ∧ r' = .tup [.ro (qsC ((List.range m).map (fun i => Rat.divInt (at2 (zAn m N (n + m) ⟨X ++ [zBj (n + m) a N ⟨X, 1, β⟩ m a], 1, β⟩ K).rows m (n + i)) (zAn m N (n + m) ⟨X ++ [zBj (n + m) a N ⟨X, 1, β⟩ m a], 1, β⟩ K).den))) 0 m, .bool false] ∧ H' = zY G none (N + 1) (n + m) (m + 1) (zAn m N (n + m) ⟨X ++ [zBj (n + m) a N ⟨X, 1, β⟩ m a], 1, β⟩ K).rows (zAn m N (n + m) ⟨X ++ [zBj (n + m) a N ⟨X, 1, β⟩ m a], 1, β⟩ K).den (zAn m N (n + m) ⟨X ++ [zBj (n + m) a N ⟨X, 1, β⟩ m a], 1, β⟩ K).basis [none]) ∨
   (¬ at2 (zAn m N (n + m) ⟨X ++ [zBj (n + m) a N ⟨X, 1, β⟩ m a], 1, β⟩ K).rows m N < 0 ∧ r' = .tup [.nil, .bool true] ∧ H' = stH G N (n + m) m (zBb (n + m) (Sx.cutS m (zAn m N (n + m) ⟨X ++ [zBj (n + m) a N ⟨X, 1, β⟩ m a], 1, β⟩ K)) m))) := by
 refine zE (P := Tryz.prog) (fn := Tryz.f166) Z Z (by kernel_rfl) Z (fun c hR hfix => ?_)
 have hlen : (zY G none (N + 1) (n + m) m X 1 β []).length = G.length + 4 + m := by rw [zBM, hXl]; rfl
 rw [hlen] at hfix
 have hsz : ∀ x : Int, ∀ e, e ≤ 3599990 → x.natAbs ≤ 10 ^ e → (zT x.natAbs).length ≤ 400001 := fun x e he hx => zFT hx (by omega)
 refine rn3 ?_
 refine zA 28 (.int .i64 ((N + 1 : Nat))) Z (AEq.of_eq (by show AV.int _ _ = AV.int _ _; congr 1; omega)) ?_
 refine zA 10 (.int .i64 ((N + 1 : Nat))) Z (AEq.of_eq (by show AV.int _ _ = AV.int _ _; congr 1; omega)) ?_
 refine zC4 Z Z Z Z Z Z Z Z (by show (0 : Int) ≤ _ ∧ _ ≤ _ ∧ (32 : Int) * _ ≤ _ ∧ _; omega) ?_
 refine zGX (zY G none (N + 1) (n + m) m X 1 β [] ++ [some ⟨120, zC (List.replicate (N + 1) 0)⟩]) (by simp only [List.length_append, List.length_cons, List.length_nil]) zHy ?_
 refine zR (zY G none (N + 1) (n + m) m X 1 β [some ⟨120, zC (zC8 (n + m) N (⟨X, 1, β⟩ : St) 0)⟩]) (by rw [zAj, zOs]; rfl) ?_
 refine zA 29 (.sl (G.length + 4 + m) 0 (N + 1)) Z (AEq.of_eq (by rw [hlen]; rfl)) ?_
 have f1 := zBB (G := G) (F := none) (L := N + 1) (w := n + m) (k := m) (X := X) (d := 1) (β := β) (T := [some ⟨120, zC (zC8 (n + m) N (⟨X, 1, β⟩ : St) 0)⟩])
 rw [hβ] at f1
 refine rn7 ?_
 refine zh (ι := Nat) (fun i => [(0, .ptr G.length 0 0), (1, .int .i64 (n : Nat)), (2, .int .i64 (m : Nat)), (3, .int .i64 (a : Nat)), (10, .int .i64 ((N + 1 : Nat))), (11, .sl (G.length + 4 + m) 0 (N + 1)), (33, .sl (G.length + 2) 0 m), (34, .int .i64 (m : Nat)), (35, .int .i64 (i : Nat))]) (fun i => zY G none (N + 1) (n + m) m X 1 β [some ⟨120, zC (zC8 (n + m) N (⟨X, 1, β⟩ : St) i)⟩]) (fun i => i ≤ m) (fun i => m - i) 0 ⟨⟨Z, Z, Z, Z, Z, Z, Z, Z, Z, trivial⟩, Z, Nat.zero_le _⟩ ?_
 clear f1
 intro i him
 refine rn4 ?_
 refine zD Z (fun h => ?_) (fun h => ?_)
 ·have hi' : i < m := by omega
  have f2 := zFe (G := G) (F := none) (L := N + 1) (w := n + m) (k := m) (X := X) (d := 1) (β := β) (T := [some ⟨120, zC (zC8 (n + m) N (⟨X, 1, β⟩ : St) i)⟩])
  have g2 : i < (β.map (fun a : Nat => (a : Int))).length := by rw [List.length_map, hβ]; exact hi'
  refine zGh ?_
  refine zD Z (fun h1 => ?_) (fun h1 => ?_)
  ·rw [zAz] at h1
   have hb : n + m ≤ β.getD i 0 := by omega
   have hcl := zHb (n + m) N (⟨X, 1, β⟩ : St) i
   have hcl2 := zHb (n + m) N (⟨X, 1, β⟩ : St) (i + 1)
   have hnx := fun j (hj : j < N + 1) => zOZ (w := n + m) (N := N) (s := (⟨X, 1, β⟩ : St)) (i := i) hb hj
   have hab := fun j (hj : j < N + 1) => zQ0 (w := n + m) (N := N) (E := E) (s := (⟨X, 1, β⟩ : St)) (i := i) (j := j) (by omega) (fun q hq => hX q j (by omega) hj) hj
   have lI : (X.getD i []).length = N + 1 := hL _ (zAr [] (by omega))
   generalize hC2 : (zC8 (n + m) N (⟨X, 1, β⟩ : St) (i + 1)) = C2 at *
   generalize (zC8 (n + m) N (⟨X, 1, β⟩ : St) i) = C1 at *
   have f6 := zBB (G := G) (F := none) (L := N + 1) (w := n + m) (k := m) (X := X) (d := 1) (β := β) (T := [some ⟨120, zC C1⟩])
   have f7 := zAk (G := G) (F := none) (L := N + 1) (w := n + m) (k := m) (X := X) (d := 1) (β := β) (T := [some ⟨120, zC C1⟩]) 0
   rw [hXl, Nat.add_zero] at f7
   clear f2
   refine rn3 ?_
   refine zh (ι := Nat) (fun j => [(0, .ptr G.length 0 0), (1, .int .i64 (n : Nat)), (2, .int .i64 (m : Nat)), (3, .int .i64 (a : Nat)), (10, .int .i64 ((N + 1 : Nat))), (11, .sl (G.length + 4 + m) 0 (N + 1)), (33, .sl (G.length + 2) 0 m), (34, .int .i64 (m : Nat)), (35, .int .i64 (i : Nat)), (12, .int .i64 (i : Nat)), (46, .int .i64 ((N + 1 : Nat))), (47, .int .i64 (j : Nat))]) (fun j => zY G none (N + 1) (n + m) m X 1 β [some ⟨120, zC (chg (fun j => C2.getD j 0) 0 C1 j)⟩]) (fun j => j ≤ N + 1) (fun j => N + 1 - j) 0 ⟨⟨Z, Z, Z, Z, Z, Z, Z, Z, Z, Z, Z, Z, trivial⟩, by rw [zDC], Nat.zero_le _⟩ ?_
   intro j hj
   refine rn4 ?_
   refine zD Z (fun h2 => ?_) (fun h2 => ?_)
   ·have hj' : j < N + 1 := by omega
    have hgj := zC5 (fun j => C2.getD j 0) 0 C1 (k := j) (i := j) (by omega)
    rw [if_neg (Nat.lt_irrefl j)] at hgj
    have hsj := zDp (fun j => C2.getD j 0) 0 C1 (k := j) (by omega)
    have hlj := zCm (fun j => C2.getD j 0) 0 C1 j
    rw [hnx j hj', ← hgj] at hsj
    have ab := hab j hj'
    rw [← hgj] at ab
    generalize chg (fun j => C2.getD j 0) 0 C1 j = Y at *
    have q1 := zBB (G := G) (F := none) (L := N + 1) (w := n + m) (k := m) (X := X) (d := 1) (β := β) (T := [some ⟨120, zC Y⟩])
    have q2 := zCk (G := G) (F := none) (L := N + 1) (w := n + m) (k := m) (X := X) (d := 1) (β := β) (T := [some ⟨120, zC Y⟩])
    have q3 := zCa (G := G) (F := none) (L := N + 1) (w := n + m) (k := m) (X := X) (d := 1) (β := β) (T := [some ⟨120, zC Y⟩]) (a := i) (by omega)
    have q4 := zAk (G := G) (F := none) (L := N + 1) (w := n + m) (k := m) (X := X) (d := 1) (β := β) (T := [some ⟨120, zC Y⟩]) 0
    rw [hXl, Nat.add_zero] at q4
    have g3 : i < (zBr G.length X.length (N + 1)).len := by show i < X.length; omega
    have g4 : j < (zC (X.getD i [])).len := by show j < (X.getD i []).length; omega
    have g5 : j < (zC Y).len := by show j < Y.length; omega
    have cs := zMh (Y.getD j 0) (at2 X i j) (by have := hsz _ _ (by omega) ab; omega) (by have := hsz _ _ (by omega) (hX i j hi' hj'); omega)
    refine rn1 ?_
    refine zo (by kernel_rfl) ?_
    refine zv (fuel := 1) [0, 1, 2, 3, 4, 5, 6, 7, 8, 9, 10, 11, 12, 13, 14, 15, 16, 17] [(0, .ptr G.length 0 0), (1, .int .i64 (n : Nat)), (2, .int .i64 (m : Nat)), (3, .int .i64 (a : Nat)), (10, .int .i64 ((N + 1 : Nat))), (11, .sl (G.length + 4 + m) 0 (N + 1)), (33, .sl (G.length + 2) 0 m), (34, .int .i64 (m : Nat)), (35, .int .i64 (i : Nat)), (12, .int .i64 (i : Nat)), (46, .int .i64 ((N + 1 : Nat))), (47, .int .i64 (j : Nat)), (14, .int .i64 (j : Nat))] ⟨Z, Z, Z, Z, Z, Z, Z, Z, Z, Z, Z, Z, Z, trivial⟩ (by kernel_rfl) (by decide) Z Z ?_
    refine zK Z Z (zL Z) ?_
    refine zK Z Z (zL Z) ?_
    refine zK Z Z (zL Z) ?_
    refine zK Z Z (zL Z) ?_
    refine zK Z Z (zZ Z Z Z (by assumption) (by rfl) (by first | (simp only [Nat.zero_add, Int.toNat_natCast, Int.toNat_zero]; exact Z) | exact Z) (by omega)) ?_
    refine zK Z Z (zAD Z Z Z Z (by assumption) (by rfl) (by rfl) (by first | exact Nat.zero_lt_one | assumption | omega)) ?_
    refine zK Z Z (zL Z) ?_
    refine zK Z Z (zd Z) ?_
    refine zK Z Z (zJ Z Z Z Z Z Z) ?_
    refine zK Z Z (zAI Z Z Z (by assumption) (by rfl)) ?_
    refine zK Z Z (zL Z) ?_
    refine zK Z Z (zZ Z Z Z (by assumption) (by rfl) (by first | (simp only [Nat.zero_add, Int.toNat_natCast, Int.toNat_zero]; exact Z) | exact Z) (by omega)) ?_
    refine zK Z Z (zBA Z Z Z (by assumption) Z (by first | assumption | omega)) ?_
    refine zK Z Z (zL Z) ?_
    refine zK Z Z (zZ Z Z Z (by assumption) (by rfl) (by first | (simp only [Nat.zero_add, Int.toNat_natCast, Int.toNat_zero]; exact Z) | exact Z) (by omega)) ?_
    refine zK Z Z (zAD Z Z Z Z (by assumption) (by rfl) (by rfl) (by first | exact Nat.zero_lt_one | assumption | omega)) ?_
    refine zAc Z Z Z Z Z cs ?_
    refine zK Z Z (zZ Z Z Z (by assumption) (by rfl) (by first | (simp only [Nat.zero_add, Int.toNat_natCast, Int.toNat_zero]; exact Z) | exact Z) (by omega)) ?_
    refine zz ?_
    unfold at2
    refine zH (is := [18]) (by kernel_rfl) (by simp) Z ⟨fun o ho => ?_, trivial⟩
    all_goals (cases ho)
    refine zN (c' := zC (Y.set j (Y.getD j 0 - (X.getD i []).getD j 0))) Z Z Z q4 Z g5 (List.length_set ..) Z (zDM Y j _) ?_
    refine zR (zY G none (N + 1) (n + m) m X 1 β [some ⟨120, zC (Y.set j (Y.getD j 0 - (X.getD i []).getD j 0))⟩]) (by have q := zAP (G := G) (F := none) (L := N + 1) (w := n + m) (k := m) (X := X) (d := 1) (β := β) (T := [some ⟨120, zC Y⟩]) 0 (some ⟨120, zC (Y.set j (Y.getD j 0 - (X.getD i []).getD j 0))⟩); rw [hXl, Nat.add_zero] at q; exact q) ?_
    refine rn1 ?_
    refine zX (by kernel_rfl) ?_
    refine rn5 ?_
    exact zM ⟨j + 1, by omega, by omega, ⟨Z, Z, Z, Z, Z, Z, Z, Z, Z, Z, Z, Z, trivial⟩, by rw [← hsj]; rfl⟩
   ·have hje : j = N + 1 := by omega
    subst hje
    rw [chg_to hcl hcl2]
    refine rn5 ?_
    exact zM ⟨i + 1, by omega, by omega, ⟨Z, Z, Z, Z, Z, Z, Z, Z, Z, trivial⟩, by rw [hC2]⟩
  ·rw [zAz] at h1
   have hsk := zOe (w := n + m) (N := N) (s := (⟨X, 1, β⟩ : St)) (i := i) (by show ¬ n + m ≤ β.getD i 0; omega)
   refine rn5 ?_
   exact zM ⟨i + 1, by omega, by omega, ⟨Z, Z, Z, Z, Z, Z, Z, Z, Z, trivial⟩, by rw [hsk]⟩
 have hie : m = i := by omega
 subst hie
 clear him h
 rw [← zOA (n + m) a N ⟨X, 1, β⟩ m]
 refine rn5 ?_
 refine zh (ι := Nat) (fun q => [(0, .ptr G.length 0 0), (1, .int .i64 (n : Nat)), (2, .int .i64 (m : Nat)), (3, .int .i64 (a : Nat)), (10, .int .i64 ((N + 1 : Nat))), (11, .sl (G.length + 4 + m) 0 (N + 1)), (70, .int .i64 (a : Nat)), (71, .int .i64 (q : Nat))]) (fun q => zY G none (N + 1) (n + m) m X 1 β [some ⟨120, zC (zBj (n + m) a N (⟨X, 1, β⟩ : St) m q)⟩]) (fun q => q ≤ a) (fun q => a - q) 0 ⟨⟨Z, Z, Z, Z, Z, Z, Z, Z, trivial⟩, Z, Nat.zero_le _⟩ ?_
 intro q hq
 refine rn4 ?_
 refine zD Z (fun h => ?_) (fun h => ?_)
 ·have hq' : q < a := by omega
  have hst := zO5 (w := n + m) (a := a) (N := N) (s := (⟨X, 1, β⟩ : St)) (m := m) (k := q) (by omega)
  have hFl := zD3 (n + m) a N (⟨X, 1, β⟩ : St) m q
  generalize (zBj (n + m) a N (⟨X, 1, β⟩ : St) m q) = Y at *
  have q4 := zAk (G := G) (F := none) (L := N + 1) (w := n + m) (k := m) (X := X) (d := 1) (β := β) (T := [some ⟨120, zC Y⟩]) 0
  rw [hXl, Nat.add_zero] at q4
  have g5 : n + m + q < (zC Y).len := by show n + m + q < Y.length; omega
  have cw := zKe 0 (by decide)
  refine rn3 ?_
  refine zA 79 (.int .i64 ((n + m + q : Nat))) Z (AEq.of_eq (by show AV.int _ _ = AV.int _ _; congr 1)) ?_
  refine zB Z Z Z cw ?_
  unfold zBD
  repeat (refine zG (zZ rfl rfl rfl (by assumption) (by rfl) (by first | (simp only [Nat.zero_add, Int.toNat_natCast, Int.toNat_zero]; exact rfl) | exact rfl) (by omega)) ?_)
  refine zN (c' := zC (Y.set (n + m + q) 0)) Z Z Z q4 Z g5 (List.length_set ..) Z (zDM Y (n + m + q) _) ?_
  refine zR (zY G none (N + 1) (n + m) m X 1 β [some ⟨120, zC (Y.set (n + m + q) 0)⟩]) (by have q := zAP (G := G) (F := none) (L := N + 1) (w := n + m) (k := m) (X := X) (d := 1) (β := β) (T := [some ⟨120, zC Y⟩]) 0 (some ⟨120, zC (Y.set (n + m + q) 0)⟩); rw [hXl, Nat.add_zero] at q; exact q) ?_
  refine rn5 ?_
  exact zM ⟨q + 1, by omega, by omega, ⟨Z, Z, Z, Z, Z, Z, Z, Z, trivial⟩, by rw [hst]⟩
 have hqe : q = a := by omega
 rw [hqe]
 clear hq h hqe
 clear q
 have hCl := zD3 (n + m) a N (⟨X, 1, β⟩ : St) m a
 generalize (zBj (n + m) a N (⟨X, 1, β⟩ : St) m a) = C at *
 have f1 := zBB (G := G) (F := none) (L := N + 1) (w := n + m) (k := m) (X := X) (d := 1) (β := β) (T := [some ⟨120, zC C⟩])
 refine rn15 ?_
 refine zCj Z Z Z Z Z Z Z Z Z Z ?_
 refine zR (zY G none (N + 1) (n + m) m X 1 β [some ⟨120, zC C⟩, some ⟨248, zB4 1 1 [.sl (G.length + 4 + m) 0 (N + 1)]⟩]) (by rw [zAj]; rfl) ?_
 refine zA 89 (.sl (G.length + 4 + m + 1) 0 1) Z (AEq.of_eq (by rw [zBM, hXl]; rfl)) ?_
 have f2 := zCk (G := G) (F := none) (L := N + 1) (w := n + m) (k := m) (X := X) (d := 1) (β := β) (T := [some ⟨120, zC C⟩, some ⟨248, zB4 1 1 [.sl (G.length + 4 + m) 0 (N + 1)]⟩])
 have f3 := zAk (G := G) (F := none) (L := N + 1) (w := n + m) (k := m) (X := X) (d := 1) (β := β) (T := [some ⟨120, zC C⟩, some ⟨248, zB4 1 1 [.sl (G.length + 4 + m) 0 (N + 1)]⟩]) 1
 rw [hXl] at f3
 have hol : (zBr G.length X.length (N + 1)).len = m := hXl
 skip
 refine zAG Z Z Z Z Z Z Z f2 Z hol Z (zIn f3) (by show 0 + 1 ≤ 1; omega) Z (by show (m + 1) * 24 ≤ _ ∧ _; omega) ?_ (by rw [hfix]; exact fun q => q.2 Z) ?_
 ·intro i' j' hi' hj'
  obtain rfl := Nat.lt_one_iff.1 (show j' < 1 from hj')
  have q := (zEu G.length X.length (N + 1) (zB4 1 1 [AV.sl (G.length + 4 + m) 0 (N + 1)]) (by rw [hXl]; rfl)).2.2 i' 0 hi' Nat.zero_lt_one
  refine Eq.trans (congrArg (AV.forget _) q.symm) (Eq.trans ?_ q)
  show AV.forget _ (AV.sl (G.length + 4 + i') 0 (N + 1)) = _
  unfold AV.forget
  rw [zx (show G.length + 4 + i' ≠ G.length + 3 by omega)]; rfl
 refine zBw ((90, .sl (G.length + 3) 0 (m + 1)) :: (83, .ptr G.length 0 0) :: [(0, .ptr G.length 0 0), (1, .int .i64 (n : Nat)), (2, .int .i64 (m : Nat)), (3, .int .i64 (a : Nat)), (10, .int .i64 ((N + 1 : Nat)))]) ⟨Z, zA4 (h := G.length + 3) (L := (83, .ptr G.length 0 0) :: [(0, .ptr G.length 0 0), (1, .int .i64 (n : Nat)), (2, .int .i64 (m : Nat)), (3, .int .i64 (a : Nat)), (10, .int .i64 ((N + 1 : Nat)))]) ⟨Z, Z, Z, Z, Z, Z, trivial⟩ (by
  intro p hp
  simp only [List.mem_cons, List.mem_nil_iff, or_false] at hp
  rcases hp with rfl | rfl | rfl | rfl | rfl | rfl <;> simp [AV.forget, zx])⟩ ?_
 refine zAl (zKc G (N + 1) (n + m) (X ++ [C]) 1 β [none]) (zLj (hFG _ (by omega)) (zEu G.length X.length (N + 1) _ (by rw [hXl]; rfl))) ?_
 refine rn7 ?_
 refine zCG Z Z Z Z zPe Z Z Nat.zero_lt_one ?_
 refine zR (zY G none (N + 1) (n + m) (m + 1) (X ++ [C]) 1 β [none]) zQA ?_
 refine rn9 ?_
 have hl1 : (X ++ [C]).length = m + 1 := by rw [List.length_append, hXl]; rfl
 have hlen1 : ∀ t : St, t.rows.length = m + 1 → (stH G N (n + m) (m + 1) t).length = G.length + 4 + (m + 1) := fun t ht => by rw [zBM, ht]; rfl
 refine zA3 (stH G N (n + m) (m + 1) ⟨X ++ [C], 1, β⟩) [none] [(0, .ptr G.length 0 0), (1, .int .i64 (n : Nat)), (2, .int .i64 (m : Nat)), (3, .int .i64 (a : Nat)), (10, .int .i64 ((N + 1 : Nat)))] (by rw [zAj]; rfl) ⟨Z, Z, Z, Z, Z, trivial⟩ (fun h hh => by rw [hfix] at hh; rw [hlen1 _ hl1]; exact Nat.lt_of_lt_of_le hh.1 (Nat.add_le_add_left (Nat.le_succ m) _))
  (zCQ hG _ (by rw [hlen1 _ hl1, hl1]; exact Nat.le_refl _) (fun o ho => by cases ho) (fun o ho => by cases ho)) (by rw [hlen1 _ hl1]; simp [zCl, zBR]; omega) ?_
 have cr := run_ok G hG m N (n + m) M ⟨X ++ [C], 1, β⟩ hi hf (by omega) K hK E (by omega) hN40 hB (by omega)
 obtain ⟨hti, htf⟩ := zEs hi hf (w := n + m) (by omega) K
 obtain ⟨hb1, hb2⟩ := hB _ hti
 have hzt := hz _ hti htf
 refine rn0 ?_
 refine zCd Z Z Z cr (fun _ h => h) (fun _ h => h) ?_
 rintro r' H' ⟨rfl, rfl⟩
 clear cr hK hi hf hz f1 f2 f3 hol
 generalize zAn m N (n + m) ⟨X ++ [C], 1, β⟩ K = t at *
 have hn := hti.n
 have htb := hti.b
 have hrow := hti.row
 have hd : t.den ≠ 0 := by have := hti.dp; omega
 have lm : (t.rows.getD m []).length = N + 1 := hrow _ (zAr [] (by omega))
 have f1 := zBB (G := G) (F := none) (L := N + 1) (w := n + m) (k := (m + 1)) (X := t.rows) (d := t.den) (β := t.basis) (T := [])
 have f2 := zCk (G := G) (F := none) (L := N + 1) (w := n + m) (k := (m + 1)) (X := t.rows) (d := t.den) (β := t.basis) (T := [])
 have f3 := zCa (G := G) (F := none) (L := N + 1) (w := n + m) (k := (m + 1)) (X := t.rows) (d := t.den) (β := t.basis) (T := []) (a := m) (by omega)
 have g6 : N < (zC (t.rows.getD m [])).len := by show N < (t.rows.getD m []).length; omega
 refine rn0 ?_
 refine zo (by kernel_rfl) ?_
 refine zv (fuel := 0) [0, 1, 2, 3, 4, 5, 6, 7, 8, 9, 10, 11, 12] [(0, .ptr G.length 0 0), (1, .int .i64 (n : Nat)), (2, .int .i64 (m : Nat)), (3, .int .i64 (a : Nat)), (10, .int .i64 ((N + 1 : Nat)))] ⟨Z, Z, Z, Z, Z, trivial⟩ (by kernel_rfl) (by decide) Z Z ?_
 refine zK Z Z (zL Z) ?_
 refine zK Z Z (zd Z) ?_
 refine zK Z Z (zJ Z Z Z Z Z Z) ?_
 refine zK Z Z (zAI Z Z Z (by assumption) (by rfl)) ?_
 refine zK Z Z (zL Z) ?_
 refine zK Z Z (zd Z) ?_
 refine zK Z Z (zJ Z Z Z Z Z Z) ?_
 refine zK Z Z (zAI Z Z Z (by assumption) (by rfl)) ?_
 refine zK Z Z (zA5 Z Z Z) ?_
 refine zK Z Z (zEN Z Z (by omega)) ?_
 refine zK Z Z (zZ Z Z Z (by assumption) (by rfl) (by first | (simp only [Nat.zero_add, Int.toNat_natCast, Int.toNat_zero]; exact Z) | exact Z) (by omega)) ?_
 refine zK Z Z (zBA Z Z Z (by assumption) Z (by first | assumption | omega)) ?_
 refine zK Z Z (zi Z) ?_
 refine zz ?_
 refine zX (by kernel_rfl) ?_
 repeat (refine zF ?_)
 refine zAN 16 (.sl (G.length + 4 + m) 0 (N + 1)) Z (AEq.of_eq (by show AV.sl (G.length + 4 + (((m + 1 : Nat) : Int) - 1).toNat) 0 (N + 1) = _; rw [show (((m + 1 : Nat) : Int) - 1).toNat = m by omega])) ?_
 have cs := zED (at2 t.rows m N)
 refine zHe ?_
 refine zA 109 (.int .i64 (N : Nat)) Z (AEq.of_eq (by show AV.int _ (((N + 1 : Nat) : Int) - 1) = AV.int _ _; congr 1; omega)) ?_
 refine rn7 ?_
 refine zA 111 (zBD (at2 t.rows m N)) Z (AEq.of_eq Z) ?_
 refine zB Z Z Z cs ?_
 refine rn4 ?_
 refine zD Z (fun h1 => ?_) (fun h1 => ?_)
 ·rw [zF6] at h1
  have hyl : ∀ i, ((List.range i).map (fun i => Rat.divInt (at2 t.rows m (n + i)) t.den)).length = i := fun i => by simp
  refine rn0 ?_
  refine zAi 17 ⟨122, qsC ((List.range 0).map (fun i => Rat.divInt (at2 t.rows m (n + i)) t.den))⟩ Z Z ?_
  refine zAV (zY G none (N + 1) (n + m) (m + 1) t.rows t.den t.basis [some ⟨122, qsC ((List.range 0).map (fun i => Rat.divInt (at2 t.rows m (n + i)) t.den))⟩]) (by rw [zAj]; rfl) ?_
  refine zAN 17 (.sl (G.length + 4 + (m + 1)) 0 0) Z (AEq.of_eq (by rw [hlen1 _ hn])) ?_
  repeat (refine z7 ?_)
  refine zh (ι := Nat) (fun i => [(0, .ptr G.length 0 0), (1, .int .i64 (n : Nat)), (2, .int .i64 (m : Nat)), (3, .int .i64 (a : Nat)), (10, .int .i64 ((N + 1 : Nat))), (16, .sl (G.length + 4 + m) 0 (N + 1)), (17, .sl (G.length + 4 + (m + 1)) 0 i), (114, .int .i64 (m : Nat)), (115, .int .i64 (i : Nat))]) (fun i => zY G none (N + 1) (n + m) (m + 1) t.rows t.den t.basis [some ⟨122, qsC ((List.range i).map (fun i => Rat.divInt (at2 t.rows m (n + i)) t.den))⟩]) (fun i => i ≤ m) (fun i => m - i) 0 ⟨⟨Z, Z, Z, Z, Z, Z, Z, Z, Z, trivial⟩, Z, Nat.zero_le _⟩ ?_
  intro i him
  refine rn4 ?_
  refine zD Z (fun h => ?_) (fun h => ?_)
  ·have hi' : i < m := by omega
   have hys : (List.range (i + 1)).map (fun i => Rat.divInt (at2 t.rows m (n + i)) t.den) = (List.range i).map (fun i => Rat.divInt (at2 t.rows m (n + i)) t.den) ++ [Rat.divInt (at2 t.rows m (n + i)) t.den] := by rw [List.range_succ, List.map_append]; rfl
   have hyi := hyl i
   generalize (List.range i).map (fun i => Rat.divInt (at2 t.rows m (n + i)) t.den) = Y at *
   have q3 := zCa (G := G) (F := none) (L := N + 1) (w := n + m) (k := (m + 1)) (X := t.rows) (d := t.den) (β := t.basis) (T := [some ⟨122, qsC Y⟩]) (a := m) (by omega)
   have q4 := zAk (G := G) (F := none) (L := N + 1) (w := n + m) (k := (m + 1)) (X := t.rows) (d := t.den) (β := t.basis) (T := [some ⟨122, qsC Y⟩]) 0
   rw [hn, Nat.add_zero] at q4
   have g7 : n + i < (zC (t.rows.getD m [])).len := by show n + i < (t.rows.getD m []).length; omega
   have cq := q_ok G hG (N + 1) (n + m) (m + 1) t.rows t.den t.basis [some ⟨122, qsC Y⟩] (fun o ho => by cases List.mem_singleton.1 ho; exact zKk Y _) (at2 t.rows m (n + i)) hd (by have := hsz _ _ (by omega) (hb1 m (n + i) (by omega) (by omega)); omega) (by have := hsz _ _ (by omega) hb2; omega)
   refine rn3 ?_
   refine zA 123 (.int .i64 ((n + i : Nat))) Z (AEq.of_eq (by show AV.int _ _ = AV.int _ _; congr 1)) ?_
   refine rn7 ?_
   refine zA 125 (zBD (at2 t.rows m (n + i))) Z (AEq.of_eq Z) ?_
   refine zCd Z Z Z cq (fun _ h => h) (fun _ h => h) ?_
   rintro r' H' ⟨rfl, rfl⟩
   unfold qA
   repeat (refine zW rfl rfl rfl rfl rfl rfl rfl rfl rfl rfl rfl ?_)
   refine zAG rfl rfl rfl rfl rfl rfl rfl q4 rfl hyi rfl rfl (by show 0 + 1 ≤ 1; omega) rfl (by show (i + 1) * 56 ≤ _ ∧ _; omega) ?_ (by rw [hfix]; intro q; have := q.1; omega) ?_
   ·intro i' j' hi' hj'
    exact zA9 0 3 zq zBS Y _ _ (zDb _) _ i' j' hi' hj'
   refine zBw ((128, .sl (G.length + 4 + (m + 1)) 0 (i + 1)) :: [(0, .ptr G.length 0 0), (1, .int .i64 (n : Nat)), (2, .int .i64 (m : Nat)), (3, .int .i64 (a : Nat)), (10, .int .i64 ((N + 1 : Nat))), (16, .sl (G.length + 4 + m) 0 (N + 1)), (114, .int .i64 (m : Nat)), (115, .int .i64 (i : Nat))]) ⟨Z, zA4 (h := G.length + 4 + (m + 1)) (L := [(0, .ptr G.length 0 0), (1, .int .i64 (n : Nat)), (2, .int .i64 (m : Nat)), (3, .int .i64 (a : Nat)), (10, .int .i64 ((N + 1 : Nat))), (16, .sl (G.length + 4 + m) 0 (N + 1)), (114, .int .i64 (m : Nat)), (115, .int .i64 (i : Nat))]) ⟨Z, Z, Z, Z, Z, Z, Z, Z, trivial⟩ (by
    intro p hp
    simp only [List.mem_cons, List.mem_nil_iff, or_false] at hp
    rcases hp with rfl | rfl | rfl | rfl | rfl | rfl | rfl | rfl <;> simp [AV.forget, zx (show G.length ≠ G.length + 4 + (m + 1) by omega), zx (show G.length + 4 + m ≠ G.length + 4 + (m + 1) by omega)])⟩ ?_
   refine zAl (zY G none (N + 1) (n + m) (m + 1) t.rows t.den t.basis [some ⟨122, qsC ((List.range (i + 1)).map (fun i => Rat.divInt (at2 t.rows m (n + i)) t.den))⟩]) (by
    rw [hys]
    have q := zLS (G := G) (L := N + 1) (w := n + m) (k := m + 1) (X := t.rows) (d := t.den) (β := t.basis) (y := some ⟨122, qsC Y⟩) (t := 122) (by rw [hn]; exact hFG _ (by omega)) (zBX 0 3 zq Y _ _ (zDb (Rat.divInt (at2 t.rows m (n + i)) t.den)))
    rw [hn] at q
    exact q) ?_
   refine rn5 ?_
   exact zM ⟨i + 1, by omega, by omega, ⟨Z, Z, Z, Z, Z, Z, Z, Z, Z, trivial⟩, Z⟩
  ·have hie : m = i := by omega
   subst hie
   have q4 := zAk (G := G) (F := none) (L := N + 1) (w := n + m) (k := (m + 1)) (X := t.rows) (d := t.den) (β := t.basis) (T := [some ⟨122, qsC ((List.range m).map (fun i => Rat.divInt (at2 t.rows m (n + i)) t.den))⟩]) 0
   rw [hn, Nat.add_zero] at q4
   refine rn9 ?_
   refine zAW (G.length + 4 + (m + 1)) 17 m [] q4 (zBk _) Z (by show m ≤ (List.map _ _).length; rw [hyl m]; exact Nat.le_refl _) trivial ?_
   refine rn2 ?_
   refine zI hR Z (.inl ⟨h1, Z, ?_⟩)
   have q := zAP (G := G) (F := none) (L := N + 1) (w := n + m) (k := (m + 1)) (X := t.rows) (d := t.den) (β := t.basis) (T := [some ⟨122, qsC ((List.range m).map (fun i => Rat.divInt (at2 t.rows m (n + i)) t.den))⟩]) 0 none
   rw [hn, Nat.add_zero] at q
   exact q
 ·rw [zF6] at h1
  refine rn1 ?_
  refine zo (by kernel_rfl) ?_
  refine zv (fuel := 3) [0, 1, 2, 3, 4, 5, 6, 7, 8, 9, 10, 11] [(0, .ptr G.length 0 0), (1, .int .i64 (n : Nat)), (2, .int .i64 (m : Nat)), (3, .int .i64 (a : Nat)), (10, .int .i64 ((N + 1 : Nat)))] ⟨Z, Z, Z, Z, Z, trivial⟩ (by kernel_rfl) (by decide) Z Z ?_
  refine zK Z Z (zL Z) ?_
  refine zK Z Z (zL Z) ?_
  refine zK Z Z (zd Z) ?_
  refine zK Z Z (zJ Z Z Z Z Z Z) ?_
  refine zK Z Z (zAI Z Z Z (by assumption) (by rfl)) ?_
  refine zK Z Z (zL Z) ?_
  refine zK Z Z (zd Z) ?_
  refine zK Z Z (zJ Z Z Z Z Z Z) ?_
  refine zK Z Z (zAI Z Z Z (by assumption) (by rfl)) ?_
  refine zK Z Z (zA5 Z Z Z) ?_
  refine zK Z Z (zEN Z Z (by omega)) ?_
  refine zK Z Z (zFb Z Z f2 Z Z Z Z Z ⟨Z, by omega, by omega⟩) ?_
  refine zz ?_
  refine zw 12 Z (by kernel_rfl) (by kernel_rfl) (by kernel_rfl) Z (zd Z) Z ?_
  refine zw 13 Z (by kernel_rfl) (by kernel_rfl) (by kernel_rfl) Z (zJ Z Z Z Z Z Z) Z ?_
  refine zH (is := [14]) (by kernel_rfl) (by simp) Z ⟨fun o ho => ?_, trivial⟩
  all_goals (cases ho)
  refine zA 142 (.sl (G.length + 3) 0 m) Z (AEq.of_eq (by show AV.sl (G.length + 3) 0 (((m + 1 : Nat) : Int) - 1).toNat = _; rw [show (((m + 1 : Nat) : Int) - 1).toNat = m by omega])) ?_
  refine zCG Z Z Z Z f1 Z Z Nat.zero_lt_one ?_
  refine zR (zY G none (N + 1) (n + m) m t.rows t.den t.basis []) (zHw m (n + m) t.den) ?_
  refine rn1 ?_
  refine zX (by kernel_rfl) ?_
  repeat (refine zF ?_)
  have hXm : (t.rows.take m).length = m := by rw [List.length_take, hn]; omega
  have hlenm : ∀ u : St, u.rows.length = m → (stH G N (n + m) m u).length = G.length + 4 + m := fun u hu => by rw [zBM, hu]; rfl
  refine zIQ (G.length + 3) (zBr G.length m (N + 1)) zCk ⟨by show m ≤ t.rows.length; omega, Z, fun i j hi hj => rfl⟩ ?_
  refine zAV (zY G none (N + 1) (n + m) m (t.rows.take m) t.den t.basis [some ⟨120, zC (t.rows.getD m [])⟩]) (tb_trunc hn) ?_
  refine zA3 (stH G N (n + m) m (Sx.cutS m t)) [some ⟨120, zC (t.rows.getD m [])⟩] [(0, .ptr G.length 0 0), (1, .int .i64 (n : Nat)), (2, .int .i64 (m : Nat)), (3, .int .i64 (a : Nat)), (10, .int .i64 ((N + 1 : Nat)))] (by rw [zAj]; rfl) ⟨Z, Z, Z, Z, Z, trivial⟩ (fun h hh => by rw [hfix] at hh; rw [hlenm _ hXm]; exact hh.1)
   (zCQ hG _ (by rw [hlenm _ hXm]; show G.length + 4 + (t.rows.take m).length ≤ _; rw [hXm]; exact Nat.le_refl _) (fun o ho => by cases ho) (fun o ho => by cases ho)) (by rw [hlenm _ hXm]; simp [zCl, zBR]; omega) ?_
  clear f1 f2 f3 g6
  have f1 := zBB (G := G) (F := none) (L := N + 1) (w := n + m) (k := m) (X := (t.rows.take m)) (d := t.den) (β := t.basis) (T := [])
  refine rn7 ?_
  refine zAN 148 (.sl (G.length + 2) 0 m) Z (AEq.of_eq (by show AV.sl _ 0 t.basis.length = _; rw [htb])) ?_
  refine zAN 149 (.int .i64 (m : Nat)) Z (AEq.of_eq (by show AV.int _ ((t.basis.length : Nat) : Int) = _; rw [htb])) ?_
  refine zh (ι := Nat) (fun i => [(0, .ptr G.length 0 0), (1, .int .i64 (n : Nat)), (2, .int .i64 (m : Nat)), (3, .int .i64 (a : Nat)), (10, .int .i64 ((N + 1 : Nat))), (148, .sl (G.length + 2) 0 m), (149, .int .i64 (m : Nat)), (150, .int .i64 (i : Nat))]) (fun i => stH G N (n + m) m (zBb (n + m) (Sx.cutS m t) i)) (fun i => i ≤ m) (fun i => m - i) 0 ⟨⟨Z, Z, Z, Z, Z, Z, Z, Z, trivial⟩, Z, Nat.zero_le _⟩ ?_
  clear f1
  intro i him
  refine rn4 ?_
  refine zD Z (fun h => ?_) (fun h => ?_)
  ·have hi' : i < m := by omega
   have hdc := zHr (w := n + m) (show m ≤ t.rows.length by omega) i him
   obtain ⟨hvi, _, _⟩ := hti.drives htf (hzt h1) (w := n + m) (by omega) i him
   obtain ⟨hb3, hb4⟩ := hB _ hvi
   have hnx : zBb (n + m) (Sx.cutS m t) (i + 1) = zB7 (n + m) (zBb (n + m) (Sx.cutS m t) i) i := rfl
   have hul : (zBb (n + m) (Sx.cutS m t) i).rows.length = m := by rw [hdc]; show ((zBb (n + m) t i).rows.take m).length = m; rw [List.length_take, hvi.n]; omega
   have hub : (zBb (n + m) (Sx.cutS m t) i).basis.length = m := by rw [hdc]; exact hvi.b
   have hur : ∀ x ∈ (zBb (n + m) (Sx.cutS m t) i).rows, x.length = N + 1 := by rw [hdc]; exact fun x hx => hvi.row x (List.mem_of_mem_take hx)
   have hud : (zBb (n + m) (Sx.cutS m t) i).den ≠ 0 := by rw [hdc]; have := hvi.dp; show (zBb (n + m) t i).den ≠ 0; omega
   have hu1 : ∀ q j, q < m → j < N + 1 → (at2 (zBb (n + m) (Sx.cutS m t) i).rows q j).natAbs ≤ 10 ^ E := by rw [hdc]; intro q j hq hj; show (at2 ((zBb (n + m) t i).rows.take m) q j).natAbs ≤ _; rw [zEI hq]; exact hb3 q j (by omega) hj
   have hu2 : (zBb (n + m) (Sx.cutS m t) i).den.natAbs ≤ 10 ^ E := by rw [hdc]; exact hb4
   clear hdc hvi hb3 hb4
   generalize hU : zBb (n + m) (Sx.cutS m t) (i + 1) = u' at *
   generalize zBb (n + m) (Sx.cutS m t) i = u at *
   have f2 := zFe (G := G) (F := none) (L := N + 1) (w := n + m) (k := m) (X := u.rows) (d := u.den) (β := u.basis) (T := [])
   have g2 : i < (u.basis.map (fun a : Nat => (a : Int))).length := by rw [List.length_map, hub]; exact hi'
   refine zGh ?_
   refine zD Z (fun h2 => ?_) (fun h2 => ?_)
   ·rw [zAz] at h2
    have e : u' = u := by rw [hnx]; unfold zB7; rw [if_pos (by omega)]
    refine rn5 ?_
    exact zM ⟨i + 1, by omega, by omega, ⟨Z, Z, Z, Z, Z, Z, Z, Z, trivial⟩, by rw [hU, e]⟩
   ·rw [zAz] at h2
    have e1 : u' = if nzN u.rows i (n + m) 0 = n + m then u else piv u i (nzN u.rows i (n + m) 0) := by rw [hnx]; unfold zB7; rw [if_neg (by omega)]
    clear f2 g2
    apply zAM (H := stH G N (n + m) m u') [(0, .ptr G.length 0 0), (1, .int .i64 (n : Nat)), (2, .int .i64 (m : Nat)), (3, .int .i64 (a : Nat)), (10, .int .i64 ((N + 1 : Nat))), (148, .sl (G.length + 2) 0 m), (149, .int .i64 (m : Nat)), (150, .int .i64 (i : Nat))]
    ·intro fin
     refine rn3 ?_
     refine zAN 162 (.int .i64 ((n + m : Nat))) Z (AEq.of_eq (by show AV.int _ _ = AV.int _ _; congr 1)) ?_
     refine zh (ι := Nat) (fun j => [(0, .ptr G.length 0 0), (1, .int .i64 (n : Nat)), (2, .int .i64 (m : Nat)), (3, .int .i64 (a : Nat)), (10, .int .i64 ((N + 1 : Nat))), (148, .sl (G.length + 2) 0 m), (149, .int .i64 (m : Nat)), (150, .int .i64 (i : Nat)), (19, .int .i64 (i : Nat)), (162, .int .i64 ((n + m : Nat))), (163, .int .i64 (j : Nat))]) (fun _ => stH G N (n + m) m u) (fun j => j ≤ n + m ∧ nzN u.rows i (n + m - j) j = nzN u.rows i (n + m) 0) (fun j => n + m - j) 0 ⟨⟨Z, Z, Z, Z, Z, Z, Z, Z, Z, Z, Z, trivial⟩, Z, Nat.zero_le _, Z⟩ ?_
     rintro j ⟨hj, hnz⟩
     refine rn4 ?_
     refine zD Z (fun h3 => ?_) (fun h3 => ?_)
     ·have hj' : j < n + m := by omega
      have lI : (u.rows.getD i []).length = N + 1 := hur _ (zAr [] (by omega))
      have f1 := zBB (G := G) (F := none) (L := N + 1) (w := n + m) (k := m) (X := u.rows) (d := u.den) (β := u.basis) (T := [])
      have f2 := zCk (G := G) (F := none) (L := N + 1) (w := n + m) (k := m) (X := u.rows) (d := u.den) (β := u.basis) (T := [])
      have f3 := zCa (G := G) (F := none) (L := N + 1) (w := n + m) (k := m) (X := u.rows) (d := u.den) (β := u.basis) (T := []) (a := i) (by omega)
      have g3 : i < (zBr G.length u.rows.length (N + 1)).len := by show i < u.rows.length; omega
      have g4 : j < (zC (u.rows.getD i [])).len := by show j < (u.rows.getD i []).length; omega
      have cs := zED (at2 u.rows i j)
      refine rn7 ?_
      refine zA 175 (zBD (at2 u.rows i j)) Z (AEq.of_eq Z) ?_
      refine zB Z Z Z cs ?_
      refine rn3 ?_
      refine zD Z (fun h4 => ?_) (fun h4 => ?_)
      ·rw [zI5] at h4
       rw [nz_stop h4] at hnz
       rw [← hnz, if_neg (by omega)] at e1
       have cp := zNx G hG (N + 1) (n + m) m u.rows u.den u.basis i j E hul (by omega) hur hN40 (by omega) (by omega) (by omega) hud hu1 hu2 (by omega)
       refine rn0 ?_
       refine zCd Z Z Z cp (fun _ h => h) (fun _ h => h) ?_
       rintro r' H' ⟨rfl, rfl⟩
       rw [e1] at fin
       repeat (first | refine zP ?_ | refine zF ?_ | refine zAf ?_ | refine zDP ?_ | refine zBJ ?_ | refine zBF ?_ | refine zBa ?_ | refine zJ9 rfl ?_)
       exact fin _ ⟨Z, Z, Z, Z, Z, Z, Z, Z, trivial⟩
      ·rw [zI5] at h4
       refine rn5 ?_
       exact zM ⟨j + 1, ⟨by omega, by rw [← hnz, show n + m - j = (n + m - (j + 1)) + 1 by omega, nz_go h4]⟩, by omega, ⟨Z, Z, Z, Z, Z, Z, Z, Z, Z, Z, Z, trivial⟩, Z⟩
     ·have hje : j = n + m := by omega
      rw [hje, Nat.sub_self] at hnz
      have hnz : n + m = nzN u.rows i (n + m) 0 := hnz
      rw [if_pos hnz.symm] at e1
      rw [e1] at fin
      refine rn9 ?_
      exact fin _ ⟨Z, Z, Z, Z, Z, Z, Z, Z, trivial⟩
    ·refine rn3 ?_
     exact zM ⟨i + 1, by omega, by omega, ⟨Z, Z, Z, Z, Z, Z, Z, Z, trivial⟩, by rw [hU]⟩
  ·have hie : m = i := by omega
   subst hie
   refine rn5 ?_
   exact zI hR Z (.inr ⟨h1, Z, Z⟩)
theorem zHB (n c : Nat) : (zFM n c).length = n := by
 unfold zFM
 split
 ·simp
 ·simp
theorem ray_ok (G : zO) (hG : OkG G) (N w k : Nat) (X : Tab) (d : Int) (β : List Nat) (T : zO) (hT : ∀ m, G.length + 4 + X.length ≤ m → ∀ o : AObj, some o ∈ T → zBu m o.c) (n0 cc : Nat) (hn0 : n0 ≤ 1000000) (hc : cc < N + 1) (hkX : k ≤ X.length) (hβ : β.length ≤ k) (hk40 : k ≤ 1000000)
 (hL : ∀ x ∈ X, x.length = N + 1) (hL40 : N + 1 ≤ 1000000) (hd : d ≠ 0) (hX : ∀ i, i < β.length → (zT (at2 X i cc).natAbs).length ≤ 1000000) (hdl : (zT d.natAbs).length ≤ 1000000) :
 zS Tryz.prog 171 [.ptr G.length 0 0, .int .i64 (n0 : Nat), .int .i64 (cc : Nat)] (zY G none (N + 1) w k X d β T) (fun h => h < (zY G none (N + 1) w k X d β T).length)
  (fun r' H' => r' = .ro (qsC (zB3 n0 β (fun i => Rat.divInt (-(at2 X i cc)) d) (zFM n0 cc) β.length)) 0 n0 ∧ H' = zY G none (N + 1) w k X d β T) := by
 have hlen : ∀ T, (zY G none (N + 1) w k X d β T).length = G.length + 4 + X.length + T.length := fun T => zBM
 refine zE (P := Tryz.prog) (fn := Tryz.f171) Z Z (by kernel_rfl) Z (fun c hR hfix => ?_)
 refine rn0 ?_
 refine zC4 Z Z Z Z Z Z Z Z (by show (0 : Int) ≤ _ ∧ _ ≤ _ ∧ (56 : Int) * _ ≤ _ ∧ _; omega) ?_
 refine zAl (zY G none (N + 1) w k X d β T ++ [some ⟨122, zsC (List.replicate n0 none)⟩]) (ze.append (ze.refl _) (ze.eqv (zPh _) ze.nil)) ?_
 refine zR (zY G none (N + 1) w k X d β (T ++ [some ⟨122, zsC (chg (fun _ => some (0 : Rat)) none (List.replicate n0 none) 0)⟩])) (by rw [zAj, zDC]) ?_
 refine zA 12 (.sl (G.length + 4 + X.length + T.length) 0 n0) Z (AEq.of_eq (by rw [hlen]; rfl)) ?_
 refine rn3 ?_
 refine zh (ι := Nat) (fun i => [(0, .ptr G.length 0 0), (1, .int .i64 (n0 : Nat)), (2, .int .i64 (cc : Nat)), (7, .sl (G.length + 4 + X.length + T.length) 0 n0), (14, .int .i64 (n0 : Nat)), (15, .int .i64 (i : Nat))]) (fun i => zY G none (N + 1) w k X d β (T ++ [some ⟨122, zsC (chg (fun _ => some (0 : Rat)) none (List.replicate n0 none) i)⟩]))
  (fun i => i ≤ n0) (fun i => n0 - i) 0 ⟨⟨rfl, rfl, rfl, rfl, rfl, rfl, trivial⟩, rfl, Nat.zero_le _⟩ ?_
 intro i hi
 refine rn4 ?_
 refine zD Z (fun h => ?_) (fun h => ?_)
 ·have hi' : i < n0 := by omega
  have hst := zDp (fun _ => some (0 : Rat)) none (List.replicate n0 none) (k := i) (by simpa using hi')
  have hAl : (chg (fun _ => some (0 : Rat)) none (List.replicate n0 none) i).length = n0 := by rw [zCm]; simp
  generalize chg (fun _ => some (0 : Rat)) none (List.replicate n0 none) i = A at *
  have f1 := zGC (G := G) (F := none) (L := N + 1) (w := w) (k := k) (X := X) (d := d) (β := β) (T := T) (some ⟨122, zsC A⟩)
  have hiA : i < (zsC A).len := by show i < A.length; omega
  refine rn1 ?_
  refine zB Z Z Z zJp ?_
  unfold qA
  repeat (refine zG (zZ rfl rfl rfl (by assumption) (by rfl) (by first | (simp only [Nat.zero_add, Int.toNat_natCast, Int.toNat_zero]; exact rfl) | exact rfl) (by omega)) ?_)
  refine zN (c' := zsC (A.set i (some 0))) Z Z Z f1 Z hiA (List.length_set ..) Z (fun i' j' hi' hj' => zHE none 3 zKZ A i (some 0) hiA i' j' hi' hj') ?_
  refine zR (zY G none (N + 1) w k X d β (T ++ [some ⟨122, zsC (A.set i (some 0))⟩])) (zCq _ _) ?_
  refine rn5 ?_
  exact zM ⟨i + 1, by omega, by omega, ⟨Z, Z, Z, Z, Z, Z, trivial⟩, by rw [hst]⟩
 have hie : i = n0 := by omega
 rw [hie, zQB]
 clear hi h hie
 clear i
 refine zBH (zY G none (N + 1) w k X d β T ++ [some ⟨122, qsC (List.replicate n0 0)⟩]) (by rw [← zAj]; exact ze.append (ze.refl _) (ze.eqv (zs_map _) ze.nil)) ?_
 refine zAV (zY G none (N + 1) w k X d β (T ++ [some ⟨122, qsC (List.replicate n0 0)⟩])) (by rw [zAj]) ?_
 apply zAM (H := zY G none (N + 1) w k X d β (T ++ [some ⟨122, qsC (zFM n0 cc)⟩])) [(0, .ptr G.length 0 0), (1, .int .i64 (n0 : Nat)), (2, .int .i64 (cc : Nat)), (7, .sl (G.length + 4 + X.length + T.length) 0 n0)]
 ·intro fin
  have f1 := zGC (G := G) (F := none) (L := N + 1) (w := w) (k := k) (X := X) (d := d) (β := β) (T := T) (some ⟨122, qsC (List.replicate n0 0)⟩)
  refine rn5 ?_
  refine zD Z (fun h1 => ?_) (fun h1 => ?_)
  ·have h1' : cc < n0 := by omega
   have hiA : cc < (qsC (List.replicate n0 0)).len := by show cc < (List.replicate n0 (0 : Rat)).length; rw [List.length_replicate]; exact h1'
   rw [show zFM n0 cc = (List.replicate n0 (0 : Rat)).set cc 1 by unfold zFM; rw [if_pos h1']] at fin
   generalize List.replicate n0 (0 : Rat) = A at *
   refine rn0 ?_
   refine zB Z Z Z of_one ?_
   unfold qA
   repeat (refine zG (zZ rfl rfl rfl (by assumption) (by rfl) (by first | (simp only [Nat.zero_add, Int.toNat_natCast, Int.toNat_zero]; exact rfl) | exact rfl) (by omega)) ?_)
   refine zN (c' := qsC (A.set cc 1)) Z Z Z f1 Z hiA (List.length_set ..) Z (fun i' j' hi' hj' => zHE 0 3 zq A cc 1 hiA i' j' hi' hj') ?_
   refine zR (zY G none (N + 1) w k X d β (T ++ [some ⟨122, qsC (A.set cc 1)⟩])) (zCq _ _) ?_
   refine rn9 ?_
   exact fin _ ⟨Z, Z, Z, Z, trivial⟩
  ·have h1' : ¬ cc < n0 := by omega
   rw [show zFM n0 cc = List.replicate n0 (0 : Rat) by unfold zFM; rw [if_neg h1']] at fin
   refine rn9 ?_
   exact fin _ ⟨Z, Z, Z, Z, trivial⟩
 have f2 := zBB (G := G) (F := none) (L := N + 1) (w := w) (k := k) (X := X) (d := d) (β := β) (T := T ++ [some ⟨122, qsC (zB3 n0 β (fun i => Rat.divInt (-(at2 X i cc)) d) (zFM n0 cc) 0)⟩])
 refine zAV (zY G none (N + 1) w k X d β (T ++ [some ⟨122, qsC (zB3 n0 β (fun i => Rat.divInt (-(at2 X i cc)) d) (zFM n0 cc) 0)⟩])) Z ?_
 refine rn7 ?_
 refine zh (ι := Nat) (fun i => [(0, .ptr G.length 0 0), (1, .int .i64 (n0 : Nat)), (2, .int .i64 (cc : Nat)), (7, .sl (G.length + 4 + X.length + T.length) 0 n0), (33, .sl (G.length + 2) 0 β.length), (34, .int .i64 (β.length : Nat)), (35, .int .i64 (i : Nat))]) (fun i => zY G none (N + 1) w k X d β (T ++ [some ⟨122, qsC (zB3 n0 β (fun i => Rat.divInt (-(at2 X i cc)) d) (zFM n0 cc) i)⟩]))
  (fun i => i ≤ β.length) (fun i => β.length - i) 0 ⟨⟨rfl, rfl, rfl, rfl, rfl, rfl, rfl, trivial⟩, rfl, Nat.zero_le _⟩ ?_
 clear f2
 intro i hi
 have hVl := zDn n0 β (fun i => Rat.divInt (-(at2 X i cc)) d) (zFM n0 cc) i
 rw [zHB] at hVl
 refine rn4 ?_
 refine zD Z (fun h => ?_) (fun h => ?_)
 ·have hi' : i < β.length := by omega
  have hst : zB3 n0 β (fun i => Rat.divInt (-(at2 X i cc)) d) (zFM n0 cc) (i + 1) = if β.getD i 0 < n0 then (zB3 n0 β (fun i => Rat.divInt (-(at2 X i cc)) d) (zFM n0 cc) i).set (β.getD i 0) (Rat.divInt (-(at2 X i cc)) d) else zB3 n0 β (fun i => Rat.divInt (-(at2 X i cc)) d) (zFM n0 cc) i := rfl
  generalize zB3 n0 β (fun i => Rat.divInt (-(at2 X i cc)) d) (zFM n0 cc) i = V at *
  have f1 := zBB (G := G) (F := none) (L := N + 1) (w := w) (k := k) (X := X) (d := d) (β := β) (T := T ++ [some ⟨122, qsC V⟩])
  have f2 := zFe (G := G) (F := none) (L := N + 1) (w := w) (k := k) (X := X) (d := d) (β := β) (T := T ++ [some ⟨122, qsC V⟩])
  have g2 : i < (β.map (fun a : Nat => (a : Int))).length := by rw [List.length_map]; exact hi'
  refine zGh ?_
  refine zD Z (fun h1 => ?_) (fun h1 => ?_)
  ·rw [zAz] at h1
   have hb : β.getD i 0 < n0 := by omega
   rw [if_pos hb] at hst
   refine zAN 10 (.int .i64 (β.getD i 0 : Nat)) Z (AEq.of_eq (by rw [zAz])) ?_
   have lI : (X.getD i []).length = N + 1 := hL _ (zAr [] (by omega))
   have f3 := zCk (G := G) (F := none) (L := N + 1) (w := w) (k := k) (X := X) (d := d) (β := β) (T := T ++ [some ⟨122, qsC V⟩])
   have f4 := zCa (G := G) (F := none) (L := N + 1) (w := w) (k := k) (X := X) (d := d) (β := β) (T := T ++ [some ⟨122, qsC V⟩]) (a := i) (by omega)
   have f5 := zGC (G := G) (F := none) (L := N + 1) (w := w) (k := k) (X := X) (d := d) (β := β) (T := T) (some ⟨122, qsC V⟩)
   have g3 : i < (zBr G.length X.length (N + 1)).len := by show i < X.length; omega
   have g4 : cc < (zC (X.getD i [])).len := by show cc < (X.getD i []).length; omega
   have g5 : β.getD i 0 < (qsC V).len := by show _ < V.length; omega
   have hlT := hlen T
   have cq := q_ok G hG (N + 1) w k X d β (T ++ [some ⟨122, qsC V⟩]) (fun o ho => by
    rw [hlen]
    rcases List.mem_append.1 ho with q | q
    ·exact hT _ (by omega) o q
    ·cases List.mem_singleton.1 q; exact zKk V _) (-(at2 X i cc)) hd (by rw [Int.natAbs_neg]; exact hX i hi') hdl
   have co := zGZ (at2 X i cc)
   refine rn7 ?_
   refine zA 55 (zBD (at2 X i cc)) Z (AEq.of_eq Z) ?_
   refine zB Z Z Z co ?_
   refine zCd Z Z Z cq (fun _ h => h) (fun _ h => h) ?_
   rintro r' H' ⟨rfl, rfl⟩
   repeat (refine zG (zZ rfl rfl rfl (by assumption) (by rfl) (by first | (simp only [Nat.zero_add, Int.toNat_natCast, Int.toNat_zero]; exact rfl) | exact rfl) (by omega)) ?_)
   unfold qA
   refine zN (c' := qsC (V.set (β.getD i 0) (Rat.divInt (-(at2 X i cc)) d))) Z Z Z f5 Z g5 (List.length_set ..) Z (fun i' j' hi' hj' => zHE 0 3 zq V (β.getD i 0) _ g5 i' j' hi' hj') ?_
   refine zR (zY G none (N + 1) w k X d β (T ++ [some ⟨122, qsC (V.set (β.getD i 0) (Rat.divInt (-(at2 X i cc)) d))⟩])) (zCq _ _) ?_
   refine rn5 ?_
   exact zM ⟨i + 1, by omega, by omega, ⟨Z, Z, Z, Z, Z, Z, Z, trivial⟩, by rw [hst]⟩
  ·rw [zAz] at h1
   rw [if_neg (by omega)] at hst
   refine rn5 ?_
   exact zM ⟨i + 1, by omega, by omega, ⟨Z, Z, Z, Z, Z, Z, Z, trivial⟩, by rw [hst]⟩
 have hie : i = β.length := by omega
 subst hie
 refine rn9 ?_
 generalize zB3 n0 β (fun i => Rat.divInt (-(at2 X i cc)) d) (zFM n0 cc) β.length = V at *
 have f5 := zGC (G := G) (F := none) (L := N + 1) (w := w) (k := k) (X := X) (d := d) (β := β) (T := T) (some ⟨122, qsC V⟩)
 refine zAW (G.length + 4 + X.length + T.length) 7 n0 [] f5 (zBk _) Z (by show n0 ≤ V.length; omega) trivial ?_
 refine zAV (zY G none (N + 1) w k X d β T ++ [none]) (by rw [zCq, zAj]) ?_
 refine zA3 (zY G none (N + 1) w k X d β T) [none] [(7, .ro (qsC V) 0 n0)] rfl ⟨rfl, trivial⟩ (fun h hh => by rw [hfix] at hh; exact hh) (zCQ hG _ (by rw [hlen]; omega) (fun o ho => by cases ho) (hT _ (by rw [hlen]; omega))) rfl ?_
 refine rn0 ?_
 exact zI hR Z ⟨Z, Z⟩
end Go.Proofs.YtnkealfaldjipaaGreatDoor
namespace Go.Ax.Sx
open Go.Ax.Dt Go.Ax.Rt Go.Ax.Bg
theorem last0 (p : Prog) (s : St) : chg (fun q => -((zA6 p.C).getD q 0) * s.den) 0 (List.replicate (p.N + 1) 0) p.n = zDG (zBh p) p.N s 0 := by
 have hw := zF5 p
 refine zC7 (n := p.N + 1) (by rw [zCm]; simp) (zHS ..) (fun j hj => ?_)
 rw [zC5 _ _ _ (by simpa using hj), zHM hj]
 show _ = s.den * zBh p j - 0
 unfold zBh
 by_cases h : j < p.n
 ·rw [if_pos h, if_pos h, Int.sub_zero, Int.mul_comm]
 ·rw [if_neg h, if_neg h, Int.mul_zero, Int.sub_zero]
  simp [List.getD, hj]
theorem zP8 {p : Prog} {k : Nat} (hk : p.Dig k) (j : Nat) : (zBh p j).natAbs ≤ 10 ^ p.E k := by
 unfold zBh
 split
 ·rename_i h
  rw [Int.natAbs_neg]; exact zI6 hk h
 ·exact Nat.zero_le _
theorem zQK {p : Prog} {k E : Nat} {s : St} {i j : Nat} (hk : p.Dig k) (hi : i ≤ 98) (h : ∀ q, q < i → (at2 s.rows q j).natAbs ≤ 10 ^ E) (hd : s.den.natAbs ≤ 10 ^ E) (hj : j < p.N + 1) : ((zDG (zBh p) p.N s i).getD j 0).natAbs ≤ 10 ^ (p.E k + E + 2) := by
 rw [zHM hj]
 have h1 := zLF (B := 10 ^ (p.E k + E)) (n := i) (f := fun q => zBh p (s.basis.getD q 0) * at2 s.rows q j) (fun q hq => by
  show (zBh p (s.basis.getD q 0) * at2 s.rows q j).natAbs ≤ _
  rw [Int.natAbs_mul, Nat.pow_add]
  exact Nat.mul_le_mul (zP8 hk _) (h q hq))
 have h2 : (s.den * zBh p j).natAbs ≤ 10 ^ (p.E k + E) := by
  rw [Int.natAbs_mul, Nat.pow_add, Nat.mul_comm]
  exact Nat.mul_le_mul (zP8 hk _) hd
 have h3 := Int.natAbs_sub_le (s.den * zBh p j) (zAC (fun q => zBh p (s.basis.getD q 0) * at2 s.rows q j) i)
 have h4 : i * 10 ^ (p.E k + E) ≤ 98 * 10 ^ (p.E k + E) := Nat.mul_le_mul_right _ hi
 rw [Nat.pow_add]
 generalize 10 ^ (p.E k + E) = B at *
 omega
theorem zRP {p : Prog} {j : Nat} (h : ¬ (j < p.n ∧ (zA6 p.C).getD j 0 ≠ 0)) : zBh p j = 0 := by
 unfold zBh
 split
 ·rename_i h1
  have : (zA6 p.C).getD j 0 = 0 := Decidable.byContradiction (fun q => h ⟨h1, q⟩)
  rw [this]; rfl
 ·rfl
theorem cosK_neg {p : Prog} {j : Nat} (h : j < p.n) : -(zBh p j) = (zA6 p.C).getD j 0 := by
 unfold zBh
 rw [if_pos h, Int.neg_neg]
theorem yL_as (p : Prog) (s : St) (d : Int) : yL p s d = (List.range p.m).map (fun i => ((List.range p.m).map (fun i => Rat.divInt (at2 s.rows p.m (p.n + i)) d)).getD i 0 * (((((List.range p.m).map p.fac).getD i 0 : Nat)) : Rat)) := by
 unfold yL
 refine List.map_congr_left (fun i hi => ?_)
 have hi : i < p.m := by simpa using hi
 rw [show ((List.range p.m).map (fun i => Rat.divInt (at2 s.rows p.m (p.n + i)) d)).getD i 0 = Rat.divInt (at2 s.rows p.m (p.n + i)) d from zDz hi, show ((List.range p.m).map p.fac).getD i 0 = p.fac i from zDz hi]
theorem zRQ {p : Prog} {K L : Nat} (h : 0 < p.a ∧ at2 (zCL p K).rows p.m p.N < 0) : zAF p K L = ⟨1, [], yL p (zCL p K) (zCL p K).den, [], 0⟩ := by unfold zAF; rw [if_pos h]
theorem zQ9 {p : Prog} {K L : Nat} (h : ¬ (0 < p.a ∧ at2 (zCL p K).rows p.m p.N < 0)) (h2 : zCX p.m (p.n + p.m) (zD2 p K L) < p.n + p.m) : zAF p K L = ⟨2, zBs p (zD2 p K L), [], zHc p (zD2 p K L) (zCX p.m (p.n + p.m) (zD2 p K L)), 0⟩ := by unfold zAF; rw [if_neg h, if_pos h2]
theorem zRV {p : Prog} {K L : Nat} (h : ¬ (0 < p.a ∧ at2 (zCL p K).rows p.m p.N < 0)) (h2 : ¬ zCX p.m (p.n + p.m) (zD2 p K L) < p.n + p.m) : zAF p K L = ⟨0, zBs p (zD2 p K L), yL p (zD2 p K L) ((zD2 p K L).den * (p.fc : Nat)), [], Rat.divInt (at2 (zD2 p K L).rows p.m p.N) ((zD2 p K L).den * (p.fc : Nat))⟩ := by unfold zAF; rw [if_neg h, if_neg h2]
theorem col_le (p : Prog) (s : St) : zCX p.m (p.n + p.m) s ≤ p.n + p.m := Nat.le_trans (zE7 s.rows p.m (p.n + p.m) 0).2.1 (by omega)
end Go.Ax.Sx
