import Derived.Laws.Bits64
import Derived.Test.YtnkealfaldjipaaGreatDoorRows
import Derived.Test.YtnkealfaldjipaaGreatDoorTie
import Derived.Test.YtnkealfaldjipaaGreatDoorCards
import Derived.LaidMore
import Derived.Lay
import Derived.SevenTiedAt
import Derived.Stop.Joined
import Derived.Stop.ErrReads
import Derived.MakeChecks
import Derived.Test.YtnkealfaldjipaaGreatDoorY5
set_option linter.unusedVariables false
set_option linter.unusedSimpArgs false
namespace Go.Proofs.YtnkealfaldjipaaGreatDoor
open Go.Ax Go.Ax.Bg Go.Ax.Rt Go.RowKit Go.Ax.Dt Go.Ax.Sx
attribute [local irreducible] Ax zBR QOp zY zBK
set_option maxRecDepth 100000
set_option maxHeartbeats 40000000
theorem rowN1 (n : Nat) (j : Nat) (hj : j < 1) : (zB9 1 1 [zj n]).at 0 j = ([zj n] : List AV).getD j .any := by
 obtain rfl := Nat.lt_one_iff.1 hj
 rfl
theorem zNi (n : Nat) (j h : Nat) (hj : j < 1) : (([zj n] : List AV).getD j .any).forget h = ([zj n] : List AV).getD j .any := by
 obtain rfl := Nat.lt_one_iff.1 hj
 rfl
theorem zLn (l : List Nat) (n : Nat) : zBo n (nsC l) := by
 intro i j _ hj
 obtain rfl := Nat.lt_one_iff.1 (show j < 1 from hj)
 rfl
theorem zE7 (m : Nat) (x : Int) (j : Nat) (hj : j < 2) : zBt m ((zm x).getD j .any) = true := by
 match j, hj with
 | 0, _ => rfl
 | 1, _ => rfl
theorem zHD (p : Prog) (m : Nat) : zBo m (.box [.ro (zq p.A) 0 p.A.length, .ro (qsC p.B) 0 p.B.length, .ro (qsC p.C) 0 p.C.length]) := by
 intro i j hi hj
 obtain rfl := Nat.lt_one_iff.1 (show i < 1 from hi)
 match j, (show j < 3 from hj) with
 | 0, _ => rfl
 | 1, _ => rfl
 | 2, _ => rfl
theorem start_ok (p : Prog) (N k : Nat) (hp : p.Ok) (hk : p.Dig k) (hN : N = p.C.length + p.B.length + (zAc p.B p.B.length).length) (hm : p.B.length ≤ 40) (hn : p.C.length ≤ 40) (hk40 : k ≤ 10000) :
   zY Tryz.prog 165 [.agg [.ro (zq p.A) 0 p.A.length, .ro (qsC p.B) 0 p.B.length, .ro (qsC p.C) 0 p.C.length]] [] (fun _ => False)
     (fun r' H' => r' = .tup [.ptr 2 0 0, .ro (nsC ((List.range p.B.length).map p.fac)) 0 p.B.length, .int .i64 ((zAc p.B p.B.length).length : Nat)] ∧ H' = zd [none, none] none (N + 1) (p.C.length + p.B.length) p.B.length (zBE p) 1 (zBV p) []) := by
 refine zK (P := Tryz.prog) (fn := Tryz.f165) Z Z (by kernel_rfl) Z (fun c hR hfix => ?_)
 have hal : (zAc p.B p.B.length).length ≤ p.B.length := zJM p.B p.B.length
 repeat (first | refine zB (zL rfl) ?_ | refine zD ?_ | refine zA ?_ | refine zR ?_ | refine zG rfl ?_ | refine zFo rfl rfl ?_)
 refine zx (by kernel_rfl) ?_
 refine z8 (fuel := 0) [0, 1, 2, 3, 4, 5, 6, 7] [(1, .ptr 0 0 0), (3, .nil)] ⟨Z, Z, trivial⟩ (by kernel_rfl) (by decide) Z Z ?_
 refine zM Z Z (zI Z Z Z Z Z Z) ?_
 refine zM Z Z (zP Z Z Z Z Z) ?_
 refine zM Z Z (zAR Z Z Z) ?_
 refine zM Z Z (zI Z Z Z Z Z Z) ?_
 refine zM Z Z (zP Z Z Z Z Z) ?_
 refine zM Z Z (zAR Z Z Z) ?_
 refine zM Z Z (zL Z) ?_
 refine zM Z Z (zL Z) ?_
 refine zAC ?_
 refine zf (by kernel_rfl) ?_
 repeat (first | refine zB (zE rfl) ?_ | refine zB (zL rfl) ?_ | refine zD ?_ | refine zA ?_ | refine zR ?_ | refine zG rfl ?_ | refine zB (zP rfl rfl rfl rfl rfl) ?_ | refine zB (zAR rfl rfl rfl) ?_ | refine zB (zI rfl rfl rfl rfl rfl rfl) ?_)
 refine zBH 7 ⟨3, zBs (zAc p.B 0)⟩ Z Z ?_
 repeat (refine zb ?_)
 refine zt (ι := Nat) (fun i => [(1, .ptr 0 0 0), (3, .nil), (5, .int .i64 (p.C.length : Nat)), (6, .int .i64 (p.B.length : Nat)), (7, .sl 1 0 (zAc p.B i).length), (24, .ro (qsC p.B) 0 p.B.length), (25, .int .i64 (p.B.length : Nat)), (26, .int .i64 (i : Nat))]) (fun i => [some ⟨188, .box [.ro (zq p.A) 0 p.A.length, .ro (qsC p.B) 0 p.B.length, .ro (qsC p.C) 0 p.C.length]⟩, some ⟨3, zBs (zAc p.B i)⟩]) (fun i => i ≤ p.B.length) (fun i => p.B.length - i) 0 ⟨⟨Z, Z, Z, Z, Z, Z, Z, Z, trivial⟩, Z, Nat.zero_le _⟩ ?_
 intro i hi
 repeat (first | refine zD ?_ | refine zA ?_ | refine zR ?_ | refine zG rfl ?_ | refine zB (zCg rfl rfl) ?_)
 refine zF Z (fun h => ?_) (fun h => ?_)
 · have hi' : i < p.B.length := by omega
   have hle := zJM p.B i
   repeat (first | refine zB (zE rfl) ?_ | refine zB (zL rfl) ?_ | refine zA ?_ | refine zR ?_ | refine zG rfl ?_ | refine zb ?_ | refine zi ?_ | refine zB (zAN rfl rfl rfl rfl (by first | (simp only [Nat.zero_add, Int.toNat_natCast, Int.toNat_zero]; exact rfl) | exact rfl) (by omega)) ?_ | refine zB (zBN rfl rfl rfl rfl rfl rfl) ?_ | refine zAe rfl rfl rfl ?_)
   refine zS [some ⟨188, .box [.ro (zq p.A) 0 p.A.length, .ro (qsC p.B) 0 p.B.length, .ro (qsC p.C) 0 p.C.length]⟩, some ⟨3, zBs (zAc p.B i)⟩, some ⟨122, .box [.bool false, .nil, .nil]⟩] Z ?_
   refine zH 9 (.ptr 2 0 0) Z (AEq.of_eq Z) ?_
   refine zH 30 (.agg (z7 (p.B.getD i 0))) Z (AEq.of_eq Z) ?_
   refine zU (c' := .box (z7 (p.B.getD i 0))) Z Z Z Z Z Nat.zero_lt_one Z Z (fun i' j' hi' hj' => ?_) ?_
   · rw [if_pos (Nat.lt_one_iff.1 hi')]; rfl
   refine zS [some ⟨188, .box [.ro (zq p.A) 0 p.A.length, .ro (qsC p.B) 0 p.B.length, .ro (qsC p.C) 0 p.C.length]⟩, some ⟨3, zBs (zAc p.B i)⟩, some ⟨122, .box (z7 (p.B.getD i 0))⟩] Z ?_
   have cs := zEb (p.B.getD i 0)
   have hs : zAc p.B (i + 1) = if (p.B.getD i 0).num < 0 then zAc p.B i ++ [i] else zAc p.B i := by rw [zAc]
   apply zAP (H := [some ⟨188, .box [.ro (zq p.A) 0 p.A.length, .ro (qsC p.B) 0 p.B.length, .ro (qsC p.C) 0 p.C.length]⟩, some ⟨3, zBs (zAc p.B (i + 1))⟩, some ⟨122, .box (z7 (p.B.getD i 0))⟩]) [(1, .ptr 0 0 0), (3, .nil), (5, .int .i64 (p.C.length : Nat)), (6, .int .i64 (p.B.length : Nat)), (7, .sl 1 0 (zAc p.B (i + 1)).length), (24, .ro (qsC p.B) 0 p.B.length), (25, .int .i64 (p.B.length : Nat)), (26, .int .i64 (i : Nat))]
   · intro fin
     repeat (first | refine zD ?_ | refine zA ?_ | refine zR ?_ | refine zG rfl ?_ | refine zB (zp rfl rfl rfl rfl rfl rfl rfl (by first | exact Nat.zero_lt_one | assumption | omega)) ?_)
     refine zH 31 (qA (p.B.getD i 0)) Z (AEq.of_eq Z) ?_
     refine zJ Z Z Z cs ?_
     repeat (first | refine zD ?_ | refine zA ?_ | refine zB (zCg rfl rfl) ?_)
     refine zF Z (fun h1 => ?_) (fun h1 => ?_)
     · rw [zFI] at h1
       rw [if_pos h1] at hs
       rw [hs] at fin
       have hll : (zAc p.B i ++ [i]).length = (zAc p.B i).length + 1 := by rw [List.length_append]; rfl
       have hol : (zBs (zAc p.B i)).len = (zAc p.B i).length := List.length_map ..
       repeat (first | refine zB (zE rfl) ?_ | refine zG rfl ?_ | refine zh rfl rfl rfl rfl rfl rfl rfl rfl rfl rfl rfl ?_)
       refine zAS Z Z Z Z Z Z Z Z Z hol Z Z (by show 0 + 1 ≤ 1; omega) Z (by show ((zAc p.B i).length + 1) * 8 ≤ _ ∧ _; have : (zAc p.B i).length ≤ i := hle; omega) (fun _ _ _ _ => rfl) (by rw [hfix]; exact fun h => h) ?_
       refine zAw [some ⟨188, .box [.ro (zq p.A) 0 p.A.length, .ro (qsC p.B) 0 p.B.length, .ro (qsC p.C) 0 p.C.length]⟩, some ⟨3, zBs (zAc p.B i ++ [i])⟩, some ⟨122, .box (z7 (p.B.getD i 0))⟩] (zn.same (zn.eqv (zKO (zAc p.B i) i) (zn.same zn.nil))) ?_
       refine zH 37 (.sl 1 0 (zAc p.B i ++ [i]).length) Z (AEq.of_eq (by rw [hll])) ?_
       repeat (first | refine zB (zL rfl) ?_ | refine zD ?_ | refine zA ?_ | refine zc ?_)
       exact fin _ ⟨Z, Z, Z, Z, Z, Z, Z, Z, trivial⟩
     · rw [zFI] at h1
       rw [if_neg h1] at hs
       rw [hs] at fin
       repeat (first | refine zA ?_ | refine zc ?_ | refine zi ?_)
       exact fin _ ⟨Z, Z, Z, Z, Z, Z, Z, Z, trivial⟩
   · refine zBi [some ⟨188, .box [.ro (zq p.A) 0 p.A.length, .ro (qsC p.B) 0 p.B.length, .ro (qsC p.C) 0 p.C.length]⟩, some ⟨3, zBs (zAc p.B (i + 1))⟩] [some ⟨122, .box (z7 (p.B.getD i 0))⟩] [(1, .ptr 0 0 0), (3, .nil), (5, .int .i64 (p.C.length : Nat)), (6, .int .i64 (p.B.length : Nat)), (7, .sl 1 0 (zAc p.B (i + 1)).length), (24, .ro (qsC p.B) 0 p.B.length), (25, .int .i64 (p.B.length : Nat)), (26, .int .i64 (i : Nat))] Z ⟨Z, Z, Z, Z, Z, Z, Z, Z, trivial⟩ (fun h hh => by rw [hfix] at hh; exact hh.elim) (fun h o ho => by
       match h, ho with
       | 0, ho => cases ho; exact zHD p _
       | 1, ho => cases ho; exact fun i j _ _ => rfl) rfl ?_
     repeat (first | refine zB (zE rfl) ?_ | refine zD ?_ | refine zG rfl ?_ | refine zB (zCA rfl rfl (by omega)) ?_)
     exact zQ ⟨i + 1, by omega, by omega, ⟨Z, Z, Z, Z, Z, Z, Z, Z, trivial⟩, Z⟩
 have hie : i = p.B.length := by omega
 rw [hie]
 clear hi h hie
 clear i
 have cw := zJL 1 (by decide)
 unfold zA6 at cw
 repeat (first | refine zA ?_ | refine zR ?_ | refine zG rfl ?_ | refine zAg ?_ | refine zw ?_ | refine zv ?_ | refine zAD ?_)
 refine zJ Z Z Z cw ?_
 repeat (first | refine zB (zE rfl) ?_ | refine zB (zCA rfl rfl (by omega)) ?_)
 refine zH 42 (.int .i64 ((p.C.length + p.B.length : Nat))) Z (AEq.of_eq (by show AV.int _ _ = AV.int _ _; congr 1)) ?_
 repeat (first | refine zB (zE rfl) ?_ | refine zB (zL rfl) ?_ | refine zD ?_ | refine zA ?_ | refine zR ?_ | refine zG rfl ?_ | refine zB (zP rfl rfl rfl rfl rfl) ?_ | refine zB (zAR rfl rfl rfl) ?_ | refine zB (zAY rfl rfl rfl rfl rfl rfl) ?_ | refine zB (zI rfl rfl rfl rfl rfl rfl) ?_ | refine zFo rfl rfl ?_)
 refine zBH 3 ⟨118, nsC []⟩ Z Z ?_
 refine zJX 2 ⟨3, zBs []⟩ (.box [.nil, .bool (decide ((1 : Int) < 0)), zj (1 : Int).natAbs, .sl 4 0 0, .int .i64 ((p.C.length + p.B.length : Nat))]) Z Z Z Z (fun i j hi hj => ?_) ?_
 · obtain rfl := Nat.lt_one_iff.1 hi
   match j, hj with
   | 0, _ => exact .inl rfl
   | 1, _ => exact .inl rfl
   | 2, _ => exact .inl rfl
   | 3, _ => exact .inr ⟨rfl, rfl⟩
   | 4, _ => exact .inl rfl
 refine zJX 2 ⟨248, zBb 2 0 (N + 1)⟩ (zDj 2 0 0 (p.C.length + p.B.length) 1) Z Z Z Z (fun i j hi hj => ?_) ?_
 · obtain rfl := Nat.lt_one_iff.1 hi
   match j, hj with
   | 0, _ => exact .inr ⟨rfl, rfl⟩
   | 1, _ => exact .inl rfl
   | 2, _ => exact .inl rfl
   | 3, _ => exact .inl rfl
   | 4, _ => exact .inl rfl
 generalize hGG : ([some ⟨188, .box [.ro (zq p.A) 0 p.A.length, .ro (qsC p.B) 0 p.B.length, .ro (qsC p.C) 0 p.C.length]⟩, some ⟨3, zBs (zAc p.B p.B.length)⟩] : zN) = G
 refine zAW (zd G (some ⟨118, nsC []⟩) (N + 1) (p.C.length + p.B.length) 0 [] 1 [] []) (by subst hGG; rfl) ?_
 refine zAp 2 (.ptr G.length 0 0) rfl (AEq.of_eq (by subst hGG; rfl)) ?_
 refine zAp 3 (.sl (G.length + 1) 0 0) rfl (AEq.of_eq (by subst hGG; rfl)) ?_
 have hG2 : G.length = 2 := by subst hGG; rfl
 have hG : OkG G := by
   rw [← hGG]
   intro m hm o ho
   rcases List.mem_cons.1 ho with e | e
   · cases e; exact zHD p _
   · cases List.mem_singleton.1 e; exact fun i j _ _ => rfl
 have hFG : ∀ h, zo h G = G := fun h => by subst hGG; rfl
 have hg0 : ∀ F kk X β T, (zd G F (N + 1) (p.C.length + p.B.length) kk X 1 β T)[0]? = some (some ⟨188, .box [.ro (zq p.A) 0 p.A.length, .ro (qsC p.B) 0 p.B.length, .ro (qsC p.C) 0 p.C.length]⟩) := fun F kk X β T => by subst hGG; rfl
 generalize hnd : zAc p.B p.B.length = nd at *
 have hg1 : ∀ F kk X β T, (zd G F (N + 1) (p.C.length + p.B.length) kk X 1 β T)[1]? = some (some ⟨3, zBs nd⟩) := fun F kk X β T => by subst hGG; rfl
 have hAB : p.A.length = p.B.length := hp.rows
 repeat (refine zb ?_)
 refine zt (ι := Nat) (fun i => [(1, .ptr 0 0 0), (2, .ptr G.length 0 0), (3, .sl (G.length + 1) 0 i), (5, .int .i64 (p.C.length : Nat)), (6, .int .i64 (p.B.length : Nat)), (7, .sl 1 0 nd.length), (46, .ro (zq p.A) 0 p.A.length), (47, .int .i64 (p.A.length : Nat)), (48, .int .i64 (i : Nat))]) (fun i => zd G (some ⟨118, nsC ((List.range i).map p.fac)⟩) (N + 1) (p.C.length + p.B.length) i ((zBE p).take i) 1 ((zBV p).take i) []) (fun i => i ≤ p.B.length) (fun i => p.B.length - i) 0 ⟨⟨Z, Z, Z, Z, Z, Z, Z, Z, Z, trivial⟩, Z, Nat.zero_le _⟩ ?_
 intro i hi
 repeat (first | refine zD ?_ | refine zA ?_ | refine zR ?_ | refine zG rfl ?_ | refine zB (zCg rfl rfl) ?_)
 refine zF Z (fun h => ?_) (fun h => ?_)
 · have hi' : i < p.B.length := by omega
   have hTl : (zBE p).length = p.B.length := zCS p
   have hBl : (zBV p).length = p.B.length := zFk p
   have hX1 := zJD (zBE p) [] (i := i) (by omega)
   have hβ1 := zJD (zBV p) 0 (i := i) (by omega)
   have hXl : ((zBE p).take i).length = i := by rw [List.length_take, hTl]; omega
   have hβl : ((zBV p).take i).length = i := by rw [List.length_take, hBl]; omega
   have hf1 : (List.range (i + 1)).map p.fac = (List.range i).map p.fac ++ [p.fac i] := by rw [List.range_succ, List.map_append]; rfl
   have hfl : ((List.range i).map p.fac).length = i := by simp
   have hXv : (zBE p).getD i [] = zC2 p.C.length p.B.length nd.length (p.whole i) i (p.neg i) (zBY p.B i) := by rw [← hnd]; exact zDq hi'
   have hβv : (zBV p).getD i 0 = if p.neg i then p.C.length + p.B.length + zBY p.B i else p.C.length + i := zFr p hi'
   rw [hXv] at hX1
   rw [hβv] at hβ1
   generalize hX2 : (zBE p).take (i + 1) = X2 at *
   generalize (zBE p).take i = X at *
   generalize hβ2 : (zBV p).take (i + 1) = β2 at *
   generalize (zBV p).take i = β at *
   generalize hfs2 : (List.range (i + 1)).map p.fac = fs2 at *
   generalize (List.range i).map p.fac = fs at *
   have hlen : ∀ T, (zd G (some ⟨118, nsC fs⟩) (N + 1) (p.C.length + p.B.length) i X 1 β T).length = G.length + 4 + i + T.length := fun T => by rw [zBC, hXl]
   have hFf : ∀ h (l : List Nat), zA0 h (some (⟨118, nsC l⟩ : AObj)) = some ⟨118, nsC l⟩ := fun h l => by show some (⟨_, (nsC l).forget h⟩ : AObj) = _; rw [nsC_fg]
   have hlen0 : (zd G (some ⟨118, nsC fs⟩) (N + 1) (p.C.length + p.B.length) i X 1 β []).length = G.length + 4 + i := by rw [zBC, hXl]; rfl
   have hrl : (p.A.getD i []).length = p.C.length := hp.cols _ (zAt [] (by omega))
   have hful : p.full i = p.A.getD i [] ++ [p.B.getD i 0] := rfl
   have hfull : (p.full i).length = p.C.length + 1 := zES p hp hi'
   have hfD := zNB hp hk hi'
   have hWl : (p.whole i).length = p.C.length + 1 := by unfold Prog.whole; rw [zFx]; exact hfull
   have hWe : zA4 (p.full i) = p.whole i := rfl
   have hFe : zDE 1 (p.full i) = p.fac i := rfl
   have cl := cloneQ (p.A.getD i []) (by omega)
   rw [hrl] at cl
   have cW := zLu (p.full i) k hfD (by omega) (by rw [hfull]; have : k * (p.C.length + 1) ≤ 10000 * 41 := Nat.mul_le_mul hk40 (by omega); omega)
   rw [hfull, hWe, hFe] at cW
   rw [hful] at cW
   repeat (first | refine zB (zE rfl) ?_ | refine zB (zL rfl) ?_ | refine zD ?_ | refine zA ?_ | refine zR ?_ | refine zG rfl ?_ | refine zb ?_ | refine zi ?_ | refine zB (zCo rfl rfl rfl rfl) ?_ | refine zB (zAN rfl rfl rfl rfl (by first | (simp only [Nat.zero_add, Int.toNat_natCast, Int.toNat_zero]; exact rfl) | exact rfl) (by omega)) ?_)
   refine zAp 11 (.ro (qsC (p.A.getD i [])) 0 p.C.length) Z (AEq.of_eq (by rw [← hrl]; rfl)) ?_
   generalize p.A.getD i [] = row at *
   have gB := hg0 (some ⟨118, nsC fs⟩) i X β [some ⟨122, qsC row⟩]
   have gA := hg0 (some ⟨118, nsC fs⟩) i X β []
   repeat (first | refine zB (zE rfl) ?_ | refine zB (zL rfl) ?_ | refine zD ?_ | refine zA ?_ | refine zR ?_ | refine zG rfl ?_ | refine zAn rfl ?_ | refine zr rfl ?_ | refine zc ?_ | refine zAF ?_ | refine zb ?_ | refine zi ?_ | refine zAg ?_ | refine zw ?_ | refine zv ?_ | refine zAD ?_ | refine zAh ?_ | refine zB (zCo rfl rfl rfl rfl) ?_ | refine zB (zP rfl rfl rfl rfl rfl) ?_ | refine zB (zCg rfl rfl) ?_ | refine zB (zDY rfl rfl) ?_ | refine zB (zAR rfl rfl rfl) ?_ | refine zB (zCA rfl rfl (by omega)) ?_ | refine zB (zBc rfl rfl (by omega)) ?_ | refine zB (zAN rfl rfl rfl rfl (by first | (simp only [Nat.zero_add, Int.toNat_natCast, Int.toNat_zero]; exact rfl) | exact rfl) (by omega)) ?_ | refine zB (zAY rfl rfl rfl rfl rfl rfl) ?_ | refine zB (zT rfl) ?_ | refine zB (zI rfl rfl rfl rfl rfl rfl) ?_ | refine zB (zBN rfl rfl rfl rfl rfl rfl) ?_ | refine zB (zp rfl rfl rfl rfl rfl rfl rfl (by first | exact Nat.zero_lt_one | assumption | omega)) ?_ | refine zB (zV rfl rfl rfl (by assumption) (by rfl) (by first | (simp only [Nat.zero_add, Int.toNat_natCast, Int.toNat_zero]; exact rfl) | exact rfl) (by omega)) ?_ | refine zB (zg rfl rfl rfl rfl (by assumption) (by rfl) (by rfl) (by first | exact Nat.zero_lt_one | assumption | omega)) ?_ | refine zB (zl rfl rfl rfl (by assumption) (by rfl)) ?_ | refine zh rfl rfl rfl rfl rfl rfl rfl rfl rfl rfl rfl ?_ | refine zFo rfl rfl ?_ | refine zAe rfl rfl rfl ?_)
   refine zx (by kernel_rfl) ?_
   refine zAA 0 Z (by kernel_rfl) (by kernel_rfl) (by kernel_rfl) Z (zE Z) Z ?_
   refine zAA 2 Z (by kernel_rfl) (by kernel_rfl) (by kernel_rfl) Z (zI Z Z Z Z Z Z) Z ?_
   refine zAA 4 Z (by kernel_rfl) (by kernel_rfl) (by kernel_rfl) Z (zE Z) Z ?_
   apply zAd (H := zd G (some ⟨118, nsC fs⟩) (N + 1) (p.C.length + p.B.length) i X 1 β [some ⟨122, qsC row⟩]) [(1, .ptr 0 0 0), (2, .ptr G.length 0 0), (3, .sl (G.length + 1) 0 i), (5, .int .i64 (p.C.length : Nat)), (6, .int .i64 (p.B.length : Nat)), (7, .sl 1 0 nd.length), (46, .ro (zq p.A) 0 p.A.length), (47, .int .i64 (p.A.length : Nat)), (48, .int .i64 (i : Nat)), (10, .int .i64 (i : Nat)), (55, .sl (G.length + 4 + i) 0 p.C.length), (61, .ro (zB9 1 3 (z7 (p.B.getD i 0))) 0 1)]
   · intro fin
     refine zW (is := [1, 3]) (by kernel_rfl) (by simp) Z ⟨fun o ho => ?_, fun o ho => ?_, trivial⟩
     all_goals (cases ho)
     · refine zEe Z Z Z cl ?_
       refine zS (zd G (some ⟨118, nsC fs⟩) (N + 1) (p.C.length + p.B.length) i X 1 β [some ⟨122, qsC row⟩]) (by rw [zAj]; rfl) ?_
       refine zH 55 (.sl (G.length + 4 + i) 0 p.C.length) Z (AEq.of_eq (by rw [hlen]; rfl)) ?_
       repeat (first | refine zD ?_ | refine zAF ?_)
       refine zAl (fuel := 7) [3, 5, 6, 7] [(1, .ptr 0 0 0), (2, .ptr G.length 0 0), (3, .sl (G.length + 1) 0 i), (5, .int .i64 (p.C.length : Nat)), (6, .int .i64 (p.B.length : Nat)), (7, .sl 1 0 nd.length), (46, .ro (zq p.A) 0 p.A.length), (47, .int .i64 (p.A.length : Nat)), (48, .int .i64 (i : Nat)), (10, .int .i64 (i : Nat)), (56, .ptr 0 0 1), (58, .int .i64 (i : Nat)), (55, .sl (G.length + 4 + i) 0 p.C.length)] ⟨Z, Z, Z, Z, Z, Z, Z, Z, Z, Z, Z, Z, Z, trivial⟩ (by kernel_rfl) (by decide) Z Z ?_
       refine zM Z Z (zl Z Z Z (by assumption) (by rfl)) ?_
       refine zM Z Z (zAN Z Z Z Z (by first | (simp only [Nat.zero_add, Int.toNat_natCast, Int.toNat_zero]; exact Z) | exact Z) (by omega)) ?_
       refine zM Z Z (zBN Z Z Z Z Z Z) ?_
       refine px_b Z Z Z Z Z Z Z Z Z Z Z Z Z ?_
       refine zAC ?_
       exact fin _ ⟨Z, Z, Z, Z, Z, Z, Z, Z, Z, Z, Z, Z, trivial⟩
     · repeat (first | refine zD ?_ | refine zAF ?_ | refine zB (zl rfl rfl rfl (by assumption) (by rfl)) ?_)
       refine zW (is := [1, 5]) (by kernel_rfl) (by simp) Z ⟨fun o ho => ?_, fun o ho => ?_, trivial⟩
       all_goals (cases ho)
       · refine zEe Z Z Z cl ?_
         refine zS (zd G (some ⟨118, nsC fs⟩) (N + 1) (p.C.length + p.B.length) i X 1 β [some ⟨122, qsC row⟩]) (by rw [zAj]; rfl) ?_
         refine zH 55 (.sl (G.length + 4 + i) 0 p.C.length) Z (AEq.of_eq (by rw [hlen]; rfl)) ?_
         repeat (first | refine zD ?_ | refine zAF ?_)
         refine zAl (fuel := 7) [5, 6, 7] [(1, .ptr 0 0 0), (2, .ptr G.length 0 0), (3, .sl (G.length + 1) 0 i), (5, .int .i64 (p.C.length : Nat)), (6, .int .i64 (p.B.length : Nat)), (7, .sl 1 0 nd.length), (46, .ro (zq p.A) 0 p.A.length), (47, .int .i64 (p.A.length : Nat)), (48, .int .i64 (i : Nat)), (10, .int .i64 (i : Nat)), (56, .ptr 0 0 1), (58, .int .i64 (i : Nat)), (55, .sl (G.length + 4 + i) 0 p.C.length), (57, .ro (qsC p.B) 0 p.B.length)] ⟨Z, Z, Z, Z, Z, Z, Z, Z, Z, Z, Z, Z, Z, Z, trivial⟩ (by kernel_rfl) (by decide) Z Z ?_
         refine zM Z Z (zAN Z Z Z Z (by first | (simp only [Nat.zero_add, Int.toNat_natCast, Int.toNat_zero]; exact Z) | exact Z) (by omega)) ?_
         refine zM Z Z (zBN Z Z Z Z Z Z) ?_
         refine px_b Z Z Z Z Z Z Z Z Z Z Z Z Z ?_
         refine zAC ?_
         exact fin _ ⟨Z, Z, Z, Z, Z, Z, Z, Z, Z, Z, Z, Z, trivial⟩
       · repeat (first | refine zD ?_ | refine zAF ?_ | refine zB (zAN rfl rfl rfl rfl (by first | (simp only [Nat.zero_add, Int.toNat_natCast, Int.toNat_zero]; exact rfl) | exact rfl) (by omega)) ?_)
         refine zW (is := [1, 6]) (by kernel_rfl) (by simp) Z ⟨fun o ho => ?_, fun o ho => ?_, trivial⟩
         all_goals (cases ho)
         · refine zEe Z Z Z cl ?_
           refine zS (zd G (some ⟨118, nsC fs⟩) (N + 1) (p.C.length + p.B.length) i X 1 β [some ⟨122, qsC row⟩]) (by rw [zAj]; rfl) ?_
           refine zH 55 (.sl (G.length + 4 + i) 0 p.C.length) Z (AEq.of_eq (by rw [hlen]; rfl)) ?_
           repeat (first | refine zD ?_ | refine zAF ?_)
           refine zAl (fuel := 7) [6, 7] [(1, .ptr 0 0 0), (2, .ptr G.length 0 0), (3, .sl (G.length + 1) 0 i), (5, .int .i64 (p.C.length : Nat)), (6, .int .i64 (p.B.length : Nat)), (7, .sl 1 0 nd.length), (46, .ro (zq p.A) 0 p.A.length), (47, .int .i64 (p.A.length : Nat)), (48, .int .i64 (i : Nat)), (10, .int .i64 (i : Nat)), (56, .ptr 0 0 1), (58, .int .i64 (i : Nat)), (55, .sl (G.length + 4 + i) 0 p.C.length), (59, .rp (qsC p.B) i 0)] ⟨Z, Z, Z, Z, Z, Z, Z, Z, Z, Z, Z, Z, Z, Z, trivial⟩ (by kernel_rfl) (by decide) Z Z ?_
           refine zM Z Z (zBN Z Z Z Z Z Z) ?_
           refine px_b Z Z Z Z Z Z Z Z Z Z Z Z Z ?_
           refine zAC ?_
           exact fin _ ⟨Z, Z, Z, Z, Z, Z, Z, Z, Z, Z, Z, Z, trivial⟩
         · repeat (first | refine zD ?_ | refine zAF ?_ | refine zB (zBN rfl rfl rfl rfl rfl rfl) ?_)
           refine zW (is := [1, 7]) (by kernel_rfl) (by simp) Z ⟨fun o ho => ?_, fun o ho => ?_, trivial⟩
           all_goals (cases ho)
           · refine zEe Z Z Z cl ?_
             refine zS (zd G (some ⟨118, nsC fs⟩) (N + 1) (p.C.length + p.B.length) i X 1 β [some ⟨122, qsC row⟩]) (by rw [zAj]; rfl) ?_
             refine zH 55 (.sl (G.length + 4 + i) 0 p.C.length) Z (AEq.of_eq (by rw [hlen]; rfl)) ?_
             repeat (first | refine zD ?_ | refine zAF ?_)
             refine zAl (fuel := 7) [7] [(1, .ptr 0 0 0), (2, .ptr G.length 0 0), (3, .sl (G.length + 1) 0 i), (5, .int .i64 (p.C.length : Nat)), (6, .int .i64 (p.B.length : Nat)), (7, .sl 1 0 nd.length), (46, .ro (zq p.A) 0 p.A.length), (47, .int .i64 (p.A.length : Nat)), (48, .int .i64 (i : Nat)), (10, .int .i64 (i : Nat)), (56, .ptr 0 0 1), (58, .int .i64 (i : Nat)), (55, .sl (G.length + 4 + i) 0 p.C.length), (60, .agg (z7 (p.B.getD i 0)))] ⟨Z, Z, Z, Z, Z, Z, Z, Z, Z, Z, Z, Z, Z, Z, trivial⟩ (by kernel_rfl) (by decide) Z Z ?_
             refine px_b Z Z Z Z Z Z Z Z Z Z Z Z Z ?_
             refine zAC ?_
             exact fin _ ⟨Z, Z, Z, Z, Z, Z, Z, Z, Z, Z, Z, Z, trivial⟩
           · repeat (first | refine zD ?_ | refine zAF ?_ | refine zh rfl rfl rfl rfl rfl rfl rfl rfl rfl rfl rfl ?_)
             refine zW (is := [1]) (by kernel_rfl) (by simp) Z ⟨fun o ho => ?_, trivial⟩
             all_goals (cases ho)
             refine zEe Z Z Z cl ?_
             refine zS (zd G (some ⟨118, nsC fs⟩) (N + 1) (p.C.length + p.B.length) i X 1 β [some ⟨122, qsC row⟩]) (by rw [zAj]; rfl) ?_
             refine zH 55 (.sl (G.length + 4 + i) 0 p.C.length) Z (AEq.of_eq (by rw [hlen]; rfl)) ?_
             repeat (first | refine zD ?_ | refine zAF ?_)
             exact fin _ ⟨Z, Z, Z, Z, Z, Z, Z, Z, Z, Z, Z, Z, trivial⟩
   refine zW (is := [8]) (by kernel_rfl) (by simp) Z ⟨fun o ho => ?_, trivial⟩
   all_goals (cases ho)
   have q0 := zAk (G := G) (F := (some ⟨118, nsC fs⟩)) (L := N + 1) (w := p.C.length + p.B.length) (k := i) (X := X) (d := 1) (β := β) (T := [some ⟨122, qsC row⟩]) 0
   rw [hXl, Nat.add_zero] at q0
   have hol : (qsC row).len = p.C.length := hrl
   refine zAS Z Z Z Z Z Z Z q0 Z hol Z Z (by show 0 + 1 ≤ 1; omega) Z (by show (p.C.length + 1) * 56 ≤ _ ∧ _; omega) ?_ (by rw [hfix]; exact fun h => h) ?_
   · intro i' j' hi' hj'
     exact zBg 0 3 z7 zBj row _ _ (zEF _) _ i' j' hi' hj'
   refine zBl ((62, .sl (G.length + 4 + i) 0 (p.C.length + 1)) :: [(1, .ptr 0 0 0), (2, .ptr G.length 0 0), (3, .sl (G.length + 1) 0 i), (5, .int .i64 (p.C.length : Nat)), (6, .int .i64 (p.B.length : Nat)), (7, .sl 1 0 nd.length), (46, .ro (zq p.A) 0 p.A.length), (47, .int .i64 (p.A.length : Nat)), (48, .int .i64 (i : Nat)), (10, .int .i64 (i : Nat))]) ⟨Z, zA1 (h := G.length + 4 + i) (L := [(1, .ptr 0 0 0), (2, .ptr G.length 0 0), (3, .sl (G.length + 1) 0 i), (5, .int .i64 (p.C.length : Nat)), (6, .int .i64 (p.B.length : Nat)), (7, .sl 1 0 nd.length), (46, .ro (zq p.A) 0 p.A.length), (47, .int .i64 (p.A.length : Nat)), (48, .int .i64 (i : Nat)), (10, .int .i64 (i : Nat))]) ⟨Z, Z, Z, Z, Z, Z, Z, Z, Z, Z, trivial⟩ (by
       intro q hq
       simp only [List.mem_cons, List.mem_nil_iff, or_false] at hq
       rcases hq with rfl | rfl | rfl | rfl | rfl | rfl | rfl | rfl | rfl | rfl <;> simp [AV.forget, zAB (show G.length ≠ G.length + 4 + i by omega), zAB (show G.length + 1 ≠ G.length + 4 + i by omega), zAB (show 0 ≠ G.length + 4 + i by omega), zAB (show 1 ≠ G.length + 4 + i by omega)])⟩ ?_
   refine zAw (zd G (some ⟨118, nsC fs⟩) (N + 1) (p.C.length + p.B.length) i X 1 β [some ⟨122, qsC (row ++ [p.B.getD i 0])⟩]) (by
     have q := zJJ (G := G) (F := some ⟨118, nsC fs⟩) (L := N + 1) (w := p.C.length + p.B.length) (k := i) (X := X) (d := 1) (β := β) (y := some ⟨122, qsC row⟩) (t := 122) (hFG _) (hFf _ _) (zBx 0 3 z7 row (p.B.getD i 0) _ (zEF (p.B.getD i 0)))
     rw [hXl] at q
     exact q) ?_
   repeat (first | refine zD ?_ | refine zAF ?_)
   refine zW (is := [9]) (by kernel_rfl) (by simp) Z ⟨fun o ho => ?_, trivial⟩
   all_goals (cases ho)
   have q1 := zAk (G := G) (F := (some ⟨118, nsC fs⟩)) (L := N + 1) (w := p.C.length + p.B.length) (k := i) (X := X) (d := 1) (β := β) (T := [some ⟨122, qsC (row ++ [p.B.getD i 0])⟩]) 0
   rw [hXl, Nat.add_zero] at q1
   refine zDa (G.length + 4 + i) 62 (p.C.length + 1) [(1, .ptr 0 0 0), (2, .ptr G.length 0 0), (3, .sl (G.length + 1) 0 i), (5, .int .i64 (p.C.length : Nat)), (6, .int .i64 (p.B.length : Nat)), (7, .sl 1 0 nd.length), (46, .ro (zq p.A) 0 p.A.length), (47, .int .i64 (p.A.length : Nat)), (48, .int .i64 (i : Nat)), (10, .int .i64 (i : Nat))] q1 (zBm _) Z (by show p.C.length + 1 ≤ (row ++ [p.B.getD i 0]).length; rw [List.length_append, hrl]; exact Nat.le_refl _) ⟨Z, Z, Z, Z, Z, Z, Z, Z, Z, Z, trivial⟩ ?_
   refine zS (zd G (some ⟨118, nsC fs⟩) (N + 1) (p.C.length + p.B.length) i X 1 β [none]) (by have q := zAQ (G := G) (F := (some ⟨118, nsC fs⟩)) (L := N + 1) (w := p.C.length + p.B.length) (k := i) (X := X) (d := 1) (β := β) (T := [some ⟨122, qsC (row ++ [p.B.getD i 0])⟩]) 0 none; rw [hXl, Nat.add_zero] at q; exact q) ?_
   refine zHc (.tup [.sl (G.length + 4 + i + 1) 0 (p.C.length + 1), zj (p.fac i)]) (zd G (some ⟨118, nsC fs⟩) (N + 1) (p.C.length + p.B.length) i X 1 β [none, some ⟨120, zC (p.whole i)⟩]) Z Z Z cW (by rw [hlen]; show AV.tup [AV.sl (0 + (G.length + 4 + i + 1)) 0 _, _] = _; rw [Nat.zero_add]; rfl) (by show _ ++ [some (⟨_, (zC (p.whole i)).shift _⟩ : AObj)] = _; rw [zGo, zAj]; rfl) ?_
   repeat (first | refine zD ?_ | refine zAF ?_)
   refine zAA 10 Z (by kernel_rfl) (by kernel_rfl) (by kernel_rfl) Z (zE Z) Z ?_
   refine zAA 11 Z (by kernel_rfl) (by kernel_rfl) (by kernel_rfl) Z (zBG Z Z) Z ?_
   refine zAA 12 Z (by kernel_rfl) (by kernel_rfl) (by kernel_rfl) Z (zBG Z Z) Z ?_
   refine zAA 13 Z (by kernel_rfl) (by kernel_rfl) (by kernel_rfl) Z (zL Z) Z ?_
   refine zAA 14 Z (by kernel_rfl) (by kernel_rfl) (by kernel_rfl) Z (zL Z) Z ?_
   refine zf (by kernel_rfl) ?_
   repeat (refine zA ?_)
   clear q0 q1 cl cW gB gA
   generalize p.whole i = W at *
   generalize p.fac i = fc at *
   have q2 := tb_fac (G := G) (F := (some ⟨118, nsC fs⟩)) (L := N + 1) (w := p.C.length + p.B.length) (k := i) (X := X) (d := 1) (β := β) (T := [none, some ⟨120, zC W⟩])
   have hol2 : (nsC fs).len = i := hfl
   repeat (first | refine zB (zE rfl) ?_ | refine zR ?_ | refine zG rfl ?_ | refine zh rfl rfl rfl rfl rfl rfl rfl rfl rfl rfl rfl ?_)
   refine zAS Z Z Z Z Z Z Z q2 Z hol2 Z Z (by show 0 + 1 ≤ 1; omega) Z (by show (i + 1) * 24 ≤ _ ∧ _; omega) ?_ (by rw [hfix]; exact fun h => h) ?_
   · intro i' j' hi' hj'
     exact zBg 0 1 (fun n : Nat => [zj n]) zNi fs fc _ (rowN1 fc) _ i' j' hi' hj'
   refine zBl ((69, .sl (G.length + 1) 0 (i + 1)) :: [(1, .ptr 0 0 0), (2, .ptr G.length 0 0), (5, .int .i64 (p.C.length : Nat)), (6, .int .i64 (p.B.length : Nat)), (7, .sl 1 0 nd.length), (46, .ro (zq p.A) 0 p.A.length), (47, .int .i64 (p.A.length : Nat)), (48, .int .i64 (i : Nat)), (10, .int .i64 (i : Nat)), (12, .sl (G.length + 4 + i + 1) 0 (p.C.length + 1)), (13, zj fc)]) ⟨Z, zA1 (h := G.length + 1) (L := [(1, .ptr 0 0 0), (2, .ptr G.length 0 0), (5, .int .i64 (p.C.length : Nat)), (6, .int .i64 (p.B.length : Nat)), (7, .sl 1 0 nd.length), (46, .ro (zq p.A) 0 p.A.length), (47, .int .i64 (p.A.length : Nat)), (48, .int .i64 (i : Nat)), (10, .int .i64 (i : Nat)), (12, .sl (G.length + 4 + i + 1) 0 (p.C.length + 1)), (13, zj fc)]) ⟨Z, Z, Z, Z, Z, Z, Z, Z, Z, Z, Z, trivial⟩ (by
       intro q hq
       simp only [List.mem_cons, List.mem_nil_iff, or_false] at hq
       rcases hq with rfl | rfl | rfl | rfl | rfl | rfl | rfl | rfl | rfl | rfl | rfl <;> simp [AV.forget, zj, zAB (show 0 ≠ G.length + 1 by omega), zAB (show 1 ≠ G.length + 1 by omega), zAB (show G.length ≠ G.length + 1 by omega), zAB (show G.length + 4 + i + 1 ≠ G.length + 1 by omega)])⟩ ?_
   refine zAw (zd G (some ⟨118, nsC fs2⟩) (N + 1) (p.C.length + p.B.length) i X 1 β [none, some ⟨120, zC W⟩]) (by
     rw [hf1]
     exact zJt (hFG _) (zBx 0 1 (fun n : Nat => [zj n]) fs fc _ (rowN1 fc)) (by show zn [none, some (⟨_, (zC W).forget _⟩ : AObj)] _; rw [zBO]; exact zn.refl _)) ?_
   clear hf1 hol2 q2
   have hfs2' := hfs2
   clear hfs2
   have hlen2 : ∀ T, (zd G (some ⟨118, nsC fs2⟩) (N + 1) (p.C.length + p.B.length) i X 1 β T).length = G.length + 4 + i + T.length := fun T => by rw [zBC, hXl]
   repeat (first | refine zB (zE rfl) ?_ | refine zB (zL rfl) ?_ | refine zD ?_ | refine zA ?_ | refine zR ?_ | refine zG rfl ?_ | refine zB (zAR rfl rfl rfl) ?_ | refine zB (zCA rfl rfl (by omega)) ?_)
   refine zH 76 (.int .i64 ((N + 1 : Nat))) Z (AEq.of_eq (by show AV.int _ _ = AV.int _ _; congr 1; omega)) ?_
   refine zCr Z Z Z Z Z Z Z Z (by show (0 : Int) ≤ _ ∧ _ ≤ _ ∧ (32 : Int) * _ ≤ _ ∧ _; omega) ?_
   refine zF0 (zd G (some ⟨118, nsC fs2⟩) (N + 1) (p.C.length + p.B.length) i X 1 β [none, some ⟨120, zC W⟩] ++ [some ⟨120, zC (List.replicate (N + 1) 0)⟩]) (by simp only [List.length_append, List.length_cons, List.length_nil]) zHP ?_
   refine zS (zd G (some ⟨118, nsC fs2⟩) (N + 1) (p.C.length + p.B.length) i X 1 β [none, some ⟨120, zC W⟩, some ⟨120, zC (List.replicate (N + 1) 0)⟩]) (by rw [zAj]; rfl) ?_
   refine zH 77 (.sl (G.length + 4 + i + 2) 0 (N + 1)) Z (AEq.of_eq (by rw [hlen2]; rfl)) ?_
   repeat (first | refine zB (zL rfl) ?_ | refine zD ?_ | refine zA ?_ | refine zR ?_)
   apply zAP (H := zd G (some ⟨118, nsC fs2⟩) (N + 1) (p.C.length + p.B.length) i X 1 β [none, some ⟨120, zC W⟩, some ⟨120, zC (zD0 p.C.length N W)⟩]) [(1, .ptr 0 0 0), (2, .ptr G.length 0 0), (3, .sl (G.length + 1) 0 (i + 1)), (5, .int .i64 (p.C.length : Nat)), (6, .int .i64 (p.B.length : Nat)), (7, .sl 1 0 nd.length), (46, .ro (zq p.A) 0 p.A.length), (47, .int .i64 (p.A.length : Nat)), (48, .int .i64 (i : Nat)), (10, .int .i64 (i : Nat)), (12, .sl (G.length + 4 + i + 1) 0 (p.C.length + 1)), (14, .sl (G.length + 4 + i + 2) 0 (N + 1))]
   · intro fin
     have q3 := zAk (G := G) (F := (some ⟨118, nsC fs2⟩)) (L := N + 1) (w := p.C.length + p.B.length) (k := i) (X := X) (d := 1) (β := β) (T := [none, some ⟨120, zC W⟩, some ⟨120, zC (List.replicate (N + 1) 0)⟩]) 1
     have q4 := zAk (G := G) (F := (some ⟨118, nsC fs2⟩)) (L := N + 1) (w := p.C.length + p.B.length) (k := i) (X := X) (d := 1) (β := β) (T := [none, some ⟨120, zC W⟩, some ⟨120, zC (List.replicate (N + 1) 0)⟩]) 2
     rw [hXl] at q3 q4
     repeat (first | refine zB (zE rfl) ?_ | refine zG rfl ?_)
     refine zB (zEs Z Z q3 Z Z Z Z Z ⟨Z, by omega, by omega⟩) ?_
     by_cases hn0 : p.C.length = 0
     · rw [show zD0 p.C.length N W = List.replicate (N + 1) 0 by rw [hn0]; exact zM3] at fin
       refine zH 81 (.sl (G.length + 4 + i + 1) 0 0) Z (AEq.of_eq (by show AV.sl _ 0 p.C.length = _; rw [hn0])) ?_
       refine ax_copy0 Z Z Z Z ?_
       repeat (first | refine zD ?_ | refine zA ?_)
       exact fin _ ⟨Z, Z, Z, Z, Z, Z, Z, Z, Z, Z, Z, Z, trivial⟩
     · refine zH 81 (.sl (G.length + 4 + i + 1) 0 p.C.length) Z (AEq.of_eq Z) ?_
       refine ax_copy (c' := zC (zD0 p.C.length N W)) (q := p.C.length) Z Z Z Z q4 Z (zHx q3) (by show 0 + (N + 1) ≤ (List.replicate (N + 1) (0 : Int)).length; simp) (by omega) (by show 0 + p.C.length ≤ W.length; omega) (by omega) (Nat.min_eq_left (by omega)) Z Z (by show (zD0 _ _ _).length = (List.replicate (N + 1) (0 : Int)).length; simp [zD0]) (fun i' j' hi' hj' => ?_) ?_
       · have hi2 : i' < N + 1 := by have hi' : i' < (List.replicate (N + 1) (0 : Int)).length := hi'; simpa using hi'
         show (zm ((zD0 p.C.length N W).getD i' 0)).getD j' .any = if 0 ≤ i' ∧ i' < 0 + p.C.length then (zm (W.getD (0 + (i' - 0)) 0)).getD j' .any else (zm ((List.replicate (N + 1) (0 : Int)).getD i' 0)).getD j' .any
         rw [show (zD0 p.C.length N W).getD i' 0 = (if i' < p.C.length then W.getD i' 0 else 0) from zBD hi2, show (List.replicate (N + 1) (0 : Int)).getD i' 0 = 0 by simp [List.getD, hi2]]
         by_cases hh : i' < p.C.length
         · rw [if_pos hh, if_pos ⟨Nat.zero_le _, by omega⟩, Nat.zero_add, Nat.sub_zero]
         · rw [if_neg hh, if_neg (fun q => hh (by omega))]
       refine zS (zd G (some ⟨118, nsC fs2⟩) (N + 1) (p.C.length + p.B.length) i X 1 β [none, some ⟨120, zC W⟩, some ⟨120, zC (zD0 p.C.length N W)⟩]) (by have q := zAQ (G := G) (F := (some ⟨118, nsC fs2⟩)) (L := N + 1) (w := p.C.length + p.B.length) (k := i) (X := X) (d := 1) (β := β) (T := [none, some ⟨120, zC W⟩, some ⟨120, zC (List.replicate (N + 1) 0)⟩]) 2 (some ⟨120, zC (zD0 p.C.length N W)⟩); rw [hXl] at q; exact q) ?_
       repeat (first | refine zD ?_ | refine zA ?_)
       exact fin _ ⟨Z, Z, Z, Z, Z, Z, Z, Z, Z, Z, Z, Z, trivial⟩
   have hO1 := zGc p.C.length N W
   have hOb : ((zD0 p.C.length N W).set (p.C.length + i) 1).set N (W.getD p.C.length 0) = zEG p.C.length p.B.length nd.length W i := by rw [hN]; exact out_base hi'
   have hbl := zDR p.C.length p.B.length nd.length W i
   have hnb := neg_base (n := p.C.length) (m := p.B.length) (a := nd.length) (i := i) (W := W)
   have hrn := fun hk => row_neg (n := p.C.length) (m := p.B.length) (a := nd.length) (i := i) (k := zBY p.B i) (W := W) hk
   have hrp := row_pos (n := p.C.length) (m := p.B.length) (a := nd.length) (i := i) (k := zBY p.B i) (W := W)
   rw [← hN] at hbl hnb
   generalize zD0 p.C.length N W = O at *
   have q3 := zAk (G := G) (F := (some ⟨118, nsC fs2⟩)) (L := N + 1) (w := p.C.length + p.B.length) (k := i) (X := X) (d := 1) (β := β) (T := [none, some ⟨120, zC W⟩, some ⟨120, zC O⟩]) 1
   have q4 := zAk (G := G) (F := (some ⟨118, nsC fs2⟩)) (L := N + 1) (w := p.C.length + p.B.length) (k := i) (X := X) (d := 1) (β := β) (T := [none, some ⟨120, zC W⟩, some ⟨120, zC O⟩]) 2
   rw [hXl] at q3 q4
   have g1 : p.C.length + i < (zC O).len := by show _ < O.length; omega
   repeat (first | refine zB (zE rfl) ?_ | refine zR ?_ | refine zG rfl ?_ | refine zB (zCA rfl rfl (by omega)) ?_)
   refine zH 86 (.int .i64 ((p.C.length + i : Nat))) Z (AEq.of_eq (by show AV.int _ _ = AV.int _ _; congr 1)) ?_
   refine zJ Z Z Z cw ?_
   repeat (refine zB (zV rfl rfl rfl (by assumption) (by rfl) (by first | (simp only [Nat.zero_add, Int.toNat_natCast, Int.toNat_zero]; exact rfl) | exact rfl) (by omega)) ?_)
   refine zU (c' := zC (O.set (p.C.length + i) 1)) Z Z Z q4 Z g1 (List.length_set ..) Z (zC6 O (p.C.length + i) _) ?_
   refine zS (zd G (some ⟨118, nsC fs2⟩) (N + 1) (p.C.length + p.B.length) i X 1 β [none, some ⟨120, zC W⟩, some ⟨120, zC (O.set (p.C.length + i) 1)⟩]) (by have q := zAQ (G := G) (F := (some ⟨118, nsC fs2⟩)) (L := N + 1) (w := p.C.length + p.B.length) (k := i) (X := X) (d := 1) (β := β) (T := [none, some ⟨120, zC W⟩, some ⟨120, zC O⟩]) 2 (some ⟨120, zC (O.set (p.C.length + i) 1)⟩); rw [hXl] at q; exact q) ?_
   clear q3 q4 g1
   have hO2 : (O.set (p.C.length + i) 1).length = N + 1 := by rw [List.length_set]; exact hO1
   generalize O.set (p.C.length + i) 1 = O2 at *
   have q3 := zAk (G := G) (F := (some ⟨118, nsC fs2⟩)) (L := N + 1) (w := p.C.length + p.B.length) (k := i) (X := X) (d := 1) (β := β) (T := [none, some ⟨120, zC W⟩, some ⟨120, zC O2⟩]) 1
   have q4 := zAk (G := G) (F := (some ⟨118, nsC fs2⟩)) (L := N + 1) (w := p.C.length + p.B.length) (k := i) (X := X) (d := 1) (β := β) (T := [none, some ⟨120, zC W⟩, some ⟨120, zC O2⟩]) 2
   rw [hXl] at q3 q4
   have g1 : N < (zC O2).len := by show _ < O2.length; omega
   have g2 : p.C.length < (zC W).len := by show _ < W.length; omega
   repeat (first | refine zB (zE rfl) ?_ | refine zD ?_ | refine zA ?_ | refine zR ?_ | refine zG rfl ?_ | refine zB (zAR rfl rfl rfl) ?_ | refine zB (zBc rfl rfl (by omega)) ?_)
   refine zH 92 (.int .i64 (N : Nat)) Z (AEq.of_eq (by show AV.int _ (((N + 1 : Nat) : Int) - 1) = AV.int _ _; congr 1; omega)) ?_
   repeat (first | refine zB (zV rfl rfl rfl (by assumption) (by rfl) (by first | (simp only [Nat.zero_add, Int.toNat_natCast, Int.toNat_zero]; exact rfl) | exact rfl) (by omega)) ?_ | refine zB (zg rfl rfl rfl rfl (by assumption) (by rfl) (by rfl) (by first | exact Nat.zero_lt_one | assumption | omega)) ?_)
   refine zH 96 (.agg (zm (W.getD p.C.length 0))) Z (AEq.of_eq Z) ?_
   refine zU (c' := zC (O2.set N (W.getD p.C.length 0))) Z Z Z q4 Z g1 (List.length_set ..) Z (zC6 O2 N _) ?_
   refine zS (zd G (some ⟨118, nsC fs2⟩) (N + 1) (p.C.length + p.B.length) i X 1 β [none, some ⟨120, zC W⟩, some ⟨120, zC (zEG p.C.length p.B.length nd.length W i)⟩]) (by have q := zAQ (G := G) (F := (some ⟨118, nsC fs2⟩)) (L := N + 1) (w := p.C.length + p.B.length) (k := i) (X := X) (d := 1) (β := β) (T := [none, some ⟨120, zC W⟩, some ⟨120, zC O2⟩]) 2 (some ⟨120, zC (O2.set N (W.getD p.C.length 0))⟩); rw [hXl, hOb] at q; rw [hOb]; exact q) ?_
   clear q3 q4 g1 g2 hOb
   generalize zEG p.C.length p.B.length nd.length W i = Bs at *
   have f1 := zA7 (G := G) (F := (some ⟨118, nsC fs2⟩)) (L := N + 1) (w := p.C.length + p.B.length) (k := i) (X := X) (d := 1) (β := β) (T := [none, some ⟨120, zC W⟩, some ⟨120, zC Bs⟩])
   repeat (first | refine zB (zE rfl) ?_ | refine zD ?_ | refine zA ?_ | refine zR ?_ | refine zG rfl ?_ | refine zB (zCA rfl rfl (by omega)) ?_ | refine zB (zT rfl) ?_ | refine zB (zI rfl rfl rfl rfl rfl rfl) ?_ | refine zB (zl rfl rfl rfl (by assumption) (by rfl)) ?_)
   refine zH 105 (.int .i64 ((p.C.length + i : Nat))) Z (AEq.of_eq (by show AV.int _ _ = AV.int _ _; congr 1)) ?_
   have q5 := zFB (G := G) (F := (some ⟨118, nsC fs2⟩)) (L := N + 1) (w := p.C.length + p.B.length) (k := i) (X := X) (d := 1) (β := β) (T := [none, some ⟨120, zC W⟩, some ⟨120, zC Bs⟩])
   have hol5 : (zBs β).len = β.length := List.length_map ..
   repeat (refine zh rfl rfl rfl rfl rfl rfl rfl rfl rfl rfl rfl ?_)
   refine zAS Z Z Z Z Z Z Z q5 Z hol5 Z Z (by show 0 + 1 ≤ 1; omega) Z (by show (β.length + 1) * 8 ≤ _ ∧ _; omega) (fun _ _ _ _ => rfl) (by rw [hfix]; exact fun h => h) ?_
   refine zBl ((107, .sl (G.length + 2) 0 (β.length + 1)) :: (98, .ptr G.length 0 0) :: [(1, .ptr 0 0 0), (2, .ptr G.length 0 0), (3, .sl (G.length + 1) 0 (i + 1)), (5, .int .i64 (p.C.length : Nat)), (6, .int .i64 (p.B.length : Nat)), (7, .sl 1 0 nd.length), (46, .ro (zq p.A) 0 p.A.length), (47, .int .i64 (p.A.length : Nat)), (48, .int .i64 (i : Nat)), (10, .int .i64 (i : Nat)), (14, .sl (G.length + 4 + i + 2) 0 (N + 1))]) ⟨Z, zA1 (h := G.length + 2) (L := (98, .ptr G.length 0 0) :: [(1, .ptr 0 0 0), (2, .ptr G.length 0 0), (3, .sl (G.length + 1) 0 (i + 1)), (5, .int .i64 (p.C.length : Nat)), (6, .int .i64 (p.B.length : Nat)), (7, .sl 1 0 nd.length), (46, .ro (zq p.A) 0 p.A.length), (47, .int .i64 (p.A.length : Nat)), (48, .int .i64 (i : Nat)), (10, .int .i64 (i : Nat)), (14, .sl (G.length + 4 + i + 2) 0 (N + 1))]) ⟨Z, Z, Z, Z, Z, Z, Z, Z, Z, Z, Z, Z, trivial⟩ (by
       intro q hq
       simp only [List.mem_cons, List.mem_nil_iff, or_false] at hq
       rcases hq with rfl | rfl | rfl | rfl | rfl | rfl | rfl | rfl | rfl | rfl | rfl | rfl <;> simp [AV.forget, zAB (show 0 ≠ G.length + 2 by omega), zAB (show 1 ≠ G.length + 2 by omega), zAB (show G.length ≠ G.length + 2 by omega), zAB (show G.length + 1 ≠ G.length + 2 by omega), zAB (show G.length + 4 + i + 2 ≠ G.length + 2 by omega)])⟩ ?_
   refine zAw (zI8 G (some ⟨118, nsC fs2⟩) (N + 1) (p.C.length + p.B.length) i X 1 (β ++ [p.C.length + i]) [none, some ⟨120, zC W⟩, some ⟨120, zC Bs⟩]) (zJ4 (hFG _) (hFf _ _) (zKO β (p.C.length + i)) (by show zn [none, some (⟨_, (zC W).forget _⟩ : AObj), some (⟨_, (zC Bs).forget _⟩ : AObj)] _; rw [zBO, zBO]; exact zn.refl _)) ?_
   refine zH 107 (.sl (G.length + 2) 0 (β ++ [p.C.length + i]).length) Z (AEq.of_eq (by rw [List.length_append]; rfl)) ?_
   repeat (first | refine zB (zT rfl) ?_ | refine zB (zI rfl rfl rfl rfl rfl rfl) ?_)
   refine zAi Z Z Z Z bas_box Z Z Nat.zero_lt_one ?_
   refine zS (zd G (some ⟨118, nsC fs2⟩) (N + 1) (p.C.length + p.B.length) i X 1 (β ++ [p.C.length + i]) [none, some ⟨120, zC W⟩, some ⟨120, zC Bs⟩]) bas_set ?_
   clear f1 q5 hol5
   have ci := indexI (nd.map (fun a : Nat => (a : Int))) (i : Nat) (by rw [List.length_map]; omega)
   have hid := need_idx p.B hi'
   rw [hnd] at hid
   rw [hid, List.length_map] at ci
   repeat (first | refine zB (zE rfl) ?_ | refine zD ?_ | refine zA ?_ | refine zR ?_ | refine zG rfl ?_)
   refine zPT [none, some ⟨3, zBs nd⟩] Z Z Z Z ci (fun h o ho => by
     match h, ho with
     | 1, ho => cases ho; exact hg1 _ _ _ _ _) (fun h o ho => by
     match h, ho with
     | 1, ho => cases ho; exact zBB) ⟨fun o ho => by cases ho; show 0 + nd.length ≤ (nd.map _).length; rw [List.length_map]; omega, trivial, trivial⟩ rfl rfl rfl ?_
   repeat (first | refine zB (zL rfl) ?_ | refine zD ?_ | refine zA ?_)
   clear hid ci hβv hXv
   have hneg : p.neg i = decide ((p.B.getD i 0).num < 0) := rfl
   apply zAP (H := zd G (some ⟨118, nsC fs2⟩) (N + 1) (p.C.length + p.B.length) i X 1 β2 [none, some ⟨120, zC W⟩, some ⟨120, zC (zC2 p.C.length p.B.length nd.length W i (p.neg i) (zBY p.B i))⟩]) [(1, .ptr 0 0 0), (2, .ptr G.length 0 0), (3, .sl (G.length + 1) 0 (i + 1)), (5, .int .i64 (p.C.length : Nat)), (6, .int .i64 (p.B.length : Nat)), (7, .sl 1 0 nd.length), (46, .ro (zq p.A) 0 p.A.length), (47, .int .i64 (p.A.length : Nat)), (48, .int .i64 (i : Nat)), (10, .int .i64 (i : Nat)), (14, .sl (G.length + 4 + i + 2) 0 (N + 1))]
   · intro fin
     by_cases hng : (p.B.getD i 0).num < 0
     · have hka : zBY p.B i < nd.length := by rw [← hnd]; exact zH1 hng hi'
       rw [hneg, decide_eq_true hng] at fin
       rw [hneg, decide_eq_true hng, if_pos rfl] at hβ1
       rw [← hrn hka] at fin
       refine zAp 15 (.int .i64 (zBY p.B i : Nat)) Z (AEq.of_eq (by rw [if_pos hng])) ?_
       repeat (first | refine zB (zE rfl) ?_ | refine zD ?_ | refine zA ?_ | refine zR ?_ | refine zG rfl ?_ | refine zAn rfl ?_ | refine zb ?_ | refine zB (zDY rfl rfl) ?_ | refine zB (zAR rfl rfl rfl) ?_)
       refine zt (ι := Nat) (fun j => [(1, .ptr 0 0 0), (2, .ptr G.length 0 0), (3, .sl (G.length + 1) 0 (i + 1)), (5, .int .i64 (p.C.length : Nat)), (6, .int .i64 (p.B.length : Nat)), (7, .sl 1 0 nd.length), (46, .ro (zq p.A) 0 p.A.length), (47, .int .i64 (p.A.length : Nat)), (48, .int .i64 (i : Nat)), (10, .int .i64 (i : Nat)), (14, .sl (G.length + 4 + i + 2) 0 (N + 1)), (15, .int .i64 (zBY p.B i : Nat)), (116, .int .i64 ((N + 1 : Nat))), (117, .int .i64 (j : Nat))]) (fun j => zd G (some ⟨118, nsC fs2⟩) (N + 1) (p.C.length + p.B.length) i X 1 (β ++ [p.C.length + i]) [none, some ⟨120, zC W⟩, some ⟨120, zC (chg (fun j => -(Bs.getD j 0)) 0 Bs j)⟩]) (fun j => j ≤ N + 1) (fun j => N + 1 - j) 0 ⟨⟨Z, Z, Z, Z, Z, Z, Z, Z, Z, Z, Z, Z, Z, Z, trivial⟩, by rw [zC5], Nat.zero_le _⟩ ?_
       intro j hj
       repeat (first | refine zD ?_ | refine zA ?_ | refine zR ?_ | refine zG rfl ?_ | refine zB (zCg rfl rfl) ?_)
       refine zF Z (fun h9 => ?_) (fun h9 => ?_)
       · have hj' : j < N + 1 := by omega
         have hgj := zCz (fun j => -(Bs.getD j 0)) 0 Bs (k := j) (i := j) (by omega)
         rw [if_neg (Nat.lt_irrefl j)] at hgj
         have hsj := zDh (fun j => -(Bs.getD j 0)) 0 Bs (k := j) (by omega)
         have hlj := zCd (fun j => -(Bs.getD j 0)) 0 Bs j
         rw [← hgj] at hsj
         generalize chg (fun j => -(Bs.getD j 0)) 0 Bs j = Y at *
         have q4 := zAk (G := G) (F := (some ⟨118, nsC fs2⟩)) (L := N + 1) (w := p.C.length + p.B.length) (k := i) (X := X) (d := 1) (β := (β ++ [p.C.length + i])) (T := [none, some ⟨120, zC W⟩, some ⟨120, zC Y⟩]) 2
         rw [hXl] at q4
         have g1 : j < (zC Y).len := by show j < Y.length; omega
         have co := zGu (Y.getD j 0)
         repeat (first | refine zB (zE rfl) ?_ | refine zB (zL rfl) ?_ | refine zD ?_ | refine zA ?_ | refine zR ?_ | refine zG rfl ?_ | refine zb ?_ | refine zi ?_ | refine zB (zV rfl rfl rfl (by assumption) (by rfl) (by first | (simp only [Nat.zero_add, Int.toNat_natCast, Int.toNat_zero]; exact rfl) | exact rfl) (by omega)) ?_ | refine zB (zg rfl rfl rfl rfl (by assumption) (by rfl) (by rfl) (by first | exact Nat.zero_lt_one | assumption | omega)) ?_)
         refine zH 125 (zA6 (Y.getD j 0)) Z (AEq.of_eq Z) ?_
         refine zJ Z Z Z co ?_
         repeat (refine zB (zV rfl rfl rfl (by assumption) (by rfl) (by first | (simp only [Nat.zero_add, Int.toNat_natCast, Int.toNat_zero]; exact rfl) | exact rfl) (by omega)) ?_)
         refine zU (c' := zC (Y.set j (-(Y.getD j 0)))) Z Z Z q4 Z g1 (List.length_set ..) Z (zC6 Y j _) ?_
         refine zS (zd G (some ⟨118, nsC fs2⟩) (N + 1) (p.C.length + p.B.length) i X 1 (β ++ [p.C.length + i]) [none, some ⟨120, zC W⟩, some ⟨120, zC (Y.set j (-(Y.getD j 0)))⟩]) (by have q := zAQ (G := G) (F := (some ⟨118, nsC fs2⟩)) (L := N + 1) (w := p.C.length + p.B.length) (k := i) (X := X) (d := 1) (β := (β ++ [p.C.length + i])) (T := [none, some ⟨120, zC W⟩, some ⟨120, zC Y⟩]) 2 (some ⟨120, zC (Y.set j (-(Y.getD j 0)))⟩); rw [hXl] at q; exact q) ?_
         repeat (first | refine zB (zE rfl) ?_ | refine zD ?_ | refine zA ?_ | refine zG rfl ?_ | refine zc ?_ | refine zB (zCA rfl rfl (by omega)) ?_)
         exact zQ ⟨j + 1, by omega, by omega, ⟨Z, Z, Z, Z, Z, Z, Z, Z, Z, Z, Z, Z, Z, Z, trivial⟩, by rw [← hsj]⟩
       · have hje : j = N + 1 := by omega
         rw [hje, hnb]
         have hNl : (Bs.map (fun x => -x)).length = N + 1 := by rw [List.length_map]; omega
         have q4 := zAk (G := G) (F := (some ⟨118, nsC fs2⟩)) (L := N + 1) (w := p.C.length + p.B.length) (k := i) (X := X) (d := 1) (β := (β ++ [p.C.length + i])) (T := [none, some ⟨120, zC W⟩, some ⟨120, zC (Bs.map (fun x => -x))⟩]) 2
         rw [hXl] at q4
         have g1 : p.C.length + p.B.length + zBY p.B i < (zC (Bs.map (fun x => -x))).len := by show _ < (Bs.map (fun x => -x)).length; omega
         repeat (first | refine zB (zE rfl) ?_ | refine zD ?_ | refine zA ?_ | refine zR ?_ | refine zG rfl ?_ | refine zi ?_ | refine zAg ?_ | refine zw ?_ | refine zv ?_ | refine zAD ?_ | refine zB (zCA rfl rfl (by omega)) ?_)
         refine zH 134 (.int .i64 ((p.C.length + p.B.length + zBY p.B i : Nat))) Z (AEq.of_eq (by show AV.int _ _ = AV.int _ _; congr 1)) ?_
         refine zJ Z Z Z cw ?_
         repeat (refine zB (zV rfl rfl rfl (by assumption) (by rfl) (by first | (simp only [Nat.zero_add, Int.toNat_natCast, Int.toNat_zero]; exact rfl) | exact rfl) (by omega)) ?_)
         refine zU (c' := zC ((Bs.map (fun x => -x)).set (p.C.length + p.B.length + zBY p.B i) 1)) Z Z Z q4 Z g1 (List.length_set ..) Z (zC6 (Bs.map (fun x => -x)) (p.C.length + p.B.length + zBY p.B i) _) ?_
         refine zS (zd G (some ⟨118, nsC fs2⟩) (N + 1) (p.C.length + p.B.length) i X 1 (β ++ [p.C.length + i]) [none, some ⟨120, zC W⟩, some ⟨120, zC ((Bs.map (fun x => -x)).set (p.C.length + p.B.length + zBY p.B i) 1)⟩]) (by have q := zAQ (G := G) (F := (some ⟨118, nsC fs2⟩)) (L := N + 1) (w := p.C.length + p.B.length) (k := i) (X := X) (d := 1) (β := (β ++ [p.C.length + i])) (T := [none, some ⟨120, zC W⟩, some ⟨120, zC (Bs.map (fun x => -x))⟩]) 2 (some ⟨120, zC ((Bs.map (fun x => -x)).set (p.C.length + p.B.length + zBY p.B i) 1)⟩); rw [hXl] at q; exact q) ?_
         have f1 := zA7 (G := G) (F := (some ⟨118, nsC fs2⟩)) (L := N + 1) (w := p.C.length + p.B.length) (k := i) (X := X) (d := 1) (β := (β ++ [p.C.length + i])) (T := [none, some ⟨120, zC W⟩, some ⟨120, zC ((Bs.map (fun x => -x)).set (p.C.length + p.B.length + zBY p.B i) 1)⟩])
         have q5 := zFB (G := G) (F := (some ⟨118, nsC fs2⟩)) (L := N + 1) (w := p.C.length + p.B.length) (k := i) (X := X) (d := 1) (β := (β ++ [p.C.length + i])) (T := [none, some ⟨120, zC W⟩, some ⟨120, zC ((Bs.map (fun x => -x)).set (p.C.length + p.B.length + zBY p.B i) 1)⟩])
         have g5 : (β ++ [p.C.length + i]).length = i + 1 := by rw [List.length_append, hβl]; rfl
         repeat (first | refine zB (zE rfl) ?_ | refine zD ?_ | refine zA ?_ | refine zR ?_ | refine zG rfl ?_ | refine zB (zCA rfl rfl (by omega)) ?_ | refine zB (zT rfl) ?_ | refine zB (zI rfl rfl rfl rfl rfl rfl) ?_ | refine zB (zV rfl rfl rfl (by assumption) (by rfl) (by first | (simp only [Nat.zero_add, Int.toNat_natCast, Int.toNat_zero]; exact rfl) | exact rfl) (by omega)) ?_ | refine zB (zl rfl rfl rfl (by assumption) (by rfl)) ?_)
         refine zH 146 (.int .i64 ((p.C.length + p.B.length + zBY p.B i : Nat))) Z (AEq.of_eq (by show AV.int _ _ = AV.int _ _; congr 1)) ?_
         refine zAi Z Z Z Z q5 Z Z (by show i < (List.map _ _).length; rw [List.length_map, List.length_append]; show i < β.length + 1; omega) ?_
         have hset : (β ++ [p.C.length + i]).set i (p.C.length + p.B.length + zBY p.B i) = β2 := by
           rw [hβ1, List.set_append_right _ _ (by omega), hβl, Nat.sub_self]; rfl
         refine zS (zd G (some ⟨118, nsC fs2⟩) (N + 1) (p.C.length + p.B.length) i X 1 β2 [none, some ⟨120, zC W⟩, some ⟨120, zC ((Bs.map (fun x => -x)).set (p.C.length + p.B.length + zBY p.B i) 1)⟩]) (by
           rw [← hset]
           rw [← zJR (β := β ++ [p.C.length + i]) (List.length_set ..)]
           show _ = List.set _ _ (some (⟨3, .ints .i64 (((β ++ [p.C.length + i]).set i (p.C.length + p.B.length + zBY p.B i)).map (fun a : Nat => (a : Int)))⟩ : AObj))
           rw [List.map_set]) ?_
         repeat (first | refine zD ?_ | refine zA ?_)
         exact fin _ ⟨Z, Z, Z, Z, Z, Z, Z, Z, Z, Z, Z, trivial⟩
     · rw [hneg, decide_eq_false hng] at fin
       rw [hneg, decide_eq_false hng, if_neg Bool.false_ne_true] at hβ1
       rw [← hrp, hβ1] at fin
       refine zAp 15 (.int .i64 (-1)) Z (AEq.of_eq (by rw [if_neg hng])) ?_
       repeat (first | refine zD ?_ | refine zA ?_)
       refine zR ?_
       refine zG Z ?_
       repeat (first | refine zB (zE rfl) ?_ | refine zD ?_ | refine zA ?_ | refine zr rfl ?_ | refine zi ?_ | refine zB (zDY rfl rfl) ?_)
       exact fin _ ⟨Z, Z, Z, Z, Z, Z, Z, Z, Z, Z, Z, trivial⟩
   clear hneg hβ1 hnb hrn hrp hbl cw hnd
   generalize hRW : (zC2 p.C.length p.B.length nd.length W i (p.neg i) (zBY p.B i)) = R at *
   have q6 := zAk (G := G) (F := (some ⟨118, nsC fs2⟩)) (L := N + 1) (w := p.C.length + p.B.length) (k := i) (X := X) (d := 1) (β := β2) (T := [none, some ⟨120, zC W⟩, some ⟨120, zC R⟩]) 2
   rw [hXl] at q6
   refine zOX (G.length + 4 + i) (G.length + 4 + i + 2) 14 (N + 1) (by omega) (by rw [zBC, hXl]; show G.length + 4 + i < G.length + 4 + i + 3; omega) q6 (by rw [hfix]; exact fun h => h) Z ?_
   refine zOH ((14, .sl (G.length + 4 + i) 0 (N + 1)) :: [(1, .ptr 0 0 0), (2, .ptr G.length 0 0), (3, .sl (G.length + 1) 0 (i + 1)), (5, .int .i64 (p.C.length : Nat)), (6, .int .i64 (p.B.length : Nat)), (7, .sl 1 0 nd.length), (46, .ro (zq p.A) 0 p.A.length), (47, .int .i64 (p.A.length : Nat)), (48, .int .i64 (i : Nat)), (10, .int .i64 (i : Nat))]) ⟨Z, zA1 (h := G.length + 4 + i) (L := [(1, .ptr 0 0 0), (2, .ptr G.length 0 0), (3, .sl (G.length + 1) 0 (i + 1)), (5, .int .i64 (p.C.length : Nat)), (6, .int .i64 (p.B.length : Nat)), (7, .sl 1 0 nd.length), (46, .ro (zq p.A) 0 p.A.length), (47, .int .i64 (p.A.length : Nat)), (48, .int .i64 (i : Nat)), (10, .int .i64 (i : Nat))]) ⟨Z, Z, Z, Z, Z, Z, Z, Z, Z, Z, trivial⟩ (by
       intro q hq
       simp only [List.mem_cons, List.mem_nil_iff, or_false] at hq
       rcases hq with rfl | rfl | rfl | rfl | rfl | rfl | rfl | rfl | rfl | rfl <;> simp [AV.forget, zAB (show G.length ≠ G.length + 4 + i by omega), zAB (show G.length + 1 ≠ G.length + 4 + i by omega), zAB (show 0 ≠ G.length + 4 + i by omega), zAB (show 1 ≠ G.length + 4 + i by omega)])⟩ ?_
   refine zBe (zd G (some ⟨118, nsC fs2⟩) (N + 1) (p.C.length + p.B.length) i X 1 β2 [some ⟨120, zC R⟩, some ⟨120, zC W⟩, none]) (by
     have q := zn.set (zn.set (zJb (G := G) (F := some ⟨118, nsC fs2⟩) (L := N + 1) (w := p.C.length + p.B.length) (k := i) (X := X) (d := 1) (β := β2) (T := [none, some ⟨120, zC W⟩, some ⟨120, zC R⟩]) (T' := [none, some ⟨120, zC W⟩, some ⟨120, zC R⟩]) (G.length + 4 + i) (.inl (by omega)) (hFG _) (hFf _ _) (by show zn [none, some (⟨_, (zC W).forget _⟩ : AObj), some (⟨_, (zC R).forget _⟩ : AObj)] _; rw [zBO, zBO]; exact zn.refl _)) (G.length + 4 + i) (x := some ⟨120, (zC R).forget (G.length + 4 + i)⟩) (x' := some ⟨120, zC R⟩) (fun o ho => by cases ho; exact ⟨_, rfl, rfl, by rw [zBO]; exact CEq.refl _⟩)) (G.length + 4 + i + 2) (x := none) (x' := none) (fun o ho => by cases ho)
     have e1 : (zd G (some ⟨118, nsC fs2⟩) (N + 1) (p.C.length + p.B.length) i X 1 β2 [none, some ⟨120, zC W⟩, some ⟨120, zC R⟩]).set (G.length + 4 + i) (some ⟨120, zC R⟩) = zd G (some ⟨118, nsC fs2⟩) (N + 1) (p.C.length + p.B.length) i X 1 β2 [some ⟨120, zC R⟩, some ⟨120, zC W⟩, some ⟨120, zC R⟩] := by
       have q := zAQ (G := G) (F := (some ⟨118, nsC fs2⟩)) (L := N + 1) (w := p.C.length + p.B.length) (k := i) (X := X) (d := 1) (β := β2) (T := [none, some ⟨120, zC W⟩, some ⟨120, zC R⟩]) 0 (some ⟨120, zC R⟩)
       rw [hXl] at q
       exact q
     have e2 := zAQ (G := G) (F := (some ⟨118, nsC fs2⟩)) (L := N + 1) (w := p.C.length + p.B.length) (k := i) (X := X) (d := 1) (β := β2) (T := [some ⟨120, zC R⟩, some ⟨120, zC W⟩, some ⟨120, zC R⟩]) 2 none
     rw [hXl] at e2
     rw [e1] at q
     exact (show zn _ _ from e2 ▸ q)) ?_
   refine zBi (zd G (some ⟨118, nsC fs2⟩) (N + 1) (p.C.length + p.B.length) i X 1 β2 [some ⟨120, zC R⟩]) [some ⟨120, zC W⟩, none] ((14, .sl (G.length + 4 + i) 0 (N + 1)) :: [(1, .ptr 0 0 0), (2, .ptr G.length 0 0), (3, .sl (G.length + 1) 0 (i + 1)), (5, .int .i64 (p.C.length : Nat)), (6, .int .i64 (p.B.length : Nat)), (7, .sl 1 0 nd.length), (46, .ro (zq p.A) 0 p.A.length), (47, .int .i64 (p.A.length : Nat)), (48, .int .i64 (i : Nat)), (10, .int .i64 (i : Nat))]) (by rw [zAj]; rfl) ⟨Z, Z, Z, Z, Z, Z, Z, Z, Z, Z, Z, trivial⟩ (fun h hh => by rw [hfix] at hh; exact hh.elim)
     (zCC hG _ (by rw [zBC]; exact Nat.le_add_right _ _) (fun o ho => by cases ho; exact zLn _ _) (fun o ho => by cases List.mem_singleton.1 ho; exact fun i' j' hi' hj' => zE7 _ _ _ hj')) (by rw [zBC, hXl]; simp [zCa, zBt]; omega) ?_
   clear q6
   have f1 := zA7 (G := G) (F := (some ⟨118, nsC fs2⟩)) (L := N + 1) (w := p.C.length + p.B.length) (k := i) (X := X) (d := 1) (β := β2) (T := [some ⟨120, zC R⟩])
   repeat (first | refine zB (zE rfl) ?_ | refine zG rfl ?_ | refine zB (zT rfl) ?_ | refine zB (zI rfl rfl rfl rfl rfl rfl) ?_ | refine zB (zl rfl rfl rfl (by assumption) (by rfl)) ?_)
   refine zC3 Z Z Z Z Z Z Z Z Z Z ?_
   refine zS (zd G (some ⟨118, nsC fs2⟩) (N + 1) (p.C.length + p.B.length) i X 1 β2 [some ⟨120, zC R⟩, some ⟨248, zB9 1 1 [.sl (G.length + 4 + i) 0 (N + 1)]⟩]) (by rw [zAj]; rfl) ?_
   refine zH 154 (.sl (G.length + 4 + i + 1) 0 1) Z (AEq.of_eq (by rw [zBC, hXl]; rfl)) ?_
   have f2 := zCc (G := G) (F := (some ⟨118, nsC fs2⟩)) (L := N + 1) (w := p.C.length + p.B.length) (k := i) (X := X) (d := 1) (β := β2) (T := [some ⟨120, zC R⟩, some ⟨248, zB9 1 1 [.sl (G.length + 4 + i) 0 (N + 1)]⟩])
   have f3 := zAk (G := G) (F := (some ⟨118, nsC fs2⟩)) (L := N + 1) (w := p.C.length + p.B.length) (k := i) (X := X) (d := 1) (β := β2) (T := [some ⟨120, zC R⟩, some ⟨248, zB9 1 1 [.sl (G.length + 4 + i) 0 (N + 1)]⟩]) 1
   rw [hXl] at f3
   have hol : (zBb G.length X.length (N + 1)).len = i := hXl
   repeat (refine zD ?_)
   refine zAS Z Z Z Z Z Z Z f2 Z hol Z (zHx f3) (by show 0 + 1 ≤ 1; omega) Z (by show (i + 1) * 24 ≤ _ ∧ _; omega) ?_ (by rw [hfix]; exact fun h => h) ?_
   · intro i' j' hi' hj'
     obtain rfl := Nat.lt_one_iff.1 (show j' < 1 from hj')
     have q := (zET G.length X.length (N + 1) (zB9 1 1 [AV.sl (G.length + 4 + i) 0 (N + 1)]) (by rw [hXl]; rfl)).2.2 i' 0 hi' Nat.zero_lt_one
     refine Eq.trans (congrArg (AV.forget _) q.symm) (Eq.trans ?_ q)
     show AV.forget _ (AV.sl (G.length + 4 + i') 0 (N + 1)) = _
     unfold AV.forget
     rw [zAB (show G.length + 4 + i' ≠ G.length + 3 by omega)]; rfl
   refine zBl ((155, .sl (G.length + 3) 0 (i + 1)) :: (148, .ptr G.length 0 0) :: [(1, .ptr 0 0 0), (2, .ptr G.length 0 0), (3, .sl (G.length + 1) 0 (i + 1)), (5, .int .i64 (p.C.length : Nat)), (6, .int .i64 (p.B.length : Nat)), (7, .sl 1 0 nd.length), (46, .ro (zq p.A) 0 p.A.length), (47, .int .i64 (p.A.length : Nat)), (48, .int .i64 (i : Nat)), (10, .int .i64 (i : Nat))]) ⟨Z, zA1 (h := G.length + 3) (L := (148, .ptr G.length 0 0) :: [(1, .ptr 0 0 0), (2, .ptr G.length 0 0), (3, .sl (G.length + 1) 0 (i + 1)), (5, .int .i64 (p.C.length : Nat)), (6, .int .i64 (p.B.length : Nat)), (7, .sl 1 0 nd.length), (46, .ro (zq p.A) 0 p.A.length), (47, .int .i64 (p.A.length : Nat)), (48, .int .i64 (i : Nat)), (10, .int .i64 (i : Nat))]) ⟨Z, Z, Z, Z, Z, Z, Z, Z, Z, Z, Z, trivial⟩ (by
       intro q hq
       simp only [List.mem_cons, List.mem_nil_iff, or_false] at hq
       rcases hq with rfl | rfl | rfl | rfl | rfl | rfl | rfl | rfl | rfl | rfl | rfl <;> simp [AV.forget, zAB (show 0 ≠ G.length + 3 by omega), zAB (show 1 ≠ G.length + 3 by omega), zAB (show G.length ≠ G.length + 3 by omega), zAB (show G.length + 1 ≠ G.length + 3 by omega)])⟩ ?_
   refine zAw (zIu G (some ⟨118, nsC fs2⟩) (N + 1) (p.C.length + p.B.length) (X ++ [R]) 1 β2 [none]) (zNd (hFG _) (hFf _ _) (zET G.length X.length (N + 1) _ (by rw [hXl]; rfl))) ?_
   repeat (first | refine zB (zT rfl) ?_ | refine zB (zI rfl rfl rfl rfl rfl rfl) ?_)
   refine zAi Z Z Z Z anyF_box Z Z Nat.zero_lt_one ?_
   refine zS (zd G (some ⟨118, nsC fs2⟩) (N + 1) (p.C.length + p.B.length) (i + 1) (X ++ [R]) 1 β2 [none]) anyF_set ?_
   repeat (first | refine zD ?_ | refine zA ?_ | refine zc ?_)
   have hl1 : (X ++ [R]).length = i + 1 := by rw [List.length_append, hXl]; rfl
   refine zBi (zd G (some ⟨118, nsC fs2⟩) (N + 1) (p.C.length + p.B.length) (i + 1) (X ++ [R]) 1 β2 []) [none] [(1, .ptr 0 0 0), (2, .ptr G.length 0 0), (3, .sl (G.length + 1) 0 (i + 1)), (5, .int .i64 (p.C.length : Nat)), (6, .int .i64 (p.B.length : Nat)), (7, .sl 1 0 nd.length), (46, .ro (zq p.A) 0 p.A.length), (47, .int .i64 (p.A.length : Nat)), (48, .int .i64 (i : Nat)), (10, .int .i64 (i : Nat))] (by rw [zAj]; rfl) ⟨Z, Z, Z, Z, Z, Z, Z, Z, Z, Z, trivial⟩ (fun h hh => by rw [hfix] at hh; exact hh.elim)
     (zCC hG _ (by rw [zBC]; exact Nat.le_add_right _ _) (fun o ho => by cases ho; exact zLn _ _) (fun o ho => by cases ho)) (by rw [zBC, hl1]; simp [zCa, zBt]; omega) ?_
   repeat (first | refine zB (zE rfl) ?_ | refine zD ?_ | refine zG rfl ?_ | refine zB (zCA rfl rfl (by omega)) ?_)
   exact zQ ⟨i + 1, by omega, by omega, ⟨Z, Z, Z, Z, Z, Z, Z, Z, Z, trivial⟩, by rw [hfs2', hX2, hβ2, hX1]⟩
 have hie : i = p.B.length := by omega
 rw [hie]
 clear hi h hie
 clear i
 have hT1 : (zBE p).take p.B.length = zBE p := List.take_of_length_le (by rw [show (zBE p).length = p.B.length from zCS p]; exact Nat.le_refl _)
 have hB1 : (zBV p).take p.B.length = zBV p := List.take_of_length_le (by rw [show (zBV p).length = p.B.length from zFk p]; exact Nat.le_refl _)
 rw [hT1, hB1]
 have hfl : ((List.range p.B.length).map p.fac).length = p.B.length := by simp
 generalize (List.range p.B.length).map p.fac = fs at *
 have q2 := tb_fac (G := G) (F := (some ⟨118, nsC fs⟩)) (L := N + 1) (w := p.C.length + p.B.length) (k := p.B.length) (X := (zBE p)) (d := 1) (β := (zBV p)) (T := [])
 repeat (first | refine zA ?_ | refine zAg ?_ | refine zw ?_ | refine zv ?_ | refine zAD ?_)
 refine zBM (G.length + 1) 3 p.B.length [(2, .ptr G.length 0 0), (7, .sl 1 0 nd.length)] q2 (zM4 _) Z (by show _ ≤ fs.length; omega) ⟨Z, Z, trivial⟩ ?_
 refine zBe (zd [none, none] none (N + 1) (p.C.length + p.B.length) p.B.length (zBE p) 1 (zBV p) []) (by
   subst hGG
   exact zn.drop (zn.drop (zn.same (zn.drop (zn.refl _))))) ?_
 repeat (first | refine zB (zE rfl) ?_ | refine zB (zL rfl) ?_ | refine zD ?_ | refine zA ?_ | refine zR ?_ | refine zG rfl ?_ | refine zAh ?_ | refine zB (zAR rfl rfl rfl) ?_)
 exact zO hR Z ⟨by rw [← hGG]; rfl, Z⟩
end Go.Proofs.YtnkealfaldjipaaGreatDoor
namespace Go.Proofs.YtnkealfaldjipaaGreatDoor
open Go.Ax Go.Ax.Bg Go.Ax.Rt Go.RowKit Go.Ax.Dt Go.Ax.Sx
attribute [local irreducible] Ax zBR QOp zY zBK
set_option maxRecDepth 100000
set_option maxHeartbeats 4000000
/-- Numbers that may not be there yet. -/
def zJO : Option Rat → List AV
 | some q => z7 q
 | none => [.bool false, .nil, .nil]
abbrev zsC (l : List (Option Rat)) : Cells := zDV none 3 zJO l
theorem zOB (n : Nat) : CEq (zBF n [.bool false, .nil, .nil]) (zsC (List.replicate n none)) := by
 refine ⟨by simp [zDV, Cells.len, zBF], Z, fun i j hi hj => ?_⟩
 have hi : i < n := by simpa [Cells.len, zBF] using hi
 show (zJO ((List.replicate n (none : Option Rat)).getD i none)).getD j .any = _
 rw [zDg none (by simpa using hi), List.getElem_replicate]
 rfl
theorem zs_map (l : List Rat) : CEq (zsC (l.map some)) (qsC l) := by
 refine ⟨by simp [zDV, Cells.len], Z, fun i j hi hj => ?_⟩
 have hi : i < l.length := by simpa [zDV, Cells.len] using hi
 show (z7 (l.getD i 0)).getD j .any = (zJO ((l.map some).getD i none)).getD j .any
 rw [zEn some l 0 none i hi]
 rfl
theorem zJs (l : List Rat) (n : Nat) : zBo n (qsC l) := by
 intro i j _ hj
 show zBt n ((z7 (l.getD i 0)).getD j .any) = true
 have hj : j < 3 := hj
 match j, hj with
 | 0, _ => rfl
 | 1, _ => rfl
 | 2, _ => rfl
theorem zGa {α : Type} (d : α) (n : Nat) (e : α → List AV) (zs : List α) (k : Nat) (a : α) (hk : k < zs.length) (i' j' : Nat) (hi' : i' < zs.length) (hj' : j' < n) : (zDV d n e (zs.set k a)).at i' j' = if i' = k then (e a).getD j' .any else (zDV d n e zs).at i' j' := by
 show (e ((zs.set k a).getD i' d)).getD j' .any = if i' = k then (e a).getD j' .any else (e (zs.getD i' d)).getD j' .any
 rw [Go.Ax.Dt.getD_set]
 by_cases h : i' = k
 · rw [if_pos h, if_pos ⟨h, hk⟩]
 · rw [if_neg h, if_neg (fun q => h q.1)]
theorem zOF (n : Nat) : chg (fun _ => some (0 : Rat)) none (List.replicate n none) n = (List.replicate n (0 : Rat)).map some := by
 have := zEM (fun _ => some (0 : Rat)) none (List.replicate n none)
 rw [List.length_replicate] at this
 rw [this, List.map_replicate]
 apply List.ext_getElem (by simp)
 intro i h1 h2
 simp
theorem zAy (β : List Nat) (i : Nat) : (β.map (fun a : Nat => (a : Int))).getD i 0 = ((β.getD i 0 : Nat) : Int) := by
 simp only [List.getD, List.getElem?_map]
 cases β[i]? <;> rfl
theorem zFP (G : zN) (hG : OkG G) (N w k : Nat) (X : Tab) (d : Int) (β : List Nat) (T : zN) (hT : ∀ m, G.length + 4 + X.length ≤ m → ∀ o : AObj, some o ∈ T → zBo m o.c) (n0 : Nat) (hn0 : n0 ≤ 1000000) (hkX : k ≤ X.length) (hβ : β.length ≤ k) (hk40 : k ≤ 1000000)
   (hL : ∀ x ∈ X, x.length = N + 1) (hL40 : N + 1 ≤ 1000000) (hd : d ≠ 0) (hX : ∀ i, i < β.length → (zX (at2 X i N).natAbs).length ≤ 1000000) (hdl : (zX d.natAbs).length ≤ 1000000) :
   zY Tryz.prog 170 [.ptr G.length 0 0, .int .i64 (n0 : Nat)] (zd G none (N + 1) w k X d β T) (fun h => h < (zd G none (N + 1) w k X d β T).length)
     (fun r' H' => r' = .ro (qsC (zBr n0 β (fun i => Rat.divInt (at2 X i N) d) (List.replicate n0 0) β.length)) 0 n0 ∧ H' = zd G none (N + 1) w k X d β T) := by
 have hlen : ∀ T, (zd G none (N + 1) w k X d β T).length = G.length + 4 + X.length + T.length := fun T => zBC
 refine zK (P := Tryz.prog) (fn := Tryz.f170) Z Z (by kernel_rfl) Z (fun c hR hfix => ?_)
 refine rn0 ?_
 refine zCr Z Z Z Z Z Z Z Z (by show (0 : Int) ≤ _ ∧ _ ≤ _ ∧ (56 : Int) * _ ≤ _ ∧ _; omega) ?_
 refine zAw (zd G none (N + 1) w k X d β T ++ [some ⟨122, zsC (List.replicate n0 none)⟩]) (zn.append (zn.refl _) (zn.eqv (zOB _) zn.nil)) ?_
 refine zS (zd G none (N + 1) w k X d β (T ++ [some ⟨122, zsC (chg (fun _ => some (0 : Rat)) none (List.replicate n0 none) 0)⟩])) (by rw [zAj, zC5]) ?_
 refine zH 10 (.sl (G.length + 4 + X.length + T.length) 0 n0) Z (AEq.of_eq (by rw [hlen]; rfl)) ?_
 refine rn3 ?_
 refine zt (ι := Nat) (fun i => [(0, .ptr G.length 0 0), (1, .int .i64 (n0 : Nat)), (5, .sl (G.length + 4 + X.length + T.length) 0 n0), (12, .int .i64 (n0 : Nat)), (13, .int .i64 (i : Nat))]) (fun i => zd G none (N + 1) w k X d β (T ++ [some ⟨122, zsC (chg (fun _ => some (0 : Rat)) none (List.replicate n0 none) i)⟩]))
   (fun i => i ≤ n0) (fun i => n0 - i) 0 ⟨⟨rfl, rfl, rfl, rfl, rfl, trivial⟩, rfl, Nat.zero_le _⟩ ?_
 intro i hi
 refine rn4 ?_
 refine zF Z (fun h => ?_) (fun h => ?_)
 · have hi' : i < n0 := by omega
   have hst := zDh (fun _ => some (0 : Rat)) none (List.replicate n0 none) (k := i) (by simpa using hi')
   have hAl : (chg (fun _ => some (0 : Rat)) none (List.replicate n0 none) i).length = n0 := by rw [zCd]; simp
   generalize chg (fun _ => some (0 : Rat)) none (List.replicate n0 none) i = A at *
   have f1 := zFe (G := G) (F := none) (L := N + 1) (w := w) (k := k) (X := X) (d := d) (β := β) (T := T) (some ⟨122, zsC A⟩)
   have hiA : i < (zsC A).len := by show i < A.length; omega
   refine rn1 ?_
   refine zJ Z Z Z zIr ?_
   unfold qA
   repeat (refine zB (zV rfl rfl rfl (by assumption) (by rfl) (by first | (simp only [Nat.zero_add, Int.toNat_natCast, Int.toNat_zero]; exact rfl) | exact rfl) (by omega)) ?_)
   refine zU (c' := zsC (A.set i (some 0))) Z Z Z f1 Z hiA (List.length_set ..) Z (fun i' j' hi' hj' => zGa none 3 zJO A i (some 0) hiA i' j' hi' hj') ?_
   refine zS (zd G none (N + 1) w k X d β (T ++ [some ⟨122, zsC (A.set i (some 0))⟩])) (zCh _ _) ?_
   refine rn5 ?_
   exact zQ ⟨i + 1, by omega, by omega, ⟨Z, Z, Z, Z, Z, trivial⟩, by rw [hst]⟩
 have hie : i = n0 := by omega
 rw [hie, zOF]
 clear hi h hie
 clear i
 have f2 := zA7 (G := G) (F := none) (L := N + 1) (w := w) (k := k) (X := X) (d := d) (β := β) (T := T ++ [some ⟨122, qsC (zBr n0 β (fun i => Rat.divInt (at2 X i N) d) (List.replicate n0 0) 0)⟩])
 refine zBe (zd G none (N + 1) w k X d β T ++ [some ⟨122, qsC (List.replicate n0 0)⟩]) (by rw [← zAj]; exact zn.append (zn.refl _) (zn.eqv (zs_map _) zn.nil)) ?_
 refine zAW (zd G none (N + 1) w k X d β (T ++ [some ⟨122, qsC (zBr n0 β (fun i => Rat.divInt (at2 X i N) d) (List.replicate n0 0) 0)⟩])) (by rw [zAj]; rfl) ?_
 repeat (first | refine zB (zE rfl) ?_ | refine zD ?_ | refine zA ?_ | refine zR ?_ | refine zG rfl ?_ | refine zb ?_ | refine zAg ?_ | refine zw ?_ | refine zv ?_ | refine zAD ?_ | refine zB (zAR rfl rfl rfl) ?_ | refine zB (zT rfl) ?_ | refine zB (zI rfl rfl rfl rfl rfl rfl) ?_ | refine zB (zl rfl rfl rfl (by assumption) (by rfl)) ?_)
 refine zt (ι := Nat) (fun i => [(0, .ptr G.length 0 0), (1, .int .i64 (n0 : Nat)), (5, .sl (G.length + 4 + X.length + T.length) 0 n0), (24, .sl (G.length + 2) 0 β.length), (25, .int .i64 (β.length : Nat)), (26, .int .i64 (i : Nat))]) (fun i => zd G none (N + 1) w k X d β (T ++ [some ⟨122, qsC (zBr n0 β (fun i => Rat.divInt (at2 X i N) d) (List.replicate n0 0) i)⟩]))
   (fun i => i ≤ β.length) (fun i => β.length - i) 0 ⟨⟨rfl, rfl, rfl, rfl, rfl, rfl, trivial⟩, rfl, Nat.zero_le _⟩ ?_
 clear f2
 intro i hi
 have hVl := zDW n0 β (fun i => Rat.divInt (at2 X i N) d) (List.replicate n0 0) i
 rw [List.length_replicate] at hVl
 refine rn4 ?_
 refine zF Z (fun h => ?_) (fun h => ?_)
 · have hi' : i < β.length := by omega
   have hst : zBr n0 β (fun i => Rat.divInt (at2 X i N) d) (List.replicate n0 0) (i + 1) = if β.getD i 0 < n0 then (zBr n0 β (fun i => Rat.divInt (at2 X i N) d) (List.replicate n0 0) i).set (β.getD i 0) (Rat.divInt (at2 X i N) d) else zBr n0 β (fun i => Rat.divInt (at2 X i N) d) (List.replicate n0 0) i := rfl
   generalize zBr n0 β (fun i => Rat.divInt (at2 X i N) d) (List.replicate n0 0) i = V at *
   have f1 := zA7 (G := G) (F := none) (L := N + 1) (w := w) (k := k) (X := X) (d := d) (β := β) (T := T ++ [some ⟨122, qsC V⟩])
   have f2 := zFB (G := G) (F := none) (L := N + 1) (w := w) (k := k) (X := X) (d := d) (β := β) (T := T ++ [some ⟨122, qsC V⟩])
   have g2 : i < (β.map (fun a : Nat => (a : Int))).length := by rw [List.length_map]; exact hi'
   repeat (first | refine zB (zE rfl) ?_ | refine zB (zL rfl) ?_ | refine zD ?_ | refine zA ?_ | refine zR ?_ | refine zG rfl ?_ | refine zb ?_ | refine zi ?_ | refine zB (zCg rfl rfl) ?_ | refine zB (zV rfl rfl rfl (by assumption) (by rfl) (by first | (simp only [Nat.zero_add, Int.toNat_natCast, Int.toNat_zero]; exact rfl) | exact rfl) (by omega)) ?_ | refine zB (zCI rfl rfl rfl (by assumption) (by first | assumption | omega)) ?_)
   refine zF Z (fun h1 => ?_) (fun h1 => ?_)
   · rw [zAy] at h1
     have hb : β.getD i 0 < n0 := by omega
     rw [if_pos hb] at hst
     refine zAp 8 (.int .i64 (β.getD i 0 : Nat)) Z (AEq.of_eq (by rw [zAy])) ?_
     have lI : (X.getD i []).length = N + 1 := hL _ (zAt [] (by omega))
     have f3 := zCc (G := G) (F := none) (L := N + 1) (w := w) (k := k) (X := X) (d := d) (β := β) (T := T ++ [some ⟨122, qsC V⟩])
     have f4 := zCM (G := G) (F := none) (L := N + 1) (w := w) (k := k) (X := X) (d := d) (β := β) (T := T ++ [some ⟨122, qsC V⟩]) (a := i) (by omega)
     have f5 := zFe (G := G) (F := none) (L := N + 1) (w := w) (k := k) (X := X) (d := d) (β := β) (T := T) (some ⟨122, qsC V⟩)
     have g3 : i < (zBb G.length X.length (N + 1)).len := by show i < X.length; omega
     have g4 : N < (zC (X.getD i [])).len := by show N < (X.getD i []).length; omega
     have g5 : β.getD i 0 < (qsC V).len := by show _ < V.length; omega
     have hlT := hlen T
     have cq := q_ok G hG (N + 1) w k X d β (T ++ [some ⟨122, qsC V⟩]) (fun o ho => by
       rw [hlen]
       rcases List.mem_append.1 ho with q | q
       · exact hT _ (by omega) o q
       · cases List.mem_singleton.1 q; exact zJs V _) (at2 X i N) hd (hX i hi') hdl
     skip
     refine zx (by kernel_rfl) ?_
     refine z8 (fuel := 1) [0, 1, 2, 3, 4, 5, 6, 7, 8, 9, 10, 11, 12, 13, 14, 15, 16, 17, 18, 19, 20, 21, 22] [(0, .ptr G.length 0 0), (1, .int .i64 (n0 : Nat)), (5, .sl (G.length + 4 + X.length + T.length) 0 n0), (7, .int .i64 (i : Nat)), (8, .int .i64 (β.getD i 0 : Nat)), (24, .sl (G.length + 2) 0 β.length), (25, .int .i64 (β.length : Nat)), (26, .int .i64 (i : Nat))] ⟨Z, Z, Z, Z, Z, Z, Z, Z, trivial⟩ (by kernel_rfl) (by decide) Z Z ?_
     refine zM Z Z (zE Z) ?_
     refine zM Z Z (zE Z) ?_
     refine zM Z Z (zE Z) ?_
     refine zM Z Z (zE Z) ?_
     refine zM Z Z (zT Z) ?_
     refine zM Z Z (zI Z Z Z Z Z Z) ?_
     refine zM Z Z (zl Z Z Z (by assumption) (by rfl)) ?_
     refine zM Z Z (zE Z) ?_
     refine zM Z Z (zV Z Z Z (by assumption) (by rfl) (by first | (simp only [Nat.zero_add, Int.toNat_natCast, Int.toNat_zero]; exact Z) | exact Z) (by omega)) ?_
     refine zM Z Z (zAm Z Z Z (by assumption) Z (by first | assumption | omega)) ?_
     refine zM Z Z (zE Z) ?_
     refine zM Z Z (zT Z) ?_
     refine zM Z Z (zI Z Z Z Z Z Z) ?_
     refine zM Z Z (zl Z Z Z (by assumption) (by rfl)) ?_
     refine zM Z Z (zE Z) ?_
     refine zM Z Z (zV Z Z Z (by assumption) (by rfl) (by first | (simp only [Nat.zero_add, Int.toNat_natCast, Int.toNat_zero]; exact Z) | exact Z) (by omega)) ?_
     refine zM Z Z (zAm Z Z Z (by assumption) Z (by first | assumption | omega)) ?_
     refine zM Z Z (zAR Z Z Z) ?_
     refine zM Z Z (zBc Z Z (by omega)) ?_
     refine zM Z Z (zV (ix := N) Z Z Z f4 Z (by show 0 + (((N + 1 : Nat) : Int) - 1).toNat = N; omega) (by omega)) ?_
     refine zM Z Z (zg Z Z Z Z (by assumption) (by rfl) (by rfl) (by first | exact Nat.zero_lt_one | assumption | omega)) ?_
     refine px_c Z Z Z Z Z cq ?_
     refine zM Z Z (zV Z Z Z (by assumption) (by rfl) (by first | (simp only [Nat.zero_add, Int.toNat_natCast, Int.toNat_zero]; exact Z) | exact Z) (by omega)) ?_
     refine zAC ?_
     unfold qA
     refine zW (is := [23]) (by kernel_rfl) (by simp) Z ⟨fun o ho => ?_, trivial⟩
     all_goals (cases ho)
     refine zU (c' := qsC (V.set (β.getD i 0) (Rat.divInt (at2 X i N) d))) Z Z Z f5 Z g5 (List.length_set ..) Z (fun i' j' hi' hj' => zGa 0 3 z7 V (β.getD i 0) _ g5 i' j' hi' hj') ?_
     refine zS (zd G none (N + 1) w k X d β (T ++ [some ⟨122, qsC (V.set (β.getD i 0) (Rat.divInt (at2 X i N) d))⟩])) (zCh _ _) ?_
     refine rn1 ?_
     refine zf (by kernel_rfl) ?_
     refine rn5 ?_
     exact zQ ⟨i + 1, by omega, by omega, ⟨Z, Z, Z, Z, Z, Z, trivial⟩, by rw [hst]⟩
   · rw [zAy] at h1
     rw [if_neg (by omega)] at hst
     refine rn5 ?_
     exact zQ ⟨i + 1, by omega, by omega, ⟨Z, Z, Z, Z, Z, Z, trivial⟩, by rw [hst]⟩
 have hie : i = β.length := by omega
 subst hie
 repeat (first | refine zA ?_ | refine zAg ?_ | refine zw ?_ | refine zv ?_ | refine zAD ?_)
 generalize zBr n0 β (fun i => Rat.divInt (at2 X i N) d) (List.replicate n0 0) β.length = V at *
 have f5 := zFe (G := G) (F := none) (L := N + 1) (w := w) (k := k) (X := X) (d := d) (β := β) (T := T) (some ⟨122, qsC V⟩)
 refine zBM (G.length + 4 + X.length + T.length) 5 n0 [] f5 (zBm _) Z (by show n0 ≤ V.length; omega) trivial ?_
 refine zAW (zd G none (N + 1) w k X d β T ++ [none]) (by rw [zCh, zAj]) ?_
 refine zBi (zd G none (N + 1) w k X d β T) [none] [(5, .ro (qsC V) 0 n0)] rfl ⟨rfl, trivial⟩ (fun h hh => by rw [hfix] at hh; exact hh) (zCC hG _ (by rw [hlen]; omega) (fun o ho => by cases ho) (hT _ (by rw [hlen]; omega))) rfl ?_
 refine rn0 ?_
 exact zO hR Z ⟨Z, Z⟩
theorem zLf (G : zN) (hG : OkG G) (hFG : ∀ h, G.length ≤ h → zo h G = G) (n m a N : Nat) (X : Tab) (β : List Nat) (M : Tab) (K E : Nat) (hN : N = n + m + a) (hm : m ≤ 100) (hN40 : N + 1 ≤ 1000000) (hXl : X.length = m) (hβ : β.length = m) (hL : ∀ x ∈ X, x.length = N + 1)
   (hX : ∀ i j, i < m → j < N + 1 → (at2 X i j).natAbs ≤ 10 ^ E) (hE : E ≤ 3500000)
   (hi : Inv m N M ⟨X ++ [zBU (n + m) a N ⟨X, 1, β⟩ m a], 1, β⟩) (hf : zDZ m N ⟨X ++ [zBU (n + m) a N ⟨X, 1, β⟩ m a], 1, β⟩)
   (hK : zBq m N (n + m) (zAo m N (n + m) ⟨X ++ [zBU (n + m) a N ⟨X, 1, β⟩ m a], 1, β⟩ K) = none)
   (hB : ∀ t, Inv m N M t → (∀ i j, i < m + 1 → j < N + 1 → (at2 t.rows i j).natAbs ≤ 10 ^ E) ∧ t.den.natAbs ≤ 10 ^ E)
   (hz : ∀ t, Inv m N M t → zDZ m N t → ¬ at2 t.rows m N < 0 → ∀ i, i < m → n + m ≤ t.basis.getD i 0 → at2 t.rows i N = 0) :
   zY Tryz.prog 166 [.ptr G.length 0 0, .int .i64 (n : Nat), .int .i64 (m : Nat), .int .i64 (a : Nat)] (zd G none (N + 1) (n + m) m X 1 β []) (fun h => h < (zd G none (N + 1) (n + m) m X 1 β []).length ∧ h ≠ G.length + 3)
     (fun r' H' => (at2 (zAo m N (n + m) ⟨X ++ [zBU (n + m) a N ⟨X, 1, β⟩ m a], 1, β⟩ K).rows m N < 0 ∧ r' = .tup [.ro (qsC ((List.range m).map (fun i => Rat.divInt (at2 (zAo m N (n + m) ⟨X ++ [zBU (n + m) a N ⟨X, 1, β⟩ m a], 1, β⟩ K).rows m (n + i)) (zAo m N (n + m) ⟨X ++ [zBU (n + m) a N ⟨X, 1, β⟩ m a], 1, β⟩ K).den))) 0 m, .bool false] ∧ H' = zd G none (N + 1) (n + m) (m + 1) (zAo m N (n + m) ⟨X ++ [zBU (n + m) a N ⟨X, 1, β⟩ m a], 1, β⟩ K).rows (zAo m N (n + m) ⟨X ++ [zBU (n + m) a N ⟨X, 1, β⟩ m a], 1, β⟩ K).den (zAo m N (n + m) ⟨X ++ [zBU (n + m) a N ⟨X, 1, β⟩ m a], 1, β⟩ K).basis [none]) ∨
       (¬ at2 (zAo m N (n + m) ⟨X ++ [zBU (n + m) a N ⟨X, 1, β⟩ m a], 1, β⟩ K).rows m N < 0 ∧ r' = .tup [.nil, .bool true] ∧ H' = stH G N (n + m) m (zBP (n + m) (Sx.cutS m (zAo m N (n + m) ⟨X ++ [zBU (n + m) a N ⟨X, 1, β⟩ m a], 1, β⟩ K)) m))) := by
 refine zK (P := Tryz.prog) (fn := Tryz.f166) Z Z (by kernel_rfl) Z (fun c hR hfix => ?_)
 have hlen : (zd G none (N + 1) (n + m) m X 1 β []).length = G.length + 4 + m := by rw [zBC, hXl]; rfl
 rw [hlen] at hfix
 have hsz : ∀ x : Int, ∀ e, e ≤ 3599990 → x.natAbs ≤ 10 ^ e → (zX x.natAbs).length ≤ 400001 := fun x e he hx => zE1 hx (by omega)
 refine rn3 ?_
 refine zH 28 (.int .i64 ((N + 1 : Nat))) Z (AEq.of_eq (by show AV.int _ _ = AV.int _ _; congr 1; omega)) ?_
 refine zH 10 (.int .i64 ((N + 1 : Nat))) Z (AEq.of_eq (by show AV.int _ _ = AV.int _ _; congr 1; omega)) ?_
 refine zCr Z Z Z Z Z Z Z Z (by show (0 : Int) ≤ _ ∧ _ ≤ _ ∧ (32 : Int) * _ ≤ _ ∧ _; omega) ?_
 refine zF0 (zd G none (N + 1) (n + m) m X 1 β [] ++ [some ⟨120, zC (List.replicate (N + 1) 0)⟩]) (by simp only [List.length_append, List.length_cons, List.length_nil]) zHP ?_
 refine zS (zd G none (N + 1) (n + m) m X 1 β [some ⟨120, zC (zC0 (n + m) N (⟨X, 1, β⟩ : St) 0)⟩]) (by rw [zAj, zNW]; rfl) ?_
 refine zH 29 (.sl (G.length + 4 + m) 0 (N + 1)) Z (AEq.of_eq (by rw [hlen]; rfl)) ?_
 have f1 := zA7 (G := G) (F := none) (L := N + 1) (w := n + m) (k := m) (X := X) (d := 1) (β := β) (T := [some ⟨120, zC (zC0 (n + m) N (⟨X, 1, β⟩ : St) 0)⟩])
 rw [hβ] at f1
 repeat (first | refine zB (zE rfl) ?_ | refine zB (zL rfl) ?_ | refine zD ?_ | refine zA ?_ | refine zR ?_ | refine zG rfl ?_ | refine zb ?_ | refine zB (zAR rfl rfl rfl) ?_ | refine zB (zT rfl) ?_ | refine zB (zI rfl rfl rfl rfl rfl rfl) ?_ | refine zB (zl rfl rfl rfl (by assumption) (by rfl)) ?_)
 refine zt (ι := Nat) (fun i => [(0, .ptr G.length 0 0), (1, .int .i64 (n : Nat)), (2, .int .i64 (m : Nat)), (3, .int .i64 (a : Nat)), (10, .int .i64 ((N + 1 : Nat))), (11, .sl (G.length + 4 + m) 0 (N + 1)), (33, .sl (G.length + 2) 0 m), (34, .int .i64 (m : Nat)), (35, .int .i64 (i : Nat))]) (fun i => zd G none (N + 1) (n + m) m X 1 β [some ⟨120, zC (zC0 (n + m) N (⟨X, 1, β⟩ : St) i)⟩]) (fun i => i ≤ m) (fun i => m - i) 0 ⟨⟨Z, Z, Z, Z, Z, Z, Z, Z, Z, trivial⟩, Z, Nat.zero_le _⟩ ?_
 clear f1
 intro i him
 refine rn4 ?_
 refine zF Z (fun h => ?_) (fun h => ?_)
 · have hi' : i < m := by omega
   have f2 := zFB (G := G) (F := none) (L := N + 1) (w := n + m) (k := m) (X := X) (d := 1) (β := β) (T := [some ⟨120, zC (zC0 (n + m) N (⟨X, 1, β⟩ : St) i)⟩])
   have g2 : i < (β.map (fun a : Nat => (a : Int))).length := by rw [List.length_map, hβ]; exact hi'
   repeat (first | refine zB (zE rfl) ?_ | refine zB (zL rfl) ?_ | refine zD ?_ | refine zA ?_ | refine zR ?_ | refine zG rfl ?_ | refine zb ?_ | refine zi ?_ | refine zB (zDY rfl rfl) ?_ | refine zB (zCA rfl rfl (by omega)) ?_ | refine zB (zV rfl rfl rfl (by assumption) (by rfl) (by first | (simp only [Nat.zero_add, Int.toNat_natCast, Int.toNat_zero]; exact rfl) | exact rfl) (by omega)) ?_ | refine zB (zCI rfl rfl rfl (by assumption) (by first | assumption | omega)) ?_)
   refine zF Z (fun h1 => ?_) (fun h1 => ?_)
   · rw [zAy] at h1
     have hb : n + m ≤ β.getD i 0 := by omega
     have hcl := zGp (n + m) N (⟨X, 1, β⟩ : St) i
     have hcl2 := zGp (n + m) N (⟨X, 1, β⟩ : St) (i + 1)
     have hnx := fun j (hj : j < N + 1) => zNL (w := n + m) (N := N) (s := (⟨X, 1, β⟩ : St)) (i := i) hb hj
     have hab := fun j (hj : j < N + 1) => zPG (w := n + m) (N := N) (E := E) (s := (⟨X, 1, β⟩ : St)) (i := i) (j := j) (by omega) (fun q hq => hX q j (by omega) hj) hj
     have lI : (X.getD i []).length = N + 1 := hL _ (zAt [] (by omega))
     generalize hC2 : (zC0 (n + m) N (⟨X, 1, β⟩ : St) (i + 1)) = C2 at *
     generalize (zC0 (n + m) N (⟨X, 1, β⟩ : St) i) = C1 at *
     have f6 := zA7 (G := G) (F := none) (L := N + 1) (w := n + m) (k := m) (X := X) (d := 1) (β := β) (T := [some ⟨120, zC C1⟩])
     have f7 := zAk (G := G) (F := none) (L := N + 1) (w := n + m) (k := m) (X := X) (d := 1) (β := β) (T := [some ⟨120, zC C1⟩]) 0
     rw [hXl, Nat.add_zero] at f7
     clear f2
     refine rn3 ?_
     refine zt (ι := Nat) (fun j => [(0, .ptr G.length 0 0), (1, .int .i64 (n : Nat)), (2, .int .i64 (m : Nat)), (3, .int .i64 (a : Nat)), (10, .int .i64 ((N + 1 : Nat))), (11, .sl (G.length + 4 + m) 0 (N + 1)), (33, .sl (G.length + 2) 0 m), (34, .int .i64 (m : Nat)), (35, .int .i64 (i : Nat)), (12, .int .i64 (i : Nat)), (46, .int .i64 ((N + 1 : Nat))), (47, .int .i64 (j : Nat))]) (fun j => zd G none (N + 1) (n + m) m X 1 β [some ⟨120, zC (chg (fun j => C2.getD j 0) 0 C1 j)⟩]) (fun j => j ≤ N + 1) (fun j => N + 1 - j) 0 ⟨⟨Z, Z, Z, Z, Z, Z, Z, Z, Z, Z, Z, Z, trivial⟩, by rw [zC5], Nat.zero_le _⟩ ?_
     intro j hj
     refine rn4 ?_
     refine zF Z (fun h2 => ?_) (fun h2 => ?_)
     · have hj' : j < N + 1 := by omega
       have hgj := zCz (fun j => C2.getD j 0) 0 C1 (k := j) (i := j) (by omega)
       rw [if_neg (Nat.lt_irrefl j)] at hgj
       have hsj := zDh (fun j => C2.getD j 0) 0 C1 (k := j) (by omega)
       have hlj := zCd (fun j => C2.getD j 0) 0 C1 j
       rw [hnx j hj', ← hgj] at hsj
       have ab := hab j hj'
       rw [← hgj] at ab
       generalize chg (fun j => C2.getD j 0) 0 C1 j = Y at *
       have q1 := zA7 (G := G) (F := none) (L := N + 1) (w := n + m) (k := m) (X := X) (d := 1) (β := β) (T := [some ⟨120, zC Y⟩])
       have q2 := zCc (G := G) (F := none) (L := N + 1) (w := n + m) (k := m) (X := X) (d := 1) (β := β) (T := [some ⟨120, zC Y⟩])
       have q3 := zCM (G := G) (F := none) (L := N + 1) (w := n + m) (k := m) (X := X) (d := 1) (β := β) (T := [some ⟨120, zC Y⟩]) (a := i) (by omega)
       have q4 := zAk (G := G) (F := none) (L := N + 1) (w := n + m) (k := m) (X := X) (d := 1) (β := β) (T := [some ⟨120, zC Y⟩]) 0
       rw [hXl, Nat.add_zero] at q4
       have g3 : i < (zBb G.length X.length (N + 1)).len := by show i < X.length; omega
       have g4 : j < (zC (X.getD i [])).len := by show j < (X.getD i []).length; omega
       have g5 : j < (zC Y).len := by show j < Y.length; omega
       have cs := zK9 (Y.getD j 0) (at2 X i j) (by have := hsz _ _ (by omega) ab; omega) (by have := hsz _ _ (by omega) (hX i j hi' hj'); omega)
       refine rn1 ?_
       refine zx (by kernel_rfl) ?_
       refine z8 (fuel := 1) [0, 1, 2, 3, 4, 5, 6, 7, 8, 9, 10, 11, 12, 13, 14, 15, 16, 17] [(0, .ptr G.length 0 0), (1, .int .i64 (n : Nat)), (2, .int .i64 (m : Nat)), (3, .int .i64 (a : Nat)), (10, .int .i64 ((N + 1 : Nat))), (11, .sl (G.length + 4 + m) 0 (N + 1)), (33, .sl (G.length + 2) 0 m), (34, .int .i64 (m : Nat)), (35, .int .i64 (i : Nat)), (12, .int .i64 (i : Nat)), (46, .int .i64 ((N + 1 : Nat))), (47, .int .i64 (j : Nat)), (14, .int .i64 (j : Nat))] ⟨Z, Z, Z, Z, Z, Z, Z, Z, Z, Z, Z, Z, Z, trivial⟩ (by kernel_rfl) (by decide) Z Z ?_
       refine zM Z Z (zE Z) ?_
       refine zM Z Z (zE Z) ?_
       refine zM Z Z (zE Z) ?_
       refine zM Z Z (zE Z) ?_
       refine zM Z Z (zV Z Z Z (by assumption) (by rfl) (by first | (simp only [Nat.zero_add, Int.toNat_natCast, Int.toNat_zero]; exact Z) | exact Z) (by omega)) ?_
       refine zM Z Z (zg Z Z Z Z (by assumption) (by rfl) (by rfl) (by first | exact Nat.zero_lt_one | assumption | omega)) ?_
       refine zM Z Z (zE Z) ?_
       refine zM Z Z (zT Z) ?_
       refine zM Z Z (zI Z Z Z Z Z Z) ?_
       refine zM Z Z (zl Z Z Z (by assumption) (by rfl)) ?_
       refine zM Z Z (zE Z) ?_
       refine zM Z Z (zV Z Z Z (by assumption) (by rfl) (by first | (simp only [Nat.zero_add, Int.toNat_natCast, Int.toNat_zero]; exact Z) | exact Z) (by omega)) ?_
       refine zM Z Z (zAm Z Z Z (by assumption) Z (by first | assumption | omega)) ?_
       refine zM Z Z (zE Z) ?_
       refine zM Z Z (zV Z Z Z (by assumption) (by rfl) (by first | (simp only [Nat.zero_add, Int.toNat_natCast, Int.toNat_zero]; exact Z) | exact Z) (by omega)) ?_
       refine zM Z Z (zg Z Z Z Z (by assumption) (by rfl) (by rfl) (by first | exact Nat.zero_lt_one | assumption | omega)) ?_
       refine zAf Z Z Z Z Z cs ?_
       refine zM Z Z (zV Z Z Z (by assumption) (by rfl) (by first | (simp only [Nat.zero_add, Int.toNat_natCast, Int.toNat_zero]; exact Z) | exact Z) (by omega)) ?_
       refine zAC ?_
       unfold at2
       refine zW (is := [18]) (by kernel_rfl) (by simp) Z ⟨fun o ho => ?_, trivial⟩
       all_goals (cases ho)
       refine zU (c' := zC (Y.set j (Y.getD j 0 - (X.getD i []).getD j 0))) Z Z Z q4 Z g5 (List.length_set ..) Z (zC6 Y j _) ?_
       refine zS (zd G none (N + 1) (n + m) m X 1 β [some ⟨120, zC (Y.set j (Y.getD j 0 - (X.getD i []).getD j 0))⟩]) (by have q := zAQ (G := G) (F := none) (L := N + 1) (w := n + m) (k := m) (X := X) (d := 1) (β := β) (T := [some ⟨120, zC Y⟩]) 0 (some ⟨120, zC (Y.set j (Y.getD j 0 - (X.getD i []).getD j 0))⟩); rw [hXl, Nat.add_zero] at q; exact q) ?_
       refine rn1 ?_
       refine zf (by kernel_rfl) ?_
       refine rn5 ?_
       exact zQ ⟨j + 1, by omega, by omega, ⟨Z, Z, Z, Z, Z, Z, Z, Z, Z, Z, Z, Z, trivial⟩, by rw [← hsj]; rfl⟩
     · have hje : j = N + 1 := by omega
       subst hje
       rw [chg_to hcl hcl2]
       refine rn5 ?_
       exact zQ ⟨i + 1, by omega, by omega, ⟨Z, Z, Z, Z, Z, Z, Z, Z, Z, trivial⟩, by rw [hC2]⟩
   · rw [zAy] at h1
     have hsk := zNm (w := n + m) (N := N) (s := (⟨X, 1, β⟩ : St)) (i := i) (by show ¬ n + m ≤ β.getD i 0; omega)
     refine rn5 ?_
     exact zQ ⟨i + 1, by omega, by omega, ⟨Z, Z, Z, Z, Z, Z, Z, Z, Z, trivial⟩, by rw [hsk]⟩
 have hie : m = i := by omega
 subst hie
 clear him h
 rw [← zL5 (n + m) a N ⟨X, 1, β⟩ m]
 refine rn5 ?_
 refine zt (ι := Nat) (fun q => [(0, .ptr G.length 0 0), (1, .int .i64 (n : Nat)), (2, .int .i64 (m : Nat)), (3, .int .i64 (a : Nat)), (10, .int .i64 ((N + 1 : Nat))), (11, .sl (G.length + 4 + m) 0 (N + 1)), (70, .int .i64 (a : Nat)), (71, .int .i64 (q : Nat))]) (fun q => zd G none (N + 1) (n + m) m X 1 β [some ⟨120, zC (zBU (n + m) a N (⟨X, 1, β⟩ : St) m q)⟩]) (fun q => q ≤ a) (fun q => a - q) 0 ⟨⟨Z, Z, Z, Z, Z, Z, Z, Z, trivial⟩, Z, Nat.zero_le _⟩ ?_
 intro q hq
 refine rn4 ?_
 refine zF Z (fun h => ?_) (fun h => ?_)
 · have hq' : q < a := by omega
   have hst := zNl (w := n + m) (a := a) (N := N) (s := (⟨X, 1, β⟩ : St)) (m := m) (k := q) (by omega)
   have hFl := zDn (n + m) a N (⟨X, 1, β⟩ : St) m q
   generalize (zBU (n + m) a N (⟨X, 1, β⟩ : St) m q) = Y at *
   have q4 := zAk (G := G) (F := none) (L := N + 1) (w := n + m) (k := m) (X := X) (d := 1) (β := β) (T := [some ⟨120, zC Y⟩]) 0
   rw [hXl, Nat.add_zero] at q4
   have g5 : n + m + q < (zC Y).len := by show n + m + q < Y.length; omega
   have cw := zJL 0 (by decide)
   refine rn3 ?_
   refine zH 79 (.int .i64 ((n + m + q : Nat))) Z (AEq.of_eq (by show AV.int _ _ = AV.int _ _; congr 1)) ?_
   refine zJ Z Z Z cw ?_
   unfold zA6
   repeat (refine zB (zV rfl rfl rfl (by assumption) (by rfl) (by first | (simp only [Nat.zero_add, Int.toNat_natCast, Int.toNat_zero]; exact rfl) | exact rfl) (by omega)) ?_)
   refine zU (c' := zC (Y.set (n + m + q) 0)) Z Z Z q4 Z g5 (List.length_set ..) Z (zC6 Y (n + m + q) _) ?_
   refine zS (zd G none (N + 1) (n + m) m X 1 β [some ⟨120, zC (Y.set (n + m + q) 0)⟩]) (by have q := zAQ (G := G) (F := none) (L := N + 1) (w := n + m) (k := m) (X := X) (d := 1) (β := β) (T := [some ⟨120, zC Y⟩]) 0 (some ⟨120, zC (Y.set (n + m + q) 0)⟩); rw [hXl, Nat.add_zero] at q; exact q) ?_
   refine rn5 ?_
   exact zQ ⟨q + 1, by omega, by omega, ⟨Z, Z, Z, Z, Z, Z, Z, Z, trivial⟩, by rw [hst]⟩
 have hqe : q = a := by omega
 rw [hqe]
 clear hq h hqe
 clear q
 have hCl := zDn (n + m) a N (⟨X, 1, β⟩ : St) m a
 generalize (zBU (n + m) a N (⟨X, 1, β⟩ : St) m a) = C at *
 have f1 := zA7 (G := G) (F := none) (L := N + 1) (w := n + m) (k := m) (X := X) (d := 1) (β := β) (T := [some ⟨120, zC C⟩])
 repeat (first | refine zB (zE rfl) ?_ | refine zA ?_ | refine zR ?_ | refine zG rfl ?_ | refine zAg ?_ | refine zw ?_ | refine zv ?_ | refine zAD ?_ | refine zB (zT rfl) ?_ | refine zB (zI rfl rfl rfl rfl rfl rfl) ?_ | refine zB (zl rfl rfl rfl (by assumption) (by rfl)) ?_)
 refine zC3 Z Z Z Z Z Z Z Z Z Z ?_
 refine zS (zd G none (N + 1) (n + m) m X 1 β [some ⟨120, zC C⟩, some ⟨248, zB9 1 1 [.sl (G.length + 4 + m) 0 (N + 1)]⟩]) (by rw [zAj]; rfl) ?_
 refine zH 89 (.sl (G.length + 4 + m + 1) 0 1) Z (AEq.of_eq (by rw [zBC, hXl]; rfl)) ?_
 have f2 := zCc (G := G) (F := none) (L := N + 1) (w := n + m) (k := m) (X := X) (d := 1) (β := β) (T := [some ⟨120, zC C⟩, some ⟨248, zB9 1 1 [.sl (G.length + 4 + m) 0 (N + 1)]⟩])
 have f3 := zAk (G := G) (F := none) (L := N + 1) (w := n + m) (k := m) (X := X) (d := 1) (β := β) (T := [some ⟨120, zC C⟩, some ⟨248, zB9 1 1 [.sl (G.length + 4 + m) 0 (N + 1)]⟩]) 1
 rw [hXl] at f3
 have hol : (zBb G.length X.length (N + 1)).len = m := hXl
 skip
 refine zAS Z Z Z Z Z Z Z f2 Z hol Z (zHx f3) (by show 0 + 1 ≤ 1; omega) Z (by show (m + 1) * 24 ≤ _ ∧ _; omega) ?_ (by rw [hfix]; exact fun q => q.2 Z) ?_
 · intro i' j' hi' hj'
   obtain rfl := Nat.lt_one_iff.1 (show j' < 1 from hj')
   have q := (zET G.length X.length (N + 1) (zB9 1 1 [AV.sl (G.length + 4 + m) 0 (N + 1)]) (by rw [hXl]; rfl)).2.2 i' 0 hi' Nat.zero_lt_one
   refine Eq.trans (congrArg (AV.forget _) q.symm) (Eq.trans ?_ q)
   show AV.forget _ (AV.sl (G.length + 4 + i') 0 (N + 1)) = _
   unfold AV.forget
   rw [zAB (show G.length + 4 + i' ≠ G.length + 3 by omega)]; rfl
 refine zBl ((90, .sl (G.length + 3) 0 (m + 1)) :: (83, .ptr G.length 0 0) :: [(0, .ptr G.length 0 0), (1, .int .i64 (n : Nat)), (2, .int .i64 (m : Nat)), (3, .int .i64 (a : Nat)), (10, .int .i64 ((N + 1 : Nat)))]) ⟨Z, zA1 (h := G.length + 3) (L := (83, .ptr G.length 0 0) :: [(0, .ptr G.length 0 0), (1, .int .i64 (n : Nat)), (2, .int .i64 (m : Nat)), (3, .int .i64 (a : Nat)), (10, .int .i64 ((N + 1 : Nat)))]) ⟨Z, Z, Z, Z, Z, Z, trivial⟩ (by
   intro p hp
   simp only [List.mem_cons, List.mem_nil_iff, or_false] at hp
   rcases hp with rfl | rfl | rfl | rfl | rfl | rfl <;> simp [AV.forget, zAB])⟩ ?_
 refine zAw (zI9 G (N + 1) (n + m) (X ++ [C]) 1 β [none]) (zKl (hFG _ (by omega)) (zET G.length X.length (N + 1) _ (by rw [hXl]; rfl))) ?_
 repeat (first | refine zB (zT rfl) ?_ | refine zB (zI rfl rfl rfl rfl rfl rfl) ?_)
 refine zAi Z Z Z Z zOg Z Z Nat.zero_lt_one ?_
 refine zS (zd G none (N + 1) (n + m) (m + 1) (X ++ [C]) 1 β [none]) zOL ?_
 repeat (first | refine zD ?_ | refine zA ?_)
 have hl1 : (X ++ [C]).length = m + 1 := by rw [List.length_append, hXl]; rfl
 have hlen1 : ∀ t : St, t.rows.length = m + 1 → (stH G N (n + m) (m + 1) t).length = G.length + 4 + (m + 1) := fun t ht => by rw [zBC, ht]; rfl
 refine zBi (stH G N (n + m) (m + 1) ⟨X ++ [C], 1, β⟩) [none] [(0, .ptr G.length 0 0), (1, .int .i64 (n : Nat)), (2, .int .i64 (m : Nat)), (3, .int .i64 (a : Nat)), (10, .int .i64 ((N + 1 : Nat)))] (by rw [zAj]; rfl) ⟨Z, Z, Z, Z, Z, trivial⟩ (fun h hh => by rw [hfix] at hh; rw [hlen1 _ hl1]; exact Nat.lt_of_lt_of_le hh.1 (Nat.add_le_add_left (Nat.le_succ m) _))
   (zCC hG _ (by rw [hlen1 _ hl1, hl1]; exact Nat.le_refl _) (fun o ho => by cases ho) (fun o ho => by cases ho)) (by rw [hlen1 _ hl1]; simp [zCa, zBt]; omega) ?_
 have cr := run_ok G hG m N (n + m) M ⟨X ++ [C], 1, β⟩ hi hf (by omega) K hK E (by omega) hN40 hB (by omega)
 obtain ⟨hti, htf⟩ := zER hi hf (w := n + m) (by omega) K
 obtain ⟨hb1, hb2⟩ := hB _ hti
 have hzt := hz _ hti htf
 refine rn0 ?_
 refine zCV Z Z Z cr (fun _ h => h) (fun _ h => h) ?_
 rintro r' H' ⟨rfl, rfl⟩
 clear cr hK hi hf hz f1 f2 f3 hol
 generalize zAo m N (n + m) ⟨X ++ [C], 1, β⟩ K = t at *
 have hn := hti.n
 have htb := hti.b
 have hrow := hti.row
 have hd : t.den ≠ 0 := by have := hti.dp; omega
 have lm : (t.rows.getD m []).length = N + 1 := hrow _ (zAt [] (by omega))
 have f1 := zA7 (G := G) (F := none) (L := N + 1) (w := n + m) (k := (m + 1)) (X := t.rows) (d := t.den) (β := t.basis) (T := [])
 have f2 := zCc (G := G) (F := none) (L := N + 1) (w := n + m) (k := (m + 1)) (X := t.rows) (d := t.den) (β := t.basis) (T := [])
 have f3 := zCM (G := G) (F := none) (L := N + 1) (w := n + m) (k := (m + 1)) (X := t.rows) (d := t.den) (β := t.basis) (T := []) (a := m) (by omega)
 have g6 : N < (zC (t.rows.getD m [])).len := by show N < (t.rows.getD m []).length; omega
 refine rn0 ?_
 refine zx (by kernel_rfl) ?_
 refine z8 (fuel := 0) [0, 1, 2, 3, 4, 5, 6, 7, 8, 9, 10, 11, 12] [(0, .ptr G.length 0 0), (1, .int .i64 (n : Nat)), (2, .int .i64 (m : Nat)), (3, .int .i64 (a : Nat)), (10, .int .i64 ((N + 1 : Nat)))] ⟨Z, Z, Z, Z, Z, trivial⟩ (by kernel_rfl) (by decide) Z Z ?_
 refine zM Z Z (zE Z) ?_
 refine zM Z Z (zT Z) ?_
 refine zM Z Z (zI Z Z Z Z Z Z) ?_
 refine zM Z Z (zl Z Z Z (by assumption) (by rfl)) ?_
 refine zM Z Z (zE Z) ?_
 refine zM Z Z (zT Z) ?_
 refine zM Z Z (zI Z Z Z Z Z Z) ?_
 refine zM Z Z (zl Z Z Z (by assumption) (by rfl)) ?_
 refine zM Z Z (zAR Z Z Z) ?_
 refine zM Z Z (zBc Z Z (by omega)) ?_
 refine zM Z Z (zV Z Z Z (by assumption) (by rfl) (by first | (simp only [Nat.zero_add, Int.toNat_natCast, Int.toNat_zero]; exact Z) | exact Z) (by omega)) ?_
 refine zM Z Z (zAm Z Z Z (by assumption) Z (by first | assumption | omega)) ?_
 refine zM Z Z (zL Z) ?_
 refine zAC ?_
 refine zf (by kernel_rfl) ?_
 repeat (refine zA ?_)
 refine zAp 16 (.sl (G.length + 4 + m) 0 (N + 1)) Z (AEq.of_eq (by show AV.sl (G.length + 4 + (((m + 1 : Nat) : Int) - 1).toNat) 0 (N + 1) = _; rw [show (((m + 1 : Nat) : Int) - 1).toNat = m by omega])) ?_
 have cs := zD1 (at2 t.rows m N)
 repeat (first | refine zB (zE rfl) ?_ | refine zR ?_ | refine zG rfl ?_ | refine zB (zBc rfl rfl (by omega)) ?_)
 refine zH 109 (.int .i64 (N : Nat)) Z (AEq.of_eq (by show AV.int _ (((N + 1 : Nat) : Int) - 1) = AV.int _ _; congr 1; omega)) ?_
 repeat (first | refine zB (zV rfl rfl rfl (by assumption) (by rfl) (by first | (simp only [Nat.zero_add, Int.toNat_natCast, Int.toNat_zero]; exact rfl) | exact rfl) (by omega)) ?_ | refine zB (zg rfl rfl rfl rfl (by assumption) (by rfl) (by rfl) (by first | exact Nat.zero_lt_one | assumption | omega)) ?_)
 refine zH 111 (zA6 (at2 t.rows m N)) Z (AEq.of_eq Z) ?_
 refine zJ Z Z Z cs ?_
 refine rn4 ?_
 refine zF Z (fun h1 => ?_) (fun h1 => ?_)
 · rw [zFI] at h1
   have hyl : ∀ i, ((List.range i).map (fun i => Rat.divInt (at2 t.rows m (n + i)) t.den)).length = i := fun i => by simp
   refine rn0 ?_
   refine zBH 17 ⟨122, qsC ((List.range 0).map (fun i => Rat.divInt (at2 t.rows m (n + i)) t.den))⟩ Z Z ?_
   refine zAW (zd G none (N + 1) (n + m) (m + 1) t.rows t.den t.basis [some ⟨122, qsC ((List.range 0).map (fun i => Rat.divInt (at2 t.rows m (n + i)) t.den))⟩]) (by rw [zAj]; rfl) ?_
   refine zAp 17 (.sl (G.length + 4 + (m + 1)) 0 0) Z (AEq.of_eq (by rw [hlen1 _ hn])) ?_
   repeat (refine zb ?_)
   refine zt (ι := Nat) (fun i => [(0, .ptr G.length 0 0), (1, .int .i64 (n : Nat)), (2, .int .i64 (m : Nat)), (3, .int .i64 (a : Nat)), (10, .int .i64 ((N + 1 : Nat))), (16, .sl (G.length + 4 + m) 0 (N + 1)), (17, .sl (G.length + 4 + (m + 1)) 0 i), (114, .int .i64 (m : Nat)), (115, .int .i64 (i : Nat))]) (fun i => zd G none (N + 1) (n + m) (m + 1) t.rows t.den t.basis [some ⟨122, qsC ((List.range i).map (fun i => Rat.divInt (at2 t.rows m (n + i)) t.den))⟩]) (fun i => i ≤ m) (fun i => m - i) 0 ⟨⟨Z, Z, Z, Z, Z, Z, Z, Z, Z, trivial⟩, Z, Nat.zero_le _⟩ ?_
   intro i him
   refine rn4 ?_
   refine zF Z (fun h => ?_) (fun h => ?_)
   · have hi' : i < m := by omega
     have hys : (List.range (i + 1)).map (fun i => Rat.divInt (at2 t.rows m (n + i)) t.den) = (List.range i).map (fun i => Rat.divInt (at2 t.rows m (n + i)) t.den) ++ [Rat.divInt (at2 t.rows m (n + i)) t.den] := by rw [List.range_succ, List.map_append]; rfl
     have hyi := hyl i
     generalize (List.range i).map (fun i => Rat.divInt (at2 t.rows m (n + i)) t.den) = Y at *
     have q3 := zCM (G := G) (F := none) (L := N + 1) (w := n + m) (k := (m + 1)) (X := t.rows) (d := t.den) (β := t.basis) (T := [some ⟨122, qsC Y⟩]) (a := m) (by omega)
     have q4 := zAk (G := G) (F := none) (L := N + 1) (w := n + m) (k := (m + 1)) (X := t.rows) (d := t.den) (β := t.basis) (T := [some ⟨122, qsC Y⟩]) 0
     rw [hn, Nat.add_zero] at q4
     have g7 : n + i < (zC (t.rows.getD m [])).len := by show n + i < (t.rows.getD m []).length; omega
     have cq := q_ok G hG (N + 1) (n + m) (m + 1) t.rows t.den t.basis [some ⟨122, qsC Y⟩] (fun o ho => by cases List.mem_singleton.1 ho; exact zJs Y _) (at2 t.rows m (n + i)) hd (by have := hsz _ _ (by omega) (hb1 m (n + i) (by omega) (by omega)); omega) (by have := hsz _ _ (by omega) hb2; omega)
     refine rn3 ?_
     refine zH 123 (.int .i64 ((n + i : Nat))) Z (AEq.of_eq (by show AV.int _ _ = AV.int _ _; congr 1)) ?_
     repeat (first | refine zB (zV rfl rfl rfl (by assumption) (by rfl) (by first | (simp only [Nat.zero_add, Int.toNat_natCast, Int.toNat_zero]; exact rfl) | exact rfl) (by omega)) ?_ | refine zB (zg rfl rfl rfl rfl (by assumption) (by rfl) (by rfl) (by first | exact Nat.zero_lt_one | assumption | omega)) ?_)
     refine zH 125 (zA6 (at2 t.rows m (n + i))) Z (AEq.of_eq Z) ?_
     refine zCV Z Z Z cq (fun _ h => h) (fun _ h => h) ?_
     rintro r' H' ⟨rfl, rfl⟩
     unfold qA
     repeat (refine zh rfl rfl rfl rfl rfl rfl rfl rfl rfl rfl rfl ?_)
     refine zAS rfl rfl rfl rfl rfl rfl rfl q4 rfl hyi rfl rfl (by show 0 + 1 ≤ 1; omega) rfl (by show (i + 1) * 56 ≤ _ ∧ _; omega) ?_ (by rw [hfix]; intro q; have := q.1; omega) ?_
     · intro i' j' hi' hj'
       exact zBg 0 3 z7 zBj Y _ _ (zEF _) _ i' j' hi' hj'
     refine zBl ((128, .sl (G.length + 4 + (m + 1)) 0 (i + 1)) :: [(0, .ptr G.length 0 0), (1, .int .i64 (n : Nat)), (2, .int .i64 (m : Nat)), (3, .int .i64 (a : Nat)), (10, .int .i64 ((N + 1 : Nat))), (16, .sl (G.length + 4 + m) 0 (N + 1)), (114, .int .i64 (m : Nat)), (115, .int .i64 (i : Nat))]) ⟨Z, zA1 (h := G.length + 4 + (m + 1)) (L := [(0, .ptr G.length 0 0), (1, .int .i64 (n : Nat)), (2, .int .i64 (m : Nat)), (3, .int .i64 (a : Nat)), (10, .int .i64 ((N + 1 : Nat))), (16, .sl (G.length + 4 + m) 0 (N + 1)), (114, .int .i64 (m : Nat)), (115, .int .i64 (i : Nat))]) ⟨Z, Z, Z, Z, Z, Z, Z, Z, trivial⟩ (by
       intro p hp
       simp only [List.mem_cons, List.mem_nil_iff, or_false] at hp
       rcases hp with rfl | rfl | rfl | rfl | rfl | rfl | rfl | rfl <;> simp [AV.forget, zAB (show G.length ≠ G.length + 4 + (m + 1) by omega), zAB (show G.length + 4 + m ≠ G.length + 4 + (m + 1) by omega)])⟩ ?_
     refine zAw (zd G none (N + 1) (n + m) (m + 1) t.rows t.den t.basis [some ⟨122, qsC ((List.range (i + 1)).map (fun i => Rat.divInt (at2 t.rows m (n + i)) t.den))⟩]) (by
       rw [hys]
       have q := zKE (G := G) (L := N + 1) (w := n + m) (k := m + 1) (X := t.rows) (d := t.den) (β := t.basis) (y := some ⟨122, qsC Y⟩) (t := 122) (by rw [hn]; exact hFG _ (by omega)) (zBx 0 3 z7 Y _ _ (zEF (Rat.divInt (at2 t.rows m (n + i)) t.den)))
       rw [hn] at q
       exact q) ?_
     refine rn5 ?_
     exact zQ ⟨i + 1, by omega, by omega, ⟨Z, Z, Z, Z, Z, Z, Z, Z, Z, trivial⟩, Z⟩
   · have hie : m = i := by omega
     subst hie
     have q4 := zAk (G := G) (F := none) (L := N + 1) (w := n + m) (k := (m + 1)) (X := t.rows) (d := t.den) (β := t.basis) (T := [some ⟨122, qsC ((List.range m).map (fun i => Rat.divInt (at2 t.rows m (n + i)) t.den))⟩]) 0
     rw [hn, Nat.add_zero] at q4
     repeat (first | refine zA ?_ | refine zAg ?_ | refine zw ?_ | refine zv ?_ | refine zAD ?_)
     refine zBM (G.length + 4 + (m + 1)) 17 m [] q4 (zBm _) Z (by show m ≤ (List.map _ _).length; rw [hyl m]; exact Nat.le_refl _) trivial ?_
     refine rn2 ?_
     refine zO hR Z (.inl ⟨h1, Z, ?_⟩)
     have q := zAQ (G := G) (F := none) (L := N + 1) (w := n + m) (k := (m + 1)) (X := t.rows) (d := t.den) (β := t.basis) (T := [some ⟨122, qsC ((List.range m).map (fun i => Rat.divInt (at2 t.rows m (n + i)) t.den))⟩]) 0 none
     rw [hn, Nat.add_zero] at q
     exact q
 · rw [zFI] at h1
   refine rn1 ?_
   refine zx (by kernel_rfl) ?_
   refine z8 (fuel := 3) [0, 1, 2, 3, 4, 5, 6, 7, 8, 9, 10, 11] [(0, .ptr G.length 0 0), (1, .int .i64 (n : Nat)), (2, .int .i64 (m : Nat)), (3, .int .i64 (a : Nat)), (10, .int .i64 ((N + 1 : Nat)))] ⟨Z, Z, Z, Z, Z, trivial⟩ (by kernel_rfl) (by decide) Z Z ?_
   refine zM Z Z (zE Z) ?_
   refine zM Z Z (zE Z) ?_
   refine zM Z Z (zT Z) ?_
   refine zM Z Z (zI Z Z Z Z Z Z) ?_
   refine zM Z Z (zl Z Z Z (by assumption) (by rfl)) ?_
   refine zM Z Z (zE Z) ?_
   refine zM Z Z (zT Z) ?_
   refine zM Z Z (zI Z Z Z Z Z Z) ?_
   refine zM Z Z (zl Z Z Z (by assumption) (by rfl)) ?_
   refine zM Z Z (zAR Z Z Z) ?_
   refine zM Z Z (zBc Z Z (by omega)) ?_
   refine zM Z Z (zEs Z Z f2 Z Z Z Z Z ⟨Z, by omega, by omega⟩) ?_
   refine zAC ?_
   refine zAA 12 Z (by kernel_rfl) (by kernel_rfl) (by kernel_rfl) Z (zT Z) Z ?_
   refine zAA 13 Z (by kernel_rfl) (by kernel_rfl) (by kernel_rfl) Z (zI Z Z Z Z Z Z) Z ?_
   refine zW (is := [14]) (by kernel_rfl) (by simp) Z ⟨fun o ho => ?_, trivial⟩
   all_goals (cases ho)
   refine zH 142 (.sl (G.length + 3) 0 m) Z (AEq.of_eq (by show AV.sl (G.length + 3) 0 (((m + 1 : Nat) : Int) - 1).toNat = _; rw [show (((m + 1 : Nat) : Int) - 1).toNat = m by omega])) ?_
   refine zAi Z Z Z Z f1 Z Z Nat.zero_lt_one ?_
   refine zS (zd G none (N + 1) (n + m) m t.rows t.den t.basis []) (zHL m (n + m) t.den) ?_
   refine rn1 ?_
   refine zf (by kernel_rfl) ?_
   repeat (refine zA ?_)
   have hXm : (t.rows.take m).length = m := by rw [List.length_take, hn]; omega
   have hlenm : ∀ u : St, u.rows.length = m → (stH G N (n + m) m u).length = G.length + 4 + m := fun u hu => by rw [zBC, hu]; rfl
   refine zHz (G.length + 3) (zBb G.length m (N + 1)) zCc ⟨by show m ≤ t.rows.length; omega, Z, fun i j hi hj => rfl⟩ ?_
   refine zAW (zd G none (N + 1) (n + m) m (t.rows.take m) t.den t.basis [some ⟨120, zC (t.rows.getD m [])⟩]) (tb_trunc hn) ?_
   refine zBi (stH G N (n + m) m (Sx.cutS m t)) [some ⟨120, zC (t.rows.getD m [])⟩] [(0, .ptr G.length 0 0), (1, .int .i64 (n : Nat)), (2, .int .i64 (m : Nat)), (3, .int .i64 (a : Nat)), (10, .int .i64 ((N + 1 : Nat)))] (by rw [zAj]; rfl) ⟨Z, Z, Z, Z, Z, trivial⟩ (fun h hh => by rw [hfix] at hh; rw [hlenm _ hXm]; exact hh.1)
     (zCC hG _ (by rw [hlenm _ hXm]; show G.length + 4 + (t.rows.take m).length ≤ _; rw [hXm]; exact Nat.le_refl _) (fun o ho => by cases ho) (fun o ho => by cases ho)) (by rw [hlenm _ hXm]; simp [zCa, zBt]; omega) ?_
   clear f1 f2 f3 g6
   have f1 := zA7 (G := G) (F := none) (L := N + 1) (w := n + m) (k := m) (X := (t.rows.take m)) (d := t.den) (β := t.basis) (T := [])
   repeat (first | refine zB (zE rfl) ?_ | refine zD ?_ | refine zA ?_ | refine zR ?_ | refine zG rfl ?_ | refine zb ?_ | refine zB (zAR rfl rfl rfl) ?_ | refine zB (zT rfl) ?_ | refine zB (zI rfl rfl rfl rfl rfl rfl) ?_ | refine zB (zl rfl rfl rfl (by assumption) (by rfl)) ?_)
   refine zAp 148 (.sl (G.length + 2) 0 m) Z (AEq.of_eq (by show AV.sl _ 0 t.basis.length = _; rw [htb])) ?_
   refine zAp 149 (.int .i64 (m : Nat)) Z (AEq.of_eq (by show AV.int _ ((t.basis.length : Nat) : Int) = _; rw [htb])) ?_
   refine zt (ι := Nat) (fun i => [(0, .ptr G.length 0 0), (1, .int .i64 (n : Nat)), (2, .int .i64 (m : Nat)), (3, .int .i64 (a : Nat)), (10, .int .i64 ((N + 1 : Nat))), (148, .sl (G.length + 2) 0 m), (149, .int .i64 (m : Nat)), (150, .int .i64 (i : Nat))]) (fun i => stH G N (n + m) m (zBP (n + m) (Sx.cutS m t) i)) (fun i => i ≤ m) (fun i => m - i) 0 ⟨⟨Z, Z, Z, Z, Z, Z, Z, Z, trivial⟩, Z, Nat.zero_le _⟩ ?_
   clear f1
   intro i him
   refine rn4 ?_
   refine zF Z (fun h => ?_) (fun h => ?_)
   · have hi' : i < m := by omega
     have hdc := zG8 (w := n + m) (show m ≤ t.rows.length by omega) i him
     obtain ⟨hvi, _, _⟩ := hti.drives htf (hzt h1) (w := n + m) (by omega) i him
     obtain ⟨hb3, hb4⟩ := hB _ hvi
     have hnx : zBP (n + m) (Sx.cutS m t) (i + 1) = zBw (n + m) (zBP (n + m) (Sx.cutS m t) i) i := rfl
     have hul : (zBP (n + m) (Sx.cutS m t) i).rows.length = m := by rw [hdc]; show ((zBP (n + m) t i).rows.take m).length = m; rw [List.length_take, hvi.n]; omega
     have hub : (zBP (n + m) (Sx.cutS m t) i).basis.length = m := by rw [hdc]; exact hvi.b
     have hur : ∀ x ∈ (zBP (n + m) (Sx.cutS m t) i).rows, x.length = N + 1 := by rw [hdc]; exact fun x hx => hvi.row x (List.mem_of_mem_take hx)
     have hud : (zBP (n + m) (Sx.cutS m t) i).den ≠ 0 := by rw [hdc]; have := hvi.dp; show (zBP (n + m) t i).den ≠ 0; omega
     have hu1 : ∀ q j, q < m → j < N + 1 → (at2 (zBP (n + m) (Sx.cutS m t) i).rows q j).natAbs ≤ 10 ^ E := by rw [hdc]; intro q j hq hj; show (at2 ((zBP (n + m) t i).rows.take m) q j).natAbs ≤ _; rw [zDw hq]; exact hb3 q j (by omega) hj
     have hu2 : (zBP (n + m) (Sx.cutS m t) i).den.natAbs ≤ 10 ^ E := by rw [hdc]; exact hb4
     clear hdc hvi hb3 hb4
     generalize hU : zBP (n + m) (Sx.cutS m t) (i + 1) = u' at *
     generalize zBP (n + m) (Sx.cutS m t) i = u at *
     have f2 := zFB (G := G) (F := none) (L := N + 1) (w := n + m) (k := m) (X := u.rows) (d := u.den) (β := u.basis) (T := [])
     have g2 : i < (u.basis.map (fun a : Nat => (a : Int))).length := by rw [List.length_map, hub]; exact hi'
     repeat (first | refine zB (zE rfl) ?_ | refine zB (zL rfl) ?_ | refine zD ?_ | refine zA ?_ | refine zR ?_ | refine zG rfl ?_ | refine zb ?_ | refine zi ?_ | refine zB (zCg rfl rfl) ?_ | refine zB (zCA rfl rfl (by omega)) ?_ | refine zB (zV rfl rfl rfl (by assumption) (by rfl) (by first | (simp only [Nat.zero_add, Int.toNat_natCast, Int.toNat_zero]; exact rfl) | exact rfl) (by omega)) ?_ | refine zB (zCI rfl rfl rfl (by assumption) (by first | assumption | omega)) ?_)
     refine zF Z (fun h2 => ?_) (fun h2 => ?_)
     · rw [zAy] at h2
       have e : u' = u := by rw [hnx]; unfold zBw; rw [if_pos (by omega)]
       refine rn5 ?_
       exact zQ ⟨i + 1, by omega, by omega, ⟨Z, Z, Z, Z, Z, Z, Z, Z, trivial⟩, by rw [hU, e]⟩
     · rw [zAy] at h2
       have e1 : u' = if nzN u.rows i (n + m) 0 = n + m then u else piv u i (nzN u.rows i (n + m) 0) := by rw [hnx]; unfold zBw; rw [if_neg (by omega)]
       clear f2 g2
       apply zAP (H := stH G N (n + m) m u') [(0, .ptr G.length 0 0), (1, .int .i64 (n : Nat)), (2, .int .i64 (m : Nat)), (3, .int .i64 (a : Nat)), (10, .int .i64 ((N + 1 : Nat))), (148, .sl (G.length + 2) 0 m), (149, .int .i64 (m : Nat)), (150, .int .i64 (i : Nat))]
       · intro fin
         refine rn3 ?_
         refine zAp 162 (.int .i64 ((n + m : Nat))) Z (AEq.of_eq (by show AV.int _ _ = AV.int _ _; congr 1)) ?_
         refine zt (ι := Nat) (fun j => [(0, .ptr G.length 0 0), (1, .int .i64 (n : Nat)), (2, .int .i64 (m : Nat)), (3, .int .i64 (a : Nat)), (10, .int .i64 ((N + 1 : Nat))), (148, .sl (G.length + 2) 0 m), (149, .int .i64 (m : Nat)), (150, .int .i64 (i : Nat)), (19, .int .i64 (i : Nat)), (162, .int .i64 ((n + m : Nat))), (163, .int .i64 (j : Nat))]) (fun _ => stH G N (n + m) m u) (fun j => j ≤ n + m ∧ nzN u.rows i (n + m - j) j = nzN u.rows i (n + m) 0) (fun j => n + m - j) 0 ⟨⟨Z, Z, Z, Z, Z, Z, Z, Z, Z, Z, Z, trivial⟩, Z, Nat.zero_le _, Z⟩ ?_
         rintro j ⟨hj, hnz⟩
         refine rn4 ?_
         refine zF Z (fun h3 => ?_) (fun h3 => ?_)
         · have hj' : j < n + m := by omega
           have lI : (u.rows.getD i []).length = N + 1 := hur _ (zAt [] (by omega))
           have f1 := zA7 (G := G) (F := none) (L := N + 1) (w := n + m) (k := m) (X := u.rows) (d := u.den) (β := u.basis) (T := [])
           have f2 := zCc (G := G) (F := none) (L := N + 1) (w := n + m) (k := m) (X := u.rows) (d := u.den) (β := u.basis) (T := [])
           have f3 := zCM (G := G) (F := none) (L := N + 1) (w := n + m) (k := m) (X := u.rows) (d := u.den) (β := u.basis) (T := []) (a := i) (by omega)
           have g3 : i < (zBb G.length u.rows.length (N + 1)).len := by show i < u.rows.length; omega
           have g4 : j < (zC (u.rows.getD i [])).len := by show j < (u.rows.getD i []).length; omega
           have cs := zD1 (at2 u.rows i j)
           repeat (first | refine zB (zE rfl) ?_ | refine zB (zL rfl) ?_ | refine zD ?_ | refine zA ?_ | refine zR ?_ | refine zG rfl ?_ | refine zb ?_ | refine zi ?_ | refine zB (zT rfl) ?_ | refine zB (zI rfl rfl rfl rfl rfl rfl) ?_ | refine zB (zV rfl rfl rfl (by assumption) (by rfl) (by first | (simp only [Nat.zero_add, Int.toNat_natCast, Int.toNat_zero]; exact rfl) | exact rfl) (by omega)) ?_ | refine zB (zg rfl rfl rfl rfl (by assumption) (by rfl) (by rfl) (by first | exact Nat.zero_lt_one | assumption | omega)) ?_ | refine zB (zl rfl rfl rfl (by assumption) (by rfl)) ?_ | refine zB (zAm rfl rfl rfl (by assumption) rfl (by first | assumption | omega)) ?_)
           refine zH 175 (zA6 (at2 u.rows i j)) Z (AEq.of_eq Z) ?_
           refine zJ Z Z Z cs ?_
           refine rn3 ?_
           refine zF Z (fun h4 => ?_) (fun h4 => ?_)
           · rw [zIP] at h4
             rw [nz_stop h4] at hnz
             rw [← hnz, if_neg (by omega)] at e1
             have cp := zMk G hG (N + 1) (n + m) m u.rows u.den u.basis i j E hul (by omega) hur hN40 (by omega) (by omega) (by omega) hud hu1 hu2 (by omega)
             refine rn0 ?_
             refine zCV Z Z Z cp (fun _ h => h) (fun _ h => h) ?_
             rintro r' H' ⟨rfl, rfl⟩
             rw [e1] at fin
             repeat (first | refine zD ?_ | refine zA ?_ | refine zc ?_ | refine zAg ?_ | refine zw ?_ | refine zv ?_ | refine zAD ?_ | refine zG5 rfl ?_)
             exact fin _ ⟨Z, Z, Z, Z, Z, Z, Z, Z, trivial⟩
           · rw [zIP] at h4
             refine rn5 ?_
             exact zQ ⟨j + 1, ⟨by omega, by rw [← hnz, show n + m - j = (n + m - (j + 1)) + 1 by omega, nz_go h4]⟩, by omega, ⟨Z, Z, Z, Z, Z, Z, Z, Z, Z, Z, Z, trivial⟩, Z⟩
         · have hje : j = n + m := by omega
           rw [hje, Nat.sub_self] at hnz
           have hnz : n + m = nzN u.rows i (n + m) 0 := hnz
           rw [if_pos hnz.symm] at e1
           rw [e1] at fin
           repeat (first | refine zA ?_ | refine zc ?_ | refine zAg ?_ | refine zw ?_ | refine zv ?_ | refine zAD ?_)
           exact fin _ ⟨Z, Z, Z, Z, Z, Z, Z, Z, trivial⟩
       · refine rn3 ?_
         exact zQ ⟨i + 1, by omega, by omega, ⟨Z, Z, Z, Z, Z, Z, Z, Z, trivial⟩, by rw [hU]⟩
   · have hie : m = i := by omega
     subst hie
     refine rn5 ?_
     exact zO hR Z (.inr ⟨h1, Z, Z⟩)
theorem zGC (n c : Nat) : (zEo n c).length = n := by
 unfold zEo
 split
 · simp
 · simp
theorem ray_ok (G : zN) (hG : OkG G) (N w k : Nat) (X : Tab) (d : Int) (β : List Nat) (T : zN) (hT : ∀ m, G.length + 4 + X.length ≤ m → ∀ o : AObj, some o ∈ T → zBo m o.c) (n0 cc : Nat) (hn0 : n0 ≤ 1000000) (hc : cc < N + 1) (hkX : k ≤ X.length) (hβ : β.length ≤ k) (hk40 : k ≤ 1000000)
   (hL : ∀ x ∈ X, x.length = N + 1) (hL40 : N + 1 ≤ 1000000) (hd : d ≠ 0) (hX : ∀ i, i < β.length → (zX (at2 X i cc).natAbs).length ≤ 1000000) (hdl : (zX d.natAbs).length ≤ 1000000) :
   zY Tryz.prog 171 [.ptr G.length 0 0, .int .i64 (n0 : Nat), .int .i64 (cc : Nat)] (zd G none (N + 1) w k X d β T) (fun h => h < (zd G none (N + 1) w k X d β T).length)
     (fun r' H' => r' = .ro (qsC (zBr n0 β (fun i => Rat.divInt (-(at2 X i cc)) d) (zEo n0 cc) β.length)) 0 n0 ∧ H' = zd G none (N + 1) w k X d β T) := by
 have hlen : ∀ T, (zd G none (N + 1) w k X d β T).length = G.length + 4 + X.length + T.length := fun T => zBC
 refine zK (P := Tryz.prog) (fn := Tryz.f171) Z Z (by kernel_rfl) Z (fun c hR hfix => ?_)
 refine rn0 ?_
 refine zCr Z Z Z Z Z Z Z Z (by show (0 : Int) ≤ _ ∧ _ ≤ _ ∧ (56 : Int) * _ ≤ _ ∧ _; omega) ?_
 refine zAw (zd G none (N + 1) w k X d β T ++ [some ⟨122, zsC (List.replicate n0 none)⟩]) (zn.append (zn.refl _) (zn.eqv (zOB _) zn.nil)) ?_
 refine zS (zd G none (N + 1) w k X d β (T ++ [some ⟨122, zsC (chg (fun _ => some (0 : Rat)) none (List.replicate n0 none) 0)⟩])) (by rw [zAj, zC5]) ?_
 refine zH 12 (.sl (G.length + 4 + X.length + T.length) 0 n0) Z (AEq.of_eq (by rw [hlen]; rfl)) ?_
 refine rn3 ?_
 refine zt (ι := Nat) (fun i => [(0, .ptr G.length 0 0), (1, .int .i64 (n0 : Nat)), (2, .int .i64 (cc : Nat)), (7, .sl (G.length + 4 + X.length + T.length) 0 n0), (14, .int .i64 (n0 : Nat)), (15, .int .i64 (i : Nat))]) (fun i => zd G none (N + 1) w k X d β (T ++ [some ⟨122, zsC (chg (fun _ => some (0 : Rat)) none (List.replicate n0 none) i)⟩]))
   (fun i => i ≤ n0) (fun i => n0 - i) 0 ⟨⟨rfl, rfl, rfl, rfl, rfl, rfl, trivial⟩, rfl, Nat.zero_le _⟩ ?_
 intro i hi
 refine rn4 ?_
 refine zF Z (fun h => ?_) (fun h => ?_)
 · have hi' : i < n0 := by omega
   have hst := zDh (fun _ => some (0 : Rat)) none (List.replicate n0 none) (k := i) (by simpa using hi')
   have hAl : (chg (fun _ => some (0 : Rat)) none (List.replicate n0 none) i).length = n0 := by rw [zCd]; simp
   generalize chg (fun _ => some (0 : Rat)) none (List.replicate n0 none) i = A at *
   have f1 := zFe (G := G) (F := none) (L := N + 1) (w := w) (k := k) (X := X) (d := d) (β := β) (T := T) (some ⟨122, zsC A⟩)
   have hiA : i < (zsC A).len := by show i < A.length; omega
   refine rn1 ?_
   refine zJ Z Z Z zIr ?_
   unfold qA
   repeat (refine zB (zV rfl rfl rfl (by assumption) (by rfl) (by first | (simp only [Nat.zero_add, Int.toNat_natCast, Int.toNat_zero]; exact rfl) | exact rfl) (by omega)) ?_)
   refine zU (c' := zsC (A.set i (some 0))) Z Z Z f1 Z hiA (List.length_set ..) Z (fun i' j' hi' hj' => zGa none 3 zJO A i (some 0) hiA i' j' hi' hj') ?_
   refine zS (zd G none (N + 1) w k X d β (T ++ [some ⟨122, zsC (A.set i (some 0))⟩])) (zCh _ _) ?_
   refine rn5 ?_
   exact zQ ⟨i + 1, by omega, by omega, ⟨Z, Z, Z, Z, Z, Z, trivial⟩, by rw [hst]⟩
 have hie : i = n0 := by omega
 rw [hie, zOF]
 clear hi h hie
 clear i
 refine zBe (zd G none (N + 1) w k X d β T ++ [some ⟨122, qsC (List.replicate n0 0)⟩]) (by rw [← zAj]; exact zn.append (zn.refl _) (zn.eqv (zs_map _) zn.nil)) ?_
 refine zAW (zd G none (N + 1) w k X d β (T ++ [some ⟨122, qsC (List.replicate n0 0)⟩])) (by rw [zAj]) ?_
 apply zAP (H := zd G none (N + 1) w k X d β (T ++ [some ⟨122, qsC (zEo n0 cc)⟩])) [(0, .ptr G.length 0 0), (1, .int .i64 (n0 : Nat)), (2, .int .i64 (cc : Nat)), (7, .sl (G.length + 4 + X.length + T.length) 0 n0)]
 · intro fin
   have f1 := zFe (G := G) (F := none) (L := N + 1) (w := w) (k := k) (X := X) (d := d) (β := β) (T := T) (some ⟨122, qsC (List.replicate n0 0)⟩)
   refine rn5 ?_
   refine zF Z (fun h1 => ?_) (fun h1 => ?_)
   · have h1' : cc < n0 := by omega
     have hiA : cc < (qsC (List.replicate n0 0)).len := by show cc < (List.replicate n0 (0 : Rat)).length; rw [List.length_replicate]; exact h1'
     rw [show zEo n0 cc = (List.replicate n0 (0 : Rat)).set cc 1 by unfold zEo; rw [if_pos h1']] at fin
     generalize List.replicate n0 (0 : Rat) = A at *
     refine rn0 ?_
     refine zJ Z Z Z of_one ?_
     unfold qA
     repeat (refine zB (zV rfl rfl rfl (by assumption) (by rfl) (by first | (simp only [Nat.zero_add, Int.toNat_natCast, Int.toNat_zero]; exact rfl) | exact rfl) (by omega)) ?_)
     refine zU (c' := qsC (A.set cc 1)) Z Z Z f1 Z hiA (List.length_set ..) Z (fun i' j' hi' hj' => zGa 0 3 z7 A cc 1 hiA i' j' hi' hj') ?_
     refine zS (zd G none (N + 1) w k X d β (T ++ [some ⟨122, qsC (A.set cc 1)⟩])) (zCh _ _) ?_
     repeat (first | refine zD ?_ | refine zA ?_)
     exact fin _ ⟨Z, Z, Z, Z, trivial⟩
   · have h1' : ¬ cc < n0 := by omega
     rw [show zEo n0 cc = List.replicate n0 (0 : Rat) by unfold zEo; rw [if_neg h1']] at fin
     repeat (first | refine zA ?_ | refine zi ?_)
     exact fin _ ⟨Z, Z, Z, Z, trivial⟩
 have f2 := zA7 (G := G) (F := none) (L := N + 1) (w := w) (k := k) (X := X) (d := d) (β := β) (T := T ++ [some ⟨122, qsC (zBr n0 β (fun i => Rat.divInt (-(at2 X i cc)) d) (zEo n0 cc) 0)⟩])
 refine zAW (zd G none (N + 1) w k X d β (T ++ [some ⟨122, qsC (zBr n0 β (fun i => Rat.divInt (-(at2 X i cc)) d) (zEo n0 cc) 0)⟩])) Z ?_
 repeat (first | refine zB (zE rfl) ?_ | refine zD ?_ | refine zA ?_ | refine zR ?_ | refine zG rfl ?_ | refine zb ?_ | refine zB (zAR rfl rfl rfl) ?_ | refine zB (zT rfl) ?_ | refine zB (zI rfl rfl rfl rfl rfl rfl) ?_ | refine zB (zl rfl rfl rfl (by assumption) (by rfl)) ?_)
 refine zt (ι := Nat) (fun i => [(0, .ptr G.length 0 0), (1, .int .i64 (n0 : Nat)), (2, .int .i64 (cc : Nat)), (7, .sl (G.length + 4 + X.length + T.length) 0 n0), (33, .sl (G.length + 2) 0 β.length), (34, .int .i64 (β.length : Nat)), (35, .int .i64 (i : Nat))]) (fun i => zd G none (N + 1) w k X d β (T ++ [some ⟨122, qsC (zBr n0 β (fun i => Rat.divInt (-(at2 X i cc)) d) (zEo n0 cc) i)⟩]))
   (fun i => i ≤ β.length) (fun i => β.length - i) 0 ⟨⟨rfl, rfl, rfl, rfl, rfl, rfl, rfl, trivial⟩, rfl, Nat.zero_le _⟩ ?_
 clear f2
 intro i hi
 have hVl := zDW n0 β (fun i => Rat.divInt (-(at2 X i cc)) d) (zEo n0 cc) i
 rw [zGC] at hVl
 refine rn4 ?_
 refine zF Z (fun h => ?_) (fun h => ?_)
 · have hi' : i < β.length := by omega
   have hst : zBr n0 β (fun i => Rat.divInt (-(at2 X i cc)) d) (zEo n0 cc) (i + 1) = if β.getD i 0 < n0 then (zBr n0 β (fun i => Rat.divInt (-(at2 X i cc)) d) (zEo n0 cc) i).set (β.getD i 0) (Rat.divInt (-(at2 X i cc)) d) else zBr n0 β (fun i => Rat.divInt (-(at2 X i cc)) d) (zEo n0 cc) i := rfl
   generalize zBr n0 β (fun i => Rat.divInt (-(at2 X i cc)) d) (zEo n0 cc) i = V at *
   have f1 := zA7 (G := G) (F := none) (L := N + 1) (w := w) (k := k) (X := X) (d := d) (β := β) (T := T ++ [some ⟨122, qsC V⟩])
   have f2 := zFB (G := G) (F := none) (L := N + 1) (w := w) (k := k) (X := X) (d := d) (β := β) (T := T ++ [some ⟨122, qsC V⟩])
   have g2 : i < (β.map (fun a : Nat => (a : Int))).length := by rw [List.length_map]; exact hi'
   repeat (first | refine zB (zE rfl) ?_ | refine zB (zL rfl) ?_ | refine zD ?_ | refine zA ?_ | refine zR ?_ | refine zG rfl ?_ | refine zb ?_ | refine zi ?_ | refine zB (zCg rfl rfl) ?_ | refine zB (zV rfl rfl rfl (by assumption) (by rfl) (by first | (simp only [Nat.zero_add, Int.toNat_natCast, Int.toNat_zero]; exact rfl) | exact rfl) (by omega)) ?_ | refine zB (zCI rfl rfl rfl (by assumption) (by first | assumption | omega)) ?_)
   refine zF Z (fun h1 => ?_) (fun h1 => ?_)
   · rw [zAy] at h1
     have hb : β.getD i 0 < n0 := by omega
     rw [if_pos hb] at hst
     refine zAp 10 (.int .i64 (β.getD i 0 : Nat)) Z (AEq.of_eq (by rw [zAy])) ?_
     have lI : (X.getD i []).length = N + 1 := hL _ (zAt [] (by omega))
     have f3 := zCc (G := G) (F := none) (L := N + 1) (w := w) (k := k) (X := X) (d := d) (β := β) (T := T ++ [some ⟨122, qsC V⟩])
     have f4 := zCM (G := G) (F := none) (L := N + 1) (w := w) (k := k) (X := X) (d := d) (β := β) (T := T ++ [some ⟨122, qsC V⟩]) (a := i) (by omega)
     have f5 := zFe (G := G) (F := none) (L := N + 1) (w := w) (k := k) (X := X) (d := d) (β := β) (T := T) (some ⟨122, qsC V⟩)
     have g3 : i < (zBb G.length X.length (N + 1)).len := by show i < X.length; omega
     have g4 : cc < (zC (X.getD i [])).len := by show cc < (X.getD i []).length; omega
     have g5 : β.getD i 0 < (qsC V).len := by show _ < V.length; omega
     have hlT := hlen T
     have cq := q_ok G hG (N + 1) w k X d β (T ++ [some ⟨122, qsC V⟩]) (fun o ho => by
       rw [hlen]
       rcases List.mem_append.1 ho with q | q
       · exact hT _ (by omega) o q
       · cases List.mem_singleton.1 q; exact zJs V _) (-(at2 X i cc)) hd (by rw [Int.natAbs_neg]; exact hX i hi') hdl
     have co := zGu (at2 X i cc)
     repeat (first | refine zB (zE rfl) ?_ | refine zG rfl ?_ | refine zB (zT rfl) ?_ | refine zB (zI rfl rfl rfl rfl rfl rfl) ?_ | refine zB (zV rfl rfl rfl (by assumption) (by rfl) (by first | (simp only [Nat.zero_add, Int.toNat_natCast, Int.toNat_zero]; exact rfl) | exact rfl) (by omega)) ?_ | refine zB (zg rfl rfl rfl rfl (by assumption) (by rfl) (by rfl) (by first | exact Nat.zero_lt_one | assumption | omega)) ?_ | refine zB (zl rfl rfl rfl (by assumption) (by rfl)) ?_ | refine zB (zAm rfl rfl rfl (by assumption) rfl (by first | assumption | omega)) ?_)
     refine zH 55 (zA6 (at2 X i cc)) Z (AEq.of_eq Z) ?_
     refine zJ Z Z Z co ?_
     refine zCV Z Z Z cq (fun _ h => h) (fun _ h => h) ?_
     rintro r' H' ⟨rfl, rfl⟩
     repeat (refine zB (zV rfl rfl rfl (by assumption) (by rfl) (by first | (simp only [Nat.zero_add, Int.toNat_natCast, Int.toNat_zero]; exact rfl) | exact rfl) (by omega)) ?_)
     unfold qA
     refine zU (c' := qsC (V.set (β.getD i 0) (Rat.divInt (-(at2 X i cc)) d))) Z Z Z f5 Z g5 (List.length_set ..) Z (fun i' j' hi' hj' => zGa 0 3 z7 V (β.getD i 0) _ g5 i' j' hi' hj') ?_
     refine zS (zd G none (N + 1) w k X d β (T ++ [some ⟨122, qsC (V.set (β.getD i 0) (Rat.divInt (-(at2 X i cc)) d))⟩])) (zCh _ _) ?_
     refine rn5 ?_
     exact zQ ⟨i + 1, by omega, by omega, ⟨Z, Z, Z, Z, Z, Z, Z, trivial⟩, by rw [hst]⟩
   · rw [zAy] at h1
     rw [if_neg (by omega)] at hst
     refine rn5 ?_
     exact zQ ⟨i + 1, by omega, by omega, ⟨Z, Z, Z, Z, Z, Z, Z, trivial⟩, by rw [hst]⟩
 have hie : i = β.length := by omega
 subst hie
 repeat (first | refine zA ?_ | refine zAg ?_ | refine zw ?_ | refine zv ?_ | refine zAD ?_)
 generalize zBr n0 β (fun i => Rat.divInt (-(at2 X i cc)) d) (zEo n0 cc) β.length = V at *
 have f5 := zFe (G := G) (F := none) (L := N + 1) (w := w) (k := k) (X := X) (d := d) (β := β) (T := T) (some ⟨122, qsC V⟩)
 refine zBM (G.length + 4 + X.length + T.length) 7 n0 [] f5 (zBm _) Z (by show n0 ≤ V.length; omega) trivial ?_
 refine zAW (zd G none (N + 1) w k X d β T ++ [none]) (by rw [zCh, zAj]) ?_
 refine zBi (zd G none (N + 1) w k X d β T) [none] [(7, .ro (qsC V) 0 n0)] rfl ⟨rfl, trivial⟩ (fun h hh => by rw [hfix] at hh; exact hh) (zCC hG _ (by rw [hlen]; omega) (fun o ho => by cases ho) (hT _ (by rw [hlen]; omega))) rfl ?_
 refine rn0 ?_
 exact zO hR Z ⟨Z, Z⟩
end Go.Proofs.YtnkealfaldjipaaGreatDoor
namespace Go.Ax.Sx
open Go.Ax.Dt Go.Ax.Rt Go.Ax.Bg
theorem last0 (p : Prog) (s : St) : chg (fun q => -((zA4 p.C).getD q 0) * s.den) 0 (List.replicate (p.N + 1) 0) p.n = zC9 (zBX p) p.N s 0 := by
 have hw := zFJ p
 refine zCw (n := p.N + 1) (by rw [zCd]; simp) (zGt ..) (fun j hj => ?_)
 rw [zCz _ _ _ (by simpa using hj), zGd hj]
 show _ = s.den * zBX p j - 0
 unfold zBX
 by_cases h : j < p.n
 · rw [if_pos h, if_pos h, Int.sub_zero, Int.mul_comm]
 · rw [if_neg h, if_neg h, Int.mul_zero, Int.sub_zero]
   simp [List.getD, hj]
theorem zON {p : Prog} {k : Nat} (hk : p.Dig k) (j : Nat) : (zBX p j).natAbs ≤ 10 ^ p.E k := by
 unfold zBX
 split
 · rename_i h
   rw [Int.natAbs_neg]; exact zID hk h
 · exact Nat.zero_le _
theorem zPB {p : Prog} {k E : Nat} {s : St} {i j : Nat} (hk : p.Dig k) (hi : i ≤ 98) (h : ∀ q, q < i → (at2 s.rows q j).natAbs ≤ 10 ^ E) (hd : s.den.natAbs ≤ 10 ^ E) (hj : j < p.N + 1) : ((zC9 (zBX p) p.N s i).getD j 0).natAbs ≤ 10 ^ (p.E k + E + 2) := by
 rw [zGd hj]
 have h1 := zJ6 (B := 10 ^ (p.E k + E)) (n := i) (f := fun q => zBX p (s.basis.getD q 0) * at2 s.rows q j) (fun q hq => by
   show (zBX p (s.basis.getD q 0) * at2 s.rows q j).natAbs ≤ _
   rw [Int.natAbs_mul, Nat.pow_add]
   exact Nat.mul_le_mul (zON hk _) (h q hq))
 have h2 : (s.den * zBX p j).natAbs ≤ 10 ^ (p.E k + E) := by
   rw [Int.natAbs_mul, Nat.pow_add, Nat.mul_comm]
   exact Nat.mul_le_mul (zON hk _) hd
 have h3 := Int.natAbs_sub_le (s.den * zBX p j) (zAG (fun q => zBX p (s.basis.getD q 0) * at2 s.rows q j) i)
 have h4 : i * 10 ^ (p.E k + E) ≤ 98 * 10 ^ (p.E k + E) := Nat.mul_le_mul_right _ hi
 rw [Nat.pow_add]
 generalize 10 ^ (p.E k + E) = B at *
 omega
theorem zPf {p : Prog} {j : Nat} (h : ¬ (j < p.n ∧ (zA4 p.C).getD j 0 ≠ 0)) : zBX p j = 0 := by
 unfold zBX
 split
 · rename_i h1
   have : (zA4 p.C).getD j 0 = 0 := Decidable.byContradiction (fun q => h ⟨h1, q⟩)
   rw [this]; rfl
 · rfl
theorem cosK_neg {p : Prog} {j : Nat} (h : j < p.n) : -(zBX p j) = (zA4 p.C).getD j 0 := by
 unfold zBX
 rw [if_pos h, Int.neg_neg]
theorem yL_as (p : Prog) (s : St) (d : Int) : yL p s d = (List.range p.m).map (fun i => ((List.range p.m).map (fun i => Rat.divInt (at2 s.rows p.m (p.n + i)) d)).getD i 0 * (((((List.range p.m).map p.fac).getD i 0 : Nat)) : Rat)) := by
 unfold yL
 refine List.map_congr_left (fun i hi => ?_)
 have hi : i < p.m := by simpa using hi
 rw [show ((List.range p.m).map (fun i => Rat.divInt (at2 s.rows p.m (p.n + i)) d)).getD i 0 = Rat.divInt (at2 s.rows p.m (p.n + i)) d from zDq hi, show ((List.range p.m).map p.fac).getD i 0 = p.fac i from zDq hi]
theorem zPb {p : Prog} {K L : Nat} (h : 0 < p.a ∧ at2 (zCB p K).rows p.m p.N < 0) : zA8 p K L = ⟨1, [], yL p (zCB p K) (zCB p K).den, [], 0⟩ := by unfold zA8; rw [if_pos h]
theorem zPP {p : Prog} {K L : Nat} (h : ¬ (0 < p.a ∧ at2 (zCB p K).rows p.m p.N < 0)) (h2 : zCR p.m (p.n + p.m) (zDl p K L) < p.n + p.m) : zA8 p K L = ⟨2, zBd p (zDl p K L), [], zGw p (zDl p K L) (zCR p.m (p.n + p.m) (zDl p K L)), 0⟩ := by unfold zA8; rw [if_neg h, if_pos h2]
theorem zOn {p : Prog} {K L : Nat} (h : ¬ (0 < p.a ∧ at2 (zCB p K).rows p.m p.N < 0)) (h2 : ¬ zCR p.m (p.n + p.m) (zDl p K L) < p.n + p.m) : zA8 p K L = ⟨0, zBd p (zDl p K L), yL p (zDl p K L) ((zDl p K L).den * (p.fc : Nat)), [], Rat.divInt (at2 (zDl p K L).rows p.m p.N) ((zDl p K L).den * (p.fc : Nat))⟩ := by unfold zA8; rw [if_neg h, if_neg h2]
theorem col_le (p : Prog) (s : St) : zCR p.m (p.n + p.m) s ≤ p.n + p.m := Nat.le_trans (zEa s.rows p.m (p.n + p.m) 0).2.1 (by omega)
end Go.Ax.Sx
namespace Go.Proofs.YtnkealfaldjipaaGreatDoor
open Go.Ax Go.Ax.Bg Go.Ax.Rt Go.RowKit Go.Ax.Dt Go.Ax.Sx
attribute [local irreducible] Ax zBR QOp zY zBK
set_option maxRecDepth 100000
set_option maxHeartbeats 40000000
/-- the result of the program -/
def zJ7 (r : Res) : AV := .agg ([.int .i64 (r.kind : Nat), if r.kind = 1 then .nil else .ro (qsC r.X) 0 r.X.length, if r.kind = 2 then .nil else .ro (qsC r.Y) 0 r.Y.length, if r.kind = 2 then .ro (qsC r.R) 0 r.R.length else .nil] ++ (if r.kind = 0 then z7 r.V else [.bool false, .nil, .nil]))
theorem zNU (r : Res) : noRef (zJ7 r) = true := by
 obtain ⟨k, X, Y, R, V⟩ := r
 by_cases h0 : k = 0
 · subst h0; rfl
 · by_cases h1 : k = 1
   · subst h1; rfl
   · by_cases h2 : k = 2
     · subst h2; rfl
     · show noRef (.agg ([_, if k = 1 then _ else _, if k = 2 then _ else _, if k = 2 then _ else _] ++ (if k = 0 then _ else _))) = true
       rw [if_neg h0, if_neg h1, if_neg h2, if_neg h2]; rfl
theorem intA_nat (n : Nat) : zA6 ((n : Nat) : Int) = .agg [.bool false, zj n] := by
 unfold zA6
 rw [Int.natAbs_natCast, decide_eq_false (by omega)]
theorem zJf (s : Nat) (t : TypeId) : ∀ X : Tab, zC1 s (zCH t zC X) = zCH t zC X
 | [] => rfl
 | a :: r => by
   show some ⟨t, (zC a).shift s⟩ :: zC1 s (zCH t zC r) = some ⟨t, zC a⟩ :: zCH t zC r
   rw [zGo, zJf s t r]
theorem zM8 (b n L s : Nat) : (zBb b n L).shift s = zBb (s + b) n L := by
 show Cells.fn _ _ _ = Cells.fn _ _ _
 congr 1
 funext i j
 show AV.sl (b + 4 + i + s) 0 L = AV.sl (s + b + 4 + i) 0 L
 rw [show b + 4 + i + s = s + b + 4 + i by omega]
theorem tb_shift (A B : Option AObj) (L w k : Nat) (X : Tab) (d : Int) (β : List Nat) : [A, B] ++ zC1 2 (zd [none, none] none L w k X d β []) = zd [A, B, none, none] none L w k X d β [] := by
 show A :: B :: none :: none :: some (⟨253, zDj 4 k β.length w d⟩ : AObj) :: none :: some (⟨3, zBs β⟩ : AObj) :: some (⟨248, (zBb 2 X.length L).shift 2⟩ : AObj) :: zC1 2 (zCH 120 zC X ++ []) = _
 rw [List.append_nil, zJf, zM8]
 show _ = A :: B :: none :: none :: some (⟨253, zDj 4 k β.length w d⟩ : AObj) :: none :: some (⟨3, zBs β⟩ : AObj) :: some (⟨248, zBb 4 X.length L⟩ : AObj) :: (zCH 120 zC X ++ [])
 rw [List.append_nil]
theorem zNR {H : zN} {x : Option AObj} {h : Nat} {o : Option AObj} (hh : H[h]? = some o) : (H.set h x)[h]? = some x := List.getElem?_set_self (List.getElem?_eq_some_iff.1 hh).1
theorem Run_ok (p : Prog) (k K L : Nat) (hp : p.Ok) (hk : p.Dig k) (hm : p.m ≤ 30) (hn : p.n ≤ 30) (hk40 : k ≤ 100) (hs : Stops p K L) :
   zZ Tryz.prog 118 [.agg [.ro (zq p.A) 0 p.A.length, .ro (qsC p.B) 0 p.B.length, .ro (qsC p.C) 0 p.C.length]] (zJ7 (zA8 p K L)) := by
 have hNe : p.N = p.n + p.m + p.a := rfl
 have hal : p.a ≤ p.m := zJM p.B p.B.length
 have hE : p.E k ≤ 3200 := by
   unfold Prog.E
   have : k * (p.n + 1) ≤ 100 * 31 := Nat.mul_le_mul hk40 (by omega)
   omega
 have hT : p.T k ≤ 99262 := by
   unfold Prog.T
   exact Nat.mul_le_mul (show p.E k + 2 ≤ 3202 by omega) (show p.m + 1 ≤ 31 by omega)
 have hET : p.E k ≤ p.T k := by
   unfold Prog.T
   have : (p.E k + 2) * 1 ≤ (p.E k + 2) * (p.m + 1) := Nat.mul_le_mul_left _ (by omega)
   omega
 have cst := zY.many (start_ok p p.N k hp hk hNe (show p.m ≤ 40 by omega) (show p.n ≤ 40 by omega) (by omega)) (fun _ h => h) rfl
 have hph1 : (⟨zBE p ++ [zBU (p.n + p.m) p.a p.N ⟨zBE p, 1, zBV p⟩ p.m p.a], 1, zBV p⟩ : St) = ph1 p := by
   have e : zBU (p.n + p.m) p.a p.N ⟨zBE p, 1, zBV p⟩ p.m p.a = zGi (zCy p) p.m p.N (zAZ p) := by
     rw [← zIL p, zM1]; exact zM7 p p.a rfl
   rw [e, ← ph1_rows]; rfl
 have htk : (zAZ p).rows.take p.m = zBE p := congrArg St.rows (zIL p)
 have hcf : ∀ (G : zN), OkG G → (∀ h, G.length ≤ h → zo h G = G) → 0 < p.a → _ := fun G hG hFG ha => zLf G hG hFG p.n p.m p.a p.N (zBE p) (zBV p) (M1 p) K (p.T k) hNe (by omega) (by omega) (zCS p) (zFk p) (fun x hx => (zEW p).row x (List.mem_append_left _ hx))
   (fun i j hi hj => by rw [← htk, zDw hi]; exact Nat.le_trans (zKt hp hk hi hj) (Nat.pow_le_pow_right (by decide) hET)) (by omega) (by rw [hph1]; exact zLZ p) (by rw [hph1]; exact zJA p hp) (by rw [hph1]; exact hs.one ha)
   (fun t ht => zEO ht (by omega) (zNg hp hk)) (fun t ht hf h0 i hi hb => (zGs ht hf).2 (by have := (zGs ht hf).1; omega) i hi hb)
 rw [hph1] at hcf
 refine zY.value0 (zK (P := Tryz.prog) (fn := Tryz.f118) Z Z (by kernel_rfl) Z (fun c hR hfix => ?_)) (fix := fun _ => False) (fun _ h => h) Z (zNU _)
 refine rn6 ?_
 refine zx (by kernel_rfl) ?_
 refine z8 (fuel := 0) [0, 1, 2, 3, 4, 5, 6, 7] [(1, .ptr 0 0 0), (2, .ptr 1 0 0)] ⟨Z, Z, trivial⟩ (by kernel_rfl) (by decide) Z Z ?_
 refine zM Z Z (zI Z Z Z Z Z Z) ?_
 refine zM Z Z (zP Z Z Z Z Z) ?_
 refine zM Z Z (zAR Z Z Z) ?_
 refine zM Z Z (zI Z Z Z Z Z Z) ?_
 refine zM Z Z (zP Z Z Z Z Z) ?_
 refine zM Z Z (zAR Z Z Z) ?_
 refine zM Z Z (zL Z) ?_
 refine zM Z Z (zL Z) ?_
 refine zAC ?_
 refine zf (by kernel_rfl) ?_
 refine rn6 ?_
 refine zH 29 (.agg [.ro (zq p.A) 0 p.A.length, .ro (qsC p.B) 0 p.B.length, .ro (qsC p.C) 0 p.C.length]) Z (AEq.of_eq Z) ?_
 refine zHc (.tup [.ptr 4 0 0, .ro (nsC ((List.range p.m).map p.fac)) 0 p.m, .int .i64 (p.a : Nat)]) (zd [some ⟨188, .box [.ro (zq p.A) 0 p.A.length, .ro (qsC p.B) 0 p.B.length, .ro (qsC p.C) 0 p.C.length]⟩, some ⟨185, .box [.int .i64 0, .nil, .nil, .nil, .bool false, .nil, .nil]⟩, none, none] none (p.N + 1) (p.n + p.m) p.m (zBE p) 1 (zBV p) []) Z Z Z cst Z (tb_shift _ _ _ _ _ _ _ _) ?_
 generalize hGG : ([some ⟨188, .box [.ro (zq p.A) 0 p.A.length, .ro (qsC p.B) 0 p.B.length, .ro (qsC p.C) 0 p.C.length]⟩, some ⟨185, .box [.int .i64 0, .nil, .nil, .nil, .bool false, .nil, .nil]⟩, none, none] : zN) = G
 have hG4 : G.length = 4 := by subst hGG; rfl
 have hG : OkG G := by
   rw [← hGG]
   intro m hm o ho
   simp only [List.mem_cons, List.mem_nil_iff, or_false] at ho
   rcases ho with e | e | e | e
   · cases e; exact zHD p _
   · cases e
     intro i j hi hj
     obtain rfl := Nat.lt_one_iff.1 (show i < 1 from hi)
     match j, (show j < 7 from hj) with
     | 0, _ => rfl
     | 1, _ => rfl
     | 2, _ => rfl
     | 3, _ => rfl
     | 4, _ => rfl
     | 5, _ => rfl
     | 6, _ => rfl
   · cases e
   · cases e
 have hFG : ∀ h, zo h G = G := fun h => by subst hGG; rfl
 have hg0 : ∀ kk X d β T, (zd G none (p.N + 1) (p.n + p.m) kk X d β T)[0]? = some (some ⟨188, .box [.ro (zq p.A) 0 p.A.length, .ro (qsC p.B) 0 p.B.length, .ro (qsC p.C) 0 p.C.length]⟩) := fun kk X d β T => by subst hGG; rfl
 have hg1 : ∀ kk X d β T, (zd G none (p.N + 1) (p.n + p.m) kk X d β T)[1]? = some (some ⟨185, .box [.int .i64 0, .nil, .nil, .nil, .bool false, .nil, .nil]⟩) := fun kk X d β T => by subst hGG; rfl
 refine zH 30 (.tup [.ptr G.length 0 0, .ro (nsC ((List.range p.m).map p.fac)) 0 p.m, .int .i64 (p.a : Nat)]) Z (AEq.of_eq (by rw [hG4])) ?_
 have hcf := hcf G hG (fun h _ => hFG h)
 have hslen : (zd G none (p.N + 1) (p.n + p.m) p.m (zBE p) 1 (zBV p) []).length = G.length + 4 + p.m := by rw [zBC, zCS]; rfl
 have hfl : ((List.range p.m).map p.fac).length = p.m := by simp
 clear cst
 by_cases hneg : 0 < p.a ∧ at2 (zCB p K).rows p.m p.N < 0
 · rw [zPb hneg] at hR
   have cf := hcf hneg.1
   obtain ⟨o1, o2⟩ := zEV p hp K
   obtain ⟨b1, b2⟩ := zEO o1 (by omega) (zNg hp hk)
   have hD := o1.dp
   obtain ⟨KK, hKK⟩ : ∃ KK, KK = 99300 := ⟨_, rfl⟩
   have cu := zJZ ((List.range p.m).map (fun i => Rat.divInt (at2 (zCB p K).rows p.m (p.n + i)) (zCB p K).den)) ((List.range p.m).map p.fac) KK (by simp) (by simp; omega) (fun q hq => by
     obtain ⟨i, hi, rfl⟩ := List.mem_map.1 hq
     have hi : i < p.m := by simpa using hi
     exact (zGM (by omega) (zDG (b1 p.m (p.n + i) (by omega) (by omega))) (zDG b2)).mono (by omega)) (fun q hq => by
     obtain ⟨i, hi, rfl⟩ := List.mem_map.1 hq
     have hi : i < p.m := by simpa using hi
     refine Nat.lt_of_lt_of_le (zDG (zM2 hp hk hi)) (Nat.pow_le_pow_right (by decide) ?_)
     have : k * (p.n + 1) ≤ 100 * 31 := Nat.mul_le_mul hk40 (by omega)
     omega) (by omega)
   rw [show ((List.range p.m).map (fun i => Rat.divInt (at2 (zCB p K).rows p.m (p.n + i)) (zCB p K).den)).length = p.m by simp, hfl] at cu
   have hy : zIB ((List.range p.m).map (fun i => Rat.divInt (at2 (zCB p K).rows p.m (p.n + i)) (zCB p K).den)) ((List.range p.m).map p.fac) p.m = yL p (zCB p K) (zCB p K).den := (yL_as p (zCB p K) (zCB p K).den).symm
   rw [hy] at cu
   have hyl : (yL p (zCB p K) (zCB p K).den).length = p.m := by simp [yL]
   refine rn6 ?_
   refine zF Z (fun _ => ?_) (fun hx => absurd hneg.1 (by omega))
   refine rn0 ?_
   refine zMo (G.length + 3) Z Z Z cf (fun h q1 q2 => ⟨q1, q2⟩) (fun h q => q.1) (by rw [hfix]; exact fun h => h) ?_
   intro r' H' hr'
   rcases hr' with ⟨h1, rfl, rfl⟩ | ⟨h1, rfl, rfl⟩
   · refine ⟨by rw [hslen, zBC, show (zAo p.m p.N (p.n + p.m) (ph1 p) K).rows.length = p.m + 1 from o1.n]; omega, ?_⟩
     refine zBl ((41, .tup [.ro (qsC ((List.range p.m).map (fun i => Rat.divInt (at2 (zCB p K).rows p.m (p.n + i)) (zCB p K).den))) 0 p.m, .bool false]) :: [(1, .ptr 0 0 0), (2, .ptr 1 0 0), (3, .int .i64 (p.n : Nat)), (4, .int .i64 (p.m : Nat)), (5, .ptr G.length 0 0), (6, .ro (nsC ((List.range p.m).map p.fac)) 0 p.m), (7, .int .i64 (p.a : Nat))]) ⟨Z, zA1 (h := G.length + 3) (L := [(1, .ptr 0 0 0), (2, .ptr 1 0 0), (3, .int .i64 (p.n : Nat)), (4, .int .i64 (p.m : Nat)), (5, .ptr G.length 0 0), (6, .ro (nsC ((List.range p.m).map p.fac)) 0 p.m), (7, .int .i64 (p.a : Nat))]) ⟨Z, Z, Z, Z, Z, Z, Z, trivial⟩ (by
     intro q hq
     simp only [List.mem_cons, List.mem_nil_iff, or_false] at hq
     rcases hq with rfl | rfl | rfl | rfl | rfl | rfl | rfl <;> simp [AV.forget, zj, zAB (show G.length ≠ G.length + 3 by omega), zAB (show 0 ≠ G.length + 3 by omega), zAB (show 1 ≠ G.length + 3 by omega)])⟩ ?_
     refine rn5 ?_
     refine zJ Z Z Z cu ?_
     repeat (refine zB (zAY rfl rfl rfl rfl rfl rfl) ?_)
     refine zU (c' := .box [.int .i64 1, .nil, .ro (qsC (yL p (zCB p K) (zCB p K).den)) 0 p.m, .nil, .bool false, .nil, .nil]) Z Z Z (hg1 _ _ _ _ _) Z Nat.zero_lt_one Z Z (fun i' j' hi' hj' => ?_) ?_
     · rw [if_pos (Nat.lt_one_iff.1 hi')]; rfl
     refine rn2 ?_
     refine zO hR (zF1 Z (zNR (hg1 _ _ _ _ _)) Z Z Z) ?_
     show AV.agg _ = zJ7 _
     unfold zJ7
     simp only [hyl]
     rfl
   · exact absurd hneg.2 h1
 have h0 := zHo hp hneg
 have hph := zJl p hp K h0
 obtain ⟨b1, b2⟩ := zEO hph.1 (by omega) (zGZ hp hk)
 have hrows := ph2_rows p K
 have hXl : (Sx.cutS p.m (mid p K)).rows.length = p.m := by
   have e := hph.1.n
   rw [hrows, List.length_append] at e
   exact Nat.succ.inj e
 have hXr : ∀ x ∈ (Sx.cutS p.m (mid p K)).rows, x.length = p.N + 1 := fun x hx => hph.1.row x (by rw [hrows]; exact List.mem_append_left _ hx)
 have hXb : ∀ i j, i < p.m → j < p.N + 1 → (at2 (Sx.cutS p.m (mid p K)).rows i j).natAbs ≤ 10 ^ p.T k := fun i j hi hj => by
   have e : at2 (ph2 p K).rows i j = at2 (Sx.cutS p.m (mid p K)).rows i j := by
     unfold at2
     rw [hrows, zIs [] (by rw [hXl]; exact hi)]
   rw [← e]; exact b1 i j (by omega) hj
 have hβl : (mid p K).basis.length = p.m := hph.1.b
 have hdb : (mid p K).den.natAbs ≤ 10 ^ p.T k := b2
 have hlast : (ph2 p K) = ⟨(Sx.cutS p.m (mid p K)).rows ++ [zC9 (zBX p) p.N (Sx.cutS p.m (mid p K)) p.m], (mid p K).den, (mid p K).basis⟩ := by
   rw [zO2 (Nat.le_refl _), ← hrows]; rfl
 have hl0 := last0 p (Sx.cutS p.m (mid p K))
 have hcab := fun i j (hi : i ≤ p.m) (hj : j < p.N + 1) => zPB (p := p) (k := k) (E := p.T k) (s := Sx.cutS p.m (mid p K)) (i := i) (j := j) hk (by omega) (fun q hq => hXb q j (by omega) hj) hdb hj
 apply zAP (H := stH G p.N (p.n + p.m) p.m (Sx.cutS p.m (mid p K))) [(1, .ptr 0 0 0), (2, .ptr 1 0 0), (3, .int .i64 (p.n : Nat)), (4, .int .i64 (p.m : Nat)), (5, .ptr G.length 0 0), (6, .ro (nsC ((List.range p.m).map p.fac)) 0 p.m), (7, .int .i64 (p.a : Nat))]
 · intro fin
   by_cases ha : 0 < p.a
   · have cf := hcf ha
     rw [zLc p hp K (by omega)] at fin
     refine rn6 ?_
     refine zF Z (fun _ => ?_) (fun hx => absurd ha (by omega))
     refine rn0 ?_
     refine zMo (G.length + 3) Z Z Z cf (fun h q1 q2 => ⟨q1, q2⟩) (fun h q => q.1) (by rw [hfix]; exact fun h => h) ?_
     intro r' H' hr'
     rcases hr' with ⟨h1, rfl, rfl⟩ | ⟨h1, rfl, rfl⟩
     · exact absurd ⟨ha, h1⟩ hneg
     · have hdl : (zBP (p.n + p.m) (Sx.cutS p.m (zAo p.m p.N (p.n + p.m) (ph1 p) K)) p.m).rows.length = p.m := by
         rw [zLc p hp K (by omega)] at hXl; exact hXl
       refine ⟨by rw [hslen, zBC, hdl]; omega, ?_⟩
       refine zBl ((41, .tup [.nil, .bool true]) :: [(1, .ptr 0 0 0), (2, .ptr 1 0 0), (3, .int .i64 (p.n : Nat)), (4, .int .i64 (p.m : Nat)), (5, .ptr G.length 0 0), (6, .ro (nsC ((List.range p.m).map p.fac)) 0 p.m), (7, .int .i64 (p.a : Nat))]) ⟨Z, zA1 (h := G.length + 3) (L := [(1, .ptr 0 0 0), (2, .ptr 1 0 0), (3, .int .i64 (p.n : Nat)), (4, .int .i64 (p.m : Nat)), (5, .ptr G.length 0 0), (6, .ro (nsC ((List.range p.m).map p.fac)) 0 p.m), (7, .int .i64 (p.a : Nat))]) ⟨Z, Z, Z, Z, Z, Z, Z, trivial⟩ (by
     intro q hq
     simp only [List.mem_cons, List.mem_nil_iff, or_false] at hq
     rcases hq with rfl | rfl | rfl | rfl | rfl | rfl | rfl <;> simp [AV.forget, zj, zAB (show G.length ≠ G.length + 3 by omega), zAB (show 0 ≠ G.length + 3 by omega), zAB (show 1 ≠ G.length + 3 by omega)])⟩ ?_
       repeat (first | refine zB (zE rfl) ?_ | refine zB (zL rfl) ?_ | refine zD ?_ | refine zA ?_ | refine zB (zBG rfl rfl) ?_)
       refine zR ?_
       refine zG Z ?_
       repeat (first | refine zB (zE rfl) ?_ | refine zD ?_ | refine zA ?_ | refine zr rfl ?_ | refine zi ?_ | refine zB (zE2 rfl) ?_)
       exact fin _ ⟨Z, Z, Z, Z, Z, Z, Z, trivial⟩
   · have ha0 : p.a = 0 := by omega
     rw [mid_cut0 p K ha0] at fin
     repeat (first | refine zB (zE rfl) ?_ | refine zB (zL rfl) ?_ | refine zD ?_ | refine zA ?_ | refine zB (zBG rfl rfl) ?_)
     refine zR ?_
     refine zR ?_
     refine zG Z ?_
     repeat (first | refine zB (zE rfl) ?_ | refine zD ?_ | refine zA ?_ | refine zB (zIj rfl rfl) ?_)
     refine zF Z (fun hx => absurd hx (by omega)) (fun _ => ?_)
     repeat (first | refine zA ?_ | refine zi ?_)
     exact fin _ ⟨Z, Z, Z, Z, Z, Z, Z, trivial⟩
 generalize hX : (Sx.cutS p.m (mid p K)).rows = X at *
 have hde : (Sx.cutS p.m (mid p K)).den = (mid p K).den := rfl
 have hbe : (Sx.cutS p.m (mid p K)).basis = (mid p K).basis := rfl
 have hme : Sx.cutS p.m (mid p K) = ⟨X, (mid p K).den, (mid p K).basis⟩ := by rw [← hX]; rfl
 rw [hme] at hlast hl0 hcab
 generalize (mid p K).den = d at *
 generalize (mid p K).basis = β at *
 have hstE : stH G p.N (p.n + p.m) p.m (Sx.cutS p.m (mid p K)) = zd G none (p.N + 1) (p.n + p.m) p.m X d β [] := by rw [hme]
 refine zAW (zd G none (p.N + 1) (p.n + p.m) p.m X d β []) hstE ?_
 clear hcf hph1 hslen hX hde hbe hme hstE hrows b1 b2
 have cWC := zLu p.C k hk.c (show p.n ≤ 1000 by omega) (by show k * p.n + k ≤ _; have : k * p.n ≤ 100 * 30 := Nat.mul_le_mul hk40 hn; omega)
 have hlen : ∀ T, (zd G none (p.N + 1) (p.n + p.m) p.m X d β T).length = G.length + 4 + p.m + T.length := fun T => by rw [zBC, hXl]
 have gC := hg0 p.m X d β []
 repeat (first | refine zR ?_ | refine zG rfl ?_ | refine zB (zI rfl rfl rfl rfl rfl rfl) ?_ | refine zB (zl rfl rfl rfl (by assumption) (by rfl)) ?_)
 refine zHc (.tup [.sl (G.length + 4 + p.m) 0 p.n, zj p.fc]) (zd G none (p.N + 1) (p.n + p.m) p.m X d β [some ⟨120, zC (zA4 p.C)⟩]) Z Z Z cWC (by rw [hlen]; show AV.tup [AV.sl (0 + (G.length + 4 + p.m)) 0 _, _] = _; rw [Nat.zero_add]; rfl) (by show _ ++ [some (⟨_, (zC _).shift _⟩ : AObj)] = _; rw [zGo, zAj]; rfl) ?_
 have hWl : (zA4 p.C).length = p.n := zFx _
 have hWb : ∀ j, j < p.n → ((zA4 p.C).getD j 0).natAbs ≤ 10 ^ p.E k := fun j hj => zID hk hj
 have hcs : ∀ j, j < p.n → -(zBX p j) = (zA4 p.C).getD j 0 := fun j hj => cosK_neg hj
 have hcz : ∀ j, ¬ (j < p.n ∧ (zA4 p.C).getD j 0 ≠ 0) → zBX p j = 0 := fun j hj => zPf hj
 generalize zA4 p.C = WC at *
 clear gC cWC
 refine rn3 ?_
 refine zH 61 (.int .i64 ((p.N + 1 : Nat))) Z (AEq.of_eq (by show AV.int _ _ = AV.int _ _; congr 1)) ?_
 refine zCr Z Z Z Z Z Z Z Z (by show (0 : Int) ≤ _ ∧ _ ≤ _ ∧ (32 : Int) * _ ≤ _ ∧ _; omega) ?_
 refine zF0 (zd G none (p.N + 1) (p.n + p.m) p.m X d β [some ⟨120, zC WC⟩] ++ [some ⟨120, zC (List.replicate (p.N + 1) 0)⟩]) (by simp only [List.length_append, List.length_cons, List.length_nil]) zHP ?_
 refine zS (zd G none (p.N + 1) (p.n + p.m) p.m X d β [some ⟨120, zC WC⟩, some ⟨120, zC (chg (fun q => -(WC.getD q 0) * d) 0 (List.replicate (p.N + 1) 0) 0)⟩]) (by rw [zAj, zC5]; rfl) ?_
 refine zH 62 (.sl (G.length + 4 + p.m + 1) 0 (p.N + 1)) Z (AEq.of_eq (by rw [hlen]; rfl)) ?_
 have hdD : ∀ x : Int, ∀ e, e ≤ 3599990 → x.natAbs ≤ 10 ^ e → (zX x.natAbs).length ≤ 400001 := fun x e he hx => zE1 hx (by omega)
 refine rn3 ?_
 refine zt (ι := Nat) (fun j => [(1, .ptr 0 0 0), (2, .ptr 1 0 0), (3, .int .i64 (p.n : Nat)), (4, .int .i64 (p.m : Nat)), (5, .ptr G.length 0 0), (6, .ro (nsC ((List.range p.m).map p.fac)) 0 p.m), (7, .int .i64 (p.a : Nat)), (10, .sl (G.length + 4 + p.m) 0 p.n), (11, zj p.fc), (12, .sl (G.length + 4 + p.m + 1) 0 (p.N + 1)), (63, .sl (G.length + 4 + p.m) 0 p.n), (64, .int .i64 (p.n : Nat)), (65, .int .i64 (j : Nat))]) (fun j => zd G none (p.N + 1) (p.n + p.m) p.m X d β [some ⟨120, zC WC⟩, some ⟨120, zC (chg (fun q => -(WC.getD q 0) * d) 0 (List.replicate (p.N + 1) 0) j)⟩]) (fun j => j ≤ p.n) (fun j => p.n - j) 0 ⟨⟨Z, Z, Z, Z, Z, Z, Z, Z, Z, Z, Z, Z, Z, trivial⟩, Z, Nat.zero_le _⟩ ?_
 intro j hj
 refine rn4 ?_
 refine zF Z (fun h => ?_) (fun h => ?_)
 · have hj' : j < p.n := by omega
   have hgj := zCz (fun q => -(WC.getD q 0) * d) 0 (List.replicate (p.N + 1) 0) (k := j) (i := j) (by simp; omega)
   have hsj := zDh (fun q => -(WC.getD q 0) * d) 0 (List.replicate (p.N + 1) 0) (k := j) (by simp; omega)
   have hlj := zCd (fun q => -(WC.getD q 0) * d) 0 (List.replicate (p.N + 1) 0) j
   rw [List.length_replicate] at hlj
   generalize hYY : chg (fun q => -(WC.getD q 0) * d) 0 (List.replicate (p.N + 1) 0) j = Y at *
   have q0 := zAk (G := G) (F := none) (L := p.N + 1) (w := p.n + p.m) (k := p.m) (X := X) (d := d) (β := β) (T := [some ⟨120, zC WC⟩, some ⟨120, zC Y⟩]) 0
   rw [hXl, Nat.add_zero] at q0
   have g0 : j < (zC WC).len := by show j < WC.length; omega
   repeat (first | refine zB (zE rfl) ?_ | refine zB (zL rfl) ?_ | refine zA ?_ | refine zR ?_ | refine zG rfl ?_ | refine zb ?_ | refine zi ?_ | refine zB (zV rfl rfl rfl (by assumption) (by rfl) (by first | (simp only [Nat.zero_add, Int.toNat_natCast, Int.toNat_zero]; exact rfl) | exact rfl) (by omega)) ?_ | refine zB (zg rfl rfl rfl rfl (by assumption) (by rfl) (by rfl) (by first | exact Nat.zero_lt_one | assumption | omega)) ?_ | refine zAe rfl rfl rfl ?_)
   refine zS (zd G none (p.N + 1) (p.n + p.m) p.m X d β [some ⟨120, zC WC⟩, some ⟨120, zC Y⟩, some ⟨120, .box [.bool false, .nil]⟩]) (by rw [zAj]; rfl) ?_
   refine zH 14 (.ptr (G.length + 4 + p.m + 2) 0 0) Z (AEq.of_eq (by rw [hlen]; rfl)) ?_
   refine zH 69 (zA6 (WC.getD j 0)) Z (AEq.of_eq Z) ?_
   have q2 := zAk (G := G) (F := none) (L := p.N + 1) (w := p.n + p.m) (k := p.m) (X := X) (d := d) (β := β) (T := [some ⟨120, zC WC⟩, some ⟨120, zC Y⟩, some ⟨120, .box [.bool false, .nil]⟩]) 2
   rw [hXl] at q2
   refine zU (c' := .box (zm (WC.getD j 0))) Z Z Z q2 Z Nat.zero_lt_one Z Z (fun i' j' hi' hj' => ?_) ?_
   · rw [if_pos (Nat.lt_one_iff.1 hi')]; rfl
   refine zS (zd G none (p.N + 1) (p.n + p.m) p.m X d β [some ⟨120, zC WC⟩, some ⟨120, zC Y⟩, some ⟨120, .box (zm (WC.getD j 0))⟩]) (by have q := zAQ (G := G) (F := none) (L := p.N + 1) (w := p.n + p.m) (k := p.m) (X := X) (d := d) (β := β) (T := [some ⟨120, zC WC⟩, some ⟨120, zC Y⟩, some ⟨120, .box [.bool false, .nil]⟩]) 2 (some ⟨120, .box (zm (WC.getD j 0))⟩); rw [hXl] at q; exact q) ?_
   clear q0 q2
   have f1 := zA7 (G := G) (F := none) (L := p.N + 1) (w := p.n + p.m) (k := p.m) (X := X) (d := d) (β := β) (T := [some ⟨120, zC WC⟩, some ⟨120, zC Y⟩, some ⟨120, .box (zm (WC.getD j 0))⟩])
   have q1 := zAk (G := G) (F := none) (L := p.N + 1) (w := p.n + p.m) (k := p.m) (X := X) (d := d) (β := β) (T := [some ⟨120, zC WC⟩, some ⟨120, zC Y⟩, some ⟨120, .box (zm (WC.getD j 0))⟩]) 1
   have q2 := zAk (G := G) (F := none) (L := p.N + 1) (w := p.n + p.m) (k := p.m) (X := X) (d := d) (β := β) (T := [some ⟨120, zC WC⟩, some ⟨120, zC Y⟩, some ⟨120, .box (zm (WC.getD j 0))⟩]) 2
   rw [hXl] at q1 q2
   have g1 : j < (zC Y).len := by show j < Y.length; omega
   have co := zGu (WC.getD j 0)
   have cm := zCx (-(WC.getD j 0)) d (by rw [Int.natAbs_neg]; have := hdD _ _ (by omega) (hWb j hj'); omega) (by have := hdD _ _ (by omega) hdb; omega)
   refine rn0 ?_
   refine zx (by kernel_rfl) ?_
   refine z8 (fuel := 1) [0, 1, 2, 3, 4, 5, 6, 7, 8, 9] [(1, .ptr 0 0 0), (2, .ptr 1 0 0), (3, .int .i64 (p.n : Nat)), (4, .int .i64 (p.m : Nat)), (5, .ptr G.length 0 0), (6, .ro (nsC ((List.range p.m).map p.fac)) 0 p.m), (7, .int .i64 (p.a : Nat)), (10, .sl (G.length + 4 + p.m) 0 p.n), (11, zj p.fc), (12, .sl (G.length + 4 + p.m + 1) 0 (p.N + 1)), (63, .sl (G.length + 4 + p.m) 0 p.n), (64, .int .i64 (p.n : Nat)), (65, .int .i64 (j : Nat)), (13, .int .i64 (j : Nat)), (14, .ptr (G.length + 4 + p.m + 2) 0 0)] ⟨Z, Z, Z, Z, Z, Z, Z, Z, Z, Z, Z, Z, Z, Z, Z, trivial⟩ (by kernel_rfl) (by decide) Z Z ?_
   refine zM Z Z (zE Z) ?_
   refine zM Z Z (zE Z) ?_
   refine zM Z Z (zg Z Z Z Z (by assumption) (by rfl) (by rfl) (by first | exact Nat.zero_lt_one | assumption | omega)) ?_
   refine zAf Z Z Z Z Z co ?_
   refine zM Z Z (zE Z) ?_
   refine zM Z Z (zT Z) ?_
   refine zM Z Z (zI Z Z Z Z Z Z) ?_
   refine zM Z Z (zCn Z Z Z Z (by assumption) (by rfl) (by rfl) (by first | exact Nat.zero_lt_one | assumption | omega)) ?_
   refine zAf Z Z Z Z Z cm ?_
   refine zM Z Z (zV Z Z Z (by assumption) (by rfl) (by first | (simp only [Nat.zero_add, Int.toNat_natCast, Int.toNat_zero]; exact Z) | exact Z) (by omega)) ?_
   refine zAC ?_
   refine zW (is := [10]) (by kernel_rfl) (by simp) Z ⟨fun o ho => ?_, trivial⟩
   all_goals (cases ho)
   refine zU (c' := zC (Y.set j (-(WC.getD j 0) * d))) Z Z Z q1 Z g1 (List.length_set ..) Z (zC6 Y j _) ?_
   refine zS (zd G none (p.N + 1) (p.n + p.m) p.m X d β [some ⟨120, zC WC⟩, some ⟨120, zC (Y.set j (-(WC.getD j 0) * d))⟩, some ⟨120, .box (zm (WC.getD j 0))⟩]) (by have q := zAQ (G := G) (F := none) (L := p.N + 1) (w := p.n + p.m) (k := p.m) (X := X) (d := d) (β := β) (T := [some ⟨120, zC WC⟩, some ⟨120, zC Y⟩, some ⟨120, .box (zm (WC.getD j 0))⟩]) 1 (some ⟨120, zC (Y.set j (-(WC.getD j 0) * d))⟩); rw [hXl] at q; exact q) ?_
   refine rn1 ?_
   refine zf (by kernel_rfl) ?_
   repeat (refine zc ?_)
   refine zA ?_
   refine zBi (zd G none (p.N + 1) (p.n + p.m) p.m X d β [some ⟨120, zC WC⟩, some ⟨120, zC (Y.set j (-(WC.getD j 0) * d))⟩]) [some ⟨120, .box (zm (WC.getD j 0))⟩] [(1, .ptr 0 0 0), (2, .ptr 1 0 0), (3, .int .i64 (p.n : Nat)), (4, .int .i64 (p.m : Nat)), (5, .ptr G.length 0 0), (6, .ro (nsC ((List.range p.m).map p.fac)) 0 p.m), (7, .int .i64 (p.a : Nat)), (10, .sl (G.length + 4 + p.m) 0 p.n), (11, zj p.fc), (12, .sl (G.length + 4 + p.m + 1) 0 (p.N + 1)), (63, .sl (G.length + 4 + p.m) 0 p.n), (64, .int .i64 (p.n : Nat)), (65, .int .i64 (j : Nat))] (by rw [zAj]; rfl) ⟨Z, Z, Z, Z, Z, Z, Z, Z, Z, Z, Z, Z, Z, trivial⟩ (fun h hh => by rw [hfix] at hh; exact hh.elim)
     (zCC hG _ (by rw [hlen, hXl]; exact Nat.le_add_right _ _) (fun o ho => by cases ho) (fun o ho => by
       simp only [List.mem_cons, List.mem_nil_iff, or_false] at ho
       rcases ho with e | e <;> cases e <;> exact fun i' j' hi' hj' => zE7 _ _ _ hj')) (by rw [hlen]; simp [zCa, zBt, zj]; omega) ?_
   refine rn3 ?_
   exact zQ ⟨j + 1, by omega, by omega, ⟨Z, Z, Z, Z, Z, Z, Z, Z, Z, Z, Z, Z, Z, trivial⟩, by rw [← hsj]⟩
 have hje : j = p.n := by omega
 rw [hje, hl0]
 clear hj h hje
 clear j
 have f1 := zA7 (G := G) (F := none) (L := p.N + 1) (w := p.n + p.m) (k := p.m) (X := X) (d := d) (β := β) (T := [some ⟨120, zC WC⟩, some ⟨120, zC (zC9 (zBX p) p.N ⟨X, d, β⟩ 0)⟩])
 rw [hβl] at f1
 repeat (first | refine zB (zE rfl) ?_ | refine zD ?_ | refine zA ?_ | refine zR ?_ | refine zG rfl ?_ | refine zb ?_ | refine zAg ?_ | refine zw ?_ | refine zv ?_ | refine zAD ?_ | refine zB (zAR rfl rfl rfl) ?_ | refine zB (zT rfl) ?_ | refine zB (zI rfl rfl rfl rfl rfl rfl) ?_ | refine zB (zl rfl rfl rfl (by assumption) (by rfl)) ?_)
 refine zt (ι := Nat) (fun i => [(1, .ptr 0 0 0), (2, .ptr 1 0 0), (3, .int .i64 (p.n : Nat)), (4, .int .i64 (p.m : Nat)), (5, .ptr G.length 0 0), (6, .ro (nsC ((List.range p.m).map p.fac)) 0 p.m), (7, .int .i64 (p.a : Nat)), (10, .sl (G.length + 4 + p.m) 0 p.n), (11, zj p.fc), (12, .sl (G.length + 4 + p.m + 1) 0 (p.N + 1)), (84, .sl (G.length + 2) 0 p.m), (85, .int .i64 (p.m : Nat)), (86, .int .i64 (i : Nat))]) (fun i => zd G none (p.N + 1) (p.n + p.m) p.m X d β [some ⟨120, zC WC⟩, some ⟨120, zC (zC9 (zBX p) p.N ⟨X, d, β⟩ i)⟩]) (fun i => i ≤ p.m) (fun i => p.m - i) 0 ⟨⟨Z, Z, Z, Z, Z, Z, Z, Z, Z, Z, Z, Z, Z, trivial⟩, Z, Nat.zero_le _⟩ ?_
 clear f1
 intro i hi
 refine rn4 ?_
 refine zF Z (fun h => ?_) (fun h => ?_)
 · have hi' : i < p.m := by omega
   have f2 := zFB (G := G) (F := none) (L := p.N + 1) (w := p.n + p.m) (k := p.m) (X := X) (d := d) (β := β) (T := [some ⟨120, zC WC⟩, some ⟨120, zC (zC9 (zBX p) p.N ⟨X, d, β⟩ i)⟩])
   have g2 : i < (β.map (fun a : Nat => (a : Int))).length := by rw [List.length_map, hβl]; exact hi'
   have hcl := zGt (zBX p) p.N ⟨X, d, β⟩ i
   have hcl2 := zGt (zBX p) p.N ⟨X, d, β⟩ (i + 1)
   have hnx := fun j (hj : j < p.N + 1) => zNP (k := zBX p) (N := p.N) (s := ⟨X, d, β⟩) (i := i) hj
   have hsk := fun h => zMv (k := zBX p) (N := p.N) (s := ⟨X, d, β⟩) (i := i) h
   have hab := fun j (hj : j < p.N + 1) => hcab i j (by omega) hj
   have lI : (X.getD i []).length = p.N + 1 := hXr _ (zAt [] (by omega))
   generalize hC2 : (zC9 (zBX p) p.N ⟨X, d, β⟩ (i + 1)) = C2 at *
   generalize hC1 : (zC9 (zBX p) p.N ⟨X, d, β⟩ i) = C1 at *
   have q0 := zAk (G := G) (F := none) (L := p.N + 1) (w := p.n + p.m) (k := p.m) (X := X) (d := d) (β := β) (T := [some ⟨120, zC WC⟩, some ⟨120, zC C1⟩]) 0
   rw [hXl, Nat.add_zero] at q0
   by_cases hb : β.getD i 0 < p.n
   · have g0 : β.getD i 0 < (zC WC).len := by show _ < WC.length; omega
     have cs := zD1 (WC.getD (β.getD i 0) 0)
     repeat (first | refine zB (zE rfl) ?_ | refine zB (zL rfl) ?_ | refine zD ?_ | refine zA ?_ | refine zR ?_ | refine zG rfl ?_ | refine zb ?_ | refine zi ?_ | refine zB (zCg rfl rfl) ?_ | refine zB (zV rfl rfl rfl (by assumption) (by rfl) (by first | (simp only [Nat.zero_add, Int.toNat_natCast, Int.toNat_zero]; exact rfl) | exact rfl) (by omega)) ?_ | refine zB (zCI rfl rfl rfl (by assumption) (by first | assumption | omega)) ?_)
     refine zH 16 (.int .i64 (β.getD i 0 : Nat)) Z (AEq.of_eq (by rw [zAy])) ?_
     refine zH 94 (.bool true) Z (AEq.of_eq (by rw [zAy, decide_eq_true (by show ((β.getD i 0 : Nat) : Int) < ((p.n : Nat) : Int); omega)])) ?_
     repeat (first | refine zB (zE rfl) ?_ | refine zAL rfl rfl ?_ | refine zB (zV rfl rfl rfl (by assumption) (by rfl) (by first | (simp only [Nat.zero_add, Int.toNat_natCast, Int.toNat_zero]; exact rfl) | exact rfl) (by omega)) ?_ | refine zB (zg rfl rfl rfl rfl (by assumption) (by rfl) (by rfl) (by first | exact Nat.zero_lt_one | assumption | omega)) ?_)
     refine zH 98 (zA6 (WC.getD (β.getD i 0) 0)) Z (AEq.of_eq Z) ?_
     refine zJ Z Z Z cs ?_
     refine rn3 ?_
     refine zF Z (fun h1 => ?_) (fun h1 => ?_)
     · have hcc := hcs _ hb
       have bW := hWb _ hb
       clear f2 g2 q0
       refine rn3 ?_
       refine zt (ι := Nat) (fun j => [(1, .ptr 0 0 0), (2, .ptr 1 0 0), (3, .int .i64 (p.n : Nat)), (4, .int .i64 (p.m : Nat)), (5, .ptr G.length 0 0), (6, .ro (nsC ((List.range p.m).map p.fac)) 0 p.m), (7, .int .i64 (p.a : Nat)), (10, .sl (G.length + 4 + p.m) 0 p.n), (11, zj p.fc), (12, .sl (G.length + 4 + p.m + 1) 0 (p.N + 1)), (84, .sl (G.length + 2) 0 p.m), (85, .int .i64 (p.m : Nat)), (86, .int .i64 (i : Nat)), (15, .int .i64 (i : Nat)), (16, .int .i64 (β.getD i 0 : Nat)), (103, .int .i64 ((p.N + 1 : Nat))), (104, .int .i64 (j : Nat))]) (fun j => zd G none (p.N + 1) (p.n + p.m) p.m X d β [some ⟨120, zC WC⟩, some ⟨120, zC (chg (fun j => C2.getD j 0) 0 C1 j)⟩]) (fun j => j ≤ p.N + 1) (fun j => p.N + 1 - j) 0 ⟨⟨Z, Z, Z, Z, Z, Z, Z, Z, Z, Z, Z, Z, Z, Z, Z, Z, Z, trivial⟩, by rw [zC5], Nat.zero_le _⟩ ?_
       intro j hj
       refine rn4 ?_
       refine zF Z (fun h2 => ?_) (fun h2 => ?_)
       · have hj' : j < p.N + 1 := by omega
         have hgj := zCz (fun j => C2.getD j 0) 0 C1 (k := j) (i := j) (by omega)
         rw [if_neg (Nat.lt_irrefl j)] at hgj
         have hsj := zDh (fun j => C2.getD j 0) 0 C1 (k := j) (by omega)
         have hlj := zCd (fun j => C2.getD j 0) 0 C1 j
         have hnj := hnx j hj'
         rw [hcc, ← hgj] at hnj
         rw [hnj] at hsj
         have ab := hab j hj'
         rw [← hgj] at ab
         generalize chg (fun j => C2.getD j 0) 0 C1 j = Y at *
         have q1 := zA7 (G := G) (F := none) (L := p.N + 1) (w := p.n + p.m) (k := p.m) (X := X) (d := d) (β := β) (T := [some ⟨120, zC WC⟩, some ⟨120, zC Y⟩])
         have q2 := zCc (G := G) (F := none) (L := p.N + 1) (w := p.n + p.m) (k := p.m) (X := X) (d := d) (β := β) (T := [some ⟨120, zC WC⟩, some ⟨120, zC Y⟩])
         have q3 := zCM (G := G) (F := none) (L := p.N + 1) (w := p.n + p.m) (k := p.m) (X := X) (d := d) (β := β) (T := [some ⟨120, zC WC⟩, some ⟨120, zC Y⟩]) (a := i) (by omega)
         have q4 := zAk (G := G) (F := none) (L := p.N + 1) (w := p.n + p.m) (k := p.m) (X := X) (d := d) (β := β) (T := [some ⟨120, zC WC⟩, some ⟨120, zC Y⟩]) 0
         have q5 := zAk (G := G) (F := none) (L := p.N + 1) (w := p.n + p.m) (k := p.m) (X := X) (d := d) (β := β) (T := [some ⟨120, zC WC⟩, some ⟨120, zC Y⟩]) 1
         rw [hXl] at q4 q5
         rw [Nat.add_zero] at q4
         have g3 : i < (zBb G.length X.length (p.N + 1)).len := by show i < X.length; omega
         have g4 : j < (zC (X.getD i [])).len := by show j < (X.getD i []).length; omega
         have g5 : j < (zC Y).len := by show j < Y.length; omega
         have bX := hXb i j hi' hj'
         have hp10 : (WC.getD (β.getD i 0) 0 * at2 X i j).natAbs ≤ 10 ^ (p.E k + p.T k) := by rw [Int.natAbs_mul, Nat.pow_add]; exact Nat.mul_le_mul bW bX
         have cm := zCx (WC.getD (β.getD i 0) 0) (at2 X i j) (by have := hdD _ _ (by omega) bW; omega) (by have := hdD _ _ (by omega) bX; omega)
         have ca := zKu (Y.getD j 0) (WC.getD (β.getD i 0) 0 * at2 X i j) (by have := hdD _ _ (by omega) ab; omega) (by have := hdD _ _ (by omega) hp10; omega)
         refine rn1 ?_
         refine zx (by kernel_rfl) ?_
         refine z8 (fuel := 1) [0, 1, 2, 3, 4, 5, 6, 7, 8, 9, 10, 11, 12, 13, 14, 15, 16, 17, 18, 19, 20, 21, 22] [(1, .ptr 0 0 0), (2, .ptr 1 0 0), (3, .int .i64 (p.n : Nat)), (4, .int .i64 (p.m : Nat)), (5, .ptr G.length 0 0), (6, .ro (nsC ((List.range p.m).map p.fac)) 0 p.m), (7, .int .i64 (p.a : Nat)), (10, .sl (G.length + 4 + p.m) 0 p.n), (11, zj p.fc), (12, .sl (G.length + 4 + p.m + 1) 0 (p.N + 1)), (84, .sl (G.length + 2) 0 p.m), (85, .int .i64 (p.m : Nat)), (86, .int .i64 (i : Nat)), (15, .int .i64 (i : Nat)), (16, .int .i64 (β.getD i 0 : Nat)), (103, .int .i64 ((p.N + 1 : Nat))), (104, .int .i64 (j : Nat)), (17, .int .i64 (j : Nat))] ⟨Z, Z, Z, Z, Z, Z, Z, Z, Z, Z, Z, Z, Z, Z, Z, Z, Z, Z, trivial⟩ (by kernel_rfl) (by decide) Z Z ?_
         refine zM Z Z (zE Z) ?_
         refine zM Z Z (zE Z) ?_
         refine zM Z Z (zE Z) ?_
         refine zM Z Z (zE Z) ?_
         refine zM Z Z (zV Z Z Z (by assumption) (by rfl) (by first | (simp only [Nat.zero_add, Int.toNat_natCast, Int.toNat_zero]; exact Z) | exact Z) (by omega)) ?_
         refine zM Z Z (zg Z Z Z Z (by assumption) (by rfl) (by rfl) (by first | exact Nat.zero_lt_one | assumption | omega)) ?_
         refine zM Z Z (zE Z) ?_
         refine zM Z Z (zE Z) ?_
         refine zM Z Z (zV Z Z Z (by assumption) (by rfl) (by first | (simp only [Nat.zero_add, Int.toNat_natCast, Int.toNat_zero]; exact Z) | exact Z) (by omega)) ?_
         refine zM Z Z (zg Z Z Z Z (by assumption) (by rfl) (by rfl) (by first | exact Nat.zero_lt_one | assumption | omega)) ?_
         refine zM Z Z (zE Z) ?_
         refine zM Z Z (zT Z) ?_
         refine zM Z Z (zI Z Z Z Z Z Z) ?_
         refine zM Z Z (zl Z Z Z (by assumption) (by rfl)) ?_
         refine zM Z Z (zE Z) ?_
         refine zM Z Z (zV Z Z Z (by assumption) (by rfl) (by first | (simp only [Nat.zero_add, Int.toNat_natCast, Int.toNat_zero]; exact Z) | exact Z) (by omega)) ?_
         refine zM Z Z (zAm Z Z Z (by assumption) Z (by first | assumption | omega)) ?_
         refine zM Z Z (zE Z) ?_
         refine zM Z Z (zV Z Z Z (by assumption) (by rfl) (by first | (simp only [Nat.zero_add, Int.toNat_natCast, Int.toNat_zero]; exact Z) | exact Z) (by omega)) ?_
         refine zM Z Z (zg Z Z Z Z (by assumption) (by rfl) (by rfl) (by first | exact Nat.zero_lt_one | assumption | omega)) ?_
         refine zAf Z Z Z Z Z cm ?_
         refine zAf Z Z Z Z Z ca ?_
         refine zM Z Z (zV Z Z Z (by assumption) (by rfl) (by first | (simp only [Nat.zero_add, Int.toNat_natCast, Int.toNat_zero]; exact Z) | exact Z) (by omega)) ?_
         refine zAC ?_
         refine zW (is := [23]) (by kernel_rfl) (by simp) Z ⟨fun o ho => ?_, trivial⟩
         all_goals (cases ho)
         refine zU (c' := zC (Y.set j (Y.getD j 0 + WC.getD (β.getD i 0) 0 * at2 X i j))) Z Z Z q5 Z g5 (List.length_set ..) Z (zC6 Y j _) ?_
         refine zS (zd G none (p.N + 1) (p.n + p.m) p.m X d β [some ⟨120, zC WC⟩, some ⟨120, zC (Y.set j (Y.getD j 0 + WC.getD (β.getD i 0) 0 * at2 X i j))⟩]) (by have q := zAQ (G := G) (F := none) (L := p.N + 1) (w := p.n + p.m) (k := p.m) (X := X) (d := d) (β := β) (T := [some ⟨120, zC WC⟩, some ⟨120, zC Y⟩]) 1 (some ⟨120, zC (Y.set j (Y.getD j 0 + WC.getD (β.getD i 0) 0 * at2 X i j))⟩); rw [hXl] at q; exact q) ?_
         refine rn1 ?_
         refine zf (by kernel_rfl) ?_
         refine rn5 ?_
         exact zQ ⟨j + 1, by omega, by omega, ⟨Z, Z, Z, Z, Z, Z, Z, Z, Z, Z, Z, Z, Z, Z, Z, Z, Z, trivial⟩, by rw [← hsj]⟩
       · have hje : j = p.N + 1 := by omega
         subst hje
         rw [chg_to hcl hcl2]
         refine rn5 ?_
         exact zQ ⟨i + 1, by omega, by omega, ⟨Z, Z, Z, Z, Z, Z, Z, Z, Z, Z, Z, Z, Z, trivial⟩, by rw [hC2]⟩
     · have hz : WC.getD (β.getD i 0) 0 = 0 := Decidable.byContradiction (fun q => h1 (fun e => q (by rw [zIP] at e; exact e)))
       have e := hsk (hcz _ (fun q => q.2 hz))
       refine rn5 ?_
       exact zQ ⟨i + 1, by omega, by omega, ⟨Z, Z, Z, Z, Z, Z, Z, Z, Z, Z, Z, Z, Z, trivial⟩, by rw [hC2, e]⟩
   · have e := hsk (hcz _ (fun q => hb q.1))
     repeat (first | refine zB (zE rfl) ?_ | refine zB (zL rfl) ?_ | refine zD ?_ | refine zA ?_ | refine zR ?_ | refine zG rfl ?_ | refine zb ?_ | refine zi ?_ | refine zB (zCg rfl rfl) ?_ | refine zB (zV rfl rfl rfl (by assumption) (by rfl) (by first | (simp only [Nat.zero_add, Int.toNat_natCast, Int.toNat_zero]; exact rfl) | exact rfl) (by omega)) ?_ | refine zB (zCI rfl rfl rfl (by assumption) (by first | assumption | omega)) ?_)
     refine zH 94 (.bool false) Z (AEq.of_eq (by rw [zAy, decide_eq_false (by show ¬ ((β.getD i 0 : Nat) : Int) < ((p.n : Nat) : Int); omega)])) ?_
     refine rn6 ?_
     exact zQ ⟨i + 1, by omega, by omega, ⟨Z, Z, Z, Z, Z, Z, Z, Z, Z, Z, Z, Z, Z, trivial⟩, by rw [hC2, e]⟩
 have hie : i = p.m := by omega
 rw [hie]
 clear hi h hie
 clear i
 have hLl := zGt (zBX p) p.N ⟨X, d, β⟩ p.m
 generalize (zC9 (zBX p) p.N ⟨X, d, β⟩ p.m) = LC at *
 clear hcab hcs hcz hl0
 have q6 := zAk (G := G) (F := none) (L := p.N + 1) (w := p.n + p.m) (k := p.m) (X := X) (d := d) (β := β) (T := [some ⟨120, zC WC⟩, some ⟨120, zC LC⟩]) 1
 rw [hXl] at q6
 repeat (first | refine zA ?_ | refine zAg ?_ | refine zw ?_ | refine zv ?_ | refine zAD ?_)
 refine zOX (G.length + 4 + p.m) (G.length + 4 + p.m + 1) 12 (p.N + 1) (by omega) (by rw [hlen]; show G.length + 4 + p.m < G.length + 4 + p.m + 2; omega) q6 (by rw [hfix]; exact fun h => h) Z ?_
 refine zOH ((12, .sl (G.length + 4 + p.m) 0 (p.N + 1)) :: [(1, .ptr 0 0 0), (2, .ptr 1 0 0), (3, .int .i64 (p.n : Nat)), (4, .int .i64 (p.m : Nat)), (5, .ptr G.length 0 0), (6, .ro (nsC ((List.range p.m).map p.fac)) 0 p.m), (7, .int .i64 (p.a : Nat)), (11, zj p.fc)]) ⟨Z, zA1 (h := G.length + 4 + p.m) (L := [(1, .ptr 0 0 0), (2, .ptr 1 0 0), (3, .int .i64 (p.n : Nat)), (4, .int .i64 (p.m : Nat)), (5, .ptr G.length 0 0), (6, .ro (nsC ((List.range p.m).map p.fac)) 0 p.m), (7, .int .i64 (p.a : Nat)), (11, zj p.fc)]) ⟨Z, Z, Z, Z, Z, Z, Z, Z, trivial⟩ (by
     intro q hq
     simp only [List.mem_cons, List.mem_nil_iff, or_false] at hq
     rcases hq with rfl | rfl | rfl | rfl | rfl | rfl | rfl | rfl <;> simp [AV.forget, zj, zAB (show G.length ≠ G.length + 4 + p.m by omega), zAB (show 0 ≠ G.length + 4 + p.m by omega), zAB (show 1 ≠ G.length + 4 + p.m by omega)])⟩ ?_
 refine zBe (zd G none (p.N + 1) (p.n + p.m) p.m X d β [some ⟨120, zC LC⟩, none]) (by
   have q := zn.set (zn.set (zIS (G := G) (L := p.N + 1) (w := p.n + p.m) (k := p.m) (X := X) (d := d) (β := β) (T := [some ⟨120, zC WC⟩, some ⟨120, zC LC⟩]) (T' := [some ⟨120, zC WC⟩, some ⟨120, zC LC⟩]) (G.length + 4 + p.m) (hFG _) (by omega) (by show zn [some (⟨_, (zC WC).forget _⟩ : AObj), some (⟨_, (zC LC).forget _⟩ : AObj)] _; rw [zBO, zBO]; exact zn.refl _)) (G.length + 4 + p.m) (x := some ⟨120, (zC LC).forget (G.length + 4 + p.m)⟩) (x' := some ⟨120, zC LC⟩) (fun o ho => by cases ho; exact ⟨_, rfl, rfl, by rw [zBO]; exact CEq.refl _⟩)) (G.length + 4 + p.m + 1) (x := none) (x' := none) (fun o ho => by cases ho)
   have e1 : (zd G none (p.N + 1) (p.n + p.m) p.m X d β [some ⟨120, zC WC⟩, some ⟨120, zC LC⟩]).set (G.length + 4 + p.m) (some ⟨120, zC LC⟩) = zd G none (p.N + 1) (p.n + p.m) p.m X d β [some ⟨120, zC LC⟩, some ⟨120, zC LC⟩] := by
     have q := zAQ (G := G) (F := none) (L := p.N + 1) (w := p.n + p.m) (k := p.m) (X := X) (d := d) (β := β) (T := [some ⟨120, zC WC⟩, some ⟨120, zC LC⟩]) 0 (some ⟨120, zC LC⟩)
     rw [hXl] at q
     exact q
   have e2 := zAQ (G := G) (F := none) (L := p.N + 1) (w := p.n + p.m) (k := p.m) (X := X) (d := d) (β := β) (T := [some ⟨120, zC LC⟩, some ⟨120, zC LC⟩]) 1 none
   rw [hXl] at e2
   rw [e1] at q
   exact (show zn _ _ from e2 ▸ q)) ?_
 refine zBi (zd G none (p.N + 1) (p.n + p.m) p.m X d β [some ⟨120, zC LC⟩]) [none] ((12, .sl (G.length + 4 + p.m) 0 (p.N + 1)) :: [(1, .ptr 0 0 0), (2, .ptr 1 0 0), (3, .int .i64 (p.n : Nat)), (4, .int .i64 (p.m : Nat)), (5, .ptr G.length 0 0), (6, .ro (nsC ((List.range p.m).map p.fac)) 0 p.m), (7, .int .i64 (p.a : Nat)), (11, zj p.fc)]) (by rw [zAj]; rfl) ⟨Z, Z, Z, Z, Z, Z, Z, Z, Z, trivial⟩ (fun h hh => by rw [hfix] at hh; exact hh.elim)
   (zCC hG _ (by rw [hlen, hXl]; exact Nat.le_add_right _ _) (fun o ho => by cases ho) (fun o ho => by cases List.mem_singleton.1 ho; exact fun i' j' hi' hj' => zE7 _ _ _ hj')) (by rw [hlen]; simp [zCa, zBt, zj]; omega) ?_
 clear q6
 have f1 := zA7 (G := G) (F := none) (L := p.N + 1) (w := p.n + p.m) (k := p.m) (X := X) (d := d) (β := β) (T := [some ⟨120, zC LC⟩])
 repeat (first | refine zB (zE rfl) ?_ | refine zR ?_ | refine zG rfl ?_ | refine zB (zT rfl) ?_ | refine zB (zI rfl rfl rfl rfl rfl rfl) ?_ | refine zB (zl rfl rfl rfl (by assumption) (by rfl)) ?_)
 refine zC3 Z Z Z Z Z Z Z Z Z Z ?_
 refine zS (zd G none (p.N + 1) (p.n + p.m) p.m X d β [some ⟨120, zC LC⟩, some ⟨248, zB9 1 1 [.sl (G.length + 4 + p.m) 0 (p.N + 1)]⟩]) (by rw [zAj]; rfl) ?_
 refine zH 138 (.sl (G.length + 4 + p.m + 1) 0 1) Z (AEq.of_eq (by rw [hlen]; rfl)) ?_
 have f2 := zCc (G := G) (F := none) (L := p.N + 1) (w := p.n + p.m) (k := p.m) (X := X) (d := d) (β := β) (T := [some ⟨120, zC LC⟩, some ⟨248, zB9 1 1 [.sl (G.length + 4 + p.m) 0 (p.N + 1)]⟩])
 have f3 := zAk (G := G) (F := none) (L := p.N + 1) (w := p.n + p.m) (k := p.m) (X := X) (d := d) (β := β) (T := [some ⟨120, zC LC⟩, some ⟨248, zB9 1 1 [.sl (G.length + 4 + p.m) 0 (p.N + 1)]⟩]) 1
 rw [hXl] at f3
 have hol : (zBb G.length X.length (p.N + 1)).len = p.m := hXl
 skip
 refine zAS Z Z Z Z Z Z Z f2 Z hol Z (zHx f3) (by show 0 + 1 ≤ 1; omega) Z (by show (p.m + 1) * 24 ≤ _ ∧ _; omega) ?_ (by rw [hfix]; exact fun h => h) ?_
 · intro i' j' hi' hj'
   obtain rfl := Nat.lt_one_iff.1 (show j' < 1 from hj')
   have q := (zET G.length X.length (p.N + 1) (zB9 1 1 [AV.sl (G.length + 4 + p.m) 0 (p.N + 1)]) (by rw [hXl]; rfl)).2.2 i' 0 hi' Nat.zero_lt_one
   refine Eq.trans (congrArg (AV.forget _) q.symm) (Eq.trans ?_ q)
   show AV.forget _ (AV.sl (G.length + 4 + i') 0 (p.N + 1)) = _
   unfold AV.forget
   rw [zAB (show G.length + 4 + i' ≠ G.length + 3 by omega)]; rfl
 refine zBl ((139, .sl (G.length + 3) 0 (p.m + 1)) :: (132, .ptr G.length 0 0) :: [(1, .ptr 0 0 0), (2, .ptr 1 0 0), (3, .int .i64 (p.n : Nat)), (4, .int .i64 (p.m : Nat)), (5, .ptr G.length 0 0), (6, .ro (nsC ((List.range p.m).map p.fac)) 0 p.m), (7, .int .i64 (p.a : Nat)), (11, zj p.fc)]) ⟨Z, zA1 (h := G.length + 3) (L := (132, .ptr G.length 0 0) :: [(1, .ptr 0 0 0), (2, .ptr 1 0 0), (3, .int .i64 (p.n : Nat)), (4, .int .i64 (p.m : Nat)), (5, .ptr G.length 0 0), (6, .ro (nsC ((List.range p.m).map p.fac)) 0 p.m), (7, .int .i64 (p.a : Nat)), (11, zj p.fc)]) ⟨Z, Z, Z, Z, Z, Z, Z, Z, Z, trivial⟩ (by
     intro q hq
     simp only [List.mem_cons, List.mem_nil_iff, or_false] at hq
     rcases hq with rfl | rfl | rfl | rfl | rfl | rfl | rfl | rfl | rfl <;> simp [AV.forget, zj, zAB (show G.length ≠ G.length + 3 by omega), zAB (show 0 ≠ G.length + 3 by omega), zAB (show 1 ≠ G.length + 3 by omega)])⟩ ?_
 refine zAw (zI9 G (p.N + 1) (p.n + p.m) (X ++ [LC]) d β [none]) (zKl (hFG _) (zET G.length X.length (p.N + 1) _ (by rw [hXl]; rfl))) ?_
 repeat (first | refine zB (zT rfl) ?_ | refine zB (zI rfl rfl rfl rfl rfl rfl) ?_)
 refine zAi Z Z Z Z zOg Z Z Nat.zero_lt_one ?_
 refine zS (zd G none (p.N + 1) (p.n + p.m) (p.m + 1) (X ++ [LC]) d β [none]) zOL ?_
 repeat (first | refine zD ?_ | refine zA ?_)
 have hl1 : (X ++ [LC]).length = p.m + 1 := by rw [List.length_append, hXl]; rfl
 refine zBi (zd G none (p.N + 1) (p.n + p.m) (p.m + 1) (X ++ [LC]) d β []) [none] [(1, .ptr 0 0 0), (2, .ptr 1 0 0), (3, .int .i64 (p.n : Nat)), (4, .int .i64 (p.m : Nat)), (5, .ptr G.length 0 0), (6, .ro (nsC ((List.range p.m).map p.fac)) 0 p.m), (7, .int .i64 (p.a : Nat)), (11, zj p.fc)] (by rw [zAj]; rfl) ⟨Z, Z, Z, Z, Z, Z, Z, Z, trivial⟩ (fun h hh => by rw [hfix] at hh; exact hh.elim)
   (zCC hG _ (by rw [zBC]; exact Nat.le_add_right _ _) (fun o ho => by cases ho) (fun o ho => by cases ho)) (by rw [zBC, hl1]; simp [zCa, zBt, zj]; omega) ?_
 refine zAW (stH G p.N (p.n + p.m) (p.m + 1) (ph2 p K)) (by rw [hlast]) ?_
 have cr := run_ok G hG p.m p.N (p.n + p.m) (M2 p) (ph2 p K) hph.1 hph.2.1 (zFJ p) L (hs.two hneg) (p.T k) (by omega) (by omega) (fun u hu => zEO hu (by omega) (zGZ hp hk)) (by omega)
 obtain ⟨hti, htf, _⟩ := zIK p hp K L h0
 have hfree := fun h => zPP (K := K) (L := L) hneg h
 have hbest := fun h => zOn (K := K) (L := L) hneg h
 obtain ⟨b1, b2⟩ := zEO hti (by omega) (zGZ hp hk)
 have hcle := col_le p (zDl p K L)
 refine rn0 ?_
 refine zCV Z Z Z cr (fun _ h => h) (fun _ h => h) ?_
 rintro r' H' ⟨rfl, rfl⟩
 clear cr f1 f2 f3 hol hlast hXl hXr hXb hβl hdb hlen hl1 hph hs
 have e2 : zAo p.m p.N (p.n + p.m) (ph2 p K) L = zDl p K L := rfl
 rw [e2]
 clear e2
 generalize zDl p K L = t at *
 have hn' := hti.n
 have htb := hti.b
 have hrow := hti.row
 have hd : t.den ≠ 0 := by have := hti.dp; omega
 have f1 := zA7 (G := G) (F := none) (L := p.N + 1) (w := p.n + p.m) (k := (p.m + 1)) (X := t.rows) (d := t.den) (β := t.basis) (T := [])
 have f2 := zCc (G := G) (F := none) (L := p.N + 1) (w := p.n + p.m) (k := (p.m + 1)) (X := t.rows) (d := t.den) (β := t.basis) (T := [])
 refine rn0 ?_
 refine zx (by kernel_rfl) ?_
 refine zEr (fuel := 4) [0, 1, 2, 3, 4, 5, 6, 7, 8, 9, 10, 11, 12, 13] [(1, .ptr 0 0 0), (2, .ptr 1 0 0), (3, .int .i64 (p.n : Nat)), (4, .int .i64 (p.m : Nat)), (5, .ptr G.length 0 0), (6, .ro (nsC ((List.range p.m).map p.fac)) 0 p.m), (7, .int .i64 (p.a : Nat)), (11, zj p.fc), (18, .int .i64 (resZ p.m (p.n + p.m) t))] ⟨Z, Z, Z, Z, Z, Z, Z, Z, Z, trivial⟩ (by kernel_rfl) (by decide) Z Z ?_
 refine zM Z Z (zE Z) ?_
 refine zM Z Z (zE Z) ?_
 refine zM Z Z (zT Z) ?_
 refine zM Z Z (zI Z Z Z Z Z Z) ?_
 refine zM Z Z (zl Z Z Z (by assumption) (by rfl)) ?_
 refine zM Z Z (zE Z) ?_
 refine zM Z Z (zEs Z Z f2 Z Z Z Z Z ⟨Z, by omega, by omega⟩) ?_
 refine zM Z Z (zE Z) ?_
 refine zM Z Z (zT Z) ?_
 refine zM Z Z (zI Z Z Z Z Z Z) ?_
 refine zM Z Z (zl Z Z Z (by assumption) (by rfl)) ?_
 refine zM Z Z (zE Z) ?_
 refine zM Z Z (zV Z Z Z (by assumption) (by rfl) (by first | (simp only [Nat.zero_add, Int.toNat_natCast, Int.toNat_zero]; exact Z) | exact Z) (by omega)) ?_
 refine zM Z Z (zAm Z Z Z (by assumption) Z (by first | assumption | omega)) ?_
 refine zAC ?_
 refine zAA 14 Z (by kernel_rfl) (by kernel_rfl) (by kernel_rfl) Z (zT Z) Z ?_
 refine zAA 15 Z (by kernel_rfl) (by kernel_rfl) (by kernel_rfl) Z (zI Z Z Z Z Z Z) Z ?_
 refine zW (is := [16]) (by kernel_rfl) (by simp) Z ⟨fun o ho => ?_, trivial⟩
 all_goals (cases ho)
 refine zH 150 (.sl (G.length + 3) 0 p.m) Z (AEq.of_eq Z) ?_
 refine zAi Z Z Z Z f1 Z Z Nat.zero_lt_one ?_
 refine zS (zd G none (p.N + 1) (p.n + p.m) p.m t.rows t.den t.basis []) (zHL p.m (p.n + p.m) t.den) ?_
 refine rn1 ?_
 refine zAA 17 Z (by kernel_rfl) (by kernel_rfl) (by kernel_rfl) Z (zL Z) Z ?_
 refine zf (by kernel_rfl) ?_
 repeat (refine zA ?_)
 refine zAp 12 (.sl (G.length + 4 + p.m) 0 (p.N + 1)) Z (AEq.of_eq Z) ?_
 clear f1 f2
 have hvl : (zBd p t).length = p.n := by unfold zBd; rw [zDW]; simp
 have hsb : ∀ i j, i < p.m + 1 → j < p.N + 1 → (zX (at2 t.rows i j).natAbs).length ≤ 400001 := fun i j hi hj => hdD _ _ (by omega) (b1 i j hi hj)
 have hdl : (zX t.den.natAbs).length ≤ 400001 := hdD _ _ (by omega) b2
 by_cases hc : zCR p.m (p.n + p.m) t < p.n + p.m
 · rw [hfree hc] at hR
   have hw := zFJ p
   have cv := zFP G hG p.N (p.n + p.m) p.m t.rows t.den t.basis [] (fun m _ o ho => by cases ho) p.n (by omega) (by omega) (by omega) (by omega) hrow (by omega) hd (fun i hi => by have := hsb i p.N (by omega) (by omega); omega) (by omega)
   have cy := ray_ok G hG p.N (p.n + p.m) p.m t.rows t.den t.basis [] (fun m _ o ho => by cases ho) p.n (zCR p.m (p.n + p.m) t) (by omega) (by omega) (by omega) (by omega) (by omega) hrow (by omega) hd (fun i hi => by have := hsb i (zCR p.m (p.n + p.m) t) (by omega) (by omega); omega) (by omega)
   rw [htb] at cv cy
   have hrl : (zGw p t (zCR p.m (p.n + p.m) t)).length = p.n := by unfold zGw; rw [zDW]; exact zGC _ _
   refine zAp 18 (.int .i64 (zCR p.m (p.n + p.m) t : Nat)) Z (AEq.of_eq (by unfold resZ; rw [if_neg (by omega)])) ?_
   repeat (first | refine zB (zE rfl) ?_ | refine zD ?_ | refine zA ?_ | refine zR ?_ | refine zG rfl ?_ | refine zAn rfl ?_ | refine zB (zDY rfl rfl) ?_)
   refine zCV Z Z Z cv (fun _ h => h) (fun _ h => h) ?_
   rintro r' H' ⟨rfl, rfl⟩
   repeat (refine zB (zE rfl) ?_)
   refine zCV Z Z Z cy (fun _ h => h) (fun _ h => h) ?_
   rintro r' H' ⟨rfl, rfl⟩
   repeat (refine zB (zAY rfl rfl rfl rfl rfl rfl) ?_)
   refine zU (c' := .box [.int .i64 2, .ro (qsC (zBd p t)) 0 p.n, .nil, .ro (qsC (zGw p t (zCR p.m (p.n + p.m) t))) 0 p.n, .bool false, .nil, .nil]) Z Z Z (hg1 _ _ _ _ _) Z Nat.zero_lt_one Z Z (fun i' j' hi' hj' => ?_) ?_
   · rw [if_pos (Nat.lt_one_iff.1 hi')]; rfl
   refine rn2 ?_
   refine zO hR (zF1 Z (zNR (hg1 _ _ _ _ _)) Z Z Z) ?_
   show AV.agg _ = zJ7 _
   unfold zJ7
   simp only [hvl, hrl]
   rfl
 · rw [hbest hc] at hR
   have hce : zCR p.m (p.n + p.m) t = p.n + p.m := by omega
   refine zAp 18 (.int .i64 (-1)) Z (AEq.of_eq (by unfold resZ; rw [if_pos hce])) ?_
   have hfc : (zX ((p.fc : Nat) : Int).natAbs).length ≤ 400001 := hdD _ (k * p.n) (by have : k * p.n ≤ 100 * 30 := Nat.mul_le_mul hk40 hn; omega) (by rw [Int.natAbs_natCast]; exact fc_le hk)
   have hfp := zH2 p
   have hD : t.den * (p.fc : Nat) ≠ 0 := by
     have := Int.mul_pos hti.dp (show (0 : Int) < ((p.fc : Nat) : Int) by omega)
     omega
   have hkn : k * p.n ≤ 3000 := Nat.mul_le_mul hk40 hn
   have hpr : (t.den * (p.fc : Nat)).natAbs ≤ 10 ^ (p.T k + k * p.n) := by
     rw [Int.natAbs_mul, Int.natAbs_natCast, Nat.pow_add]
     exact Nat.mul_le_mul b2 (fc_le hk)
   have hpl := hdD _ _ (by omega) hpr
   have cm := zCx t.den ((p.fc : Nat) : Int) (by omega) (by omega)
   rw [intA_nat] at cm
   have hw := zFJ p
   have q3 := zCM (G := G) (F := none) (L := p.N + 1) (w := p.n + p.m) (k := p.m) (X := t.rows) (d := t.den) (β := t.basis) (T := []) (a := p.m) (by omega)
   clear q3
   repeat (first | refine zB (zE rfl) ?_ | refine zD ?_ | refine zA ?_ | refine zR ?_ | refine zG rfl ?_ | refine zr rfl ?_ | refine zi ?_ | refine zB (zDY rfl rfl) ?_ | refine zB (zAY rfl rfl rfl rfl rfl rfl) ?_ | refine zAe rfl rfl rfl ?_)
   refine zS (zd G none (p.N + 1) (p.n + p.m) p.m t.rows t.den t.basis [some ⟨120, .box [.bool false, .nil]⟩]) (by rw [zAj]; rfl) ?_
   refine zH 19 (.ptr (G.length + 4 + (p.m + 1)) 0 0) Z (AEq.of_eq (by rw [zBC, hn']; rfl)) ?_
   refine zH 171 (.agg [.bool false, zj p.fc]) Z (AEq.of_eq Z) ?_
   have q0 := zAk (G := G) (F := none) (L := p.N + 1) (w := p.n + p.m) (k := p.m) (X := t.rows) (d := t.den) (β := t.basis) (T := [some ⟨120, .box [.bool false, .nil]⟩]) 0
   rw [hn', Nat.add_zero] at q0
   refine zU (c' := .box [.bool false, zj p.fc]) Z Z Z q0 Z Nat.zero_lt_one Z Z (fun i' j' hi' hj' => ?_) ?_
   · rw [if_pos (Nat.lt_one_iff.1 hi')]; rfl
   refine zS (zd G none (p.N + 1) (p.n + p.m) p.m t.rows t.den t.basis [some ⟨120, .box [.bool false, zj p.fc]⟩]) (by have q := zAQ (G := G) (F := none) (L := p.N + 1) (w := p.n + p.m) (k := p.m) (X := t.rows) (d := t.den) (β := t.basis) (T := [some ⟨120, .box [.bool false, .nil]⟩]) 0 (some ⟨120, .box [.bool false, zj p.fc]⟩); rw [hn', Nat.add_zero] at q; exact q) ?_
   clear q0
   refine rn0 ?_
   refine zBH 20 ⟨122, qsC ((List.range 0).map (fun i => Rat.divInt (at2 t.rows p.m (p.n + i)) (t.den * (p.fc : Nat))))⟩ Z Z ?_
   refine zAW (zd G none (p.N + 1) (p.n + p.m) p.m t.rows t.den t.basis [some ⟨120, .box [.bool false, zj p.fc]⟩, some ⟨122, qsC ((List.range 0).map (fun i => Rat.divInt (at2 t.rows p.m (p.n + i)) (t.den * (p.fc : Nat))))⟩]) (by rw [zAj]; rfl) ?_
   refine zAp 20 (.sl (G.length + 4 + (p.m + 1) + 1) 0 0) Z (AEq.of_eq (by rw [zBC, hn']; rfl)) ?_
   have hyl : ∀ i, ((List.range i).map (fun i => Rat.divInt (at2 t.rows p.m (p.n + i)) (t.den * (p.fc : Nat)))).length = i := fun i => by simp
   repeat (refine zb ?_)
   refine zt (ι := Nat) (fun i => [(1, .ptr 0 0 0), (2, .ptr 1 0 0), (3, .int .i64 (p.n : Nat)), (4, .int .i64 (p.m : Nat)), (5, .ptr G.length 0 0), (6, .ro (nsC ((List.range p.m).map p.fac)) 0 p.m), (7, .int .i64 (p.a : Nat)), (11, zj p.fc), (12, .sl (G.length + 4 + p.m) 0 (p.N + 1)), (19, .ptr (G.length + 4 + (p.m + 1)) 0 0), (20, .sl (G.length + 4 + (p.m + 1) + 1) 0 i), (172, .int .i64 (p.m : Nat)), (173, .int .i64 (i : Nat))]) (fun i => zd G none (p.N + 1) (p.n + p.m) p.m t.rows t.den t.basis [some ⟨120, .box [.bool false, zj p.fc]⟩, some ⟨122, qsC ((List.range i).map (fun i => Rat.divInt (at2 t.rows p.m (p.n + i)) (t.den * (p.fc : Nat))))⟩]) (fun i => i ≤ p.m) (fun i => p.m - i) 0 ⟨⟨Z, Z, Z, Z, Z, Z, Z, Z, Z, Z, Z, Z, Z, trivial⟩, Z, Nat.zero_le _⟩ ?_
   intro i hi
   refine rn4 ?_
   refine zF Z (fun h => ?_) (fun h => ?_)
   · have hi' : i < p.m := by omega
     have hys : ((List.range (i + 1)).map (fun i => Rat.divInt (at2 t.rows p.m (p.n + i)) (t.den * (p.fc : Nat)))) = ((List.range i).map (fun i => Rat.divInt (at2 t.rows p.m (p.n + i)) (t.den * (p.fc : Nat)))) ++ [Rat.divInt (at2 t.rows p.m (p.n + i)) (t.den * (p.fc : Nat))] := by rw [List.range_succ, List.map_append]; rfl
     have hyi := hyl i
     generalize ((List.range i).map (fun i => Rat.divInt (at2 t.rows p.m (p.n + i)) (t.den * (p.fc : Nat)))) = Y at *
     have q1 := zA7 (G := G) (F := none) (L := p.N + 1) (w := p.n + p.m) (k := p.m) (X := t.rows) (d := t.den) (β := t.basis) (T := [some ⟨120, .box [.bool false, zj p.fc]⟩, some ⟨122, qsC Y⟩])
     have q3 := zCM (G := G) (F := none) (L := p.N + 1) (w := p.n + p.m) (k := p.m) (X := t.rows) (d := t.den) (β := t.basis) (T := [some ⟨120, .box [.bool false, zj p.fc]⟩, some ⟨122, qsC Y⟩]) (a := p.m) (by omega)
     have q4 := zAk (G := G) (F := none) (L := p.N + 1) (w := p.n + p.m) (k := p.m) (X := t.rows) (d := t.den) (β := t.basis) (T := [some ⟨120, .box [.bool false, zj p.fc]⟩, some ⟨122, qsC Y⟩]) 0
     have q5 := zAk (G := G) (F := none) (L := p.N + 1) (w := p.n + p.m) (k := p.m) (X := t.rows) (d := t.den) (β := t.basis) (T := [some ⟨120, .box [.bool false, zj p.fc]⟩, some ⟨122, qsC Y⟩]) 1
     rw [hn'] at q4 q5
     rw [Nat.add_zero] at q4
     have lm : (t.rows.getD p.m []).length = p.N + 1 := hrow _ (zAt [] (by omega))
     have g7 : p.n + i < (zC (t.rows.getD p.m [])).len := by show p.n + i < (t.rows.getD p.m []).length; omega
     have cfr := zHy (at2 t.rows p.m (p.n + i)) (t.den * (p.fc : Nat)) hD (by have := hsb p.m (p.n + i) (by omega) (by omega); omega) (by omega)
     refine rn1 ?_
     refine zx (by kernel_rfl) ?_
     refine zAA 0 Z (by kernel_rfl) (by kernel_rfl) (by kernel_rfl) Z (zE Z) Z ?_
     refine zEr (fuel := 3) [1, 2, 3, 4, 5, 6, 7, 8, 9, 10, 11, 12, 13] [(1, .ptr 0 0 0), (2, .ptr 1 0 0), (3, .int .i64 (p.n : Nat)), (4, .int .i64 (p.m : Nat)), (5, .ptr G.length 0 0), (6, .ro (nsC ((List.range p.m).map p.fac)) 0 p.m), (7, .int .i64 (p.a : Nat)), (11, zj p.fc), (12, .sl (G.length + 4 + p.m) 0 (p.N + 1)), (19, .ptr (G.length + 4 + (p.m + 1)) 0 0), (20, .sl (G.length + 4 + (p.m + 1) + 1) 0 i), (172, .int .i64 (p.m : Nat)), (173, .int .i64 (i : Nat)), (21, .int .i64 (i : Nat)), (176, .sl (G.length + 4 + (p.m + 1) + 1) 0 i)] ⟨Z, Z, Z, Z, Z, Z, Z, Z, Z, Z, Z, Z, Z, Z, Z, trivial⟩ (by kernel_rfl) (by decide) Z Z ?_
     refine zM Z Z (zE Z) ?_
     refine zM Z Z (zE Z) ?_
     refine zM Z Z (zE Z) ?_
     refine zM Z Z (zCA Z Z (by omega)) ?_
     refine zM Z Z (zV (ix := p.n + i) Z Z Z q3 Z (by show 0 + ((p.n : Nat) + (i : Nat) : Int).toNat = p.n + i; omega) (by omega)) ?_
     refine zM Z Z (zg Z Z Z Z (by assumption) (by rfl) (by rfl) (by first | exact Nat.zero_lt_one | assumption | omega)) ?_
     refine zM Z Z (zE Z) ?_
     refine zM Z Z (zT Z) ?_
     refine zM Z Z (zI Z Z Z Z Z Z) ?_
     refine zM Z Z (zCn Z Z Z Z (by assumption) (by rfl) (by rfl) (by first | exact Nat.zero_lt_one | assumption | omega)) ?_
     refine zM Z Z (zg Z Z Z Z (by assumption) (by rfl) (by rfl) (by first | exact Nat.zero_lt_one | assumption | omega)) ?_
     refine zAf Z Z Z Z Z cm ?_
     refine zAf Z Z Z Z Z cfr ?_
     refine zAC ?_
     unfold qA
     refine zW (is := [14]) (by kernel_rfl) (by simp) Z ⟨fun o ho => ?_, trivial⟩
     all_goals (cases ho)
     refine rn3 ?_
     refine zW (is := [15]) (by kernel_rfl) (by simp) Z ⟨fun o ho => ?_, trivial⟩
     all_goals (cases ho)
     refine zAS Z Z Z Z Z Z Z q5 Z hyi Z Z (by show 0 + 1 ≤ 1; omega) Z (by show (i + 1) * 56 ≤ _ ∧ _; omega) ?_ (by rw [hfix]; exact fun h => h) ?_
     · intro i' j' hi' hj'
       exact zBg 0 3 z7 zBj Y _ _ (zEF _) _ i' j' hi' hj'
     refine zBl ((191, .sl (G.length + 4 + (p.m + 1) + 1) 0 (i + 1)) :: [(1, .ptr 0 0 0), (2, .ptr 1 0 0), (3, .int .i64 (p.n : Nat)), (4, .int .i64 (p.m : Nat)), (5, .ptr G.length 0 0), (6, .ro (nsC ((List.range p.m).map p.fac)) 0 p.m), (7, .int .i64 (p.a : Nat)), (11, zj p.fc), (12, .sl (G.length + 4 + p.m) 0 (p.N + 1)), (19, .ptr (G.length + 4 + (p.m + 1)) 0 0), (172, .int .i64 (p.m : Nat)), (173, .int .i64 (i : Nat))]) ⟨Z, zA1 (h := G.length + 4 + (p.m + 1) + 1) (L := [(1, .ptr 0 0 0), (2, .ptr 1 0 0), (3, .int .i64 (p.n : Nat)), (4, .int .i64 (p.m : Nat)), (5, .ptr G.length 0 0), (6, .ro (nsC ((List.range p.m).map p.fac)) 0 p.m), (7, .int .i64 (p.a : Nat)), (11, zj p.fc), (12, .sl (G.length + 4 + p.m) 0 (p.N + 1)), (19, .ptr (G.length + 4 + (p.m + 1)) 0 0), (172, .int .i64 (p.m : Nat)), (173, .int .i64 (i : Nat))]) ⟨Z, Z, Z, Z, Z, Z, Z, Z, Z, Z, Z, Z, trivial⟩ (by
     intro q hq
     simp only [List.mem_cons, List.mem_nil_iff, or_false] at hq
     rcases hq with rfl | rfl | rfl | rfl | rfl | rfl | rfl | rfl | rfl | rfl | rfl | rfl <;> simp [AV.forget, zj, zAB (show G.length ≠ G.length + 4 + (p.m + 1) + 1 by omega), zAB (show 0 ≠ G.length + 4 + (p.m + 1) + 1 by omega), zAB (show 1 ≠ G.length + 4 + (p.m + 1) + 1 by omega), zAB (show G.length + 4 + p.m ≠ G.length + 4 + (p.m + 1) + 1 by omega), zAB (show G.length + 4 + (p.m + 1) ≠ G.length + 4 + (p.m + 1) + 1 by omega)])⟩ ?_
     refine zAw (zd G none (p.N + 1) (p.n + p.m) p.m t.rows t.den t.basis [some ⟨120, .box [.bool false, zj p.fc]⟩, some ⟨122, qsC ((List.range (i + 1)).map (fun i => Rat.divInt (at2 t.rows p.m (p.n + i)) (t.den * (p.fc : Nat))))⟩]) (by
       rw [hys]
       have e : zd G none (p.N + 1) (p.n + p.m) p.m t.rows t.den t.basis [some ⟨120, .box [.bool false, zj p.fc]⟩, some ⟨122, qsC (Y ++ [Rat.divInt (at2 t.rows p.m (p.n + i)) (t.den * (p.fc : Nat))])⟩] = (zd G none (p.N + 1) (p.n + p.m) p.m t.rows t.den t.basis [some ⟨120, .box [.bool false, zj p.fc]⟩, none]).set (G.length + 4 + (p.m + 1) + 1) (some ⟨122, qsC (Y ++ [Rat.divInt (at2 t.rows p.m (p.n + i)) (t.den * (p.fc : Nat))])⟩) := by
         have q := zAQ (G := G) (F := none) (L := p.N + 1) (w := p.n + p.m) (k := p.m) (X := t.rows) (d := t.den) (β := t.basis) (T := [some ⟨120, .box [.bool false, zj p.fc]⟩, none]) 1 (some ⟨122, qsC (Y ++ [Rat.divInt (at2 t.rows p.m (p.n + i)) (t.den * (p.fc : Nat))])⟩)
         rw [hn'] at q
         exact q.symm
       rw [e]
       exact zn.set (zIS (T := [some ⟨120, .box [.bool false, zj p.fc]⟩, some ⟨122, qsC Y⟩]) (T' := [some ⟨120, .box [.bool false, zj p.fc]⟩, none]) _ (hFG _) (by omega) (zn.same (zn.drop zn.nil))) _ (fun o ho => by cases ho; exact ⟨_, rfl, rfl, zBx 0 3 z7 Y _ _ (zEF (Rat.divInt (at2 t.rows p.m (p.n + i)) (t.den * (p.fc : Nat))))⟩)) ?_
     refine rn1 ?_
     refine zAA 16 Z (by kernel_rfl) (by kernel_rfl) (by kernel_rfl) Z (zL Z) Z ?_
     refine zf (by kernel_rfl) ?_
     refine rn5 ?_
     exact zQ ⟨i + 1, by omega, by omega, ⟨Z, Z, Z, Z, Z, Z, Z, Z, Z, Z, Z, Z, Z, trivial⟩, Z⟩
   have hie : i = p.m := by omega
   rw [hie]
   clear hi h hie
   clear i
   obtain ⟨KK, hKK⟩ : ∃ KK, KK = 102300 := ⟨_, rfl⟩
   have cu := zJZ ((List.range p.m).map (fun i => Rat.divInt (at2 t.rows p.m (p.n + i)) (t.den * (p.fc : Nat)))) ((List.range p.m).map p.fac) KK (by simp) (by simp; omega) (fun q hq => by
     obtain ⟨i, hi, rfl⟩ := List.mem_map.1 hq
     have hi : i < p.m := by simpa using hi
     exact (zGM hD (zDG (Nat.le_trans (b1 p.m (p.n + i) (by omega) (by omega)) (Nat.pow_le_pow_right (by decide) (Nat.le_add_right _ (k * p.n))))) (zDG hpr)).mono (by omega)) (fun q hq => by
     obtain ⟨i, hi, rfl⟩ := List.mem_map.1 hq
     have hi : i < p.m := by simpa using hi
     refine Nat.lt_of_lt_of_le (zDG (zM2 hp hk hi)) (Nat.pow_le_pow_right (by decide) ?_)
     have : k * (p.n + 1) ≤ 100 * 31 := Nat.mul_le_mul hk40 (by omega)
     omega) (by omega)
   rw [hyl p.m, hfl] at cu
   have hy : zIB ((List.range p.m).map (fun i => Rat.divInt (at2 t.rows p.m (p.n + i)) (t.den * (p.fc : Nat)))) ((List.range p.m).map p.fac) p.m = yL p t (t.den * (p.fc : Nat)) := (yL_as p t (t.den * (p.fc : Nat))).symm
   rw [hy] at cu
   have hyl2 : (yL p t (t.den * (p.fc : Nat))).length = p.m := by simp [yL]
   have hym := hyl p.m
   generalize ((List.range p.m).map (fun i => Rat.divInt (at2 t.rows p.m (p.n + i)) (t.den * (p.fc : Nat)))) = Y at *
   have q5 := zAk (G := G) (F := none) (L := p.N + 1) (w := p.n + p.m) (k := p.m) (X := t.rows) (d := t.den) (β := t.basis) (T := [some ⟨120, .box [.bool false, zj p.fc]⟩, some ⟨122, qsC Y⟩]) 1
   rw [hn'] at q5
   repeat (first | refine zA ?_ | refine zAg ?_ | refine zw ?_ | refine zv ?_ | refine zAD ?_)
   refine zBM (G.length + 4 + (p.m + 1) + 1) 20 p.m [(1, .ptr 0 0 0), (2, .ptr 1 0 0), (3, .int .i64 (p.n : Nat)), (4, .int .i64 (p.m : Nat)), (5, .ptr G.length 0 0), (6, .ro (nsC ((List.range p.m).map p.fac)) 0 p.m), (7, .int .i64 (p.a : Nat)), (11, zj p.fc), (12, .sl (G.length + 4 + p.m) 0 (p.N + 1)), (19, .ptr (G.length + 4 + (p.m + 1)) 0 0)] q5 (zBm _) Z (by show p.m ≤ Y.length; omega) ⟨Z, Z, Z, Z, Z, Z, Z, Z, Z, Z, trivial⟩ ?_
   refine zAW (zd G none (p.N + 1) (p.n + p.m) p.m t.rows t.den t.basis [some ⟨120, .box [.bool false, zj p.fc]⟩, none]) (by have q := zAQ (G := G) (F := none) (L := p.N + 1) (w := p.n + p.m) (k := p.m) (X := t.rows) (d := t.den) (β := t.basis) (T := [some ⟨120, .box [.bool false, zj p.fc]⟩, some ⟨122, qsC Y⟩]) 1 none; rw [hn'] at q; exact q) ?_
   clear q5
   have q1 := zA7 (G := G) (F := none) (L := p.N + 1) (w := p.n + p.m) (k := p.m) (X := t.rows) (d := t.den) (β := t.basis) (T := [some ⟨120, .box [.bool false, zj p.fc]⟩, none])
   have q3 := zCM (G := G) (F := none) (L := p.N + 1) (w := p.n + p.m) (k := p.m) (X := t.rows) (d := t.den) (β := t.basis) (T := [some ⟨120, .box [.bool false, zj p.fc]⟩, none]) (a := p.m) (by omega)
   have q4 := zAk (G := G) (F := none) (L := p.N + 1) (w := p.n + p.m) (k := p.m) (X := t.rows) (d := t.den) (β := t.basis) (T := [some ⟨120, .box [.bool false, zj p.fc]⟩, none]) 0
   rw [hn', Nat.add_zero] at q4
   have lm : (t.rows.getD p.m []).length = p.N + 1 := hrow _ (zAt [] (by omega))
   have g7 : p.N < (zC (t.rows.getD p.m [])).len := by show p.N < (t.rows.getD p.m []).length; omega
   have cfr := zHy (at2 t.rows p.m p.N) (t.den * (p.fc : Nat)) hD (by have := hsb p.m p.N (by omega) (by omega); omega) (by omega)
   have cv := zFP G hG p.N (p.n + p.m) p.m t.rows t.den t.basis [some ⟨120, .box [.bool false, zj p.fc]⟩, none] (fun m _ o ho => by
     simp only [List.mem_cons, List.mem_nil_iff, or_false] at ho
     rcases ho with e | e
     · cases e
       intro i' j' hi' hj'
       match j', (show j' < 2 from hj') with
       | 0, _ => rfl
       | 1, _ => rfl
     · cases e) p.n (by omega) (by omega) (by omega) (by omega) hrow (by omega) hd (fun i hi => by have := hsb i p.N (by omega) (by omega); omega) (by omega)
   rw [htb] at cv
   repeat (refine zR ?_)
   refine zx (by kernel_rfl) ?_
   refine z8 (fuel := 1) [0, 1, 2, 3, 4, 5, 6, 7, 8, 9, 10, 11, 12, 13, 14, 15, 16, 17, 18, 19] ((20, .ro (qsC Y) 0 p.m) :: [(1, .ptr 0 0 0), (2, .ptr 1 0 0), (3, .int .i64 (p.n : Nat)), (4, .int .i64 (p.m : Nat)), (5, .ptr G.length 0 0), (6, .ro (nsC ((List.range p.m).map p.fac)) 0 p.m), (7, .int .i64 (p.a : Nat)), (11, zj p.fc), (12, .sl (G.length + 4 + p.m) 0 (p.N + 1)), (19, .ptr (G.length + 4 + (p.m + 1)) 0 0)]) ⟨Z, Z, Z, Z, Z, Z, Z, Z, Z, Z, Z, trivial⟩ (by kernel_rfl) (by decide) Z Z ?_
   refine zM Z Z (zE Z) ?_
   refine zM Z Z (zE Z) ?_
   refine px_c Z Z Z Z Z cv ?_
   refine zM Z Z (zE Z) ?_
   refine zM Z Z (zE Z) ?_
   refine zAf Z Z Z Z Z cu ?_
   refine zM Z Z (zE Z) ?_
   refine zM Z Z (zE Z) ?_
   refine zM Z Z (zAR Z Z Z) ?_
   refine zM Z Z (zBc Z Z (by omega)) ?_
   refine zM Z Z (zV (ix := p.N) Z Z Z q3 Z (by show 0 + (((p.N + 1 : Nat) : Int) - 1).toNat = p.N; omega) (by omega)) ?_
   refine zM Z Z (zg Z Z Z Z (by assumption) (by rfl) (by rfl) (by first | exact Nat.zero_lt_one | assumption | omega)) ?_
   refine zM Z Z (zE Z) ?_
   refine zM Z Z (zT Z) ?_
   refine zM Z Z (zI Z Z Z Z Z Z) ?_
   refine zM Z Z (zCn Z Z Z Z (by assumption) (by rfl) (by rfl) (by first | exact Nat.zero_lt_one | assumption | omega)) ?_
   refine zM Z Z (zg Z Z Z Z (by assumption) (by rfl) (by rfl) (by first | exact Nat.zero_lt_one | assumption | omega)) ?_
   refine zAf Z Z Z Z Z cm ?_
   refine zAf Z Z Z Z Z cfr ?_
   unfold qA
   refine zM Z Z (zAY Z Z Z Z Z Z) ?_
   refine zAC ?_
   refine zW (is := [20]) (by kernel_rfl) (by simp) Z ⟨fun o ho => ?_, trivial⟩
   all_goals (cases ho)
   refine zU (c' := .box ([.int .i64 0, .ro (qsC (zBd p t)) 0 p.n, .ro (qsC (yL p t (t.den * (p.fc : Nat)))) 0 p.m, .nil] ++ z7 (Rat.divInt (at2 t.rows p.m p.N) (t.den * (p.fc : Nat))))) Z Z Z (hg1 _ _ _ _ _) Z Nat.zero_lt_one Z Z (fun i' j' hi' hj' => ?_) ?_
   · rw [if_pos (Nat.lt_one_iff.1 hi')]; rfl
   refine rn1 ?_
   refine zf (by kernel_rfl) ?_
   refine rn0 ?_
   refine zO hR (zF1 Z (zNR (hg1 _ _ _ _ _)) Z Z Z) ?_
   show AV.agg _ = zJ7 _
   unfold zJ7
   simp only [hvl, hyl2]
   rfl
end Go.Proofs.YtnkealfaldjipaaGreatDoor
namespace Go.Ax
variable [Pins]
open Go.RowKit
section
variable {ind : Bool} {P : Program} {fn : Func} {c : Ctx} {fr : Fr} {H : zN} {k : List It}
variable {d : Option Nat} {ty : TypeId} {pos : String} {after : Array Edge} {g : Option (Nat × Bool)}
theorem zH8 {x ix : Operand} {t e : TypeId} {u : TypeDesc} {inf : TypeInfo} {n : Nat} {L L' : List AV} {kk : IntKind} {m : Int} (ht : P.underlying t = some (.array n e)) (hi : P.info? e = some inf) (hu : P.underlying e = some u) (hua : zBZ u = true) (hx : ev fr x = some (.agg L)) (hix : ev fr ix = some (.int kk m))
   (hv : (L.drop (m.toNat * inf.size)).take inf.size = L') (hb : 0 ≤ m ∧ m < n ∧ m.toNat * inf.size + inf.size ≤ L.length) : QOp ind P fn c fr H ⟨d, .index t x ix, ty, pos, after, g⟩ (.agg L') := by
 intro w a σ S hr
 have h1 := hr.evAt hx
 have h2 := hr.evInt hix
 subst hv
 generalize hz : a.eval x = z at h1
 cases h1 with
 | agg _ _ vs hl hv h1' =>
   have hsz : (vs.extract (m.toNat * inf.size) (m.toNat * inf.size + inf.size)).size = inf.size := by simp; omega
   have hlen : ((L.drop (m.toNat * inf.size)).take inf.size).length = inf.size := by simp; omega
   have hget : ∀ i, i < inf.size → (vs.extract (m.toNat * inf.size) (m.toNat * inf.size + inf.size)).getD i undef = vs.getD (m.toNat * inf.size + i) undef := by
     intro i hi'
     have h3 : m.toNat * inf.size + i < vs.size := by omega
     have h4 : i < (vs.extract (m.toNat * inf.size) (m.toNat * inf.size + inf.size)).size := by omega
     simp only [Array.getD, h3, h4, dite_true, Array.getInternal_eq_getElem, Array.getElem_extract]
   refine ⟨.agg (vs.extract (m.toNat * inf.size) (m.toNat * inf.size + inf.size)), .agg _ _ _ (by rw [hsz, hlen]) (fun i hi' => ?_) (fun i hi' => ?_), fun w' _ => ?_⟩
   · rw [hlen] at hi'
     rw [hget i hi']
     have e : ((L.drop (m.toNat * inf.size)).take inf.size).getD i .any = L.getD (m.toNat * inf.size + i) .any := by
       simp only [List.getD, List.getElem?_take, if_pos hi', List.getElem?_drop]
     rw [e]
     exact hv _ (by omega)
   · rw [hlen] at hi'
     rw [hget i hi']
     exact h1' _ (by omega)
   · simp [execOp, hz, h2, Instr.index, asIntOf, run_underlying ht, hb.1, hb.2.1, sizeOf, typeInfo, hi, part, zCt hu, hua]
end
theorem zNs {l l' : List AV} (h : AEqs l l') : AEq (.agg l) (.agg l') := by
 intro w S σ v hv
 have hl := h.length
 cases hv with
 | agg _ _ vs h1 h2 h3 => exact .agg _ _ _ (h1.trans hl) (fun i hi => h.get i (by omega) _ _ _ _ (h2 i (by omega))) (fun i hi => h3 i (by omega))
end Go.Ax
namespace Go.Proofs.YtnkealfaldjipaaGreatDoor
open Go.Ax Go.Ax.Bg Go.Ax.Rt Go.RowKit Go.Ax.Dt Go.Ax.Sx
attribute [local irreducible] Ax zBR QOp zY zBK
set_option maxRecDepth 100000
set_option maxHeartbeats 4000000
theorem zKh (p : Prog) (K L : Nat) : ((zA8 p K L).kind = 1 → (zA8 p K L).X = []) ∧ ((zA8 p K L).kind = 2 → (zA8 p K L).Y = []) ∧ ((zA8 p K L).kind ≠ 2 → (zA8 p K L).R = []) ∧ ((zA8 p K L).kind < 3) := by
 unfold zA8
 split
 · exact ⟨fun _ => rfl, fun h => absurd (show (1 : Nat) = 2 from h) (by decide), fun _ => rfl, show (1 : Nat) < 3 by decide⟩
 · split
   · exact ⟨fun h => absurd (show (2 : Nat) = 1 from h) (by decide), fun _ => rfl, fun h => absurd Z h, show (2 : Nat) < 3 by decide⟩
   · exact ⟨fun h => absurd (show (0 : Nat) = 1 from h) (by decide), fun h => absurd (show (0 : Nat) = 2 from h) (by decide), fun _ => rfl, show (0 : Nat) < 3 by decide⟩
theorem zCf (n : Nat) (l : List AV) (h : zCG n l = true) : zBo n (.box l) := fun i j _ hj => zDK h j hj
theorem zLN (l : List Rat) (hl : l.length ≤ 1000000) (hs : ∀ q ∈ l, Sz 100000 q) (hf : ∀ q ∈ l, zCZ q = true) : ∃ r : AV, zZ Tryz.prog 80 [.ro (qsC l) 0 l.length] (.tup [r, .int .i64 0]) ∧ AEq r (.ro (.strs (l.map zu)) 0 (l.map zu).length) := by
 obtain ⟨r, h1, h2⟩ := zPl l hl hs
 have e : zE5 l = (l.map zu, 0) := by unfold zE5; rw [if_pos (List.all_eq_true.2 hf)]
 rw [e] at h1 h2
 exact ⟨r, h1, h2⟩
theorem solve_no (A : List (List zAX)) (B C : List zAX) (h : ShortPr ⟨A, B, C⟩) (hc : zB8 ⟨A, B, C⟩ ≠ 0) :
   zZ Tryz.prog 51 [.agg [.ro (zA3 A) 0 A.length, .ro (.strs B) 0 B.length, .ro (.strs C) 0 C.length]] (.tup [.agg [.int .i64 0, .nil, .nil, .nil, .str []], .int .i64 (zB8 ⟨A, B, C⟩)]) := by
 have c0 := zFQ A B C h
 generalize zB8 ⟨A, B, C⟩ = e at *
 refine zY.value0 (zK (P := Tryz.prog) (fn := Tryz.f51) Z Z (by kernel_rfl) Z (fun c hR hfix => ?_)) (fix := fun _ => False) (fun _ h => h) Z Z
 refine rn6 ?_
 refine zH 13 (.agg [.ro (zA3 A) 0 A.length, .ro (.strs B) 0 B.length, .ro (.strs C) 0 C.length]) Z (AEq.of_eq Z) ?_
 refine zJ Z Z Z c0 ?_
 refine rn3 ?_
 refine zF Z (fun _ => ?_) (fun hx => absurd hc (fun q => hx q))
 repeat (first | refine zB (zE rfl) ?_ | refine zR ?_ | refine zG rfl ?_ | refine zB (zAY rfl rfl rfl rfl rfl rfl) ?_)
 refine zU (c' := .box [.int .i64 0, .nil, .nil, .nil, .str []]) Z Z Z Z Z Nat.zero_lt_one Z Z (fun i' j' hi' hj' => ?_) ?_
 · rw [if_pos (Nat.lt_one_iff.1 hi')]; rfl
 refine rn2 ?_
 exact zO hR Z Z
theorem zKW (A : List (List zAX)) (B C : List zAX) (h : ShortPr ⟨A, B, C⟩) (hc : zB8 ⟨A, B, C⟩ = 0) (k K L : Nat) (hk : (Prob.prog ⟨A, B, C⟩).Dig k) (hk40 : k ≤ 100) (hB : B.length ≤ 30) (hC : C.length ≤ 30) (hs : Stops (Prob.prog ⟨A, B, C⟩) K L) (hf : zF4 (zA8 (Prob.prog ⟨A, B, C⟩) K L) = true)
   (hD : (∀ q ∈ (zA8 (Prob.prog ⟨A, B, C⟩) K L).X, D 900 q) ∧ (∀ q ∈ (zA8 (Prob.prog ⟨A, B, C⟩) K L).Y, D 900 q) ∧ (∀ q ∈ (zA8 (Prob.prog ⟨A, B, C⟩) K L).R, D 900 q) ∧ D 900 (zA8 (Prob.prog ⟨A, B, C⟩) K L).V)
   (hl : (zA8 (Prob.prog ⟨A, B, C⟩) K L).X.length ≤ 1000 ∧ (zA8 (Prob.prog ⟨A, B, C⟩) K L).Y.length ≤ 1000 ∧ (zA8 (Prob.prog ⟨A, B, C⟩) K L).R.length ≤ 1000) :
   zZ Tryz.prog 51 [.agg [.ro (zA3 A) 0 A.length, .ro (.strs B) 0 B.length, .ro (.strs C) 0 C.length]]
     (.tup [.agg [.int .i64 ((zCp (zA8 (Prob.prog ⟨A, B, C⟩) K L)).kind : Nat), .ro (.strs (zCp (zA8 (Prob.prog ⟨A, B, C⟩) K L)).X) 0 (zCp (zA8 (Prob.prog ⟨A, B, C⟩) K L)).X.length, .ro (.strs (zCp (zA8 (Prob.prog ⟨A, B, C⟩) K L)).Y) 0 (zCp (zA8 (Prob.prog ⟨A, B, C⟩) K L)).Y.length, .ro (.strs (zCp (zA8 (Prob.prog ⟨A, B, C⟩) K L)).R) 0 (zCp (zA8 (Prob.prog ⟨A, B, C⟩) K L)).R.length, .str (zCp (zA8 (Prob.prog ⟨A, B, C⟩) K L)).V], .int .i64 0]) := by
 have c0 := zFQ A B C h
 rw [hc] at c0
 have hip := zCq hc
 have hcR := Run_ok (Prob.prog ⟨A, B, C⟩) k K L hip.Ok hk (by rw [zHG]; exact hB) (by rw [zG7]; exact hC) hk40 hs
 have c1 := sin_ok A B C (by have e : A.length = B.length := hip.m.rows; omega) (fun r hr => ⟨Nat.le_trans (Nat.le_of_eq (hip.m.cols r hr)) (Nat.le_trans hC (by decide)), fun s hs => ⟨(h.r r hr).2 s hs, hip.m.ok r hr s hs⟩⟩) (by omega) (fun s hs => ⟨h.bs s hs, zCk (zBf hip.b).2 s hs⟩) (by omega) (fun s hs => ⟨h.cs s hs, zCk (zBf hip.c).2 s hs⟩)
 have eA : (Prob.prog ⟨A, B, C⟩).A.length = A.length := by show (inM A).length = _; unfold inM; rw [List.length_map]
 have eB : (Prob.prog ⟨A, B, C⟩).B.length = B.length := zHG _
 have eC : (Prob.prog ⟨A, B, C⟩).C.length = C.length := zG7 _
 rw [eA, eB, eC] at hcR
 obtain ⟨n1, n2, n3, n4⟩ := zKh (Prob.prog ⟨A, B, C⟩) K L
 have hcR : zZ Tryz.prog 118 [zL4 A B C] (zJ7 (zA8 (Prob.prog ⟨A, B, C⟩) K L)) := hcR
 generalize zA8 (Prob.prog ⟨A, B, C⟩) K L = r at *
 obtain ⟨f1, f2, f3, f4⟩ := zGI hf
 obtain ⟨rX, oX, aX⟩ := zLN r.X (by omega) (fun q hq => zGx ((hD.1 q hq).mono (by omega))) f1
 obtain ⟨rY, oY, aY⟩ := zLN r.Y (by omega) (fun q hq => zGx ((hD.2.1 q hq).mono (by omega))) f2
 obtain ⟨rR, oR, aR⟩ := zLN r.R (by omega) (fun q hq => zGx ((hD.2.2.1 q hq).mono (by omega))) f3
 obtain ⟨VC, hVC, hVl⟩ : ∃ VC : List AV, (r.kind = 0 → VC = z7 r.V) ∧ AEq (zJ7 r) (.agg ([.int .i64 (r.kind : Nat), .ro (qsC r.X) 0 r.X.length, .ro (qsC r.Y) 0 r.Y.length, .ro (qsC r.R) 0 r.R.length] ++ VC)) ∧ VC.length = 3 ∧ ∀ n, zCG n VC = true := by
   refine ⟨if r.kind = 0 then z7 r.V else [.bool false, .nil, .nil], fun e => if_pos e, ?_, ?_⟩
   · unfold zJ7
     refine zNs ⟨AEq.rfl', ?_, ?_, ?_, ?_⟩
     · by_cases e : r.kind = 1
       · rw [if_pos e, n1 e]; exact AEq.nil
       · rw [if_neg e]; exact AEq.rfl'
     · by_cases e : r.kind = 2
       · rw [if_pos e, n2 e]; exact AEq.nil
       · rw [if_neg e]; exact AEq.rfl'
     · by_cases e : r.kind = 2
       · rw [if_pos e]; exact AEq.rfl'
       · rw [if_neg e, n3 e]; exact AEq.nil
     · by_cases e : r.kind = 0
       · rw [if_pos e]; exact ⟨AEq.rfl', AEq.rfl', AEq.rfl', trivial⟩
       · rw [if_neg e]; exact ⟨AEq.rfl', AEq.rfl', AEq.rfl', trivial⟩
   · refine ⟨by split <;> rfl, fun n => ?_⟩
     split <;> rfl
 obtain ⟨v1, v2, v3, rfl⟩ : ∃ v1 v2 v3, VC = [v1, v2, v3] := by
   match VC, hVl.2.1 with
   | [a, b, c], _ => exact ⟨a, b, c, rfl⟩
 have hvb := hVl.2.2
 refine zY.value0 (zK (P := Tryz.prog) (fn := Tryz.f51) Z Z (by kernel_rfl) Z (fun c hR hfix => ?_)) (fix := fun _ => False) (fun _ h => h) Z Z
 have hR' : c.R = fun r' _ => r' = .tup [.agg [.int .i64 (r.kind : Nat), .ro (.strs (r.X.map zu)) 0 (r.X.map zu).length, .ro (.strs (r.Y.map zu)) 0 (r.Y.map zu).length, .ro (.strs (r.R.map zu)) 0 (r.R.map zu).length, .str (if r.kind = 0 then zu r.V else [])], .int .i64 0] := hR
 clear hR
 unfold zL4 at hcR c1
 refine rn6 ?_
 refine zH 13 (.agg [.ro (zA3 A) 0 A.length, .ro (.strs B) 0 B.length, .ro (.strs C) 0 C.length]) Z (AEq.of_eq Z) ?_
 refine zJ Z Z Z c0 ?_
 refine rn6 ?_
 refine zH 19 (.agg [.ro (zA3 A) 0 A.length, .ro (.strs B) 0 B.length, .ro (.strs C) 0 C.length]) Z (AEq.of_eq Z) ?_
 refine zJ Z Z Z c1 ?_
 refine zJ Z Z Z hcR ?_
 refine zH 21 _ Z hVl.1 ?_
 repeat (refine zAe rfl rfl rfl ?_)
 refine zS [some ⟨85, .box [.ro (zA3 A) 0 A.length, .ro (.strs B) 0 B.length, .ro (.strs C) 0 C.length]⟩, some ⟨88, .box [.int .i64 0, .nil, .nil, .nil, .str []]⟩, some ⟨185, .box [.int .i64 0, .nil, .nil, .nil, .bool false, .nil, .nil]⟩] Z ?_
 refine zU (c' := .box ([.int .i64 (r.kind : Nat), .ro (qsC r.X) 0 r.X.length, .ro (qsC r.Y) 0 r.Y.length, .ro (qsC r.R) 0 r.R.length] ++ [v1, v2, v3])) Z Z Z Z Z Nat.zero_lt_one Z Z (fun i' j' hi' hj' => ?_) ?_
 · rw [if_pos (Nat.lt_one_iff.1 hi')]; rfl
 repeat (first | refine zD ?_ | refine zA ?_ | refine zR ?_ | refine zG rfl ?_ | refine zB (zP rfl rfl rfl rfl rfl) ?_ | refine zB (zAY rfl rfl rfl rfl rfl rfl) ?_ | refine zB (zI rfl rfl rfl rfl rfl rfl) ?_ | refine zAe rfl rfl rfl ?_)
 refine zS [some ⟨85, .box [.ro (zA3 A) 0 A.length, .ro (.strs B) 0 B.length, .ro (.strs C) 0 C.length]⟩, some ⟨88, .box [.int .i64 0, .nil, .nil, .nil, .str []]⟩, some ⟨185, .box ([.int .i64 (r.kind : Nat), .ro (qsC r.X) 0 r.X.length, .ro (qsC r.Y) 0 r.Y.length, .ro (qsC r.R) 0 r.R.length] ++ [v1, v2, v3])⟩, some ⟨88, .box [.int .i64 0, .nil, .nil, .nil, .str []]⟩] Z ?_
 refine zU (c' := .box [.int .i64 (r.kind : Nat), .nil, .nil, .nil, .str []]) Z Z Z Z Z Nat.zero_lt_one Z Z (fun i' j' hi' hj' => ?_) ?_
 · rw [if_pos (Nat.lt_one_iff.1 hi')]; rfl
 repeat (first | refine zB (zE rfl) ?_ | refine zD ?_ | refine zA ?_ | refine zR ?_ | refine zG rfl ?_ | refine zb ?_ | refine zB (zP rfl rfl rfl rfl rfl) ?_ | refine zB (zAY rfl rfl rfl rfl rfl rfl) ?_ | refine zB (zI rfl rfl rfl rfl rfl rfl) ?_)
 refine zt (ι := Nat) (fun k => [(2, .ptr 1 0 0), (5, .ptr 2 0 0), (6, .ptr 3 0 0), (37, .agg [.ptr 3 0 1, .ro (qsC r.X) 0 r.X.length, .ptr 3 0 2, .ro (qsC r.Y) 0 r.Y.length, .ptr 3 0 3, .ro (qsC r.R) 0 r.R.length]), (38, .int .i64 (k : Nat))]) (fun k => [some ⟨85, .box [.ro (zA3 A) 0 A.length, .ro (.strs B) 0 B.length, .ro (.strs C) 0 C.length]⟩, some ⟨88, .box [.int .i64 0, .nil, .nil, .nil, .str []]⟩, some ⟨185, .box ([.int .i64 (r.kind : Nat), .ro (qsC r.X) 0 r.X.length, .ro (qsC r.Y) 0 r.Y.length, .ro (qsC r.R) 0 r.R.length] ++ [v1, v2, v3])⟩, some ⟨88, .box [.int .i64 (r.kind : Nat), if 1 ≤ k then .ro (.strs (r.X.map zu)) 0 (r.X.map zu).length else .nil, if 2 ≤ k then .ro (.strs (r.Y.map zu)) 0 (r.Y.map zu).length else .nil, if 3 ≤ k then .ro (.strs (r.R.map zu)) 0 (r.R.map zu).length else .nil, .str []]⟩]) (fun k => k ≤ 3) (fun k => 3 - k) 0 ⟨⟨Z, Z, Z, Z, Z, trivial⟩, Z, by decide⟩ ?_
 intro j hj
 refine rn4 ?_
 refine zF Z (fun h2 => ?_) (fun h2 => ?_)
 · have hk2 : j = 0 ∨ j = 1 ∨ j = 2 := by omega
   rcases hk2 with rfl | rfl | rfl
   · refine rn1 ?_
     refine zB (zH8 Z Z Z Z Z Z Z ⟨(by show (0 : Int) ≤ ((0 : Nat) : Int); decide), (by show ((0 : Nat) : Int) < ((3 : Nat) : Int); decide), (by show 0 * 2 + 2 ≤ 6; decide)⟩) ?_
     repeat (refine zAe rfl rfl rfl ?_)
     refine zU (c' := .box [.ptr 3 0 1, .ro (qsC r.X) 0 r.X.length]) Z Z Z Z Z Nat.zero_lt_one Z Z (fun i' j' hi' hj' => ?_) ?_
     · rw [if_pos (Nat.lt_one_iff.1 hi')]; rfl
     refine rn5 ?_
     refine zJ Z Z Z oX ?_
     repeat (first | refine zB (zE rfl) ?_ | refine zB (zL rfl) ?_ | refine zD ?_ | refine zA ?_ | refine zR ?_ | refine zG rfl ?_ | refine zr rfl ?_ | refine zi ?_ | refine zB (zP rfl rfl rfl rfl rfl) ?_ | refine zB (zEc rfl rfl) ?_ | refine zB (zBG rfl rfl) ?_ | refine zB (zT rfl) ?_ | refine zB (zI rfl rfl rfl rfl rfl rfl) ?_)
     refine zH 53 (.ro (.strs (r.X.map zu)) 0 (r.X.map zu).length) Z aX ?_
     repeat (first | refine zD ?_ | refine zc ?_ | refine zAi rfl rfl rfl rfl rfl rfl rfl Nat.zero_lt_one ?_)
     refine zA ?_
     refine zBi [some ⟨85, .box [.ro (zA3 A) 0 A.length, .ro (.strs B) 0 B.length, .ro (.strs C) 0 C.length]⟩, some ⟨88, .box [.int .i64 0, .nil, .nil, .nil, .str []]⟩, some ⟨185, .box ([.int .i64 (r.kind : Nat), .ro (qsC r.X) 0 r.X.length, .ro (qsC r.Y) 0 r.Y.length, .ro (qsC r.R) 0 r.R.length] ++ [v1, v2, v3])⟩, some ⟨88, .box [.int .i64 (r.kind : Nat), .ro (.strs (r.X.map zu)) 0 (r.X.map zu).length, .nil, .nil, .str []]⟩] [some ⟨191, .box [.ptr 3 0 1, .ro (qsC r.X) 0 r.X.length]⟩] [(2, .ptr 1 0 0), (5, .ptr 2 0 0), (6, .ptr 3 0 0), (37, .agg [.ptr 3 0 1, .ro (qsC r.X) 0 r.X.length, .ptr 3 0 2, .ro (qsC r.Y) 0 r.Y.length, .ptr 3 0 3, .ro (qsC r.R) 0 r.R.length]), (38, .int .i64 (0 : Nat))] Z ⟨Z, Z, Z, Z, Z, trivial⟩ (fun h hh => by rw [hfix] at hh; exact hh.elim) (fun h o ho => by
       match h, ho with
       | 0, ho => cases ho; exact zCf _ _ rfl
       | 1, ho => cases ho; exact zCf _ _ rfl
       | 2, ho => cases ho; exact zCf _ _ (hvb 4)
       | 3, ho => cases ho; exact zCf _ _ rfl) rfl ?_
     refine rn3 ?_
     exact zQ ⟨1, by decide, by decide, ⟨Z, Z, Z, Z, Z, trivial⟩, Z⟩
   · refine rn1 ?_
     refine zB (zH8 Z Z Z Z Z Z Z ⟨(by show (0 : Int) ≤ ((1 : Nat) : Int); decide), (by show ((1 : Nat) : Int) < ((3 : Nat) : Int); decide), (by show 1 * 2 + 2 ≤ 6; decide)⟩) ?_
     repeat (refine zAe rfl rfl rfl ?_)
     refine zU (c' := .box [.ptr 3 0 2, .ro (qsC r.Y) 0 r.Y.length]) Z Z Z Z Z Nat.zero_lt_one Z Z (fun i' j' hi' hj' => ?_) ?_
     · rw [if_pos (Nat.lt_one_iff.1 hi')]; rfl
     refine rn5 ?_
     refine zJ Z Z Z oY ?_
     repeat (first | refine zB (zE rfl) ?_ | refine zB (zL rfl) ?_ | refine zD ?_ | refine zA ?_ | refine zR ?_ | refine zG rfl ?_ | refine zr rfl ?_ | refine zi ?_ | refine zB (zP rfl rfl rfl rfl rfl) ?_ | refine zB (zEc rfl rfl) ?_ | refine zB (zBG rfl rfl) ?_ | refine zB (zT rfl) ?_ | refine zB (zI rfl rfl rfl rfl rfl rfl) ?_)
     refine zH 53 (.ro (.strs (r.Y.map zu)) 0 (r.Y.map zu).length) Z aY ?_
     repeat (first | refine zD ?_ | refine zc ?_ | refine zAi rfl rfl rfl rfl rfl rfl rfl Nat.zero_lt_one ?_)
     refine zA ?_
     refine zBi [some ⟨85, .box [.ro (zA3 A) 0 A.length, .ro (.strs B) 0 B.length, .ro (.strs C) 0 C.length]⟩, some ⟨88, .box [.int .i64 0, .nil, .nil, .nil, .str []]⟩, some ⟨185, .box ([.int .i64 (r.kind : Nat), .ro (qsC r.X) 0 r.X.length, .ro (qsC r.Y) 0 r.Y.length, .ro (qsC r.R) 0 r.R.length] ++ [v1, v2, v3])⟩, some ⟨88, .box [.int .i64 (r.kind : Nat), .ro (.strs (r.X.map zu)) 0 (r.X.map zu).length, .ro (.strs (r.Y.map zu)) 0 (r.Y.map zu).length, .nil, .str []]⟩] [some ⟨191, .box [.ptr 3 0 2, .ro (qsC r.Y) 0 r.Y.length]⟩] [(2, .ptr 1 0 0), (5, .ptr 2 0 0), (6, .ptr 3 0 0), (37, .agg [.ptr 3 0 1, .ro (qsC r.X) 0 r.X.length, .ptr 3 0 2, .ro (qsC r.Y) 0 r.Y.length, .ptr 3 0 3, .ro (qsC r.R) 0 r.R.length]), (38, .int .i64 (1 : Nat))] Z ⟨Z, Z, Z, Z, Z, trivial⟩ (fun h hh => by rw [hfix] at hh; exact hh.elim) (fun h o ho => by
       match h, ho with
       | 0, ho => cases ho; exact zCf _ _ rfl
       | 1, ho => cases ho; exact zCf _ _ rfl
       | 2, ho => cases ho; exact zCf _ _ (hvb 4)
       | 3, ho => cases ho; exact zCf _ _ rfl) rfl ?_
     refine rn3 ?_
     exact zQ ⟨2, by decide, by decide, ⟨Z, Z, Z, Z, Z, trivial⟩, Z⟩
   · refine rn1 ?_
     refine zB (zH8 Z Z Z Z Z Z Z ⟨(by show (0 : Int) ≤ ((2 : Nat) : Int); decide), (by show ((2 : Nat) : Int) < ((3 : Nat) : Int); decide), (by show 2 * 2 + 2 ≤ 6; decide)⟩) ?_
     repeat (refine zAe rfl rfl rfl ?_)
     refine zU (c' := .box [.ptr 3 0 3, .ro (qsC r.R) 0 r.R.length]) Z Z Z Z Z Nat.zero_lt_one Z Z (fun i' j' hi' hj' => ?_) ?_
     · rw [if_pos (Nat.lt_one_iff.1 hi')]; rfl
     refine rn5 ?_
     refine zJ Z Z Z oR ?_
     repeat (first | refine zB (zE rfl) ?_ | refine zB (zL rfl) ?_ | refine zD ?_ | refine zA ?_ | refine zR ?_ | refine zG rfl ?_ | refine zr rfl ?_ | refine zi ?_ | refine zB (zP rfl rfl rfl rfl rfl) ?_ | refine zB (zEc rfl rfl) ?_ | refine zB (zBG rfl rfl) ?_ | refine zB (zT rfl) ?_ | refine zB (zI rfl rfl rfl rfl rfl rfl) ?_)
     refine zH 53 (.ro (.strs (r.R.map zu)) 0 (r.R.map zu).length) Z aR ?_
     repeat (first | refine zD ?_ | refine zc ?_ | refine zAi rfl rfl rfl rfl rfl rfl rfl Nat.zero_lt_one ?_)
     refine zA ?_
     refine zBi [some ⟨85, .box [.ro (zA3 A) 0 A.length, .ro (.strs B) 0 B.length, .ro (.strs C) 0 C.length]⟩, some ⟨88, .box [.int .i64 0, .nil, .nil, .nil, .str []]⟩, some ⟨185, .box ([.int .i64 (r.kind : Nat), .ro (qsC r.X) 0 r.X.length, .ro (qsC r.Y) 0 r.Y.length, .ro (qsC r.R) 0 r.R.length] ++ [v1, v2, v3])⟩, some ⟨88, .box [.int .i64 (r.kind : Nat), .ro (.strs (r.X.map zu)) 0 (r.X.map zu).length, .ro (.strs (r.Y.map zu)) 0 (r.Y.map zu).length, .ro (.strs (r.R.map zu)) 0 (r.R.map zu).length, .str []]⟩] [some ⟨191, .box [.ptr 3 0 3, .ro (qsC r.R) 0 r.R.length]⟩] [(2, .ptr 1 0 0), (5, .ptr 2 0 0), (6, .ptr 3 0 0), (37, .agg [.ptr 3 0 1, .ro (qsC r.X) 0 r.X.length, .ptr 3 0 2, .ro (qsC r.Y) 0 r.Y.length, .ptr 3 0 3, .ro (qsC r.R) 0 r.R.length]), (38, .int .i64 (2 : Nat))] Z ⟨Z, Z, Z, Z, Z, trivial⟩ (fun h hh => by rw [hfix] at hh; exact hh.elim) (fun h o ho => by
       match h, ho with
       | 0, ho => cases ho; exact zCf _ _ rfl
       | 1, ho => cases ho; exact zCf _ _ rfl
       | 2, ho => cases ho; exact zCf _ _ (hvb 4)
       | 3, ho => cases ho; exact zCf _ _ rfl) rfl ?_
     refine rn3 ?_
     exact zQ ⟨3, by decide, by decide, ⟨Z, Z, Z, Z, Z, trivial⟩, Z⟩
 have hje : j = 3 := by omega
 subst hje
 refine zAW [some ⟨85, .box [.ro (zA3 A) 0 A.length, .ro (.strs B) 0 B.length, .ro (.strs C) 0 C.length]⟩, some ⟨88, .box [.int .i64 0, .nil, .nil, .nil, .str []]⟩, some ⟨185, .box ([.int .i64 (r.kind : Nat), .ro (qsC r.X) 0 r.X.length, .ro (qsC r.Y) 0 r.Y.length, .ro (qsC r.R) 0 r.R.length] ++ [v1, v2, v3])⟩, some ⟨88, .box [.int .i64 (r.kind : Nat), .ro (.strs (r.X.map zu)) 0 (r.X.map zu).length, .ro (.strs (r.Y.map zu)) 0 (r.Y.map zu).length, .ro (.strs (r.R.map zu)) 0 (r.R.map zu).length, .str []]⟩] Z ?_
 refine rn5 ?_
 refine zF Z (fun h3 => ?_) (fun h3 => ?_)
 · have e0 : r.kind = 0 := by omega
   have hv := hVC e0
   rw [if_pos e0] at hR'
   have cO := out_ok r.V (zGx (hD.2.2.2.mono (by omega)))
   have eO : outF r.V = (zu r.V, 0) := by unfold outF; rw [if_pos (f4 e0)]
   rw [eO] at cO
   unfold pairA at cO
   refine zAW [some ⟨85, .box [.ro (zA3 A) 0 A.length, .ro (.strs B) 0 B.length, .ro (.strs C) 0 C.length]⟩, some ⟨88, .box [.int .i64 0, .nil, .nil, .nil, .str []]⟩, some ⟨185, .box ([.int .i64 (r.kind : Nat), .ro (qsC r.X) 0 r.X.length, .ro (qsC r.Y) 0 r.Y.length, .ro (qsC r.R) 0 r.R.length] ++ z7 r.V)⟩, some ⟨88, .box [.int .i64 (r.kind : Nat), .ro (.strs (r.X.map zu)) 0 (r.X.map zu).length, .ro (.strs (r.Y.map zu)) 0 (r.Y.map zu).length, .ro (.strs (r.R.map zu)) 0 (r.R.map zu).length, .str []]⟩] (by rw [hv]) ?_
   refine rn6 ?_
   refine zH 61 (qA r.V) Z (AEq.of_eq Z) ?_
   refine zJ Z Z Z cO ?_
   repeat (first | refine zB (zE rfl) ?_ | refine zB (zL rfl) ?_ | refine zD ?_ | refine zA ?_ | refine zR ?_ | refine zG rfl ?_ | refine zr rfl ?_ | refine zi ?_ | refine zB (zEc rfl rfl) ?_ | refine zB (zBG rfl rfl) ?_ | refine zB (zI rfl rfl rfl rfl rfl rfl) ?_ | refine zB (zp rfl rfl rfl rfl rfl rfl rfl (by first | exact Nat.zero_lt_one | assumption | omega)) ?_ | refine zAi rfl rfl rfl rfl rfl rfl rfl Nat.zero_lt_one ?_)
   refine zU (c' := .box [.int .i64 (r.kind : Nat), .ro (.strs (r.X.map zu)) 0 (r.X.map zu).length, .ro (.strs (r.Y.map zu)) 0 (r.Y.map zu).length, .ro (.strs (r.R.map zu)) 0 (r.R.map zu).length, .str (zu r.V)]) Z Z Z Z Z Nat.zero_lt_one Z Z (fun i' j' hi' hj' => ?_) ?_
   · rw [if_pos (Nat.lt_one_iff.1 hi')]; rfl
   refine rn0 ?_
   exact zO hR' Z Z
 · have e0 : r.kind ≠ 0 := by omega
   rw [if_neg e0] at hR'
   refine rn6 ?_
   refine zU (c' := .box [.int .i64 (r.kind : Nat), .ro (.strs (r.X.map zu)) 0 (r.X.map zu).length, .ro (.strs (r.Y.map zu)) 0 (r.Y.map zu).length, .ro (.strs (r.R.map zu)) 0 (r.R.map zu).length, .str []]) Z Z Z Z Z Nat.zero_lt_one Z Z (fun i' j' hi' hj' => ?_) ?_
   · rw [if_pos (Nat.lt_one_iff.1 hi')]; rfl
   refine rn0 ?_
   exact zO hR' Z Z
end Go.Proofs.YtnkealfaldjipaaGreatDoor
namespace Go.Proofs.YtnkealfaldjipaaGreatDoor
open Go.Ax Go.Ax.Idx
attribute [local irreducible] Ax zBR QOp zY
set_option maxRecDepth 100000
set_option maxHeartbeats 4000000
def zMC (a n : Int) : Int := IntKind.u64.wrap a % n
theorem pickF_bd (a n : Int) (hn : 0 < n) : 0 ≤ zMC a n ∧ zMC a n < n := ⟨Int.emod_nonneg _ (by omega), Int.emod_lt_of_pos _ hn⟩
theorem pick (a n : Int) (hn : 0 < n ∧ n ≤ 1000000) : zZ Tryz.prog 54 [.int .i64 a, .int .i64 n] (.int .i64 (zMC a n)) := by
 refine zY.value0 (zK (P := Tryz.prog) (fn := Tryz.f54) Z Z (by kernel_rfl) Z (fun c hR hfix => ?_)) (fix := fun _ => False) (fun _ h => h) Z Z
 have hw : 0 ≤ IntKind.u64.wrap a := by rw [IntKind.wrap_u64]; omega
 have hwn : IntKind.u64.wrap n = n := by rw [IntKind.wrap_u64]; omega
 have hb := pickF_bd a n hn.1
 refine rn0 ?_
 refine zB (zJh (k' := .u64) Z Z Z) ?_
 repeat (refine zB (zE rfl) ?_)
 refine zB (zJh (k' := .u64) Z Z Z) ?_
 rw [hwn]
 generalize hz : IntKind.u64.wrap a = z at *
 have hpf : zMC a n = z % n := by unfold zMC; rw [hz]
 refine zB (q_rem Z Z (by omega)) ?_
 rw [← hpf]
 refine zB (zEm Z Z Z (by omega)) ?_
 refine rn0 ?_
 exact zO hR Z Z
end Go.Proofs.YtnkealfaldjipaaGreatDoor
namespace Go.Ax.Sx
open Go.Ax.Dt Go.Ax.Rt Go.Ax.Bg
set_option maxRecDepth 100000
abbrev zD9 : Prob := ⟨[[[49], [49]]], [[52]], [[50], [49]]⟩
theorem zGA : zB8 zD9 = 0 := by decide +kernel
theorem zKf : (Prob.prog zD9).Dig 12 := (zCq zGA).Dig (by decide) (by decide +kernel) (by decide +kernel) (by decide +kernel)
theorem zIl : Stops (Prob.prog zD9) 0 1 := by
 refine ⟨fun h => absurd h (by decide +kernel), fun _ => ?_⟩
 exact Option.isNone_iff_eq_none.1 (by decide +kernel)
theorem zNN : (zA8 (Prob.prog zD9) 0 1).kind = 0 := by decide +kernel
theorem eight_X : (zA8 (Prob.prog zD9) 0 1).X = [4, 0] := by decide +kernel
theorem eight_Y : (zA8 (Prob.prog zD9) 0 1).Y = [2] := by decide +kernel
theorem eight_R : (zA8 (Prob.prog zD9) 0 1).R = [] := by decide +kernel
theorem eight_V : (zA8 (Prob.prog zD9) 0 1).V = 8 := by decide +kernel
theorem zH5 : zA8 (Prob.prog zD9) 0 1 = ⟨0, [4, 0], [2], [], 8⟩ := by
 have h1 := zNN
 have h2 := eight_X
 have h3 := eight_Y
 have h4 := eight_R
 have h5 := eight_V
 generalize zA8 (Prob.prog zD9) 0 1 = r at *
 obtain ⟨a, b, c, d, e⟩ := r
 simp only at *
 subst h1 h2 h3 h4 h5
 rfl
theorem zM0 : zF4 ⟨0, [4, 0], [2], [], 8⟩ = true := by decide +kernel
theorem eight_t4 : zu 4 = [52] := by decide +kernel
theorem eight_t0 : zu 0 = [48] := by decide +kernel
theorem eight_t2 : zu 2 = [50] := by decide +kernel
theorem eight_t8 : zu 8 = [56] := by decide +kernel
theorem zOl : verK zD9 0 [[52], [48]] [[50]] [] [56] = 0 := by decide +kernel
theorem zPp : verK zD9 0 [[52], [48]] [[50]] [] [57] = 16 := by decide +kernel
theorem zND : zB8 ⟨[], [[49]], []⟩ = 3 := by decide +kernel
end Go.Ax.Sx
namespace Go.Ax
variable [Pins]
open Go.RowKit
theorem px_gb {P : Program} {fn : Func} {c : Ctx} {H : zN} {all : Array Oper} {K0 : Fr} {i : Nat} {r : List Nat} {st : Go.Ax.Steps} {G : Go.Ax.Steps → Prop} {d : Nat} {t e : TypeId} {n : Nat} {parts : List (Nat × Operand)} {ty : TypeId} {pos : String} {after : Array Edge} {it : TypeInfo} {z : Value} {zs L : List AV} {l : List (Nat × AV)} {cl : Cells} {K : Fr} {j u : Nat} {p : Bool}
   (hi : all[i]? = some ⟨some d, .buildSlice t n parts.toArray, ty, pos, after, some (j, p)⟩) (hK : zFL st K0 ⟨some d, .buildSlice t n parts.toArray, ty, pos, after, some (j, p)⟩ = K) (hy : zEC all j = some u) (hb : look u K = some (.bool p))
   (ht : P.underlying t = some (.slice e)) (hinf : P.info? e = some it) (hz : it.zero = some z) (hzs : zav z = some zs) (hsz : it.size = zs.length) (hpos : Nat.blt 0 zs.length = true) (hsmall : Nat.ble (n * zs.length) 16777216 = true)
   (hl : zCe K parts = some l) (hf : zFR (fun i => some (i * zs.length, zs.length)) (zDI zs n) l = some L) (hcl : zB9 n zs.length L = cl) (hn : noRef.noRefs L = true)
   (h : zDz P fn c H all K0 r ((i, d, .ro cl 0 n) :: st) G) : zDz P fn c H all K0 (i :: r) st G :=
 ⟨_, _, _, hi, rfl, hK ▸ zH7 hy hb (fun k fr hk h2 => zh ht hinf hz hzs hsz hpos hsmall (zE6 hk hl) hf hcl hn h2), h⟩
end Go.Ax
namespace Go.Proofs.YtnkealfaldjipaaGreatDoor
open Go.Ax Go.Ax.Bg Go.Ax.Rt Go.RowKit Go.Ax.Dt Go.Ax.Sx
attribute [local irreducible] Ax zBR QOp zY zBK
set_option maxRecDepth 100000
set_option maxHeartbeats 4000000
theorem zJI : zZ Tryz.prog 113 [] (.agg [.ro (zA3 [[[49], [49]]]) 0 1, .ro (.strs [[52]]) 0 1, .ro (.strs [[50], [49]]) 0 2]) := by
 refine zY.value0 (zK (P := Tryz.prog) (fn := Tryz.f113) Z Z (by kernel_rfl) Z (fun c hR hfix => ?_)) (fix := fun _ => False) (fun _ h => h) Z Z
 refine rn4 ?_
 refine zH 2 (.ro (zA3 [[[49], [49]]]) 0 1) Z (AEq.ro_in Z (fun d j hd hj => ?_)) ?_
 · obtain rfl : d = 0 := by omega
   have hj3 : j = 0 := by have hj : j < 1 := hj; omega
   subst hj3
   refine AEq.ro Z (fun d j hd hj => ?_)
   have hd2 : d = 0 ∨ d = 1 := by omega
   have hj3 : j = 0 := by have hj : j < 1 := hj; omega
   subst hj3
   rcases hd2 with rfl | rfl <;> rfl
 refine zH 3 (.ro (.strs [[52]]) 0 1) Z (AEq.ro Z (fun d j hd hj => ?_)) ?_
 · obtain rfl : d = 0 := by omega
   have hj3 : j = 0 := by have hj : j < 1 := hj; omega
   subst hj3
   rfl
 refine zH 4 (.ro (.strs [[50], [49]]) 0 2) Z (AEq.ro Z (fun d j hd hj => ?_)) ?_
 · have hd2 : d = 0 ∨ d = 1 := by omega
   have hj3 : j = 0 := by have hj : j < 1 := hj; omega
   subst hj3
   rcases hd2 with rfl | rfl <;> rfl
 repeat (refine zB (zAY rfl rfl rfl rfl rfl rfl) ?_)
 refine zU (c' := .box [.ro (zA3 [[[49], [49]]]) 0 1, .ro (.strs [[52]]) 0 1, .ro (.strs [[50], [49]]) 0 2]) Z Z Z Z Z Nat.zero_lt_one Z Z (fun i' j' hi' hj' => ?_) ?_
 · rw [if_pos (Nat.lt_one_iff.1 hi')]; rfl
 refine rn0 ?_
 exact zO hR Z Z
theorem zJj {A : List (List zAX)} {B C : List zAX} (ha : A.length ≤ 100) (hr : (A.all fun r => decide (r.length ≤ 100) && r.all fun s => decide (s.length ≤ 100)) = true) (hb : B.length ≤ 100) (hbs : (B.all fun s => decide (s.length ≤ 100)) = true) (hc : C.length ≤ 100) (hcs : (C.all fun s => decide (s.length ≤ 100)) = true) : ShortPr ⟨A, B, C⟩ := by
 refine ⟨Nat.le_trans ha (by decide), fun r hm => ?_, Nat.le_trans hb (by decide), fun s hs => ?_, Nat.le_trans hc (by decide), fun s hs => ?_⟩
 · have h1 := List.all_eq_true.1 hr r hm
   simp only [Bool.and_eq_true, decide_eq_true_eq, List.all_eq_true] at h1
   exact ⟨by omega, fun s hs => by have := h1.2 s hs; omega⟩
 · have := List.all_eq_true.1 hbs s hs
   simp only [decide_eq_true_eq] at this
   omega
 · have := List.all_eq_true.1 hcs s hs
   simp only [decide_eq_true_eq] at this
   omega
theorem zL3 : zZ Tryz.prog 51 [.agg [.ro (zA3 [[[49], [49]]]) 0 1, .ro (.strs [[52]]) 0 1, .ro (.strs [[50], [49]]) 0 2]]
   (.tup [.agg [.int .i64 (0 : Nat), .ro (.strs [[52], [48]]) 0 2, .ro (.strs [[50]]) 0 1, .ro (.strs []) 0 0, .str [56]], .int .i64 0]) := by
 have h := zKW [[[49], [49]]] [[52]] [[50], [49]] (zJj (by decide) (by decide) (by decide) (by decide) (by decide) (by decide)) zGA 12 0 1 zKf (by decide) (by decide) (by decide) zIl (by
     rw [zH5]; exact zM0) (zLJ zGA zKf (by decide) (by decide) zIl) (by rw [zH5]; decide)
 rw [zH5] at h
 unfold zCp at h
 simp only [List.map, eight_t4, eight_t0, eight_t2, eight_t8, if_pos] at h
 exact h
theorem zIh (v : zAX) (hv : v.length ≤ 100) : ShortR [[52], [48]] [[50]] [] v := by
 refine ⟨⟨by decide, fun s hs => ?_⟩, ⟨by decide, fun s hs => ?_⟩, ⟨by decide, fun s hs => ?_⟩, by omega⟩
 · have h : ∀ s ∈ ([[52], [48]] : List zAX), s.length ≤ 100 := by decide
   have := h s hs; omega
 · have h : ∀ s ∈ ([[50]] : List zAX), s.length ≤ 100 := by decide
   have := h s hs; omega
 · cases hs
theorem zIi : zZ Tryz.prog 49 [] (.bool true) := by
 have hP := zJj (A := [[[49], [49]]]) (B := [[52]]) (C := [[50], [49]]) (by decide) (by decide) (by decide) (by decide) (by decide) (by decide)
 have v1 := zH4 [[[49], [49]]] [[52]] [[50], [49]] 0 [[52], [48]] [[50]] [] [56] (by decide) hP (zIh _ (by decide))
 have v2 := zH4 [[[49], [49]]] [[52]] [[50], [49]] 0 [[52], [48]] [[50]] [] [57] (by decide) hP (zIh _ (by decide))
 have c3 := zFQ [] [[49]] [] (zJj (by decide) (by decide) (by decide) (by decide) (by decide) (by decide))
 rw [zOl] at v1
 rw [zPp] at v2
 rw [zND] at c3
 refine zY.value0 (zK (P := Tryz.prog) (fn := Tryz.f49) Z Z (by kernel_rfl) Z (fun c hR hfix => ?_)) (fix := fun _ => False) (fun _ h => h) Z Z
 refine rn0 ?_
 refine zJ Z Z Z zJI ?_
 refine zJ Z Z Z zL3 ?_
 refine rn4 ?_
 refine zU (c' := .box [.int .i64 (0 : Nat), .ro (.strs [[52], [48]]) 0 2, .ro (.strs [[50]]) 0 1, .ro (.strs []) 0 0, .str [56]]) Z Z Z Z Z Nat.zero_lt_one Z Z (fun i' j' hi' hj' => ?_) ?_
 · rw [if_pos (Nat.lt_one_iff.1 hi')]; rfl
 refine rn6 ?_
 refine zU (c' := .box [.int .i64 (0 : Nat), .ro (.strs [[52], [48]]) 0 2, .ro (.strs [[50]]) 0 1, .ro (.strs []) 0 0, .str [56]]) Z Z Z Z Z Nat.zero_lt_one Z Z (fun i' j' hi' hj' => ?_) ?_
 · rw [if_pos (Nat.lt_one_iff.1 hi')]; rfl
 repeat (first | refine zD ?_ | refine zA ?_ | refine zR ?_ | refine zG rfl ?_ | refine zB (zI rfl rfl rfl rfl rfl rfl) ?_ | refine zAi rfl rfl rfl rfl rfl rfl rfl Nat.zero_lt_one ?_)
 refine zAW [some ⟨88, .box [.int .i64 (0 : Nat), .ro (.strs [[52], [48]]) 0 2, .ro (.strs [[50]]) 0 1, .ro (.strs []) 0 0, .str [56]]⟩, some ⟨88, .box [.int .i64 (0 : Nat), .ro (.strs [[52], [48]]) 0 2, .ro (.strs [[50]]) 0 1, .ro (.strs []) 0 0, .str [57]]⟩] Z ?_
 refine zx (by kernel_rfl) ?_
 refine zEr (fuel := 0) [0, 1, 2, 3, 4, 5, 6, 7, 8, 9, 10, 11, 12, 13, 14, 15, 16, 17, 18, 19, 20, 21, 22, 23, 24, 25, 26, 27, 28, 29, 30] [(1, .ptr 0 0 0), (2, .int .i64 0), (3, .ptr 1 0 0)] ⟨Z, Z, Z, trivial⟩ (by kernel_rfl) (by decide) Z Z ?_
 refine zM Z Z (zE Z) ?_
 refine zM Z Z (zCD Z Z) ?_
 refine zM Z Z (zE Z) ?_
 refine zAK Z Z Z Z (zI Z Z Z Z Z Z) ?_
 refine zAK Z Z Z Z (zP Z Z Z Z Z) ?_
 refine zAK Z Z Z Z (zCD Z Z) ?_
 refine zM Z Z (zAM Z Z) ?_
 refine zM Z Z (zE Z) ?_
 refine zAK Z Z Z Z (zI Z Z Z Z Z Z) ?_
 refine zAK Z Z Z Z (zP Z Z Z Z Z) ?_
 refine zAK Z Z Z Z (zGE Z Z) ?_
 refine zM Z Z (zAM Z Z) ?_
 refine zM Z Z (zE Z) ?_
 refine zEq Z Z Z Z Z Z Z zJI ?_
 refine zAK Z Z Z Z (zp Z Z Z Z Z Z Z (by first | exact Nat.zero_lt_one | assumption | omega)) ?_
 refine zEq Z Z Z Z Z Z Z v1 ?_
 refine zAK Z Z Z Z (zCD Z Z) ?_
 refine zM Z Z (zAM Z Z) ?_
 refine zM Z Z (zE Z) ?_
 refine zEq Z Z Z Z Z Z Z zJI ?_
 refine zAK Z Z Z Z (zp Z Z Z Z Z Z Z (by first | exact Nat.zero_lt_one | assumption | omega)) ?_
 refine zEq Z Z Z Z Z Z Z v2 ?_
 refine zAK Z Z Z Z (zCD Z Z) ?_
 refine zM Z Z (zAM Z Z) ?_
 refine zM Z Z (zE Z) ?_
 refine px_gb Z Z Z Z Z Z Z Z Z Z Z Z Z Z Z ?_
 refine zAK Z Z Z Z (zAY Z Z Z Z Z Z) ?_
 refine zEq Z Z Z Z Z Z Z (fun H => zY.args (c3 H) ⟨zNs ⟨AEq.nil, AEq.ro Z (fun d j hd hj => by
   obtain rfl : d = 0 := by have hd : d < 1 := hd; omega
   have hj3 : j = 0 := by have hj : j < 1 := hj; omega
   subst hj3
   rfl), AEq.nil, trivial⟩, trivial⟩) ?_
 refine zAK Z Z Z Z (zCD Z Z) ?_
 refine zM Z Z (zAM Z Z) ?_
 refine zM Z Z (zL Z) ?_
 refine zAC ?_
 refine zf (by kernel_rfl) ?_
 refine rn0 ?_
 exact zO hR Z Z
theorem zEp {q : Rat} (h : zCZ q = true) : (zu q).length ≤ 9223372036854775807 := by
 have hf := h
 unfold zCZ at hf
 rw [Bool.and_eq_true, decide_eq_true_eq, decide_eq_true_eq] at hf
 unfold zu
 rw [List.length_append, List.length_append]
 split <;> split <;> simp <;> omega
/-- what a short problem gives -/
structure Solved (A : List (List zAX)) (B C : List zAX) (r : Res) : Prop where
 good : Sx.Good (Prob.prog ⟨A, B, C⟩) r
 fits : zF4 r = true
 k3 : r.kind < 3
 short : ShortR (zCp r).X (zCp r).Y (zCp r).R (zCp r).V
 call : zZ Tryz.prog 51 [.agg [.ro (zA3 A) 0 A.length, .ro (.strs B) 0 B.length, .ro (.strs C) 0 C.length]]
     (.tup [.agg [.int .i64 ((zCp r).kind : Nat), .ro (.strs (zCp r).X) 0 (zCp r).X.length, .ro (.strs (zCp r).Y) 0 (zCp r).Y.length, .ro (.strs (zCp r).R) 0 (zCp r).R.length, .str (zCp r).V], .int .i64 0])
theorem solved (A : List (List zAX)) (B C : List zAX) (h : ShortPr ⟨A, B, C⟩) (hc : zB8 ⟨A, B, C⟩ = 0) (hd : (Prob.prog ⟨A, B, C⟩).Dig 12) (hB : B.length ≤ 6) (hC : C.length ≤ 6) :
   ∃ K L, Stops (Prob.prog ⟨A, B, C⟩) K L ∧ Solved A B C (zA8 (Prob.prog ⟨A, B, C⟩) K L) := by
 have hip := zCq hc
 obtain ⟨K, L, hs⟩ := runs (Prob.prog ⟨A, B, C⟩) hip.Ok
 have hg := run_good hip.Ok hs
 have hf := (zLr hc hd hB hC hs).2
 have hD := zLJ hc hd hB hC hs
 obtain ⟨l1, l2, l3, l4⟩ := hg.lens
 have em : (Prob.prog ⟨A, B, C⟩).m = B.length := zHG _
 have en : (Prob.prog ⟨A, B, C⟩).n = C.length := zG7 _
 rw [em] at l2
 rw [en] at l1 l3
 have n4 := (zKh (Prob.prog ⟨A, B, C⟩) K L).2.2.2
 have x1 : (zA8 (Prob.prog ⟨A, B, C⟩) K L).X.length ≤ 6 := by rw [l1]; split <;> omega
 have x2 : (zA8 (Prob.prog ⟨A, B, C⟩) K L).Y.length ≤ 6 := by rw [l2]; split <;> omega
 have x3 : (zA8 (Prob.prog ⟨A, B, C⟩) K L).R.length ≤ 6 := by rw [l3]; split <;> omega
 obtain ⟨f1, f2, f3, f4⟩ := zGI hf
 refine ⟨K, L, hs, hg, hf, n4, ?_, zKW A B C h hc 12 K L hd (by decide) (by omega) (by omega) hs hf hD ⟨by omega, by omega, by omega⟩⟩
 refine ⟨⟨by show (List.map _ _).length ≤ _; rw [List.length_map]; omega, fun s hs => ?_⟩, ⟨by show (List.map _ _).length ≤ _; rw [List.length_map]; omega, fun s hs => ?_⟩, ⟨by show (List.map _ _).length ≤ _; rw [List.length_map]; omega, fun s hs => ?_⟩, ?_⟩
 · obtain ⟨q, hq, rfl⟩ := List.mem_map.1 hs
   exact zEp (f1 q hq)
 · obtain ⟨q, hq, rfl⟩ := List.mem_map.1 hs
   exact zEp (f2 q hq)
 · obtain ⟨q, hq, rfl⟩ := List.mem_map.1 hs
   exact zEp (f3 q hq)
 · show (if _ then _ else _ : zAX).length ≤ _
   split
   · rename_i e; exact zEp (f4 e)
   · exact Nat.zero_le _
theorem matsS {l : List (List (List zAX))} (A : List (List zAX)) (B C : List zAX) (h : ShortPr ⟨A, B, C⟩) : ∀ x ∈ [A, [B, C]], x.length ≤ 9223372036854775807 ∧ ∀ r ∈ x, r.length ≤ 9223372036854775807 ∧ ∀ s ∈ r, s.length ≤ 9223372036854775807 := by
 intro x hx
 simp only [List.mem_cons, List.not_mem_nil, or_false] at hx
 rcases hx with rfl | rfl
 · exact ⟨h.a, h.r⟩
 · refine ⟨by show 2 ≤ 9223372036854775807; decide, fun r hr => ?_⟩
   simp only [List.mem_cons, List.not_mem_nil, or_false] at hr
   rcases hr with rfl | rfl
   · exact ⟨h.b, h.bs⟩
   · exact ⟨h.c, h.cs⟩
theorem rows2 (B C : List zAX) : AEq (.ro (zB9 2 1 [.ro (.strs B) 0 B.length, .ro (.strs C) 0 C.length]) 0 2) (.ro (zA3 [B, C]) 0 2) := AEq.ro rfl (fun d j hd hj => by
 have hd2 : d = 0 ∨ d = 1 := by omega
 have hj3 : j = 0 := by have hj : j < 1 := hj; omega
 subst hj3
 rcases hd2 with rfl | rfl <;> rfl)
theorem mats2 (A : List (List zAX)) (M : List (List zAX)) (n : Nat) (hn : M.length = n) : AEq (.ro (zB9 2 1 [.ro (zA3 A) 0 A.length, .ro (zA3 M) 0 n]) 0 2) (.ro (zLh [A, M]) 0 2) := AEq.ro rfl (fun d j hd hj => by
 subst hn
 have hd2 : d = 0 ∨ d = 1 := by omega
 have hj3 : j = 0 := by have hj : j < 1 := hj; omega
 subst hj3
 rcases hd2 with rfl | rfl <;> rfl)
theorem zH0 (A : List (List zAX)) (B C : List zAX) (h : ShortPr ⟨A, B, C⟩) : zZ Tryz.prog 11 [.agg [.ro (zA3 A) 0 A.length, .ro (.strs B) 0 B.length, .ro (.strs C) 0 C.length]] (.bool true) := by
 have cs := zPh 6 [A, [B, C]] (by decide) (by show 2 ≤ 9223372036854775807; decide) (matsS (l := []) A B C h)
 have cc := zFQ A B C h
 refine zY.value0 (zK (P := Tryz.prog) (fn := Tryz.f11) Z Z (by kernel_rfl) Z (fun cx hR hfix => ?_)) (fix := fun _ => False) (fun _ h => h) Z Z
 refine rn6 ?_
 refine zJ Z Z Z zIi ?_
 repeat (first | refine zD ?_ | refine zA ?_ | refine zR ?_ | refine zG rfl ?_ | refine zr rfl ?_ | refine zi ?_ | refine zB (zP rfl rfl rfl rfl rfl) ?_ | refine zB (zE2 rfl) ?_ | refine zB (zI rfl rfl rfl rfl rfl rfl) ?_)
 refine zh Z Z Z Z Z Z Z Z Z Z Z ?_
 refine zH 13 (.ro (zA3 [B, C]) 0 2) Z (rows2 B C) ?_
 refine zh Z Z Z Z Z Z Z Z Z Z Z ?_
 refine zH 14 (.ro (zLh [A, [B, C]]) 0 2) Z (mats2 A [B, C] 2 Z) ?_
 refine zJ Z Z Z cs ?_
 cases hs : ([A, [B, C]].all (zJG 6 12))
 · refine rn5 ?_
   exact zO hR Z Z
 have hall := hs
 simp only [List.all_cons, List.all_nil, Bool.and_true, Bool.and_eq_true] at hall
 have ht : TinyP 6 12 ⟨A, B, C⟩ := tinyP_of hall.1 hall.2
 by_cases hc : zB8 ⟨A, B, C⟩ = 0
 · obtain ⟨K, L, hst, S⟩ := solved A B C h hc ((zCq hc).Dig (by decide) ht.ta ht.tb ht.tc) ht.m ht.c
   have cv := zH4 A B C _ _ _ _ _ S.k3 h S.short
   have hv := good_ver hc S.good S.fits
   have hv : verK ⟨A, B, C⟩ (zA8 (Prob.prog ⟨A, B, C⟩) K L).kind (zCp (zA8 (Prob.prog ⟨A, B, C⟩) K L)).X (zCp (zA8 (Prob.prog ⟨A, B, C⟩) K L)).Y (zCp (zA8 (Prob.prog ⟨A, B, C⟩) K L)).R (zCp (zA8 (Prob.prog ⟨A, B, C⟩) K L)).V = 0 := hv
   rw [hv] at cv
   have cz := S.call
   generalize hr : zCp (zA8 (Prob.prog ⟨A, B, C⟩) K L) = t at *
   have hk : (zA8 (Prob.prog ⟨A, B, C⟩) K L).kind = t.kind := by rw [← hr]; rfl
   rw [hk] at cv
   refine rn6 ?_
   refine zH 18 (.agg [.ro (zA3 A) 0 A.length, .ro (.strs B) 0 B.length, .ro (.strs C) 0 C.length]) Z (AEq.of_eq Z) ?_
   refine zJ Z Z Z cz ?_
   refine rn4 ?_
   refine zU (c' := .box [.int .i64 (t.kind : Nat), .ro (.strs t.X) 0 t.X.length, .ro (.strs t.Y) 0 t.Y.length, .ro (.strs t.R) 0 t.R.length, .str t.V]) Z Z Z Z Z Nat.zero_lt_one Z Z (fun i' j' hi' hj' => ?_) ?_
   · rw [if_pos (Nat.lt_one_iff.1 hi')]; rfl
   refine rn6 ?_
   refine zH 42 (.agg [.ro (zA3 A) 0 A.length, .ro (.strs B) 0 B.length, .ro (.strs C) 0 C.length]) Z (AEq.of_eq Z) ?_
   refine zH 43 (.agg [.int .i64 (t.kind : Nat), .ro (.strs t.X) 0 t.X.length, .ro (.strs t.Y) 0 t.Y.length, .ro (.strs t.R) 0 t.R.length, .str t.V]) Z (AEq.of_eq Z) ?_
   refine zJ Z Z Z cv ?_
   refine rn4 ?_
   exact zO hR Z Z
 · have cn := solve_no A B C h hc
   generalize zB8 ⟨A, B, C⟩ = e at *
   refine rn6 ?_
   refine zH 18 (.agg [.ro (zA3 A) 0 A.length, .ro (.strs B) 0 B.length, .ro (.strs C) 0 C.length]) Z (AEq.of_eq Z) ?_
   refine zJ Z Z Z cn ?_
   refine rn4 ?_
   refine zU (c' := .box [.int .i64 0, .nil, .nil, .nil, .str []]) Z Z Z Z Z Nat.zero_lt_one Z Z (fun i' j' hi' hj' => ?_) ?_
   · rw [if_pos (Nat.lt_one_iff.1 hi')]; rfl
   refine rn3 ?_
   refine zF Z (fun _ => ?_) (fun hx => absurd hc (fun q => hx q))
   refine rn6 ?_
   refine zH 25 (.agg [.ro (zA3 A) 0 A.length, .ro (.strs B) 0 B.length, .ro (.strs C) 0 C.length]) Z (AEq.of_eq Z) ?_
   refine zJ Z Z Z cc ?_
   refine rn4 ?_
   refine zH 28 (.bool true) Z (AEq.of_eq (by rw [decide_eq_true rfl])) ?_
   refine rn5 ?_
   exact zO hR Z Z
end Go.Proofs.YtnkealfaldjipaaGreatDoor
namespace Go.Proofs.YtnkealfaldjipaaGreatDoor
open Go.Ax Go.Ax.Bg Go.Ax.Rt Go.RowKit Go.Ax.Dt Go.Ax.Sx
set_option maxRecDepth 100000
set_option maxHeartbeats 4000000
theorem rdProb {H : Type} {enc : TypeId × Value → H} {W : World} : Rd enc Tryz.prog W 85 3 cellsX ShortPr :=
 (Rd.struct Tryz.underlying85 (by kernel_rfl) (RdF.cons rfl rfl (Rd.slice [] Tryz.underlying82 (by kernel_rfl) rfl (Rd.strs Tryz.underlying83 (by kernel_rfl) Tryz.underlying27)) (RdF.cons rfl rfl (Rd.strs Tryz.underlying83 (by kernel_rfl) Tryz.underlying27) (RdF.cons rfl rfl (Rd.strs Tryz.underlying83 (by kernel_rfl) Tryz.underlying27) RdF.nil)))).map
   (fun a => (⟨a.1, a.2.1, a.2.2.1⟩ : Prob)) (fun a h => ⟨h.1.1, h.1.2, h.2.1.1, h.2.1.2, h.2.2.1.1, h.2.2.1.2⟩) (fun a => rfl) (fun a i hi => AEq.rfl')
end Go.Proofs.YtnkealfaldjipaaGreatDoor
namespace Go.Proofs.YtnkealfaldjipaaGreatDoor
open Go.ChangeShapes Go.WideShapes
theorem ownIt : ownKnob Tryz.prog.godebug = none := by kernel_rfl
theorem laidIt : laidOutB Tryz.prog = true := by kernel_rfl
theorem zOO : mapsRowed Tryz.prog = true := by kernel_rfl
theorem fullIt : ((List.range Tryz.prog.types.size).all fun t => match Tryz.prog.underlying t with | some (.slice e) => decide (0 < Tryz.prog.cellsOf e) | _ => true) = true := by kernel_rfl
theorem stopsIt : (Tryz.prog.stops == []) = true := by kernel_rfl
theorem knobsIt : (Tryz.prog.stopKnobs == []) = true := by kernel_rfl
theorem heardIt : Tryz.prog.stopsHeard = true := by kernel_rfl
theorem enterIt : Tryz.prog.mayEnter = true := by kernel_rfl
theorem liftIt : (Rows.replyGetsRow.lifted == Tryz.prog.liftsFinal) = true := by kernel_rfl
theorem makeIt : (Tryz.prog.make == some Rows.replyGetsRow.make) = true := by kernel_rfl
theorem plainIt : (Rows.replyGetsRow.plainKeys == Tryz.prog.plainKeys) = true := by kernel_rfl
theorem zPm : Tryz.prog.mainIs = some (true, ("9a7b365347614a0287077179d20768685206a4b5ee48bcf94245b18e3653b2c2" : String).toList) := by kernel_rfl
theorem looksIt : true = Tryz.prog.looks [] := by kernel_rfl
end Go.Proofs.YtnkealfaldjipaaGreatDoor
