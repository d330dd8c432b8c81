import Derived.Test.YtkncmbklkhjmgaaGreatDoorT7
set_option linter.unusedVariables false
set_option linter.unusedSimpArgs false
set_option maxRecDepth 100000
set_option maxHeartbeats 40000000
namespace Go.Proofs.YtkncmbklkhjmgaaGreatDoor
open Go.Ax Go.Ax.Bg Go.Ax.Rt Go.RowKit Go.Ax.Dt Go.Ax.Sx
attribute [local irreducible] Ax zBn QOp zQ zBX
/-- the result of the program -/
def runA (r : Res) : AV := .agg ([iN r.kind, if r.kind = 1 then .nil else .ro (qsC r.X) 0 r.X.length, if r.kind = 2 then .nil else .ro (qsC r.Y) 0 r.Y.length, if r.kind = 2 then .ro (qsC r.R) 0 r.R.length else .nil] ++ (if r.kind = 0 then zT r.V else [.bool false, .nil, .nil]))
theorem zPR (r : Res) : noRef (runA r) = true := by
 obtain ⟨k, X, Y, R, V⟩ := r
 by_cases h0 : k = 0
 ·subst h0; rfl
 ·by_cases h1 : k = 1
  ·subst h1; rfl
  ·by_cases h2 : k = 2
   ·subst h2; rfl
   ·show noRef (.agg ([_, if k = 1 then _ else _, if k = 2 then _ else _, if k = 2 then _ else _] ++ (if k = 0 then _ else _))) = true
    rw [if_neg h0, if_neg h1, if_neg h2, if_neg h2]; rfl
theorem intA_nat (n : Nat) : zA1 ((n : Nat) : Int) = .agg [.bool false, zh n] := by
 unfold zA1
 rw [Int.natAbs_natCast, decide_eq_false (by omega)]
theorem zKv (s : Nat) (t : TypeId) : ∀ X : Tab, zC8 s (zCJ t zC X) = zCJ t zC X
 | [] => rfl
 | a :: r => by
  show some ⟨t, (zC a).shift s⟩ :: zC8 s (zCJ t zC r) = some ⟨t, zC a⟩ :: zCJ t zC r
  rw [zHf, zKv s t r]
theorem zPE (b n L s : Nat) : (zBj b n L).shift s = zBj (s + b) n L := by
 show Cells.fn _ _ _ = Cells.fn _ _ _
 congr 1
 funext i j
 show AV.sl (b + 4 + i + s) 0 L = AV.sl (s + b + 4 + i) 0 L
 rw [show b + 4 + i + s = s + b + 4 + i by omega]
theorem tb_shift (A B : Option AObj) (L w k : Nat) (X : Tab) (d : Int) (β : List Nat) : [A, B] ++ zC8 2 (zc [none, none] none L w k X d β []) = zc [A, B, none, none] none L w k X d β [] := by
 show A :: B :: none :: none :: some (⟨270, zDu 4 k β.length w d⟩ : AObj) :: none :: some (⟨3, zB0 β⟩ : AObj) :: some (⟨265, (zBj 2 X.length L).shift 2⟩ : AObj) :: zC8 2 (zCJ 102 zC X ++ []) = _
 rw [List.append_nil, zKv, zPE]
 show _ = A :: B :: none :: none :: some (⟨270, zDu 4 k β.length w d⟩ : AObj) :: none :: some (⟨3, zB0 β⟩ : AObj) :: some (⟨265, zBj 4 X.length L⟩ : AObj) :: (zCJ 102 zC X ++ [])
 rw [List.append_nil]
theorem zPT {H : zN} {x : Option AObj} {h : Nat} {o : Option AObj} (hh : H[h]? = some o) : (H.set h x)[h]? = some x := List.getElem?_set_self (List.getElem?_eq_some_iff.1 hh).1
theorem Run_ok (p : Prog) (k K L : Nat) (hp : p.Ok) (hk : p.Dig k) (hm : p.m ≤ 30) (hn : p.n ≤ 30) (hk40 : k ≤ 100) (hs : Stops p K L) :
 zU Tryz.prog 122 [.agg [.ro (zY p.A) 0 p.A.length, .ro (qsC p.B) 0 p.B.length, .ro (qsC p.C) 0 p.C.length]] (runA (zDc p K L)) := by
 have hNe : p.N = p.n + p.m + p.a := rfl
 have hal : p.a ≤ p.m := zKD p.B p.B.length
 have hE : p.E k ≤ 3200 := by
  unfold Prog.E
  have : k * (p.n + 1) ≤ 100 * 31 := Nat.mul_le_mul hk40 (by omega)
  omega
 have hT : p.T k ≤ 99262 := by
  unfold Prog.T
  exact Nat.mul_le_mul (show p.E k + 2 ≤ 3202 by omega) (show p.m + 1 ≤ 31 by omega)
 have hET : p.E k ≤ p.T k := by
  unfold Prog.T
  have : (p.E k + 2) * 1 ≤ (p.E k + 2) * (p.m + 1) := Nat.mul_le_mul_left _ (by omega)
  omega
 have cst := zQ.many (start_ok p p.N k hp hk hNe (show p.m ≤ 40 by omega) (show p.n ≤ 40 by omega) (by omega)) (fun _ h => h) rfl
 have hph1 : (⟨zBB p ++ [zBZ (p.n + p.m) p.a p.N ⟨zBB p, 1, zBd p⟩ p.m p.a], 1, zBd p⟩ : St) = ph1 p := by
  have e : zBZ (p.n + p.m) p.a p.N ⟨zBB p, 1, zBd p⟩ p.m p.a = zHL (zCy p) p.m p.N (zAO p) := by
   rw [← zJU p, zOc]; exact zOb p p.a rfl
  rw [e, ← ph1_rows]; rfl
 have htk : (zAO p).rows.take p.m = zBB p := congrArg St.rows (zJU p)
 have hcf : ∀ (G : zN), OkG G → (∀ h, G.length ≤ h → zl h G = G) → 0 < p.a → _ := fun G hG hFG ha => zNQ G hG hFG p.n p.m p.a p.N (zBB p) (zBd p) (M1 p) K (p.T k) hNe (by omega) (by omega) (zCY p) (zGZ p) (fun x hx => (zEz p).row x (List.mem_append_left _ hx))
  (fun i j hi hj => by rw [← htk, zEG hi]; exact Nat.le_trans (zL5 hp hk hi hj) (Nat.pow_le_pow_right (by decide) hET)) (by omega) (by rw [hph1]; exact zMp p) (by rw [hph1]; exact zKY p hp) (by rw [hph1]; exact hs.one ha)
  (fun t ht => zEq ht (by omega) (zOV hp hk)) (fun t ht hf h0 i hi hb => (zHY ht hf).2 (by have := (zHY ht hf).1; omega) i hi hb)
 rw [hph1] at hcf
 refine zQ.value0 (zE (P := Tryz.prog) (fn := Tryz.f122) Z Z (by kernel_rfl) Z (fun c hR hfix => ?_)) (fix := fun _ => False) (fun _ h => h) Z (zPR _)
 refine rn6 ?_
 refine zi (by kernel_rfl) ?_
 refine zq (fuel := 0) [0, 1, 2, 3, 4, 5, 6, 7] [(1, .ptr 0 0 0), (2, .ptr 1 0 0)] ⟨Z, Z, trivial⟩ (by kernel_rfl) (by decide) Z Z ?_
 refine zM Z Z (zH Z Z Z Z Z Z) ?_
 refine zM Z Z (zX Z Z Z Z Z) ?_
 refine zM Z Z (zBy Z Z Z) ?_
 refine zM Z Z (zH Z Z Z Z Z Z) ?_
 refine zM Z Z (zX Z Z Z Z Z) ?_
 refine zM Z Z (zBy Z Z Z) ?_
 refine zM Z Z (zm Z) ?_
 refine zM Z Z (zm Z) ?_
 refine zAC ?_
 refine zW (by kernel_rfl) ?_
 refine rn6 ?_
 refine zD 29 (.agg [.ro (zY p.A) 0 p.A.length, .ro (qsC p.B) 0 p.B.length, .ro (qsC p.C) 0 p.C.length]) Z (AEq.of_eq Z) ?_
 refine zIL (.tup [.ptr 4 0 0, .ro (nsC ((List.range p.m).map p.fac)) 0 p.m, iN p.a]) (zc [some ⟨193, .box [.ro (zY p.A) 0 p.A.length, .ro (qsC p.B) 0 p.B.length, .ro (qsC p.C) 0 p.C.length]⟩, some ⟨190, .box [.int .i64 0, .nil, .nil, .nil, .bool false, .nil, .nil]⟩, none, none] none (p.N + 1) (p.n + p.m) p.m (zBB p) 1 (zBd p) []) Z Z Z cst Z (tb_shift _ _ _ _ _ _ _ _) ?_
 generalize hGG : ([some ⟨193, .box [.ro (zY p.A) 0 p.A.length, .ro (qsC p.B) 0 p.B.length, .ro (qsC p.C) 0 p.C.length]⟩, some ⟨190, .box [.int .i64 0, .nil, .nil, .nil, .bool false, .nil, .nil]⟩, none, none] : zN) = G
 have hG4 : G.length = 4 := by subst hGG; rfl
 have hG : OkG G := by
  rw [← hGG]
  intro m hm o ho
  simp only [List.mem_cons, List.mem_nil_iff, or_false] at ho
  rcases ho with e | e | e | e
  ·cases e; exact zH2 p _
  ·cases e
   intro i j hi hj
   obtain rfl := Nat.lt_one_iff.1 (show i < 1 from hi)
   match j, (show j < 7 from hj) with
   | 0, _ => rfl
   | 1, _ => rfl
   | 2, _ => rfl
   | 3, _ => rfl
   | 4, _ => rfl
   | 5, _ => rfl
   | 6, _ => rfl
  ·cases e
  ·cases e
 have hFG : ∀ h, zl h G = G := fun h => by subst hGG; rfl
 have hg0 : ∀ kk X d β T, (zc G none (p.N + 1) (p.n + p.m) kk X d β T)[0]? = some (some ⟨193, .box [.ro (zY p.A) 0 p.A.length, .ro (qsC p.B) 0 p.B.length, .ro (qsC p.C) 0 p.C.length]⟩) := fun kk X d β T => by subst hGG; rfl
 have hg1 : ∀ kk X d β T, (zc G none (p.N + 1) (p.n + p.m) kk X d β T)[1]? = some (some ⟨190, .box [.int .i64 0, .nil, .nil, .nil, .bool false, .nil, .nil]⟩) := fun kk X d β T => by subst hGG; rfl
 refine zD 30 (.tup [.ptr G.length 0 0, .ro (nsC ((List.range p.m).map p.fac)) 0 p.m, iN p.a]) Z (AEq.of_eq (by rw [hG4])) ?_
 have hcf := hcf G hG (fun h _ => hFG h)
 have hslen : (zc G none (p.N + 1) (p.n + p.m) p.m (zBB p) 1 (zBd p) []).length = G.length + 4 + p.m := by rw [zBC, zCY]; rfl
 have hfl : ((List.range p.m).map p.fac).length = p.m := by simp
 clear cst
 by_cases hneg : 0 < p.a ∧ at2 (zCD p K).rows p.m p.N < 0
 ·rw [zRg hneg] at hR
  have cf := hcf hneg.1
  obtain ⟨o1, o2⟩ := zEv p hp K
  obtain ⟨b1, b2⟩ := zEq o1 (by omega) (zOV hp hk)
  have hD := o1.dp
  obtain ⟨KK, hKK⟩ : ∃ KK, KK = 99300 := ⟨_, rfl⟩
  have cu := zLA ((List.range p.m).map (fun i => Rat.divInt (at2 (zCD p K).rows p.m (p.n + i)) (zCD p K).den)) ((List.range p.m).map p.fac) KK (by simp) (by simp; omega) (fun q hq => by
   obtain ⟨i, hi, rfl⟩ := List.mem_map.1 hq
   have hi : i < p.m := by simpa using hi
   exact (zET (by omega) (zCw (b1 p.m (p.n + i) (by omega) (by omega))) (zCw b2)).mono (by omega)) (fun q hq => by
   obtain ⟨i, hi, rfl⟩ := List.mem_map.1 hq
   have hi : i < p.m := by simpa using hi
   refine Nat.lt_of_lt_of_le (zCw (zOv hp hk hi)) (Nat.pow_le_pow_right (by decide) ?_)
   have : k * (p.n + 1) ≤ 100 * 31 := Nat.mul_le_mul hk40 (by omega)
   omega) (by omega)
  rw [show ((List.range p.m).map (fun i => Rat.divInt (at2 (zCD p K).rows p.m (p.n + i)) (zCD p K).den)).length = p.m by simp, hfl] at cu
  have hy : zJY ((List.range p.m).map (fun i => Rat.divInt (at2 (zCD p K).rows p.m (p.n + i)) (zCD p K).den)) ((List.range p.m).map p.fac) p.m = yL p (zCD p K) (zCD p K).den := (yL_as p (zCD p K) (zCD p K).den).symm
  rw [hy] at cu
  have hyl : (yL p (zCD p K) (zCD p K).den).length = p.m := by simp [yL]
  refine rn6 ?_
  refine zA Z (fun _ => ?_) (fun hx => absurd hneg.1 (by omega))
  refine rn0 ?_
  refine zM8 (G.length + 3) Z Z Z cf (fun h q1 q2 => ⟨q1, q2⟩) (fun h q => q.1) (by rw [hfix]; exact fun h => h) ?_
  intro r' H' hr'
  rcases hr' with ⟨h1, rfl, rfl⟩ | ⟨h1, rfl, rfl⟩
  ·refine ⟨by rw [hslen, zBC, show (zAc p.m p.N (p.n + p.m) (ph1 p) K).rows.length = p.m + 1 from o1.n]; omega, ?_⟩
   refine zBl ((41, .tup [.ro (qsC ((List.range p.m).map (fun i => Rat.divInt (at2 (zCD p K).rows p.m (p.n + i)) (zCD p K).den))) 0 p.m, .bool false]) :: [(1, .ptr 0 0 0), (2, .ptr 1 0 0), (3, iN p.n), (4, iN p.m), (5, .ptr G.length 0 0), (6, .ro (nsC ((List.range p.m).map p.fac)) 0 p.m), (7, iN p.a)]) ⟨Z, zAq (h := G.length + 3) (L := [(1, .ptr 0 0 0), (2, .ptr 1 0 0), (3, iN p.n), (4, iN p.m), (5, .ptr G.length 0 0), (6, .ro (nsC ((List.range p.m).map p.fac)) 0 p.m), (7, iN p.a)]) ⟨Z, Z, Z, Z, Z, Z, Z, trivial⟩ (by
   intro q hq
   simp only [List.mem_cons, List.mem_nil_iff, or_false] at hq
   rcases hq with rfl | rfl | rfl | rfl | rfl | rfl | rfl <;> simp [AV.forget, zh, zr (show G.length ≠ G.length + 3 by omega), zr (show 0 ≠ G.length + 3 by omega), zr (show 1 ≠ G.length + 3 by omega)])⟩ ?_
   refine rn5 ?_
   refine zB Z Z Z cu ?_
   repeat (refine zG (zBH rfl rfl rfl rfl rfl rfl) ?_)
   refine zz (c' := .box [.int .i64 1, .nil, .ro (qsC (yL p (zCD p K) (zCD p K).den)) 0 p.m, .nil, .bool false, .nil, .nil]) Z Z Z (hg1 _ _ _ _ _) Z Nat.zero_lt_one Z Z (fun i' j' hi' hj' => ?_) ?_
   ·rw [if_pos (Nat.lt_one_iff.1 hi')]; rfl
   refine rn2 ?_
   refine zL hR (zGD Z (zPT (hg1 _ _ _ _ _)) Z Z Z) ?_
   show AV.agg _ = runA _
   unfold runA
   simp only [hyl]
   rfl
  ·exact absurd hneg.2 h1
 have h0 := zG4 hp hneg
 have hph := zKZ p hp K h0
 obtain ⟨b1, b2⟩ := zEq hph.1 (by omega) (zGk hp hk)
 have hrows := ph2_rows p K
 have hXl : (Sx.cutS p.m (mid p K)).rows.length = p.m := by
  have e := hph.1.n
  rw [hrows, List.length_append] at e
  exact Nat.succ.inj e
 have hXr : ∀ x ∈ (Sx.cutS p.m (mid p K)).rows, x.length = p.N + 1 := fun x hx => hph.1.row x (by rw [hrows]; exact List.mem_append_left _ hx)
 have hXb : ∀ i j, i < p.m → j < p.N + 1 → (at2 (Sx.cutS p.m (mid p K)).rows i j).natAbs ≤ 10 ^ p.T k := fun i j hi hj => by
  have e : at2 (ph2 p K).rows i j = at2 (Sx.cutS p.m (mid p K)).rows i j := by
   unfold at2
   rw [hrows, zJz [] (by rw [hXl]; exact hi)]
  rw [← e]; exact b1 i j (by omega) hj
 have hβl : (mid p K).basis.length = p.m := hph.1.b
 have hdb : (mid p K).den.natAbs ≤ 10 ^ p.T k := b2
 have hlast : (ph2 p K) = ⟨(Sx.cutS p.m (mid p K)).rows ++ [zDC (zBV p) p.N (Sx.cutS p.m (mid p K)) p.m], (mid p K).den, (mid p K).basis⟩ := by
  rw [zQz (Nat.le_refl _), ← hrows]; rfl
 have hl0 := last0 p (Sx.cutS p.m (mid p K))
 have hcab := fun i j (hi : i ≤ p.m) (hj : j < p.N + 1) => zQy (p := p) (k := k) (E := p.T k) (s := Sx.cutS p.m (mid p K)) (i := i) (j := j) hk (by omega) (fun q hq => hXb q j (by omega) hj) hdb hj
 apply zAK (H := stH G p.N (p.n + p.m) p.m (Sx.cutS p.m (mid p K))) [(1, .ptr 0 0 0), (2, .ptr 1 0 0), (3, iN p.n), (4, iN p.m), (5, .ptr G.length 0 0), (6, .ro (nsC ((List.range p.m).map p.fac)) 0 p.m), (7, iN p.a)]
 ·intro fin
  by_cases ha : 0 < p.a
  ·have cf := hcf ha
   rw [zNd p hp K (by omega)] at fin
   refine rn6 ?_
   refine zA Z (fun _ => ?_) (fun hx => absurd ha (by omega))
   refine rn0 ?_
   refine zM8 (G.length + 3) Z Z Z cf (fun h q1 q2 => ⟨q1, q2⟩) (fun h q => q.1) (by rw [hfix]; exact fun h => h) ?_
   intro r' H' hr'
   rcases hr' with ⟨h1, rfl, rfl⟩ | ⟨h1, rfl, rfl⟩
   ·exact absurd ⟨ha, h1⟩ hneg
   ·have hdl : (zBS (p.n + p.m) (Sx.cutS p.m (zAc p.m p.N (p.n + p.m) (ph1 p) K)) p.m).rows.length = p.m := by
     rw [zNd p hp K (by omega)] at hXl; exact hXl
    refine ⟨by rw [hslen, zBC, hdl]; omega, ?_⟩
    refine zBl ((41, .tup [.nil, .bool true]) :: [(1, .ptr 0 0 0), (2, .ptr 1 0 0), (3, iN p.n), (4, iN p.m), (5, .ptr G.length 0 0), (6, .ro (nsC ((List.range p.m).map p.fac)) 0 p.m), (7, iN p.a)]) ⟨Z, zAq (h := G.length + 3) (L := [(1, .ptr 0 0 0), (2, .ptr 1 0 0), (3, iN p.n), (4, iN p.m), (5, .ptr G.length 0 0), (6, .ro (nsC ((List.range p.m).map p.fac)) 0 p.m), (7, iN p.a)]) ⟨Z, Z, Z, Z, Z, Z, Z, trivial⟩ (by
   intro q hq
   simp only [List.mem_cons, List.mem_nil_iff, or_false] at hq
   rcases hq with rfl | rfl | rfl | rfl | rfl | rfl | rfl <;> simp [AV.forget, zh, zr (show G.length ≠ G.length + 3 by omega), zr (show 0 ≠ G.length + 3 by omega), zr (show 1 ≠ G.length + 3 by omega)])⟩ ?_
    refine zBc ?_
    refine z7 ?_
    refine zg Z ?_
    refine zBc ?_
    exact fin _ ⟨Z, Z, Z, Z, Z, Z, Z, trivial⟩
  ·have ha0 : p.a = 0 := by omega
   rw [mid_cut0 p K ha0] at fin
   refine zBc ?_
   refine z7 ?_
   refine z7 ?_
   refine zg Z ?_
   refine zBc ?_
   refine zA Z (fun hx => absurd hx (by omega)) (fun _ => ?_)
   refine zBc ?_
   exact fin _ ⟨Z, Z, Z, Z, Z, Z, Z, trivial⟩
 generalize hX : (Sx.cutS p.m (mid p K)).rows = X at *
 have hde : (Sx.cutS p.m (mid p K)).den = (mid p K).den := rfl
 have hbe : (Sx.cutS p.m (mid p K)).basis = (mid p K).basis := rfl
 have hme : Sx.cutS p.m (mid p K) = ⟨X, (mid p K).den, (mid p K).basis⟩ := by rw [← hX]; rfl
 rw [hme] at hlast hl0 hcab
 generalize (mid p K).den = d at *
 generalize (mid p K).basis = β at *
 have hstE : stH G p.N (p.n + p.m) p.m (Sx.cutS p.m (mid p K)) = zc G none (p.N + 1) (p.n + p.m) p.m X d β [] := by rw [hme]
 refine zAj (zc G none (p.N + 1) (p.n + p.m) p.m X d β []) hstE ?_
 clear hcf hph1 hslen hX hde hbe hme hstE hrows b1 b2
 have cWC := zM0 p.C k hk.c (show p.n ≤ 1000 by omega) (by show k * p.n + k ≤ _; have : k * p.n ≤ 100 * 30 := Nat.mul_le_mul hk40 hn; omega)
 have hlen : ∀ T, (zc G none (p.N + 1) (p.n + p.m) p.m X d β T).length = G.length + 4 + p.m + T.length := fun T => by rw [zBC, hXl]
 have gC := hg0 p.m X d β []
 refine rn7 ?_
 refine zIL (.tup [.sl (G.length + 4 + p.m) 0 p.n, zh p.fc]) (zc G none (p.N + 1) (p.n + p.m) p.m X d β [some ⟨102, zC (zAk p.C)⟩]) Z Z Z cWC (by rw [hlen]; show AV.tup [AV.sl (0 + (G.length + 4 + p.m)) 0 _, _] = _; rw [Nat.zero_add]; rfl) (by show _ ++ [some (⟨_, (zC _).shift _⟩ : AObj)] = _; rw [zHf, zAZ]; rfl) ?_
 have hWl : (zAk p.C).length = p.n := zGe _
 have hWb : ∀ j, j < p.n → ((zAk p.C).getD j 0).natAbs ≤ 10 ^ p.E k := fun j hj => zJa hk hj
 have hcs : ∀ j, j < p.n → -(zBV p j) = (zAk p.C).getD j 0 := fun j hj => cosK_neg hj
 have hcz : ∀ j, ¬ (j < p.n ∧ (zAk p.C).getD j 0 ≠ 0) → zBV p j = 0 := fun j hj => zQv hj
 generalize zAk p.C = WC at *
 clear gC cWC
 refine rn3 ?_
 refine zD 61 (.int .i64 ((p.N + 1 : Nat))) Z (AEq.of_eq (by show AV.int _ _ = AV.int _ _; congr 1)) ?_
 refine zCz Z Z Z Z Z Z Z Z (by show (0 : Int) ≤ _ ∧ _ ≤ _ ∧ (32 : Int) * _ ≤ _ ∧ _; omega) ?_
 refine zGG (zc G none (p.N + 1) (p.n + p.m) p.m X d β [some ⟨102, zC WC⟩] ++ [some ⟨102, zC (List.replicate (p.N + 1) 0)⟩]) (by simp only [List.length_append, List.length_cons, List.length_nil]) zIH ?_
 refine zO (zc G none (p.N + 1) (p.n + p.m) p.m X d β [some ⟨102, zC WC⟩, some ⟨102, zC (chg (fun q => -(WC.getD q 0) * d) 0 (List.replicate (p.N + 1) 0) 0)⟩]) (by rw [zAZ, zDB]; rfl) ?_
 refine zD 62 (.sl (G.length + 4 + p.m + 1) 0 (p.N + 1)) Z (AEq.of_eq (by rw [hlen]; rfl)) ?_
 have hdD : ∀ x : Int, ∀ e, e ≤ 3599990 → x.natAbs ≤ 10 ^ e → (zS x.natAbs).length ≤ 400001 := fun x e he hx => zFR hx (by omega)
 refine rn3 ?_
 refine zZ (ι := Nat) (fun j => [(1, .ptr 0 0 0), (2, .ptr 1 0 0), (3, iN p.n), (4, iN p.m), (5, .ptr G.length 0 0), (6, .ro (nsC ((List.range p.m).map p.fac)) 0 p.m), (7, iN p.a), (10, .sl (G.length + 4 + p.m) 0 p.n), (11, zh p.fc), (12, .sl (G.length + 4 + p.m + 1) 0 (p.N + 1)), (63, .sl (G.length + 4 + p.m) 0 p.n), (64, iN p.n), (65, iN j)]) (fun j => zc G none (p.N + 1) (p.n + p.m) p.m X d β [some ⟨102, zC WC⟩, some ⟨102, zC (chg (fun q => -(WC.getD q 0) * d) 0 (List.replicate (p.N + 1) 0) j)⟩]) (fun j => j ≤ p.n) (fun j => p.n - j) 0 ⟨⟨Z, Z, Z, Z, Z, Z, Z, Z, Z, Z, Z, Z, Z, trivial⟩, Z, Nat.zero_le _⟩ ?_
 intro j hj
 refine rn4 ?_
 refine zA Z (fun h => ?_) (fun h => ?_)
 ·have hj' : j < p.n := by omega
  have hgj := zC1 (fun q => -(WC.getD q 0) * d) 0 (List.replicate (p.N + 1) 0) (k := j) (i := j) (by simp; omega)
  have hsj := zDf (fun q => -(WC.getD q 0) * d) 0 (List.replicate (p.N + 1) 0) (k := j) (by simp; omega)
  have hlj := zCp (fun q => -(WC.getD q 0) * d) 0 (List.replicate (p.N + 1) 0) j
  rw [List.length_replicate] at hlj
  generalize hYY : chg (fun q => -(WC.getD q 0) * d) 0 (List.replicate (p.N + 1) 0) j = Y at *
  have q0 := zAa (G := G) (F := none) (L := p.N + 1) (w := p.n + p.m) (k := p.m) (X := X) (d := d) (β := β) (T := [some ⟨102, zC WC⟩, some ⟨102, zC Y⟩]) 0
  rw [hXl, Nat.add_zero] at q0
  have g0 : j < (zC WC).len := by show j < WC.length; omega
  refine rn7 ?_
  refine zO (zc G none (p.N + 1) (p.n + p.m) p.m X d β [some ⟨102, zC WC⟩, some ⟨102, zC Y⟩, some ⟨102, .box [.bool false, .nil]⟩]) (by rw [zAZ]; rfl) ?_
  refine zD 14 (.ptr (G.length + 4 + p.m + 2) 0 0) Z (AEq.of_eq (by rw [hlen]; rfl)) ?_
  refine zD 69 (zA1 (WC.getD j 0)) Z (AEq.of_eq Z) ?_
  have q2 := zAa (G := G) (F := none) (L := p.N + 1) (w := p.n + p.m) (k := p.m) (X := X) (d := d) (β := β) (T := [some ⟨102, zC WC⟩, some ⟨102, zC Y⟩, some ⟨102, .box [.bool false, .nil]⟩]) 2
  rw [hXl] at q2
  refine zz (c' := .box (zj (WC.getD j 0))) Z Z Z q2 Z Nat.zero_lt_one Z Z (fun i' j' hi' hj' => ?_) ?_
  ·rw [if_pos (Nat.lt_one_iff.1 hi')]; rfl
  refine zO (zc G none (p.N + 1) (p.n + p.m) p.m X d β [some ⟨102, zC WC⟩, some ⟨102, zC Y⟩, some ⟨102, .box (zj (WC.getD j 0))⟩]) (by have q := zAI (G := G) (F := none) (L := p.N + 1) (w := p.n + p.m) (k := p.m) (X := X) (d := d) (β := β) (T := [some ⟨102, zC WC⟩, some ⟨102, zC Y⟩, some ⟨102, .box [.bool false, .nil]⟩]) 2 (some ⟨102, .box (zj (WC.getD j 0))⟩); rw [hXl] at q; exact q) ?_
  clear q0 q2
  have f1 := zA2 (G := G) (F := none) (L := p.N + 1) (w := p.n + p.m) (k := p.m) (X := X) (d := d) (β := β) (T := [some ⟨102, zC WC⟩, some ⟨102, zC Y⟩, some ⟨102, .box (zj (WC.getD j 0))⟩])
  have q1 := zAa (G := G) (F := none) (L := p.N + 1) (w := p.n + p.m) (k := p.m) (X := X) (d := d) (β := β) (T := [some ⟨102, zC WC⟩, some ⟨102, zC Y⟩, some ⟨102, .box (zj (WC.getD j 0))⟩]) 1
  have q2 := zAa (G := G) (F := none) (L := p.N + 1) (w := p.n + p.m) (k := p.m) (X := X) (d := d) (β := β) (T := [some ⟨102, zC WC⟩, some ⟨102, zC Y⟩, some ⟨102, .box (zj (WC.getD j 0))⟩]) 2
  rw [hXl] at q1 q2
  have g1 : j < (zC Y).len := by show j < Y.length; omega
  have co := zGL (WC.getD j 0)
  have cm := zCS (-(WC.getD j 0)) d (by rw [Int.natAbs_neg]; have := hdD _ _ (by omega) (hWb j hj'); omega) (by have := hdD _ _ (by omega) hdb; omega)
  refine rn0 ?_
  refine zi (by kernel_rfl) ?_
  refine zq (fuel := 1) [0, 1, 2, 3, 4, 5, 6, 7, 8, 9] [(1, .ptr 0 0 0), (2, .ptr 1 0 0), (3, iN p.n), (4, iN p.m), (5, .ptr G.length 0 0), (6, .ro (nsC ((List.range p.m).map p.fac)) 0 p.m), (7, iN p.a), (10, .sl (G.length + 4 + p.m) 0 p.n), (11, zh p.fc), (12, .sl (G.length + 4 + p.m + 1) 0 (p.N + 1)), (63, .sl (G.length + 4 + p.m) 0 p.n), (64, iN p.n), (65, iN j), (13, iN j), (14, .ptr (G.length + 4 + p.m + 2) 0 0)] ⟨Z, Z, Z, Z, Z, Z, Z, Z, Z, Z, Z, Z, Z, Z, Z, trivial⟩ (by kernel_rfl) (by decide) Z Z ?_
  refine zM Z Z (zK Z) ?_
  refine zM Z Z (zK Z) ?_
  refine zM Z Z (qas Z Z Z Z) ?_
  refine zA8 Z Z Z Z Z co ?_
  refine zM Z Z (zK Z) ?_
  refine zM Z Z (zd Z) ?_
  refine zM Z Z (zH Z Z Z Z Z Z) ?_
  refine zM Z Z (qps Z Z Z Z) ?_
  refine zA8 Z Z Z Z Z cm ?_
  refine zM Z Z (qis Z Z Z) ?_
  refine zAC ?_
  refine zF (is := [10]) (by kernel_rfl) (by simp) Z ⟨fun o ho => ?_, trivial⟩
  all_goals (cases ho)
  refine zz (c' := zC (Y.set j (-(WC.getD j 0) * d))) Z Z Z q1 Z g1 (List.length_set ..) Z (zDL Y j _) ?_
  refine zO (zc G none (p.N + 1) (p.n + p.m) p.m X d β [some ⟨102, zC WC⟩, some ⟨102, zC (Y.set j (-(WC.getD j 0) * d))⟩, some ⟨102, .box (zj (WC.getD j 0))⟩]) (by have q := zAI (G := G) (F := none) (L := p.N + 1) (w := p.n + p.m) (k := p.m) (X := X) (d := d) (β := β) (T := [some ⟨102, zC WC⟩, some ⟨102, zC Y⟩, some ⟨102, .box (zj (WC.getD j 0))⟩]) 1 (some ⟨102, zC (Y.set j (-(WC.getD j 0) * d))⟩); rw [hXl] at q; exact q) ?_
  refine rn1 ?_
  refine zW (by kernel_rfl) ?_
  repeat (refine zAP ?_)
  refine zI ?_
  refine zA3 (zc G none (p.N + 1) (p.n + p.m) p.m X d β [some ⟨102, zC WC⟩, some ⟨102, zC (Y.set j (-(WC.getD j 0) * d))⟩]) [some ⟨102, .box (zj (WC.getD j 0))⟩] [(1, .ptr 0 0 0), (2, .ptr 1 0 0), (3, iN p.n), (4, iN p.m), (5, .ptr G.length 0 0), (6, .ro (nsC ((List.range p.m).map p.fac)) 0 p.m), (7, iN p.a), (10, .sl (G.length + 4 + p.m) 0 p.n), (11, zh p.fc), (12, .sl (G.length + 4 + p.m + 1) 0 (p.N + 1)), (63, .sl (G.length + 4 + p.m) 0 p.n), (64, iN p.n), (65, iN j)] (by rw [zAZ]; rfl) ⟨Z, Z, Z, Z, Z, Z, Z, Z, Z, Z, Z, Z, Z, trivial⟩ (fun h hh => by rw [hfix] at hh; exact hh.elim)
   (zCN hG _ (by rw [hlen, hXl]; exact Nat.le_add_right _ _) (fun o ho => by cases ho) (fun o ho => by
    simp only [List.mem_cons, List.mem_nil_iff, or_false] at ho
    rcases ho with e | e <;> cases e <;> exact fun i' j' hi' hj' => zFd _ _ _ hj')) (by rw [hlen]; simp [zDO, zCB, zh]; omega) ?_
  refine rn3 ?_
  exact zJ ⟨j + 1, by omega, by omega, ⟨Z, Z, Z, Z, Z, Z, Z, Z, Z, Z, Z, Z, Z, trivial⟩, by rw [← hsj]⟩
 have hje : j = p.n := by omega
 rw [hje, hl0]
 clear hj h hje
 clear j
 have f1 := zA2 (G := G) (F := none) (L := p.N + 1) (w := p.n + p.m) (k := p.m) (X := X) (d := d) (β := β) (T := [some ⟨102, zC WC⟩, some ⟨102, zC (zDC (zBV p) p.N ⟨X, d, β⟩ 0)⟩])
 rw [hβl] at f1
 refine rn15 ?_
 refine zZ (ι := Nat) (fun i => [(1, .ptr 0 0 0), (2, .ptr 1 0 0), (3, iN p.n), (4, iN p.m), (5, .ptr G.length 0 0), (6, .ro (nsC ((List.range p.m).map p.fac)) 0 p.m), (7, iN p.a), (10, .sl (G.length + 4 + p.m) 0 p.n), (11, zh p.fc), (12, .sl (G.length + 4 + p.m + 1) 0 (p.N + 1)), (84, .sl (G.length + 2) 0 p.m), (85, iN p.m), (86, iN i)]) (fun i => zc G none (p.N + 1) (p.n + p.m) p.m X d β [some ⟨102, zC WC⟩, some ⟨102, zC (zDC (zBV p) p.N ⟨X, d, β⟩ i)⟩]) (fun i => i ≤ p.m) (fun i => p.m - i) 0 ⟨⟨Z, Z, Z, Z, Z, Z, Z, Z, Z, Z, Z, Z, Z, trivial⟩, Z, Nat.zero_le _⟩ ?_
 clear f1
 intro i hi
 refine rn4 ?_
 refine zA Z (fun h => ?_) (fun h => ?_)
 ·have hi' : i < p.m := by omega
  have f2 := zFn (G := G) (F := none) (L := p.N + 1) (w := p.n + p.m) (k := p.m) (X := X) (d := d) (β := β) (T := [some ⟨102, zC WC⟩, some ⟨102, zC (zDC (zBV p) p.N ⟨X, d, β⟩ i)⟩])
  have g2 : i < (β.map (fun a : Nat => (a : Int))).length := by rw [List.length_map, hβl]; exact hi'
  have hcl := zHK (zBV p) p.N ⟨X, d, β⟩ i
  have hcl2 := zHK (zBV p) p.N ⟨X, d, β⟩ (i + 1)
  have hnx := fun j (hj : j < p.N + 1) => zOh (k := zBV p) (N := p.N) (s := ⟨X, d, β⟩) (i := i) hj
  have hsk := fun h => zOi (k := zBV p) (N := p.N) (s := ⟨X, d, β⟩) (i := i) h
  have hab := fun j (hj : j < p.N + 1) => hcab i j (by omega) hj
  have lI : (X.getD i []).length = p.N + 1 := hXr _ (zAD [] (by omega))
  generalize hC2 : (zDC (zBV p) p.N ⟨X, d, β⟩ (i + 1)) = C2 at *
  generalize hC1 : (zDC (zBV p) p.N ⟨X, d, β⟩ i) = C1 at *
  have q0 := zAa (G := G) (F := none) (L := p.N + 1) (w := p.n + p.m) (k := p.m) (X := X) (d := d) (β := β) (T := [some ⟨102, zC WC⟩, some ⟨102, zC C1⟩]) 0
  rw [hXl, Nat.add_zero] at q0
  by_cases hb : β.getD i 0 < p.n
  ·have g0 : β.getD i 0 < (zC WC).len := by show _ < WC.length; omega
   have cs := zEK (WC.getD (β.getD i 0) 0)
   refine rn7 ?_
   refine zD 16 (iN (β.getD i 0)) Z (AEq.of_eq (by rw [zAr])) ?_
   refine zD 94 (.bool true) Z (AEq.of_eq (by rw [zAr, decide_eq_true (by show ((β.getD i 0 : Nat) : Int) < ((p.n : Nat) : Int); omega)])) ?_
   refine zDt ?_
   refine zD 98 (zA1 (WC.getD (β.getD i 0) 0)) Z (AEq.of_eq Z) ?_
   refine zB Z Z Z cs ?_
   refine rn3 ?_
   refine zA Z (fun h1 => ?_) (fun h1 => ?_)
   ·have hcc := hcs _ hb
    have bW := hWb _ hb
    clear f2 g2 q0
    refine rn3 ?_
    refine zZ (ι := Nat) (fun j => [(1, .ptr 0 0 0), (2, .ptr 1 0 0), (3, iN p.n), (4, iN p.m), (5, .ptr G.length 0 0), (6, .ro (nsC ((List.range p.m).map p.fac)) 0 p.m), (7, iN p.a), (10, .sl (G.length + 4 + p.m) 0 p.n), (11, zh p.fc), (12, .sl (G.length + 4 + p.m + 1) 0 (p.N + 1)), (84, .sl (G.length + 2) 0 p.m), (85, iN p.m), (86, iN i), (15, iN i), (16, iN (β.getD i 0)), (103, .int .i64 ((p.N + 1 : Nat))), (104, iN j)]) (fun j => zc G none (p.N + 1) (p.n + p.m) p.m X d β [some ⟨102, zC WC⟩, some ⟨102, zC (chg (fun j => C2.getD j 0) 0 C1 j)⟩]) (fun j => j ≤ p.N + 1) (fun j => p.N + 1 - j) 0 ⟨⟨Z, Z, Z, Z, Z, Z, Z, Z, Z, Z, Z, Z, Z, Z, Z, Z, Z, trivial⟩, by rw [zDB], Nat.zero_le _⟩ ?_
    intro j hj
    refine rn4 ?_
    refine zA Z (fun h2 => ?_) (fun h2 => ?_)
    ·have hj' : j < p.N + 1 := by omega
     have hgj := zC1 (fun j => C2.getD j 0) 0 C1 (k := j) (i := j) (by omega)
     rw [if_neg (Nat.lt_irrefl j)] at hgj
     have hsj := zDf (fun j => C2.getD j 0) 0 C1 (k := j) (by omega)
     have hlj := zCp (fun j => C2.getD j 0) 0 C1 j
     have hnj := hnx j hj'
     rw [hcc, ← hgj] at hnj
     rw [hnj] at hsj
     have ab := hab j hj'
     rw [← hgj] at ab
     generalize chg (fun j => C2.getD j 0) 0 C1 j = Y at *
     have q1 := zA2 (G := G) (F := none) (L := p.N + 1) (w := p.n + p.m) (k := p.m) (X := X) (d := d) (β := β) (T := [some ⟨102, zC WC⟩, some ⟨102, zC Y⟩])
     have q2 := zCn (G := G) (F := none) (L := p.N + 1) (w := p.n + p.m) (k := p.m) (X := X) (d := d) (β := β) (T := [some ⟨102, zC WC⟩, some ⟨102, zC Y⟩])
     have q3 := zCZ (G := G) (F := none) (L := p.N + 1) (w := p.n + p.m) (k := p.m) (X := X) (d := d) (β := β) (T := [some ⟨102, zC WC⟩, some ⟨102, zC Y⟩]) (a := i) (by omega)
     have q4 := zAa (G := G) (F := none) (L := p.N + 1) (w := p.n + p.m) (k := p.m) (X := X) (d := d) (β := β) (T := [some ⟨102, zC WC⟩, some ⟨102, zC Y⟩]) 0
     have q5 := zAa (G := G) (F := none) (L := p.N + 1) (w := p.n + p.m) (k := p.m) (X := X) (d := d) (β := β) (T := [some ⟨102, zC WC⟩, some ⟨102, zC Y⟩]) 1
     rw [hXl] at q4 q5
     rw [Nat.add_zero] at q4
     have g3 : i < (zBj G.length X.length (p.N + 1)).len := by show i < X.length; omega
     have g4 : j < (zC (X.getD i [])).len := by show j < (X.getD i []).length; omega
     have g5 : j < (zC Y).len := by show j < Y.length; omega
     have bX := hXb i j hi' hj'
     have hp10 : (WC.getD (β.getD i 0) 0 * at2 X i j).natAbs ≤ 10 ^ (p.E k + p.T k) := by rw [Int.natAbs_mul, Nat.pow_add]; exact Nat.mul_le_mul bW bX
     have cm := zCS (WC.getD (β.getD i 0) 0) (at2 X i j) (by have := hdD _ _ (by omega) bW; omega) (by have := hdD _ _ (by omega) bX; omega)
     have ca := zMc (Y.getD j 0) (WC.getD (β.getD i 0) 0 * at2 X i j) (by have := hdD _ _ (by omega) ab; omega) (by have := hdD _ _ (by omega) hp10; omega)
     refine rn1 ?_
     refine zi (by kernel_rfl) ?_
     refine zq (fuel := 1) [0, 1, 2, 3, 4, 5, 6, 7, 8, 9, 10, 11, 12, 13, 14, 15, 16, 17, 18, 19, 20, 21, 22] [(1, .ptr 0 0 0), (2, .ptr 1 0 0), (3, iN p.n), (4, iN p.m), (5, .ptr G.length 0 0), (6, .ro (nsC ((List.range p.m).map p.fac)) 0 p.m), (7, iN p.a), (10, .sl (G.length + 4 + p.m) 0 p.n), (11, zh p.fc), (12, .sl (G.length + 4 + p.m + 1) 0 (p.N + 1)), (84, .sl (G.length + 2) 0 p.m), (85, iN p.m), (86, iN i), (15, iN i), (16, iN (β.getD i 0)), (103, .int .i64 ((p.N + 1 : Nat))), (104, iN j), (17, iN j)] ⟨Z, Z, Z, Z, Z, Z, Z, Z, Z, Z, Z, Z, Z, Z, Z, Z, Z, Z, trivial⟩ (by kernel_rfl) (by decide) Z Z ?_
     refine zM Z Z (zK Z) ?_
     refine zM Z Z (zK Z) ?_
     refine zM Z Z (zK Z) ?_
     refine zM Z Z (zK Z) ?_
     refine zM Z Z (qis Z Z Z) ?_
     refine zM Z Z (qas Z Z Z Z) ?_
     refine zM Z Z (zK Z) ?_
     refine zM Z Z (zK Z) ?_
     refine zM Z Z (qis Z Z Z) ?_
     refine zM Z Z (qas Z Z Z Z) ?_
     refine zM Z Z (zK Z) ?_
     refine zM Z Z (zd Z) ?_
     refine zM Z Z (zH Z Z Z Z Z Z) ?_
     refine zM Z Z (zAB Z Z Z (by assumption) (by rfl)) ?_
     refine zM Z Z (zK Z) ?_
     refine zM Z Z (qis Z Z Z) ?_
     refine zM Z Z (zAy Z Z Z (by assumption) Z (by first | assumption | omega)) ?_
     refine zM Z Z (zK Z) ?_
     refine zM Z Z (qis Z Z Z) ?_
     refine zM Z Z (qas Z Z Z Z) ?_
     refine zA8 Z Z Z Z Z cm ?_
     refine zA8 Z Z Z Z Z ca ?_
     refine zM Z Z (qis Z Z Z) ?_
     refine zAC ?_
     refine zF (is := [23]) (by kernel_rfl) (by simp) Z ⟨fun o ho => ?_, trivial⟩
     all_goals (cases ho)
     refine zz (c' := zC (Y.set j (Y.getD j 0 + WC.getD (β.getD i 0) 0 * at2 X i j))) Z Z Z q5 Z g5 (List.length_set ..) Z (zDL Y j _) ?_
     refine zO (zc G none (p.N + 1) (p.n + p.m) p.m X d β [some ⟨102, zC WC⟩, some ⟨102, zC (Y.set j (Y.getD j 0 + WC.getD (β.getD i 0) 0 * at2 X i j))⟩]) (by have q := zAI (G := G) (F := none) (L := p.N + 1) (w := p.n + p.m) (k := p.m) (X := X) (d := d) (β := β) (T := [some ⟨102, zC WC⟩, some ⟨102, zC Y⟩]) 1 (some ⟨102, zC (Y.set j (Y.getD j 0 + WC.getD (β.getD i 0) 0 * at2 X i j))⟩); rw [hXl] at q; exact q) ?_
     refine rn1 ?_
     refine zW (by kernel_rfl) ?_
     refine rn5 ?_
     exact zJ ⟨j + 1, by omega, by omega, ⟨Z, Z, Z, Z, Z, Z, Z, Z, Z, Z, Z, Z, Z, Z, Z, Z, Z, trivial⟩, by rw [← hsj]⟩
    ·have hje : j = p.N + 1 := by omega
     subst hje
     rw [chg_to hcl hcl2]
     refine rn5 ?_
     exact zJ ⟨i + 1, by omega, by omega, ⟨Z, Z, Z, Z, Z, Z, Z, Z, Z, Z, Z, Z, Z, trivial⟩, by rw [hC2]⟩
   ·have hz : WC.getD (β.getD i 0) 0 = 0 := Decidable.byContradiction (fun q => h1 (fun e => q (by rw [zJR] at e; exact e)))
    have e := hsk (hcz _ (fun q => q.2 hz))
    refine rn5 ?_
    exact zJ ⟨i + 1, by omega, by omega, ⟨Z, Z, Z, Z, Z, Z, Z, Z, Z, Z, Z, Z, Z, trivial⟩, by rw [hC2, e]⟩
  ·have e := hsk (hcz _ (fun q => hb q.1))
   refine rn7 ?_
   refine zD 94 (.bool false) Z (AEq.of_eq (by rw [zAr, decide_eq_false (by show ¬ ((β.getD i 0 : Nat) : Int) < ((p.n : Nat) : Int); omega)])) ?_
   refine rn6 ?_
   exact zJ ⟨i + 1, by omega, by omega, ⟨Z, Z, Z, Z, Z, Z, Z, Z, Z, Z, Z, Z, Z, trivial⟩, by rw [hC2, e]⟩
 have hie : i = p.m := by omega
 rw [hie]
 clear hi h hie
 clear i
 have hLl := zHK (zBV p) p.N ⟨X, d, β⟩ p.m
 generalize (zDC (zBV p) p.N ⟨X, d, β⟩ p.m) = LC at *
 clear hcab hcs hcz hl0
 have q6 := zAa (G := G) (F := none) (L := p.N + 1) (w := p.n + p.m) (k := p.m) (X := X) (d := d) (β := β) (T := [some ⟨102, zC WC⟩, some ⟨102, zC LC⟩]) 1
 rw [hXl] at q6
 refine zBc ?_
 refine zPm (G.length + 4 + p.m) (G.length + 4 + p.m + 1) 12 (p.N + 1) (by omega) (by rw [hlen]; show G.length + 4 + p.m < G.length + 4 + p.m + 2; omega) q6 (by rw [hfix]; exact fun h => h) Z ?_
 refine zPl ((12, .sl (G.length + 4 + p.m) 0 (p.N + 1)) :: [(1, .ptr 0 0 0), (2, .ptr 1 0 0), (3, iN p.n), (4, iN p.m), (5, .ptr G.length 0 0), (6, .ro (nsC ((List.range p.m).map p.fac)) 0 p.m), (7, iN p.a), (11, zh p.fc)]) ⟨Z, zAq (h := G.length + 4 + p.m) (L := [(1, .ptr 0 0 0), (2, .ptr 1 0 0), (3, iN p.n), (4, iN p.m), (5, .ptr G.length 0 0), (6, .ro (nsC ((List.range p.m).map p.fac)) 0 p.m), (7, iN p.a), (11, zh p.fc)]) ⟨Z, Z, Z, Z, Z, Z, Z, Z, trivial⟩ (by
  intro q hq
  simp only [List.mem_cons, List.mem_nil_iff, or_false] at hq
  rcases hq with rfl | rfl | rfl | rfl | rfl | rfl | rfl | rfl <;> simp [AV.forget, zh, zr (show G.length ≠ G.length + 4 + p.m by omega), zr (show 0 ≠ G.length + 4 + p.m by omega), zr (show 1 ≠ G.length + 4 + p.m by omega)])⟩ ?_
 refine zBL (zc G none (p.N + 1) (p.n + p.m) p.m X d β [some ⟨102, zC LC⟩, none]) (by
  have q := zP.set (zP.set (zJW (G := G) (L := p.N + 1) (w := p.n + p.m) (k := p.m) (X := X) (d := d) (β := β) (T := [some ⟨102, zC WC⟩, some ⟨102, zC LC⟩]) (T' := [some ⟨102, zC WC⟩, some ⟨102, zC LC⟩]) (G.length + 4 + p.m) (hFG _) (by omega) (by show zP [some (⟨_, (zC WC).forget _⟩ : AObj), some (⟨_, (zC LC).forget _⟩ : AObj)] _; rw [zBO, zBO]; exact zP.refl _)) (G.length + 4 + p.m) (x := some ⟨102, (zC LC).forget (G.length + 4 + p.m)⟩) (x' := some ⟨102, zC LC⟩) (fun o ho => by cases ho; exact ⟨_, rfl, rfl, by rw [zBO]; exact CEq.refl _⟩)) (G.length + 4 + p.m + 1) (x := none) (x' := none) (fun o ho => by cases ho)
  have e1 : (zc G none (p.N + 1) (p.n + p.m) p.m X d β [some ⟨102, zC WC⟩, some ⟨102, zC LC⟩]).set (G.length + 4 + p.m) (some ⟨102, zC LC⟩) = zc G none (p.N + 1) (p.n + p.m) p.m X d β [some ⟨102, zC LC⟩, some ⟨102, zC LC⟩] := by
   have q := zAI (G := G) (F := none) (L := p.N + 1) (w := p.n + p.m) (k := p.m) (X := X) (d := d) (β := β) (T := [some ⟨102, zC WC⟩, some ⟨102, zC LC⟩]) 0 (some ⟨102, zC LC⟩)
   rw [hXl] at q
   exact q
  have e2 := zAI (G := G) (F := none) (L := p.N + 1) (w := p.n + p.m) (k := p.m) (X := X) (d := d) (β := β) (T := [some ⟨102, zC LC⟩, some ⟨102, zC LC⟩]) 1 none
  rw [hXl] at e2
  rw [e1] at q
  exact (show zP _ _ from e2 ▸ q)) ?_
 refine zA3 (zc G none (p.N + 1) (p.n + p.m) p.m X d β [some ⟨102, zC LC⟩]) [none] ((12, .sl (G.length + 4 + p.m) 0 (p.N + 1)) :: [(1, .ptr 0 0 0), (2, .ptr 1 0 0), (3, iN p.n), (4, iN p.m), (5, .ptr G.length 0 0), (6, .ro (nsC ((List.range p.m).map p.fac)) 0 p.m), (7, iN p.a), (11, zh p.fc)]) (by rw [zAZ]; rfl) ⟨Z, Z, Z, Z, Z, Z, Z, Z, Z, trivial⟩ (fun h hh => by rw [hfix] at hh; exact hh.elim)
  (zCN hG _ (by rw [hlen, hXl]; exact Nat.le_add_right _ _) (fun o ho => by cases ho) (fun o ho => by cases List.mem_singleton.1 ho; exact fun i' j' hi' hj' => zFd _ _ _ hj')) (by rw [hlen]; simp [zDO, zCB, zh]; omega) ?_
 clear q6
 have f1 := zA2 (G := G) (F := none) (L := p.N + 1) (w := p.n + p.m) (k := p.m) (X := X) (d := d) (β := β) (T := [some ⟨102, zC LC⟩])
 refine rn7 ?_
 refine zCj Z Z Z Z Z Z Z Z Z Z ?_
 refine zO (zc G none (p.N + 1) (p.n + p.m) p.m X d β [some ⟨102, zC LC⟩, some ⟨265, zBt 1 1 [.sl (G.length + 4 + p.m) 0 (p.N + 1)]⟩]) (by rw [zAZ]; rfl) ?_
 refine zD 138 (.sl (G.length + 4 + p.m + 1) 0 1) Z (AEq.of_eq (by rw [hlen]; rfl)) ?_
 have f2 := zCn (G := G) (F := none) (L := p.N + 1) (w := p.n + p.m) (k := p.m) (X := X) (d := d) (β := β) (T := [some ⟨102, zC LC⟩, some ⟨265, zBt 1 1 [.sl (G.length + 4 + p.m) 0 (p.N + 1)]⟩])
 have f3 := zAa (G := G) (F := none) (L := p.N + 1) (w := p.n + p.m) (k := p.m) (X := X) (d := d) (β := β) (T := [some ⟨102, zC LC⟩, some ⟨265, zBt 1 1 [.sl (G.length + 4 + p.m) 0 (p.N + 1)]⟩]) 1
 rw [hXl] at f3
 have hol : (zBj G.length X.length (p.N + 1)).len = p.m := hXl
 skip
 refine zo Z Z Z Z Z Z Z f2 Z hol Z (zIu f3) (by show 0 + 1 ≤ 1; omega) Z (by show (p.m + 1) * 24 ≤ _ ∧ _; omega) ?_ (by rw [hfix]; exact fun h => h) ?_
 ·intro i' j' hi' hj'
  obtain rfl := Nat.lt_one_iff.1 (show j' < 1 from hj')
  have q := (zEw G.length X.length (p.N + 1) (zBt 1 1 [AV.sl (G.length + 4 + p.m) 0 (p.N + 1)]) (by rw [hXl]; rfl)).2.2 i' 0 hi' Nat.zero_lt_one
  refine Eq.trans (congrArg (AV.forget _) q.symm) (Eq.trans ?_ q)
  show AV.forget _ (AV.sl (G.length + 4 + i') 0 (p.N + 1)) = _
  unfold AV.forget
  rw [zr (show G.length + 4 + i' ≠ G.length + 3 by omega)]; rfl
 refine zBl ((139, .sl (G.length + 3) 0 (p.m + 1)) :: (132, .ptr G.length 0 0) :: [(1, .ptr 0 0 0), (2, .ptr 1 0 0), (3, iN p.n), (4, iN p.m), (5, .ptr G.length 0 0), (6, .ro (nsC ((List.range p.m).map p.fac)) 0 p.m), (7, iN p.a), (11, zh p.fc)]) ⟨Z, zAq (h := G.length + 3) (L := (132, .ptr G.length 0 0) :: [(1, .ptr 0 0 0), (2, .ptr 1 0 0), (3, iN p.n), (4, iN p.m), (5, .ptr G.length 0 0), (6, .ro (nsC ((List.range p.m).map p.fac)) 0 p.m), (7, iN p.a), (11, zh p.fc)]) ⟨Z, Z, Z, Z, Z, Z, Z, Z, Z, trivial⟩ (by
  intro q hq
  simp only [List.mem_cons, List.mem_nil_iff, or_false] at hq
  rcases hq with rfl | rfl | rfl | rfl | rfl | rfl | rfl | rfl | rfl <;> simp [AV.forget, zh, zr (show G.length ≠ G.length + 3 by omega), zr (show 0 ≠ G.length + 3 by omega), zr (show 1 ≠ G.length + 3 by omega)])⟩ ?_
 refine zu (zK0 G (p.N + 1) (p.n + p.m) (X ++ [LC]) d β [none]) (zMF (hFG _) (zEw G.length X.length (p.N + 1) _ (by rw [hXl]; rfl))) ?_
 refine rn7 ?_
 refine zBg Z Z Z Z zPg Z Z Nat.zero_lt_one ?_
 refine zO (zc G none (p.N + 1) (p.n + p.m) (p.m + 1) (X ++ [LC]) d β [none]) zPi ?_
 refine zBc ?_
 have hl1 : (X ++ [LC]).length = p.m + 1 := by rw [List.length_append, hXl]; rfl
 refine zA3 (zc G none (p.N + 1) (p.n + p.m) (p.m + 1) (X ++ [LC]) d β []) [none] [(1, .ptr 0 0 0), (2, .ptr 1 0 0), (3, iN p.n), (4, iN p.m), (5, .ptr G.length 0 0), (6, .ro (nsC ((List.range p.m).map p.fac)) 0 p.m), (7, iN p.a), (11, zh p.fc)] (by rw [zAZ]; rfl) ⟨Z, Z, Z, Z, Z, Z, Z, Z, trivial⟩ (fun h hh => by rw [hfix] at hh; exact hh.elim)
  (zCN hG _ (by rw [zBC]; exact Nat.le_add_right _ _) (fun o ho => by cases ho) (fun o ho => by cases ho)) (by rw [zBC, hl1]; simp [zDO, zCB, zh]; omega) ?_
 refine zAj (stH G p.N (p.n + p.m) (p.m + 1) (ph2 p K)) (by rw [hlast]) ?_
 have cr := run_ok G hG p.m p.N (p.n + p.m) (M2 p) (ph2 p K) hph.1 hph.2.1 (zFo p) L (hs.two hneg) (p.T k) (by omega) (by omega) (fun u hu => zEq hu (by omega) (zGk hp hk)) (by omega)
 obtain ⟨hti, htf, _⟩ := zHc p hp K L h0
 have hfree := fun h => zRf (K := K) (L := L) hneg h
 have hbest := fun h => zRe (K := K) (L := L) hneg h
 obtain ⟨b1, b2⟩ := zEq hti (by omega) (zGk hp hk)
 have hcle := col_le p (zDd p K L)
 refine rn0 ?_
 refine zCc Z Z Z cr (fun _ h => h) (fun _ h => h) ?_
 rintro r' H' ⟨rfl, rfl⟩
 clear cr f1 f2 f3 hol hlast hXl hXr hXb hβl hdb hlen hl1 hph hs
 have e2 : zAc p.m p.N (p.n + p.m) (ph2 p K) L = zDd p K L := rfl
 rw [e2]
 clear e2
 generalize zDd p K L = t at *
 have hn' := hti.n
 have htb := hti.b
 have hrow := hti.row
 have hd : t.den ≠ 0 := by have := hti.dp; omega
 have f1 := zA2 (G := G) (F := none) (L := p.N + 1) (w := p.n + p.m) (k := (p.m + 1)) (X := t.rows) (d := t.den) (β := t.basis) (T := [])
 have f2 := zCn (G := G) (F := none) (L := p.N + 1) (w := p.n + p.m) (k := (p.m + 1)) (X := t.rows) (d := t.den) (β := t.basis) (T := [])
 refine rn0 ?_
 refine zi (by kernel_rfl) ?_
 refine zCr (fuel := 4) [0, 1, 2, 3, 4, 5, 6, 7, 8, 9, 10, 11, 12, 13] [(1, .ptr 0 0 0), (2, .ptr 1 0 0), (3, iN p.n), (4, iN p.m), (5, .ptr G.length 0 0), (6, .ro (nsC ((List.range p.m).map p.fac)) 0 p.m), (7, iN p.a), (11, zh p.fc), (18, .int .i64 (resZ p.m (p.n + p.m) t))] ⟨Z, Z, Z, Z, Z, Z, Z, Z, Z, trivial⟩ (by kernel_rfl) (by decide) Z Z ?_
 refine zM Z Z (zK Z) ?_
 refine zM Z Z (zK Z) ?_
 refine zM Z Z (zd Z) ?_
 refine zM Z Z (zH Z Z Z Z Z Z) ?_
 refine zM Z Z (zAB Z Z Z (by assumption) (by rfl)) ?_
 refine zM Z Z (zK Z) ?_
 refine zM Z Z (zFV Z Z f2 Z Z Z Z Z ⟨Z, by omega, by omega⟩) ?_
 refine zM Z Z (zK Z) ?_
 refine zM Z Z (zd Z) ?_
 refine zM Z Z (zH Z Z Z Z Z Z) ?_
 refine zM Z Z (zAB Z Z Z (by assumption) (by rfl)) ?_
 refine zM Z Z (zK Z) ?_
 refine zM Z Z (qis Z Z Z) ?_
 refine zM Z Z (zAy Z Z Z (by assumption) Z (by first | assumption | omega)) ?_
 refine zAC ?_
 refine zV 14 Z (by kernel_rfl) (by kernel_rfl) (by kernel_rfl) Z (zd Z) Z ?_
 refine zV 15 Z (by kernel_rfl) (by kernel_rfl) (by kernel_rfl) Z (zH Z Z Z Z Z Z) Z ?_
 refine zF (is := [16]) (by kernel_rfl) (by simp) Z ⟨fun o ho => ?_, trivial⟩
 all_goals (cases ho)
 refine zD 150 (.sl (G.length + 3) 0 p.m) Z (AEq.of_eq Z) ?_
 refine zBg Z Z Z Z f1 Z Z Nat.zero_lt_one ?_
 refine zO (zc G none (p.N + 1) (p.n + p.m) p.m t.rows t.den t.basis []) (zIB p.m (p.n + p.m) t.den) ?_
 refine rn1 ?_
 refine zV 17 Z (by kernel_rfl) (by kernel_rfl) (by kernel_rfl) Z (zm Z) Z ?_
 refine zW (by kernel_rfl) ?_
 repeat (refine zI ?_)
 refine z8 12 (.sl (G.length + 4 + p.m) 0 (p.N + 1)) Z (AEq.of_eq Z) ?_
 clear f1 f2
 have hvl : (zBk p t).length = p.n := by unfold zBk; rw [zDn]; simp
 have hsb : ∀ i j, i < p.m + 1 → j < p.N + 1 → (zS (at2 t.rows i j).natAbs).length ≤ 400001 := fun i j hi hj => hdD _ _ (by omega) (b1 i j hi hj)
 have hdl : (zS t.den.natAbs).length ≤ 400001 := hdD _ _ (by omega) b2
 by_cases hc : zCG p.m (p.n + p.m) t < p.n + p.m
 ·rw [hfree hc] at hR
  have hw := zFo p
  have cv := zGC G hG p.N (p.n + p.m) p.m t.rows t.den t.basis [] (fun m _ o ho => by cases ho) p.n (by omega) (by omega) (by omega) (by omega) hrow (by omega) hd (fun i hi => by have := hsb i p.N (by omega) (by omega); omega) (by omega)
  have cy := ray_ok G hG p.N (p.n + p.m) p.m t.rows t.den t.basis [] (fun m _ o ho => by cases ho) p.n (zCG p.m (p.n + p.m) t) (by omega) (by omega) (by omega) (by omega) (by omega) hrow (by omega) hd (fun i hi => by have := hsb i (zCG p.m (p.n + p.m) t) (by omega) (by omega); omega) (by omega)
  rw [htb] at cv cy
  have hrl : (zHg p t (zCG p.m (p.n + p.m) t)).length = p.n := by unfold zHg; rw [zDn]; exact zG7 _ _
  refine z8 18 (iN (zCG p.m (p.n + p.m) t)) Z (AEq.of_eq (by unfold resZ; rw [if_neg (by omega)])) ?_
  refine rn12 ?_
  refine zCc Z Z Z cv (fun _ h => h) (fun _ h => h) ?_
  rintro r' H' ⟨rfl, rfl⟩
  repeat (refine zG (zK rfl) ?_)
  refine zCc Z Z Z cy (fun _ h => h) (fun _ h => h) ?_
  rintro r' H' ⟨rfl, rfl⟩
  repeat (refine zG (zBH rfl rfl rfl rfl rfl rfl) ?_)
  refine zz (c' := .box [.int .i64 2, .ro (qsC (zBk p t)) 0 p.n, .nil, .ro (qsC (zHg p t (zCG p.m (p.n + p.m) t))) 0 p.n, .bool false, .nil, .nil]) Z Z Z (hg1 _ _ _ _ _) Z Nat.zero_lt_one Z Z (fun i' j' hi' hj' => ?_) ?_
  ·rw [if_pos (Nat.lt_one_iff.1 hi')]; rfl
  refine rn2 ?_
  refine zL hR (zGD Z (zPT (hg1 _ _ _ _ _)) Z Z Z) ?_
  show AV.agg _ = runA _
  unfold runA
  simp only [hvl, hrl]
  rfl
 ·rw [hbest hc] at hR
  have hce : zCG p.m (p.n + p.m) t = p.n + p.m := by omega
  refine z8 18 (.int .i64 (-1)) Z (AEq.of_eq (by unfold resZ; rw [if_pos hce])) ?_
  have hfc : (zS ((p.fc : Nat) : Int).natAbs).length ≤ 400001 := hdD _ (k * p.n) (by have : k * p.n ≤ 100 * 30 := Nat.mul_le_mul hk40 hn; omega) (by rw [Int.natAbs_natCast]; exact fc_le hk)
  have hfp := zHv p
  have hD : t.den * (p.fc : Nat) ≠ 0 := by
   have := Int.mul_pos hti.dp (show (0 : Int) < ((p.fc : Nat) : Int) by omega)
   omega
  have hkn : k * p.n ≤ 3000 := Nat.mul_le_mul hk40 hn
  have hpr : (t.den * (p.fc : Nat)).natAbs ≤ 10 ^ (p.T k + k * p.n) := by
   rw [Int.natAbs_mul, Int.natAbs_natCast, Nat.pow_add]
   exact Nat.mul_le_mul b2 (fc_le hk)
  have hpl := hdD _ _ (by omega) hpr
  have cm := zCS t.den ((p.fc : Nat) : Int) (by omega) (by omega)
  rw [intA_nat] at cm
  have hw := zFo p
  have q3 := zCZ (G := G) (F := none) (L := p.N + 1) (w := p.n + p.m) (k := p.m) (X := t.rows) (d := t.den) (β := t.basis) (T := []) (a := p.m) (by omega)
  clear q3
  refine rn8 ?_
  refine zO (zc G none (p.N + 1) (p.n + p.m) p.m t.rows t.den t.basis [some ⟨102, .box [.bool false, .nil]⟩]) (by rw [zAZ]; rfl) ?_
  refine zD 19 (.ptr (G.length + 4 + (p.m + 1)) 0 0) Z (AEq.of_eq (by rw [zBC, hn']; rfl)) ?_
  refine zD 171 (.agg [.bool false, zh p.fc]) Z (AEq.of_eq Z) ?_
  have q0 := zAa (G := G) (F := none) (L := p.N + 1) (w := p.n + p.m) (k := p.m) (X := t.rows) (d := t.den) (β := t.basis) (T := [some ⟨102, .box [.bool false, .nil]⟩]) 0
  rw [hn', Nat.add_zero] at q0
  refine zz (c' := .box [.bool false, zh p.fc]) Z Z Z q0 Z Nat.zero_lt_one Z Z (fun i' j' hi' hj' => ?_) ?_
  ·rw [if_pos (Nat.lt_one_iff.1 hi')]; rfl
  refine zO (zc G none (p.N + 1) (p.n + p.m) p.m t.rows t.den t.basis [some ⟨102, .box [.bool false, zh p.fc]⟩]) (by have q := zAI (G := G) (F := none) (L := p.N + 1) (w := p.n + p.m) (k := p.m) (X := t.rows) (d := t.den) (β := t.basis) (T := [some ⟨102, .box [.bool false, .nil]⟩]) 0 (some ⟨102, .box [.bool false, zh p.fc]⟩); rw [hn', Nat.add_zero] at q; exact q) ?_
  clear q0
  refine rn0 ?_
  refine zAb 20 ⟨104, qsC ((List.range 0).map (fun i => Rat.divInt (at2 t.rows p.m (p.n + i)) (t.den * (p.fc : Nat))))⟩ Z Z ?_
  refine zAj (zc G none (p.N + 1) (p.n + p.m) p.m t.rows t.den t.basis [some ⟨102, .box [.bool false, zh p.fc]⟩, some ⟨104, qsC ((List.range 0).map (fun i => Rat.divInt (at2 t.rows p.m (p.n + i)) (t.den * (p.fc : Nat))))⟩]) (by rw [zAZ]; rfl) ?_
  refine z8 20 (.sl (G.length + 4 + (p.m + 1) + 1) 0 0) Z (AEq.of_eq (by rw [zBC, hn']; rfl)) ?_
  have hyl : ∀ i, ((List.range i).map (fun i => Rat.divInt (at2 t.rows p.m (p.n + i)) (t.den * (p.fc : Nat)))).length = i := fun i => by simp
  repeat (refine zAA ?_)
  refine zZ (ι := Nat) (fun i => [(1, .ptr 0 0 0), (2, .ptr 1 0 0), (3, iN p.n), (4, iN p.m), (5, .ptr G.length 0 0), (6, .ro (nsC ((List.range p.m).map p.fac)) 0 p.m), (7, iN p.a), (11, zh p.fc), (12, .sl (G.length + 4 + p.m) 0 (p.N + 1)), (19, .ptr (G.length + 4 + (p.m + 1)) 0 0), (20, .sl (G.length + 4 + (p.m + 1) + 1) 0 i), (172, iN p.m), (173, iN i)]) (fun i => zc G none (p.N + 1) (p.n + p.m) p.m t.rows t.den t.basis [some ⟨102, .box [.bool false, zh p.fc]⟩, some ⟨104, qsC ((List.range i).map (fun i => Rat.divInt (at2 t.rows p.m (p.n + i)) (t.den * (p.fc : Nat))))⟩]) (fun i => i ≤ p.m) (fun i => p.m - i) 0 ⟨⟨Z, Z, Z, Z, Z, Z, Z, Z, Z, Z, Z, Z, Z, trivial⟩, Z, Nat.zero_le _⟩ ?_
  intro i hi
  refine rn4 ?_
  refine zA Z (fun h => ?_) (fun h => ?_)
  ·have hi' : i < p.m := by omega
   have hys : ((List.range (i + 1)).map (fun i => Rat.divInt (at2 t.rows p.m (p.n + i)) (t.den * (p.fc : Nat)))) = ((List.range i).map (fun i => Rat.divInt (at2 t.rows p.m (p.n + i)) (t.den * (p.fc : Nat)))) ++ [Rat.divInt (at2 t.rows p.m (p.n + i)) (t.den * (p.fc : Nat))] := by rw [List.range_succ, List.map_append]; rfl
   have hyi := hyl i
   generalize ((List.range i).map (fun i => Rat.divInt (at2 t.rows p.m (p.n + i)) (t.den * (p.fc : Nat)))) = Y at *
   have q1 := zA2 (G := G) (F := none) (L := p.N + 1) (w := p.n + p.m) (k := p.m) (X := t.rows) (d := t.den) (β := t.basis) (T := [some ⟨102, .box [.bool false, zh p.fc]⟩, some ⟨104, qsC Y⟩])
   have q3 := zCZ (G := G) (F := none) (L := p.N + 1) (w := p.n + p.m) (k := p.m) (X := t.rows) (d := t.den) (β := t.basis) (T := [some ⟨102, .box [.bool false, zh p.fc]⟩, some ⟨104, qsC Y⟩]) (a := p.m) (by omega)
   have q4 := zAa (G := G) (F := none) (L := p.N + 1) (w := p.n + p.m) (k := p.m) (X := t.rows) (d := t.den) (β := t.basis) (T := [some ⟨102, .box [.bool false, zh p.fc]⟩, some ⟨104, qsC Y⟩]) 0
   have q5 := zAa (G := G) (F := none) (L := p.N + 1) (w := p.n + p.m) (k := p.m) (X := t.rows) (d := t.den) (β := t.basis) (T := [some ⟨102, .box [.bool false, zh p.fc]⟩, some ⟨104, qsC Y⟩]) 1
   rw [hn'] at q4 q5
   rw [Nat.add_zero] at q4
   have lm : (t.rows.getD p.m []).length = p.N + 1 := hrow _ (zAD [] (by omega))
   have g7 : p.n + i < (zC (t.rows.getD p.m [])).len := by show p.n + i < (t.rows.getD p.m []).length; omega
   have cfr := zHR (at2 t.rows p.m (p.n + i)) (t.den * (p.fc : Nat)) hD (by have := hsb p.m (p.n + i) (by omega) (by omega); omega) (by omega)
   refine rn1 ?_
   refine zi (by kernel_rfl) ?_
   refine zV 0 Z (by kernel_rfl) (by kernel_rfl) (by kernel_rfl) Z (zK Z) Z ?_
   refine zCr (fuel := 3) [1, 2, 3, 4, 5, 6, 7, 8, 9, 10, 11, 12, 13] [(1, .ptr 0 0 0), (2, .ptr 1 0 0), (3, iN p.n), (4, iN p.m), (5, .ptr G.length 0 0), (6, .ro (nsC ((List.range p.m).map p.fac)) 0 p.m), (7, iN p.a), (11, zh p.fc), (12, .sl (G.length + 4 + p.m) 0 (p.N + 1)), (19, .ptr (G.length + 4 + (p.m + 1)) 0 0), (20, .sl (G.length + 4 + (p.m + 1) + 1) 0 i), (172, iN p.m), (173, iN i), (21, iN i), (176, .sl (G.length + 4 + (p.m + 1) + 1) 0 i)] ⟨Z, Z, Z, Z, Z, Z, Z, Z, Z, Z, Z, Z, Z, Z, Z, trivial⟩ (by kernel_rfl) (by decide) Z Z ?_
   refine zM Z Z (zK Z) ?_
   refine zM Z Z (zK Z) ?_
   refine zM Z Z (zK Z) ?_
   refine zM Z Z (zCF Z Z (by omega)) ?_
   refine zM Z Z (zCt (ix := p.n + i) Z Z Z q3 Z (by show 0 + ((p.n : Nat) + (i : Nat) : Int).toNat = p.n + i; omega) (by omega)) ?_
   refine zM Z Z (qas Z Z Z Z) ?_
   refine zM Z Z (zK Z) ?_
   refine zM Z Z (zd Z) ?_
   refine zM Z Z (zH Z Z Z Z Z Z) ?_
   refine zM Z Z (qps Z Z Z Z) ?_
   refine zM Z Z (qas Z Z Z Z) ?_
   refine zA8 Z Z Z Z Z cm ?_
   refine zA8 Z Z Z Z Z cfr ?_
   refine zAC ?_
   unfold qA
   refine zF (is := [14]) (by kernel_rfl) (by simp) Z ⟨fun o ho => ?_, trivial⟩
   all_goals (cases ho)
   refine rn3 ?_
   refine zF (is := [15]) (by kernel_rfl) (by simp) Z ⟨fun o ho => ?_, trivial⟩
   all_goals (cases ho)
   refine zo Z Z Z Z Z Z Z q5 Z hyi Z Z (by show 0 + 1 ≤ 1; omega) Z (by show (i + 1) * 56 ≤ _ ∧ _; omega) ?_ (by rw [hfix]; exact fun h => h) ?_
   ·intro i' j' hi' hj'
    exact zAH 0 3 zT zAf Y _ _ (zCh _) _ i' j' hi' hj'
   refine zBl ((191, .sl (G.length + 4 + (p.m + 1) + 1) 0 (i + 1)) :: [(1, .ptr 0 0 0), (2, .ptr 1 0 0), (3, iN p.n), (4, iN p.m), (5, .ptr G.length 0 0), (6, .ro (nsC ((List.range p.m).map p.fac)) 0 p.m), (7, iN p.a), (11, zh p.fc), (12, .sl (G.length + 4 + p.m) 0 (p.N + 1)), (19, .ptr (G.length + 4 + (p.m + 1)) 0 0), (172, iN p.m), (173, iN i)]) ⟨Z, zAq (h := G.length + 4 + (p.m + 1) + 1) (L := [(1, .ptr 0 0 0), (2, .ptr 1 0 0), (3, iN p.n), (4, iN p.m), (5, .ptr G.length 0 0), (6, .ro (nsC ((List.range p.m).map p.fac)) 0 p.m), (7, iN p.a), (11, zh p.fc), (12, .sl (G.length + 4 + p.m) 0 (p.N + 1)), (19, .ptr (G.length + 4 + (p.m + 1)) 0 0), (172, iN p.m), (173, iN i)]) ⟨Z, Z, Z, Z, Z, Z, Z, Z, Z, Z, Z, Z, trivial⟩ (by
   intro q hq
   simp only [List.mem_cons, List.mem_nil_iff, or_false] at hq
   rcases hq with rfl | rfl | rfl | rfl | rfl | rfl | rfl | rfl | rfl | rfl | rfl | rfl <;> simp [AV.forget, zh, zr (show G.length ≠ G.length + 4 + (p.m + 1) + 1 by omega), zr (show 0 ≠ G.length + 4 + (p.m + 1) + 1 by omega), zr (show 1 ≠ G.length + 4 + (p.m + 1) + 1 by omega), zr (show G.length + 4 + p.m ≠ G.length + 4 + (p.m + 1) + 1 by omega), zr (show G.length + 4 + (p.m + 1) ≠ G.length + 4 + (p.m + 1) + 1 by omega)])⟩ ?_
   refine zu (zc G none (p.N + 1) (p.n + p.m) p.m t.rows t.den t.basis [some ⟨102, .box [.bool false, zh p.fc]⟩, some ⟨104, qsC ((List.range (i + 1)).map (fun i => Rat.divInt (at2 t.rows p.m (p.n + i)) (t.den * (p.fc : Nat))))⟩]) (by
    rw [hys]
    have e : zc G none (p.N + 1) (p.n + p.m) p.m t.rows t.den t.basis [some ⟨102, .box [.bool false, zh p.fc]⟩, some ⟨104, qsC (Y ++ [Rat.divInt (at2 t.rows p.m (p.n + i)) (t.den * (p.fc : Nat))])⟩] = (zc G none (p.N + 1) (p.n + p.m) p.m t.rows t.den t.basis [some ⟨102, .box [.bool false, zh p.fc]⟩, none]).set (G.length + 4 + (p.m + 1) + 1) (some ⟨104, qsC (Y ++ [Rat.divInt (at2 t.rows p.m (p.n + i)) (t.den * (p.fc : Nat))])⟩) := by
     have q := zAI (G := G) (F := none) (L := p.N + 1) (w := p.n + p.m) (k := p.m) (X := t.rows) (d := t.den) (β := t.basis) (T := [some ⟨102, .box [.bool false, zh p.fc]⟩, none]) 1 (some ⟨104, qsC (Y ++ [Rat.divInt (at2 t.rows p.m (p.n + i)) (t.den * (p.fc : Nat))])⟩)
     rw [hn'] at q
     exact q.symm
    rw [e]
    exact zP.set (zJW (T := [some ⟨102, .box [.bool false, zh p.fc]⟩, some ⟨104, qsC Y⟩]) (T' := [some ⟨102, .box [.bool false, zh p.fc]⟩, none]) _ (hFG _) (by omega) (zP.same (zP.drop zP.nil))) _ (fun o ho => by cases ho; exact ⟨_, rfl, rfl, zAQ 0 3 zT Y _ _ (zCh (Rat.divInt (at2 t.rows p.m (p.n + i)) (t.den * (p.fc : Nat))))⟩)) ?_
   refine rn1 ?_
   refine zV 16 Z (by kernel_rfl) (by kernel_rfl) (by kernel_rfl) Z (zm Z) Z ?_
   refine zW (by kernel_rfl) ?_
   refine rn5 ?_
   exact zJ ⟨i + 1, by omega, by omega, ⟨Z, Z, Z, Z, Z, Z, Z, Z, Z, Z, Z, Z, Z, trivial⟩, Z⟩
  have hie : i = p.m := by omega
  rw [hie]
  clear hi h hie
  clear i
  obtain ⟨KK, hKK⟩ : ∃ KK, KK = 102300 := ⟨_, rfl⟩
  have cu := zLA ((List.range p.m).map (fun i => Rat.divInt (at2 t.rows p.m (p.n + i)) (t.den * (p.fc : Nat)))) ((List.range p.m).map p.fac) KK (by simp) (by simp; omega) (fun q hq => by
   obtain ⟨i, hi, rfl⟩ := List.mem_map.1 hq
   have hi : i < p.m := by simpa using hi
   exact (zET hD (zCw (Nat.le_trans (b1 p.m (p.n + i) (by omega) (by omega)) (Nat.pow_le_pow_right (by decide) (Nat.le_add_right _ (k * p.n))))) (zCw hpr)).mono (by omega)) (fun q hq => by
   obtain ⟨i, hi, rfl⟩ := List.mem_map.1 hq
   have hi : i < p.m := by simpa using hi
   refine Nat.lt_of_lt_of_le (zCw (zOv hp hk hi)) (Nat.pow_le_pow_right (by decide) ?_)
   have : k * (p.n + 1) ≤ 100 * 31 := Nat.mul_le_mul hk40 (by omega)
   omega) (by omega)
  rw [hyl p.m, hfl] at cu
  have hy : zJY ((List.range p.m).map (fun i => Rat.divInt (at2 t.rows p.m (p.n + i)) (t.den * (p.fc : Nat)))) ((List.range p.m).map p.fac) p.m = yL p t (t.den * (p.fc : Nat)) := (yL_as p t (t.den * (p.fc : Nat))).symm
  rw [hy] at cu
  have hyl2 : (yL p t (t.den * (p.fc : Nat))).length = p.m := by simp [yL]
  have hym := hyl p.m
  generalize ((List.range p.m).map (fun i => Rat.divInt (at2 t.rows p.m (p.n + i)) (t.den * (p.fc : Nat)))) = Y at *
  have q5 := zAa (G := G) (F := none) (L := p.N + 1) (w := p.n + p.m) (k := p.m) (X := t.rows) (d := t.den) (β := t.basis) (T := [some ⟨102, .box [.bool false, zh p.fc]⟩, some ⟨104, qsC Y⟩]) 1
  rw [hn'] at q5
  refine zBc ?_
  refine zAL (G.length + 4 + (p.m + 1) + 1) 20 p.m [(1, .ptr 0 0 0), (2, .ptr 1 0 0), (3, iN p.n), (4, iN p.m), (5, .ptr G.length 0 0), (6, .ro (nsC ((List.range p.m).map p.fac)) 0 p.m), (7, iN p.a), (11, zh p.fc), (12, .sl (G.length + 4 + p.m) 0 (p.N + 1)), (19, .ptr (G.length + 4 + (p.m + 1)) 0 0)] q5 (zAv _) Z (by show p.m ≤ Y.length; omega) ⟨Z, Z, Z, Z, Z, Z, Z, Z, Z, Z, trivial⟩ ?_
  refine zAj (zc G none (p.N + 1) (p.n + p.m) p.m t.rows t.den t.basis [some ⟨102, .box [.bool false, zh p.fc]⟩, none]) (by have q := zAI (G := G) (F := none) (L := p.N + 1) (w := p.n + p.m) (k := p.m) (X := t.rows) (d := t.den) (β := t.basis) (T := [some ⟨102, .box [.bool false, zh p.fc]⟩, some ⟨104, qsC Y⟩]) 1 none; rw [hn'] at q; exact q) ?_
  clear q5
  have q1 := zA2 (G := G) (F := none) (L := p.N + 1) (w := p.n + p.m) (k := p.m) (X := t.rows) (d := t.den) (β := t.basis) (T := [some ⟨102, .box [.bool false, zh p.fc]⟩, none])
  have q3 := zCZ (G := G) (F := none) (L := p.N + 1) (w := p.n + p.m) (k := p.m) (X := t.rows) (d := t.den) (β := t.basis) (T := [some ⟨102, .box [.bool false, zh p.fc]⟩, none]) (a := p.m) (by omega)
  have q4 := zAa (G := G) (F := none) (L := p.N + 1) (w := p.n + p.m) (k := p.m) (X := t.rows) (d := t.den) (β := t.basis) (T := [some ⟨102, .box [.bool false, zh p.fc]⟩, none]) 0
  rw [hn', Nat.add_zero] at q4
  have lm : (t.rows.getD p.m []).length = p.N + 1 := hrow _ (zAD [] (by omega))
  have g7 : p.N < (zC (t.rows.getD p.m [])).len := by show p.N < (t.rows.getD p.m []).length; omega
  have cfr := zHR (at2 t.rows p.m p.N) (t.den * (p.fc : Nat)) hD (by have := hsb p.m p.N (by omega) (by omega); omega) (by omega)
  have cv := zGC G hG p.N (p.n + p.m) p.m t.rows t.den t.basis [some ⟨102, .box [.bool false, zh p.fc]⟩, none] (fun m _ o ho => by
   simp only [List.mem_cons, List.mem_nil_iff, or_false] at ho
   rcases ho with e | e
   ·cases e
    intro i' j' hi' hj'
    match j', (show j' < 2 from hj') with
    | 0, _ => rfl
    | 1, _ => rfl
   ·cases e) p.n (by omega) (by omega) (by omega) (by omega) hrow (by omega) hd (fun i hi => by have := hsb i p.N (by omega) (by omega); omega) (by omega)
  rw [htb] at cv
  repeat (refine z7 ?_)
  refine zi (by kernel_rfl) ?_
  refine zq (fuel := 1) [0, 1, 2, 3, 4, 5, 6, 7, 8, 9, 10, 11, 12, 13, 14, 15, 16, 17, 18, 19] ((20, .ro (qsC Y) 0 p.m) :: [(1, .ptr 0 0 0), (2, .ptr 1 0 0), (3, iN p.n), (4, iN p.m), (5, .ptr G.length 0 0), (6, .ro (nsC ((List.range p.m).map p.fac)) 0 p.m), (7, iN p.a), (11, zh p.fc), (12, .sl (G.length + 4 + p.m) 0 (p.N + 1)), (19, .ptr (G.length + 4 + (p.m + 1)) 0 0)]) ⟨Z, Z, Z, Z, Z, Z, Z, Z, Z, Z, Z, trivial⟩ (by kernel_rfl) (by decide) Z Z ?_
  refine zM Z Z (zK Z) ?_
  refine zM Z Z (zK Z) ?_
  refine px_c Z Z Z Z Z cv ?_
  refine zM Z Z (zK Z) ?_
  refine zM Z Z (zK Z) ?_
  refine zA8 Z Z Z Z Z cu ?_
  refine zM Z Z (zK Z) ?_
  refine zM Z Z (zK Z) ?_
  refine zM Z Z (zBy Z Z Z) ?_
  refine zM Z Z (zFD Z Z (by omega)) ?_
  refine zM Z Z (zCt (ix := p.N) Z Z Z q3 Z (by show 0 + (((p.N + 1 : Nat) : Int) - 1).toNat = p.N; omega) (by omega)) ?_
  refine zM Z Z (qas Z Z Z Z) ?_
  refine zM Z Z (zK Z) ?_
  refine zM Z Z (zd Z) ?_
  refine zM Z Z (zH Z Z Z Z Z Z) ?_
  refine zM Z Z (qps Z Z Z Z) ?_
  refine zM Z Z (qas Z Z Z Z) ?_
  refine zA8 Z Z Z Z Z cm ?_
  refine zA8 Z Z Z Z Z cfr ?_
  unfold qA
  refine zM Z Z (zBH Z Z Z Z Z Z) ?_
  refine zAC ?_
  refine zF (is := [20]) (by kernel_rfl) (by simp) Z ⟨fun o ho => ?_, trivial⟩
  all_goals (cases ho)
  refine zz (c' := .box ([.int .i64 0, .ro (qsC (zBk p t)) 0 p.n, .ro (qsC (yL p t (t.den * (p.fc : Nat)))) 0 p.m, .nil] ++ zT (Rat.divInt (at2 t.rows p.m p.N) (t.den * (p.fc : Nat))))) Z Z Z (hg1 _ _ _ _ _) Z Nat.zero_lt_one Z Z (fun i' j' hi' hj' => ?_) ?_
  ·rw [if_pos (Nat.lt_one_iff.1 hi')]; rfl
  refine rn1 ?_
  refine zW (by kernel_rfl) ?_
  refine rn0 ?_
  refine zL hR (zGD Z (zPT (hg1 _ _ _ _ _)) Z Z Z) ?_
  show AV.agg _ = runA _
  unfold runA
  simp only [hvl, hyl2]
  rfl
end Go.Proofs.YtkncmbklkhjmgaaGreatDoor
namespace Go.Proofs.YtkncmbklkhjmgaaGreatDoor
open Go.Ax Go.Ax.Bg Go.Ax.Rt Go.RowKit Go.Ax.Dt Go.Ax.Sx Go.Ax.Mg
attribute [local irreducible] Ax zBn QOp zQ zBX
abbrev oQ (q : Rat) : Option AObj := some ⟨104, .box (zT q)⟩
abbrev oZ : Option AObj := some ⟨104, .box [.bool false, .nil, .nil]⟩
/-- the memory of matgame.Game -/
abbrev gmH (x y : Rat) (a b k : Nat) (A : List (List Rat)) (B C : List Rat) (L : zN) : zN := oZ :: oQ x :: oQ y :: some ⟨193, .box [.sl 4 0 a, .sl 5 0 b, .sl 6 0 k]⟩ :: some ⟨105, zY A⟩ :: some ⟨104, qsC B⟩ :: some ⟨104, qsC C⟩ :: L
theorem zCd (n : Nat) (q : Rat) : zAz n (.box (zT q)) := by
 intro i j _ hj
 have hj : j < 3 := hj
 match j, hj with
 | 0, _ => rfl
 | 1, _ => rfl
 | 2, _ => rfl
theorem zE3 (n : Nat) : zAz n (.box [.bool false, .nil, .nil]) := by
 intro i j _ hj
 have hj : j < 3 := hj
 match j, hj with
 | 0, _ => rfl
 | 1, _ => rfl
 | 2, _ => rfl
theorem zLh {n : Nat} {o1 o2 : AObj} (h1 : zAz n o1.c) (h2 : zAz n o2.c) : ∀ (h : Nat) (o : AObj), ([some o1, some o2] : zN)[h]? = some (some o) → zAz n o.c := by
 intro h o ho
 match h, ho with
 | 0, ho => cases ho; exact h1
 | 1, ho => cases ho; exact h2
 | _ + 2, ho => simp at ho
theorem gm_b4 {x y : Rat} {A : List (List Rat)} {B C : List Rat} {a b : Nat} : ∀ (h : Nat) (o : AObj), ([oZ, oQ x, oQ y, some ⟨193, .box [.ro (zY A) 0 a, .ro (qsC B) 0 a, .ro (qsC C) 0 b]⟩] : zN)[h]? = some (some o) → zAz 4 o.c := by
 intro h o ho
 match h, ho with
 | 0, ho =>
  cases ho
  exact zE3 _
 | 1, ho =>
  cases ho
  exact zCd _ _
 | 2, ho =>
  cases ho
  exact zCd _ _
 | 3, ho =>
  cases ho
  intro i j _ hj
  have hj : j < 3 := hj
  match j, hj with
  | 0, _ => rfl
  | 1, _ => rfl
  | 2, _ => rfl
 | _ + 4, ho => simp at ho
theorem gm_b5 {x y : Rat} {A : List (List Rat)} {B C X Y : List Rat} {a b : Nat} {V : Rat} : ∀ (h : Nat) (o : AObj), ([oZ, oQ x, oQ y, some ⟨193, .box [.ro (zY A) 0 a, .ro (qsC B) 0 a, .ro (qsC C) 0 b]⟩, some ⟨190, .box ([.int .i64 0, .ro (qsC X) 0 b, .ro (qsC Y) 0 a, .nil] ++ zT V)⟩] : zN)[h]? = some (some o) → zAz 5 o.c := by
 intro h o ho
 match h, ho with
 | 0, ho =>
  cases ho
  exact zE3 _
 | 1, ho =>
  cases ho
  exact zCd _ _
 | 2, ho =>
  cases ho
  exact zCd _ _
 | 3, ho =>
  cases ho
  intro i j _ hj
  have hj : j < 3 := hj
  match j, hj with
  | 0, _ => rfl
  | 1, _ => rfl
  | 2, _ => rfl
 | 4, ho =>
  cases ho
  intro i j _ hj
  have hj : j < 7 := hj
  match j, hj with
  | 0, _ => rfl
  | 1, _ => rfl
  | 2, _ => rfl
  | 3, _ => rfl
  | 4, _ => rfl
  | 5, _ => rfl
  | 6, _ => rfl
 | _ + 5, ho => simp at ho
theorem gm_b6 {x y : Rat} {A : List (List Rat)} {B C X Y l : List Rat} {a b : Nat} {V : Rat} : ∀ (h : Nat) (o : AObj), ([oZ, oQ x, oQ y, some ⟨193, .box [.ro (zY A) 0 a, .ro (qsC B) 0 a, .ro (qsC C) 0 b]⟩, some ⟨190, .box ([.int .i64 0, .ro (qsC X) 0 b, .ro (qsC Y) 0 a, .nil] ++ zT V)⟩, some ⟨104, qsC l⟩] : zN)[h]? = some (some o) → zAz 6 o.c := by
 intro h o ho
 match h, ho with
 | 0, ho =>
  cases ho
  exact zE3 _
 | 1, ho =>
  cases ho
  exact zCd _ _
 | 2, ho =>
  cases ho
  exact zCd _ _
 | 3, ho =>
  cases ho
  intro i j _ hj
  have hj : j < 3 := hj
  match j, hj with
  | 0, _ => rfl
  | 1, _ => rfl
  | 2, _ => rfl
 | 4, ho =>
  cases ho
  intro i j _ hj
  have hj : j < 7 := hj
  match j, hj with
  | 0, _ => rfl
  | 1, _ => rfl
  | 2, _ => rfl
  | 3, _ => rfl
  | 4, _ => rfl
  | 5, _ => rfl
  | 6, _ => rfl
 | 5, ho =>
  cases ho
  exact zC0 _ _
 | _ + 6, ho => simp at ho
theorem zDa (h : Nat) (a : List Rat) : CEq ((qsC a).forget h) (qsC a) := by
 have e : (qsC a).forget h = qsC a := by
  show Cells.fn _ _ _ = Cells.fn _ _ _
  congr 1
  funext i j
  match j with
  | 0 => rfl
  | 1 => rfl
  | 2 => rfl
  | _ + 3 => rfl
 rw [e]; exact CEq.refl _
theorem zMb (h : Nat) (a : List (List Rat)) : CEq ((zY a).forget h) (zY a) := by
 have e : (zY a).forget h = zY a := by
  show Cells.fn _ _ _ = Cells.fn _ _ _
  congr 1
  funext i j
  match j with
  | 0 => rfl
  | _ + 1 => rfl
 rw [e]; exact CEq.refl _
theorem gm_below (x y : Rat) (a b k : Nat) (A : List (List Rat)) (B C : List Rat) : ∀ (h : Nat) (o : AObj), (gmH x y a b k A B C [])[h]? = some (some o) → zAz 7 o.c := by
 intro h o ho
 match h, ho with
 | 0, ho => cases ho; exact zE3 _
 | 1, ho => cases ho; exact zCd _ _
 | 2, ho => cases ho; exact zCd _ _
 | 3, ho =>
  cases ho
  intro i j _ hj
  have hj : j < 3 := hj
  match j, hj with
  | 0, _ => rfl
  | 1, _ => rfl
  | 2, _ => rfl
 | 4, ho =>
  cases ho
  intro i j _ hj
  have hj : j < 1 := hj
  match j, hj with
  | 0, _ => rfl
 | 5, ho => cases ho; exact zC0 _ _
 | 6, ho => cases ho; exact zC0 _ _
 | _ + 7, ho => simp at ho
theorem zRB (x y : Rat) (a b k : Nat) (A : List (List Rat)) (B C l : List Rat) : ∀ (h : Nat) (o : AObj), (gmH x y a b k A B C [some ⟨104, qsC l⟩])[h]? = some (some o) → zAz 8 o.c := by
 intro h o ho
 match h, ho with
 | 0, ho => cases ho; exact zE3 _
 | 1, ho => cases ho; exact zCd _ _
 | 2, ho => cases ho; exact zCd _ _
 | 3, ho =>
  cases ho
  intro i j _ hj
  have hj : j < 3 := hj
  match j, hj with
  | 0, _ => rfl
  | 1, _ => rfl
  | 2, _ => rfl
 | 4, ho =>
  cases ho
  intro i j _ hj
  have hj : j < 1 := hj
  match j, hj with
  | 0, _ => rfl
 | 5, ho => cases ho; exact zC0 _ _
 | 6, ho => cases ho; exact zC0 _ _
 | 7, ho => cases ho; exact zC0 _ _
 | _ + 8, ho => simp at ho
theorem gameq_ok (M : List (List Rat)) (w k K L : Nat) (hw : 0 < w) (hw12 : w ≤ 12) (hm : 0 < M.length) (hm12 : M.length ≤ 12) (hM : ∀ r ∈ M, r.length = w) (hD : ∀ r ∈ M, ∀ q ∈ r, D k q) (hk : k ≤ 48) (hs : Stops (zAV M w) K L) :
 zU Tryz.prog 61 [.ro (zY M) 0 M.length] (.tup [qA (zAl M w K L).1, .ro (qsC (zAl M w K L).2.1) 0 M.length, .ro (qsC (zAl M w K L).2.2) 0 w]) := by
 have hel : ∀ i j, i < M.length → j < w → Sz 100000 ((M.getD i []).getD j 0) := fun i j hi hj => by
  have hr := zAN [] hi
  exact zFM ((hD _ hr _ (zAD 0 (by rw [hM _ hr]; exact hj))).mono (by omega))
 have hrow : ∀ i, i < M.length → (M.getD i []).length = w := fun i hi => hM _ (zAN [] hi)
 have hq0 : D k ((M.getD 0 []).getD 0 0) := hD _ (zAD [] hm) _ (zAD 0 (by rw [hM _ (zAD [] hm)]; exact hw))
 have hF : ∀ i, D k ((M.take i).foldl zAu ((M.getD 0 []).getD 0 0)) := fun i => zHU (P := fun q => D k q) (M.take i) _ hq0 (fun r hr => hD r (List.mem_of_mem_take hr))
 have hFj : ∀ i j, i < M.length → Sz 100000 (zAu ((M.take i).foldl zAu ((M.getD 0 []).getD 0 0)) ((M.getD i []).take j)) := fun i j hi =>
  zFM ((zJK (P := fun q => D k q) _ _ (hF i) (fun q hq => hD _ (zAN [] hi) q (List.mem_of_mem_take hq))).mono (by omega))
 have hFsn : ∀ i, i < M.length → (M.take (i + 1)).foldl zAu ((M.getD 0 []).getD 0 0) = zAu ((M.take i).foldl zAu ((M.getD 0 []).getD 0 0)) ((M.getD i []).take w) := fun i hi => by
  rw [zNY _ M hi, List.take_of_length_le (l := M.getD i []) (by rw [hrow i hi]; exact Nat.le_refl w)]
 have hend : (M.take M.length).foldl zAu ((M.getD 0 []).getD 0 0) = zGN M := by rw [List.take_length]; rfl
 have hLs : Sz 100000 (zGN M) := zFM ((zQE hw hm hM hD).mono (by omega))
 have hAs : Sz 100000 (zDr M) := zFM ((addM_D hw hm hM hD).mono (by omega))
 have s1 : zU Tryz.prog 147 [qA 1, qA (zGN M)] (qA (zDr M)) := zQT 1 (zGN M) (zFM ((zHk 0).mono (by omega))) hLs
 have hadd : ∀ i j, i < M.length → j < w → zU Tryz.prog 148 [qA ((M.getD i []).getD j 0), qA (zDr M)] (qA ((M.getD i []).getD j 0 + zDr M)) := fun i j hi hj => zIq _ _ (hel i j hi hj) hAs
 have R := ran hw hw12 hm hm12 hM hD hk hs
 have hcR := Run_ok (zAV M w) (2 * k + 3) K L (zFz hM) (zLe hw hm hM hD) (by rw [zIc]; omega) (by rw [zId]; omega) (by omega) hs
 obtain ⟨r, hr⟩ : ∃ r, r = zDc (zAV M w) K L := ⟨_, rfl⟩
 have eQ : zAl M w K L = (1 / r.V - zDr M, zFf r.V r.Y, zFf r.V r.X) := by rw [hr]; rfl
 have hA0 : (zAV M w).A = M.map (zFK (zDr M)) := rfl
 have hB0 : (zAV M w).B = List.replicate M.length 1 := rfl
 have hC0 : (zAV M w).C = List.replicate w 1 := rfl
 obtain ⟨rk, rp, rx, ry, rxd, ryd, rvd⟩ := R
 rw [← hr] at hcR rk rp rx ry rxd ryd rvd
 rw [hA0, hB0, hC0, List.length_map, List.length_replicate, List.length_replicate] at hcR
 have eA : runA r = .agg ([.int .i64 0, .ro (qsC r.X) 0 w, .ro (qsC r.Y) 0 M.length, .nil] ++ zT r.V) := by
  unfold runA
  rw [rk, if_neg (by decide), if_neg (by decide), if_neg (by decide), if_pos rfl, rx, ry]
  rfl
 rw [eA] at hcR
 have hVs : Sz 100000 r.V := zFM (rvd.mono (by omega))
 have dX : ∀ j, j < w → zU Tryz.prog 149 [qA (r.X.getD j 0), qA r.V] (qA (r.X.getD j 0 / r.V)) := fun j hj => zMr _ _ (zFM ((rxd _ (zAD 0 (by omega))).mono (by omega))) hVs rp
 have dY : ∀ j, j < M.length → zU Tryz.prog 149 [qA (r.Y.getD j 0), qA r.V] (qA (r.Y.getD j 0 / r.V)) := fun j hj => zMr _ _ (zFM ((ryd _ (zAD 0 (by omega))).mono (by omega))) hVs rp
 have d1 := zMr 1 r.V (zFM ((zHk 0).mono (by omega))) hVs rp
 have s2 := zQT (1 / r.V) (zDr M) (zFM (((zHk 0).div rvd rp).mono (by omega))) hAs
 rw [eQ]
 clear hr eQ hA0 hB0 hC0 eA rk hs hD hM rxd ryd rvd hq0 hF
 refine zQ.value0 (zE (P := Tryz.prog) (fn := Tryz.f61) Z Z (by kernel_rfl) Z (fun c hR hfix => ?_)) (fix := fun _ => False) (fun _ h => h) Z Z
 have hr0 := hrow 0 hm
 have hr1 : 0 < (M.getD 0 []).length := by omega
 refine rn6 ?_
 refine zD 26 (.agg (zT ((M.getD 0 []).getD 0 0))) Z (AEq.of_eq Z) ?_
 generalize hg0 : (M.getD 0 []).getD 0 0 = q0 at *
 refine sa1 (c' := .box (zT q0)) Z Z Z Z Z Z Z ?_
 refine rn3 ?_
 generalize hn : M.length = n at *
 refine zZ (ι := Nat) (fun i => [(0, .ro (zY M) 0 n), (2, .ptr 0 0 0), (3, .nil), (4, .nil), (5, .ptr 1 0 0), (27, .ro (zY M) 0 n), (28, iN n), (29, iN i)]) (fun i => [oZ, oQ ((M.take i).foldl zAu q0)])
  (fun i => i ≤ n) (fun i => n - i) 0 ⟨⟨rfl, rfl, rfl, rfl, rfl, rfl, rfl, rfl, trivial⟩, rfl, Nat.zero_le _⟩ ?_
 intro i hi
 refine rn4 ?_
 refine zA Z (fun h => ?_) (fun h => ?_)
 ·have hi' : i < n := by omega
  have hrl := hrow i hi'
  have hfs := hFsn i hi'
  have hfj := fun j => hFj i j hi'
  have helj := fun j => hel i j hi'
  generalize hF2 : (M.take (i + 1)).foldl zAu q0 = F2 at *
  generalize hF0 : (M.take i).foldl zAu q0 = F at *
  refine rn6 ?_
  refine z8 7 (.ro (qsC (M.getD i [])) 0 w) Z (AEq.of_eq (by show AV.ro (qsC (M.getD i [])) 0 (M.getD i []).length = _; rw [hrl])) ?_
  refine z8 33 (.ro (qsC (M.getD i [])) 0 w) Z (AEq.of_eq (by show AV.ro (qsC (M.getD i [])) 0 (M.getD i []).length = _; rw [hrl])) ?_
  refine z8 34 (iN w) Z (AEq.of_eq (by rw [hrl])) ?_
  skip
  refine zZ (ι := Nat) (fun j => [(0, .ro (zY M) 0 n), (2, .ptr 0 0 0), (3, .nil), (4, .nil), (5, .ptr 1 0 0), (27, .ro (zY M) 0 n), (28, iN n), (29, iN i), (33, .ro (qsC (M.getD i [])) 0 w), (34, iN w), (35, iN j)]) (fun j => [oZ, oQ (zAu F ((M.getD i []).take j))])
   (fun j => j ≤ w) (fun j => w - j) 0 ⟨⟨rfl, rfl, rfl, rfl, rfl, rfl, rfl, rfl, rfl, rfl, rfl, trivial⟩, rfl, Nat.zero_le _⟩ ?_
  intro j hj
  refine rn4 ?_
  refine zA Z (fun h => ?_) (fun h => ?_)
  ·have hj' : j < w := by omega
   have hls := zNZ F (M.getD i []) (show j < (M.getD i []).length by omega)
   have cq := zGV ((M.getD i []).getD j 0) (zAu F ((M.getD i []).take j)) (helj j hj') (hfj j)
   generalize hG2 : zAu F ((M.getD i []).take (j + 1)) = G2 at *
   generalize zAu F ((M.getD i []).take j) = G at *
   refine rn6 ?_
   refine zD 38 (.agg (zT ((M.getD i []).getD j 0))) Z (AEq.of_eq Z) ?_
   generalize hqj : (M.getD i []).getD j 0 = q at *
   refine sa1 (c' := .box (zT q)) Z Z Z Z Z Z Z ?_
   refine rn6 ?_
   refine zB Z Z Z cq ?_
   refine rn4 ?_
   refine zA Z (fun h4 => ?_) (fun h4 => ?_)
   ·rw [if_pos h4] at hls
    subst hls
    refine rn6 ?_
    refine sa1 (c' := .box (zT G2)) Z Z Z Z Z Z Z ?_
    refine zDt ?_
    refine zI ?_
    refine zA3 [oZ, oQ G2] [oQ G2] [(0, .ro (zY M) 0 n), (2, .ptr 0 0 0), (3, .nil), (4, .nil), (5, .ptr 1 0 0), (27, .ro (zY M) 0 n), (28, iN n), (29, iN i), (33, .ro (qsC (M.getD i [])) 0 w), (34, iN w), (35, iN j)] Z ⟨Z, Z, Z, Z, Z, Z, Z, Z, Z, Z, Z, trivial⟩ (fun h hh => by rw [hfix] at hh; exact absurd hh id) (zLh (zE3 _) (zCd _ _)) Z ?_
    refine rn3 ?_
    exact zJ ⟨j + 1, by omega, by omega, ⟨Z, Z, Z, Z, Z, Z, Z, Z, Z, Z, Z, trivial⟩, by rw [hG2]⟩
   ·rw [if_neg h4] at hls
    subst hls
    refine zDt ?_
    refine zI ?_
    refine zA3 [oZ, oQ G2] [oQ q] [(0, .ro (zY M) 0 n), (2, .ptr 0 0 0), (3, .nil), (4, .nil), (5, .ptr 1 0 0), (27, .ro (zY M) 0 n), (28, iN n), (29, iN i), (33, .ro (qsC (M.getD i [])) 0 w), (34, iN w), (35, iN j)] Z ⟨Z, Z, Z, Z, Z, Z, Z, Z, Z, Z, Z, trivial⟩ (fun h hh => by rw [hfix] at hh; exact absurd hh id) (zLh (zE3 _) (zCd _ _)) Z ?_
    refine rn3 ?_
    exact zJ ⟨j + 1, by omega, by omega, ⟨Z, Z, Z, Z, Z, Z, Z, Z, Z, Z, Z, trivial⟩, by rw [hG2]⟩
  ·have hje : j = w := by omega
   subst hje
   rw [← hfs]
   refine rn5 ?_
   exact zJ ⟨i + 1, by omega, by omega, ⟨Z, Z, Z, Z, Z, Z, Z, Z, trivial⟩, by rw [hF2]⟩
 have hie : i = n := by omega
 subst hie
 rw [hend]
 generalize zGN M = LM at *
 generalize hAA : zDr M = AA at *
 refine rn5 ?_
 refine zi (by kernel_rfl) ?_
 apply zDU (H := [oZ, oQ LM, oZ]) [(0, .ro (zY M) 0 i), (2, .ptr 0 0 0), (3, .nil), (4, .nil), (10, .ptr 2 0 0), (48, qA AA)]
 ·intro fin
  refine zF (is := [0, 1, 3]) (by kernel_rfl) (by simp) Z ⟨fun o ho => ?_, fun o ho => ?_, fun o ho => ?_, trivial⟩
  all_goals (cases ho)
  ·refine zB Z Z Z zCL ?_
   refine rn1 ?_
   refine zF (is := [1, 3]) (by kernel_rfl) (by simp) Z ⟨fun o ho => ?_, fun o ho => ?_, trivial⟩
   all_goals (cases ho)
   ·refine rn6 ?_
    refine zF (is := [2, 3]) (by kernel_rfl) (by simp) Z ⟨fun o ho => ?_, fun o ho => ?_, trivial⟩
    all_goals (cases ho)
    ·refine zB Z Z Z s1 ?_
     refine rn1 ?_
     refine zF (is := [3]) (by kernel_rfl) (by simp) Z ⟨fun o ho => ?_, trivial⟩
     all_goals (cases ho)
     refine rn4 ?_
     exact fin _ ⟨Z, Z, Z, Z, Z, Z, trivial⟩
    ·refine rn4 ?_
     refine zF (is := [2]) (by kernel_rfl) (by simp) Z ⟨fun o ho => ?_, trivial⟩
     all_goals (cases ho)
     refine zB Z Z Z s1 ?_
     refine rn1 ?_
     exact fin _ ⟨Z, Z, Z, Z, Z, Z, trivial⟩
   ·refine rn4 ?_
    refine zF (is := [1]) (by kernel_rfl) (by simp) Z ⟨fun o ho => ?_, trivial⟩
    all_goals (cases ho)
    refine rn6 ?_
    refine zF (is := [2]) (by kernel_rfl) (by simp) Z ⟨fun o ho => ?_, trivial⟩
    all_goals (cases ho)
    refine zB Z Z Z s1 ?_
    refine rn1 ?_
    exact fin _ ⟨Z, Z, Z, Z, Z, Z, trivial⟩
  ·refine rn6 ?_
   refine zF (is := [0, 3]) (by kernel_rfl) (by simp) Z ⟨fun o ho => ?_, fun o ho => ?_, trivial⟩
   all_goals (cases ho)
   ·refine zB Z Z Z zCL ?_
    refine rn1 ?_
    refine zF (is := [2, 3]) (by kernel_rfl) (by simp) Z ⟨fun o ho => ?_, fun o ho => ?_, trivial⟩
    all_goals (cases ho)
    ·refine zB Z Z Z s1 ?_
     refine rn1 ?_
     refine zF (is := [3]) (by kernel_rfl) (by simp) Z ⟨fun o ho => ?_, trivial⟩
     all_goals (cases ho)
     refine rn4 ?_
     exact fin _ ⟨Z, Z, Z, Z, Z, Z, trivial⟩
    ·refine rn4 ?_
     refine zF (is := [2]) (by kernel_rfl) (by simp) Z ⟨fun o ho => ?_, trivial⟩
     all_goals (cases ho)
     refine zB Z Z Z s1 ?_
     refine rn1 ?_
     exact fin _ ⟨Z, Z, Z, Z, Z, Z, trivial⟩
   ·refine rn4 ?_
    refine zF (is := [0]) (by kernel_rfl) (by simp) Z ⟨fun o ho => ?_, trivial⟩
    all_goals (cases ho)
    refine zB Z Z Z zCL ?_
    refine rn1 ?_
    refine zF (is := [2]) (by kernel_rfl) (by simp) Z ⟨fun o ho => ?_, trivial⟩
    all_goals (cases ho)
    refine zB Z Z Z s1 ?_
    refine rn1 ?_
    exact fin _ ⟨Z, Z, Z, Z, Z, Z, trivial⟩
  ·refine rn4 ?_
   refine zF (is := [0, 1]) (by kernel_rfl) (by simp) Z ⟨fun o ho => ?_, fun o ho => ?_, trivial⟩
   all_goals (cases ho)
   ·refine zB Z Z Z zCL ?_
    refine rn1 ?_
    refine zF (is := [1]) (by kernel_rfl) (by simp) Z ⟨fun o ho => ?_, trivial⟩
    all_goals (cases ho)
    refine rn6 ?_
    refine zF (is := [2]) (by kernel_rfl) (by simp) Z ⟨fun o ho => ?_, trivial⟩
    all_goals (cases ho)
    refine zB Z Z Z s1 ?_
    refine rn1 ?_
    exact fin _ ⟨Z, Z, Z, Z, Z, Z, trivial⟩
   ·refine rn6 ?_
    refine zF (is := [0]) (by kernel_rfl) (by simp) Z ⟨fun o ho => ?_, trivial⟩
    all_goals (cases ho)
    refine zB Z Z Z zCL ?_
    refine rn1 ?_
    refine zF (is := [2]) (by kernel_rfl) (by simp) Z ⟨fun o ho => ?_, trivial⟩
    all_goals (cases ho)
    refine zB Z Z Z s1 ?_
    refine rn1 ?_
    exact fin _ ⟨Z, Z, Z, Z, Z, Z, trivial⟩
 refine zF (is := [4]) (by kernel_rfl) (by simp) Z ⟨fun o ho => ?_, trivial⟩
 all_goals (cases ho)
 skip
 unfold qA
 refine sa1 (c' := .box (zT AA)) Z Z Z Z Z Z Z ?_
 refine rn1 ?_
 refine zW (by kernel_rfl) ?_
 refine rn4 ?_
 refine zE2 3 ⟨105, zY []⟩ (.box [.sl 4 0 0, .nil, .nil]) Z Z Z Z (fun i' j' _ hj' => ?_) ?_
 ·have hj' : j' < 3 := hj'
  match j', hj' with
  | 0, _ => exact .inr ⟨rfl, rfl⟩
  | 1, _ => exact .inl rfl
  | 2, _ => exact .inl rfl
 refine zE2 3 ⟨104, qsC []⟩ (.box [.sl 4 0 0, .sl 5 0 0, .nil]) Z Z Z Z (fun i' j' _ hj' => ?_) ?_
 ·have hj' : j' < 3 := hj'
  match j', hj' with
  | 0, _ => exact .inl rfl
  | 1, _ => exact .inr ⟨rfl, rfl⟩
  | 2, _ => exact .inl rfl
 refine zE2 3 ⟨104, qsC []⟩ (.box [.sl 4 0 0, .sl 5 0 0, .sl 6 0 0]) Z Z Z Z (fun i' j' _ hj' => ?_) ?_
 ·have hj' : j' < 3 := hj'
  match j', hj' with
  | 0, _ => exact .inl rfl
  | 1, _ => exact .inl rfl
  | 2, _ => exact .inr ⟨rfl, rfl⟩
 refine zAj (gmH LM AA 0 0 0 [] [] [] []) Z ?_
 skip
 refine zZ (ι := Nat) (fun a => [(0, .ro (zY M) 0 i), (2, .ptr 0 0 0), (3, .nil), (4, .nil), (10, .ptr 2 0 0), (11, .ptr 3 0 0), (49, .ro (zY M) 0 i), (50, iN i), (51, iN a)]) (fun a => gmH LM AA a a 0 ((M.take a).map (zFK AA)) (List.replicate a 1) [] [])
  (fun a => a ≤ i) (fun a => i - a) 0 ⟨⟨rfl, rfl, rfl, rfl, rfl, rfl, rfl, rfl, rfl, trivial⟩, rfl, Nat.zero_le _⟩ ?_
 intro a ha
 refine rn4 ?_
 refine zA Z (fun h => ?_) (fun h => ?_)
 ·have ha' : a < i := by omega
  have hrl := hrow a ha'
  have hadj := fun j hj => hadd a j ha' hj
  have hsn := zQk AA M (i := a) (by omega)
  have hon := zLt a
  have hAl : ((M.take a).map (zFK AA)).length = a := by rw [List.length_map, List.length_take]; omega
  have hBl : (List.replicate a (1 : Rat)).length = a := List.length_replicate
  generalize hA2 : (M.take (a + 1)).map (zFK AA) = A2 at *
  generalize (M.take a).map (zFK AA) = A at *
  generalize hB2 : List.replicate (a + 1) (1 : Rat) = B2 at *
  generalize List.replicate a (1 : Rat) = B at *
  refine rn6 ?_
  refine z8 13 (.ro (qsC (M.getD a [])) 0 w) Z (AEq.of_eq (by show AV.ro (qsC (M.getD a [])) 0 (M.getD a []).length = _; rw [hrl])) ?_
  generalize hrow' : M.getD a [] = row at *
  skip
  refine zAb 14 ⟨104, qsC []⟩ Z Z ?_
  skip
  refine z8 55 (.ro (qsC row) 0 w) Z (AEq.of_eq (by show AV.ro (qsC row) 0 row.length = _; rw [hrl])) ?_
  refine z8 56 (iN w) Z (AEq.of_eq (by rw [hrl])) ?_
  refine zZ (ι := Nat) (fun j => [(0, .ro (zY M) 0 i), (2, .ptr 0 0 0), (3, .nil), (4, .nil), (10, .ptr 2 0 0), (11, .ptr 3 0 0), (49, .ro (zY M) 0 i), (50, iN i), (51, iN a), (13, .ro (qsC row) 0 w), (14, .sl 7 0 j), (55, .ro (qsC row) 0 w), (56, iN w), (57, iN j)]) (fun j => gmH LM AA a a 0 A B [] [some ⟨104, qsC (zFK AA (row.take j))⟩])
   (fun j => j ≤ w) (fun j => w - j) 0 ⟨⟨rfl, rfl, rfl, rfl, rfl, rfl, rfl, rfl, rfl, rfl, rfl, rfl, rfl, rfl, trivial⟩, rfl, Nat.zero_le _⟩ ?_
  intro j hj
  refine rn4 ?_
  refine zA Z (fun h => ?_) (fun h => ?_)
  ·have hj' : j < w := by omega
   have hls := zQj AA row (j := j) (by omega)
   have hll : (zFK AA (row.take j)).length = j := by rw [zM1, List.length_take]; omega
   have ca := hadj j hj'
   generalize hl2 : zFK AA (row.take (j + 1)) = l2 at *
   generalize zFK AA (row.take j) = l at *
   refine rn6 ?_
   refine zD 60 (.agg (zT (row.getD j 0))) Z (AEq.of_eq Z) ?_
   generalize hqj : row.getD j 0 = q at *
   refine sa1 (c' := .box (zT q)) Z Z Z Z Z Z Z ?_
   refine zO (gmH LM AA a a 0 A B [] [some ⟨104, qsC l⟩, oQ q]) Z ?_
   refine rn6 ?_
   refine zB Z Z Z ca ?_
   generalize q + AA = s at *
   unfold qA
   repeat (refine zf rfl rfl rfl rfl rfl rfl rfl rfl rfl rfl rfl ?_)
   refine zo Z Z Z Z Z Z Z Z Z hll Z Z (by show 0 + 1 ≤ 1; omega) Z (by show (j + 1) * 56 ≤ _ ∧ _; omega) ?_ (by rw [hfix]; exact fun h => h) ?_
   ·intro i' j' hi' hj'
    exact zAH 0 3 zT zAf l s _ (zCh _) 7 i' j' hi' hj'
   refine zu (gmH LM AA a a 0 A B [] [some ⟨104, qsC (l ++ [s])⟩, oQ q]) (zP.eqv (CEq.refl _) (zP.eqv (CEq.refl _) (zP.eqv (CEq.refl _) (zP.eqv (CEq.refl _) (zP.eqv (zMb _ _) (zP.eqv (zDa _ _) (zP.eqv (zDa _ _) (zP.eqv (zAQ 0 3 zT l s _ (zCh _)) (zP.eqv (CEq.refl _) zP.nil))))))))) ?_
   refine zDt ?_
   refine zI ?_
   refine zA3 (gmH LM AA a a 0 A B [] [some ⟨104, qsC (l ++ [s])⟩]) [oQ q] [(0, .ro (zY M) 0 i), (2, .ptr 0 0 0), (3, .nil), (4, .nil), (10, .ptr 2 0 0), (11, .ptr 3 0 0), (49, .ro (zY M) 0 i), (50, iN i), (51, iN a), (13, .ro (qsC row) 0 w), (14, .sl 7 0 (j + 1)), (55, .ro (qsC row) 0 w), (56, iN w), (57, iN j)] Z ⟨Z, Z, Z, Z, Z, Z, Z, Z, Z, Z, Z, Z, Z, Z, trivial⟩ (fun h hh => by rw [hfix] at hh; exact absurd hh id) (zRB _ _ _ _ _ _ _ _ _) Z ?_
   refine rn3 ?_
   exact zJ ⟨j + 1, by omega, by omega, ⟨Z, Z, Z, Z, Z, Z, Z, Z, Z, Z, Z, Z, Z, Z, trivial⟩, by rw [hl2, hls]⟩
  ·have hje : j = w := by omega
   have hfull : row.take j = row := List.take_of_length_le (by omega)
   subst hje
   rw [hfull]
   have hl0 : (zFK AA row).length = j := by rw [zM1]; exact hrl
   generalize zFK AA row = l at *
   refine zF6 ?_
   refine zAL 7 14 j [(0, .ro (zY M) 0 i), (2, .ptr 0 0 0), (3, .nil), (4, .nil), (10, .ptr 2 0 0), (11, .ptr 3 0 0), (49, .ro (zY M) 0 i), (50, iN i), (51, iN a)] Z (zAv _) Z (by show j ≤ l.length; omega) ⟨Z, Z, Z, Z, Z, Z, Z, Z, Z, trivial⟩ ?_
   refine zA3 (gmH LM AA a a 0 A B [] []) [none] [(0, .ro (zY M) 0 i), (2, .ptr 0 0 0), (3, .nil), (4, .nil), (10, .ptr 2 0 0), (11, .ptr 3 0 0), (49, .ro (zY M) 0 i), (50, iN i), (51, iN a), (14, .ro (qsC l) 0 j)] Z ⟨Z, Z, Z, Z, Z, Z, Z, Z, Z, Z, trivial⟩ (fun h hh => by rw [hfix] at hh; exact absurd hh id) (gm_below _ _ _ _ _ _ _ _) Z ?_
   skip
   refine zi (by kernel_rfl) ?_
   have hR1 : ∀ j', j' < 1 → (zBt 1 1 [.ro (qsC l) 0 j]).at 0 j' = (zCe l).getD j' .any := fun j' hj' => by rw [← hl0]; exact zN4 l j' hj'
   refine zV 0 Z (by kernel_rfl) (by kernel_rfl) (by kernel_rfl) Z (zH Z Z Z Z Z Z) Z ?_
   refine zV 2 Z (by kernel_rfl) (by kernel_rfl) (by kernel_rfl) Z (zK Z) Z ?_
   refine zV 5 Z (by kernel_rfl) (by kernel_rfl) (by kernel_rfl) Z (zH Z Z Z Z Z Z) Z ?_
   apply zDU (H := [oZ, oQ LM, oQ AA, some ⟨193, .box [.any, .sl 5 0 a, .sl 6 0 0]⟩, some ⟨105, zY (A ++ [l])⟩, some ⟨104, qsC B⟩, some ⟨104, qsC []⟩]) [(0, .ro (zY M) 0 i), (2, .ptr 0 0 0), (3, .nil), (4, .nil), (10, .ptr 2 0 0), (11, .ptr 3 0 0), (49, .ro (zY M) 0 i), (50, iN i), (51, iN a), (72, .sl 4 0 (a + 1)), (74, .sl 5 0 a), (76, .ro (zBt 1 3 (zT 1)) 0 1), (78, .ptr 3 0 0)]
   ·intro fin
    refine zF (is := [1, 3, 6]) (by kernel_rfl) (by simp) Z ⟨fun o ho => ?_, fun o ho => ?_, fun o ho => ?_, trivial⟩
    all_goals (cases ho)
    ·refine rn4 ?_
     refine zF (is := [3, 6]) (by kernel_rfl) (by simp) Z ⟨fun o ho => ?_, fun o ho => ?_, trivial⟩
     all_goals (cases ho)
     ·refine rn3 ?_
      refine zF (is := [4, 6]) (by kernel_rfl) (by simp) Z ⟨fun o ho => ?_, fun o ho => ?_, trivial⟩
      all_goals (cases ho)
      ·refine zo Z Z Z Z Z Z Z Z Z hAl Z Z (by show 0 + 1 ≤ 1; omega) Z (by show (a + 1) * 24 ≤ _ ∧ _; omega) ?_ (by rw [hfix]; exact fun h => h) ?_
       ·intro i' j' hi' hj'
        exact zAH [] 1 zCe zBQ A l _ hR1 4 i' j' hi' hj'
       refine zu [oZ, oQ LM, oQ AA, some ⟨193, .box [.any, .sl 5 0 a, .sl 6 0 0]⟩, some ⟨105, zY (A ++ [l])⟩, some ⟨104, qsC B⟩, some ⟨104, qsC []⟩] (zP.eqv (CEq.refl _) (zP.eqv (CEq.refl _) (zP.eqv (CEq.refl _) (zP.eqv (CEq.refl _) (zP.eqv (zAQ [] 1 zCe A l _ hR1) (zP.eqv (zDa _ _) (zP.eqv (zDa _ _) zP.nil))))))) ?_
       refine rn1 ?_
       refine zF (is := [6, 7]) (by kernel_rfl) (by simp) Z ⟨fun o ho => ?_, fun o ho => ?_, trivial⟩
       all_goals (cases ho)
       ·refine rn4 ?_
        refine zV 10 Z (by kernel_rfl) (by kernel_rfl) (by kernel_rfl) Z (zH Z Z Z Z Z Z) Z ?_
        refine zF (is := [7]) (by kernel_rfl) (by simp) Z ⟨fun o ho => ?_, trivial⟩
        all_goals (cases ho)
        refine zB Z Z Z zCL ?_
        unfold qA
        refine rn1 ?_
        refine zF (is := [8]) (by kernel_rfl) (by simp) Z ⟨fun o ho => ?_, trivial⟩
        all_goals (cases ho)
        refine rn3 ?_
        exact fin _ ⟨Z, Z, Z, Z, Z, Z, Z, Z, Z, Z, Z, Z, Z, trivial⟩
       ·refine zB Z Z Z zCL ?_
        unfold qA
        refine rn1 ?_
        refine zF (is := [6, 8]) (by kernel_rfl) (by simp) Z ⟨fun o ho => ?_, fun o ho => ?_, trivial⟩
        all_goals (cases ho)
        ·refine rn4 ?_
         refine zV 10 Z (by kernel_rfl) (by kernel_rfl) (by kernel_rfl) Z (zH Z Z Z Z Z Z) Z ?_
         refine zF (is := [8]) (by kernel_rfl) (by simp) Z ⟨fun o ho => ?_, trivial⟩
         all_goals (cases ho)
         refine rn3 ?_
         exact fin _ ⟨Z, Z, Z, Z, Z, Z, Z, Z, Z, Z, Z, Z, Z, trivial⟩
        ·refine rn3 ?_
         refine zF (is := [6]) (by kernel_rfl) (by simp) Z ⟨fun o ho => ?_, trivial⟩
         all_goals (cases ho)
         refine rn4 ?_
         refine zV 10 Z (by kernel_rfl) (by kernel_rfl) (by kernel_rfl) Z (zH Z Z Z Z Z Z) Z ?_
         exact fin _ ⟨Z, Z, Z, Z, Z, Z, Z, Z, Z, Z, Z, Z, Z, trivial⟩
      ·refine rn4 ?_
       refine zF (is := [4]) (by kernel_rfl) (by simp) Z ⟨fun o ho => ?_, trivial⟩
       all_goals (cases ho)
       refine zo Z Z Z Z Z Z Z Z Z hAl Z Z (by show 0 + 1 ≤ 1; omega) Z (by show (a + 1) * 24 ≤ _ ∧ _; omega) ?_ (by rw [hfix]; exact fun h => h) ?_
       ·intro i' j' hi' hj'
        exact zAH [] 1 zCe zBQ A l _ hR1 4 i' j' hi' hj'
       refine zu [oZ, oQ LM, oQ AA, some ⟨193, .box [.any, .sl 5 0 a, .sl 6 0 0]⟩, some ⟨105, zY (A ++ [l])⟩, some ⟨104, qsC B⟩, some ⟨104, qsC []⟩] (zP.eqv (CEq.refl _) (zP.eqv (CEq.refl _) (zP.eqv (CEq.refl _) (zP.eqv (CEq.refl _) (zP.eqv (zAQ [] 1 zCe A l _ hR1) (zP.eqv (zDa _ _) (zP.eqv (zDa _ _) zP.nil))))))) ?_
       refine rn1 ?_
       refine zV 10 Z (by kernel_rfl) (by kernel_rfl) (by kernel_rfl) Z (zH Z Z Z Z Z Z) Z ?_
       refine zF (is := [7]) (by kernel_rfl) (by simp) Z ⟨fun o ho => ?_, trivial⟩
       all_goals (cases ho)
       refine zB Z Z Z zCL ?_
       unfold qA
       refine rn1 ?_
       refine zF (is := [8]) (by kernel_rfl) (by simp) Z ⟨fun o ho => ?_, trivial⟩
       all_goals (cases ho)
       refine rn3 ?_
       exact fin _ ⟨Z, Z, Z, Z, Z, Z, Z, Z, Z, Z, Z, Z, Z, trivial⟩
     ·refine rn4 ?_
      refine zF (is := [3]) (by kernel_rfl) (by simp) Z ⟨fun o ho => ?_, trivial⟩
      all_goals (cases ho)
      refine rn3 ?_
      refine zF (is := [4]) (by kernel_rfl) (by simp) Z ⟨fun o ho => ?_, trivial⟩
      all_goals (cases ho)
      refine zo Z Z Z Z Z Z Z Z Z hAl Z Z (by show 0 + 1 ≤ 1; omega) Z (by show (a + 1) * 24 ≤ _ ∧ _; omega) ?_ (by rw [hfix]; exact fun h => h) ?_
      ·intro i' j' hi' hj'
       exact zAH [] 1 zCe zBQ A l _ hR1 4 i' j' hi' hj'
      refine zu [oZ, oQ LM, oQ AA, some ⟨193, .box [.any, .sl 5 0 a, .sl 6 0 0]⟩, some ⟨105, zY (A ++ [l])⟩, some ⟨104, qsC B⟩, some ⟨104, qsC []⟩] (zP.eqv (CEq.refl _) (zP.eqv (CEq.refl _) (zP.eqv (CEq.refl _) (zP.eqv (CEq.refl _) (zP.eqv (zAQ [] 1 zCe A l _ hR1) (zP.eqv (zDa _ _) (zP.eqv (zDa _ _) zP.nil))))))) ?_
      refine rn1 ?_
      refine zV 10 Z (by kernel_rfl) (by kernel_rfl) (by kernel_rfl) Z (zH Z Z Z Z Z Z) Z ?_
      refine zF (is := [7]) (by kernel_rfl) (by simp) Z ⟨fun o ho => ?_, trivial⟩
      all_goals (cases ho)
      refine zB Z Z Z zCL ?_
      unfold qA
      refine rn1 ?_
      refine zF (is := [8]) (by kernel_rfl) (by simp) Z ⟨fun o ho => ?_, trivial⟩
      all_goals (cases ho)
      refine rn3 ?_
      exact fin _ ⟨Z, Z, Z, Z, Z, Z, Z, Z, Z, Z, Z, Z, Z, trivial⟩
    ·refine rn3 ?_
     refine zF (is := [1, 6]) (by kernel_rfl) (by simp) Z ⟨fun o ho => ?_, fun o ho => ?_, trivial⟩
     all_goals (cases ho)
     ·refine rn4 ?_
      refine zF (is := [4, 6]) (by kernel_rfl) (by simp) Z ⟨fun o ho => ?_, fun o ho => ?_, trivial⟩
      all_goals (cases ho)
      ·refine zo Z Z Z Z Z Z Z Z Z hAl Z Z (by show 0 + 1 ≤ 1; omega) Z (by show (a + 1) * 24 ≤ _ ∧ _; omega) ?_ (by rw [hfix]; exact fun h => h) ?_
       ·intro i' j' hi' hj'
        exact zAH [] 1 zCe zBQ A l _ hR1 4 i' j' hi' hj'
       refine zu [oZ, oQ LM, oQ AA, some ⟨193, .box [.any, .sl 5 0 a, .sl 6 0 0]⟩, some ⟨105, zY (A ++ [l])⟩, some ⟨104, qsC B⟩, some ⟨104, qsC []⟩] (zP.eqv (CEq.refl _) (zP.eqv (CEq.refl _) (zP.eqv (CEq.refl _) (zP.eqv (CEq.refl _) (zP.eqv (zAQ [] 1 zCe A l _ hR1) (zP.eqv (zDa _ _) (zP.eqv (zDa _ _) zP.nil))))))) ?_
       refine rn1 ?_
       refine zF (is := [6, 7]) (by kernel_rfl) (by simp) Z ⟨fun o ho => ?_, fun o ho => ?_, trivial⟩
       all_goals (cases ho)
       ·refine rn4 ?_
        refine zV 10 Z (by kernel_rfl) (by kernel_rfl) (by kernel_rfl) Z (zH Z Z Z Z Z Z) Z ?_
        refine zF (is := [7]) (by kernel_rfl) (by simp) Z ⟨fun o ho => ?_, trivial⟩
        all_goals (cases ho)
        refine zB Z Z Z zCL ?_
        unfold qA
        refine rn1 ?_
        refine zF (is := [8]) (by kernel_rfl) (by simp) Z ⟨fun o ho => ?_, trivial⟩
        all_goals (cases ho)
        refine rn3 ?_
        exact fin _ ⟨Z, Z, Z, Z, Z, Z, Z, Z, Z, Z, Z, Z, Z, trivial⟩
       ·refine zB Z Z Z zCL ?_
        unfold qA
        refine rn1 ?_
        refine zF (is := [6, 8]) (by kernel_rfl) (by simp) Z ⟨fun o ho => ?_, fun o ho => ?_, trivial⟩
        all_goals (cases ho)
        ·refine rn4 ?_
         refine zV 10 Z (by kernel_rfl) (by kernel_rfl) (by kernel_rfl) Z (zH Z Z Z Z Z Z) Z ?_
         refine zF (is := [8]) (by kernel_rfl) (by simp) Z ⟨fun o ho => ?_, trivial⟩
         all_goals (cases ho)
         refine rn3 ?_
         exact fin _ ⟨Z, Z, Z, Z, Z, Z, Z, Z, Z, Z, Z, Z, Z, trivial⟩
        ·refine rn3 ?_
         refine zF (is := [6]) (by kernel_rfl) (by simp) Z ⟨fun o ho => ?_, trivial⟩
         all_goals (cases ho)
         refine rn4 ?_
         refine zV 10 Z (by kernel_rfl) (by kernel_rfl) (by kernel_rfl) Z (zH Z Z Z Z Z Z) Z ?_
         exact fin _ ⟨Z, Z, Z, Z, Z, Z, Z, Z, Z, Z, Z, Z, Z, trivial⟩
      ·refine rn4 ?_
       refine zF (is := [4]) (by kernel_rfl) (by simp) Z ⟨fun o ho => ?_, trivial⟩
       all_goals (cases ho)
       refine zo Z Z Z Z Z Z Z Z Z hAl Z Z (by show 0 + 1 ≤ 1; omega) Z (by show (a + 1) * 24 ≤ _ ∧ _; omega) ?_ (by rw [hfix]; exact fun h => h) ?_
       ·intro i' j' hi' hj'
        exact zAH [] 1 zCe zBQ A l _ hR1 4 i' j' hi' hj'
       refine zu [oZ, oQ LM, oQ AA, some ⟨193, .box [.any, .sl 5 0 a, .sl 6 0 0]⟩, some ⟨105, zY (A ++ [l])⟩, some ⟨104, qsC B⟩, some ⟨104, qsC []⟩] (zP.eqv (CEq.refl _) (zP.eqv (CEq.refl _) (zP.eqv (CEq.refl _) (zP.eqv (CEq.refl _) (zP.eqv (zAQ [] 1 zCe A l _ hR1) (zP.eqv (zDa _ _) (zP.eqv (zDa _ _) zP.nil))))))) ?_
       refine rn1 ?_
       refine zV 10 Z (by kernel_rfl) (by kernel_rfl) (by kernel_rfl) Z (zH Z Z Z Z Z Z) Z ?_
       refine zF (is := [7]) (by kernel_rfl) (by simp) Z ⟨fun o ho => ?_, trivial⟩
       all_goals (cases ho)
       refine zB Z Z Z zCL ?_
       unfold qA
       refine rn1 ?_
       refine zF (is := [8]) (by kernel_rfl) (by simp) Z ⟨fun o ho => ?_, trivial⟩
       all_goals (cases ho)
       refine rn3 ?_
       exact fin _ ⟨Z, Z, Z, Z, Z, Z, Z, Z, Z, Z, Z, Z, Z, trivial⟩
     ·refine rn4 ?_
      refine zF (is := [1]) (by kernel_rfl) (by simp) Z ⟨fun o ho => ?_, trivial⟩
      all_goals (cases ho)
      refine rn4 ?_
      refine zF (is := [4]) (by kernel_rfl) (by simp) Z ⟨fun o ho => ?_, trivial⟩
      all_goals (cases ho)
      refine zo Z Z Z Z Z Z Z Z Z hAl Z Z (by show 0 + 1 ≤ 1; omega) Z (by show (a + 1) * 24 ≤ _ ∧ _; omega) ?_ (by rw [hfix]; exact fun h => h) ?_
      ·intro i' j' hi' hj'
       exact zAH [] 1 zCe zBQ A l _ hR1 4 i' j' hi' hj'
      refine zu [oZ, oQ LM, oQ AA, some ⟨193, .box [.any, .sl 5 0 a, .sl 6 0 0]⟩, some ⟨105, zY (A ++ [l])⟩, some ⟨104, qsC B⟩, some ⟨104, qsC []⟩] (zP.eqv (CEq.refl _) (zP.eqv (CEq.refl _) (zP.eqv (CEq.refl _) (zP.eqv (CEq.refl _) (zP.eqv (zAQ [] 1 zCe A l _ hR1) (zP.eqv (zDa _ _) (zP.eqv (zDa _ _) zP.nil))))))) ?_
      refine rn1 ?_
      refine zV 10 Z (by kernel_rfl) (by kernel_rfl) (by kernel_rfl) Z (zH Z Z Z Z Z Z) Z ?_
      refine zF (is := [7]) (by kernel_rfl) (by simp) Z ⟨fun o ho => ?_, trivial⟩
      all_goals (cases ho)
      refine zB Z Z Z zCL ?_
      unfold qA
      refine rn1 ?_
      refine zF (is := [8]) (by kernel_rfl) (by simp) Z ⟨fun o ho => ?_, trivial⟩
      all_goals (cases ho)
      refine rn3 ?_
      exact fin _ ⟨Z, Z, Z, Z, Z, Z, Z, Z, Z, Z, Z, Z, Z, trivial⟩
    ·refine rn4 ?_
     refine zF (is := [1, 3]) (by kernel_rfl) (by simp) Z ⟨fun o ho => ?_, fun o ho => ?_, trivial⟩
     all_goals (cases ho)
     ·refine rn4 ?_
      refine zF (is := [3]) (by kernel_rfl) (by simp) Z ⟨fun o ho => ?_, trivial⟩
      all_goals (cases ho)
      refine rn3 ?_
      refine zF (is := [4]) (by kernel_rfl) (by simp) Z ⟨fun o ho => ?_, trivial⟩
      all_goals (cases ho)
      refine zo Z Z Z Z Z Z Z Z Z hAl Z Z (by show 0 + 1 ≤ 1; omega) Z (by show (a + 1) * 24 ≤ _ ∧ _; omega) ?_ (by rw [hfix]; exact fun h => h) ?_
      ·intro i' j' hi' hj'
       exact zAH [] 1 zCe zBQ A l _ hR1 4 i' j' hi' hj'
      refine zu [oZ, oQ LM, oQ AA, some ⟨193, .box [.any, .sl 5 0 a, .sl 6 0 0]⟩, some ⟨105, zY (A ++ [l])⟩, some ⟨104, qsC B⟩, some ⟨104, qsC []⟩] (zP.eqv (CEq.refl _) (zP.eqv (CEq.refl _) (zP.eqv (CEq.refl _) (zP.eqv (CEq.refl _) (zP.eqv (zAQ [] 1 zCe A l _ hR1) (zP.eqv (zDa _ _) (zP.eqv (zDa _ _) zP.nil))))))) ?_
      refine rn1 ?_
      refine zV 10 Z (by kernel_rfl) (by kernel_rfl) (by kernel_rfl) Z (zH Z Z Z Z Z Z) Z ?_
      refine zF (is := [7]) (by kernel_rfl) (by simp) Z ⟨fun o ho => ?_, trivial⟩
      all_goals (cases ho)
      refine zB Z Z Z zCL ?_
      unfold qA
      refine rn1 ?_
      refine zF (is := [8]) (by kernel_rfl) (by simp) Z ⟨fun o ho => ?_, trivial⟩
      all_goals (cases ho)
      refine rn3 ?_
      exact fin _ ⟨Z, Z, Z, Z, Z, Z, Z, Z, Z, Z, Z, Z, Z, trivial⟩
     ·refine rn3 ?_
      refine zF (is := [1]) (by kernel_rfl) (by simp) Z ⟨fun o ho => ?_, trivial⟩
      all_goals (cases ho)
      refine rn4 ?_
      refine zF (is := [4]) (by kernel_rfl) (by simp) Z ⟨fun o ho => ?_, trivial⟩
      all_goals (cases ho)
      refine zo Z Z Z Z Z Z Z Z Z hAl Z Z (by show 0 + 1 ≤ 1; omega) Z (by show (a + 1) * 24 ≤ _ ∧ _; omega) ?_ (by rw [hfix]; exact fun h => h) ?_
      ·intro i' j' hi' hj'
       exact zAH [] 1 zCe zBQ A l _ hR1 4 i' j' hi' hj'
      refine zu [oZ, oQ LM, oQ AA, some ⟨193, .box [.any, .sl 5 0 a, .sl 6 0 0]⟩, some ⟨105, zY (A ++ [l])⟩, some ⟨104, qsC B⟩, some ⟨104, qsC []⟩] (zP.eqv (CEq.refl _) (zP.eqv (CEq.refl _) (zP.eqv (CEq.refl _) (zP.eqv (CEq.refl _) (zP.eqv (zAQ [] 1 zCe A l _ hR1) (zP.eqv (zDa _ _) (zP.eqv (zDa _ _) zP.nil))))))) ?_
      refine rn1 ?_
      refine zV 10 Z (by kernel_rfl) (by kernel_rfl) (by kernel_rfl) Z (zH Z Z Z Z Z Z) Z ?_
      refine zF (is := [7]) (by kernel_rfl) (by simp) Z ⟨fun o ho => ?_, trivial⟩
      all_goals (cases ho)
      refine zB Z Z Z zCL ?_
      unfold qA
      refine rn1 ?_
      refine zF (is := [8]) (by kernel_rfl) (by simp) Z ⟨fun o ho => ?_, trivial⟩
      all_goals (cases ho)
      refine rn3 ?_
      exact fin _ ⟨Z, Z, Z, Z, Z, Z, Z, Z, Z, Z, Z, Z, Z, trivial⟩
   refine zF (is := [9]) (by kernel_rfl) (by simp) Z ⟨fun o ho => ?_, trivial⟩
   all_goals (cases ho)
   refine zo Z Z Z Z Z Z Z Z Z hBl Z Z (by show 0 + 1 ≤ 1; omega) Z (by show (a + 1) * 56 ≤ _ ∧ _; omega) ?_ (by rw [hfix]; exact fun h => h) ?_
   ·intro i' j' hi' hj'
    exact zAH 0 3 zT zAf B 1 _ (zCh _) 5 i' j' hi' hj'
   refine zu [oZ, oQ LM, oQ AA, some ⟨193, .box [.any, .any, .sl 6 0 0]⟩, some ⟨105, zY (A ++ [l])⟩, some ⟨104, qsC (B ++ [1])⟩, some ⟨104, qsC []⟩] (zP.eqv (CEq.refl _) (zP.eqv (CEq.refl _) (zP.eqv (CEq.refl _) (zP.eqv (CEq.refl _) (zP.eqv (zMb _ _) (zP.eqv (zAQ 0 3 zT B 1 _ (zCh _)) (zP.eqv (zDa _ _) zP.nil))))))) ?_
   refine rn1 ?_
   refine zF (is := [11]) (by kernel_rfl) (by simp) Z ⟨fun o ho => ?_, trivial⟩
   all_goals (cases ho)
   refine rn9 ?_
   refine zV 12 Z (by kernel_rfl) (by kernel_rfl) (by kernel_rfl) Z (zH Z Z Z Z Z Z) Z ?_
   refine zF (is := [13]) (by kernel_rfl) (by simp) Z ⟨fun o ho => ?_, trivial⟩
   all_goals (cases ho)
   refine rn9 ?_
   refine zW (by kernel_rfl) ?_
   refine rn5 ?_
   exact zJ ⟨a + 1, by omega, by omega, ⟨Z, Z, Z, Z, Z, Z, Z, Z, Z, trivial⟩, by rw [hA2, hsn, hB2, hon]; rfl⟩
 ·have hae : a = i := by omega
  subst hae
  have hAe : (M.take a).map (zFK AA) = M.map (zFK AA) := by rw [List.take_of_length_le (by omega)]
  have hMl : (M.map (zFK AA)).length = a := by rw [List.length_map]; omega
  have hRl : (List.replicate a (1 : Rat)).length = a := List.length_replicate
  rw [hAe]
  generalize M.map (zFK AA) = A at *
  generalize List.replicate a (1 : Rat) = B at *
  refine rn6 ?_
  refine z8 84 (iN w) Z (AEq.of_eq (by rw [hr0])) ?_
  refine zZ (ι := Nat) (fun b => [(0, .ro (zY M) 0 a), (2, .ptr 0 0 0), (3, .nil), (4, .nil), (10, .ptr 2 0 0), (11, .ptr 3 0 0), (84, iN w), (85, iN b)]) (fun b => gmH LM AA a a b A B (List.replicate b 1) [])
   (fun b => b ≤ w) (fun b => w - b) 0 ⟨⟨rfl, rfl, rfl, rfl, rfl, rfl, rfl, rfl, trivial⟩, rfl, Nat.zero_le _⟩ ?_
  intro b hb
  refine rn4 ?_
  refine zA Z (fun h => ?_) (fun h => ?_)
  ·have hb' : b < w := by omega
   have hon := zLt b
   have hBl : (List.replicate b (1 : Rat)).length = b := List.length_replicate
   generalize hC2 : List.replicate (b + 1) (1 : Rat) = C2 at *
   generalize List.replicate b (1 : Rat) = C at *
   refine rn1 ?_
   refine zi (by kernel_rfl) ?_
   refine zCr (fuel := 3) [0, 1, 2, 3] [(0, .ro (zY M) 0 a), (2, .ptr 0 0 0), (3, .nil), (4, .nil), (10, .ptr 2 0 0), (11, .ptr 3 0 0), (84, iN w), (85, iN b)] ⟨Z, Z, Z, Z, Z, Z, Z, Z, trivial⟩ (by kernel_rfl) (by decide) Z Z ?_
   refine zM Z Z (zH Z Z Z Z Z Z) ?_
   refine zM Z Z (zX Z Z Z Z Z) ?_
   refine zA8 Z Z Z Z Z zCL ?_
   refine px_b Z Z Z Z Z Z Z Z Z Z Z Z Z ?_
   refine zAC ?_
   refine zF (is := [4]) (by kernel_rfl) (by simp) Z ⟨fun o ho => ?_, trivial⟩
   all_goals (cases ho)
   refine zo Z Z Z Z Z Z Z Z Z hBl Z Z (by show 0 + 1 ≤ 1; omega) Z (by show (b + 1) * 56 ≤ _ ∧ _; omega) ?_ (by rw [hfix]; exact fun h => h) ?_
   ·intro i' j' hi' hj'
    exact zAH 0 3 zT zAf C 1 _ (zCh _) 6 i' j' hi' hj'
   refine zu [oZ, oQ LM, oQ AA, some ⟨193, .box [.sl 4 0 a, .sl 5 0 a, .any]⟩, some ⟨105, zY A⟩, some ⟨104, qsC B⟩, some ⟨104, qsC (C ++ [1])⟩] (zP.eqv (CEq.refl _) (zP.eqv (CEq.refl _) (zP.eqv (CEq.refl _) (zP.eqv (CEq.refl _) (zP.eqv (zMb _ _) (zP.eqv (zDa _ _) (zP.eqv (zAQ 0 3 zT C 1 _ (zCh _)) zP.nil))))))) ?_
   refine rn1 ?_
   refine zV 5 Z (by kernel_rfl) (by kernel_rfl) (by kernel_rfl) Z (zH Z Z Z Z Z Z) Z ?_
   refine zF (is := [6]) (by kernel_rfl) (by simp) Z ⟨fun o ho => ?_, trivial⟩
   all_goals (cases ho)
   refine rn9 ?_
   refine zW (by kernel_rfl) ?_
   refine rn5 ?_
   exact zJ ⟨b + 1, by omega, by omega, ⟨Z, Z, Z, Z, Z, Z, Z, Z, trivial⟩, by rw [hC2, hon]; rfl⟩
  have hbe : b = w := by omega
  subst hbe
  have hCl : (List.replicate b (1 : Rat)).length = b := List.length_replicate
  generalize List.replicate b (1 : Rat) = C at *
  refine zF6 ?_
  refine zQm [none, none, none, none, some ⟨105, zY A⟩, some ⟨104, qsC B⟩, some ⟨104, qsC C⟩] [oZ, oQ LM, oQ AA, some ⟨193, .box [.ro (zY A) 0 a, .ro (qsC B) 0 a, .ro (qsC C) 0 b]⟩, none, none, none] [(2, .ptr 0 0 0), (3, .nil), (4, .nil), (10, .ptr 2 0 0), (11, .ptr 3 0 0)] ?_ ?_ Z ?_ ⟨⟨_, Z, .inl Z⟩, ⟨_, Z, .inl Z⟩, ⟨_, Z, .inl Z⟩, ⟨_, Z, .inl Z⟩, ⟨_, Z, .inl Z⟩, trivial⟩ ?_
  ·intro h o ho
   match h, ho with
   | 0, ho => simp at ho
   | 1, ho => simp at ho
   | 2, ho => simp at ho
   | 3, ho => simp at ho
   | 4, ho => exact ho
   | 5, ho => exact ho
   | 6, ho => exact ho
   | _ + 7, ho => simp at ho
  ·intro h o ho
   match h, ho with
   | 0, ho => simp at ho
   | 1, ho => simp at ho
   | 2, ho => simp at ho
   | 3, ho => simp at ho
   | 4, ho => cases ho; exact zFl _
   | 5, ho => cases ho; exact zAv _
   | 6, ho => cases ho; exact zAv _
   | _ + 7, ho => simp at ho
  ·intro h o ho
   match h, ho with
   | 0, ho => cases ho; exact ⟨fun o h => by simp at h, _, rfl, rfl, rfl, rfl, fun i j _ _ => .inl rfl⟩
   | 1, ho => cases ho; exact ⟨fun o h => by simp at h, _, rfl, rfl, rfl, rfl, fun i j _ _ => .inl rfl⟩
   | 2, ho => cases ho; exact ⟨fun o h => by simp at h, _, rfl, rfl, rfl, rfl, fun i j _ _ => .inl rfl⟩
   | 3, ho =>
    cases ho
    refine ⟨fun o h => by simp at h, _, Z, Z, Z, Z, fun i j _ hj => ?_⟩
    have hj : j < 3 := hj
    match j, hj with
    | 0, _ => exact .inr (.inr ⟨rfl, fun o ho => by cases ho; show 0 + a ≤ A.length; omega⟩)
    | 1, _ => exact .inr (.inr ⟨rfl, fun o ho => by cases ho; show 0 + a ≤ B.length; omega⟩)
    | 2, _ => exact .inr (.inr ⟨rfl, fun o ho => by cases ho; show 0 + b ≤ C.length; omega⟩)
   | 4, ho => simp at ho
   | 5, ho => simp at ho
   | 6, ho => simp at ho
   | _ + 7, ho => simp at ho
  refine zA3 [oZ, oQ LM, oQ AA, some ⟨193, .box [.ro (zY A) 0 a, .ro (qsC B) 0 a, .ro (qsC C) 0 b]⟩] [none, none, none] [(2, .ptr 0 0 0), (3, .nil), (4, .nil), (10, .ptr 2 0 0), (11, .ptr 3 0 0)] Z ⟨Z, Z, Z, Z, Z, trivial⟩ (fun h hh => by rw [hfix] at hh; exact absurd hh id) gm_b4 Z ?_
  refine rn6 ?_
  refine zB Z Z Z hcR ?_
  repeat (refine zBD rfl rfl rfl ?_)
  refine sa1 (c' := .box ([.int .i64 0, .ro (qsC r.X) 0 b, .ro (qsC r.Y) 0 a, .nil] ++ zT r.V)) Z Z Z Z Z Z Z ?_
  refine zO (oZ :: oQ LM :: oQ AA :: some ⟨193, .box [.ro (zY A) 0 a, .ro (qsC B) 0 a, .ro (qsC C) 0 b]⟩ :: some ⟨190, .box ([.int .i64 0, .ro (qsC r.X) 0 b, .ro (qsC r.Y) 0 a, .nil] ++ zT r.V)⟩ :: []) Z ?_
  refine rn8 ?_
  refine zAb 4 ⟨104, qsC []⟩ Z Z ?_
  repeat (refine zAA ?_)
  refine zZ (ι := Nat) (fun j => [(2, .ptr 0 0 0), (3, .nil), (10, .ptr 2 0 0), (17, .ptr 4 0 0), (4, .sl 5 0 j), (97, .ro (qsC r.X) 0 b), (98, iN b), (99, iN j)]) (fun j => oZ :: oQ LM :: oQ AA :: some ⟨193, .box [.ro (zY A) 0 a, .ro (qsC B) 0 a, .ro (qsC C) 0 b]⟩ :: some ⟨190, .box ([.int .i64 0, .ro (qsC r.X) 0 b, .ro (qsC r.Y) 0 a, .nil] ++ zT r.V)⟩ :: [some ⟨104, qsC (zFf r.V (r.X.take j))⟩])
   (fun j => j ≤ b) (fun j => b - j) 0 ⟨⟨rfl, rfl, rfl, rfl, rfl, rfl, rfl, rfl, trivial⟩, rfl, Nat.zero_le _⟩ ?_
  intro j hj
  refine rn4 ?_
  refine zA Z (fun h => ?_) (fun h => ?_)
  ·have hj' : j < b := by omega
   have hls := zLZ r.V r.X (j := j) (by omega)
   have hll : (zFf r.V (r.X.take j)).length = j := by unfold zFf; rw [List.length_map, List.length_take]; omega
   have ca := dX j hj'
   generalize hl2 : zFf r.V (r.X.take (j + 1)) = l2 at *
   generalize zFf r.V (r.X.take j) = l at *
   refine rn6 ?_
   refine zD 102 (.agg (zT (r.X.getD j 0))) Z (AEq.of_eq Z) ?_
   generalize hqj : r.X.getD j 0 = q at *
   refine sa1 (c' := .box (zT q)) Z Z Z Z Z Z Z ?_
   refine zO (oZ :: oQ LM :: oQ AA :: some ⟨193, .box [.ro (zY A) 0 a, .ro (qsC B) 0 a, .ro (qsC C) 0 b]⟩ :: some ⟨190, .box ([.int .i64 0, .ro (qsC r.X) 0 b, .ro (qsC r.Y) 0 a, .nil] ++ zT r.V)⟩ :: [some ⟨104, qsC l⟩, oQ q]) Z ?_
   refine rn6 ?_
   refine zB Z Z Z ca ?_
   generalize q / r.V = s at *
   unfold qA
   repeat (refine zf rfl rfl rfl rfl rfl rfl rfl rfl rfl rfl rfl ?_)
   refine zo Z Z Z Z Z Z Z Z Z hll Z Z (by show 0 + 1 ≤ 1; omega) Z (by show (j + 1) * 56 ≤ _ ∧ _; omega) ?_ (by rw [hfix]; exact fun h => h) ?_
   ·intro i' j' hi' hj'
    exact zAH 0 3 zT zAf l s _ (zCh _) 5 i' j' hi' hj'
   refine zu (oZ :: oQ LM :: oQ AA :: some ⟨193, .box [.ro (zY A) 0 a, .ro (qsC B) 0 a, .ro (qsC C) 0 b]⟩ :: some ⟨190, .box ([.int .i64 0, .ro (qsC r.X) 0 b, .ro (qsC r.Y) 0 a, .nil] ++ zT r.V)⟩ :: [some ⟨104, qsC (l ++ [s])⟩, oQ q]) (zP.eqv (CEq.refl _) (zP.eqv (CEq.refl _) (zP.eqv (CEq.refl _) (zP.eqv (CEq.refl _) (zP.eqv (CEq.refl _) (zP.eqv (zAQ 0 3 zT l s _ (zCh _)) (zP.eqv (CEq.refl _) zP.nil))))))) ?_
   refine zDt ?_
   refine zI ?_
   refine zA3 (oZ :: oQ LM :: oQ AA :: some ⟨193, .box [.ro (zY A) 0 a, .ro (qsC B) 0 a, .ro (qsC C) 0 b]⟩ :: some ⟨190, .box ([.int .i64 0, .ro (qsC r.X) 0 b, .ro (qsC r.Y) 0 a, .nil] ++ zT r.V)⟩ :: [some ⟨104, qsC (l ++ [s])⟩]) [oQ q] [(2, .ptr 0 0 0), (3, .nil), (10, .ptr 2 0 0), (17, .ptr 4 0 0), (4, .sl 5 0 (j + 1)), (97, .ro (qsC r.X) 0 b), (98, iN b), (99, iN j)] Z ⟨Z, Z, Z, Z, Z, Z, Z, Z, trivial⟩ (fun h hh => by rw [hfix] at hh; exact absurd hh id) gm_b6 Z ?_
   refine rn3 ?_
   exact zJ ⟨j + 1, by omega, by omega, ⟨Z, Z, Z, Z, Z, Z, Z, Z, trivial⟩, by rw [hl2, hls]⟩
  have hje : b = j := by omega
  subst hje
  rw [show r.X.take b = r.X from List.take_of_length_le (by omega)]
  have hl0 : (zFf r.V r.X).length = b := by unfold zFf; rw [List.length_map]; exact rx
  generalize zFf r.V r.X = DX at *
  refine zF6 ?_
  refine zAL 5 4 b [(2, .ptr 0 0 0), (3, .nil), (10, .ptr 2 0 0), (17, .ptr 4 0 0)] Z (zAv _) Z (by show b ≤ DX.length; omega) ⟨Z, Z, Z, Z, trivial⟩ ?_
  refine zA3 (oZ :: oQ LM :: oQ AA :: some ⟨193, .box [.ro (zY A) 0 a, .ro (qsC B) 0 a, .ro (qsC C) 0 b]⟩ :: some ⟨190, .box ([.int .i64 0, .ro (qsC r.X) 0 b, .ro (qsC r.Y) 0 a, .nil] ++ zT r.V)⟩ :: []) [none] [(2, .ptr 0 0 0), (3, .nil), (10, .ptr 2 0 0), (17, .ptr 4 0 0), (4, .ro (qsC DX) 0 b)] Z ⟨Z, Z, Z, Z, Z, trivial⟩ (fun h hh => by rw [hfix] at hh; exact absurd hh id) gm_b5 Z ?_
  refine rn8 ?_
  refine zAb 3 ⟨104, qsC []⟩ Z Z ?_
  repeat (refine zAA ?_)
  refine zZ (ι := Nat) (fun j => [(2, .ptr 0 0 0), (4, .ro (qsC DX) 0 b), (10, .ptr 2 0 0), (17, .ptr 4 0 0), (3, .sl 5 0 j), (112, .ro (qsC r.Y) 0 a), (113, iN a), (114, iN j)]) (fun j => oZ :: oQ LM :: oQ AA :: some ⟨193, .box [.ro (zY A) 0 a, .ro (qsC B) 0 a, .ro (qsC C) 0 b]⟩ :: some ⟨190, .box ([.int .i64 0, .ro (qsC r.X) 0 b, .ro (qsC r.Y) 0 a, .nil] ++ zT r.V)⟩ :: [some ⟨104, qsC (zFf r.V (r.Y.take j))⟩])
   (fun j => j ≤ a) (fun j => a - j) 0 ⟨⟨rfl, rfl, rfl, rfl, rfl, rfl, rfl, rfl, trivial⟩, rfl, Nat.zero_le _⟩ ?_
  intro j hj
  refine rn4 ?_
  refine zA Z (fun h => ?_) (fun h => ?_)
  ·have hj' : j < a := by omega
   have hls := zLZ r.V r.Y (j := j) (by omega)
   have hll : (zFf r.V (r.Y.take j)).length = j := by unfold zFf; rw [List.length_map, List.length_take]; omega
   have ca := dY j hj'
   generalize hl2 : zFf r.V (r.Y.take (j + 1)) = l2 at *
   generalize zFf r.V (r.Y.take j) = l at *
   refine rn6 ?_
   refine zD 117 (.agg (zT (r.Y.getD j 0))) Z (AEq.of_eq Z) ?_
   generalize hqj : r.Y.getD j 0 = q at *
   refine sa1 (c' := .box (zT q)) Z Z Z Z Z Z Z ?_
   refine zO (oZ :: oQ LM :: oQ AA :: some ⟨193, .box [.ro (zY A) 0 a, .ro (qsC B) 0 a, .ro (qsC C) 0 b]⟩ :: some ⟨190, .box ([.int .i64 0, .ro (qsC r.X) 0 b, .ro (qsC r.Y) 0 a, .nil] ++ zT r.V)⟩ :: [some ⟨104, qsC l⟩, oQ q]) Z ?_
   refine rn6 ?_
   refine zB Z Z Z ca ?_
   generalize q / r.V = s at *
   unfold qA
   repeat (refine zf rfl rfl rfl rfl rfl rfl rfl rfl rfl rfl rfl ?_)
   refine zo Z Z Z Z Z Z Z Z Z hll Z Z (by show 0 + 1 ≤ 1; omega) Z (by show (j + 1) * 56 ≤ _ ∧ _; omega) ?_ (by rw [hfix]; exact fun h => h) ?_
   ·intro i' j' hi' hj'
    exact zAH 0 3 zT zAf l s _ (zCh _) 5 i' j' hi' hj'
   refine zu (oZ :: oQ LM :: oQ AA :: some ⟨193, .box [.ro (zY A) 0 a, .ro (qsC B) 0 a, .ro (qsC C) 0 b]⟩ :: some ⟨190, .box ([.int .i64 0, .ro (qsC r.X) 0 b, .ro (qsC r.Y) 0 a, .nil] ++ zT r.V)⟩ :: [some ⟨104, qsC (l ++ [s])⟩, oQ q]) (zP.eqv (CEq.refl _) (zP.eqv (CEq.refl _) (zP.eqv (CEq.refl _) (zP.eqv (CEq.refl _) (zP.eqv (CEq.refl _) (zP.eqv (zAQ 0 3 zT l s _ (zCh _)) (zP.eqv (CEq.refl _) zP.nil))))))) ?_
   refine zDt ?_
   refine zI ?_
   refine zA3 (oZ :: oQ LM :: oQ AA :: some ⟨193, .box [.ro (zY A) 0 a, .ro (qsC B) 0 a, .ro (qsC C) 0 b]⟩ :: some ⟨190, .box ([.int .i64 0, .ro (qsC r.X) 0 b, .ro (qsC r.Y) 0 a, .nil] ++ zT r.V)⟩ :: [some ⟨104, qsC (l ++ [s])⟩]) [oQ q] [(2, .ptr 0 0 0), (4, .ro (qsC DX) 0 b), (10, .ptr 2 0 0), (17, .ptr 4 0 0), (3, .sl 5 0 (j + 1)), (112, .ro (qsC r.Y) 0 a), (113, iN a), (114, iN j)] Z ⟨Z, Z, Z, Z, Z, Z, Z, Z, trivial⟩ (fun h hh => by rw [hfix] at hh; exact absurd hh id) gm_b6 Z ?_
   refine rn3 ?_
   exact zJ ⟨j + 1, by omega, by omega, ⟨Z, Z, Z, Z, Z, Z, Z, Z, trivial⟩, by rw [hl2, hls]⟩
  have hje : a = j := by omega
  subst hje
  rw [show r.Y.take a = r.Y from List.take_of_length_le (by omega)]
  have hl1 : (zFf r.V r.Y).length = a := by unfold zFf; rw [List.length_map]; exact ry
  generalize zFf r.V r.Y = DY at *
  refine zF6 ?_
  refine zAL 5 3 a [(2, .ptr 0 0 0), (10, .ptr 2 0 0), (17, .ptr 4 0 0), (4, .ro (qsC DX) 0 b)] Z (zAv _) Z (by show a ≤ DY.length; omega) ⟨Z, Z, Z, Z, trivial⟩ ?_
  skip
  refine zi (by kernel_rfl) ?_
  refine zV 6 Z (by kernel_rfl) (by kernel_rfl) (by kernel_rfl) Z (zK Z) Z ?_
  refine zV 7 Z (by kernel_rfl) (by kernel_rfl) (by kernel_rfl) Z (zK Z) Z ?_
  refine zCr (fuel := 3) [0, 1, 2, 3, 4, 5] [(2, .ptr 0 0 0), (10, .ptr 2 0 0), (17, .ptr 4 0 0), (132, .ro (qsC DY) 0 a), (133, .ro (qsC DX) 0 b)] ⟨Z, Z, Z, Z, Z, trivial⟩ (by kernel_rfl) (by decide) Z Z ?_
  refine zA8 Z Z Z Z Z zCL ?_
  refine zM Z Z (zH Z Z Z Z Z Z) ?_
  refine zM Z Z (qpp Z Z Z Z Z Z Z) ?_
  refine zA8 Z Z Z Z Z d1 ?_
  refine zM Z Z (qpp Z Z Z Z Z Z Z) ?_
  refine zA8 Z Z Z Z Z s2 ?_
  refine zAC ?_
  refine zF (is := [8]) (by kernel_rfl) (by simp) Z ⟨fun o ho => ?_, trivial⟩
  all_goals (cases ho)
  skip
  generalize 1 / r.V - AA = val at *
  unfold qA
  refine sa1 (c' := .box (zT val)) Z Z Z Z Z Z Z ?_
  refine rn1 ?_
  refine zV 9 Z (by kernel_rfl) (by kernel_rfl) (by kernel_rfl) Z (zm Z) Z ?_
  refine zV 10 Z (by kernel_rfl) (by kernel_rfl) (by kernel_rfl) Z (zm Z) Z ?_
  refine zW (by kernel_rfl) ?_
  refine rn0 ?_
  exact zL hR Z Z
abbrev solA (t : ResG) : AV := .agg [.str t.1, .ro (.strs t.2.1) 0 t.2.1.length, .ro (.strs t.2.2) 0 t.2.2.length]
theorem outAllG (l : List Rat) (hl : l.length ≤ 1000000) (hs : ∀ q ∈ l, Sz 100000 q) (hf : ∀ q ∈ l, zBp q = true) : ∃ r : AV, zU Tryz.prog 63 [.ro (qsC l) 0 l.length] (.tup [r, .int .i64 0]) ∧ AEq r (.ro (.strs (l.map zt)) 0 (l.map zt).length) := by
 obtain ⟨r, h1, h2⟩ := zRO l hl hs
 have e : zED l = (l.map zt, 0) := by unfold zED; rw [if_pos (List.all_eq_true.2 hf)]
 rw [e] at h1 h2
 exact ⟨r, h1, h2⟩
theorem one_row (v : Rat) : CEq (zBt 1 3 (zT v)) (qsC [v]) := ⟨rfl, rfl, fun i j hi hj => by
 obtain rfl : i = 0 := Nat.lt_one_iff.1 hi
 exact (zCh v j hj).symm⟩
theorem zL8 (l a b r : List zn) (h : l = a ++ (b ++ r)) {i n : Nat} (hi : i = a.length) (hn : n = b.length) : AEq (.ro (.strs l) i n) (.ro (.strs b) 0 b.length) := by
 subst hn
 refine AEq.ro Z (fun d j hd hj => ?_)
 show AV.str (b.getD (0 + d) []) = AV.str (l.getD (i + d) [])
 rw [h, hi]
 simp only [List.getD]
 rw [List.getElem?_append_right (by omega), List.getElem?_append_left (by omega), Nat.add_sub_cancel_left, Nat.zero_add]
theorem zKP (m : List (List zn)) (K L k : Nat) (hm : zCo m) (hg : zAx m = 0) (hk : k ≤ 48) (hD : ∀ r ∈ inM m, ∀ q ∈ r, D k q) (hs : Stops (zAV (inM m) (zAJ m)) K L) (hf : zLd (zAl (inM m) (zAJ m) K L) = true)
 (hl : (zAl (inM m) (zAJ m) K L).2.1.length = m.length ∧ (zAl (inM m) (zAJ m) K L).2.2.length = zAJ m) :
 zU Tryz.prog 17 [.ro (zAY m) 0 m.length] (.tup [solA (zMx (zAl (inM m) (zAJ m) K L)), .int .i64 0]) := by
 have c0 := zGK m hm.1 hm.2
 rw [hg] at c0
 have hI := zE9 hg
 have hml : (inM m).length = m.length := zEA m
 have hml0 := hI.l
 have hml1 := hI.l12
 have hw0 := hI.w
 have hw1 := hI.w12
 have nm := zKT m (by omega) (fun r h => ⟨by have := hI.is.cols r h; omega, fun s hs => ⟨(hm.2 r h).2 s hs, hI.is.ok r h s hs⟩⟩)
 have cG := gameq_ok (inM m) (zAJ m) k K L hI.w hI.w12 (by omega) (by omega) hI.rows hD hk hs
 rw [hml] at cG
 generalize zAl (inM m) (zAJ m) K L = G at *
 obtain ⟨v, rs, cs⟩ := G
 simp only at hl cG
 obtain ⟨l1, l2⟩ := hl
 rw [← l1, ← l2] at cG
 have hfa : ∀ q ∈ v :: (rs ++ cs), zBp q = true := List.all_eq_true.1 hf
 obtain ⟨rO, oO, aO⟩ := outAllG ([v] ++ rs ++ cs) (by rw [List.length_append, List.length_append, List.length_singleton]; omega) (fun q hq => by
  have hq' : q ∈ v :: (rs ++ cs) := by simpa using hq
  have h1 := hfa q hq'
  unfold zBp at h1
  rw [Bool.and_eq_true, decide_eq_true_eq, decide_eq_true_eq] at h1
  exact zFM ((dig_D h1.1 h1.2).mono (by omega))) (fun q hq => hfa q (by simpa using hq))
 have eL : ([v] ++ rs ++ cs).length = 1 + rs.length + cs.length := by rw [List.length_append, List.length_append]; rfl
 have eT : ([v] ++ rs ++ cs).map zt = [zt v] ++ (rs.map zt ++ cs.map zt) := by rw [List.map_append, List.map_append, List.append_assoc]; rfl
 have hr1 : (rs.map zt).length = rs.length := List.length_map ..
 have hr2 : (cs.map zt).length = cs.length := List.length_map ..
 refine zQ.value0 (zE (P := Tryz.prog) (fn := Tryz.f17) Z Z (by kernel_rfl) Z (fun c hR hfix => ?_)) (fix := fun _ => False) (fun _ h => h) Z Z
 refine rn4 ?_
 refine zB Z Z Z c0 ?_
 refine rn4 ?_
 refine zB Z Z Z nm ?_
 refine zD 19 (.ro (zY (inM m)) 0 rs.length) Z (AEq.of_eq (by rw [l1])) ?_
 refine zB Z Z Z cG ?_
 unfold qA
 refine rn4 ?_
 refine sa1 (c' := .box (zT v)) Z Z Z Z Z Z Z ?_
 refine rn9 ?_
 refine zCj Z Z Z Z Z Z Z Z Z Z ?_
 refine zu [some ⟨30, .box [.str [], .nil, .nil]⟩, oQ v, some ⟨104, qsC [v]⟩] (zP.eqv (CEq.refl _) (zP.eqv (CEq.refl _) (zP.eqv (one_row v) zP.nil))) ?_
 repeat (refine zG (zK rfl) ?_)
 refine zo Z Z Z Z Z Z Z Z Z Z Z Z (by show 0 + rs.length ≤ rs.length; omega) Z (by show (1 + rs.length) * 56 ≤ _ ∧ _; omega) ?_ (by rw [hfix]; exact fun h => h) ?_
 ·intro i' j' hi' hj'
  have q := (zEy 0 3 zT [v] rs).2.2 i' j' hi' hj'
  refine (congrArg (AV.forget 2) q.symm).trans (Eq.trans ?_ q)
  exact zAf _ j' 2 hj'
 refine zu [some ⟨30, .box [.str [], .nil, .nil]⟩, oQ v, some ⟨104, qsC ([v] ++ rs)⟩] (zP.eqv (CEq.refl _) (zP.eqv (CEq.refl _) (zP.eqv (zEy 0 3 zT [v] rs) zP.nil))) ?_
 have hL1 : (qsC ([v] ++ rs)).len = 1 + rs.length := by show ([v] ++ rs).length = _; rw [List.length_append]; rfl
 repeat (refine zG (zK rfl) ?_)
 refine zo Z Z Z Z Z Z Z Z Z hL1 Z Z (by show 0 + cs.length ≤ cs.length; omega) Z (by show (1 + rs.length + cs.length) * 56 ≤ _ ∧ _; omega) ?_ (by rw [hfix]; exact fun h => h) ?_
 ·intro i' j' hi' hj'
  have q := (zEy 0 3 zT ([v] ++ rs) cs).2.2 i' j' hi' hj'
  refine (congrArg (AV.forget 2) q.symm).trans (Eq.trans ?_ q)
  exact zAf _ j' 2 hj'
 refine zu [some ⟨30, .box [.str [], .nil, .nil]⟩, oQ v, some ⟨104, qsC ([v] ++ rs ++ cs)⟩] (zP.eqv (CEq.refl _) (zP.eqv (CEq.refl _) (zP.eqv (zEy 0 3 zT ([v] ++ rs) cs) zP.nil))) ?_
 clear hL1
 refine zDN 2 30 (1 + rs.length + cs.length) [(2, .ptr 0 0 0), (6, .ro (qsC rs) 0 rs.length), (7, .ro (qsC cs) 0 cs.length)] Z (zAv _) Z (by show 1 + rs.length + cs.length ≤ ([v] ++ rs ++ cs).length; omega) ⟨Z, Z, Z, trivial⟩ ?_
 refine zD 30 (.ro (qsC ([v] ++ rs ++ cs)) 0 ([v] ++ rs ++ cs).length) Z (AEq.of_eq (by rw [eL])) ?_
 refine zB Z Z Z oO ?_
 refine zD 31 (.tup [.ro (.strs (([v] ++ rs ++ cs).map zt)) 0 (([v] ++ rs ++ cs).map zt).length, .int .i64 0]) Z (AEq.tup2 aO) ?_
 have eTl : (([v] ++ rs ++ cs).map zt).length = 1 + rs.length + cs.length := by rw [List.length_map]; exact eL
 have e0 : (([v] ++ rs ++ cs).map zt).getD 0 [] = zt v := rfl
 generalize ([v] ++ rs ++ cs).map zt = LT at *
 refine rn4 ?_
 refine zi (by kernel_rfl) ?_
 refine zCr (fuel := 2) [0, 1, 2, 3, 4, 5, 6, 7, 8, 9, 10, 11, 12, 13] [(2, .ptr 0 0 0), (8, .ro (.strs LT) 0 LT.length), (10, iN rs.length)] ⟨Z, Z, Z, trivial⟩ (by kernel_rfl) (by decide) Z Z ?_
 refine zM Z Z (zK Z) ?_
 refine zM Z Z (zAE Z Z Z Z (by first | (simp only [Nat.zero_add, Int.toNat_natCast, Int.toNat_zero]; exact Z) | exact Z) (by omega)) ?_
 refine zM Z Z (zH6 Z Z Z) ?_
 refine zM Z Z (zK Z) ?_
 refine zM Z Z (zK Z) ?_
 refine zM Z Z (zCF Z Z (by omega)) ?_
 refine zM Z Z (zK Z) ?_
 refine zM Z Z (zCF Z Z (by omega)) ?_
 refine zM Z Z (zNw Z Z Z Z Z Z ⟨by omega, by omega, by omega, by omega⟩) ?_
 refine zM Z Z (zK Z) ?_
 refine zM Z Z (zK Z) ?_
 refine zM Z Z (zCF Z Z (by omega)) ?_
 refine zM Z Z (zH7 Z Z Z Z Z Z Z (by omega)) ?_
 refine zM Z Z (zBH Z Z Z Z Z Z) ?_
 refine zAC ?_
 refine zF (is := [14]) (by kernel_rfl) (by simp) Z ⟨fun o ho => ?_, trivial⟩
 all_goals (cases ho)
 skip
 refine zD 53 (.agg [.str (zt v), .ro (.strs (rs.map zt)) 0 (rs.map zt).length, .ro (.strs (cs.map zt)) 0 (cs.map zt).length]) Z (AEq_agg ⟨AEq.of_eq (by show AV.str _ = AV.str _; rw [← e0]), zL8 _ _ _ _ eT Z (by omega), zL8 _ ([zt v] ++ rs.map zt) _ [] (by rw [eT]; simp) (by rw [List.length_append, List.length_singleton]; omega) (by omega), trivial⟩) ?_
 refine sa1 (c' := .box [.str (zt v), .ro (.strs (rs.map zt)) 0 (rs.map zt).length, .ro (.strs (cs.map zt)) 0 (cs.map zt).length]) Z Z Z Z Z Z Z ?_
 refine rn1 ?_
 refine zV 15 Z (by kernel_rfl) (by kernel_rfl) (by kernel_rfl) Z (zm Z) Z ?_
 refine zW (by kernel_rfl) ?_
 refine rn0 ?_
 exact zL hR Z Z
end Go.Proofs.YtkncmbklkhjmgaaGreatDoor
namespace Go.Proofs.YtkncmbklkhjmgaaGreatDoor
open Go.Ax Go.Ax.Bg Go.Ax.Rt Go.RowKit Go.Ax.Idx Go.Ax.Cd
attribute [local irreducible] Ax zBn QOp zQ zBX
def pennT : List (List zn) := [[[49], [45, 49]], [[45, 49], [49]]]
theorem zPI : zU Tryz.prog 53 [] (.ro (zAY pennT) 0 2) := by
 refine zQ.value0 (zE (P := Tryz.prog) (fn := Tryz.f53) Z Z (by kernel_rfl) Z (fun c hR hfix => ?_)) (fix := fun _ => False) (fun _ h => h) Z Z
 refine rn15 ?_
 refine z8 0 (.ro (zAY pennT) 0 2) Z (AEq.ro Z (fun d j hd hj => ?_)) ?_
 ·have hd2 : d = 0 ∨ d = 1 := by omega
  have hj3 : j = 0 := by have hj : j < 1 := hj; omega
  subst hj3
  rcases hd2 with rfl | rfl <;> rfl
 repeat (refine zBY ?_)
 exact zL hR Z Z
end Go.Proofs.YtkncmbklkhjmgaaGreatDoor
namespace Go.Proofs.YtkncmbklkhjmgaaGreatDoor
open Go.Ax Go.Ax.Bg Go.Ax.Rt Go.RowKit Go.Ax.Dt Go.Ax.Sx Go.Ax.Mg
attribute [local irreducible] Ax zBn QOp zQ zBX
/-- where the first element is a saddle -/
theorem zPS (m : List (List zn)) (hm : zCo m) (hg : zAx m = 0) (h1 : ∀ j, j < zAJ m → zC7 (((inM m).getD 0 []).getD 0 0) (((inM m).getD 0 []).getD j 0) ≤ 0) (h2 : ∀ j, j < m.length → 0 ≤ zC7 (((inM m).getD 0 []).getD 0 0) (((inM m).getD j []).getD 0 0)) :
 zU Tryz.prog 54 [.ro (zAY m) 0 m.length] (.tup [.int .i64 0, .int .i64 0, .int .i64 0]) := by
 have c0 := zGK m hm.1 hm.2
 rw [hg] at c0
 have hI := zE9 hg
 have hml : (inM m).length = m.length := zEA m
 have hml0 := hI.l
 have hml1 := hI.l12
 have hw0 := hI.w
 have hw1 := hI.w12
 have nm := zKT m (by omega) (fun r h => ⟨by have := hI.is.cols r h; omega, fun s hs => ⟨(hm.2 r h).2 s hs, hI.is.ok r h s hs⟩⟩)
 have hv := zI3 (zE7 hg).1
 have hel : ∀ i j, i < m.length → j < zAJ m → Sz 100000 (((inM m).getD i []).getD j 0) := fun i j hi hj => by
  obtain ⟨v1, v2⟩ := hv _ (zAN [] (show i < (inM m).length by omega))
  exact zFM ((v2 _ (zAD 0 (by omega))).mono (by omega))
 have hrow : ∀ i, i < m.length → ((inM m).getD i []).length = zAJ m := fun i hi => (hv _ (zAN [] (show i < (inM m).length by omega))).1
 clear hv
 refine zQ.value0 (zE (P := Tryz.prog) (fn := Tryz.f54) Z Z (by kernel_rfl) Z (fun c hR hfix => ?_)) (fix := fun _ => False) (fun _ h => h) Z Z
 generalize inM m = M at *
 generalize zAJ m = w at *
 generalize m.length = n at *
 refine rn0 ?_
 refine zB Z Z Z c0 ?_
 refine rn4 ?_
 refine zB Z Z Z nm ?_
 refine rn3 ?_
 refine zZ (ι := Unit) (fun _ => [(6, .ro (zY M) 0 n), (21, .ro (zY M) 0 n), (22, iN n), (23, .int .i64 0)]) (fun _ => []) (fun _ => True) (fun _ => 0) () ⟨⟨Z, Z, Z, Z, trivial⟩, Z, trivial⟩ ?_
 rintro _ _
 refine rn4 ?_
 refine zA Z (fun h => ?_) (fun h => absurd (show (0 : Int) < (n : Nat) by omega) h)
 have hr0 := hrow 0 hml0
 refine rn6 ?_
 refine z8 8 (.ro (qsC (M.getD 0 [])) 0 w) Z (AEq.of_eq (by show AV.ro (qsC (M.getD 0 [])) 0 (M.getD 0 []).length = _; rw [hr0])) ?_
 skip
 refine z8 28 (.ro (qsC (M.getD 0 [])) 0 w) Z (AEq.of_eq (by show AV.ro (qsC (M.getD 0 [])) 0 (M.getD 0 []).length = _; rw [hr0])) ?_
 refine z8 29 (iN w) Z (AEq.of_eq (by rw [hr0])) ?_
 refine zZ (ι := Unit) (fun _ => [(6, .ro (zY M) 0 n), (7, .int .i64 0), (8, .ro (qsC (M.getD 0 [])) 0 w), (28, .ro (qsC (M.getD 0 [])) 0 w), (29, iN w), (30, .int .i64 0)]) (fun _ => []) (fun _ => True) (fun _ => 0) () ⟨⟨Z, Z, Z, Z, Z, Z, trivial⟩, Z, trivial⟩ ?_
 rintro _ _
 refine rn4 ?_
 refine zA Z (fun h => ?_) (fun h => absurd (show (0 : Int) < (w : Nat) by omega) h)
 refine rn6 ?_
 refine zD 34 (.agg (zT ((M.getD 0 []).getD 0 0))) Z (AEq.of_eq Z) ?_
 skip
 refine sa1 (c' := .box (zT ((M.getD 0 []).getD 0 0))) Z Z Z Z Z Z Z ?_
 refine rn3 ?_
 refine zZ (ι := Nat) (fun j => [(6, .ro (zY M) 0 n), (7, .int .i64 0), (8, .ro (qsC (M.getD 0 [])) 0 w), (9, .int .i64 0), (10, .ptr 0 0 0), (11, .bool true), (35, .ro (qsC (M.getD 0 [])) 0 w), (36, iN w), (37, iN j)]) (fun _ => [oQ ((M.getD 0 []).getD 0 0)]) (fun j => j ≤ w) (fun j => w - j) 0 ⟨⟨Z, Z, Z, Z, Z, Z, Z, Z, Z, trivial⟩, Z, Nat.zero_le _⟩ ?_
 intro j hj
 refine rn4 ?_
 refine zA Z (fun h => ?_) (fun h => ?_)
 ·have hj' : j < w := by omega
  have cq := zGV ((M.getD 0 []).getD 0 0) ((M.getD 0 []).getD j 0) (hel 0 0 hml0 hw0) (hel 0 j hml0 hj')
  have hc := h1 j hj'
  refine rn1 ?_
  refine zi (by kernel_rfl) ?_
  refine zV 0 Z (by kernel_rfl) (by kernel_rfl) (by kernel_rfl) Z (zK Z) Z ?_
  refine zV 1 Z (by kernel_rfl) (by kernel_rfl) (by kernel_rfl) Z (zK Z) Z ?_
  refine zq (fuel := 0) [2, 3, 4, 5, 6, 7, 8, 9, 10] [(6, .ro (zY M) 0 n), (7, .int .i64 0), (8, .ro (qsC (M.getD 0 [])) 0 w), (9, .int .i64 0), (10, .ptr 0 0 0), (41, .bool true), (12, iN j), (35, .ro (qsC (M.getD 0 [])) 0 w), (36, iN w), (37, iN j)] ⟨Z, Z, Z, Z, Z, Z, Z, Z, Z, Z, trivial⟩ (by kernel_rfl) (by decide) Z Z ?_
  refine zAS Z Z Z Z (qpp Z Z Z Z Z Z Z) ?_
  refine zAS Z Z Z Z (zK Z) ?_
  refine zAS Z Z Z Z (zK Z) ?_
  refine zAS Z Z Z Z (zAE Z Z Z Z (by first | (simp only [Nat.zero_add, Int.toNat_natCast, Int.toNat_zero]; exact Z) | exact Z) (by omega)) ?_
  refine zAS Z Z Z Z (zA9 Z Z Z Z Z Z) ?_
  refine zHl Z Z Z Z Z Z Z cq ?_
  refine zAS Z Z Z Z (q_leq Z Z) ?_
  refine zM Z Z (zBJ Z Z) ?_
  refine zM Z Z (zm Z) ?_
  refine zAC ?_
  refine zW (by kernel_rfl) ?_
  refine rn5 ?_
  exact zJ ⟨j + 1, by omega, by omega, ⟨Z, Z, Z, Z, Z, congrArg (fun b => some (AV.bool b)) (decide_eq_true hc), Z, Z, Z, trivial⟩, Z⟩
 ·refine rn5 ?_
  refine zZ (ι := Nat) (fun j => [(6, .ro (zY M) 0 n), (7, .int .i64 0), (8, .ro (qsC (M.getD 0 [])) 0 w), (9, .int .i64 0), (10, .ptr 0 0 0), (11, .bool true), (51, .ro (zY M) 0 n), (52, iN n), (53, iN j)]) (fun _ => [oQ ((M.getD 0 []).getD 0 0)]) (fun j => j ≤ n) (fun j => n - j) 0 ⟨⟨Z, Z, Z, Z, Z, Z, Z, Z, Z, trivial⟩, Z, Nat.zero_le _⟩ ?_
  intro j hj
  refine rn4 ?_
  refine zA Z (fun h => ?_) (fun h => ?_)
  ·have hj' : j < n := by omega
   have cq := zGV ((M.getD 0 []).getD 0 0) ((M.getD j []).getD 0 0) (hel 0 0 hml0 hw0) (hel j 0 hj' hw0)
   have hc := h2 j hj'
   have hrj := hrow j hj'
   have hpos : 0 < (M.getD j []).length := by omega
   refine rn1 ?_
   refine zi (by kernel_rfl) ?_
   refine zV 0 Z (by kernel_rfl) (by kernel_rfl) (by kernel_rfl) Z (zK Z) Z ?_
   refine zV 1 Z (by kernel_rfl) (by kernel_rfl) (by kernel_rfl) Z (zK Z) Z ?_
   refine zq (fuel := 0) [2, 3, 4, 5, 6, 7, 8, 9, 10, 11, 12, 13] [(6, .ro (zY M) 0 n), (7, .int .i64 0), (8, .ro (qsC (M.getD 0 [])) 0 w), (9, .int .i64 0), (10, .ptr 0 0 0), (57, .bool true), (13, iN j), (51, .ro (zY M) 0 n), (52, iN n), (53, iN j)] ⟨Z, Z, Z, Z, Z, Z, Z, Z, Z, Z, trivial⟩ (by kernel_rfl) (by decide) Z Z ?_
   refine zAS Z Z Z Z (qpp Z Z Z Z Z Z Z) ?_
   refine zAS Z Z Z Z (zK Z) ?_
   refine zAS Z Z Z Z (zK Z) ?_
   refine zAS Z Z Z Z (zAE Z Z Z Z (by first | (simp only [Nat.zero_add, Int.toNat_natCast, Int.toNat_zero]; exact Z) | exact Z) (by omega)) ?_
   refine zAS Z Z Z Z (zCX Z Z Z Z) ?_
   refine zAS Z Z Z Z (zK Z) ?_
   refine zAS Z Z Z Z (zAE Z Z Z Z (by first | (simp only [Nat.zero_add, Int.toNat_natCast, Int.toNat_zero]; exact Z) | exact Z) (by omega)) ?_
   refine zAS Z Z Z Z (zA9 Z Z Z Z Z Z) ?_
   refine zHl Z Z Z Z Z Z Z cq ?_
   refine zAS Z Z Z Z (zJl Z Z) ?_
   refine zM Z Z (zBJ Z Z) ?_
   refine zM Z Z (zm Z) ?_
   refine zAC ?_
   refine zW (by kernel_rfl) ?_
   refine rn5 ?_
   exact zJ ⟨j + 1, by omega, by omega, ⟨Z, Z, Z, Z, Z, congrArg (fun b => some (AV.bool b)) (decide_eq_true hc), Z, Z, Z, trivial⟩, Z⟩
  ·refine rn6 ?_
   exact zL hR Z Z
theorem fineI4 : zU Tryz.prog 25 [.ro (.ints .i64 [0, 0, 0, 0]) 0 4] (.bool true) := fineI [0, 0, 0, 0] (by decide)
theorem zKw {m : List (List zn)} (h1 : m.length ≤ 1000) (h2 : m.all (fun r => decide (r.length ≤ 1000) && r.all (fun s => decide (s.length ≤ 1000))) = true) : zCo m := by
 refine ⟨by omega, fun r hr => ?_⟩
 have := List.all_eq_true.1 h2 r hr
 rw [Bool.and_eq_true, decide_eq_true_eq, List.all_eq_true] at this
 exact ⟨by omega, fun s hs => by have := this.2 s hs; rw [decide_eq_true_eq] at this; omega⟩
theorem zD5 {r : List zn} (h1 : r.length ≤ 1000) (h2 : r.all (fun s => decide (s.length ≤ 1000)) = true) : zEf r :=
 ⟨by omega, fun s hs => by have := List.all_eq_true.1 h2 s hs; rw [decide_eq_true_eq] at this; omega⟩
theorem pen_D : ∀ r ∈ inM zDs, ∀ q ∈ r, D 48 q := by
 have h : (inM zDs).all (fun r => r.all (fun q => decide (q.num.natAbs < 10 ^ 48) && decide (q.den < 10 ^ 48))) = true := by decide +kernel
 intro r hr q hq
 have := List.all_eq_true.1 (List.all_eq_true.1 h r hr) q hq
 rw [Bool.and_eq_true, decide_eq_true_eq, decide_eq_true_eq] at this
 exact ⟨this.1, this.2⟩
theorem zJj : zU Tryz.prog 15 [] (.bool true) := by
 have pk : zU Tryz.prog 53 [] (.ro (zAY zDs) 0 2) := zPI
 have sp : zCo zDs := zKw (by decide) (by decide)
 have ss : zCo sadT := zKw (by decide) (by decide)
 have c1 := zKP zDs 0 2 48 sp zKX (by decide) pen_D zRT (by rw [pen_q]; decide +kernel) (by rw [pen_q]; exact ⟨rfl, by decide⟩)
 have e1 : zMx (zAl (inM zDs) (zAJ zDs) 0 2) = ([48], [zAm, zAm], [zAm, zAm]) := by
  have := zRS
  unfold zFG at this
  rw [if_neg (fun q => q zKX), if_pos (by rw [pen_q]; decide +kernel)] at this
  exact (Prod.mk.inj this).1
 rw [e1] at c1
 have c2 := pay_ok zDs [[49], [48]] [[49], [48]] sp (zD5 (by decide) (by decide)) (zD5 (by decide) (by decide))
 rw [pen_pay] at c2
 have c3 := zPS sadT ss zN7 (by decide +kernel) (by decide +kernel)
 have c4 := zMW sadT ss
 have e4 : domR sadT = ([1], 0) := by
  unfold domR
  rw [if_neg (fun q => q zN7), show sadT.length = (inM sadT).length from rfl, domI_all, sad_dom]
  rfl
 rw [e4] at c4
 have c5 := zKQ zDs [48] [zAm, zAm] [zAm, zAm] sp (by decide) (zD5 (by decide) (by decide)) (zD5 (by decide) (by decide))
 rw [pen_ver] at c5
 have c6 := zKQ zDs [49] [zAm, zAm] [zAm, zAm] sp (by decide) (zD5 (by decide) (by decide)) (zD5 (by decide) (by decide))
 rw [pen_bad] at c6
 have c7 := zGK [] (by decide) (fun r h => by cases h)
 rw [show zAx [] = 8 by decide] at c7
 have v1 := equalV [zAm, zAm] [zAm, zAm] (by decide) (by decide)
 have v2 := equalI [1] [1] (by decide) (by decide)
 rw [decide_eq_true rfl] at v1 v2
 refine zQ.value0 (zE (P := Tryz.prog) (fn := Tryz.f15) Z Z (by kernel_rfl) Z (fun c hR hfix => ?_)) (fix := fun _ => False) (fun _ h => h) Z Z
 refine rn0 ?_
 refine zB Z Z Z pk ?_
 refine zB Z Z Z c1 ?_
 refine rn4 ?_
 refine sa1 (c' := .box [.str [48], .ro (.strs [zAm, zAm]) 0 2, .ro (.strs [zAm, zAm]) 0 2]) Z Z Z Z Z Z Z ?_
 refine rn0 ?_
 refine zB Z Z Z pk ?_
 repeat (refine zf rfl rfl rfl rfl rfl rfl rfl rfl rfl rfl rfl ?_)
 refine zB Z Z Z c2 ?_
 unfold zEN
 refine rn3 ?_
 refine zD 26 (.ro (zAY sadT) 0 2) Z (AEq.ro Z (fun d j hd hj => ?_)) ?_
 ·have hd2 : d = 0 ∨ d = 1 := by omega
  have hj3 : j = 0 := by have hj : j < 1 := hj; omega
  subst hj3
  rcases hd2 with rfl | rfl <;> rfl
 refine zB Z Z Z c3 ?_
 refine rn3 ?_
 refine zD 34 (.ro (zAY sadT) 0 2) Z (AEq.ro Z (fun d j hd hj => ?_)) ?_
 ·have hd2 : d = 0 ∨ d = 1 := by omega
  have hj3 : j = 0 := by have hj : j < 1 := hj; omega
  subst hj3
  rcases hd2 with rfl | rfl <;> rfl
 refine zB Z Z Z c4 ?_
 unfold domA
 refine rn6 ?_
 refine sa1 (c' := .box [.str [48], .ro (.strs [zAm, zAm]) 0 2, .ro (.strs [zAm, zAm]) 0 2]) Z Z Z Z Z Z Z ?_
 refine rn8 ?_
 refine zAj [some ⟨30, .box [.str [48], .ro (.strs [zAm, zAm]) 0 2, .ro (.strs [zAm, zAm]) 0 2]⟩, some ⟨30, .box [.str [49], .ro (.strs [zAm, zAm]) 0 2, .ro (.strs [zAm, zAm]) 0 2]⟩] Z ?_
 refine zi (by kernel_rfl) ?_
 refine zCr (fuel := 0) [0, 1, 2, 3, 4, 5, 6, 7, 8, 9, 10, 11, 12, 13, 14, 15, 16, 17, 18, 19, 20, 21, 22, 23, 24, 25, 26, 27, 28, 29, 30, 31, 32, 33, 34, 35, 36, 37, 38, 39, 40, 41, 42, 43, 44, 45, 46, 47, 48, 49, 50] [(1, .ptr 0 0 0), (2, .int .i64 0), (3, .str [49]), (4, .int .i64 0), (5, .int .i64 0), (6, .int .i64 0), (7, .int .i64 0), (8, .ro (.ints .i64 [1]) 0 1), (9, .int .i64 0), (10, .ptr 1 0 0)] ⟨Z, Z, Z, Z, Z, Z, Z, Z, Z, Z, trivial⟩ (by kernel_rfl) (by decide) Z Z ?_
 refine zM Z Z (zK Z) ?_
 refine zM Z Z (zK Z) ?_
 refine zM Z Z (zK Z) ?_
 refine zM Z Z (zK Z) ?_
 refine px_b Z Z Z Z Z Z Z Z Z Z Z Z Z ?_
 refine zA8 Z Z Z Z Z fineI4 ?_
 refine zM Z Z (zK Z) ?_
 refine zAS Z Z Z Z (zH Z Z Z Z Z Z) ?_
 refine zAS Z Z Z Z (zX Z Z Z Z Z) ?_
 refine zAS Z Z Z Z (zF4 Z Z) ?_
 refine zM Z Z (zBJ Z Z) ?_
 refine zM Z Z (zK Z) ?_
 refine zAS Z Z Z Z (zH Z Z Z Z Z Z) ?_
 refine zAS Z Z Z Z (zX Z Z Z Z Z) ?_
 refine px_gb Z Z Z Z Z Z Z Z Z Z Z Z Z Z Z ?_
 refine zHl Z Z Z Z Z Z Z v1 ?_
 refine zM Z Z (zBJ Z Z) ?_
 refine zM Z Z (zK Z) ?_
 refine zAS Z Z Z Z (zK Z) ?_
 refine zAS Z Z Z Z (zF4 Z Z) ?_
 refine zM Z Z (zBJ Z Z) ?_
 refine zM Z Z (zK Z) ?_
 refine zAS Z Z Z Z (zK Z) ?_
 refine zAS Z Z Z Z (zEO Z Z) ?_
 refine zM Z Z (zBJ Z Z) ?_
 refine zM Z Z (zK Z) ?_
 refine zAS Z Z Z Z (zK Z) ?_
 refine zAS Z Z Z Z (zEO Z Z) ?_
 refine zM Z Z (zBJ Z Z) ?_
 refine zM Z Z (zK Z) ?_
 refine zAS Z Z Z Z (zK Z) ?_
 refine px_gb Z Z Z Z Z Z Z Z Z Z Z Z Z Z Z ?_
 refine zHl Z Z Z Z Z Z Z v2 ?_
 refine zM Z Z (zBJ Z Z) ?_
 refine zM Z Z (zK Z) ?_
 refine zHl Z Z Z Z Z Z Z pk ?_
 refine zAS Z Z Z Z (qpp Z Z Z Z Z Z Z) ?_
 refine zHl Z Z Z Z Z Z Z c5 ?_
 refine zAS Z Z Z Z (zEO Z Z) ?_
 refine zM Z Z (zBJ Z Z) ?_
 refine zM Z Z (zK Z) ?_
 refine zHl Z Z Z Z Z Z Z pk ?_
 refine zAS Z Z Z Z (qpp Z Z Z Z Z Z Z) ?_
 refine zHl Z Z Z Z Z Z Z c6 ?_
 refine zAS Z Z Z Z (zEO Z Z) ?_
 refine zM Z Z (zBJ Z Z) ?_
 refine zM Z Z (zK Z) ?_
 refine zHl Z Z Z Z Z Z Z (fun H => zQ.args (c7 H) ⟨AEq.nil, trivial⟩) ?_
 refine zAS Z Z Z Z (zEO Z Z) ?_
 refine zM Z Z (zBJ Z Z) ?_
 refine zM Z Z (zm Z) ?_
 refine zAC ?_
 refine zW (by kernel_rfl) ?_
 refine rn0 ?_
 exact zL hR Z Z
theorem zEQ {q : Rat} (h : zBp q = true) : (zt q).length ≤ 9223372036854775807 := by
 have hf := h
 unfold zBp at hf
 rw [Bool.and_eq_true, decide_eq_true_eq, decide_eq_true_eq] at hf
 unfold zt
 rw [List.length_append, List.length_append]
 split <;> split <;> simp <;> omega
/-- a small game that is solved -/
structure Gsol (m : List (List zn)) (K L : Nat) (v : zn) (rs cs : List zn) : Prop where
 s : Solv m K L
 eq : zFG m K L = ((v, rs, cs), 0)
 vl : v.length ≤ 9223372036854775807
 rl : zEf rs
 cl : zEf cs
 call : zU Tryz.prog 17 [.ro (zAY m) 0 m.length] (.tup [.agg [.str v, .ro (.strs rs) 0 rs.length, .ro (.strs cs) 0 cs.length], .int .i64 0])
theorem gsol (m : List (List zn)) (n k : Nat) (hn : n ≤ 5) (hm : zCo m) (hg : zAx m = 0) (hk : k ≤ 48) (hD : ∀ r ∈ inM m, ∀ q ∈ r, D k q) (S : ∀ K L, Stops (zAV (inM m) (zAJ m)) K L → Solv m K L) : ∃ K L v rs cs, Stops (zAV (inM m) (zAJ m)) K L ∧ Gsol m K L v rs cs := by
 have hI := zE9 hg
 obtain ⟨K, L, hs⟩ := runs (zAV (inM m) (zAJ m)) (zFz hI.rows)
 have T := S K L hs
 have hf : zLd (zAl (inM m) (zAJ m) K L) = true := by
  have := T.eq
  unfold zFG at this
  rw [if_neg (fun q => q hg)] at this
  split at this
  ·assumption
  ·cases (Prod.mk.inj this).2
 have hl1 := T.sad.xl
 have hl2 := T.sad.yl
 rw [zEA] at hl1
 have c := zKP m K L k hm hg hk hD hs hf ⟨hl1, hl2⟩
 have hfa : ∀ q ∈ (zAl (inM m) (zAJ m) K L).1 :: ((zAl (inM m) (zAJ m) K L).2.1 ++ (zAl (inM m) (zAJ m) K L).2.2), zBp q = true := List.all_eq_true.1 hf
 refine ⟨K, L, _, _, _, hs, T, T.eq, zEQ (hfa _ (List.mem_cons_self ..)), ⟨?_, fun s hs => ?_⟩, ⟨?_, fun s hs => ?_⟩, c⟩
 ·show (List.map _ _).length ≤ _
  have := hI.l12
  rw [List.length_map, hl1]; omega
 ·obtain ⟨q, hq, rfl⟩ := List.mem_map.1 hs
  exact zEQ (hfa _ (List.mem_cons_of_mem _ (List.mem_append_left _ hq)))
 ·show (List.map _ _).length ≤ _
  have := hI.w12
  rw [List.length_map, hl2]; omega
 ·obtain ⟨q, hq, rfl⟩ := List.mem_map.1 hs
  exact zEQ (hfa _ (List.mem_cons_of_mem _ (List.mem_append_right _ hq)))
theorem zRC (m : List (List zn)) (n : Nat) (hn : n ≤ 5) (hm : zCo m) (hg : zAx m = 0) (ht : zJX n 12 m = true) : ∃ K L v rs cs, Stops (zAV (inM m) (zAJ m)) K L ∧ Gsol m K L v rs cs := by
 obtain ⟨t1, t2⟩ := zHb ht
 exact gsol m n 48 hn hm hg (by decide) (fun r hr q hq => (inM_D (zE9 hg).is (fun v hv => (t2 v hv).2) (by decide) r hr q hq).mono (by decide)) (fun K L hs => zMG hn hg ht hs)
theorem zL1 {s : zn} (h : zCf s = 0) : s.length ≤ 9223372036854775807 := by
 have hi := IsQ.self h
 rw [← hi.text]
 exact zEQ hi.fit
theorem mats1 (m : List (List zn)) : AEq (.ro (zBt 1 1 [.ro (zAY m) 0 m.length]) 0 1) (.ro (zNc [m]) 0 1) := AEq.ro rfl (fun d j hd hj => by
 obtain rfl : d = 0 := by omega
 have hj3 : j = 0 := by have hj : j < 1 := hj; omega
 subst hj3
 rfl)
theorem zRP {q : Rat} {p : zn} (h : zH0 q = (p, 0)) : p.length ≤ 9223372036854775807 := by
 unfold zH0 at h
 split at h
 ·rename_i hf
  rw [← (Prod.mk.inj h).1]
  exact zEQ hf
 ·exact absurd (Prod.mk.inj h).2 (by decide)
theorem zRv {F : Rat → Rat → Rat} {q a p : zn} (h : zI0 F q a = (p, 0)) : p.length ≤ 9223372036854775807 := by
 unfold zI0 at h
 split at h
 ·exact zRP h
 ·rename_i h1
  exact absurd (Prod.mk.inj h).2 h1
theorem zMQ (r : List zn) (j h : Nat) (hj : j < 1) : ((zHj r).getD j .any).forget h = (zHj r).getD j .any := by
 obtain rfl : j = 0 := by omega
 rfl
theorem fineI2 : zU Tryz.prog 25 [.ro (.ints .i64 [0, 0]) 0 2] (.bool true) := fineI [0, 0] (by decide)
theorem zOa (m : List (List zn)) (n : Nat) : zAz n (zAY m) := by
 intro i j _ hj
 have hj : j < 1 := hj
 match j, hj with
 | 0, _ => rfl
theorem shift_len (a b : zn) (m : List (List zn)) : (zBT a b m).length = m.length := List.length_map ..
theorem zKs (a b : zn) (l : List zn) : (zFF a b l).length = l.length := List.length_map ..
theorem zPU (m : List (List zn)) (a b : zn) (hm : zCo m) (hl : m.length ≤ 1000) (hr : ∀ r ∈ m, r.length ≤ 1000) (ha : a.length ≤ 9223372036854775807) (hb : b.length ≤ 9223372036854775807) (hg : ∀ r ∈ m, ∀ s ∈ r, zJd a b s) :
 zU Tryz.prog 28 [.ro (zAY m) 0 m.length, .str a, .str b] (.tup [.ro (zAY (zBT a b m)) 0 m.length, .bool true]) := by
 refine zQ.value0 (zE (P := Tryz.prog) (fn := Tryz.f28) Z Z (by kernel_rfl) Z (fun c hR hfix => ?_)) (fix := fun _ => False) (fun _ h => h) Z Z
 refine rn8 ?_
 refine zAb 8 ⟨28, zAY []⟩ Z Z ?_
 repeat (refine zAA ?_)
 refine zZ (ι := Nat) (fun i => [(1, .str a), (2, .str b), (8, .sl 0 0 i), (18, .ro (zAY m) 0 m.length), (19, iN m.length), (20, iN i)]) (fun i => [some ⟨28, zAY (zBT a b (m.take i))⟩])
  (fun i => i ≤ m.length) (fun i => m.length - i) 0 ⟨⟨rfl, rfl, rfl, rfl, rfl, rfl, trivial⟩, rfl, Nat.zero_le _⟩ ?_
 intro i hi
 refine rn4 ?_
 refine zA Z (fun h => ?_) (fun h => ?_)
 ·have hi' : i < m.length := by omega
  have hsn := zOE a b m hi'
  have hAl : (zBT a b (m.take i)).length = i := by rw [shift_len, List.length_take]; omega
  have hmr := zAD (l := m) [] hi'
  have hrs := hm.2 _ hmr
  have hgr := hg _ hmr
  have hrl := hr _ hmr
  generalize hA2 : zBT a b (m.take (i + 1)) = A2 at *
  generalize zBT a b (m.take i) = A at *
  refine rn6 ?_
  refine z8 10 (.ro (.strs (m.getD i [])) 0 (m.getD i []).length) Z (AEq.of_eq Z) ?_
  generalize m.getD i [] = row at *
  skip
  refine zAb 11 ⟨26, .strs []⟩ Z Z ?_
  skip
  refine zZ (ι := Nat) (fun j => [(1, .str a), (2, .str b), (8, .sl 0 0 i), (18, .ro (zAY m) 0 m.length), (19, iN m.length), (20, iN i), (11, .sl 1 0 j), (24, .ro (.strs row) 0 row.length), (25, iN row.length), (26, iN j)]) (fun j => [some ⟨28, zAY A⟩, some ⟨26, .strs (zFF a b (row.take j))⟩])
   (fun j => j ≤ row.length) (fun j => row.length - j) 0 ⟨⟨rfl, rfl, rfl, rfl, rfl, rfl, rfl, rfl, rfl, rfl, trivial⟩, rfl, Nat.zero_le _⟩ ?_
  intro j hj
  refine rn4 ?_
  refine zA Z (fun h => ?_) (fun h => ?_)
  ·have hj' : j < row.length := by omega
   have hls := zOD a b row hj'
   have hll : (zFF a b (row.take j)).length = j := by rw [zKs, List.length_take]; omega
   have hmem := zAD (l := row) [] hj'
   obtain ⟨p, s, t1, t2, t3, _⟩ := hgr _ hmem
   have c1 := rmul_ok (row.getD j []) a (hrs.2 _ hmem) ha
   rw [t1] at c1
   have c2 := radd_ok p b (zRv t1) hb
   rw [t2] at c2
   generalize hl2 : zFF a b (row.take (j + 1)) = l2 at *
   generalize zFF a b (row.take j) = l at *
   refine rn9 ?_
   refine zD 31 (.str (row.getD j [])) Z (AEq.of_eq Z) ?_
   refine zB Z Z Z c1 ?_
   unfold zEN
   refine rn2 ?_
   refine zB Z Z Z c2 ?_
   unfold zEN
   refine rn3 ?_
   refine zB Z Z Z fineI2 ?_
   refine rn5 ?_
   refine zo Z Z Z Z Z Z Z Z Z hll Z Z (by show 0 + 1 ≤ 1; omega) Z (by show (j + 1) * 16 ≤ _ ∧ _; omega) (fun i j _ _ => rfl) (by rw [hfix]; exact fun h => h) ?_
   refine zu [some ⟨28, zAY A⟩, some ⟨26, .strs (l ++ [s])⟩] (zP.eqv ⟨Z, Z, fun i' j' hi' hj' => by
    obtain rfl : j' = 0 := by have hj' : j' < 1 := hj'; omega
    rfl⟩ (zP.eqv (CEq.refl _) zP.nil)) ?_
   refine rn5 ?_
   exact zJ ⟨j + 1, by omega, by omega, ⟨Z, Z, Z, Z, Z, Z, Z, Z, Z, Z, trivial⟩, by rw [hl2, hls, ← t3]⟩
  ·have hje : j = row.length := by omega
   subst hje
   rw [List.take_length]
   have hsl : (zFF a b row).length = row.length := zKs _ _ _
   generalize zFF a b row = l at *
   refine zF6 ?_
   refine zAL 1 11 row.length [(1, .str a), (2, .str b), (8, .sl 0 0 i), (18, .ro (zAY m) 0 m.length), (19, iN m.length), (20, iN i)] Z zIr Z (by show row.length ≤ l.length; omega) ⟨Z, Z, Z, Z, Z, Z, trivial⟩ ?_
   refine z8 11 (.ro (.strs l) 0 l.length) Z (AEq.of_eq (by rw [hsl])) ?_
   refine zA3 [some ⟨28, zAY A⟩] [none] [(1, .str a), (2, .str b), (8, .sl 0 0 i), (11, .ro (.strs l) 0 l.length), (18, .ro (zAY m) 0 m.length), (19, iN m.length), (20, iN i)] Z ⟨Z, Z, Z, Z, Z, Z, Z, trivial⟩ (fun h hh => by rw [hfix] at hh; exact absurd hh id) (by
    intro h o ho
    match h, ho with
    | 0, ho => cases ho; exact zOa _ _
    | _ + 1, ho => simp at ho) rfl ?_
   refine rn3 ?_
   refine zo Z Z Z Z Z Z Z Z Z hAl Z Z (by show 0 + 1 ≤ 1; omega) Z (by show (i + 1) * 24 ≤ _ ∧ _; omega) ?_ (by rw [hfix]; exact fun h => h) ?_
   ·intro i' j' hi' hj'
    exact zAH [] 1 zHj zMQ A l _ (rowS1 l) 0 i' j' hi' hj'
   refine zu [some ⟨28, zAY (A ++ [l])⟩] (zP.eqv (zAQ [] 1 zHj A l _ (rowS1 l)) zP.nil) ?_
   refine rn5 ?_
   exact zJ ⟨i + 1, by omega, by omega, ⟨Z, Z, Z, Z, Z, Z, trivial⟩, by rw [hA2, hsn]⟩
 ·have hie : i = m.length := by omega
  subst hie
  rw [List.take_length]
  refine zF6 ?_
  refine zAL 0 8 m.length [] Z (zHn _) Z (by show m.length ≤ (zBT a b m).length; rw [shift_len]; exact Nat.le_refl _) trivial ?_
  refine rn0 ?_
  exact zL hR Z Z
theorem fineI4' : zU Tryz.prog 25 [.ro (.ints .i64 [0, 0, 0, 0]) 0 4] (.bool true) := fineI [0, 0, 0, 0] (by decide)
theorem zPV {a b : zn} {m : List (List zn)} (hg : zAx (zBT a b m) = 0) : zCo (zBT a b m) := by
 have h := zE9 hg
 exact ⟨by have := h.l12; omega, fun r hr => ⟨by have := h.is.cols r hr; have := h.w12; omega, fun s hs => zL1 (h.is.ok r hr s hs)⟩⟩
theorem shift_D {a b : zn} {m : List (List zn)} {p q : Nat} (h : IsM m p q) (hg : ∀ r ∈ m, ∀ s ∈ r, zJd a b s) (hD : ∀ r ∈ inM m, ∀ x ∈ r, D 12 x) (da : D 12 (zv a)) (db : D 12 (zv b)) : ∀ r ∈ inM (zBT a b m), ∀ x ∈ r, D 48 x := by
 intro r hr x hx
 rw [(zKu h hg).2] at hr
 obtain ⟨r0, h0, rfl⟩ := List.mem_map.1 hr
 obtain ⟨x0, h1, rfl⟩ := List.mem_map.1 hx
 exact (((hD r0 h0 x0 h1).mul da).add db).mono (by omega)
theorem turn_pre {m : List (List zn)} (hg : zAx m = 0) (ht : zJX 5 12 m = true) :
 zGc m = (zAw m, 0) ∧ (∀ r ∈ zAw m, ∀ s ∈ r, zJd [45, 49] [48] s) ∧ zAx (zBT [45, 49] [48] (zAw m)) = 0 ∧ IsM (zAw m) (zAJ m) m.length ∧ ∀ r ∈ inM (zBT [45, 49] [48] (zAw m)), ∀ q ∈ r, D 48 q := by
 have h := zE9 hg
 obtain ⟨t1, t2⟩ := zHb ht
 have na : IsQ [45, 49] (-1) := zQH
 have nb : IsQ [48] 0 := by decide +kernel
 have da : D 12 (zv [45, 49]) := na.dig (show 2 ≤ 12 by decide) (by decide) |> fun d => by rw [na.2]; exact d
 have db : D 12 (zv [48]) := nb.dig (show 1 ≤ 12 by decide) (by decide) |> fun d => by rw [nb.2]; exact d
 have hp : m.length ≠ 0 := by have := h.l; omega
 have j1 := zLj h.is hp
 have j2 := zLi h.is hp
 have hD := inM_D h.is (fun v hv => (t2 v hv).2) (by decide)
 have hDc : ∀ r ∈ inM (zAw m), ∀ q ∈ r, D 12 q := by
  rw [j2]
  intro r hr q hq
  obtain ⟨k, hk, rfl⟩ := List.mem_map.1 hr
  obtain ⟨s, hs, rfl⟩ := List.mem_map.1 hq
  exact hD s hs _ (zAD 0 (by rw [h.rows s hs]; simpa using hk))
 have hgs : ∀ r ∈ zAw m, ∀ s ∈ r, zJd [45, 49] [48] s := fun r hr s hs => zNV na.1 nb.1 (j1.ok r hr s hs) da db ((hDc _ (List.mem_map.2 ⟨r, hr, rfl⟩) _ (List.mem_map.2 ⟨s, hs, rfl⟩)).mono (by decide)) (by decide)
 have i1 := (zKu j1 hgs).1
 have hg' : zAx (zBT [45, 49] [48] (zAw m)) = 0 := zNS i1 h.w h.w12 h.l h.l12
 refine ⟨?_, hgs, hg', j1, shift_D j1 hgs hDc da db⟩
 unfold zGc
 rw [if_neg (fun q => q (zMh h.is))]
theorem zI8 (m : List (List zn)) (hm : zCo m) : zU Tryz.prog 7 [.ro (zAY m) 0 m.length] (.bool true) := by
 have cs := zRj 5 [m] (by decide) (by show 1 ≤ 9223372036854775807; decide) (fun x hx => by rw [List.mem_singleton.1 hx]; exact hm)
 have cg := zGK m hm.1 hm.2
 have ct := trans_ok m hm.1 hm.2
 refine zQ.value0 (zE (P := Tryz.prog) (fn := Tryz.f7) Z Z (by kernel_rfl) Z (fun c0 hR hfix => ?_)) (fix := fun _ => False) (fun _ h => h) Z Z
 refine rn0 ?_
 refine zB Z Z Z zJj ?_
 refine rn5 ?_
 refine zD 16 (.ro (zNc [m]) 0 1) Z (mats1 m) ?_
 refine zB Z Z Z cs ?_
 cases hs : ([m].all (zJX 5 12))
 ·refine rn6 ?_
  exact zL hR Z Z
 have ht : zJX 5 12 m = true := by simpa using hs
 by_cases hg : zAx m = 0
 case neg =>
  refine rn5 ?_
  refine zB Z Z Z cg ?_
  refine rn3 ?_
  refine zA Z (fun _ => ?_) (fun q => absurd hg (fun r => q r))
  refine rn2 ?_
  exact zL hR Z Z
 rw [hg] at cg
 obtain ⟨q1, q2, q3, q4, q5⟩ := turn_pre hg ht
 have hI := zE9 hg
 obtain ⟨K, L, v, rs, cs1, hst, G⟩ := zRC m 5 (by decide) hm hg ht
 obtain ⟨K', L', v', rs', cs', hst', G'⟩ := gsol (zBT [45, 49] [48] (zAw m)) 5 48 (by decide) (zPV q3) q3 (by decide) q5 (fun K' L' hs' => (zQF hg ht hst hs').2.2.2.2.1)
 obtain ⟨_, _, _, _, _, gv, ev⟩ := zQF hg ht hst hst'
 rw [G'.eq, G.eq] at ev
 rw [G.eq] at gv
 have ev : v' = negT v := ev
 have gv : zCf v = 0 := gv
 rw [q1] at ct
 have ct : zU Tryz.prog 29 [.ro (zAY m) 0 m.length] (.tup [.ro (zAY (zAw m)) 0 (zAw m).length, .int .i64 0]) := ct
 have hTl : (zAw m).length = zAJ m := q4.rows
 have hsT : zCo (zAw m) := ⟨by have := hI.w12; omega, fun r hr => ⟨by have := q4.cols r hr; have := hI.l12; omega, fun s hs => zL1 (q4.ok r hr s hs)⟩⟩
 have h1 := zPU (zAw m) [45, 49] [48] hsT (by have := hI.w12; omega) (fun r hr => by have := q4.cols r hr; have := hI.l12; omega) (by decide) (by decide) q2
 have cn := rneg_ok v G.vl
 have en : oneR (fun x => -x) v = (v', 0) := by rw [ev]; exact negT_one gv
 rw [en] at cn
 have cz := G.call
 have cz' := G'.call
 rw [shift_len] at cz'
 generalize zBT [45, 49] [48] (zAw m) = M2 at *
 generalize zAw m = M1 at *
 refine rn5 ?_
 refine zB Z Z Z cg ?_
 refine rn4 ?_
 refine zB Z Z Z ct ?_
 refine rn2 ?_
 refine zB Z Z Z h1 ?_
 refine rn2 ?_
 refine zB Z Z Z cz ?_
 refine rn4 ?_
 refine sa1 (c' := .box [.str v, .ro (.strs rs) 0 rs.length, .ro (.strs cs1) 0 cs1.length]) Z Z Z Z Z Z Z ?_
 refine rn0 ?_
 refine zB Z Z Z cz' ?_
 refine rn4 ?_
 refine sa1 (c' := .box [.str v', .ro (.strs rs') 0 rs'.length, .ro (.strs cs') 0 cs'.length]) Z Z Z Z Z Z Z ?_
 refine zO [some ⟨30, .box [.str v, .ro (.strs rs) 0 rs.length, .ro (.strs cs1) 0 cs1.length]⟩, some ⟨30, .box [.str v', .ro (.strs rs') 0 rs'.length, .ro (.strs cs') 0 cs'.length]⟩] Z ?_
 refine rn5 ?_
 refine zB Z Z Z cn ?_
 unfold zEN
 refine rn3 ?_
 refine zB Z Z Z fineI4' ?_
 refine rn6 ?_
 refine zL hR Z ?_
 show AV.bool (decide (v' = v')) = _
 rw [decide_eq_true rfl]
end Go.Proofs.YtkncmbklkhjmgaaGreatDoor
