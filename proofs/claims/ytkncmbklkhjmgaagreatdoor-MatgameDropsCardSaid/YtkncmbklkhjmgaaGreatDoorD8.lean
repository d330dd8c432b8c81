import Derived.Test.YtkncmbklkhjmgaaGreatDoorD7
set_option linter.unusedVariables false
set_option linter.unusedSimpArgs false
set_option maxRecDepth 100000
set_option maxHeartbeats 40000000
namespace Go.Proofs.YtkncmbklkhjmgaaGreatDoor
open Go.Ax Go.Ax.Bg Go.Ax.Rt Go.RowKit Go.Ax.Dt Go.Ax.Sx
attribute [local irreducible] Ax zBk QOp zT zBR
/-- the result of the program -/
def runA (r : Res) : AV := .agg ([iN r.kind, if r.kind = 1 then .nil else .ro (qsC r.X) 0 r.X.length, if r.kind = 2 then .nil else .ro (qsC r.Y) 0 r.Y.length, if r.kind = 2 then .ro (qsC r.R) 0 r.R.length else .nil] ++ (if r.kind = 0 then zS r.V else [.bool false, .nil, .nil]))
theorem zPE (r : Res) : noRef (runA r) = true := by
 obtain ⟨k, X, Y, R, V⟩ := r
 by_cases h0 : k = 0
 ·subst h0; rfl
 ·by_cases h1 : k = 1
  ·subst h1; rfl
  ·by_cases h2 : k = 2
   ·subst h2; rfl
   ·show noRef (.agg ([_, if k = 1 then _ else _, if k = 2 then _ else _, if k = 2 then _ else _] ++ (if k = 0 then _ else _))) = true
    rw [if_neg h0, if_neg h1, if_neg h2, if_neg h2]; rfl
theorem intA_nat (n : Nat) : zA1 ((n : Nat) : Int) = .agg [.bool false, zg n] := by
 unfold zA1
 rw [Int.natAbs_natCast, decide_eq_false (by omega)]
theorem zKk (s : Nat) (t : TypeId) : ∀ X : Tab, zC5 s (zCJ t zC X) = zCJ t zC X
 | [] => rfl
 | a :: r => by
  show some ⟨t, (zC a).shift s⟩ :: zC5 s (zCJ t zC r) = some ⟨t, zC a⟩ :: zCJ t zC r
  rw [zHZ, zKk s t r]
theorem zO3 (b n L s : Nat) : (zBh b n L).shift s = zBh (s + b) n L := by
 show Cells.fn _ _ _ = Cells.fn _ _ _
 congr 1
 funext i j
 show AV.sl (b + 4 + i + s) 0 L = AV.sl (s + b + 4 + i) 0 L
 rw [show b + 4 + i + s = s + b + 4 + i by omega]
theorem tb_shift (A B : Option AObj) (L w k : Nat) (X : Tab) (d : Int) (β : List Nat) : [A, B] ++ zC5 2 (zZ [none, none] none L w k X d β []) = zZ [A, B, none, none] none L w k X d β [] := by
 show A :: B :: none :: none :: some (⟨270, zDq 4 k β.length w d⟩ : AObj) :: none :: some (⟨3, zBy β⟩ : AObj) :: some (⟨265, (zBh 2 X.length L).shift 2⟩ : AObj) :: zC5 2 (zCJ 102 zC X ++ []) = _
 rw [List.append_nil, zKk, zO3]
 show _ = A :: B :: none :: none :: some (⟨270, zDq 4 k β.length w d⟩ : AObj) :: none :: some (⟨3, zBy β⟩ : AObj) :: some (⟨265, zBh 4 X.length L⟩ : AObj) :: (zCJ 102 zC X ++ [])
 rw [List.append_nil]
theorem zPG {H : zM} {x : Option AObj} {h : Nat} {o : Option AObj} (hh : H[h]? = some o) : (H.set h x)[h]? = some x := List.getElem?_set_self (List.getElem?_eq_some_iff.1 hh).1
theorem Run_ok (p : Prog) (k K L : Nat) (hp : p.Ok) (hk : p.Dig k) (hm : p.m ≤ 30) (hn : p.n ≤ 30) (hk40 : k ≤ 100) (hs : Stops p K L) :
 zV Tryz.prog 122 [.agg [.ro (zY p.A) 0 p.A.length, .ro (qsC p.B) 0 p.B.length, .ro (qsC p.C) 0 p.C.length]] (runA (zDa p K L)) := by
 have hNe : p.N = p.n + p.m + p.a := rfl
 have hal : p.a ≤ p.m := zJ5 p.B p.B.length
 have hE : p.E k ≤ 3200 := by
  unfold Prog.E
  have : k * (p.n + 1) ≤ 100 * 31 := Nat.mul_le_mul hk40 (by omega)
  omega
 have hT : p.T k ≤ 99262 := by
  unfold Prog.T
  exact Nat.mul_le_mul (show p.E k + 2 ≤ 3202 by omega) (show p.m + 1 ≤ 31 by omega)
 have hET : p.E k ≤ p.T k := by
  unfold Prog.T
  have : (p.E k + 2) * 1 ≤ (p.E k + 2) * (p.m + 1) := Nat.mul_le_mul_left _ (by omega)
  omega
 have cst := zT.many (start_ok p p.N k hp hk hNe (show p.m ≤ 40 by omega) (show p.n ≤ 40 by omega) (by omega)) (fun _ h => h) rfl
 have hph1 : (⟨zBA p ++ [zBX (p.n + p.m) p.a p.N ⟨zBA p, 1, zBb p⟩ p.m p.a], 1, zBb p⟩ : St) = ph1 p := by
  have e : zBX (p.n + p.m) p.a p.N ⟨zBA p, 1, zBb p⟩ p.m p.a = zHD (zCw p) p.m p.N (zAM p) := by
   rw [← zJK p, zOR]; exact zOQ p p.a rfl
  rw [e, ← ph1_rows]; rfl
 have htk : (zAM p).rows.take p.m = zBA p := congrArg St.rows (zJK p)
 have hcf : ∀ (G : zM), OkG G → (∀ h, G.length ≤ h → zj h G = G) → 0 < p.a → _ := fun G hG hFG ha => zNH G hG hFG p.n p.m p.a p.N (zBA p) (zBb p) (M1 p) K (p.T k) hNe (by omega) (by omega) (zCY p) (zGR p) (fun x hx => (zEt p).row x (List.mem_append_left _ hx))
  (fun i j hi hj => by rw [← htk, zEA hi]; exact Nat.le_trans (zLs hp hk hi hj) (Nat.pow_le_pow_right (by decide) hET)) (by omega) (by rw [hph1]; exact zMc p) (by rw [hph1]; exact zKQ p hp) (by rw [hph1]; exact hs.one ha)
  (fun t ht => zEm ht (by omega) (zOL hp hk)) (fun t ht hf h0 i hi hb => (zHS ht hf).2 (by have := (zHS ht hf).1; omega) i hi hb)
 rw [hph1] at hcf
 refine zT.value0 (zE (P := Tryz.prog) (fn := Tryz.f122) Z Z (by kernel_rfl) Z (fun c hR hfix => ?_)) (fix := fun _ => False) (fun _ h => h) Z (zPE _)
 refine rn6 ?_
 refine zh (by kernel_rfl) ?_
 refine zp (fuel := 0) [0, 1, 2, 3, 4, 5, 6, 7] [(1, .ptr 0 0 0), (2, .ptr 1 0 0)] ⟨Z, Z, trivial⟩ (by kernel_rfl) (by decide) Z Z ?_
 refine zN Z Z (zH Z Z Z Z Z Z) ?_
 refine zN Z Z (zX Z Z Z Z Z) ?_
 refine zN Z Z (zBr Z Z Z) ?_
 refine zN Z Z (zH Z Z Z Z Z Z) ?_
 refine zN Z Z (zX Z Z Z Z Z) ?_
 refine zN Z Z (zBr Z Z Z) ?_
 refine zN Z Z (zl Z) ?_
 refine zN Z Z (zl Z) ?_
 refine z7 ?_
 refine zW (by kernel_rfl) ?_
 refine rn6 ?_
 refine zD 29 (.agg [.ro (zY p.A) 0 p.A.length, .ro (qsC p.B) 0 p.B.length, .ro (qsC p.C) 0 p.C.length]) Z (AEq.of_eq Z) ?_
 refine zIC (.tup [.ptr 4 0 0, .ro (nsC ((List.range p.m).map p.fac)) 0 p.m, iN p.a]) (zZ [some ⟨193, .box [.ro (zY p.A) 0 p.A.length, .ro (qsC p.B) 0 p.B.length, .ro (qsC p.C) 0 p.C.length]⟩, some ⟨190, .box [.int .i64 0, .nil, .nil, .nil, .bool false, .nil, .nil]⟩, none, none] none (p.N + 1) (p.n + p.m) p.m (zBA p) 1 (zBb p) []) Z Z Z cst Z (tb_shift _ _ _ _ _ _ _ _) ?_
 generalize hGG : ([some ⟨193, .box [.ro (zY p.A) 0 p.A.length, .ro (qsC p.B) 0 p.B.length, .ro (qsC p.C) 0 p.C.length]⟩, some ⟨190, .box [.int .i64 0, .nil, .nil, .nil, .bool false, .nil, .nil]⟩, none, none] : zM) = G
 have hG4 : G.length = 4 := by subst hGG; rfl
 have hG : OkG G := by
  rw [← hGG]
  intro m hm o ho
  simp only [List.mem_cons, List.mem_nil_iff, or_false] at ho
  rcases ho with e | e | e | e
  ·cases e; exact zHw p _
  ·cases e
   intro i j hi hj
   obtain rfl := Nat.lt_one_iff.1 (show i < 1 from hi)
   match j, (show j < 7 from hj) with
   | 0, _ => rfl
   | 1, _ => rfl
   | 2, _ => rfl
   | 3, _ => rfl
   | 4, _ => rfl
   | 5, _ => rfl
   | 6, _ => rfl
  ·cases e
  ·cases e
 have hFG : ∀ h, zj h G = G := fun h => by subst hGG; rfl
 have hg0 : ∀ kk X d β T, (zZ G none (p.N + 1) (p.n + p.m) kk X d β T)[0]? = some (some ⟨193, .box [.ro (zY p.A) 0 p.A.length, .ro (qsC p.B) 0 p.B.length, .ro (qsC p.C) 0 p.C.length]⟩) := fun kk X d β T => by subst hGG; rfl
 have hg1 : ∀ kk X d β T, (zZ G none (p.N + 1) (p.n + p.m) kk X d β T)[1]? = some (some ⟨190, .box [.int .i64 0, .nil, .nil, .nil, .bool false, .nil, .nil]⟩) := fun kk X d β T => by subst hGG; rfl
 refine zD 30 (.tup [.ptr G.length 0 0, .ro (nsC ((List.range p.m).map p.fac)) 0 p.m, iN p.a]) Z (AEq.of_eq (by rw [hG4])) ?_
 have hcf := hcf G hG (fun h _ => hFG h)
 have hslen : (zZ G none (p.N + 1) (p.n + p.m) p.m (zBA p) 1 (zBb p) []).length = G.length + 4 + p.m := by rw [zBB, zCY]; rfl
 have hfl : ((List.range p.m).map p.fac).length = p.m := by simp
 clear cst
 by_cases hneg : 0 < p.a ∧ at2 (zCD p K).rows p.m p.N < 0
 ·rw [zRL hneg] at hR
  have cf := hcf hneg.1
  obtain ⟨o1, o2⟩ := zEq p hp K
  obtain ⟨b1, b2⟩ := zEm o1 (by omega) (zOL hp hk)
  have hD := o1.dp
  obtain ⟨KK, hKK⟩ : ∃ KK, KK = 99300 := ⟨_, rfl⟩
  have cu := zK1 ((List.range p.m).map (fun i => Rat.divInt (at2 (zCD p K).rows p.m (p.n + i)) (zCD p K).den)) ((List.range p.m).map p.fac) KK (by simp) (by simp; omega) (fun q hq => by
   obtain ⟨i, hi, rfl⟩ := List.mem_map.1 hq
   have hi : i < p.m := by simpa using hi
   exact (zEO (by omega) (zCt (b1 p.m (p.n + i) (by omega) (by omega))) (zCt b2)).mono (by omega)) (fun q hq => by
   obtain ⟨i, hi, rfl⟩ := List.mem_map.1 hq
   have hi : i < p.m := by simpa using hi
   refine Nat.lt_of_lt_of_le (zCt (zOk hp hk hi)) (Nat.pow_le_pow_right (by decide) ?_)
   have : k * (p.n + 1) ≤ 100 * 31 := Nat.mul_le_mul hk40 (by omega)
   omega) (by omega)
  rw [show ((List.range p.m).map (fun i => Rat.divInt (at2 (zCD p K).rows p.m (p.n + i)) (zCD p K).den)).length = p.m by simp, hfl] at cu
  have hy : zJO ((List.range p.m).map (fun i => Rat.divInt (at2 (zCD p K).rows p.m (p.n + i)) (zCD p K).den)) ((List.range p.m).map p.fac) p.m = yL p (zCD p K) (zCD p K).den := (yL_as p (zCD p K) (zCD p K).den).symm
  rw [hy] at cu
  have hyl : (yL p (zCD p K) (zCD p K).den).length = p.m := by simp [yL]
  refine rn6 ?_
  refine zA Z (fun _ => ?_) (fun hx => absurd hneg.1 (by omega))
  refine rn0 ?_
  refine zMx (G.length + 3) Z Z Z cf (fun h q1 q2 => ⟨q1, q2⟩) (fun h q => q.1) (by rw [hfix]; exact fun h => h) ?_
  intro r' H' hr'
  rcases hr' with ⟨h1, rfl, rfl⟩ | ⟨h1, rfl, rfl⟩
  ·refine ⟨by rw [hslen, zBB, show (zAZ p.m p.N (p.n + p.m) (ph1 p) K).rows.length = p.m + 1 from o1.n]; omega, ?_⟩
   refine zBl ((41, .tup [.ro (qsC ((List.range p.m).map (fun i => Rat.divInt (at2 (zCD p K).rows p.m (p.n + i)) (zCD p K).den))) 0 p.m, .bool false]) :: [(1, .ptr 0 0 0), (2, .ptr 1 0 0), (3, iN p.n), (4, iN p.m), (5, .ptr G.length 0 0), (6, .ro (nsC ((List.range p.m).map p.fac)) 0 p.m), (7, iN p.a)]) ⟨Z, zAq (h := G.length + 3) (L := [(1, .ptr 0 0 0), (2, .ptr 1 0 0), (3, iN p.n), (4, iN p.m), (5, .ptr G.length 0 0), (6, .ro (nsC ((List.range p.m).map p.fac)) 0 p.m), (7, iN p.a)]) ⟨Z, Z, Z, Z, Z, Z, Z, trivial⟩ (by
   intro q hq
   simp only [List.mem_cons, List.mem_nil_iff, or_false] at hq
   rcases hq with rfl | rfl | rfl | rfl | rfl | rfl | rfl <;> simp [AV.forget, zg, zq (show G.length ≠ G.length + 3 by omega), zq (show 0 ≠ G.length + 3 by omega), zq (show 1 ≠ G.length + 3 by omega)])⟩ ?_
   refine rn5 ?_
   refine zB Z Z Z cu ?_
   repeat (refine zF (zBI rfl rfl rfl rfl rfl rfl) ?_)
   refine zw (c' := .box [.int .i64 1, .nil, .ro (qsC (yL p (zCD p K) (zCD p K).den)) 0 p.m, .nil, .bool false, .nil, .nil]) Z Z Z (hg1 _ _ _ _ _) Z Nat.zero_lt_one Z Z (fun i' j' hi' hj' => ?_) ?_
   ·rw [if_pos (Nat.lt_one_iff.1 hi')]; rfl
   refine rn2 ?_
   refine zL hR (zF4 Z (zPG (hg1 _ _ _ _ _)) Z Z Z) ?_
   show AV.agg _ = runA _
   unfold runA
   simp only [hyl]
   rfl
  ·exact absurd hneg.2 h1
 have h0 := zGv hp hneg
 have hph := zKR p hp K h0
 obtain ⟨b1, b2⟩ := zEm hph.1 (by omega) (zGc hp hk)
 have hrows := ph2_rows p K
 have hXl : (Sx.cutS p.m (mid p K)).rows.length = p.m := by
  have e := hph.1.n
  rw [hrows, List.length_append] at e
  exact Nat.succ.inj e
 have hXr : ∀ x ∈ (Sx.cutS p.m (mid p K)).rows, x.length = p.N + 1 := fun x hx => hph.1.row x (by rw [hrows]; exact List.mem_append_left _ hx)
 have hXb : ∀ i j, i < p.m → j < p.N + 1 → (at2 (Sx.cutS p.m (mid p K)).rows i j).natAbs ≤ 10 ^ p.T k := fun i j hi hj => by
  have e : at2 (ph2 p K).rows i j = at2 (Sx.cutS p.m (mid p K)).rows i j := by
   unfold at2
   rw [hrows, zHM [] (by rw [hXl]; exact hi)]
  rw [← e]; exact b1 i j (by omega) hj
 have hβl : (mid p K).basis.length = p.m := hph.1.b
 have hdb : (mid p K).den.natAbs ≤ 10 ^ p.T k := b2
 have hlast : (ph2 p K) = ⟨(Sx.cutS p.m (mid p K)).rows ++ [zC9 (zBU p) p.N (Sx.cutS p.m (mid p K)) p.m], (mid p K).den, (mid p K).basis⟩ := by
  rw [zQb (Nat.le_refl _), ← hrows]; rfl
 have hl0 := last0 p (Sx.cutS p.m (mid p K))
 have hcab := fun i j (hi : i ≤ p.m) (hj : j < p.N + 1) => zQa (p := p) (k := k) (E := p.T k) (s := Sx.cutS p.m (mid p K)) (i := i) (j := j) hk (by omega) (fun q hq => hXb q j (by omega) hj) hdb hj
 apply zAG (H := stH G p.N (p.n + p.m) p.m (Sx.cutS p.m (mid p K))) [(1, .ptr 0 0 0), (2, .ptr 1 0 0), (3, iN p.n), (4, iN p.m), (5, .ptr G.length 0 0), (6, .ro (nsC ((List.range p.m).map p.fac)) 0 p.m), (7, iN p.a)]
 ·intro fin
  by_cases ha : 0 < p.a
  ·have cf := hcf ha
   rw [zNU p hp K (by omega)] at fin
   refine rn6 ?_
   refine zA Z (fun _ => ?_) (fun hx => absurd ha (by omega))
   refine rn0 ?_
   refine zMx (G.length + 3) Z Z Z cf (fun h q1 q2 => ⟨q1, q2⟩) (fun h q => q.1) (by rw [hfix]; exact fun h => h) ?_
   intro r' H' hr'
   rcases hr' with ⟨h1, rfl, rfl⟩ | ⟨h1, rfl, rfl⟩
   ·exact absurd ⟨ha, h1⟩ hneg
   ·have hdl : (zBS (p.n + p.m) (Sx.cutS p.m (zAZ p.m p.N (p.n + p.m) (ph1 p) K)) p.m).rows.length = p.m := by
     rw [zNU p hp K (by omega)] at hXl; exact hXl
    refine ⟨by rw [hslen, zBB, hdl]; omega, ?_⟩
    refine zBl ((41, .tup [.nil, .bool true]) :: [(1, .ptr 0 0 0), (2, .ptr 1 0 0), (3, iN p.n), (4, iN p.m), (5, .ptr G.length 0 0), (6, .ro (nsC ((List.range p.m).map p.fac)) 0 p.m), (7, iN p.a)]) ⟨Z, zAq (h := G.length + 3) (L := [(1, .ptr 0 0 0), (2, .ptr 1 0 0), (3, iN p.n), (4, iN p.m), (5, .ptr G.length 0 0), (6, .ro (nsC ((List.range p.m).map p.fac)) 0 p.m), (7, iN p.a)]) ⟨Z, Z, Z, Z, Z, Z, Z, trivial⟩ (by
   intro q hq
   simp only [List.mem_cons, List.mem_nil_iff, or_false] at hq
   rcases hq with rfl | rfl | rfl | rfl | rfl | rfl | rfl <;> simp [AV.forget, zg, zq (show G.length ≠ G.length + 3 by omega), zq (show 0 ≠ G.length + 3 by omega), zq (show 1 ≠ G.length + 3 by omega)])⟩ ?_
    refine zBa ?_
    refine zx ?_
    refine zd Z ?_
    refine zBa ?_
    exact fin _ ⟨Z, Z, Z, Z, Z, Z, Z, trivial⟩
  ·have ha0 : p.a = 0 := by omega
   rw [mid_cut0 p K ha0] at fin
   refine zBa ?_
   refine zx ?_
   refine zx ?_
   refine zd Z ?_
   refine zBa ?_
   refine zA Z (fun hx => absurd hx (by omega)) (fun _ => ?_)
   refine zBa ?_
   exact fin _ ⟨Z, Z, Z, Z, Z, Z, Z, trivial⟩
 generalize hX : (Sx.cutS p.m (mid p K)).rows = X at *
 have hde : (Sx.cutS p.m (mid p K)).den = (mid p K).den := rfl
 have hbe : (Sx.cutS p.m (mid p K)).basis = (mid p K).basis := rfl
 have hme : Sx.cutS p.m (mid p K) = ⟨X, (mid p K).den, (mid p K).basis⟩ := by rw [← hX]; rfl
 rw [hme] at hlast hl0 hcab
 generalize (mid p K).den = d at *
 generalize (mid p K).basis = β at *
 have hstE : stH G p.N (p.n + p.m) p.m (Sx.cutS p.m (mid p K)) = zZ G none (p.N + 1) (p.n + p.m) p.m X d β [] := by rw [hme]
 refine zAi (zZ G none (p.N + 1) (p.n + p.m) p.m X d β []) hstE ?_
 clear hcf hph1 hslen hX hde hbe hme hstE hrows b1 b2
 have cWC := zMp p.C k hk.c (show p.n ≤ 1000 by omega) (by show k * p.n + k ≤ _; have : k * p.n ≤ 100 * 30 := Nat.mul_le_mul hk40 hn; omega)
 have hlen : ∀ T, (zZ G none (p.N + 1) (p.n + p.m) p.m X d β T).length = G.length + 4 + p.m + T.length := fun T => by rw [zBB, hXl]
 have gC := hg0 p.m X d β []
 refine rn7 ?_
 refine zIC (.tup [.sl (G.length + 4 + p.m) 0 p.n, zg p.fc]) (zZ G none (p.N + 1) (p.n + p.m) p.m X d β [some ⟨102, zC (zAj p.C)⟩]) Z Z Z cWC (by rw [hlen]; show AV.tup [AV.sl (0 + (G.length + 4 + p.m)) 0 _, _] = _; rw [Nat.zero_add]; rfl) (by show _ ++ [some (⟨_, (zC _).shift _⟩ : AObj)] = _; rw [zHZ, zAW]; rfl) ?_
 have hWl : (zAj p.C).length = p.n := zGW _
 have hWb : ∀ j, j < p.n → ((zAj p.C).getD j 0).natAbs ≤ 10 ^ p.E k := fun j hj => zJQ hk hj
 have hcs : ∀ j, j < p.n → -(zBU p j) = (zAj p.C).getD j 0 := fun j hj => cosK_neg hj
 have hcz : ∀ j, ¬ (j < p.n ∧ (zAj p.C).getD j 0 ≠ 0) → zBU p j = 0 := fun j hj => zQX hj
 generalize zAj p.C = WC at *
 clear gC cWC
 refine rn3 ?_
 refine zD 61 (.int .i64 ((p.N + 1 : Nat))) Z (AEq.of_eq (by show AV.int _ _ = AV.int _ _; congr 1)) ?_
 refine zCy Z Z Z Z Z Z Z Z (by show (0 : Int) ≤ _ ∧ _ ≤ _ ∧ (32 : Int) * _ ≤ _ ∧ _; omega) ?_
 refine zF7 (zZ G none (p.N + 1) (p.n + p.m) p.m X d β [some ⟨102, zC WC⟩] ++ [some ⟨102, zC (List.replicate (p.N + 1) 0)⟩]) (by simp only [List.length_append, List.length_cons, List.length_nil]) zH9 ?_
 refine zO (zZ G none (p.N + 1) (p.n + p.m) p.m X d β [some ⟨102, zC WC⟩, some ⟨102, zC (chg (fun q => -(WC.getD q 0) * d) 0 (List.replicate (p.N + 1) 0) 0)⟩]) (by rw [zAW, zC8]; rfl) ?_
 refine zD 62 (.sl (G.length + 4 + p.m + 1) 0 (p.N + 1)) Z (AEq.of_eq (by rw [hlen]; rfl)) ?_
 have hdD : ∀ x : Int, ∀ e, e ≤ 3599990 → x.natAbs ≤ 10 ^ e → (zR x.natAbs).length ≤ 400001 := fun x e he hx => zFK hx (by omega)
 refine rn3 ?_
 refine ze (ι := Nat) (fun j => [(1, .ptr 0 0 0), (2, .ptr 1 0 0), (3, iN p.n), (4, iN p.m), (5, .ptr G.length 0 0), (6, .ro (nsC ((List.range p.m).map p.fac)) 0 p.m), (7, iN p.a), (10, .sl (G.length + 4 + p.m) 0 p.n), (11, zg p.fc), (12, .sl (G.length + 4 + p.m + 1) 0 (p.N + 1)), (63, .sl (G.length + 4 + p.m) 0 p.n), (64, iN p.n), (65, iN j)]) (fun j => zZ G none (p.N + 1) (p.n + p.m) p.m X d β [some ⟨102, zC WC⟩, some ⟨102, zC (chg (fun q => -(WC.getD q 0) * d) 0 (List.replicate (p.N + 1) 0) j)⟩]) (fun j => j ≤ p.n) (fun j => p.n - j) 0 ⟨⟨Z, Z, Z, Z, Z, Z, Z, Z, Z, Z, Z, Z, Z, trivial⟩, Z, Nat.zero_le _⟩ ?_
 intro j hj
 refine rn4 ?_
 refine zA Z (fun h => ?_) (fun h => ?_)
 ·have hj' : j < p.n := by omega
  have hgj := zC0 (fun q => -(WC.getD q 0) * d) 0 (List.replicate (p.N + 1) 0) (k := j) (i := j) (by simp; omega)
  have hsj := zDd (fun q => -(WC.getD q 0) * d) 0 (List.replicate (p.N + 1) 0) (k := j) (by simp; omega)
  have hlj := zCk (fun q => -(WC.getD q 0) * d) 0 (List.replicate (p.N + 1) 0) j
  rw [List.length_replicate] at hlj
  generalize hYY : chg (fun q => -(WC.getD q 0) * d) 0 (List.replicate (p.N + 1) 0) j = Y at *
  have q0 := zAX (G := G) (F := none) (L := p.N + 1) (w := p.n + p.m) (k := p.m) (X := X) (d := d) (β := β) (T := [some ⟨102, zC WC⟩, some ⟨102, zC Y⟩]) 0
  rw [hXl, Nat.add_zero] at q0
  have g0 : j < (zC WC).len := by show j < WC.length; omega
  refine rn7 ?_
  refine zO (zZ G none (p.N + 1) (p.n + p.m) p.m X d β [some ⟨102, zC WC⟩, some ⟨102, zC Y⟩, some ⟨102, .box [.bool false, .nil]⟩]) (by rw [zAW]; rfl) ?_
  refine zD 14 (.ptr (G.length + 4 + p.m + 2) 0 0) Z (AEq.of_eq (by rw [hlen]; rfl)) ?_
  refine zD 69 (zA1 (WC.getD j 0)) Z (AEq.of_eq Z) ?_
  have q2 := zAX (G := G) (F := none) (L := p.N + 1) (w := p.n + p.m) (k := p.m) (X := X) (d := d) (β := β) (T := [some ⟨102, zC WC⟩, some ⟨102, zC Y⟩, some ⟨102, .box [.bool false, .nil]⟩]) 2
  rw [hXl] at q2
  refine zw (c' := .box (zi (WC.getD j 0))) Z Z Z q2 Z Nat.zero_lt_one Z Z (fun i' j' hi' hj' => ?_) ?_
  ·rw [if_pos (Nat.lt_one_iff.1 hi')]; rfl
  refine zO (zZ G none (p.N + 1) (p.n + p.m) p.m X d β [some ⟨102, zC WC⟩, some ⟨102, zC Y⟩, some ⟨102, .box (zi (WC.getD j 0))⟩]) (by have q := zAF (G := G) (F := none) (L := p.N + 1) (w := p.n + p.m) (k := p.m) (X := X) (d := d) (β := β) (T := [some ⟨102, zC WC⟩, some ⟨102, zC Y⟩, some ⟨102, .box [.bool false, .nil]⟩]) 2 (some ⟨102, .box (zi (WC.getD j 0))⟩); rw [hXl] at q; exact q) ?_
  clear q0 q2
  have f1 := zA2 (G := G) (F := none) (L := p.N + 1) (w := p.n + p.m) (k := p.m) (X := X) (d := d) (β := β) (T := [some ⟨102, zC WC⟩, some ⟨102, zC Y⟩, some ⟨102, .box (zi (WC.getD j 0))⟩])
  have q1 := zAX (G := G) (F := none) (L := p.N + 1) (w := p.n + p.m) (k := p.m) (X := X) (d := d) (β := β) (T := [some ⟨102, zC WC⟩, some ⟨102, zC Y⟩, some ⟨102, .box (zi (WC.getD j 0))⟩]) 1
  have q2 := zAX (G := G) (F := none) (L := p.N + 1) (w := p.n + p.m) (k := p.m) (X := X) (d := d) (β := β) (T := [some ⟨102, zC WC⟩, some ⟨102, zC Y⟩, some ⟨102, .box (zi (WC.getD j 0))⟩]) 2
  rw [hXl] at q1 q2
  have g1 : j < (zC Y).len := by show j < Y.length; omega
  have co := zGC (WC.getD j 0)
  have cm := zCS (-(WC.getD j 0)) d (by rw [Int.natAbs_neg]; have := hdD _ _ (by omega) (hWb j hj'); omega) (by have := hdD _ _ (by omega) hdb; omega)
  refine rn0 ?_
  refine zh (by kernel_rfl) ?_
  refine zp (fuel := 1) [0, 1, 2, 3, 4, 5, 6, 7, 8, 9] [(1, .ptr 0 0 0), (2, .ptr 1 0 0), (3, iN p.n), (4, iN p.m), (5, .ptr G.length 0 0), (6, .ro (nsC ((List.range p.m).map p.fac)) 0 p.m), (7, iN p.a), (10, .sl (G.length + 4 + p.m) 0 p.n), (11, zg p.fc), (12, .sl (G.length + 4 + p.m + 1) 0 (p.N + 1)), (63, .sl (G.length + 4 + p.m) 0 p.n), (64, iN p.n), (65, iN j), (13, iN j), (14, .ptr (G.length + 4 + p.m + 2) 0 0)] ⟨Z, Z, Z, Z, Z, Z, Z, Z, Z, Z, Z, Z, Z, Z, Z, trivial⟩ (by kernel_rfl) (by decide) Z Z ?_
  refine zN Z Z (zJ Z) ?_
  refine zN Z Z (zJ Z) ?_
  refine zN Z Z (qas Z Z Z Z) ?_
  refine zA5 Z Z Z Z Z co ?_
  refine zN Z Z (zJ Z) ?_
  refine zN Z Z (zb Z) ?_
  refine zN Z Z (zH Z Z Z Z Z Z) ?_
  refine zN Z Z (qps Z Z Z Z) ?_
  refine zA5 Z Z Z Z Z cm ?_
  refine zN Z Z (qis Z Z Z) ?_
  refine z7 ?_
  refine zG (is := [10]) (by kernel_rfl) (by simp) Z ⟨fun o ho => ?_, trivial⟩
  all_goals (cases ho)
  refine zw (c' := zC (Y.set j (-(WC.getD j 0) * d))) Z Z Z q1 Z g1 (List.length_set ..) Z (zDI Y j _) ?_
  refine zO (zZ G none (p.N + 1) (p.n + p.m) p.m X d β [some ⟨102, zC WC⟩, some ⟨102, zC (Y.set j (-(WC.getD j 0) * d))⟩, some ⟨102, .box (zi (WC.getD j 0))⟩]) (by have q := zAF (G := G) (F := none) (L := p.N + 1) (w := p.n + p.m) (k := p.m) (X := X) (d := d) (β := β) (T := [some ⟨102, zC WC⟩, some ⟨102, zC Y⟩, some ⟨102, .box (zi (WC.getD j 0))⟩]) 1 (some ⟨102, zC (Y.set j (-(WC.getD j 0) * d))⟩); rw [hXl] at q; exact q) ?_
  refine rn1 ?_
  refine zW (by kernel_rfl) ?_
  repeat (refine zAO ?_)
  refine zI ?_
  refine zBH (zZ G none (p.N + 1) (p.n + p.m) p.m X d β [some ⟨102, zC WC⟩, some ⟨102, zC (Y.set j (-(WC.getD j 0) * d))⟩]) [some ⟨102, .box (zi (WC.getD j 0))⟩] [(1, .ptr 0 0 0), (2, .ptr 1 0 0), (3, iN p.n), (4, iN p.m), (5, .ptr G.length 0 0), (6, .ro (nsC ((List.range p.m).map p.fac)) 0 p.m), (7, iN p.a), (10, .sl (G.length + 4 + p.m) 0 p.n), (11, zg p.fc), (12, .sl (G.length + 4 + p.m + 1) 0 (p.N + 1)), (63, .sl (G.length + 4 + p.m) 0 p.n), (64, iN p.n), (65, iN j)] (by rw [zAW]; rfl) ⟨Z, Z, Z, Z, Z, Z, Z, Z, Z, Z, Z, Z, Z, trivial⟩ (fun h hh => by rw [hfix] at hh; exact hh.elim)
   (zCN hG _ (by rw [hlen, hXl]; exact Nat.le_add_right _ _) (fun o ho => by cases ho) (fun o ho => by
    simp only [List.mem_cons, List.mem_nil_iff, or_false] at ho
    rcases ho with e | e <;> cases e <;> exact fun i' j' hi' hj' => zFT _ _ _ hj')) (by rw [hlen]; simp [zDK, zCC, zg]; omega) ?_
  refine rn3 ?_
  exact zK ⟨j + 1, by omega, by omega, ⟨Z, Z, Z, Z, Z, Z, Z, Z, Z, Z, Z, Z, Z, trivial⟩, by rw [← hsj]⟩
 have hje : j = p.n := by omega
 rw [hje, hl0]
 clear hj h hje
 clear j
 have f1 := zA2 (G := G) (F := none) (L := p.N + 1) (w := p.n + p.m) (k := p.m) (X := X) (d := d) (β := β) (T := [some ⟨102, zC WC⟩, some ⟨102, zC (zC9 (zBU p) p.N ⟨X, d, β⟩ 0)⟩])
 rw [hβl] at f1
 refine rn15 ?_
 refine ze (ι := Nat) (fun i => [(1, .ptr 0 0 0), (2, .ptr 1 0 0), (3, iN p.n), (4, iN p.m), (5, .ptr G.length 0 0), (6, .ro (nsC ((List.range p.m).map p.fac)) 0 p.m), (7, iN p.a), (10, .sl (G.length + 4 + p.m) 0 p.n), (11, zg p.fc), (12, .sl (G.length + 4 + p.m + 1) 0 (p.N + 1)), (84, .sl (G.length + 2) 0 p.m), (85, iN p.m), (86, iN i)]) (fun i => zZ G none (p.N + 1) (p.n + p.m) p.m X d β [some ⟨102, zC WC⟩, some ⟨102, zC (zC9 (zBU p) p.N ⟨X, d, β⟩ i)⟩]) (fun i => i ≤ p.m) (fun i => p.m - i) 0 ⟨⟨Z, Z, Z, Z, Z, Z, Z, Z, Z, Z, Z, Z, Z, trivial⟩, Z, Nat.zero_le _⟩ ?_
 clear f1
 intro i hi
 refine rn4 ?_
 refine zA Z (fun h => ?_) (fun h => ?_)
 ·have hi' : i < p.m := by omega
  have f2 := zFd (G := G) (F := none) (L := p.N + 1) (w := p.n + p.m) (k := p.m) (X := X) (d := d) (β := β) (T := [some ⟨102, zC WC⟩, some ⟨102, zC (zC9 (zBU p) p.N ⟨X, d, β⟩ i)⟩])
  have g2 : i < (β.map (fun a : Nat => (a : Int))).length := by rw [List.length_map, hβl]; exact hi'
  have hcl := zHC (zBU p) p.N ⟨X, d, β⟩ i
  have hcl2 := zHC (zBU p) p.N ⟨X, d, β⟩ (i + 1)
  have hnx := fun j (hj : j < p.N + 1) => zOW (k := zBU p) (N := p.N) (s := ⟨X, d, β⟩) (i := i) hj
  have hsk := fun h => zOX (k := zBU p) (N := p.N) (s := ⟨X, d, β⟩) (i := i) h
  have hab := fun j (hj : j < p.N + 1) => hcab i j (by omega) hj
  have lI : (X.getD i []).length = p.N + 1 := hXr _ (zAA [] (by omega))
  generalize hC2 : (zC9 (zBU p) p.N ⟨X, d, β⟩ (i + 1)) = C2 at *
  generalize hC1 : (zC9 (zBU p) p.N ⟨X, d, β⟩ i) = C1 at *
  have q0 := zAX (G := G) (F := none) (L := p.N + 1) (w := p.n + p.m) (k := p.m) (X := X) (d := d) (β := β) (T := [some ⟨102, zC WC⟩, some ⟨102, zC C1⟩]) 0
  rw [hXl, Nat.add_zero] at q0
  by_cases hb : β.getD i 0 < p.n
  ·have g0 : β.getD i 0 < (zC WC).len := by show _ < WC.length; omega
   have cs := zEG (WC.getD (β.getD i 0) 0)
   refine rn7 ?_
   refine zD 16 (iN (β.getD i 0)) Z (AEq.of_eq (by rw [zAr])) ?_
   refine zD 94 (.bool true) Z (AEq.of_eq (by rw [zAr, decide_eq_true (by show ((β.getD i 0 : Nat) : Int) < ((p.n : Nat) : Int); omega)])) ?_
   refine zDp ?_
   refine zD 98 (zA1 (WC.getD (β.getD i 0) 0)) Z (AEq.of_eq Z) ?_
   refine zB Z Z Z cs ?_
   refine rn3 ?_
   refine zA Z (fun h1 => ?_) (fun h1 => ?_)
   ·have hcc := hcs _ hb
    have bW := hWb _ hb
    clear f2 g2 q0
    refine rn3 ?_
    refine ze (ι := Nat) (fun j => [(1, .ptr 0 0 0), (2, .ptr 1 0 0), (3, iN p.n), (4, iN p.m), (5, .ptr G.length 0 0), (6, .ro (nsC ((List.range p.m).map p.fac)) 0 p.m), (7, iN p.a), (10, .sl (G.length + 4 + p.m) 0 p.n), (11, zg p.fc), (12, .sl (G.length + 4 + p.m + 1) 0 (p.N + 1)), (84, .sl (G.length + 2) 0 p.m), (85, iN p.m), (86, iN i), (15, iN i), (16, iN (β.getD i 0)), (103, .int .i64 ((p.N + 1 : Nat))), (104, iN j)]) (fun j => zZ G none (p.N + 1) (p.n + p.m) p.m X d β [some ⟨102, zC WC⟩, some ⟨102, zC (chg (fun j => C2.getD j 0) 0 C1 j)⟩]) (fun j => j ≤ p.N + 1) (fun j => p.N + 1 - j) 0 ⟨⟨Z, Z, Z, Z, Z, Z, Z, Z, Z, Z, Z, Z, Z, Z, Z, Z, Z, trivial⟩, by rw [zC8], Nat.zero_le _⟩ ?_
    intro j hj
    refine rn4 ?_
    refine zA Z (fun h2 => ?_) (fun h2 => ?_)
    ·have hj' : j < p.N + 1 := by omega
     have hgj := zC0 (fun j => C2.getD j 0) 0 C1 (k := j) (i := j) (by omega)
     rw [if_neg (Nat.lt_irrefl j)] at hgj
     have hsj := zDd (fun j => C2.getD j 0) 0 C1 (k := j) (by omega)
     have hlj := zCk (fun j => C2.getD j 0) 0 C1 j
     have hnj := hnx j hj'
     rw [hcc, ← hgj] at hnj
     rw [hnj] at hsj
     have ab := hab j hj'
     rw [← hgj] at ab
     generalize chg (fun j => C2.getD j 0) 0 C1 j = Y at *
     have q1 := zA2 (G := G) (F := none) (L := p.N + 1) (w := p.n + p.m) (k := p.m) (X := X) (d := d) (β := β) (T := [some ⟨102, zC WC⟩, some ⟨102, zC Y⟩])
     have q2 := zCj (G := G) (F := none) (L := p.N + 1) (w := p.n + p.m) (k := p.m) (X := X) (d := d) (β := β) (T := [some ⟨102, zC WC⟩, some ⟨102, zC Y⟩])
     have q3 := zCZ (G := G) (F := none) (L := p.N + 1) (w := p.n + p.m) (k := p.m) (X := X) (d := d) (β := β) (T := [some ⟨102, zC WC⟩, some ⟨102, zC Y⟩]) (a := i) (by omega)
     have q4 := zAX (G := G) (F := none) (L := p.N + 1) (w := p.n + p.m) (k := p.m) (X := X) (d := d) (β := β) (T := [some ⟨102, zC WC⟩, some ⟨102, zC Y⟩]) 0
     have q5 := zAX (G := G) (F := none) (L := p.N + 1) (w := p.n + p.m) (k := p.m) (X := X) (d := d) (β := β) (T := [some ⟨102, zC WC⟩, some ⟨102, zC Y⟩]) 1
     rw [hXl] at q4 q5
     rw [Nat.add_zero] at q4
     have g3 : i < (zBh G.length X.length (p.N + 1)).len := by show i < X.length; omega
     have g4 : j < (zC (X.getD i [])).len := by show j < (X.getD i []).length; omega
     have g5 : j < (zC Y).len := by show j < Y.length; omega
     have bX := hXb i j hi' hj'
     have hp10 : (WC.getD (β.getD i 0) 0 * at2 X i j).natAbs ≤ 10 ^ (p.E k + p.T k) := by rw [Int.natAbs_mul, Nat.pow_add]; exact Nat.mul_le_mul bW bX
     have cm := zCS (WC.getD (β.getD i 0) 0) (at2 X i j) (by have := hdD _ _ (by omega) bW; omega) (by have := hdD _ _ (by omega) bX; omega)
     have ca := zMQ (Y.getD j 0) (WC.getD (β.getD i 0) 0 * at2 X i j) (by have := hdD _ _ (by omega) ab; omega) (by have := hdD _ _ (by omega) hp10; omega)
     refine rn1 ?_
     refine zh (by kernel_rfl) ?_
     refine zp (fuel := 1) [0, 1, 2, 3, 4, 5, 6, 7, 8, 9, 10, 11, 12, 13, 14, 15, 16, 17, 18, 19, 20, 21, 22] [(1, .ptr 0 0 0), (2, .ptr 1 0 0), (3, iN p.n), (4, iN p.m), (5, .ptr G.length 0 0), (6, .ro (nsC ((List.range p.m).map p.fac)) 0 p.m), (7, iN p.a), (10, .sl (G.length + 4 + p.m) 0 p.n), (11, zg p.fc), (12, .sl (G.length + 4 + p.m + 1) 0 (p.N + 1)), (84, .sl (G.length + 2) 0 p.m), (85, iN p.m), (86, iN i), (15, iN i), (16, iN (β.getD i 0)), (103, .int .i64 ((p.N + 1 : Nat))), (104, iN j), (17, iN j)] ⟨Z, Z, Z, Z, Z, Z, Z, Z, Z, Z, Z, Z, Z, Z, Z, Z, Z, Z, trivial⟩ (by kernel_rfl) (by decide) Z Z ?_
     refine zN Z Z (zJ Z) ?_
     refine zN Z Z (zJ Z) ?_
     refine zN Z Z (zJ Z) ?_
     refine zN Z Z (zJ Z) ?_
     refine zN Z Z (qis Z Z Z) ?_
     refine zN Z Z (qas Z Z Z Z) ?_
     refine zN Z Z (zJ Z) ?_
     refine zN Z Z (zJ Z) ?_
     refine zN Z Z (qis Z Z Z) ?_
     refine zN Z Z (qas Z Z Z Z) ?_
     refine zN Z Z (zJ Z) ?_
     refine zN Z Z (zb Z) ?_
     refine zN Z Z (zH Z Z Z Z Z Z) ?_
     refine zN Z Z (z6 Z Z Z (by assumption) (by rfl)) ?_
     refine zN Z Z (zJ Z) ?_
     refine zN Z Z (qis Z Z Z) ?_
     refine zN Z Z (zAx Z Z Z (by assumption) Z (by first | assumption | omega)) ?_
     refine zN Z Z (zJ Z) ?_
     refine zN Z Z (qis Z Z Z) ?_
     refine zN Z Z (qas Z Z Z Z) ?_
     refine zA5 Z Z Z Z Z cm ?_
     refine zA5 Z Z Z Z Z ca ?_
     refine zN Z Z (qis Z Z Z) ?_
     refine z7 ?_
     refine zG (is := [23]) (by kernel_rfl) (by simp) Z ⟨fun o ho => ?_, trivial⟩
     all_goals (cases ho)
     refine zw (c' := zC (Y.set j (Y.getD j 0 + WC.getD (β.getD i 0) 0 * at2 X i j))) Z Z Z q5 Z g5 (List.length_set ..) Z (zDI Y j _) ?_
     refine zO (zZ G none (p.N + 1) (p.n + p.m) p.m X d β [some ⟨102, zC WC⟩, some ⟨102, zC (Y.set j (Y.getD j 0 + WC.getD (β.getD i 0) 0 * at2 X i j))⟩]) (by have q := zAF (G := G) (F := none) (L := p.N + 1) (w := p.n + p.m) (k := p.m) (X := X) (d := d) (β := β) (T := [some ⟨102, zC WC⟩, some ⟨102, zC Y⟩]) 1 (some ⟨102, zC (Y.set j (Y.getD j 0 + WC.getD (β.getD i 0) 0 * at2 X i j))⟩); rw [hXl] at q; exact q) ?_
     refine rn1 ?_
     refine zW (by kernel_rfl) ?_
     refine rn5 ?_
     exact zK ⟨j + 1, by omega, by omega, ⟨Z, Z, Z, Z, Z, Z, Z, Z, Z, Z, Z, Z, Z, Z, Z, Z, Z, trivial⟩, by rw [← hsj]⟩
    ·have hje : j = p.N + 1 := by omega
     subst hje
     rw [chg_to hcl hcl2]
     refine rn5 ?_
     exact zK ⟨i + 1, by omega, by omega, ⟨Z, Z, Z, Z, Z, Z, Z, Z, Z, Z, Z, Z, Z, trivial⟩, by rw [hC2]⟩
   ·have hz : WC.getD (β.getD i 0) 0 = 0 := Decidable.byContradiction (fun q => h1 (fun e => q (by rw [zJI] at e; exact e)))
    have e := hsk (hcz _ (fun q => q.2 hz))
    refine rn5 ?_
    exact zK ⟨i + 1, by omega, by omega, ⟨Z, Z, Z, Z, Z, Z, Z, Z, Z, Z, Z, Z, Z, trivial⟩, by rw [hC2, e]⟩
  ·have e := hsk (hcz _ (fun q => hb q.1))
   refine rn7 ?_
   refine zD 94 (.bool false) Z (AEq.of_eq (by rw [zAr, decide_eq_false (by show ¬ ((β.getD i 0 : Nat) : Int) < ((p.n : Nat) : Int); omega)])) ?_
   refine rn6 ?_
   exact zK ⟨i + 1, by omega, by omega, ⟨Z, Z, Z, Z, Z, Z, Z, Z, Z, Z, Z, Z, Z, trivial⟩, by rw [hC2, e]⟩
 have hie : i = p.m := by omega
 rw [hie]
 clear hi h hie
 clear i
 have hLl := zHC (zBU p) p.N ⟨X, d, β⟩ p.m
 generalize (zC9 (zBU p) p.N ⟨X, d, β⟩ p.m) = LC at *
 clear hcab hcs hcz hl0
 have q6 := zAX (G := G) (F := none) (L := p.N + 1) (w := p.n + p.m) (k := p.m) (X := X) (d := d) (β := β) (T := [some ⟨102, zC WC⟩, some ⟨102, zC LC⟩]) 1
 rw [hXl] at q6
 refine zBa ?_
 refine zPS (G.length + 4 + p.m) (G.length + 4 + p.m + 1) 12 (p.N + 1) (by omega) (by rw [hlen]; show G.length + 4 + p.m < G.length + 4 + p.m + 2; omega) q6 (by rw [hfix]; exact fun h => h) Z ?_
 refine zPR ((12, .sl (G.length + 4 + p.m) 0 (p.N + 1)) :: [(1, .ptr 0 0 0), (2, .ptr 1 0 0), (3, iN p.n), (4, iN p.m), (5, .ptr G.length 0 0), (6, .ro (nsC ((List.range p.m).map p.fac)) 0 p.m), (7, iN p.a), (11, zg p.fc)]) ⟨Z, zAq (h := G.length + 4 + p.m) (L := [(1, .ptr 0 0 0), (2, .ptr 1 0 0), (3, iN p.n), (4, iN p.m), (5, .ptr G.length 0 0), (6, .ro (nsC ((List.range p.m).map p.fac)) 0 p.m), (7, iN p.a), (11, zg p.fc)]) ⟨Z, Z, Z, Z, Z, Z, Z, Z, trivial⟩ (by
  intro q hq
  simp only [List.mem_cons, List.mem_nil_iff, or_false] at hq
  rcases hq with rfl | rfl | rfl | rfl | rfl | rfl | rfl | rfl <;> simp [AV.forget, zg, zq (show G.length ≠ G.length + 4 + p.m by omega), zq (show 0 ≠ G.length + 4 + p.m by omega), zq (show 1 ≠ G.length + 4 + p.m by omega)])⟩ ?_
 refine zBi (zZ G none (p.N + 1) (p.n + p.m) p.m X d β [some ⟨102, zC LC⟩, none]) (by
  have q := zP.set (zP.set (zJM (G := G) (L := p.N + 1) (w := p.n + p.m) (k := p.m) (X := X) (d := d) (β := β) (T := [some ⟨102, zC WC⟩, some ⟨102, zC LC⟩]) (T' := [some ⟨102, zC WC⟩, some ⟨102, zC LC⟩]) (G.length + 4 + p.m) (hFG _) (by omega) (by show zP [some (⟨_, (zC WC).forget _⟩ : AObj), some (⟨_, (zC LC).forget _⟩ : AObj)] _; rw [zBM, zBM]; exact zP.refl _)) (G.length + 4 + p.m) (x := some ⟨102, (zC LC).forget (G.length + 4 + p.m)⟩) (x' := some ⟨102, zC LC⟩) (fun o ho => by cases ho; exact ⟨_, rfl, rfl, by rw [zBM]; exact CEq.refl _⟩)) (G.length + 4 + p.m + 1) (x := none) (x' := none) (fun o ho => by cases ho)
  have e1 : (zZ G none (p.N + 1) (p.n + p.m) p.m X d β [some ⟨102, zC WC⟩, some ⟨102, zC LC⟩]).set (G.length + 4 + p.m) (some ⟨102, zC LC⟩) = zZ G none (p.N + 1) (p.n + p.m) p.m X d β [some ⟨102, zC LC⟩, some ⟨102, zC LC⟩] := by
   have q := zAF (G := G) (F := none) (L := p.N + 1) (w := p.n + p.m) (k := p.m) (X := X) (d := d) (β := β) (T := [some ⟨102, zC WC⟩, some ⟨102, zC LC⟩]) 0 (some ⟨102, zC LC⟩)
   rw [hXl] at q
   exact q
  have e2 := zAF (G := G) (F := none) (L := p.N + 1) (w := p.n + p.m) (k := p.m) (X := X) (d := d) (β := β) (T := [some ⟨102, zC LC⟩, some ⟨102, zC LC⟩]) 1 none
  rw [hXl] at e2
  rw [e1] at q
  exact (show zP _ _ from e2 ▸ q)) ?_
 refine zBH (zZ G none (p.N + 1) (p.n + p.m) p.m X d β [some ⟨102, zC LC⟩]) [none] ((12, .sl (G.length + 4 + p.m) 0 (p.N + 1)) :: [(1, .ptr 0 0 0), (2, .ptr 1 0 0), (3, iN p.n), (4, iN p.m), (5, .ptr G.length 0 0), (6, .ro (nsC ((List.range p.m).map p.fac)) 0 p.m), (7, iN p.a), (11, zg p.fc)]) (by rw [zAW]; rfl) ⟨Z, Z, Z, Z, Z, Z, Z, Z, Z, trivial⟩ (fun h hh => by rw [hfix] at hh; exact hh.elim)
  (zCN hG _ (by rw [hlen, hXl]; exact Nat.le_add_right _ _) (fun o ho => by cases ho) (fun o ho => by cases List.mem_singleton.1 ho; exact fun i' j' hi' hj' => zFT _ _ _ hj')) (by rw [hlen]; simp [zDK, zCC, zg]; omega) ?_
 clear q6
 have f1 := zA2 (G := G) (F := none) (L := p.N + 1) (w := p.n + p.m) (k := p.m) (X := X) (d := d) (β := β) (T := [some ⟨102, zC LC⟩])
 refine rn7 ?_
 refine zCB Z Z Z Z Z Z Z Z Z Z ?_
 refine zO (zZ G none (p.N + 1) (p.n + p.m) p.m X d β [some ⟨102, zC LC⟩, some ⟨265, zBv 1 1 [.sl (G.length + 4 + p.m) 0 (p.N + 1)]⟩]) (by rw [zAW]; rfl) ?_
 refine zD 138 (.sl (G.length + 4 + p.m + 1) 0 1) Z (AEq.of_eq (by rw [hlen]; rfl)) ?_
 have f2 := zCj (G := G) (F := none) (L := p.N + 1) (w := p.n + p.m) (k := p.m) (X := X) (d := d) (β := β) (T := [some ⟨102, zC LC⟩, some ⟨265, zBv 1 1 [.sl (G.length + 4 + p.m) 0 (p.N + 1)]⟩])
 have f3 := zAX (G := G) (F := none) (L := p.N + 1) (w := p.n + p.m) (k := p.m) (X := X) (d := d) (β := β) (T := [some ⟨102, zC LC⟩, some ⟨265, zBv 1 1 [.sl (G.length + 4 + p.m) 0 (p.N + 1)]⟩]) 1
 rw [hXl] at f3
 have hol : (zBh G.length X.length (p.N + 1)).len = p.m := hXl
 skip
 refine zo Z Z Z Z Z Z Z f2 Z hol Z (zIn f3) (by show 0 + 1 ≤ 1; omega) Z (by show (p.m + 1) * 24 ≤ _ ∧ _; omega) ?_ (by rw [hfix]; exact fun h => h) ?_
 ·intro i' j' hi' hj'
  obtain rfl := Nat.lt_one_iff.1 (show j' < 1 from hj')
  have q := (zEr G.length X.length (p.N + 1) (zBv 1 1 [AV.sl (G.length + 4 + p.m) 0 (p.N + 1)]) (by rw [hXl]; rfl)).2.2 i' 0 hi' Nat.zero_lt_one
  refine Eq.trans (congrArg (AV.forget _) q.symm) (Eq.trans ?_ q)
  show AV.forget _ (AV.sl (G.length + 4 + i') 0 (p.N + 1)) = _
  unfold AV.forget
  rw [zq (show G.length + 4 + i' ≠ G.length + 3 by omega)]; rfl
 refine zBl ((139, .sl (G.length + 3) 0 (p.m + 1)) :: (132, .ptr G.length 0 0) :: [(1, .ptr 0 0 0), (2, .ptr 1 0 0), (3, iN p.n), (4, iN p.m), (5, .ptr G.length 0 0), (6, .ro (nsC ((List.range p.m).map p.fac)) 0 p.m), (7, iN p.a), (11, zg p.fc)]) ⟨Z, zAq (h := G.length + 3) (L := (132, .ptr G.length 0 0) :: [(1, .ptr 0 0 0), (2, .ptr 1 0 0), (3, iN p.n), (4, iN p.m), (5, .ptr G.length 0 0), (6, .ro (nsC ((List.range p.m).map p.fac)) 0 p.m), (7, iN p.a), (11, zg p.fc)]) ⟨Z, Z, Z, Z, Z, Z, Z, Z, Z, trivial⟩ (by
  intro q hq
  simp only [List.mem_cons, List.mem_nil_iff, or_false] at hq
  rcases hq with rfl | rfl | rfl | rfl | rfl | rfl | rfl | rfl | rfl <;> simp [AV.forget, zg, zq (show G.length ≠ G.length + 3 by omega), zq (show 0 ≠ G.length + 3 by omega), zq (show 1 ≠ G.length + 3 by omega)])⟩ ?_
 refine zn (zKr G (p.N + 1) (p.n + p.m) (X ++ [LC]) d β [none]) (zL2 (hFG _) (zEr G.length X.length (p.N + 1) _ (by rw [hXl]; rfl))) ?_
 refine rn7 ?_
 refine zBe Z Z Z Z zPM Z Z Nat.zero_lt_one ?_
 refine zO (zZ G none (p.N + 1) (p.n + p.m) (p.m + 1) (X ++ [LC]) d β [none]) zPO ?_
 refine zBa ?_
 have hl1 : (X ++ [LC]).length = p.m + 1 := by rw [List.length_append, hXl]; rfl
 refine zBH (zZ G none (p.N + 1) (p.n + p.m) (p.m + 1) (X ++ [LC]) d β []) [none] [(1, .ptr 0 0 0), (2, .ptr 1 0 0), (3, iN p.n), (4, iN p.m), (5, .ptr G.length 0 0), (6, .ro (nsC ((List.range p.m).map p.fac)) 0 p.m), (7, iN p.a), (11, zg p.fc)] (by rw [zAW]; rfl) ⟨Z, Z, Z, Z, Z, Z, Z, Z, trivial⟩ (fun h hh => by rw [hfix] at hh; exact hh.elim)
  (zCN hG _ (by rw [zBB]; exact Nat.le_add_right _ _) (fun o ho => by cases ho) (fun o ho => by cases ho)) (by rw [zBB, hl1]; simp [zDK, zCC, zg]; omega) ?_
 refine zAi (stH G p.N (p.n + p.m) (p.m + 1) (ph2 p K)) (by rw [hlast]) ?_
 have cr := run_ok G hG p.m p.N (p.n + p.m) (M2 p) (ph2 p K) hph.1 hph.2.1 (zFe p) L (hs.two hneg) (p.T k) (by omega) (by omega) (fun u hu => zEm hu (by omega) (zGc hp hk)) (by omega)
 obtain ⟨hti, htf, _⟩ := zHW p hp K L h0
 have hfree := fun h => zRK (K := K) (L := L) hneg h
 have hbest := fun h => zRJ (K := K) (L := L) hneg h
 obtain ⟨b1, b2⟩ := zEm hti (by omega) (zGc hp hk)
 have hcle := col_le p (zDb p K L)
 refine rn0 ?_
 refine zCH Z Z Z cr (fun _ h => h) (fun _ h => h) ?_
 rintro r' H' ⟨rfl, rfl⟩
 clear cr f1 f2 f3 hol hlast hXl hXr hXb hβl hdb hlen hl1 hph hs
 have e2 : zAZ p.m p.N (p.n + p.m) (ph2 p K) L = zDb p K L := rfl
 rw [e2]
 clear e2
 generalize zDb p K L = t at *
 have hn' := hti.n
 have htb := hti.b
 have hrow := hti.row
 have hd : t.den ≠ 0 := by have := hti.dp; omega
 have f1 := zA2 (G := G) (F := none) (L := p.N + 1) (w := p.n + p.m) (k := (p.m + 1)) (X := t.rows) (d := t.den) (β := t.basis) (T := [])
 have f2 := zCj (G := G) (F := none) (L := p.N + 1) (w := p.n + p.m) (k := (p.m + 1)) (X := t.rows) (d := t.den) (β := t.basis) (T := [])
 refine rn0 ?_
 refine zh (by kernel_rfl) ?_
 refine zCm (fuel := 4) [0, 1, 2, 3, 4, 5, 6, 7, 8, 9, 10, 11, 12, 13] [(1, .ptr 0 0 0), (2, .ptr 1 0 0), (3, iN p.n), (4, iN p.m), (5, .ptr G.length 0 0), (6, .ro (nsC ((List.range p.m).map p.fac)) 0 p.m), (7, iN p.a), (11, zg p.fc), (18, .int .i64 (resZ p.m (p.n + p.m) t))] ⟨Z, Z, Z, Z, Z, Z, Z, Z, Z, trivial⟩ (by kernel_rfl) (by decide) Z Z ?_
 refine zN Z Z (zJ Z) ?_
 refine zN Z Z (zJ Z) ?_
 refine zN Z Z (zb Z) ?_
 refine zN Z Z (zH Z Z Z Z Z Z) ?_
 refine zN Z Z (z6 Z Z Z (by assumption) (by rfl)) ?_
 refine zN Z Z (zJ Z) ?_
 refine zN Z Z (zEK Z Z f2 Z Z Z Z Z ⟨Z, by omega, by omega⟩) ?_
 refine zN Z Z (zJ Z) ?_
 refine zN Z Z (zb Z) ?_
 refine zN Z Z (zH Z Z Z Z Z Z) ?_
 refine zN Z Z (z6 Z Z Z (by assumption) (by rfl)) ?_
 refine zN Z Z (zJ Z) ?_
 refine zN Z Z (qis Z Z Z) ?_
 refine zN Z Z (zAx Z Z Z (by assumption) Z (by first | assumption | omega)) ?_
 refine z7 ?_
 refine zU 14 Z (by kernel_rfl) (by kernel_rfl) (by kernel_rfl) Z (zb Z) Z ?_
 refine zU 15 Z (by kernel_rfl) (by kernel_rfl) (by kernel_rfl) Z (zH Z Z Z Z Z Z) Z ?_
 refine zG (is := [16]) (by kernel_rfl) (by simp) Z ⟨fun o ho => ?_, trivial⟩
 all_goals (cases ho)
 refine zD 150 (.sl (G.length + 3) 0 p.m) Z (AEq.of_eq Z) ?_
 refine zBe Z Z Z Z f1 Z Z Nat.zero_lt_one ?_
 refine zO (zZ G none (p.N + 1) (p.n + p.m) p.m t.rows t.den t.basis []) (zH3 p.m (p.n + p.m) t.den) ?_
 refine rn1 ?_
 refine zU 17 Z (by kernel_rfl) (by kernel_rfl) (by kernel_rfl) Z (zl Z) Z ?_
 refine zW (by kernel_rfl) ?_
 repeat (refine zI ?_)
 refine zAB 12 (.sl (G.length + 4 + p.m) 0 (p.N + 1)) Z (AEq.of_eq Z) ?_
 clear f1 f2
 have hvl : (zBj p t).length = p.n := by unfold zBj; rw [zDk]; simp
 have hsb : ∀ i j, i < p.m + 1 → j < p.N + 1 → (zR (at2 t.rows i j).natAbs).length ≤ 400001 := fun i j hi hj => hdD _ _ (by omega) (b1 i j hi hj)
 have hdl : (zR t.den.natAbs).length ≤ 400001 := hdD _ _ (by omega) b2
 by_cases hc : zCI p.m (p.n + p.m) t < p.n + p.m
 ·rw [hfree hc] at hR
  have hw := zFe p
  have cv := zF3 G hG p.N (p.n + p.m) p.m t.rows t.den t.basis [] (fun m _ o ho => by cases ho) p.n (by omega) (by omega) (by omega) (by omega) hrow (by omega) hd (fun i hi => by have := hsb i p.N (by omega) (by omega); omega) (by omega)
  have cy := ray_ok G hG p.N (p.n + p.m) p.m t.rows t.den t.basis [] (fun m _ o ho => by cases ho) p.n (zCI p.m (p.n + p.m) t) (by omega) (by omega) (by omega) (by omega) (by omega) hrow (by omega) hd (fun i hi => by have := hsb i (zCI p.m (p.n + p.m) t) (by omega) (by omega); omega) (by omega)
  rw [htb] at cv cy
  have hrl : (zHa p t (zCI p.m (p.n + p.m) t)).length = p.n := by unfold zHa; rw [zDk]; exact zGy _ _
  refine zAB 18 (iN (zCI p.m (p.n + p.m) t)) Z (AEq.of_eq (by unfold resZ; rw [if_neg (by omega)])) ?_
  refine rn12 ?_
  refine zCH Z Z Z cv (fun _ h => h) (fun _ h => h) ?_
  rintro r' H' ⟨rfl, rfl⟩
  repeat (refine zF (zJ rfl) ?_)
  refine zCH Z Z Z cy (fun _ h => h) (fun _ h => h) ?_
  rintro r' H' ⟨rfl, rfl⟩
  repeat (refine zF (zBI rfl rfl rfl rfl rfl rfl) ?_)
  refine zw (c' := .box [.int .i64 2, .ro (qsC (zBj p t)) 0 p.n, .nil, .ro (qsC (zHa p t (zCI p.m (p.n + p.m) t))) 0 p.n, .bool false, .nil, .nil]) Z Z Z (hg1 _ _ _ _ _) Z Nat.zero_lt_one Z Z (fun i' j' hi' hj' => ?_) ?_
  ·rw [if_pos (Nat.lt_one_iff.1 hi')]; rfl
  refine rn2 ?_
  refine zL hR (zF4 Z (zPG (hg1 _ _ _ _ _)) Z Z Z) ?_
  show AV.agg _ = runA _
  unfold runA
  simp only [hvl, hrl]
  rfl
 ·rw [hbest hc] at hR
  have hce : zCI p.m (p.n + p.m) t = p.n + p.m := by omega
  refine zAB 18 (.int .i64 (-1)) Z (AEq.of_eq (by unfold resZ; rw [if_pos hce])) ?_
  have hfc : (zR ((p.fc : Nat) : Int).natAbs).length ≤ 400001 := hdD _ (k * p.n) (by have : k * p.n ≤ 100 * 30 := Nat.mul_le_mul hk40 hn; omega) (by rw [Int.natAbs_natCast]; exact fc_le hk)
  have hfp := zHp p
  have hD : t.den * (p.fc : Nat) ≠ 0 := by
   have := Int.mul_pos hti.dp (show (0 : Int) < ((p.fc : Nat) : Int) by omega)
   omega
  have hkn : k * p.n ≤ 3000 := Nat.mul_le_mul hk40 hn
  have hpr : (t.den * (p.fc : Nat)).natAbs ≤ 10 ^ (p.T k + k * p.n) := by
   rw [Int.natAbs_mul, Int.natAbs_natCast, Nat.pow_add]
   exact Nat.mul_le_mul b2 (fc_le hk)
  have hpl := hdD _ _ (by omega) hpr
  have cm := zCS t.den ((p.fc : Nat) : Int) (by omega) (by omega)
  rw [intA_nat] at cm
  have hw := zFe p
  have q3 := zCZ (G := G) (F := none) (L := p.N + 1) (w := p.n + p.m) (k := p.m) (X := t.rows) (d := t.den) (β := t.basis) (T := []) (a := p.m) (by omega)
  clear q3
  refine rn8 ?_
  refine zO (zZ G none (p.N + 1) (p.n + p.m) p.m t.rows t.den t.basis [some ⟨102, .box [.bool false, .nil]⟩]) (by rw [zAW]; rfl) ?_
  refine zD 19 (.ptr (G.length + 4 + (p.m + 1)) 0 0) Z (AEq.of_eq (by rw [zBB, hn']; rfl)) ?_
  refine zD 171 (.agg [.bool false, zg p.fc]) Z (AEq.of_eq Z) ?_
  have q0 := zAX (G := G) (F := none) (L := p.N + 1) (w := p.n + p.m) (k := p.m) (X := t.rows) (d := t.den) (β := t.basis) (T := [some ⟨102, .box [.bool false, .nil]⟩]) 0
  rw [hn', Nat.add_zero] at q0
  refine zw (c' := .box [.bool false, zg p.fc]) Z Z Z q0 Z Nat.zero_lt_one Z Z (fun i' j' hi' hj' => ?_) ?_
  ·rw [if_pos (Nat.lt_one_iff.1 hi')]; rfl
  refine zO (zZ G none (p.N + 1) (p.n + p.m) p.m t.rows t.den t.basis [some ⟨102, .box [.bool false, zg p.fc]⟩]) (by have q := zAF (G := G) (F := none) (L := p.N + 1) (w := p.n + p.m) (k := p.m) (X := t.rows) (d := t.den) (β := t.basis) (T := [some ⟨102, .box [.bool false, .nil]⟩]) 0 (some ⟨102, .box [.bool false, zg p.fc]⟩); rw [hn', Nat.add_zero] at q; exact q) ?_
  clear q0
  refine rn0 ?_
  refine zAl 20 ⟨104, qsC ((List.range 0).map (fun i => Rat.divInt (at2 t.rows p.m (p.n + i)) (t.den * (p.fc : Nat))))⟩ Z Z ?_
  refine zAi (zZ G none (p.N + 1) (p.n + p.m) p.m t.rows t.den t.basis [some ⟨102, .box [.bool false, zg p.fc]⟩, some ⟨104, qsC ((List.range 0).map (fun i => Rat.divInt (at2 t.rows p.m (p.n + i)) (t.den * (p.fc : Nat))))⟩]) (by rw [zAW]; rfl) ?_
  refine zAB 20 (.sl (G.length + 4 + (p.m + 1) + 1) 0 0) Z (AEq.of_eq (by rw [zBB, hn']; rfl)) ?_
  have hyl : ∀ i, ((List.range i).map (fun i => Rat.divInt (at2 t.rows p.m (p.n + i)) (t.den * (p.fc : Nat)))).length = i := fun i => by simp
  repeat (refine zAC ?_)
  refine ze (ι := Nat) (fun i => [(1, .ptr 0 0 0), (2, .ptr 1 0 0), (3, iN p.n), (4, iN p.m), (5, .ptr G.length 0 0), (6, .ro (nsC ((List.range p.m).map p.fac)) 0 p.m), (7, iN p.a), (11, zg p.fc), (12, .sl (G.length + 4 + p.m) 0 (p.N + 1)), (19, .ptr (G.length + 4 + (p.m + 1)) 0 0), (20, .sl (G.length + 4 + (p.m + 1) + 1) 0 i), (172, iN p.m), (173, iN i)]) (fun i => zZ G none (p.N + 1) (p.n + p.m) p.m t.rows t.den t.basis [some ⟨102, .box [.bool false, zg p.fc]⟩, some ⟨104, qsC ((List.range i).map (fun i => Rat.divInt (at2 t.rows p.m (p.n + i)) (t.den * (p.fc : Nat))))⟩]) (fun i => i ≤ p.m) (fun i => p.m - i) 0 ⟨⟨Z, Z, Z, Z, Z, Z, Z, Z, Z, Z, Z, Z, Z, trivial⟩, Z, Nat.zero_le _⟩ ?_
  intro i hi
  refine rn4 ?_
  refine zA Z (fun h => ?_) (fun h => ?_)
  ·have hi' : i < p.m := by omega
   have hys : ((List.range (i + 1)).map (fun i => Rat.divInt (at2 t.rows p.m (p.n + i)) (t.den * (p.fc : Nat)))) = ((List.range i).map (fun i => Rat.divInt (at2 t.rows p.m (p.n + i)) (t.den * (p.fc : Nat)))) ++ [Rat.divInt (at2 t.rows p.m (p.n + i)) (t.den * (p.fc : Nat))] := by rw [List.range_succ, List.map_append]; rfl
   have hyi := hyl i
   generalize ((List.range i).map (fun i => Rat.divInt (at2 t.rows p.m (p.n + i)) (t.den * (p.fc : Nat)))) = Y at *
   have q1 := zA2 (G := G) (F := none) (L := p.N + 1) (w := p.n + p.m) (k := p.m) (X := t.rows) (d := t.den) (β := t.basis) (T := [some ⟨102, .box [.bool false, zg p.fc]⟩, some ⟨104, qsC Y⟩])
   have q3 := zCZ (G := G) (F := none) (L := p.N + 1) (w := p.n + p.m) (k := p.m) (X := t.rows) (d := t.den) (β := t.basis) (T := [some ⟨102, .box [.bool false, zg p.fc]⟩, some ⟨104, qsC Y⟩]) (a := p.m) (by omega)
   have q4 := zAX (G := G) (F := none) (L := p.N + 1) (w := p.n + p.m) (k := p.m) (X := t.rows) (d := t.den) (β := t.basis) (T := [some ⟨102, .box [.bool false, zg p.fc]⟩, some ⟨104, qsC Y⟩]) 0
   have q5 := zAX (G := G) (F := none) (L := p.N + 1) (w := p.n + p.m) (k := p.m) (X := t.rows) (d := t.den) (β := t.basis) (T := [some ⟨102, .box [.bool false, zg p.fc]⟩, some ⟨104, qsC Y⟩]) 1
   rw [hn'] at q4 q5
   rw [Nat.add_zero] at q4
   have lm : (t.rows.getD p.m []).length = p.N + 1 := hrow _ (zAA [] (by omega))
   have g7 : p.n + i < (zC (t.rows.getD p.m [])).len := by show p.n + i < (t.rows.getD p.m []).length; omega
   have cfr := zHJ (at2 t.rows p.m (p.n + i)) (t.den * (p.fc : Nat)) hD (by have := hsb p.m (p.n + i) (by omega) (by omega); omega) (by omega)
   refine rn1 ?_
   refine zh (by kernel_rfl) ?_
   refine zU 0 Z (by kernel_rfl) (by kernel_rfl) (by kernel_rfl) Z (zJ Z) Z ?_
   refine zCm (fuel := 3) [1, 2, 3, 4, 5, 6, 7, 8, 9, 10, 11, 12, 13] [(1, .ptr 0 0 0), (2, .ptr 1 0 0), (3, iN p.n), (4, iN p.m), (5, .ptr G.length 0 0), (6, .ro (nsC ((List.range p.m).map p.fac)) 0 p.m), (7, iN p.a), (11, zg p.fc), (12, .sl (G.length + 4 + p.m) 0 (p.N + 1)), (19, .ptr (G.length + 4 + (p.m + 1)) 0 0), (20, .sl (G.length + 4 + (p.m + 1) + 1) 0 i), (172, iN p.m), (173, iN i), (21, iN i), (176, .sl (G.length + 4 + (p.m + 1) + 1) 0 i)] ⟨Z, Z, Z, Z, Z, Z, Z, Z, Z, Z, Z, Z, Z, Z, Z, trivial⟩ (by kernel_rfl) (by decide) Z Z ?_
   refine zN Z Z (zJ Z) ?_
   refine zN Z Z (zJ Z) ?_
   refine zN Z Z (zJ Z) ?_
   refine zN Z Z (zCF Z Z (by omega)) ?_
   refine zN Z Z (zCq (ix := p.n + i) Z Z Z q3 Z (by show 0 + ((p.n : Nat) + (i : Nat) : Int).toNat = p.n + i; omega) (by omega)) ?_
   refine zN Z Z (qas Z Z Z Z) ?_
   refine zN Z Z (zJ Z) ?_
   refine zN Z Z (zb Z) ?_
   refine zN Z Z (zH Z Z Z Z Z Z) ?_
   refine zN Z Z (qps Z Z Z Z) ?_
   refine zN Z Z (qas Z Z Z Z) ?_
   refine zA5 Z Z Z Z Z cm ?_
   refine zA5 Z Z Z Z Z cfr ?_
   refine z7 ?_
   unfold qA
   refine zG (is := [14]) (by kernel_rfl) (by simp) Z ⟨fun o ho => ?_, trivial⟩
   all_goals (cases ho)
   refine rn3 ?_
   refine zG (is := [15]) (by kernel_rfl) (by simp) Z ⟨fun o ho => ?_, trivial⟩
   all_goals (cases ho)
   refine zo Z Z Z Z Z Z Z q5 Z hyi Z Z (by show 0 + 1 ≤ 1; omega) Z (by show (i + 1) * 56 ≤ _ ∧ _; omega) ?_ (by rw [hfix]; exact fun h => h) ?_
   ·intro i' j' hi' hj'
    exact zAJ 0 3 zS zAg Y _ _ (zCe _) _ i' j' hi' hj'
   refine zBl ((191, .sl (G.length + 4 + (p.m + 1) + 1) 0 (i + 1)) :: [(1, .ptr 0 0 0), (2, .ptr 1 0 0), (3, iN p.n), (4, iN p.m), (5, .ptr G.length 0 0), (6, .ro (nsC ((List.range p.m).map p.fac)) 0 p.m), (7, iN p.a), (11, zg p.fc), (12, .sl (G.length + 4 + p.m) 0 (p.N + 1)), (19, .ptr (G.length + 4 + (p.m + 1)) 0 0), (172, iN p.m), (173, iN i)]) ⟨Z, zAq (h := G.length + 4 + (p.m + 1) + 1) (L := [(1, .ptr 0 0 0), (2, .ptr 1 0 0), (3, iN p.n), (4, iN p.m), (5, .ptr G.length 0 0), (6, .ro (nsC ((List.range p.m).map p.fac)) 0 p.m), (7, iN p.a), (11, zg p.fc), (12, .sl (G.length + 4 + p.m) 0 (p.N + 1)), (19, .ptr (G.length + 4 + (p.m + 1)) 0 0), (172, iN p.m), (173, iN i)]) ⟨Z, Z, Z, Z, Z, Z, Z, Z, Z, Z, Z, Z, trivial⟩ (by
   intro q hq
   simp only [List.mem_cons, List.mem_nil_iff, or_false] at hq
   rcases hq with rfl | rfl | rfl | rfl | rfl | rfl | rfl | rfl | rfl | rfl | rfl | rfl <;> simp [AV.forget, zg, zq (show G.length ≠ G.length + 4 + (p.m + 1) + 1 by omega), zq (show 0 ≠ G.length + 4 + (p.m + 1) + 1 by omega), zq (show 1 ≠ G.length + 4 + (p.m + 1) + 1 by omega), zq (show G.length + 4 + p.m ≠ G.length + 4 + (p.m + 1) + 1 by omega), zq (show G.length + 4 + (p.m + 1) ≠ G.length + 4 + (p.m + 1) + 1 by omega)])⟩ ?_
   refine zn (zZ G none (p.N + 1) (p.n + p.m) p.m t.rows t.den t.basis [some ⟨102, .box [.bool false, zg p.fc]⟩, some ⟨104, qsC ((List.range (i + 1)).map (fun i => Rat.divInt (at2 t.rows p.m (p.n + i)) (t.den * (p.fc : Nat))))⟩]) (by
    rw [hys]
    have e : zZ G none (p.N + 1) (p.n + p.m) p.m t.rows t.den t.basis [some ⟨102, .box [.bool false, zg p.fc]⟩, some ⟨104, qsC (Y ++ [Rat.divInt (at2 t.rows p.m (p.n + i)) (t.den * (p.fc : Nat))])⟩] = (zZ G none (p.N + 1) (p.n + p.m) p.m t.rows t.den t.basis [some ⟨102, .box [.bool false, zg p.fc]⟩, none]).set (G.length + 4 + (p.m + 1) + 1) (some ⟨104, qsC (Y ++ [Rat.divInt (at2 t.rows p.m (p.n + i)) (t.den * (p.fc : Nat))])⟩) := by
     have q := zAF (G := G) (F := none) (L := p.N + 1) (w := p.n + p.m) (k := p.m) (X := t.rows) (d := t.den) (β := t.basis) (T := [some ⟨102, .box [.bool false, zg p.fc]⟩, none]) 1 (some ⟨104, qsC (Y ++ [Rat.divInt (at2 t.rows p.m (p.n + i)) (t.den * (p.fc : Nat))])⟩)
     rw [hn'] at q
     exact q.symm
    rw [e]
    exact zP.set (zJM (T := [some ⟨102, .box [.bool false, zg p.fc]⟩, some ⟨104, qsC Y⟩]) (T' := [some ⟨102, .box [.bool false, zg p.fc]⟩, none]) _ (hFG _) (by omega) (zP.same (zP.drop zP.nil))) _ (fun o ho => by cases ho; exact ⟨_, rfl, rfl, zAV 0 3 zS Y _ _ (zCe (Rat.divInt (at2 t.rows p.m (p.n + i)) (t.den * (p.fc : Nat))))⟩)) ?_
   refine rn1 ?_
   refine zU 16 Z (by kernel_rfl) (by kernel_rfl) (by kernel_rfl) Z (zl Z) Z ?_
   refine zW (by kernel_rfl) ?_
   refine rn5 ?_
   exact zK ⟨i + 1, by omega, by omega, ⟨Z, Z, Z, Z, Z, Z, Z, Z, Z, Z, Z, Z, Z, trivial⟩, Z⟩
  have hie : i = p.m := by omega
  rw [hie]
  clear hi h hie
  clear i
  obtain ⟨KK, hKK⟩ : ∃ KK, KK = 102300 := ⟨_, rfl⟩
  have cu := zK1 ((List.range p.m).map (fun i => Rat.divInt (at2 t.rows p.m (p.n + i)) (t.den * (p.fc : Nat)))) ((List.range p.m).map p.fac) KK (by simp) (by simp; omega) (fun q hq => by
   obtain ⟨i, hi, rfl⟩ := List.mem_map.1 hq
   have hi : i < p.m := by simpa using hi
   exact (zEO hD (zCt (Nat.le_trans (b1 p.m (p.n + i) (by omega) (by omega)) (Nat.pow_le_pow_right (by decide) (Nat.le_add_right _ (k * p.n))))) (zCt hpr)).mono (by omega)) (fun q hq => by
   obtain ⟨i, hi, rfl⟩ := List.mem_map.1 hq
   have hi : i < p.m := by simpa using hi
   refine Nat.lt_of_lt_of_le (zCt (zOk hp hk hi)) (Nat.pow_le_pow_right (by decide) ?_)
   have : k * (p.n + 1) ≤ 100 * 31 := Nat.mul_le_mul hk40 (by omega)
   omega) (by omega)
  rw [hyl p.m, hfl] at cu
  have hy : zJO ((List.range p.m).map (fun i => Rat.divInt (at2 t.rows p.m (p.n + i)) (t.den * (p.fc : Nat)))) ((List.range p.m).map p.fac) p.m = yL p t (t.den * (p.fc : Nat)) := (yL_as p t (t.den * (p.fc : Nat))).symm
  rw [hy] at cu
  have hyl2 : (yL p t (t.den * (p.fc : Nat))).length = p.m := by simp [yL]
  have hym := hyl p.m
  generalize ((List.range p.m).map (fun i => Rat.divInt (at2 t.rows p.m (p.n + i)) (t.den * (p.fc : Nat)))) = Y at *
  have q5 := zAX (G := G) (F := none) (L := p.N + 1) (w := p.n + p.m) (k := p.m) (X := t.rows) (d := t.den) (β := t.basis) (T := [some ⟨102, .box [.bool false, zg p.fc]⟩, some ⟨104, qsC Y⟩]) 1
  rw [hn'] at q5
  refine zBa ?_
  refine zAf (G.length + 4 + (p.m + 1) + 1) 20 p.m [(1, .ptr 0 0 0), (2, .ptr 1 0 0), (3, iN p.n), (4, iN p.m), (5, .ptr G.length 0 0), (6, .ro (nsC ((List.range p.m).map p.fac)) 0 p.m), (7, iN p.a), (11, zg p.fc), (12, .sl (G.length + 4 + p.m) 0 (p.N + 1)), (19, .ptr (G.length + 4 + (p.m + 1)) 0 0)] q5 (zAv _) Z (by show p.m ≤ Y.length; omega) ⟨Z, Z, Z, Z, Z, Z, Z, Z, Z, Z, trivial⟩ ?_
  refine zAi (zZ G none (p.N + 1) (p.n + p.m) p.m t.rows t.den t.basis [some ⟨102, .box [.bool false, zg p.fc]⟩, none]) (by have q := zAF (G := G) (F := none) (L := p.N + 1) (w := p.n + p.m) (k := p.m) (X := t.rows) (d := t.den) (β := t.basis) (T := [some ⟨102, .box [.bool false, zg p.fc]⟩, some ⟨104, qsC Y⟩]) 1 none; rw [hn'] at q; exact q) ?_
  clear q5
  have q1 := zA2 (G := G) (F := none) (L := p.N + 1) (w := p.n + p.m) (k := p.m) (X := t.rows) (d := t.den) (β := t.basis) (T := [some ⟨102, .box [.bool false, zg p.fc]⟩, none])
  have q3 := zCZ (G := G) (F := none) (L := p.N + 1) (w := p.n + p.m) (k := p.m) (X := t.rows) (d := t.den) (β := t.basis) (T := [some ⟨102, .box [.bool false, zg p.fc]⟩, none]) (a := p.m) (by omega)
  have q4 := zAX (G := G) (F := none) (L := p.N + 1) (w := p.n + p.m) (k := p.m) (X := t.rows) (d := t.den) (β := t.basis) (T := [some ⟨102, .box [.bool false, zg p.fc]⟩, none]) 0
  rw [hn', Nat.add_zero] at q4
  have lm : (t.rows.getD p.m []).length = p.N + 1 := hrow _ (zAA [] (by omega))
  have g7 : p.N < (zC (t.rows.getD p.m [])).len := by show p.N < (t.rows.getD p.m []).length; omega
  have cfr := zHJ (at2 t.rows p.m p.N) (t.den * (p.fc : Nat)) hD (by have := hsb p.m p.N (by omega) (by omega); omega) (by omega)
  have cv := zF3 G hG p.N (p.n + p.m) p.m t.rows t.den t.basis [some ⟨102, .box [.bool false, zg p.fc]⟩, none] (fun m _ o ho => by
   simp only [List.mem_cons, List.mem_nil_iff, or_false] at ho
   rcases ho with e | e
   ·cases e
    intro i' j' hi' hj'
    match j', (show j' < 2 from hj') with
    | 0, _ => rfl
    | 1, _ => rfl
   ·cases e) p.n (by omega) (by omega) (by omega) (by omega) hrow (by omega) hd (fun i hi => by have := hsb i p.N (by omega) (by omega); omega) (by omega)
  rw [htb] at cv
  repeat (refine zx ?_)
  refine zh (by kernel_rfl) ?_
  refine zp (fuel := 1) [0, 1, 2, 3, 4, 5, 6, 7, 8, 9, 10, 11, 12, 13, 14, 15, 16, 17, 18, 19] ((20, .ro (qsC Y) 0 p.m) :: [(1, .ptr 0 0 0), (2, .ptr 1 0 0), (3, iN p.n), (4, iN p.m), (5, .ptr G.length 0 0), (6, .ro (nsC ((List.range p.m).map p.fac)) 0 p.m), (7, iN p.a), (11, zg p.fc), (12, .sl (G.length + 4 + p.m) 0 (p.N + 1)), (19, .ptr (G.length + 4 + (p.m + 1)) 0 0)]) ⟨Z, Z, Z, Z, Z, Z, Z, Z, Z, Z, Z, trivial⟩ (by kernel_rfl) (by decide) Z Z ?_
  refine zN Z Z (zJ Z) ?_
  refine zN Z Z (zJ Z) ?_
  refine px_c Z Z Z Z Z cv ?_
  refine zN Z Z (zJ Z) ?_
  refine zN Z Z (zJ Z) ?_
  refine zA5 Z Z Z Z Z cu ?_
  refine zN Z Z (zJ Z) ?_
  refine zN Z Z (zJ Z) ?_
  refine zN Z Z (zBr Z Z Z) ?_
  refine zN Z Z (zE7 Z Z (by omega)) ?_
  refine zN Z Z (zCq (ix := p.N) Z Z Z q3 Z (by show 0 + (((p.N + 1 : Nat) : Int) - 1).toNat = p.N; omega) (by omega)) ?_
  refine zN Z Z (qas Z Z Z Z) ?_
  refine zN Z Z (zJ Z) ?_
  refine zN Z Z (zb Z) ?_
  refine zN Z Z (zH Z Z Z Z Z Z) ?_
  refine zN Z Z (qps Z Z Z Z) ?_
  refine zN Z Z (qas Z Z Z Z) ?_
  refine zA5 Z Z Z Z Z cm ?_
  refine zA5 Z Z Z Z Z cfr ?_
  unfold qA
  refine zN Z Z (zBI Z Z Z Z Z Z) ?_
  refine z7 ?_
  refine zG (is := [20]) (by kernel_rfl) (by simp) Z ⟨fun o ho => ?_, trivial⟩
  all_goals (cases ho)
  refine zw (c' := .box ([.int .i64 0, .ro (qsC (zBj p t)) 0 p.n, .ro (qsC (yL p t (t.den * (p.fc : Nat)))) 0 p.m, .nil] ++ zS (Rat.divInt (at2 t.rows p.m p.N) (t.den * (p.fc : Nat))))) Z Z Z (hg1 _ _ _ _ _) Z Nat.zero_lt_one Z Z (fun i' j' hi' hj' => ?_) ?_
  ·rw [if_pos (Nat.lt_one_iff.1 hi')]; rfl
  refine rn1 ?_
  refine zW (by kernel_rfl) ?_
  refine rn0 ?_
  refine zL hR (zF4 Z (zPG (hg1 _ _ _ _ _)) Z Z Z) ?_
  show AV.agg _ = runA _
  unfold runA
  simp only [hvl, hyl2]
  rfl
end Go.Proofs.YtkncmbklkhjmgaaGreatDoor
namespace Go.Proofs.YtkncmbklkhjmgaaGreatDoor
open Go.Ax Go.Ax.Bg Go.Ax.Rt Go.RowKit Go.Ax.Dt Go.Ax.Sx Go.Ax.Mg
attribute [local irreducible] Ax zBk QOp zT zBR
abbrev oQ (q : Rat) : Option AObj := some ⟨104, .box (zS q)⟩
abbrev oZ : Option AObj := some ⟨104, .box [.bool false, .nil, .nil]⟩
/-- the memory of matgame.Game -/
abbrev gmH (x y : Rat) (a b k : Nat) (A : List (List Rat)) (B C : List Rat) (L : zM) : zM := oZ :: oQ x :: oQ y :: some ⟨193, .box [.sl 4 0 a, .sl 5 0 b, .sl 6 0 k]⟩ :: some ⟨105, zY A⟩ :: some ⟨104, qsC B⟩ :: some ⟨104, qsC C⟩ :: L
theorem zCb (n : Nat) (q : Rat) : zA7 n (.box (zS q)) := by
 intro i j _ hj
 have hj : j < 3 := hj
 match j, hj with
 | 0, _ => rfl
 | 1, _ => rfl
 | 2, _ => rfl
theorem zEx (n : Nat) : zA7 n (.box [.bool false, .nil, .nil]) := by
 intro i j _ hj
 have hj : j < 3 := hj
 match j, hj with
 | 0, _ => rfl
 | 1, _ => rfl
 | 2, _ => rfl
theorem zLZ {n : Nat} {o1 o2 : AObj} (h1 : zA7 n o1.c) (h2 : zA7 n o2.c) : ∀ (h : Nat) (o : AObj), ([some o1, some o2] : zM)[h]? = some (some o) → zA7 n o.c := by
 intro h o ho
 match h, ho with
 | 0, ho => cases ho; exact h1
 | 1, ho => cases ho; exact h2
 | _ + 2, ho => simp at ho
theorem gm_b4 {x y : Rat} {A : List (List Rat)} {B C : List Rat} {a b : Nat} : ∀ (h : Nat) (o : AObj), ([oZ, oQ x, oQ y, some ⟨193, .box [.ro (zY A) 0 a, .ro (qsC B) 0 a, .ro (qsC C) 0 b]⟩] : zM)[h]? = some (some o) → zA7 4 o.c := by
 intro h o ho
 match h, ho with
 | 0, ho =>
  cases ho
  exact zEx _
 | 1, ho =>
  cases ho
  exact zCb _ _
 | 2, ho =>
  cases ho
  exact zCb _ _
 | 3, ho =>
  cases ho
  intro i j _ hj
  have hj : j < 3 := hj
  match j, hj with
  | 0, _ => rfl
  | 1, _ => rfl
  | 2, _ => rfl
 | _ + 4, ho => simp at ho
theorem gm_b5 {x y : Rat} {A : List (List Rat)} {B C X Y : List Rat} {a b : Nat} {V : Rat} : ∀ (h : Nat) (o : AObj), ([oZ, oQ x, oQ y, some ⟨193, .box [.ro (zY A) 0 a, .ro (qsC B) 0 a, .ro (qsC C) 0 b]⟩, some ⟨190, .box ([.int .i64 0, .ro (qsC X) 0 b, .ro (qsC Y) 0 a, .nil] ++ zS V)⟩] : zM)[h]? = some (some o) → zA7 5 o.c := by
 intro h o ho
 match h, ho with
 | 0, ho =>
  cases ho
  exact zEx _
 | 1, ho =>
  cases ho
  exact zCb _ _
 | 2, ho =>
  cases ho
  exact zCb _ _
 | 3, ho =>
  cases ho
  intro i j _ hj
  have hj : j < 3 := hj
  match j, hj with
  | 0, _ => rfl
  | 1, _ => rfl
  | 2, _ => rfl
 | 4, ho =>
  cases ho
  intro i j _ hj
  have hj : j < 7 := hj
  match j, hj with
  | 0, _ => rfl
  | 1, _ => rfl
  | 2, _ => rfl
  | 3, _ => rfl
  | 4, _ => rfl
  | 5, _ => rfl
  | 6, _ => rfl
 | _ + 5, ho => simp at ho
theorem gm_b6 {x y : Rat} {A : List (List Rat)} {B C X Y l : List Rat} {a b : Nat} {V : Rat} : ∀ (h : Nat) (o : AObj), ([oZ, oQ x, oQ y, some ⟨193, .box [.ro (zY A) 0 a, .ro (qsC B) 0 a, .ro (qsC C) 0 b]⟩, some ⟨190, .box ([.int .i64 0, .ro (qsC X) 0 b, .ro (qsC Y) 0 a, .nil] ++ zS V)⟩, some ⟨104, qsC l⟩] : zM)[h]? = some (some o) → zA7 6 o.c := by
 intro h o ho
 match h, ho with
 | 0, ho =>
  cases ho
  exact zEx _
 | 1, ho =>
  cases ho
  exact zCb _ _
 | 2, ho =>
  cases ho
  exact zCb _ _
 | 3, ho =>
  cases ho
  intro i j _ hj
  have hj : j < 3 := hj
  match j, hj with
  | 0, _ => rfl
  | 1, _ => rfl
  | 2, _ => rfl
 | 4, ho =>
  cases ho
  intro i j _ hj
  have hj : j < 7 := hj
  match j, hj with
  | 0, _ => rfl
  | 1, _ => rfl
  | 2, _ => rfl
  | 3, _ => rfl
  | 4, _ => rfl
  | 5, _ => rfl
  | 6, _ => rfl
 | 5, ho =>
  cases ho
  exact zCz _ _
 | _ + 6, ho => simp at ho
theorem zDW (h : Nat) (a : List Rat) : CEq ((qsC a).forget h) (qsC a) := by
 have e : (qsC a).forget h = qsC a := by
  show Cells.fn _ _ _ = Cells.fn _ _ _
  congr 1
  funext i j
  match j with
  | 0 => rfl
  | 1 => rfl
  | 2 => rfl
  | _ + 3 => rfl
 rw [e]; exact CEq.refl _
theorem zMP (h : Nat) (a : List (List Rat)) : CEq ((zY a).forget h) (zY a) := by
 have e : (zY a).forget h = zY a := by
  show Cells.fn _ _ _ = Cells.fn _ _ _
  congr 1
  funext i j
  match j with
  | 0 => rfl
  | _ + 1 => rfl
 rw [e]; exact CEq.refl _
theorem gm_below (x y : Rat) (a b k : Nat) (A : List (List Rat)) (B C : List Rat) : ∀ (h : Nat) (o : AObj), (gmH x y a b k A B C [])[h]? = some (some o) → zA7 7 o.c := by
 intro h o ho
 match h, ho with
 | 0, ho => cases ho; exact zEx _
 | 1, ho => cases ho; exact zCb _ _
 | 2, ho => cases ho; exact zCb _ _
 | 3, ho =>
  cases ho
  intro i j _ hj
  have hj : j < 3 := hj
  match j, hj with
  | 0, _ => rfl
  | 1, _ => rfl
  | 2, _ => rfl
 | 4, ho =>
  cases ho
  intro i j _ hj
  have hj : j < 1 := hj
  match j, hj with
  | 0, _ => rfl
 | 5, ho => cases ho; exact zCz _ _
 | 6, ho => cases ho; exact zCz _ _
 | _ + 7, ho => simp at ho
theorem zQq (x y : Rat) (a b k : Nat) (A : List (List Rat)) (B C l : List Rat) : ∀ (h : Nat) (o : AObj), (gmH x y a b k A B C [some ⟨104, qsC l⟩])[h]? = some (some o) → zA7 8 o.c := by
 intro h o ho
 match h, ho with
 | 0, ho => cases ho; exact zEx _
 | 1, ho => cases ho; exact zCb _ _
 | 2, ho => cases ho; exact zCb _ _
 | 3, ho =>
  cases ho
  intro i j _ hj
  have hj : j < 3 := hj
  match j, hj with
  | 0, _ => rfl
  | 1, _ => rfl
  | 2, _ => rfl
 | 4, ho =>
  cases ho
  intro i j _ hj
  have hj : j < 1 := hj
  match j, hj with
  | 0, _ => rfl
 | 5, ho => cases ho; exact zCz _ _
 | 6, ho => cases ho; exact zCz _ _
 | 7, ho => cases ho; exact zCz _ _
 | _ + 8, ho => simp at ho
theorem gameq_ok (M : List (List Rat)) (w k K L : Nat) (hw : 0 < w) (hw12 : w ≤ 12) (hm : 0 < M.length) (hm12 : M.length ≤ 12) (hM : ∀ r ∈ M, r.length = w) (hD : ∀ r ∈ M, ∀ q ∈ r, D k q) (hk : k ≤ 48) (hs : Stops (zAS M w) K L) :
 zV Tryz.prog 61 [.ro (zY M) 0 M.length] (.tup [qA (zAm M w K L).1, .ro (qsC (zAm M w K L).2.1) 0 M.length, .ro (qsC (zAm M w K L).2.2) 0 w]) := by
 have hel : ∀ i j, i < M.length → j < w → Sz 100000 ((M.getD i []).getD j 0) := fun i j hi hj => by
  have hr := zAL [] hi
  exact zFF ((hD _ hr _ (zAA 0 (by rw [hM _ hr]; exact hj))).mono (by omega))
 have hrow : ∀ i, i < M.length → (M.getD i []).length = w := fun i hi => hM _ (zAL [] hi)
 have hq0 : D k ((M.getD 0 []).getD 0 0) := hD _ (zAA [] hm) _ (zAA 0 (by rw [hM _ (zAA [] hm)]; exact hw))
 have hF : ∀ i, D k ((M.take i).foldl zAu ((M.getD 0 []).getD 0 0)) := fun i => zHO (P := fun q => D k q) (M.take i) _ hq0 (fun r hr => hD r (List.mem_of_mem_take hr))
 have hFj : ∀ i j, i < M.length → Sz 100000 (zAu ((M.take i).foldl zAu ((M.getD 0 []).getD 0 0)) ((M.getD i []).take j)) := fun i j hi =>
  zFF ((zJC (P := fun q => D k q) _ _ (hF i) (fun q hq => hD _ (zAL [] hi) q (List.mem_of_mem_take hq))).mono (by omega))
 have hFsn : ∀ i, i < M.length → (M.take (i + 1)).foldl zAu ((M.getD 0 []).getD 0 0) = zAu ((M.take i).foldl zAu ((M.getD 0 []).getD 0 0)) ((M.getD i []).take w) := fun i hi => by
  rw [zNP _ M hi, List.take_of_length_le (l := M.getD i []) (by rw [hrow i hi]; exact Nat.le_refl w)]
 have hend : (M.take M.length).foldl zAu ((M.getD 0 []).getD 0 0) = zGD M := by rw [List.take_length]; rfl
 have hLs : Sz 100000 (zGD M) := zFF ((zPu hw hm hM hD).mono (by omega))
 have hAs : Sz 100000 (zDn M) := zFF ((addM_D hw hm hM hD).mono (by omega))
 have s1 : zV Tryz.prog 147 [qA 1, qA (zGD M)] (qA (zDn M)) := zP9 1 (zGD M) (zFF ((zHe 0).mono (by omega))) hLs
 have hadd : ∀ i j, i < M.length → j < w → zV Tryz.prog 148 [qA ((M.getD i []).getD j 0), qA (zDn M)] (qA ((M.getD i []).getD j 0 + zDn M)) := fun i j hi hj => zJu _ _ (hel i j hi hj) hAs
 have R := ran hw hw12 hm hm12 hM hD hk hs
 have hcR := Run_ok (zAS M w) (2 * k + 3) K L (zFq hM) (zLW hw hm hM hD) (by rw [zIV]; omega) (by rw [zIW]; omega) (by omega) hs
 obtain ⟨r, hr⟩ : ∃ r, r = zDa (zAS M w) K L := ⟨_, rfl⟩
 have eQ : zAm M w K L = (1 / r.V - zDn M, zFV r.V r.Y, zFV r.V r.X) := by rw [hr]; rfl
 have hA0 : (zAS M w).A = M.map (zFD (zDn M)) := rfl
 have hB0 : (zAS M w).B = List.replicate M.length 1 := rfl
 have hC0 : (zAS M w).C = List.replicate w 1 := rfl
 obtain ⟨rk, rp, rx, ry, rxd, ryd, rvd⟩ := R
 rw [← hr] at hcR rk rp rx ry rxd ryd rvd
 rw [hA0, hB0, hC0, List.length_map, List.length_replicate, List.length_replicate] at hcR
 have eA : runA r = .agg ([.int .i64 0, .ro (qsC r.X) 0 w, .ro (qsC r.Y) 0 M.length, .nil] ++ zS r.V) := by
  unfold runA
  rw [rk, if_neg (by decide), if_neg (by decide), if_neg (by decide), if_pos rfl, rx, ry]
  rfl
 rw [eA] at hcR
 have hVs : Sz 100000 r.V := zFF (rvd.mono (by omega))
 have dX : ∀ j, j < w → zV Tryz.prog 149 [qA (r.X.getD j 0), qA r.V] (qA (r.X.getD j 0 / r.V)) := fun j hj => zMf _ _ (zFF ((rxd _ (zAA 0 (by omega))).mono (by omega))) hVs rp
 have dY : ∀ j, j < M.length → zV Tryz.prog 149 [qA (r.Y.getD j 0), qA r.V] (qA (r.Y.getD j 0 / r.V)) := fun j hj => zMf _ _ (zFF ((ryd _ (zAA 0 (by omega))).mono (by omega))) hVs rp
 have d1 := zMf 1 r.V (zFF ((zHe 0).mono (by omega))) hVs rp
 have s2 := zP9 (1 / r.V) (zDn M) (zFF (((zHe 0).div rvd rp).mono (by omega))) hAs
 rw [eQ]
 clear hr eQ hA0 hB0 hC0 eA rk hs hD hM rxd ryd rvd hq0 hF
 refine zT.value0 (zE (P := Tryz.prog) (fn := Tryz.f61) Z Z (by kernel_rfl) Z (fun c hR hfix => ?_)) (fix := fun _ => False) (fun _ h => h) Z Z
 have hr0 := hrow 0 hm
 have hr1 : 0 < (M.getD 0 []).length := by omega
 refine rn6 ?_
 refine zD 26 (.agg (zS ((M.getD 0 []).getD 0 0))) Z (AEq.of_eq Z) ?_
 generalize hg0 : (M.getD 0 []).getD 0 0 = q0 at *
 refine sa1 (c' := .box (zS q0)) Z Z Z Z Z Z Z ?_
 refine rn3 ?_
 generalize hn : M.length = n at *
 refine ze (ι := Nat) (fun i => [(0, .ro (zY M) 0 n), (2, .ptr 0 0 0), (3, .nil), (4, .nil), (5, .ptr 1 0 0), (27, .ro (zY M) 0 n), (28, iN n), (29, iN i)]) (fun i => [oZ, oQ ((M.take i).foldl zAu q0)])
  (fun i => i ≤ n) (fun i => n - i) 0 ⟨⟨rfl, rfl, rfl, rfl, rfl, rfl, rfl, rfl, trivial⟩, rfl, Nat.zero_le _⟩ ?_
 intro i hi
 refine rn4 ?_
 refine zA Z (fun h => ?_) (fun h => ?_)
 ·have hi' : i < n := by omega
  have hrl := hrow i hi'
  have hfs := hFsn i hi'
  have hfj := fun j => hFj i j hi'
  have helj := fun j => hel i j hi'
  generalize hF2 : (M.take (i + 1)).foldl zAu q0 = F2 at *
  generalize hF0 : (M.take i).foldl zAu q0 = F at *
  refine rn6 ?_
  refine zAB 7 (.ro (qsC (M.getD i [])) 0 w) Z (AEq.of_eq (by show AV.ro (qsC (M.getD i [])) 0 (M.getD i []).length = _; rw [hrl])) ?_
  refine zAB 33 (.ro (qsC (M.getD i [])) 0 w) Z (AEq.of_eq (by show AV.ro (qsC (M.getD i [])) 0 (M.getD i []).length = _; rw [hrl])) ?_
  refine zAB 34 (iN w) Z (AEq.of_eq (by rw [hrl])) ?_
  skip
  refine ze (ι := Nat) (fun j => [(0, .ro (zY M) 0 n), (2, .ptr 0 0 0), (3, .nil), (4, .nil), (5, .ptr 1 0 0), (27, .ro (zY M) 0 n), (28, iN n), (29, iN i), (33, .ro (qsC (M.getD i [])) 0 w), (34, iN w), (35, iN j)]) (fun j => [oZ, oQ (zAu F ((M.getD i []).take j))])
   (fun j => j ≤ w) (fun j => w - j) 0 ⟨⟨rfl, rfl, rfl, rfl, rfl, rfl, rfl, rfl, rfl, rfl, rfl, trivial⟩, rfl, Nat.zero_le _⟩ ?_
  intro j hj
  refine rn4 ?_
  refine zA Z (fun h => ?_) (fun h => ?_)
  ·have hj' : j < w := by omega
   have hls := zNQ F (M.getD i []) (show j < (M.getD i []).length by omega)
   have cq := zGM ((M.getD i []).getD j 0) (zAu F ((M.getD i []).take j)) (helj j hj') (hfj j)
   generalize hG2 : zAu F ((M.getD i []).take (j + 1)) = G2 at *
   generalize zAu F ((M.getD i []).take j) = G at *
   refine rn6 ?_
   refine zD 38 (.agg (zS ((M.getD i []).getD j 0))) Z (AEq.of_eq Z) ?_
   generalize hqj : (M.getD i []).getD j 0 = q at *
   refine sa1 (c' := .box (zS q)) Z Z Z Z Z Z Z ?_
   refine rn6 ?_
   refine zB Z Z Z cq ?_
   refine rn4 ?_
   refine zA Z (fun h4 => ?_) (fun h4 => ?_)
   ·rw [if_pos h4] at hls
    subst hls
    refine rn6 ?_
    refine sa1 (c' := .box (zS G2)) Z Z Z Z Z Z Z ?_
    refine zDp ?_
    refine zI ?_
    refine zBH [oZ, oQ G2] [oQ G2] [(0, .ro (zY M) 0 n), (2, .ptr 0 0 0), (3, .nil), (4, .nil), (5, .ptr 1 0 0), (27, .ro (zY M) 0 n), (28, iN n), (29, iN i), (33, .ro (qsC (M.getD i [])) 0 w), (34, iN w), (35, iN j)] Z ⟨Z, Z, Z, Z, Z, Z, Z, Z, Z, Z, Z, trivial⟩ (fun h hh => by rw [hfix] at hh; exact absurd hh id) (zLZ (zEx _) (zCb _ _)) Z ?_
    refine rn3 ?_
    exact zK ⟨j + 1, by omega, by omega, ⟨Z, Z, Z, Z, Z, Z, Z, Z, Z, Z, Z, trivial⟩, by rw [hG2]⟩
   ·rw [if_neg h4] at hls
    subst hls
    refine zDp ?_
    refine zI ?_
    refine zBH [oZ, oQ G2] [oQ q] [(0, .ro (zY M) 0 n), (2, .ptr 0 0 0), (3, .nil), (4, .nil), (5, .ptr 1 0 0), (27, .ro (zY M) 0 n), (28, iN n), (29, iN i), (33, .ro (qsC (M.getD i [])) 0 w), (34, iN w), (35, iN j)] Z ⟨Z, Z, Z, Z, Z, Z, Z, Z, Z, Z, Z, trivial⟩ (fun h hh => by rw [hfix] at hh; exact absurd hh id) (zLZ (zEx _) (zCb _ _)) Z ?_
    refine rn3 ?_
    exact zK ⟨j + 1, by omega, by omega, ⟨Z, Z, Z, Z, Z, Z, Z, Z, Z, Z, Z, trivial⟩, by rw [hG2]⟩
  ·have hje : j = w := by omega
   subst hje
   rw [← hfs]
   refine rn5 ?_
   exact zK ⟨i + 1, by omega, by omega, ⟨Z, Z, Z, Z, Z, Z, Z, Z, trivial⟩, by rw [hF2]⟩
 have hie : i = n := by omega
 subst hie
 rw [hend]
 generalize zGD M = LM at *
 generalize hAA : zDn M = AA at *
 refine rn5 ?_
 refine zh (by kernel_rfl) ?_
 apply zDQ (H := [oZ, oQ LM, oZ]) [(0, .ro (zY M) 0 i), (2, .ptr 0 0 0), (3, .nil), (4, .nil), (10, .ptr 2 0 0), (48, qA AA)]
 ·intro fin
  refine zG (is := [0, 1, 3]) (by kernel_rfl) (by simp) Z ⟨fun o ho => ?_, fun o ho => ?_, fun o ho => ?_, trivial⟩
  all_goals (cases ho)
  ·refine zB Z Z Z zCL ?_
   refine rn1 ?_
   refine zG (is := [1, 3]) (by kernel_rfl) (by simp) Z ⟨fun o ho => ?_, fun o ho => ?_, trivial⟩
   all_goals (cases ho)
   ·refine rn6 ?_
    refine zG (is := [2, 3]) (by kernel_rfl) (by simp) Z ⟨fun o ho => ?_, fun o ho => ?_, trivial⟩
    all_goals (cases ho)
    ·refine zB Z Z Z s1 ?_
     refine rn1 ?_
     refine zG (is := [3]) (by kernel_rfl) (by simp) Z ⟨fun o ho => ?_, trivial⟩
     all_goals (cases ho)
     refine rn4 ?_
     exact fin _ ⟨Z, Z, Z, Z, Z, Z, trivial⟩
    ·refine rn4 ?_
     refine zG (is := [2]) (by kernel_rfl) (by simp) Z ⟨fun o ho => ?_, trivial⟩
     all_goals (cases ho)
     refine zB Z Z Z s1 ?_
     refine rn1 ?_
     exact fin _ ⟨Z, Z, Z, Z, Z, Z, trivial⟩
   ·refine rn4 ?_
    refine zG (is := [1]) (by kernel_rfl) (by simp) Z ⟨fun o ho => ?_, trivial⟩
    all_goals (cases ho)
    refine rn6 ?_
    refine zG (is := [2]) (by kernel_rfl) (by simp) Z ⟨fun o ho => ?_, trivial⟩
    all_goals (cases ho)
    refine zB Z Z Z s1 ?_
    refine rn1 ?_
    exact fin _ ⟨Z, Z, Z, Z, Z, Z, trivial⟩
  ·refine rn6 ?_
   refine zG (is := [0, 3]) (by kernel_rfl) (by simp) Z ⟨fun o ho => ?_, fun o ho => ?_, trivial⟩
   all_goals (cases ho)
   ·refine zB Z Z Z zCL ?_
    refine rn1 ?_
    refine zG (is := [2, 3]) (by kernel_rfl) (by simp) Z ⟨fun o ho => ?_, fun o ho => ?_, trivial⟩
    all_goals (cases ho)
    ·refine zB Z Z Z s1 ?_
     refine rn1 ?_
     refine zG (is := [3]) (by kernel_rfl) (by simp) Z ⟨fun o ho => ?_, trivial⟩
     all_goals (cases ho)
     refine rn4 ?_
     exact fin _ ⟨Z, Z, Z, Z, Z, Z, trivial⟩
    ·refine rn4 ?_
     refine zG (is := [2]) (by kernel_rfl) (by simp) Z ⟨fun o ho => ?_, trivial⟩
     all_goals (cases ho)
     refine zB Z Z Z s1 ?_
     refine rn1 ?_
     exact fin _ ⟨Z, Z, Z, Z, Z, Z, trivial⟩
   ·refine rn4 ?_
    refine zG (is := [0]) (by kernel_rfl) (by simp) Z ⟨fun o ho => ?_, trivial⟩
    all_goals (cases ho)
    refine zB Z Z Z zCL ?_
    refine rn1 ?_
    refine zG (is := [2]) (by kernel_rfl) (by simp) Z ⟨fun o ho => ?_, trivial⟩
    all_goals (cases ho)
    refine zB Z Z Z s1 ?_
    refine rn1 ?_
    exact fin _ ⟨Z, Z, Z, Z, Z, Z, trivial⟩
  ·refine rn4 ?_
   refine zG (is := [0, 1]) (by kernel_rfl) (by simp) Z ⟨fun o ho => ?_, fun o ho => ?_, trivial⟩
   all_goals (cases ho)
   ·refine zB Z Z Z zCL ?_
    refine rn1 ?_
    refine zG (is := [1]) (by kernel_rfl) (by simp) Z ⟨fun o ho => ?_, trivial⟩
    all_goals (cases ho)
    refine rn6 ?_
    refine zG (is := [2]) (by kernel_rfl) (by simp) Z ⟨fun o ho => ?_, trivial⟩
    all_goals (cases ho)
    refine zB Z Z Z s1 ?_
    refine rn1 ?_
    exact fin _ ⟨Z, Z, Z, Z, Z, Z, trivial⟩
   ·refine rn6 ?_
    refine zG (is := [0]) (by kernel_rfl) (by simp) Z ⟨fun o ho => ?_, trivial⟩
    all_goals (cases ho)
    refine zB Z Z Z zCL ?_
    refine rn1 ?_
    refine zG (is := [2]) (by kernel_rfl) (by simp) Z ⟨fun o ho => ?_, trivial⟩
    all_goals (cases ho)
    refine zB Z Z Z s1 ?_
    refine rn1 ?_
    exact fin _ ⟨Z, Z, Z, Z, Z, Z, trivial⟩
 refine zG (is := [4]) (by kernel_rfl) (by simp) Z ⟨fun o ho => ?_, trivial⟩
 all_goals (cases ho)
 skip
 unfold qA
 refine sa1 (c' := .box (zS AA)) Z Z Z Z Z Z Z ?_
 refine rn1 ?_
 refine zW (by kernel_rfl) ?_
 refine rn4 ?_
 refine zEw 3 ⟨105, zY []⟩ (.box [.sl 4 0 0, .nil, .nil]) Z Z Z Z (fun i' j' _ hj' => ?_) ?_
 ·have hj' : j' < 3 := hj'
  match j', hj' with
  | 0, _ => exact .inr ⟨rfl, rfl⟩
  | 1, _ => exact .inl rfl
  | 2, _ => exact .inl rfl
 refine zEw 3 ⟨104, qsC []⟩ (.box [.sl 4 0 0, .sl 5 0 0, .nil]) Z Z Z Z (fun i' j' _ hj' => ?_) ?_
 ·have hj' : j' < 3 := hj'
  match j', hj' with
  | 0, _ => exact .inl rfl
  | 1, _ => exact .inr ⟨rfl, rfl⟩
  | 2, _ => exact .inl rfl
 refine zEw 3 ⟨104, qsC []⟩ (.box [.sl 4 0 0, .sl 5 0 0, .sl 6 0 0]) Z Z Z Z (fun i' j' _ hj' => ?_) ?_
 ·have hj' : j' < 3 := hj'
  match j', hj' with
  | 0, _ => exact .inl rfl
  | 1, _ => exact .inl rfl
  | 2, _ => exact .inr ⟨rfl, rfl⟩
 refine zAi (gmH LM AA 0 0 0 [] [] [] []) Z ?_
 skip
 refine ze (ι := Nat) (fun a => [(0, .ro (zY M) 0 i), (2, .ptr 0 0 0), (3, .nil), (4, .nil), (10, .ptr 2 0 0), (11, .ptr 3 0 0), (49, .ro (zY M) 0 i), (50, iN i), (51, iN a)]) (fun a => gmH LM AA a a 0 ((M.take a).map (zFD AA)) (List.replicate a 1) [] [])
  (fun a => a ≤ i) (fun a => i - a) 0 ⟨⟨rfl, rfl, rfl, rfl, rfl, rfl, rfl, rfl, rfl, trivial⟩, rfl, Nat.zero_le _⟩ ?_
 intro a ha
 refine rn4 ?_
 refine zA Z (fun h => ?_) (fun h => ?_)
 ·have ha' : a < i := by omega
  have hrl := hrow a ha'
  have hadj := fun j hj => hadd a j ha' hj
  have hsn := zQN AA M (i := a) (by omega)
  have hon := zLi a
  have hAl : ((M.take a).map (zFD AA)).length = a := by rw [List.length_map, List.length_take]; omega
  have hBl : (List.replicate a (1 : Rat)).length = a := List.length_replicate
  generalize hA2 : (M.take (a + 1)).map (zFD AA) = A2 at *
  generalize (M.take a).map (zFD AA) = A at *
  generalize hB2 : List.replicate (a + 1) (1 : Rat) = B2 at *
  generalize List.replicate a (1 : Rat) = B at *
  refine rn6 ?_
  refine zAB 13 (.ro (qsC (M.getD a [])) 0 w) Z (AEq.of_eq (by show AV.ro (qsC (M.getD a [])) 0 (M.getD a []).length = _; rw [hrl])) ?_
  generalize hrow' : M.getD a [] = row at *
  skip
  refine zAl 14 ⟨104, qsC []⟩ Z Z ?_
  skip
  refine zAB 55 (.ro (qsC row) 0 w) Z (AEq.of_eq (by show AV.ro (qsC row) 0 row.length = _; rw [hrl])) ?_
  refine zAB 56 (iN w) Z (AEq.of_eq (by rw [hrl])) ?_
  refine ze (ι := Nat) (fun j => [(0, .ro (zY M) 0 i), (2, .ptr 0 0 0), (3, .nil), (4, .nil), (10, .ptr 2 0 0), (11, .ptr 3 0 0), (49, .ro (zY M) 0 i), (50, iN i), (51, iN a), (13, .ro (qsC row) 0 w), (14, .sl 7 0 j), (55, .ro (qsC row) 0 w), (56, iN w), (57, iN j)]) (fun j => gmH LM AA a a 0 A B [] [some ⟨104, qsC (zFD AA (row.take j))⟩])
   (fun j => j ≤ w) (fun j => w - j) 0 ⟨⟨rfl, rfl, rfl, rfl, rfl, rfl, rfl, rfl, rfl, rfl, rfl, rfl, rfl, rfl, trivial⟩, rfl, Nat.zero_le _⟩ ?_
  intro j hj
  refine rn4 ?_
  refine zA Z (fun h => ?_) (fun h => ?_)
  ·have hj' : j < w := by omega
   have hls := zQM AA row (j := j) (by omega)
   have hll : (zFD AA (row.take j)).length = j := by rw [zMq, List.length_take]; omega
   have ca := hadj j hj'
   generalize hl2 : zFD AA (row.take (j + 1)) = l2 at *
   generalize zFD AA (row.take j) = l at *
   refine rn6 ?_
   refine zD 60 (.agg (zS (row.getD j 0))) Z (AEq.of_eq Z) ?_
   generalize hqj : row.getD j 0 = q at *
   refine sa1 (c' := .box (zS q)) Z Z Z Z Z Z Z ?_
   refine zO (gmH LM AA a a 0 A B [] [some ⟨104, qsC l⟩, oQ q]) Z ?_
   refine rn6 ?_
   refine zB Z Z Z ca ?_
   generalize q + AA = s at *
   unfold qA
   repeat (refine zf rfl rfl rfl rfl rfl rfl rfl rfl rfl rfl rfl ?_)
   refine zo Z Z Z Z Z Z Z Z Z hll Z Z (by show 0 + 1 ≤ 1; omega) Z (by show (j + 1) * 56 ≤ _ ∧ _; omega) ?_ (by rw [hfix]; exact fun h => h) ?_
   ·intro i' j' hi' hj'
    exact zAJ 0 3 zS zAg l s _ (zCe _) 7 i' j' hi' hj'
   refine zn (gmH LM AA a a 0 A B [] [some ⟨104, qsC (l ++ [s])⟩, oQ q]) (zP.eqv (CEq.refl _) (zP.eqv (CEq.refl _) (zP.eqv (CEq.refl _) (zP.eqv (CEq.refl _) (zP.eqv (zMP _ _) (zP.eqv (zDW _ _) (zP.eqv (zDW _ _) (zP.eqv (zAV 0 3 zS l s _ (zCe _)) (zP.eqv (CEq.refl _) zP.nil))))))))) ?_
   refine zDp ?_
   refine zI ?_
   refine zBH (gmH LM AA a a 0 A B [] [some ⟨104, qsC (l ++ [s])⟩]) [oQ q] [(0, .ro (zY M) 0 i), (2, .ptr 0 0 0), (3, .nil), (4, .nil), (10, .ptr 2 0 0), (11, .ptr 3 0 0), (49, .ro (zY M) 0 i), (50, iN i), (51, iN a), (13, .ro (qsC row) 0 w), (14, .sl 7 0 (j + 1)), (55, .ro (qsC row) 0 w), (56, iN w), (57, iN j)] Z ⟨Z, Z, Z, Z, Z, Z, Z, Z, Z, Z, Z, Z, Z, Z, trivial⟩ (fun h hh => by rw [hfix] at hh; exact absurd hh id) (zQq _ _ _ _ _ _ _ _ _) Z ?_
   refine rn3 ?_
   exact zK ⟨j + 1, by omega, by omega, ⟨Z, Z, Z, Z, Z, Z, Z, Z, Z, Z, Z, Z, Z, Z, trivial⟩, by rw [hl2, hls]⟩
  ·have hje : j = w := by omega
   have hfull : row.take j = row := List.take_of_length_le (by omega)
   subst hje
   rw [hfull]
   have hl0 : (zFD AA row).length = j := by rw [zMq]; exact hrl
   generalize zFD AA row = l at *
   refine zHb ?_
   refine zAf 7 14 j [(0, .ro (zY M) 0 i), (2, .ptr 0 0 0), (3, .nil), (4, .nil), (10, .ptr 2 0 0), (11, .ptr 3 0 0), (49, .ro (zY M) 0 i), (50, iN i), (51, iN a)] Z (zAv _) Z (by show j ≤ l.length; omega) ⟨Z, Z, Z, Z, Z, Z, Z, Z, Z, trivial⟩ ?_
   refine zBH (gmH LM AA a a 0 A B [] []) [none] [(0, .ro (zY M) 0 i), (2, .ptr 0 0 0), (3, .nil), (4, .nil), (10, .ptr 2 0 0), (11, .ptr 3 0 0), (49, .ro (zY M) 0 i), (50, iN i), (51, iN a), (14, .ro (qsC l) 0 j)] Z ⟨Z, Z, Z, Z, Z, Z, Z, Z, Z, Z, trivial⟩ (fun h hh => by rw [hfix] at hh; exact absurd hh id) (gm_below _ _ _ _ _ _ _ _) Z ?_
   skip
   refine zh (by kernel_rfl) ?_
   have hR1 : ∀ j', j' < 1 → (zBv 1 1 [.ro (qsC l) 0 j]).at 0 j' = (zCc l).getD j' .any := fun j' hj' => by rw [← hl0]; exact zNx l j' hj'
   refine zU 0 Z (by kernel_rfl) (by kernel_rfl) (by kernel_rfl) Z (zH Z Z Z Z Z Z) Z ?_
   refine zU 2 Z (by kernel_rfl) (by kernel_rfl) (by kernel_rfl) Z (zJ Z) Z ?_
   refine zU 5 Z (by kernel_rfl) (by kernel_rfl) (by kernel_rfl) Z (zH Z Z Z Z Z Z) Z ?_
   apply zDQ (H := [oZ, oQ LM, oQ AA, some ⟨193, .box [.any, .sl 5 0 a, .sl 6 0 0]⟩, some ⟨105, zY (A ++ [l])⟩, some ⟨104, qsC B⟩, some ⟨104, qsC []⟩]) [(0, .ro (zY M) 0 i), (2, .ptr 0 0 0), (3, .nil), (4, .nil), (10, .ptr 2 0 0), (11, .ptr 3 0 0), (49, .ro (zY M) 0 i), (50, iN i), (51, iN a), (72, .sl 4 0 (a + 1)), (74, .sl 5 0 a), (76, .ro (zBv 1 3 (zS 1)) 0 1), (78, .ptr 3 0 0)]
   ·intro fin
    refine zG (is := [1, 3, 6]) (by kernel_rfl) (by simp) Z ⟨fun o ho => ?_, fun o ho => ?_, fun o ho => ?_, trivial⟩
    all_goals (cases ho)
    ·refine rn4 ?_
     refine zG (is := [3, 6]) (by kernel_rfl) (by simp) Z ⟨fun o ho => ?_, fun o ho => ?_, trivial⟩
     all_goals (cases ho)
     ·refine rn3 ?_
      refine zG (is := [4, 6]) (by kernel_rfl) (by simp) Z ⟨fun o ho => ?_, fun o ho => ?_, trivial⟩
      all_goals (cases ho)
      ·refine zo Z Z Z Z Z Z Z Z Z hAl Z Z (by show 0 + 1 ≤ 1; omega) Z (by show (a + 1) * 24 ≤ _ ∧ _; omega) ?_ (by rw [hfix]; exact fun h => h) ?_
       ·intro i' j' hi' hj'
        exact zAJ [] 1 zCc zBP A l _ hR1 4 i' j' hi' hj'
       refine zn [oZ, oQ LM, oQ AA, some ⟨193, .box [.any, .sl 5 0 a, .sl 6 0 0]⟩, some ⟨105, zY (A ++ [l])⟩, some ⟨104, qsC B⟩, some ⟨104, qsC []⟩] (zP.eqv (CEq.refl _) (zP.eqv (CEq.refl _) (zP.eqv (CEq.refl _) (zP.eqv (CEq.refl _) (zP.eqv (zAV [] 1 zCc A l _ hR1) (zP.eqv (zDW _ _) (zP.eqv (zDW _ _) zP.nil))))))) ?_
       refine rn1 ?_
       refine zG (is := [6, 7]) (by kernel_rfl) (by simp) Z ⟨fun o ho => ?_, fun o ho => ?_, trivial⟩
       all_goals (cases ho)
       ·refine rn4 ?_
        refine zU 10 Z (by kernel_rfl) (by kernel_rfl) (by kernel_rfl) Z (zH Z Z Z Z Z Z) Z ?_
        refine zG (is := [7]) (by kernel_rfl) (by simp) Z ⟨fun o ho => ?_, trivial⟩
        all_goals (cases ho)
        refine zB Z Z Z zCL ?_
        unfold qA
        refine rn1 ?_
        refine zG (is := [8]) (by kernel_rfl) (by simp) Z ⟨fun o ho => ?_, trivial⟩
        all_goals (cases ho)
        refine rn3 ?_
        exact fin _ ⟨Z, Z, Z, Z, Z, Z, Z, Z, Z, Z, Z, Z, Z, trivial⟩
       ·refine zB Z Z Z zCL ?_
        unfold qA
        refine rn1 ?_
        refine zG (is := [6, 8]) (by kernel_rfl) (by simp) Z ⟨fun o ho => ?_, fun o ho => ?_, trivial⟩
        all_goals (cases ho)
        ·refine rn4 ?_
         refine zU 10 Z (by kernel_rfl) (by kernel_rfl) (by kernel_rfl) Z (zH Z Z Z Z Z Z) Z ?_
         refine zG (is := [8]) (by kernel_rfl) (by simp) Z ⟨fun o ho => ?_, trivial⟩
         all_goals (cases ho)
         refine rn3 ?_
         exact fin _ ⟨Z, Z, Z, Z, Z, Z, Z, Z, Z, Z, Z, Z, Z, trivial⟩
        ·refine rn3 ?_
         refine zG (is := [6]) (by kernel_rfl) (by simp) Z ⟨fun o ho => ?_, trivial⟩
         all_goals (cases ho)
         refine rn4 ?_
         refine zU 10 Z (by kernel_rfl) (by kernel_rfl) (by kernel_rfl) Z (zH Z Z Z Z Z Z) Z ?_
         exact fin _ ⟨Z, Z, Z, Z, Z, Z, Z, Z, Z, Z, Z, Z, Z, trivial⟩
      ·refine rn4 ?_
       refine zG (is := [4]) (by kernel_rfl) (by simp) Z ⟨fun o ho => ?_, trivial⟩
       all_goals (cases ho)
       refine zo Z Z Z Z Z Z Z Z Z hAl Z Z (by show 0 + 1 ≤ 1; omega) Z (by show (a + 1) * 24 ≤ _ ∧ _; omega) ?_ (by rw [hfix]; exact fun h => h) ?_
       ·intro i' j' hi' hj'
        exact zAJ [] 1 zCc zBP A l _ hR1 4 i' j' hi' hj'
       refine zn [oZ, oQ LM, oQ AA, some ⟨193, .box [.any, .sl 5 0 a, .sl 6 0 0]⟩, some ⟨105, zY (A ++ [l])⟩, some ⟨104, qsC B⟩, some ⟨104, qsC []⟩] (zP.eqv (CEq.refl _) (zP.eqv (CEq.refl _) (zP.eqv (CEq.refl _) (zP.eqv (CEq.refl _) (zP.eqv (zAV [] 1 zCc A l _ hR1) (zP.eqv (zDW _ _) (zP.eqv (zDW _ _) zP.nil))))))) ?_
       refine rn1 ?_
       refine zU 10 Z (by kernel_rfl) (by kernel_rfl) (by kernel_rfl) Z (zH Z Z Z Z Z Z) Z ?_
       refine zG (is := [7]) (by kernel_rfl) (by simp) Z ⟨fun o ho => ?_, trivial⟩
       all_goals (cases ho)
       refine zB Z Z Z zCL ?_
       unfold qA
       refine rn1 ?_
       refine zG (is := [8]) (by kernel_rfl) (by simp) Z ⟨fun o ho => ?_, trivial⟩
       all_goals (cases ho)
       refine rn3 ?_
       exact fin _ ⟨Z, Z, Z, Z, Z, Z, Z, Z, Z, Z, Z, Z, Z, trivial⟩
     ·refine rn4 ?_
      refine zG (is := [3]) (by kernel_rfl) (by simp) Z ⟨fun o ho => ?_, trivial⟩
      all_goals (cases ho)
      refine rn3 ?_
      refine zG (is := [4]) (by kernel_rfl) (by simp) Z ⟨fun o ho => ?_, trivial⟩
      all_goals (cases ho)
      refine zo Z Z Z Z Z Z Z Z Z hAl Z Z (by show 0 + 1 ≤ 1; omega) Z (by show (a + 1) * 24 ≤ _ ∧ _; omega) ?_ (by rw [hfix]; exact fun h => h) ?_
      ·intro i' j' hi' hj'
       exact zAJ [] 1 zCc zBP A l _ hR1 4 i' j' hi' hj'
      refine zn [oZ, oQ LM, oQ AA, some ⟨193, .box [.any, .sl 5 0 a, .sl 6 0 0]⟩, some ⟨105, zY (A ++ [l])⟩, some ⟨104, qsC B⟩, some ⟨104, qsC []⟩] (zP.eqv (CEq.refl _) (zP.eqv (CEq.refl _) (zP.eqv (CEq.refl _) (zP.eqv (CEq.refl _) (zP.eqv (zAV [] 1 zCc A l _ hR1) (zP.eqv (zDW _ _) (zP.eqv (zDW _ _) zP.nil))))))) ?_
      refine rn1 ?_
      refine zU 10 Z (by kernel_rfl) (by kernel_rfl) (by kernel_rfl) Z (zH Z Z Z Z Z Z) Z ?_
      refine zG (is := [7]) (by kernel_rfl) (by simp) Z ⟨fun o ho => ?_, trivial⟩
      all_goals (cases ho)
      refine zB Z Z Z zCL ?_
      unfold qA
      refine rn1 ?_
      refine zG (is := [8]) (by kernel_rfl) (by simp) Z ⟨fun o ho => ?_, trivial⟩
      all_goals (cases ho)
      refine rn3 ?_
      exact fin _ ⟨Z, Z, Z, Z, Z, Z, Z, Z, Z, Z, Z, Z, Z, trivial⟩
    ·refine rn3 ?_
     refine zG (is := [1, 6]) (by kernel_rfl) (by simp) Z ⟨fun o ho => ?_, fun o ho => ?_, trivial⟩
     all_goals (cases ho)
     ·refine rn4 ?_
      refine zG (is := [4, 6]) (by kernel_rfl) (by simp) Z ⟨fun o ho => ?_, fun o ho => ?_, trivial⟩
      all_goals (cases ho)
      ·refine zo Z Z Z Z Z Z Z Z Z hAl Z Z (by show 0 + 1 ≤ 1; omega) Z (by show (a + 1) * 24 ≤ _ ∧ _; omega) ?_ (by rw [hfix]; exact fun h => h) ?_
       ·intro i' j' hi' hj'
        exact zAJ [] 1 zCc zBP A l _ hR1 4 i' j' hi' hj'
       refine zn [oZ, oQ LM, oQ AA, some ⟨193, .box [.any, .sl 5 0 a, .sl 6 0 0]⟩, some ⟨105, zY (A ++ [l])⟩, some ⟨104, qsC B⟩, some ⟨104, qsC []⟩] (zP.eqv (CEq.refl _) (zP.eqv (CEq.refl _) (zP.eqv (CEq.refl _) (zP.eqv (CEq.refl _) (zP.eqv (zAV [] 1 zCc A l _ hR1) (zP.eqv (zDW _ _) (zP.eqv (zDW _ _) zP.nil))))))) ?_
       refine rn1 ?_
       refine zG (is := [6, 7]) (by kernel_rfl) (by simp) Z ⟨fun o ho => ?_, fun o ho => ?_, trivial⟩
       all_goals (cases ho)
       ·refine rn4 ?_
        refine zU 10 Z (by kernel_rfl) (by kernel_rfl) (by kernel_rfl) Z (zH Z Z Z Z Z Z) Z ?_
        refine zG (is := [7]) (by kernel_rfl) (by simp) Z ⟨fun o ho => ?_, trivial⟩
        all_goals (cases ho)
        refine zB Z Z Z zCL ?_
        unfold qA
        refine rn1 ?_
        refine zG (is := [8]) (by kernel_rfl) (by simp) Z ⟨fun o ho => ?_, trivial⟩
        all_goals (cases ho)
        refine rn3 ?_
        exact fin _ ⟨Z, Z, Z, Z, Z, Z, Z, Z, Z, Z, Z, Z, Z, trivial⟩
       ·refine zB Z Z Z zCL ?_
        unfold qA
        refine rn1 ?_
        refine zG (is := [6, 8]) (by kernel_rfl) (by simp) Z ⟨fun o ho => ?_, fun o ho => ?_, trivial⟩
        all_goals (cases ho)
        ·refine rn4 ?_
         refine zU 10 Z (by kernel_rfl) (by kernel_rfl) (by kernel_rfl) Z (zH Z Z Z Z Z Z) Z ?_
         refine zG (is := [8]) (by kernel_rfl) (by simp) Z ⟨fun o ho => ?_, trivial⟩
         all_goals (cases ho)
         refine rn3 ?_
         exact fin _ ⟨Z, Z, Z, Z, Z, Z, Z, Z, Z, Z, Z, Z, Z, trivial⟩
        ·refine rn3 ?_
         refine zG (is := [6]) (by kernel_rfl) (by simp) Z ⟨fun o ho => ?_, trivial⟩
         all_goals (cases ho)
         refine rn4 ?_
         refine zU 10 Z (by kernel_rfl) (by kernel_rfl) (by kernel_rfl) Z (zH Z Z Z Z Z Z) Z ?_
         exact fin _ ⟨Z, Z, Z, Z, Z, Z, Z, Z, Z, Z, Z, Z, Z, trivial⟩
      ·refine rn4 ?_
       refine zG (is := [4]) (by kernel_rfl) (by simp) Z ⟨fun o ho => ?_, trivial⟩
       all_goals (cases ho)
       refine zo Z Z Z Z Z Z Z Z Z hAl Z Z (by show 0 + 1 ≤ 1; omega) Z (by show (a + 1) * 24 ≤ _ ∧ _; omega) ?_ (by rw [hfix]; exact fun h => h) ?_
       ·intro i' j' hi' hj'
        exact zAJ [] 1 zCc zBP A l _ hR1 4 i' j' hi' hj'
       refine zn [oZ, oQ LM, oQ AA, some ⟨193, .box [.any, .sl 5 0 a, .sl 6 0 0]⟩, some ⟨105, zY (A ++ [l])⟩, some ⟨104, qsC B⟩, some ⟨104, qsC []⟩] (zP.eqv (CEq.refl _) (zP.eqv (CEq.refl _) (zP.eqv (CEq.refl _) (zP.eqv (CEq.refl _) (zP.eqv (zAV [] 1 zCc A l _ hR1) (zP.eqv (zDW _ _) (zP.eqv (zDW _ _) zP.nil))))))) ?_
       refine rn1 ?_
       refine zU 10 Z (by kernel_rfl) (by kernel_rfl) (by kernel_rfl) Z (zH Z Z Z Z Z Z) Z ?_
       refine zG (is := [7]) (by kernel_rfl) (by simp) Z ⟨fun o ho => ?_, trivial⟩
       all_goals (cases ho)
       refine zB Z Z Z zCL ?_
       unfold qA
       refine rn1 ?_
       refine zG (is := [8]) (by kernel_rfl) (by simp) Z ⟨fun o ho => ?_, trivial⟩
       all_goals (cases ho)
       refine rn3 ?_
       exact fin _ ⟨Z, Z, Z, Z, Z, Z, Z, Z, Z, Z, Z, Z, Z, trivial⟩
     ·refine rn4 ?_
      refine zG (is := [1]) (by kernel_rfl) (by simp) Z ⟨fun o ho => ?_, trivial⟩
      all_goals (cases ho)
      refine rn4 ?_
      refine zG (is := [4]) (by kernel_rfl) (by simp) Z ⟨fun o ho => ?_, trivial⟩
      all_goals (cases ho)
      refine zo Z Z Z Z Z Z Z Z Z hAl Z Z (by show 0 + 1 ≤ 1; omega) Z (by show (a + 1) * 24 ≤ _ ∧ _; omega) ?_ (by rw [hfix]; exact fun h => h) ?_
      ·intro i' j' hi' hj'
       exact zAJ [] 1 zCc zBP A l _ hR1 4 i' j' hi' hj'
      refine zn [oZ, oQ LM, oQ AA, some ⟨193, .box [.any, .sl 5 0 a, .sl 6 0 0]⟩, some ⟨105, zY (A ++ [l])⟩, some ⟨104, qsC B⟩, some ⟨104, qsC []⟩] (zP.eqv (CEq.refl _) (zP.eqv (CEq.refl _) (zP.eqv (CEq.refl _) (zP.eqv (CEq.refl _) (zP.eqv (zAV [] 1 zCc A l _ hR1) (zP.eqv (zDW _ _) (zP.eqv (zDW _ _) zP.nil))))))) ?_
      refine rn1 ?_
      refine zU 10 Z (by kernel_rfl) (by kernel_rfl) (by kernel_rfl) Z (zH Z Z Z Z Z Z) Z ?_
      refine zG (is := [7]) (by kernel_rfl) (by simp) Z ⟨fun o ho => ?_, trivial⟩
      all_goals (cases ho)
      refine zB Z Z Z zCL ?_
      unfold qA
      refine rn1 ?_
      refine zG (is := [8]) (by kernel_rfl) (by simp) Z ⟨fun o ho => ?_, trivial⟩
      all_goals (cases ho)
      refine rn3 ?_
      exact fin _ ⟨Z, Z, Z, Z, Z, Z, Z, Z, Z, Z, Z, Z, Z, trivial⟩
    ·refine rn4 ?_
     refine zG (is := [1, 3]) (by kernel_rfl) (by simp) Z ⟨fun o ho => ?_, fun o ho => ?_, trivial⟩
     all_goals (cases ho)
     ·refine rn4 ?_
      refine zG (is := [3]) (by kernel_rfl) (by simp) Z ⟨fun o ho => ?_, trivial⟩
      all_goals (cases ho)
      refine rn3 ?_
      refine zG (is := [4]) (by kernel_rfl) (by simp) Z ⟨fun o ho => ?_, trivial⟩
      all_goals (cases ho)
      refine zo Z Z Z Z Z Z Z Z Z hAl Z Z (by show 0 + 1 ≤ 1; omega) Z (by show (a + 1) * 24 ≤ _ ∧ _; omega) ?_ (by rw [hfix]; exact fun h => h) ?_
      ·intro i' j' hi' hj'
       exact zAJ [] 1 zCc zBP A l _ hR1 4 i' j' hi' hj'
      refine zn [oZ, oQ LM, oQ AA, some ⟨193, .box [.any, .sl 5 0 a, .sl 6 0 0]⟩, some ⟨105, zY (A ++ [l])⟩, some ⟨104, qsC B⟩, some ⟨104, qsC []⟩] (zP.eqv (CEq.refl _) (zP.eqv (CEq.refl _) (zP.eqv (CEq.refl _) (zP.eqv (CEq.refl _) (zP.eqv (zAV [] 1 zCc A l _ hR1) (zP.eqv (zDW _ _) (zP.eqv (zDW _ _) zP.nil))))))) ?_
      refine rn1 ?_
      refine zU 10 Z (by kernel_rfl) (by kernel_rfl) (by kernel_rfl) Z (zH Z Z Z Z Z Z) Z ?_
      refine zG (is := [7]) (by kernel_rfl) (by simp) Z ⟨fun o ho => ?_, trivial⟩
      all_goals (cases ho)
      refine zB Z Z Z zCL ?_
      unfold qA
      refine rn1 ?_
      refine zG (is := [8]) (by kernel_rfl) (by simp) Z ⟨fun o ho => ?_, trivial⟩
      all_goals (cases ho)
      refine rn3 ?_
      exact fin _ ⟨Z, Z, Z, Z, Z, Z, Z, Z, Z, Z, Z, Z, Z, trivial⟩
     ·refine rn3 ?_
      refine zG (is := [1]) (by kernel_rfl) (by simp) Z ⟨fun o ho => ?_, trivial⟩
      all_goals (cases ho)
      refine rn4 ?_
      refine zG (is := [4]) (by kernel_rfl) (by simp) Z ⟨fun o ho => ?_, trivial⟩
      all_goals (cases ho)
      refine zo Z Z Z Z Z Z Z Z Z hAl Z Z (by show 0 + 1 ≤ 1; omega) Z (by show (a + 1) * 24 ≤ _ ∧ _; omega) ?_ (by rw [hfix]; exact fun h => h) ?_
      ·intro i' j' hi' hj'
       exact zAJ [] 1 zCc zBP A l _ hR1 4 i' j' hi' hj'
      refine zn [oZ, oQ LM, oQ AA, some ⟨193, .box [.any, .sl 5 0 a, .sl 6 0 0]⟩, some ⟨105, zY (A ++ [l])⟩, some ⟨104, qsC B⟩, some ⟨104, qsC []⟩] (zP.eqv (CEq.refl _) (zP.eqv (CEq.refl _) (zP.eqv (CEq.refl _) (zP.eqv (CEq.refl _) (zP.eqv (zAV [] 1 zCc A l _ hR1) (zP.eqv (zDW _ _) (zP.eqv (zDW _ _) zP.nil))))))) ?_
      refine rn1 ?_
      refine zU 10 Z (by kernel_rfl) (by kernel_rfl) (by kernel_rfl) Z (zH Z Z Z Z Z Z) Z ?_
      refine zG (is := [7]) (by kernel_rfl) (by simp) Z ⟨fun o ho => ?_, trivial⟩
      all_goals (cases ho)
      refine zB Z Z Z zCL ?_
      unfold qA
      refine rn1 ?_
      refine zG (is := [8]) (by kernel_rfl) (by simp) Z ⟨fun o ho => ?_, trivial⟩
      all_goals (cases ho)
      refine rn3 ?_
      exact fin _ ⟨Z, Z, Z, Z, Z, Z, Z, Z, Z, Z, Z, Z, Z, trivial⟩
   refine zG (is := [9]) (by kernel_rfl) (by simp) Z ⟨fun o ho => ?_, trivial⟩
   all_goals (cases ho)
   refine zo Z Z Z Z Z Z Z Z Z hBl Z Z (by show 0 + 1 ≤ 1; omega) Z (by show (a + 1) * 56 ≤ _ ∧ _; omega) ?_ (by rw [hfix]; exact fun h => h) ?_
   ·intro i' j' hi' hj'
    exact zAJ 0 3 zS zAg B 1 _ (zCe _) 5 i' j' hi' hj'
   refine zn [oZ, oQ LM, oQ AA, some ⟨193, .box [.any, .any, .sl 6 0 0]⟩, some ⟨105, zY (A ++ [l])⟩, some ⟨104, qsC (B ++ [1])⟩, some ⟨104, qsC []⟩] (zP.eqv (CEq.refl _) (zP.eqv (CEq.refl _) (zP.eqv (CEq.refl _) (zP.eqv (CEq.refl _) (zP.eqv (zMP _ _) (zP.eqv (zAV 0 3 zS B 1 _ (zCe _)) (zP.eqv (zDW _ _) zP.nil))))))) ?_
   refine rn1 ?_
   refine zG (is := [11]) (by kernel_rfl) (by simp) Z ⟨fun o ho => ?_, trivial⟩
   all_goals (cases ho)
   refine rn9 ?_
   refine zU 12 Z (by kernel_rfl) (by kernel_rfl) (by kernel_rfl) Z (zH Z Z Z Z Z Z) Z ?_
   refine zG (is := [13]) (by kernel_rfl) (by simp) Z ⟨fun o ho => ?_, trivial⟩
   all_goals (cases ho)
   refine rn9 ?_
   refine zW (by kernel_rfl) ?_
   refine rn5 ?_
   exact zK ⟨a + 1, by omega, by omega, ⟨Z, Z, Z, Z, Z, Z, Z, Z, Z, trivial⟩, by rw [hA2, hsn, hB2, hon]; rfl⟩
 ·have hae : a = i := by omega
  subst hae
  have hAe : (M.take a).map (zFD AA) = M.map (zFD AA) := by rw [List.take_of_length_le (by omega)]
  have hMl : (M.map (zFD AA)).length = a := by rw [List.length_map]; omega
  have hRl : (List.replicate a (1 : Rat)).length = a := List.length_replicate
  rw [hAe]
  generalize M.map (zFD AA) = A at *
  generalize List.replicate a (1 : Rat) = B at *
  refine rn6 ?_
  refine zAB 84 (iN w) Z (AEq.of_eq (by rw [hr0])) ?_
  refine ze (ι := Nat) (fun b => [(0, .ro (zY M) 0 a), (2, .ptr 0 0 0), (3, .nil), (4, .nil), (10, .ptr 2 0 0), (11, .ptr 3 0 0), (84, iN w), (85, iN b)]) (fun b => gmH LM AA a a b A B (List.replicate b 1) [])
   (fun b => b ≤ w) (fun b => w - b) 0 ⟨⟨rfl, rfl, rfl, rfl, rfl, rfl, rfl, rfl, trivial⟩, rfl, Nat.zero_le _⟩ ?_
  intro b hb
  refine rn4 ?_
  refine zA Z (fun h => ?_) (fun h => ?_)
  ·have hb' : b < w := by omega
   have hon := zLi b
   have hBl : (List.replicate b (1 : Rat)).length = b := List.length_replicate
   generalize hC2 : List.replicate (b + 1) (1 : Rat) = C2 at *
   generalize List.replicate b (1 : Rat) = C at *
   refine rn1 ?_
   refine zh (by kernel_rfl) ?_
   refine zCm (fuel := 3) [0, 1, 2, 3] [(0, .ro (zY M) 0 a), (2, .ptr 0 0 0), (3, .nil), (4, .nil), (10, .ptr 2 0 0), (11, .ptr 3 0 0), (84, iN w), (85, iN b)] ⟨Z, Z, Z, Z, Z, Z, Z, Z, trivial⟩ (by kernel_rfl) (by decide) Z Z ?_
   refine zN Z Z (zH Z Z Z Z Z Z) ?_
   refine zN Z Z (zX Z Z Z Z Z) ?_
   refine zA5 Z Z Z Z Z zCL ?_
   refine px_b Z Z Z Z Z Z Z Z Z Z Z Z Z ?_
   refine z7 ?_
   refine zG (is := [4]) (by kernel_rfl) (by simp) Z ⟨fun o ho => ?_, trivial⟩
   all_goals (cases ho)
   refine zo Z Z Z Z Z Z Z Z Z hBl Z Z (by show 0 + 1 ≤ 1; omega) Z (by show (b + 1) * 56 ≤ _ ∧ _; omega) ?_ (by rw [hfix]; exact fun h => h) ?_
   ·intro i' j' hi' hj'
    exact zAJ 0 3 zS zAg C 1 _ (zCe _) 6 i' j' hi' hj'
   refine zn [oZ, oQ LM, oQ AA, some ⟨193, .box [.sl 4 0 a, .sl 5 0 a, .any]⟩, some ⟨105, zY A⟩, some ⟨104, qsC B⟩, some ⟨104, qsC (C ++ [1])⟩] (zP.eqv (CEq.refl _) (zP.eqv (CEq.refl _) (zP.eqv (CEq.refl _) (zP.eqv (CEq.refl _) (zP.eqv (zMP _ _) (zP.eqv (zDW _ _) (zP.eqv (zAV 0 3 zS C 1 _ (zCe _)) zP.nil))))))) ?_
   refine rn1 ?_
   refine zU 5 Z (by kernel_rfl) (by kernel_rfl) (by kernel_rfl) Z (zH Z Z Z Z Z Z) Z ?_
   refine zG (is := [6]) (by kernel_rfl) (by simp) Z ⟨fun o ho => ?_, trivial⟩
   all_goals (cases ho)
   refine rn9 ?_
   refine zW (by kernel_rfl) ?_
   refine rn5 ?_
   exact zK ⟨b + 1, by omega, by omega, ⟨Z, Z, Z, Z, Z, Z, Z, Z, trivial⟩, by rw [hC2, hon]; rfl⟩
  have hbe : b = w := by omega
  subst hbe
  have hCl : (List.replicate b (1 : Rat)).length = b := List.length_replicate
  generalize List.replicate b (1 : Rat) = C at *
  refine zHb ?_
  refine zQP [none, none, none, none, some ⟨105, zY A⟩, some ⟨104, qsC B⟩, some ⟨104, qsC C⟩] [oZ, oQ LM, oQ AA, some ⟨193, .box [.ro (zY A) 0 a, .ro (qsC B) 0 a, .ro (qsC C) 0 b]⟩, none, none, none] [(2, .ptr 0 0 0), (3, .nil), (4, .nil), (10, .ptr 2 0 0), (11, .ptr 3 0 0)] ?_ ?_ Z ?_ ⟨⟨_, Z, .inl Z⟩, ⟨_, Z, .inl Z⟩, ⟨_, Z, .inl Z⟩, ⟨_, Z, .inl Z⟩, ⟨_, Z, .inl Z⟩, trivial⟩ ?_
  ·intro h o ho
   match h, ho with
   | 0, ho => simp at ho
   | 1, ho => simp at ho
   | 2, ho => simp at ho
   | 3, ho => simp at ho
   | 4, ho => exact ho
   | 5, ho => exact ho
   | 6, ho => exact ho
   | _ + 7, ho => simp at ho
  ·intro h o ho
   match h, ho with
   | 0, ho => simp at ho
   | 1, ho => simp at ho
   | 2, ho => simp at ho
   | 3, ho => simp at ho
   | 4, ho => cases ho; exact zFb _
   | 5, ho => cases ho; exact zAv _
   | 6, ho => cases ho; exact zAv _
   | _ + 7, ho => simp at ho
  ·intro h o ho
   match h, ho with
   | 0, ho => cases ho; exact ⟨fun o h => by simp at h, _, rfl, rfl, rfl, rfl, fun i j _ _ => .inl rfl⟩
   | 1, ho => cases ho; exact ⟨fun o h => by simp at h, _, rfl, rfl, rfl, rfl, fun i j _ _ => .inl rfl⟩
   | 2, ho => cases ho; exact ⟨fun o h => by simp at h, _, rfl, rfl, rfl, rfl, fun i j _ _ => .inl rfl⟩
   | 3, ho =>
    cases ho
    refine ⟨fun o h => by simp at h, _, Z, Z, Z, Z, fun i j _ hj => ?_⟩
    have hj : j < 3 := hj
    match j, hj with
    | 0, _ => exact .inr (.inr ⟨rfl, fun o ho => by cases ho; show 0 + a ≤ A.length; omega⟩)
    | 1, _ => exact .inr (.inr ⟨rfl, fun o ho => by cases ho; show 0 + a ≤ B.length; omega⟩)
    | 2, _ => exact .inr (.inr ⟨rfl, fun o ho => by cases ho; show 0 + b ≤ C.length; omega⟩)
   | 4, ho => simp at ho
   | 5, ho => simp at ho
   | 6, ho => simp at ho
   | _ + 7, ho => simp at ho
  refine zBH [oZ, oQ LM, oQ AA, some ⟨193, .box [.ro (zY A) 0 a, .ro (qsC B) 0 a, .ro (qsC C) 0 b]⟩] [none, none, none] [(2, .ptr 0 0 0), (3, .nil), (4, .nil), (10, .ptr 2 0 0), (11, .ptr 3 0 0)] Z ⟨Z, Z, Z, Z, Z, trivial⟩ (fun h hh => by rw [hfix] at hh; exact absurd hh id) gm_b4 Z ?_
  refine rn6 ?_
  refine zB Z Z Z hcR ?_
  repeat (refine zBC rfl rfl rfl ?_)
  refine sa1 (c' := .box ([.int .i64 0, .ro (qsC r.X) 0 b, .ro (qsC r.Y) 0 a, .nil] ++ zS r.V)) Z Z Z Z Z Z Z ?_
  refine zO (oZ :: oQ LM :: oQ AA :: some ⟨193, .box [.ro (zY A) 0 a, .ro (qsC B) 0 a, .ro (qsC C) 0 b]⟩ :: some ⟨190, .box ([.int .i64 0, .ro (qsC r.X) 0 b, .ro (qsC r.Y) 0 a, .nil] ++ zS r.V)⟩ :: []) Z ?_
  refine rn8 ?_
  refine zAl 4 ⟨104, qsC []⟩ Z Z ?_
  repeat (refine zAC ?_)
  refine ze (ι := Nat) (fun j => [(2, .ptr 0 0 0), (3, .nil), (10, .ptr 2 0 0), (17, .ptr 4 0 0), (4, .sl 5 0 j), (97, .ro (qsC r.X) 0 b), (98, iN b), (99, iN j)]) (fun j => oZ :: oQ LM :: oQ AA :: some ⟨193, .box [.ro (zY A) 0 a, .ro (qsC B) 0 a, .ro (qsC C) 0 b]⟩ :: some ⟨190, .box ([.int .i64 0, .ro (qsC r.X) 0 b, .ro (qsC r.Y) 0 a, .nil] ++ zS r.V)⟩ :: [some ⟨104, qsC (zFV r.V (r.X.take j))⟩])
   (fun j => j ≤ b) (fun j => b - j) 0 ⟨⟨rfl, rfl, rfl, rfl, rfl, rfl, rfl, rfl, trivial⟩, rfl, Nat.zero_le _⟩ ?_
  intro j hj
  refine rn4 ?_
  refine zA Z (fun h => ?_) (fun h => ?_)
  ·have hj' : j < b := by omega
   have hls := zLR r.V r.X (j := j) (by omega)
   have hll : (zFV r.V (r.X.take j)).length = j := by unfold zFV; rw [List.length_map, List.length_take]; omega
   have ca := dX j hj'
   generalize hl2 : zFV r.V (r.X.take (j + 1)) = l2 at *
   generalize zFV r.V (r.X.take j) = l at *
   refine rn6 ?_
   refine zD 102 (.agg (zS (r.X.getD j 0))) Z (AEq.of_eq Z) ?_
   generalize hqj : r.X.getD j 0 = q at *
   refine sa1 (c' := .box (zS q)) Z Z Z Z Z Z Z ?_
   refine zO (oZ :: oQ LM :: oQ AA :: some ⟨193, .box [.ro (zY A) 0 a, .ro (qsC B) 0 a, .ro (qsC C) 0 b]⟩ :: some ⟨190, .box ([.int .i64 0, .ro (qsC r.X) 0 b, .ro (qsC r.Y) 0 a, .nil] ++ zS r.V)⟩ :: [some ⟨104, qsC l⟩, oQ q]) Z ?_
   refine rn6 ?_
   refine zB Z Z Z ca ?_
   generalize q / r.V = s at *
   unfold qA
   repeat (refine zf rfl rfl rfl rfl rfl rfl rfl rfl rfl rfl rfl ?_)
   refine zo Z Z Z Z Z Z Z Z Z hll Z Z (by show 0 + 1 ≤ 1; omega) Z (by show (j + 1) * 56 ≤ _ ∧ _; omega) ?_ (by rw [hfix]; exact fun h => h) ?_
   ·intro i' j' hi' hj'
    exact zAJ 0 3 zS zAg l s _ (zCe _) 5 i' j' hi' hj'
   refine zn (oZ :: oQ LM :: oQ AA :: some ⟨193, .box [.ro (zY A) 0 a, .ro (qsC B) 0 a, .ro (qsC C) 0 b]⟩ :: some ⟨190, .box ([.int .i64 0, .ro (qsC r.X) 0 b, .ro (qsC r.Y) 0 a, .nil] ++ zS r.V)⟩ :: [some ⟨104, qsC (l ++ [s])⟩, oQ q]) (zP.eqv (CEq.refl _) (zP.eqv (CEq.refl _) (zP.eqv (CEq.refl _) (zP.eqv (CEq.refl _) (zP.eqv (CEq.refl _) (zP.eqv (zAV 0 3 zS l s _ (zCe _)) (zP.eqv (CEq.refl _) zP.nil))))))) ?_
   refine zDp ?_
   refine zI ?_
   refine zBH (oZ :: oQ LM :: oQ AA :: some ⟨193, .box [.ro (zY A) 0 a, .ro (qsC B) 0 a, .ro (qsC C) 0 b]⟩ :: some ⟨190, .box ([.int .i64 0, .ro (qsC r.X) 0 b, .ro (qsC r.Y) 0 a, .nil] ++ zS r.V)⟩ :: [some ⟨104, qsC (l ++ [s])⟩]) [oQ q] [(2, .ptr 0 0 0), (3, .nil), (10, .ptr 2 0 0), (17, .ptr 4 0 0), (4, .sl 5 0 (j + 1)), (97, .ro (qsC r.X) 0 b), (98, iN b), (99, iN j)] Z ⟨Z, Z, Z, Z, Z, Z, Z, Z, trivial⟩ (fun h hh => by rw [hfix] at hh; exact absurd hh id) gm_b6 Z ?_
   refine rn3 ?_
   exact zK ⟨j + 1, by omega, by omega, ⟨Z, Z, Z, Z, Z, Z, Z, Z, trivial⟩, by rw [hl2, hls]⟩
  have hje : b = j := by omega
  subst hje
  rw [show r.X.take b = r.X from List.take_of_length_le (by omega)]
  have hl0 : (zFV r.V r.X).length = b := by unfold zFV; rw [List.length_map]; exact rx
  generalize zFV r.V r.X = DX at *
  refine zHb ?_
  refine zAf 5 4 b [(2, .ptr 0 0 0), (3, .nil), (10, .ptr 2 0 0), (17, .ptr 4 0 0)] Z (zAv _) Z (by show b ≤ DX.length; omega) ⟨Z, Z, Z, Z, trivial⟩ ?_
  refine zBH (oZ :: oQ LM :: oQ AA :: some ⟨193, .box [.ro (zY A) 0 a, .ro (qsC B) 0 a, .ro (qsC C) 0 b]⟩ :: some ⟨190, .box ([.int .i64 0, .ro (qsC r.X) 0 b, .ro (qsC r.Y) 0 a, .nil] ++ zS r.V)⟩ :: []) [none] [(2, .ptr 0 0 0), (3, .nil), (10, .ptr 2 0 0), (17, .ptr 4 0 0), (4, .ro (qsC DX) 0 b)] Z ⟨Z, Z, Z, Z, Z, trivial⟩ (fun h hh => by rw [hfix] at hh; exact absurd hh id) gm_b5 Z ?_
  refine rn8 ?_
  refine zAl 3 ⟨104, qsC []⟩ Z Z ?_
  repeat (refine zAC ?_)
  refine ze (ι := Nat) (fun j => [(2, .ptr 0 0 0), (4, .ro (qsC DX) 0 b), (10, .ptr 2 0 0), (17, .ptr 4 0 0), (3, .sl 5 0 j), (112, .ro (qsC r.Y) 0 a), (113, iN a), (114, iN j)]) (fun j => oZ :: oQ LM :: oQ AA :: some ⟨193, .box [.ro (zY A) 0 a, .ro (qsC B) 0 a, .ro (qsC C) 0 b]⟩ :: some ⟨190, .box ([.int .i64 0, .ro (qsC r.X) 0 b, .ro (qsC r.Y) 0 a, .nil] ++ zS r.V)⟩ :: [some ⟨104, qsC (zFV r.V (r.Y.take j))⟩])
   (fun j => j ≤ a) (fun j => a - j) 0 ⟨⟨rfl, rfl, rfl, rfl, rfl, rfl, rfl, rfl, trivial⟩, rfl, Nat.zero_le _⟩ ?_
  intro j hj
  refine rn4 ?_
  refine zA Z (fun h => ?_) (fun h => ?_)
  ·have hj' : j < a := by omega
   have hls := zLR r.V r.Y (j := j) (by omega)
   have hll : (zFV r.V (r.Y.take j)).length = j := by unfold zFV; rw [List.length_map, List.length_take]; omega
   have ca := dY j hj'
   generalize hl2 : zFV r.V (r.Y.take (j + 1)) = l2 at *
   generalize zFV r.V (r.Y.take j) = l at *
   refine rn6 ?_
   refine zD 117 (.agg (zS (r.Y.getD j 0))) Z (AEq.of_eq Z) ?_
   generalize hqj : r.Y.getD j 0 = q at *
   refine sa1 (c' := .box (zS q)) Z Z Z Z Z Z Z ?_
   refine zO (oZ :: oQ LM :: oQ AA :: some ⟨193, .box [.ro (zY A) 0 a, .ro (qsC B) 0 a, .ro (qsC C) 0 b]⟩ :: some ⟨190, .box ([.int .i64 0, .ro (qsC r.X) 0 b, .ro (qsC r.Y) 0 a, .nil] ++ zS r.V)⟩ :: [some ⟨104, qsC l⟩, oQ q]) Z ?_
   refine rn6 ?_
   refine zB Z Z Z ca ?_
   generalize q / r.V = s at *
   unfold qA
   repeat (refine zf rfl rfl rfl rfl rfl rfl rfl rfl rfl rfl rfl ?_)
   refine zo Z Z Z Z Z Z Z Z Z hll Z Z (by show 0 + 1 ≤ 1; omega) Z (by show (j + 1) * 56 ≤ _ ∧ _; omega) ?_ (by rw [hfix]; exact fun h => h) ?_
   ·intro i' j' hi' hj'
    exact zAJ 0 3 zS zAg l s _ (zCe _) 5 i' j' hi' hj'
   refine zn (oZ :: oQ LM :: oQ AA :: some ⟨193, .box [.ro (zY A) 0 a, .ro (qsC B) 0 a, .ro (qsC C) 0 b]⟩ :: some ⟨190, .box ([.int .i64 0, .ro (qsC r.X) 0 b, .ro (qsC r.Y) 0 a, .nil] ++ zS r.V)⟩ :: [some ⟨104, qsC (l ++ [s])⟩, oQ q]) (zP.eqv (CEq.refl _) (zP.eqv (CEq.refl _) (zP.eqv (CEq.refl _) (zP.eqv (CEq.refl _) (zP.eqv (CEq.refl _) (zP.eqv (zAV 0 3 zS l s _ (zCe _)) (zP.eqv (CEq.refl _) zP.nil))))))) ?_
   refine zDp ?_
   refine zI ?_
   refine zBH (oZ :: oQ LM :: oQ AA :: some ⟨193, .box [.ro (zY A) 0 a, .ro (qsC B) 0 a, .ro (qsC C) 0 b]⟩ :: some ⟨190, .box ([.int .i64 0, .ro (qsC r.X) 0 b, .ro (qsC r.Y) 0 a, .nil] ++ zS r.V)⟩ :: [some ⟨104, qsC (l ++ [s])⟩]) [oQ q] [(2, .ptr 0 0 0), (4, .ro (qsC DX) 0 b), (10, .ptr 2 0 0), (17, .ptr 4 0 0), (3, .sl 5 0 (j + 1)), (112, .ro (qsC r.Y) 0 a), (113, iN a), (114, iN j)] Z ⟨Z, Z, Z, Z, Z, Z, Z, Z, trivial⟩ (fun h hh => by rw [hfix] at hh; exact absurd hh id) gm_b6 Z ?_
   refine rn3 ?_
   exact zK ⟨j + 1, by omega, by omega, ⟨Z, Z, Z, Z, Z, Z, Z, Z, trivial⟩, by rw [hl2, hls]⟩
  have hje : a = j := by omega
  subst hje
  rw [show r.Y.take a = r.Y from List.take_of_length_le (by omega)]
  have hl1 : (zFV r.V r.Y).length = a := by unfold zFV; rw [List.length_map]; exact ry
  generalize zFV r.V r.Y = DY at *
  refine zHb ?_
  refine zAf 5 3 a [(2, .ptr 0 0 0), (10, .ptr 2 0 0), (17, .ptr 4 0 0), (4, .ro (qsC DX) 0 b)] Z (zAv _) Z (by show a ≤ DY.length; omega) ⟨Z, Z, Z, Z, trivial⟩ ?_
  skip
  refine zh (by kernel_rfl) ?_
  refine zU 6 Z (by kernel_rfl) (by kernel_rfl) (by kernel_rfl) Z (zJ Z) Z ?_
  refine zU 7 Z (by kernel_rfl) (by kernel_rfl) (by kernel_rfl) Z (zJ Z) Z ?_
  refine zCm (fuel := 3) [0, 1, 2, 3, 4, 5] [(2, .ptr 0 0 0), (10, .ptr 2 0 0), (17, .ptr 4 0 0), (132, .ro (qsC DY) 0 a), (133, .ro (qsC DX) 0 b)] ⟨Z, Z, Z, Z, Z, trivial⟩ (by kernel_rfl) (by decide) Z Z ?_
  refine zA5 Z Z Z Z Z zCL ?_
  refine zN Z Z (zH Z Z Z Z Z Z) ?_
  refine zN Z Z (qpp Z Z Z Z Z Z Z) ?_
  refine zA5 Z Z Z Z Z d1 ?_
  refine zN Z Z (qpp Z Z Z Z Z Z Z) ?_
  refine zA5 Z Z Z Z Z s2 ?_
  refine z7 ?_
  refine zG (is := [8]) (by kernel_rfl) (by simp) Z ⟨fun o ho => ?_, trivial⟩
  all_goals (cases ho)
  skip
  generalize 1 / r.V - AA = val at *
  unfold qA
  refine sa1 (c' := .box (zS val)) Z Z Z Z Z Z Z ?_
  refine rn1 ?_
  refine zU 9 Z (by kernel_rfl) (by kernel_rfl) (by kernel_rfl) Z (zl Z) Z ?_
  refine zU 10 Z (by kernel_rfl) (by kernel_rfl) (by kernel_rfl) Z (zl Z) Z ?_
  refine zW (by kernel_rfl) ?_
  refine rn0 ?_
  exact zL hR Z Z
abbrev solA (t : ResG) : AV := .agg [.str t.1, .ro (.strs t.2.1) 0 t.2.1.length, .ro (.strs t.2.2) 0 t.2.2.length]
theorem outAllG (l : List Rat) (hl : l.length ≤ 1000000) (hs : ∀ q ∈ l, Sz 100000 q) (hf : ∀ q ∈ l, zBx q = true) : ∃ r : AV, zV Tryz.prog 63 [.ro (qsC l) 0 l.length] (.tup [r, .int .i64 0]) ∧ AEq r (.ro (.strs (l.map zr)) 0 (l.map zr).length) := by
 obtain ⟨r, h1, h2⟩ := zQ4 l hl hs
 have e : zD7 l = (l.map zr, 0) := by unfold zD7; rw [if_pos (List.all_eq_true.2 hf)]
 rw [e] at h1 h2
 exact ⟨r, h1, h2⟩
theorem one_row (v : Rat) : CEq (zBv 1 3 (zS v)) (qsC [v]) := ⟨rfl, rfl, fun i j hi hj => by
 obtain rfl : i = 0 := Nat.lt_one_iff.1 hi
 exact (zCe v j hj).symm⟩
theorem zLv (l a b r : List zu) (h : l = a ++ (b ++ r)) {i n : Nat} (hi : i = a.length) (hn : n = b.length) : AEq (.ro (.strs l) i n) (.ro (.strs b) 0 b.length) := by
 subst hn
 refine AEq.ro Z (fun d j hd hj => ?_)
 show AV.str (b.getD (0 + d) []) = AV.str (l.getD (i + d) [])
 rw [h, hi]
 simp only [List.getD]
 rw [List.getElem?_append_right (by omega), List.getElem?_append_left (by omega), Nat.add_sub_cancel_left, Nat.zero_add]
theorem zKJ (m : List (List zu)) (K L k : Nat) (hm : zCv m) (hg : zA0 m = 0) (hk : k ≤ 48) (hD : ∀ r ∈ inM m, ∀ q ∈ r, D k q) (hs : Stops (zAS (inM m) (zAH m)) K L) (hf : zLV (zAm (inM m) (zAH m) K L) = true)
 (hl : (zAm (inM m) (zAH m) K L).2.1.length = m.length ∧ (zAm (inM m) (zAH m) K L).2.2.length = zAH m) :
 zV Tryz.prog 17 [.ro (zAY m) 0 m.length] (.tup [solA (zMl (zAm (inM m) (zAH m) K L)), .int .i64 0]) := by
 have c0 := zHK m hm.1 hm.2
 rw [hg] at c0
 have hI := zE4 hg
 have hml : (inM m).length = m.length := zCG m
 have hml0 := hI.l
 have hml1 := hI.l12
 have hw0 := hI.w
 have hw1 := hI.w12
 have nm := zKM m (by omega) (fun r h => ⟨by have := hI.is.cols r h; omega, fun s hs => ⟨(hm.2 r h).2 s hs, hI.is.ok r h s hs⟩⟩)
 have cG := gameq_ok (inM m) (zAH m) k K L hI.w hI.w12 (by omega) (by omega) hI.rows hD hk hs
 rw [hml] at cG
 generalize zAm (inM m) (zAH m) K L = G at *
 obtain ⟨v, rs, cs⟩ := G
 simp only at hl cG
 obtain ⟨l1, l2⟩ := hl
 rw [← l1, ← l2] at cG
 have hfa : ∀ q ∈ v :: (rs ++ cs), zBx q = true := List.all_eq_true.1 hf
 obtain ⟨rO, oO, aO⟩ := outAllG ([v] ++ rs ++ cs) (by rw [List.length_append, List.length_append, List.length_singleton]; omega) (fun q hq => by
  have hq' : q ∈ v :: (rs ++ cs) := by simpa using hq
  have h1 := hfa q hq'
  unfold zBx at h1
  rw [Bool.and_eq_true, decide_eq_true_eq, decide_eq_true_eq] at h1
  exact zFF ((dig_D h1.1 h1.2).mono (by omega))) (fun q hq => hfa q (by simpa using hq))
 have eL : ([v] ++ rs ++ cs).length = 1 + rs.length + cs.length := by rw [List.length_append, List.length_append]; rfl
 have eT : ([v] ++ rs ++ cs).map zr = [zr v] ++ (rs.map zr ++ cs.map zr) := by rw [List.map_append, List.map_append, List.append_assoc]; rfl
 have hr1 : (rs.map zr).length = rs.length := List.length_map ..
 have hr2 : (cs.map zr).length = cs.length := List.length_map ..
 refine zT.value0 (zE (P := Tryz.prog) (fn := Tryz.f17) Z Z (by kernel_rfl) Z (fun c hR hfix => ?_)) (fix := fun _ => False) (fun _ h => h) Z Z
 refine rn4 ?_
 refine zB Z Z Z c0 ?_
 refine rn4 ?_
 refine zB Z Z Z nm ?_
 refine zD 19 (.ro (zY (inM m)) 0 rs.length) Z (AEq.of_eq (by rw [l1])) ?_
 refine zB Z Z Z cG ?_
 unfold qA
 refine rn4 ?_
 refine sa1 (c' := .box (zS v)) Z Z Z Z Z Z Z ?_
 refine rn9 ?_
 refine zCB Z Z Z Z Z Z Z Z Z Z ?_
 refine zn [some ⟨30, .box [.str [], .nil, .nil]⟩, oQ v, some ⟨104, qsC [v]⟩] (zP.eqv (CEq.refl _) (zP.eqv (CEq.refl _) (zP.eqv (one_row v) zP.nil))) ?_
 repeat (refine zF (zJ rfl) ?_)
 refine zo Z Z Z Z Z Z Z Z Z Z Z Z (by show 0 + rs.length ≤ rs.length; omega) Z (by show (1 + rs.length) * 56 ≤ _ ∧ _; omega) ?_ (by rw [hfix]; exact fun h => h) ?_
 ·intro i' j' hi' hj'
  have q := (zDX 0 3 zS [v] rs).2.2 i' j' hi' hj'
  refine (congrArg (AV.forget 2) q.symm).trans (Eq.trans ?_ q)
  exact zAg _ j' 2 hj'
 refine zn [some ⟨30, .box [.str [], .nil, .nil]⟩, oQ v, some ⟨104, qsC ([v] ++ rs)⟩] (zP.eqv (CEq.refl _) (zP.eqv (CEq.refl _) (zP.eqv (zDX 0 3 zS [v] rs) zP.nil))) ?_
 have hL1 : (qsC ([v] ++ rs)).len = 1 + rs.length := by show ([v] ++ rs).length = _; rw [List.length_append]; rfl
 repeat (refine zF (zJ rfl) ?_)
 refine zo Z Z Z Z Z Z Z Z Z hL1 Z Z (by show 0 + cs.length ≤ cs.length; omega) Z (by show (1 + rs.length + cs.length) * 56 ≤ _ ∧ _; omega) ?_ (by rw [hfix]; exact fun h => h) ?_
 ·intro i' j' hi' hj'
  have q := (zDX 0 3 zS ([v] ++ rs) cs).2.2 i' j' hi' hj'
  refine (congrArg (AV.forget 2) q.symm).trans (Eq.trans ?_ q)
  exact zAg _ j' 2 hj'
 refine zn [some ⟨30, .box [.str [], .nil, .nil]⟩, oQ v, some ⟨104, qsC ([v] ++ rs ++ cs)⟩] (zP.eqv (CEq.refl _) (zP.eqv (CEq.refl _) (zP.eqv (zDX 0 3 zS ([v] ++ rs) cs) zP.nil))) ?_
 clear hL1
 refine zCx 2 30 (1 + rs.length + cs.length) [(2, .ptr 0 0 0), (6, .ro (qsC rs) 0 rs.length), (7, .ro (qsC cs) 0 cs.length)] Z (zAv _) Z (by show 1 + rs.length + cs.length ≤ ([v] ++ rs ++ cs).length; omega) ⟨Z, Z, Z, trivial⟩ ?_
 refine zD 30 (.ro (qsC ([v] ++ rs ++ cs)) 0 ([v] ++ rs ++ cs).length) Z (AEq.of_eq (by rw [eL])) ?_
 refine zB Z Z Z oO ?_
 refine zD 31 (.tup [.ro (.strs (([v] ++ rs ++ cs).map zr)) 0 (([v] ++ rs ++ cs).map zr).length, .int .i64 0]) Z (AEq.tup2 aO) ?_
 have eTl : (([v] ++ rs ++ cs).map zr).length = 1 + rs.length + cs.length := by rw [List.length_map]; exact eL
 have e0 : (([v] ++ rs ++ cs).map zr).getD 0 [] = zr v := rfl
 generalize ([v] ++ rs ++ cs).map zr = LT at *
 refine rn4 ?_
 refine zh (by kernel_rfl) ?_
 refine zCm (fuel := 2) [0, 1, 2, 3, 4, 5, 6, 7, 8, 9, 10, 11, 12, 13] [(2, .ptr 0 0 0), (8, .ro (.strs LT) 0 LT.length), (10, iN rs.length)] ⟨Z, Z, Z, trivial⟩ (by kernel_rfl) (by decide) Z Z ?_
 refine zN Z Z (zJ Z) ?_
 refine zN Z Z (z8 Z Z Z Z (by first | (simp only [Nat.zero_add, Int.toNat_natCast, Int.toNat_zero]; exact Z) | exact Z) (by omega)) ?_
 refine zN Z Z (zHz Z Z Z) ?_
 refine zN Z Z (zJ Z) ?_
 refine zN Z Z (zJ Z) ?_
 refine zN Z Z (zCF Z Z (by omega)) ?_
 refine zN Z Z (zJ Z) ?_
 refine zN Z Z (zCF Z Z (by omega)) ?_
 refine zN Z Z (zNo Z Z Z Z Z Z ⟨by omega, by omega, by omega, by omega⟩) ?_
 refine zN Z Z (zJ Z) ?_
 refine zN Z Z (zJ Z) ?_
 refine zN Z Z (zCF Z Z (by omega)) ?_
 refine zN Z Z (zH0 Z Z Z Z Z Z Z (by omega)) ?_
 refine zN Z Z (zBI Z Z Z Z Z Z) ?_
 refine z7 ?_
 refine zG (is := [14]) (by kernel_rfl) (by simp) Z ⟨fun o ho => ?_, trivial⟩
 all_goals (cases ho)
 skip
 refine zD 53 (.agg [.str (zr v), .ro (.strs (rs.map zr)) 0 (rs.map zr).length, .ro (.strs (cs.map zr)) 0 (cs.map zr).length]) Z (AEq_agg ⟨AEq.of_eq (by show AV.str _ = AV.str _; rw [← e0]), zLv _ _ _ _ eT Z (by omega), zLv _ ([zr v] ++ rs.map zr) _ [] (by rw [eT]; simp) (by rw [List.length_append, List.length_singleton]; omega) (by omega), trivial⟩) ?_
 refine sa1 (c' := .box [.str (zr v), .ro (.strs (rs.map zr)) 0 (rs.map zr).length, .ro (.strs (cs.map zr)) 0 (cs.map zr).length]) Z Z Z Z Z Z Z ?_
 refine rn1 ?_
 refine zU 15 Z (by kernel_rfl) (by kernel_rfl) (by kernel_rfl) Z (zl Z) Z ?_
 refine zW (by kernel_rfl) ?_
 refine rn0 ?_
 exact zL hR Z Z
end Go.Proofs.YtkncmbklkhjmgaaGreatDoor
namespace Go.Proofs.YtkncmbklkhjmgaaGreatDoor
open Go.Ax Go.Ax.Bg Go.Ax.Rt Go.RowKit Go.Ax.Idx Go.Ax.Cd
attribute [local irreducible] Ax zBk QOp zT zBR
def pennT : List (List zu) := [[[49], [45, 49]], [[45, 49], [49]]]
theorem zO6 : zV Tryz.prog 53 [] (.ro (zAY pennT) 0 2) := by
 refine zT.value0 (zE (P := Tryz.prog) (fn := Tryz.f53) Z Z (by kernel_rfl) Z (fun c hR hfix => ?_)) (fix := fun _ => False) (fun _ h => h) Z Z
 refine rn15 ?_
 refine zAB 0 (.ro (zAY pennT) 0 2) Z (AEq.ro Z (fun d j hd hj => ?_)) ?_
 ·have hd2 : d = 0 ∨ d = 1 := by omega
  have hj3 : j = 0 := by have hj : j < 1 := hj; omega
  subst hj3
  rcases hd2 with rfl | rfl <;> rfl
 repeat (refine zBW ?_)
 exact zL hR Z Z
end Go.Proofs.YtkncmbklkhjmgaaGreatDoor
namespace Go.Proofs.YtkncmbklkhjmgaaGreatDoor
open Go.Ax Go.Ax.Bg Go.Ax.Rt Go.RowKit Go.Ax.Dt Go.Ax.Sx Go.Ax.Mg
attribute [local irreducible] Ax zBk QOp zT zBR
/-- where the first element is a saddle -/
theorem zPF (m : List (List zu)) (hm : zCv m) (hg : zA0 m = 0) (h1 : ∀ j, j < zAH m → zCn (((inM m).getD 0 []).getD 0 0) (((inM m).getD 0 []).getD j 0) ≤ 0) (h2 : ∀ j, j < m.length → 0 ≤ zCn (((inM m).getD 0 []).getD 0 0) (((inM m).getD j []).getD 0 0)) :
 zV Tryz.prog 54 [.ro (zAY m) 0 m.length] (.tup [.int .i64 0, .int .i64 0, .int .i64 0]) := by
 have c0 := zHK m hm.1 hm.2
 rw [hg] at c0
 have hI := zE4 hg
 have hml : (inM m).length = m.length := zCG m
 have hml0 := hI.l
 have hml1 := hI.l12
 have hw0 := hI.w
 have hw1 := hI.w12
 have nm := zKM m (by omega) (fun r h => ⟨by have := hI.is.cols r h; omega, fun s hs => ⟨(hm.2 r h).2 s hs, hI.is.ok r h s hs⟩⟩)
 have hv := zIv (zE2 hg).1
 have hel : ∀ i j, i < m.length → j < zAH m → Sz 100000 (((inM m).getD i []).getD j 0) := fun i j hi hj => by
  obtain ⟨v1, v2⟩ := hv _ (zAL [] (show i < (inM m).length by omega))
  exact zFF ((v2 _ (zAA 0 (by omega))).mono (by omega))
 have hrow : ∀ i, i < m.length → ((inM m).getD i []).length = zAH m := fun i hi => (hv _ (zAL [] (show i < (inM m).length by omega))).1
 clear hv
 refine zT.value0 (zE (P := Tryz.prog) (fn := Tryz.f54) Z Z (by kernel_rfl) Z (fun c hR hfix => ?_)) (fix := fun _ => False) (fun _ h => h) Z Z
 generalize inM m = M at *
 generalize zAH m = w at *
 generalize m.length = n at *
 refine rn0 ?_
 refine zB Z Z Z c0 ?_
 refine rn4 ?_
 refine zB Z Z Z nm ?_
 refine rn3 ?_
 refine ze (ι := Unit) (fun _ => [(6, .ro (zY M) 0 n), (21, .ro (zY M) 0 n), (22, iN n), (23, .int .i64 0)]) (fun _ => []) (fun _ => True) (fun _ => 0) () ⟨⟨Z, Z, Z, Z, trivial⟩, Z, trivial⟩ ?_
 rintro _ _
 refine rn4 ?_
 refine zA Z (fun h => ?_) (fun h => absurd (show (0 : Int) < (n : Nat) by omega) h)
 have hr0 := hrow 0 hml0
 refine rn6 ?_
 refine zAB 8 (.ro (qsC (M.getD 0 [])) 0 w) Z (AEq.of_eq (by show AV.ro (qsC (M.getD 0 [])) 0 (M.getD 0 []).length = _; rw [hr0])) ?_
 skip
 refine zAB 28 (.ro (qsC (M.getD 0 [])) 0 w) Z (AEq.of_eq (by show AV.ro (qsC (M.getD 0 [])) 0 (M.getD 0 []).length = _; rw [hr0])) ?_
 refine zAB 29 (iN w) Z (AEq.of_eq (by rw [hr0])) ?_
 refine ze (ι := Unit) (fun _ => [(6, .ro (zY M) 0 n), (7, .int .i64 0), (8, .ro (qsC (M.getD 0 [])) 0 w), (28, .ro (qsC (M.getD 0 [])) 0 w), (29, iN w), (30, .int .i64 0)]) (fun _ => []) (fun _ => True) (fun _ => 0) () ⟨⟨Z, Z, Z, Z, Z, Z, trivial⟩, Z, trivial⟩ ?_
 rintro _ _
 refine rn4 ?_
 refine zA Z (fun h => ?_) (fun h => absurd (show (0 : Int) < (w : Nat) by omega) h)
 refine rn6 ?_
 refine zD 34 (.agg (zS ((M.getD 0 []).getD 0 0))) Z (AEq.of_eq Z) ?_
 skip
 refine sa1 (c' := .box (zS ((M.getD 0 []).getD 0 0))) Z Z Z Z Z Z Z ?_
 refine rn3 ?_
 refine ze (ι := Nat) (fun j => [(6, .ro (zY M) 0 n), (7, .int .i64 0), (8, .ro (qsC (M.getD 0 [])) 0 w), (9, .int .i64 0), (10, .ptr 0 0 0), (11, .bool true), (35, .ro (qsC (M.getD 0 [])) 0 w), (36, iN w), (37, iN j)]) (fun _ => [oQ ((M.getD 0 []).getD 0 0)]) (fun j => j ≤ w) (fun j => w - j) 0 ⟨⟨Z, Z, Z, Z, Z, Z, Z, Z, Z, trivial⟩, Z, Nat.zero_le _⟩ ?_
 intro j hj
 refine rn4 ?_
 refine zA Z (fun h => ?_) (fun h => ?_)
 ·have hj' : j < w := by omega
  have cq := zGM ((M.getD 0 []).getD 0 0) ((M.getD 0 []).getD j 0) (hel 0 0 hml0 hw0) (hel 0 j hml0 hj')
  have hc := h1 j hj'
  refine rn1 ?_
  refine zh (by kernel_rfl) ?_
  refine zU 0 Z (by kernel_rfl) (by kernel_rfl) (by kernel_rfl) Z (zJ Z) Z ?_
  refine zU 1 Z (by kernel_rfl) (by kernel_rfl) (by kernel_rfl) Z (zJ Z) Z ?_
  refine zp (fuel := 0) [2, 3, 4, 5, 6, 7, 8, 9, 10] [(6, .ro (zY M) 0 n), (7, .int .i64 0), (8, .ro (qsC (M.getD 0 [])) 0 w), (9, .int .i64 0), (10, .ptr 0 0 0), (41, .bool true), (12, iN j), (35, .ro (qsC (M.getD 0 [])) 0 w), (36, iN w), (37, iN j)] ⟨Z, Z, Z, Z, Z, Z, Z, Z, Z, Z, trivial⟩ (by kernel_rfl) (by decide) Z Z ?_
  refine zAQ Z Z Z Z (qpp Z Z Z Z Z Z Z) ?_
  refine zAQ Z Z Z Z (zJ Z) ?_
  refine zAQ Z Z Z Z (zJ Z) ?_
  refine zAQ Z Z Z Z (z8 Z Z Z Z (by first | (simp only [Nat.zero_add, Int.toNat_natCast, Int.toNat_zero]; exact Z) | exact Z) (by omega)) ?_
  refine zAQ Z Z Z Z (zA6 Z Z Z Z Z Z) ?_
  refine zHf Z Z Z Z Z Z Z cq ?_
  refine zAQ Z Z Z Z (q_leq Z Z) ?_
  refine zN Z Z (zA9 Z Z) ?_
  refine zN Z Z (zl Z) ?_
  refine z7 ?_
  refine zW (by kernel_rfl) ?_
  refine rn5 ?_
  exact zK ⟨j + 1, by omega, by omega, ⟨Z, Z, Z, Z, Z, congrArg (fun b => some (AV.bool b)) (decide_eq_true hc), Z, Z, Z, trivial⟩, Z⟩
 ·refine rn5 ?_
  refine ze (ι := Nat) (fun j => [(6, .ro (zY M) 0 n), (7, .int .i64 0), (8, .ro (qsC (M.getD 0 [])) 0 w), (9, .int .i64 0), (10, .ptr 0 0 0), (11, .bool true), (51, .ro (zY M) 0 n), (52, iN n), (53, iN j)]) (fun _ => [oQ ((M.getD 0 []).getD 0 0)]) (fun j => j ≤ n) (fun j => n - j) 0 ⟨⟨Z, Z, Z, Z, Z, Z, Z, Z, Z, trivial⟩, Z, Nat.zero_le _⟩ ?_
  intro j hj
  refine rn4 ?_
  refine zA Z (fun h => ?_) (fun h => ?_)
  ·have hj' : j < n := by omega
   have cq := zGM ((M.getD 0 []).getD 0 0) ((M.getD j []).getD 0 0) (hel 0 0 hml0 hw0) (hel j 0 hj' hw0)
   have hc := h2 j hj'
   have hrj := hrow j hj'
   have hpos : 0 < (M.getD j []).length := by omega
   refine rn1 ?_
   refine zh (by kernel_rfl) ?_
   refine zU 0 Z (by kernel_rfl) (by kernel_rfl) (by kernel_rfl) Z (zJ Z) Z ?_
   refine zU 1 Z (by kernel_rfl) (by kernel_rfl) (by kernel_rfl) Z (zJ Z) Z ?_
   refine zp (fuel := 0) [2, 3, 4, 5, 6, 7, 8, 9, 10, 11, 12, 13] [(6, .ro (zY M) 0 n), (7, .int .i64 0), (8, .ro (qsC (M.getD 0 [])) 0 w), (9, .int .i64 0), (10, .ptr 0 0 0), (57, .bool true), (13, iN j), (51, .ro (zY M) 0 n), (52, iN n), (53, iN j)] ⟨Z, Z, Z, Z, Z, Z, Z, Z, Z, Z, trivial⟩ (by kernel_rfl) (by decide) Z Z ?_
   refine zAQ Z Z Z Z (qpp Z Z Z Z Z Z Z) ?_
   refine zAQ Z Z Z Z (zJ Z) ?_
   refine zAQ Z Z Z Z (zJ Z) ?_
   refine zAQ Z Z Z Z (z8 Z Z Z Z (by first | (simp only [Nat.zero_add, Int.toNat_natCast, Int.toNat_zero]; exact Z) | exact Z) (by omega)) ?_
   refine zAQ Z Z Z Z (zCX Z Z Z Z) ?_
   refine zAQ Z Z Z Z (zJ Z) ?_
   refine zAQ Z Z Z Z (z8 Z Z Z Z (by first | (simp only [Nat.zero_add, Int.toNat_natCast, Int.toNat_zero]; exact Z) | exact Z) (by omega)) ?_
   refine zAQ Z Z Z Z (zA6 Z Z Z Z Z Z) ?_
   refine zHf Z Z Z Z Z Z Z cq ?_
   refine zAQ Z Z Z Z (zIh Z Z) ?_
   refine zN Z Z (zA9 Z Z) ?_
   refine zN Z Z (zl Z) ?_
   refine z7 ?_
   refine zW (by kernel_rfl) ?_
   refine rn5 ?_
   exact zK ⟨j + 1, by omega, by omega, ⟨Z, Z, Z, Z, Z, congrArg (fun b => some (AV.bool b)) (decide_eq_true hc), Z, Z, Z, trivial⟩, Z⟩
  ·refine rn6 ?_
   exact zL hR Z Z
theorem fineI4 : zV Tryz.prog 25 [.ro (.ints .i64 [0, 0, 0, 0]) 0 4] (.bool true) := fineI [0, 0, 0, 0] (by decide)
theorem zKl {m : List (List zu)} (h1 : m.length ≤ 1000) (h2 : m.all (fun r => decide (r.length ≤ 1000) && r.all (fun s => decide (s.length ≤ 1000))) = true) : zCv m := by
 refine ⟨by omega, fun r hr => ?_⟩
 have := List.all_eq_true.1 h2 r hr
 rw [Bool.and_eq_true, decide_eq_true_eq, List.all_eq_true] at this
 exact ⟨by omega, fun s hs => by have := this.2 s hs; rw [decide_eq_true_eq] at this; omega⟩
theorem zDz {r : List zu} (h1 : r.length ≤ 1000) (h2 : r.all (fun s => decide (s.length ≤ 1000)) = true) : zEa r :=
 ⟨by omega, fun s hs => by have := List.all_eq_true.1 h2 s hs; rw [decide_eq_true_eq] at this; omega⟩
theorem pen_D : ∀ r ∈ inM zDo, ∀ q ∈ r, D 48 q := by
 have h : (inM zDo).all (fun r => r.all (fun q => decide (q.num.natAbs < 10 ^ 48) && decide (q.den < 10 ^ 48))) = true := by decide +kernel
 intro r hr q hq
 have := List.all_eq_true.1 (List.all_eq_true.1 h r hr) q hq
 rw [Bool.and_eq_true, decide_eq_true_eq, decide_eq_true_eq] at this
 exact ⟨this.1, this.2⟩
theorem zGr : zV Tryz.prog 15 [] (.bool true) := by
 have pk : zV Tryz.prog 53 [] (.ro (zAY zDo) 0 2) := zO6
 have sp : zCv zDo := zKl (by decide) (by decide)
 have ss : zCv sadT := zKl (by decide) (by decide)
 have c1 := zKJ zDo 0 2 48 sp zKP (by decide) pen_D zQ8 (by rw [pen_q]; decide +kernel) (by rw [pen_q]; exact ⟨rfl, by decide⟩)
 have e1 : zMl (zAm (inM zDo) (zAH zDo) 0 2) = ([48], [zAk, zAk], [zAk, zAk]) := by
  have := zQ7
  unfold zGP at this
  rw [if_neg (fun q => q zKP), if_pos (by rw [pen_q]; decide +kernel)] at this
  exact (Prod.mk.inj this).1
 rw [e1] at c1
 have c2 := pay_ok zDo [[49], [48]] [[49], [48]] sp (zDz (by decide) (by decide)) (zDz (by decide) (by decide))
 rw [pen_pay] at c2
 have c3 := zPF sadT ss zN1 (by decide +kernel) (by decide +kernel)
 have c4 := zIP sadT ss
 have e4 : domR sadT = ([1], 0) := by
  unfold domR
  rw [if_neg (fun q => q zN1), show sadT.length = (inM sadT).length from rfl, zND, sad_dom]
  rfl
 rw [e4] at c4
 have c5 := zKK zDo [48] [zAk, zAk] [zAk, zAk] sp (by decide) (zDz (by decide) (by decide)) (zDz (by decide) (by decide))
 rw [pen_ver] at c5
 have c6 := zKK zDo [49] [zAk, zAk] [zAk, zAk] sp (by decide) (zDz (by decide) (by decide)) (zDz (by decide) (by decide))
 rw [pen_bad] at c6
 have c7 := zHK [] (by decide) (fun r h => by cases h)
 rw [show zA0 [] = 8 by decide] at c7
 have v1 := equalV [zAk, zAk] [zAk, zAk] (by decide) (by decide)
 have v2 := equalI [1] [1] (by decide) (by decide)
 rw [decide_eq_true rfl] at v1 v2
 refine zT.value0 (zE (P := Tryz.prog) (fn := Tryz.f15) Z Z (by kernel_rfl) Z (fun c hR hfix => ?_)) (fix := fun _ => False) (fun _ h => h) Z Z
 refine rn0 ?_
 refine zB Z Z Z pk ?_
 refine zB Z Z Z c1 ?_
 refine rn4 ?_
 refine sa1 (c' := .box [.str [48], .ro (.strs [zAk, zAk]) 0 2, .ro (.strs [zAk, zAk]) 0 2]) Z Z Z Z Z Z Z ?_
 refine rn0 ?_
 refine zB Z Z Z pk ?_
 repeat (refine zf rfl rfl rfl rfl rfl rfl rfl rfl rfl rfl rfl ?_)
 refine zB Z Z Z c2 ?_
 unfold pairA
 refine rn3 ?_
 refine zD 26 (.ro (zAY sadT) 0 2) Z (AEq.ro Z (fun d j hd hj => ?_)) ?_
 ·have hd2 : d = 0 ∨ d = 1 := by omega
  have hj3 : j = 0 := by have hj : j < 1 := hj; omega
  subst hj3
  rcases hd2 with rfl | rfl <;> rfl
 refine zB Z Z Z c3 ?_
 refine rn3 ?_
 refine zD 34 (.ro (zAY sadT) 0 2) Z (AEq.ro Z (fun d j hd hj => ?_)) ?_
 ·have hd2 : d = 0 ∨ d = 1 := by omega
  have hj3 : j = 0 := by have hj : j < 1 := hj; omega
  subst hj3
  rcases hd2 with rfl | rfl <;> rfl
 refine zB Z Z Z c4 ?_
 unfold domA
 refine rn6 ?_
 refine sa1 (c' := .box [.str [48], .ro (.strs [zAk, zAk]) 0 2, .ro (.strs [zAk, zAk]) 0 2]) Z Z Z Z Z Z Z ?_
 refine rn8 ?_
 refine zAi [some ⟨30, .box [.str [48], .ro (.strs [zAk, zAk]) 0 2, .ro (.strs [zAk, zAk]) 0 2]⟩, some ⟨30, .box [.str [49], .ro (.strs [zAk, zAk]) 0 2, .ro (.strs [zAk, zAk]) 0 2]⟩] Z ?_
 refine zh (by kernel_rfl) ?_
 refine zCm (fuel := 0) [0, 1, 2, 3, 4, 5, 6, 7, 8, 9, 10, 11, 12, 13, 14, 15, 16, 17, 18, 19, 20, 21, 22, 23, 24, 25, 26, 27, 28, 29, 30, 31, 32, 33, 34, 35, 36, 37, 38, 39, 40, 41, 42, 43, 44, 45, 46, 47, 48, 49, 50] [(1, .ptr 0 0 0), (2, .int .i64 0), (3, .str [49]), (4, .int .i64 0), (5, .int .i64 0), (6, .int .i64 0), (7, .int .i64 0), (8, .ro (.ints .i64 [1]) 0 1), (9, .int .i64 0), (10, .ptr 1 0 0)] ⟨Z, Z, Z, Z, Z, Z, Z, Z, Z, Z, trivial⟩ (by kernel_rfl) (by decide) Z Z ?_
 refine zN Z Z (zJ Z) ?_
 refine zN Z Z (zJ Z) ?_
 refine zN Z Z (zJ Z) ?_
 refine zN Z Z (zJ Z) ?_
 refine px_b Z Z Z Z Z Z Z Z Z Z Z Z Z ?_
 refine zA5 Z Z Z Z Z fineI4 ?_
 refine zN Z Z (zJ Z) ?_
 refine zAQ Z Z Z Z (zH Z Z Z Z Z Z) ?_
 refine zAQ Z Z Z Z (zX Z Z Z Z Z) ?_
 refine zAQ Z Z Z Z (zFw Z Z) ?_
 refine zN Z Z (zA9 Z Z) ?_
 refine zN Z Z (zJ Z) ?_
 refine zAQ Z Z Z Z (zH Z Z Z Z Z Z) ?_
 refine zAQ Z Z Z Z (zX Z Z Z Z Z) ?_
 refine px_gb Z Z Z Z Z Z Z Z Z Z Z Z Z Z Z ?_
 refine zHf Z Z Z Z Z Z Z v1 ?_
 refine zN Z Z (zA9 Z Z) ?_
 refine zN Z Z (zJ Z) ?_
 refine zAQ Z Z Z Z (zJ Z) ?_
 refine zAQ Z Z Z Z (zFw Z Z) ?_
 refine zN Z Z (zA9 Z Z) ?_
 refine zN Z Z (zJ Z) ?_
 refine zAQ Z Z Z Z (zJ Z) ?_
 refine zAQ Z Z Z Z (zDr Z Z) ?_
 refine zN Z Z (zA9 Z Z) ?_
 refine zN Z Z (zJ Z) ?_
 refine zAQ Z Z Z Z (zJ Z) ?_
 refine zAQ Z Z Z Z (zDr Z Z) ?_
 refine zN Z Z (zA9 Z Z) ?_
 refine zN Z Z (zJ Z) ?_
 refine zAQ Z Z Z Z (zJ Z) ?_
 refine px_gb Z Z Z Z Z Z Z Z Z Z Z Z Z Z Z ?_
 refine zHf Z Z Z Z Z Z Z v2 ?_
 refine zN Z Z (zA9 Z Z) ?_
 refine zN Z Z (zJ Z) ?_
 refine zHf Z Z Z Z Z Z Z pk ?_
 refine zAQ Z Z Z Z (qpp Z Z Z Z Z Z Z) ?_
 refine zHf Z Z Z Z Z Z Z c5 ?_
 refine zAQ Z Z Z Z (zDr Z Z) ?_
 refine zN Z Z (zA9 Z Z) ?_
 refine zN Z Z (zJ Z) ?_
 refine zHf Z Z Z Z Z Z Z pk ?_
 refine zAQ Z Z Z Z (qpp Z Z Z Z Z Z Z) ?_
 refine zHf Z Z Z Z Z Z Z c6 ?_
 refine zAQ Z Z Z Z (zDr Z Z) ?_
 refine zN Z Z (zA9 Z Z) ?_
 refine zN Z Z (zJ Z) ?_
 refine zHf Z Z Z Z Z Z Z (fun H => zT.args (c7 H) ⟨AEq.nil, trivial⟩) ?_
 refine zAQ Z Z Z Z (zDr Z Z) ?_
 refine zN Z Z (zA9 Z Z) ?_
 refine zN Z Z (zl Z) ?_
 refine z7 ?_
 refine zW (by kernel_rfl) ?_
 refine rn0 ?_
 exact zL hR Z Z
theorem zG6 {q : Rat} (h : zBx q = true) : (zr q).length ≤ 9223372036854775807 := by
 have hf := h
 unfold zBx at hf
 rw [Bool.and_eq_true, decide_eq_true_eq, decide_eq_true_eq] at hf
 unfold zr
 rw [List.length_append, List.length_append]
 split <;> split <;> simp <;> omega
/-- a small game that is solved -/
structure Gsol (m : List (List zu)) (K L : Nat) (v : zu) (rs cs : List zu) : Prop where
 s : Solv m K L
 eq : zGP m K L = ((v, rs, cs), 0)
 vl : v.length ≤ 9223372036854775807
 rl : zEa rs
 cl : zEa cs
 call : zV Tryz.prog 17 [.ro (zAY m) 0 m.length] (.tup [.agg [.str v, .ro (.strs rs) 0 rs.length, .ro (.strs cs) 0 cs.length], .int .i64 0])
theorem gsol (m : List (List zu)) (n k : Nat) (hn : n ≤ 5) (hm : zCv m) (hg : zA0 m = 0) (hk : k ≤ 48) (hD : ∀ r ∈ inM m, ∀ q ∈ r, D k q) (S : ∀ K L, Stops (zAS (inM m) (zAH m)) K L → Solv m K L) : ∃ K L v rs cs, Stops (zAS (inM m) (zAH m)) K L ∧ Gsol m K L v rs cs := by
 have hI := zE4 hg
 obtain ⟨K, L, hs⟩ := runs (zAS (inM m) (zAH m)) (zFq hI.rows)
 have T := S K L hs
 have hf : zLV (zAm (inM m) (zAH m) K L) = true := by
  have := T.eq
  unfold zGP at this
  rw [if_neg (fun q => q hg)] at this
  split at this
  ·assumption
  ·cases (Prod.mk.inj this).2
 have hl1 := T.sad.xl
 have hl2 := T.sad.yl
 rw [zCG] at hl1
 have c := zKJ m K L k hm hg hk hD hs hf ⟨hl1, hl2⟩
 have hfa : ∀ q ∈ (zAm (inM m) (zAH m) K L).1 :: ((zAm (inM m) (zAH m) K L).2.1 ++ (zAm (inM m) (zAH m) K L).2.2), zBx q = true := List.all_eq_true.1 hf
 refine ⟨K, L, _, _, _, hs, T, T.eq, zG6 (hfa _ (List.mem_cons_self ..)), ⟨?_, fun s hs => ?_⟩, ⟨?_, fun s hs => ?_⟩, c⟩
 ·show (List.map _ _).length ≤ _
  have := hI.l12
  rw [List.length_map, hl1]; omega
 ·obtain ⟨q, hq, rfl⟩ := List.mem_map.1 hs
  exact zG6 (hfa _ (List.mem_cons_of_mem _ (List.mem_append_left _ hq)))
 ·show (List.map _ _).length ≤ _
  have := hI.w12
  rw [List.length_map, hl2]; omega
 ·obtain ⟨q, hq, rfl⟩ := List.mem_map.1 hs
  exact zG6 (hfa _ (List.mem_cons_of_mem _ (List.mem_append_right _ hq)))
theorem zQr (m : List (List zu)) (n : Nat) (hn : n ≤ 5) (hm : zCv m) (hg : zA0 m = 0) (ht : zH4 n 12 m = true) : ∃ K L v rs cs, Stops (zAS (inM m) (zAH m)) K L ∧ Gsol m K L v rs cs := by
 obtain ⟨t1, t2⟩ := zHV ht
 exact gsol m n 48 hn hm hg (by decide) (fun r hr q hq => (inM_D (zE4 hg).is (fun v hv => (t2 v hv).2) (by decide) r hr q hq).mono (by decide)) (fun K L hs => zJN hn hg ht hs)
theorem mats1 (m : List (List zu)) : AEq (.ro (zBv 1 1 [.ro (zAY m) 0 m.length]) 0 1) (.ro (zNT [m]) 0 1) := AEq.ro rfl (fun d j hd hj => by
 obtain rfl : d = 0 := by omega
 have hj3 : j = 0 := by have hj : j < 1 := hj; omega
 subst hj3
 rfl)
theorem zME (r : List zu) (j h : Nat) (hj : j < 1) : ((zM1 r).getD j .any).forget h = (zM1 r).getD j .any := by
 obtain rfl : j = 0 := by omega
 rfl
theorem fineI2 : zV Tryz.prog 25 [.ro (.ints .i64 [0, 0]) 0 2] (.bool true) := fineI [0, 0] (by decide)
theorem cloneT (l : List (List zu)) (hl : l.length ≤ 1000000) : zMo Tryz.prog 24 [.ro (zAY l) 0 l.length] (fun N => .sl N 0 l.length) ⟨28, zAY l⟩ := by
 refine zT.fresh (K := fun r H => r = .sl 0 0 l.length ∧ H = [some ⟨28, zAY l⟩]) (zE (P := Tryz.prog) (fn := Tryz.f24) Z Z (by kernel_rfl) Z (fun c hR hfix => ?_)) (fix := fun _ => False) (fun _ h => h) Z (fun H => ⟨Z, by simp [zIY, inB]⟩) ?_
 ·refine rn0 ?_
  refine zJ7 Z Z Z (fun b hb => ?_)
  refine rn0 ?_
  refine zD4 Z (fun h => ?_) (fun h => ?_)
  ·have := hb h
   have hn : l = [] := List.length_eq_zero_iff.mp this
   subst hn
   refine rn7 ?_
   refine zAl 2 ⟨28, zAY []⟩ Z Z ?_
   refine rn2 ?_
   exact zL hR Z ⟨Z, Z⟩
  ·refine rn1 ?_
   refine zCB Z Z Z Z Z Z Z Z Z Z ?_
   refine zn [some ⟨28, zAY []⟩] (zP.eqv ⟨Z, Z, fun i j hi => absurd hi (Nat.not_lt_zero _)⟩ zP.nil) ?_
   repeat (refine zF (zJ rfl) ?_)
   refine zo Z Z Z Z Z Z Z Z Z Z Z Z (by show 0 + l.length ≤ l.length; omega) Z (by show (0 + l.length) * 24 ≤ _ ∧ _; omega) ?_ (by rw [hfix]; exact fun h => h) ?_
   ·intro i' j' hi' hj'
    have q := (zDX [] 1 zM1 [] l).2.2 i' j' hi' hj'
    refine (congrArg (AV.forget 0) q.symm).trans (Eq.trans ?_ q)
    exact zME _ j' 0 hj'
   refine zn [some ⟨28, zAY l⟩] (zP.eqv (zDX [] 1 zM1 [] l) zP.nil) ?_
   refine rn0 ?_
   refine zL hR Z ⟨?_, Z⟩
   show AV.sl 0 0 (0 + l.length) = _; rw [Nat.zero_add]
 ·rintro r H ⟨rfl, rfl⟩
  refine ⟨?_, fun h o ho => zJd (zHh _) h o ho, 0, Z, fun n => rfl⟩
  intro o ho; simp at ho; subst ho; show 0 + l.length ≤ l.length; omega
theorem zNz (l : List (List zu)) (i : Nat) : (zAY l).at i 0 = .ro (.strs (l.getD i [])) 0 (l.getD i []).length := rfl
theorem zKB {α : Type} {l : List α} {i : Nat} (hi : i < l.length) (x : α) (j : Nat) (d : α) (hj : j < l.length) : (zBN l i ++ [x]).getD j d = if j + 1 = l.length then x else l.getD (Mg.skip i j) d := by
 have hl := zF8 hi
 by_cases h : j + 1 = l.length
 ·rw [if_pos h, List.getD_eq_getElem?_getD, List.getElem?_append_right (by omega), show j - (zBN l i).length = 0 by omega]; rfl
 ·rw [if_neg h, zHM d (by omega), zMI hi]
theorem zM7 (m : List (List zu)) (i : Nat) (hi : i < m.length) (i' j' : Nat) (hi' : i' < m.length) (hj' : j' < 1) : (zAY (zBN m i ++ [m.getD (m.length - 1) []])).at i' j' = if i ≤ i' ∧ i' < i + (m.length - (i + 1)) then (zAY m).at (i + 1 + (i' - i)) j' else (zAY m).at i' j' := by
 obtain rfl : j' = 0 := by omega
 simp only [zNz]
 rw [zKB hi _ _ _ hi']
 by_cases h : i' + 1 = m.length
 ·rw [if_pos h, if_neg (by omega), show m.length - 1 = i' by omega]
 ·rw [if_neg h]
  unfold Mg.skip
  by_cases h2 : i' < i
  ·rw [if_pos h2, if_neg (by omega)]
  ·rw [if_neg h2, if_pos (by omega), show i + 1 + (i' - i) = i' + 1 by omega]
theorem zQc (m : List (List zu)) (i : Nat) (hi : i < m.length) (hge : m.length ≤ i + 1) (i' j' : Nat) (hi' : i' < m.length) (hj' : j' < 1) : (zAY (zBN m i ++ [m.getD (m.length - 1) []])).at i' j' = if i ≤ i' ∧ i' < i + (m.length - (i + 1)) then (zAY m).at (0 + (i' - i)) j' else (zAY m).at i' j' := by
 rw [zM7 m i hi i' j' hi' hj', if_neg (by omega), if_neg (by omega)]
theorem zLP (m : List (List zu)) (i : Nat) (hi : i < m.length) : CEq (.fn (zBN m i ++ [m.getD (m.length - 1) []]).length 1 (fun i' j' => bif Nat.beq i' (m.length - 1) && Nat.beq j' 0 then .ro (.strs []) 0 0 else (zAY (zBN m i ++ [m.getD (m.length - 1) []])).at i' j')) (zAY (zBN m i ++ [[]])) := by
 have hl := zF8 hi
 have hc : ∀ x : List zu, (zBN m i ++ [x]).length = m.length := fun x => by rw [List.length_append]; show _ + 1 = _; omega
 refine ⟨(hc _).trans (hc _).symm, Z, fun i' j' hi' hj' => ?_⟩
 have hj : j' < 1 := hj'
 obtain rfl : j' = 0 := by omega
 have hi2 : i' < m.length := by have : i' < (zBN m i ++ [m.getD (m.length - 1) []]).length := hi'; rw [hc] at this; exact this
 show (zAY (zBN m i ++ [[]])).at i' 0 = (bif Nat.beq i' (m.length - 1) && Nat.beq 0 0 then AV.ro (.strs []) 0 0 else (zAY (zBN m i ++ [m.getD (m.length - 1) []])).at i' 0)
 simp only [zNz]
 rw [zKB hi _ _ _ hi2, zKB hi _ _ _ hi2]
 by_cases h : i' + 1 = m.length
 ·rw [if_pos h, if_pos h, show Nat.beq i' (m.length - 1) = true from Nat.beq_eq.mpr (by omega)]; rfl
 ·rw [if_neg h, if_neg h, show Nat.beq i' (m.length - 1) = false from Bool.eq_false_iff.2 (fun q => by have := Nat.eq_of_beq_eq_true q; omega)]; rfl
theorem zM8 (m : List (List zu)) (i : Nat) (hi : i < m.length) (x : List zu) : (zBN m i ++ [x]).length = m.length := by
 have := zF8 hi
 rw [List.length_append]; show _ + 1 = _; omega
theorem zQd (o0 : AObj) (m : List (List zu)) (i : Nat) (hi : i < m.length) (h2 : 2 ≤ m.length) (hl : m.length ≤ 1000000) : zT Tryz.prog 23 [.sl 1 0 m.length, iN i, .int .i64 ((i + 1 : Nat))] [some o0, some ⟨28, zAY m⟩] (fun h => h < 2) (fun r H => r = .sl 1 0 (m.length - 1) ∧ H = [some o0, some ⟨28, zAY (zBN m i ++ [[]])⟩]) := by
 refine zE (P := Tryz.prog) (fn := Tryz.f23) Z Z (by kernel_rfl) Z (fun c hR hfix => ?_)
 have hcl : ∀ x, (zBN m i ++ [x]).length = m.length := zM8 m i hi
 refine rn3 ?_
 refine zF (zMe (l := (i : Nat)) (h := ((i + 1 : Nat))) (m := (m.length : Nat)) Z Z Z Z Z Z Z ⟨by omega, by omega, by omega, by omega⟩) ?_
 refine rn4 ?_
 refine zA Z (fun h => absurd h (by omega)) (fun h => ?_)
 refine rn3 ?_
 refine zh (by kernel_rfl) ?_
 refine zU 0 Z (by kernel_rfl) (by kernel_rfl) (by kernel_rfl) Z (zJ Z) Z ?_
 refine zU 1 Z (by kernel_rfl) (by kernel_rfl) (by kernel_rfl) Z (zJ Z) Z ?_
 refine zU 3 Z (by kernel_rfl) (by kernel_rfl) (by kernel_rfl) Z (zJ Z) Z ?_
 refine zU 4 Z (by kernel_rfl) (by kernel_rfl) (by kernel_rfl) Z (zJ Z) Z ?_
 refine zU 2 Z (by kernel_rfl) (by kernel_rfl) (by kernel_rfl) Z (zEK (l := 0) (h := (i : Nat)) Z Z Z Z Z Z Z Z ⟨Z, by omega, by omega⟩) Z ?_
 refine zB3 22 (.sl 1 0 i) Z (AEq.of_eq Z) ?_
 rcases Nat.lt_or_ge (i + 1) m.length with hlt | hge
 ·refine zU 5 Z (by kernel_rfl) (by kernel_rfl) (by kernel_rfl) Z (zKZ (l := ((i + 1 : Nat))) (h := (m.length : Nat)) Z Z Z Z Z Z Z Z (by omega)) Z ?_
  refine zB3 25 (.sl 1 (i + 1) (m.length - (i + 1))) Z (AEq.of_eq (by rw [show (0 + ((i + 1 : Nat) : Int).toNat) = i + 1 by omega, show (((m.length : Nat) : Int) - ((i + 1 : Nat) : Int)).toNat = m.length - (i + 1) by omega])) ?_
  refine zG (is := [6]) (by kernel_rfl) (by simp) Z ⟨fun o ho => ?_, trivial⟩
  all_goals (cases ho)
  refine zGh (c' := zAY (zBN m i ++ [m.getD (m.length - 1) []])) Z Z Z Z Z Z Z Z (by show i + (m.length - (i + 1)) ≤ m.length; omega) (by show 0 < m.length; omega) (by show i + 1 + (m.length - (i + 1)) ≤ m.length; omega) Z Z (hcl _) (fun i' j' hi' hj' => zM7 m i hi i' j' hi' hj') ?_
  refine zD 26 (.sl 1 0 (m.length - 1)) Z (AEq.of_eq (by rw [show i + (m.length - (i + 1)) = m.length - 1 by omega])) ?_
  refine zDp ?_
  refine zU 7 Z (by kernel_rfl) (by kernel_rfl) (by kernel_rfl) Z (zl Z) Z ?_
  refine zW (by kernel_rfl) ?_
  refine rn3 ?_
  refine zF (zJb (l := ((m.length - 1 : Nat))) (h := (m.length : Nat)) Z Z Z Z Z Z ⟨by omega, by omega, by show ((m.length : Nat) : Int) ≤ ((zBN m i ++ [m.getD (m.length - 1) []]).length : Nat); rw [hcl]; exact Int.le_refl _⟩ (by omega)) ?_
  refine zD 31 (.sl 1 (m.length - 1) 1) Z (AEq.of_eq (by rw [show (((m.length - 1 : Nat) : Int)).toNat = m.length - 1 by omega, show (((m.length : Nat) : Int) - ((m.length - 1 : Nat) : Int)).toNat = 1 by omega])) ?_
  refine zLI (v := .ro (.strs []) 0 0) Z Z Z Z Z (fun _ _ _ => .ro0 _ _ _ _ _) Z Z Z Z (by show m.length - 1 < (zBN m i ++ [m.getD (m.length - 1) []]).length; rw [hcl]; omega) ?_
  refine zn [some o0, some ⟨28, zAY (zBN m i ++ [[]])⟩] (zP.eqv (CEq.refl _) (zP.eqv (zLP m i hi) zP.nil)) ?_
  refine rn0 ?_
  exact zL hR Z ⟨Z, Z⟩
 ·refine zU 5 Z (by kernel_rfl) (by kernel_rfl) (by kernel_rfl) Z (zNp (l := ((i + 1 : Nat))) (zAY m) Z Z Z Z Z (by omega)) Z ?_
  refine zB3 25 (.ro (zAY m) 0 (m.length - (i + 1))) Z (AEq.of_eq (by rw [show m.length - (i + 1) = 0 by omega])) ?_
  refine zG (is := [6]) (by kernel_rfl) (by simp) Z ⟨fun o ho => ?_, trivial⟩
  all_goals (cases ho)
  refine zGh (c' := zAY (zBN m i ++ [m.getD (m.length - 1) []])) Z Z Z Z Z Z Z Z (by show i + (m.length - (i + 1)) ≤ m.length; omega) (by show 0 < m.length; omega) (by show 0 + (m.length - (i + 1)) ≤ m.length; omega) Z Z (hcl _) (fun i' j' hi' hj' => zQc m i hi hge i' j' hi' hj') ?_
  refine zD 26 (.sl 1 0 (m.length - 1)) Z (AEq.of_eq (by rw [show i + (m.length - (i + 1)) = m.length - 1 by omega])) ?_
  refine zDp ?_
  refine zU 7 Z (by kernel_rfl) (by kernel_rfl) (by kernel_rfl) Z (zl Z) Z ?_
  refine zW (by kernel_rfl) ?_
  refine rn3 ?_
  refine zF (zJb (l := ((m.length - 1 : Nat))) (h := (m.length : Nat)) Z Z Z Z Z Z ⟨by omega, by omega, by show ((m.length : Nat) : Int) ≤ ((zBN m i ++ [m.getD (m.length - 1) []]).length : Nat); rw [hcl]; exact Int.le_refl _⟩ (by omega)) ?_
  refine zD 31 (.sl 1 (m.length - 1) 1) Z (AEq.of_eq (by rw [show (((m.length - 1 : Nat) : Int)).toNat = m.length - 1 by omega, show (((m.length : Nat) : Int) - ((m.length - 1 : Nat) : Int)).toNat = 1 by omega])) ?_
  refine zLI (v := .ro (.strs []) 0 0) Z Z Z Z Z (fun _ _ _ => .ro0 _ _ _ _ _) Z Z Z Z (by show m.length - 1 < (zBN m i ++ [m.getD (m.length - 1) []]).length; rw [hcl]; omega) ?_
  refine zn [some o0, some ⟨28, zAY (zBN m i ++ [[]])⟩] (zP.eqv (CEq.refl _) (zP.eqv (zLP m i hi) zP.nil)) ?_
  refine rn0 ?_
  exact zL hR Z ⟨Z, Z⟩
theorem dom_two {m : List (List zu)} {i : Nat} (hg : zA0 m = 0) (hi : i ∈ domL (inM m)) : i < m.length ∧ 2 ≤ m.length := by
 have h := zE4 hg
 obtain ⟨hi1, hi2⟩ := List.mem_filter.1 hi
 obtain ⟨o, ho, hu⟩ := List.any_eq_true.1 hi2
 rw [List.mem_range, zCG] at hi1 ho
 have hrl : ((inM m).getD i []).length = zAH m := h.rows _ (zAA [] (by rw [zCG]; exact hi1))
 have hd : ∀ j, j < zAH m → ((inM m).getD i []).getD j 0 < ((inM m).getD o []).getD j 0 := fun j hj => by
  unfold zGU at hu
  rw [List.all_eq_true] at hu
  have := hu j (by rw [List.mem_range, hrl]; exact hj)
  rw [decide_eq_true_eq, zPX] at this
  exact this
 have hoi : o ≠ i := fun e => by
  have := hd 0 h.w
  rw [e] at this
  exact Rat.lt_irrefl this
 exact ⟨hi1, by omega⟩
theorem drop_pre {m : List (List zu)} {i : Nat} (hg : zA0 m = 0) (ht : zH4 5 12 m = true) (hi : i < m.length) (h2 : 2 ≤ m.length) (hm : zCv m) :
 zA0 (zBN m i) = 0 ∧ (∀ r ∈ inM (zBN m i), ∀ q ∈ r, D 48 q) ∧ zCv (zBN m i) := by
 have h := zE4 hg
 obtain ⟨t1, t2⟩ := zHV ht
 have hdl := zF8 hi
 have hsub : ∀ r ∈ zBN m i, r ∈ m := fun r hr => by
  rcases List.mem_append.1 hr with q | q
  ·exact List.mem_of_mem_take q
  ·exact List.mem_of_mem_drop q
 have hM : IsM (zBN m i) (m.length - 1) (zAH m) := ⟨by omega, fun r hr => h.is.cols r (hsub r hr), by have := h.is.sp; omega, fun _ => by have := h.w12; omega, fun r hr => h.is.ok r (hsub r hr)⟩
 refine ⟨zNJ hM (by omega) (by have := h.l12; omega) h.w h.w12, fun r hr q hq => (inM_D hM (fun v hv => (t2 v (hsub v hv)).2) (by decide) r hr q hq).mono (by decide), ?_⟩
 exact ⟨by have := hm.1; omega, fun r hr => hm.2 r (hsub r hr)⟩
theorem zI0 (m : List (List zu)) (hm : zCv m) : zV Tryz.prog 5 [.ro (zAY m) 0 m.length] (.bool true) := by
 have cs := zRO 5 [m] (by decide) (by show 1 ≤ 9223372036854775807; decide) (fun x hx => by rw [List.mem_singleton.1 hx]; exact hm)
 have cd := zIP m hm
 refine zT.value0 (zE (P := Tryz.prog) (fn := Tryz.f5) Z Z (by kernel_rfl) Z (fun c0 hR hfix => ?_)) (fix := fun _ => False) (fun _ h => h) Z Z
 by_cases hg : zA0 m = 0
 case neg =>
  unfold domA domR at cd
  rw [if_pos hg] at cd
  refine rn0 ?_
  refine zB Z Z Z zGr ?_
  refine rn5 ?_
  refine zB Z Z Z cd ?_
  refine rn3 ?_
  refine zAe Z Z (fun _ => ?_) (fun q => absurd hg (fun r => q r))
  refine rn6 ?_
  exact zL hR Z Z
 have hI := zE4 hg
 unfold domA domR at cd
 rw [if_neg (fun q => q hg), show m.length = (inM m).length from (zCG m).symm, zND, zCG] at cd
 have cd : zV Tryz.prog 22 [.ro (zAY m) 0 m.length] (.tup [.ro (.ints .i64 ((domL (inM m)).map (fun j : Nat => (j : Int)))) 0 ((domL (inM m)).map (fun j : Nat => (j : Int))).length, .int .i64 0]) := cd
 refine rn0 ?_
 refine zB Z Z Z zGr ?_
 refine rn5 ?_
 refine zB Z Z Z cd ?_
 refine rn3 ?_
 refine zD 21 (.ro (zNT [m]) 0 1) Z (mats1 m) ?_
 refine zB Z Z Z cs ?_
 cases hs : ([m].all (zH4 5 12))
 ·refine rn6 ?_
  exact zL hR Z Z
 have ht : zH4 5 12 m = true := by simpa using hs
 cases hd : domL (inM m) with
 | nil =>
  refine rn5 ?_
  exact zL hR Z Z
 | cons a ls =>
  obtain ⟨ha, h2⟩ := dom_two hg (i := a) (by rw [hd]; exact List.mem_cons_self ..)
  obtain ⟨hg', hD, hm'⟩ := drop_pre hg ht ha h2 hm
  have hin : a ∈ domL (inM m) := by rw [hd]; exact List.mem_cons_self ..
  obtain ⟨K, L, v, rs, cs1, hst, G⟩ := zQr m 5 (by decide) hm hg ht
  obtain ⟨K', L', v', rs', cs', hst', G'⟩ := gsol (zBN m a) 5 48 (by decide) hm' hg' (by decide) hD (fun K' L' hs' => (zPv hg ht hin hst hs').2.2.2.1)
  obtain ⟨_, _, _, _, ev⟩ := zPv hg ht hin hst hst'
  rw [G'.eq, G.eq] at ev
  have ev : v = v' := ev
  subst ev
  have cz := G.call
  have cz' := G'.call
  have hdl := zF8 ha
  have hl12 := hI.l12
  rw [show (zBN m a).length = m.length - 1 by omega] at cz'
  have ck := cloneT m (by omega)
  have hla : ∀ x : List zu, (zBN m a ++ [x]).length = m.length := zM8 m a ha
  have hpos : 0 < ((a :: ls).map (fun j : Nat => (j : Int))).length := Nat.succ_pos _
  repeat (first | refine zF (zJ rfl) ?_ | refine zF (zl rfl) ?_ | refine zF (zGJ rfl rfl rfl) ?_ | refine zQ ?_ | refine zI ?_ | refine zx ?_ | refine zd rfl ?_ | refine zBD rfl rfl ?_ | refine zAb rfl ?_ | refine zAw ?_ | refine zF (zEJ rfl rfl) ?_ | refine zF (zDr rfl rfl) ?_ | refine zF (zIh rfl rfl) ?_ | refine zF (zJa rfl) ?_ | refine zF (zA9 rfl rfl) ?_ | refine zF (zBr rfl rfl rfl) ?_ | refine zF (z8 rfl rfl rfl rfl (by first | (simp only [Nat.zero_add, Int.toNat_natCast, Int.toNat_zero]; exact rfl) | exact rfl) (by omega)) ?_)
  refine zA Z (fun q => absurd (show ((m.length : Nat) : Int) ≤ ((a : Nat) : Int) from q) (by omega)) (fun _ => ?_)
  refine zAB 5 (iN a) Z (AEq.of_eq Z) ?_
  refine rn1 ?_
  refine zB Z Z Z cz ?_
  refine rn4 ?_
  refine sa1 (c' := .box [.str v, .ro (.strs rs) 0 rs.length, .ro (.strs cs1) 0 cs1.length]) Z Z Z Z Z Z Z ?_
  refine rn0 ?_
  refine zEB Z Z Z ck ?_
  refine rn3 ?_
  refine zO [some ⟨30, .box [.str v, .ro (.strs rs) 0 rs.length, .ro (.strs cs1) 0 cs1.length]⟩, some ⟨28, zAY m⟩] Z ?_
  refine zD 51 (.int .i64 ((a + 1 : Nat))) Z (AEq.of_eq Z) ?_
  refine zCH Z Z Z (zQd _ m a ha h2 (by omega)) (fun _ h => h) (fun _ h => h) ?_
  rintro r' H' ⟨rfl, rfl⟩
  refine zCx 1 52 (m.length - 1) [(0, .ro (zAY m) 0 m.length), (5, iN a), (6, .ptr 0 0 0), (7, .int .i64 0)] Z (zHh _) Z (by show m.length - 1 ≤ (zBN m a ++ [[]]).length; rw [hla]; omega) ⟨Z, Z, Z, Z, trivial⟩ ?_
  refine zD 52 (.ro (zAY (zBN m a)) 0 (m.length - 1)) Z (AEq.ro Z (fun d j hd hj => ?_)) ?_
  ·have hj : j < 1 := hj
   obtain rfl : j = 0 := by omega
   have e : (zBN m a ++ [[]]).getD (0 + d) [] = (zBN m a).getD (0 + d) [] := zHM [] (by omega)
   show AV.ro (.strs ((zBN m a).getD (0 + d) [])) 0 ((zBN m a).getD (0 + d) []).length = AV.ro (.strs ((zBN m a ++ [[]]).getD (0 + d) [])) 0 ((zBN m a ++ [[]]).getD (0 + d) []).length
   rw [e]
  refine zB Z Z Z cz' ?_
  refine rn4 ?_
  refine sa1 (c' := .box [.str v, .ro (.strs rs') 0 rs'.length, .ro (.strs cs') 0 cs'.length]) Z Z Z Z Z Z Z ?_
  refine zO [some ⟨30, .box [.str v, .ro (.strs rs) 0 rs.length, .ro (.strs cs1) 0 cs1.length]⟩, none, some ⟨30, .box [.str v, .ro (.strs rs') 0 rs'.length, .ro (.strs cs') 0 cs'.length]⟩] Z ?_
  refine rn3 ?_
  refine zB Z Z Z fineI2 ?_
  refine rn6 ?_
  refine zL hR Z ?_
  show AV.bool (decide (v = v)) = _
  rw [decide_eq_true rfl]
end Go.Proofs.YtkncmbklkhjmgaaGreatDoor
