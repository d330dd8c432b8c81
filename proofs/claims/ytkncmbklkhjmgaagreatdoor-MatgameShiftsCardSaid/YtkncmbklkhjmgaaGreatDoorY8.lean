import Derived.Test.YtkncmbklkhjmgaaGreatDoorY7
set_option linter.unusedVariables false
set_option linter.unusedSimpArgs false
set_option maxRecDepth 100000
set_option maxHeartbeats 40000000
namespace Go.Proofs.YtkncmbklkhjmgaaGreatDoor
open Go.Ax Go.Ax.Bg Go.Ax.Rt Go.RowKit Go.Ax.Dt Go.Ax.Sx
attribute [local irreducible] Ax zBI QOp zP zAl
/-- the result of the program -/
def runA (r : Res) : AV := .agg ([iN r.kind, if r.kind = 1 then .nil else .ro (qsC r.X) 0 r.X.length, if r.kind = 2 then .nil else .ro (qsC r.Y) 0 r.Y.length, if r.kind = 2 then .ro (qsC r.R) 0 r.R.length else .nil] ++ (if r.kind = 0 then zT r.V else [.bool false, .nil, .nil]))
theorem zPB (r : Res) : noRef (runA r) = true := by
 obtain ⟨k, X, Y, R, V⟩ := r
 by_cases h0 : k = 0
 ·subst h0; rfl
 ·by_cases h1 : k = 1
  ·subst h1; rfl
  ·by_cases h2 : k = 2
   ·subst h2; rfl
   ·show noRef (.agg ([_, if k = 1 then _ else _, if k = 2 then _ else _, if k = 2 then _ else _] ++ (if k = 0 then _ else _))) = true
    rw [if_neg h0, if_neg h1, if_neg h2, if_neg h2]; rfl
theorem intA_nat (n : Nat) : zA0 ((n : Nat) : Int) = .agg [.bool false, zh n] := by
 unfold zA0
 rw [Int.natAbs_natCast, decide_eq_false (by omega)]
theorem zKn (s : Nat) (t : TypeId) : ∀ X : Tab, zC6 s (zCJ t zC X) = zCJ t zC X
 | [] => rfl
 | a :: r => by
  show some ⟨t, (zC a).shift s⟩ :: zC6 s (zCJ t zC r) = some ⟨t, zC a⟩ :: zCJ t zC r
  rw [zHZ, zKn s t r]
theorem zOz (b n L s : Nat) : (zBh b n L).shift s = zBh (s + b) n L := by
 show Cells.fn _ _ _ = Cells.fn _ _ _
 congr 1
 funext i j
 show AV.sl (b + 4 + i + s) 0 L = AV.sl (s + b + 4 + i) 0 L
 rw [show b + 4 + i + s = s + b + 4 + i by omega]
theorem tb_shift (A B : Option AObj) (L w k : Nat) (X : Tab) (d : Int) (β : List Nat) : [A, B] ++ zC6 2 (zZ [none, none] none L w k X d β []) = zZ [A, B, none, none] none L w k X d β [] := by
 show A :: B :: none :: none :: some (⟨270, zDu 4 k β.length w d⟩ : AObj) :: none :: some (⟨3, zBy β⟩ : AObj) :: some (⟨265, (zBh 2 X.length L).shift 2⟩ : AObj) :: zC6 2 (zCJ 102 zC X ++ []) = _
 rw [List.append_nil, zKn, zOz]
 show _ = A :: B :: none :: none :: some (⟨270, zDu 4 k β.length w d⟩ : AObj) :: none :: some (⟨3, zBy β⟩ : AObj) :: some (⟨265, zBh 4 X.length L⟩ : AObj) :: (zCJ 102 zC X ++ [])
 rw [List.append_nil]
theorem zPD {H : zN} {x : Option AObj} {h : Nat} {o : Option AObj} (hh : H[h]? = some o) : (H.set h x)[h]? = some x := List.getElem?_set_self (List.getElem?_eq_some_iff.1 hh).1
theorem Run_ok (p : Prog) (k K L : Nat) (hp : p.Ok) (hk : p.Dig k) (hm : p.m ≤ 30) (hn : p.n ≤ 30) (hk40 : k ≤ 100) (hs : Stops p K L) :
 zU Tryz.prog 122 [.agg [.ro (zY p.A) 0 p.A.length, .ro (qsC p.B) 0 p.B.length, .ro (qsC p.C) 0 p.C.length]] (runA (zDd p K L)) := by
 have hNe : p.N = p.n + p.m + p.a := rfl
 have hal : p.a ≤ p.m := zJ9 p.B p.B.length
 have hE : p.E k ≤ 3200 := by
  unfold Prog.E
  have : k * (p.n + 1) ≤ 100 * 31 := Nat.mul_le_mul hk40 (by omega)
  omega
 have hT : p.T k ≤ 99262 := by
  unfold Prog.T
  exact Nat.mul_le_mul (show p.E k + 2 ≤ 3202 by omega) (show p.m + 1 ≤ 31 by omega)
 have hET : p.E k ≤ p.T k := by
  unfold Prog.T
  have : (p.E k + 2) * 1 ≤ (p.E k + 2) * (p.m + 1) := Nat.mul_le_mul_left _ (by omega)
  omega
 have cst := zP.many (start_ok p p.N k hp hk hNe (show p.m ≤ 40 by omega) (show p.n ≤ 40 by omega) (by omega)) (fun _ h => h) rfl
 have hph1 : (⟨zBA p ++ [zBX (p.n + p.m) p.a p.N ⟨zBA p, 1, zBb p⟩ p.m p.a], 1, zBb p⟩ : St) = ph1 p := by
  have e : zBX (p.n + p.m) p.a p.N ⟨zBA p, 1, zBb p⟩ p.m p.a = zHG (zCz p) p.m p.N (zAO p) := by
   rw [← zJN p, zON]; exact zOM p p.a rfl
  rw [e, ← ph1_rows]; rfl
 have htk : (zAO p).rows.take p.m = zBA p := congrArg St.rows (zJN p)
 have hcf : ∀ (G : zN), OkG G → (∀ h, G.length ≤ h → zl h G = G) → 0 < p.a → _ := fun G hG hFG ha => zNE G hG hFG p.n p.m p.a p.N (zBA p) (zBb p) (M1 p) K (p.T k) hNe (by omega) (by omega) (zCY p) (zGT p) (fun x hx => (zEv p).row x (List.mem_append_left _ hx))
  (fun i j hi hj => by rw [← htk, zEE hi]; exact Nat.le_trans (zLv hp hk hi hj) (Nat.pow_le_pow_right (by decide) hET)) (by omega) (by rw [hph1]; exact zMd p) (by rw [hph1]; exact zKT p hp) (by rw [hph1]; exact hs.one ha)
  (fun t ht => zEn ht (by omega) (zOH hp hk)) (fun t ht hf h0 i hi hb => (zHS ht hf).2 (by have := (zHS ht hf).1; omega) i hi hb)
 rw [hph1] at hcf
 refine zP.value0 (zE (P := Tryz.prog) (fn := Tryz.f122) Z Z (by kernel_rfl) Z (fun c hR hfix => ?_)) (fix := fun _ => False) (fun _ h => h) Z (zPB _)
 refine rn6 ?_
 refine zi (by kernel_rfl) ?_
 refine zp (fuel := 0) [0, 1, 2, 3, 4, 5, 6, 7] [(1, .ptr 0 0 0), (2, .ptr 1 0 0)] ⟨Z, Z, trivial⟩ (by kernel_rfl) (by decide) Z Z ?_
 refine zM Z Z (zH Z Z Z Z Z Z) ?_
 refine zM Z Z (zX Z Z Z Z Z) ?_
 refine zM Z Z (zBv Z Z Z) ?_
 refine zM Z Z (zH Z Z Z Z Z Z) ?_
 refine zM Z Z (zX Z Z Z Z Z) ?_
 refine zM Z Z (zBv Z Z Z) ?_
 refine zM Z Z (zm Z) ?_
 refine zM Z Z (zm Z) ?_
 refine zAA ?_
 refine zW (by kernel_rfl) ?_
 refine rn6 ?_
 refine zD 29 (.agg [.ro (zY p.A) 0 p.A.length, .ro (qsC p.B) 0 p.B.length, .ro (qsC p.C) 0 p.C.length]) Z (AEq.of_eq Z) ?_
 refine zII (.tup [.ptr 4 0 0, .ro (nsC ((List.range p.m).map p.fac)) 0 p.m, iN p.a]) (zZ [some ⟨193, .box [.ro (zY p.A) 0 p.A.length, .ro (qsC p.B) 0 p.B.length, .ro (qsC p.C) 0 p.C.length]⟩, some ⟨190, .box [.int .i64 0, .nil, .nil, .nil, .bool false, .nil, .nil]⟩, none, none] none (p.N + 1) (p.n + p.m) p.m (zBA p) 1 (zBb p) []) Z Z Z cst Z (tb_shift _ _ _ _ _ _ _ _) ?_
 generalize hGG : ([some ⟨193, .box [.ro (zY p.A) 0 p.A.length, .ro (qsC p.B) 0 p.B.length, .ro (qsC p.C) 0 p.C.length]⟩, some ⟨190, .box [.int .i64 0, .nil, .nil, .nil, .bool false, .nil, .nil]⟩, none, none] : zN) = G
 have hG4 : G.length = 4 := by subst hGG; rfl
 have hG : OkG G := by
  rw [← hGG]
  intro m hm o ho
  simp only [List.mem_cons, List.mem_nil_iff, or_false] at ho
  rcases ho with e | e | e | e
  ·cases e; exact zHx p _
  ·cases e
   intro i j hi hj
   obtain rfl := Nat.lt_one_iff.1 (show i < 1 from hi)
   match j, (show j < 7 from hj) with
   | 0, _ => rfl
   | 1, _ => rfl
   | 2, _ => rfl
   | 3, _ => rfl
   | 4, _ => rfl
   | 5, _ => rfl
   | 6, _ => rfl
  ·cases e
  ·cases e
 have hFG : ∀ h, zl h G = G := fun h => by subst hGG; rfl
 have hg0 : ∀ kk X d β T, (zZ G none (p.N + 1) (p.n + p.m) kk X d β T)[0]? = some (some ⟨193, .box [.ro (zY p.A) 0 p.A.length, .ro (qsC p.B) 0 p.B.length, .ro (qsC p.C) 0 p.C.length]⟩) := fun kk X d β T => by subst hGG; rfl
 have hg1 : ∀ kk X d β T, (zZ G none (p.N + 1) (p.n + p.m) kk X d β T)[1]? = some (some ⟨190, .box [.int .i64 0, .nil, .nil, .nil, .bool false, .nil, .nil]⟩) := fun kk X d β T => by subst hGG; rfl
 refine zD 30 (.tup [.ptr G.length 0 0, .ro (nsC ((List.range p.m).map p.fac)) 0 p.m, iN p.a]) Z (AEq.of_eq (by rw [hG4])) ?_
 have hcf := hcf G hG (fun h _ => hFG h)
 have hslen : (zZ G none (p.N + 1) (p.n + p.m) p.m (zBA p) 1 (zBb p) []).length = G.length + 4 + p.m := by rw [zBB, zCY]; rfl
 have hfl : ((List.range p.m).map p.fac).length = p.m := by simp
 clear cst
 by_cases hneg : 0 < p.a ∧ at2 (zCC p K).rows p.m p.N < 0
 ·rw [zRI hneg] at hR
  have cf := hcf hneg.1
  obtain ⟨o1, o2⟩ := zEr p hp K
  obtain ⟨b1, b2⟩ := zEn o1 (by omega) (zOH hp hk)
  have hD := o1.dp
  obtain ⟨KK, hKK⟩ : ∃ KK, KK = 99300 := ⟨_, rfl⟩
  have cu := zK2 ((List.range p.m).map (fun i => Rat.divInt (at2 (zCC p K).rows p.m (p.n + i)) (zCC p K).den)) ((List.range p.m).map p.fac) KK (by simp) (by simp; omega) (fun q hq => by
   obtain ⟨i, hi, rfl⟩ := List.mem_map.1 hq
   have hi : i < p.m := by simpa using hi
   exact (zER (by omega) (zCx (b1 p.m (p.n + i) (by omega) (by omega))) (zCx b2)).mono (by omega)) (fun q hq => by
   obtain ⟨i, hi, rfl⟩ := List.mem_map.1 hq
   have hi : i < p.m := by simpa using hi
   refine Nat.lt_of_lt_of_le (zCx (zOg hp hk hi)) (Nat.pow_le_pow_right (by decide) ?_)
   have : k * (p.n + 1) ≤ 100 * 31 := Nat.mul_le_mul hk40 (by omega)
   omega) (by omega)
  rw [show ((List.range p.m).map (fun i => Rat.divInt (at2 (zCC p K).rows p.m (p.n + i)) (zCC p K).den)).length = p.m by simp, hfl] at cu
  have hy : zJS ((List.range p.m).map (fun i => Rat.divInt (at2 (zCC p K).rows p.m (p.n + i)) (zCC p K).den)) ((List.range p.m).map p.fac) p.m = yL p (zCC p K) (zCC p K).den := (yL_as p (zCC p K) (zCC p K).den).symm
  rw [hy] at cu
  have hyl : (yL p (zCC p K) (zCC p K).den).length = p.m := by simp [yL]
  refine rn6 ?_
  refine zA Z (fun _ => ?_) (fun hx => absurd hneg.1 (by omega))
  refine rn0 ?_
  refine zMx (G.length + 3) Z Z Z cf (fun h q1 q2 => ⟨q1, q2⟩) (fun h q => q.1) (by rw [hfix]; exact fun h => h) ?_
  intro r' H' hr'
  rcases hr' with ⟨h1, rfl, rfl⟩ | ⟨h1, rfl, rfl⟩
  ·refine ⟨by rw [hslen, zBB, show (zAa p.m p.N (p.n + p.m) (ph1 p) K).rows.length = p.m + 1 from o1.n]; omega, ?_⟩
   refine zBk ((41, .tup [.ro (qsC ((List.range p.m).map (fun i => Rat.divInt (at2 (zCC p K).rows p.m (p.n + i)) (zCC p K).den))) 0 p.m, .bool false]) :: [(1, .ptr 0 0 0), (2, .ptr 1 0 0), (3, iN p.n), (4, iN p.m), (5, .ptr G.length 0 0), (6, .ro (nsC ((List.range p.m).map p.fac)) 0 p.m), (7, iN p.a)]) ⟨Z, zAq (h := G.length + 3) (L := [(1, .ptr 0 0 0), (2, .ptr 1 0 0), (3, iN p.n), (4, iN p.m), (5, .ptr G.length 0 0), (6, .ro (nsC ((List.range p.m).map p.fac)) 0 p.m), (7, iN p.a)]) ⟨Z, Z, Z, Z, Z, Z, Z, trivial⟩ (by
   intro q hq
   simp only [List.mem_cons, List.mem_nil_iff, or_false] at hq
   rcases hq with rfl | rfl | rfl | rfl | rfl | rfl | rfl <;> simp [AV.forget, zh, zq (show G.length ≠ G.length + 3 by omega), zq (show 0 ≠ G.length + 3 by omega), zq (show 1 ≠ G.length + 3 by omega)])⟩ ?_
   refine rn5 ?_
   refine zB Z Z Z cu ?_
   repeat (refine zG (zBG rfl rfl rfl rfl rfl rfl) ?_)
   refine zz (c' := .box [.int .i64 1, .nil, .ro (qsC (yL p (zCC p K) (zCC p K).den)) 0 p.m, .nil, .bool false, .nil, .nil]) Z Z Z (hg1 _ _ _ _ _) Z Nat.zero_lt_one Z Z (fun i' j' hi' hj' => ?_) ?_
   ·rw [if_pos (Nat.lt_one_iff.1 hi')]; rfl
   refine rn2 ?_
   refine zL hR (zGA Z (zPD (hg1 _ _ _ _ _)) Z Z Z) ?_
   show AV.agg _ = runA _
   unfold runA
   simp only [hyl]
   rfl
  ·exact absurd hneg.2 h1
 have h0 := zGw hp hneg
 have hph := zKU p hp K h0
 obtain ⟨b1, b2⟩ := zEn hph.1 (by omega) (zGc hp hk)
 have hrows := ph2_rows p K
 have hXl : (Sx.cutS p.m (mid p K)).rows.length = p.m := by
  have e := hph.1.n
  rw [hrows, List.length_append] at e
  exact Nat.succ.inj e
 have hXr : ∀ x ∈ (Sx.cutS p.m (mid p K)).rows, x.length = p.N + 1 := fun x hx => hph.1.row x (by rw [hrows]; exact List.mem_append_left _ hx)
 have hXb : ∀ i j, i < p.m → j < p.N + 1 → (at2 (Sx.cutS p.m (mid p K)).rows i j).natAbs ≤ 10 ^ p.T k := fun i j hi hj => by
  have e : at2 (ph2 p K).rows i j = at2 (Sx.cutS p.m (mid p K)).rows i j := by
   unfold at2
   rw [hrows, zJv [] (by rw [hXl]; exact hi)]
  rw [← e]; exact b1 i j (by omega) hj
 have hβl : (mid p K).basis.length = p.m := hph.1.b
 have hdb : (mid p K).den.natAbs ≤ 10 ^ p.T k := b2
 have hlast : (ph2 p K) = ⟨(Sx.cutS p.m (mid p K)).rows ++ [zDA (zBU p) p.N (Sx.cutS p.m (mid p K)) p.m], (mid p K).den, (mid p K).basis⟩ := by
  rw [zQY (Nat.le_refl _), ← hrows]; rfl
 have hl0 := last0 p (Sx.cutS p.m (mid p K))
 have hcab := fun i j (hi : i ≤ p.m) (hj : j < p.N + 1) => zQX (p := p) (k := k) (E := p.T k) (s := Sx.cutS p.m (mid p K)) (i := i) (j := j) hk (by omega) (fun q hq => hXb q j (by omega) hj) hdb hj
 apply zAJ (H := stH G p.N (p.n + p.m) p.m (Sx.cutS p.m (mid p K))) [(1, .ptr 0 0 0), (2, .ptr 1 0 0), (3, iN p.n), (4, iN p.m), (5, .ptr G.length 0 0), (6, .ro (nsC ((List.range p.m).map p.fac)) 0 p.m), (7, iN p.a)]
 ·intro fin
  by_cases ha : 0 < p.a
  ·have cf := hcf ha
   rw [zNS p hp K (by omega)] at fin
   refine rn6 ?_
   refine zA Z (fun _ => ?_) (fun hx => absurd ha (by omega))
   refine rn0 ?_
   refine zMx (G.length + 3) Z Z Z cf (fun h q1 q2 => ⟨q1, q2⟩) (fun h q => q.1) (by rw [hfix]; exact fun h => h) ?_
   intro r' H' hr'
   rcases hr' with ⟨h1, rfl, rfl⟩ | ⟨h1, rfl, rfl⟩
   ·exact absurd ⟨ha, h1⟩ hneg
   ·have hdl : (zBR (p.n + p.m) (Sx.cutS p.m (zAa p.m p.N (p.n + p.m) (ph1 p) K)) p.m).rows.length = p.m := by
     rw [zNS p hp K (by omega)] at hXl; exact hXl
    refine ⟨by rw [hslen, zBB, hdl]; omega, ?_⟩
    refine zBk ((41, .tup [.nil, .bool true]) :: [(1, .ptr 0 0 0), (2, .ptr 1 0 0), (3, iN p.n), (4, iN p.m), (5, .ptr G.length 0 0), (6, .ro (nsC ((List.range p.m).map p.fac)) 0 p.m), (7, iN p.a)]) ⟨Z, zAq (h := G.length + 3) (L := [(1, .ptr 0 0 0), (2, .ptr 1 0 0), (3, iN p.n), (4, iN p.m), (5, .ptr G.length 0 0), (6, .ro (nsC ((List.range p.m).map p.fac)) 0 p.m), (7, iN p.a)]) ⟨Z, Z, Z, Z, Z, Z, Z, trivial⟩ (by
   intro q hq
   simp only [List.mem_cons, List.mem_nil_iff, or_false] at hq
   rcases hq with rfl | rfl | rfl | rfl | rfl | rfl | rfl <;> simp [AV.forget, zh, zq (show G.length ≠ G.length + 3 by omega), zq (show 0 ≠ G.length + 3 by omega), zq (show 1 ≠ G.length + 3 by omega)])⟩ ?_
    refine zBa ?_
    refine z7 ?_
    refine zg Z ?_
    refine zBa ?_
    exact fin _ ⟨Z, Z, Z, Z, Z, Z, Z, trivial⟩
  ·have ha0 : p.a = 0 := by omega
   rw [mid_cut0 p K ha0] at fin
   refine zBa ?_
   refine z7 ?_
   refine z7 ?_
   refine zg Z ?_
   refine zBa ?_
   refine zA Z (fun hx => absurd hx (by omega)) (fun _ => ?_)
   refine zBa ?_
   exact fin _ ⟨Z, Z, Z, Z, Z, Z, Z, trivial⟩
 generalize hX : (Sx.cutS p.m (mid p K)).rows = X at *
 have hde : (Sx.cutS p.m (mid p K)).den = (mid p K).den := rfl
 have hbe : (Sx.cutS p.m (mid p K)).basis = (mid p K).basis := rfl
 have hme : Sx.cutS p.m (mid p K) = ⟨X, (mid p K).den, (mid p K).basis⟩ := by rw [← hX]; rfl
 rw [hme] at hlast hl0 hcab
 generalize (mid p K).den = d at *
 generalize (mid p K).basis = β at *
 have hstE : stH G p.N (p.n + p.m) p.m (Sx.cutS p.m (mid p K)) = zZ G none (p.N + 1) (p.n + p.m) p.m X d β [] := by rw [hme]
 refine zAi (zZ G none (p.N + 1) (p.n + p.m) p.m X d β []) hstE ?_
 clear hcf hph1 hslen hX hde hbe hme hstE hrows b1 b2
 have cWC := zMp p.C k hk.c (show p.n ≤ 1000 by omega) (by show k * p.n + k ≤ _; have : k * p.n ≤ 100 * 30 := Nat.mul_le_mul hk40 hn; omega)
 have hlen : ∀ T, (zZ G none (p.N + 1) (p.n + p.m) p.m X d β T).length = G.length + 4 + p.m + T.length := fun T => by rw [zBB, hXl]
 have gC := hg0 p.m X d β []
 refine rn7 ?_
 refine zII (.tup [.sl (G.length + 4 + p.m) 0 p.n, zh p.fc]) (zZ G none (p.N + 1) (p.n + p.m) p.m X d β [some ⟨102, zC (zAj p.C)⟩]) Z Z Z cWC (by rw [hlen]; show AV.tup [AV.sl (0 + (G.length + 4 + p.m)) 0 _, _] = _; rw [Nat.zero_add]; rfl) (by show _ ++ [some (⟨_, (zC _).shift _⟩ : AObj)] = _; rw [zHZ, zAY]; rfl) ?_
 have hWl : (zAj p.C).length = p.n := zGX _
 have hWb : ∀ j, j < p.n → ((zAj p.C).getD j 0).natAbs ≤ 10 ^ p.E k := fun j hj => zJU hk hj
 have hcs : ∀ j, j < p.n → -(zBU p j) = (zAj p.C).getD j 0 := fun j hj => cosK_neg hj
 have hcz : ∀ j, ¬ (j < p.n ∧ (zAj p.C).getD j 0 ≠ 0) → zBU p j = 0 := fun j hj => zQU hj
 generalize zAj p.C = WC at *
 clear gC cWC
 refine rn3 ?_
 refine zD 61 (.int .i64 ((p.N + 1 : Nat))) Z (AEq.of_eq (by show AV.int _ _ = AV.int _ _; congr 1)) ?_
 refine zC0 Z Z Z Z Z Z Z Z (by show (0 : Int) ≤ _ ∧ _ ≤ _ ∧ (32 : Int) * _ ≤ _ ∧ _; omega) ?_
 refine zGD (zZ G none (p.N + 1) (p.n + p.m) p.m X d β [some ⟨102, zC WC⟩] ++ [some ⟨102, zC (List.replicate (p.N + 1) 0)⟩]) (by simp only [List.length_append, List.length_cons, List.length_nil]) zID ?_
 refine zO (zZ G none (p.N + 1) (p.n + p.m) p.m X d β [some ⟨102, zC WC⟩, some ⟨102, zC (chg (fun q => -(WC.getD q 0) * d) 0 (List.replicate (p.N + 1) 0) 0)⟩]) (by rw [zAY, zC9]; rfl) ?_
 refine zD 62 (.sl (G.length + 4 + p.m + 1) 0 (p.N + 1)) Z (AEq.of_eq (by rw [hlen]; rfl)) ?_
 have hdD : ∀ x : Int, ∀ e, e ≤ 3599990 → x.natAbs ≤ 10 ^ e → (zS x.natAbs).length ≤ 400001 := fun x e he hx => zFL hx (by omega)
 refine rn3 ?_
 refine ze (ι := Nat) (fun j => [(1, .ptr 0 0 0), (2, .ptr 1 0 0), (3, iN p.n), (4, iN p.m), (5, .ptr G.length 0 0), (6, .ro (nsC ((List.range p.m).map p.fac)) 0 p.m), (7, iN p.a), (10, .sl (G.length + 4 + p.m) 0 p.n), (11, zh p.fc), (12, .sl (G.length + 4 + p.m + 1) 0 (p.N + 1)), (63, .sl (G.length + 4 + p.m) 0 p.n), (64, iN p.n), (65, iN j)]) (fun j => zZ G none (p.N + 1) (p.n + p.m) p.m X d β [some ⟨102, zC WC⟩, some ⟨102, zC (chg (fun q => -(WC.getD q 0) * d) 0 (List.replicate (p.N + 1) 0) j)⟩]) (fun j => j ≤ p.n) (fun j => p.n - j) 0 ⟨⟨Z, Z, Z, Z, Z, Z, Z, Z, Z, Z, Z, Z, Z, trivial⟩, Z, Nat.zero_le _⟩ ?_
 intro j hj
 refine rn4 ?_
 refine zA Z (fun h => ?_) (fun h => ?_)
 ·have hj' : j < p.n := by omega
  have hgj := zC2 (fun q => -(WC.getD q 0) * d) 0 (List.replicate (p.N + 1) 0) (k := j) (i := j) (by simp; omega)
  have hsj := zDg (fun q => -(WC.getD q 0) * d) 0 (List.replicate (p.N + 1) 0) (k := j) (by simp; omega)
  have hlj := zCn (fun q => -(WC.getD q 0) * d) 0 (List.replicate (p.N + 1) 0) j
  rw [List.length_replicate] at hlj
  generalize hYY : chg (fun q => -(WC.getD q 0) * d) 0 (List.replicate (p.N + 1) 0) j = Y at *
  have q0 := zAZ (G := G) (F := none) (L := p.N + 1) (w := p.n + p.m) (k := p.m) (X := X) (d := d) (β := β) (T := [some ⟨102, zC WC⟩, some ⟨102, zC Y⟩]) 0
  rw [hXl, Nat.add_zero] at q0
  have g0 : j < (zC WC).len := by show j < WC.length; omega
  refine rn7 ?_
  refine zO (zZ G none (p.N + 1) (p.n + p.m) p.m X d β [some ⟨102, zC WC⟩, some ⟨102, zC Y⟩, some ⟨102, .box [.bool false, .nil]⟩]) (by rw [zAY]; rfl) ?_
  refine zD 14 (.ptr (G.length + 4 + p.m + 2) 0 0) Z (AEq.of_eq (by rw [hlen]; rfl)) ?_
  refine zD 69 (zA0 (WC.getD j 0)) Z (AEq.of_eq Z) ?_
  have q2 := zAZ (G := G) (F := none) (L := p.N + 1) (w := p.n + p.m) (k := p.m) (X := X) (d := d) (β := β) (T := [some ⟨102, zC WC⟩, some ⟨102, zC Y⟩, some ⟨102, .box [.bool false, .nil]⟩]) 2
  rw [hXl] at q2
  refine zz (c' := .box (zj (WC.getD j 0))) Z Z Z q2 Z Nat.zero_lt_one Z Z (fun i' j' hi' hj' => ?_) ?_
  ·rw [if_pos (Nat.lt_one_iff.1 hi')]; rfl
  refine zO (zZ G none (p.N + 1) (p.n + p.m) p.m X d β [some ⟨102, zC WC⟩, some ⟨102, zC Y⟩, some ⟨102, .box (zj (WC.getD j 0))⟩]) (by have q := zAI (G := G) (F := none) (L := p.N + 1) (w := p.n + p.m) (k := p.m) (X := X) (d := d) (β := β) (T := [some ⟨102, zC WC⟩, some ⟨102, zC Y⟩, some ⟨102, .box [.bool false, .nil]⟩]) 2 (some ⟨102, .box (zj (WC.getD j 0))⟩); rw [hXl] at q; exact q) ?_
  clear q0 q2
  have f1 := zA1 (G := G) (F := none) (L := p.N + 1) (w := p.n + p.m) (k := p.m) (X := X) (d := d) (β := β) (T := [some ⟨102, zC WC⟩, some ⟨102, zC Y⟩, some ⟨102, .box (zj (WC.getD j 0))⟩])
  have q1 := zAZ (G := G) (F := none) (L := p.N + 1) (w := p.n + p.m) (k := p.m) (X := X) (d := d) (β := β) (T := [some ⟨102, zC WC⟩, some ⟨102, zC Y⟩, some ⟨102, .box (zj (WC.getD j 0))⟩]) 1
  have q2 := zAZ (G := G) (F := none) (L := p.N + 1) (w := p.n + p.m) (k := p.m) (X := X) (d := d) (β := β) (T := [some ⟨102, zC WC⟩, some ⟨102, zC Y⟩, some ⟨102, .box (zj (WC.getD j 0))⟩]) 2
  rw [hXl] at q1 q2
  have g1 : j < (zC Y).len := by show j < Y.length; omega
  have co := zGH (WC.getD j 0)
  have cm := zCS (-(WC.getD j 0)) d (by rw [Int.natAbs_neg]; have := hdD _ _ (by omega) (hWb j hj'); omega) (by have := hdD _ _ (by omega) hdb; omega)
  refine rn0 ?_
  refine zi (by kernel_rfl) ?_
  refine zp (fuel := 1) [0, 1, 2, 3, 4, 5, 6, 7, 8, 9] [(1, .ptr 0 0 0), (2, .ptr 1 0 0), (3, iN p.n), (4, iN p.m), (5, .ptr G.length 0 0), (6, .ro (nsC ((List.range p.m).map p.fac)) 0 p.m), (7, iN p.a), (10, .sl (G.length + 4 + p.m) 0 p.n), (11, zh p.fc), (12, .sl (G.length + 4 + p.m + 1) 0 (p.N + 1)), (63, .sl (G.length + 4 + p.m) 0 p.n), (64, iN p.n), (65, iN j), (13, iN j), (14, .ptr (G.length + 4 + p.m + 2) 0 0)] ⟨Z, Z, Z, Z, Z, Z, Z, Z, Z, Z, Z, Z, Z, Z, Z, trivial⟩ (by kernel_rfl) (by decide) Z Z ?_
  refine zM Z Z (zJ Z) ?_
  refine zM Z Z (zJ Z) ?_
  refine zM Z Z (qas Z Z Z Z) ?_
  refine zA6 Z Z Z Z Z co ?_
  refine zM Z Z (zJ Z) ?_
  refine zM Z Z (zc Z) ?_
  refine zM Z Z (zH Z Z Z Z Z Z) ?_
  refine zM Z Z (qps Z Z Z Z) ?_
  refine zA6 Z Z Z Z Z cm ?_
  refine zM Z Z (qis Z Z Z) ?_
  refine zAA ?_
  refine zF (is := [10]) (by kernel_rfl) (by simp) Z ⟨fun o ho => ?_, trivial⟩
  all_goals (cases ho)
  refine zz (c' := zC (Y.set j (-(WC.getD j 0) * d))) Z Z Z q1 Z g1 (List.length_set ..) Z (zDK Y j _) ?_
  refine zO (zZ G none (p.N + 1) (p.n + p.m) p.m X d β [some ⟨102, zC WC⟩, some ⟨102, zC (Y.set j (-(WC.getD j 0) * d))⟩, some ⟨102, .box (zj (WC.getD j 0))⟩]) (by have q := zAI (G := G) (F := none) (L := p.N + 1) (w := p.n + p.m) (k := p.m) (X := X) (d := d) (β := β) (T := [some ⟨102, zC WC⟩, some ⟨102, zC Y⟩, some ⟨102, .box (zj (WC.getD j 0))⟩]) 1 (some ⟨102, zC (Y.set j (-(WC.getD j 0) * d))⟩); rw [hXl] at q; exact q) ?_
  refine rn1 ?_
  refine zW (by kernel_rfl) ?_
  repeat (refine zAP ?_)
  refine zI ?_
  refine zBF (zZ G none (p.N + 1) (p.n + p.m) p.m X d β [some ⟨102, zC WC⟩, some ⟨102, zC (Y.set j (-(WC.getD j 0) * d))⟩]) [some ⟨102, .box (zj (WC.getD j 0))⟩] [(1, .ptr 0 0 0), (2, .ptr 1 0 0), (3, iN p.n), (4, iN p.m), (5, .ptr G.length 0 0), (6, .ro (nsC ((List.range p.m).map p.fac)) 0 p.m), (7, iN p.a), (10, .sl (G.length + 4 + p.m) 0 p.n), (11, zh p.fc), (12, .sl (G.length + 4 + p.m + 1) 0 (p.N + 1)), (63, .sl (G.length + 4 + p.m) 0 p.n), (64, iN p.n), (65, iN j)] (by rw [zAY]; rfl) ⟨Z, Z, Z, Z, Z, Z, Z, Z, Z, Z, Z, Z, Z, trivial⟩ (fun h hh => by rw [hfix] at hh; exact hh.elim)
   (zCN hG _ (by rw [hlen, hXl]; exact Nat.le_add_right _ _) (fun o ho => by cases ho) (fun o ho => by
    simp only [List.mem_cons, List.mem_nil_iff, or_false] at ho
    rcases ho with e | e <;> cases e <;> exact fun i' j' hi' hj' => zFY _ _ _ hj')) (by rw [hlen]; simp [zDP, zCB, zh]; omega) ?_
  refine rn3 ?_
  exact zK ⟨j + 1, by omega, by omega, ⟨Z, Z, Z, Z, Z, Z, Z, Z, Z, Z, Z, Z, Z, trivial⟩, by rw [← hsj]⟩
 have hje : j = p.n := by omega
 rw [hje, hl0]
 clear hj h hje
 clear j
 have f1 := zA1 (G := G) (F := none) (L := p.N + 1) (w := p.n + p.m) (k := p.m) (X := X) (d := d) (β := β) (T := [some ⟨102, zC WC⟩, some ⟨102, zC (zDA (zBU p) p.N ⟨X, d, β⟩ 0)⟩])
 rw [hβl] at f1
 refine rn15 ?_
 refine ze (ι := Nat) (fun i => [(1, .ptr 0 0 0), (2, .ptr 1 0 0), (3, iN p.n), (4, iN p.m), (5, .ptr G.length 0 0), (6, .ro (nsC ((List.range p.m).map p.fac)) 0 p.m), (7, iN p.a), (10, .sl (G.length + 4 + p.m) 0 p.n), (11, zh p.fc), (12, .sl (G.length + 4 + p.m + 1) 0 (p.N + 1)), (84, .sl (G.length + 2) 0 p.m), (85, iN p.m), (86, iN i)]) (fun i => zZ G none (p.N + 1) (p.n + p.m) p.m X d β [some ⟨102, zC WC⟩, some ⟨102, zC (zDA (zBU p) p.N ⟨X, d, β⟩ i)⟩]) (fun i => i ≤ p.m) (fun i => p.m - i) 0 ⟨⟨Z, Z, Z, Z, Z, Z, Z, Z, Z, Z, Z, Z, Z, trivial⟩, Z, Nat.zero_le _⟩ ?_
 clear f1
 intro i hi
 refine rn4 ?_
 refine zA Z (fun h => ?_) (fun h => ?_)
 ·have hi' : i < p.m := by omega
  have f2 := zFi (G := G) (F := none) (L := p.N + 1) (w := p.n + p.m) (k := p.m) (X := X) (d := d) (β := β) (T := [some ⟨102, zC WC⟩, some ⟨102, zC (zDA (zBU p) p.N ⟨X, d, β⟩ i)⟩])
  have g2 : i < (β.map (fun a : Nat => (a : Int))).length := by rw [List.length_map, hβl]; exact hi'
  have hcl := zHF (zBU p) p.N ⟨X, d, β⟩ i
  have hcl2 := zHF (zBU p) p.N ⟨X, d, β⟩ (i + 1)
  have hnx := fun j (hj : j < p.N + 1) => zOS (k := zBU p) (N := p.N) (s := ⟨X, d, β⟩) (i := i) hj
  have hsk := fun h => zOT (k := zBU p) (N := p.N) (s := ⟨X, d, β⟩) (i := i) h
  have hab := fun j (hj : j < p.N + 1) => hcab i j (by omega) hj
  have lI : (X.getD i []).length = p.N + 1 := hXr _ (zAD [] (by omega))
  generalize hC2 : (zDA (zBU p) p.N ⟨X, d, β⟩ (i + 1)) = C2 at *
  generalize hC1 : (zDA (zBU p) p.N ⟨X, d, β⟩ i) = C1 at *
  have q0 := zAZ (G := G) (F := none) (L := p.N + 1) (w := p.n + p.m) (k := p.m) (X := X) (d := d) (β := β) (T := [some ⟨102, zC WC⟩, some ⟨102, zC C1⟩]) 0
  rw [hXl, Nat.add_zero] at q0
  by_cases hb : β.getD i 0 < p.n
  ·have g0 : β.getD i 0 < (zC WC).len := by show _ < WC.length; omega
   have cs := zEJ (WC.getD (β.getD i 0) 0)
   refine rn7 ?_
   refine zD 16 (iN (β.getD i 0)) Z (AEq.of_eq (by rw [zAr])) ?_
   refine zD 94 (.bool true) Z (AEq.of_eq (by rw [zAr, decide_eq_true (by show ((β.getD i 0 : Nat) : Int) < ((p.n : Nat) : Int); omega)])) ?_
   refine zEO ?_
   refine zD 98 (zA0 (WC.getD (β.getD i 0) 0)) Z (AEq.of_eq Z) ?_
   refine zB Z Z Z cs ?_
   refine rn3 ?_
   refine zA Z (fun h1 => ?_) (fun h1 => ?_)
   ·have hcc := hcs _ hb
    have bW := hWb _ hb
    clear f2 g2 q0
    refine rn3 ?_
    refine ze (ι := Nat) (fun j => [(1, .ptr 0 0 0), (2, .ptr 1 0 0), (3, iN p.n), (4, iN p.m), (5, .ptr G.length 0 0), (6, .ro (nsC ((List.range p.m).map p.fac)) 0 p.m), (7, iN p.a), (10, .sl (G.length + 4 + p.m) 0 p.n), (11, zh p.fc), (12, .sl (G.length + 4 + p.m + 1) 0 (p.N + 1)), (84, .sl (G.length + 2) 0 p.m), (85, iN p.m), (86, iN i), (15, iN i), (16, iN (β.getD i 0)), (103, .int .i64 ((p.N + 1 : Nat))), (104, iN j)]) (fun j => zZ G none (p.N + 1) (p.n + p.m) p.m X d β [some ⟨102, zC WC⟩, some ⟨102, zC (chg (fun j => C2.getD j 0) 0 C1 j)⟩]) (fun j => j ≤ p.N + 1) (fun j => p.N + 1 - j) 0 ⟨⟨Z, Z, Z, Z, Z, Z, Z, Z, Z, Z, Z, Z, Z, Z, Z, Z, Z, trivial⟩, by rw [zC9], Nat.zero_le _⟩ ?_
    intro j hj
    refine rn4 ?_
    refine zA Z (fun h2 => ?_) (fun h2 => ?_)
    ·have hj' : j < p.N + 1 := by omega
     have hgj := zC2 (fun j => C2.getD j 0) 0 C1 (k := j) (i := j) (by omega)
     rw [if_neg (Nat.lt_irrefl j)] at hgj
     have hsj := zDg (fun j => C2.getD j 0) 0 C1 (k := j) (by omega)
     have hlj := zCn (fun j => C2.getD j 0) 0 C1 j
     have hnj := hnx j hj'
     rw [hcc, ← hgj] at hnj
     rw [hnj] at hsj
     have ab := hab j hj'
     rw [← hgj] at ab
     generalize chg (fun j => C2.getD j 0) 0 C1 j = Y at *
     have q1 := zA1 (G := G) (F := none) (L := p.N + 1) (w := p.n + p.m) (k := p.m) (X := X) (d := d) (β := β) (T := [some ⟨102, zC WC⟩, some ⟨102, zC Y⟩])
     have q2 := zCm (G := G) (F := none) (L := p.N + 1) (w := p.n + p.m) (k := p.m) (X := X) (d := d) (β := β) (T := [some ⟨102, zC WC⟩, some ⟨102, zC Y⟩])
     have q3 := zCZ (G := G) (F := none) (L := p.N + 1) (w := p.n + p.m) (k := p.m) (X := X) (d := d) (β := β) (T := [some ⟨102, zC WC⟩, some ⟨102, zC Y⟩]) (a := i) (by omega)
     have q4 := zAZ (G := G) (F := none) (L := p.N + 1) (w := p.n + p.m) (k := p.m) (X := X) (d := d) (β := β) (T := [some ⟨102, zC WC⟩, some ⟨102, zC Y⟩]) 0
     have q5 := zAZ (G := G) (F := none) (L := p.N + 1) (w := p.n + p.m) (k := p.m) (X := X) (d := d) (β := β) (T := [some ⟨102, zC WC⟩, some ⟨102, zC Y⟩]) 1
     rw [hXl] at q4 q5
     rw [Nat.add_zero] at q4
     have g3 : i < (zBh G.length X.length (p.N + 1)).len := by show i < X.length; omega
     have g4 : j < (zC (X.getD i [])).len := by show j < (X.getD i []).length; omega
     have g5 : j < (zC Y).len := by show j < Y.length; omega
     have bX := hXb i j hi' hj'
     have hp10 : (WC.getD (β.getD i 0) 0 * at2 X i j).natAbs ≤ 10 ^ (p.E k + p.T k) := by rw [Int.natAbs_mul, Nat.pow_add]; exact Nat.mul_le_mul bW bX
     have cm := zCS (WC.getD (β.getD i 0) 0) (at2 X i j) (by have := hdD _ _ (by omega) bW; omega) (by have := hdD _ _ (by omega) bX; omega)
     have ca := zMR (Y.getD j 0) (WC.getD (β.getD i 0) 0 * at2 X i j) (by have := hdD _ _ (by omega) ab; omega) (by have := hdD _ _ (by omega) hp10; omega)
     refine rn1 ?_
     refine zi (by kernel_rfl) ?_
     refine zp (fuel := 1) [0, 1, 2, 3, 4, 5, 6, 7, 8, 9, 10, 11, 12, 13, 14, 15, 16, 17, 18, 19, 20, 21, 22] [(1, .ptr 0 0 0), (2, .ptr 1 0 0), (3, iN p.n), (4, iN p.m), (5, .ptr G.length 0 0), (6, .ro (nsC ((List.range p.m).map p.fac)) 0 p.m), (7, iN p.a), (10, .sl (G.length + 4 + p.m) 0 p.n), (11, zh p.fc), (12, .sl (G.length + 4 + p.m + 1) 0 (p.N + 1)), (84, .sl (G.length + 2) 0 p.m), (85, iN p.m), (86, iN i), (15, iN i), (16, iN (β.getD i 0)), (103, .int .i64 ((p.N + 1 : Nat))), (104, iN j), (17, iN j)] ⟨Z, Z, Z, Z, Z, Z, Z, Z, Z, Z, Z, Z, Z, Z, Z, Z, Z, Z, trivial⟩ (by kernel_rfl) (by decide) Z Z ?_
     refine zM Z Z (zJ Z) ?_
     refine zM Z Z (zJ Z) ?_
     refine zM Z Z (zJ Z) ?_
     refine zM Z Z (zJ Z) ?_
     refine zM Z Z (qis Z Z Z) ?_
     refine zM Z Z (qas Z Z Z Z) ?_
     refine zM Z Z (zJ Z) ?_
     refine zM Z Z (zJ Z) ?_
     refine zM Z Z (qis Z Z Z) ?_
     refine zM Z Z (qas Z Z Z Z) ?_
     refine zM Z Z (zJ Z) ?_
     refine zM Z Z (zc Z) ?_
     refine zM Z Z (zH Z Z Z Z Z Z) ?_
     refine zM Z Z (z8 Z Z Z (by assumption) (by rfl)) ?_
     refine zM Z Z (zJ Z) ?_
     refine zM Z Z (qis Z Z Z) ?_
     refine zM Z Z (zAx Z Z Z (by assumption) Z (by first | assumption | omega)) ?_
     refine zM Z Z (zJ Z) ?_
     refine zM Z Z (qis Z Z Z) ?_
     refine zM Z Z (qas Z Z Z Z) ?_
     refine zA6 Z Z Z Z Z cm ?_
     refine zA6 Z Z Z Z Z ca ?_
     refine zM Z Z (qis Z Z Z) ?_
     refine zAA ?_
     refine zF (is := [23]) (by kernel_rfl) (by simp) Z ⟨fun o ho => ?_, trivial⟩
     all_goals (cases ho)
     refine zz (c' := zC (Y.set j (Y.getD j 0 + WC.getD (β.getD i 0) 0 * at2 X i j))) Z Z Z q5 Z g5 (List.length_set ..) Z (zDK Y j _) ?_
     refine zO (zZ G none (p.N + 1) (p.n + p.m) p.m X d β [some ⟨102, zC WC⟩, some ⟨102, zC (Y.set j (Y.getD j 0 + WC.getD (β.getD i 0) 0 * at2 X i j))⟩]) (by have q := zAI (G := G) (F := none) (L := p.N + 1) (w := p.n + p.m) (k := p.m) (X := X) (d := d) (β := β) (T := [some ⟨102, zC WC⟩, some ⟨102, zC Y⟩]) 1 (some ⟨102, zC (Y.set j (Y.getD j 0 + WC.getD (β.getD i 0) 0 * at2 X i j))⟩); rw [hXl] at q; exact q) ?_
     refine rn1 ?_
     refine zW (by kernel_rfl) ?_
     refine rn5 ?_
     exact zK ⟨j + 1, by omega, by omega, ⟨Z, Z, Z, Z, Z, Z, Z, Z, Z, Z, Z, Z, Z, Z, Z, Z, Z, trivial⟩, by rw [← hsj]⟩
    ·have hje : j = p.N + 1 := by omega
     subst hje
     rw [chg_to hcl hcl2]
     refine rn5 ?_
     exact zK ⟨i + 1, by omega, by omega, ⟨Z, Z, Z, Z, Z, Z, Z, Z, Z, Z, Z, Z, Z, trivial⟩, by rw [hC2]⟩
   ·have hz : WC.getD (β.getD i 0) 0 = 0 := Decidable.byContradiction (fun q => h1 (fun e => q (by rw [zJL] at e; exact e)))
    have e := hsk (hcz _ (fun q => q.2 hz))
    refine rn5 ?_
    exact zK ⟨i + 1, by omega, by omega, ⟨Z, Z, Z, Z, Z, Z, Z, Z, Z, Z, Z, Z, Z, trivial⟩, by rw [hC2, e]⟩
  ·have e := hsk (hcz _ (fun q => hb q.1))
   refine rn7 ?_
   refine zD 94 (.bool false) Z (AEq.of_eq (by rw [zAr, decide_eq_false (by show ¬ ((β.getD i 0 : Nat) : Int) < ((p.n : Nat) : Int); omega)])) ?_
   refine rn6 ?_
   exact zK ⟨i + 1, by omega, by omega, ⟨Z, Z, Z, Z, Z, Z, Z, Z, Z, Z, Z, Z, Z, trivial⟩, by rw [hC2, e]⟩
 have hie : i = p.m := by omega
 rw [hie]
 clear hi h hie
 clear i
 have hLl := zHF (zBU p) p.N ⟨X, d, β⟩ p.m
 generalize (zDA (zBU p) p.N ⟨X, d, β⟩ p.m) = LC at *
 clear hcab hcs hcz hl0
 have q6 := zAZ (G := G) (F := none) (L := p.N + 1) (w := p.n + p.m) (k := p.m) (X := X) (d := d) (β := β) (T := [some ⟨102, zC WC⟩, some ⟨102, zC LC⟩]) 1
 rw [hXl] at q6
 refine zBa ?_
 refine zPR (G.length + 4 + p.m) (G.length + 4 + p.m + 1) 12 (p.N + 1) (by omega) (by rw [hlen]; show G.length + 4 + p.m < G.length + 4 + p.m + 2; omega) q6 (by rw [hfix]; exact fun h => h) Z ?_
 refine zPQ ((12, .sl (G.length + 4 + p.m) 0 (p.N + 1)) :: [(1, .ptr 0 0 0), (2, .ptr 1 0 0), (3, iN p.n), (4, iN p.m), (5, .ptr G.length 0 0), (6, .ro (nsC ((List.range p.m).map p.fac)) 0 p.m), (7, iN p.a), (11, zh p.fc)]) ⟨Z, zAq (h := G.length + 4 + p.m) (L := [(1, .ptr 0 0 0), (2, .ptr 1 0 0), (3, iN p.n), (4, iN p.m), (5, .ptr G.length 0 0), (6, .ro (nsC ((List.range p.m).map p.fac)) 0 p.m), (7, iN p.a), (11, zh p.fc)]) ⟨Z, Z, Z, Z, Z, Z, Z, Z, trivial⟩ (by
  intro q hq
  simp only [List.mem_cons, List.mem_nil_iff, or_false] at hq
  rcases hq with rfl | rfl | rfl | rfl | rfl | rfl | rfl | rfl <;> simp [AV.forget, zh, zq (show G.length ≠ G.length + 4 + p.m by omega), zq (show 0 ≠ G.length + 4 + p.m by omega), zq (show 1 ≠ G.length + 4 + p.m by omega)])⟩ ?_
 refine zBi (zZ G none (p.N + 1) (p.n + p.m) p.m X d β [some ⟨102, zC LC⟩, none]) (by
  have q := zQ.set (zQ.set (zJP (G := G) (L := p.N + 1) (w := p.n + p.m) (k := p.m) (X := X) (d := d) (β := β) (T := [some ⟨102, zC WC⟩, some ⟨102, zC LC⟩]) (T' := [some ⟨102, zC WC⟩, some ⟨102, zC LC⟩]) (G.length + 4 + p.m) (hFG _) (by omega) (by show zQ [some (⟨_, (zC WC).forget _⟩ : AObj), some (⟨_, (zC LC).forget _⟩ : AObj)] _; rw [zBN, zBN]; exact zQ.refl _)) (G.length + 4 + p.m) (x := some ⟨102, (zC LC).forget (G.length + 4 + p.m)⟩) (x' := some ⟨102, zC LC⟩) (fun o ho => by cases ho; exact ⟨_, rfl, rfl, by rw [zBN]; exact CEq.refl _⟩)) (G.length + 4 + p.m + 1) (x := none) (x' := none) (fun o ho => by cases ho)
  have e1 : (zZ G none (p.N + 1) (p.n + p.m) p.m X d β [some ⟨102, zC WC⟩, some ⟨102, zC LC⟩]).set (G.length + 4 + p.m) (some ⟨102, zC LC⟩) = zZ G none (p.N + 1) (p.n + p.m) p.m X d β [some ⟨102, zC LC⟩, some ⟨102, zC LC⟩] := by
   have q := zAI (G := G) (F := none) (L := p.N + 1) (w := p.n + p.m) (k := p.m) (X := X) (d := d) (β := β) (T := [some ⟨102, zC WC⟩, some ⟨102, zC LC⟩]) 0 (some ⟨102, zC LC⟩)
   rw [hXl] at q
   exact q
  have e2 := zAI (G := G) (F := none) (L := p.N + 1) (w := p.n + p.m) (k := p.m) (X := X) (d := d) (β := β) (T := [some ⟨102, zC LC⟩, some ⟨102, zC LC⟩]) 1 none
  rw [hXl] at e2
  rw [e1] at q
  exact (show zQ _ _ from e2 ▸ q)) ?_
 refine zBF (zZ G none (p.N + 1) (p.n + p.m) p.m X d β [some ⟨102, zC LC⟩]) [none] ((12, .sl (G.length + 4 + p.m) 0 (p.N + 1)) :: [(1, .ptr 0 0 0), (2, .ptr 1 0 0), (3, iN p.n), (4, iN p.m), (5, .ptr G.length 0 0), (6, .ro (nsC ((List.range p.m).map p.fac)) 0 p.m), (7, iN p.a), (11, zh p.fc)]) (by rw [zAY]; rfl) ⟨Z, Z, Z, Z, Z, Z, Z, Z, Z, trivial⟩ (fun h hh => by rw [hfix] at hh; exact hh.elim)
  (zCN hG _ (by rw [hlen, hXl]; exact Nat.le_add_right _ _) (fun o ho => by cases ho) (fun o ho => by cases List.mem_singleton.1 ho; exact fun i' j' hi' hj' => zFY _ _ _ hj')) (by rw [hlen]; simp [zDP, zCB, zh]; omega) ?_
 clear q6
 have f1 := zA1 (G := G) (F := none) (L := p.N + 1) (w := p.n + p.m) (k := p.m) (X := X) (d := d) (β := β) (T := [some ⟨102, zC LC⟩])
 refine rn7 ?_
 refine zCi Z Z Z Z Z Z Z Z Z Z ?_
 refine zO (zZ G none (p.N + 1) (p.n + p.m) p.m X d β [some ⟨102, zC LC⟩, some ⟨265, zBp 1 1 [.sl (G.length + 4 + p.m) 0 (p.N + 1)]⟩]) (by rw [zAY]; rfl) ?_
 refine zD 138 (.sl (G.length + 4 + p.m + 1) 0 1) Z (AEq.of_eq (by rw [hlen]; rfl)) ?_
 have f2 := zCm (G := G) (F := none) (L := p.N + 1) (w := p.n + p.m) (k := p.m) (X := X) (d := d) (β := β) (T := [some ⟨102, zC LC⟩, some ⟨265, zBp 1 1 [.sl (G.length + 4 + p.m) 0 (p.N + 1)]⟩])
 have f3 := zAZ (G := G) (F := none) (L := p.N + 1) (w := p.n + p.m) (k := p.m) (X := X) (d := d) (β := β) (T := [some ⟨102, zC LC⟩, some ⟨265, zBp 1 1 [.sl (G.length + 4 + p.m) 0 (p.N + 1)]⟩]) 1
 rw [hXl] at f3
 have hol : (zBh G.length X.length (p.N + 1)).len = p.m := hXl
 skip
 refine zr Z Z Z Z Z Z Z f2 Z hol Z (zIr f3) (by show 0 + 1 ≤ 1; omega) Z (by show (p.m + 1) * 24 ≤ _ ∧ _; omega) ?_ (by rw [hfix]; exact fun h => h) ?_
 ·intro i' j' hi' hj'
  obtain rfl := Nat.lt_one_iff.1 (show j' < 1 from hj')
  have q := (zEs G.length X.length (p.N + 1) (zBp 1 1 [AV.sl (G.length + 4 + p.m) 0 (p.N + 1)]) (by rw [hXl]; rfl)).2.2 i' 0 hi' Nat.zero_lt_one
  refine Eq.trans (congrArg (AV.forget _) q.symm) (Eq.trans ?_ q)
  show AV.forget _ (AV.sl (G.length + 4 + i') 0 (p.N + 1)) = _
  unfold AV.forget
  rw [zq (show G.length + 4 + i' ≠ G.length + 3 by omega)]; rfl
 refine zBk ((139, .sl (G.length + 3) 0 (p.m + 1)) :: (132, .ptr G.length 0 0) :: [(1, .ptr 0 0 0), (2, .ptr 1 0 0), (3, iN p.n), (4, iN p.m), (5, .ptr G.length 0 0), (6, .ro (nsC ((List.range p.m).map p.fac)) 0 p.m), (7, iN p.a), (11, zh p.fc)]) ⟨Z, zAq (h := G.length + 3) (L := (132, .ptr G.length 0 0) :: [(1, .ptr 0 0 0), (2, .ptr 1 0 0), (3, iN p.n), (4, iN p.m), (5, .ptr G.length 0 0), (6, .ro (nsC ((List.range p.m).map p.fac)) 0 p.m), (7, iN p.a), (11, zh p.fc)]) ⟨Z, Z, Z, Z, Z, Z, Z, Z, Z, trivial⟩ (by
  intro q hq
  simp only [List.mem_cons, List.mem_nil_iff, or_false] at hq
  rcases hq with rfl | rfl | rfl | rfl | rfl | rfl | rfl | rfl | rfl <;> simp [AV.forget, zh, zq (show G.length ≠ G.length + 3 by omega), zq (show 0 ≠ G.length + 3 by omega), zq (show 1 ≠ G.length + 3 by omega)])⟩ ?_
 refine zv (zKs G (p.N + 1) (p.n + p.m) (X ++ [LC]) d β [none]) (zL4 (hFG _) (zEs G.length X.length (p.N + 1) _ (by rw [hXl]; rfl))) ?_
 refine rn7 ?_
 refine zBe Z Z Z Z zPL Z Z Nat.zero_lt_one ?_
 refine zO (zZ G none (p.N + 1) (p.n + p.m) (p.m + 1) (X ++ [LC]) d β [none]) zPN ?_
 refine zBa ?_
 have hl1 : (X ++ [LC]).length = p.m + 1 := by rw [List.length_append, hXl]; rfl
 refine zBF (zZ G none (p.N + 1) (p.n + p.m) (p.m + 1) (X ++ [LC]) d β []) [none] [(1, .ptr 0 0 0), (2, .ptr 1 0 0), (3, iN p.n), (4, iN p.m), (5, .ptr G.length 0 0), (6, .ro (nsC ((List.range p.m).map p.fac)) 0 p.m), (7, iN p.a), (11, zh p.fc)] (by rw [zAY]; rfl) ⟨Z, Z, Z, Z, Z, Z, Z, Z, trivial⟩ (fun h hh => by rw [hfix] at hh; exact hh.elim)
  (zCN hG _ (by rw [zBB]; exact Nat.le_add_right _ _) (fun o ho => by cases ho) (fun o ho => by cases ho)) (by rw [zBB, hl1]; simp [zDP, zCB, zh]; omega) ?_
 refine zAi (stH G p.N (p.n + p.m) (p.m + 1) (ph2 p K)) (by rw [hlast]) ?_
 have cr := run_ok G hG p.m p.N (p.n + p.m) (M2 p) (ph2 p K) hph.1 hph.2.1 (zFj p) L (hs.two hneg) (p.T k) (by omega) (by omega) (fun u hu => zEn hu (by omega) (zGc hp hk)) (by omega)
 obtain ⟨hti, htf, _⟩ := zHW p hp K L h0
 have hfree := fun h => zRH (K := K) (L := L) hneg h
 have hbest := fun h => zRG (K := K) (L := L) hneg h
 obtain ⟨b1, b2⟩ := zEn hti (by omega) (zGc hp hk)
 have hcle := col_le p (zDe p K L)
 refine rn0 ?_
 refine zCb Z Z Z cr (fun _ h => h) (fun _ h => h) ?_
 rintro r' H' ⟨rfl, rfl⟩
 clear cr f1 f2 f3 hol hlast hXl hXr hXb hβl hdb hlen hl1 hph hs
 have e2 : zAa p.m p.N (p.n + p.m) (ph2 p K) L = zDe p K L := rfl
 rw [e2]
 clear e2
 generalize zDe p K L = t at *
 have hn' := hti.n
 have htb := hti.b
 have hrow := hti.row
 have hd : t.den ≠ 0 := by have := hti.dp; omega
 have f1 := zA1 (G := G) (F := none) (L := p.N + 1) (w := p.n + p.m) (k := (p.m + 1)) (X := t.rows) (d := t.den) (β := t.basis) (T := [])
 have f2 := zCm (G := G) (F := none) (L := p.N + 1) (w := p.n + p.m) (k := (p.m + 1)) (X := t.rows) (d := t.den) (β := t.basis) (T := [])
 refine rn0 ?_
 refine zi (by kernel_rfl) ?_
 refine zCq (fuel := 4) [0, 1, 2, 3, 4, 5, 6, 7, 8, 9, 10, 11, 12, 13] [(1, .ptr 0 0 0), (2, .ptr 1 0 0), (3, iN p.n), (4, iN p.m), (5, .ptr G.length 0 0), (6, .ro (nsC ((List.range p.m).map p.fac)) 0 p.m), (7, iN p.a), (11, zh p.fc), (18, .int .i64 (resZ p.m (p.n + p.m) t))] ⟨Z, Z, Z, Z, Z, Z, Z, Z, Z, trivial⟩ (by kernel_rfl) (by decide) Z Z ?_
 refine zM Z Z (zJ Z) ?_
 refine zM Z Z (zJ Z) ?_
 refine zM Z Z (zc Z) ?_
 refine zM Z Z (zH Z Z Z Z Z Z) ?_
 refine zM Z Z (z8 Z Z Z (by assumption) (by rfl)) ?_
 refine zM Z Z (zJ Z) ?_
 refine zM Z Z (zFP Z Z f2 Z Z Z Z Z ⟨Z, by omega, by omega⟩) ?_
 refine zM Z Z (zJ Z) ?_
 refine zM Z Z (zc Z) ?_
 refine zM Z Z (zH Z Z Z Z Z Z) ?_
 refine zM Z Z (z8 Z Z Z (by assumption) (by rfl)) ?_
 refine zM Z Z (zJ Z) ?_
 refine zM Z Z (qis Z Z Z) ?_
 refine zM Z Z (zAx Z Z Z (by assumption) Z (by first | assumption | omega)) ?_
 refine zAA ?_
 refine zV 14 Z (by kernel_rfl) (by kernel_rfl) (by kernel_rfl) Z (zc Z) Z ?_
 refine zV 15 Z (by kernel_rfl) (by kernel_rfl) (by kernel_rfl) Z (zH Z Z Z Z Z Z) Z ?_
 refine zF (is := [16]) (by kernel_rfl) (by simp) Z ⟨fun o ho => ?_, trivial⟩
 all_goals (cases ho)
 refine zD 150 (.sl (G.length + 3) 0 p.m) Z (AEq.of_eq Z) ?_
 refine zBe Z Z Z Z f1 Z Z Nat.zero_lt_one ?_
 refine zO (zZ G none (p.N + 1) (p.n + p.m) p.m t.rows t.den t.basis []) (zH7 p.m (p.n + p.m) t.den) ?_
 refine rn1 ?_
 refine zV 17 Z (by kernel_rfl) (by kernel_rfl) (by kernel_rfl) Z (zm Z) Z ?_
 refine zW (by kernel_rfl) ?_
 repeat (refine zI ?_)
 refine zAE 12 (.sl (G.length + 4 + p.m) 0 (p.N + 1)) Z (AEq.of_eq Z) ?_
 clear f1 f2
 have hvl : (zBj p t).length = p.n := by unfold zBj; rw [zDo]; simp
 have hsb : ∀ i j, i < p.m + 1 → j < p.N + 1 → (zS (at2 t.rows i j).natAbs).length ≤ 400001 := fun i j hi hj => hdD _ _ (by omega) (b1 i j hi hj)
 have hdl : (zS t.den.natAbs).length ≤ 400001 := hdD _ _ (by omega) b2
 by_cases hc : zCH p.m (p.n + p.m) t < p.n + p.m
 ·rw [hfree hc] at hR
  have hw := zFj p
  have cv := zF9 G hG p.N (p.n + p.m) p.m t.rows t.den t.basis [] (fun m _ o ho => by cases ho) p.n (by omega) (by omega) (by omega) (by omega) hrow (by omega) hd (fun i hi => by have := hsb i p.N (by omega) (by omega); omega) (by omega)
  have cy := ray_ok G hG p.N (p.n + p.m) p.m t.rows t.den t.basis [] (fun m _ o ho => by cases ho) p.n (zCH p.m (p.n + p.m) t) (by omega) (by omega) (by omega) (by omega) (by omega) hrow (by omega) hd (fun i hi => by have := hsb i (zCH p.m (p.n + p.m) t) (by omega) (by omega); omega) (by omega)
  rw [htb] at cv cy
  have hrl : (zHa p t (zCH p.m (p.n + p.m) t)).length = p.n := by unfold zHa; rw [zDo]; exact zG1 _ _
  refine zAE 18 (iN (zCH p.m (p.n + p.m) t)) Z (AEq.of_eq (by unfold resZ; rw [if_neg (by omega)])) ?_
  refine rn12 ?_
  refine zCb Z Z Z cv (fun _ h => h) (fun _ h => h) ?_
  rintro r' H' ⟨rfl, rfl⟩
  repeat (refine zG (zJ rfl) ?_)
  refine zCb Z Z Z cy (fun _ h => h) (fun _ h => h) ?_
  rintro r' H' ⟨rfl, rfl⟩
  repeat (refine zG (zBG rfl rfl rfl rfl rfl rfl) ?_)
  refine zz (c' := .box [.int .i64 2, .ro (qsC (zBj p t)) 0 p.n, .nil, .ro (qsC (zHa p t (zCH p.m (p.n + p.m) t))) 0 p.n, .bool false, .nil, .nil]) Z Z Z (hg1 _ _ _ _ _) Z Nat.zero_lt_one Z Z (fun i' j' hi' hj' => ?_) ?_
  ·rw [if_pos (Nat.lt_one_iff.1 hi')]; rfl
  refine rn2 ?_
  refine zL hR (zGA Z (zPD (hg1 _ _ _ _ _)) Z Z Z) ?_
  show AV.agg _ = runA _
  unfold runA
  simp only [hvl, hrl]
  rfl
 ·rw [hbest hc] at hR
  have hce : zCH p.m (p.n + p.m) t = p.n + p.m := by omega
  refine zAE 18 (.int .i64 (-1)) Z (AEq.of_eq (by unfold resZ; rw [if_pos hce])) ?_
  have hfc : (zS ((p.fc : Nat) : Int).natAbs).length ≤ 400001 := hdD _ (k * p.n) (by have : k * p.n ≤ 100 * 30 := Nat.mul_le_mul hk40 hn; omega) (by rw [Int.natAbs_natCast]; exact fc_le hk)
  have hfp := zHp p
  have hD : t.den * (p.fc : Nat) ≠ 0 := by
   have := Int.mul_pos hti.dp (show (0 : Int) < ((p.fc : Nat) : Int) by omega)
   omega
  have hkn : k * p.n ≤ 3000 := Nat.mul_le_mul hk40 hn
  have hpr : (t.den * (p.fc : Nat)).natAbs ≤ 10 ^ (p.T k + k * p.n) := by
   rw [Int.natAbs_mul, Int.natAbs_natCast, Nat.pow_add]
   exact Nat.mul_le_mul b2 (fc_le hk)
  have hpl := hdD _ _ (by omega) hpr
  have cm := zCS t.den ((p.fc : Nat) : Int) (by omega) (by omega)
  rw [intA_nat] at cm
  have hw := zFj p
  have q3 := zCZ (G := G) (F := none) (L := p.N + 1) (w := p.n + p.m) (k := p.m) (X := t.rows) (d := t.den) (β := t.basis) (T := []) (a := p.m) (by omega)
  clear q3
  refine rn8 ?_
  refine zO (zZ G none (p.N + 1) (p.n + p.m) p.m t.rows t.den t.basis [some ⟨102, .box [.bool false, .nil]⟩]) (by rw [zAY]; rfl) ?_
  refine zD 19 (.ptr (G.length + 4 + (p.m + 1)) 0 0) Z (AEq.of_eq (by rw [zBB, hn']; rfl)) ?_
  refine zD 171 (.agg [.bool false, zh p.fc]) Z (AEq.of_eq Z) ?_
  have q0 := zAZ (G := G) (F := none) (L := p.N + 1) (w := p.n + p.m) (k := p.m) (X := t.rows) (d := t.den) (β := t.basis) (T := [some ⟨102, .box [.bool false, .nil]⟩]) 0
  rw [hn', Nat.add_zero] at q0
  refine zz (c' := .box [.bool false, zh p.fc]) Z Z Z q0 Z Nat.zero_lt_one Z Z (fun i' j' hi' hj' => ?_) ?_
  ·rw [if_pos (Nat.lt_one_iff.1 hi')]; rfl
  refine zO (zZ G none (p.N + 1) (p.n + p.m) p.m t.rows t.den t.basis [some ⟨102, .box [.bool false, zh p.fc]⟩]) (by have q := zAI (G := G) (F := none) (L := p.N + 1) (w := p.n + p.m) (k := p.m) (X := t.rows) (d := t.den) (β := t.basis) (T := [some ⟨102, .box [.bool false, .nil]⟩]) 0 (some ⟨102, .box [.bool false, zh p.fc]⟩); rw [hn', Nat.add_zero] at q; exact q) ?_
  clear q0
  refine rn0 ?_
  refine zAo 20 ⟨104, qsC ((List.range 0).map (fun i => Rat.divInt (at2 t.rows p.m (p.n + i)) (t.den * (p.fc : Nat))))⟩ Z Z ?_
  refine zAi (zZ G none (p.N + 1) (p.n + p.m) p.m t.rows t.den t.basis [some ⟨102, .box [.bool false, zh p.fc]⟩, some ⟨104, qsC ((List.range 0).map (fun i => Rat.divInt (at2 t.rows p.m (p.n + i)) (t.den * (p.fc : Nat))))⟩]) (by rw [zAY]; rfl) ?_
  refine zAE 20 (.sl (G.length + 4 + (p.m + 1) + 1) 0 0) Z (AEq.of_eq (by rw [zBB, hn']; rfl)) ?_
  have hyl : ∀ i, ((List.range i).map (fun i => Rat.divInt (at2 t.rows p.m (p.n + i)) (t.den * (p.fc : Nat)))).length = i := fun i => by simp
  repeat (refine zAF ?_)
  refine ze (ι := Nat) (fun i => [(1, .ptr 0 0 0), (2, .ptr 1 0 0), (3, iN p.n), (4, iN p.m), (5, .ptr G.length 0 0), (6, .ro (nsC ((List.range p.m).map p.fac)) 0 p.m), (7, iN p.a), (11, zh p.fc), (12, .sl (G.length + 4 + p.m) 0 (p.N + 1)), (19, .ptr (G.length + 4 + (p.m + 1)) 0 0), (20, .sl (G.length + 4 + (p.m + 1) + 1) 0 i), (172, iN p.m), (173, iN i)]) (fun i => zZ G none (p.N + 1) (p.n + p.m) p.m t.rows t.den t.basis [some ⟨102, .box [.bool false, zh p.fc]⟩, some ⟨104, qsC ((List.range i).map (fun i => Rat.divInt (at2 t.rows p.m (p.n + i)) (t.den * (p.fc : Nat))))⟩]) (fun i => i ≤ p.m) (fun i => p.m - i) 0 ⟨⟨Z, Z, Z, Z, Z, Z, Z, Z, Z, Z, Z, Z, Z, trivial⟩, Z, Nat.zero_le _⟩ ?_
  intro i hi
  refine rn4 ?_
  refine zA Z (fun h => ?_) (fun h => ?_)
  ·have hi' : i < p.m := by omega
   have hys : ((List.range (i + 1)).map (fun i => Rat.divInt (at2 t.rows p.m (p.n + i)) (t.den * (p.fc : Nat)))) = ((List.range i).map (fun i => Rat.divInt (at2 t.rows p.m (p.n + i)) (t.den * (p.fc : Nat)))) ++ [Rat.divInt (at2 t.rows p.m (p.n + i)) (t.den * (p.fc : Nat))] := by rw [List.range_succ, List.map_append]; rfl
   have hyi := hyl i
   generalize ((List.range i).map (fun i => Rat.divInt (at2 t.rows p.m (p.n + i)) (t.den * (p.fc : Nat)))) = Y at *
   have q1 := zA1 (G := G) (F := none) (L := p.N + 1) (w := p.n + p.m) (k := p.m) (X := t.rows) (d := t.den) (β := t.basis) (T := [some ⟨102, .box [.bool false, zh p.fc]⟩, some ⟨104, qsC Y⟩])
   have q3 := zCZ (G := G) (F := none) (L := p.N + 1) (w := p.n + p.m) (k := p.m) (X := t.rows) (d := t.den) (β := t.basis) (T := [some ⟨102, .box [.bool false, zh p.fc]⟩, some ⟨104, qsC Y⟩]) (a := p.m) (by omega)
   have q4 := zAZ (G := G) (F := none) (L := p.N + 1) (w := p.n + p.m) (k := p.m) (X := t.rows) (d := t.den) (β := t.basis) (T := [some ⟨102, .box [.bool false, zh p.fc]⟩, some ⟨104, qsC Y⟩]) 0
   have q5 := zAZ (G := G) (F := none) (L := p.N + 1) (w := p.n + p.m) (k := p.m) (X := t.rows) (d := t.den) (β := t.basis) (T := [some ⟨102, .box [.bool false, zh p.fc]⟩, some ⟨104, qsC Y⟩]) 1
   rw [hn'] at q4 q5
   rw [Nat.add_zero] at q4
   have lm : (t.rows.getD p.m []).length = p.N + 1 := hrow _ (zAD [] (by omega))
   have g7 : p.n + i < (zC (t.rows.getD p.m [])).len := by show p.n + i < (t.rows.getD p.m []).length; omega
   have cfr := zHM (at2 t.rows p.m (p.n + i)) (t.den * (p.fc : Nat)) hD (by have := hsb p.m (p.n + i) (by omega) (by omega); omega) (by omega)
   refine rn1 ?_
   refine zi (by kernel_rfl) ?_
   refine zV 0 Z (by kernel_rfl) (by kernel_rfl) (by kernel_rfl) Z (zJ Z) Z ?_
   refine zCq (fuel := 3) [1, 2, 3, 4, 5, 6, 7, 8, 9, 10, 11, 12, 13] [(1, .ptr 0 0 0), (2, .ptr 1 0 0), (3, iN p.n), (4, iN p.m), (5, .ptr G.length 0 0), (6, .ro (nsC ((List.range p.m).map p.fac)) 0 p.m), (7, iN p.a), (11, zh p.fc), (12, .sl (G.length + 4 + p.m) 0 (p.N + 1)), (19, .ptr (G.length + 4 + (p.m + 1)) 0 0), (20, .sl (G.length + 4 + (p.m + 1) + 1) 0 i), (172, iN p.m), (173, iN i), (21, iN i), (176, .sl (G.length + 4 + (p.m + 1) + 1) 0 i)] ⟨Z, Z, Z, Z, Z, Z, Z, Z, Z, Z, Z, Z, Z, Z, Z, trivial⟩ (by kernel_rfl) (by decide) Z Z ?_
   refine zM Z Z (zJ Z) ?_
   refine zM Z Z (zJ Z) ?_
   refine zM Z Z (zJ Z) ?_
   refine zM Z Z (zCE Z Z (by omega)) ?_
   refine zM Z Z (zCu (ix := p.n + i) Z Z Z q3 Z (by show 0 + ((p.n : Nat) + (i : Nat) : Int).toNat = p.n + i; omega) (by omega)) ?_
   refine zM Z Z (qas Z Z Z Z) ?_
   refine zM Z Z (zJ Z) ?_
   refine zM Z Z (zc Z) ?_
   refine zM Z Z (zH Z Z Z Z Z Z) ?_
   refine zM Z Z (qps Z Z Z Z) ?_
   refine zM Z Z (qas Z Z Z Z) ?_
   refine zA6 Z Z Z Z Z cm ?_
   refine zA6 Z Z Z Z Z cfr ?_
   refine zAA ?_
   unfold qA
   refine zF (is := [14]) (by kernel_rfl) (by simp) Z ⟨fun o ho => ?_, trivial⟩
   all_goals (cases ho)
   refine rn3 ?_
   refine zF (is := [15]) (by kernel_rfl) (by simp) Z ⟨fun o ho => ?_, trivial⟩
   all_goals (cases ho)
   refine zr Z Z Z Z Z Z Z q5 Z hyi Z Z (by show 0 + 1 ≤ 1; omega) Z (by show (i + 1) * 56 ≤ _ ∧ _; omega) ?_ (by rw [hfix]; exact fun h => h) ?_
   ·intro i' j' hi' hj'
    exact zAM 0 3 zT zAe Y _ _ (zCg _) _ i' j' hi' hj'
   refine zBk ((191, .sl (G.length + 4 + (p.m + 1) + 1) 0 (i + 1)) :: [(1, .ptr 0 0 0), (2, .ptr 1 0 0), (3, iN p.n), (4, iN p.m), (5, .ptr G.length 0 0), (6, .ro (nsC ((List.range p.m).map p.fac)) 0 p.m), (7, iN p.a), (11, zh p.fc), (12, .sl (G.length + 4 + p.m) 0 (p.N + 1)), (19, .ptr (G.length + 4 + (p.m + 1)) 0 0), (172, iN p.m), (173, iN i)]) ⟨Z, zAq (h := G.length + 4 + (p.m + 1) + 1) (L := [(1, .ptr 0 0 0), (2, .ptr 1 0 0), (3, iN p.n), (4, iN p.m), (5, .ptr G.length 0 0), (6, .ro (nsC ((List.range p.m).map p.fac)) 0 p.m), (7, iN p.a), (11, zh p.fc), (12, .sl (G.length + 4 + p.m) 0 (p.N + 1)), (19, .ptr (G.length + 4 + (p.m + 1)) 0 0), (172, iN p.m), (173, iN i)]) ⟨Z, Z, Z, Z, Z, Z, Z, Z, Z, Z, Z, Z, trivial⟩ (by
   intro q hq
   simp only [List.mem_cons, List.mem_nil_iff, or_false] at hq
   rcases hq with rfl | rfl | rfl | rfl | rfl | rfl | rfl | rfl | rfl | rfl | rfl | rfl <;> simp [AV.forget, zh, zq (show G.length ≠ G.length + 4 + (p.m + 1) + 1 by omega), zq (show 0 ≠ G.length + 4 + (p.m + 1) + 1 by omega), zq (show 1 ≠ G.length + 4 + (p.m + 1) + 1 by omega), zq (show G.length + 4 + p.m ≠ G.length + 4 + (p.m + 1) + 1 by omega), zq (show G.length + 4 + (p.m + 1) ≠ G.length + 4 + (p.m + 1) + 1 by omega)])⟩ ?_
   refine zv (zZ G none (p.N + 1) (p.n + p.m) p.m t.rows t.den t.basis [some ⟨102, .box [.bool false, zh p.fc]⟩, some ⟨104, qsC ((List.range (i + 1)).map (fun i => Rat.divInt (at2 t.rows p.m (p.n + i)) (t.den * (p.fc : Nat))))⟩]) (by
    rw [hys]
    have e : zZ G none (p.N + 1) (p.n + p.m) p.m t.rows t.den t.basis [some ⟨102, .box [.bool false, zh p.fc]⟩, some ⟨104, qsC (Y ++ [Rat.divInt (at2 t.rows p.m (p.n + i)) (t.den * (p.fc : Nat))])⟩] = (zZ G none (p.N + 1) (p.n + p.m) p.m t.rows t.den t.basis [some ⟨102, .box [.bool false, zh p.fc]⟩, none]).set (G.length + 4 + (p.m + 1) + 1) (some ⟨104, qsC (Y ++ [Rat.divInt (at2 t.rows p.m (p.n + i)) (t.den * (p.fc : Nat))])⟩) := by
     have q := zAI (G := G) (F := none) (L := p.N + 1) (w := p.n + p.m) (k := p.m) (X := t.rows) (d := t.den) (β := t.basis) (T := [some ⟨102, .box [.bool false, zh p.fc]⟩, none]) 1 (some ⟨104, qsC (Y ++ [Rat.divInt (at2 t.rows p.m (p.n + i)) (t.den * (p.fc : Nat))])⟩)
     rw [hn'] at q
     exact q.symm
    rw [e]
    exact zQ.set (zJP (T := [some ⟨102, .box [.bool false, zh p.fc]⟩, some ⟨104, qsC Y⟩]) (T' := [some ⟨102, .box [.bool false, zh p.fc]⟩, none]) _ (hFG _) (by omega) (zQ.same (zQ.drop zQ.nil))) _ (fun o ho => by cases ho; exact ⟨_, rfl, rfl, zAX 0 3 zT Y _ _ (zCg (Rat.divInt (at2 t.rows p.m (p.n + i)) (t.den * (p.fc : Nat))))⟩)) ?_
   refine rn1 ?_
   refine zV 16 Z (by kernel_rfl) (by kernel_rfl) (by kernel_rfl) Z (zm Z) Z ?_
   refine zW (by kernel_rfl) ?_
   refine rn5 ?_
   exact zK ⟨i + 1, by omega, by omega, ⟨Z, Z, Z, Z, Z, Z, Z, Z, Z, Z, Z, Z, Z, trivial⟩, Z⟩
  have hie : i = p.m := by omega
  rw [hie]
  clear hi h hie
  clear i
  obtain ⟨KK, hKK⟩ : ∃ KK, KK = 102300 := ⟨_, rfl⟩
  have cu := zK2 ((List.range p.m).map (fun i => Rat.divInt (at2 t.rows p.m (p.n + i)) (t.den * (p.fc : Nat)))) ((List.range p.m).map p.fac) KK (by simp) (by simp; omega) (fun q hq => by
   obtain ⟨i, hi, rfl⟩ := List.mem_map.1 hq
   have hi : i < p.m := by simpa using hi
   exact (zER hD (zCx (Nat.le_trans (b1 p.m (p.n + i) (by omega) (by omega)) (Nat.pow_le_pow_right (by decide) (Nat.le_add_right _ (k * p.n))))) (zCx hpr)).mono (by omega)) (fun q hq => by
   obtain ⟨i, hi, rfl⟩ := List.mem_map.1 hq
   have hi : i < p.m := by simpa using hi
   refine Nat.lt_of_lt_of_le (zCx (zOg hp hk hi)) (Nat.pow_le_pow_right (by decide) ?_)
   have : k * (p.n + 1) ≤ 100 * 31 := Nat.mul_le_mul hk40 (by omega)
   omega) (by omega)
  rw [hyl p.m, hfl] at cu
  have hy : zJS ((List.range p.m).map (fun i => Rat.divInt (at2 t.rows p.m (p.n + i)) (t.den * (p.fc : Nat)))) ((List.range p.m).map p.fac) p.m = yL p t (t.den * (p.fc : Nat)) := (yL_as p t (t.den * (p.fc : Nat))).symm
  rw [hy] at cu
  have hyl2 : (yL p t (t.den * (p.fc : Nat))).length = p.m := by simp [yL]
  have hym := hyl p.m
  generalize ((List.range p.m).map (fun i => Rat.divInt (at2 t.rows p.m (p.n + i)) (t.den * (p.fc : Nat)))) = Y at *
  have q5 := zAZ (G := G) (F := none) (L := p.N + 1) (w := p.n + p.m) (k := p.m) (X := t.rows) (d := t.den) (β := t.basis) (T := [some ⟨102, .box [.bool false, zh p.fc]⟩, some ⟨104, qsC Y⟩]) 1
  rw [hn'] at q5
  refine zBa ?_
  refine zAd (G.length + 4 + (p.m + 1) + 1) 20 p.m [(1, .ptr 0 0 0), (2, .ptr 1 0 0), (3, iN p.n), (4, iN p.m), (5, .ptr G.length 0 0), (6, .ro (nsC ((List.range p.m).map p.fac)) 0 p.m), (7, iN p.a), (11, zh p.fc), (12, .sl (G.length + 4 + p.m) 0 (p.N + 1)), (19, .ptr (G.length + 4 + (p.m + 1)) 0 0)] q5 (zAw _) Z (by show p.m ≤ Y.length; omega) ⟨Z, Z, Z, Z, Z, Z, Z, Z, Z, Z, trivial⟩ ?_
  refine zAi (zZ G none (p.N + 1) (p.n + p.m) p.m t.rows t.den t.basis [some ⟨102, .box [.bool false, zh p.fc]⟩, none]) (by have q := zAI (G := G) (F := none) (L := p.N + 1) (w := p.n + p.m) (k := p.m) (X := t.rows) (d := t.den) (β := t.basis) (T := [some ⟨102, .box [.bool false, zh p.fc]⟩, some ⟨104, qsC Y⟩]) 1 none; rw [hn'] at q; exact q) ?_
  clear q5
  have q1 := zA1 (G := G) (F := none) (L := p.N + 1) (w := p.n + p.m) (k := p.m) (X := t.rows) (d := t.den) (β := t.basis) (T := [some ⟨102, .box [.bool false, zh p.fc]⟩, none])
  have q3 := zCZ (G := G) (F := none) (L := p.N + 1) (w := p.n + p.m) (k := p.m) (X := t.rows) (d := t.den) (β := t.basis) (T := [some ⟨102, .box [.bool false, zh p.fc]⟩, none]) (a := p.m) (by omega)
  have q4 := zAZ (G := G) (F := none) (L := p.N + 1) (w := p.n + p.m) (k := p.m) (X := t.rows) (d := t.den) (β := t.basis) (T := [some ⟨102, .box [.bool false, zh p.fc]⟩, none]) 0
  rw [hn', Nat.add_zero] at q4
  have lm : (t.rows.getD p.m []).length = p.N + 1 := hrow _ (zAD [] (by omega))
  have g7 : p.N < (zC (t.rows.getD p.m [])).len := by show p.N < (t.rows.getD p.m []).length; omega
  have cfr := zHM (at2 t.rows p.m p.N) (t.den * (p.fc : Nat)) hD (by have := hsb p.m p.N (by omega) (by omega); omega) (by omega)
  have cv := zF9 G hG p.N (p.n + p.m) p.m t.rows t.den t.basis [some ⟨102, .box [.bool false, zh p.fc]⟩, none] (fun m _ o ho => by
   simp only [List.mem_cons, List.mem_nil_iff, or_false] at ho
   rcases ho with e | e
   ·cases e
    intro i' j' hi' hj'
    match j', (show j' < 2 from hj') with
    | 0, _ => rfl
    | 1, _ => rfl
   ·cases e) p.n (by omega) (by omega) (by omega) (by omega) hrow (by omega) hd (fun i hi => by have := hsb i p.N (by omega) (by omega); omega) (by omega)
  rw [htb] at cv
  repeat (refine z7 ?_)
  refine zi (by kernel_rfl) ?_
  refine zp (fuel := 1) [0, 1, 2, 3, 4, 5, 6, 7, 8, 9, 10, 11, 12, 13, 14, 15, 16, 17, 18, 19] ((20, .ro (qsC Y) 0 p.m) :: [(1, .ptr 0 0 0), (2, .ptr 1 0 0), (3, iN p.n), (4, iN p.m), (5, .ptr G.length 0 0), (6, .ro (nsC ((List.range p.m).map p.fac)) 0 p.m), (7, iN p.a), (11, zh p.fc), (12, .sl (G.length + 4 + p.m) 0 (p.N + 1)), (19, .ptr (G.length + 4 + (p.m + 1)) 0 0)]) ⟨Z, Z, Z, Z, Z, Z, Z, Z, Z, Z, Z, trivial⟩ (by kernel_rfl) (by decide) Z Z ?_
  refine zM Z Z (zJ Z) ?_
  refine zM Z Z (zJ Z) ?_
  refine px_c Z Z Z Z Z cv ?_
  refine zM Z Z (zJ Z) ?_
  refine zM Z Z (zJ Z) ?_
  refine zA6 Z Z Z Z Z cu ?_
  refine zM Z Z (zJ Z) ?_
  refine zM Z Z (zJ Z) ?_
  refine zM Z Z (zBv Z Z Z) ?_
  refine zM Z Z (zE7 Z Z (by omega)) ?_
  refine zM Z Z (zCu (ix := p.N) Z Z Z q3 Z (by show 0 + (((p.N + 1 : Nat) : Int) - 1).toNat = p.N; omega) (by omega)) ?_
  refine zM Z Z (qas Z Z Z Z) ?_
  refine zM Z Z (zJ Z) ?_
  refine zM Z Z (zc Z) ?_
  refine zM Z Z (zH Z Z Z Z Z Z) ?_
  refine zM Z Z (qps Z Z Z Z) ?_
  refine zM Z Z (qas Z Z Z Z) ?_
  refine zA6 Z Z Z Z Z cm ?_
  refine zA6 Z Z Z Z Z cfr ?_
  unfold qA
  refine zM Z Z (zBG Z Z Z Z Z Z) ?_
  refine zAA ?_
  refine zF (is := [20]) (by kernel_rfl) (by simp) Z ⟨fun o ho => ?_, trivial⟩
  all_goals (cases ho)
  refine zz (c' := .box ([.int .i64 0, .ro (qsC (zBj p t)) 0 p.n, .ro (qsC (yL p t (t.den * (p.fc : Nat)))) 0 p.m, .nil] ++ zT (Rat.divInt (at2 t.rows p.m p.N) (t.den * (p.fc : Nat))))) Z Z Z (hg1 _ _ _ _ _) Z Nat.zero_lt_one Z Z (fun i' j' hi' hj' => ?_) ?_
  ·rw [if_pos (Nat.lt_one_iff.1 hi')]; rfl
  refine rn1 ?_
  refine zW (by kernel_rfl) ?_
  refine rn0 ?_
  refine zL hR (zGA Z (zPD (hg1 _ _ _ _ _)) Z Z Z) ?_
  show AV.agg _ = runA _
  unfold runA
  simp only [hvl, hyl2]
  rfl
end Go.Proofs.YtkncmbklkhjmgaaGreatDoor
namespace Go.Proofs.YtkncmbklkhjmgaaGreatDoor
open Go.Ax Go.Ax.Bg Go.Ax.Rt Go.RowKit Go.Ax.Dt Go.Ax.Sx Go.Ax.Mg
attribute [local irreducible] Ax zBI QOp zP zAl
abbrev oQ (q : Rat) : Option AObj := some ⟨104, .box (zT q)⟩
abbrev oZ : Option AObj := some ⟨104, .box [.bool false, .nil, .nil]⟩
/-- the memory of matgame.Game -/
abbrev gmH (x y : Rat) (a b k : Nat) (A : List (List Rat)) (B C : List Rat) (L : zN) : zN := oZ :: oQ x :: oQ y :: some ⟨193, .box [.sl 4 0 a, .sl 5 0 b, .sl 6 0 k]⟩ :: some ⟨105, zY A⟩ :: some ⟨104, qsC B⟩ :: some ⟨104, qsC C⟩ :: L
theorem zCc (n : Nat) (q : Rat) : zA8 n (.box (zT q)) := by
 intro i j _ hj
 have hj : j < 3 := hj
 match j, hj with
 | 0, _ => rfl
 | 1, _ => rfl
 | 2, _ => rfl
theorem zEz (n : Nat) : zA8 n (.box [.bool false, .nil, .nil]) := by
 intro i j _ hj
 have hj : j < 3 := hj
 match j, hj with
 | 0, _ => rfl
 | 1, _ => rfl
 | 2, _ => rfl
theorem zLa {n : Nat} {o1 o2 : AObj} (h1 : zA8 n o1.c) (h2 : zA8 n o2.c) : ∀ (h : Nat) (o : AObj), ([some o1, some o2] : zN)[h]? = some (some o) → zA8 n o.c := by
 intro h o ho
 match h, ho with
 | 0, ho => cases ho; exact h1
 | 1, ho => cases ho; exact h2
 | _ + 2, ho => simp at ho
theorem gm_b4 {x y : Rat} {A : List (List Rat)} {B C : List Rat} {a b : Nat} : ∀ (h : Nat) (o : AObj), ([oZ, oQ x, oQ y, some ⟨193, .box [.ro (zY A) 0 a, .ro (qsC B) 0 a, .ro (qsC C) 0 b]⟩] : zN)[h]? = some (some o) → zA8 4 o.c := by
 intro h o ho
 match h, ho with
 | 0, ho =>
  cases ho
  exact zEz _
 | 1, ho =>
  cases ho
  exact zCc _ _
 | 2, ho =>
  cases ho
  exact zCc _ _
 | 3, ho =>
  cases ho
  intro i j _ hj
  have hj : j < 3 := hj
  match j, hj with
  | 0, _ => rfl
  | 1, _ => rfl
  | 2, _ => rfl
 | _ + 4, ho => simp at ho
theorem gm_b5 {x y : Rat} {A : List (List Rat)} {B C X Y : List Rat} {a b : Nat} {V : Rat} : ∀ (h : Nat) (o : AObj), ([oZ, oQ x, oQ y, some ⟨193, .box [.ro (zY A) 0 a, .ro (qsC B) 0 a, .ro (qsC C) 0 b]⟩, some ⟨190, .box ([.int .i64 0, .ro (qsC X) 0 b, .ro (qsC Y) 0 a, .nil] ++ zT V)⟩] : zN)[h]? = some (some o) → zA8 5 o.c := by
 intro h o ho
 match h, ho with
 | 0, ho =>
  cases ho
  exact zEz _
 | 1, ho =>
  cases ho
  exact zCc _ _
 | 2, ho =>
  cases ho
  exact zCc _ _
 | 3, ho =>
  cases ho
  intro i j _ hj
  have hj : j < 3 := hj
  match j, hj with
  | 0, _ => rfl
  | 1, _ => rfl
  | 2, _ => rfl
 | 4, ho =>
  cases ho
  intro i j _ hj
  have hj : j < 7 := hj
  match j, hj with
  | 0, _ => rfl
  | 1, _ => rfl
  | 2, _ => rfl
  | 3, _ => rfl
  | 4, _ => rfl
  | 5, _ => rfl
  | 6, _ => rfl
 | _ + 5, ho => simp at ho
theorem gm_b6 {x y : Rat} {A : List (List Rat)} {B C X Y l : List Rat} {a b : Nat} {V : Rat} : ∀ (h : Nat) (o : AObj), ([oZ, oQ x, oQ y, some ⟨193, .box [.ro (zY A) 0 a, .ro (qsC B) 0 a, .ro (qsC C) 0 b]⟩, some ⟨190, .box ([.int .i64 0, .ro (qsC X) 0 b, .ro (qsC Y) 0 a, .nil] ++ zT V)⟩, some ⟨104, qsC l⟩] : zN)[h]? = some (some o) → zA8 6 o.c := by
 intro h o ho
 match h, ho with
 | 0, ho =>
  cases ho
  exact zEz _
 | 1, ho =>
  cases ho
  exact zCc _ _
 | 2, ho =>
  cases ho
  exact zCc _ _
 | 3, ho =>
  cases ho
  intro i j _ hj
  have hj : j < 3 := hj
  match j, hj with
  | 0, _ => rfl
  | 1, _ => rfl
  | 2, _ => rfl
 | 4, ho =>
  cases ho
  intro i j _ hj
  have hj : j < 7 := hj
  match j, hj with
  | 0, _ => rfl
  | 1, _ => rfl
  | 2, _ => rfl
  | 3, _ => rfl
  | 4, _ => rfl
  | 5, _ => rfl
  | 6, _ => rfl
 | 5, ho =>
  cases ho
  exact zC1 _ _
 | _ + 6, ho => simp at ho
theorem zDb (h : Nat) (a : List Rat) : CEq ((qsC a).forget h) (qsC a) := by
 have e : (qsC a).forget h = qsC a := by
  show Cells.fn _ _ _ = Cells.fn _ _ _
  congr 1
  funext i j
  match j with
  | 0 => rfl
  | 1 => rfl
  | 2 => rfl
  | _ + 3 => rfl
 rw [e]; exact CEq.refl _
theorem zMQ (h : Nat) (a : List (List Rat)) : CEq ((zY a).forget h) (zY a) := by
 have e : (zY a).forget h = zY a := by
  show Cells.fn _ _ _ = Cells.fn _ _ _
  congr 1
  funext i j
  match j with
  | 0 => rfl
  | _ + 1 => rfl
 rw [e]; exact CEq.refl _
theorem gm_below (x y : Rat) (a b k : Nat) (A : List (List Rat)) (B C : List Rat) : ∀ (h : Nat) (o : AObj), (gmH x y a b k A B C [])[h]? = some (some o) → zA8 7 o.c := by
 intro h o ho
 match h, ho with
 | 0, ho => cases ho; exact zEz _
 | 1, ho => cases ho; exact zCc _ _
 | 2, ho => cases ho; exact zCc _ _
 | 3, ho =>
  cases ho
  intro i j _ hj
  have hj : j < 3 := hj
  match j, hj with
  | 0, _ => rfl
  | 1, _ => rfl
  | 2, _ => rfl
 | 4, ho =>
  cases ho
  intro i j _ hj
  have hj : j < 1 := hj
  match j, hj with
  | 0, _ => rfl
 | 5, ho => cases ho; exact zC1 _ _
 | 6, ho => cases ho; exact zC1 _ _
 | _ + 7, ho => simp at ho
theorem zQk (x y : Rat) (a b k : Nat) (A : List (List Rat)) (B C l : List Rat) : ∀ (h : Nat) (o : AObj), (gmH x y a b k A B C [some ⟨104, qsC l⟩])[h]? = some (some o) → zA8 8 o.c := by
 intro h o ho
 match h, ho with
 | 0, ho => cases ho; exact zEz _
 | 1, ho => cases ho; exact zCc _ _
 | 2, ho => cases ho; exact zCc _ _
 | 3, ho =>
  cases ho
  intro i j _ hj
  have hj : j < 3 := hj
  match j, hj with
  | 0, _ => rfl
  | 1, _ => rfl
  | 2, _ => rfl
 | 4, ho =>
  cases ho
  intro i j _ hj
  have hj : j < 1 := hj
  match j, hj with
  | 0, _ => rfl
 | 5, ho => cases ho; exact zC1 _ _
 | 6, ho => cases ho; exact zC1 _ _
 | 7, ho => cases ho; exact zC1 _ _
 | _ + 8, ho => simp at ho
theorem gameq_ok (M : List (List Rat)) (w k K L : Nat) (hw : 0 < w) (hw12 : w ≤ 12) (hm : 0 < M.length) (hm12 : M.length ≤ 12) (hM : ∀ r ∈ M, r.length = w) (hD : ∀ r ∈ M, ∀ q ∈ r, D k q) (hk : k ≤ 48) (hs : Stops (zAT M w) K L) :
 zU Tryz.prog 61 [.ro (zY M) 0 M.length] (.tup [qA (zAL M w K L).1, .ro (qsC (zAL M w K L).2.1) 0 M.length, .ro (qsC (zAL M w K L).2.2) 0 w]) := by
 have hel : ∀ i j, i < M.length → j < w → Sz 100000 ((M.getD i []).getD j 0) := fun i j hi hj => by
  have hr := zAN [] hi
  exact zFE ((hD _ hr _ (zAD 0 (by rw [hM _ hr]; exact hj))).mono (by omega))
 have hrow : ∀ i, i < M.length → (M.getD i []).length = w := fun i hi => hM _ (zAN [] hi)
 have hq0 : D k ((M.getD 0 []).getD 0 0) := hD _ (zAD [] hm) _ (zAD 0 (by rw [hM _ (zAD [] hm)]; exact hw))
 have hF : ∀ i, D k ((M.take i).foldl zAv ((M.getD 0 []).getD 0 0)) := fun i => zHP (P := fun q => D k q) (M.take i) _ hq0 (fun r hr => hD r (List.mem_of_mem_take hr))
 have hFj : ∀ i j, i < M.length → Sz 100000 (zAv ((M.take i).foldl zAv ((M.getD 0 []).getD 0 0)) ((M.getD i []).take j)) := fun i j hi =>
  zFE ((zJE (P := fun q => D k q) _ _ (hF i) (fun q hq => hD _ (zAN [] hi) q (List.mem_of_mem_take hq))).mono (by omega))
 have hFsn : ∀ i, i < M.length → (M.take (i + 1)).foldl zAv ((M.getD 0 []).getD 0 0) = zAv ((M.take i).foldl zAv ((M.getD 0 []).getD 0 0)) ((M.getD i []).take w) := fun i hi => by
  rw [zNN _ M hi, List.take_of_length_le (l := M.getD i []) (by rw [hrow i hi]; exact Nat.le_refl w)]
 have hend : (M.take M.length).foldl zAv ((M.getD 0 []).getD 0 0) = zGI M := by rw [List.take_length]; rfl
 have hLs : Sz 100000 (zGI M) := zFE ((zPr hw hm hM hD).mono (by omega))
 have hAs : Sz 100000 (zDs M) := zFE ((addM_D hw hm hM hD).mono (by omega))
 have s1 : zU Tryz.prog 147 [qA 1, qA (zGI M)] (qA (zDs M)) := zP3 1 (zGI M) (zFE ((zHf 0).mono (by omega))) hLs
 have hadd : ∀ i j, i < M.length → j < w → zU Tryz.prog 148 [qA ((M.getD i []).getD j 0), qA (zDs M)] (qA ((M.getD i []).getD j 0 + zDs M)) := fun i j hi hj => zIn _ _ (hel i j hi hj) hAs
 have R := ran hw hw12 hm hm12 hM hD hk hs
 have hcR := Run_ok (zAT M w) (2 * k + 3) K L (zFu hM) (zLX hw hm hM hD) (by rw [zIZ]; omega) (by rw [zIa]; omega) (by omega) hs
 obtain ⟨r, hr⟩ : ∃ r, r = zDd (zAT M w) K L := ⟨_, rfl⟩
 have eQ : zAL M w K L = (1 / r.V - zDs M, zFa r.V r.Y, zFa r.V r.X) := by rw [hr]; rfl
 have hA0 : (zAT M w).A = M.map (zFC (zDs M)) := rfl
 have hB0 : (zAT M w).B = List.replicate M.length 1 := rfl
 have hC0 : (zAT M w).C = List.replicate w 1 := rfl
 obtain ⟨rk, rp, rx, ry, rxd, ryd, rvd⟩ := R
 rw [← hr] at hcR rk rp rx ry rxd ryd rvd
 rw [hA0, hB0, hC0, List.length_map, List.length_replicate, List.length_replicate] at hcR
 have eA : runA r = .agg ([.int .i64 0, .ro (qsC r.X) 0 w, .ro (qsC r.Y) 0 M.length, .nil] ++ zT r.V) := by
  unfold runA
  rw [rk, if_neg (by decide), if_neg (by decide), if_neg (by decide), if_pos rfl, rx, ry]
  rfl
 rw [eA] at hcR
 have hVs : Sz 100000 r.V := zFE (rvd.mono (by omega))
 have dX : ∀ j, j < w → zU Tryz.prog 149 [qA (r.X.getD j 0), qA r.V] (qA (r.X.getD j 0 / r.V)) := fun j hj => zMf _ _ (zFE ((rxd _ (zAD 0 (by omega))).mono (by omega))) hVs rp
 have dY : ∀ j, j < M.length → zU Tryz.prog 149 [qA (r.Y.getD j 0), qA r.V] (qA (r.Y.getD j 0 / r.V)) := fun j hj => zMf _ _ (zFE ((ryd _ (zAD 0 (by omega))).mono (by omega))) hVs rp
 have d1 := zMf 1 r.V (zFE ((zHf 0).mono (by omega))) hVs rp
 have s2 := zP3 (1 / r.V) (zDs M) (zFE (((zHf 0).div rvd rp).mono (by omega))) hAs
 rw [eQ]
 clear hr eQ hA0 hB0 hC0 eA rk hs hD hM rxd ryd rvd hq0 hF
 refine zP.value0 (zE (P := Tryz.prog) (fn := Tryz.f61) Z Z (by kernel_rfl) Z (fun c hR hfix => ?_)) (fix := fun _ => False) (fun _ h => h) Z Z
 have hr0 := hrow 0 hm
 have hr1 : 0 < (M.getD 0 []).length := by omega
 refine rn6 ?_
 refine zD 26 (.agg (zT ((M.getD 0 []).getD 0 0))) Z (AEq.of_eq Z) ?_
 generalize hg0 : (M.getD 0 []).getD 0 0 = q0 at *
 refine sa1 (c' := .box (zT q0)) Z Z Z Z Z Z Z ?_
 refine rn3 ?_
 generalize hn : M.length = n at *
 refine ze (ι := Nat) (fun i => [(0, .ro (zY M) 0 n), (2, .ptr 0 0 0), (3, .nil), (4, .nil), (5, .ptr 1 0 0), (27, .ro (zY M) 0 n), (28, iN n), (29, iN i)]) (fun i => [oZ, oQ ((M.take i).foldl zAv q0)])
  (fun i => i ≤ n) (fun i => n - i) 0 ⟨⟨rfl, rfl, rfl, rfl, rfl, rfl, rfl, rfl, trivial⟩, rfl, Nat.zero_le _⟩ ?_
 intro i hi
 refine rn4 ?_
 refine zA Z (fun h => ?_) (fun h => ?_)
 ·have hi' : i < n := by omega
  have hrl := hrow i hi'
  have hfs := hFsn i hi'
  have hfj := fun j => hFj i j hi'
  have helj := fun j => hel i j hi'
  generalize hF2 : (M.take (i + 1)).foldl zAv q0 = F2 at *
  generalize hF0 : (M.take i).foldl zAv q0 = F at *
  refine rn6 ?_
  refine zAE 7 (.ro (qsC (M.getD i [])) 0 w) Z (AEq.of_eq (by show AV.ro (qsC (M.getD i [])) 0 (M.getD i []).length = _; rw [hrl])) ?_
  refine zAE 33 (.ro (qsC (M.getD i [])) 0 w) Z (AEq.of_eq (by show AV.ro (qsC (M.getD i [])) 0 (M.getD i []).length = _; rw [hrl])) ?_
  refine zAE 34 (iN w) Z (AEq.of_eq (by rw [hrl])) ?_
  skip
  refine ze (ι := Nat) (fun j => [(0, .ro (zY M) 0 n), (2, .ptr 0 0 0), (3, .nil), (4, .nil), (5, .ptr 1 0 0), (27, .ro (zY M) 0 n), (28, iN n), (29, iN i), (33, .ro (qsC (M.getD i [])) 0 w), (34, iN w), (35, iN j)]) (fun j => [oZ, oQ (zAv F ((M.getD i []).take j))])
   (fun j => j ≤ w) (fun j => w - j) 0 ⟨⟨rfl, rfl, rfl, rfl, rfl, rfl, rfl, rfl, rfl, rfl, rfl, trivial⟩, rfl, Nat.zero_le _⟩ ?_
  intro j hj
  refine rn4 ?_
  refine zA Z (fun h => ?_) (fun h => ?_)
  ·have hj' : j < w := by omega
   have hls := zNO F (M.getD i []) (show j < (M.getD i []).length by omega)
   have cq := zFQ ((M.getD i []).getD j 0) (zAv F ((M.getD i []).take j)) (helj j hj') (hfj j)
   generalize hG2 : zAv F ((M.getD i []).take (j + 1)) = G2 at *
   generalize zAv F ((M.getD i []).take j) = G at *
   refine rn6 ?_
   refine zD 38 (.agg (zT ((M.getD i []).getD j 0))) Z (AEq.of_eq Z) ?_
   generalize hqj : (M.getD i []).getD j 0 = q at *
   refine sa1 (c' := .box (zT q)) Z Z Z Z Z Z Z ?_
   refine rn6 ?_
   refine zB Z Z Z cq ?_
   refine rn4 ?_
   refine zA Z (fun h4 => ?_) (fun h4 => ?_)
   ·rw [if_pos h4] at hls
    subst hls
    refine rn6 ?_
    refine sa1 (c' := .box (zT G2)) Z Z Z Z Z Z Z ?_
    refine zEO ?_
    refine zI ?_
    refine zBF [oZ, oQ G2] [oQ G2] [(0, .ro (zY M) 0 n), (2, .ptr 0 0 0), (3, .nil), (4, .nil), (5, .ptr 1 0 0), (27, .ro (zY M) 0 n), (28, iN n), (29, iN i), (33, .ro (qsC (M.getD i [])) 0 w), (34, iN w), (35, iN j)] Z ⟨Z, Z, Z, Z, Z, Z, Z, Z, Z, Z, Z, trivial⟩ (fun h hh => by rw [hfix] at hh; exact absurd hh id) (zLa (zEz _) (zCc _ _)) Z ?_
    refine rn3 ?_
    exact zK ⟨j + 1, by omega, by omega, ⟨Z, Z, Z, Z, Z, Z, Z, Z, Z, Z, Z, trivial⟩, by rw [hG2]⟩
   ·rw [if_neg h4] at hls
    subst hls
    refine zEO ?_
    refine zI ?_
    refine zBF [oZ, oQ G2] [oQ q] [(0, .ro (zY M) 0 n), (2, .ptr 0 0 0), (3, .nil), (4, .nil), (5, .ptr 1 0 0), (27, .ro (zY M) 0 n), (28, iN n), (29, iN i), (33, .ro (qsC (M.getD i [])) 0 w), (34, iN w), (35, iN j)] Z ⟨Z, Z, Z, Z, Z, Z, Z, Z, Z, Z, Z, trivial⟩ (fun h hh => by rw [hfix] at hh; exact absurd hh id) (zLa (zEz _) (zCc _ _)) Z ?_
    refine rn3 ?_
    exact zK ⟨j + 1, by omega, by omega, ⟨Z, Z, Z, Z, Z, Z, Z, Z, Z, Z, Z, trivial⟩, by rw [hG2]⟩
  ·have hje : j = w := by omega
   subst hje
   rw [← hfs]
   refine rn5 ?_
   exact zK ⟨i + 1, by omega, by omega, ⟨Z, Z, Z, Z, Z, Z, Z, Z, trivial⟩, by rw [hF2]⟩
 have hie : i = n := by omega
 subst hie
 rw [hend]
 generalize zGI M = LM at *
 generalize hAA : zDs M = AA at *
 refine rn5 ?_
 refine zi (by kernel_rfl) ?_
 apply zDV (H := [oZ, oQ LM, oZ]) [(0, .ro (zY M) 0 i), (2, .ptr 0 0 0), (3, .nil), (4, .nil), (10, .ptr 2 0 0), (48, qA AA)]
 ·intro fin
  refine zF (is := [0, 1, 3]) (by kernel_rfl) (by simp) Z ⟨fun o ho => ?_, fun o ho => ?_, fun o ho => ?_, trivial⟩
  all_goals (cases ho)
  ·refine zB Z Z Z zCK ?_
   refine rn1 ?_
   refine zF (is := [1, 3]) (by kernel_rfl) (by simp) Z ⟨fun o ho => ?_, fun o ho => ?_, trivial⟩
   all_goals (cases ho)
   ·refine rn6 ?_
    refine zF (is := [2, 3]) (by kernel_rfl) (by simp) Z ⟨fun o ho => ?_, fun o ho => ?_, trivial⟩
    all_goals (cases ho)
    ·refine zB Z Z Z s1 ?_
     refine rn1 ?_
     refine zF (is := [3]) (by kernel_rfl) (by simp) Z ⟨fun o ho => ?_, trivial⟩
     all_goals (cases ho)
     refine rn4 ?_
     exact fin _ ⟨Z, Z, Z, Z, Z, Z, trivial⟩
    ·refine rn4 ?_
     refine zF (is := [2]) (by kernel_rfl) (by simp) Z ⟨fun o ho => ?_, trivial⟩
     all_goals (cases ho)
     refine zB Z Z Z s1 ?_
     refine rn1 ?_
     exact fin _ ⟨Z, Z, Z, Z, Z, Z, trivial⟩
   ·refine rn4 ?_
    refine zF (is := [1]) (by kernel_rfl) (by simp) Z ⟨fun o ho => ?_, trivial⟩
    all_goals (cases ho)
    refine rn6 ?_
    refine zF (is := [2]) (by kernel_rfl) (by simp) Z ⟨fun o ho => ?_, trivial⟩
    all_goals (cases ho)
    refine zB Z Z Z s1 ?_
    refine rn1 ?_
    exact fin _ ⟨Z, Z, Z, Z, Z, Z, trivial⟩
  ·refine rn6 ?_
   refine zF (is := [0, 3]) (by kernel_rfl) (by simp) Z ⟨fun o ho => ?_, fun o ho => ?_, trivial⟩
   all_goals (cases ho)
   ·refine zB Z Z Z zCK ?_
    refine rn1 ?_
    refine zF (is := [2, 3]) (by kernel_rfl) (by simp) Z ⟨fun o ho => ?_, fun o ho => ?_, trivial⟩
    all_goals (cases ho)
    ·refine zB Z Z Z s1 ?_
     refine rn1 ?_
     refine zF (is := [3]) (by kernel_rfl) (by simp) Z ⟨fun o ho => ?_, trivial⟩
     all_goals (cases ho)
     refine rn4 ?_
     exact fin _ ⟨Z, Z, Z, Z, Z, Z, trivial⟩
    ·refine rn4 ?_
     refine zF (is := [2]) (by kernel_rfl) (by simp) Z ⟨fun o ho => ?_, trivial⟩
     all_goals (cases ho)
     refine zB Z Z Z s1 ?_
     refine rn1 ?_
     exact fin _ ⟨Z, Z, Z, Z, Z, Z, trivial⟩
   ·refine rn4 ?_
    refine zF (is := [0]) (by kernel_rfl) (by simp) Z ⟨fun o ho => ?_, trivial⟩
    all_goals (cases ho)
    refine zB Z Z Z zCK ?_
    refine rn1 ?_
    refine zF (is := [2]) (by kernel_rfl) (by simp) Z ⟨fun o ho => ?_, trivial⟩
    all_goals (cases ho)
    refine zB Z Z Z s1 ?_
    refine rn1 ?_
    exact fin _ ⟨Z, Z, Z, Z, Z, Z, trivial⟩
  ·refine rn4 ?_
   refine zF (is := [0, 1]) (by kernel_rfl) (by simp) Z ⟨fun o ho => ?_, fun o ho => ?_, trivial⟩
   all_goals (cases ho)
   ·refine zB Z Z Z zCK ?_
    refine rn1 ?_
    refine zF (is := [1]) (by kernel_rfl) (by simp) Z ⟨fun o ho => ?_, trivial⟩
    all_goals (cases ho)
    refine rn6 ?_
    refine zF (is := [2]) (by kernel_rfl) (by simp) Z ⟨fun o ho => ?_, trivial⟩
    all_goals (cases ho)
    refine zB Z Z Z s1 ?_
    refine rn1 ?_
    exact fin _ ⟨Z, Z, Z, Z, Z, Z, trivial⟩
   ·refine rn6 ?_
    refine zF (is := [0]) (by kernel_rfl) (by simp) Z ⟨fun o ho => ?_, trivial⟩
    all_goals (cases ho)
    refine zB Z Z Z zCK ?_
    refine rn1 ?_
    refine zF (is := [2]) (by kernel_rfl) (by simp) Z ⟨fun o ho => ?_, trivial⟩
    all_goals (cases ho)
    refine zB Z Z Z s1 ?_
    refine rn1 ?_
    exact fin _ ⟨Z, Z, Z, Z, Z, Z, trivial⟩
 refine zF (is := [4]) (by kernel_rfl) (by simp) Z ⟨fun o ho => ?_, trivial⟩
 all_goals (cases ho)
 skip
 unfold qA
 refine sa1 (c' := .box (zT AA)) Z Z Z Z Z Z Z ?_
 refine rn1 ?_
 refine zW (by kernel_rfl) ?_
 refine rn4 ?_
 refine zEy 3 ⟨105, zY []⟩ (.box [.sl 4 0 0, .nil, .nil]) Z Z Z Z (fun i' j' _ hj' => ?_) ?_
 ·have hj' : j' < 3 := hj'
  match j', hj' with
  | 0, _ => exact .inr ⟨rfl, rfl⟩
  | 1, _ => exact .inl rfl
  | 2, _ => exact .inl rfl
 refine zEy 3 ⟨104, qsC []⟩ (.box [.sl 4 0 0, .sl 5 0 0, .nil]) Z Z Z Z (fun i' j' _ hj' => ?_) ?_
 ·have hj' : j' < 3 := hj'
  match j', hj' with
  | 0, _ => exact .inl rfl
  | 1, _ => exact .inr ⟨rfl, rfl⟩
  | 2, _ => exact .inl rfl
 refine zEy 3 ⟨104, qsC []⟩ (.box [.sl 4 0 0, .sl 5 0 0, .sl 6 0 0]) Z Z Z Z (fun i' j' _ hj' => ?_) ?_
 ·have hj' : j' < 3 := hj'
  match j', hj' with
  | 0, _ => exact .inl rfl
  | 1, _ => exact .inl rfl
  | 2, _ => exact .inr ⟨rfl, rfl⟩
 refine zAi (gmH LM AA 0 0 0 [] [] [] []) Z ?_
 skip
 refine ze (ι := Nat) (fun a => [(0, .ro (zY M) 0 i), (2, .ptr 0 0 0), (3, .nil), (4, .nil), (10, .ptr 2 0 0), (11, .ptr 3 0 0), (49, .ro (zY M) 0 i), (50, iN i), (51, iN a)]) (fun a => gmH LM AA a a 0 ((M.take a).map (zFC AA)) (List.replicate a 1) [] [])
  (fun a => a ≤ i) (fun a => i - a) 0 ⟨⟨rfl, rfl, rfl, rfl, rfl, rfl, rfl, rfl, rfl, trivial⟩, rfl, Nat.zero_le _⟩ ?_
 intro a ha
 refine rn4 ?_
 refine zA Z (fun h => ?_) (fun h => ?_)
 ·have ha' : a < i := by omega
  have hrl := hrow a ha'
  have hadj := fun j hj => hadd a j ha' hj
  have hsn := zQK AA M (i := a) (by omega)
  have hon := zLk a
  have hAl : ((M.take a).map (zFC AA)).length = a := by rw [List.length_map, List.length_take]; omega
  have hBl : (List.replicate a (1 : Rat)).length = a := List.length_replicate
  generalize hA2 : (M.take (a + 1)).map (zFC AA) = A2 at *
  generalize (M.take a).map (zFC AA) = A at *
  generalize hB2 : List.replicate (a + 1) (1 : Rat) = B2 at *
  generalize List.replicate a (1 : Rat) = B at *
  refine rn6 ?_
  refine zAE 13 (.ro (qsC (M.getD a [])) 0 w) Z (AEq.of_eq (by show AV.ro (qsC (M.getD a [])) 0 (M.getD a []).length = _; rw [hrl])) ?_
  generalize hrow' : M.getD a [] = row at *
  skip
  refine zAo 14 ⟨104, qsC []⟩ Z Z ?_
  skip
  refine zAE 55 (.ro (qsC row) 0 w) Z (AEq.of_eq (by show AV.ro (qsC row) 0 row.length = _; rw [hrl])) ?_
  refine zAE 56 (iN w) Z (AEq.of_eq (by rw [hrl])) ?_
  refine ze (ι := Nat) (fun j => [(0, .ro (zY M) 0 i), (2, .ptr 0 0 0), (3, .nil), (4, .nil), (10, .ptr 2 0 0), (11, .ptr 3 0 0), (49, .ro (zY M) 0 i), (50, iN i), (51, iN a), (13, .ro (qsC row) 0 w), (14, .sl 7 0 j), (55, .ro (qsC row) 0 w), (56, iN w), (57, iN j)]) (fun j => gmH LM AA a a 0 A B [] [some ⟨104, qsC (zFC AA (row.take j))⟩])
   (fun j => j ≤ w) (fun j => w - j) 0 ⟨⟨rfl, rfl, rfl, rfl, rfl, rfl, rfl, rfl, rfl, rfl, rfl, rfl, rfl, rfl, trivial⟩, rfl, Nat.zero_le _⟩ ?_
  intro j hj
  refine rn4 ?_
  refine zA Z (fun h => ?_) (fun h => ?_)
  ·have hj' : j < w := by omega
   have hls := zQJ AA row (j := j) (by omega)
   have hll : (zFC AA (row.take j)).length = j := by rw [zMq, List.length_take]; omega
   have ca := hadj j hj'
   generalize hl2 : zFC AA (row.take (j + 1)) = l2 at *
   generalize zFC AA (row.take j) = l at *
   refine rn6 ?_
   refine zD 60 (.agg (zT (row.getD j 0))) Z (AEq.of_eq Z) ?_
   generalize hqj : row.getD j 0 = q at *
   refine sa1 (c' := .box (zT q)) Z Z Z Z Z Z Z ?_
   refine zO (gmH LM AA a a 0 A B [] [some ⟨104, qsC l⟩, oQ q]) Z ?_
   refine rn6 ?_
   refine zB Z Z Z ca ?_
   generalize q + AA = s at *
   unfold qA
   repeat (refine zf rfl rfl rfl rfl rfl rfl rfl rfl rfl rfl rfl ?_)
   refine zr Z Z Z Z Z Z Z Z Z hll Z Z (by show 0 + 1 ≤ 1; omega) Z (by show (j + 1) * 56 ≤ _ ∧ _; omega) ?_ (by rw [hfix]; exact fun h => h) ?_
   ·intro i' j' hi' hj'
    exact zAM 0 3 zT zAe l s _ (zCg _) 7 i' j' hi' hj'
   refine zv (gmH LM AA a a 0 A B [] [some ⟨104, qsC (l ++ [s])⟩, oQ q]) (zQ.eqv (CEq.refl _) (zQ.eqv (CEq.refl _) (zQ.eqv (CEq.refl _) (zQ.eqv (CEq.refl _) (zQ.eqv (zMQ _ _) (zQ.eqv (zDb _ _) (zQ.eqv (zDb _ _) (zQ.eqv (zAX 0 3 zT l s _ (zCg _)) (zQ.eqv (CEq.refl _) zQ.nil))))))))) ?_
   refine zEO ?_
   refine zI ?_
   refine zBF (gmH LM AA a a 0 A B [] [some ⟨104, qsC (l ++ [s])⟩]) [oQ q] [(0, .ro (zY M) 0 i), (2, .ptr 0 0 0), (3, .nil), (4, .nil), (10, .ptr 2 0 0), (11, .ptr 3 0 0), (49, .ro (zY M) 0 i), (50, iN i), (51, iN a), (13, .ro (qsC row) 0 w), (14, .sl 7 0 (j + 1)), (55, .ro (qsC row) 0 w), (56, iN w), (57, iN j)] Z ⟨Z, Z, Z, Z, Z, Z, Z, Z, Z, Z, Z, Z, Z, Z, trivial⟩ (fun h hh => by rw [hfix] at hh; exact absurd hh id) (zQk _ _ _ _ _ _ _ _ _) Z ?_
   refine rn3 ?_
   exact zK ⟨j + 1, by omega, by omega, ⟨Z, Z, Z, Z, Z, Z, Z, Z, Z, Z, Z, Z, Z, Z, trivial⟩, by rw [hl2, hls]⟩
  ·have hje : j = w := by omega
   have hfull : row.take j = row := List.take_of_length_le (by omega)
   subst hje
   rw [hfull]
   have hl0 : (zFC AA row).length = j := by rw [zMq]; exact hrl
   generalize zFC AA row = l at *
   refine zHb ?_
   refine zAd 7 14 j [(0, .ro (zY M) 0 i), (2, .ptr 0 0 0), (3, .nil), (4, .nil), (10, .ptr 2 0 0), (11, .ptr 3 0 0), (49, .ro (zY M) 0 i), (50, iN i), (51, iN a)] Z (zAw _) Z (by show j ≤ l.length; omega) ⟨Z, Z, Z, Z, Z, Z, Z, Z, Z, trivial⟩ ?_
   refine zBF (gmH LM AA a a 0 A B [] []) [none] [(0, .ro (zY M) 0 i), (2, .ptr 0 0 0), (3, .nil), (4, .nil), (10, .ptr 2 0 0), (11, .ptr 3 0 0), (49, .ro (zY M) 0 i), (50, iN i), (51, iN a), (14, .ro (qsC l) 0 j)] Z ⟨Z, Z, Z, Z, Z, Z, Z, Z, Z, Z, trivial⟩ (fun h hh => by rw [hfix] at hh; exact absurd hh id) (gm_below _ _ _ _ _ _ _ _) Z ?_
   skip
   refine zi (by kernel_rfl) ?_
   have hR1 : ∀ j', j' < 1 → (zBp 1 1 [.ro (qsC l) 0 j]).at 0 j' = (zCd l).getD j' .any := fun j' hj' => by rw [← hl0]; exact zNs l j' hj'
   refine zV 0 Z (by kernel_rfl) (by kernel_rfl) (by kernel_rfl) Z (zH Z Z Z Z Z Z) Z ?_
   refine zV 2 Z (by kernel_rfl) (by kernel_rfl) (by kernel_rfl) Z (zJ Z) Z ?_
   refine zV 5 Z (by kernel_rfl) (by kernel_rfl) (by kernel_rfl) Z (zH Z Z Z Z Z Z) Z ?_
   apply zDV (H := [oZ, oQ LM, oQ AA, some ⟨193, .box [.any, .sl 5 0 a, .sl 6 0 0]⟩, some ⟨105, zY (A ++ [l])⟩, some ⟨104, qsC B⟩, some ⟨104, qsC []⟩]) [(0, .ro (zY M) 0 i), (2, .ptr 0 0 0), (3, .nil), (4, .nil), (10, .ptr 2 0 0), (11, .ptr 3 0 0), (49, .ro (zY M) 0 i), (50, iN i), (51, iN a), (72, .sl 4 0 (a + 1)), (74, .sl 5 0 a), (76, .ro (zBp 1 3 (zT 1)) 0 1), (78, .ptr 3 0 0)]
   ·intro fin
    refine zF (is := [1, 3, 6]) (by kernel_rfl) (by simp) Z ⟨fun o ho => ?_, fun o ho => ?_, fun o ho => ?_, trivial⟩
    all_goals (cases ho)
    ·refine rn4 ?_
     refine zF (is := [3, 6]) (by kernel_rfl) (by simp) Z ⟨fun o ho => ?_, fun o ho => ?_, trivial⟩
     all_goals (cases ho)
     ·refine rn3 ?_
      refine zF (is := [4, 6]) (by kernel_rfl) (by simp) Z ⟨fun o ho => ?_, fun o ho => ?_, trivial⟩
      all_goals (cases ho)
      ·refine zr Z Z Z Z Z Z Z Z Z hAl Z Z (by show 0 + 1 ≤ 1; omega) Z (by show (a + 1) * 24 ≤ _ ∧ _; omega) ?_ (by rw [hfix]; exact fun h => h) ?_
       ·intro i' j' hi' hj'
        exact zAM [] 1 zCd zBP A l _ hR1 4 i' j' hi' hj'
       refine zv [oZ, oQ LM, oQ AA, some ⟨193, .box [.any, .sl 5 0 a, .sl 6 0 0]⟩, some ⟨105, zY (A ++ [l])⟩, some ⟨104, qsC B⟩, some ⟨104, qsC []⟩] (zQ.eqv (CEq.refl _) (zQ.eqv (CEq.refl _) (zQ.eqv (CEq.refl _) (zQ.eqv (CEq.refl _) (zQ.eqv (zAX [] 1 zCd A l _ hR1) (zQ.eqv (zDb _ _) (zQ.eqv (zDb _ _) zQ.nil))))))) ?_
       refine rn1 ?_
       refine zF (is := [6, 7]) (by kernel_rfl) (by simp) Z ⟨fun o ho => ?_, fun o ho => ?_, trivial⟩
       all_goals (cases ho)
       ·refine rn4 ?_
        refine zV 10 Z (by kernel_rfl) (by kernel_rfl) (by kernel_rfl) Z (zH Z Z Z Z Z Z) Z ?_
        refine zF (is := [7]) (by kernel_rfl) (by simp) Z ⟨fun o ho => ?_, trivial⟩
        all_goals (cases ho)
        refine zB Z Z Z zCK ?_
        unfold qA
        refine rn1 ?_
        refine zF (is := [8]) (by kernel_rfl) (by simp) Z ⟨fun o ho => ?_, trivial⟩
        all_goals (cases ho)
        refine rn3 ?_
        exact fin _ ⟨Z, Z, Z, Z, Z, Z, Z, Z, Z, Z, Z, Z, Z, trivial⟩
       ·refine zB Z Z Z zCK ?_
        unfold qA
        refine rn1 ?_
        refine zF (is := [6, 8]) (by kernel_rfl) (by simp) Z ⟨fun o ho => ?_, fun o ho => ?_, trivial⟩
        all_goals (cases ho)
        ·refine rn4 ?_
         refine zV 10 Z (by kernel_rfl) (by kernel_rfl) (by kernel_rfl) Z (zH Z Z Z Z Z Z) Z ?_
         refine zF (is := [8]) (by kernel_rfl) (by simp) Z ⟨fun o ho => ?_, trivial⟩
         all_goals (cases ho)
         refine rn3 ?_
         exact fin _ ⟨Z, Z, Z, Z, Z, Z, Z, Z, Z, Z, Z, Z, Z, trivial⟩
        ·refine rn3 ?_
         refine zF (is := [6]) (by kernel_rfl) (by simp) Z ⟨fun o ho => ?_, trivial⟩
         all_goals (cases ho)
         refine rn4 ?_
         refine zV 10 Z (by kernel_rfl) (by kernel_rfl) (by kernel_rfl) Z (zH Z Z Z Z Z Z) Z ?_
         exact fin _ ⟨Z, Z, Z, Z, Z, Z, Z, Z, Z, Z, Z, Z, Z, trivial⟩
      ·refine rn4 ?_
       refine zF (is := [4]) (by kernel_rfl) (by simp) Z ⟨fun o ho => ?_, trivial⟩
       all_goals (cases ho)
       refine zr Z Z Z Z Z Z Z Z Z hAl Z Z (by show 0 + 1 ≤ 1; omega) Z (by show (a + 1) * 24 ≤ _ ∧ _; omega) ?_ (by rw [hfix]; exact fun h => h) ?_
       ·intro i' j' hi' hj'
        exact zAM [] 1 zCd zBP A l _ hR1 4 i' j' hi' hj'
       refine zv [oZ, oQ LM, oQ AA, some ⟨193, .box [.any, .sl 5 0 a, .sl 6 0 0]⟩, some ⟨105, zY (A ++ [l])⟩, some ⟨104, qsC B⟩, some ⟨104, qsC []⟩] (zQ.eqv (CEq.refl _) (zQ.eqv (CEq.refl _) (zQ.eqv (CEq.refl _) (zQ.eqv (CEq.refl _) (zQ.eqv (zAX [] 1 zCd A l _ hR1) (zQ.eqv (zDb _ _) (zQ.eqv (zDb _ _) zQ.nil))))))) ?_
       refine rn1 ?_
       refine zV 10 Z (by kernel_rfl) (by kernel_rfl) (by kernel_rfl) Z (zH Z Z Z Z Z Z) Z ?_
       refine zF (is := [7]) (by kernel_rfl) (by simp) Z ⟨fun o ho => ?_, trivial⟩
       all_goals (cases ho)
       refine zB Z Z Z zCK ?_
       unfold qA
       refine rn1 ?_
       refine zF (is := [8]) (by kernel_rfl) (by simp) Z ⟨fun o ho => ?_, trivial⟩
       all_goals (cases ho)
       refine rn3 ?_
       exact fin _ ⟨Z, Z, Z, Z, Z, Z, Z, Z, Z, Z, Z, Z, Z, trivial⟩
     ·refine rn4 ?_
      refine zF (is := [3]) (by kernel_rfl) (by simp) Z ⟨fun o ho => ?_, trivial⟩
      all_goals (cases ho)
      refine rn3 ?_
      refine zF (is := [4]) (by kernel_rfl) (by simp) Z ⟨fun o ho => ?_, trivial⟩
      all_goals (cases ho)
      refine zr Z Z Z Z Z Z Z Z Z hAl Z Z (by show 0 + 1 ≤ 1; omega) Z (by show (a + 1) * 24 ≤ _ ∧ _; omega) ?_ (by rw [hfix]; exact fun h => h) ?_
      ·intro i' j' hi' hj'
       exact zAM [] 1 zCd zBP A l _ hR1 4 i' j' hi' hj'
      refine zv [oZ, oQ LM, oQ AA, some ⟨193, .box [.any, .sl 5 0 a, .sl 6 0 0]⟩, some ⟨105, zY (A ++ [l])⟩, some ⟨104, qsC B⟩, some ⟨104, qsC []⟩] (zQ.eqv (CEq.refl _) (zQ.eqv (CEq.refl _) (zQ.eqv (CEq.refl _) (zQ.eqv (CEq.refl _) (zQ.eqv (zAX [] 1 zCd A l _ hR1) (zQ.eqv (zDb _ _) (zQ.eqv (zDb _ _) zQ.nil))))))) ?_
      refine rn1 ?_
      refine zV 10 Z (by kernel_rfl) (by kernel_rfl) (by kernel_rfl) Z (zH Z Z Z Z Z Z) Z ?_
      refine zF (is := [7]) (by kernel_rfl) (by simp) Z ⟨fun o ho => ?_, trivial⟩
      all_goals (cases ho)
      refine zB Z Z Z zCK ?_
      unfold qA
      refine rn1 ?_
      refine zF (is := [8]) (by kernel_rfl) (by simp) Z ⟨fun o ho => ?_, trivial⟩
      all_goals (cases ho)
      refine rn3 ?_
      exact fin _ ⟨Z, Z, Z, Z, Z, Z, Z, Z, Z, Z, Z, Z, Z, trivial⟩
    ·refine rn3 ?_
     refine zF (is := [1, 6]) (by kernel_rfl) (by simp) Z ⟨fun o ho => ?_, fun o ho => ?_, trivial⟩
     all_goals (cases ho)
     ·refine rn4 ?_
      refine zF (is := [4, 6]) (by kernel_rfl) (by simp) Z ⟨fun o ho => ?_, fun o ho => ?_, trivial⟩
      all_goals (cases ho)
      ·refine zr Z Z Z Z Z Z Z Z Z hAl Z Z (by show 0 + 1 ≤ 1; omega) Z (by show (a + 1) * 24 ≤ _ ∧ _; omega) ?_ (by rw [hfix]; exact fun h => h) ?_
       ·intro i' j' hi' hj'
        exact zAM [] 1 zCd zBP A l _ hR1 4 i' j' hi' hj'
       refine zv [oZ, oQ LM, oQ AA, some ⟨193, .box [.any, .sl 5 0 a, .sl 6 0 0]⟩, some ⟨105, zY (A ++ [l])⟩, some ⟨104, qsC B⟩, some ⟨104, qsC []⟩] (zQ.eqv (CEq.refl _) (zQ.eqv (CEq.refl _) (zQ.eqv (CEq.refl _) (zQ.eqv (CEq.refl _) (zQ.eqv (zAX [] 1 zCd A l _ hR1) (zQ.eqv (zDb _ _) (zQ.eqv (zDb _ _) zQ.nil))))))) ?_
       refine rn1 ?_
       refine zF (is := [6, 7]) (by kernel_rfl) (by simp) Z ⟨fun o ho => ?_, fun o ho => ?_, trivial⟩
       all_goals (cases ho)
       ·refine rn4 ?_
        refine zV 10 Z (by kernel_rfl) (by kernel_rfl) (by kernel_rfl) Z (zH Z Z Z Z Z Z) Z ?_
        refine zF (is := [7]) (by kernel_rfl) (by simp) Z ⟨fun o ho => ?_, trivial⟩
        all_goals (cases ho)
        refine zB Z Z Z zCK ?_
        unfold qA
        refine rn1 ?_
        refine zF (is := [8]) (by kernel_rfl) (by simp) Z ⟨fun o ho => ?_, trivial⟩
        all_goals (cases ho)
        refine rn3 ?_
        exact fin _ ⟨Z, Z, Z, Z, Z, Z, Z, Z, Z, Z, Z, Z, Z, trivial⟩
       ·refine zB Z Z Z zCK ?_
        unfold qA
        refine rn1 ?_
        refine zF (is := [6, 8]) (by kernel_rfl) (by simp) Z ⟨fun o ho => ?_, fun o ho => ?_, trivial⟩
        all_goals (cases ho)
        ·refine rn4 ?_
         refine zV 10 Z (by kernel_rfl) (by kernel_rfl) (by kernel_rfl) Z (zH Z Z Z Z Z Z) Z ?_
         refine zF (is := [8]) (by kernel_rfl) (by simp) Z ⟨fun o ho => ?_, trivial⟩
         all_goals (cases ho)
         refine rn3 ?_
         exact fin _ ⟨Z, Z, Z, Z, Z, Z, Z, Z, Z, Z, Z, Z, Z, trivial⟩
        ·refine rn3 ?_
         refine zF (is := [6]) (by kernel_rfl) (by simp) Z ⟨fun o ho => ?_, trivial⟩
         all_goals (cases ho)
         refine rn4 ?_
         refine zV 10 Z (by kernel_rfl) (by kernel_rfl) (by kernel_rfl) Z (zH Z Z Z Z Z Z) Z ?_
         exact fin _ ⟨Z, Z, Z, Z, Z, Z, Z, Z, Z, Z, Z, Z, Z, trivial⟩
      ·refine rn4 ?_
       refine zF (is := [4]) (by kernel_rfl) (by simp) Z ⟨fun o ho => ?_, trivial⟩
       all_goals (cases ho)
       refine zr Z Z Z Z Z Z Z Z Z hAl Z Z (by show 0 + 1 ≤ 1; omega) Z (by show (a + 1) * 24 ≤ _ ∧ _; omega) ?_ (by rw [hfix]; exact fun h => h) ?_
       ·intro i' j' hi' hj'
        exact zAM [] 1 zCd zBP A l _ hR1 4 i' j' hi' hj'
       refine zv [oZ, oQ LM, oQ AA, some ⟨193, .box [.any, .sl 5 0 a, .sl 6 0 0]⟩, some ⟨105, zY (A ++ [l])⟩, some ⟨104, qsC B⟩, some ⟨104, qsC []⟩] (zQ.eqv (CEq.refl _) (zQ.eqv (CEq.refl _) (zQ.eqv (CEq.refl _) (zQ.eqv (CEq.refl _) (zQ.eqv (zAX [] 1 zCd A l _ hR1) (zQ.eqv (zDb _ _) (zQ.eqv (zDb _ _) zQ.nil))))))) ?_
       refine rn1 ?_
       refine zV 10 Z (by kernel_rfl) (by kernel_rfl) (by kernel_rfl) Z (zH Z Z Z Z Z Z) Z ?_
       refine zF (is := [7]) (by kernel_rfl) (by simp) Z ⟨fun o ho => ?_, trivial⟩
       all_goals (cases ho)
       refine zB Z Z Z zCK ?_
       unfold qA
       refine rn1 ?_
       refine zF (is := [8]) (by kernel_rfl) (by simp) Z ⟨fun o ho => ?_, trivial⟩
       all_goals (cases ho)
       refine rn3 ?_
       exact fin _ ⟨Z, Z, Z, Z, Z, Z, Z, Z, Z, Z, Z, Z, Z, trivial⟩
     ·refine rn4 ?_
      refine zF (is := [1]) (by kernel_rfl) (by simp) Z ⟨fun o ho => ?_, trivial⟩
      all_goals (cases ho)
      refine rn4 ?_
      refine zF (is := [4]) (by kernel_rfl) (by simp) Z ⟨fun o ho => ?_, trivial⟩
      all_goals (cases ho)
      refine zr Z Z Z Z Z Z Z Z Z hAl Z Z (by show 0 + 1 ≤ 1; omega) Z (by show (a + 1) * 24 ≤ _ ∧ _; omega) ?_ (by rw [hfix]; exact fun h => h) ?_
      ·intro i' j' hi' hj'
       exact zAM [] 1 zCd zBP A l _ hR1 4 i' j' hi' hj'
      refine zv [oZ, oQ LM, oQ AA, some ⟨193, .box [.any, .sl 5 0 a, .sl 6 0 0]⟩, some ⟨105, zY (A ++ [l])⟩, some ⟨104, qsC B⟩, some ⟨104, qsC []⟩] (zQ.eqv (CEq.refl _) (zQ.eqv (CEq.refl _) (zQ.eqv (CEq.refl _) (zQ.eqv (CEq.refl _) (zQ.eqv (zAX [] 1 zCd A l _ hR1) (zQ.eqv (zDb _ _) (zQ.eqv (zDb _ _) zQ.nil))))))) ?_
      refine rn1 ?_
      refine zV 10 Z (by kernel_rfl) (by kernel_rfl) (by kernel_rfl) Z (zH Z Z Z Z Z Z) Z ?_
      refine zF (is := [7]) (by kernel_rfl) (by simp) Z ⟨fun o ho => ?_, trivial⟩
      all_goals (cases ho)
      refine zB Z Z Z zCK ?_
      unfold qA
      refine rn1 ?_
      refine zF (is := [8]) (by kernel_rfl) (by simp) Z ⟨fun o ho => ?_, trivial⟩
      all_goals (cases ho)
      refine rn3 ?_
      exact fin _ ⟨Z, Z, Z, Z, Z, Z, Z, Z, Z, Z, Z, Z, Z, trivial⟩
    ·refine rn4 ?_
     refine zF (is := [1, 3]) (by kernel_rfl) (by simp) Z ⟨fun o ho => ?_, fun o ho => ?_, trivial⟩
     all_goals (cases ho)
     ·refine rn4 ?_
      refine zF (is := [3]) (by kernel_rfl) (by simp) Z ⟨fun o ho => ?_, trivial⟩
      all_goals (cases ho)
      refine rn3 ?_
      refine zF (is := [4]) (by kernel_rfl) (by simp) Z ⟨fun o ho => ?_, trivial⟩
      all_goals (cases ho)
      refine zr Z Z Z Z Z Z Z Z Z hAl Z Z (by show 0 + 1 ≤ 1; omega) Z (by show (a + 1) * 24 ≤ _ ∧ _; omega) ?_ (by rw [hfix]; exact fun h => h) ?_
      ·intro i' j' hi' hj'
       exact zAM [] 1 zCd zBP A l _ hR1 4 i' j' hi' hj'
      refine zv [oZ, oQ LM, oQ AA, some ⟨193, .box [.any, .sl 5 0 a, .sl 6 0 0]⟩, some ⟨105, zY (A ++ [l])⟩, some ⟨104, qsC B⟩, some ⟨104, qsC []⟩] (zQ.eqv (CEq.refl _) (zQ.eqv (CEq.refl _) (zQ.eqv (CEq.refl _) (zQ.eqv (CEq.refl _) (zQ.eqv (zAX [] 1 zCd A l _ hR1) (zQ.eqv (zDb _ _) (zQ.eqv (zDb _ _) zQ.nil))))))) ?_
      refine rn1 ?_
      refine zV 10 Z (by kernel_rfl) (by kernel_rfl) (by kernel_rfl) Z (zH Z Z Z Z Z Z) Z ?_
      refine zF (is := [7]) (by kernel_rfl) (by simp) Z ⟨fun o ho => ?_, trivial⟩
      all_goals (cases ho)
      refine zB Z Z Z zCK ?_
      unfold qA
      refine rn1 ?_
      refine zF (is := [8]) (by kernel_rfl) (by simp) Z ⟨fun o ho => ?_, trivial⟩
      all_goals (cases ho)
      refine rn3 ?_
      exact fin _ ⟨Z, Z, Z, Z, Z, Z, Z, Z, Z, Z, Z, Z, Z, trivial⟩
     ·refine rn3 ?_
      refine zF (is := [1]) (by kernel_rfl) (by simp) Z ⟨fun o ho => ?_, trivial⟩
      all_goals (cases ho)
      refine rn4 ?_
      refine zF (is := [4]) (by kernel_rfl) (by simp) Z ⟨fun o ho => ?_, trivial⟩
      all_goals (cases ho)
      refine zr Z Z Z Z Z Z Z Z Z hAl Z Z (by show 0 + 1 ≤ 1; omega) Z (by show (a + 1) * 24 ≤ _ ∧ _; omega) ?_ (by rw [hfix]; exact fun h => h) ?_
      ·intro i' j' hi' hj'
       exact zAM [] 1 zCd zBP A l _ hR1 4 i' j' hi' hj'
      refine zv [oZ, oQ LM, oQ AA, some ⟨193, .box [.any, .sl 5 0 a, .sl 6 0 0]⟩, some ⟨105, zY (A ++ [l])⟩, some ⟨104, qsC B⟩, some ⟨104, qsC []⟩] (zQ.eqv (CEq.refl _) (zQ.eqv (CEq.refl _) (zQ.eqv (CEq.refl _) (zQ.eqv (CEq.refl _) (zQ.eqv (zAX [] 1 zCd A l _ hR1) (zQ.eqv (zDb _ _) (zQ.eqv (zDb _ _) zQ.nil))))))) ?_
      refine rn1 ?_
      refine zV 10 Z (by kernel_rfl) (by kernel_rfl) (by kernel_rfl) Z (zH Z Z Z Z Z Z) Z ?_
      refine zF (is := [7]) (by kernel_rfl) (by simp) Z ⟨fun o ho => ?_, trivial⟩
      all_goals (cases ho)
      refine zB Z Z Z zCK ?_
      unfold qA
      refine rn1 ?_
      refine zF (is := [8]) (by kernel_rfl) (by simp) Z ⟨fun o ho => ?_, trivial⟩
      all_goals (cases ho)
      refine rn3 ?_
      exact fin _ ⟨Z, Z, Z, Z, Z, Z, Z, Z, Z, Z, Z, Z, Z, trivial⟩
   refine zF (is := [9]) (by kernel_rfl) (by simp) Z ⟨fun o ho => ?_, trivial⟩
   all_goals (cases ho)
   refine zr Z Z Z Z Z Z Z Z Z hBl Z Z (by show 0 + 1 ≤ 1; omega) Z (by show (a + 1) * 56 ≤ _ ∧ _; omega) ?_ (by rw [hfix]; exact fun h => h) ?_
   ·intro i' j' hi' hj'
    exact zAM 0 3 zT zAe B 1 _ (zCg _) 5 i' j' hi' hj'
   refine zv [oZ, oQ LM, oQ AA, some ⟨193, .box [.any, .any, .sl 6 0 0]⟩, some ⟨105, zY (A ++ [l])⟩, some ⟨104, qsC (B ++ [1])⟩, some ⟨104, qsC []⟩] (zQ.eqv (CEq.refl _) (zQ.eqv (CEq.refl _) (zQ.eqv (CEq.refl _) (zQ.eqv (CEq.refl _) (zQ.eqv (zMQ _ _) (zQ.eqv (zAX 0 3 zT B 1 _ (zCg _)) (zQ.eqv (zDb _ _) zQ.nil))))))) ?_
   refine rn1 ?_
   refine zF (is := [11]) (by kernel_rfl) (by simp) Z ⟨fun o ho => ?_, trivial⟩
   all_goals (cases ho)
   refine rn9 ?_
   refine zV 12 Z (by kernel_rfl) (by kernel_rfl) (by kernel_rfl) Z (zH Z Z Z Z Z Z) Z ?_
   refine zF (is := [13]) (by kernel_rfl) (by simp) Z ⟨fun o ho => ?_, trivial⟩
   all_goals (cases ho)
   refine rn9 ?_
   refine zW (by kernel_rfl) ?_
   refine rn5 ?_
   exact zK ⟨a + 1, by omega, by omega, ⟨Z, Z, Z, Z, Z, Z, Z, Z, Z, trivial⟩, by rw [hA2, hsn, hB2, hon]; rfl⟩
 ·have hae : a = i := by omega
  subst hae
  have hAe : (M.take a).map (zFC AA) = M.map (zFC AA) := by rw [List.take_of_length_le (by omega)]
  have hMl : (M.map (zFC AA)).length = a := by rw [List.length_map]; omega
  have hRl : (List.replicate a (1 : Rat)).length = a := List.length_replicate
  rw [hAe]
  generalize M.map (zFC AA) = A at *
  generalize List.replicate a (1 : Rat) = B at *
  refine rn6 ?_
  refine zAE 84 (iN w) Z (AEq.of_eq (by rw [hr0])) ?_
  refine ze (ι := Nat) (fun b => [(0, .ro (zY M) 0 a), (2, .ptr 0 0 0), (3, .nil), (4, .nil), (10, .ptr 2 0 0), (11, .ptr 3 0 0), (84, iN w), (85, iN b)]) (fun b => gmH LM AA a a b A B (List.replicate b 1) [])
   (fun b => b ≤ w) (fun b => w - b) 0 ⟨⟨rfl, rfl, rfl, rfl, rfl, rfl, rfl, rfl, trivial⟩, rfl, Nat.zero_le _⟩ ?_
  intro b hb
  refine rn4 ?_
  refine zA Z (fun h => ?_) (fun h => ?_)
  ·have hb' : b < w := by omega
   have hon := zLk b
   have hBl : (List.replicate b (1 : Rat)).length = b := List.length_replicate
   generalize hC2 : List.replicate (b + 1) (1 : Rat) = C2 at *
   generalize List.replicate b (1 : Rat) = C at *
   refine rn1 ?_
   refine zi (by kernel_rfl) ?_
   refine zCq (fuel := 3) [0, 1, 2, 3] [(0, .ro (zY M) 0 a), (2, .ptr 0 0 0), (3, .nil), (4, .nil), (10, .ptr 2 0 0), (11, .ptr 3 0 0), (84, iN w), (85, iN b)] ⟨Z, Z, Z, Z, Z, Z, Z, Z, trivial⟩ (by kernel_rfl) (by decide) Z Z ?_
   refine zM Z Z (zH Z Z Z Z Z Z) ?_
   refine zM Z Z (zX Z Z Z Z Z) ?_
   refine zA6 Z Z Z Z Z zCK ?_
   refine px_b Z Z Z Z Z Z Z Z Z Z Z Z Z ?_
   refine zAA ?_
   refine zF (is := [4]) (by kernel_rfl) (by simp) Z ⟨fun o ho => ?_, trivial⟩
   all_goals (cases ho)
   refine zr Z Z Z Z Z Z Z Z Z hBl Z Z (by show 0 + 1 ≤ 1; omega) Z (by show (b + 1) * 56 ≤ _ ∧ _; omega) ?_ (by rw [hfix]; exact fun h => h) ?_
   ·intro i' j' hi' hj'
    exact zAM 0 3 zT zAe C 1 _ (zCg _) 6 i' j' hi' hj'
   refine zv [oZ, oQ LM, oQ AA, some ⟨193, .box [.sl 4 0 a, .sl 5 0 a, .any]⟩, some ⟨105, zY A⟩, some ⟨104, qsC B⟩, some ⟨104, qsC (C ++ [1])⟩] (zQ.eqv (CEq.refl _) (zQ.eqv (CEq.refl _) (zQ.eqv (CEq.refl _) (zQ.eqv (CEq.refl _) (zQ.eqv (zMQ _ _) (zQ.eqv (zDb _ _) (zQ.eqv (zAX 0 3 zT C 1 _ (zCg _)) zQ.nil))))))) ?_
   refine rn1 ?_
   refine zV 5 Z (by kernel_rfl) (by kernel_rfl) (by kernel_rfl) Z (zH Z Z Z Z Z Z) Z ?_
   refine zF (is := [6]) (by kernel_rfl) (by simp) Z ⟨fun o ho => ?_, trivial⟩
   all_goals (cases ho)
   refine rn9 ?_
   refine zW (by kernel_rfl) ?_
   refine rn5 ?_
   exact zK ⟨b + 1, by omega, by omega, ⟨Z, Z, Z, Z, Z, Z, Z, Z, trivial⟩, by rw [hC2, hon]; rfl⟩
  have hbe : b = w := by omega
  subst hbe
  have hCl : (List.replicate b (1 : Rat)).length = b := List.length_replicate
  generalize List.replicate b (1 : Rat) = C at *
  refine zHb ?_
  refine zQM [none, none, none, none, some ⟨105, zY A⟩, some ⟨104, qsC B⟩, some ⟨104, qsC C⟩] [oZ, oQ LM, oQ AA, some ⟨193, .box [.ro (zY A) 0 a, .ro (qsC B) 0 a, .ro (qsC C) 0 b]⟩, none, none, none] [(2, .ptr 0 0 0), (3, .nil), (4, .nil), (10, .ptr 2 0 0), (11, .ptr 3 0 0)] ?_ ?_ Z ?_ ⟨⟨_, Z, .inl Z⟩, ⟨_, Z, .inl Z⟩, ⟨_, Z, .inl Z⟩, ⟨_, Z, .inl Z⟩, ⟨_, Z, .inl Z⟩, trivial⟩ ?_
  ·intro h o ho
   match h, ho with
   | 0, ho => simp at ho
   | 1, ho => simp at ho
   | 2, ho => simp at ho
   | 3, ho => simp at ho
   | 4, ho => exact ho
   | 5, ho => exact ho
   | 6, ho => exact ho
   | _ + 7, ho => simp at ho
  ·intro h o ho
   match h, ho with
   | 0, ho => simp at ho
   | 1, ho => simp at ho
   | 2, ho => simp at ho
   | 3, ho => simp at ho
   | 4, ho => cases ho; exact zFg _
   | 5, ho => cases ho; exact zAw _
   | 6, ho => cases ho; exact zAw _
   | _ + 7, ho => simp at ho
  ·intro h o ho
   match h, ho with
   | 0, ho => cases ho; exact ⟨fun o h => by simp at h, _, rfl, rfl, rfl, rfl, fun i j _ _ => .inl rfl⟩
   | 1, ho => cases ho; exact ⟨fun o h => by simp at h, _, rfl, rfl, rfl, rfl, fun i j _ _ => .inl rfl⟩
   | 2, ho => cases ho; exact ⟨fun o h => by simp at h, _, rfl, rfl, rfl, rfl, fun i j _ _ => .inl rfl⟩
   | 3, ho =>
    cases ho
    refine ⟨fun o h => by simp at h, _, Z, Z, Z, Z, fun i j _ hj => ?_⟩
    have hj : j < 3 := hj
    match j, hj with
    | 0, _ => exact .inr (.inr ⟨rfl, fun o ho => by cases ho; show 0 + a ≤ A.length; omega⟩)
    | 1, _ => exact .inr (.inr ⟨rfl, fun o ho => by cases ho; show 0 + a ≤ B.length; omega⟩)
    | 2, _ => exact .inr (.inr ⟨rfl, fun o ho => by cases ho; show 0 + b ≤ C.length; omega⟩)
   | 4, ho => simp at ho
   | 5, ho => simp at ho
   | 6, ho => simp at ho
   | _ + 7, ho => simp at ho
  refine zBF [oZ, oQ LM, oQ AA, some ⟨193, .box [.ro (zY A) 0 a, .ro (qsC B) 0 a, .ro (qsC C) 0 b]⟩] [none, none, none] [(2, .ptr 0 0 0), (3, .nil), (4, .nil), (10, .ptr 2 0 0), (11, .ptr 3 0 0)] Z ⟨Z, Z, Z, Z, Z, trivial⟩ (fun h hh => by rw [hfix] at hh; exact absurd hh id) gm_b4 Z ?_
  refine rn6 ?_
  refine zB Z Z Z hcR ?_
  repeat (refine zBC rfl rfl rfl ?_)
  refine sa1 (c' := .box ([.int .i64 0, .ro (qsC r.X) 0 b, .ro (qsC r.Y) 0 a, .nil] ++ zT r.V)) Z Z Z Z Z Z Z ?_
  refine zO (oZ :: oQ LM :: oQ AA :: some ⟨193, .box [.ro (zY A) 0 a, .ro (qsC B) 0 a, .ro (qsC C) 0 b]⟩ :: some ⟨190, .box ([.int .i64 0, .ro (qsC r.X) 0 b, .ro (qsC r.Y) 0 a, .nil] ++ zT r.V)⟩ :: []) Z ?_
  refine rn8 ?_
  refine zAo 4 ⟨104, qsC []⟩ Z Z ?_
  repeat (refine zAF ?_)
  refine ze (ι := Nat) (fun j => [(2, .ptr 0 0 0), (3, .nil), (10, .ptr 2 0 0), (17, .ptr 4 0 0), (4, .sl 5 0 j), (97, .ro (qsC r.X) 0 b), (98, iN b), (99, iN j)]) (fun j => oZ :: oQ LM :: oQ AA :: some ⟨193, .box [.ro (zY A) 0 a, .ro (qsC B) 0 a, .ro (qsC C) 0 b]⟩ :: some ⟨190, .box ([.int .i64 0, .ro (qsC r.X) 0 b, .ro (qsC r.Y) 0 a, .nil] ++ zT r.V)⟩ :: [some ⟨104, qsC (zFa r.V (r.X.take j))⟩])
   (fun j => j ≤ b) (fun j => b - j) 0 ⟨⟨rfl, rfl, rfl, rfl, rfl, rfl, rfl, rfl, trivial⟩, rfl, Nat.zero_le _⟩ ?_
  intro j hj
  refine rn4 ?_
  refine zA Z (fun h => ?_) (fun h => ?_)
  ·have hj' : j < b := by omega
   have hls := zLS r.V r.X (j := j) (by omega)
   have hll : (zFa r.V (r.X.take j)).length = j := by unfold zFa; rw [List.length_map, List.length_take]; omega
   have ca := dX j hj'
   generalize hl2 : zFa r.V (r.X.take (j + 1)) = l2 at *
   generalize zFa r.V (r.X.take j) = l at *
   refine rn6 ?_
   refine zD 102 (.agg (zT (r.X.getD j 0))) Z (AEq.of_eq Z) ?_
   generalize hqj : r.X.getD j 0 = q at *
   refine sa1 (c' := .box (zT q)) Z Z Z Z Z Z Z ?_
   refine zO (oZ :: oQ LM :: oQ AA :: some ⟨193, .box [.ro (zY A) 0 a, .ro (qsC B) 0 a, .ro (qsC C) 0 b]⟩ :: some ⟨190, .box ([.int .i64 0, .ro (qsC r.X) 0 b, .ro (qsC r.Y) 0 a, .nil] ++ zT r.V)⟩ :: [some ⟨104, qsC l⟩, oQ q]) Z ?_
   refine rn6 ?_
   refine zB Z Z Z ca ?_
   generalize q / r.V = s at *
   unfold qA
   repeat (refine zf rfl rfl rfl rfl rfl rfl rfl rfl rfl rfl rfl ?_)
   refine zr Z Z Z Z Z Z Z Z Z hll Z Z (by show 0 + 1 ≤ 1; omega) Z (by show (j + 1) * 56 ≤ _ ∧ _; omega) ?_ (by rw [hfix]; exact fun h => h) ?_
   ·intro i' j' hi' hj'
    exact zAM 0 3 zT zAe l s _ (zCg _) 5 i' j' hi' hj'
   refine zv (oZ :: oQ LM :: oQ AA :: some ⟨193, .box [.ro (zY A) 0 a, .ro (qsC B) 0 a, .ro (qsC C) 0 b]⟩ :: some ⟨190, .box ([.int .i64 0, .ro (qsC r.X) 0 b, .ro (qsC r.Y) 0 a, .nil] ++ zT r.V)⟩ :: [some ⟨104, qsC (l ++ [s])⟩, oQ q]) (zQ.eqv (CEq.refl _) (zQ.eqv (CEq.refl _) (zQ.eqv (CEq.refl _) (zQ.eqv (CEq.refl _) (zQ.eqv (CEq.refl _) (zQ.eqv (zAX 0 3 zT l s _ (zCg _)) (zQ.eqv (CEq.refl _) zQ.nil))))))) ?_
   refine zEO ?_
   refine zI ?_
   refine zBF (oZ :: oQ LM :: oQ AA :: some ⟨193, .box [.ro (zY A) 0 a, .ro (qsC B) 0 a, .ro (qsC C) 0 b]⟩ :: some ⟨190, .box ([.int .i64 0, .ro (qsC r.X) 0 b, .ro (qsC r.Y) 0 a, .nil] ++ zT r.V)⟩ :: [some ⟨104, qsC (l ++ [s])⟩]) [oQ q] [(2, .ptr 0 0 0), (3, .nil), (10, .ptr 2 0 0), (17, .ptr 4 0 0), (4, .sl 5 0 (j + 1)), (97, .ro (qsC r.X) 0 b), (98, iN b), (99, iN j)] Z ⟨Z, Z, Z, Z, Z, Z, Z, Z, trivial⟩ (fun h hh => by rw [hfix] at hh; exact absurd hh id) gm_b6 Z ?_
   refine rn3 ?_
   exact zK ⟨j + 1, by omega, by omega, ⟨Z, Z, Z, Z, Z, Z, Z, Z, trivial⟩, by rw [hl2, hls]⟩
  have hje : b = j := by omega
  subst hje
  rw [show r.X.take b = r.X from List.take_of_length_le (by omega)]
  have hl0 : (zFa r.V r.X).length = b := by unfold zFa; rw [List.length_map]; exact rx
  generalize zFa r.V r.X = DX at *
  refine zHb ?_
  refine zAd 5 4 b [(2, .ptr 0 0 0), (3, .nil), (10, .ptr 2 0 0), (17, .ptr 4 0 0)] Z (zAw _) Z (by show b ≤ DX.length; omega) ⟨Z, Z, Z, Z, trivial⟩ ?_
  refine zBF (oZ :: oQ LM :: oQ AA :: some ⟨193, .box [.ro (zY A) 0 a, .ro (qsC B) 0 a, .ro (qsC C) 0 b]⟩ :: some ⟨190, .box ([.int .i64 0, .ro (qsC r.X) 0 b, .ro (qsC r.Y) 0 a, .nil] ++ zT r.V)⟩ :: []) [none] [(2, .ptr 0 0 0), (3, .nil), (10, .ptr 2 0 0), (17, .ptr 4 0 0), (4, .ro (qsC DX) 0 b)] Z ⟨Z, Z, Z, Z, Z, trivial⟩ (fun h hh => by rw [hfix] at hh; exact absurd hh id) gm_b5 Z ?_
  refine rn8 ?_
  refine zAo 3 ⟨104, qsC []⟩ Z Z ?_
  repeat (refine zAF ?_)
  refine ze (ι := Nat) (fun j => [(2, .ptr 0 0 0), (4, .ro (qsC DX) 0 b), (10, .ptr 2 0 0), (17, .ptr 4 0 0), (3, .sl 5 0 j), (112, .ro (qsC r.Y) 0 a), (113, iN a), (114, iN j)]) (fun j => oZ :: oQ LM :: oQ AA :: some ⟨193, .box [.ro (zY A) 0 a, .ro (qsC B) 0 a, .ro (qsC C) 0 b]⟩ :: some ⟨190, .box ([.int .i64 0, .ro (qsC r.X) 0 b, .ro (qsC r.Y) 0 a, .nil] ++ zT r.V)⟩ :: [some ⟨104, qsC (zFa r.V (r.Y.take j))⟩])
   (fun j => j ≤ a) (fun j => a - j) 0 ⟨⟨rfl, rfl, rfl, rfl, rfl, rfl, rfl, rfl, trivial⟩, rfl, Nat.zero_le _⟩ ?_
  intro j hj
  refine rn4 ?_
  refine zA Z (fun h => ?_) (fun h => ?_)
  ·have hj' : j < a := by omega
   have hls := zLS r.V r.Y (j := j) (by omega)
   have hll : (zFa r.V (r.Y.take j)).length = j := by unfold zFa; rw [List.length_map, List.length_take]; omega
   have ca := dY j hj'
   generalize hl2 : zFa r.V (r.Y.take (j + 1)) = l2 at *
   generalize zFa r.V (r.Y.take j) = l at *
   refine rn6 ?_
   refine zD 117 (.agg (zT (r.Y.getD j 0))) Z (AEq.of_eq Z) ?_
   generalize hqj : r.Y.getD j 0 = q at *
   refine sa1 (c' := .box (zT q)) Z Z Z Z Z Z Z ?_
   refine zO (oZ :: oQ LM :: oQ AA :: some ⟨193, .box [.ro (zY A) 0 a, .ro (qsC B) 0 a, .ro (qsC C) 0 b]⟩ :: some ⟨190, .box ([.int .i64 0, .ro (qsC r.X) 0 b, .ro (qsC r.Y) 0 a, .nil] ++ zT r.V)⟩ :: [some ⟨104, qsC l⟩, oQ q]) Z ?_
   refine rn6 ?_
   refine zB Z Z Z ca ?_
   generalize q / r.V = s at *
   unfold qA
   repeat (refine zf rfl rfl rfl rfl rfl rfl rfl rfl rfl rfl rfl ?_)
   refine zr Z Z Z Z Z Z Z Z Z hll Z Z (by show 0 + 1 ≤ 1; omega) Z (by show (j + 1) * 56 ≤ _ ∧ _; omega) ?_ (by rw [hfix]; exact fun h => h) ?_
   ·intro i' j' hi' hj'
    exact zAM 0 3 zT zAe l s _ (zCg _) 5 i' j' hi' hj'
   refine zv (oZ :: oQ LM :: oQ AA :: some ⟨193, .box [.ro (zY A) 0 a, .ro (qsC B) 0 a, .ro (qsC C) 0 b]⟩ :: some ⟨190, .box ([.int .i64 0, .ro (qsC r.X) 0 b, .ro (qsC r.Y) 0 a, .nil] ++ zT r.V)⟩ :: [some ⟨104, qsC (l ++ [s])⟩, oQ q]) (zQ.eqv (CEq.refl _) (zQ.eqv (CEq.refl _) (zQ.eqv (CEq.refl _) (zQ.eqv (CEq.refl _) (zQ.eqv (CEq.refl _) (zQ.eqv (zAX 0 3 zT l s _ (zCg _)) (zQ.eqv (CEq.refl _) zQ.nil))))))) ?_
   refine zEO ?_
   refine zI ?_
   refine zBF (oZ :: oQ LM :: oQ AA :: some ⟨193, .box [.ro (zY A) 0 a, .ro (qsC B) 0 a, .ro (qsC C) 0 b]⟩ :: some ⟨190, .box ([.int .i64 0, .ro (qsC r.X) 0 b, .ro (qsC r.Y) 0 a, .nil] ++ zT r.V)⟩ :: [some ⟨104, qsC (l ++ [s])⟩]) [oQ q] [(2, .ptr 0 0 0), (4, .ro (qsC DX) 0 b), (10, .ptr 2 0 0), (17, .ptr 4 0 0), (3, .sl 5 0 (j + 1)), (112, .ro (qsC r.Y) 0 a), (113, iN a), (114, iN j)] Z ⟨Z, Z, Z, Z, Z, Z, Z, Z, trivial⟩ (fun h hh => by rw [hfix] at hh; exact absurd hh id) gm_b6 Z ?_
   refine rn3 ?_
   exact zK ⟨j + 1, by omega, by omega, ⟨Z, Z, Z, Z, Z, Z, Z, Z, trivial⟩, by rw [hl2, hls]⟩
  have hje : a = j := by omega
  subst hje
  rw [show r.Y.take a = r.Y from List.take_of_length_le (by omega)]
  have hl1 : (zFa r.V r.Y).length = a := by unfold zFa; rw [List.length_map]; exact ry
  generalize zFa r.V r.Y = DY at *
  refine zHb ?_
  refine zAd 5 3 a [(2, .ptr 0 0 0), (10, .ptr 2 0 0), (17, .ptr 4 0 0), (4, .ro (qsC DX) 0 b)] Z (zAw _) Z (by show a ≤ DY.length; omega) ⟨Z, Z, Z, Z, trivial⟩ ?_
  skip
  refine zi (by kernel_rfl) ?_
  refine zV 6 Z (by kernel_rfl) (by kernel_rfl) (by kernel_rfl) Z (zJ Z) Z ?_
  refine zV 7 Z (by kernel_rfl) (by kernel_rfl) (by kernel_rfl) Z (zJ Z) Z ?_
  refine zCq (fuel := 3) [0, 1, 2, 3, 4, 5] [(2, .ptr 0 0 0), (10, .ptr 2 0 0), (17, .ptr 4 0 0), (132, .ro (qsC DY) 0 a), (133, .ro (qsC DX) 0 b)] ⟨Z, Z, Z, Z, Z, trivial⟩ (by kernel_rfl) (by decide) Z Z ?_
  refine zA6 Z Z Z Z Z zCK ?_
  refine zM Z Z (zH Z Z Z Z Z Z) ?_
  refine zM Z Z (qpp Z Z Z Z Z Z Z) ?_
  refine zA6 Z Z Z Z Z d1 ?_
  refine zM Z Z (qpp Z Z Z Z Z Z Z) ?_
  refine zA6 Z Z Z Z Z s2 ?_
  refine zAA ?_
  refine zF (is := [8]) (by kernel_rfl) (by simp) Z ⟨fun o ho => ?_, trivial⟩
  all_goals (cases ho)
  skip
  generalize 1 / r.V - AA = val at *
  unfold qA
  refine sa1 (c' := .box (zT val)) Z Z Z Z Z Z Z ?_
  refine rn1 ?_
  refine zV 9 Z (by kernel_rfl) (by kernel_rfl) (by kernel_rfl) Z (zm Z) Z ?_
  refine zV 10 Z (by kernel_rfl) (by kernel_rfl) (by kernel_rfl) Z (zm Z) Z ?_
  refine zW (by kernel_rfl) ?_
  refine rn0 ?_
  exact zL hR Z Z
end Go.Proofs.YtkncmbklkhjmgaaGreatDoor
namespace Go.Ax
variable [Pins]
open Go.RowKit
section
variable {ind : Bool} {P : Program} {fn : Func} {c : Ctx} {fr : Fr} {H : zN} {k : List It}
variable {d : Option Nat} {ty : TypeId} {pos : String} {after : Array Edge} {g : Option (Nat × Bool)}
theorem zNk {x x1 x2 x3 : Operand} {t e : TypeId} {cl : Cells} {i n : Nat} {k1 k2 k3 : IntKind} {l h m : Int} (ht : P.underlying t = some (.slice e)) (hs : (P.info? e).map (·.size) = some cl.sz) (hx : ev fr x = some (.ro cl i n)) (h1 : ev fr x1 = some (.int k1 l)) (h2 : ev fr x2 = some (.int k2 h)) (h3 : ev fr x3 = some (.int k3 m)) (hb : 0 ≤ l ∧ l ≤ h ∧ h ≤ m ∧ m ≤ n) :
 QOp ind P fn c fr H ⟨d, .slice t x (some x1) (some x2) (some x3), ty, pos, after, g⟩ (.ro cl (i + l.toNat) (h - l).toNat) := by
 intro w a σ S hr
 have hxv := hr.evAt hx
 have e1 := hr.evInt h1
 have e2 := hr.evInt h2
 have e3 := hr.evInt h3
 generalize hz : a.eval x = z at hxv
 have hsub : h.toNat - l.toNat = (h - l).toNat := by omega
 have hbs : ∀ (w' : World) (len cap : Nat), m ≤ cap → (Instr.sliceBounds true len cap (some (a.eval x1)) (some (a.eval x2)) (some (a.eval x3))).run P w' = .ok (l.toNat, h.toNat, m.toNat) w' := by
  intro w' len cap hc
  simp only [Instr.sliceBounds, Sem.run_bind, Sem.run_pure, Result.andThen_ok, zBr (P := P) e3 (show 0 ≤ m ∧ m ≤ cap by omega), zBr (P := P) (w := w') (y := m.toNat) e2 (show 0 ≤ h ∧ h ≤ ((m.toNat : Nat) : Int) by omega), zBr (P := P) (w := w') (y := h.toNat) e1 (show 0 ≤ l ∧ l ≤ ((h.toNat : Nat) : Int) by omega)]
 cases hxv with
 | ro0 _ _ _ ad cap =>
  have hm : m = 0 := by omega
  have hn : h = 0 := by omega
  have hl : l = 0 := by omega
  subst hm hn hl
  refine ⟨.slice ad 0 0, .ro0 _ _ _ _ _, fun w' _ => ?_⟩
  have hb' := hbs w' 0 cap (by omega)
  cases hq : P.info? e with
  | none => simp [hq] at hs
  | some inf => simp [execOp, hz, Instr.sliceAt, Instr.slice, run_underlying ht, hb', sizeOf, typeInfo, hq]
 | ro _ _ _ _ b o cap val hS hlen hc hv h1' =>
  have hget : ∀ w', (execOp a.eval ⟨d, .slice t x (some x1) (some x2) (some x3), ty, pos, after, g⟩).run P w' = .ok (.value (.slice (if m.toNat = l.toNat then some ⟨b, o, none⟩ else some ⟨b, o + l.toNat * cl.sz, none⟩) (h - l).toNat (m.toNat - l.toNat))) w' := by
   intro w'
   have hb' := hbs w' n cap (by omega)
   cases hq : P.info? e with
   | none => simp [hq] at hs
   | some inf =>
    have hsz : inf.size = cl.sz := by simpa [hq] using hs
    simp [execOp, hz, Instr.sliceAt, Instr.slice, run_underlying ht, hb', sizeOf, typeInfo, hq, hsub, hsz, Addr.add_lit]
  refine ⟨_, ?_, fun w' _ => hget w'⟩
  by_cases h0 : (h - l).toNat = 0
  ·rw [h0]; exact .ro0 _ _ _ _ _
  ·have hne : ¬ m.toNat = l.toNat := by omega
   rw [if_neg hne]
   refine .ro _ _ _ _ _ _ _ (fun d j => val (l.toNat + d) j) hS (by omega) (fun d j hd hj => ?_) (fun d j hd hj => ?_) (fun d j hd hj => ?_)
   ·have := hc (l.toNat + d) j (by omega) hj
    rw [Nat.add_mul, ← Nat.add_assoc] at this
    exact this
   ·have := hv (l.toNat + d) j (by omega) hj
    rw [← Nat.add_assoc] at this
    exact this
   ·exact h1' (l.toNat + d) j (by omega) hj
end
end Go.Ax
namespace Go.Ax
variable [Pins]
open Go.RowKit
section
variable {ind : Bool} {P : Program} {fn : Func} {c : Ctx} {fr : Fr} {H : zN} {k : List It}
variable {d : Option Nat} {ty : TypeId} {pos : String} {after : Array Edge} {g : Option (Nat × Bool)}
end
theorem AEq_agg {l l' : List AV} (h : AEqs l l') : AEq (.agg l) (.agg l') := by
 intro w S σ v hv
 have hl := h.length
 cases hv with
 | agg _ _ vs h1 h2 h3 => exact .agg _ _ _ (h1.trans hl) (fun i hi => h.get i (by omega) _ _ _ _ (h2 i (by omega))) (fun i hi => h3 i (by omega))
end Go.Ax
namespace Go.Proofs.YtkncmbklkhjmgaaGreatDoor
open Go.Ax Go.Ax.Bg Go.Ax.Rt Go.RowKit Go.Ax.Dt Go.Ax.Sx Go.Ax.Mg
attribute [local irreducible] Ax zBI QOp zP zAl
abbrev solA (t : ResG) : AV := .agg [.str t.1, .ro (.strs t.2.1) 0 t.2.1.length, .ro (.strs t.2.2) 0 t.2.2.length]
theorem outAllG (l : List Rat) (hl : l.length ≤ 1000000) (hs : ∀ q ∈ l, Sz 100000 q) (hf : ∀ q ∈ l, zBx q = true) : ∃ r : AV, zU Tryz.prog 63 [.ro (qsC l) 0 l.length] (.tup [r, .int .i64 0]) ∧ AEq r (.ro (.strs (l.map zn)) 0 (l.map zn).length) := by
 obtain ⟨r, h1, h2⟩ := zQ0 l hl hs
 have e : zEB l = (l.map zn, 0) := by unfold zEB; rw [if_pos (List.all_eq_true.2 hf)]
 rw [e] at h1 h2
 exact ⟨r, h1, h2⟩
theorem one_row (v : Rat) : CEq (zBp 1 3 (zT v)) (qsC [v]) := ⟨rfl, rfl, fun i j hi hj => by
 obtain rfl : i = 0 := Nat.lt_one_iff.1 hi
 exact (zCg v j hj).symm⟩
theorem zLx (l a b r : List zu) (h : l = a ++ (b ++ r)) {i n : Nat} (hi : i = a.length) (hn : n = b.length) : AEq (.ro (.strs l) i n) (.ro (.strs b) 0 b.length) := by
 subst hn
 refine AEq.ro Z (fun d j hd hj => ?_)
 show AV.str (b.getD (0 + d) []) = AV.str (l.getD (i + d) [])
 rw [h, hi]
 simp only [List.getD]
 rw [List.getElem?_append_right (by omega), List.getElem?_append_left (by omega), Nat.add_sub_cancel_left, Nat.zero_add]
theorem zKL (m : List (List zu)) (K L k : Nat) (hm : zDL m) (hg : zAu m = 0) (hk : k ≤ 48) (hD : ∀ r ∈ inM m, ∀ q ∈ r, D k q) (hs : Stops (zAT (inM m) (zAC m)) K L) (hf : zLW (zAL (inM m) (zAC m) K L) = true)
 (hl : (zAL (inM m) (zAC m) K L).2.1.length = m.length ∧ (zAL (inM m) (zAC m) K L).2.2.length = zAC m) :
 zU Tryz.prog 17 [.ro (zCF m) 0 m.length] (.tup [solA (zJQ (zAL (inM m) (zAC m) K L)), .int .i64 0]) := by
 have c0 := zFK m hm.1 hm.2
 rw [hg] at c0
 have hI := zGr hg
 have hml : (inM m).length = m.length := zDk m
 have hml0 := hI.l
 have hml1 := hI.l12
 have hw0 := hI.w
 have hw1 := hI.w12
 have nm := zKN m (by omega) (fun r h => ⟨by have := hI.is.cols r h; omega, fun s hs => ⟨(hm.2 r h).2 s hs, hI.is.ok r h s hs⟩⟩)
 have cG := gameq_ok (inM m) (zAC m) k K L hI.w hI.w12 (by omega) (by omega) hI.rows hD hk hs
 rw [hml] at cG
 generalize zAL (inM m) (zAC m) K L = G at *
 obtain ⟨v, rs, cs⟩ := G
 simp only at hl cG
 obtain ⟨l1, l2⟩ := hl
 rw [← l1, ← l2] at cG
 have hfa : ∀ q ∈ v :: (rs ++ cs), zBx q = true := List.all_eq_true.1 hf
 obtain ⟨rO, oO, aO⟩ := outAllG ([v] ++ rs ++ cs) (by rw [List.length_append, List.length_append, List.length_singleton]; omega) (fun q hq => by
  have hq' : q ∈ v :: (rs ++ cs) := by simpa using hq
  have h1 := hfa q hq'
  unfold zBx at h1
  rw [Bool.and_eq_true, decide_eq_true_eq, decide_eq_true_eq] at h1
  exact zFE ((dig_D h1.1 h1.2).mono (by omega))) (fun q hq => hfa q (by simpa using hq))
 have eL : ([v] ++ rs ++ cs).length = 1 + rs.length + cs.length := by rw [List.length_append, List.length_append]; rfl
 have eT : ([v] ++ rs ++ cs).map zn = [zn v] ++ (rs.map zn ++ cs.map zn) := by rw [List.map_append, List.map_append, List.append_assoc]; rfl
 have hr1 : (rs.map zn).length = rs.length := List.length_map ..
 have hr2 : (cs.map zn).length = cs.length := List.length_map ..
 refine zP.value0 (zE (P := Tryz.prog) (fn := Tryz.f17) Z Z (by kernel_rfl) Z (fun c hR hfix => ?_)) (fix := fun _ => False) (fun _ h => h) Z Z
 refine rn4 ?_
 refine zB Z Z Z c0 ?_
 refine rn4 ?_
 refine zB Z Z Z nm ?_
 refine zD 19 (.ro (zY (inM m)) 0 rs.length) Z (AEq.of_eq (by rw [l1])) ?_
 refine zB Z Z Z cG ?_
 unfold qA
 refine rn4 ?_
 refine sa1 (c' := .box (zT v)) Z Z Z Z Z Z Z ?_
 refine rn9 ?_
 refine zCi Z Z Z Z Z Z Z Z Z Z ?_
 refine zv [some ⟨30, .box [.str [], .nil, .nil]⟩, oQ v, some ⟨104, qsC [v]⟩] (zQ.eqv (CEq.refl _) (zQ.eqv (CEq.refl _) (zQ.eqv (one_row v) zQ.nil))) ?_
 repeat (refine zG (zJ rfl) ?_)
 refine zr Z Z Z Z Z Z Z Z Z Z Z Z (by show 0 + rs.length ≤ rs.length; omega) Z (by show (1 + rs.length) * 56 ≤ _ ∧ _; omega) ?_ (by rw [hfix]; exact fun h => h) ?_
 ·intro i' j' hi' hj'
  have q := (zEu 0 3 zT [v] rs).2.2 i' j' hi' hj'
  refine (congrArg (AV.forget 2) q.symm).trans (Eq.trans ?_ q)
  exact zAe _ j' 2 hj'
 refine zv [some ⟨30, .box [.str [], .nil, .nil]⟩, oQ v, some ⟨104, qsC ([v] ++ rs)⟩] (zQ.eqv (CEq.refl _) (zQ.eqv (CEq.refl _) (zQ.eqv (zEu 0 3 zT [v] rs) zQ.nil))) ?_
 have hL1 : (qsC ([v] ++ rs)).len = 1 + rs.length := by show ([v] ++ rs).length = _; rw [List.length_append]; rfl
 repeat (refine zG (zJ rfl) ?_)
 refine zr Z Z Z Z Z Z Z Z Z hL1 Z Z (by show 0 + cs.length ≤ cs.length; omega) Z (by show (1 + rs.length + cs.length) * 56 ≤ _ ∧ _; omega) ?_ (by rw [hfix]; exact fun h => h) ?_
 ·intro i' j' hi' hj'
  have q := (zEu 0 3 zT ([v] ++ rs) cs).2.2 i' j' hi' hj'
  refine (congrArg (AV.forget 2) q.symm).trans (Eq.trans ?_ q)
  exact zAe _ j' 2 hj'
 refine zv [some ⟨30, .box [.str [], .nil, .nil]⟩, oQ v, some ⟨104, qsC ([v] ++ rs ++ cs)⟩] (zQ.eqv (CEq.refl _) (zQ.eqv (CEq.refl _) (zQ.eqv (zEu 0 3 zT ([v] ++ rs) cs) zQ.nil))) ?_
 clear hL1
 refine zDN 2 30 (1 + rs.length + cs.length) [(2, .ptr 0 0 0), (6, .ro (qsC rs) 0 rs.length), (7, .ro (qsC cs) 0 cs.length)] Z (zAw _) Z (by show 1 + rs.length + cs.length ≤ ([v] ++ rs ++ cs).length; omega) ⟨Z, Z, Z, trivial⟩ ?_
 refine zD 30 (.ro (qsC ([v] ++ rs ++ cs)) 0 ([v] ++ rs ++ cs).length) Z (AEq.of_eq (by rw [eL])) ?_
 refine zB Z Z Z oO ?_
 refine zD 31 (.tup [.ro (.strs (([v] ++ rs ++ cs).map zn)) 0 (([v] ++ rs ++ cs).map zn).length, .int .i64 0]) Z (AEq.tup2 aO) ?_
 have eTl : (([v] ++ rs ++ cs).map zn).length = 1 + rs.length + cs.length := by rw [List.length_map]; exact eL
 have e0 : (([v] ++ rs ++ cs).map zn).getD 0 [] = zn v := rfl
 generalize ([v] ++ rs ++ cs).map zn = LT at *
 refine rn4 ?_
 refine zi (by kernel_rfl) ?_
 refine zCq (fuel := 2) [0, 1, 2, 3, 4, 5, 6, 7, 8, 9, 10, 11, 12, 13] [(2, .ptr 0 0 0), (8, .ro (.strs LT) 0 LT.length), (10, iN rs.length)] ⟨Z, Z, Z, trivial⟩ (by kernel_rfl) (by decide) Z Z ?_
 refine zM Z Z (zJ Z) ?_
 refine zM Z Z (zAB Z Z Z Z (by first | (simp only [Nat.zero_add, Int.toNat_natCast, Int.toNat_zero]; exact Z) | exact Z) (by omega)) ?_
 refine zM Z Z (zH1 Z Z Z) ?_
 refine zM Z Z (zJ Z) ?_
 refine zM Z Z (zJ Z) ?_
 refine zM Z Z (zCE Z Z (by omega)) ?_
 refine zM Z Z (zJ Z) ?_
 refine zM Z Z (zCE Z Z (by omega)) ?_
 refine zM Z Z (zNk Z Z Z Z Z Z ⟨by omega, by omega, by omega, by omega⟩) ?_
 refine zM Z Z (zJ Z) ?_
 refine zM Z Z (zJ Z) ?_
 refine zM Z Z (zCE Z Z (by omega)) ?_
 refine zM Z Z (zH2 Z Z Z Z Z Z Z (by omega)) ?_
 refine zM Z Z (zBG Z Z Z Z Z Z) ?_
 refine zAA ?_
 refine zF (is := [14]) (by kernel_rfl) (by simp) Z ⟨fun o ho => ?_, trivial⟩
 all_goals (cases ho)
 skip
 refine zD 53 (.agg [.str (zn v), .ro (.strs (rs.map zn)) 0 (rs.map zn).length, .ro (.strs (cs.map zn)) 0 (cs.map zn).length]) Z (AEq_agg ⟨AEq.of_eq (by show AV.str _ = AV.str _; rw [← e0]), zLx _ _ _ _ eT Z (by omega), zLx _ ([zn v] ++ rs.map zn) _ [] (by rw [eT]; simp) (by rw [List.length_append, List.length_singleton]; omega) (by omega), trivial⟩) ?_
 refine sa1 (c' := .box [.str (zn v), .ro (.strs (rs.map zn)) 0 (rs.map zn).length, .ro (.strs (cs.map zn)) 0 (cs.map zn).length]) Z Z Z Z Z Z Z ?_
 refine rn1 ?_
 refine zV 15 Z (by kernel_rfl) (by kernel_rfl) (by kernel_rfl) Z (zm Z) Z ?_
 refine zW (by kernel_rfl) ?_
 refine rn0 ?_
 exact zL hR Z Z
end Go.Proofs.YtkncmbklkhjmgaaGreatDoor
namespace Go.Proofs.YtkncmbklkhjmgaaGreatDoor
open Go.Ax Go.Ax.Bg Go.Ax.Rt Go.RowKit Go.Ax.Idx Go.Ax.Cd
attribute [local irreducible] Ax zBI QOp zP zAl
def pennT : List (List zu) := [[[49], [45, 49]], [[45, 49], [49]]]
theorem zO2 : zU Tryz.prog 53 [] (.ro (zCF pennT) 0 2) := by
 refine zP.value0 (zE (P := Tryz.prog) (fn := Tryz.f53) Z Z (by kernel_rfl) Z (fun c hR hfix => ?_)) (fix := fun _ => False) (fun _ h => h) Z Z
 refine rn15 ?_
 refine zAE 0 (.ro (zCF pennT) 0 2) Z (AEq.ro Z (fun d j hd hj => ?_)) ?_
 ·have hd2 : d = 0 ∨ d = 1 := by omega
  have hj3 : j = 0 := by have hj : j < 1 := hj; omega
  subst hj3
  rcases hd2 with rfl | rfl <;> rfl
 repeat (refine zBW ?_)
 exact zL hR Z Z
end Go.Proofs.YtkncmbklkhjmgaaGreatDoor
namespace Go.Ax
variable [Pins]
open Go.RowKit
theorem px_gb {P : Program} {fn : Func} {c : Ctx} {H : zN} {all : Array Oper} {K0 : Fr} {i : Nat} {r : List Nat} {st : Go.Ax.Steps} {G : Go.Ax.Steps → Prop} {d : Nat} {t e : TypeId} {n : Nat} {parts : List (Nat × Operand)} {ty : TypeId} {pos : String} {after : Array Edge} {it : TypeInfo} {z : Value} {zs L : List AV} {l : List (Nat × AV)} {cl : Cells} {K : Fr} {j u : Nat} {p : Bool}
 (hi : all[i]? = some ⟨some d, .buildSlice t n parts.toArray, ty, pos, after, some (j, p)⟩) (hK : zFt st K0 ⟨some d, .buildSlice t n parts.toArray, ty, pos, after, some (j, p)⟩ = K) (hy : zEb all j = some u) (hb : look u K = some (.bool p))
 (ht : P.underlying t = some (.slice e)) (hinf : P.info? e = some it) (hz : it.zero = some z) (hzs : zav z = some zs) (hsz : it.size = zs.length) (hpos : Nat.blt 0 zs.length = true) (hsmall : Nat.ble (n * zs.length) 16777216 = true)
 (hl : zCo K parts = some l) (hf : zFp (fun i => some (i * zs.length, zs.length)) (zDQ zs n) l = some L) (hcl : zBp n zs.length L = cl) (hn : noRef.noRefs L = true)
 (h : zED P fn c H all K0 r ((i, d, .ro cl 0 n) :: st) G) : zED P fn c H all K0 (i :: r) st G :=
 ⟨_, _, _, hi, rfl, hK ▸ zJH hy hb (fun k fr hk h2 => zf ht hinf hz hzs hsz hpos hsmall (zFb hk hl) hf hcl hn h2), h⟩
end Go.Ax
namespace Go.Proofs.YtkncmbklkhjmgaaGreatDoor
open Go.Ax Go.Ax.Bg Go.Ax.Rt Go.RowKit Go.Ax.Dt Go.Ax.Sx Go.Ax.Mg
attribute [local irreducible] Ax zBI QOp zP zAl
/-- where the first element is a saddle -/
theorem zPC (m : List (List zu)) (hm : zDL m) (hg : zAu m = 0) (h1 : ∀ j, j < zAC m → zCG (((inM m).getD 0 []).getD 0 0) (((inM m).getD 0 []).getD j 0) ≤ 0) (h2 : ∀ j, j < m.length → 0 ≤ zCG (((inM m).getD 0 []).getD 0 0) (((inM m).getD j []).getD 0 0)) :
 zU Tryz.prog 54 [.ro (zCF m) 0 m.length] (.tup [.int .i64 0, .int .i64 0, .int .i64 0]) := by
 have c0 := zFK m hm.1 hm.2
 rw [hg] at c0
 have hI := zGr hg
 have hml : (inM m).length = m.length := zDk m
 have hml0 := hI.l
 have hml1 := hI.l12
 have hw0 := hI.w
 have hw1 := hI.w12
 have nm := zKN m (by omega) (fun r h => ⟨by have := hI.is.cols r h; omega, fun s hs => ⟨(hm.2 r h).2 s hs, hI.is.ok r h s hs⟩⟩)
 have hv := zIy (zE3 hg).1
 have hel : ∀ i j, i < m.length → j < zAC m → Sz 100000 (((inM m).getD i []).getD j 0) := fun i j hi hj => by
  obtain ⟨v1, v2⟩ := hv _ (zAN [] (show i < (inM m).length by omega))
  exact zFE ((v2 _ (zAD 0 (by omega))).mono (by omega))
 have hrow : ∀ i, i < m.length → ((inM m).getD i []).length = zAC m := fun i hi => (hv _ (zAN [] (show i < (inM m).length by omega))).1
 clear hv
 refine zP.value0 (zE (P := Tryz.prog) (fn := Tryz.f54) Z Z (by kernel_rfl) Z (fun c hR hfix => ?_)) (fix := fun _ => False) (fun _ h => h) Z Z
 generalize inM m = M at *
 generalize zAC m = w at *
 generalize m.length = n at *
 refine rn0 ?_
 refine zB Z Z Z c0 ?_
 refine rn4 ?_
 refine zB Z Z Z nm ?_
 refine rn3 ?_
 refine ze (ι := Unit) (fun _ => [(6, .ro (zY M) 0 n), (21, .ro (zY M) 0 n), (22, iN n), (23, .int .i64 0)]) (fun _ => []) (fun _ => True) (fun _ => 0) () ⟨⟨Z, Z, Z, Z, trivial⟩, Z, trivial⟩ ?_
 rintro _ _
 refine rn4 ?_
 refine zA Z (fun h => ?_) (fun h => absurd (show (0 : Int) < (n : Nat) by omega) h)
 have hr0 := hrow 0 hml0
 refine rn6 ?_
 refine zAE 8 (.ro (qsC (M.getD 0 [])) 0 w) Z (AEq.of_eq (by show AV.ro (qsC (M.getD 0 [])) 0 (M.getD 0 []).length = _; rw [hr0])) ?_
 skip
 refine zAE 28 (.ro (qsC (M.getD 0 [])) 0 w) Z (AEq.of_eq (by show AV.ro (qsC (M.getD 0 [])) 0 (M.getD 0 []).length = _; rw [hr0])) ?_
 refine zAE 29 (iN w) Z (AEq.of_eq (by rw [hr0])) ?_
 refine ze (ι := Unit) (fun _ => [(6, .ro (zY M) 0 n), (7, .int .i64 0), (8, .ro (qsC (M.getD 0 [])) 0 w), (28, .ro (qsC (M.getD 0 [])) 0 w), (29, iN w), (30, .int .i64 0)]) (fun _ => []) (fun _ => True) (fun _ => 0) () ⟨⟨Z, Z, Z, Z, Z, Z, trivial⟩, Z, trivial⟩ ?_
 rintro _ _
 refine rn4 ?_
 refine zA Z (fun h => ?_) (fun h => absurd (show (0 : Int) < (w : Nat) by omega) h)
 refine rn6 ?_
 refine zD 34 (.agg (zT ((M.getD 0 []).getD 0 0))) Z (AEq.of_eq Z) ?_
 skip
 refine sa1 (c' := .box (zT ((M.getD 0 []).getD 0 0))) Z Z Z Z Z Z Z ?_
 refine rn3 ?_
 refine ze (ι := Nat) (fun j => [(6, .ro (zY M) 0 n), (7, .int .i64 0), (8, .ro (qsC (M.getD 0 [])) 0 w), (9, .int .i64 0), (10, .ptr 0 0 0), (11, .bool true), (35, .ro (qsC (M.getD 0 [])) 0 w), (36, iN w), (37, iN j)]) (fun _ => [oQ ((M.getD 0 []).getD 0 0)]) (fun j => j ≤ w) (fun j => w - j) 0 ⟨⟨Z, Z, Z, Z, Z, Z, Z, Z, Z, trivial⟩, Z, Nat.zero_le _⟩ ?_
 intro j hj
 refine rn4 ?_
 refine zA Z (fun h => ?_) (fun h => ?_)
 ·have hj' : j < w := by omega
  have cq := zFQ ((M.getD 0 []).getD 0 0) ((M.getD 0 []).getD j 0) (hel 0 0 hml0 hw0) (hel 0 j hml0 hj')
  have hc := h1 j hj'
  refine rn1 ?_
  refine zi (by kernel_rfl) ?_
  refine zV 0 Z (by kernel_rfl) (by kernel_rfl) (by kernel_rfl) Z (zJ Z) Z ?_
  refine zV 1 Z (by kernel_rfl) (by kernel_rfl) (by kernel_rfl) Z (zJ Z) Z ?_
  refine zp (fuel := 0) [2, 3, 4, 5, 6, 7, 8, 9, 10] [(6, .ro (zY M) 0 n), (7, .int .i64 0), (8, .ro (qsC (M.getD 0 [])) 0 w), (9, .int .i64 0), (10, .ptr 0 0 0), (41, .bool true), (12, iN j), (35, .ro (qsC (M.getD 0 [])) 0 w), (36, iN w), (37, iN j)] ⟨Z, Z, Z, Z, Z, Z, Z, Z, Z, Z, trivial⟩ (by kernel_rfl) (by decide) Z Z ?_
  refine zAR Z Z Z Z (qpp Z Z Z Z Z Z Z) ?_
  refine zAR Z Z Z Z (zJ Z) ?_
  refine zAR Z Z Z Z (zJ Z) ?_
  refine zAR Z Z Z Z (zAB Z Z Z Z (by first | (simp only [Nat.zero_add, Int.toNat_natCast, Int.toNat_zero]; exact Z) | exact Z) (by omega)) ?_
  refine zAR Z Z Z Z (zA7 Z Z Z Z Z Z) ?_
  refine zHg Z Z Z Z Z Z Z cq ?_
  refine zAR Z Z Z Z (q_leq Z Z) ?_
  refine zM Z Z (zBJ Z Z) ?_
  refine zM Z Z (zm Z) ?_
  refine zAA ?_
  refine zW (by kernel_rfl) ?_
  refine rn5 ?_
  exact zK ⟨j + 1, by omega, by omega, ⟨Z, Z, Z, Z, Z, congrArg (fun b => some (AV.bool b)) (decide_eq_true hc), Z, Z, Z, trivial⟩, Z⟩
 ·refine rn5 ?_
  refine ze (ι := Nat) (fun j => [(6, .ro (zY M) 0 n), (7, .int .i64 0), (8, .ro (qsC (M.getD 0 [])) 0 w), (9, .int .i64 0), (10, .ptr 0 0 0), (11, .bool true), (51, .ro (zY M) 0 n), (52, iN n), (53, iN j)]) (fun _ => [oQ ((M.getD 0 []).getD 0 0)]) (fun j => j ≤ n) (fun j => n - j) 0 ⟨⟨Z, Z, Z, Z, Z, Z, Z, Z, Z, trivial⟩, Z, Nat.zero_le _⟩ ?_
  intro j hj
  refine rn4 ?_
  refine zA Z (fun h => ?_) (fun h => ?_)
  ·have hj' : j < n := by omega
   have cq := zFQ ((M.getD 0 []).getD 0 0) ((M.getD j []).getD 0 0) (hel 0 0 hml0 hw0) (hel j 0 hj' hw0)
   have hc := h2 j hj'
   have hrj := hrow j hj'
   have hpos : 0 < (M.getD j []).length := by omega
   refine rn1 ?_
   refine zi (by kernel_rfl) ?_
   refine zV 0 Z (by kernel_rfl) (by kernel_rfl) (by kernel_rfl) Z (zJ Z) Z ?_
   refine zV 1 Z (by kernel_rfl) (by kernel_rfl) (by kernel_rfl) Z (zJ Z) Z ?_
   refine zp (fuel := 0) [2, 3, 4, 5, 6, 7, 8, 9, 10, 11, 12, 13] [(6, .ro (zY M) 0 n), (7, .int .i64 0), (8, .ro (qsC (M.getD 0 [])) 0 w), (9, .int .i64 0), (10, .ptr 0 0 0), (57, .bool true), (13, iN j), (51, .ro (zY M) 0 n), (52, iN n), (53, iN j)] ⟨Z, Z, Z, Z, Z, Z, Z, Z, Z, Z, trivial⟩ (by kernel_rfl) (by decide) Z Z ?_
   refine zAR Z Z Z Z (qpp Z Z Z Z Z Z Z) ?_
   refine zAR Z Z Z Z (zJ Z) ?_
   refine zAR Z Z Z Z (zJ Z) ?_
   refine zAR Z Z Z Z (zAB Z Z Z Z (by first | (simp only [Nat.zero_add, Int.toNat_natCast, Int.toNat_zero]; exact Z) | exact Z) (by omega)) ?_
   refine zAR Z Z Z Z (zCX Z Z Z Z) ?_
   refine zAR Z Z Z Z (zJ Z) ?_
   refine zAR Z Z Z Z (zAB Z Z Z Z (by first | (simp only [Nat.zero_add, Int.toNat_natCast, Int.toNat_zero]; exact Z) | exact Z) (by omega)) ?_
   refine zAR Z Z Z Z (zA7 Z Z Z Z Z Z) ?_
   refine zHg Z Z Z Z Z Z Z cq ?_
   refine zAR Z Z Z Z (zJe Z Z) ?_
   refine zM Z Z (zBJ Z Z) ?_
   refine zM Z Z (zm Z) ?_
   refine zAA ?_
   refine zW (by kernel_rfl) ?_
   refine rn5 ?_
   exact zK ⟨j + 1, by omega, by omega, ⟨Z, Z, Z, Z, Z, congrArg (fun b => some (AV.bool b)) (decide_eq_true hc), Z, Z, Z, trivial⟩, Z⟩
  ·refine rn6 ?_
   exact zL hR Z Z
theorem fineI4 : zU Tryz.prog 25 [.ro (.ints .i64 [0, 0, 0, 0]) 0 4] (.bool true) := fineI [0, 0, 0, 0] (by decide)
theorem zKo {m : List (List zu)} (h1 : m.length ≤ 1000) (h2 : m.all (fun r => decide (r.length ≤ 1000) && r.all (fun s => decide (s.length ≤ 1000))) = true) : zDL m := by
 refine ⟨by omega, fun r hr => ?_⟩
 have := List.all_eq_true.1 h2 r hr
 rw [Bool.and_eq_true, decide_eq_true_eq, List.all_eq_true] at this
 exact ⟨by omega, fun s hs => by have := this.2 s hs; rw [decide_eq_true_eq] at this; omega⟩
theorem zD5 {r : List zu} (h1 : r.length ≤ 1000) (h2 : r.all (fun s => decide (s.length ≤ 1000)) = true) : zEc r :=
 ⟨by omega, fun s hs => by have := List.all_eq_true.1 h2 s hs; rw [decide_eq_true_eq] at this; omega⟩
theorem pen_D : ∀ r ∈ inM zDt, ∀ q ∈ r, D 48 q := by
 have h : (inM zDt).all (fun r => r.all (fun q => decide (q.num.natAbs < 10 ^ 48) && decide (q.den < 10 ^ 48))) = true := by decide +kernel
 intro r hr q hq
 have := List.all_eq_true.1 (List.all_eq_true.1 h r hr) q hq
 rw [Bool.and_eq_true, decide_eq_true_eq, decide_eq_true_eq] at this
 exact ⟨this.1, this.2⟩
theorem zJc : zU Tryz.prog 15 [] (.bool true) := by
 have pk : zU Tryz.prog 53 [] (.ro (zCF zDt) 0 2) := zO2
 have sp : zDL zDt := zKo (by decide) (by decide)
 have ss : zDL sadT := zKo (by decide) (by decide)
 have c1 := zKL zDt 0 2 48 sp zKS (by decide) pen_D zQ5 (by rw [pen_q]; decide +kernel) (by rw [pen_q]; exact ⟨rfl, by decide⟩)
 have e1 : zJQ (zAL (inM zDt) (zAC zDt) 0 2) = ([48], [zAk, zAk], [zAk, zAk]) := by
  have := zQ4
  unfold zBS at this
  rw [if_neg (fun q => q zKS), if_pos (by rw [pen_q]; decide +kernel)] at this
  exact (Prod.mk.inj this).1
 rw [e1] at c1
 have c2 := zKR zDt [[49], [48]] [[49], [48]] sp (zD5 (by decide) (by decide)) (zD5 (by decide) (by decide))
 rw [pen_pay] at c2
 have c3 := zPC sadT ss zNv (by decide +kernel) (by decide +kernel)
 have c4 := zML sadT ss
 have e4 : domR sadT = ([1], 0) := by
  unfold domR
  rw [if_neg (fun q => q zNv), show sadT.length = (inM sadT).length from rfl, domI_all, sad_dom]
  rfl
 rw [e4] at c4
 have c5 := zHr zDt [48] [zAk, zAk] [zAk, zAk] sp (by decide) (zD5 (by decide) (by decide)) (zD5 (by decide) (by decide))
 rw [pen_ver] at c5
 have c6 := zHr zDt [49] [zAk, zAk] [zAk, zAk] sp (by decide) (zD5 (by decide) (by decide)) (zD5 (by decide) (by decide))
 rw [pen_bad] at c6
 have c7 := zFK [] (by decide) (fun r h => by cases h)
 rw [show zAu [] = 8 by decide] at c7
 have v1 := equalV [zAk, zAk] [zAk, zAk] (by decide) (by decide)
 have v2 := equalI [1] [1] (by decide) (by decide)
 rw [decide_eq_true rfl] at v1 v2
 refine zP.value0 (zE (P := Tryz.prog) (fn := Tryz.f15) Z Z (by kernel_rfl) Z (fun c hR hfix => ?_)) (fix := fun _ => False) (fun _ h => h) Z Z
 refine rn0 ?_
 refine zB Z Z Z pk ?_
 refine zB Z Z Z c1 ?_
 refine rn4 ?_
 refine sa1 (c' := .box [.str [48], .ro (.strs [zAk, zAk]) 0 2, .ro (.strs [zAk, zAk]) 0 2]) Z Z Z Z Z Z Z ?_
 refine rn0 ?_
 refine zB Z Z Z pk ?_
 repeat (refine zf rfl rfl rfl rfl rfl rfl rfl rfl rfl rfl rfl ?_)
 refine zB Z Z Z c2 ?_
 unfold zGx
 refine rn3 ?_
 refine zD 26 (.ro (zCF sadT) 0 2) Z (AEq.ro Z (fun d j hd hj => ?_)) ?_
 ·have hd2 : d = 0 ∨ d = 1 := by omega
  have hj3 : j = 0 := by have hj : j < 1 := hj; omega
  subst hj3
  rcases hd2 with rfl | rfl <;> rfl
 refine zB Z Z Z c3 ?_
 refine rn3 ?_
 refine zD 34 (.ro (zCF sadT) 0 2) Z (AEq.ro Z (fun d j hd hj => ?_)) ?_
 ·have hd2 : d = 0 ∨ d = 1 := by omega
  have hj3 : j = 0 := by have hj : j < 1 := hj; omega
  subst hj3
  rcases hd2 with rfl | rfl <;> rfl
 refine zB Z Z Z c4 ?_
 unfold domA
 refine rn6 ?_
 refine sa1 (c' := .box [.str [48], .ro (.strs [zAk, zAk]) 0 2, .ro (.strs [zAk, zAk]) 0 2]) Z Z Z Z Z Z Z ?_
 refine rn8 ?_
 refine zAi [some ⟨30, .box [.str [48], .ro (.strs [zAk, zAk]) 0 2, .ro (.strs [zAk, zAk]) 0 2]⟩, some ⟨30, .box [.str [49], .ro (.strs [zAk, zAk]) 0 2, .ro (.strs [zAk, zAk]) 0 2]⟩] Z ?_
 refine zi (by kernel_rfl) ?_
 refine zCq (fuel := 0) [0, 1, 2, 3, 4, 5, 6, 7, 8, 9, 10, 11, 12, 13, 14, 15, 16, 17, 18, 19, 20, 21, 22, 23, 24, 25, 26, 27, 28, 29, 30, 31, 32, 33, 34, 35, 36, 37, 38, 39, 40, 41, 42, 43, 44, 45, 46, 47, 48, 49, 50] [(1, .ptr 0 0 0), (2, .int .i64 0), (3, .str [49]), (4, .int .i64 0), (5, .int .i64 0), (6, .int .i64 0), (7, .int .i64 0), (8, .ro (.ints .i64 [1]) 0 1), (9, .int .i64 0), (10, .ptr 1 0 0)] ⟨Z, Z, Z, Z, Z, Z, Z, Z, Z, Z, trivial⟩ (by kernel_rfl) (by decide) Z Z ?_
 refine zM Z Z (zJ Z) ?_
 refine zM Z Z (zJ Z) ?_
 refine zM Z Z (zJ Z) ?_
 refine zM Z Z (zJ Z) ?_
 refine px_b Z Z Z Z Z Z Z Z Z Z Z Z Z ?_
 refine zA6 Z Z Z Z Z fineI4 ?_
 refine zM Z Z (zJ Z) ?_
 refine zAR Z Z Z Z (zH Z Z Z Z Z Z) ?_
 refine zAR Z Z Z Z (zX Z Z Z Z Z) ?_
 refine zAR Z Z Z Z (zF1 Z Z) ?_
 refine zM Z Z (zBJ Z Z) ?_
 refine zM Z Z (zJ Z) ?_
 refine zAR Z Z Z Z (zH Z Z Z Z Z Z) ?_
 refine zAR Z Z Z Z (zX Z Z Z Z Z) ?_
 refine px_gb Z Z Z Z Z Z Z Z Z Z Z Z Z Z Z ?_
 refine zHg Z Z Z Z Z Z Z v1 ?_
 refine zM Z Z (zBJ Z Z) ?_
 refine zM Z Z (zJ Z) ?_
 refine zAR Z Z Z Z (zJ Z) ?_
 refine zAR Z Z Z Z (zF1 Z Z) ?_
 refine zM Z Z (zBJ Z Z) ?_
 refine zM Z Z (zJ Z) ?_
 refine zAR Z Z Z Z (zJ Z) ?_
 refine zAR Z Z Z Z (zEN Z Z) ?_
 refine zM Z Z (zBJ Z Z) ?_
 refine zM Z Z (zJ Z) ?_
 refine zAR Z Z Z Z (zJ Z) ?_
 refine zAR Z Z Z Z (zEN Z Z) ?_
 refine zM Z Z (zBJ Z Z) ?_
 refine zM Z Z (zJ Z) ?_
 refine zAR Z Z Z Z (zJ Z) ?_
 refine px_gb Z Z Z Z Z Z Z Z Z Z Z Z Z Z Z ?_
 refine zHg Z Z Z Z Z Z Z v2 ?_
 refine zM Z Z (zBJ Z Z) ?_
 refine zM Z Z (zJ Z) ?_
 refine zHg Z Z Z Z Z Z Z pk ?_
 refine zAR Z Z Z Z (qpp Z Z Z Z Z Z Z) ?_
 refine zHg Z Z Z Z Z Z Z c5 ?_
 refine zAR Z Z Z Z (zEN Z Z) ?_
 refine zM Z Z (zBJ Z Z) ?_
 refine zM Z Z (zJ Z) ?_
 refine zHg Z Z Z Z Z Z Z pk ?_
 refine zAR Z Z Z Z (qpp Z Z Z Z Z Z Z) ?_
 refine zHg Z Z Z Z Z Z Z c6 ?_
 refine zAR Z Z Z Z (zEN Z Z) ?_
 refine zM Z Z (zBJ Z Z) ?_
 refine zM Z Z (zJ Z) ?_
 refine zHg Z Z Z Z Z Z Z (fun H => zP.args (c7 H) ⟨AEq.nil, trivial⟩) ?_
 refine zAR Z Z Z Z (zEN Z Z) ?_
 refine zM Z Z (zBJ Z Z) ?_
 refine zM Z Z (zm Z) ?_
 refine zAA ?_
 refine zW (by kernel_rfl) ?_
 refine rn0 ?_
 exact zL hR Z Z
theorem zG9 {q : Rat} (h : zBx q = true) : (zn q).length ≤ 9223372036854775807 := by
 have hf := h
 unfold zBx at hf
 rw [Bool.and_eq_true, decide_eq_true_eq, decide_eq_true_eq] at hf
 unfold zn
 rw [List.length_append, List.length_append]
 split <;> split <;> simp <;> omega
/-- a small game that is solved -/
structure Gsol (m : List (List zu)) (K L : Nat) (v : zu) (rs cs : List zu) : Prop where
 s : Solv m K L
 eq : zBS m K L = ((v, rs, cs), 0)
 vl : v.length ≤ 9223372036854775807
 rl : zEc rs
 cl : zEc cs
 call : zU Tryz.prog 17 [.ro (zCF m) 0 m.length] (.tup [.agg [.str v, .ro (.strs rs) 0 rs.length, .ro (.strs cs) 0 cs.length], .int .i64 0])
theorem gsol (m : List (List zu)) (n k : Nat) (hn : n ≤ 5) (hm : zDL m) (hg : zAu m = 0) (hk : k ≤ 48) (hD : ∀ r ∈ inM m, ∀ q ∈ r, D k q) (S : ∀ K L, Stops (zAT (inM m) (zAC m)) K L → Solv m K L) : ∃ K L v rs cs, Stops (zAT (inM m) (zAC m)) K L ∧ Gsol m K L v rs cs := by
 have hI := zGr hg
 obtain ⟨K, L, hs⟩ := runs (zAT (inM m) (zAC m)) (zFu hI.rows)
 have T := S K L hs
 have hf : zLW (zAL (inM m) (zAC m) K L) = true := by
  have := T.eq
  unfold zBS at this
  rw [if_neg (fun q => q hg)] at this
  split at this
  ·assumption
  ·cases (Prod.mk.inj this).2
 have hl1 := T.sad.xl
 have hl2 := T.sad.yl
 rw [zDk] at hl1
 have c := zKL m K L k hm hg hk hD hs hf ⟨hl1, hl2⟩
 have hfa : ∀ q ∈ (zAL (inM m) (zAC m) K L).1 :: ((zAL (inM m) (zAC m) K L).2.1 ++ (zAL (inM m) (zAC m) K L).2.2), zBx q = true := List.all_eq_true.1 hf
 refine ⟨K, L, _, _, _, hs, T, T.eq, zG9 (hfa _ (List.mem_cons_self ..)), ⟨?_, fun s hs => ?_⟩, ⟨?_, fun s hs => ?_⟩, c⟩
 ·show (List.map _ _).length ≤ _
  have := hI.l12
  rw [List.length_map, hl1]; omega
 ·obtain ⟨q, hq, rfl⟩ := List.mem_map.1 hs
  exact zG9 (hfa _ (List.mem_cons_of_mem _ (List.mem_append_left _ hq)))
 ·show (List.map _ _).length ≤ _
  have := hI.w12
  rw [List.length_map, hl2]; omega
 ·obtain ⟨q, hq, rfl⟩ := List.mem_map.1 hs
  exact zG9 (hfa _ (List.mem_cons_of_mem _ (List.mem_append_right _ hq)))
theorem zQl (m : List (List zu)) (n : Nat) (hn : n ≤ 5) (hm : zDL m) (hg : zAu m = 0) (ht : zJm n 12 m = true) : ∃ K L v rs cs, Stops (zAT (inM m) (zAC m)) K L ∧ Gsol m K L v rs cs := by
 obtain ⟨t1, t2⟩ := zJR ht
 exact gsol m n 48 hn hm hg (by decide) (fun r hr q hq => (inM_D (zGr hg).is (fun v hv => (t2 v hv).2) (by decide) r hr q hq).mono (by decide)) (fun K L hs => zL5 hn hg ht hs)
theorem rat_short {s : zu} (h : zCe s = 0) : s.length ≤ 9223372036854775807 := by
 have hi := IsQ.self h
 rw [← hi.text]
 exact zG9 hi.fit
theorem mats2g (A : List (List zu)) (M : List (List zu)) (n : Nat) (hn : M.length = n) : AEq (.ro (zBp 2 1 [.ro (zCF A) 0 A.length, .ro (zCF M) 0 n]) 0 2) (.ro (zNR [A, M]) 0 2) := AEq.ro rfl (fun d j hd hj => by
 subst hn
 have hd2 : d = 0 ∨ d = 1 := by omega
 have hj3 : j = 0 := by have hj : j < 1 := hj; omega
 subst hj3
 rcases hd2 with rfl | rfl <;> rfl)
theorem out_short {q : Rat} {p : zu} (h : outF q = (p, 0)) : p.length ≤ 9223372036854775807 := by
 unfold outF at h
 split at h
 ·rename_i hf
  rw [← (Prod.mk.inj h).1]
  exact zG9 hf
 ·exact absurd (Prod.mk.inj h).2 (by decide)
theorem two_short {F : Rat → Rat → Rat} {q a p : zu} (h : zJn F q a = (p, 0)) : p.length ≤ 9223372036854775807 := by
 unfold zJn at h
 split at h
 ·exact out_short h
 ·rename_i h1
  exact absurd (Prod.mk.inj h).2 h1
theorem cellS_norefG (r : List zu) (j h : Nat) (hj : j < 1) : ((cellS r).getD j .any).forget h = (cellS r).getD j .any := by
 obtain rfl : j = 0 := by omega
 rfl
theorem fineI2 : zU Tryz.prog 25 [.ro (.ints .i64 [0, 0]) 0 2] (.bool true) := fineI [0, 0] (by decide)
theorem below_rowT (m : List (List zu)) (n : Nat) : zA8 n (zCF m) := by
 intro i j _ hj
 have hj : j < 1 := hj
 match j, hj with
 | 0, _ => rfl
theorem shift_len (a b : zu) (m : List (List zu)) : (zD4 a b m).length = m.length := List.length_map ..
theorem shiftL_len (a b : zu) (l : List zu) : (zMk a b l).length = l.length := List.length_map ..
theorem shifted_ok (m : List (List zu)) (a b : zu) (hm : zDL m) (hl : m.length ≤ 1000) (hr : ∀ r ∈ m, r.length ≤ 1000) (ha : a.length ≤ 9223372036854775807) (hb : b.length ≤ 9223372036854775807) (hg : ∀ r ∈ m, ∀ s ∈ r, zLI a b s) :
 zU Tryz.prog 28 [.ro (zCF m) 0 m.length, .str a, .str b] (.tup [.ro (zCF (zD4 a b m)) 0 m.length, .bool true]) := by
 refine zP.value0 (zE (P := Tryz.prog) (fn := Tryz.f28) Z Z (by kernel_rfl) Z (fun c hR hfix => ?_)) (fix := fun _ => False) (fun _ h => h) Z Z
 refine rn8 ?_
 refine zAo 8 ⟨28, zCF []⟩ Z Z ?_
 repeat (refine zAF ?_)
 refine ze (ι := Nat) (fun i => [(1, .str a), (2, .str b), (8, .sl 0 0 i), (18, .ro (zCF m) 0 m.length), (19, iN m.length), (20, iN i)]) (fun i => [some ⟨28, zCF (zD4 a b (m.take i))⟩])
  (fun i => i ≤ m.length) (fun i => m.length - i) 0 ⟨⟨rfl, rfl, rfl, rfl, rfl, rfl, trivial⟩, rfl, Nat.zero_le _⟩ ?_
 intro i hi
 refine rn4 ?_
 refine zA Z (fun h => ?_) (fun h => ?_)
 ·have hi' : i < m.length := by omega
  have hsn := shiftT_snoc a b m hi'
  have hAl : (zD4 a b (m.take i)).length = i := by rw [shift_len, List.length_take]; omega
  have hmr := zAD (l := m) [] hi'
  have hrs := hm.2 _ hmr
  have hgr := hg _ hmr
  have hrl := hr _ hmr
  generalize hA2 : zD4 a b (m.take (i + 1)) = A2 at *
  generalize zD4 a b (m.take i) = A at *
  refine rn6 ?_
  refine zAE 10 (.ro (.strs (m.getD i [])) 0 (m.getD i []).length) Z (AEq.of_eq Z) ?_
  generalize m.getD i [] = row at *
  skip
  refine zAo 11 ⟨26, .strs []⟩ Z Z ?_
  skip
  refine ze (ι := Nat) (fun j => [(1, .str a), (2, .str b), (8, .sl 0 0 i), (18, .ro (zCF m) 0 m.length), (19, iN m.length), (20, iN i), (11, .sl 1 0 j), (24, .ro (.strs row) 0 row.length), (25, iN row.length), (26, iN j)]) (fun j => [some ⟨28, zCF A⟩, some ⟨26, .strs (zMk a b (row.take j))⟩])
   (fun j => j ≤ row.length) (fun j => row.length - j) 0 ⟨⟨rfl, rfl, rfl, rfl, rfl, rfl, rfl, rfl, rfl, rfl, trivial⟩, rfl, Nat.zero_le _⟩ ?_
  intro j hj
  refine rn4 ?_
  refine zA Z (fun h => ?_) (fun h => ?_)
  ·have hj' : j < row.length := by omega
   have hls := shiftL_snoc a b row hj'
   have hll : (zMk a b (row.take j)).length = j := by rw [shiftL_len, List.length_take]; omega
   have hmem := zAD (l := row) [] hj'
   obtain ⟨p, s, t1, t2, t3, _⟩ := hgr _ hmem
   have c1 := rmul_ok (row.getD j []) a (hrs.2 _ hmem) ha
   rw [t1] at c1
   have c2 := radd_ok p b (two_short t1) hb
   rw [t2] at c2
   generalize hl2 : zMk a b (row.take (j + 1)) = l2 at *
   generalize zMk a b (row.take j) = l at *
   refine rn9 ?_
   refine zD 31 (.str (row.getD j [])) Z (AEq.of_eq Z) ?_
   refine zB Z Z Z c1 ?_
   unfold zGx
   refine rn2 ?_
   refine zB Z Z Z c2 ?_
   unfold zGx
   refine rn3 ?_
   refine zB Z Z Z fineI2 ?_
   refine rn5 ?_
   refine zr Z Z Z Z Z Z Z Z Z hll Z Z (by show 0 + 1 ≤ 1; omega) Z (by show (j + 1) * 16 ≤ _ ∧ _; omega) (fun i j _ _ => rfl) (by rw [hfix]; exact fun h => h) ?_
   refine zv [some ⟨28, zCF A⟩, some ⟨26, .strs (l ++ [s])⟩] (zQ.eqv ⟨Z, Z, fun i' j' hi' hj' => by
    obtain rfl : j' = 0 := by have hj' : j' < 1 := hj'; omega
    rfl⟩ (zQ.eqv (CEq.refl _) zQ.nil)) ?_
   refine rn5 ?_
   exact zK ⟨j + 1, by omega, by omega, ⟨Z, Z, Z, Z, Z, Z, Z, Z, Z, Z, trivial⟩, by rw [hl2, hls, ← t3]⟩
  ·have hje : j = row.length := by omega
   subst hje
   rw [List.take_length]
   have hsl : (zMk a b row).length = row.length := shiftL_len _ _ _
   generalize zMk a b row = l at *
   refine zHb ?_
   refine zAd 1 11 row.length [(1, .str a), (2, .str b), (8, .sl 0 0 i), (18, .ro (zCF m) 0 m.length), (19, iN m.length), (20, iN i)] Z zMi Z (by show row.length ≤ l.length; omega) ⟨Z, Z, Z, Z, Z, Z, trivial⟩ ?_
   refine zAE 11 (.ro (.strs l) 0 l.length) Z (AEq.of_eq (by rw [hsl])) ?_
   refine zBF [some ⟨28, zCF A⟩] [none] [(1, .str a), (2, .str b), (8, .sl 0 0 i), (11, .ro (.strs l) 0 l.length), (18, .ro (zCF m) 0 m.length), (19, iN m.length), (20, iN i)] Z ⟨Z, Z, Z, Z, Z, Z, Z, trivial⟩ (fun h hh => by rw [hfix] at hh; exact absurd hh id) (by
    intro h o ho
    match h, ho with
    | 0, ho => cases ho; exact below_rowT _ _
    | _ + 1, ho => simp at ho) rfl ?_
   refine rn3 ?_
   refine zr Z Z Z Z Z Z Z Z Z hAl Z Z (by show 0 + 1 ≤ 1; omega) Z (by show (i + 1) * 24 ≤ _ ∧ _; omega) ?_ (by rw [hfix]; exact fun h => h) ?_
   ·intro i' j' hi' hj'
    exact zAM [] 1 cellS cellS_norefG A l _ (rowS1 l) 0 i' j' hi' hj'
   refine zv [some ⟨28, zCF (A ++ [l])⟩] (zQ.eqv (zAX [] 1 cellS A l _ (rowS1 l)) zQ.nil) ?_
   refine rn5 ?_
   exact zK ⟨i + 1, by omega, by omega, ⟨Z, Z, Z, Z, Z, Z, trivial⟩, by rw [hA2, hsn]⟩
 ·have hie : i = m.length := by omega
  subst hie
  rw [List.take_length]
  refine zHb ?_
  refine zAd 0 8 m.length [] Z (refless_rowsT _) Z (by show m.length ≤ (zD4 a b m).length; rw [shift_len]; exact Nat.le_refl _) trivial ?_
  refine rn0 ?_
  exact zL hR Z Z
theorem short_good {a b : zu} {m : List (List zu)} (hg : zAu (zD4 a b m) = 0) : zDL (zD4 a b m) := by
 have h := zGr hg
 exact ⟨by have := h.l12; omega, fun r hr => ⟨by have := h.is.cols r hr; have := h.w12; omega, fun s hs => rat_short (h.is.ok r hr s hs)⟩⟩
theorem shift_D {a b : zu} {m : List (List zu)} {p q : Nat} (h : IsM m p q) (hg : ∀ r ∈ m, ∀ s ∈ r, zLI a b s) (hD : ∀ r ∈ inM m, ∀ x ∈ r, D 12 x) (da : D 12 (zt a)) (db : D 12 (zt b)) : ∀ r ∈ inM (zD4 a b m), ∀ x ∈ r, D 48 x := by
 intro r hr x hx
 rw [(shift_is h hg).2] at hr
 obtain ⟨r0, h0, rfl⟩ := List.mem_map.1 hr
 obtain ⟨x0, h1, rfl⟩ := List.mem_map.1 hx
 exact (((hD r0 h0 x0 h1).mul da).add db).mono (by omega)
theorem row1 (a b : zu) : AEq (.ro (zBp 1 1 [.ro (.strs [a, b]) 0 2]) 0 1) (.ro (zCF [[a, b]]) 0 1) := AEq.ro rfl (fun d j hd hj => by
 obtain rfl : d = 0 := by omega
 have hj3 : j = 0 := by have hj : j < 1 := hj; omega
 subst hj3
 rfl)
theorem row1v (v : zu) : AEq (.ro (zBp 1 1 [.ro (.strs [v]) 0 1]) 0 1) (.ro (zCF [[v]]) 0 1) := AEq.ro rfl (fun d j hd hj => by
 obtain rfl : d = 0 := by omega
 have hj3 : j = 0 := by have hj : j < 1 := hj; omega
 subst hj3
 rfl)
theorem sgn_pos_iff {q : Rat} (h : ¬ sgn q.num ≤ 0) : 0 < q := by
 have hn : 0 < q.num := by
  rcases Int.lt_or_le 0 q.num with s | s
  ·exact s
  ·exfalso
   apply h
   unfold sgn
   split
   ·decide
   ·split
    ·decide
    ·omega
 rcases Rat.le_iff_lt_or_eq.1 (Rat.num_nonneg.1 (Int.le_of_lt hn)) with s | s
 ·exact s
 ·exfalso
  rw [← s] at hn
  exact absurd hn (by decide)
theorem MatgameShifts_law (m : List (List zu)) (a b : zu) (hm : zDL m) (ha : a.length ≤ 9223372036854775807) (hb : b.length ≤ 9223372036854775807) : zU Tryz.prog 6 [.ro (zCF m) 0 m.length, .str a, .str b] (.bool true) := by
 have cs := zRL 4 [m, [[a, b]]] (by decide) (by show 2 ≤ 9223372036854775807; decide) (by
  intro z hz
  simp only [List.mem_cons, List.not_mem_nil, or_false] at hz
  rcases hz with rfl | rfl
  ·exact hm
  ·refine ⟨by show 1 ≤ 9223372036854775807; decide, fun r hr => ?_⟩
   obtain rfl := List.mem_singleton.1 hr
   refine ⟨by show 2 ≤ 9223372036854775807; decide, fun s hs => ?_⟩
   simp only [List.mem_cons, List.not_mem_nil, or_false] at hs
   rcases hs with rfl | rfl
   ·exact ha
   ·exact hb)
 have cg := zFK m hm.1 hm.2
 have c1 := rsign_ok a ha
 have c2 := zJK b hb
 refine zP.value0 (zE (P := Tryz.prog) (fn := Tryz.f6) Z Z (by kernel_rfl) Z (fun c0 hR hfix => ?_)) (fix := fun _ => False) (fun _ h => h) Z Z
 refine rn0 ?_
 refine zB Z Z Z zJc ?_
 refine rn5 ?_
 refine zB Z Z Z c1 ?_
 refine rn2 ?_
 refine zf Z Z Z Z Z Z Z Z Z Z Z ?_
 refine zf Z Z Z Z Z Z Z Z Z Z Z ?_
 refine zD 28 (.ro (zCF [[a, b]]) 0 1) Z (row1 a b) ?_
 refine zf Z Z Z Z Z Z Z Z Z Z Z ?_
 refine zD 29 (.ro (zNR [m, [[a, b]]]) 0 2) Z (mats2g m [[a, b]] 1 Z) ?_
 refine zB Z Z Z cs ?_
 cases hs : ([m, [[a, b]]].all (zJm 4 12))
 ·refine rn6 ?_
  exact zL hR Z Z
 have ht : zJm 4 12 m = true ∧ a.length ≤ 12 ∧ b.length ≤ 12 := by
  simp only [List.all_cons, List.all_nil, Bool.and_true, Bool.and_eq_true] at hs
  have h2 := (zJR hs.2).2 [a, b] (List.mem_cons_self ..)
  exact ⟨hs.1, h2.2 a (by simp), h2.2 b (by simp)⟩
 obtain ⟨ht, la, lb⟩ := ht
 by_cases hg : zAu m = 0
 case neg =>
  refine rn5 ?_
  refine zB Z Z Z cg ?_
  refine rn3 ?_
  refine zAh Z Z (fun _ => ?_) (fun q => absurd hg (fun r => q r))
  refine rn6 ?_
  exact zL hR Z Z
 rw [hg] at cg
 by_cases hea : zCe a = 0
 case neg =>
  have e1 : signR a = (0, zCe a) := by unfold signR; rw [if_neg hea]
  rw [e1]
  refine rn5 ?_
  refine zB Z Z Z cg ?_
  refine rn3 ?_
  refine zAh Z Z (fun _ => ?_) (fun q => absurd hea (fun r => q r))
  refine rn6 ?_
  exact zL hR Z Z
 have e1 : signR a = (sgn (zt a).num, 0) := by unfold signR; rw [if_pos hea]
 rw [e1]
 by_cases hpa : sgn (zt a).num ≤ 0
 case pos =>
  refine rn5 ?_
  refine zB Z Z Z cg ?_
  repeat (first | refine zG (zJ rfl) ?_ | refine zBK rfl rfl ?_ | refine zG (zIm rfl rfl) ?_ | refine zG (q_leq rfl rfl) ?_ | refine zG (zBJ rfl rfl) ?_)
  refine zAh Z Z (fun _ => ?_) (fun q => absurd hpa q)
  refine rn6 ?_
  exact zL hR Z Z
 have hpos := sgn_pos_iff hpa
 by_cases heb : zCe b = 0
 case neg =>
  refine rn5 ?_
  refine zB Z Z Z cg ?_
  repeat (first | refine zG (zJ rfl) ?_ | refine zBK rfl rfl ?_ | refine zG (zIm rfl rfl) ?_ | refine zG (q_leq rfl rfl) ?_ | refine zG (zBJ rfl rfl) ?_)
  refine zAh Z Z (fun q => absurd q hpa) (fun _ => ?_)
  refine rn2 ?_
  refine zB Z Z Z c2 ?_
  refine rn3 ?_
  refine zA Z (fun _ => ?_) (fun q => absurd heb (fun r => q r))
  refine rn2 ?_
  exact zL hR Z Z
 rw [heb] at c2
 have hI := zGr hg
 obtain ⟨t1, t2⟩ := zJR ht
 have da : D 12 (zt a) := (IsQ.self hea).dig la (by decide)
 have db : D 12 (zt b) := (IsQ.self heb).dig lb (by decide)
 have hD := inM_D hI.is (fun v hv => (t2 v hv).2) (by decide)
 have hgs : ∀ r ∈ m, ∀ s ∈ r, zLI a b s := fun r hr s hs => zNJ hea heb (hI.is.ok r hr s hs) da db ((hD _ (List.mem_map.2 ⟨r, hr, rfl⟩) _ (List.mem_map.2 ⟨s, hs, rfl⟩)).mono (by decide)) (by decide)
 have i1 := (shift_is hI.is hgs).1
 have hg' : zAu (zD4 a b m) = 0 := zNG i1 hI.l hI.l12 hI.w hI.w12
 obtain ⟨K, L, v, rs, cs1, hst, G⟩ := zQl m 4 (by decide) hm hg ht
 obtain ⟨K', L', v', rs', cs', hst', G'⟩ := gsol (zD4 a b m) 5 48 (by decide) (short_good hg') hg' (by decide) (shift_D hI.is hgs hD da db) (fun K' L' hs' => (mg_shift hg ht hea heb la lb hpos hst hs').2.2.2.1)
 obtain ⟨_, _, _, _, gv, ev⟩ := mg_shift hg ht hea heb la lb hpos hst hst'
 rw [G'.eq, G.eq] at ev
 rw [G.eq] at gv
 have ev : v' = zH5 a b v := ev
 have gv : zLI a b v := gv
 have h1 := shifted_ok m a b hm (by omega) (fun r hr => by have := hI.is.cols r hr; have := hI.w12; omega) ha hb hgs
 have h2 := shifted_ok [[v]] a b ⟨by show 1 ≤ 9223372036854775807; decide, fun r hr => by
  rw [List.mem_singleton.1 hr]
  exact ⟨by show 1 ≤ 9223372036854775807; decide, fun s hs => by rw [List.mem_singleton.1 hs]; exact G.vl⟩⟩ (by show 1 ≤ 1000; decide) (fun r hr => by rw [List.mem_singleton.1 hr]; show 1 ≤ 1000; decide) ha hb (fun r hr s hs => by
   rw [List.mem_singleton.1 hr] at hs
   rw [List.mem_singleton.1 hs]; exact gv)
 have h2 : zU Tryz.prog 28 [.ro (zCF [[v]]) 0 1, .str a, .str b] (.tup [.ro (zCF [[zH5 a b v]]) 0 1, .bool true]) := h2
 rw [← ev] at h2
 have cz := G.call
 have cz' := G'.call
 rw [shift_len] at cz'
 generalize zD4 a b m = M2 at *
 have hp1 : 0 < ([[v']].getD 0 [] : List zu).length := Nat.zero_lt_one
 have hp2 : 0 < ([[v']] : List (List zu)).length := Nat.zero_lt_one
 refine rn5 ?_
 refine zB Z Z Z cg ?_
 repeat (first | refine zG (zJ rfl) ?_ | refine zBK rfl rfl ?_ | refine zG (zIm rfl rfl) ?_ | refine zG (q_leq rfl rfl) ?_ | refine zG (zBJ rfl rfl) ?_)
 refine zAh Z Z (fun q => absurd q hpa) (fun _ => ?_)
 refine rn2 ?_
 refine zB Z Z Z c2 ?_
 refine rn4 ?_
 refine zB Z Z Z h1 ?_
 refine rn2 ?_
 refine zB Z Z Z cz ?_
 refine rn4 ?_
 refine sa1 (c' := .box [.str v, .ro (.strs rs) 0 rs.length, .ro (.strs cs1) 0 cs1.length]) Z Z Z Z Z Z Z ?_
 refine rn0 ?_
 refine zB Z Z Z cz' ?_
 refine rn4 ?_
 refine sa1 (c' := .box [.str v', .ro (.strs rs') 0 rs'.length, .ro (.strs cs') 0 cs'.length]) Z Z Z Z Z Z Z ?_
 refine zO [some ⟨30, .box [.str v, .ro (.strs rs) 0 rs.length, .ro (.strs cs1) 0 cs1.length]⟩, some ⟨30, .box [.str v', .ro (.strs rs') 0 rs'.length, .ro (.strs cs') 0 cs'.length]⟩] Z ?_
 refine rn5 ?_
 refine zD 71 (.ro (zCF [[v]]) 0 1) Z (row1v v) ?_
 refine zB Z Z Z h2 ?_
 refine rn2 ?_
 refine zi (by kernel_rfl) ?_
 refine zCq (fuel := 0) [0, 1, 2, 3, 4, 5, 6, 7, 8, 9, 10, 11, 12, 13, 14, 15, 16, 17, 18, 19, 20] [(10, .bool true), (12, .int .i64 0), (13, .ptr 1 0 0), (14, .int .i64 0), (15, .ro (zCF [[v']]) 0 1), (16, .bool true)] ⟨Z, Z, Z, Z, Z, Z, trivial⟩ (by kernel_rfl) (by decide) Z Z ?_
 refine zM Z Z (zJ Z) ?_
 refine zM Z Z (zJ Z) ?_
 refine zAR Z Z Z Z (zJ Z) ?_
 refine zM Z Z (zBJ Z Z) ?_
 refine zM Z Z (zJ Z) ?_
 refine zAR Z Z Z Z (zJ Z) ?_
 refine zAR Z Z Z Z (zJ Z) ?_
 refine px_gb Z Z Z Z Z Z Z Z Z Z Z Z Z Z Z ?_
 refine zHg Z Z Z Z Z Z Z fineI2 ?_
 refine zM Z Z (zBJ Z Z) ?_
 refine zM Z Z (zJ Z) ?_
 refine zAR Z Z Z Z (zJ Z) ?_
 refine zAR Z Z Z Z (zAB Z Z Z Z (by first | (simp only [Nat.zero_add, Int.toNat_natCast, Int.toNat_zero]; exact Z) | exact Z) (by omega)) ?_
 refine zAR Z Z Z Z (zCX Z Z Z Z) ?_
 refine zAR Z Z Z Z (zAB Z Z Z Z (by first | (simp only [Nat.zero_add, Int.toNat_natCast, Int.toNat_zero]; exact Z) | exact Z) (by omega)) ?_
 refine zAR Z Z Z Z (zH1 Z Z Z) ?_
 refine zAR Z Z Z Z (zH Z Z Z Z Z Z) ?_
 refine zAR Z Z Z Z (zX Z Z Z Z Z) ?_
 refine zAR Z Z Z Z (zF1 Z Z) ?_
 refine zM Z Z (zBJ Z Z) ?_
 refine zM Z Z (zm Z) ?_
 refine zAA ?_
 refine zW (by kernel_rfl) ?_
 refine rn0 ?_
 refine zL hR Z ?_
 show AV.bool (decide (v' = v')) = _
 rw [decide_eq_true rfl]
end Go.Proofs.YtkncmbklkhjmgaaGreatDoor
