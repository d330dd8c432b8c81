import Derived.Laws.Bits64
import Derived.Test.YtnkealfaldjipaaGreatDoorY7
set_option linter.unusedVariables false
set_option linter.unusedSimpArgs false
namespace Go.Proofs.YtnkealfaldjipaaGreatDoor
open Go.Ax Go.Ax.Bg Go.Ax.Rt Go.RowKit Go.Ax.Dt Go.Ax.Sx
attribute [local irreducible] Ax zBZ QOp zS zBC
set_option maxRecDepth 100000
set_option maxHeartbeats 40000000
/-- the result of the program -/
def zKd (r : Res) : AV := .agg ([.int .i64 (r.kind : Nat), if r.kind = 1 then .nil else .ro (qsC r.X) 0 r.X.length, if r.kind = 2 then .nil else .ro (qsC r.Y) 0 r.Y.length, if r.kind = 2 then .ro (qsC r.R) 0 r.R.length else .nil] ++ (if r.kind = 0 then zq r.V else [.bool false, .nil, .nil]))
theorem zO2 (r : Res) : noRef (zKd r) = true := by
 obtain ⟨k, X, Y, R, V⟩ := r
 by_cases h0 : k = 0
 ·subst h0; rfl
 ·by_cases h1 : k = 1
  ·subst h1; rfl
  ·by_cases h2 : k = 2
   ·subst h2; rfl
   ·show noRef (.agg ([_, if k = 1 then _ else _, if k = 2 then _ else _, if k = 2 then _ else _] ++ (if k = 0 then _ else _))) = true
    rw [if_neg h0, if_neg h1, if_neg h2, if_neg h2]; rfl
theorem intA_nat (n : Nat) : zBD ((n : Nat) : Int) = .agg [.bool false, zf n] := by
 unfold zBD
 rw [Int.natAbs_natCast, decide_eq_false (by omega)]
theorem zJ5 (s : Nat) (t : TypeId) : ∀ X : Tab, zC9 s (zCO t zC X) = zCO t zC X
 | [] => rfl
 | a :: r => by
  show some ⟨t, (zC a).shift s⟩ :: zC9 s (zCO t zC r) = some ⟨t, zC a⟩ :: zCO t zC r
  rw [zHP, zJ5 s t r]
theorem zO4 (b n L s : Nat) : (zBr b n L).shift s = zBr (s + b) n L := by
 show Cells.fn _ _ _ = Cells.fn _ _ _
 congr 1
 funext i j
 show AV.sl (b + 4 + i + s) 0 L = AV.sl (s + b + 4 + i) 0 L
 rw [show b + 4 + i + s = s + b + 4 + i by omega]
theorem tb_shift (A B : Option AObj) (L w k : Nat) (X : Tab) (d : Int) (β : List Nat) : [A, B] ++ zC9 2 (zY [none, none] none L w k X d β []) = zY [A, B, none, none] none L w k X d β [] := by
 show A :: B :: none :: none :: some (⟨253, zDt 4 k β.length w d⟩ : AObj) :: none :: some (⟨3, zB5 β⟩ : AObj) :: some (⟨248, (zBr 2 X.length L).shift 2⟩ : AObj) :: zC9 2 (zCO 120 zC X ++ []) = _
 rw [List.append_nil, zJ5, zO4]
 show _ = A :: B :: none :: none :: some (⟨253, zDt 4 k β.length w d⟩ : AObj) :: none :: some (⟨3, zB5 β⟩ : AObj) :: some (⟨248, zBr 4 X.length L⟩ : AObj) :: (zCO 120 zC X ++ [])
 rw [List.append_nil]
theorem zPG {H : zO} {x : Option AObj} {h : Nat} {o : Option AObj} (hh : H[h]? = some o) : (H.set h x)[h]? = some x := List.getElem?_set_self (List.getElem?_eq_some_iff.1 hh).1
theorem Run_ok (p : Prog) (k K L : Nat) (hp : p.Ok) (hk : p.Dig k) (hm : p.m ≤ 30) (hn : p.n ≤ 30) (hk40 : k ≤ 100) (hs : Stops p K L) :
 zU Tryz.prog 118 [.agg [.ro (zn p.A) 0 p.A.length, .ro (qsC p.B) 0 p.B.length, .ro (qsC p.C) 0 p.C.length]] (zKd (zAF p K L)) := by
 have hNe : p.N = p.n + p.m + p.a := rfl
 have hal : p.a ≤ p.m := zKj p.B p.B.length
 have hE : p.E k ≤ 3200 := by
  unfold Prog.E
  have : k * (p.n + 1) ≤ 100 * 31 := Nat.mul_le_mul hk40 (by omega)
  omega
 have hT : p.T k ≤ 99262 := by
  unfold Prog.T
  exact Nat.mul_le_mul (show p.E k + 2 ≤ 3202 by omega) (show p.m + 1 ≤ 31 by omega)
 have hET : p.E k ≤ p.T k := by
  unfold Prog.T
  have : (p.E k + 2) * 1 ≤ (p.E k + 2) * (p.m + 1) := Nat.mul_le_mul_left _ (by omega)
  omega
 have cst := zS.many (start_ok p p.N k hp hk hNe (show p.m ≤ 40 by omega) (show p.n ≤ 40 by omega) (by omega)) (fun _ h => h) rfl
 have hph1 : (⟨zBK p ++ [zBj (p.n + p.m) p.a p.N ⟨zBK p, 1, zBl p⟩ p.m p.a], 1, zBl p⟩ : St) = ph1 p := by
  have e : zBj (p.n + p.m) p.a p.N ⟨zBK p, 1, zBl p⟩ p.m p.a = zHN (zC6 p) p.m p.N (zAX p) := by
   rw [← zI0 p, zOd]; exact zOO p p.a rfl
  rw [e, ← ph1_rows]; rfl
 have htk : (zAX p).rows.take p.m = zBK p := congrArg St.rows (zI0 p)
 have hcf : ∀ (G : zO), OkG G → (∀ h, G.length ≤ h → zm h G = G) → 0 < p.a → _ := fun G hG hFG ha => zNB G hG hFG p.n p.m p.a p.N (zBK p) (zBl p) (M1 p) K (p.T k) hNe (by omega) (by omega) (zCb p) (zGU p) (fun x hx => (zEq p).row x (List.mem_append_left _ hx))
  (fun i j hi hj => by rw [← htk, zEI hi]; exact Nat.le_trans (zL1 hp hk hi hj) (Nat.pow_le_pow_right (by decide) hET)) (by omega) (by rw [hph1]; exact zMI p) (by rw [hph1]; exact zKa p hp) (by rw [hph1]; exact hs.one ha)
  (fun t ht => zEi ht (by omega) (zOv hp hk)) (fun t ht hf h0 i hi hb => (zHJ ht hf).2 (by have := (zHJ ht hf).1; omega) i hi hb)
 rw [hph1] at hcf
 refine zS.value0 (zE (P := Tryz.prog) (fn := Tryz.f118) Z Z (by kernel_rfl) Z (fun c hR hfix => ?_)) (fix := fun _ => False) (fun _ h => h) Z (zO2 _)
 refine rn6 ?_
 refine zo (by kernel_rfl) ?_
 refine zv (fuel := 0) [0, 1, 2, 3, 4, 5, 6, 7] [(1, .ptr 0 0 0), (2, .ptr 1 0 0)] ⟨Z, Z, trivial⟩ (by kernel_rfl) (by decide) Z Z ?_
 refine zK Z Z (zJ Z Z Z Z Z Z) ?_
 refine zK Z Z (zQ Z Z Z Z Z) ?_
 refine zK Z Z (zA5 Z Z Z) ?_
 refine zK Z Z (zJ Z Z Z Z Z Z) ?_
 refine zK Z Z (zQ Z Z Z Z Z) ?_
 refine zK Z Z (zA5 Z Z Z) ?_
 refine zK Z Z (zi Z) ?_
 refine zK Z Z (zi Z) ?_
 refine zz ?_
 refine zX (by kernel_rfl) ?_
 refine rn6 ?_
 refine zA 29 (.agg [.ro (zn p.A) 0 p.A.length, .ro (qsC p.B) 0 p.B.length, .ro (qsC p.C) 0 p.C.length]) Z (AEq.of_eq Z) ?_
 refine zIj (.tup [.ptr 4 0 0, .ro (nsC ((List.range p.m).map p.fac)) 0 p.m, .int .i64 (p.a : Nat)]) (zY [some ⟨188, .box [.ro (zn p.A) 0 p.A.length, .ro (qsC p.B) 0 p.B.length, .ro (qsC p.C) 0 p.C.length]⟩, some ⟨185, .box [.int .i64 0, .nil, .nil, .nil, .bool false, .nil, .nil]⟩, none, none] none (p.N + 1) (p.n + p.m) p.m (zBK p) 1 (zBl p) []) Z Z Z cst Z (tb_shift _ _ _ _ _ _ _ _) ?_
 generalize hGG : ([some ⟨188, .box [.ro (zn p.A) 0 p.A.length, .ro (qsC p.B) 0 p.B.length, .ro (qsC p.C) 0 p.C.length]⟩, some ⟨185, .box [.int .i64 0, .nil, .nil, .nil, .bool false, .nil, .nil]⟩, none, none] : zO) = G
 have hG4 : G.length = 4 := by subst hGG; rfl
 have hG : OkG G := by
  rw [← hGG]
  intro m hm o ho
  simp only [List.mem_cons, List.mem_nil_iff, or_false] at ho
  rcases ho with e | e | e | e
  ·cases e; exact zHx p _
  ·cases e
   intro i j hi hj
   obtain rfl := Nat.lt_one_iff.1 (show i < 1 from hi)
   match j, (show j < 7 from hj) with
   | 0, _ => rfl
   | 1, _ => rfl
   | 2, _ => rfl
   | 3, _ => rfl
   | 4, _ => rfl
   | 5, _ => rfl
   | 6, _ => rfl
  ·cases e
  ·cases e
 have hFG : ∀ h, zm h G = G := fun h => by subst hGG; rfl
 have hg0 : ∀ kk X d β T, (zY G none (p.N + 1) (p.n + p.m) kk X d β T)[0]? = some (some ⟨188, .box [.ro (zn p.A) 0 p.A.length, .ro (qsC p.B) 0 p.B.length, .ro (qsC p.C) 0 p.C.length]⟩) := fun kk X d β T => by subst hGG; rfl
 have hg1 : ∀ kk X d β T, (zY G none (p.N + 1) (p.n + p.m) kk X d β T)[1]? = some (some ⟨185, .box [.int .i64 0, .nil, .nil, .nil, .bool false, .nil, .nil]⟩) := fun kk X d β T => by subst hGG; rfl
 refine zA 30 (.tup [.ptr G.length 0 0, .ro (nsC ((List.range p.m).map p.fac)) 0 p.m, .int .i64 (p.a : Nat)]) Z (AEq.of_eq (by rw [hG4])) ?_
 have hcf := hcf G hG (fun h _ => hFG h)
 have hslen : (zY G none (p.N + 1) (p.n + p.m) p.m (zBK p) 1 (zBl p) []).length = G.length + 4 + p.m := by rw [zBM, zCb]; rfl
 have hfl : ((List.range p.m).map p.fac).length = p.m := by simp
 clear cst
 by_cases hneg : 0 < p.a ∧ at2 (zCL p K).rows p.m p.N < 0
 ·rw [zRQ hneg] at hR
  have cf := hcf hneg.1
  obtain ⟨o1, o2⟩ := zEt p hp K
  obtain ⟨b1, b2⟩ := zEi o1 (by omega) (zOv hp hk)
  have hD := o1.dp
  obtain ⟨KK, hKK⟩ : ∃ KK, KK = 99300 := ⟨_, rfl⟩
  have cu := zKV ((List.range p.m).map (fun i => Rat.divInt (at2 (zCL p K).rows p.m (p.n + i)) (zCL p K).den)) ((List.range p.m).map p.fac) KK (by simp) (by simp; omega) (fun q hq => by
   obtain ⟨i, hi, rfl⟩ := List.mem_map.1 hq
   have hi : i < p.m := by simpa using hi
   exact (zGj (by omega) (zDQ (b1 p.m (p.n + i) (by omega) (by omega))) (zDQ b2)).mono (by omega)) (fun q hq => by
   obtain ⟨i, hi, rfl⟩ := List.mem_map.1 hq
   have hi : i < p.m := by simpa using hi
   refine Nat.lt_of_lt_of_le (zDQ (zO8 hp hk hi)) (Nat.pow_le_pow_right (by decide) ?_)
   have : k * (p.n + 1) ≤ 100 * 31 := Nat.mul_le_mul hk40 (by omega)
   omega) (by omega)
  rw [show ((List.range p.m).map (fun i => Rat.divInt (at2 (zCL p K).rows p.m (p.n + i)) (zCL p K).den)).length = p.m by simp, hfl] at cu
  have hy : zJK ((List.range p.m).map (fun i => Rat.divInt (at2 (zCL p K).rows p.m (p.n + i)) (zCL p K).den)) ((List.range p.m).map p.fac) p.m = yL p (zCL p K) (zCL p K).den := (yL_as p (zCL p K) (zCL p K).den).symm
  rw [hy] at cu
  have hyl : (yL p (zCL p K) (zCL p K).den).length = p.m := by simp [yL]
  refine rn6 ?_
  refine zD Z (fun _ => ?_) (fun hx => absurd hneg.1 (by omega))
  refine rn0 ?_
  refine zNN (G.length + 3) Z Z Z cf (fun h q1 q2 => ⟨q1, q2⟩) (fun h q => q.1) (by rw [hfix]; exact fun h => h) ?_
  intro r' H' hr'
  rcases hr' with ⟨h1, rfl, rfl⟩ | ⟨h1, rfl, rfl⟩
  ·refine ⟨by rw [hslen, zBM, show (zAn p.m p.N (p.n + p.m) (ph1 p) K).rows.length = p.m + 1 from o1.n]; omega, ?_⟩
   refine zBw ((41, .tup [.ro (qsC ((List.range p.m).map (fun i => Rat.divInt (at2 (zCL p K).rows p.m (p.n + i)) (zCL p K).den))) 0 p.m, .bool false]) :: [(1, .ptr 0 0 0), (2, .ptr 1 0 0), (3, .int .i64 (p.n : Nat)), (4, .int .i64 (p.m : Nat)), (5, .ptr G.length 0 0), (6, .ro (nsC ((List.range p.m).map p.fac)) 0 p.m), (7, .int .i64 (p.a : Nat))]) ⟨Z, zA4 (h := G.length + 3) (L := [(1, .ptr 0 0 0), (2, .ptr 1 0 0), (3, .int .i64 (p.n : Nat)), (4, .int .i64 (p.m : Nat)), (5, .ptr G.length 0 0), (6, .ro (nsC ((List.range p.m).map p.fac)) 0 p.m), (7, .int .i64 (p.a : Nat))]) ⟨Z, Z, Z, Z, Z, Z, Z, trivial⟩ (by
   intro q hq
   simp only [List.mem_cons, List.mem_nil_iff, or_false] at hq
   rcases hq with rfl | rfl | rfl | rfl | rfl | rfl | rfl <;> simp [AV.forget, zf, zx (show G.length ≠ G.length + 3 by omega), zx (show 0 ≠ G.length + 3 by omega), zx (show 1 ≠ G.length + 3 by omega)])⟩ ?_
   refine rn5 ?_
   refine zB Z Z Z cu ?_
   repeat (refine zG (zA0 rfl rfl rfl rfl rfl rfl) ?_)
   refine zN (c' := .box [.int .i64 1, .nil, .ro (qsC (yL p (zCL p K) (zCL p K).den)) 0 p.m, .nil, .bool false, .nil, .nil]) Z Z Z (hg1 _ _ _ _ _) Z Nat.zero_lt_one Z Z (fun i' j' hi' hj' => ?_) ?_
   ·rw [if_pos (Nat.lt_one_iff.1 hi')]; rfl
   refine rn2 ?_
   refine zI hR (zGS Z (zPG (hg1 _ _ _ _ _)) Z Z Z) ?_
   show AV.agg _ = zKd _
   unfold zKd
   simp only [hyl]
   rfl
  ·exact absurd hneg.2 h1
 have h0 := zIG hp hneg
 have hph := zKf p hp K h0
 obtain ⟨b1, b2⟩ := zEi hph.1 (by omega) (zG9 hp hk)
 have hrows := ph2_rows p K
 have hXl : (Sx.cutS p.m (mid p K)).rows.length = p.m := by
  have e := hph.1.n
  rw [hrows, List.length_append] at e
  exact Nat.succ.inj e
 have hXr : ∀ x ∈ (Sx.cutS p.m (mid p K)).rows, x.length = p.N + 1 := fun x hx => hph.1.row x (by rw [hrows]; exact List.mem_append_left _ hx)
 have hXb : ∀ i j, i < p.m → j < p.N + 1 → (at2 (Sx.cutS p.m (mid p K)).rows i j).natAbs ≤ 10 ^ p.T k := fun i j hi hj => by
  have e : at2 (ph2 p K).rows i j = at2 (Sx.cutS p.m (mid p K)).rows i j := by
   unfold at2
   rw [hrows, zJs [] (by rw [hXl]; exact hi)]
  rw [← e]; exact b1 i j (by omega) hj
 have hβl : (mid p K).basis.length = p.m := hph.1.b
 have hdb : (mid p K).den.natAbs ≤ 10 ^ p.T k := b2
 have hlast : (ph2 p K) = ⟨(Sx.cutS p.m (mid p K)).rows ++ [zDG (zBh p) p.N (Sx.cutS p.m (mid p K)) p.m], (mid p K).den, (mid p K).basis⟩ := by
  rw [zQq (Nat.le_refl _), ← hrows]; rfl
 have hl0 := last0 p (Sx.cutS p.m (mid p K))
 have hcab := fun i j (hi : i ≤ p.m) (hj : j < p.N + 1) => zQK (p := p) (k := k) (E := p.T k) (s := Sx.cutS p.m (mid p K)) (i := i) (j := j) hk (by omega) (fun q hq => hXb q j (by omega) hj) hdb hj
 apply zAM (H := stH G p.N (p.n + p.m) p.m (Sx.cutS p.m (mid p K))) [(1, .ptr 0 0 0), (2, .ptr 1 0 0), (3, .int .i64 (p.n : Nat)), (4, .int .i64 (p.m : Nat)), (5, .ptr G.length 0 0), (6, .ro (nsC ((List.range p.m).map p.fac)) 0 p.m), (7, .int .i64 (p.a : Nat))]
 ·intro fin
  by_cases ha : 0 < p.a
  ·have cf := hcf ha
   rw [zNE p hp K (by omega)] at fin
   refine rn6 ?_
   refine zD Z (fun _ => ?_) (fun hx => absurd ha (by omega))
   refine rn0 ?_
   refine zNN (G.length + 3) Z Z Z cf (fun h q1 q2 => ⟨q1, q2⟩) (fun h q => q.1) (by rw [hfix]; exact fun h => h) ?_
   intro r' H' hr'
   rcases hr' with ⟨h1, rfl, rfl⟩ | ⟨h1, rfl, rfl⟩
   ·exact absurd ⟨ha, h1⟩ hneg
   ·have hdl : (zBb (p.n + p.m) (Sx.cutS p.m (zAn p.m p.N (p.n + p.m) (ph1 p) K)) p.m).rows.length = p.m := by
     rw [zNE p hp K (by omega)] at hXl; exact hXl
    refine ⟨by rw [hslen, zBM, hdl]; omega, ?_⟩
    refine zBw ((41, .tup [.nil, .bool true]) :: [(1, .ptr 0 0 0), (2, .ptr 1 0 0), (3, .int .i64 (p.n : Nat)), (4, .int .i64 (p.m : Nat)), (5, .ptr G.length 0 0), (6, .ro (nsC ((List.range p.m).map p.fac)) 0 p.m), (7, .int .i64 (p.a : Nat))]) ⟨Z, zA4 (h := G.length + 3) (L := [(1, .ptr 0 0 0), (2, .ptr 1 0 0), (3, .int .i64 (p.n : Nat)), (4, .int .i64 (p.m : Nat)), (5, .ptr G.length 0 0), (6, .ro (nsC ((List.range p.m).map p.fac)) 0 p.m), (7, .int .i64 (p.a : Nat))]) ⟨Z, Z, Z, Z, Z, Z, Z, trivial⟩ (by
   intro q hq
   simp only [List.mem_cons, List.mem_nil_iff, or_false] at hq
   rcases hq with rfl | rfl | rfl | rfl | rfl | rfl | rfl <;> simp [AV.forget, zf, zx (show G.length ≠ G.length + 3 by omega), zx (show 0 ≠ G.length + 3 by omega), zx (show 1 ≠ G.length + 3 by omega)])⟩ ?_
    refine rn9 ?_
    refine z8 ?_
    refine zV Z ?_
    refine rn9 ?_
    exact fin _ ⟨Z, Z, Z, Z, Z, Z, Z, trivial⟩
  ·have ha0 : p.a = 0 := by omega
   rw [mid_cut0 p K ha0] at fin
   refine rn9 ?_
   refine z8 ?_
   refine z8 ?_
   refine zV Z ?_
   repeat (first | refine zG (zL rfl) ?_ | refine zP ?_ | refine zF ?_ | refine zG (zK5 rfl rfl) ?_)
   refine zD Z (fun hx => absurd hx (by omega)) (fun _ => ?_)
   refine rn9 ?_
   exact fin _ ⟨Z, Z, Z, Z, Z, Z, Z, trivial⟩
 generalize hX : (Sx.cutS p.m (mid p K)).rows = X at *
 have hde : (Sx.cutS p.m (mid p K)).den = (mid p K).den := rfl
 have hbe : (Sx.cutS p.m (mid p K)).basis = (mid p K).basis := rfl
 have hme : Sx.cutS p.m (mid p K) = ⟨X, (mid p K).den, (mid p K).basis⟩ := by rw [← hX]; rfl
 rw [hme] at hlast hl0 hcab
 generalize (mid p K).den = d at *
 generalize (mid p K).basis = β at *
 have hstE : stH G p.N (p.n + p.m) p.m (Sx.cutS p.m (mid p K)) = zY G none (p.N + 1) (p.n + p.m) p.m X d β [] := by rw [hme]
 refine zAV (zY G none (p.N + 1) (p.n + p.m) p.m X d β []) hstE ?_
 clear hcf hph1 hslen hX hde hbe hme hstE hrows b1 b2
 have cWC := zNj p.C k hk.c (show p.n ≤ 1000 by omega) (by show k * p.n + k ≤ _; have : k * p.n ≤ 100 * 30 := Nat.mul_le_mul hk40 hn; omega)
 have hlen : ∀ T, (zY G none (p.N + 1) (p.n + p.m) p.m X d β T).length = G.length + 4 + p.m + T.length := fun T => by rw [zBM, hXl]
 have gC := hg0 p.m X d β []
 refine rn7 ?_
 refine zIj (.tup [.sl (G.length + 4 + p.m) 0 p.n, zf p.fc]) (zY G none (p.N + 1) (p.n + p.m) p.m X d β [some ⟨120, zC (zA6 p.C)⟩]) Z Z Z cWC (by rw [hlen]; show AV.tup [AV.sl (0 + (G.length + 4 + p.m)) 0 _, _] = _; rw [Nat.zero_add]; rfl) (by show _ ++ [some (⟨_, (zC _).shift _⟩ : AObj)] = _; rw [zHP, zAj]; rfl) ?_
 have hWl : (zA6 p.C).length = p.n := zGP _
 have hWb : ∀ j, j < p.n → ((zA6 p.C).getD j 0).natAbs ≤ 10 ^ p.E k := fun j hj => zI6 hk hj
 have hcs : ∀ j, j < p.n → -(zBh p j) = (zA6 p.C).getD j 0 := fun j hj => cosK_neg hj
 have hcz : ∀ j, ¬ (j < p.n ∧ (zA6 p.C).getD j 0 ≠ 0) → zBh p j = 0 := fun j hj => zRP hj
 generalize zA6 p.C = WC at *
 clear gC cWC
 refine rn3 ?_
 refine zA 61 (.int .i64 ((p.N + 1 : Nat))) Z (AEq.of_eq (by show AV.int _ _ = AV.int _ _; congr 1)) ?_
 refine zC4 Z Z Z Z Z Z Z Z (by show (0 : Int) ≤ _ ∧ _ ≤ _ ∧ (32 : Int) * _ ≤ _ ∧ _; omega) ?_
 refine zGX (zY G none (p.N + 1) (p.n + p.m) p.m X d β [some ⟨120, zC WC⟩] ++ [some ⟨120, zC (List.replicate (p.N + 1) 0)⟩]) (by simp only [List.length_append, List.length_cons, List.length_nil]) zHy ?_
 refine zR (zY G none (p.N + 1) (p.n + p.m) p.m X d β [some ⟨120, zC WC⟩, some ⟨120, zC (chg (fun q => -(WC.getD q 0) * d) 0 (List.replicate (p.N + 1) 0) 0)⟩]) (by rw [zAj, zDC]; rfl) ?_
 refine zA 62 (.sl (G.length + 4 + p.m + 1) 0 (p.N + 1)) Z (AEq.of_eq (by rw [hlen]; rfl)) ?_
 have hdD : ∀ x : Int, ∀ e, e ≤ 3599990 → x.natAbs ≤ 10 ^ e → (zT x.natAbs).length ≤ 400001 := fun x e he hx => zFT hx (by omega)
 refine rn3 ?_
 refine zh (ι := Nat) (fun j => [(1, .ptr 0 0 0), (2, .ptr 1 0 0), (3, .int .i64 (p.n : Nat)), (4, .int .i64 (p.m : Nat)), (5, .ptr G.length 0 0), (6, .ro (nsC ((List.range p.m).map p.fac)) 0 p.m), (7, .int .i64 (p.a : Nat)), (10, .sl (G.length + 4 + p.m) 0 p.n), (11, zf p.fc), (12, .sl (G.length + 4 + p.m + 1) 0 (p.N + 1)), (63, .sl (G.length + 4 + p.m) 0 p.n), (64, .int .i64 (p.n : Nat)), (65, .int .i64 (j : Nat))]) (fun j => zY G none (p.N + 1) (p.n + p.m) p.m X d β [some ⟨120, zC WC⟩, some ⟨120, zC (chg (fun q => -(WC.getD q 0) * d) 0 (List.replicate (p.N + 1) 0) j)⟩]) (fun j => j ≤ p.n) (fun j => p.n - j) 0 ⟨⟨Z, Z, Z, Z, Z, Z, Z, Z, Z, Z, Z, Z, Z, trivial⟩, Z, Nat.zero_le _⟩ ?_
 intro j hj
 refine rn4 ?_
 refine zD Z (fun h => ?_) (fun h => ?_)
 ·have hj' : j < p.n := by omega
  have hgj := zC5 (fun q => -(WC.getD q 0) * d) 0 (List.replicate (p.N + 1) 0) (k := j) (i := j) (by simp; omega)
  have hsj := zDp (fun q => -(WC.getD q 0) * d) 0 (List.replicate (p.N + 1) 0) (k := j) (by simp; omega)
  have hlj := zCm (fun q => -(WC.getD q 0) * d) 0 (List.replicate (p.N + 1) 0) j
  rw [List.length_replicate] at hlj
  generalize hYY : chg (fun q => -(WC.getD q 0) * d) 0 (List.replicate (p.N + 1) 0) j = Y at *
  have q0 := zAk (G := G) (F := none) (L := p.N + 1) (w := p.n + p.m) (k := p.m) (X := X) (d := d) (β := β) (T := [some ⟨120, zC WC⟩, some ⟨120, zC Y⟩]) 0
  rw [hXl, Nat.add_zero] at q0
  have g0 : j < (zC WC).len := by show j < WC.length; omega
  refine rn7 ?_
  refine zR (zY G none (p.N + 1) (p.n + p.m) p.m X d β [some ⟨120, zC WC⟩, some ⟨120, zC Y⟩, some ⟨120, .box [.bool false, .nil]⟩]) (by rw [zAj]; rfl) ?_
  refine zA 14 (.ptr (G.length + 4 + p.m + 2) 0 0) Z (AEq.of_eq (by rw [hlen]; rfl)) ?_
  refine zA 69 (zBD (WC.getD j 0)) Z (AEq.of_eq Z) ?_
  have q2 := zAk (G := G) (F := none) (L := p.N + 1) (w := p.n + p.m) (k := p.m) (X := X) (d := d) (β := β) (T := [some ⟨120, zC WC⟩, some ⟨120, zC Y⟩, some ⟨120, .box [.bool false, .nil]⟩]) 2
  rw [hXl] at q2
  refine zN (c' := .box (zl (WC.getD j 0))) Z Z Z q2 Z Nat.zero_lt_one Z Z (fun i' j' hi' hj' => ?_) ?_
  ·rw [if_pos (Nat.lt_one_iff.1 hi')]; rfl
  refine zR (zY G none (p.N + 1) (p.n + p.m) p.m X d β [some ⟨120, zC WC⟩, some ⟨120, zC Y⟩, some ⟨120, .box (zl (WC.getD j 0))⟩]) (by have q := zAP (G := G) (F := none) (L := p.N + 1) (w := p.n + p.m) (k := p.m) (X := X) (d := d) (β := β) (T := [some ⟨120, zC WC⟩, some ⟨120, zC Y⟩, some ⟨120, .box [.bool false, .nil]⟩]) 2 (some ⟨120, .box (zl (WC.getD j 0))⟩); rw [hXl] at q; exact q) ?_
  clear q0 q2
  have f1 := zBB (G := G) (F := none) (L := p.N + 1) (w := p.n + p.m) (k := p.m) (X := X) (d := d) (β := β) (T := [some ⟨120, zC WC⟩, some ⟨120, zC Y⟩, some ⟨120, .box (zl (WC.getD j 0))⟩])
  have q1 := zAk (G := G) (F := none) (L := p.N + 1) (w := p.n + p.m) (k := p.m) (X := X) (d := d) (β := β) (T := [some ⟨120, zC WC⟩, some ⟨120, zC Y⟩, some ⟨120, .box (zl (WC.getD j 0))⟩]) 1
  have q2 := zAk (G := G) (F := none) (L := p.N + 1) (w := p.n + p.m) (k := p.m) (X := X) (d := d) (β := β) (T := [some ⟨120, zC WC⟩, some ⟨120, zC Y⟩, some ⟨120, .box (zl (WC.getD j 0))⟩]) 2
  rw [hXl] at q1 q2
  have g1 : j < (zC Y).len := by show j < Y.length; omega
  have co := zGZ (WC.getD j 0)
  have cm := zC1 (-(WC.getD j 0)) d (by rw [Int.natAbs_neg]; have := hdD _ _ (by omega) (hWb j hj'); omega) (by have := hdD _ _ (by omega) hdb; omega)
  refine rn0 ?_
  refine zo (by kernel_rfl) ?_
  refine zv (fuel := 1) [0, 1, 2, 3, 4, 5, 6, 7, 8, 9] [(1, .ptr 0 0 0), (2, .ptr 1 0 0), (3, .int .i64 (p.n : Nat)), (4, .int .i64 (p.m : Nat)), (5, .ptr G.length 0 0), (6, .ro (nsC ((List.range p.m).map p.fac)) 0 p.m), (7, .int .i64 (p.a : Nat)), (10, .sl (G.length + 4 + p.m) 0 p.n), (11, zf p.fc), (12, .sl (G.length + 4 + p.m + 1) 0 (p.N + 1)), (63, .sl (G.length + 4 + p.m) 0 p.n), (64, .int .i64 (p.n : Nat)), (65, .int .i64 (j : Nat)), (13, .int .i64 (j : Nat)), (14, .ptr (G.length + 4 + p.m + 2) 0 0)] ⟨Z, Z, Z, Z, Z, Z, Z, Z, Z, Z, Z, Z, Z, Z, Z, trivial⟩ (by kernel_rfl) (by decide) Z Z ?_
  refine zK Z Z (zL Z) ?_
  refine zK Z Z (zL Z) ?_
  refine zK Z Z (zAD Z Z Z Z (by assumption) (by rfl) (by rfl) (by first | exact Nat.zero_lt_one | assumption | omega)) ?_
  refine zAc Z Z Z Z Z co ?_
  refine zK Z Z (zL Z) ?_
  refine zK Z Z (zd Z) ?_
  refine zK Z Z (zJ Z Z Z Z Z Z) ?_
  refine zK Z Z (zCu Z Z Z Z (by assumption) (by rfl) (by rfl) (by first | exact Nat.zero_lt_one | assumption | omega)) ?_
  refine zAc Z Z Z Z Z cm ?_
  refine zK Z Z (zZ Z Z Z (by assumption) (by rfl) (by first | (simp only [Nat.zero_add, Int.toNat_natCast, Int.toNat_zero]; exact Z) | exact Z) (by omega)) ?_
  refine zz ?_
  refine zH (is := [10]) (by kernel_rfl) (by simp) Z ⟨fun o ho => ?_, trivial⟩
  all_goals (cases ho)
  refine zN (c' := zC (Y.set j (-(WC.getD j 0) * d))) Z Z Z q1 Z g1 (List.length_set ..) Z (zDM Y j _) ?_
  refine zR (zY G none (p.N + 1) (p.n + p.m) p.m X d β [some ⟨120, zC WC⟩, some ⟨120, zC (Y.set j (-(WC.getD j 0) * d))⟩, some ⟨120, .box (zl (WC.getD j 0))⟩]) (by have q := zAP (G := G) (F := none) (L := p.N + 1) (w := p.n + p.m) (k := p.m) (X := X) (d := d) (β := β) (T := [some ⟨120, zC WC⟩, some ⟨120, zC Y⟩, some ⟨120, .box (zl (WC.getD j 0))⟩]) 1 (some ⟨120, zC (Y.set j (-(WC.getD j 0) * d))⟩); rw [hXl] at q; exact q) ?_
  refine rn1 ?_
  refine zX (by kernel_rfl) ?_
  repeat (refine zAf ?_)
  refine zF ?_
  refine zA3 (zY G none (p.N + 1) (p.n + p.m) p.m X d β [some ⟨120, zC WC⟩, some ⟨120, zC (Y.set j (-(WC.getD j 0) * d))⟩]) [some ⟨120, .box (zl (WC.getD j 0))⟩] [(1, .ptr 0 0 0), (2, .ptr 1 0 0), (3, .int .i64 (p.n : Nat)), (4, .int .i64 (p.m : Nat)), (5, .ptr G.length 0 0), (6, .ro (nsC ((List.range p.m).map p.fac)) 0 p.m), (7, .int .i64 (p.a : Nat)), (10, .sl (G.length + 4 + p.m) 0 p.n), (11, zf p.fc), (12, .sl (G.length + 4 + p.m + 1) 0 (p.N + 1)), (63, .sl (G.length + 4 + p.m) 0 p.n), (64, .int .i64 (p.n : Nat)), (65, .int .i64 (j : Nat))] (by rw [zAj]; rfl) ⟨Z, Z, Z, Z, Z, Z, Z, Z, Z, Z, Z, Z, Z, trivial⟩ (fun h hh => by rw [hfix] at hh; exact hh.elim)
   (zCQ hG _ (by rw [hlen, hXl]; exact Nat.le_add_right _ _) (fun o ho => by cases ho) (fun o ho => by
    simp only [List.mem_cons, List.mem_nil_iff, or_false] at ho
    rcases ho with e | e <;> cases e <;> exact fun i' j' hi' hj' => zFf _ _ _ hj')) (by rw [hlen]; simp [zCl, zBR, zf]; omega) ?_
  refine rn3 ?_
  exact zM ⟨j + 1, by omega, by omega, ⟨Z, Z, Z, Z, Z, Z, Z, Z, Z, Z, Z, Z, Z, trivial⟩, by rw [← hsj]⟩
 have hje : j = p.n := by omega
 rw [hje, hl0]
 clear hj h hje
 clear j
 have f1 := zBB (G := G) (F := none) (L := p.N + 1) (w := p.n + p.m) (k := p.m) (X := X) (d := d) (β := β) (T := [some ⟨120, zC WC⟩, some ⟨120, zC (zDG (zBh p) p.N ⟨X, d, β⟩ 0)⟩])
 rw [hβl] at f1
 refine rn15 ?_
 refine zh (ι := Nat) (fun i => [(1, .ptr 0 0 0), (2, .ptr 1 0 0), (3, .int .i64 (p.n : Nat)), (4, .int .i64 (p.m : Nat)), (5, .ptr G.length 0 0), (6, .ro (nsC ((List.range p.m).map p.fac)) 0 p.m), (7, .int .i64 (p.a : Nat)), (10, .sl (G.length + 4 + p.m) 0 p.n), (11, zf p.fc), (12, .sl (G.length + 4 + p.m + 1) 0 (p.N + 1)), (84, .sl (G.length + 2) 0 p.m), (85, .int .i64 (p.m : Nat)), (86, .int .i64 (i : Nat))]) (fun i => zY G none (p.N + 1) (p.n + p.m) p.m X d β [some ⟨120, zC WC⟩, some ⟨120, zC (zDG (zBh p) p.N ⟨X, d, β⟩ i)⟩]) (fun i => i ≤ p.m) (fun i => p.m - i) 0 ⟨⟨Z, Z, Z, Z, Z, Z, Z, Z, Z, Z, Z, Z, Z, trivial⟩, Z, Nat.zero_le _⟩ ?_
 clear f1
 intro i hi
 refine rn4 ?_
 refine zD Z (fun h => ?_) (fun h => ?_)
 ·have hi' : i < p.m := by omega
  have f2 := zFe (G := G) (F := none) (L := p.N + 1) (w := p.n + p.m) (k := p.m) (X := X) (d := d) (β := β) (T := [some ⟨120, zC WC⟩, some ⟨120, zC (zDG (zBh p) p.N ⟨X, d, β⟩ i)⟩])
  have g2 : i < (β.map (fun a : Nat => (a : Int))).length := by rw [List.length_map, hβl]; exact hi'
  have hcl := zHS (zBh p) p.N ⟨X, d, β⟩ i
  have hcl2 := zHS (zBh p) p.N ⟨X, d, β⟩ (i + 1)
  have hnx := fun j (hj : j < p.N + 1) => zOa (k := zBh p) (N := p.N) (s := ⟨X, d, β⟩) (i := i) hj
  have hsk := fun h => zOi (k := zBh p) (N := p.N) (s := ⟨X, d, β⟩) (i := i) h
  have hab := fun j (hj : j < p.N + 1) => hcab i j (by omega) hj
  have lI : (X.getD i []).length = p.N + 1 := hXr _ (zAr [] (by omega))
  generalize hC2 : (zDG (zBh p) p.N ⟨X, d, β⟩ (i + 1)) = C2 at *
  generalize hC1 : (zDG (zBh p) p.N ⟨X, d, β⟩ i) = C1 at *
  have q0 := zAk (G := G) (F := none) (L := p.N + 1) (w := p.n + p.m) (k := p.m) (X := X) (d := d) (β := β) (T := [some ⟨120, zC WC⟩, some ⟨120, zC C1⟩]) 0
  rw [hXl, Nat.add_zero] at q0
  by_cases hb : β.getD i 0 < p.n
  ·have g0 : β.getD i 0 < (zC WC).len := by show _ < WC.length; omega
   have cs := zED (WC.getD (β.getD i 0) 0)
   refine zGh ?_
   refine zA 16 (.int .i64 (β.getD i 0 : Nat)) Z (AEq.of_eq (by rw [zAz])) ?_
   refine zA 94 (.bool true) Z (AEq.of_eq (by rw [zAz, decide_eq_true (by show ((β.getD i 0 : Nat) : Int) < ((p.n : Nat) : Int); omega)])) ?_
   refine rn7 ?_
   refine zA 98 (zBD (WC.getD (β.getD i 0) 0)) Z (AEq.of_eq Z) ?_
   refine zB Z Z Z cs ?_
   refine rn3 ?_
   refine zD Z (fun h1 => ?_) (fun h1 => ?_)
   ·have hcc := hcs _ hb
    have bW := hWb _ hb
    clear f2 g2 q0
    refine rn3 ?_
    refine zh (ι := Nat) (fun j => [(1, .ptr 0 0 0), (2, .ptr 1 0 0), (3, .int .i64 (p.n : Nat)), (4, .int .i64 (p.m : Nat)), (5, .ptr G.length 0 0), (6, .ro (nsC ((List.range p.m).map p.fac)) 0 p.m), (7, .int .i64 (p.a : Nat)), (10, .sl (G.length + 4 + p.m) 0 p.n), (11, zf p.fc), (12, .sl (G.length + 4 + p.m + 1) 0 (p.N + 1)), (84, .sl (G.length + 2) 0 p.m), (85, .int .i64 (p.m : Nat)), (86, .int .i64 (i : Nat)), (15, .int .i64 (i : Nat)), (16, .int .i64 (β.getD i 0 : Nat)), (103, .int .i64 ((p.N + 1 : Nat))), (104, .int .i64 (j : Nat))]) (fun j => zY G none (p.N + 1) (p.n + p.m) p.m X d β [some ⟨120, zC WC⟩, some ⟨120, zC (chg (fun j => C2.getD j 0) 0 C1 j)⟩]) (fun j => j ≤ p.N + 1) (fun j => p.N + 1 - j) 0 ⟨⟨Z, Z, Z, Z, Z, Z, Z, Z, Z, Z, Z, Z, Z, Z, Z, Z, Z, trivial⟩, by rw [zDC], Nat.zero_le _⟩ ?_
    intro j hj
    refine rn4 ?_
    refine zD Z (fun h2 => ?_) (fun h2 => ?_)
    ·have hj' : j < p.N + 1 := by omega
     have hgj := zC5 (fun j => C2.getD j 0) 0 C1 (k := j) (i := j) (by omega)
     rw [if_neg (Nat.lt_irrefl j)] at hgj
     have hsj := zDp (fun j => C2.getD j 0) 0 C1 (k := j) (by omega)
     have hlj := zCm (fun j => C2.getD j 0) 0 C1 j
     have hnj := hnx j hj'
     rw [hcc, ← hgj] at hnj
     rw [hnj] at hsj
     have ab := hab j hj'
     rw [← hgj] at ab
     generalize chg (fun j => C2.getD j 0) 0 C1 j = Y at *
     have q1 := zBB (G := G) (F := none) (L := p.N + 1) (w := p.n + p.m) (k := p.m) (X := X) (d := d) (β := β) (T := [some ⟨120, zC WC⟩, some ⟨120, zC Y⟩])
     have q2 := zCk (G := G) (F := none) (L := p.N + 1) (w := p.n + p.m) (k := p.m) (X := X) (d := d) (β := β) (T := [some ⟨120, zC WC⟩, some ⟨120, zC Y⟩])
     have q3 := zCa (G := G) (F := none) (L := p.N + 1) (w := p.n + p.m) (k := p.m) (X := X) (d := d) (β := β) (T := [some ⟨120, zC WC⟩, some ⟨120, zC Y⟩]) (a := i) (by omega)
     have q4 := zAk (G := G) (F := none) (L := p.N + 1) (w := p.n + p.m) (k := p.m) (X := X) (d := d) (β := β) (T := [some ⟨120, zC WC⟩, some ⟨120, zC Y⟩]) 0
     have q5 := zAk (G := G) (F := none) (L := p.N + 1) (w := p.n + p.m) (k := p.m) (X := X) (d := d) (β := β) (T := [some ⟨120, zC WC⟩, some ⟨120, zC Y⟩]) 1
     rw [hXl] at q4 q5
     rw [Nat.add_zero] at q4
     have g3 : i < (zBr G.length X.length (p.N + 1)).len := by show i < X.length; omega
     have g4 : j < (zC (X.getD i [])).len := by show j < (X.getD i []).length; omega
     have g5 : j < (zC Y).len := by show j < Y.length; omega
     have bX := hXb i j hi' hj'
     have hp10 : (WC.getD (β.getD i 0) 0 * at2 X i j).natAbs ≤ 10 ^ (p.E k + p.T k) := by rw [Int.natAbs_mul, Nat.pow_add]; exact Nat.mul_le_mul bW bX
     have cm := zC1 (WC.getD (β.getD i 0) 0) (at2 X i j) (by have := hdD _ _ (by omega) bW; omega) (by have := hdD _ _ (by omega) bX; omega)
     have ca := zMl (Y.getD j 0) (WC.getD (β.getD i 0) 0 * at2 X i j) (by have := hdD _ _ (by omega) ab; omega) (by have := hdD _ _ (by omega) hp10; omega)
     refine rn1 ?_
     refine zo (by kernel_rfl) ?_
     refine zv (fuel := 1) [0, 1, 2, 3, 4, 5, 6, 7, 8, 9, 10, 11, 12, 13, 14, 15, 16, 17, 18, 19, 20, 21, 22] [(1, .ptr 0 0 0), (2, .ptr 1 0 0), (3, .int .i64 (p.n : Nat)), (4, .int .i64 (p.m : Nat)), (5, .ptr G.length 0 0), (6, .ro (nsC ((List.range p.m).map p.fac)) 0 p.m), (7, .int .i64 (p.a : Nat)), (10, .sl (G.length + 4 + p.m) 0 p.n), (11, zf p.fc), (12, .sl (G.length + 4 + p.m + 1) 0 (p.N + 1)), (84, .sl (G.length + 2) 0 p.m), (85, .int .i64 (p.m : Nat)), (86, .int .i64 (i : Nat)), (15, .int .i64 (i : Nat)), (16, .int .i64 (β.getD i 0 : Nat)), (103, .int .i64 ((p.N + 1 : Nat))), (104, .int .i64 (j : Nat)), (17, .int .i64 (j : Nat))] ⟨Z, Z, Z, Z, Z, Z, Z, Z, Z, Z, Z, Z, Z, Z, Z, Z, Z, Z, trivial⟩ (by kernel_rfl) (by decide) Z Z ?_
     refine zK Z Z (zL Z) ?_
     refine zK Z Z (zL Z) ?_
     refine zK Z Z (zL Z) ?_
     refine zK Z Z (zL Z) ?_
     refine zK Z Z (zZ Z Z Z (by assumption) (by rfl) (by first | (simp only [Nat.zero_add, Int.toNat_natCast, Int.toNat_zero]; exact Z) | exact Z) (by omega)) ?_
     refine zK Z Z (zAD Z Z Z Z (by assumption) (by rfl) (by rfl) (by first | exact Nat.zero_lt_one | assumption | omega)) ?_
     refine zK Z Z (zL Z) ?_
     refine zK Z Z (zL Z) ?_
     refine zK Z Z (zZ Z Z Z (by assumption) (by rfl) (by first | (simp only [Nat.zero_add, Int.toNat_natCast, Int.toNat_zero]; exact Z) | exact Z) (by omega)) ?_
     refine zK Z Z (zAD Z Z Z Z (by assumption) (by rfl) (by rfl) (by first | exact Nat.zero_lt_one | assumption | omega)) ?_
     refine zK Z Z (zL Z) ?_
     refine zK Z Z (zd Z) ?_
     refine zK Z Z (zJ Z Z Z Z Z Z) ?_
     refine zK Z Z (zAI Z Z Z (by assumption) (by rfl)) ?_
     refine zK Z Z (zL Z) ?_
     refine zK Z Z (zZ Z Z Z (by assumption) (by rfl) (by first | (simp only [Nat.zero_add, Int.toNat_natCast, Int.toNat_zero]; exact Z) | exact Z) (by omega)) ?_
     refine zK Z Z (zBA Z Z Z (by assumption) Z (by first | assumption | omega)) ?_
     refine zK Z Z (zL Z) ?_
     refine zK Z Z (zZ Z Z Z (by assumption) (by rfl) (by first | (simp only [Nat.zero_add, Int.toNat_natCast, Int.toNat_zero]; exact Z) | exact Z) (by omega)) ?_
     refine zK Z Z (zAD Z Z Z Z (by assumption) (by rfl) (by rfl) (by first | exact Nat.zero_lt_one | assumption | omega)) ?_
     refine zAc Z Z Z Z Z cm ?_
     refine zAc Z Z Z Z Z ca ?_
     refine zK Z Z (zZ Z Z Z (by assumption) (by rfl) (by first | (simp only [Nat.zero_add, Int.toNat_natCast, Int.toNat_zero]; exact Z) | exact Z) (by omega)) ?_
     refine zz ?_
     refine zH (is := [23]) (by kernel_rfl) (by simp) Z ⟨fun o ho => ?_, trivial⟩
     all_goals (cases ho)
     refine zN (c' := zC (Y.set j (Y.getD j 0 + WC.getD (β.getD i 0) 0 * at2 X i j))) Z Z Z q5 Z g5 (List.length_set ..) Z (zDM Y j _) ?_
     refine zR (zY G none (p.N + 1) (p.n + p.m) p.m X d β [some ⟨120, zC WC⟩, some ⟨120, zC (Y.set j (Y.getD j 0 + WC.getD (β.getD i 0) 0 * at2 X i j))⟩]) (by have q := zAP (G := G) (F := none) (L := p.N + 1) (w := p.n + p.m) (k := p.m) (X := X) (d := d) (β := β) (T := [some ⟨120, zC WC⟩, some ⟨120, zC Y⟩]) 1 (some ⟨120, zC (Y.set j (Y.getD j 0 + WC.getD (β.getD i 0) 0 * at2 X i j))⟩); rw [hXl] at q; exact q) ?_
     refine rn1 ?_
     refine zX (by kernel_rfl) ?_
     refine rn5 ?_
     exact zM ⟨j + 1, by omega, by omega, ⟨Z, Z, Z, Z, Z, Z, Z, Z, Z, Z, Z, Z, Z, Z, Z, Z, Z, trivial⟩, by rw [← hsj]⟩
    ·have hje : j = p.N + 1 := by omega
     subst hje
     rw [chg_to hcl hcl2]
     refine rn5 ?_
     exact zM ⟨i + 1, by omega, by omega, ⟨Z, Z, Z, Z, Z, Z, Z, Z, Z, Z, Z, Z, Z, trivial⟩, by rw [hC2]⟩
   ·have hz : WC.getD (β.getD i 0) 0 = 0 := Decidable.byContradiction (fun q => h1 (fun e => q (by rw [zI5] at e; exact e)))
    have e := hsk (hcz _ (fun q => q.2 hz))
    refine rn5 ?_
    exact zM ⟨i + 1, by omega, by omega, ⟨Z, Z, Z, Z, Z, Z, Z, Z, Z, Z, Z, Z, Z, trivial⟩, by rw [hC2, e]⟩
  ·have e := hsk (hcz _ (fun q => hb q.1))
   refine zGh ?_
   refine zA 94 (.bool false) Z (AEq.of_eq (by rw [zAz, decide_eq_false (by show ¬ ((β.getD i 0 : Nat) : Int) < ((p.n : Nat) : Int); omega)])) ?_
   refine rn6 ?_
   exact zM ⟨i + 1, by omega, by omega, ⟨Z, Z, Z, Z, Z, Z, Z, Z, Z, Z, Z, Z, Z, trivial⟩, by rw [hC2, e]⟩
 have hie : i = p.m := by omega
 rw [hie]
 clear hi h hie
 clear i
 have hLl := zHS (zBh p) p.N ⟨X, d, β⟩ p.m
 generalize (zDG (zBh p) p.N ⟨X, d, β⟩ p.m) = LC at *
 clear hcab hcs hcz hl0
 have q6 := zAk (G := G) (F := none) (L := p.N + 1) (w := p.n + p.m) (k := p.m) (X := X) (d := d) (β := β) (T := [some ⟨120, zC WC⟩, some ⟨120, zC LC⟩]) 1
 rw [hXl] at q6
 refine rn9 ?_
 refine zP1 (G.length + 4 + p.m) (G.length + 4 + p.m + 1) 12 (p.N + 1) (by omega) (by rw [hlen]; show G.length + 4 + p.m < G.length + 4 + p.m + 2; omega) q6 (by rw [hfix]; exact fun h => h) Z ?_
 refine zQH ((12, .sl (G.length + 4 + p.m) 0 (p.N + 1)) :: [(1, .ptr 0 0 0), (2, .ptr 1 0 0), (3, .int .i64 (p.n : Nat)), (4, .int .i64 (p.m : Nat)), (5, .ptr G.length 0 0), (6, .ro (nsC ((List.range p.m).map p.fac)) 0 p.m), (7, .int .i64 (p.a : Nat)), (11, zf p.fc)]) ⟨Z, zA4 (h := G.length + 4 + p.m) (L := [(1, .ptr 0 0 0), (2, .ptr 1 0 0), (3, .int .i64 (p.n : Nat)), (4, .int .i64 (p.m : Nat)), (5, .ptr G.length 0 0), (6, .ro (nsC ((List.range p.m).map p.fac)) 0 p.m), (7, .int .i64 (p.a : Nat)), (11, zf p.fc)]) ⟨Z, Z, Z, Z, Z, Z, Z, Z, trivial⟩ (by
  intro q hq
  simp only [List.mem_cons, List.mem_nil_iff, or_false] at hq
  rcases hq with rfl | rfl | rfl | rfl | rfl | rfl | rfl | rfl <;> simp [AV.forget, zf, zx (show G.length ≠ G.length + 4 + p.m by omega), zx (show 0 ≠ G.length + 4 + p.m by omega), zx (show 1 ≠ G.length + 4 + p.m by omega)])⟩ ?_
 refine zBH (zY G none (p.N + 1) (p.n + p.m) p.m X d β [some ⟨120, zC LC⟩, none]) (by
  have q := ze.set (ze.set (zJE (G := G) (L := p.N + 1) (w := p.n + p.m) (k := p.m) (X := X) (d := d) (β := β) (T := [some ⟨120, zC WC⟩, some ⟨120, zC LC⟩]) (T' := [some ⟨120, zC WC⟩, some ⟨120, zC LC⟩]) (G.length + 4 + p.m) (hFG _) (by omega) (by show ze [some (⟨_, (zC WC).forget _⟩ : AObj), some (⟨_, (zC LC).forget _⟩ : AObj)] _; rw [zBY, zBY]; exact ze.refl _)) (G.length + 4 + p.m) (x := some ⟨120, (zC LC).forget (G.length + 4 + p.m)⟩) (x' := some ⟨120, zC LC⟩) (fun o ho => by cases ho; exact ⟨_, rfl, rfl, by rw [zBY]; exact CEq.refl _⟩)) (G.length + 4 + p.m + 1) (x := none) (x' := none) (fun o ho => by cases ho)
  have e1 : (zY G none (p.N + 1) (p.n + p.m) p.m X d β [some ⟨120, zC WC⟩, some ⟨120, zC LC⟩]).set (G.length + 4 + p.m) (some ⟨120, zC LC⟩) = zY G none (p.N + 1) (p.n + p.m) p.m X d β [some ⟨120, zC LC⟩, some ⟨120, zC LC⟩] := by
   have q := zAP (G := G) (F := none) (L := p.N + 1) (w := p.n + p.m) (k := p.m) (X := X) (d := d) (β := β) (T := [some ⟨120, zC WC⟩, some ⟨120, zC LC⟩]) 0 (some ⟨120, zC LC⟩)
   rw [hXl] at q
   exact q
  have e2 := zAP (G := G) (F := none) (L := p.N + 1) (w := p.n + p.m) (k := p.m) (X := X) (d := d) (β := β) (T := [some ⟨120, zC LC⟩, some ⟨120, zC LC⟩]) 1 none
  rw [hXl] at e2
  rw [e1] at q
  exact (show ze _ _ from e2 ▸ q)) ?_
 refine zA3 (zY G none (p.N + 1) (p.n + p.m) p.m X d β [some ⟨120, zC LC⟩]) [none] ((12, .sl (G.length + 4 + p.m) 0 (p.N + 1)) :: [(1, .ptr 0 0 0), (2, .ptr 1 0 0), (3, .int .i64 (p.n : Nat)), (4, .int .i64 (p.m : Nat)), (5, .ptr G.length 0 0), (6, .ro (nsC ((List.range p.m).map p.fac)) 0 p.m), (7, .int .i64 (p.a : Nat)), (11, zf p.fc)]) (by rw [zAj]; rfl) ⟨Z, Z, Z, Z, Z, Z, Z, Z, Z, trivial⟩ (fun h hh => by rw [hfix] at hh; exact hh.elim)
  (zCQ hG _ (by rw [hlen, hXl]; exact Nat.le_add_right _ _) (fun o ho => by cases ho) (fun o ho => by cases List.mem_singleton.1 ho; exact fun i' j' hi' hj' => zFf _ _ _ hj')) (by rw [hlen]; simp [zCl, zBR, zf]; omega) ?_
 clear q6
 have f1 := zBB (G := G) (F := none) (L := p.N + 1) (w := p.n + p.m) (k := p.m) (X := X) (d := d) (β := β) (T := [some ⟨120, zC LC⟩])
 refine rn7 ?_
 refine zCj Z Z Z Z Z Z Z Z Z Z ?_
 refine zR (zY G none (p.N + 1) (p.n + p.m) p.m X d β [some ⟨120, zC LC⟩, some ⟨248, zB4 1 1 [.sl (G.length + 4 + p.m) 0 (p.N + 1)]⟩]) (by rw [zAj]; rfl) ?_
 refine zA 138 (.sl (G.length + 4 + p.m + 1) 0 1) Z (AEq.of_eq (by rw [hlen]; rfl)) ?_
 have f2 := zCk (G := G) (F := none) (L := p.N + 1) (w := p.n + p.m) (k := p.m) (X := X) (d := d) (β := β) (T := [some ⟨120, zC LC⟩, some ⟨248, zB4 1 1 [.sl (G.length + 4 + p.m) 0 (p.N + 1)]⟩])
 have f3 := zAk (G := G) (F := none) (L := p.N + 1) (w := p.n + p.m) (k := p.m) (X := X) (d := d) (β := β) (T := [some ⟨120, zC LC⟩, some ⟨248, zB4 1 1 [.sl (G.length + 4 + p.m) 0 (p.N + 1)]⟩]) 1
 rw [hXl] at f3
 have hol : (zBr G.length X.length (p.N + 1)).len = p.m := hXl
 skip
 refine zAG Z Z Z Z Z Z Z f2 Z hol Z (zIn f3) (by show 0 + 1 ≤ 1; omega) Z (by show (p.m + 1) * 24 ≤ _ ∧ _; omega) ?_ (by rw [hfix]; exact fun h => h) ?_
 ·intro i' j' hi' hj'
  obtain rfl := Nat.lt_one_iff.1 (show j' < 1 from hj')
  have q := (zEu G.length X.length (p.N + 1) (zB4 1 1 [AV.sl (G.length + 4 + p.m) 0 (p.N + 1)]) (by rw [hXl]; rfl)).2.2 i' 0 hi' Nat.zero_lt_one
  refine Eq.trans (congrArg (AV.forget _) q.symm) (Eq.trans ?_ q)
  show AV.forget _ (AV.sl (G.length + 4 + i') 0 (p.N + 1)) = _
  unfold AV.forget
  rw [zx (show G.length + 4 + i' ≠ G.length + 3 by omega)]; rfl
 refine zBw ((139, .sl (G.length + 3) 0 (p.m + 1)) :: (132, .ptr G.length 0 0) :: [(1, .ptr 0 0 0), (2, .ptr 1 0 0), (3, .int .i64 (p.n : Nat)), (4, .int .i64 (p.m : Nat)), (5, .ptr G.length 0 0), (6, .ro (nsC ((List.range p.m).map p.fac)) 0 p.m), (7, .int .i64 (p.a : Nat)), (11, zf p.fc)]) ⟨Z, zA4 (h := G.length + 3) (L := (132, .ptr G.length 0 0) :: [(1, .ptr 0 0 0), (2, .ptr 1 0 0), (3, .int .i64 (p.n : Nat)), (4, .int .i64 (p.m : Nat)), (5, .ptr G.length 0 0), (6, .ro (nsC ((List.range p.m).map p.fac)) 0 p.m), (7, .int .i64 (p.a : Nat)), (11, zf p.fc)]) ⟨Z, Z, Z, Z, Z, Z, Z, Z, Z, trivial⟩ (by
  intro q hq
  simp only [List.mem_cons, List.mem_nil_iff, or_false] at hq
  rcases hq with rfl | rfl | rfl | rfl | rfl | rfl | rfl | rfl | rfl <;> simp [AV.forget, zf, zx (show G.length ≠ G.length + 3 by omega), zx (show 0 ≠ G.length + 3 by omega), zx (show 1 ≠ G.length + 3 by omega)])⟩ ?_
 refine zAl (zKc G (p.N + 1) (p.n + p.m) (X ++ [LC]) d β [none]) (zLj (hFG _) (zEu G.length X.length (p.N + 1) _ (by rw [hXl]; rfl))) ?_
 refine rn7 ?_
 refine zCG Z Z Z Z zPe Z Z Nat.zero_lt_one ?_
 refine zR (zY G none (p.N + 1) (p.n + p.m) (p.m + 1) (X ++ [LC]) d β [none]) zQA ?_
 refine rn9 ?_
 have hl1 : (X ++ [LC]).length = p.m + 1 := by rw [List.length_append, hXl]; rfl
 refine zA3 (zY G none (p.N + 1) (p.n + p.m) (p.m + 1) (X ++ [LC]) d β []) [none] [(1, .ptr 0 0 0), (2, .ptr 1 0 0), (3, .int .i64 (p.n : Nat)), (4, .int .i64 (p.m : Nat)), (5, .ptr G.length 0 0), (6, .ro (nsC ((List.range p.m).map p.fac)) 0 p.m), (7, .int .i64 (p.a : Nat)), (11, zf p.fc)] (by rw [zAj]; rfl) ⟨Z, Z, Z, Z, Z, Z, Z, Z, trivial⟩ (fun h hh => by rw [hfix] at hh; exact hh.elim)
  (zCQ hG _ (by rw [zBM]; exact Nat.le_add_right _ _) (fun o ho => by cases ho) (fun o ho => by cases ho)) (by rw [zBM, hl1]; simp [zCl, zBR, zf]; omega) ?_
 refine zAV (stH G p.N (p.n + p.m) (p.m + 1) (ph2 p K)) (by rw [hlast]) ?_
 have cr := run_ok G hG p.m p.N (p.n + p.m) (M2 p) (ph2 p K) hph.1 hph.2.1 (zF5 p) L (hs.two hneg) (p.T k) (by omega) (by omega) (fun u hu => zEi hu (by omega) (zG9 hp hk)) (by omega)
 obtain ⟨hti, htf, _⟩ := zJD p hp K L h0
 have hfree := fun h => zQ9 (K := K) (L := L) hneg h
 have hbest := fun h => zRV (K := K) (L := L) hneg h
 obtain ⟨b1, b2⟩ := zEi hti (by omega) (zG9 hp hk)
 have hcle := col_le p (zD2 p K L)
 refine rn0 ?_
 refine zCd Z Z Z cr (fun _ h => h) (fun _ h => h) ?_
 rintro r' H' ⟨rfl, rfl⟩
 clear cr f1 f2 f3 hol hlast hXl hXr hXb hβl hdb hlen hl1 hph hs
 have e2 : zAn p.m p.N (p.n + p.m) (ph2 p K) L = zD2 p K L := rfl
 rw [e2]
 clear e2
 generalize zD2 p K L = t at *
 have hn' := hti.n
 have htb := hti.b
 have hrow := hti.row
 have hd : t.den ≠ 0 := by have := hti.dp; omega
 have f1 := zBB (G := G) (F := none) (L := p.N + 1) (w := p.n + p.m) (k := (p.m + 1)) (X := t.rows) (d := t.den) (β := t.basis) (T := [])
 have f2 := zCk (G := G) (F := none) (L := p.N + 1) (w := p.n + p.m) (k := (p.m + 1)) (X := t.rows) (d := t.den) (β := t.basis) (T := [])
 refine rn0 ?_
 refine zo (by kernel_rfl) ?_
 refine zFR (fuel := 4) [0, 1, 2, 3, 4, 5, 6, 7, 8, 9, 10, 11, 12, 13] [(1, .ptr 0 0 0), (2, .ptr 1 0 0), (3, .int .i64 (p.n : Nat)), (4, .int .i64 (p.m : Nat)), (5, .ptr G.length 0 0), (6, .ro (nsC ((List.range p.m).map p.fac)) 0 p.m), (7, .int .i64 (p.a : Nat)), (11, zf p.fc), (18, .int .i64 (resZ p.m (p.n + p.m) t))] ⟨Z, Z, Z, Z, Z, Z, Z, Z, Z, trivial⟩ (by kernel_rfl) (by decide) Z Z ?_
 refine zK Z Z (zL Z) ?_
 refine zK Z Z (zL Z) ?_
 refine zK Z Z (zd Z) ?_
 refine zK Z Z (zJ Z Z Z Z Z Z) ?_
 refine zK Z Z (zAI Z Z Z (by assumption) (by rfl)) ?_
 refine zK Z Z (zL Z) ?_
 refine zK Z Z (zFb Z Z f2 Z Z Z Z Z ⟨Z, by omega, by omega⟩) ?_
 refine zK Z Z (zL Z) ?_
 refine zK Z Z (zd Z) ?_
 refine zK Z Z (zJ Z Z Z Z Z Z) ?_
 refine zK Z Z (zAI Z Z Z (by assumption) (by rfl)) ?_
 refine zK Z Z (zL Z) ?_
 refine zK Z Z (zZ Z Z Z (by assumption) (by rfl) (by first | (simp only [Nat.zero_add, Int.toNat_natCast, Int.toNat_zero]; exact Z) | exact Z) (by omega)) ?_
 refine zK Z Z (zBA Z Z Z (by assumption) Z (by first | assumption | omega)) ?_
 refine zz ?_
 refine zw 14 Z (by kernel_rfl) (by kernel_rfl) (by kernel_rfl) Z (zd Z) Z ?_
 refine zw 15 Z (by kernel_rfl) (by kernel_rfl) (by kernel_rfl) Z (zJ Z Z Z Z Z Z) Z ?_
 refine zH (is := [16]) (by kernel_rfl) (by simp) Z ⟨fun o ho => ?_, trivial⟩
 all_goals (cases ho)
 refine zA 150 (.sl (G.length + 3) 0 p.m) Z (AEq.of_eq Z) ?_
 refine zCG Z Z Z Z f1 Z Z Nat.zero_lt_one ?_
 refine zR (zY G none (p.N + 1) (p.n + p.m) p.m t.rows t.den t.basis []) (zHw p.m (p.n + p.m) t.den) ?_
 refine rn1 ?_
 refine zw 17 Z (by kernel_rfl) (by kernel_rfl) (by kernel_rfl) Z (zi Z) Z ?_
 refine zX (by kernel_rfl) ?_
 repeat (refine zF ?_)
 refine zAN 12 (.sl (G.length + 4 + p.m) 0 (p.N + 1)) Z (AEq.of_eq Z) ?_
 clear f1 f2
 have hvl : (zBs p t).length = p.n := by unfold zBs; rw [zDn]; simp
 have hsb : ∀ i j, i < p.m + 1 → j < p.N + 1 → (zT (at2 t.rows i j).natAbs).length ≤ 400001 := fun i j hi hj => hdD _ _ (by omega) (b1 i j hi hj)
 have hdl : (zT t.den.natAbs).length ≤ 400001 := hdD _ _ (by omega) b2
 by_cases hc : zCX p.m (p.n + p.m) t < p.n + p.m
 ·rw [hfree hc] at hR
  have hw := zF5 p
  have cv := zFy G hG p.N (p.n + p.m) p.m t.rows t.den t.basis [] (fun m _ o ho => by cases ho) p.n (by omega) (by omega) (by omega) (by omega) hrow (by omega) hd (fun i hi => by have := hsb i p.N (by omega) (by omega); omega) (by omega)
  have cy := ray_ok G hG p.N (p.n + p.m) p.m t.rows t.den t.basis [] (fun m _ o ho => by cases ho) p.n (zCX p.m (p.n + p.m) t) (by omega) (by omega) (by omega) (by omega) (by omega) hrow (by omega) hd (fun i hi => by have := hsb i (zCX p.m (p.n + p.m) t) (by omega) (by omega); omega) (by omega)
  rw [htb] at cv cy
  have hrl : (zHc p t (zCX p.m (p.n + p.m) t)).length = p.n := by unfold zHc; rw [zDn]; exact zHB _ _
  refine zAN 18 (.int .i64 (zCX p.m (p.n + p.m) t : Nat)) Z (AEq.of_eq (by unfold resZ; rw [if_neg (by omega)])) ?_
  refine zJl ?_
  refine zCd Z Z Z cv (fun _ h => h) (fun _ h => h) ?_
  rintro r' H' ⟨rfl, rfl⟩
  repeat (refine zG (zL rfl) ?_)
  refine zCd Z Z Z cy (fun _ h => h) (fun _ h => h) ?_
  rintro r' H' ⟨rfl, rfl⟩
  repeat (refine zG (zA0 rfl rfl rfl rfl rfl rfl) ?_)
  refine zN (c' := .box [.int .i64 2, .ro (qsC (zBs p t)) 0 p.n, .nil, .ro (qsC (zHc p t (zCX p.m (p.n + p.m) t))) 0 p.n, .bool false, .nil, .nil]) Z Z Z (hg1 _ _ _ _ _) Z Nat.zero_lt_one Z Z (fun i' j' hi' hj' => ?_) ?_
  ·rw [if_pos (Nat.lt_one_iff.1 hi')]; rfl
  refine rn2 ?_
  refine zI hR (zGS Z (zPG (hg1 _ _ _ _ _)) Z Z Z) ?_
  show AV.agg _ = zKd _
  unfold zKd
  simp only [hvl, hrl]
  rfl
 ·rw [hbest hc] at hR
  have hce : zCX p.m (p.n + p.m) t = p.n + p.m := by omega
  refine zAN 18 (.int .i64 (-1)) Z (AEq.of_eq (by unfold resZ; rw [if_pos hce])) ?_
  have hfc : (zT ((p.fc : Nat) : Int).natAbs).length ≤ 400001 := hdD _ (k * p.n) (by have : k * p.n ≤ 100 * 30 := Nat.mul_le_mul hk40 hn; omega) (by rw [Int.natAbs_natCast]; exact fc_le hk)
  have hfp := zI7 p
  have hD : t.den * (p.fc : Nat) ≠ 0 := by
   have := Int.mul_pos hti.dp (show (0 : Int) < ((p.fc : Nat) : Int) by omega)
   omega
  have hkn : k * p.n ≤ 3000 := Nat.mul_le_mul hk40 hn
  have hpr : (t.den * (p.fc : Nat)).natAbs ≤ 10 ^ (p.T k + k * p.n) := by
   rw [Int.natAbs_mul, Int.natAbs_natCast, Nat.pow_add]
   exact Nat.mul_le_mul b2 (fc_le hk)
  have hpl := hdD _ _ (by omega) hpr
  have cm := zC1 t.den ((p.fc : Nat) : Int) (by omega) (by omega)
  rw [intA_nat] at cm
  have hw := zF5 p
  have q3 := zCa (G := G) (F := none) (L := p.N + 1) (w := p.n + p.m) (k := p.m) (X := t.rows) (d := t.den) (β := t.basis) (T := []) (a := p.m) (by omega)
  clear q3
  refine zJl ?_
  refine zR (zY G none (p.N + 1) (p.n + p.m) p.m t.rows t.den t.basis [some ⟨120, .box [.bool false, .nil]⟩]) (by rw [zAj]; rfl) ?_
  refine zA 19 (.ptr (G.length + 4 + (p.m + 1)) 0 0) Z (AEq.of_eq (by rw [zBM, hn']; rfl)) ?_
  refine zA 171 (.agg [.bool false, zf p.fc]) Z (AEq.of_eq Z) ?_
  have q0 := zAk (G := G) (F := none) (L := p.N + 1) (w := p.n + p.m) (k := p.m) (X := t.rows) (d := t.den) (β := t.basis) (T := [some ⟨120, .box [.bool false, .nil]⟩]) 0
  rw [hn', Nat.add_zero] at q0
  refine zN (c' := .box [.bool false, zf p.fc]) Z Z Z q0 Z Nat.zero_lt_one Z Z (fun i' j' hi' hj' => ?_) ?_
  ·rw [if_pos (Nat.lt_one_iff.1 hi')]; rfl
  refine zR (zY G none (p.N + 1) (p.n + p.m) p.m t.rows t.den t.basis [some ⟨120, .box [.bool false, zf p.fc]⟩]) (by have q := zAP (G := G) (F := none) (L := p.N + 1) (w := p.n + p.m) (k := p.m) (X := t.rows) (d := t.den) (β := t.basis) (T := [some ⟨120, .box [.bool false, .nil]⟩]) 0 (some ⟨120, .box [.bool false, zf p.fc]⟩); rw [hn', Nat.add_zero] at q; exact q) ?_
  clear q0
  refine rn0 ?_
  refine zAi 20 ⟨122, qsC ((List.range 0).map (fun i => Rat.divInt (at2 t.rows p.m (p.n + i)) (t.den * (p.fc : Nat))))⟩ Z Z ?_
  refine zAV (zY G none (p.N + 1) (p.n + p.m) p.m t.rows t.den t.basis [some ⟨120, .box [.bool false, zf p.fc]⟩, some ⟨122, qsC ((List.range 0).map (fun i => Rat.divInt (at2 t.rows p.m (p.n + i)) (t.den * (p.fc : Nat))))⟩]) (by rw [zAj]; rfl) ?_
  refine zAN 20 (.sl (G.length + 4 + (p.m + 1) + 1) 0 0) Z (AEq.of_eq (by rw [zBM, hn']; rfl)) ?_
  have hyl : ∀ i, ((List.range i).map (fun i => Rat.divInt (at2 t.rows p.m (p.n + i)) (t.den * (p.fc : Nat)))).length = i := fun i => by simp
  repeat (refine z7 ?_)
  refine zh (ι := Nat) (fun i => [(1, .ptr 0 0 0), (2, .ptr 1 0 0), (3, .int .i64 (p.n : Nat)), (4, .int .i64 (p.m : Nat)), (5, .ptr G.length 0 0), (6, .ro (nsC ((List.range p.m).map p.fac)) 0 p.m), (7, .int .i64 (p.a : Nat)), (11, zf p.fc), (12, .sl (G.length + 4 + p.m) 0 (p.N + 1)), (19, .ptr (G.length + 4 + (p.m + 1)) 0 0), (20, .sl (G.length + 4 + (p.m + 1) + 1) 0 i), (172, .int .i64 (p.m : Nat)), (173, .int .i64 (i : Nat))]) (fun i => zY G none (p.N + 1) (p.n + p.m) p.m t.rows t.den t.basis [some ⟨120, .box [.bool false, zf p.fc]⟩, some ⟨122, qsC ((List.range i).map (fun i => Rat.divInt (at2 t.rows p.m (p.n + i)) (t.den * (p.fc : Nat))))⟩]) (fun i => i ≤ p.m) (fun i => p.m - i) 0 ⟨⟨Z, Z, Z, Z, Z, Z, Z, Z, Z, Z, Z, Z, Z, trivial⟩, Z, Nat.zero_le _⟩ ?_
  intro i hi
  refine rn4 ?_
  refine zD Z (fun h => ?_) (fun h => ?_)
  ·have hi' : i < p.m := by omega
   have hys : ((List.range (i + 1)).map (fun i => Rat.divInt (at2 t.rows p.m (p.n + i)) (t.den * (p.fc : Nat)))) = ((List.range i).map (fun i => Rat.divInt (at2 t.rows p.m (p.n + i)) (t.den * (p.fc : Nat)))) ++ [Rat.divInt (at2 t.rows p.m (p.n + i)) (t.den * (p.fc : Nat))] := by rw [List.range_succ, List.map_append]; rfl
   have hyi := hyl i
   generalize ((List.range i).map (fun i => Rat.divInt (at2 t.rows p.m (p.n + i)) (t.den * (p.fc : Nat)))) = Y at *
   have q1 := zBB (G := G) (F := none) (L := p.N + 1) (w := p.n + p.m) (k := p.m) (X := t.rows) (d := t.den) (β := t.basis) (T := [some ⟨120, .box [.bool false, zf p.fc]⟩, some ⟨122, qsC Y⟩])
   have q3 := zCa (G := G) (F := none) (L := p.N + 1) (w := p.n + p.m) (k := p.m) (X := t.rows) (d := t.den) (β := t.basis) (T := [some ⟨120, .box [.bool false, zf p.fc]⟩, some ⟨122, qsC Y⟩]) (a := p.m) (by omega)
   have q4 := zAk (G := G) (F := none) (L := p.N + 1) (w := p.n + p.m) (k := p.m) (X := t.rows) (d := t.den) (β := t.basis) (T := [some ⟨120, .box [.bool false, zf p.fc]⟩, some ⟨122, qsC Y⟩]) 0
   have q5 := zAk (G := G) (F := none) (L := p.N + 1) (w := p.n + p.m) (k := p.m) (X := t.rows) (d := t.den) (β := t.basis) (T := [some ⟨120, .box [.bool false, zf p.fc]⟩, some ⟨122, qsC Y⟩]) 1
   rw [hn'] at q4 q5
   rw [Nat.add_zero] at q4
   have lm : (t.rows.getD p.m []).length = p.N + 1 := hrow _ (zAr [] (by omega))
   have g7 : p.n + i < (zC (t.rows.getD p.m [])).len := by show p.n + i < (t.rows.getD p.m []).length; omega
   have cfr := zIV (at2 t.rows p.m (p.n + i)) (t.den * (p.fc : Nat)) hD (by have := hsb p.m (p.n + i) (by omega) (by omega); omega) (by omega)
   refine rn1 ?_
   refine zo (by kernel_rfl) ?_
   refine zw 0 Z (by kernel_rfl) (by kernel_rfl) (by kernel_rfl) Z (zL Z) Z ?_
   refine zFR (fuel := 3) [1, 2, 3, 4, 5, 6, 7, 8, 9, 10, 11, 12, 13] [(1, .ptr 0 0 0), (2, .ptr 1 0 0), (3, .int .i64 (p.n : Nat)), (4, .int .i64 (p.m : Nat)), (5, .ptr G.length 0 0), (6, .ro (nsC ((List.range p.m).map p.fac)) 0 p.m), (7, .int .i64 (p.a : Nat)), (11, zf p.fc), (12, .sl (G.length + 4 + p.m) 0 (p.N + 1)), (19, .ptr (G.length + 4 + (p.m + 1)) 0 0), (20, .sl (G.length + 4 + (p.m + 1) + 1) 0 i), (172, .int .i64 (p.m : Nat)), (173, .int .i64 (i : Nat)), (21, .int .i64 (i : Nat)), (176, .sl (G.length + 4 + (p.m + 1) + 1) 0 i)] ⟨Z, Z, Z, Z, Z, Z, Z, Z, Z, Z, Z, Z, Z, Z, Z, trivial⟩ (by kernel_rfl) (by decide) Z Z ?_
   refine zK Z Z (zL Z) ?_
   refine zK Z Z (zL Z) ?_
   refine zK Z Z (zL Z) ?_
   refine zK Z Z (zCo Z Z (by omega)) ?_
   refine zK Z Z (zZ (ix := p.n + i) Z Z Z q3 Z (by show 0 + ((p.n : Nat) + (i : Nat) : Int).toNat = p.n + i; omega) (by omega)) ?_
   refine zK Z Z (zAD Z Z Z Z (by assumption) (by rfl) (by rfl) (by first | exact Nat.zero_lt_one | assumption | omega)) ?_
   refine zK Z Z (zL Z) ?_
   refine zK Z Z (zd Z) ?_
   refine zK Z Z (zJ Z Z Z Z Z Z) ?_
   refine zK Z Z (zCu Z Z Z Z (by assumption) (by rfl) (by rfl) (by first | exact Nat.zero_lt_one | assumption | omega)) ?_
   refine zK Z Z (zAD Z Z Z Z (by assumption) (by rfl) (by rfl) (by first | exact Nat.zero_lt_one | assumption | omega)) ?_
   refine zAc Z Z Z Z Z cm ?_
   refine zAc Z Z Z Z Z cfr ?_
   refine zz ?_
   unfold qA
   refine zH (is := [14]) (by kernel_rfl) (by simp) Z ⟨fun o ho => ?_, trivial⟩
   all_goals (cases ho)
   refine rn3 ?_
   refine zH (is := [15]) (by kernel_rfl) (by simp) Z ⟨fun o ho => ?_, trivial⟩
   all_goals (cases ho)
   refine zAG Z Z Z Z Z Z Z q5 Z hyi Z Z (by show 0 + 1 ≤ 1; omega) Z (by show (i + 1) * 56 ≤ _ ∧ _; omega) ?_ (by rw [hfix]; exact fun h => h) ?_
   ·intro i' j' hi' hj'
    exact zA9 0 3 zq zBS Y _ _ (zDb _) _ i' j' hi' hj'
   refine zBw ((191, .sl (G.length + 4 + (p.m + 1) + 1) 0 (i + 1)) :: [(1, .ptr 0 0 0), (2, .ptr 1 0 0), (3, .int .i64 (p.n : Nat)), (4, .int .i64 (p.m : Nat)), (5, .ptr G.length 0 0), (6, .ro (nsC ((List.range p.m).map p.fac)) 0 p.m), (7, .int .i64 (p.a : Nat)), (11, zf p.fc), (12, .sl (G.length + 4 + p.m) 0 (p.N + 1)), (19, .ptr (G.length + 4 + (p.m + 1)) 0 0), (172, .int .i64 (p.m : Nat)), (173, .int .i64 (i : Nat))]) ⟨Z, zA4 (h := G.length + 4 + (p.m + 1) + 1) (L := [(1, .ptr 0 0 0), (2, .ptr 1 0 0), (3, .int .i64 (p.n : Nat)), (4, .int .i64 (p.m : Nat)), (5, .ptr G.length 0 0), (6, .ro (nsC ((List.range p.m).map p.fac)) 0 p.m), (7, .int .i64 (p.a : Nat)), (11, zf p.fc), (12, .sl (G.length + 4 + p.m) 0 (p.N + 1)), (19, .ptr (G.length + 4 + (p.m + 1)) 0 0), (172, .int .i64 (p.m : Nat)), (173, .int .i64 (i : Nat))]) ⟨Z, Z, Z, Z, Z, Z, Z, Z, Z, Z, Z, Z, trivial⟩ (by
   intro q hq
   simp only [List.mem_cons, List.mem_nil_iff, or_false] at hq
   rcases hq with rfl | rfl | rfl | rfl | rfl | rfl | rfl | rfl | rfl | rfl | rfl | rfl <;> simp [AV.forget, zf, zx (show G.length ≠ G.length + 4 + (p.m + 1) + 1 by omega), zx (show 0 ≠ G.length + 4 + (p.m + 1) + 1 by omega), zx (show 1 ≠ G.length + 4 + (p.m + 1) + 1 by omega), zx (show G.length + 4 + p.m ≠ G.length + 4 + (p.m + 1) + 1 by omega), zx (show G.length + 4 + (p.m + 1) ≠ G.length + 4 + (p.m + 1) + 1 by omega)])⟩ ?_
   refine zAl (zY G none (p.N + 1) (p.n + p.m) p.m t.rows t.den t.basis [some ⟨120, .box [.bool false, zf p.fc]⟩, some ⟨122, qsC ((List.range (i + 1)).map (fun i => Rat.divInt (at2 t.rows p.m (p.n + i)) (t.den * (p.fc : Nat))))⟩]) (by
    rw [hys]
    have e : zY G none (p.N + 1) (p.n + p.m) p.m t.rows t.den t.basis [some ⟨120, .box [.bool false, zf p.fc]⟩, some ⟨122, qsC (Y ++ [Rat.divInt (at2 t.rows p.m (p.n + i)) (t.den * (p.fc : Nat))])⟩] = (zY G none (p.N + 1) (p.n + p.m) p.m t.rows t.den t.basis [some ⟨120, .box [.bool false, zf p.fc]⟩, none]).set (G.length + 4 + (p.m + 1) + 1) (some ⟨122, qsC (Y ++ [Rat.divInt (at2 t.rows p.m (p.n + i)) (t.den * (p.fc : Nat))])⟩) := by
     have q := zAP (G := G) (F := none) (L := p.N + 1) (w := p.n + p.m) (k := p.m) (X := t.rows) (d := t.den) (β := t.basis) (T := [some ⟨120, .box [.bool false, zf p.fc]⟩, none]) 1 (some ⟨122, qsC (Y ++ [Rat.divInt (at2 t.rows p.m (p.n + i)) (t.den * (p.fc : Nat))])⟩)
     rw [hn'] at q
     exact q.symm
    rw [e]
    exact ze.set (zJE (T := [some ⟨120, .box [.bool false, zf p.fc]⟩, some ⟨122, qsC Y⟩]) (T' := [some ⟨120, .box [.bool false, zf p.fc]⟩, none]) _ (hFG _) (by omega) (ze.same (ze.drop ze.nil))) _ (fun o ho => by cases ho; exact ⟨_, rfl, rfl, zBX 0 3 zq Y _ _ (zDb (Rat.divInt (at2 t.rows p.m (p.n + i)) (t.den * (p.fc : Nat))))⟩)) ?_
   refine rn1 ?_
   refine zw 16 Z (by kernel_rfl) (by kernel_rfl) (by kernel_rfl) Z (zi Z) Z ?_
   refine zX (by kernel_rfl) ?_
   refine rn5 ?_
   exact zM ⟨i + 1, by omega, by omega, ⟨Z, Z, Z, Z, Z, Z, Z, Z, Z, Z, Z, Z, Z, trivial⟩, Z⟩
  have hie : i = p.m := by omega
  rw [hie]
  clear hi h hie
  clear i
  obtain ⟨KK, hKK⟩ : ∃ KK, KK = 102300 := ⟨_, rfl⟩
  have cu := zKV ((List.range p.m).map (fun i => Rat.divInt (at2 t.rows p.m (p.n + i)) (t.den * (p.fc : Nat)))) ((List.range p.m).map p.fac) KK (by simp) (by simp; omega) (fun q hq => by
   obtain ⟨i, hi, rfl⟩ := List.mem_map.1 hq
   have hi : i < p.m := by simpa using hi
   exact (zGj hD (zDQ (Nat.le_trans (b1 p.m (p.n + i) (by omega) (by omega)) (Nat.pow_le_pow_right (by decide) (Nat.le_add_right _ (k * p.n))))) (zDQ hpr)).mono (by omega)) (fun q hq => by
   obtain ⟨i, hi, rfl⟩ := List.mem_map.1 hq
   have hi : i < p.m := by simpa using hi
   refine Nat.lt_of_lt_of_le (zDQ (zO8 hp hk hi)) (Nat.pow_le_pow_right (by decide) ?_)
   have : k * (p.n + 1) ≤ 100 * 31 := Nat.mul_le_mul hk40 (by omega)
   omega) (by omega)
  rw [hyl p.m, hfl] at cu
  have hy : zJK ((List.range p.m).map (fun i => Rat.divInt (at2 t.rows p.m (p.n + i)) (t.den * (p.fc : Nat)))) ((List.range p.m).map p.fac) p.m = yL p t (t.den * (p.fc : Nat)) := (yL_as p t (t.den * (p.fc : Nat))).symm
  rw [hy] at cu
  have hyl2 : (yL p t (t.den * (p.fc : Nat))).length = p.m := by simp [yL]
  have hym := hyl p.m
  generalize ((List.range p.m).map (fun i => Rat.divInt (at2 t.rows p.m (p.n + i)) (t.den * (p.fc : Nat)))) = Y at *
  have q5 := zAk (G := G) (F := none) (L := p.N + 1) (w := p.n + p.m) (k := p.m) (X := t.rows) (d := t.den) (β := t.basis) (T := [some ⟨120, .box [.bool false, zf p.fc]⟩, some ⟨122, qsC Y⟩]) 1
  rw [hn'] at q5
  refine rn9 ?_
  refine zAW (G.length + 4 + (p.m + 1) + 1) 20 p.m [(1, .ptr 0 0 0), (2, .ptr 1 0 0), (3, .int .i64 (p.n : Nat)), (4, .int .i64 (p.m : Nat)), (5, .ptr G.length 0 0), (6, .ro (nsC ((List.range p.m).map p.fac)) 0 p.m), (7, .int .i64 (p.a : Nat)), (11, zf p.fc), (12, .sl (G.length + 4 + p.m) 0 (p.N + 1)), (19, .ptr (G.length + 4 + (p.m + 1)) 0 0)] q5 (zBk _) Z (by show p.m ≤ Y.length; omega) ⟨Z, Z, Z, Z, Z, Z, Z, Z, Z, Z, trivial⟩ ?_
  refine zAV (zY G none (p.N + 1) (p.n + p.m) p.m t.rows t.den t.basis [some ⟨120, .box [.bool false, zf p.fc]⟩, none]) (by have q := zAP (G := G) (F := none) (L := p.N + 1) (w := p.n + p.m) (k := p.m) (X := t.rows) (d := t.den) (β := t.basis) (T := [some ⟨120, .box [.bool false, zf p.fc]⟩, some ⟨122, qsC Y⟩]) 1 none; rw [hn'] at q; exact q) ?_
  clear q5
  have q1 := zBB (G := G) (F := none) (L := p.N + 1) (w := p.n + p.m) (k := p.m) (X := t.rows) (d := t.den) (β := t.basis) (T := [some ⟨120, .box [.bool false, zf p.fc]⟩, none])
  have q3 := zCa (G := G) (F := none) (L := p.N + 1) (w := p.n + p.m) (k := p.m) (X := t.rows) (d := t.den) (β := t.basis) (T := [some ⟨120, .box [.bool false, zf p.fc]⟩, none]) (a := p.m) (by omega)
  have q4 := zAk (G := G) (F := none) (L := p.N + 1) (w := p.n + p.m) (k := p.m) (X := t.rows) (d := t.den) (β := t.basis) (T := [some ⟨120, .box [.bool false, zf p.fc]⟩, none]) 0
  rw [hn', Nat.add_zero] at q4
  have lm : (t.rows.getD p.m []).length = p.N + 1 := hrow _ (zAr [] (by omega))
  have g7 : p.N < (zC (t.rows.getD p.m [])).len := by show p.N < (t.rows.getD p.m []).length; omega
  have cfr := zIV (at2 t.rows p.m p.N) (t.den * (p.fc : Nat)) hD (by have := hsb p.m p.N (by omega) (by omega); omega) (by omega)
  have cv := zFy G hG p.N (p.n + p.m) p.m t.rows t.den t.basis [some ⟨120, .box [.bool false, zf p.fc]⟩, none] (fun m _ o ho => by
   simp only [List.mem_cons, List.mem_nil_iff, or_false] at ho
   rcases ho with e | e
   ·cases e
    intro i' j' hi' hj'
    match j', (show j' < 2 from hj') with
    | 0, _ => rfl
    | 1, _ => rfl
   ·cases e) p.n (by omega) (by omega) (by omega) (by omega) hrow (by omega) hd (fun i hi => by have := hsb i p.N (by omega) (by omega); omega) (by omega)
  rw [htb] at cv
  repeat (refine z8 ?_)
  refine zo (by kernel_rfl) ?_
  refine zv (fuel := 1) [0, 1, 2, 3, 4, 5, 6, 7, 8, 9, 10, 11, 12, 13, 14, 15, 16, 17, 18, 19] ((20, .ro (qsC Y) 0 p.m) :: [(1, .ptr 0 0 0), (2, .ptr 1 0 0), (3, .int .i64 (p.n : Nat)), (4, .int .i64 (p.m : Nat)), (5, .ptr G.length 0 0), (6, .ro (nsC ((List.range p.m).map p.fac)) 0 p.m), (7, .int .i64 (p.a : Nat)), (11, zf p.fc), (12, .sl (G.length + 4 + p.m) 0 (p.N + 1)), (19, .ptr (G.length + 4 + (p.m + 1)) 0 0)]) ⟨Z, Z, Z, Z, Z, Z, Z, Z, Z, Z, Z, trivial⟩ (by kernel_rfl) (by decide) Z Z ?_
  refine zK Z Z (zL Z) ?_
  refine zK Z Z (zL Z) ?_
  refine px_c Z Z Z Z Z cv ?_
  refine zK Z Z (zL Z) ?_
  refine zK Z Z (zL Z) ?_
  refine zAc Z Z Z Z Z cu ?_
  refine zK Z Z (zL Z) ?_
  refine zK Z Z (zL Z) ?_
  refine zK Z Z (zA5 Z Z Z) ?_
  refine zK Z Z (zEN Z Z (by omega)) ?_
  refine zK Z Z (zZ (ix := p.N) Z Z Z q3 Z (by show 0 + (((p.N + 1 : Nat) : Int) - 1).toNat = p.N; omega) (by omega)) ?_
  refine zK Z Z (zAD Z Z Z Z (by assumption) (by rfl) (by rfl) (by first | exact Nat.zero_lt_one | assumption | omega)) ?_
  refine zK Z Z (zL Z) ?_
  refine zK Z Z (zd Z) ?_
  refine zK Z Z (zJ Z Z Z Z Z Z) ?_
  refine zK Z Z (zCu Z Z Z Z (by assumption) (by rfl) (by rfl) (by first | exact Nat.zero_lt_one | assumption | omega)) ?_
  refine zK Z Z (zAD Z Z Z Z (by assumption) (by rfl) (by rfl) (by first | exact Nat.zero_lt_one | assumption | omega)) ?_
  refine zAc Z Z Z Z Z cm ?_
  refine zAc Z Z Z Z Z cfr ?_
  unfold qA
  refine zK Z Z (zA0 Z Z Z Z Z Z) ?_
  refine zz ?_
  refine zH (is := [20]) (by kernel_rfl) (by simp) Z ⟨fun o ho => ?_, trivial⟩
  all_goals (cases ho)
  refine zN (c' := .box ([.int .i64 0, .ro (qsC (zBs p t)) 0 p.n, .ro (qsC (yL p t (t.den * (p.fc : Nat)))) 0 p.m, .nil] ++ zq (Rat.divInt (at2 t.rows p.m p.N) (t.den * (p.fc : Nat))))) Z Z Z (hg1 _ _ _ _ _) Z Nat.zero_lt_one Z Z (fun i' j' hi' hj' => ?_) ?_
  ·rw [if_pos (Nat.lt_one_iff.1 hi')]; rfl
  refine rn1 ?_
  refine zX (by kernel_rfl) ?_
  refine rn0 ?_
  refine zI hR (zGS Z (zPG (hg1 _ _ _ _ _)) Z Z Z) ?_
  show AV.agg _ = zKd _
  unfold zKd
  simp only [hvl, hyl2]
  rfl
end Go.Proofs.YtnkealfaldjipaaGreatDoor
namespace Go.Ax
variable [Pins]
open Go.RowKit
section
variable {ind : Bool} {P : Program} {fn : Func} {c : Ctx} {fr : Fr} {H : zO} {k : List It}
variable {d : Option Nat} {ty : TypeId} {pos : String} {after : Array Edge} {g : Option (Nat × Bool)}
theorem zJA {x ix : Operand} {t e : TypeId} {u : TypeDesc} {inf : TypeInfo} {n : Nat} {L L' : List AV} {kk : IntKind} {m : Int} (ht : P.underlying t = some (.array n e)) (hi : P.info? e = some inf) (hu : P.underlying e = some u) (hua : zBq u = true) (hx : ev fr x = some (.agg L)) (hix : ev fr ix = some (.int kk m))
 (hv : (L.drop (m.toNat * inf.size)).take inf.size = L') (hb : 0 ≤ m ∧ m < n ∧ m.toNat * inf.size + inf.size ≤ L.length) : QOp ind P fn c fr H ⟨d, .index t x ix, ty, pos, after, g⟩ (.agg L') := by
 intro w a σ S hr
 have h1 := hr.evAt hx
 have h2 := hr.evInt hix
 subst hv
 generalize hz : a.eval x = z at h1
 cases h1 with
 | agg _ _ vs hl hv h1' =>
  have hsz : (vs.extract (m.toNat * inf.size) (m.toNat * inf.size + inf.size)).size = inf.size := by simp; omega
  have hlen : ((L.drop (m.toNat * inf.size)).take inf.size).length = inf.size := by simp; omega
  have hget : ∀ i, i < inf.size → (vs.extract (m.toNat * inf.size) (m.toNat * inf.size + inf.size)).getD i undef = vs.getD (m.toNat * inf.size + i) undef := by
   intro i hi'
   have h3 : m.toNat * inf.size + i < vs.size := by omega
   have h4 : i < (vs.extract (m.toNat * inf.size) (m.toNat * inf.size + inf.size)).size := by omega
   simp only [Array.getD, h3, h4, dite_true, Array.getInternal_eq_getElem, Array.getElem_extract]
  refine ⟨.agg (vs.extract (m.toNat * inf.size) (m.toNat * inf.size + inf.size)), .agg _ _ _ (by rw [hsz, hlen]) (fun i hi' => ?_) (fun i hi' => ?_), fun w' _ => ?_⟩
  ·rw [hlen] at hi'
   rw [hget i hi']
   have e : ((L.drop (m.toNat * inf.size)).take inf.size).getD i .any = L.getD (m.toNat * inf.size + i) .any := by
    simp only [List.getD, List.getElem?_take, if_pos hi', List.getElem?_drop]
   rw [e]
   exact hv _ (by omega)
  ·rw [hlen] at hi'
   rw [hget i hi']
   exact h1' _ (by omega)
  ·simp [execOp, hz, h2, Instr.index, asIntOf, run_underlying ht, hb.1, hb.2.1, sizeOf, typeInfo, hi, part, zC0 hu, hua]
end
theorem zPL {l l' : List AV} (h : AEqs l l') : AEq (.agg l) (.agg l') := by
 intro w S σ v hv
 have hl := h.length
 cases hv with
 | agg _ _ vs h1 h2 h3 => exact .agg _ _ _ (h1.trans hl) (fun i hi => h.get i (by omega) _ _ _ _ (h2 i (by omega))) (fun i hi => h3 i (by omega))
end Go.Ax
namespace Go.Proofs.YtnkealfaldjipaaGreatDoor
open Go.Ax Go.Ax.Bg Go.Ax.Rt Go.RowKit Go.Ax.Dt Go.Ax.Sx
attribute [local irreducible] Ax zBZ QOp zS zBC
set_option maxRecDepth 100000
set_option maxHeartbeats 4000000
theorem zLt (p : Prog) (K L : Nat) : ((zAF p K L).kind = 1 → (zAF p K L).X = []) ∧ ((zAF p K L).kind = 2 → (zAF p K L).Y = []) ∧ ((zAF p K L).kind ≠ 2 → (zAF p K L).R = []) ∧ ((zAF p K L).kind < 3) := by
 unfold zAF
 split
 ·exact ⟨fun _ => rfl, fun h => absurd (show (1 : Nat) = 2 from h) (by decide), fun _ => rfl, show (1 : Nat) < 3 by decide⟩
 ·split
  ·exact ⟨fun h => absurd (show (2 : Nat) = 1 from h) (by decide), fun _ => rfl, fun h => absurd Z h, show (2 : Nat) < 3 by decide⟩
  ·exact ⟨fun h => absurd (show (0 : Nat) = 1 from h) (by decide), fun h => absurd (show (0 : Nat) = 2 from h) (by decide), fun _ => rfl, show (0 : Nat) < 3 by decide⟩
theorem zCp (n : Nat) (l : List AV) (h : zCP n l = true) : zBu n (.box l) := fun i j _ hj => zDR h j hj
theorem zMb (l : List Rat) (hl : l.length ≤ 1000000) (hs : ∀ q ∈ l, Sz 100000 q) (hf : ∀ q ∈ l, zCM q = true) : ∃ r : AV, zU Tryz.prog 80 [.ro (qsC l) 0 l.length] (.tup [r, .int .i64 0]) ∧ AEq r (.ro (.strs (l.map zj)) 0 (l.map zj).length) := by
 obtain ⟨r, h1, h2⟩ := zIw l hl hs
 have e : zCY l = (l.map zj, 0) := by unfold zCY; rw [if_pos (List.all_eq_true.2 hf)]
 rw [e] at h1 h2
 exact ⟨r, h1, h2⟩
theorem zKm (A : List (List zp)) (B C : List zp) (h : ShortPr ⟨A, B, C⟩) (hc : zAa ⟨A, B, C⟩ ≠ 0) :
 zU Tryz.prog 51 [.agg [.ro (zr A) 0 A.length, .ro (.strs B) 0 B.length, .ro (.strs C) 0 C.length]] (.tup [.agg [.int .i64 0, .nil, .nil, .nil, .str []], .int .i64 (zAa ⟨A, B, C⟩)]) := by
 have c0 := zEw A B C h
 generalize zAa ⟨A, B, C⟩ = e at *
 refine zS.value0 (zE (P := Tryz.prog) (fn := Tryz.f51) Z Z (by kernel_rfl) Z (fun c hR hfix => ?_)) (fix := fun _ => False) (fun _ h => h) Z Z
 refine rn6 ?_
 refine zA 13 (.agg [.ro (zr A) 0 A.length, .ro (.strs B) 0 B.length, .ro (.strs C) 0 C.length]) Z (AEq.of_eq Z) ?_
 refine zB Z Z Z c0 ?_
 refine rn3 ?_
 refine zD Z (fun _ => ?_) (fun hx => absurd hc (fun q => hx q))
 refine zGh ?_
 refine zN (c' := .box [.int .i64 0, .nil, .nil, .nil, .str []]) Z Z Z Z Z Nat.zero_lt_one Z Z (fun i' j' hi' hj' => ?_) ?_
 ·rw [if_pos (Nat.lt_one_iff.1 hi')]; rfl
 refine rn2 ?_
 exact zI hR Z Z
theorem zLU (A : List (List zp)) (B C : List zp) (h : ShortPr ⟨A, B, C⟩) (hc : zAa ⟨A, B, C⟩ = 0) (k K L : Nat) (hk : (Prob.prog ⟨A, B, C⟩).Dig k) (hk40 : k ≤ 100) (hB : B.length ≤ 30) (hC : C.length ≤ 30) (hs : Stops (Prob.prog ⟨A, B, C⟩) K L) (hf : zFA (zAF (Prob.prog ⟨A, B, C⟩) K L) = true)
 (hD : (∀ q ∈ (zAF (Prob.prog ⟨A, B, C⟩) K L).X, D 900 q) ∧ (∀ q ∈ (zAF (Prob.prog ⟨A, B, C⟩) K L).Y, D 900 q) ∧ (∀ q ∈ (zAF (Prob.prog ⟨A, B, C⟩) K L).R, D 900 q) ∧ D 900 (zAF (Prob.prog ⟨A, B, C⟩) K L).V)
 (hl : (zAF (Prob.prog ⟨A, B, C⟩) K L).X.length ≤ 1000 ∧ (zAF (Prob.prog ⟨A, B, C⟩) K L).Y.length ≤ 1000 ∧ (zAF (Prob.prog ⟨A, B, C⟩) K L).R.length ≤ 1000) :
 zU Tryz.prog 51 [.agg [.ro (zr A) 0 A.length, .ro (.strs B) 0 B.length, .ro (.strs C) 0 C.length]]
  (.tup [.agg [.int .i64 ((zAd (zAF (Prob.prog ⟨A, B, C⟩) K L)).kind : Nat), .ro (.strs (zAd (zAF (Prob.prog ⟨A, B, C⟩) K L)).X) 0 (zAd (zAF (Prob.prog ⟨A, B, C⟩) K L)).X.length, .ro (.strs (zAd (zAF (Prob.prog ⟨A, B, C⟩) K L)).Y) 0 (zAd (zAF (Prob.prog ⟨A, B, C⟩) K L)).Y.length, .ro (.strs (zAd (zAF (Prob.prog ⟨A, B, C⟩) K L)).R) 0 (zAd (zAF (Prob.prog ⟨A, B, C⟩) K L)).R.length, .str (zAd (zAF (Prob.prog ⟨A, B, C⟩) K L)).V], .int .i64 0]) := by
 have c0 := zEw A B C h
 rw [hc] at c0
 have hip := zAg hc
 have hcR := Run_ok (Prob.prog ⟨A, B, C⟩) k K L hip.Ok hk (by rw [zFg]; exact hB) (by rw [zFD]; exact hC) hk40 hs
 have c1 := sin_ok A B C (by have e : A.length = B.length := hip.m.rows; omega) (fun r hr => ⟨Nat.le_trans (Nat.le_of_eq (hip.m.cols r hr)) (Nat.le_trans hC (by decide)), fun s hs => ⟨(h.r r hr).2 s hs, hip.m.ok r hr s hs⟩⟩) (by omega) (fun s hs => ⟨h.bs s hs, zAS (zAJ hip.b).2 s hs⟩) (by omega) (fun s hs => ⟨h.cs s hs, zAS (zAJ hip.c).2 s hs⟩)
 have eA : (Prob.prog ⟨A, B, C⟩).A.length = A.length := by show (inM A).length = _; unfold inM; rw [List.length_map]
 have eB : (Prob.prog ⟨A, B, C⟩).B.length = B.length := zFg _
 have eC : (Prob.prog ⟨A, B, C⟩).C.length = C.length := zFD _
 rw [eA, eB, eC] at hcR
 obtain ⟨n1, n2, n3, n4⟩ := zLt (Prob.prog ⟨A, B, C⟩) K L
 have hcR : zU Tryz.prog 118 [zMv A B C] (zKd (zAF (Prob.prog ⟨A, B, C⟩) K L)) := hcR
 generalize zAF (Prob.prog ⟨A, B, C⟩) K L = r at *
 obtain ⟨f1, f2, f3, f4⟩ := zE0 hf
 obtain ⟨rX, oX, aX⟩ := zMb r.X (by omega) (fun q hq => zGG ((hD.1 q hq).mono (by omega))) f1
 obtain ⟨rY, oY, aY⟩ := zMb r.Y (by omega) (fun q hq => zGG ((hD.2.1 q hq).mono (by omega))) f2
 obtain ⟨rR, oR, aR⟩ := zMb r.R (by omega) (fun q hq => zGG ((hD.2.2.1 q hq).mono (by omega))) f3
 obtain ⟨VC, hVC, hVl⟩ : ∃ VC : List AV, (r.kind = 0 → VC = zq r.V) ∧ AEq (zKd r) (.agg ([.int .i64 (r.kind : Nat), .ro (qsC r.X) 0 r.X.length, .ro (qsC r.Y) 0 r.Y.length, .ro (qsC r.R) 0 r.R.length] ++ VC)) ∧ VC.length = 3 ∧ ∀ n, zCP n VC = true := by
  refine ⟨if r.kind = 0 then zq r.V else [.bool false, .nil, .nil], fun e => if_pos e, ?_, ?_⟩
  ·unfold zKd
   refine zPL ⟨AEq.rfl', ?_, ?_, ?_, ?_⟩
   ·by_cases e : r.kind = 1
    ·rw [if_pos e, n1 e]; exact AEq.nil
    ·rw [if_neg e]; exact AEq.rfl'
   ·by_cases e : r.kind = 2
    ·rw [if_pos e, n2 e]; exact AEq.nil
    ·rw [if_neg e]; exact AEq.rfl'
   ·by_cases e : r.kind = 2
    ·rw [if_pos e]; exact AEq.rfl'
    ·rw [if_neg e, n3 e]; exact AEq.nil
   ·by_cases e : r.kind = 0
    ·rw [if_pos e]; exact ⟨AEq.rfl', AEq.rfl', AEq.rfl', trivial⟩
    ·rw [if_neg e]; exact ⟨AEq.rfl', AEq.rfl', AEq.rfl', trivial⟩
  ·refine ⟨by split <;> rfl, fun n => ?_⟩
   split <;> rfl
 obtain ⟨v1, v2, v3, rfl⟩ : ∃ v1 v2 v3, VC = [v1, v2, v3] := by
  match VC, hVl.2.1 with
  | [a, b, c], _ => exact ⟨a, b, c, rfl⟩
 have hvb := hVl.2.2
 refine zS.value0 (zE (P := Tryz.prog) (fn := Tryz.f51) Z Z (by kernel_rfl) Z (fun c hR hfix => ?_)) (fix := fun _ => False) (fun _ h => h) Z Z
 have hR' : c.R = fun r' _ => r' = .tup [.agg [.int .i64 (r.kind : Nat), .ro (.strs (r.X.map zj)) 0 (r.X.map zj).length, .ro (.strs (r.Y.map zj)) 0 (r.Y.map zj).length, .ro (.strs (r.R.map zj)) 0 (r.R.map zj).length, .str (if r.kind = 0 then zj r.V else [])], .int .i64 0] := hR
 clear hR
 unfold zMv at hcR c1
 refine rn6 ?_
 refine zA 13 (.agg [.ro (zr A) 0 A.length, .ro (.strs B) 0 B.length, .ro (.strs C) 0 C.length]) Z (AEq.of_eq Z) ?_
 refine zB Z Z Z c0 ?_
 refine rn6 ?_
 refine zA 19 (.agg [.ro (zr A) 0 A.length, .ro (.strs B) 0 B.length, .ro (.strs C) 0 C.length]) Z (AEq.of_eq Z) ?_
 refine zB Z Z Z c1 ?_
 refine zB Z Z Z hcR ?_
 refine zA 21 _ Z hVl.1 ?_
 repeat (refine zBV rfl rfl rfl ?_)
 refine zR [some ⟨85, .box [.ro (zr A) 0 A.length, .ro (.strs B) 0 B.length, .ro (.strs C) 0 C.length]⟩, some ⟨88, .box [.int .i64 0, .nil, .nil, .nil, .str []]⟩, some ⟨185, .box [.int .i64 0, .nil, .nil, .nil, .bool false, .nil, .nil]⟩] Z ?_
 refine zN (c' := .box ([.int .i64 (r.kind : Nat), .ro (qsC r.X) 0 r.X.length, .ro (qsC r.Y) 0 r.Y.length, .ro (qsC r.R) 0 r.R.length] ++ [v1, v2, v3])) Z Z Z Z Z Nat.zero_lt_one Z Z (fun i' j' hi' hj' => ?_) ?_
 ·rw [if_pos (Nat.lt_one_iff.1 hi')]; rfl
 refine zJl ?_
 refine zR [some ⟨85, .box [.ro (zr A) 0 A.length, .ro (.strs B) 0 B.length, .ro (.strs C) 0 C.length]⟩, some ⟨88, .box [.int .i64 0, .nil, .nil, .nil, .str []]⟩, some ⟨185, .box ([.int .i64 (r.kind : Nat), .ro (qsC r.X) 0 r.X.length, .ro (qsC r.Y) 0 r.Y.length, .ro (qsC r.R) 0 r.R.length] ++ [v1, v2, v3])⟩, some ⟨88, .box [.int .i64 0, .nil, .nil, .nil, .str []]⟩] Z ?_
 refine zN (c' := .box [.int .i64 (r.kind : Nat), .nil, .nil, .nil, .str []]) Z Z Z Z Z Nat.zero_lt_one Z Z (fun i' j' hi' hj' => ?_) ?_
 ·rw [if_pos (Nat.lt_one_iff.1 hi')]; rfl
 refine zGh ?_
 refine zh (ι := Nat) (fun k => [(2, .ptr 1 0 0), (5, .ptr 2 0 0), (6, .ptr 3 0 0), (37, .agg [.ptr 3 0 1, .ro (qsC r.X) 0 r.X.length, .ptr 3 0 2, .ro (qsC r.Y) 0 r.Y.length, .ptr 3 0 3, .ro (qsC r.R) 0 r.R.length]), (38, .int .i64 (k : Nat))]) (fun k => [some ⟨85, .box [.ro (zr A) 0 A.length, .ro (.strs B) 0 B.length, .ro (.strs C) 0 C.length]⟩, some ⟨88, .box [.int .i64 0, .nil, .nil, .nil, .str []]⟩, some ⟨185, .box ([.int .i64 (r.kind : Nat), .ro (qsC r.X) 0 r.X.length, .ro (qsC r.Y) 0 r.Y.length, .ro (qsC r.R) 0 r.R.length] ++ [v1, v2, v3])⟩, some ⟨88, .box [.int .i64 (r.kind : Nat), if 1 ≤ k then .ro (.strs (r.X.map zj)) 0 (r.X.map zj).length else .nil, if 2 ≤ k then .ro (.strs (r.Y.map zj)) 0 (r.Y.map zj).length else .nil, if 3 ≤ k then .ro (.strs (r.R.map zj)) 0 (r.R.map zj).length else .nil, .str []]⟩]) (fun k => k ≤ 3) (fun k => 3 - k) 0 ⟨⟨Z, Z, Z, Z, Z, trivial⟩, Z, by decide⟩ ?_
 intro j hj
 refine rn4 ?_
 refine zD Z (fun h2 => ?_) (fun h2 => ?_)
 ·have hk2 : j = 0 ∨ j = 1 ∨ j = 2 := by omega
  rcases hk2 with rfl | rfl | rfl
  ·refine rn1 ?_
   refine zG (zJA Z Z Z Z Z Z Z ⟨(by show (0 : Int) ≤ ((0 : Nat) : Int); decide), (by show ((0 : Nat) : Int) < ((3 : Nat) : Int); decide), (by show 0 * 2 + 2 ≤ 6; decide)⟩) ?_
   repeat (refine zBV rfl rfl rfl ?_)
   refine zN (c' := .box [.ptr 3 0 1, .ro (qsC r.X) 0 r.X.length]) Z Z Z Z Z Nat.zero_lt_one Z Z (fun i' j' hi' hj' => ?_) ?_
   ·rw [if_pos (Nat.lt_one_iff.1 hi')]; rfl
   refine rn5 ?_
   refine zB Z Z Z oX ?_
   refine zJi ?_
   refine zA 53 (.ro (.strs (r.X.map zj)) 0 (r.X.map zj).length) Z aX ?_
   refine zEg ?_
   refine zF ?_
   refine zA3 [some ⟨85, .box [.ro (zr A) 0 A.length, .ro (.strs B) 0 B.length, .ro (.strs C) 0 C.length]⟩, some ⟨88, .box [.int .i64 0, .nil, .nil, .nil, .str []]⟩, some ⟨185, .box ([.int .i64 (r.kind : Nat), .ro (qsC r.X) 0 r.X.length, .ro (qsC r.Y) 0 r.Y.length, .ro (qsC r.R) 0 r.R.length] ++ [v1, v2, v3])⟩, some ⟨88, .box [.int .i64 (r.kind : Nat), .ro (.strs (r.X.map zj)) 0 (r.X.map zj).length, .nil, .nil, .str []]⟩] [some ⟨191, .box [.ptr 3 0 1, .ro (qsC r.X) 0 r.X.length]⟩] [(2, .ptr 1 0 0), (5, .ptr 2 0 0), (6, .ptr 3 0 0), (37, .agg [.ptr 3 0 1, .ro (qsC r.X) 0 r.X.length, .ptr 3 0 2, .ro (qsC r.Y) 0 r.Y.length, .ptr 3 0 3, .ro (qsC r.R) 0 r.R.length]), (38, .int .i64 (0 : Nat))] Z ⟨Z, Z, Z, Z, Z, trivial⟩ (fun h hh => by rw [hfix] at hh; exact hh.elim) (fun h o ho => by
    match h, ho with
    | 0, ho => cases ho; exact zCp _ _ rfl
    | 1, ho => cases ho; exact zCp _ _ rfl
    | 2, ho => cases ho; exact zCp _ _ (hvb 4)
    | 3, ho => cases ho; exact zCp _ _ rfl) rfl ?_
   refine rn3 ?_
   exact zM ⟨1, by decide, by decide, ⟨Z, Z, Z, Z, Z, trivial⟩, Z⟩
  ·refine rn1 ?_
   refine zG (zJA Z Z Z Z Z Z Z ⟨(by show (0 : Int) ≤ ((1 : Nat) : Int); decide), (by show ((1 : Nat) : Int) < ((3 : Nat) : Int); decide), (by show 1 * 2 + 2 ≤ 6; decide)⟩) ?_
   repeat (refine zBV rfl rfl rfl ?_)
   refine zN (c' := .box [.ptr 3 0 2, .ro (qsC r.Y) 0 r.Y.length]) Z Z Z Z Z Nat.zero_lt_one Z Z (fun i' j' hi' hj' => ?_) ?_
   ·rw [if_pos (Nat.lt_one_iff.1 hi')]; rfl
   refine rn5 ?_
   refine zB Z Z Z oY ?_
   refine zJi ?_
   refine zA 53 (.ro (.strs (r.Y.map zj)) 0 (r.Y.map zj).length) Z aY ?_
   refine zEg ?_
   refine zF ?_
   refine zA3 [some ⟨85, .box [.ro (zr A) 0 A.length, .ro (.strs B) 0 B.length, .ro (.strs C) 0 C.length]⟩, some ⟨88, .box [.int .i64 0, .nil, .nil, .nil, .str []]⟩, some ⟨185, .box ([.int .i64 (r.kind : Nat), .ro (qsC r.X) 0 r.X.length, .ro (qsC r.Y) 0 r.Y.length, .ro (qsC r.R) 0 r.R.length] ++ [v1, v2, v3])⟩, some ⟨88, .box [.int .i64 (r.kind : Nat), .ro (.strs (r.X.map zj)) 0 (r.X.map zj).length, .ro (.strs (r.Y.map zj)) 0 (r.Y.map zj).length, .nil, .str []]⟩] [some ⟨191, .box [.ptr 3 0 2, .ro (qsC r.Y) 0 r.Y.length]⟩] [(2, .ptr 1 0 0), (5, .ptr 2 0 0), (6, .ptr 3 0 0), (37, .agg [.ptr 3 0 1, .ro (qsC r.X) 0 r.X.length, .ptr 3 0 2, .ro (qsC r.Y) 0 r.Y.length, .ptr 3 0 3, .ro (qsC r.R) 0 r.R.length]), (38, .int .i64 (1 : Nat))] Z ⟨Z, Z, Z, Z, Z, trivial⟩ (fun h hh => by rw [hfix] at hh; exact hh.elim) (fun h o ho => by
    match h, ho with
    | 0, ho => cases ho; exact zCp _ _ rfl
    | 1, ho => cases ho; exact zCp _ _ rfl
    | 2, ho => cases ho; exact zCp _ _ (hvb 4)
    | 3, ho => cases ho; exact zCp _ _ rfl) rfl ?_
   refine rn3 ?_
   exact zM ⟨2, by decide, by decide, ⟨Z, Z, Z, Z, Z, trivial⟩, Z⟩
  ·refine rn1 ?_
   refine zG (zJA Z Z Z Z Z Z Z ⟨(by show (0 : Int) ≤ ((2 : Nat) : Int); decide), (by show ((2 : Nat) : Int) < ((3 : Nat) : Int); decide), (by show 2 * 2 + 2 ≤ 6; decide)⟩) ?_
   repeat (refine zBV rfl rfl rfl ?_)
   refine zN (c' := .box [.ptr 3 0 3, .ro (qsC r.R) 0 r.R.length]) Z Z Z Z Z Nat.zero_lt_one Z Z (fun i' j' hi' hj' => ?_) ?_
   ·rw [if_pos (Nat.lt_one_iff.1 hi')]; rfl
   refine rn5 ?_
   refine zB Z Z Z oR ?_
   refine zJi ?_
   refine zA 53 (.ro (.strs (r.R.map zj)) 0 (r.R.map zj).length) Z aR ?_
   refine zEg ?_
   refine zF ?_
   refine zA3 [some ⟨85, .box [.ro (zr A) 0 A.length, .ro (.strs B) 0 B.length, .ro (.strs C) 0 C.length]⟩, some ⟨88, .box [.int .i64 0, .nil, .nil, .nil, .str []]⟩, some ⟨185, .box ([.int .i64 (r.kind : Nat), .ro (qsC r.X) 0 r.X.length, .ro (qsC r.Y) 0 r.Y.length, .ro (qsC r.R) 0 r.R.length] ++ [v1, v2, v3])⟩, some ⟨88, .box [.int .i64 (r.kind : Nat), .ro (.strs (r.X.map zj)) 0 (r.X.map zj).length, .ro (.strs (r.Y.map zj)) 0 (r.Y.map zj).length, .ro (.strs (r.R.map zj)) 0 (r.R.map zj).length, .str []]⟩] [some ⟨191, .box [.ptr 3 0 3, .ro (qsC r.R) 0 r.R.length]⟩] [(2, .ptr 1 0 0), (5, .ptr 2 0 0), (6, .ptr 3 0 0), (37, .agg [.ptr 3 0 1, .ro (qsC r.X) 0 r.X.length, .ptr 3 0 2, .ro (qsC r.Y) 0 r.Y.length, .ptr 3 0 3, .ro (qsC r.R) 0 r.R.length]), (38, .int .i64 (2 : Nat))] Z ⟨Z, Z, Z, Z, Z, trivial⟩ (fun h hh => by rw [hfix] at hh; exact hh.elim) (fun h o ho => by
    match h, ho with
    | 0, ho => cases ho; exact zCp _ _ rfl
    | 1, ho => cases ho; exact zCp _ _ rfl
    | 2, ho => cases ho; exact zCp _ _ (hvb 4)
    | 3, ho => cases ho; exact zCp _ _ rfl) rfl ?_
   refine rn3 ?_
   exact zM ⟨3, by decide, by decide, ⟨Z, Z, Z, Z, Z, trivial⟩, Z⟩
 have hje : j = 3 := by omega
 subst hje
 refine zAV [some ⟨85, .box [.ro (zr A) 0 A.length, .ro (.strs B) 0 B.length, .ro (.strs C) 0 C.length]⟩, some ⟨88, .box [.int .i64 0, .nil, .nil, .nil, .str []]⟩, some ⟨185, .box ([.int .i64 (r.kind : Nat), .ro (qsC r.X) 0 r.X.length, .ro (qsC r.Y) 0 r.Y.length, .ro (qsC r.R) 0 r.R.length] ++ [v1, v2, v3])⟩, some ⟨88, .box [.int .i64 (r.kind : Nat), .ro (.strs (r.X.map zj)) 0 (r.X.map zj).length, .ro (.strs (r.Y.map zj)) 0 (r.Y.map zj).length, .ro (.strs (r.R.map zj)) 0 (r.R.map zj).length, .str []]⟩] Z ?_
 refine rn5 ?_
 refine zD Z (fun h3 => ?_) (fun h3 => ?_)
 ·have e0 : r.kind = 0 := by omega
  have hv := hVC e0
  rw [if_pos e0] at hR'
  have cO := zMf r.V (zGG (hD.2.2.2.mono (by omega)))
  have eO : zHd r.V = (zj r.V, 0) := by unfold zHd; rw [if_pos (f4 e0)]
  rw [eO] at cO
  unfold zGz at cO
  refine zAV [some ⟨85, .box [.ro (zr A) 0 A.length, .ro (.strs B) 0 B.length, .ro (.strs C) 0 C.length]⟩, some ⟨88, .box [.int .i64 0, .nil, .nil, .nil, .str []]⟩, some ⟨185, .box ([.int .i64 (r.kind : Nat), .ro (qsC r.X) 0 r.X.length, .ro (qsC r.Y) 0 r.Y.length, .ro (qsC r.R) 0 r.R.length] ++ zq r.V)⟩, some ⟨88, .box [.int .i64 (r.kind : Nat), .ro (.strs (r.X.map zj)) 0 (r.X.map zj).length, .ro (.strs (r.Y.map zj)) 0 (r.Y.map zj).length, .ro (.strs (r.R.map zj)) 0 (r.R.map zj).length, .str []]⟩] (by rw [hv]) ?_
  refine rn6 ?_
  refine zA 61 (qA r.V) Z (AEq.of_eq Z) ?_
  refine zB Z Z Z cO ?_
  refine rn19 ?_
  refine zN (c' := .box [.int .i64 (r.kind : Nat), .ro (.strs (r.X.map zj)) 0 (r.X.map zj).length, .ro (.strs (r.Y.map zj)) 0 (r.Y.map zj).length, .ro (.strs (r.R.map zj)) 0 (r.R.map zj).length, .str (zj r.V)]) Z Z Z Z Z Nat.zero_lt_one Z Z (fun i' j' hi' hj' => ?_) ?_
  ·rw [if_pos (Nat.lt_one_iff.1 hi')]; rfl
  refine rn0 ?_
  exact zI hR' Z Z
 ·have e0 : r.kind ≠ 0 := by omega
  rw [if_neg e0] at hR'
  refine rn6 ?_
  refine zN (c' := .box [.int .i64 (r.kind : Nat), .ro (.strs (r.X.map zj)) 0 (r.X.map zj).length, .ro (.strs (r.Y.map zj)) 0 (r.Y.map zj).length, .ro (.strs (r.R.map zj)) 0 (r.R.map zj).length, .str []]) Z Z Z Z Z Nat.zero_lt_one Z Z (fun i' j' hi' hj' => ?_) ?_
  ·rw [if_pos (Nat.lt_one_iff.1 hi')]; rfl
  refine rn0 ?_
  exact zI hR' Z Z
end Go.Proofs.YtnkealfaldjipaaGreatDoor
namespace Go.Proofs.YtnkealfaldjipaaGreatDoor
open Go.Ax Go.Ax.Idx
attribute [local irreducible] Ax zBZ QOp zS
set_option maxRecDepth 100000
set_option maxHeartbeats 4000000
def zGb (a n : Int) : Int := IntKind.u64.wrap a % n
theorem zKl (a n : Int) (hn : 0 < n) : 0 ≤ zGb a n ∧ zGb a n < n := ⟨Int.emod_nonneg _ (by omega), Int.emod_lt_of_pos _ hn⟩
theorem pick (a n : Int) (hn : 0 < n ∧ n ≤ 1000000) : zU Tryz.prog 54 [.int .i64 a, .int .i64 n] (.int .i64 (zGb a n)) := by
 refine zS.value0 (zE (P := Tryz.prog) (fn := Tryz.f54) Z Z (by kernel_rfl) Z (fun c hR hfix => ?_)) (fix := fun _ => False) (fun _ h => h) Z Z
 have hw : 0 ≤ IntKind.u64.wrap a := by rw [IntKind.wrap_u64]; omega
 have hwn : IntKind.u64.wrap n = n := by rw [IntKind.wrap_u64]; omega
 have hb := zKl a n hn.1
 refine rn0 ?_
 refine zG (zK7 (k' := .u64) Z Z Z) ?_
 repeat (refine zG (zL rfl) ?_)
 refine zG (zK7 (k' := .u64) Z Z Z) ?_
 rw [hwn]
 generalize hz : IntKind.u64.wrap a = z at *
 have hpf : zGb a n = z % n := by unfold zGb; rw [hz]
 refine zG (q_rem Z Z (by omega)) ?_
 rw [← hpf]
 refine zG (zEz Z Z Z (by omega)) ?_
 refine rn0 ?_
 exact zI hR Z Z
end Go.Proofs.YtnkealfaldjipaaGreatDoor
namespace Go.Ax.Sx
open Go.Ax.Dt Go.Ax.Rt Go.Ax.Bg
set_option maxRecDepth 100000
abbrev zEU : Prob := ⟨[[[49], [49]]], [[52]], [[50], [49]]⟩
theorem zHA : zAa zEU = 0 := by decide +kernel
theorem zLd : (Prob.prog zEU).Dig 12 := (zAg zHA).Dig (by decide) (by decide +kernel) (by decide +kernel) (by decide +kernel)
theorem zJU : Stops (Prob.prog zEU) 0 1 := by
 refine ⟨fun h => absurd h (by decide +kernel), fun _ => ?_⟩
 exact Option.isNone_iff_eq_none.1 (by decide +kernel)
theorem zOM : (zAF (Prob.prog zEU) 0 1).kind = 0 := by decide +kernel
theorem eight_X : (zAF (Prob.prog zEU) 0 1).X = [4, 0] := by decide +kernel
theorem eight_Y : (zAF (Prob.prog zEU) 0 1).Y = [2] := by decide +kernel
theorem eight_R : (zAF (Prob.prog zEU) 0 1).R = [] := by decide +kernel
theorem eight_V : (zAF (Prob.prog zEU) 0 1).V = 8 := by decide +kernel
theorem zI1 : zAF (Prob.prog zEU) 0 1 = ⟨0, [4, 0], [2], [], 8⟩ := by
 have h1 := zOM
 have h2 := eight_X
 have h3 := eight_Y
 have h4 := eight_R
 have h5 := eight_V
 generalize zAF (Prob.prog zEU) 0 1 = r at *
 obtain ⟨a, b, c, d, e⟩ := r
 simp only at *
 subst h1 h2 h3 h4 h5
 rfl
theorem zOT : zFA ⟨0, [4, 0], [2], [], 8⟩ = true := by decide +kernel
theorem eight_t4 : zj 4 = [52] := by decide +kernel
theorem eight_t0 : zj 0 = [48] := by decide +kernel
theorem eight_t2 : zj 2 = [50] := by decide +kernel
theorem eight_t8 : zj 8 = [56] := by decide +kernel
theorem zRF : zFL zEU 0 [[52], [48]] [[50]] [] [56] = 0 := by decide +kernel
theorem zRX : zFL zEU 0 [[52], [48]] [[50]] [] [57] = 16 := by decide +kernel
theorem zOG : zAa ⟨[], [[49]], []⟩ = 3 := by decide +kernel
end Go.Ax.Sx
namespace Go.Ax
variable [Pins]
open Go.RowKit
theorem px_gb {P : Program} {fn : Func} {c : Ctx} {H : zO} {all : Array Oper} {K0 : Fr} {i : Nat} {r : List Nat} {st : Go.Ax.Steps} {G : Go.Ax.Steps → Prop} {d : Nat} {t e : TypeId} {n : Nat} {parts : List (Nat × Operand)} {ty : TypeId} {pos : String} {after : Array Edge} {it : TypeInfo} {z : Value} {zs L : List AV} {l : List (Nat × AV)} {cl : Cells} {K : Fr} {j u : Nat} {p : Bool}
 (hi : all[i]? = some ⟨some d, .buildSlice t n parts.toArray, ty, pos, after, some (j, p)⟩) (hK : zFp st K0 ⟨some d, .buildSlice t n parts.toArray, ty, pos, after, some (j, p)⟩ = K) (hy : zEY all j = some u) (hb : look u K = some (.bool p))
 (ht : P.underlying t = some (.slice e)) (hinf : P.info? e = some it) (hz : it.zero = some z) (hzs : zav z = some zs) (hsz : it.size = zs.length) (hpos : Nat.blt 0 zs.length = true) (hsmall : Nat.ble (n * zs.length) 16777216 = true)
 (hl : zCn K parts = some l) (hf : zFz (fun i => some (i * zs.length, zs.length)) (zDU zs n) l = some L) (hcl : zB4 n zs.length L = cl) (hn : noRef.noRefs L = true)
 (h : zEA P fn c H all K0 r ((i, d, .ro cl 0 n) :: st) G) : zEA P fn c H all K0 (i :: r) st G :=
 ⟨_, _, _, hi, rfl, hK ▸ zJB hy hb (fun k fr hk h2 => zW ht hinf hz hzs hsz hpos hsmall (zFk hk hl) hf hcl hn h2), h⟩
end Go.Ax
namespace Go.Proofs.YtnkealfaldjipaaGreatDoor
open Go.Ax Go.Ax.Bg Go.Ax.Rt Go.RowKit Go.Ax.Dt Go.Ax.Sx
attribute [local irreducible] Ax zBZ QOp zS zBC
set_option maxRecDepth 100000
set_option maxHeartbeats 4000000
theorem zK4 : zU Tryz.prog 113 [] (.agg [.ro (zr [[[49], [49]]]) 0 1, .ro (.strs [[52]]) 0 1, .ro (.strs [[50], [49]]) 0 2]) := by
 refine zS.value0 (zE (P := Tryz.prog) (fn := Tryz.f113) Z Z (by kernel_rfl) Z (fun c hR hfix => ?_)) (fix := fun _ => False) (fun _ h => h) Z Z
 refine rn4 ?_
 refine zA 2 (.ro (zr [[[49], [49]]]) 0 1) Z (AEq.ro_in Z (fun d j hd hj => ?_)) ?_
 ·obtain rfl : d = 0 := by omega
  have hj3 : j = 0 := by have hj : j < 1 := hj; omega
  subst hj3
  refine AEq.ro Z (fun d j hd hj => ?_)
  have hd2 : d = 0 ∨ d = 1 := by omega
  have hj3 : j = 0 := by have hj : j < 1 := hj; omega
  subst hj3
  rcases hd2 with rfl | rfl <;> rfl
 refine zA 3 (.ro (.strs [[52]]) 0 1) Z (AEq.ro Z (fun d j hd hj => ?_)) ?_
 ·obtain rfl : d = 0 := by omega
  have hj3 : j = 0 := by have hj : j < 1 := hj; omega
  subst hj3
  rfl
 refine zA 4 (.ro (.strs [[50], [49]]) 0 2) Z (AEq.ro Z (fun d j hd hj => ?_)) ?_
 ·have hd2 : d = 0 ∨ d = 1 := by omega
  have hj3 : j = 0 := by have hj : j < 1 := hj; omega
  subst hj3
  rcases hd2 with rfl | rfl <;> rfl
 repeat (refine zG (zA0 rfl rfl rfl rfl rfl rfl) ?_)
 refine zN (c' := .box [.ro (zr [[[49], [49]]]) 0 1, .ro (.strs [[52]]) 0 1, .ro (.strs [[50], [49]]) 0 2]) Z Z Z Z Z Nat.zero_lt_one Z Z (fun i' j' hi' hj' => ?_) ?_
 ·rw [if_pos (Nat.lt_one_iff.1 hi')]; rfl
 refine rn0 ?_
 exact zI hR Z Z
theorem zKq {A : List (List zp)} {B C : List zp} (ha : A.length ≤ 100) (hr : (A.all fun r => decide (r.length ≤ 100) && r.all fun s => decide (s.length ≤ 100)) = true) (hb : B.length ≤ 100) (hbs : (B.all fun s => decide (s.length ≤ 100)) = true) (hc : C.length ≤ 100) (hcs : (C.all fun s => decide (s.length ≤ 100)) = true) : ShortPr ⟨A, B, C⟩ := by
 refine ⟨Nat.le_trans ha (by decide), fun r hm => ?_, Nat.le_trans hb (by decide), fun s hs => ?_, Nat.le_trans hc (by decide), fun s hs => ?_⟩
 ·have h1 := List.all_eq_true.1 hr r hm
  simp only [Bool.and_eq_true, decide_eq_true_eq, List.all_eq_true] at h1
  exact ⟨by omega, fun s hs => by have := h1.2 s hs; omega⟩
 ·have := List.all_eq_true.1 hbs s hs
  simp only [decide_eq_true_eq] at this
  omega
 ·have := List.all_eq_true.1 hcs s hs
  simp only [decide_eq_true_eq] at this
  omega
theorem zNW : zU Tryz.prog 51 [.agg [.ro (zr [[[49], [49]]]) 0 1, .ro (.strs [[52]]) 0 1, .ro (.strs [[50], [49]]) 0 2]]
 (.tup [.agg [.int .i64 (0 : Nat), .ro (.strs [[52], [48]]) 0 2, .ro (.strs [[50]]) 0 1, .ro (.strs []) 0 0, .str [56]], .int .i64 0]) := by
 have h := zLU [[[49], [49]]] [[52]] [[50], [49]] (zKq (by decide) (by decide) (by decide) (by decide) (by decide) (by decide)) zHA 12 0 1 zLd (by decide) (by decide) (by decide) zJU (by
  rw [zI1]; exact zOT) (zMY zHA zLd (by decide) (by decide) zJU) (by rw [zI1]; decide)
 rw [zI1] at h
 unfold zAd at h
 simp only [List.map, eight_t4, eight_t0, eight_t2, eight_t8, if_pos] at h
 exact h
theorem zJP (v : zp) (hv : v.length ≤ 100) : ShortR [[52], [48]] [[50]] [] v := by
 refine ⟨⟨by decide, fun s hs => ?_⟩, ⟨by decide, fun s hs => ?_⟩, ⟨by decide, fun s hs => ?_⟩, by omega⟩
 ·have h : ∀ s ∈ ([[52], [48]] : List zp), s.length ≤ 100 := by decide
  have := h s hs; omega
 ·have h : ∀ s ∈ ([[50]] : List zp), s.length ≤ 100 := by decide
  have := h s hs; omega
 ·cases hs
theorem zEH : zU Tryz.prog 49 [] (.bool true) := by
 have hP := zKq (A := [[[49], [49]]]) (B := [[52]]) (C := [[50], [49]]) (by decide) (by decide) (by decide) (by decide) (by decide) (by decide)
 have v1 := zD1 [[[49], [49]]] [[52]] [[50], [49]] 0 [[52], [48]] [[50]] [] [56] (by decide) hP (zJP _ (by decide))
 have v2 := zD1 [[[49], [49]]] [[52]] [[50], [49]] 0 [[52], [48]] [[50]] [] [57] (by decide) hP (zJP _ (by decide))
 have c3 := zEw [] [[49]] [] (zKq (by decide) (by decide) (by decide) (by decide) (by decide) (by decide))
 rw [zRF] at v1
 rw [zRX] at v2
 rw [zOG] at c3
 refine zS.value0 (zE (P := Tryz.prog) (fn := Tryz.f49) Z Z (by kernel_rfl) Z (fun c hR hfix => ?_)) (fix := fun _ => False) (fun _ h => h) Z Z
 refine rn0 ?_
 refine zB Z Z Z zK4 ?_
 refine zB Z Z Z zNW ?_
 refine rn4 ?_
 refine zN (c' := .box [.int .i64 (0 : Nat), .ro (.strs [[52], [48]]) 0 2, .ro (.strs [[50]]) 0 1, .ro (.strs []) 0 0, .str [56]]) Z Z Z Z Z Nat.zero_lt_one Z Z (fun i' j' hi' hj' => ?_) ?_
 ·rw [if_pos (Nat.lt_one_iff.1 hi')]; rfl
 refine rn6 ?_
 refine zN (c' := .box [.int .i64 (0 : Nat), .ro (.strs [[52], [48]]) 0 2, .ro (.strs [[50]]) 0 1, .ro (.strs []) 0 0, .str [56]]) Z Z Z Z Z Nat.zero_lt_one Z Z (fun i' j' hi' hj' => ?_) ?_
 ·rw [if_pos (Nat.lt_one_iff.1 hi')]; rfl
 refine rn15 ?_
 refine zAV [some ⟨88, .box [.int .i64 (0 : Nat), .ro (.strs [[52], [48]]) 0 2, .ro (.strs [[50]]) 0 1, .ro (.strs []) 0 0, .str [56]]⟩, some ⟨88, .box [.int .i64 (0 : Nat), .ro (.strs [[52], [48]]) 0 2, .ro (.strs [[50]]) 0 1, .ro (.strs []) 0 0, .str [57]]⟩] Z ?_
 refine zo (by kernel_rfl) ?_
 refine zFR (fuel := 0) [0, 1, 2, 3, 4, 5, 6, 7, 8, 9, 10, 11, 12, 13, 14, 15, 16, 17, 18, 19, 20, 21, 22, 23, 24, 25, 26, 27, 28, 29, 30] [(1, .ptr 0 0 0), (2, .int .i64 0), (3, .ptr 1 0 0)] ⟨Z, Z, Z, trivial⟩ (by kernel_rfl) (by decide) Z Z ?_
 refine zK Z Z (zL Z) ?_
 refine zK Z Z (zDV Z Z) ?_
 refine zK Z Z (zL Z) ?_
 refine zAL Z Z Z Z (zJ Z Z Z Z Z Z) ?_
 refine zAL Z Z Z Z (zQ Z Z Z Z Z) ?_
 refine zAL Z Z Z Z (zDV Z Z) ?_
 refine zK Z Z (zAb Z Z) ?_
 refine zK Z Z (zL Z) ?_
 refine zAL Z Z Z Z (zJ Z Z Z Z Z Z) ?_
 refine zAL Z Z Z Z (zQ Z Z Z Z Z) ?_
 refine zAL Z Z Z Z (zIl Z Z) ?_
 refine zK Z Z (zAb Z Z) ?_
 refine zK Z Z (zL Z) ?_
 refine zFV Z Z Z Z Z Z Z zK4 ?_
 refine zAL Z Z Z Z (zu Z Z Z Z Z Z Z (by first | exact Nat.zero_lt_one | assumption | omega)) ?_
 refine zFV Z Z Z Z Z Z Z v1 ?_
 refine zAL Z Z Z Z (zDV Z Z) ?_
 refine zK Z Z (zAb Z Z) ?_
 refine zK Z Z (zL Z) ?_
 refine zFV Z Z Z Z Z Z Z zK4 ?_
 refine zAL Z Z Z Z (zu Z Z Z Z Z Z Z (by first | exact Nat.zero_lt_one | assumption | omega)) ?_
 refine zFV Z Z Z Z Z Z Z v2 ?_
 refine zAL Z Z Z Z (zDV Z Z) ?_
 refine zK Z Z (zAb Z Z) ?_
 refine zK Z Z (zL Z) ?_
 refine px_gb Z Z Z Z Z Z Z Z Z Z Z Z Z Z Z ?_
 refine zAL Z Z Z Z (zA0 Z Z Z Z Z Z) ?_
 refine zFV Z Z Z Z Z Z Z (fun H => zS.args (c3 H) ⟨zPL ⟨AEq.nil, AEq.ro Z (fun d j hd hj => by
  obtain rfl : d = 0 := by have hd : d < 1 := hd; omega
  have hj3 : j = 0 := by have hj : j < 1 := hj; omega
  subst hj3
  rfl), AEq.nil, trivial⟩, trivial⟩) ?_
 refine zAL Z Z Z Z (zDV Z Z) ?_
 refine zK Z Z (zAb Z Z) ?_
 refine zK Z Z (zi Z) ?_
 refine zz ?_
 refine zX (by kernel_rfl) ?_
 refine rn0 ?_
 exact zI hR Z Z
theorem zDd {q : Rat} (h : zCM q = true) : (zj q).length ≤ 9223372036854775807 := by
 have hf := h
 unfold zCM at hf
 rw [Bool.and_eq_true, decide_eq_true_eq, decide_eq_true_eq] at hf
 unfold zj
 rw [List.length_append, List.length_append]
 split <;> split <;> simp <;> omega
/-- what a short problem gives -/
structure Solved (A : List (List zp)) (B C : List zp) (r : Res) : Prop where
 good : Sx.Good (Prob.prog ⟨A, B, C⟩) r
 fits : zFA r = true
 k3 : r.kind < 3
 short : ShortR (zAd r).X (zAd r).Y (zAd r).R (zAd r).V
 call : zU Tryz.prog 51 [.agg [.ro (zr A) 0 A.length, .ro (.strs B) 0 B.length, .ro (.strs C) 0 C.length]]
  (.tup [.agg [.int .i64 ((zAd r).kind : Nat), .ro (.strs (zAd r).X) 0 (zAd r).X.length, .ro (.strs (zAd r).Y) 0 (zAd r).Y.length, .ro (.strs (zAd r).R) 0 (zAd r).R.length, .str (zAd r).V], .int .i64 0])
theorem zKR (A : List (List zp)) (B C : List zp) (h : ShortPr ⟨A, B, C⟩) (hc : zAa ⟨A, B, C⟩ = 0) (hd : (Prob.prog ⟨A, B, C⟩).Dig 12) (hB : B.length ≤ 6) (hC : C.length ≤ 6) :
 ∃ K L, Stops (Prob.prog ⟨A, B, C⟩) K L ∧ Solved A B C (zAF (Prob.prog ⟨A, B, C⟩) K L) := by
 have hip := zAg hc
 obtain ⟨K, L, hs⟩ := runs (Prob.prog ⟨A, B, C⟩) hip.Ok
 have hg := zGt hip.Ok hs
 have hf := (zCs hc hd hB hC hs).2
 have hD := zMY hc hd hB hC hs
 obtain ⟨l1, l2, l3, l4⟩ := hg.lens
 have em : (Prob.prog ⟨A, B, C⟩).m = B.length := zFg _
 have en : (Prob.prog ⟨A, B, C⟩).n = C.length := zFD _
 rw [em] at l2
 rw [en] at l1 l3
 have n4 := (zLt (Prob.prog ⟨A, B, C⟩) K L).2.2.2
 have x1 : (zAF (Prob.prog ⟨A, B, C⟩) K L).X.length ≤ 6 := by rw [l1]; split <;> omega
 have x2 : (zAF (Prob.prog ⟨A, B, C⟩) K L).Y.length ≤ 6 := by rw [l2]; split <;> omega
 have x3 : (zAF (Prob.prog ⟨A, B, C⟩) K L).R.length ≤ 6 := by rw [l3]; split <;> omega
 obtain ⟨f1, f2, f3, f4⟩ := zE0 hf
 refine ⟨K, L, hs, hg, hf, n4, ?_, zLU A B C h hc 12 K L hd (by decide) (by omega) (by omega) hs hf hD ⟨by omega, by omega, by omega⟩⟩
 refine ⟨⟨by show (List.map _ _).length ≤ _; rw [List.length_map]; omega, fun s hs => ?_⟩, ⟨by show (List.map _ _).length ≤ _; rw [List.length_map]; omega, fun s hs => ?_⟩, ⟨by show (List.map _ _).length ≤ _; rw [List.length_map]; omega, fun s hs => ?_⟩, ?_⟩
 ·obtain ⟨q, hq, rfl⟩ := List.mem_map.1 hs
  exact zDd (f1 q hq)
 ·obtain ⟨q, hq, rfl⟩ := List.mem_map.1 hs
  exact zDd (f2 q hq)
 ·obtain ⟨q, hq, rfl⟩ := List.mem_map.1 hs
  exact zDd (f3 q hq)
 ·show (if _ then _ else _ : zp).length ≤ _
  split
  ·rename_i e; exact zDd (f4 e)
  ·exact Nat.zero_le _
theorem matsS {l : List (List (List zp))} (A : List (List zp)) (B C : List zp) (h : ShortPr ⟨A, B, C⟩) : ∀ x ∈ [A, [B, C]], x.length ≤ 9223372036854775807 ∧ ∀ r ∈ x, r.length ≤ 9223372036854775807 ∧ ∀ s ∈ r, s.length ≤ 9223372036854775807 := by
 intro x hx
 simp only [List.mem_cons, List.not_mem_nil, or_false] at hx
 rcases hx with rfl | rfl
 ·exact ⟨h.a, h.r⟩
 ·refine ⟨by show 2 ≤ 9223372036854775807; decide, fun r hr => ?_⟩
  simp only [List.mem_cons, List.not_mem_nil, or_false] at hr
  rcases hr with rfl | rfl
  ·exact ⟨h.b, h.bs⟩
  ·exact ⟨h.c, h.cs⟩
theorem rows2 (B C : List zp) : AEq (.ro (zB4 2 1 [.ro (.strs B) 0 B.length, .ro (.strs C) 0 C.length]) 0 2) (.ro (zr [B, C]) 0 2) := AEq.ro rfl (fun d j hd hj => by
 have hd2 : d = 0 ∨ d = 1 := by omega
 have hj3 : j = 0 := by have hj : j < 1 := hj; omega
 subst hj3
 rcases hd2 with rfl | rfl <;> rfl)
theorem mats2 (A : List (List zp)) (M : List (List zp)) (n : Nat) (hn : M.length = n) : AEq (.ro (zB4 2 1 [.ro (zr A) 0 A.length, .ro (zr M) 0 n]) 0 2) (.ro (zJd [A, M]) 0 2) := AEq.ro rfl (fun d j hd hj => by
 subst hn
 have hd2 : d = 0 ∨ d = 1 := by omega
 have hj3 : j = 0 := by have hj : j < 1 := hj; omega
 subst hj3
 rcases hd2 with rfl | rfl <;> rfl)
theorem cloneV (l : List zp) (hl : l.length ≤ 1000000) : zNH Tryz.prog 55 [.ro (.strs l) 0 l.length] (fun N => .sl N 0 l.length) ⟨27, .strs l⟩ := by
 refine zS.fresh (K := fun r H => r = .sl 0 0 l.length ∧ H = [some ⟨27, .strs l⟩]) (zE (P := Tryz.prog) (fn := Tryz.f55) Z Z (by kernel_rfl) Z (fun c hR hfix => ?_)) (fix := fun _ => False) (fun _ h => h) Z (fun H => ⟨Z, by simp [zIm, inB]⟩) ?_
 ·refine rn0 ?_
  refine zKt Z Z Z (fun b hb => ?_)
  refine rn0 ?_
  refine zEk Z (fun h => ?_) (fun h => ?_)
  ·have := hb h
   have hn : l = [] := List.length_eq_zero_iff.mp this
   subst hn
   refine rn7 ?_
   refine zAi 2 ⟨27, .strs []⟩ Z Z ?_
   refine rn2 ?_
   exact zI hR Z ⟨Z, Z⟩
  ·refine rn1 ?_
   refine zCj Z Z Z Z Z Z Z Z Z Z ?_
   refine zAl [some ⟨27, .strs []⟩] (ze.eqv ⟨Z, Z, fun i j hi => absurd hi (Nat.not_lt_zero _)⟩ ze.nil) ?_
   repeat (refine zG (zL rfl) ?_)
   refine zAG Z Z Z Z Z Z Z Z Z Z Z Z (by show 0 + l.length ≤ l.length; omega) Z (by show (0 + l.length) * 16 ≤ _ ∧ _; omega) (fun _ _ _ _ => rfl) (by rw [hfix]; exact fun h => h) ?_
   refine rn0 ?_
   refine zI hR Z ⟨?_, ?_⟩
   ·show AV.sl 0 0 (0 + l.length) = _; rw [Nat.zero_add]
   ·show ([some ⟨27, .strs ([] ++ List.take l.length (List.drop 0 l))⟩] : zO) = _
    simp
 ·rintro r H ⟨rfl, rfl⟩
  refine ⟨?_, fun h o ho => zIB zIY h o ho, 0, Z, fun n => rfl⟩
  intro o ho; simp at ho; subst ho; show 0 + l.length ≤ l.length; omega
theorem tiny56 {P : Prob} (h : TinyP 5 12 P) : TinyP 6 12 P := ⟨Nat.le_trans h.m (by decide), Nat.le_trans h.c (by decide), h.ta, h.tb, h.tc⟩
theorem zOX (a n : Nat) (hn : 0 < n) (ha : a < 1000) : zGb (a : Int) (n : Int) = ((a % n : Nat) : Int) := by
 unfold zGb
 have h : IntKind.u64.wrap (a : Int) = (a : Int) := by
  show (a : Int) % 18446744073709551616 = _
  omega
 rw [h]; rfl
theorem pick_two (i : Int) : ∃ x : Nat, x < 2 ∧ zGb i 2 = (x : Int) := by
 have h := zKl i 2 (by decide)
 exact ⟨(zGb i 2).toNat, by omega, by omega⟩
theorem two_len {F : Rat → Rat → Rat} {a b s : zp} (h : zKP F a b = (s, 0)) : s.length ≤ 9223372036854775807 := by
 unfold zKP at h
 split at h
 ·unfold zHd at h
  split at h
  ·rename_i hf
   have := (Prod.mk.inj h).1
   rw [← this]
   exact zDd hf
  ·cases (Prod.mk.inj h).2
 ·rename_i hf
  exact absurd (Prod.mk.inj h).2 hf
theorem zzAB (a b c : AV) (m : Nat) (ha : zBR m a = true := by rfl) (hb : zBR m b = true := by rfl) (hc : zBR m c = true := by rfl) : zBu m (.box [a, b, c]) := by
 intro i j hi hj
 obtain rfl := Nat.lt_one_iff.1 (show i < 1 from hi)
 match j, (show j < 3 from hj) with
 | 0, _ => exact ha
 | 1, _ => exact hb
 | 2, _ => exact hc
theorem zzAA (a b c d e : AV) (m : Nat) (ha : zBR m a = true := by rfl) (hb : zBR m b = true := by rfl) (hc : zBR m c = true := by rfl) (hd : zBR m d = true := by rfl) (he : zBR m e = true := by rfl) : zBu m (.box [a, b, c, d, e]) := by
 intro i j hi hj
 obtain rfl := Nat.lt_one_iff.1 (show i < 1 from hi)
 match j, (show j < 5 from hj) with
 | 0, _ => exact ha
 | 1, _ => exact hb
 | 2, _ => exact hc
 | 3, _ => exact hd
 | 4, _ => exact he
theorem zzAE (A : List (List zp)) (B C : List zp) (i : Int) (h : ShortPr ⟨A, B, C⟩) : zU Tryz.prog 12 [.agg [.ro (zr A) 0 A.length, .ro (.strs B) 0 B.length, .ro (.strs C) 0 C.length], .int .i64 i] (.bool true) := by
 have cs := zHG 5 [A, [B, C]] (by decide) (by show 2 ≤ 9223372036854775807; decide) (matsS (l := []) A B C h)
 refine zS.value0 (zE (P := Tryz.prog) (fn := Tryz.f12) Z Z (by kernel_rfl) Z (fun cx hR hfix => ?_)) (fix := fun _ => False) (fun _ h => h) Z Z
 refine rn6 ?_
 refine zB Z Z Z zEH ?_
 refine zJi ?_
 refine zW Z Z Z Z Z Z Z Z Z Z Z ?_
 refine zA 23 (.ro (zr [B, C]) 0 2) Z (rows2 B C) ?_
 refine zW Z Z Z Z Z Z Z Z Z Z Z ?_
 refine zA 24 (.ro (zJd [A, [B, C]]) 0 2) Z (mats2 A [B, C] 2 Z) ?_
 refine zB Z Z Z cs ?_
 cases hs : ([A, [B, C]].all (zIi 5 12))
 ·refine rn5 ?_
  exact zI hR Z Z
 have hall := hs
 simp only [List.all_cons, List.all_nil, Bool.and_true, Bool.and_eq_true] at hall
 have ht : TinyP 6 12 ⟨A, B, C⟩ := tiny56 (zK9 hall.1 hall.2)
 refine rn6 ?_
 refine zA 28 (.agg [.ro (zr A) 0 A.length, .ro (.strs B) 0 B.length, .ro (.strs C) 0 C.length]) Z (AEq.of_eq Z) ?_
 by_cases hc : zAa ⟨A, B, C⟩ ≠ 0
 ·have cn := zKm A B C h hc
  generalize zAa ⟨A, B, C⟩ = e at *
  refine zB Z Z Z cn ?_
  refine rn4 ?_
  refine zN (c' := (.box [.int .i64 0, .nil, .nil, .nil, .str []])) Z Z Z Z Z Nat.zero_lt_one Z Z (fun i' j' hi' hj' => ?_) ?_
  ·rw [if_pos (Nat.lt_one_iff.1 hi')]; rfl
  refine rn3 ?_
  refine zD Z (fun _ => ?_) (fun q => absurd hc q)
  refine rn2 ?_
  exact zI hR Z Z
 have hc : zAa ⟨A, B, C⟩ = 0 := Classical.not_not.1 hc
 have hdig := (zAg hc).Dig (k := 12) (by decide) ht.ta ht.tb ht.tc
 obtain ⟨K, L, hst, S⟩ := zKR A B C h hc hdig ht.m ht.c
 have hsv := (zCs hc hdig ht.m ht.c hst).1
 obtain ⟨k3, kv, k0⟩ := refuses (P := ⟨A, B, C⟩) (fun _ => hst) (by rw [hsv]) ht
 rw [hsv] at k3 kv k0
 have sh := S.short
 have cz := S.call
 clear S hsv hst
 have k3 : (zAd (zAF (Prob.prog ⟨A, B, C⟩) K L)).kind < 3 := k3
 have kv : ∀ k, k ≠ (zAd (zAF (Prob.prog ⟨A, B, C⟩) K L)).kind → k < 3 → zFL ⟨A, B, C⟩ k (zAd (zAF (Prob.prog ⟨A, B, C⟩) K L)).X (zAd (zAF (Prob.prog ⟨A, B, C⟩) K L)).Y (zAd (zAF (Prob.prog ⟨A, B, C⟩) K L)).R (zAd (zAF (Prob.prog ⟨A, B, C⟩) K L)).V ≠ 0 := kv
 have k0 : (zAd (zAF (Prob.prog ⟨A, B, C⟩) K L)).kind = 0 → ∃ s, zKP (fun x y => x + y) (zAd (zAF (Prob.prog ⟨A, B, C⟩) K L)).V [49] = (s, 0) ∧ zFL ⟨A, B, C⟩ 0 (zAd (zAF (Prob.prog ⟨A, B, C⟩) K L)).X (zAd (zAF (Prob.prog ⟨A, B, C⟩) K L)).Y (zAd (zAF (Prob.prog ⟨A, B, C⟩) K L)).R s = 16 := k0
 generalize zAd (zAF (Prob.prog ⟨A, B, C⟩) K L) = t at *
 obtain ⟨x2, hx2, ep⟩ := pick_two i
 have cp2 := pick i 2 (by decide)
 rw [ep] at cp2
 have cp3 := pick (((t.kind : Nat) : Int) + 1 + ((x2 : Nat) : Int)) 3 (by decide)
 have e3 : zGb (((t.kind : Nat) : Int) + 1 + ((x2 : Nat) : Int)) 3 = (((t.kind + 1 + x2) % 3 : Nat) : Int) := by
  rw [show (((t.kind : Nat) : Int) + 1 + ((x2 : Nat) : Int)) = ((t.kind + 1 + x2 : Nat) : Int) by omega]
  exact zOX (t.kind + 1 + x2) 3 (by decide) (by omega)
 rw [e3] at cp3
 obtain ⟨k2, hk2⟩ : ∃ k2, k2 = (t.kind + 1 + x2) % 3 := ⟨_, rfl⟩
 rw [← hk2] at cp3
 have hk23 : k2 < 3 := by omega
 have hv1 := kv k2 (by omega) hk23
 have cv1 := zD1 A B C k2 t.X t.Y t.R t.V hk23 h sh
 generalize zFL ⟨A, B, C⟩ k2 t.X t.Y t.R t.V = e1 at cv1 hv1
 clear e3 hk2 kv ep
 refine zB Z Z Z cz ?_
 refine rn4 ?_
 refine zN (c' := (.box [.int .i64 ((t.kind : Nat)), .ro (.strs t.X) 0 t.X.length, .ro (.strs t.Y) 0 t.Y.length, .ro (.strs t.R) 0 t.R.length, .str t.V])) Z Z Z Z Z Nat.zero_lt_one Z Z (fun i' j' hi' hj' => ?_) ?_
 ·rw [if_pos (Nat.lt_one_iff.1 hi')]; rfl
 refine rn6 ?_
 refine zA 34 (.agg [.int .i64 ((t.kind : Nat)), .ro (.strs t.X) 0 t.X.length, .ro (.strs t.Y) 0 t.Y.length, .ro (.strs t.R) 0 t.R.length, .str t.V]) Z (AEq.of_eq Z) ?_
 refine rn0 ?_
 refine zN (c' := (.box [.int .i64 ((t.kind : Nat)), .ro (.strs t.X) 0 t.X.length, .ro (.strs t.Y) 0 t.Y.length, .ro (.strs t.R) 0 t.R.length, .str t.V])) Z Z Z Z Z Nat.zero_lt_one Z Z (fun i' j' hi' hj' => ?_) ?_
 ·rw [if_pos (Nat.lt_one_iff.1 hi')]; rfl
 refine rn0 ?_
 refine zo (by kernel_rfl) ?_
 refine zv (fuel := 1) [0, 1, 2, 3, 4, 5, 6, 7] [(1, .int .i64 i), (2, .ptr 0 0 0), (5, .ptr 1 0 0), (7, .ptr 2 0 0)] ⟨Z, Z, Z, Z, trivial⟩ (by kernel_rfl) (by decide) Z Z ?_
 refine zK Z Z (zJ Z Z Z Z Z Z) ?_
 refine zK Z Z (zQ Z Z Z Z Z) ?_
 refine zK Z Z (zCo Z Z (by omega)) ?_
 refine zK Z Z (zL Z) ?_
 refine zAc Z Z Z Z Z cp2 ?_
 refine zK Z Z (zCo Z Z (by omega)) ?_
 refine zAc Z Z Z Z Z cp3 ?_
 refine zK Z Z (zJ Z Z Z Z Z Z) ?_
 refine zz ?_
 refine zH (is := [8]) (by kernel_rfl) (by simp) Z ⟨fun o ho => ?_, trivial⟩
 all_goals (cases ho)
 refine zEL ?_
 refine zX (by kernel_rfl) ?_
 refine rn6 ?_
 refine zA 43 (.agg [.ro (zr A) 0 A.length, .ro (.strs B) 0 B.length, .ro (.strs C) 0 C.length]) Z (AEq.of_eq Z) ?_
 refine zA 44 (.agg [.int .i64 ((k2 : Nat)), .ro (.strs t.X) 0 t.X.length, .ro (.strs t.Y) 0 t.Y.length, .ro (.strs t.R) 0 t.R.length, .str t.V]) Z (AEq.of_eq Z) ?_
 refine zB Z Z Z cv1 ?_
 refine rn4 ?_
 refine zD Z (fun q => absurd q hv1) (fun _ => ?_)
 refine rn5 ?_
 refine zD Z (fun q => ?_) (fun q => ?_)
 ·refine rn2 ?_
  exact zI hR Z Z
 have h0 : t.kind = 0 := by omega
 obtain ⟨s, es, e16⟩ := k0 h0
 have ca := radd_ok t.V [49] sh.v (by decide)
 rw [es] at ca
 have ca : zU Tryz.prog 33 [.str t.V, .str [49]] (.tup [.str s, .int .i64 0]) := ca
 have hsl : s.length ≤ 9223372036854775807 := two_len es
 have cv2 := zD1 A B C 0 t.X t.Y t.R s (by decide) h ⟨sh.x, sh.y, sh.r, hsl⟩
 rw [e16] at cv2
 clear hv1 cv1 cp2 cp3 k0 q e16
 rw [h0]
 refine rn5 ?_
 refine zB Z Z Z ca ?_
 refine rn6 ?_
 refine zA 56 (.agg [.int .i64 ((0 : Nat)), .ro (.strs t.X) 0 t.X.length, .ro (.strs t.Y) 0 t.Y.length, .ro (.strs t.R) 0 t.R.length, .str t.V]) Z (AEq.of_eq Z) ?_
 refine zN (c' := (.box [.int .i64 ((0 : Nat)), .ro (.strs t.X) 0 t.X.length, .ro (.strs t.Y) 0 t.Y.length, .ro (.strs t.R) 0 t.R.length, .str t.V])) Z Z Z Z Z Nat.zero_lt_one Z Z (fun i' j' hi' hj' => ?_) ?_
 ·rw [if_pos (Nat.lt_one_iff.1 hi')]; rfl
 refine rn19 ?_
 refine zA 62 (.agg [.ro (zr A) 0 A.length, .ro (.strs B) 0 B.length, .ro (.strs C) 0 C.length]) Z (AEq.of_eq Z) ?_
 refine zA 63 (.agg [.int .i64 ((0 : Nat)), .ro (.strs t.X) 0 t.X.length, .ro (.strs t.Y) 0 t.Y.length, .ro (.strs t.R) 0 t.R.length, .str s]) Z (AEq.of_eq Z) ?_
 refine zB Z Z Z cv2 ?_
 repeat (first | refine zG (zL rfl) ?_ | refine zP ?_ | refine zF ?_ | refine z8 ?_ | refine zV rfl ?_ | refine zAo rfl rfl ?_ | refine zAT rfl ?_ | refine z7 ?_ | refine zAh ?_ | refine zG (zQ rfl rfl rfl rfl rfl) ?_ | refine zG (zF8 rfl rfl) ?_ | refine zG (zAb rfl rfl) ?_ | refine zG (zA0 rfl rfl rfl rfl rfl rfl) ?_ | refine zG (zJ rfl rfl rfl rfl rfl rfl) ?_)
 refine zh (ι := Nat) (fun j => [(1, .int .i64 i), (2, .ptr 0 0 0), (5, .ptr 1 0 0), (71, .agg [.ro (.strs t.X) 0 t.X.length, .ro (.strs t.Y) 0 t.Y.length]), (72, .int .i64 (j : Nat))]) (fun _ => [some ⟨85, .box [.ro (zr A) 0 A.length, .ro (.strs B) 0 B.length, .ro (.strs C) 0 C.length]⟩, some ⟨88, .box [.int .i64 ((0 : Nat)), .ro (.strs t.X) 0 t.X.length, .ro (.strs t.Y) 0 t.Y.length, .ro (.strs t.R) 0 t.R.length, .str t.V]⟩, some ⟨88, .box [.int .i64 ((0 : Nat)), .ro (.strs t.X) 0 t.X.length, .ro (.strs t.Y) 0 t.Y.length, .ro (.strs t.R) 0 t.R.length, .str s]⟩]) (fun j => j ≤ 2) (fun j => 2 - j) 0 ⟨⟨Z, Z, Z, Z, Z, trivial⟩, Z, Nat.zero_le _⟩ ?_
 intro j hj
 refine rn4 ?_
 refine zD Z (fun h1 => ?_) (fun h1 => ?_)
 ·have hj' : j < 2 := by omega
  obtain ⟨v, hv, ev⟩ : ∃ v, (v = t.X ∨ v = t.Y) ∧ ([.ro (.strs t.X) 0 t.X.length, .ro (.strs t.Y) 0 t.Y.length] : List AV).getD (((j : Nat) : Int)).toNat .any = .ro (.strs v) 0 v.length := by
   match j, hj' with
   | 0, _ => exact ⟨t.X, .inl rfl, rfl⟩
   | 1, _ => exact ⟨t.Y, .inr rfl, rfl⟩
  have hvl : v.length ≤ 1000000 := by
   rcases hv with q | q
   ·rw [q]; exact sh.x.1
   ·rw [q]; exact sh.y.1
  have hvs : ∀ s ∈ v, s.length ≤ 9223372036854775807 := by
   rcases hv with q | q
   ·rw [q]; exact sh.x.2
   ·rw [q]; exact sh.y.2
  refine rn1 ?_
  refine zG (zEO Z Z Z Z Z Z ev ⟨(by omega), (by show ((j : Nat) : Int) < ((2 : Nat) : Int); omega), (by show ((j : Nat) : Int) < ((2 : Nat) : Int); omega)⟩) ?_
  refine rn4 ?_
  refine zD Z (fun q => ?_) (fun q => ?_)
  ·refine rn5 ?_
   exact zM ⟨j + 1, by omega, by omega, ⟨Z, Z, Z, Z, Z, trivial⟩, Z⟩
  have hv0 : 0 < v.length := by omega
  apply zAM (H := [some ⟨85, .box [.ro (zr A) 0 A.length, .ro (.strs B) 0 B.length, .ro (.strs C) 0 C.length]⟩, some ⟨88, .box [.int .i64 ((0 : Nat)), .ro (.strs t.X) 0 t.X.length, .ro (.strs t.Y) 0 t.Y.length, .ro (.strs t.R) 0 t.R.length, .str t.V]⟩, some ⟨88, .box [.int .i64 ((0 : Nat)), .ro (.strs t.X) 0 t.X.length, .ro (.strs t.Y) 0 t.Y.length, .ro (.strs t.R) 0 t.R.length, .str s]⟩]) [(1, .int .i64 i), (2, .ptr 0 0 0), (5, .ptr 1 0 0), (71, .agg [.ro (.strs t.X) 0 t.X.length, .ro (.strs t.Y) 0 t.Y.length]), (72, .int .i64 (j : Nat))]
  ·intro fin
   have cl := cloneV v hvl
   have hb := zKl i ((v.length : Nat) : Int) (by omega)
   obtain ⟨x, hx⟩ : ∃ x : Nat, zGb i ((v.length : Nat) : Int) = (x : Int) := ⟨(zGb i ((v.length : Nat) : Int)).toNat, by omega⟩
   have cpv := pick i ((v.length : Nat) : Int) (by omega)
   rw [hx] at cpv
   have hxl : x < v.length := by omega
   clear hb hx
   refine rn1 ?_
   refine zEJ Z Z Z cl ?_
   refine rn3 ?_
   refine zB Z Z Z cpv ?_
   refine rn8 ?_
   have hWl : (v.set x [45, 49]).length = v.length := List.length_set ..
   refine zAW 3 12 v.length [(1, .int .i64 i), (2, .ptr 0 0 0), (5, .ptr 1 0 0), (11, .ro (.strs v) 0 v.length), (71, .agg [.ro (.strs t.X) 0 t.X.length, .ro (.strs t.Y) 0 t.Y.length]), (72, .int .i64 (j : Nat))] Z (fun _ _ _ _ => rfl) Z (by show _ ≤ (v.set x [45, 49]).length; rw [hWl]; exact Nat.le_refl _) ⟨Z, Z, Z, Z, Z, Z, trivial⟩ ?_
   refine zAN 12 (.ro (.strs (v.set x [45, 49])) 0 (v.set x [45, 49]).length) Z (AEq.of_eq (by rw [hWl])) ?_
   have hm : ([45, 49] : zp) ∈ v.set x [45, 49] := List.mem_set hxl _
   have hws : ∀ s ∈ v.set x [45, 49], s.length ≤ 9223372036854775807 := fun s hs => by
    rcases List.mem_or_eq_of_mem_set hs with q | q
    ·exact hvs s q
    ·rw [q]; decide
   have sW : (v.set x [45, 49]).length ≤ 1000000 ∧ ∀ s ∈ v.set x [45, 49], s.length ≤ 9223372036854775807 := ⟨by omega, hws⟩
   generalize v.set x [45, 49] = W at *
   have cva := zD1 A B C 0 W t.Y t.R t.V (by decide) h ⟨sW, sh.y, sh.r, sh.v⟩
   have cvb := zD1 A B C 0 t.X W t.R t.V (by decide) h ⟨sh.x, sW, sh.r, sh.v⟩
   have hva := ver_x (P := ⟨A, B, C⟩) (k := 0) (X := W) (Y := t.Y) (R := t.R) (V := t.V) hm
   have hvb := ver_y (P := ⟨A, B, C⟩) (k := 0) (X := t.X) (Y := W) (R := t.R) (V := t.V) hm
   generalize zFL ⟨A, B, C⟩ 0 W t.Y t.R t.V = ea at cva hva
   generalize zFL ⟨A, B, C⟩ 0 t.X W t.R t.V = eb at cvb hvb
   clear hm hws sW hxl cpv cl
   refine rn0 ?_
   refine zo (by kernel_rfl) ?_
   apply zAQ (H := [some ⟨85, .box [.ro (zr A) 0 A.length, .ro (.strs B) 0 B.length, .ro (.strs C) 0 C.length]⟩, some ⟨88, .box [.int .i64 ((0 : Nat)), .ro (.strs t.X) 0 t.X.length, .ro (.strs t.Y) 0 t.Y.length, .ro (.strs t.R) 0 t.R.length, .str t.V]⟩, some ⟨88, .box [.int .i64 ((0 : Nat)), .ro (.strs t.X) 0 t.X.length, .ro (.strs t.Y) 0 t.Y.length, .ro (.strs t.R) 0 t.R.length, .str s]⟩, none, some ⟨88, .box [.int .i64 ((0 : Nat)), .ro (.strs t.X) 0 t.X.length, .ro (.strs t.Y) 0 t.Y.length, .ro (.strs t.R) 0 t.R.length, .str t.V]⟩, some ⟨88, (.box [.int .i64 0, .nil, .nil, .nil, .str []])⟩]) [(1, .int .i64 i), (2, .ptr 0 0 0), (5, .ptr 1 0 0), (11, .ro (.strs v) 0 v.length), (12, .ro (.strs W) 0 W.length), (71, .agg [.ro (.strs t.X) 0 t.X.length, .ro (.strs t.Y) 0 t.Y.length]), (72, .int .i64 (j : Nat)), (86, (.agg [.int .i64 ((0 : Nat)), .ro (.strs t.X) 0 t.X.length, .ro (.strs t.Y) 0 t.Y.length, .ro (.strs t.R) 0 t.R.length, .str t.V])), (87, (.agg [.int .i64 ((0 : Nat)), .ro (.strs t.X) 0 t.X.length, .ro (.strs t.Y) 0 t.Y.length, .ro (.strs t.R) 0 t.R.length, .str t.V])), (13, .ptr 4 0 0), (14, .ptr 5 0 0)]
   ·intro h1
    apply zAQ (H := [some ⟨85, .box [.ro (zr A) 0 A.length, .ro (.strs B) 0 B.length, .ro (.strs C) 0 C.length]⟩, some ⟨88, .box [.int .i64 ((0 : Nat)), .ro (.strs t.X) 0 t.X.length, .ro (.strs t.Y) 0 t.Y.length, .ro (.strs t.R) 0 t.R.length, .str t.V]⟩, some ⟨88, .box [.int .i64 ((0 : Nat)), .ro (.strs t.X) 0 t.X.length, .ro (.strs t.Y) 0 t.Y.length, .ro (.strs t.R) 0 t.R.length, .str s]⟩, none, some ⟨88, (.box [.int .i64 0, .nil, .nil, .nil, .str []])⟩, some ⟨88, .box [.int .i64 ((0 : Nat)), .ro (.strs t.X) 0 t.X.length, .ro (.strs t.Y) 0 t.Y.length, .ro (.strs t.R) 0 t.R.length, .str t.V]⟩]) [(1, .int .i64 i), (2, .ptr 0 0 0), (5, .ptr 1 0 0), (11, .ro (.strs v) 0 v.length), (12, .ro (.strs W) 0 W.length), (71, .agg [.ro (.strs t.X) 0 t.X.length, .ro (.strs t.Y) 0 t.Y.length]), (72, .int .i64 (j : Nat)), (86, (.agg [.int .i64 ((0 : Nat)), .ro (.strs t.X) 0 t.X.length, .ro (.strs t.Y) 0 t.Y.length, .ro (.strs t.R) 0 t.R.length, .str t.V])), (87, (.agg [.int .i64 ((0 : Nat)), .ro (.strs t.X) 0 t.X.length, .ro (.strs t.Y) 0 t.Y.length, .ro (.strs t.R) 0 t.R.length, .str t.V])), (13, .ptr 5 0 0), (14, .ptr 4 0 0)]
    ·intro h2
     apply zAQ (H := [some ⟨85, .box [.ro (zr A) 0 A.length, .ro (.strs B) 0 B.length, .ro (.strs C) 0 C.length]⟩, some ⟨88, .box [.int .i64 ((0 : Nat)), .ro (.strs t.X) 0 t.X.length, .ro (.strs t.Y) 0 t.Y.length, .ro (.strs t.R) 0 t.R.length, .str t.V]⟩, some ⟨88, .box [.int .i64 ((0 : Nat)), .ro (.strs t.X) 0 t.X.length, .ro (.strs t.Y) 0 t.Y.length, .ro (.strs t.R) 0 t.R.length, .str s]⟩, none, some ⟨88, (.box [.int .i64 0, .nil, .nil, .nil, .str []])⟩, some ⟨88, (.box [.int .i64 0, .nil, .nil, .nil, .str []])⟩]) [(1, .int .i64 i), (2, .ptr 0 0 0), (5, .ptr 1 0 0), (11, .ro (.strs v) 0 v.length), (12, .ro (.strs W) 0 W.length), (71, .agg [.ro (.strs t.X) 0 t.X.length, .ro (.strs t.Y) 0 t.Y.length]), (72, .int .i64 (j : Nat)), (86, (.agg [.int .i64 ((0 : Nat)), .ro (.strs t.X) 0 t.X.length, .ro (.strs t.Y) 0 t.Y.length, .ro (.strs t.R) 0 t.R.length, .str t.V])), (87, (.agg [.int .i64 ((0 : Nat)), .ro (.strs t.X) 0 t.X.length, .ro (.strs t.Y) 0 t.Y.length, .ro (.strs t.R) 0 t.R.length, .str t.V])), (13, .ptr 4 0 0), (14, .ptr 5 0 0)]
     ·intro f1
      apply zAQ (H := [some ⟨85, .box [.ro (zr A) 0 A.length, .ro (.strs B) 0 B.length, .ro (.strs C) 0 C.length]⟩, some ⟨88, .box [.int .i64 ((0 : Nat)), .ro (.strs t.X) 0 t.X.length, .ro (.strs t.Y) 0 t.Y.length, .ro (.strs t.R) 0 t.R.length, .str t.V]⟩, some ⟨88, .box [.int .i64 ((0 : Nat)), .ro (.strs t.X) 0 t.X.length, .ro (.strs t.Y) 0 t.Y.length, .ro (.strs t.R) 0 t.R.length, .str s]⟩, none, some ⟨88, (.box [.int .i64 0, .nil, .nil, .nil, .str []])⟩, some ⟨88, (.box [.int .i64 0, .nil, .nil, .nil, .str []])⟩]) [(1, .int .i64 i), (2, .ptr 0 0 0), (5, .ptr 1 0 0), (11, .ro (.strs v) 0 v.length), (12, .ro (.strs W) 0 W.length), (71, .agg [.ro (.strs t.X) 0 t.X.length, .ro (.strs t.Y) 0 t.Y.length]), (72, .int .i64 (j : Nat)), (86, (.agg [.int .i64 ((0 : Nat)), .ro (.strs t.X) 0 t.X.length, .ro (.strs t.Y) 0 t.Y.length, .ro (.strs t.R) 0 t.R.length, .str t.V])), (87, (.agg [.int .i64 ((0 : Nat)), .ro (.strs t.X) 0 t.X.length, .ro (.strs t.Y) 0 t.Y.length, .ro (.strs t.R) 0 t.R.length, .str t.V])), (13, .ptr 5 0 0), (14, .ptr 4 0 0)]
      ·intro f2
       refine zH (is := [0, 1, 2, 3]) (by kernel_rfl) (by simp) Z ⟨fun o ho => ?_, fun o ho => ?_, fun o ho => ?_, fun o ho => ?_, trivial⟩
       all_goals (cases ho)
       ·refine rn6 ?_
        refine zH (is := [1, 2, 3]) (by kernel_rfl) (by simp) Z ⟨fun o ho => ?_, fun o ho => ?_, fun o ho => ?_, trivial⟩
        all_goals (cases ho)
        ·refine rn6 ?_
         refine zH (is := [2, 3]) (by kernel_rfl) (by simp) Z ⟨fun o ho => ?_, fun o ho => ?_, trivial⟩
         all_goals (cases ho)
         ·refine rn6 ?_
          refine zH (is := [3]) (by kernel_rfl) (by simp) Z ⟨fun o ho => ?_, trivial⟩
          all_goals (cases ho)
          refine rn6 ?_
          exact f1 _ ⟨Z, Z, Z, Z, Z, Z, Z, Z, Z, Z, Z, trivial⟩
         ·refine rn6 ?_
          refine zH (is := [2]) (by kernel_rfl) (by simp) Z ⟨fun o ho => ?_, trivial⟩
          all_goals (cases ho)
          refine rn6 ?_
          exact f2 _ ⟨Z, Z, Z, Z, Z, Z, Z, Z, Z, Z, Z, trivial⟩
        ·refine rn6 ?_
         refine zH (is := [1, 3]) (by kernel_rfl) (by simp) Z ⟨fun o ho => ?_, fun o ho => ?_, trivial⟩
         all_goals (cases ho)
         ·refine rn6 ?_
          refine zH (is := [3]) (by kernel_rfl) (by simp) Z ⟨fun o ho => ?_, trivial⟩
          all_goals (cases ho)
          refine rn6 ?_
          exact f1 _ ⟨Z, Z, Z, Z, Z, Z, Z, Z, Z, Z, Z, trivial⟩
         ·refine rn6 ?_
          refine zH (is := [1, 4]) (by kernel_rfl) (by simp) Z ⟨fun o ho => ?_, fun o ho => ?_, trivial⟩
          all_goals (cases ho)
          ·refine rn6 ?_
           exact f1 _ ⟨Z, Z, Z, Z, Z, Z, Z, Z, Z, Z, Z, trivial⟩
          ·refine zN (c' := (.box [.int .i64 ((0 : Nat)), .ro (.strs t.X) 0 t.X.length, .ro (.strs t.Y) 0 t.Y.length, .ro (.strs t.R) 0 t.R.length, .str t.V])) Z Z Z Z Z Nat.zero_lt_one Z Z (fun i' j' hi' hj' => ?_) ?_
           ·rw [if_pos (Nat.lt_one_iff.1 hi')]; rfl
           refine rn6 ?_
           refine zH (is := [1]) (by kernel_rfl) (by simp) Z ⟨fun o ho => ?_, trivial⟩
           all_goals (cases ho)
           refine rn6 ?_
           exact h1 _ ⟨Z, Z, Z, Z, Z, Z, Z, Z, Z, Z, Z, trivial⟩
        ·refine rn6 ?_
         refine zH (is := [1, 2]) (by kernel_rfl) (by simp) Z ⟨fun o ho => ?_, fun o ho => ?_, trivial⟩
         all_goals (cases ho)
         ·refine rn6 ?_
          refine zH (is := [2]) (by kernel_rfl) (by simp) Z ⟨fun o ho => ?_, trivial⟩
          all_goals (cases ho)
          refine rn6 ?_
          exact f2 _ ⟨Z, Z, Z, Z, Z, Z, Z, Z, Z, Z, Z, trivial⟩
         ·refine rn6 ?_
          refine zH (is := [1, 4]) (by kernel_rfl) (by simp) Z ⟨fun o ho => ?_, fun o ho => ?_, trivial⟩
          all_goals (cases ho)
          ·refine rn6 ?_
           exact f2 _ ⟨Z, Z, Z, Z, Z, Z, Z, Z, Z, Z, Z, trivial⟩
          ·refine zN (c' := (.box [.int .i64 ((0 : Nat)), .ro (.strs t.X) 0 t.X.length, .ro (.strs t.Y) 0 t.Y.length, .ro (.strs t.R) 0 t.R.length, .str t.V])) Z Z Z Z Z Nat.zero_lt_one Z Z (fun i' j' hi' hj' => ?_) ?_
           ·rw [if_pos (Nat.lt_one_iff.1 hi')]; rfl
           refine rn6 ?_
           refine zH (is := [1]) (by kernel_rfl) (by simp) Z ⟨fun o ho => ?_, trivial⟩
           all_goals (cases ho)
           refine rn6 ?_
           exact h2 _ ⟨Z, Z, Z, Z, Z, Z, Z, Z, Z, Z, Z, trivial⟩
       ·refine rn6 ?_
        refine zH (is := [0, 2, 3]) (by kernel_rfl) (by simp) Z ⟨fun o ho => ?_, fun o ho => ?_, fun o ho => ?_, trivial⟩
        all_goals (cases ho)
        ·refine rn6 ?_
         refine zH (is := [2, 3]) (by kernel_rfl) (by simp) Z ⟨fun o ho => ?_, fun o ho => ?_, trivial⟩
         all_goals (cases ho)
         ·refine rn6 ?_
          refine zH (is := [3]) (by kernel_rfl) (by simp) Z ⟨fun o ho => ?_, trivial⟩
          all_goals (cases ho)
          refine rn6 ?_
          exact f1 _ ⟨Z, Z, Z, Z, Z, Z, Z, Z, Z, Z, Z, trivial⟩
         ·refine rn6 ?_
          refine zH (is := [2]) (by kernel_rfl) (by simp) Z ⟨fun o ho => ?_, trivial⟩
          all_goals (cases ho)
          refine rn6 ?_
          exact f2 _ ⟨Z, Z, Z, Z, Z, Z, Z, Z, Z, Z, Z, trivial⟩
        ·refine rn6 ?_
         refine zH (is := [0, 3]) (by kernel_rfl) (by simp) Z ⟨fun o ho => ?_, fun o ho => ?_, trivial⟩
         all_goals (cases ho)
         ·refine rn6 ?_
          refine zH (is := [3]) (by kernel_rfl) (by simp) Z ⟨fun o ho => ?_, trivial⟩
          all_goals (cases ho)
          refine rn6 ?_
          exact f1 _ ⟨Z, Z, Z, Z, Z, Z, Z, Z, Z, Z, Z, trivial⟩
         ·refine rn6 ?_
          refine zH (is := [0]) (by kernel_rfl) (by simp) Z ⟨fun o ho => ?_, trivial⟩
          all_goals (cases ho)
          refine rn6 ?_
          exact f1 _ ⟨Z, Z, Z, Z, Z, Z, Z, Z, Z, Z, Z, trivial⟩
        ·refine rn6 ?_
         refine zH (is := [0, 2]) (by kernel_rfl) (by simp) Z ⟨fun o ho => ?_, fun o ho => ?_, trivial⟩
         all_goals (cases ho)
         ·refine rn6 ?_
          refine zH (is := [2]) (by kernel_rfl) (by simp) Z ⟨fun o ho => ?_, trivial⟩
          all_goals (cases ho)
          refine rn6 ?_
          exact f2 _ ⟨Z, Z, Z, Z, Z, Z, Z, Z, Z, Z, Z, trivial⟩
         ·refine rn6 ?_
          refine zH (is := [0]) (by kernel_rfl) (by simp) Z ⟨fun o ho => ?_, trivial⟩
          all_goals (cases ho)
          refine rn6 ?_
          exact f2 _ ⟨Z, Z, Z, Z, Z, Z, Z, Z, Z, Z, Z, trivial⟩
       ·refine rn6 ?_
        refine zH (is := [0, 1, 3]) (by kernel_rfl) (by simp) Z ⟨fun o ho => ?_, fun o ho => ?_, fun o ho => ?_, trivial⟩
        all_goals (cases ho)
        ·refine rn6 ?_
         refine zH (is := [1, 3]) (by kernel_rfl) (by simp) Z ⟨fun o ho => ?_, fun o ho => ?_, trivial⟩
         all_goals (cases ho)
         ·refine rn6 ?_
          refine zH (is := [3]) (by kernel_rfl) (by simp) Z ⟨fun o ho => ?_, trivial⟩
          all_goals (cases ho)
          refine rn6 ?_
          exact f1 _ ⟨Z, Z, Z, Z, Z, Z, Z, Z, Z, Z, Z, trivial⟩
         ·refine rn6 ?_
          refine zH (is := [1, 4]) (by kernel_rfl) (by simp) Z ⟨fun o ho => ?_, fun o ho => ?_, trivial⟩
          all_goals (cases ho)
          ·refine rn6 ?_
           exact f1 _ ⟨Z, Z, Z, Z, Z, Z, Z, Z, Z, Z, Z, trivial⟩
          ·refine zN (c' := (.box [.int .i64 ((0 : Nat)), .ro (.strs t.X) 0 t.X.length, .ro (.strs t.Y) 0 t.Y.length, .ro (.strs t.R) 0 t.R.length, .str t.V])) Z Z Z Z Z Nat.zero_lt_one Z Z (fun i' j' hi' hj' => ?_) ?_
           ·rw [if_pos (Nat.lt_one_iff.1 hi')]; rfl
           refine rn6 ?_
           refine zH (is := [1]) (by kernel_rfl) (by simp) Z ⟨fun o ho => ?_, trivial⟩
           all_goals (cases ho)
           refine rn6 ?_
           exact h1 _ ⟨Z, Z, Z, Z, Z, Z, Z, Z, Z, Z, Z, trivial⟩
        ·refine rn6 ?_
         refine zH (is := [0, 3]) (by kernel_rfl) (by simp) Z ⟨fun o ho => ?_, fun o ho => ?_, trivial⟩
         all_goals (cases ho)
         ·refine rn6 ?_
          refine zH (is := [3]) (by kernel_rfl) (by simp) Z ⟨fun o ho => ?_, trivial⟩
          all_goals (cases ho)
          refine rn6 ?_
          exact f1 _ ⟨Z, Z, Z, Z, Z, Z, Z, Z, Z, Z, Z, trivial⟩
         ·refine rn6 ?_
          refine zH (is := [0]) (by kernel_rfl) (by simp) Z ⟨fun o ho => ?_, trivial⟩
          all_goals (cases ho)
          refine rn6 ?_
          exact f1 _ ⟨Z, Z, Z, Z, Z, Z, Z, Z, Z, Z, Z, trivial⟩
        ·refine rn6 ?_
         refine zH (is := [0, 1]) (by kernel_rfl) (by simp) Z ⟨fun o ho => ?_, fun o ho => ?_, trivial⟩
         all_goals (cases ho)
         ·refine rn6 ?_
          refine zH (is := [1, 4]) (by kernel_rfl) (by simp) Z ⟨fun o ho => ?_, fun o ho => ?_, trivial⟩
          all_goals (cases ho)
          ·refine rn6 ?_
           exact f1 _ ⟨Z, Z, Z, Z, Z, Z, Z, Z, Z, Z, Z, trivial⟩
          ·refine zN (c' := (.box [.int .i64 ((0 : Nat)), .ro (.strs t.X) 0 t.X.length, .ro (.strs t.Y) 0 t.Y.length, .ro (.strs t.R) 0 t.R.length, .str t.V])) Z Z Z Z Z Nat.zero_lt_one Z Z (fun i' j' hi' hj' => ?_) ?_
           ·rw [if_pos (Nat.lt_one_iff.1 hi')]; rfl
           refine rn6 ?_
           refine zH (is := [1]) (by kernel_rfl) (by simp) Z ⟨fun o ho => ?_, trivial⟩
           all_goals (cases ho)
           refine rn6 ?_
           exact h1 _ ⟨Z, Z, Z, Z, Z, Z, Z, Z, Z, Z, Z, trivial⟩
         ·refine rn6 ?_
          refine zH (is := [0]) (by kernel_rfl) (by simp) Z ⟨fun o ho => ?_, trivial⟩
          all_goals (cases ho)
          refine rn6 ?_
          exact f1 _ ⟨Z, Z, Z, Z, Z, Z, Z, Z, Z, Z, Z, trivial⟩
       ·refine rn6 ?_
        refine zH (is := [0, 1, 2]) (by kernel_rfl) (by simp) Z ⟨fun o ho => ?_, fun o ho => ?_, fun o ho => ?_, trivial⟩
        all_goals (cases ho)
        ·refine rn6 ?_
         refine zH (is := [1, 2]) (by kernel_rfl) (by simp) Z ⟨fun o ho => ?_, fun o ho => ?_, trivial⟩
         all_goals (cases ho)
         ·refine rn6 ?_
          refine zH (is := [2]) (by kernel_rfl) (by simp) Z ⟨fun o ho => ?_, trivial⟩
          all_goals (cases ho)
          refine rn6 ?_
          exact f2 _ ⟨Z, Z, Z, Z, Z, Z, Z, Z, Z, Z, Z, trivial⟩
         ·refine rn6 ?_
          refine zH (is := [1, 4]) (by kernel_rfl) (by simp) Z ⟨fun o ho => ?_, fun o ho => ?_, trivial⟩
          all_goals (cases ho)
          ·refine rn6 ?_
           exact f2 _ ⟨Z, Z, Z, Z, Z, Z, Z, Z, Z, Z, Z, trivial⟩
          ·refine zN (c' := (.box [.int .i64 ((0 : Nat)), .ro (.strs t.X) 0 t.X.length, .ro (.strs t.Y) 0 t.Y.length, .ro (.strs t.R) 0 t.R.length, .str t.V])) Z Z Z Z Z Nat.zero_lt_one Z Z (fun i' j' hi' hj' => ?_) ?_
           ·rw [if_pos (Nat.lt_one_iff.1 hi')]; rfl
           refine rn6 ?_
           refine zH (is := [1]) (by kernel_rfl) (by simp) Z ⟨fun o ho => ?_, trivial⟩
           all_goals (cases ho)
           refine rn6 ?_
           exact h2 _ ⟨Z, Z, Z, Z, Z, Z, Z, Z, Z, Z, Z, trivial⟩
        ·refine rn6 ?_
         refine zH (is := [0, 2]) (by kernel_rfl) (by simp) Z ⟨fun o ho => ?_, fun o ho => ?_, trivial⟩
         all_goals (cases ho)
         ·refine rn6 ?_
          refine zH (is := [2]) (by kernel_rfl) (by simp) Z ⟨fun o ho => ?_, trivial⟩
          all_goals (cases ho)
          refine rn6 ?_
          exact f2 _ ⟨Z, Z, Z, Z, Z, Z, Z, Z, Z, Z, Z, trivial⟩
         ·refine rn6 ?_
          refine zH (is := [0]) (by kernel_rfl) (by simp) Z ⟨fun o ho => ?_, trivial⟩
          all_goals (cases ho)
          refine rn6 ?_
          exact f2 _ ⟨Z, Z, Z, Z, Z, Z, Z, Z, Z, Z, Z, trivial⟩
        ·refine rn6 ?_
         refine zH (is := [0, 1]) (by kernel_rfl) (by simp) Z ⟨fun o ho => ?_, fun o ho => ?_, trivial⟩
         all_goals (cases ho)
         ·refine rn6 ?_
          refine zH (is := [1, 4]) (by kernel_rfl) (by simp) Z ⟨fun o ho => ?_, fun o ho => ?_, trivial⟩
          all_goals (cases ho)
          ·refine rn6 ?_
           exact f2 _ ⟨Z, Z, Z, Z, Z, Z, Z, Z, Z, Z, Z, trivial⟩
          ·refine zN (c' := (.box [.int .i64 ((0 : Nat)), .ro (.strs t.X) 0 t.X.length, .ro (.strs t.Y) 0 t.Y.length, .ro (.strs t.R) 0 t.R.length, .str t.V])) Z Z Z Z Z Nat.zero_lt_one Z Z (fun i' j' hi' hj' => ?_) ?_
           ·rw [if_pos (Nat.lt_one_iff.1 hi')]; rfl
           refine rn6 ?_
           refine zH (is := [1]) (by kernel_rfl) (by simp) Z ⟨fun o ho => ?_, trivial⟩
           all_goals (cases ho)
           refine rn6 ?_
           exact h2 _ ⟨Z, Z, Z, Z, Z, Z, Z, Z, Z, Z, Z, trivial⟩
         ·refine rn6 ?_
          refine zH (is := [0]) (by kernel_rfl) (by simp) Z ⟨fun o ho => ?_, trivial⟩
          all_goals (cases ho)
          refine rn6 ?_
          exact f2 _ ⟨Z, Z, Z, Z, Z, Z, Z, Z, Z, Z, Z, trivial⟩
      ·refine zH (is := [4]) (by kernel_rfl) (by simp) Z ⟨fun o ho => ?_, trivial⟩
       all_goals (cases ho)
       refine zN (c' := (.box [.int .i64 ((0 : Nat)), .ro (.strs t.X) 0 t.X.length, .ro (.strs t.Y) 0 t.Y.length, .ro (.strs t.R) 0 t.R.length, .str t.V])) Z Z Z Z Z Nat.zero_lt_one Z Z (fun i' j' hi' hj' => ?_) ?_
       ·rw [if_pos (Nat.lt_one_iff.1 hi')]; rfl
       refine rn6 ?_
       exact h2 _ ⟨Z, Z, Z, Z, Z, Z, Z, Z, Z, Z, Z, trivial⟩
     ·refine zH (is := [4]) (by kernel_rfl) (by simp) Z ⟨fun o ho => ?_, trivial⟩
      all_goals (cases ho)
      refine zN (c' := (.box [.int .i64 ((0 : Nat)), .ro (.strs t.X) 0 t.X.length, .ro (.strs t.Y) 0 t.Y.length, .ro (.strs t.R) 0 t.R.length, .str t.V])) Z Z Z Z Z Nat.zero_lt_one Z Z (fun i' j' hi' hj' => ?_) ?_
      ·rw [if_pos (Nat.lt_one_iff.1 hi')]; rfl
      refine rn6 ?_
      exact h1 _ ⟨Z, Z, Z, Z, Z, Z, Z, Z, Z, Z, Z, trivial⟩
    ·refine zH (is := [5]) (by kernel_rfl) (by simp) Z ⟨fun o ho => ?_, trivial⟩
     all_goals (cases ho)
     refine zN (c' := (.box [.int .i64 ((0 : Nat)), .ro (.strs t.X) 0 t.X.length, .ro (.strs t.Y) 0 t.Y.length, .ro (.strs t.R) 0 t.R.length, .str t.V])) Z Z Z Z Z Nat.zero_lt_one Z Z (fun i' j' hi' hj' => ?_) ?_
     ·rw [if_pos (Nat.lt_one_iff.1 hi')]; rfl
     refine rn1 ?_
     refine zX (by kernel_rfl) ?_
     refine rn15 ?_
     by_cases hx : v.length = t.X.length
     ·refine zA 98 (.bool true) Z (AEq.of_eq (by rw [decide_eq_true (show ((v.length : Nat) : Int) = ((t.X.length : Nat) : Int) by omega)])) ?_
      refine rn6 ?_
      refine zA 99 (.agg [.ro (zr A) 0 A.length, .ro (.strs B) 0 B.length, .ro (.strs C) 0 C.length]) Z (AEq.of_eq Z) ?_
      refine zA 100 (.agg [.int .i64 ((0 : Nat)), .ro (.strs W) 0 W.length, .ro (.strs t.Y) 0 t.Y.length, .ro (.strs t.R) 0 t.R.length, .str t.V]) Z (AEq.of_eq Z) ?_
      refine zB Z Z Z cva ?_
      refine rn4 ?_
      refine zA 104 (.bool false) Z (AEq.of_eq (by rw [decide_eq_false hva])) ?_
      refine rn5 ?_
      by_cases hy : v.length = t.Y.length
      ·refine zA 111 (.bool true) Z (AEq.of_eq (by rw [decide_eq_true (show ((v.length : Nat) : Int) = ((t.Y.length : Nat) : Int) by omega)])) ?_
       refine rn6 ?_
       refine zA 112 (.agg [.ro (zr A) 0 A.length, .ro (.strs B) 0 B.length, .ro (.strs C) 0 C.length]) Z (AEq.of_eq Z) ?_
       refine zA 113 (.agg [.int .i64 ((0 : Nat)), .ro (.strs t.X) 0 t.X.length, .ro (.strs W) 0 W.length, .ro (.strs t.R) 0 t.R.length, .str t.V]) Z (AEq.of_eq Z) ?_
       refine zB Z Z Z cvb ?_
       refine rn4 ?_
       refine zD Z (fun q => absurd q hvb) (fun _ => ?_)
       refine rn9 ?_
       refine zA3 [some ⟨85, .box [.ro (zr A) 0 A.length, .ro (.strs B) 0 B.length, .ro (.strs C) 0 C.length]⟩, some ⟨88, .box [.int .i64 ((0 : Nat)), .ro (.strs t.X) 0 t.X.length, .ro (.strs t.Y) 0 t.Y.length, .ro (.strs t.R) 0 t.R.length, .str t.V]⟩, some ⟨88, .box [.int .i64 ((0 : Nat)), .ro (.strs t.X) 0 t.X.length, .ro (.strs t.Y) 0 t.Y.length, .ro (.strs t.R) 0 t.R.length, .str s]⟩] [none, some ⟨88, .box [.int .i64 ((0 : Nat)), .ro (.strs t.X) 0 t.X.length, .ro (.strs W) 0 W.length, .ro (.strs t.R) 0 t.R.length, .str t.V]⟩, some ⟨88, .box [.int .i64 ((0 : Nat)), .ro (.strs W) 0 W.length, .ro (.strs t.Y) 0 t.Y.length, .ro (.strs t.R) 0 t.R.length, .str t.V]⟩] [(1, .int .i64 i), (2, .ptr 0 0 0), (5, .ptr 1 0 0), (71, .agg [.ro (.strs t.X) 0 t.X.length, .ro (.strs t.Y) 0 t.Y.length]), (72, .int .i64 (j : Nat))] Z ⟨Z, Z, Z, Z, Z, trivial⟩ (fun h hh => by rw [hfix] at hh; exact hh.elim) (fun h o ho => by
        match h, ho with
        | 0, ho => cases ho; exact zzAB _ _ _ _
        | 1, ho => cases ho; exact zzAA _ _ _ _ _ _
        | 2, ho => cases ho; exact zzAA _ _ _ _ _ _) rfl ?_
       exact fin _ ⟨Z, Z, Z, Z, Z, trivial⟩
      ·refine zA 111 (.bool false) Z (AEq.of_eq (by rw [decide_eq_false (show ¬ ((v.length : Nat) : Int) = ((t.Y.length : Nat) : Int) by omega)])) ?_
       refine rn9 ?_
       refine zA3 [some ⟨85, .box [.ro (zr A) 0 A.length, .ro (.strs B) 0 B.length, .ro (.strs C) 0 C.length]⟩, some ⟨88, .box [.int .i64 ((0 : Nat)), .ro (.strs t.X) 0 t.X.length, .ro (.strs t.Y) 0 t.Y.length, .ro (.strs t.R) 0 t.R.length, .str t.V]⟩, some ⟨88, .box [.int .i64 ((0 : Nat)), .ro (.strs t.X) 0 t.X.length, .ro (.strs t.Y) 0 t.Y.length, .ro (.strs t.R) 0 t.R.length, .str s]⟩] [none, some ⟨88, .box [.int .i64 ((0 : Nat)), .ro (.strs t.X) 0 t.X.length, .ro (.strs W) 0 W.length, .ro (.strs t.R) 0 t.R.length, .str t.V]⟩, some ⟨88, .box [.int .i64 ((0 : Nat)), .ro (.strs W) 0 W.length, .ro (.strs t.Y) 0 t.Y.length, .ro (.strs t.R) 0 t.R.length, .str t.V]⟩] [(1, .int .i64 i), (2, .ptr 0 0 0), (5, .ptr 1 0 0), (71, .agg [.ro (.strs t.X) 0 t.X.length, .ro (.strs t.Y) 0 t.Y.length]), (72, .int .i64 (j : Nat))] Z ⟨Z, Z, Z, Z, Z, trivial⟩ (fun h hh => by rw [hfix] at hh; exact hh.elim) (fun h o ho => by
        match h, ho with
        | 0, ho => cases ho; exact zzAB _ _ _ _
        | 1, ho => cases ho; exact zzAA _ _ _ _ _ _
        | 2, ho => cases ho; exact zzAA _ _ _ _ _ _) rfl ?_
       exact fin _ ⟨Z, Z, Z, Z, Z, trivial⟩
     ·refine zA 98 (.bool false) Z (AEq.of_eq (by rw [decide_eq_false (show ¬ ((v.length : Nat) : Int) = ((t.X.length : Nat) : Int) by omega)])) ?_
      refine rn6 ?_
      by_cases hy : v.length = t.Y.length
      ·refine zA 111 (.bool true) Z (AEq.of_eq (by rw [decide_eq_true (show ((v.length : Nat) : Int) = ((t.Y.length : Nat) : Int) by omega)])) ?_
       refine rn6 ?_
       refine zA 112 (.agg [.ro (zr A) 0 A.length, .ro (.strs B) 0 B.length, .ro (.strs C) 0 C.length]) Z (AEq.of_eq Z) ?_
       refine zA 113 (.agg [.int .i64 ((0 : Nat)), .ro (.strs t.X) 0 t.X.length, .ro (.strs W) 0 W.length, .ro (.strs t.R) 0 t.R.length, .str t.V]) Z (AEq.of_eq Z) ?_
       refine zB Z Z Z cvb ?_
       refine rn4 ?_
       refine zD Z (fun q => absurd q hvb) (fun _ => ?_)
       refine rn9 ?_
       refine zA3 [some ⟨85, .box [.ro (zr A) 0 A.length, .ro (.strs B) 0 B.length, .ro (.strs C) 0 C.length]⟩, some ⟨88, .box [.int .i64 ((0 : Nat)), .ro (.strs t.X) 0 t.X.length, .ro (.strs t.Y) 0 t.Y.length, .ro (.strs t.R) 0 t.R.length, .str t.V]⟩, some ⟨88, .box [.int .i64 ((0 : Nat)), .ro (.strs t.X) 0 t.X.length, .ro (.strs t.Y) 0 t.Y.length, .ro (.strs t.R) 0 t.R.length, .str s]⟩] [none, some ⟨88, .box [.int .i64 ((0 : Nat)), .ro (.strs t.X) 0 t.X.length, .ro (.strs W) 0 W.length, .ro (.strs t.R) 0 t.R.length, .str t.V]⟩, some ⟨88, .box [.int .i64 ((0 : Nat)), .ro (.strs W) 0 W.length, .ro (.strs t.Y) 0 t.Y.length, .ro (.strs t.R) 0 t.R.length, .str t.V]⟩] [(1, .int .i64 i), (2, .ptr 0 0 0), (5, .ptr 1 0 0), (71, .agg [.ro (.strs t.X) 0 t.X.length, .ro (.strs t.Y) 0 t.Y.length]), (72, .int .i64 (j : Nat))] Z ⟨Z, Z, Z, Z, Z, trivial⟩ (fun h hh => by rw [hfix] at hh; exact hh.elim) (fun h o ho => by
        match h, ho with
        | 0, ho => cases ho; exact zzAB _ _ _ _
        | 1, ho => cases ho; exact zzAA _ _ _ _ _ _
        | 2, ho => cases ho; exact zzAA _ _ _ _ _ _) rfl ?_
       exact fin _ ⟨Z, Z, Z, Z, Z, trivial⟩
      ·refine zA 111 (.bool false) Z (AEq.of_eq (by rw [decide_eq_false (show ¬ ((v.length : Nat) : Int) = ((t.Y.length : Nat) : Int) by omega)])) ?_
       refine rn9 ?_
       refine zA3 [some ⟨85, .box [.ro (zr A) 0 A.length, .ro (.strs B) 0 B.length, .ro (.strs C) 0 C.length]⟩, some ⟨88, .box [.int .i64 ((0 : Nat)), .ro (.strs t.X) 0 t.X.length, .ro (.strs t.Y) 0 t.Y.length, .ro (.strs t.R) 0 t.R.length, .str t.V]⟩, some ⟨88, .box [.int .i64 ((0 : Nat)), .ro (.strs t.X) 0 t.X.length, .ro (.strs t.Y) 0 t.Y.length, .ro (.strs t.R) 0 t.R.length, .str s]⟩] [none, some ⟨88, .box [.int .i64 ((0 : Nat)), .ro (.strs t.X) 0 t.X.length, .ro (.strs W) 0 W.length, .ro (.strs t.R) 0 t.R.length, .str t.V]⟩, some ⟨88, .box [.int .i64 ((0 : Nat)), .ro (.strs W) 0 W.length, .ro (.strs t.Y) 0 t.Y.length, .ro (.strs t.R) 0 t.R.length, .str t.V]⟩] [(1, .int .i64 i), (2, .ptr 0 0 0), (5, .ptr 1 0 0), (71, .agg [.ro (.strs t.X) 0 t.X.length, .ro (.strs t.Y) 0 t.Y.length]), (72, .int .i64 (j : Nat))] Z ⟨Z, Z, Z, Z, Z, trivial⟩ (fun h hh => by rw [hfix] at hh; exact hh.elim) (fun h o ho => by
        match h, ho with
        | 0, ho => cases ho; exact zzAB _ _ _ _
        | 1, ho => cases ho; exact zzAA _ _ _ _ _ _
        | 2, ho => cases ho; exact zzAA _ _ _ _ _ _) rfl ?_
       exact fin _ ⟨Z, Z, Z, Z, Z, trivial⟩
   ·refine zH (is := [5]) (by kernel_rfl) (by simp) Z ⟨fun o ho => ?_, trivial⟩
    all_goals (cases ho)
    refine zN (c' := (.box [.int .i64 ((0 : Nat)), .ro (.strs t.X) 0 t.X.length, .ro (.strs t.Y) 0 t.Y.length, .ro (.strs t.R) 0 t.R.length, .str t.V])) Z Z Z Z Z Nat.zero_lt_one Z Z (fun i' j' hi' hj' => ?_) ?_
    ·rw [if_pos (Nat.lt_one_iff.1 hi')]; rfl
    refine rn1 ?_
    refine zX (by kernel_rfl) ?_
    refine rn15 ?_
    by_cases hx : v.length = t.X.length
    ·refine zA 98 (.bool true) Z (AEq.of_eq (by rw [decide_eq_true (show ((v.length : Nat) : Int) = ((t.X.length : Nat) : Int) by omega)])) ?_
     refine rn6 ?_
     refine zA 99 (.agg [.ro (zr A) 0 A.length, .ro (.strs B) 0 B.length, .ro (.strs C) 0 C.length]) Z (AEq.of_eq Z) ?_
     refine zA 100 (.agg [.int .i64 ((0 : Nat)), .ro (.strs W) 0 W.length, .ro (.strs t.Y) 0 t.Y.length, .ro (.strs t.R) 0 t.R.length, .str t.V]) Z (AEq.of_eq Z) ?_
     refine zB Z Z Z cva ?_
     refine rn4 ?_
     refine zA 104 (.bool false) Z (AEq.of_eq (by rw [decide_eq_false hva])) ?_
     refine rn5 ?_
     by_cases hy : v.length = t.Y.length
     ·refine zA 111 (.bool true) Z (AEq.of_eq (by rw [decide_eq_true (show ((v.length : Nat) : Int) = ((t.Y.length : Nat) : Int) by omega)])) ?_
      refine rn6 ?_
      refine zA 112 (.agg [.ro (zr A) 0 A.length, .ro (.strs B) 0 B.length, .ro (.strs C) 0 C.length]) Z (AEq.of_eq Z) ?_
      refine zA 113 (.agg [.int .i64 ((0 : Nat)), .ro (.strs t.X) 0 t.X.length, .ro (.strs W) 0 W.length, .ro (.strs t.R) 0 t.R.length, .str t.V]) Z (AEq.of_eq Z) ?_
      refine zB Z Z Z cvb ?_
      refine rn4 ?_
      refine zD Z (fun q => absurd q hvb) (fun _ => ?_)
      refine rn9 ?_
      refine zA3 [some ⟨85, .box [.ro (zr A) 0 A.length, .ro (.strs B) 0 B.length, .ro (.strs C) 0 C.length]⟩, some ⟨88, .box [.int .i64 ((0 : Nat)), .ro (.strs t.X) 0 t.X.length, .ro (.strs t.Y) 0 t.Y.length, .ro (.strs t.R) 0 t.R.length, .str t.V]⟩, some ⟨88, .box [.int .i64 ((0 : Nat)), .ro (.strs t.X) 0 t.X.length, .ro (.strs t.Y) 0 t.Y.length, .ro (.strs t.R) 0 t.R.length, .str s]⟩] [none, some ⟨88, .box [.int .i64 ((0 : Nat)), .ro (.strs W) 0 W.length, .ro (.strs t.Y) 0 t.Y.length, .ro (.strs t.R) 0 t.R.length, .str t.V]⟩, some ⟨88, .box [.int .i64 ((0 : Nat)), .ro (.strs t.X) 0 t.X.length, .ro (.strs W) 0 W.length, .ro (.strs t.R) 0 t.R.length, .str t.V]⟩] [(1, .int .i64 i), (2, .ptr 0 0 0), (5, .ptr 1 0 0), (71, .agg [.ro (.strs t.X) 0 t.X.length, .ro (.strs t.Y) 0 t.Y.length]), (72, .int .i64 (j : Nat))] Z ⟨Z, Z, Z, Z, Z, trivial⟩ (fun h hh => by rw [hfix] at hh; exact hh.elim) (fun h o ho => by
       match h, ho with
       | 0, ho => cases ho; exact zzAB _ _ _ _
       | 1, ho => cases ho; exact zzAA _ _ _ _ _ _
       | 2, ho => cases ho; exact zzAA _ _ _ _ _ _) rfl ?_
      exact fin _ ⟨Z, Z, Z, Z, Z, trivial⟩
     ·refine zA 111 (.bool false) Z (AEq.of_eq (by rw [decide_eq_false (show ¬ ((v.length : Nat) : Int) = ((t.Y.length : Nat) : Int) by omega)])) ?_
      refine rn9 ?_
      refine zA3 [some ⟨85, .box [.ro (zr A) 0 A.length, .ro (.strs B) 0 B.length, .ro (.strs C) 0 C.length]⟩, some ⟨88, .box [.int .i64 ((0 : Nat)), .ro (.strs t.X) 0 t.X.length, .ro (.strs t.Y) 0 t.Y.length, .ro (.strs t.R) 0 t.R.length, .str t.V]⟩, some ⟨88, .box [.int .i64 ((0 : Nat)), .ro (.strs t.X) 0 t.X.length, .ro (.strs t.Y) 0 t.Y.length, .ro (.strs t.R) 0 t.R.length, .str s]⟩] [none, some ⟨88, .box [.int .i64 ((0 : Nat)), .ro (.strs W) 0 W.length, .ro (.strs t.Y) 0 t.Y.length, .ro (.strs t.R) 0 t.R.length, .str t.V]⟩, some ⟨88, .box [.int .i64 ((0 : Nat)), .ro (.strs t.X) 0 t.X.length, .ro (.strs W) 0 W.length, .ro (.strs t.R) 0 t.R.length, .str t.V]⟩] [(1, .int .i64 i), (2, .ptr 0 0 0), (5, .ptr 1 0 0), (71, .agg [.ro (.strs t.X) 0 t.X.length, .ro (.strs t.Y) 0 t.Y.length]), (72, .int .i64 (j : Nat))] Z ⟨Z, Z, Z, Z, Z, trivial⟩ (fun h hh => by rw [hfix] at hh; exact hh.elim) (fun h o ho => by
       match h, ho with
       | 0, ho => cases ho; exact zzAB _ _ _ _
       | 1, ho => cases ho; exact zzAA _ _ _ _ _ _
       | 2, ho => cases ho; exact zzAA _ _ _ _ _ _) rfl ?_
      exact fin _ ⟨Z, Z, Z, Z, Z, trivial⟩
    ·refine zA 98 (.bool false) Z (AEq.of_eq (by rw [decide_eq_false (show ¬ ((v.length : Nat) : Int) = ((t.X.length : Nat) : Int) by omega)])) ?_
     refine rn6 ?_
     by_cases hy : v.length = t.Y.length
     ·refine zA 111 (.bool true) Z (AEq.of_eq (by rw [decide_eq_true (show ((v.length : Nat) : Int) = ((t.Y.length : Nat) : Int) by omega)])) ?_
      refine rn6 ?_
      refine zA 112 (.agg [.ro (zr A) 0 A.length, .ro (.strs B) 0 B.length, .ro (.strs C) 0 C.length]) Z (AEq.of_eq Z) ?_
      refine zA 113 (.agg [.int .i64 ((0 : Nat)), .ro (.strs t.X) 0 t.X.length, .ro (.strs W) 0 W.length, .ro (.strs t.R) 0 t.R.length, .str t.V]) Z (AEq.of_eq Z) ?_
      refine zB Z Z Z cvb ?_
      refine rn4 ?_
      refine zD Z (fun q => absurd q hvb) (fun _ => ?_)
      refine rn9 ?_
      refine zA3 [some ⟨85, .box [.ro (zr A) 0 A.length, .ro (.strs B) 0 B.length, .ro (.strs C) 0 C.length]⟩, some ⟨88, .box [.int .i64 ((0 : Nat)), .ro (.strs t.X) 0 t.X.length, .ro (.strs t.Y) 0 t.Y.length, .ro (.strs t.R) 0 t.R.length, .str t.V]⟩, some ⟨88, .box [.int .i64 ((0 : Nat)), .ro (.strs t.X) 0 t.X.length, .ro (.strs t.Y) 0 t.Y.length, .ro (.strs t.R) 0 t.R.length, .str s]⟩] [none, some ⟨88, .box [.int .i64 ((0 : Nat)), .ro (.strs W) 0 W.length, .ro (.strs t.Y) 0 t.Y.length, .ro (.strs t.R) 0 t.R.length, .str t.V]⟩, some ⟨88, .box [.int .i64 ((0 : Nat)), .ro (.strs t.X) 0 t.X.length, .ro (.strs W) 0 W.length, .ro (.strs t.R) 0 t.R.length, .str t.V]⟩] [(1, .int .i64 i), (2, .ptr 0 0 0), (5, .ptr 1 0 0), (71, .agg [.ro (.strs t.X) 0 t.X.length, .ro (.strs t.Y) 0 t.Y.length]), (72, .int .i64 (j : Nat))] Z ⟨Z, Z, Z, Z, Z, trivial⟩ (fun h hh => by rw [hfix] at hh; exact hh.elim) (fun h o ho => by
       match h, ho with
       | 0, ho => cases ho; exact zzAB _ _ _ _
       | 1, ho => cases ho; exact zzAA _ _ _ _ _ _
       | 2, ho => cases ho; exact zzAA _ _ _ _ _ _) rfl ?_
      exact fin _ ⟨Z, Z, Z, Z, Z, trivial⟩
     ·refine zA 111 (.bool false) Z (AEq.of_eq (by rw [decide_eq_false (show ¬ ((v.length : Nat) : Int) = ((t.Y.length : Nat) : Int) by omega)])) ?_
      refine rn9 ?_
      refine zA3 [some ⟨85, .box [.ro (zr A) 0 A.length, .ro (.strs B) 0 B.length, .ro (.strs C) 0 C.length]⟩, some ⟨88, .box [.int .i64 ((0 : Nat)), .ro (.strs t.X) 0 t.X.length, .ro (.strs t.Y) 0 t.Y.length, .ro (.strs t.R) 0 t.R.length, .str t.V]⟩, some ⟨88, .box [.int .i64 ((0 : Nat)), .ro (.strs t.X) 0 t.X.length, .ro (.strs t.Y) 0 t.Y.length, .ro (.strs t.R) 0 t.R.length, .str s]⟩] [none, some ⟨88, .box [.int .i64 ((0 : Nat)), .ro (.strs W) 0 W.length, .ro (.strs t.Y) 0 t.Y.length, .ro (.strs t.R) 0 t.R.length, .str t.V]⟩, some ⟨88, .box [.int .i64 ((0 : Nat)), .ro (.strs t.X) 0 t.X.length, .ro (.strs W) 0 W.length, .ro (.strs t.R) 0 t.R.length, .str t.V]⟩] [(1, .int .i64 i), (2, .ptr 0 0 0), (5, .ptr 1 0 0), (71, .agg [.ro (.strs t.X) 0 t.X.length, .ro (.strs t.Y) 0 t.Y.length]), (72, .int .i64 (j : Nat))] Z ⟨Z, Z, Z, Z, Z, trivial⟩ (fun h hh => by rw [hfix] at hh; exact hh.elim) (fun h o ho => by
       match h, ho with
       | 0, ho => cases ho; exact zzAB _ _ _ _
       | 1, ho => cases ho; exact zzAA _ _ _ _ _ _
       | 2, ho => cases ho; exact zzAA _ _ _ _ _ _) rfl ?_
      exact fin _ ⟨Z, Z, Z, Z, Z, trivial⟩
  ·refine rn3 ?_
   exact zM ⟨j + 1, by omega, by omega, ⟨Z, Z, Z, Z, Z, trivial⟩, Z⟩
 ·refine rn5 ?_
  exact zI hR Z Z
end Go.Proofs.YtnkealfaldjipaaGreatDoor
namespace Go.Proofs.YtnkealfaldjipaaGreatDoor
open Go.Ax Go.Ax.Bg Go.Ax.Rt Go.RowKit Go.Ax.Dt Go.Ax.Sx
set_option maxRecDepth 100000
set_option maxHeartbeats 4000000
theorem rdProb {H : Type} {enc : TypeId × Value → H} {W : World} : Rd enc Tryz.prog W 85 3 cellsX ShortPr :=
 (Rd.struct Tryz.underlying85 (by kernel_rfl) (RdF.cons rfl rfl (Rd.slice [] Tryz.underlying82 (by kernel_rfl) rfl (Rd.strs Tryz.underlying83 (by kernel_rfl) Tryz.underlying27)) (RdF.cons rfl rfl (Rd.strs Tryz.underlying83 (by kernel_rfl) Tryz.underlying27) (RdF.cons rfl rfl (Rd.strs Tryz.underlying83 (by kernel_rfl) Tryz.underlying27) RdF.nil)))).map
  (fun a => (⟨a.1, a.2.1, a.2.2.1⟩ : Prob)) (fun a h => ⟨h.1.1, h.1.2, h.2.1.1, h.2.1.2, h.2.2.1.1, h.2.2.1.2⟩) (fun a => rfl) (fun a i hi => AEq.rfl')
end Go.Proofs.YtnkealfaldjipaaGreatDoor
