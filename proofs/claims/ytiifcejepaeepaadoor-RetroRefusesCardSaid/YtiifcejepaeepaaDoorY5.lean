import Derived.Shelf.SlSortCmp.NoneTotal
import Derived.Ground.SlsfProg
import Derived.Test.YtiifcejepaeepaaDoorProg
import Derived.Shelf.Strconv.AppendIntPublic10
import Derived.Test.YtiifcejepaeepaaDoorY4
set_option linter.unusedVariables false
set_option linter.unusedSimpArgs false
set_option maxRecDepth 100000
set_option maxHeartbeats 4000000
namespace Go.Proofs.YtiifcejepaeepaaDoor
open Go.Ax Go.Ax.Gm Go.RowKit Go.Ax.Idx Go.Ax.Cd
attribute [local irreducible] Ax zB8 QOp ze
structure LenP (p : Pos) : Prop where
 c : p.cells.length ≤ 9223372036854775807
 h0 : p.h0.length ≤ 9223372036854775807
 h1 : p.h1.length ≤ 9223372036854775807
def outB (a b x : Int) : Bool := decide (x < a) || decide (b < x)
theorem outB_eq (a b x : Int) : outB a b x = !(Go.Ax.Gm.within x a b) := by
 unfold outB Go.Ax.Gm.within
 rw [Bool.not_and, ← decide_not, ← decide_not]
 congr 1
 ·exact decide_eq_decide.2 (by omega)
 ·exact decide_eq_decide.2 (by omega)
theorem any_out (l : List Int) (a b : Int) : l.any (outB a b) = !(l.all (fun x => Go.Ax.Gm.within x a b)) := by
 rw [List.not_all_eq_any_not]
 congr 1
 funext x; exact outB_eq a b x
/-- place.sound$1$1 -/
theorem zLJ (a b x : Int) : zn Tryd.prog 72 [.int .i64 x, .rp (.box [.int .i64 a]) 0 0, .rp (.box [.int .i64 b]) 0 0] (.bool (outB a b x)) := by
 refine ze.value0 (zP (P := Tryd.prog) (fn := Tryd.f72) J J (by kernel_rfl) J (fun c hR hfix => ?_)) (fix := fun _ => False) (fun _ h => h) J J
 repeat (first | refine zA (zG rfl) ?_ | refine zA (zN rfl) ?_ | refine zC ?_ | refine zB ?_ | refine zX ?_ | refine zK rfl ?_ | refine zA (zBv rfl rfl) ?_ | refine zA (zD rfl rfl rfl rfl) ?_)
 refine zh J J (fun h => ?_) (fun h => ?_)
 ·refine rn6 ?_
  refine zO hR J ?_
  unfold outB; rw [decide_eq_true (show x < a from h)]; rfl
 ·refine zAz ?_
  refine zO hR J ?_
  unfold outB; rw [decide_eq_false (show ¬ x < a from h)]; rfl
abbrev outF (a b : Int) : AV := .fn 72 [.rp (.box [.int .i64 a]) 0 0, .rp (.box [.int .i64 b]) 0 0]
/-- place.sound$1 -/
theorem zBI (a b : Int) : zn Tryd.prog 71 [.int .i64 a, .int .i64 b] (outF a b) := by
 refine ze.value (K := fun r H => r = .fn 72 [.ptr 0 0 0, .ptr 1 0 0] ∧ H = [some ⟨3, .box [.int .i64 a]⟩, some ⟨3, .box [.int .i64 b]⟩]) (zP (P := Tryd.prog) (fn := Tryd.f71) J J (by kernel_rfl) J (fun c hR hfix => ?_)) (fix := fun _ => False) (fun _ h => h) J ?_
 ·repeat (first | refine zA (zN rfl) ?_ | refine zC ?_ | refine zB ?_ | refine zX ?_ | refine zK rfl ?_ | refine zu ?_ | refine zA (zCX rfl) ?_ | refine zAp rfl rfl ?_)
  exact zO hR J ⟨J, J⟩
 ·rintro r H ⟨rfl, rfl⟩
  refine ⟨J, ?_, refl2 (zt J) (zt J)⟩
  exact ⟨fun o ho => by cases ho; exact Nat.zero_lt_one, fun o ho => by cases ho; exact Nat.zero_lt_one, trivial⟩
theorem zK7 (a b : List Int) (h : a.length + b.length ≤ 1000000) : zn Tryd.prog 48 [.ro (zHr [a, b]) 0 2] (zq (a ++ b)) := by
 have e : ([a, b] : List (List Int)).flatten = a ++ b := by simp
 have := zn.of_fcall (concat [a, b] (by show 2 ≤ 1000000; omega) (by rw [zBu, e, List.length_append]; omega)) zAI rfl rfl
 rw [e] at this
 exact this
/-- place.sound -/
theorem sound_ok (r : Go.Ax.Gm.Rules) (hv : ValidR r) (p : Pos) (hp : LenP p) : zn Tryd.prog 62 [ruA r, poA p] (.int .i64 (zC1 r p)) := by
 refine ze.value0 (zP (P := Tryd.prog) (fn := Tryd.f62) J J (by kernel_rfl) J (fun c hR hfix => ?_)) (fix := fun _ => False) (fun _ h => h) J J
 have hn6 := hv.n6
 obtain ⟨hc, hh0, hh1⟩ := hp
 have w1 := hv.w1
 have w8 := hv.w8
 have g1 := hv.h1
 have g8 := hv.h8
 have hwh : 0 ≤ r.w * r.h ∧ r.w * r.h ≤ 64 := ⟨Int.mul_nonneg (by omega) (by omega), by
  have a := Int.mul_le_mul w8 g8 (by omega) (by decide)
  exact Int.le_trans a (by decide)⟩
 refine zX ?_
 repeat (first | refine zA (zN rfl) ?_ | refine zC ?_ | refine zB ?_ | refine zK rfl ?_ | refine zAp rfl rfl ?_)
 refine zFh 2 3 [] J J J J trivial ⟨J, J, trivial⟩ J hfix ?_
 refine zBW ?_
 refine zA (zCY J J (by omega)) ?_
 refine rn3 ?_
 refine zh J J (fun h1 => ?_) (fun h1 => ?_)
 ·refine rn6 ?_
  refine zO hR J ?_
  unfold zC1; rw [if_pos (.inl h1)]; rfl
 repeat (first | refine zA (zG rfl) ?_ | refine zl rfl rfl ?_ | refine zA (zBP rfl rfl) ?_ | refine zA (zd rfl rfl) ?_ | refine zA (zA2 rfl rfl rfl) ?_ | refine zA (zD rfl rfl rfl rfl) ?_ | refine zA (zH rfl rfl rfl rfl rfl rfl) ?_ | refine zA (zBX rfl rfl rfl rfl (by first | (simp only [Nat.zero_add, Int.toNat_natCast]; exact rfl) | exact rfl) (by omega)) ?_)
 refine zh J J (fun h2 => ?_) (fun h2 => ?_)
 ·refine rn6 ?_
  refine zO hR J ?_
  unfold zC1; rw [if_pos (.inr (.inl (by omega)))]; rfl
 repeat (first | refine zA (zG rfl) ?_ | refine zC ?_ | refine zB ?_ | refine zl rfl rfl ?_ | refine zA (zBP rfl rfl) ?_ | refine zA (zd rfl rfl) ?_ | refine zA (zA2 rfl rfl rfl) ?_ | refine zA (zD rfl rfl rfl rfl) ?_ | refine zA (zH rfl rfl rfl rfl rfl rfl) ?_ | refine zA (zBX rfl rfl rfl rfl (by first | (simp only [Nat.zero_add, Int.toNat_natCast]; exact rfl) | exact rfl) (by omega)) ?_)
 refine zI J (fun h3 => ?_) (fun h3 => ?_)
 ·refine rn2 ?_
  refine zO hR J ?_
  unfold zC1; rw [if_pos (.inr (.inr (by omega)))]; rfl
 have h123 : ¬ ((p.cells.length : Int) ≠ r.w * r.h ∨ p.h0.length ≠ r.pcs.length ∨ p.h1.length ≠ r.pcs.length) := by
  rintro (q | q | q)
  ·exact h1 q
  ·omega
  ·omega
 repeat (first | refine zA (zN rfl) ?_ | refine zC ?_ | refine zB ?_ | refine zX ?_ | refine zK rfl ?_ | refine zAG ?_ | refine zA (zD rfl rfl rfl rfl) ?_ | refine zA (zH rfl rfl rfl rfl rfl rfl) ?_ | refine zA (zBX rfl rfl rfl rfl (by first | (simp only [Nat.zero_add, Int.toNat_natCast]; exact rfl) | exact rfl) (by omega)) ?_ | refine z7 rfl rfl rfl rfl rfl rfl rfl rfl rfl rfl rfl ?_)
 refine zAn 42 (.ro (zHr [p.h0, p.h1]) 0 2) J (AEq.ro J (fun d j hd hj => ?_)) ?_
 ·obtain rfl : j = 0 := Nat.lt_one_iff.1 hj
  match d, hd with
  | 0, _ => rfl
  | 1, _ => rfl
 refine zU J J J (zK7 p.h0 p.h1 (by omega)) ?_
 refine rn0 ?_
 have hlen2 : (p.h0 ++ p.h1).length ≤ 9223372036854775807 := by rw [List.length_append]; omega
 have bad : (p.cells.all (zDm r.pcs.length) = false ∨ (p.h0 ++ p.h1).all (fun n => Go.Ax.Gm.within n 0 1000) = false ∨ (p.turn ≠ 0 ∧ p.turn ≠ 1) ∨ p.quiet < 0 ∨ 200 < p.quiet) → zC1 r p = 4 := fun q => by
  unfold zC1; rw [if_neg h123, if_pos q]
 have good : ¬ (p.cells.all (zDm r.pcs.length) = false ∨ (p.h0 ++ p.h1).all (fun n => Go.Ax.Gm.within n 0 1000) = false ∨ (p.turn ≠ 0 ∧ p.turn ≠ 1) ∨ p.quiet < 0 ∨ 200 < p.quiet) → zC1 r p = 0 := fun q => by
  unfold zC1; rw [if_neg h123, if_neg q]
 have ccell := zGK p.cells 72 [.rp (.box [.int .i64 0]) 0 0, .rp (.box [.int .i64 (2 * (r.pcs.length : Int))]) 0 0] (outB 0 (2 * (r.pcs.length : Int))) rfl hc (fun x _ => zLJ _ _ x)
 have chand := zGK (p.h0 ++ p.h1) 72 [.rp (.box [.int .i64 0]) 0 0, .rp (.box [.int .i64 1000]) 0 0] (outB 0 1000) rfl hlen2 (fun x _ => zLJ _ _ x)
 rw [any_out] at ccell chand
 have ccell : zn Tryd.prog 31 [zq p.cells, outF 0 (2 * (r.pcs.length : Int))] (.bool (!(p.cells.all (zDm r.pcs.length)))) := ccell
 have chand : zn Tryd.prog 31 [zq (p.h0 ++ p.h1), outF 0 1000] (.bool (!((p.h0 ++ p.h1).all (fun n => Go.Ax.Gm.within n 0 1000)))) := chand
 cases b1 : p.cells.all (zDm r.pcs.length) with
 | false =>
  refine zb (by kernel_rfl) ?_
  refine zBE (fuel := 0) [0, 1, 2, 3, 4, 5, 6, 7, 8, 9, 10, 11, 12, 13, 14, 15, 16, 17, 18, 19, 20, 21, 22, 23, 24, 25, 26, 27, 28, 29, 30, 31, 32] [(2, .rp (.box (ruC r)) 0 0), (3, .rp (.box (poC p)) 0 0), (5, iN r.pcs.length), (6, .fn 71 []), (7, zq (p.h0 ++ p.h1))] ⟨J, J, J, J, J, trivial⟩ (by kernel_rfl) (by decide) J J ?_
  refine zJ J J (zH J J J J J J) ?_
  refine zJ J J (zD J J J J) ?_
  refine zJ J J (zG J) ?_
  refine zJ J J (zG J) ?_
  refine zJ J J (zCY J J (by omega)) ?_
  refine zCH J J J J J (zBI _ _) ?_
  refine zCH J J J J J ccell ?_
  rw [b1]
  refine zJ J J (zG J) ?_
  refine zp J J J J J ?_
  refine zp J J J J J ?_
  first | refine zp rfl rfl rfl rfl rfl ?_ | refine zAf rfl rfl rfl rfl ?_ | refine zCe rfl rfl rfl rfl rfl rfl rfl (zBI _ _) ?_
  first | refine zp rfl rfl rfl rfl rfl ?_ | refine zAf rfl rfl rfl rfl ?_ | refine zCe rfl rfl rfl rfl rfl rfl rfl chand ?_
  refine zJ J J (zd J J) ?_
  refine zJ J J (zG J) ?_
  refine zp J J J J J ?_
  refine zp J J J J J ?_
  refine zp J J J J J ?_
  refine zp J J J J J ?_
  refine zAf J J J J ?_
  refine zAf J J J J ?_
  refine zAf J J J J ?_
  refine zp J J J J J ?_
  refine zJ J J (zd J J) ?_
  refine zJ J J (zG J) ?_
  refine zp J J J J J ?_
  refine zp J J J J J ?_
  refine zp J J J J J ?_
  refine zJ J J (zd J J) ?_
  refine zJ J J (zG J) ?_
  refine zp J J J J J ?_
  refine zp J J J J J ?_
  refine zp J J J J J ?_
  refine zJ J J (zd J J) ?_
  refine z6 ?_
  refine zZ (by kernel_rfl) ?_
  refine rn5 ?_
  refine zO hR J ?_
  rw [bad (.inl b1)]; rfl
 | true =>
 cases b2 : (p.h0 ++ p.h1).all (fun n => Go.Ax.Gm.within n 0 1000) with
 | false =>
  refine zb (by kernel_rfl) ?_
  refine zBE (fuel := 0) [0, 1, 2, 3, 4, 5, 6, 7, 8, 9, 10, 11, 12, 13, 14, 15, 16, 17, 18, 19, 20, 21, 22, 23, 24, 25, 26, 27, 28, 29, 30, 31, 32] [(2, .rp (.box (ruC r)) 0 0), (3, .rp (.box (poC p)) 0 0), (5, iN r.pcs.length), (6, .fn 71 []), (7, zq (p.h0 ++ p.h1))] ⟨J, J, J, J, J, trivial⟩ (by kernel_rfl) (by decide) J J ?_
  refine zJ J J (zH J J J J J J) ?_
  refine zJ J J (zD J J J J) ?_
  refine zJ J J (zG J) ?_
  refine zJ J J (zG J) ?_
  refine zJ J J (zCY J J (by omega)) ?_
  refine zCH J J J J J (zBI _ _) ?_
  refine zCH J J J J J ccell ?_
  rw [b1]
  refine zJ J J (zG J) ?_
  refine zj J J J J (zG J) ?_
  refine zj J J J J (zG J) ?_
  first | refine zp rfl rfl rfl rfl rfl ?_ | refine zAf rfl rfl rfl rfl ?_ | refine zCe rfl rfl rfl rfl rfl rfl rfl (zBI _ _) ?_
  first | refine zp rfl rfl rfl rfl rfl ?_ | refine zAf rfl rfl rfl rfl ?_ | refine zCe rfl rfl rfl rfl rfl rfl rfl chand ?_
  rw [b2]
  refine zJ J J (zd J J) ?_
  refine zJ J J (zG J) ?_
  refine zp J J J J J ?_
  refine zp J J J J J ?_
  refine zp J J J J J ?_
  refine zp J J J J J ?_
  refine zAf J J J J ?_
  refine zAf J J J J ?_
  refine zAf J J J J ?_
  refine zp J J J J J ?_
  refine zJ J J (zd J J) ?_
  refine zJ J J (zG J) ?_
  refine zp J J J J J ?_
  refine zp J J J J J ?_
  refine zp J J J J J ?_
  refine zJ J J (zd J J) ?_
  refine zJ J J (zG J) ?_
  refine zp J J J J J ?_
  refine zp J J J J J ?_
  refine zp J J J J J ?_
  refine zJ J J (zd J J) ?_
  refine z6 ?_
  refine zZ (by kernel_rfl) ?_
  refine rn5 ?_
  refine zO hR J ?_
  rw [bad (.inr (.inl b2))]; rfl
 | true =>
 obtain ⟨cells, ha, hb, turn, quiet⟩ := p
 simp only at *
 by_cases t0 : turn = 0
 ·subst t0
  by_cases q0 : quiet < 0
  ·refine zb (by kernel_rfl) ?_
   refine zBE (fuel := 0) [0, 1, 2, 3, 4, 5, 6, 7, 8, 9, 10, 11, 12, 13, 14, 15, 16, 17, 18, 19, 20, 21, 22, 23, 24, 25, 26, 27, 28, 29, 30, 31, 32] [(2, .rp (.box (ruC r)) 0 0), (3, .rp (.box (poC ⟨cells, ha, hb, 0, quiet⟩)) 0 0), (5, iN r.pcs.length), (6, .fn 71 []), (7, zq (ha ++ hb))] ⟨J, J, J, J, J, trivial⟩ (by kernel_rfl) (by decide) J J ?_
   refine zJ J J (zH J J J J J J) ?_
   refine zJ J J (zD J J J J) ?_
   refine zJ J J (zG J) ?_
   refine zJ J J (zG J) ?_
   refine zJ J J (zCY J J (by omega)) ?_
   refine zCH J J J J J (zBI _ _) ?_
   refine zCH J J J J J ccell ?_
   rw [b1]
   refine zJ J J (zG J) ?_
   refine zj J J J J (zG J) ?_
   refine zj J J J J (zG J) ?_
   first | refine zp rfl rfl rfl rfl rfl ?_ | refine zAf rfl rfl rfl rfl ?_ | refine zCe rfl rfl rfl rfl rfl rfl rfl (zBI _ _) ?_
   first | refine zp rfl rfl rfl rfl rfl ?_ | refine zAf rfl rfl rfl rfl ?_ | refine zCe rfl rfl rfl rfl rfl rfl rfl chand ?_
   rw [b2]
   refine zJ J J (zd J J) ?_
   refine zJ J J (zG J) ?_
   refine zj J J J J (zH J J J J J J) ?_
   refine zj J J J J (zD J J J J) ?_
   refine zj J J J J (zBP J J) ?_
   refine zj J J J J (zG J) ?_
   refine zp J J J J J ?_
   refine zp J J J J J ?_
   refine zp J J J J J ?_
   refine zj J J J J (zd J J) ?_
   refine zJ J J (zd J J) ?_
   refine zJ J J (zG J) ?_
   refine zj J J J J (zH J J J J J J) ?_
   refine zj J J J J (zD J J J J) ?_
   refine zj J J J J (zBv J J) ?_
   rw [decide_eq_true q0]
   refine zJ J J (zd J J) ?_
   refine zJ J J (zG J) ?_
   refine zp J J J J J ?_
   refine zp J J J J J ?_
   refine zp J J J J J ?_
   refine zJ J J (zd J J) ?_
   refine z6 ?_
   refine zZ (by kernel_rfl) ?_
   refine rn5 ?_
   refine zO hR J ?_
   rw [bad (.inr (.inr (.inr (.inl q0))))]; rfl
  by_cases q1 : 200 < quiet
  ·refine zb (by kernel_rfl) ?_
   refine zBE (fuel := 0) [0, 1, 2, 3, 4, 5, 6, 7, 8, 9, 10, 11, 12, 13, 14, 15, 16, 17, 18, 19, 20, 21, 22, 23, 24, 25, 26, 27, 28, 29, 30, 31, 32] [(2, .rp (.box (ruC r)) 0 0), (3, .rp (.box (poC ⟨cells, ha, hb, 0, quiet⟩)) 0 0), (5, iN r.pcs.length), (6, .fn 71 []), (7, zq (ha ++ hb))] ⟨J, J, J, J, J, trivial⟩ (by kernel_rfl) (by decide) J J ?_
   refine zJ J J (zH J J J J J J) ?_
   refine zJ J J (zD J J J J) ?_
   refine zJ J J (zG J) ?_
   refine zJ J J (zG J) ?_
   refine zJ J J (zCY J J (by omega)) ?_
   refine zCH J J J J J (zBI _ _) ?_
   refine zCH J J J J J ccell ?_
   rw [b1]
   refine zJ J J (zG J) ?_
   refine zj J J J J (zG J) ?_
   refine zj J J J J (zG J) ?_
   first | refine zp rfl rfl rfl rfl rfl ?_ | refine zAf rfl rfl rfl rfl ?_ | refine zCe rfl rfl rfl rfl rfl rfl rfl (zBI _ _) ?_
   first | refine zp rfl rfl rfl rfl rfl ?_ | refine zAf rfl rfl rfl rfl ?_ | refine zCe rfl rfl rfl rfl rfl rfl rfl chand ?_
   rw [b2]
   refine zJ J J (zd J J) ?_
   refine zJ J J (zG J) ?_
   refine zj J J J J (zH J J J J J J) ?_
   refine zj J J J J (zD J J J J) ?_
   refine zj J J J J (zBP J J) ?_
   refine zj J J J J (zG J) ?_
   refine zp J J J J J ?_
   refine zp J J J J J ?_
   refine zp J J J J J ?_
   refine zj J J J J (zd J J) ?_
   refine zJ J J (zd J J) ?_
   refine zJ J J (zG J) ?_
   refine zj J J J J (zH J J J J J J) ?_
   refine zj J J J J (zD J J J J) ?_
   refine zj J J J J (zBv J J) ?_
   rw [decide_eq_false q0]
   refine zJ J J (zd J J) ?_
   refine zJ J J (zG J) ?_
   refine zj J J J J (zH J J J J J J) ?_
   refine zj J J J J (zD J J J J) ?_
   refine zj J J J J (zCL J J) ?_
   rw [decide_eq_true q1]
   refine zJ J J (zd J J) ?_
   refine z6 ?_
   refine zZ (by kernel_rfl) ?_
   refine rn5 ?_
   refine zO hR J ?_
   rw [bad (.inr (.inr (.inr (.inr q1))))]; rfl
  refine zb (by kernel_rfl) ?_
  refine zBE (fuel := 0) [0, 1, 2, 3, 4, 5, 6, 7, 8, 9, 10, 11, 12, 13, 14, 15, 16, 17, 18, 19, 20, 21, 22, 23, 24, 25, 26, 27, 28, 29, 30, 31, 32] [(2, .rp (.box (ruC r)) 0 0), (3, .rp (.box (poC ⟨cells, ha, hb, 0, quiet⟩)) 0 0), (5, iN r.pcs.length), (6, .fn 71 []), (7, zq (ha ++ hb))] ⟨J, J, J, J, J, trivial⟩ (by kernel_rfl) (by decide) J J ?_
  refine zJ J J (zH J J J J J J) ?_
  refine zJ J J (zD J J J J) ?_
  refine zJ J J (zG J) ?_
  refine zJ J J (zG J) ?_
  refine zJ J J (zCY J J (by omega)) ?_
  refine zCH J J J J J (zBI _ _) ?_
  refine zCH J J J J J ccell ?_
  rw [b1]
  refine zJ J J (zG J) ?_
  refine zj J J J J (zG J) ?_
  refine zj J J J J (zG J) ?_
  first | refine zp rfl rfl rfl rfl rfl ?_ | refine zAf rfl rfl rfl rfl ?_ | refine zCe rfl rfl rfl rfl rfl rfl rfl (zBI _ _) ?_
  first | refine zp rfl rfl rfl rfl rfl ?_ | refine zAf rfl rfl rfl rfl ?_ | refine zCe rfl rfl rfl rfl rfl rfl rfl chand ?_
  rw [b2]
  refine zJ J J (zd J J) ?_
  refine zJ J J (zG J) ?_
  refine zj J J J J (zH J J J J J J) ?_
  refine zj J J J J (zD J J J J) ?_
  refine zj J J J J (zBP J J) ?_
  refine zj J J J J (zG J) ?_
  refine zp J J J J J ?_
  refine zp J J J J J ?_
  refine zp J J J J J ?_
  refine zj J J J J (zd J J) ?_
  refine zJ J J (zd J J) ?_
  refine zJ J J (zG J) ?_
  refine zj J J J J (zH J J J J J J) ?_
  refine zj J J J J (zD J J J J) ?_
  refine zj J J J J (zBv J J) ?_
  rw [decide_eq_false q0]
  refine zJ J J (zd J J) ?_
  refine zJ J J (zG J) ?_
  refine zj J J J J (zH J J J J J J) ?_
  refine zj J J J J (zD J J J J) ?_
  refine zj J J J J (zCL J J) ?_
  rw [decide_eq_false q1]
  refine zJ J J (zd J J) ?_
  refine z6 ?_
  refine zZ (by kernel_rfl) ?_
  refine rn4 ?_
  refine zO hR J ?_
  rw [good (fun q => q.elim (fun q => by rw [b1] at q; cases q) (fun q => q.elim (fun q => by rw [b2] at q; cases q) (fun q => q.elim (fun q => absurd q (by omega)) (fun q => q.elim q0 q1))))]; rfl
 by_cases t1 : turn = 1
 ·subst t1
  by_cases q0 : quiet < 0
  ·refine zb (by kernel_rfl) ?_
   refine zBE (fuel := 0) [0, 1, 2, 3, 4, 5, 6, 7, 8, 9, 10, 11, 12, 13, 14, 15, 16, 17, 18, 19, 20, 21, 22, 23, 24, 25, 26, 27, 28, 29, 30, 31, 32] [(2, .rp (.box (ruC r)) 0 0), (3, .rp (.box (poC ⟨cells, ha, hb, 1, quiet⟩)) 0 0), (5, iN r.pcs.length), (6, .fn 71 []), (7, zq (ha ++ hb))] ⟨J, J, J, J, J, trivial⟩ (by kernel_rfl) (by decide) J J ?_
   refine zJ J J (zH J J J J J J) ?_
   refine zJ J J (zD J J J J) ?_
   refine zJ J J (zG J) ?_
   refine zJ J J (zG J) ?_
   refine zJ J J (zCY J J (by omega)) ?_
   refine zCH J J J J J (zBI _ _) ?_
   refine zCH J J J J J ccell ?_
   rw [b1]
   refine zJ J J (zG J) ?_
   refine zj J J J J (zG J) ?_
   refine zj J J J J (zG J) ?_
   first | refine zp rfl rfl rfl rfl rfl ?_ | refine zAf rfl rfl rfl rfl ?_ | refine zCe rfl rfl rfl rfl rfl rfl rfl (zBI _ _) ?_
   first | refine zp rfl rfl rfl rfl rfl ?_ | refine zAf rfl rfl rfl rfl ?_ | refine zCe rfl rfl rfl rfl rfl rfl rfl chand ?_
   rw [b2]
   refine zJ J J (zd J J) ?_
   refine zJ J J (zG J) ?_
   refine zj J J J J (zH J J J J J J) ?_
   refine zj J J J J (zD J J J J) ?_
   refine zj J J J J (zBP J J) ?_
   refine zj J J J J (zG J) ?_
   refine zj J J J J (zH J J J J J J) ?_
   refine zj J J J J (zD J J J J) ?_
   refine zj J J J J (zBP J J) ?_
   refine zj J J J J (zd J J) ?_
   refine zJ J J (zd J J) ?_
   refine zJ J J (zG J) ?_
   refine zj J J J J (zH J J J J J J) ?_
   refine zj J J J J (zD J J J J) ?_
   refine zj J J J J (zBv J J) ?_
   rw [decide_eq_true q0]
   refine zJ J J (zd J J) ?_
   refine zJ J J (zG J) ?_
   refine zp J J J J J ?_
   refine zp J J J J J ?_
   refine zp J J J J J ?_
   refine zJ J J (zd J J) ?_
   refine z6 ?_
   refine zZ (by kernel_rfl) ?_
   refine rn5 ?_
   refine zO hR J ?_
   rw [bad (.inr (.inr (.inr (.inl q0))))]; rfl
  by_cases q1 : 200 < quiet
  ·refine zb (by kernel_rfl) ?_
   refine zBE (fuel := 0) [0, 1, 2, 3, 4, 5, 6, 7, 8, 9, 10, 11, 12, 13, 14, 15, 16, 17, 18, 19, 20, 21, 22, 23, 24, 25, 26, 27, 28, 29, 30, 31, 32] [(2, .rp (.box (ruC r)) 0 0), (3, .rp (.box (poC ⟨cells, ha, hb, 1, quiet⟩)) 0 0), (5, iN r.pcs.length), (6, .fn 71 []), (7, zq (ha ++ hb))] ⟨J, J, J, J, J, trivial⟩ (by kernel_rfl) (by decide) J J ?_
   refine zJ J J (zH J J J J J J) ?_
   refine zJ J J (zD J J J J) ?_
   refine zJ J J (zG J) ?_
   refine zJ J J (zG J) ?_
   refine zJ J J (zCY J J (by omega)) ?_
   refine zCH J J J J J (zBI _ _) ?_
   refine zCH J J J J J ccell ?_
   rw [b1]
   refine zJ J J (zG J) ?_
   refine zj J J J J (zG J) ?_
   refine zj J J J J (zG J) ?_
   first | refine zp rfl rfl rfl rfl rfl ?_ | refine zAf rfl rfl rfl rfl ?_ | refine zCe rfl rfl rfl rfl rfl rfl rfl (zBI _ _) ?_
   first | refine zp rfl rfl rfl rfl rfl ?_ | refine zAf rfl rfl rfl rfl ?_ | refine zCe rfl rfl rfl rfl rfl rfl rfl chand ?_
   rw [b2]
   refine zJ J J (zd J J) ?_
   refine zJ J J (zG J) ?_
   refine zj J J J J (zH J J J J J J) ?_
   refine zj J J J J (zD J J J J) ?_
   refine zj J J J J (zBP J J) ?_
   refine zj J J J J (zG J) ?_
   refine zj J J J J (zH J J J J J J) ?_
   refine zj J J J J (zD J J J J) ?_
   refine zj J J J J (zBP J J) ?_
   refine zj J J J J (zd J J) ?_
   refine zJ J J (zd J J) ?_
   refine zJ J J (zG J) ?_
   refine zj J J J J (zH J J J J J J) ?_
   refine zj J J J J (zD J J J J) ?_
   refine zj J J J J (zBv J J) ?_
   rw [decide_eq_false q0]
   refine zJ J J (zd J J) ?_
   refine zJ J J (zG J) ?_
   refine zj J J J J (zH J J J J J J) ?_
   refine zj J J J J (zD J J J J) ?_
   refine zj J J J J (zCL J J) ?_
   rw [decide_eq_true q1]
   refine zJ J J (zd J J) ?_
   refine z6 ?_
   refine zZ (by kernel_rfl) ?_
   refine rn5 ?_
   refine zO hR J ?_
   rw [bad (.inr (.inr (.inr (.inr q1))))]; rfl
  refine zb (by kernel_rfl) ?_
  refine zBE (fuel := 0) [0, 1, 2, 3, 4, 5, 6, 7, 8, 9, 10, 11, 12, 13, 14, 15, 16, 17, 18, 19, 20, 21, 22, 23, 24, 25, 26, 27, 28, 29, 30, 31, 32] [(2, .rp (.box (ruC r)) 0 0), (3, .rp (.box (poC ⟨cells, ha, hb, 1, quiet⟩)) 0 0), (5, iN r.pcs.length), (6, .fn 71 []), (7, zq (ha ++ hb))] ⟨J, J, J, J, J, trivial⟩ (by kernel_rfl) (by decide) J J ?_
  refine zJ J J (zH J J J J J J) ?_
  refine zJ J J (zD J J J J) ?_
  refine zJ J J (zG J) ?_
  refine zJ J J (zG J) ?_
  refine zJ J J (zCY J J (by omega)) ?_
  refine zCH J J J J J (zBI _ _) ?_
  refine zCH J J J J J ccell ?_
  rw [b1]
  refine zJ J J (zG J) ?_
  refine zj J J J J (zG J) ?_
  refine zj J J J J (zG J) ?_
  first | refine zp rfl rfl rfl rfl rfl ?_ | refine zAf rfl rfl rfl rfl ?_ | refine zCe rfl rfl rfl rfl rfl rfl rfl (zBI _ _) ?_
  first | refine zp rfl rfl rfl rfl rfl ?_ | refine zAf rfl rfl rfl rfl ?_ | refine zCe rfl rfl rfl rfl rfl rfl rfl chand ?_
  rw [b2]
  refine zJ J J (zd J J) ?_
  refine zJ J J (zG J) ?_
  refine zj J J J J (zH J J J J J J) ?_
  refine zj J J J J (zD J J J J) ?_
  refine zj J J J J (zBP J J) ?_
  refine zj J J J J (zG J) ?_
  refine zj J J J J (zH J J J J J J) ?_
  refine zj J J J J (zD J J J J) ?_
  refine zj J J J J (zBP J J) ?_
  refine zj J J J J (zd J J) ?_
  refine zJ J J (zd J J) ?_
  refine zJ J J (zG J) ?_
  refine zj J J J J (zH J J J J J J) ?_
  refine zj J J J J (zD J J J J) ?_
  refine zj J J J J (zBv J J) ?_
  rw [decide_eq_false q0]
  refine zJ J J (zd J J) ?_
  refine zJ J J (zG J) ?_
  refine zj J J J J (zH J J J J J J) ?_
  refine zj J J J J (zD J J J J) ?_
  refine zj J J J J (zCL J J) ?_
  rw [decide_eq_false q1]
  refine zJ J J (zd J J) ?_
  refine z6 ?_
  refine zZ (by kernel_rfl) ?_
  refine rn4 ?_
  refine zO hR J ?_
  rw [good (fun q => q.elim (fun q => by rw [b1] at q; cases q) (fun q => q.elim (fun q => by rw [b2] at q; cases q) (fun q => q.elim (fun q => absurd q (by omega)) (fun q => q.elim q0 q1))))]; rfl
 refine zb (by kernel_rfl) ?_
 refine zBE (fuel := 0) [0, 1, 2, 3, 4, 5, 6, 7, 8, 9, 10, 11, 12, 13, 14, 15, 16, 17, 18, 19, 20, 21, 22, 23, 24, 25, 26, 27, 28, 29, 30, 31, 32] [(2, .rp (.box (ruC r)) 0 0), (3, .rp (.box (poC ⟨cells, ha, hb, turn, quiet⟩)) 0 0), (5, iN r.pcs.length), (6, .fn 71 []), (7, zq (ha ++ hb))] ⟨J, J, J, J, J, trivial⟩ (by kernel_rfl) (by decide) J J ?_
 refine zJ J J (zH J J J J J J) ?_
 refine zJ J J (zD J J J J) ?_
 refine zJ J J (zG J) ?_
 refine zJ J J (zG J) ?_
 refine zJ J J (zCY J J (by omega)) ?_
 refine zCH J J J J J (zBI _ _) ?_
 refine zCH J J J J J ccell ?_
 rw [b1]
 refine zJ J J (zG J) ?_
 refine zj J J J J (zG J) ?_
 refine zj J J J J (zG J) ?_
 first | refine zp rfl rfl rfl rfl rfl ?_ | refine zAf rfl rfl rfl rfl ?_ | refine zCe rfl rfl rfl rfl rfl rfl rfl (zBI _ _) ?_
 first | refine zp rfl rfl rfl rfl rfl ?_ | refine zAf rfl rfl rfl rfl ?_ | refine zCe rfl rfl rfl rfl rfl rfl rfl chand ?_
 rw [b2]
 refine zJ J J (zd J J) ?_
 refine zJ J J (zG J) ?_
 refine zj J J J J (zH J J J J J J) ?_
 refine zj J J J J (zD J J J J) ?_
 refine zj J J J J (zBP J J) ?_
 rw [decide_eq_true (show ¬ turn = 0 from t0)]
 refine zj J J J J (zG J) ?_
 refine zj J J J J (zH J J J J J J) ?_
 refine zj J J J J (zD J J J J) ?_
 refine zj J J J J (zBP J J) ?_
 rw [decide_eq_true (show ¬ turn = 1 from t1)]
 refine zj J J J J (zd J J) ?_
 refine zJ J J (zd J J) ?_
 refine zJ J J (zG J) ?_
 refine zp J J J J J ?_
 refine zp J J J J J ?_
 refine zp J J J J J ?_
 refine zJ J J (zd J J) ?_
 refine zJ J J (zG J) ?_
 refine zp J J J J J ?_
 refine zp J J J J J ?_
 refine zp J J J J J ?_
 refine zJ J J (zd J J) ?_
 refine z6 ?_
 refine zZ (by kernel_rfl) ?_
 refine rn5 ?_
 refine zO hR J ?_
 rw [bad (.inr (.inr (.inl ⟨t0, t1⟩)))]; rfl
/-- place.Check -/
theorem zIC (r : Go.Ax.Gm.Rules) (hr : Lens r) (p : Pos) (hp : LenP p) : zn Tryd.prog 43 [ruA r, poA p] (.int .i64 (zEC r p)) := by
 refine ze.value0 (zP (P := Tryd.prog) (fn := Tryd.f43) J J (by kernel_rfl) J (fun c hR hfix => ?_)) (fix := fun _ => False) (fun _ h => h) J J
 refine zX ?_
 repeat (first | refine zA (zN rfl) ?_ | refine zC ?_ | refine zB ?_ | refine zK rfl ?_ | refine zAp rfl rfl ?_)
 refine zFh 2 3 [] J J J J trivial ⟨J, J, trivial⟩ J hfix ?_
 refine rn6 ?_
 refine zU J J J (zHF r hr) ?_
 refine rn3 ?_
 refine zI J (fun h => ?_) (fun h => ?_)
 ·refine rn2 ?_
  refine zO hR J ?_
  unfold zEC; rw [if_pos h]; rfl
 refine rn6 ?_
 refine zU J J J (sound_ok r (zCM (Classical.not_not.1 h)) p hp) ?_
 refine rn0 ?_
 refine zO hR J ?_
 unfold zEC; rw [if_neg h]; rfl
structure Small (r : Go.Ax.Gm.Rules) : Prop where
 pcs : r.pcs.length ≤ 6
 ways : ∀ p ∈ r.pcs, p.ways.length ≤ 16
 start : r.start.length ≤ 64
 ends : r.ends.length ≤ 6
theorem zJ9 {r : Go.Ax.Gm.Rules} (hv : ValidR r) : Small r := by
 refine ⟨hv.n6, fun p hp => ?_, ?_, hv.e6⟩
 ·obtain ⟨i, hi, rfl⟩ := List.mem_iff_getElem.1 hp
  have := (zDO (hv.pc i hi)).2.2.2.2.1
  rwa [zFx pc0 hi] at this
 ·have := hv.st
  have a := Int.mul_le_mul hv.w8 hv.h8 (by have := hv.h1; omega) (by decide)
  omega
def ruZ : List AV := [.str [], .int .i64 0, .int .i64 0, .nil, .nil, .bool false, .bool false, .nil, .int .i64 0, .int .i64 0, .int .i64 0]
def ruP (r : Go.Ax.Gm.Rules) (x : AV) : List AV := [.str r.name, .int .i64 r.w, .int .i64 r.h, x, zq r.start, .bool r.falls, .bool r.keeps, .ro (zEa r.ends) 0 r.ends.length, .int .i64 r.blocked, .int .i64 r.quiet, .int .i64 r.rep]
theorem zLx {n : Nat} (l : List Go.Ax.Gm.Pc) : zAq n (zAV l) := fun i j _ hj => by
 have hj : j < 4 := hj
 show zB2 n ((pcC (l.getD i pc0)).getD j .any) = true
 match j, hj with
 | 0, _ => rfl
 | 1, _ => rfl
 | 2, _ => rfl
 | 3, _ => rfl
theorem zHC {n : Nat} {l : List AV} (h : zBk n l = true) : zAq n (.box l) := fun i j _ hj => zIQ (c := .box l) h i j hj
abbrev hpR (r : Go.Ax.Gm.Rules) (k : Nat) : zM := [some ⟨26, .box (ruC r)⟩, some ⟨26, .box ruZ⟩, some ⟨26, .box (ruP r (.sl 3 0 k))⟩, some ⟨60, zAV (r.pcs.take k)⟩]
/-- rules.Copy -/
theorem copyR_ok (r : Go.Ax.Gm.Rules) (hr : Small r) : zn Tryd.prog 19 [ruA r] (ruA r) := by
 refine ze.value0 (zP (P := Tryd.prog) (fn := Tryd.f19) J J (by kernel_rfl) J (fun c hR hfix => ?_)) (fix := fun _ => False) (fun _ h => h) J J
 have hpl := hr.pcs
 refine rn6 ?_
 refine zW (ruC r) J J J J J J J ?_
 refine rn9 ?_
 refine zAa [some ⟨26, .box (ruC r)⟩, some ⟨26, .box ruZ⟩, some ⟨26, .box (ruP r .nil)⟩] J ?_
 refine zDD 2 ⟨60, zAV []⟩ (.box (ruP r (.sl 3 0 0))) J J J J (fun i j hi hj => ?_) ?_
 ·obtain rfl : i = 0 := Nat.lt_one_iff.1 hi
  have hj : j < 11 := hj
  match j, hj with
  | 0, _ => exact .inl rfl
  | 1, _ => exact .inl rfl
  | 2, _ => exact .inl rfl
  | 3, _ => exact .inr ⟨rfl, rfl⟩
  | 4, _ => exact .inl rfl
  | 5, _ => exact .inl rfl
  | 6, _ => exact .inl rfl
  | 7, _ => exact .inl rfl
  | 8, _ => exact .inl rfl
  | 9, _ => exact .inl rfl
  | 10, _ => exact .inl rfl
 refine zx (ι := Nat) (fun k => [(1, .ptr 0 0 0), (2, .ptr 1 0 0), (3, .ptr 2 0 0), (9, .ro (zAV r.pcs) 0 r.pcs.length), (10, iN r.pcs.length), (11, iN k)]) (fun k => hpR r k)
  (fun k => k ≤ r.pcs.length) (fun k => r.pcs.length - k) 0 ⟨⟨rfl, rfl, rfl, rfl, rfl, rfl, trivial⟩, rfl, Nat.zero_le _⟩ ?_
 intro k hk
 refine rn4 ?_
 refine zI J (fun h2 => ?_) (fun h2 => ?_)
 ·have hk' : k < r.pcs.length := by omega
  generalize hp : r.pcs.getD k pc0 = p
  have hpw := hr.ways p (by rw [← hp]; exact zAi pc0 hk')
  have htk : r.pcs.take (k + 1) = r.pcs.take k ++ [p] := by rw [zw _ pc0 k hk', hp]
  have htl : (r.pcs.take k).length = k := by rw [List.length_take]; omega
  refine zGV ?_
  repeat (refine zAJ rfl rfl rfl ?_)
  refine zW (pcC p) J J J J J (by rw [← hp]; rfl) J ?_
  refine rn5 ?_
  refine zU J J J (cloneW p.ways (by omega)) ?_
  repeat (first | refine zC ?_ | refine zB ?_ | refine zK rfl ?_ | refine zA (zR rfl rfl rfl rfl rfl) ?_ | refine zA (zL rfl rfl rfl rfl rfl rfl) ?_ | refine zA (qpp rfl rfl rfl rfl rfl rfl rfl) ?_ | refine z8 rfl rfl rfl rfl rfl rfl rfl Nat.zero_lt_one ?_ | refine z7 rfl rfl rfl rfl rfl rfl rfl rfl rfl rfl rfl ?_)
  refine zBY [p] J J J J J J J J htl J J J J (by show 0 + 1 ≤ 1; omega) (fun k' j hk' hj => ?_) (by show (k + 1) * 48 ≤ _ ∧ _; omega) zKi (by rw [hfix]; exact fun h => h) ?_
  ·obtain rfl : k' = 0 := Nat.lt_one_iff.1 hk'
   match j, hj with
   | 0, _ => rfl
   | 1, _ => rfl
   | 2, _ => rfl
   | 3, _ => rfl
  rw [← htk]
  repeat (first | refine zC ?_ | refine zAH ?_ | refine zA (zL rfl rfl rfl rfl rfl rfl) ?_ | refine z8 rfl rfl rfl rfl rfl rfl rfl Nat.zero_lt_one ?_)
  refine zB ?_
  refine zCS (hpR r (k + 1)) [some ⟨60, .box (pcC p)⟩] [(1, .ptr 0 0 0), (2, .ptr 1 0 0), (3, .ptr 2 0 0), (9, .ro (zAV r.pcs) 0 r.pcs.length), (10, iN r.pcs.length), (11, iN k)] J ⟨J, J, J, J, J, J, trivial⟩ (fun h hh => by rw [hfix] at hh; exact hh.elim) (zCA (zHC J) (zCA (zHC J) (zCA (zHC J) (zCA (zLx _) zBp)))) J ?_
  refine rn3 ?_
  exact zT ⟨k + 1, by omega, by omega, ⟨J, J, J, J, J, J, trivial⟩, J⟩
 ·have hk' : k = r.pcs.length := by omega
  subst hk'
  have htl : hpR r r.pcs.length = [some ⟨26, .box (ruC r)⟩, some ⟨26, .box ruZ⟩, some ⟨26, .box (ruP r (.sl 3 0 r.pcs.length))⟩, some ⟨60, zAV r.pcs⟩] := by show [_, _, _, some (AObj.mk _ (zAV (r.pcs.take r.pcs.length)))] = _; rw [List.take_length]
  rw [htl]
  refine rn5 ?_
  refine zb (by kernel_rfl) ?_
  refine zi (fuel := 3) [0, 1, 2, 3, 4, 5, 6] [(1, .ptr 0 0 0), (2, .ptr 1 0 0), (3, .ptr 2 0 0)] ⟨J, J, J, trivial⟩ (by kernel_rfl) (by decide) J J ?_
  refine zJ J J (zL J J J J J J) ?_
  refine zJ J J (zR J J J J J) ?_
  refine zCH J J J J J (zHG r.start (by have := hr.start; omega)) ?_
  refine zJ J J (zL J J J J J J) ?_
  refine zJ J J (zR J J J J J) ?_
  refine zCH J J J J J (cloneE r.ends (by have := hr.ends; omega)) ?_
  refine zJ J J (zL J J J J J J) ?_
  refine z6 ?_
  refine zF (is := [7]) (by kernel_rfl) (by simp) J ⟨fun o ho => ?_, trivial⟩
  all_goals (cases ho)
  refine rn9 ?_
  refine zV 8 J (by kernel_rfl) (by kernel_rfl) (by kernel_rfl) J (zL J J J J J J) J ?_
  refine zF (is := [9]) (by kernel_rfl) (by simp) J ⟨fun o ho => ?_, trivial⟩
  all_goals (cases ho)
  refine rn9 ?_
  refine zZ (by kernel_rfl) ?_
  refine rn6 ?_
  refine zW (ruP r (.sl 3 0 r.pcs.length)) J J J J J J J ?_
  refine rn7 ?_
  refine zAt [none, none, none, some ⟨60, zAV r.pcs⟩] [none, some ⟨26, .box (ruC r)⟩, none, none] [(2, .ptr 1 0 0)] ?_ (zB7 (zB7 (zB7 (zB6 (zA9 zLy) zCZ)))) J ?_ ⟨⟨.ptr 1 0 0, J, .inl J⟩, trivial⟩ ?_
  ·intro h o ho
   match h, ho with
   | 0, ho => simp at ho
   | 1, ho => simp at ho
   | 2, ho => simp at ho
   | 3, ho => exact ho
   | _ + 4, ho => simp at ho
  ·intro h o ho
   match h, ho with
   | 0, ho => simp at ho
   | 1, ho =>
    cases ho
    refine ⟨fun o h => by simp at h, ⟨26, .box (ruP r (.sl 3 0 r.pcs.length))⟩, J, J, J, J, fun i j hi hj => ?_⟩
    obtain rfl : i = 0 := Nat.lt_one_iff.1 hi
    have hj : j < 11 := hj
    match j, hj with
    | 0, _ => exact .inl rfl
    | 1, _ => exact .inl rfl
    | 2, _ => exact .inl rfl
    | 3, _ => exact .inr (.inr ⟨rfl, fun o ho => by cases ho; show 0 + r.pcs.length ≤ r.pcs.length; omega⟩)
    | 4, _ => exact .inl rfl
    | 5, _ => exact .inl rfl
    | 6, _ => exact .inl rfl
    | 7, _ => exact .inl rfl
    | 8, _ => exact .inl rfl
    | 9, _ => exact .inl rfl
    | 10, _ => exact .inl rfl
   | 2, ho => simp at ho
   | 3, ho => simp at ho
   | _ + 4, ho => simp at ho
  repeat (refine zu ?_)
  exact zO hR J J
structure SmallP (p : Pos) : Prop where
 c : p.cells.length ≤ 64
 h0 : p.h0.length ≤ 6
 h1 : p.h1.length ≤ 6
theorem SmallP.len {p : Pos} (h : SmallP p) : LenP p := ⟨by have := h.c; omega, by have := h.h0; omega, by have := h.h1; omega⟩
theorem zBD {r : Go.Ax.Gm.Rules} (hv : ValidR r) {p : Pos} (h : Sound r p) : SmallP p := by
 have a := Int.mul_le_mul hv.w8 hv.h8 (by have := hv.h1; omega) (by decide)
 have b := hv.n6
 have c1 := h.cl
 have c2 := h.l0
 have c3 := h.l1
 exact ⟨by omega, by omega, by omega⟩
/-- place.Copy -/
theorem zHK (p : Pos) (hp : SmallP p) : zn Tryd.prog 25 [poA p] (poA p) := by
 refine ze.value0 (zP (P := Tryd.prog) (fn := Tryd.f25) J J (by kernel_rfl) J (fun c hR hfix => ?_)) (fix := fun _ => False) (fun _ h => h) J J
 obtain ⟨h1, h2, h3⟩ := hp
 refine rn6 ?_
 refine zU J J J (zHG p.cells (by omega)) ?_
 refine rn8 ?_
 refine zb (by kernel_rfl) ?_
 refine zi (fuel := 2) [0, 1, 2, 3, 4, 5, 6, 7, 8] [(1, .ptr 0 0 0), (2, .ptr 1 0 0)] ⟨J, J, trivial⟩ (by kernel_rfl) (by decide) J J ?_
 refine zJ J J (zL J J J J J J) ?_
 refine zJ J J (zAU J J J J (by first | (simp only [Nat.zero_add, Int.toNat_natCast]; exact J) | exact J) (by omega)) ?_
 refine zJ J J (zR J J J J J) ?_
 refine zCH J J J J J (zHG p.h0 (by omega)) ?_
 refine zJ J J (zL J J J J J J) ?_
 refine zJ J J (zAU J J J J (by first | (simp only [Nat.zero_add, Int.toNat_natCast]; exact J) | exact J) (by omega)) ?_
 refine zJ J J (zR J J J J J) ?_
 refine zCH J J J J J (zHG p.h1 (by omega)) ?_
 refine zJ J J (zC9 J J J J J J) ?_
 refine z6 ?_
 refine zV 9 J (by kernel_rfl) (by kernel_rfl) (by kernel_rfl) J (zL J J J J J J) J ?_
 refine zF (is := [10]) (by kernel_rfl) (by simp) J ⟨fun o ho => ?_, trivial⟩
 all_goals (cases ho)
 refine zFj (c' := .box (poC p)) (i := 0) (j := 1) J J J J J (by show 1 + 2 ≤ 5; omega) Nat.zero_lt_one J J (fun i' j' hi' hj' => ?_) ?_
 ·obtain rfl : i' = 0 := Nat.lt_one_iff.1 hi'
  have hj' : j' < 5 := hj'
  match j', hj' with
  | 0, _ => rfl
  | 1, _ => rfl
  | 2, _ => rfl
  | 3, _ => rfl
  | 4, _ => rfl
 refine rn1 ?_
 refine zZ (by kernel_rfl) ?_
 refine rn6 ?_
 refine zW (poC p) J J J J J J J ?_
 refine rn0 ?_
 exact zO hR J J
theorem zFS (a : Mv) (j k : Nat) (hj : j < 3) : ((mvC a).getD j .any).forget k = (mvC a).getD j .any := by
 match j, hj with
 | 0, _ => rfl
 | 1, _ => rfl
 | 2, _ => rfl
theorem zGP (a : Mv) (j : Nat) (hj : j < 3) : noRef ((mvC a).getD j .any) = true := by
 match j, hj with
 | 0, _ => rfl
 | 1, _ => rfl
 | 2, _ => rfl
theorem zIY {w s : Nat} (hw : 0 < w) {p : Pos} {k : Nat} : k < s / w ↔ (k + 1) * w ≤ s := by rw [← Nat.le_div_iff_mul_le hw]; omega
/-- moves.filled -/
theorem zLh (r : Go.Ax.Gm.Rules) (hw : 1 ≤ r.w ∧ r.w ≤ 8) (p : Pos) (hp : SmallP p) (s : Nat) (hs : s < p.cells.length) : zn Tryd.prog 67 [ruA r, poA p, .int .i64 s] (.bool (zFu r.w.toNat s p)) := by
 refine ze.value0 (zP (P := Tryd.prog) (fn := Tryd.f67) J J (by kernel_rfl) J (fun c hR hfix => ?_)) (fix := fun _ => False) (fun _ h => h) J J
 have hc := hp.c
 obtain ⟨W, hW⟩ : ∃ W : Nat, r.w = (W : Int) := ⟨r.w.toNat, by omega⟩
 have hWt : r.w.toNat = W := by omega
 have hW0 : 0 < W := by omega
 rw [hWt] at hR
 refine zX ?_
 repeat (first | refine zA (zN rfl) ?_ | refine zC ?_ | refine zB ?_ | refine zK rfl ?_ | refine zAp rfl rfl ?_)
 refine zFh 3 4 [(2, iN s)] J J J J ⟨J, trivial⟩ ⟨J, J, J, trivial⟩ J hfix ?_
 repeat (first | refine zA (zG rfl) ?_ | refine zA (zN rfl) ?_ | refine zC ?_ | refine zB ?_ | refine zX ?_ | refine zK rfl ?_ | refine zAL ?_ | refine zA (zA8 rfl rfl (by omega)) ?_ | refine zA (zD rfl rfl rfl rfl) ?_ | refine zA (zH rfl rfl rfl rfl rfl rfl) ?_)
 refine zx (ι := Nat) (fun k => [(3, .rp (.box (ruC r)) 0 0), (4, .rp (.box (poC p)) 0 0), (2, .int .i64 ((s : Int) - ((k + 1) * W : Nat)))]) (fun _ => [])
  (fun k => k ≤ s / W ∧ (List.range k).all (fun k => decide (zAB p (s - (k + 1) * W) ≠ 0)) = true) (fun k => s / W - k) 0 ⟨⟨rfl, rfl, ?_, trivial⟩, rfl, Nat.zero_le _, rfl⟩ ?_
 ·show some (AV.int .i64 _) = _
  congr 2; rw [hW]; omega
 intro k ⟨hk, hall⟩
 have hmul : (k + 1) * W = k * W + W := Nat.succ_mul k W
 have hkW : k * W ≤ s := Nat.le_trans (Nat.mul_le_mul_right W hk) (Nat.div_mul_le_self s W)
 refine rn7 ?_
 refine zI J (fun h => ?_) (fun h => ?_)
 ·have hle : (k + 1) * W ≤ s := by omega
  have hlt : k < s / W := (zIY hW0 (p := p)).2 hle
  have hall' : (List.range (k + 1)).all (fun k => decide (zAB p (s - (k + 1) * W) ≠ 0)) = decide (zAB p (s - (k + 1) * W) ≠ 0) := by rw [List.range_succ, List.all_append, hall]; simp
  have hn : ((s : Int) - ((k + 1) * W : Nat)).toNat = s - (k + 1) * W := by omega
  repeat (first | refine zA (zG rfl) ?_ | refine zA (zBQ rfl rfl rfl) ?_ | refine zC ?_ | refine zB ?_ | refine zX ?_ | refine zK rfl ?_ | refine zAL ?_ | refine zAG ?_ | refine zA (zBh rfl rfl) ?_ | refine zA (zf rfl rfl rfl rfl (by first | (simp only [Nat.zero_add, Int.toNat_natCast, Int.toNat_zero]; exact rfl) | exact rfl) (by omega)) ?_ | refine zA (zD rfl rfl rfl rfl) ?_ | refine zA (zH rfl rfl rfl rfl rfl rfl) ?_)
  refine zI J (fun h2 => ?_) (fun h2 => ?_)
  ·rw [hn] at h2
   refine rn6 ?_
   refine zO hR J ?_
   have : zFu W s p = false := by
    unfold zFu
    refine Bool.eq_false_iff.2 (fun q => ?_)
    have := List.all_eq_true.1 q k (List.mem_range.2 hlt)
    rw [decide_eq_true_eq] at this
    exact this h2
   rw [this]; rfl
  ·rw [hn] at h2
   repeat (first | refine zA (zG rfl) ?_ | refine zA (zN rfl) ?_ | refine zC ?_ | refine zB ?_ | refine zK rfl ?_ | refine zAH ?_ | refine zAG ?_ | refine zA (zA8 rfl rfl (by omega)) ?_ | refine zA (zD rfl rfl rfl rfl) ?_ | refine zA (zH rfl rfl rfl rfl rfl rfl) ?_)
   refine zT ⟨k + 1, ⟨by omega, by rw [hall']; exact decide_eq_true h2⟩, by omega, ⟨J, J, ?_, trivial⟩, J⟩
   show some (AV.int .i64 _) = _
   congr 2; rw [hW, Nat.succ_mul (k + 1) W]; omega
 ·have hk' : k = s / W := by
   rcases Nat.lt_or_ge k (s / W) with q | q
   ·have := (zIY hW0 (p := p)).1 q; omega
   ·omega
  refine rn5 ?_
  refine zO hR J ?_
  unfold zFu
  rw [← hk', hall]; rfl
def zBL (r : Go.Ax.Gm.Rules) (p : Pos) (k : Nat) : List Mv := (List.range k).flatMap (fun s => if zEm r p s = true then zHk (zBT p p.turn) s else [])
def zC3 (l : List Int) (s k : Nat) : List Mv := ((List.range k).filter (fun k : Nat => decide (0 < l.getD k 0))).map (fun k : Nat => ⟨-1, (s : Int), (k : Int)⟩)
theorem zKk (l : List Int) (s k : Nat) : zC3 l s (k + 1) = if 0 < l.getD k 0 then zC3 l s k ++ [⟨-1, (s : Int), (k : Int)⟩] else zC3 l s k := by
 unfold zC3
 rw [List.range_succ, List.filter_append, List.map_append]
 split
 ·rename_i h; rw [List.filter_cons_of_pos (by exact decide_eq_true h)]; rfl
 ·rename_i h; rw [List.filter_cons_of_neg (by rw [decide_eq_false h]; exact Bool.false_ne_true)]; simp
theorem zIm (l : List Int) (s k : Nat) : (zC3 l s k).length ≤ k := by
 unfold zC3
 rw [List.length_map]
 exact Nat.le_trans (List.length_filter_le ..) (by rw [List.length_range]; exact Nat.le_refl _)
theorem zGl (r : Go.Ax.Gm.Rules) (p : Pos) (k : Nat) : zBL r p (k + 1) = zBL r p k ++ (if zEm r p k = true then zHk (zBT p p.turn) k else []) := by
 unfold zBL
 rw [List.range_succ, List.flatMap_append]; simp
theorem zFU (r : Go.Ax.Gm.Rules) (p : Pos) (hl : (zBT p p.turn).length ≤ 6) : ∀ k, (zBL r p k).length ≤ 6 * k
 | 0 => Nat.le_refl _
 | k + 1 => by
  have ih := zFU r p hl k
  rw [zGl, List.length_append]
  have : (if zEm r p k = true then zHk (zBT p p.turn) k else []).length ≤ 6 := by
   split
   ·exact Nat.le_trans (zIm (zBT p p.turn) k _) hl
   ·exact Nat.zero_le _
  omega
/-- moves.puts -/
theorem puts_ok (r : Go.Ax.Gm.Rules) (hw : 1 ≤ r.w ∧ r.w ≤ 8) (p : Pos) (hp : SmallP p) (ht : p.turn = 0 ∨ p.turn = 1) : zG4 Tryd.prog 54 [ruA r, poA p] (fun N => .sl N 0 (zEn r p).length) ⟨53, zBH (zEn r p)⟩ := by
 refine ze.fresh (K := fun v H => v = .sl 0 0 (zEn r p).length ∧ H = [some ⟨53, zBH (zEn r p)⟩]) (zP (P := Tryd.prog) (fn := Tryd.f54) J J (by kernel_rfl) J (fun c hR hfix => ?_)) (fix := fun _ => False) (fun _ h => h) J (fun H => ⟨J, by simp [zHT, inB, ruC, poC]⟩) ?_
 ·have hc := hp.c
  have hh6 : (zBT p p.turn).length ≤ 6 := by unfold zBT; have := hp.h0; have := hp.h1; split <;> omega
  generalize hL : zBT p p.turn = L at hh6
  obtain ⟨W, hW⟩ : ∃ W : Nat, r.w = (W : Int) := ⟨r.w.toNat, by omega⟩
  have hWt : r.w.toNat = W := by omega
  refine zX ?_
  repeat (first | refine zA (zN rfl) ?_ | refine zC ?_ | refine zB ?_ | refine zK rfl ?_ | refine zAp rfl rfl ?_)
  refine zFh 2 3 [(4, .nil)] J J J J ⟨J, trivial⟩ ⟨J, J, J, trivial⟩ J hfix ?_
  refine zBW ?_
  refine zBj 5 ⟨53, zBH []⟩ J J ?_
  refine zx (ι := Nat) (fun k => [(2, .rp (.box (ruC r)) 0 0), (3, .rp (.box (poC p)) 0 0), (5, .sl 0 0 (zBL r p k).length), (11, zq p.cells), (12, iN p.cells.length), (13, iN k)]) (fun k => [some ⟨53, zBH (zBL r p k)⟩])
   (fun k => k ≤ p.cells.length) (fun k => p.cells.length - k) 0 ⟨⟨rfl, rfl, rfl, rfl, rfl, rfl, trivial⟩, rfl, Nat.zero_le _⟩ ?_
  intro k hk
  refine rn4 ?_
  refine zI J (fun h => ?_) (fun h => ?_)
  ·have hk' : k < p.cells.length := by omega
   have hsucc := zGl r p k
   have hlen := zFU r p (by rw [hL]; exact hh6) k
   rw [hL] at hsucc
   have no : zEm r p k = false → zBL r p (k + 1) = zBL r p k := fun q => by rw [hsucc, q]; simp
   have yes : zEm r p k = true → zBL r p (k + 1) = zBL r p k ++ zC3 L k L.length := fun q => by rw [hsucc, q]; rfl
   refine rn6 ?_
   apply zAD (H := [some ⟨53, zBH (zBL r p k)⟩]) [(2, .rp (.box (ruC r)) 0 0), (3, .rp (.box (poC p)) 0 0), (5, .sl 0 0 (zBL r p k).length), (11, zq p.cells), (12, iN p.cells.length), (13, iN k), (6, iN k), (36, .bool (!(zEm r p k)))]
   ·intro fin
    refine zh J J (fun g1 => ?_) (fun g1 => ?_)
    ·repeat (first | refine zC ?_ | refine zB ?_ | refine zAc rfl rfl ?_ | refine zAM rfl rfl rfl ?_ | refine zA (zd rfl rfl) ?_)
     have g1 : ¬ zAB p k = 0 := g1
     exact fin _ ⟨J, J, J, J, J, J, J, by unfold zEm; rw [decide_eq_false g1]; rfl, trivial⟩
    have g1 : zAB p k = 0 := Classical.not_not.1 g1
    refine zAz ?_
    refine zAg J J (fun g2 => ?_) (fun g2 => ?_)
    ·repeat (first | refine zA (zG rfl) ?_ | refine zl rfl rfl ?_ | refine zA (zDa rfl rfl) ?_ | refine zA (zd rfl rfl) ?_ | refine zA (zD rfl rfl rfl rfl) ?_ | refine zA (zH rfl rfl rfl rfl rfl rfl) ?_)
     refine zh J J (fun g3 => ?_) (fun g3 => ?_)
     ·refine zGV ?_
      refine zU J J J (zLh r hw p hp k hk') ?_
      repeat (first | refine zC ?_ | refine zB ?_ | refine zl rfl rfl ?_ | refine zA (zDv rfl) ?_ | refine zA (zd rfl rfl) ?_)
      exact fin _ ⟨J, J, J, J, J, J, J, by unfold zEm; rw [decide_eq_true g1, g2, decide_eq_true (show r.w.toNat ≤ k by omega), Bool.true_and, Bool.true_and, Bool.true_and, Bool.not_not]; rfl, trivial⟩
     ·refine zAz ?_
      exact fin _ ⟨J, J, J, J, J, J, J, by unfold zEm; rw [decide_eq_true g1, g2, decide_eq_false (show ¬ r.w.toNat ≤ k by omega)]; rfl, trivial⟩
    ·refine zAz ?_
     exact fin _ ⟨J, J, J, J, J, J, J, by unfold zEm; rw [decide_eq_true g1, g2]; rfl, trivial⟩
   refine zAK J (fun g => ?_) (fun g => ?_)
   ·rw [Bool.not_eq_true'] at g
    refine rn5 ?_
    refine zT ⟨k + 1, by omega, by omega, ⟨J, J, ?_, J, J, J, trivial⟩, ?_⟩
    ·rw [no g]; rfl
    ·rw [no g]
   rw [Bool.not_eq_false'] at g
   refine rn20 ?_
   apply zAD (H := [some ⟨53, zBH (zBL r p k)⟩]) [(2, .rp (.box (ruC r)) 0 0), (3, .rp (.box (poC p)) 0 0), (5, .sl 0 0 (zBL r p k).length), (11, zq p.cells), (12, iN p.cells.length), (13, iN k), (6, iN k), (41, zq L), (42, iN L.length), (43, .int .i64 ((0 : Nat) : Int))]
   ·intro fin
    rcases ht with ht | ht
    ·have e : L = p.h0 := by rw [← hL]; unfold zBT; rw [if_pos ht]
     refine zK J ?_
     refine zAz ?_
     rw [ht]
     repeat (first | refine zA (zG rfl) ?_ | refine zC ?_ | refine zB ?_ | refine zA (zA2 rfl rfl rfl) ?_ | refine zA (zD rfl rfl rfl rfl) ?_ | refine zA (zBX rfl rfl rfl rfl (by first | (simp only [Nat.zero_add, Int.toNat_natCast]; exact rfl) | exact rfl) (by omega)) ?_)
     exact fin _ ⟨J, J, J, J, J, J, J, by rw [e]; rfl, by rw [e]; rfl, J, trivial⟩
    ·have e : L = p.h1 := by rw [← hL]; unfold zBT; rw [if_neg (by omega)]
     refine zK J ?_
     refine zAz ?_
     rw [ht]
     repeat (first | refine zA (zG rfl) ?_ | refine zC ?_ | refine zB ?_ | refine zA (zA2 rfl rfl rfl) ?_ | refine zA (zD rfl rfl rfl rfl) ?_ | refine zA (zBX rfl rfl rfl rfl (by first | (simp only [Nat.zero_add, Int.toNat_natCast]; exact rfl) | exact rfl) (by omega)) ?_)
     exact fin _ ⟨J, J, J, J, J, J, J, by rw [e]; rfl, by rw [e]; rfl, J, trivial⟩
   repeat (refine zAL ?_)
   refine zx (ι := Nat) (fun j => [(2, .rp (.box (ruC r)) 0 0), (3, .rp (.box (poC p)) 0 0), (5, .sl 0 0 (zBL r p k ++ zC3 L k j).length), (11, zq p.cells), (12, iN p.cells.length), (13, iN k), (6, iN k), (41, zq L), (42, iN L.length), (43, iN j)]) (fun j => [some ⟨53, zBH (zBL r p k ++ zC3 L k j)⟩])
    (fun j => j ≤ L.length) (fun j => L.length - j) 0 ⟨⟨rfl, rfl, ?_, rfl, rfl, rfl, rfl, rfl, rfl, rfl, trivial⟩, ?_, Nat.zero_le _⟩ ?_
   ·rw [show zC3 L k 0 = [] from rfl, List.append_nil]; rfl
   ·rw [show zC3 L k 0 = [] from rfl, List.append_nil]
   intro j hj
   have hjl := zIm L k j
   have hal : (zBL r p k ++ zC3 L k j).length = (zBL r p k).length + (zC3 L k j).length := List.length_append
   refine rn4 ?_
   refine zI J (fun q => ?_) (fun q => ?_)
   ·have hj' : j < L.length := by omega
    have hps := zKk L k j
    refine rn6 ?_
    refine zI J (fun q2 => ?_) (fun q2 => ?_)
    ·have q2 : 0 < L.getD j 0 := q2
     rw [if_pos q2] at hps
     have hnl : (zBL r p k ++ zC3 L k (j + 1)).length = (zBL r p k ++ zC3 L k j).length + 1 := by rw [hps, ← List.append_assoc, List.length_append (bs := [_])]; rfl
     refine rn8 ?_
     refine zBY [⟨-1, (k : Int), (j : Int)⟩] J J J J J J J J J J J J J (by show 0 + 1 ≤ 1; omega) (fun k' j' hk' hj' => ?_) (by show ((zBL r p k ++ zC3 L k j).length + 1) * 24 ≤ _ ∧ _; omega) zFS (by rw [hfix]; exact fun h => h) ?_
     ·obtain rfl : k' = 0 := Nat.lt_one_iff.1 hk'
      match j', hj' with
      | 0, _ => rfl
      | 1, _ => rfl
      | 2, _ => rfl
     refine rn5 ?_
     refine zT ⟨j + 1, by omega, by omega, ⟨J, J, ?_, J, J, J, J, J, J, J, trivial⟩, ?_⟩
     ·rw [hnl]; rfl
     ·rw [hps, ← List.append_assoc]; rfl
    ·have q2 : ¬ 0 < L.getD j 0 := q2
     rw [if_neg q2] at hps
     refine rn5 ?_
     refine zT ⟨j + 1, by omega, by omega, ⟨J, J, ?_, J, J, J, J, J, J, J, trivial⟩, ?_⟩
     ·rw [hps]; rfl
     ·rw [hps]
   ·have hj' : j = L.length := by omega
    subst hj'
    refine rn5 ?_
    refine zT ⟨k + 1, by omega, by omega, ⟨J, J, ?_, J, J, J, trivial⟩, ?_⟩
    ·rw [yes g]; rfl
    ·rw [yes g]
  ·have hk' : k = p.cells.length := by omega
   subst hk'
   refine rn5 ?_
   exact zO hR J ⟨J, J⟩
 ·rintro v H ⟨rfl, rfl⟩
  refine ⟨?_, fun h o ho => zFJ (zA9 zGP) h o ho, 0, J, fun n => rfl⟩
  intro o ho; simp at ho; subst ho; show 0 + (zEn r p).length ≤ (zEn r p).length; omega
def zEk (turn c : Int) : Bool := decide (0 < c) && decide ((c - 1).tmod 2 ≠ turn)
theorem hitB_eq (take turn c : Int) : hitB take turn c = ((decide (take = 0) && decide (c = 0)) || ((decide (take = 1) && (decide (c = 0) || zEk turn c)) || (decide (take = 2) && zEk turn c))) := rfl
theorem zKK (r : Go.Ax.Gm.Rules) (p : Pos) (take dx dy : Int) : ∀ (n : Nat) (x y : Int), (zGC r p take dx dy n x y).length ≤ n
 | 0, _, _ => Nat.le_refl _
 | n + 1, x, y => by
  have ih := zKK r p take dx dy n (x + dx) (y + dy)
  rw [zGC]
  split
  ·exact Nat.zero_le _
  ·rw [List.length_append]
   have a : (if hitB take p.turn (zAB p ((y + dy) * r.w + (x + dx)).toNat) = true then [(y + dy) * r.w + (x + dx)] else []).length ≤ 1 := by split <;> simp
   have b : (if zAB p ((y + dy) * r.w + (x + dx)).toNat ≠ 0 then [] else zGC r p take dx dy n (x + dx) (y + dy)).length ≤ n := by split; exact Nat.zero_le _; exact ih
   omega
theorem zHE {r : Go.Ax.Gm.Rules} (hv : ValidR r) {p : Pos} (S : Sound r p) (s : Nat) : 0 ≤ zAB p s ∧ zAB p s ≤ 12 := by
 have := zD4 S s
 have := hv.n6
 omega
/-- moves.way -/
theorem way_ok (r : Go.Ax.Gm.Rules) (hv : ValidR r) (p : Pos) (S : Sound r p) (s : Nat) (hs : s < p.cells.length) (w : Go.Ax.Gm.Way) (hwb : zDV w = true) :
 zn Tryd.prog 55 [ruA r, poA p, .int .i64 s, .agg (zEu w)] (zq (zGb r p s w)) := by
 refine ze.value (K := fun v H => v = .sl 0 0 (zGb r p s w).length ∧ H = [some ⟨3, .ints .i64 (zGb r p s w)⟩]) (zP (P := Tryd.prog) (fn := Tryd.f55) J J (by kernel_rfl) J (fun c hR hfix => ?_)) (fix := fun _ => False) (fun _ h => h) J ?_
 ·have hc := (zBD hv S).c
  have hcl := S.cl
  have hw : 1 ≤ r.w ∧ r.w ≤ 8 := ⟨hv.w1, hv.w8⟩
  have hh : 1 ≤ r.h ∧ r.h ≤ 8 := ⟨hv.h1, hv.h8⟩
  have htn : 0 ≤ p.turn ∧ p.turn ≤ 1 := by have := S.tn; omega
  unfold zDV at hwb
  simp only [Bool.and_eq_true, Bool.not_eq_true'] at hwb
  obtain ⟨b1, b2, _, b4, b5⟩ := hwb
  have b1 := Go.Ax.Gm.within_iff.1 b1
  have b2 := Go.Ax.Gm.within_iff.1 b2
  have b4 := Go.Ax.Gm.within_iff.1 b4
  have b5 := Go.Ax.Gm.within_iff.1 b5
  have hsx : 0 ≤ (s : Int) / r.w ∧ (s : Int) / r.w < r.h ∧ 0 ≤ (s : Int) % r.w ∧ (s : Int) % r.w < r.w := by
   refine ⟨Int.ediv_nonneg (by omega) (by omega), Int.ediv_lt_of_lt_mul (by omega) ?_, Int.emod_nonneg _ (by omega), Int.emod_lt_of_pos _ (by omega)⟩
   rw [Int.mul_comm, ← hcl]; omega
  generalize hD : dyOf p w = D
  have hD7 : -7 ≤ D ∧ D ≤ 7 := by
   rw [← hD]
   unfold dyOf
   by_cases q : p.turn = 1
   ·rw [if_pos q]; omega
   ·rw [if_neg q]; exact b2
  have hM : zGb r p s w = zGC r p w.take w.dx D w.most.toNat ((s : Int) % r.w) ((s : Int) / r.w) := by
   unfold zGb; rw [hD, Int.tdiv_eq_ediv_of_nonneg (by omega), Int.tmod_eq_emod_of_nonneg (by omega)]
  rw [hM] at hR
  generalize hW : zGC r p w.take w.dx D w.most.toNat ((s : Int) % r.w) ((s : Int) / r.w) = WL at hR
  refine zX ?_
  repeat (first | refine zA (zN rfl) ?_ | refine zC ?_ | refine zB ?_ | refine zK rfl ?_ | refine zAp rfl rfl ?_)
  refine zG6 [(4, .rp (.box (ruC r)) 0 0), (5, .rp (.box (poC p)) 0 0), (7, .rp (.box (zEu w)) 0 0), (2, iN s), (8, .nil)] (zB6 (zt rfl) (zB6 (zt rfl) (zB6 (zt rfl) zCZ))) ⟨⟨.ptr 0 0 0, rfl, .inr (.inr ⟨rfl, fun o ho => by cases ho; exact Nat.zero_lt_one⟩)⟩, ⟨.ptr 1 0 0, rfl, .inr (.inr ⟨rfl, fun o ho => by cases ho; exact Nat.zero_lt_one⟩)⟩, ⟨.ptr 2 0 0, rfl, .inr (.inr ⟨rfl, fun o ho => by cases ho; exact Nat.zero_lt_one⟩)⟩, ⟨_, rfl, .inl rfl⟩, ⟨_, rfl, .inl rfl⟩, trivial⟩ ⟨rfl, rfl, rfl, rfl, rfl, trivial⟩ rfl hfix ?_
  refine zBW ?_
  apply zAD (H := []) [(4, .rp (.box (ruC r)) 0 0), (5, .rp (.box (poC p)) 0 0), (7, .rp (.box (zEu w)) 0 0), (2, iN s), (9, .nil), (10, .int .i64 D)]
  ·intro fin
   refine zI J (fun t1 => ?_) (fun t1 => ?_)
   ·repeat (first | refine zA (zG rfl) ?_ | refine zK rfl ?_)
    refine zA (q_neg J (by omega)) ?_
    refine zFB ?_
    exact fin _ ⟨J, J, J, J, J, by rw [← hD]; unfold dyOf; rw [if_pos t1]; rfl, trivial⟩
   ·refine zFB ?_
    exact fin _ ⟨J, J, J, J, J, by rw [← hD]; unfold dyOf; rw [if_neg t1]; rfl, trivial⟩
  repeat (refine zX ?_)
  refine zb (by kernel_rfl) ?_
  refine zi (fuel := 0) [0, 1, 2, 3, 4, 5, 6, 7, 8, 9] [(4, .rp (.box (ruC r)) 0 0), (5, .rp (.box (poC p)) 0 0), (7, .rp (.box (zEu w)) 0 0), (2, iN s), (9, .nil), (10, .int .i64 D)] ⟨J, J, J, J, J, J, trivial⟩ (by kernel_rfl) (by decide) J J ?_
  refine zJ J J (zG J) ?_
  refine zJ J J (zH J J J J J J) ?_
  refine zJ J J (zD J J J J) ?_
  refine zJ J J (zJ6 J J (by omega)) ?_
  refine zJ J J (zG J) ?_
  refine zJ J J (zH J J J J J J) ?_
  refine zJ J J (zD J J J J) ?_
  refine zJ J J (zGm J J (by omega)) ?_
  refine zJ J J (zN J) ?_
  refine zJ J J (zN J) ?_
  refine z6 ?_
  refine zZ (by kernel_rfl) ?_
  refine zBW ?_
  refine zBj 9 ⟨3, .ints .i64 []⟩ J J ?_
  refine zx (ι := Nat × Int × Int × List Int) (fun z => [(4, .rp (.box (ruC r)) 0 0), (5, .rp (.box (poC p)) 0 0), (7, .rp (.box (zEu w)) 0 0), (9, .sl 0 0 z.2.2.2.length), (10, .int .i64 D), (11, .int .i64 z.2.1), (12, .int .i64 z.2.2.1), (31, .int .i64 w.most), (32, iN z.1)]) (fun z => [some ⟨3, .ints .i64 z.2.2.2⟩])
   (fun z => z.1 ≤ w.most.toNat ∧ 0 ≤ z.2.1 ∧ z.2.1 < r.w ∧ 0 ≤ z.2.2.1 ∧ z.2.2.1 < r.h ∧ WL = z.2.2.2 ++ zGC r p w.take w.dx D (w.most.toNat - z.1) z.2.1 z.2.2.1 ∧ z.2.2.2.length ≤ z.1) (fun z => w.most.toNat - z.1) (0, (s : Int) % r.w, (s : Int) / r.w, []) ⟨⟨rfl, rfl, rfl, rfl, rfl, rfl, rfl, rfl, rfl, trivial⟩, rfl, Nat.zero_le _, hsx.2.2.1, hsx.2.2.2, hsx.1, hsx.2.1, hW.symm, Nat.zero_le _⟩ ?_
  rintro ⟨k, x, y, out⟩ ⟨hk, hx0, hx1, hy0, hy1, hWL, hol⟩
  simp only at hk hx0 hx1 hy0 hy1 hWL hol
  change Ax _ _ _ _ [(4, .rp (.box (ruC r)) 0 0), (5, .rp (.box (poC p)) 0 0), (7, .rp (.box (zEu w)) 0 0), (9, .sl 0 0 out.length), (10, .int .i64 D), (11, .int .i64 x), (12, .int .i64 y), (31, .int .i64 w.most), (32, iN k)] [some ⟨3, .ints .i64 out⟩]
  refine rn4 ?_
  refine zI J (fun q => ?_) (fun q => ?_)
  ·have hk' : k < w.most.toNat := by
    have q : (k : Int) < w.most := q
    omega
   obtain ⟨n, hn⟩ : ∃ n, w.most.toNat - k = n + 1 := ⟨w.most.toNat - k - 1, by omega⟩
   have hn2 : w.most.toNat - (k + 1) = n := by omega
   rw [hn, zGC] at hWL
   repeat (first | refine zA (zG rfl) ?_ | refine zA (zN rfl) ?_ | refine zC ?_ | refine zB ?_ | refine zX ?_ | refine zK rfl ?_ | refine zAL ?_ | refine zAG ?_ | refine zA (zBv rfl rfl) ?_ | refine zA (zAy rfl rfl (by omega)) ?_ | refine zA (zD rfl rfl rfl rfl) ?_ | refine zA (zH rfl rfl rfl rfl rfl rfl) ?_)
   apply zAD (H := [some ⟨3, .ints .i64 out⟩]) [(4, .rp (.box (ruC r)) 0 0), (5, .rp (.box (poC p)) 0 0), (7, .rp (.box (zEu w)) 0 0), (9, .sl 0 0 out.length), (10, .int .i64 D), (11, .int .i64 (x + w.dx)), (12, .int .i64 (y + D)), (31, .int .i64 w.most), (32, iN k), (58, .bool (zEj r (x + w.dx) (y + D)))]
   ·intro fin
    refine zh J J (fun f1 => ?_) (fun f1 => ?_)
    ·refine zAz ?_
     exact fin _ ⟨J, J, J, J, J, J, J, J, J, by unfold zEj; rw [decide_eq_true (show x + w.dx < 0 from f1)]; rfl, trivial⟩
    repeat (first | refine zA (zG rfl) ?_ | refine zl rfl rfl ?_ | refine zA (zDa rfl rfl) ?_ | refine zA (zd rfl rfl) ?_ | refine zA (zD rfl rfl rfl rfl) ?_ | refine zA (zH rfl rfl rfl rfl rfl rfl) ?_)
    refine zh J J (fun f2 => ?_) (fun f2 => ?_)
    ·refine zAz ?_
     exact fin _ ⟨J, J, J, J, J, J, J, J, J, by unfold zEj; rw [decide_eq_false (show ¬ x + w.dx < 0 from f1), decide_eq_true (show r.w ≤ x + w.dx from f2)]; rfl, trivial⟩
    repeat (first | refine zA (zG rfl) ?_ | refine zl rfl rfl ?_ | refine zA (zBv rfl rfl) ?_ | refine zA (zd rfl rfl) ?_)
    refine zh J J (fun f3 => ?_) (fun f3 => ?_)
    ·refine zAz ?_
     exact fin _ ⟨J, J, J, J, J, J, J, J, J, by unfold zEj; rw [decide_eq_false (show ¬ x + w.dx < 0 from f1), decide_eq_false (show ¬ r.w ≤ x + w.dx from f2), decide_eq_true (show y + D < 0 from f3)]; rfl, trivial⟩
    repeat (first | refine zA (zG rfl) ?_ | refine zC ?_ | refine zB ?_ | refine zl rfl rfl ?_ | refine zA (zDa rfl rfl) ?_ | refine zA (zd rfl rfl) ?_ | refine zA (zD rfl rfl rfl rfl) ?_ | refine zA (zH rfl rfl rfl rfl rfl rfl) ?_)
    exact fin _ ⟨J, J, J, J, J, J, J, J, J, by unfold zEj; rw [decide_eq_false (show ¬ x + w.dx < 0 from f1), decide_eq_false (show ¬ r.w ≤ x + w.dx from f2), decide_eq_false (show ¬ y + D < 0 from f3)]; rfl, trivial⟩
   refine zAK J (fun g => ?_) (fun g => ?_)
   ·rw [if_pos g, List.append_nil] at hWL
    refine rn14 ?_
    exact zO hR J ⟨by rw [hWL]; rfl, by rw [hWL]⟩
   rw [if_neg (by rw [g]; exact Bool.false_ne_true)] at hWL
   have hsq := sq_lt g
   have hoff : 0 ≤ x + w.dx ∧ x + w.dx < r.w ∧ 0 ≤ y + D ∧ y + D < r.h := by
    unfold zEj at g
    simp only [Bool.or_eq_false_iff, decide_eq_false_iff_not] at g
    omega
   have hYw : 0 ≤ (y + D) * r.w ∧ (y + D) * r.w ≤ 64 := ⟨Int.mul_nonneg (by omega) (by omega), by
    have a := Int.mul_le_mul (show y + D ≤ 8 by omega) hw.2 (by omega) (by decide)
    exact Int.le_trans a (by decide)⟩
   have hC12 := zHE hv S ((y + D) * r.w + (x + w.dx)).toNat
   refine zBW ?_
   refine zA (zCY J J (by omega)) ?_
   repeat (first | refine zA (zG rfl) ?_ | refine zA (zN rfl) ?_ | refine zA (zBQ rfl rfl rfl) ?_ | refine zC ?_ | refine zB ?_ | refine zA (zAy rfl rfl (by omega)) ?_ | refine zA (zf rfl rfl rfl rfl (by first | (simp only [Nat.zero_add, Int.toNat_natCast, Int.toNat_zero]; exact rfl) | exact rfl) (by omega)) ?_)
   obtain ⟨C, hC⟩ : ∃ C, zAB p ((y + D) * r.w + (x + w.dx)).toNat = C := ⟨_, rfl⟩
   rw [hC] at hWL hC12
   refine zBl 13 (.int .i64 C) J (AEq.of_eq (by rw [← hC]; rfl)) ?_
   refine rn6 ?_
   apply zAD (H := [some ⟨3, .ints .i64 out⟩]) [(4, .rp (.box (ruC r)) 0 0), (5, .rp (.box (poC p)) 0 0), (7, .rp (.box (zEu w)) 0 0), (9, .sl 0 0 out.length), (10, .int .i64 D), (11, .int .i64 (x + w.dx)), (12, .int .i64 (y + D)), (31, .int .i64 w.most), (32, iN k), (13, .int .i64 C), (14, .bool (zEk p.turn C))]
   ·intro fin
    refine zh J J (fun e1 => ?_) (fun e1 => ?_)
    ·repeat (first | refine zA (zG rfl) ?_ | refine zA (zN rfl) ?_ | refine zC ?_ | refine zB ?_ | refine zl rfl rfl ?_ | refine zA (zBP rfl rfl) ?_ | refine zA (zd rfl rfl) ?_ | refine zA (zA8 rfl rfl (by omega)) ?_ | refine zA (zJ6 rfl rfl (by omega)) ?_ | refine zA (zD rfl rfl rfl rfl) ?_ | refine zA (zH rfl rfl rfl rfl rfl rfl) ?_)
     exact fin _ ⟨J, J, J, J, J, J, J, J, J, J, congrArg (fun b => some (AV.bool b)) (show decide (¬ (C - 1) % 2 = p.turn) = zEk p.turn C by unfold zEk; rw [decide_eq_true (show 0 < C from e1), Int.tmod_eq_emod_of_nonneg (by have e1 : 0 < C := e1; omega), Bool.true_and]), trivial⟩
    ·refine zFB ?_
     exact fin _ ⟨J, J, J, J, J, J, J, J, J, J, congrArg (fun b => some (AV.bool b)) (show false = zEk p.turn C by unfold zEk; rw [decide_eq_false (show ¬ 0 < C from e1)]; rfl), trivial⟩
   have hHit := hitB_eq w.take p.turn C
   generalize zEk p.turn C = oth at hHit
   generalize hitB w.take p.turn C = hit at hWL hHit
   refine zBW ?_
   apply zAD (H := [some ⟨3, .ints .i64 out⟩]) [(4, .rp (.box (ruC r)) 0 0), (5, .rp (.box (poC p)) 0 0), (7, .rp (.box (zEu w)) 0 0), (9, .sl 0 0 out.length), (10, .int .i64 D), (11, .int .i64 (x + w.dx)), (12, .int .i64 (y + D)), (31, .int .i64 w.most), (32, iN k), (13, .int .i64 C), (14, .bool oth), (105, .bool hit)]
   ·intro fin
    refine zh J J (fun a1 => ?_) (fun a1 => ?_)
    ·have a1 : w.take = 0 := a1
     refine zAz ?_
     refine zh J J (fun a2 => ?_) (fun a2 => ?_)
     ·have a2 : C = 0 := a2
      repeat (first | refine zA (zG rfl) ?_ | refine zC ?_ | refine zB ?_ | refine zAc rfl rfl ?_ | refine zAM rfl rfl rfl ?_ | refine zA (zd rfl rfl) ?_)
      exact fin _ ⟨J, J, J, J, J, J, J, J, J, J, J, congrArg (fun b => some (AV.bool b)) (show true = hit by rw [hHit]; simp [a1, a2]), trivial⟩
     have a2 : ¬ C = 0 := a2
     refine zAz ?_
     refine zh J J (fun a3 => ?_) (fun a3 => ?_)
     ·exact absurd (show w.take = 1 from a3) (by omega)
     repeat (first | refine zA (zG rfl) ?_ | refine zl rfl rfl ?_ | refine zAc rfl rfl ?_ | refine zAM rfl rfl rfl ?_ | refine zA (zBh rfl rfl) ?_ | refine zA (zd rfl rfl) ?_ | refine zA (zD rfl rfl rfl rfl) ?_ | refine zA (zH rfl rfl rfl rfl rfl rfl) ?_)
     refine zh J J (fun a4 => ?_) (fun a4 => ?_)
     ·exact absurd (show w.take = 2 from a4) (by omega)
     refine zAz ?_
     exact fin _ ⟨J, J, J, J, J, J, J, J, J, J, J, congrArg (fun b => some (AV.bool b)) (show false = hit by rw [hHit]; simp [a1, a2]), trivial⟩
    have a1 : ¬ w.take = 0 := a1
    refine zAz ?_
    refine zh J J (fun a3 => ?_) (fun a3 => ?_)
    ·have a3 : w.take = 1 := a3
     refine zAz ?_
     refine zh J J (fun a5 => ?_) (fun a5 => ?_)
     ·have a5 : C = 0 := a5
      repeat (first | refine zA (zG rfl) ?_ | refine zC ?_ | refine zB ?_ | refine zl rfl rfl ?_ | refine zAc rfl rfl ?_ | refine zAM rfl rfl rfl ?_ | refine zA (zd rfl rfl) ?_)
      exact fin _ ⟨J, J, J, J, J, J, J, J, J, J, J, congrArg (fun b => some (AV.bool b)) (show true = hit by rw [hHit]; simp [a3, a5]), trivial⟩
     have a5 : ¬ C = 0 := a5
     refine rn2 ?_
     refine zAg J J (fun a6 => ?_) (fun a6 => ?_)
     ·repeat (first | refine zC ?_ | refine zB ?_ | refine zAc rfl rfl ?_ | refine zAM rfl rfl rfl ?_ | refine zA (zd rfl rfl) ?_)
      exact fin _ ⟨J, J, J, J, J, J, J, J, J, J, J, congrArg (fun b => some (AV.bool b)) (show true = hit by rw [hHit]; simp [a3, a5, a6]), trivial⟩
     refine zAz ?_
     refine zh J J (fun a4 => ?_) (fun a4 => ?_)
     ·exact absurd (show w.take = 2 from a4) (by omega)
     refine zAz ?_
     exact fin _ ⟨J, J, J, J, J, J, J, J, J, J, J, congrArg (fun b => some (AV.bool b)) (show false = hit by rw [hHit]; simp [a3, a5, a6]), trivial⟩
    have a3 : ¬ w.take = 1 := a3
    repeat (first | refine zA (zG rfl) ?_ | refine zl rfl rfl ?_ | refine zAc rfl rfl ?_ | refine zAM rfl rfl rfl ?_ | refine zA (zBh rfl rfl) ?_ | refine zA (zd rfl rfl) ?_ | refine zA (zD rfl rfl rfl rfl) ?_ | refine zA (zH rfl rfl rfl rfl rfl rfl) ?_)
    refine zh J J (fun a4 => ?_) (fun a4 => ?_)
    ·have a4 : w.take = 2 := a4
     refine rn2 ?_
     exact fin _ ⟨J, J, J, J, J, J, J, J, J, J, J, congrArg (fun b => some (AV.bool b)) (show oth = hit by rw [hHit]; simp [a1, a3, a4]), trivial⟩
    have a4 : ¬ w.take = 2 := a4
    refine zAz ?_
    exact fin _ ⟨J, J, J, J, J, J, J, J, J, J, J, congrArg (fun b => some (AV.bool b)) (show false = hit by rw [hHit]; simp [a1, a3, a4]), trivial⟩
   have hidx : (y + D) * r.w + (x + w.dx) ≤ 64 := by omega
   obtain ⟨O, hO⟩ : ∃ O, (if hit = true then out ++ [(y + D) * r.w + (x + w.dx)] else out) = O := ⟨_, rfl⟩
   have hOl : O.length ≤ k + 1 := by
    rw [← hO]; split
    ·rw [List.length_append]; simp; exact hol
    ·omega
   have hWL : WL = O ++ (if C ≠ 0 then [] else zGC r p w.take w.dx D n (x + w.dx) (y + D)) := by
    rw [hWL, ← hO]
    cases hit with
    | true => simp
    | false => simp
   apply zAD (H := [some ⟨3, .ints .i64 O⟩]) [(4, .rp (.box (ruC r)) 0 0), (5, .rp (.box (poC p)) 0 0), (7, .rp (.box (zEu w)) 0 0), (9, .sl 0 0 O.length), (10, .int .i64 D), (11, .int .i64 (x + w.dx)), (12, .int .i64 (y + D)), (31, .int .i64 w.most), (32, iN k), (13, .int .i64 C)]
   ·intro fin
    refine zAK J (fun g1 => ?_) (fun g1 => ?_)
    ·rw [if_pos g1] at hO
     refine zBW ?_
     refine zA (zCY J J (by omega)) ?_
     refine rn3 ?_
     refine zAY J J J J J J J J J J J J (by show 0 + 1 ≤ 1; omega) J (by show (out.length + 1) * 8 ≤ _ ∧ _; omega) (fun i j _ _ => rfl) (by rw [hfix]; exact fun h => h) ?_
     refine zFB ?_
     refine zAa [some ⟨3, .ints .i64 O⟩] (by rw [← hO]; rfl) ?_
     exact fin _ ⟨J, J, J, by rw [← hO, List.length_append]; rfl, J, J, J, J, J, J, trivial⟩
    ·rw [if_neg (by rw [g1]; exact Bool.false_ne_true)] at hO
     subst hO
     refine zFB ?_
     exact fin _ ⟨J, J, J, J, J, J, J, J, J, J, trivial⟩
   refine rn3 ?_
   refine zI J (fun g2 => ?_) (fun g2 => ?_)
   ·rw [if_pos g2, List.append_nil] at hWL
    refine rn14 ?_
    exact zO hR J ⟨by rw [hWL]; rfl, by rw [hWL]⟩
   ·rw [if_neg g2] at hWL
    refine rn5 ?_
    exact zT ⟨(k + 1, x + w.dx, y + D, O), ⟨by show k + 1 ≤ _; omega, hoff.1, hoff.2.1, hoff.2.2.1, hoff.2.2.2, by rw [hWL, hn2], hOl⟩, by show w.most.toNat - (k + 1) < w.most.toNat - k; omega, ⟨J, J, J, J, J, J, J, J, J, trivial⟩, J⟩
  ·have hk' : k = w.most.toNat := by
    have q : ¬ (k : Int) < w.most := q
    omega
   subst hk'
   rw [Nat.sub_self, zGC, List.append_nil] at hWL
   refine rn5 ?_
   exact zO hR J ⟨by rw [hWL]; rfl, by rw [hWL]⟩
 ·rintro v H ⟨rfl, rfl⟩
  refine ⟨J, ?_, fun h o ho => zFJ zAI h o ho⟩
  intro o ho; simp at ho; subst ho; show 0 + (zGb r p s w).length ≤ (zGb r p s w).length; omega
end Go.Proofs.YtiifcejepaeepaaDoor
namespace Go.Proofs
open Go.Shelf
def Tryd.sortMv_ren : Go.Shelf.Ren := ⟨fun | 6 => 57 | 15 => 69 | 14 => 68 | 28 => 83 | 29 => 84 | 20 => 75 | 21 => 76 | 22 => 77 | 23 => 78 | 24 => 79 | 25 => 80 | 26 => 81 | 27 => 82 | 46 => 89 | 47 => 90 | 48 => 91 | 49 => 92 | 50 => 93 | 57 => 98 | n => n, fun | 22 => 46 | 24 => 53 | 25 => 108 | 3 => 3 | 39 => 116 | 0 => 0 | 53 => 131 | 55 => 118 | 4 => 4 | 46 => 125 | 45 => 124 | 50 => 88 | 5 => 5 | 9 => 9 | 66 => 138 | 70 => 142 | 76 => 147 | 77 => 148 | n => n, fun | n => n⟩
theorem Tryd.sortMv : Go.Proofs.SlLaysF0.n6 Tryd.prog Tryd.sortMv_ren := {
 mixed := by kernel_rfl
 f6 := ⟨Tryd.f57.name, by decide, Tryd.func57.trans (congrArg some (by kernel_rfl))⟩
 f14 := ⟨Tryd.f68.name, by decide, Tryd.func68.trans (congrArg some (by kernel_rfl))⟩
 f15 := Tryd.func69.trans (congrArg some (by kernel_rfl))
 f20 := ⟨Tryd.f75.name, by decide, Tryd.func75.trans (congrArg some (by kernel_rfl))⟩
 f21 := ⟨Tryd.f76.name, by decide, Tryd.func76.trans (congrArg some (by kernel_rfl))⟩
 f22 := ⟨Tryd.f77.name, by decide, Tryd.func77.trans (congrArg some (by kernel_rfl))⟩
 f23 := ⟨Tryd.f78.name, by decide, Tryd.func78.trans (congrArg some (by kernel_rfl))⟩
 f24 := ⟨Tryd.f79.name, by decide, Tryd.func79.trans (congrArg some (by kernel_rfl))⟩
 f25 := ⟨Tryd.f80.name, by decide, Tryd.func80.trans (congrArg some (by kernel_rfl))⟩
 f26 := ⟨Tryd.f81.name, by decide, Tryd.func81.trans (congrArg some (by kernel_rfl))⟩
 f27 := ⟨Tryd.f82.name, by decide, Tryd.func82.trans (congrArg some (by kernel_rfl))⟩
 f28 := Tryd.func83.trans (congrArg some (by kernel_rfl))
 f29 := Tryd.func84.trans (congrArg some (by kernel_rfl))
 f46 := ⟨Tryd.f89.name, by decide, Tryd.func89.trans (congrArg some (by kernel_rfl))⟩
 f47 := Tryd.func90.trans (congrArg some (by kernel_rfl))
 f48 := Tryd.func91.trans (congrArg some (by kernel_rfl))
 f49 := ⟨Tryd.f92.name, by decide, Tryd.func92.trans (congrArg some (by kernel_rfl))⟩
 f50 := ⟨Tryd.f93.name, by decide, Tryd.func93.trans (congrArg some (by kernel_rfl))⟩
 f57 := ⟨Tryd.f98.name, by decide, Tryd.func98.trans (congrArg some (by kernel_rfl))⟩
 t0 := Tryd.underlying0
 a0 := Tryd.isAgg0
 z0 := Tryd.sizeOf0
 v0 := Tryd.zeroValue0
 t3 := Tryd.underlying3
 a3 := Tryd.isAgg3
 z3 := Tryd.sizeOf3
 v3 := Tryd.zeroValue3
 t4 := Tryd.underlying4
 a4 := Tryd.isAgg4
 z4 := Tryd.sizeOf4
 v4 := Tryd.zeroValue4
 t5 := Tryd.underlying5
 a5 := Tryd.isAgg5
 z5 := Tryd.sizeOf5
 v5 := Tryd.zeroValue5
 t9 := Tryd.underlying9
 a9 := Tryd.isAgg9
 z9 := Tryd.sizeOf9
 v9 := Tryd.zeroValue9
 t22 := Tryd.underlying46
 a22 := Tryd.isAgg46
 z22 := Tryd.sizeOf46
 v22 := Tryd.zeroValue46
 t25 := Tryd.underlying108
 a25 := Tryd.isAgg108
 z25 := Tryd.sizeOf108
 v25 := Tryd.zeroValue108
 t39 := Tryd.underlying116
 a39 := Tryd.isAgg116
 z39 := Tryd.sizeOf116
 v39 := Tryd.zeroValue116
 t45 := Tryd.underlying124
 a45 := Tryd.isAgg124
 z45 := Tryd.sizeOf124
 v45 := Tryd.zeroValue124
 t46 := Tryd.underlying125
 a46 := Tryd.isAgg125
 z46 := Tryd.sizeOf125
 v46 := Tryd.zeroValue125
 t50 := Tryd.underlying88
 a50 := Tryd.isAgg88
 z50 := Tryd.sizeOf88
 v50 := Tryd.zeroValue88
 t53 := Tryd.underlying131
 a53 := Tryd.isAgg131
 z53 := Tryd.sizeOf131
 v53 := Tryd.zeroValue131
 t55 := Tryd.underlying118
 a55 := Tryd.isAgg118
 z55 := Tryd.sizeOf118
 v55 := Tryd.zeroValue118
 t66 := Tryd.underlying138
 a66 := Tryd.isAgg138
 z66 := Tryd.sizeOf138
 v66 := Tryd.zeroValue138
 t70 := Tryd.underlying142
 a70 := Tryd.isAgg142
 z70 := Tryd.sizeOf142
 v70 := Tryd.zeroValue142
 t76 := Tryd.underlying147
 a76 := Tryd.isAgg147
 z76 := Tryd.sizeOf147
 v76 := Tryd.zeroValue147
 t77 := Tryd.underlying148
 a77 := Tryd.isAgg148
 z77 := Tryd.sizeOf148
 v77 := Tryd.zeroValue148 }
end Go.Proofs
namespace Go.Proofs.YtiifcejepaeepaaDoor
open Go.Ax Go.Ax.Gm Go.RowKit Go.Ax.Idx Go.Ax.Cd
attribute [local irreducible] Ax zB8 QOp ze
/-- slices.SortFunc of moves -/
theorem zMD {H : zM} {h : Nat} {l : List Mv} (hl : l.length < 4611686018427387904) (hh : H[h]? = some (some ⟨53, zBH l⟩)) :
 ze Tryd.prog 57 [.sl h 0 l.length, .fn 58 []] H (fun x => x < H.length) (fun r H' => r = .tup [] ∧ H' = H.set h (some ⟨53, zBH (l.mergeSort leM)⟩)) :=
 zME Tryd.sortMv Tryd.isAgg53 Tryd.sizeOf53 (enters_of Tryd.func58 (by kernel_rfl) rfl) ⟨Tryd.f57, Tryd.func57, by kernel_rfl, rfl⟩
  (fun x y W => rClosure x.fr x.to x.pc y.fr y.to y.pc W) hl hh
theorem zLk {a b : List Mv} {i : Nat} (h : a.length ≤ i) : (a ++ b).getD i mv0 = b.getD (i - a.length) mv0 := by rw [zBs, if_neg (by omega)]
theorem zFP (l : List Mv) (n i : Nat) : (l.drop n).getD i mv0 = l.getD (n + i) mv0 := by simp [List.getD]
theorem zMB (A l : List Mv) (v : Mv) (i : Nat) : ((A ++ [v]) ++ l.drop (A.length + 1)).getD i mv0 = if i = A.length then v else (A ++ l.drop A.length).getD i mv0 := by
 rw [zBs, zBs, zBs, zFP, zFP, List.length_append, List.length_singleton]
 rcases Nat.lt_trichotomy i A.length with h | h | h
 ·rw [if_pos (by omega), if_pos h, if_neg (by omega), if_pos h]
 ·subst h
  rw [if_pos (by omega), if_neg (by omega), if_pos rfl, Nat.sub_self]; rfl
 ·rw [if_neg (by omega), if_neg (by omega), if_neg (by omega)]
  congr 1; omega
theorem zLL (n i : Nat) : (List.replicate n mv0).getD i mv0 = mv0 := by
 simp only [List.getD, List.getElem?_replicate]
 split <;> rfl
theorem eqMv (a b : Mv) : (decide (a.fr = b.fr) && (decide (a.to = b.to) && (decide (a.pc = b.pc) && true))) = decide (b = a) := by
 obtain ⟨x, y, z⟩ := a
 obtain ⟨x', y', z'⟩ := b
 rw [Bool.eq_iff_iff]
 simp only [Bool.and_eq_true, decide_eq_true_eq, Mv.mk.injEq, and_true]
 constructor
 ·rintro ⟨h1, h2, h3⟩; exact ⟨h1.symm, h2.symm, h3.symm⟩
 ·rintro ⟨h1, h2, h3⟩; exact ⟨h1.symm, h2.symm, h3.symm⟩
/-- slices.Compact of moves -/
theorem zKQ (l : List Mv) (hl : l.length ≤ 1000000) :
 ze Tryd.prog 61 [.sl 0 0 l.length] [some ⟨53, zBH l⟩] (fun h => h < 1) (fun r H => r = .sl 0 0 (zm l).length ∧ H = [some ⟨53, zBH (zm l ++ List.replicate (l.length - (zm l).length) mv0)⟩]) := by
 refine zP (P := Tryd.prog) (fn := Tryd.f61) J J (by kernel_rfl) J (fun c hR hfix => ?_)
 have whole : zm l = l → ([some ⟨53, zBH l⟩] : zM) = [some ⟨53, zBH (zm l ++ List.replicate (l.length - (zm l).length) mv0)⟩] := fun e => by rw [e, Nat.sub_self]; simp
 refine rn4 ?_
 refine zI J (fun h => ?_) (fun h => ?_)
 ·have e : zm l = l := by
   match l, h with
   | [], _ => rfl
   | [_], _ => rfl
   | _ :: _ :: r, h => simp at h; omega
  refine rn2 ?_
  exact zO hR J ⟨by rw [e]; rfl, whole e⟩
 have hl2 : 2 ≤ l.length := by omega
 refine rn1 ?_
 refine zx (ι := Nat) (fun k => [(0, .sl 0 0 l.length), (3, iN k)]) (fun _ => [some ⟨53, zBH l⟩])
  (fun k => 1 ≤ k ∧ k ≤ l.length ∧ zm (l.take k) = l.take k) (fun k => l.length - k) 1 ⟨⟨rfl, rfl, trivial⟩, rfl, Nat.le_refl _, by omega, ?_⟩ ?_
 ·match l, hl2 with
  | a :: r, _ => rfl
 intro k ⟨hk1, hk, hpre⟩
 refine rn4 ?_
 refine zI J (fun q => ?_) (fun q => ?_)
 ·have hk' : k < l.length := by omega
  have hct := zFn (l := l) (i := k) (by omega) hk'
  have ek : ((k : Int) - 1).toNat = k - 1 := by omega
  have hb1 : ((k : Int) - 1).toNat < l.length := by omega
  have hb2 : ((k : Int) - 1).toNat < (zBH l).len := hb1
  refine rn1 ?_
  refine zb (by kernel_rfl) ?_
  refine zi (fuel := 0) [0, 1, 2, 3, 4, 5, 6, 7, 8, 9] [(0, .sl 0 0 l.length), (3, iN k)] ⟨J, J, trivial⟩ (by kernel_rfl) (by decide) J J ?_
  refine zJ J J (zG J) ?_
  refine zJ J J (zG J) ?_
  refine zJ J J (zg J J J J J (by first | (simp only [Nat.zero_add, Int.toNat_natCast, Int.toNat_zero]; exact J) | exact J) (by omega)) ?_
  refine zJ J J (qpp J J J J J J J) ?_
  refine zJ J J (zG J) ?_
  refine zJ J J (zG J) ?_
  refine zJ J J (zA8 J J (by omega)) ?_
  refine zJ J J (zg J J J J J (by first | (simp only [Nat.zero_add, Int.toNat_natCast, Int.toNat_zero]; exact J) | exact J) (by omega)) ?_
  refine zJ J J (qpp J J J J J J J) ?_
  refine zJ J J (zFY J J J (by kernel_rfl) (by kernel_rfl) (by kernel_rfl) J) ?_
  refine z6 ?_
  refine zZ (by kernel_rfl) ?_
  repeat (refine zB ?_)
  refine zBl 25 (.bool (decide (l.getD (k - 1) mv0 = l.getD k mv0))) J (AEq.of_eq (by rw [← eqMv (l.getD k mv0) (l.getD (k - 1) mv0), ← ek])) ?_
  refine zI J (fun d => ?_) (fun d => ?_)
  ·rw [if_pos d] at hct
   have hpl : (l.take k).length = k := by rw [List.length_take]; omega
   repeat (first | refine zA (zG rfl) ?_ | refine zA (zN rfl) ?_ | refine zC ?_ | refine zB ?_ | refine zX ?_ | refine zK rfl ?_ | refine zA (zFW rfl rfl rfl rfl rfl rfl rfl rfl (by omega)) ?_)
   refine zBl 4 (.sl 0 k (l.length - k)) J (AEq.of_eq (by congr 1 <;> omega)) ?_
   repeat (refine zAL ?_)
   refine zx (ι := Nat) (fun j => [(0, .sl 0 0 l.length), (3, .int .i64 ((zm (l.take (k + j))).length : Nat)), (4, .sl 0 k (l.length - k)), (5, iN j)]) (fun j => [some ⟨53, zBH (zm (l.take (k + j)) ++ l.drop (zm (l.take (k + j))).length)⟩])
    (fun j => 1 ≤ j ∧ k + j ≤ l.length ∧ (zm (l.take (k + j))).length < k + j) (fun j => l.length - j) 1 ⟨⟨rfl, ?_, rfl, rfl, trivial⟩, ?_, Nat.le_refl _, by omega, ?_⟩ ?_
   ·rw [hct, hpre, hpl]; rfl
   ·rw [hct, hpre, hpl, List.take_append_drop]
   ·rw [hct, hpre, hpl]; omega
   intro j ⟨hj1, hjl, hjc⟩
   have hct2 : k + j < l.length → zm (l.take (k + (j + 1))) = if l.getD (k + j - 1) mv0 = l.getD (k + j) mv0 then zm (l.take (k + j)) else zm (l.take (k + j)) ++ [l.getD (k + j) mv0] := fun q => zFn (i := k + j) (by omega) q
   generalize hA : zm (l.take (k + j)) = A at hjc hct2
   have hXl : (A ++ l.drop A.length).length = l.length := by rw [List.length_append, List.length_drop]; omega
   have hXg : ∀ i, A.length ≤ i → (A ++ l.drop A.length).getD i mv0 = l.getD i mv0 := fun i q => by rw [zLk q, zFP]; congr 1; omega
   generalize hX : A ++ l.drop A.length = X at hXl hXg
   refine rn4 ?_
   refine zI J (fun q2 => ?_) (fun q2 => ?_)
   ·have q2 : k + j < l.length := by
     have q2 : (j : Int) < ((l.length - k : Nat) : Int) := q2
     omega
    have hct2 := hct2 q2
    have ej : k + ((j : Int) - 1).toNat = k + j - 1 := by omega
    have hc1 : k + j < X.length := by omega
    have hc2 : k + j < (zBH X).len := hc1
    have hc3 : k + ((j : Int) - 1).toNat < X.length := by omega
    have hc4 : k + ((j : Int) - 1).toNat < (zBH X).len := hc3
    refine rn1 ?_
    refine zb (by kernel_rfl) ?_
    refine zi (fuel := 0) [0, 1, 2, 3, 4, 5, 6, 7, 8, 9] [(0, .sl 0 0 l.length), (3, iN A.length), (4, .sl 0 k (l.length - k)), (5, iN j)] ⟨J, J, J, J, trivial⟩ (by kernel_rfl) (by decide) J J ?_
    refine zJ J J (zG J) ?_
    refine zJ J J (zG J) ?_
    refine zJ J J (zg J J J J J (by first | (simp only [Nat.zero_add, Int.toNat_natCast, Int.toNat_zero]; exact J) | exact J) (by omega)) ?_
    refine zJ J J (qpp J J J J J J J) ?_
    refine zJ J J (zG J) ?_
    refine zJ J J (zG J) ?_
    refine zJ J J (zA8 J J (by omega)) ?_
    refine zJ J J (zg J J J J J (by first | (simp only [Nat.zero_add, Int.toNat_natCast, Int.toNat_zero]; exact J) | exact J) (by omega)) ?_
    refine zJ J J (qpp J J J J J J J) ?_
    refine zJ J J (zGo J J J (by kernel_rfl) (by kernel_rfl) (by kernel_rfl) J) ?_
    refine z6 ?_
    refine zZ (by kernel_rfl) ?_
    repeat (refine zB ?_)
    refine zBl 44 (.bool (decide (¬ l.getD (k + j - 1) mv0 = l.getD (k + j) mv0))) J (AEq.of_eq ?_) ?_
    ·rw [decide_not, ← eqMv (l.getD (k + j) mv0) (l.getD (k + j - 1) mv0), ← hXg (k + j) (by omega), ← hXg (k + j - 1) (by omega), ← ej]
    refine zI J (fun d2 => ?_) (fun d2 => ?_)
    ·rw [if_neg d2] at hct2
     have hAk : A.length < l.length := by omega
     have hAX : A.length < X.length := by omega
     have hAX2 : A.length < (zBH X).len := hAX
     have hnl : (A ++ [l.getD (k + j) mv0]).length = A.length + 1 := by rw [List.length_append]; rfl
     refine rn6 ?_
     refine zEV (c' := zBH ((A ++ [l.getD (k + j) mv0]) ++ l.drop (A.length + 1))) J J J J J hAX ?_ J (fun i' j' hi' hj' => ?_) ?_
     ·show ((A ++ [l.getD (k + j) mv0]) ++ l.drop (A.length + 1)).length = X.length
      rw [List.length_append, hnl, List.length_drop]; omega
     ·have hj' : j' < 3 := hj'
      show (mvC (((A ++ [l.getD (k + j) mv0]) ++ l.drop (A.length + 1)).getD i' mv0)).getD j' .any = _
      rw [zMB, hX]
      by_cases e : i' = A.length
      ·rw [if_pos e, if_pos e, ← hXg (k + j) (by omega)]
       match j', hj' with
       | 0, _ => rfl
       | 1, _ => rfl
       | 2, _ => rfl
      ·rw [if_neg e, if_neg e]; rfl
     refine rn5 ?_
     refine zT ⟨j + 1, ⟨by omega, by omega, by rw [hct2, hnl]; omega⟩, by omega, ⟨J, ?_, J, J, trivial⟩, ?_⟩
     ·show some (AV.int .i64 _) = some (AV.int .i64 _)
      congr 2; rw [hct2, hnl]; omega
     ·rw [hct2, hnl]; rfl
    ·rw [if_pos (Classical.not_not.1 d2)] at hct2
     refine rn5 ?_
     exact zT ⟨j + 1, ⟨by omega, by omega, by rw [hct2]; omega⟩, by omega, ⟨J, by rw [hct2]; rfl, J, J, trivial⟩, by rw [hct2, hX]⟩
   ·have hj' : k + j = l.length := by
     have q2 : ¬ (j : Int) < ((l.length - k : Nat) : Int) := q2
     omega
    rw [hj', List.take_length] at hA
    have hAk : A.length < l.length := by omega
    have hlen : zm l = A := hA
    have hA0 : 0 < A.length := by rw [← hlen]; exact List.length_pos_iff.2 (zHJ (fun e => by rw [e] at hl2; simp at hl2))
    refine rn17 ?_
    refine zAn 56 (.sl 0 A.length (l.length - A.length)) J (AEq.of_eq (by congr 1 <;> omega)) ?_
    refine zLV (zs := [.int .i64 0, .int .i64 0, .int .i64 0]) (s := 3) (c' := zBH (A ++ List.replicate (l.length - A.length) mv0)) J J J J J J J (fun j' hj' w S σ => ?_) J (by omega) J (by show A.length + (l.length - A.length) ≤ X.length; omega) ?_ J (fun i' j' hi' hj' => ?_) ?_
    ·match j', hj' with
     | 0, _ => exact .int _ _ _
     | 1, _ => exact .int _ _ _
     | 2, _ => exact .int _ _ _
    ·show (A ++ List.replicate (l.length - A.length) mv0).length = X.length
     rw [List.length_append, List.length_replicate]; omega
    ·have hj' : j' < 3 := hj'
     have hi' : i' < X.length := hi'
     show (mvC ((A ++ List.replicate (l.length - A.length) mv0).getD i' mv0)).getD j' .any = _
     by_cases e : i' < A.length
     ·rw [if_neg (by omega), zBs, if_pos e]
      show _ = (mvC (X.getD i' mv0)).getD j' .any
      rw [← hX, zBs, if_pos e]
     ·rw [if_pos (by omega), zBs, if_neg e, zLL]
      match j', hj' with
      | 0, _ => rfl
      | 1, _ => rfl
      | 2, _ => rfl
    repeat (first | refine zA (zG rfl) ?_ | refine zA (zN rfl) ?_ | refine zC ?_ | refine zB ?_ | refine zX ?_ | refine zK rfl ?_ | refine zu ?_ | refine zBA ?_ | refine zD2 ?_ | refine zD3 ?_ | refine zA (zFW rfl rfl rfl rfl rfl rfl rfl rfl (by omega)) ?_)
    refine zO hR J ⟨?_, ?_⟩
    ·rw [hlen]; show AV.sl 0 (0 + 0) _ = _
     congr 1
    ·rw [hlen]; rfl
  ·rw [if_neg d, hpre] at hct
   refine rn5 ?_
   exact zT ⟨k + 1, ⟨by omega, by omega, by rw [hct, zw l mv0 k hk']⟩, by omega, ⟨J, J, trivial⟩, J⟩
 ·have hk' : k = l.length := by omega
  subst hk'
  rw [List.take_length] at hpre
  refine rn5 ?_
  exact zO hR J ⟨by rw [hpre]; rfl, whole hpre⟩
end Go.Proofs.YtiifcejepaeepaaDoor
namespace Go.Proofs
open Go.Shelf
def Tryd.lays283_ren : Go.Shelf.Ren := ⟨fun | 283 => 85 | n => n, fun | 3 => 3 | 9 => 9 | 4 => 4 | n => n, fun | n => n⟩
theorem Tryd.lays283 : Go.Proofs.Lays.n283 Tryd.prog Tryd.lays283_ren := {
 mixed := by kernel_rfl
 f283 := Tryd.func85.trans (congrArg some (by kernel_rfl))
 t3 := Tryd.underlying3
 a3 := Tryd.isAgg3
 z3 := Tryd.sizeOf3
 v3 := Tryd.zeroValue3
 t4 := Tryd.underlying4
 a4 := Tryd.isAgg4
 z4 := Tryd.sizeOf4
 v4 := Tryd.zeroValue4
 t9 := Tryd.underlying9
 a9 := Tryd.isAgg9
 z9 := Tryd.sizeOf9
 v9 := Tryd.zeroValue9 }
open Go.Lib in
/-- internal/strconv.small: "small returns the string for an i with 0 <= i < nSmalls.": i's decimal numeral. The world is as it was. (LAID: no walk: one application.) -/
theorem Tryd.internal_strconv_small (i : Nat) (h : i < 100) (w : World) :
 Calls Tryd.prog 85 #[.int .i64 i] w fun e w' => e = .returned (.string ⟨(Lib.decDigits i).toArray⟩) ∧ w' = w := Any.internal_strconv_small Tryd.lays283 i h w
def Tryd.laysM284_ren : Go.Shelf.Ren := ⟨fun | 284 => 86 | 129 => 84 | 317 => 94 | 318 => 95 | n => n, fun | 53 => 118 | 3 => 3 | 212 => 145 | 0 => 0 | 4 => 4 | 46 => 116 | 5 => 5 | 9 => 9 | n => n, fun | 17 => 0 | n => n⟩
theorem Tryd.laysM284 : Go.Proofs.LaysM.n284 Tryd.prog Tryd.laysM284_ren := {
 mixed := by kernel_rfl
 f129 := Tryd.func84.trans (congrArg some (by kernel_rfl))
 f284 := Tryd.func86.trans (congrArg some (by kernel_rfl))
 f317 := Tryd.func94.trans (congrArg some (by kernel_rfl))
 f318 := Tryd.func95.trans (congrArg some (by kernel_rfl))
 t0 := Tryd.underlying0
 a0 := Tryd.isAgg0
 z0 := Tryd.sizeOf0
 v0 := Tryd.zeroValue0
 t3 := Tryd.underlying3
 a3 := Tryd.isAgg3
 z3 := Tryd.sizeOf3
 v3 := Tryd.zeroValue3
 t4 := Tryd.underlying4
 a4 := Tryd.isAgg4
 z4 := Tryd.sizeOf4
 v4 := Tryd.zeroValue4
 t5 := Tryd.underlying5
 a5 := Tryd.isAgg5
 z5 := Tryd.sizeOf5
 v5 := Tryd.zeroValue5
 t9 := Tryd.underlying9
 a9 := Tryd.isAgg9
 z9 := Tryd.sizeOf9
 v9 := Tryd.zeroValue9
 t46 := Tryd.underlying116
 a46 := Tryd.isAgg116
 z46 := Tryd.sizeOf116
 v46 := Tryd.zeroValue116
 t53 := Tryd.underlying118
 a53 := Tryd.isAgg118
 z53 := Tryd.sizeOf118
 v53 := Tryd.zeroValue118
 t212 := Tryd.underlying145
 a212 := Tryd.isAgg145
 z212 := Tryd.sizeOf145
 v212 := Tryd.zeroValue145
 g17 := by kernel_rfl
 i0 := by kernel_rfl
 i3 := by kernel_rfl
 i4 := by kernel_rfl
 i5 := by kernel_rfl
 i9 := by kernel_rfl
 i46 := by kernel_rfl
 i53 := by kernel_rfl
 i212 := by kernel_rfl
 m17 := by kernel_rfl }
open Go.Lib in
/-- internal/strconv.numDigits, at a d that is not 0: THE NUMBER OF d's DECIMAL DIGITS. The world is as it was. (LAID: no walk: one application.) -/
theorem Tryd.internal_strconv_numDigits (u : Nat) (h1 : 1 ≤ u) (h2 : u < 18446744073709551616) (w : World) (htab : Lib.TabIs Tryd.prog w "internal/strconv.uint64pow10" .u64 Lib.pow10Tab) :
 Calls Tryd.prog 86 #[.int .u64 u] w fun e w' => e = .returned (.int .i64 (Lib.nDigits u)) ∧ w' = w := Any.internal_strconv_numDigits Tryd.laysM284 u h1 h2 w htab
def Tryd.lays285_ren : Go.Shelf.Ren := ⟨fun | 285 => 87 | n => n, fun | 37 => 96 | 53 => 118 | 3 => 3 | 4 => 4 | 51 => 131 | 9 => 9 | 5 => 5 | 0 => 0 | n => n, fun | n => n⟩
theorem Tryd.lays285 : Go.Proofs.Lays.n285 Tryd.prog Tryd.lays285_ren := {
 mixed := by kernel_rfl
 f285 := Tryd.func87.trans (congrArg some (by kernel_rfl))
 t0 := Tryd.underlying0
 a0 := Tryd.isAgg0
 z0 := Tryd.sizeOf0
 v0 := Tryd.zeroValue0
 t3 := Tryd.underlying3
 a3 := Tryd.isAgg3
 z3 := Tryd.sizeOf3
 v3 := Tryd.zeroValue3
 t4 := Tryd.underlying4
 a4 := Tryd.isAgg4
 z4 := Tryd.sizeOf4
 v4 := Tryd.zeroValue4
 t5 := Tryd.underlying5
 a5 := Tryd.isAgg5
 z5 := Tryd.sizeOf5
 v5 := Tryd.zeroValue5
 t9 := Tryd.underlying9
 a9 := Tryd.isAgg9
 z9 := Tryd.sizeOf9
 v9 := Tryd.zeroValue9
 t37 := Tryd.underlying96
 a37 := Tryd.isAgg96
 z37 := Tryd.sizeOf96
 v37 := Tryd.zeroValue96
 t51 := Tryd.underlying131
 a51 := Tryd.isAgg131
 z51 := Tryd.sizeOf131
 v51 := Tryd.zeroValue131
 t53 := Tryd.underlying118
 a53 := Tryd.isAgg118
 z53 := Tryd.sizeOf118
 v53 := Tryd.zeroValue118 }
end Go.Proofs
namespace Go.Proofs.YtiifcejepaeepaaDoor
open Go.Ax Go.Ax.Gm Go.RowKit Go.Ax.Idx Go.Ax.Cd
attribute [local irreducible] Ax zB8 QOp ze
theorem valsO {w : World} {S : Nat → Prop} {σ : Nat → Option Blk} {a : AV} {vals : Array Value} (h : VRs w S σ [a] vals) : ∃ x, vals = #[x] ∧ VR w S σ a x := by
 obtain ⟨h1, h2⟩ := h
 have q := h2 0 (by simp)
 have hl : vals.toList.length = 1 := by simpa using h1
 match hq : vals.toList, hl with
 | [x], _ =>
  have e : vals = #[x] := by rw [← Array.toArray_toList (xs := vals), hq]
  subst e
  exact ⟨x, J, by simpa using q⟩
theorem smallD (u : Nat) (h : u < 100) : zn Tryd.prog 85 [.int .i64 u] (.str (Lib.decDigits u)) := by
 refine zn.of_below ⟨Tryd.f85, J, by kernel_rfl, J⟩ J J (fun w S vals hG hS hv => ?_)
 obtain ⟨x, rfl, a⟩ := valsO hv
 have hx : x = .int .i64 (u : Nat) := by cases a; rfl
 subst hx
 refine (Tryd.internal_strconv_small u h w).mono ?_
 rintro e w' ⟨rfl, rfl⟩
 exact ⟨_, J, Below.refl _ _, .str _ _⟩
theorem numDig (u : Nat) (h1 : 1 ≤ u) (h2 : u < 18446744073709551616) : zn Tryd.prog 86 [.int .u64 u] (.int .i64 (Lib.nDigits u)) := by
 refine zn.of_below ⟨Tryd.f86, J, by kernel_rfl, J⟩ J J (fun w S vals hG hS hv => ?_)
 obtain ⟨x, rfl, a⟩ := valsO hv
 have hx : x = .int .u64 (u : Nat) := by cases a; rfl
 subst hx
 have hp : pinG w := hG
 refine (Tryd.internal_strconv_numDigits u h1 h2 w hp.2.1).mono ?_
 rintro e w' ⟨rfl, rfl⟩
 exact ⟨_, J, Below.refl _ _, .int _ _ _⟩
theorem fmt_ok {H : zM} {h : Nat} {ty : TypeId} {s : List UInt8} {u : Nat} (hu64 : u < 18446744073709551616) (hn : Lib.nDigits u ≤ s.length) (hh : H[h]? = some (some ⟨ty, .ints .u8 (zr s)⟩)) :
 ze Tryd.prog 87 [.sl h 0 (Lib.nDigits u), .int .u64 u] H (fun x => x < H.length) (fun r H' => r = .tup [] ∧ H' = H.set h (some ⟨ty, .ints .u8 (zr (Lib.decDigits u ++ s.drop (Lib.nDigits u)))⟩)) :=
 fmt_call Tryd.lays285 ⟨Tryd.f87, Tryd.func87, by kernel_rfl, rfl⟩ hu64 hn hh
theorem zBF (s : List UInt8) : (zr s).length = s.length := List.length_map _
theorem zDE (s t : List UInt8) : zr (s ++ t) = zr s ++ zr t := List.map_append
theorem zJZ (s t : List UInt8) (n : Nat) (h : n = s.length) : ((zr (s ++ t)).drop 0).take n = zr s := by
 rw [List.drop_zero, zDE, List.take_append_of_le_length (by rw [zBF, h]; exact Nat.le_refl _), List.take_of_length_le (by rw [zBF, h]; exact Nat.le_refl _)]
/-- internal/strconv.AppendUint on an own row -/
theorem appU_ok (s : List UInt8) (u : Nat) (hu : u < 18446744073709551616) (hl : s.length ≤ 1000000) :
 ze Tryd.prog 73 [.sl 0 0 s.length, .int .u64 u, .int .i64 10] [some ⟨5, .ints .u8 (zr s)⟩] (fun _ => False) (fun r H => r = .sl 0 0 (s ++ Lib.decDigits u).length ∧ ∃ T, H = some ⟨5, .ints .u8 (zr (s ++ Lib.decDigits u))⟩ :: T) := by
 refine zP (P := Tryd.prog) (fn := Tryd.f73) J J (by kernel_rfl) J (fun c hR hfix => ?_)
 refine rn5 ?_
 have hd20 := Lib.nDigits_le20 u hu
 have hdl := Lib.decDigits_length u
 refine zI J (fun q => ?_) (fun q => ?_)
 ·refine rn0 ?_
  refine zA (q_conv64 J J J (by omega)) ?_
  skip
  refine zU J J J (smallD u (by omega)) ?_
  skip
  refine zH7 (o := ⟨5, .ints .u8 (zr s)⟩) (h := 0) (n := s.length) (s := Lib.decDigits u) (c' := .ints .u8 (zr (s ++ Lib.decDigits u))) J J J J J J J J J (zBF s) J J J J ?_ (fun i j hi hj => ?_) (fun d j hd hj => ?_) (by show (s.length + (Lib.decDigits u).length) * 1 ≤ _ ∧ _; omega) (fun _ _ _ _ => rfl) (by rw [hfix]; exact fun h => h) ?_
  ·show (zr (s ++ Lib.decDigits u)).length = (zr s).length + (Lib.decDigits u).length
   rw [zBF, zBF, List.length_append]
  ·show AV.int .u8 ((zr (s ++ Lib.decDigits u)).getD i 0) = AV.int .u8 ((zr s).getD i 0)
   have hi' : i < (zr s).length := hi
   rw [zDE]
   simp [List.getD, List.getElem?_append, hi']
  ·show AV.int .u8 ((zr (s ++ Lib.decDigits u)).getD ((zr s).length + d) 0) = _
   rw [zDF, zBF, zBs, if_neg (by omega), Nat.add_sub_cancel_left]
  refine rn2 ?_
  exact zO hR J ⟨by rw [List.length_append]; rfl, [], J⟩
 ·refine zFB ?_
  have hbl := zBF s
  refine zKN (n := 24) J J J (by kernel_rfl) (by unfold maxLen; omega) (by rw [hfix]; exact fun _ h => h) (fun c' b hσ hR' hfix' => ?_)
  refine rn0 ?_
  refine zU J J J (numDig u (by omega) hu) ?_
  refine rn0 ?_
  refine zA (zGn (n := 24) J J J J (by omega) hσ (by rw [hfix'])) ?_
  repeat (refine zA (zG rfl) ?_)
  refine zCq J J J (fmt_ok (s := List.replicate 24 0) (h := 1) hu (by rw [List.length_replicate]; omega) J) (fun _ h => h) (fun _ h => h) ?_
  rintro r H ⟨rfl, rfl⟩
  refine rn0 ?_
  refine zA (zGn (n := 24) J J J J (by omega) hσ (by rw [hfix'])) ?_
  skip
  refine zAY (h := 0) (n := s.length) (o := ⟨5, .ints .u8 (zr s)⟩) (i := 0) (m := Lib.nDigits u) (cx := .ints .u8 (zr (Lib.decDigits u ++ (List.replicate 24 0).drop (Lib.nDigits u)))) rfl rfl rfl rfl rfl rfl rfl rfl rfl hbl rfl rfl (by show 0 + Lib.nDigits u ≤ (zr _).length; rw [zBF, List.length_append]; omega) rfl (by show (s.length + Lib.nDigits u) * 1 ≤ _ ∧ _; omega) (fun _ _ _ _ => rfl) (by rw [hfix']; exact fun e => by cases e) ?_
  rw [zJZ _ _ _ hdl.symm]
  refine rn6 ?_
  refine zO (hR'.trans hR) J ⟨by rw [List.length_append, hdl]; rfl, ?_⟩
  rw [← zDE s (Lib.decDigits u)]
  exact ⟨_, J⟩
/-- strconv.AppendInt on an own row -/
theorem appI_ok (s : List UInt8) (u : Nat) (hu : u < 9223372036854775808) (hl : s.length ≤ 1000000) :
 ze Tryd.prog 49 [.sl 0 0 s.length, .int .i64 u, .int .i64 10] [some ⟨5, .ints .u8 (zr s)⟩] (fun _ => False) (fun r H => r = .sl 0 0 (s ++ Lib.decDigits u).length ∧ H = [some ⟨5, .ints .u8 (zr (s ++ Lib.decDigits u))⟩]) := by
 have hI : ze Tryd.prog 65 [.sl 0 0 s.length, .int .i64 u, .int .i64 10] [some ⟨5, .ints .u8 (zr s)⟩] (fun _ => False) (fun r H => r = .sl 0 0 (s ++ Lib.decDigits u).length ∧ ∃ T, H = some ⟨5, .ints .u8 (zr (s ++ Lib.decDigits u))⟩ :: T) := by
  refine zP (P := Tryd.prog) (fn := Tryd.f65) J J (by kernel_rfl) J (fun c hR hfix => ?_)
  refine rn0 ?_
  refine zA (q_uconv (k' := .u64) (M := 18446744073709551616) (m := u) J J J uk64 (by omega)) ?_
  refine rn4 ?_
  refine zES 0 rfl rfl rfl (appU_ok s u (by omega) hl) (fun h q1 q2 => absurd q1 (by intro q1; exact q2 (Nat.lt_one_iff.1 q1))) (fun h q => q.elim) (by rw [hfix]; exact fun h => h) ?_
  rintro r H ⟨rfl, T, rfl⟩
  refine ⟨Nat.succ_le_succ (Nat.zero_le _), ?_⟩
  refine rn0 ?_
  exact zO hR J ⟨J, T, J⟩
 refine zP (P := Tryd.prog) (fn := Tryd.f49) J J (by kernel_rfl) J (fun c hR hfix => ?_)
 refine rn0 ?_
 refine zES 0 rfl rfl rfl (ze.cutR (K' := fun r H => r = .sl 0 0 (s ++ Lib.decDigits u).length ∧ H = [some ⟨5, .ints .u8 (zr (s ++ Lib.decDigits u))⟩]) hI ?_) (fun h q1 q2 => absurd q1 (by intro q1; exact q2 (Nat.lt_one_iff.1 q1))) (fun h q => q.elim) (by rw [hfix]; exact fun h => h) ?_
 ·rintro r H ⟨rfl, T, rfl⟩
  exact ⟨[_], T, J, fun h q => q.elim, zCA (fun _ _ _ _ => rfl) zBp, J, J, J⟩
 rintro r H ⟨rfl, rfl⟩
 refine ⟨Nat.le_refl _, ?_⟩
 refine rn0 ?_
 exact zO hR J ⟨J, J⟩
theorem byte_nat {c : Int} (h : 0 ≤ c ∧ c < 256) : ((Go.Ax.Gm.byteOf c).toNat : Int) = c := by
 unfold Go.Ax.Gm.byteOf
 rw [UInt8.toNat_ofNat', Nat.mod_eq_of_lt (by omega)]; omega
theorem q_byte {ind : Bool} {P : Program} {fn : Func} {c : Ctx} {fr : Fr} {H : zM} {d : Option Nat} {ty : TypeId} {pos : String} {after : Array Edge} {g : Option (Nat × Bool)} {x : Operand} {src dst : TypeId} {u : TypeDesc} {m : Int} (hs : P.underlying src = some u) (hd : P.underlying dst = some (.int .u8)) (hx : ev fr x = some (.int .i64 m)) (h : 0 ≤ m ∧ m < 256) :
 QOp ind P fn c fr H ⟨d, .convert src dst x, ty, pos, after, g⟩ (.int .u8 ((Go.Ax.Gm.byteOf m).toNat : Nat)) :=
 (zKl hs hd hx).res (by rw [byte_nat h]; exact congrArg _ (by have := uk8.in (m := m.toNat) (by omega); rwa [show ((m.toNat : Nat) : Int) = m by omega] at this))
/-- retro.key -/
theorem key_ok (p : Pos) (S : SmallP p) (ht : p.turn = 0 ∨ p.turn = 1) (hc : ∀ c ∈ p.cells, 0 ≤ c ∧ c < 256) (h0 : ∀ c ∈ p.h0, 0 ≤ c ∧ c ≤ 1000) (h1 : ∀ c ∈ p.h1, 0 ≤ c ∧ c ≤ 1000) : zn Tryd.prog 36 [poA p] (.str (keyT p)) := by
 refine ze.value0 (zP (P := Tryd.prog) (fn := Tryd.f36) J J (by kernel_rfl) J (fun c hR hfix => ?_)) (fix := fun _ => False) (fun _ h => h) J J
 refine zX ?_
 repeat (first | refine zA (zN rfl) ?_ | refine zC ?_ | refine zB ?_ | refine zK rfl ?_ | refine zAp rfl rfl ?_)
 refine zCG 1 [] J ⟨J, trivial⟩ trivial J hfix ?_
 refine zBW ?_
 refine zA (q_byte J J J (by omega)) ?_
 refine zCn J J J J J J J J J J ?_
 refine zBW ?_
 have hcl := S.c
 refine zx (ι := Nat) (fun k => [(1, .rp (.box (poC p)) 0 0), (13, zq p.cells), (14, .int .i64 (p.cells.length : Nat)), (15, .int .i64 (k : Nat)), (3, .sl 0 0 (Go.Ax.Gm.byteOf p.turn :: (p.cells.take k).map Go.Ax.Gm.byteOf).length)]) (fun k => [some ⟨5, .ints .u8 (zr (Go.Ax.Gm.byteOf p.turn :: (p.cells.take k).map Go.Ax.Gm.byteOf))⟩])
  (fun k => k ≤ p.cells.length) (fun k => p.cells.length - k) 0 ⟨⟨rfl, rfl, rfl, rfl, rfl, trivial⟩, rfl, Nat.zero_le _⟩ ?_
 intro k hk
 refine rn4 ?_
 refine zI J (fun q => ?_) (fun q => ?_)
 ·have hk' : k < p.cells.length := by omega
  have htk : (p.cells.take (k + 1)).map Go.Ax.Gm.byteOf = (p.cells.take k).map Go.Ax.Gm.byteOf ++ [Go.Ax.Gm.byteOf (p.cells.getD k 0)] := by
   rw [List.take_succ_eq_append_getElem hk', List.map_append]; simp [List.getD, hk']
  have hX : (Go.Ax.Gm.byteOf p.turn :: (p.cells.take k).map Go.Ax.Gm.byteOf).length = k + 1 := by rw [List.length_cons, List.length_map, List.length_take]; omega
  have hv : 0 ≤ p.cells.getD k 0 ∧ p.cells.getD k 0 < 256 := hc _ (by rw [List.getD, List.getElem?_eq_getElem hk']; exact List.getElem_mem hk')
  have hXX : Go.Ax.Gm.byteOf p.turn :: (p.cells.take (k + 1)).map Go.Ax.Gm.byteOf = (Go.Ax.Gm.byteOf p.turn :: (p.cells.take k).map Go.Ax.Gm.byteOf) ++ [Go.Ax.Gm.byteOf (p.cells.getD k 0)] := by rw [htk]; rfl
  generalize Go.Ax.Gm.byteOf p.turn :: (p.cells.take k).map Go.Ax.Gm.byteOf = X at hX hXX
  have hbl := zBF X
  refine rn6 ?_
  refine zA (q_byte J J J hv) ?_
  repeat (refine z7 rfl rfl rfl rfl rfl rfl rfl rfl rfl rfl rfl ?_)
  refine zAY (h := 0) (n := X.length) (o := ⟨5, .ints .u8 (zr X)⟩) (i := 0) (m := 1) (cx := .ints .u8 [((Go.Ax.Gm.byteOf (p.cells.getD k 0)).toNat : Nat)]) J J J J J J J J J hbl J J (Nat.le_refl _) J (by show (X.length + 1) * 1 ≤ _ ∧ _; omega) (fun _ _ _ _ => rfl) (by rw [hfix]; exact fun h => h) ?_
  refine rn5 ?_
  refine zT ⟨k + 1, by omega, by omega, ⟨J, J, J, J, ?_, trivial⟩, ?_⟩
  ·rw [hXX, List.length_append]; rfl
  ·rw [hXX, zDE]; rfl
 ·have hk' : k = p.cells.length := by omega
  subst hk'
  rw [List.take_length]
  have hX : (Go.Ax.Gm.byteOf p.turn :: p.cells.map Go.Ax.Gm.byteOf).length ≤ 65 := by rw [List.length_cons, List.length_map]; omega
  have hkey : keyT p = (Go.Ax.Gm.byteOf p.turn :: p.cells.map Go.Ax.Gm.byteOf) ++ zBg (p.h0 ++ p.h1) := rfl
  rw [hkey] at hR
  generalize Go.Ax.Gm.byteOf p.turn :: p.cells.map Go.Ax.Gm.byteOf = X at hX hR
  repeat (first | refine zB ?_ | refine zX ?_ | refine zK rfl ?_ | refine zCD ?_ | refine zAe ?_ | refine zAd ?_ | refine zAm ?_ | refine zA (zD rfl rfl rfl rfl) ?_ | refine zA (zH rfl rfl rfl rfl rfl rfl) ?_ | refine zA (zBX rfl rfl rfl rfl (by first | (simp only [Nat.zero_add, Int.toNat_natCast]; exact rfl) | exact rfl) (by omega)) ?_ | refine z7 rfl rfl rfl rfl rfl rfl rfl rfl rfl rfl rfl ?_)
  refine zAn 31 (.ro (zHr [p.h0, p.h1]) 0 2) J (AEq.ro J (fun d j hd hj => ?_)) ?_
  ·obtain rfl : j = 0 := Nat.lt_one_iff.1 hj
   match d, hd with
   | 0, _ => rfl
   | 1, _ => rfl
  have s0 := S.h0
  have s1 := S.h1
  refine zU J J J (zK7 p.h0 p.h1 (by omega)) ?_
  have hNl : (p.h0 ++ p.h1).length ≤ 12 := by rw [List.length_append]; omega
  have hNb : ∀ x ∈ p.h0 ++ p.h1, 0 ≤ x ∧ x ≤ 1000 := fun x hx => (List.mem_append.1 hx).elim (h0 x) (h1 x)
  generalize p.h0 ++ p.h1 = N at *
  refine rn3 ?_
  refine zx (ι := Nat) (fun k => [(32, zq N), (33, .int .i64 (N.length : Nat)), (34, .int .i64 (k : Nat)), (3, .sl 0 0 (X ++ zBg (N.take k)).length)]) (fun k => [some ⟨5, .ints .u8 (zr (X ++ zBg (N.take k)))⟩])
   (fun k => k ≤ N.length ∧ (X ++ zBg (N.take k)).length ≤ 65 + 21 * k) (fun k => N.length - k) 0 ⟨⟨rfl, rfl, rfl, ?_, trivial⟩, ?_, Nat.zero_le _, ?_⟩ ?_
  ·rw [List.take_zero, show zBg [] = [] from rfl, List.append_nil]; rfl
  ·rw [List.take_zero, show zBg [] = [] from rfl, List.append_nil]
  ·rw [List.take_zero, show zBg [] = [] from rfl, List.append_nil]; omega
  intro k ⟨hk, hXl⟩
  refine rn4 ?_
  refine zI J (fun q => ?_) (fun q => ?_)
  ·have hk' : k < N.length := by omega
   have htk : zBg (N.take (k + 1)) = zBg (N.take k) ++ (Lib.itoa (N.getD k 0) ++ [32]) := by
    unfold zBg
    rw [List.take_succ_eq_append_getElem hk', List.map_append, List.flatten_append]; simp [List.getD, hk']
   obtain ⟨u, hu⟩ := Int.eq_ofNat_of_zero_le (hNb (N.getD k 0) (by rw [List.getD, List.getElem?_eq_getElem hk']; exact List.getElem_mem hk')).1
   have hu2 := (hNb (N.getD k 0) (by rw [List.getD, List.getElem?_eq_getElem hk']; exact List.getElem_mem hk')).2
   have hXX : X ++ zBg (N.take (k + 1)) = (X ++ zBg (N.take k)) ++ Lib.decDigits u ++ [32] := by rw [htk, hu, Go.Ax.Tb.itoa_nat]; simp
   have hd20 := Lib.nDigits_le20 u (by omega)
   have hdl := Lib.decDigits_length u
   generalize X ++ zBg (N.take k) = Y at hXl hXX
   refine rn6 ?_
   refine zAn 39 (.int .i64 (u : Nat)) J (AEq.of_eq (by rw [hu])) ?_
   refine zES 0 rfl rfl rfl (appI_ok Y u (by omega) (by omega)) (fun h q1 q2 => absurd q1 (by intro q1; exact q2 (Nat.lt_one_iff.1 q1))) (fun h q => q.elim) (by rw [hfix]; exact fun h => h) ?_
   rintro r H ⟨rfl, rfl⟩
   refine ⟨Nat.le_refl _, ?_⟩
   repeat (refine z7 rfl rfl rfl rfl rfl rfl rfl rfl rfl rfl rfl ?_)
   refine zAY (h := 0) (n := (Y ++ Lib.decDigits u).length) (o := ⟨5, .ints .u8 (zr (Y ++ Lib.decDigits u))⟩) (i := 0) (m := 1) (cx := .ints .u8 [32]) J J J J J J J J J (zBF _) J J (Nat.le_refl _) J (by show ((Y ++ Lib.decDigits u).length + 1) * 1 ≤ _ ∧ _; rw [List.length_append]; omega) (fun _ _ _ _ => rfl) (by rw [hfix]; exact fun h => h) ?_
   refine rn5 ?_
   refine zT ⟨k + 1, ⟨by omega, ?_⟩, by omega, ⟨J, J, J, ?_, trivial⟩, ?_⟩
   ·rw [hXX, List.length_append, List.length_append, List.length_singleton]; omega
   ·rw [hXX, show (Y ++ Lib.decDigits u ++ ([32] : List UInt8)).length = (Y ++ Lib.decDigits u).length + 1 by rw [List.length_append]; rfl]; rfl
   ·rw [hXX, zDE (Y ++ Lib.decDigits u) [32]]; rfl
  ·have hk' : k = N.length := by omega
   subst hk'
   rw [List.take_length]
   refine rn5 ?_
   refine zA (q_strof (X ++ zBg N) J J J J J (by show 0 + (X ++ zBg N).length ≤ (zr _).length; rw [zBF]; omega) J J (fun j hj => by show AV.int .u8 ((zr (X ++ zBg N)).getD (0 + j) 0) = _; rw [zDF, Nat.zero_add])) ?_
   refine rn0 ?_
   exact zO hR J J
theorem zGQ {n : Nat} (l : List Mv) : zAq n (zBH l) := fun i j _ hj => by
 have hj : j < 3 := hj
 show zB2 n ((mvC (l.getD i mv0)).getD j .any) = true
 match j, hj with
 | 0, _ => rfl
 | 1, _ => rfl
 | 2, _ => rfl
def zBw (r : Go.Ax.Gm.Rules) (p : Pos) (k : Nat) : List Mv := zEn r p ++ (List.range k).flatMap (zD7 r p)
theorem zKq (r : Go.Ax.Gm.Rules) (p : Pos) (k : Nat) : zBw r p (k + 1) = zBw r p k ++ zD7 r p k := by
 unfold zBw
 rw [List.range_succ, List.flatMap_append, ← List.append_assoc]; simp
theorem zGc {r : Go.Ax.Gm.Rules} {p : Pos} {s k : Nat} {w : Go.Ax.Gm.Way} (h : zDV w = true) : (zCx r p s k w).length ≤ 7 := by
 unfold zCx zGb
 rw [List.length_map]
 have := zKK r p w.take w.dx (dyOf p w) w.most.toNat ((s : Int).tmod r.w) ((s : Int).tdiv r.w)
 unfold zDV at h
 simp only [Bool.and_eq_true] at h
 have b4 := Go.Ax.Gm.within_iff.1 h.2.2.2.1
 omega
theorem zFv {α β : Type} (f : α → List β) (m : Nat) : ∀ (l : List α), (∀ a ∈ l, (f a).length ≤ m) → (l.flatMap f).length ≤ m * l.length
 | [], _ => Nat.le_refl _
 | a :: l, h => by
  rw [List.flatMap_cons, List.length_append, List.length_cons, Nat.mul_succ]
  have h1 := h a (List.mem_cons_self ..)
  have h2 := zFv f m l (fun b hb => h b (List.mem_cons_of_mem _ hb))
  omega
theorem zLR {r : Go.Ax.Gm.Rules} (hv : ValidR r) {i : Nat} (hi : i < r.pcs.length) : (r.pcs.getD i pc0).ways.length ≤ 16 ∧ ∀ w ∈ (r.pcs.getD i pc0).ways, zDV w = true := (zDO (hv.pc i hi)).2.2.2.2
theorem zGU {r : Go.Ax.Gm.Rules} (hv : ValidR r) {p : Pos} (S : Sound r p) (k : Nat) : (zBw r p k).length ≤ 384 + 112 * k := by
 unfold zBw
 rw [List.length_append]
 have h1 : (zEn r p).length ≤ 384 := by
  have := zFU r p (by have := zHQ S p.turn; have := hv.n6; omega) p.cells.length
  have hc := (zBD hv S).c
  have e : zEn r p = zBL r p p.cells.length := rfl
  rw [e]; omega
 have h2 := zFv (zD7 r p) 112 (List.range k) (fun s _ => by
  unfold zD7
  split
  ·rename_i ho
   unfold ownC at ho
   rw [Bool.and_eq_true, decide_eq_true_eq] at ho
   have hc := zD4 S s
   have hk := zE3 ho.1 hc.1 hc.2
   obtain ⟨h16, hw⟩ := zLR hv hk
   have := zFv (zCx r p s (zAO (zAB p s))) 7 _ (fun w hm => zGc (hw w hm))
   omega
  ·exact Nat.zero_le _)
 rw [List.length_range] at h2
 omega
/-- moves.List -/
theorem zLF (r : Go.Ax.Gm.Rules) (hv : ValidR r) (p : Pos) (S : Sound r p) : zn Tryd.prog 38 [ruA r, poA p] (zCz (zBB r p)) := by
 refine ze.value (K := fun v H => v = .sl 0 0 (zBB r p).length ∧ H = [some ⟨53, zBH (zBB r p)⟩]) (zP (P := Tryd.prog) (fn := Tryd.f38) J J (by kernel_rfl) J (fun c hR hfix => ?_)) (fix := fun _ => False) (fun _ h => h) J ?_
 ·have hc := (zBD hv S).c
  have hw : 1 ≤ r.w ∧ r.w ≤ 8 := ⟨hv.w1, hv.w8⟩
  have hh : 1 ≤ r.h ∧ r.h ≤ 8 := ⟨hv.h1, hv.h8⟩
  refine zX ?_
  repeat (first | refine zA (zN rfl) ?_ | refine zC ?_ | refine zB ?_ | refine zK rfl ?_ | refine zAp rfl rfl ?_)
  refine zFh 2 3 [(4, .nil)] J J J J ⟨J, trivial⟩ ⟨J, J, J, trivial⟩ J hfix ?_
  refine rn6 ?_
  refine zDl J J J (puts_ok r hw p (zBD hv S) S.tn) ?_
  refine zBW ?_
  refine zx (ι := Nat) (fun k => [(2, .rp (.box (ruC r)) 0 0), (3, .rp (.box (poC p)) 0 0), (5, .sl 0 0 (zBw r p k).length), (19, zq p.cells), (20, iN p.cells.length), (21, iN k)]) (fun k => [some ⟨53, zBH (zBw r p k)⟩])
   (fun k => k ≤ p.cells.length) (fun k => p.cells.length - k) 0 ⟨⟨rfl, rfl, ?_, rfl, rfl, rfl, trivial⟩, ?_, Nat.zero_le _⟩ ?_
  ·unfold zBw; rw [List.range_zero, List.flatMap_nil, List.append_nil]; rfl
  ·unfold zBw; rw [List.range_zero, List.flatMap_nil, List.append_nil]; rfl
  intro k hk
  refine rn4 ?_
  refine zI J (fun q => ?_) (fun q => ?_)
  ·have hk' : k < p.cells.length := by omega
   have hC12 := zHE hv S k
   have hsucc := zKq r p k
   have hNl := zGU hv S k
   have htn : 0 ≤ p.turn ∧ p.turn ≤ 1 := by have := S.tn; omega
   repeat (first | refine zA (zG rfl) ?_ | refine zA (zN rfl) ?_ | refine zA (zBQ rfl rfl rfl) ?_ | refine zC ?_ | refine zB ?_ | refine zX ?_ | refine zK rfl ?_ | refine zAL ?_ | refine zAG ?_ | refine zA (zf rfl rfl rfl rfl (by first | (simp only [Nat.zero_add, Int.toNat_natCast, Int.toNat_zero]; exact rfl) | exact rfl) (by omega)) ?_)
   obtain ⟨C, hC⟩ : ∃ C, zAB p k = C := ⟨_, rfl⟩
   have hown : ownC p k = (decide (C ≠ 0) && decide ((C - 1).tmod 2 = p.turn)) := by rw [← hC]; rfl
   have hKlt : C ≠ 0 → zAO C < r.pcs.length := fun q => zE3 q (by have := hC12.1; rw [hC] at this; exact this) (by have := (zD4 S k).2; rw [hC] at this; exact this)
   rw [hC] at hC12
   refine zAn 7 (.int .i64 C) J (AEq.of_eq (by rw [← hC]; rfl)) ?_
   refine zAn 26 (.int .i64 C) J (AEq.of_eq (by rw [← hC]; rfl)) ?_
   refine rn4 ?_
   apply zAD (H := [some ⟨53, zBH (zBw r p k)⟩]) [(2, .rp (.box (ruC r)) 0 0), (3, .rp (.box (poC p)) 0 0), (5, .sl 0 0 (zBw r p k).length), (19, zq p.cells), (20, iN p.cells.length), (21, iN k), (6, iN k), (7, .int .i64 C), (35, .bool (!(ownC p k)))]
   ·intro fin
    refine zh J J (fun f1 => ?_) (fun f1 => ?_)
    ·refine zAz ?_
     exact fin _ ⟨J, J, J, J, J, J, J, J, congrArg (fun b => some (AV.bool b)) (show true = !(ownC p k) by rw [hown, decide_eq_false (show ¬ C ≠ 0 from fun q => q f1)]; rfl), trivial⟩
    ·have f1 : ¬ C = 0 := f1
     repeat (first | refine zA (zG rfl) ?_ | refine zC ?_ | refine zB ?_ | refine zl rfl rfl ?_ | refine zA (zBP rfl rfl) ?_ | refine zA (zd rfl rfl) ?_ | refine zA (zA8 rfl rfl (by omega)) ?_ | refine zA (zJ6 rfl rfl (by omega)) ?_ | refine zA (zD rfl rfl rfl rfl) ?_ | refine zA (zH rfl rfl rfl rfl rfl rfl) ?_)
     exact fin _ ⟨J, J, J, J, J, J, J, J, congrArg (fun b => some (AV.bool b)) (show decide (¬ (C - 1) % 2 = p.turn) = !(ownC p k) by rw [hown, decide_eq_true f1, Int.tmod_eq_emod_of_nonneg (by omega), Bool.true_and, decide_not]), trivial⟩
   refine zAK J (fun g => ?_) (fun g => ?_)
   ·rw [Bool.not_eq_true'] at g
    have e : zBw r p (k + 1) = zBw r p k := by rw [hsucc]; unfold zD7; rw [if_neg (by rw [g]; exact Bool.false_ne_true), List.append_nil]
    refine rn5 ?_
    exact zT ⟨k + 1, by omega, by omega, by rw [e]; exact ⟨J, J, J, J, J, J, trivial⟩, by rw [e]⟩
   rw [Bool.not_eq_false'] at g
   have hC0 : C ≠ 0 := by
    rw [hown, Bool.and_eq_true, decide_eq_true_eq] at g
    exact g.1
   have hK := hKlt hC0
   have hgo : zD7 r p k = (r.pcs.getD (zAO C) pc0).ways.flatMap (zCx r p k (zAO C)) := by unfold zD7; rw [if_pos g, hC]
   have hKC : (C - 1) / 2 = ((zAO C : Nat) : Int) := by unfold zAO; rw [Int.tdiv_eq_ediv_of_nonneg (by omega)]; omega
   obtain ⟨hw16, hwo⟩ := zLR hv hK
   have hpr := zDO (hv.pc _ hK)
   generalize zAO C = K at hK hgo hKC hw16 hwo hpr
   generalize hpc : r.pcs.getD K pc0 = pc at hgo hw16 hwo hpr
   obtain ⟨ws, hws⟩ : ∃ ws, pc.ways = ws := ⟨_, rfl⟩
   rw [hws] at hgo hw16 hwo
   repeat (first | refine zA (zG rfl) ?_ | refine zA (zN rfl) ?_ | refine zC ?_ | refine zB ?_ | refine zX ?_ | refine zK rfl ?_ | refine zAG ?_ | refine zA (zA8 rfl rfl (by omega)) ?_ | refine zA (zGm rfl rfl (by omega)) ?_)
   refine zAn 8 (iN K) J (AEq.of_eq (by rw [hKC])) ?_
   refine zBW ?_
   refine zx (ι := Nat) (fun j => [(2, .rp (.box (ruC r)) 0 0), (3, .rp (.box (poC p)) 0 0), (5, .sl 0 0 (zBw r p k ++ (ws.take j).flatMap (zCx r p k K)).length), (19, zq p.cells), (20, iN p.cells.length), (21, iN k), (6, iN k), (8, iN K), (44, .ro (zDx ws) 0 ws.length), (45, iN ws.length), (46, iN j)]) (fun j => [some ⟨53, zBH (zBw r p k ++ (ws.take j).flatMap (zCx r p k K))⟩])
    (fun j => j ≤ ws.length) (fun j => ws.length - j) 0 ⟨⟨rfl, rfl, ?_, rfl, rfl, rfl, rfl, rfl, ?_, ?_, rfl, trivial⟩, ?_, Nat.zero_le _⟩ ?_
   ·rw [List.take_zero, List.flatMap_nil, List.append_nil]; rfl
   ·rw [← hws, ← hpc]; rfl
   ·rw [← hws, ← hpc]; rfl
   ·rw [List.take_zero, List.flatMap_nil, List.append_nil]
   intro j hj
   have hMl : (zBw r p k ++ (ws.take j).flatMap (zCx r p k K)).length ≤ 384 + 112 * k + 7 * j := by
    rw [List.length_append]
    have := zFv (zCx r p k K) 7 (ws.take j) (fun w hm => zGc (hwo w (List.mem_of_mem_take hm)))
    rw [List.length_take] at this
    have : min j ws.length ≤ j := Nat.min_le_left _ _
    omega
   have hMs : ∀ w, ws.getD j way0 = w → j < ws.length → zBw r p k ++ (ws.take (j + 1)).flatMap (zCx r p k K) = (zBw r p k ++ (ws.take j).flatMap (zCx r p k K)) ++ zCx r p k K w := fun w hw1 q => by
    rw [zw ws way0 j q, List.flatMap_append, hw1, List.append_assoc]; simp
   generalize hM : zBw r p k ++ (ws.take j).flatMap (zCx r p k K) = M at hMl hMs
   refine rn4 ?_
   refine zI J (fun q2 => ?_) (fun q2 => ?_)
   ·have hj' : j < ws.length := by omega
    generalize hwj : ws.getD j way0 = w
    have hwm : zDV w = true := hwo w (by rw [← hwj]; exact zAi way0 hj')
    have hMs := hMs w hwj hj'
    refine zGV ?_
    repeat (refine zAJ rfl rfl rfl ?_)
    refine zW (zEu w) J J J J J (by rw [← hwj]; rfl) J ?_
    refine zAz ?_
    refine ax_fzL [some ⟨53, zBH M⟩] 10 [(2, .rp (.box (ruC r)) 0 0), (3, .rp (.box (poC p)) 0 0), (5, .sl 0 0 M.length), (19, zq p.cells), (20, iN p.cells.length), (21, iN k), (6, iN k), (8, iN K), (44, .ro (zDx ws) 0 ws.length), (45, iN ws.length), (46, iN j)] J J ⟨J, J, J, J, J, J, J, J, J, J, J, trivial⟩ ⟨J, J, J, J, J, J, J, J, J, J, J, J, trivial⟩ (zCA (zGQ _) zBp) J hfix ?_
    refine rn6 ?_
    refine zU J J J (way_ok r hv p S k hk' w hwm) ?_
    have hTl : (zCx r p k K w).length = (zGb r p k w).length := List.length_map ..
    have hT7 := zGc (r := r) (p := p) (s := k) (k := K) hwm
    have hTd : zCx r p k K w = (zGb r p k w).map (goM r p k K pc.promote) := by unfold zCx; rw [hpc]
    generalize hTT : zGb r p k w = T at hTl hTd
    have hTb : ∀ t ∈ T, 0 ≤ t ∧ t < 1000 := fun t ht => by
     rw [← hTT] at ht
     have := zJA ht
     have hcl := S.cl
     omega
    refine rn3 ?_
    refine zx (ι := Nat) (fun i => [(2, .rp (.box (ruC r)) 0 0), (3, .rp (.box (poC p)) 0 0), (5, .sl 0 0 (M ++ (T.take i).map (goM r p k K pc.promote)).length), (19, zq p.cells), (20, iN p.cells.length), (21, iN k), (6, iN k), (8, iN K), (44, .ro (zDx ws) 0 ws.length), (45, iN ws.length), (46, iN j), (54, zq T), (55, iN T.length), (56, iN i)]) (fun i => [some ⟨53, zBH (M ++ (T.take i).map (goM r p k K pc.promote))⟩])
     (fun i => i ≤ T.length) (fun i => T.length - i) 0 ⟨⟨rfl, rfl, ?_, rfl, rfl, rfl, rfl, rfl, rfl, rfl, rfl, rfl, rfl, rfl, trivial⟩, ?_, Nat.zero_le _⟩ ?_
    ·rw [List.take_zero, List.map_nil, List.append_nil]; rfl
    ·rw [List.take_zero, List.map_nil, List.append_nil]
    intro i hi
    have hNs : ∀ t, T.getD i 0 = t → i < T.length → M ++ (T.take (i + 1)).map (goM r p k K pc.promote) = (M ++ (T.take i).map (goM r p k K pc.promote)) ++ [goM r p k K pc.promote t] := fun t ht q => by
     rw [zw T 0 i q, List.map_append, ht, List.append_assoc]; rfl
    have hNl : (M ++ (T.take i).map (goM r p k K pc.promote)).length ≤ 384 + 112 * k + 7 * j + i := by
     rw [List.length_append, List.length_map, List.length_take]
     have : min i T.length ≤ i := Nat.min_le_left _ _
     omega
    generalize hN : M ++ (T.take i).map (goM r p k K pc.promote) = N at hNl hNs
    refine rn4 ?_
    refine zI J (fun q3 => ?_) (fun q3 => ?_)
    ·have hi' : i < T.length := by omega
     obtain ⟨t, ht⟩ : ∃ t, T.getD i 0 = t := ⟨_, rfl⟩
     have htb := hTb t (by rw [← ht]; exact zAi 0 hi')
     have hNs := hNs t ht hi'
     have hnl : (N ++ [goM r p k K pc.promote t]).length = N.length + 1 := by rw [List.length_append]; rfl
     refine rn6 ?_
     refine zAn 12 (.int .i64 t) J (AEq.of_eq (by rw [← ht])) ?_
     refine zAn 61 (.int .i64 t) J (AEq.of_eq (by rw [← ht])) ?_
     refine rn8 ?_
     refine zW [iN k, .int .i64 t, iN K] J J J J J J J ?_
     repeat (first | refine zA (zG rfl) ?_ | refine zA (zN rfl) ?_ | refine zC ?_ | refine zB ?_ | refine zX ?_ | refine zK rfl ?_ | refine zA (zAw rfl rfl rfl rfl) ?_ | refine zA (zCL rfl rfl) ?_ | refine zA (zf rfl rfl rfl rfl (by first | (simp only [Nat.zero_add, Int.toNat_natCast, Int.toNat_zero]; exact rfl) | exact rfl) (by omega)) ?_ | refine zA (zD rfl rfl rfl rfl) ?_ | refine zA (zH rfl rfl rfl rfl rfl rfl) ?_)
     apply zAD (H := [some ⟨53, zBH N⟩, some ⟨53, .box (mvC (goM r p k K pc.promote t))⟩]) [(2, .rp (.box (ruC r)) 0 0), (3, .rp (.box (poC p)) 0 0), (5, .sl 0 0 N.length), (19, zq p.cells), (20, iN p.cells.length), (21, iN k), (6, iN k), (8, iN K), (44, .ro (zDx ws) 0 ws.length), (45, iN ws.length), (46, iN j), (54, zq T), (55, iN T.length), (56, iN i), (13, .ptr 1 0 0)]
     ·intro fin
      have keep : ¬ (0 < pc.promote ∧ zEf r p.turn t = true) → goM r p k K pc.promote t = ⟨k, t, K⟩ := fun q => by unfold goM; rw [if_neg q]
      refine zh J J (fun n1 => ?_) (fun n1 => ?_)
      ·have n1 : 0 < (r.pcs.getD K pc0).promote := n1
       rw [hpc] at n1
       repeat (first | refine zA (zG rfl) ?_ | refine zl rfl rfl ?_ | refine zA (zD rfl rfl rfl rfl) ?_ | refine zA (zH rfl rfl rfl rfl rfl rfl) ?_ | refine zA (zAF rfl rfl rfl rfl rfl rfl) ?_)
       refine zU J J J (zId r hw hh p.turn t htb) ?_
       refine rn2 ?_
       refine zAK J (fun n2 => ?_) (fun n2 => ?_)
       ·have e : goM r p k K pc.promote t = ⟨k, t, pc.promote - 1⟩ := by unfold goM; rw [if_pos ⟨n1, n2⟩]
        have hn6 := hv.n6
        have hb6 : -9223372036854775808 ≤ (r.pcs.getD K pc0).promote - 1 ∧ (r.pcs.getD K pc0).promote - 1 ≤ 9223372036854775807 := by rw [hpc]; omega
        skip
        refine zK J ?_
        repeat (first | refine zA (zG rfl) ?_ | refine zC ?_ | refine zB ?_ | refine zA (zA8 rfl rfl (by omega)) ?_ | refine zA (zL rfl rfl rfl rfl rfl rfl) ?_ | refine z8 rfl rfl rfl rfl rfl rfl rfl Nat.zero_lt_one ?_)
        refine zAa [some ⟨53, zBH N⟩, some ⟨53, .box (mvC (goM r p k K pc.promote t))⟩] (by rw [e, ← hpc]; rfl) ?_
        exact fin _ ⟨J, J, J, J, J, J, J, J, J, J, J, J, J, J, J, trivial⟩
       ·have e := keep (fun q => by rw [n2] at q; exact Bool.false_ne_true q.2)
        refine zFB ?_
        refine zAa [some ⟨53, zBH N⟩, some ⟨53, .box (mvC (goM r p k K pc.promote t))⟩] (by rw [e]; rfl) ?_
        exact fin _ ⟨J, J, J, J, J, J, J, J, J, J, J, J, J, J, J, trivial⟩
      ·have n1 : ¬ 0 < (r.pcs.getD K pc0).promote := n1
       rw [hpc] at n1
       have e := keep (fun q => n1 q.1)
       refine zFB ?_
       refine zAa [some ⟨53, zBH N⟩, some ⟨53, .box (mvC (goM r p k K pc.promote t))⟩] (by rw [e]; rfl) ?_
       exact fin _ ⟨J, J, J, J, J, J, J, J, J, J, J, J, J, J, J, trivial⟩
     generalize hgm : goM r p k K pc.promote t = gm at hNs hnl
     refine rn6 ?_
     refine zBY [gm] J J J J J J J J J J J J J (by show 0 + 1 ≤ 1; omega) (fun k' j' hk' hj' => ?_) (by show (N.length + 1) * 24 ≤ _ ∧ _; omega) zFS (by rw [hfix]; exact fun h => h) ?_
     ·obtain rfl : k' = 0 := Nat.lt_one_iff.1 hk'
      match j', hj' with
      | 0, _ => rfl
      | 1, _ => rfl
      | 2, _ => rfl
     refine rn10 ?_
     refine zB ?_
     refine zCS [some ⟨53, zBH (N ++ [gm])⟩] [some ⟨53, .box (mvC gm)⟩] [(2, .rp (.box (ruC r)) 0 0), (3, .rp (.box (poC p)) 0 0), (5, .sl 0 0 (N ++ [gm]).length), (19, zq p.cells), (20, iN p.cells.length), (21, iN k), (6, iN k), (8, iN K), (44, .ro (zDx ws) 0 ws.length), (45, iN ws.length), (46, iN j), (54, zq T), (55, iN T.length), (56, iN i)] J ⟨J, J, by rw [hnl]; rfl, J, J, J, J, J, J, J, J, J, J, J, trivial⟩ (fun h hh => by rw [hfix] at hh; exact hh.elim) (zCA (zGQ _) zBp) J ?_
     refine rn3 ?_
     exact zT ⟨i + 1, by omega, by omega, by rw [hNs]; exact ⟨J, J, J, J, J, J, J, J, J, J, J, J, J, J, trivial⟩, by rw [hNs]⟩
    ·have hi' : i = T.length := by omega
     subst hi'
     rw [List.take_length, ← hTd] at hN
     rw [← hMs] at hN
     refine rn5 ?_
     exact zT ⟨j + 1, by omega, by omega, by rw [hN]; exact ⟨J, J, J, J, J, J, J, J, J, J, J, trivial⟩, by rw [hN]⟩
   ·have hj' : j = ws.length := by omega
    subst hj'
    rw [List.take_length] at hM
    have e : zBw r p (k + 1) = M := by rw [hsucc, hgo, hM]
    refine rn5 ?_
    exact zT ⟨k + 1, by omega, by omega, by rw [e]; exact ⟨J, J, J, J, J, J, trivial⟩, by rw [e]⟩
  ·have hk' : k = p.cells.length := by omega
   subst hk'
   have hNl := zGU hv S p.cells.length
   have hraw : rawM r p = zBw r p p.cells.length := rfl
   have hlist : zBB r p = zm ((zBw r p p.cells.length).mergeSort leM) := rfl
   generalize zBw r p p.cells.length = R at hNl hlist
   have hsl : (R.mergeSort leM).length = R.length := List.length_mergeSort ..
   have csort := zMD (H := [some ⟨53, zBH R⟩]) (h := 0) (l := R) (by omega) rfl
   have ccomp := zKQ (R.mergeSort leM) (by omega)
   rw [hsl, ← hlist] at ccomp
   refine rn5 ?_
   refine zCq J J J csort (fun _ h => h) (fun _ h => h) ?_
   rintro r' H' ⟨rfl, rfl⟩
   refine rn0 ?_
   refine zCq J J J ccomp (fun _ h => h) (fun _ h => h) ?_
   rintro r' H' ⟨rfl, rfl⟩
   refine rn7 ?_
   refine ax_trunc 0 (zBH (zBB r p)) J ⟨?_, J, fun i j hi hj => ?_⟩ ?_
   ·show (zBB r p).length ≤ (zBB r p ++ List.replicate (R.length - (zBB r p).length) mv0).length
    rw [List.length_append]; omega
   ·show (mvC ((zBB r p).getD i mv0)).getD j .any = (mvC ((zBB r p ++ List.replicate (R.length - (zBB r p).length) mv0).getD i mv0)).getD j .any
    have hi : i < (zBB r p).length := hi
    rw [zBs, if_pos hi]
   repeat (refine zu ?_)
   exact zO hR J ⟨J, J⟩
 ·rintro v H ⟨rfl, rfl⟩
  refine ⟨J, ?_, fun h o ho => zFJ (zA9 zGP) h o ho⟩
  intro o ho; simp at ho; subst ho; show 0 + (zBB r p).length ≤ (zBB r p).length; omega
/-- ends.line$1 -/
theorem own_ok (r : Go.Ax.Gm.Rules) (hv : ValidR r) (p : Pos) (S : Sound r p) (player x y : Int) : zn Tryd.prog 74 [.int .i64 x, .int .i64 y, .rp (.box (ruC r)) 0 0, .rp (.box (poC p)) 0 0, .rp (.box [.int .i64 player]) 0 0] (.bool (zF0 r p player x y)) := by
 refine ze.value0 (zP (P := Tryd.prog) (fn := Tryd.f74) J J (by kernel_rfl) J (fun c hR hfix => ?_)) (fix := fun _ => False) (fun _ h => h) J J
 have hc := (zBD hv S).c
 have hcl := S.cl
 have hw : 1 ≤ r.w ∧ r.w ≤ 8 := ⟨hv.w1, hv.w8⟩
 have hh : 1 ≤ r.h ∧ r.h ≤ 8 := ⟨hv.h1, hv.h8⟩
 refine rn4 ?_
 apply zAD (H := []) [(0, .int .i64 x), (1, .int .i64 y), (2, .rp (.box (ruC r)) 0 0), (3, .rp (.box (poC p)) 0 0), (4, .rp (.box [.int .i64 player]) 0 0), (26, .bool (zEj r x y))]
 ·intro fin
  refine zh J J (fun f1 => ?_) (fun f1 => ?_)
  ·refine zAz ?_
   exact fin _ ⟨J, J, J, J, J, by unfold zEj; rw [decide_eq_true (show x < 0 from f1)]; rfl, trivial⟩
  repeat (first | refine zA (zG rfl) ?_ | refine zl rfl rfl ?_ | refine zA (zDa rfl rfl) ?_ | refine zA (zd rfl rfl) ?_ | refine zA (zD rfl rfl rfl rfl) ?_ | refine zA (zH rfl rfl rfl rfl rfl rfl) ?_)
  refine zh J J (fun f2 => ?_) (fun f2 => ?_)
  ·refine zAz ?_
   exact fin _ ⟨J, J, J, J, J, by unfold zEj; rw [decide_eq_false (show ¬ x < 0 from f1), decide_eq_true (show r.w ≤ x from f2)]; rfl, trivial⟩
  repeat (first | refine zA (zG rfl) ?_ | refine zl rfl rfl ?_ | refine zA (zBv rfl rfl) ?_ | refine zA (zd rfl rfl) ?_)
  refine zh J J (fun f3 => ?_) (fun f3 => ?_)
  ·refine zAz ?_
   exact fin _ ⟨J, J, J, J, J, by unfold zEj; rw [decide_eq_false (show ¬ x < 0 from f1), decide_eq_false (show ¬ r.w ≤ x from f2), decide_eq_true (show y < 0 from f3)]; rfl, trivial⟩
  repeat (first | refine zA (zG rfl) ?_ | refine zC ?_ | refine zB ?_ | refine zl rfl rfl ?_ | refine zA (zDa rfl rfl) ?_ | refine zA (zd rfl rfl) ?_ | refine zA (zD rfl rfl rfl rfl) ?_ | refine zA (zH rfl rfl rfl rfl rfl rfl) ?_)
  exact fin _ ⟨J, J, J, J, J, by unfold zEj; rw [decide_eq_false (show ¬ x < 0 from f1), decide_eq_false (show ¬ r.w ≤ x from f2), decide_eq_false (show ¬ y < 0 from f3)]; rfl, trivial⟩
 refine zAK J (fun g => ?_) (fun g => ?_)
 ·refine rn2 ?_
  refine zO hR J ?_
  unfold zF0; rw [g]; rfl
 have hsq := sq_lt g
 have hoff : 0 ≤ x ∧ x < r.w ∧ 0 ≤ y ∧ y < r.h := by
  unfold zEj at g
  simp only [Bool.or_eq_false_iff, decide_eq_false_iff_not] at g
  omega
 have hYw : 0 ≤ y * r.w ∧ y * r.w ≤ 64 := ⟨Int.mul_nonneg (by omega) (by omega), by
  have a := Int.mul_le_mul (show y ≤ 8 by omega) hw.2 (by omega) (by decide)
  exact Int.le_trans a (by decide)⟩
 have hC12 := zHE hv S (y * r.w + x).toNat
 refine zBW ?_
 refine zA (zCY J J (by omega)) ?_
 repeat (first | refine zA (zG rfl) ?_ | refine zA (zN rfl) ?_ | refine zA (zBQ rfl rfl rfl) ?_ | refine zC ?_ | refine zB ?_ | refine zA (zAy rfl rfl (by omega)) ?_ | refine zA (zf rfl rfl rfl rfl (by first | (simp only [Nat.zero_add, Int.toNat_natCast, Int.toNat_zero]; exact rfl) | exact rfl) (by omega)) ?_)
 obtain ⟨C, hC⟩ : ∃ C, zAB p (y * r.w + x).toNat = C := ⟨_, rfl⟩
 rw [hC] at hC12
 refine zBl 8 (.int .i64 C) J (AEq.of_eq (by rw [← hC]; rfl)) ?_
 refine rn6 ?_
 refine zh J J (fun e1 => ?_) (fun e1 => ?_)
 ·repeat (first | refine zA (zG rfl) ?_ | refine zA (zN rfl) ?_ | refine zC ?_ | refine zB ?_ | refine zl rfl rfl ?_ | refine zu ?_ | refine zA (zBh rfl rfl) ?_ | refine zA (zd rfl rfl) ?_ | refine zA (zA8 rfl rfl (by omega)) ?_ | refine zA (zJ6 rfl rfl (by omega)) ?_ | refine zA (zD rfl rfl rfl rfl) ?_)
  refine zO hR J ?_
  have e1 : 0 < C := e1
  unfold zF0; rw [g, hC, decide_eq_true e1, Int.tmod_eq_emod_of_nonneg (by omega)]; rfl
 ·refine rn6 ?_
  refine zO hR J ?_
  have e1 : ¬ 0 < C := e1
  unfold zF0; rw [g, hC, decide_eq_false e1]; rfl
/-- ends.wins -/
theorem zG3 (n : Int) (h : 0 ≤ n ∧ n ≤ 1) : zn Tryd.prog 53 [.int .i64 n] (.int .i64 (1 + n)) := by
 refine ze.value0 (zP (P := Tryd.prog) (fn := Tryd.f53) J J (by kernel_rfl) J (fun c hR hfix => ?_)) (fix := fun _ => False) (fun _ h => h) J J
 refine rn3 ?_
 exact zO hR J J
def dirA : List AV := [.int .i64 1, .int .i64 0, .int .i64 0, .int .i64 1, .int .i64 1, .int .i64 1, .int .i64 1, .int .i64 (-1)]
def zDo (i : Nat) : Int × Int := dirs.getD i (0, 0)
theorem dirA_at {i : Nat} (hi : i < 4) : (dirA.drop (i * 2)).take 2 = [.int .i64 (zDo i).1, .int .i64 (zDo i).2] := by
 match i, hi with
 | 0, _ => rfl
 | 1, _ => rfl
 | 2, _ => rfl
 | 3, _ => rfl
theorem zLb {i : Nat} (hi : i < 4) : -1 ≤ (zDo i).1 ∧ (zDo i).1 ≤ 1 ∧ -1 ≤ (zDo i).2 ∧ (zDo i).2 ≤ 1 := by
 match i, hi with
 | 0, _ => decide
 | 1, _ => decide
 | 2, _ => decide
 | 3, _ => decide
theorem zLc {i : Nat} (hi : i < 4) (f : Int × Int → Bool) : (dirs.take (i + 1)).any f = ((dirs.take i).any f || f (zDo i)) := zB9 f dirs (0, 0) i hi
theorem row_succ (r : Go.Ax.Gm.Rules) (p : Pos) (player : Int) (n : Nat) (x y dx dy : Int) : zBo r p player (n + 1) x y dx dy = (zBo r p player n x y dx dy && zF0 r p player (x + n * dx) (y + n * dy)) := by
 unfold zBo
 rw [List.range_succ, List.all_append]; simp
theorem row_no {r : Go.Ax.Gm.Rules} {p : Pos} {player : Int} {n N : Nat} {x y dx dy : Int} (h : n < N) (ho : zF0 r p player (x + n * dx) (y + n * dy) = false) : zBo r p player N x y dx dy = false := by
 refine Bool.eq_false_iff.2 (fun q => ?_)
 unfold zBo at q
 have := List.all_eq_true.1 q n (List.mem_range.2 h)
 rw [ho] at this; cases this
theorem own_in {r : Go.Ax.Gm.Rules} {p : Pos} {player x y : Int} (h : zF0 r p player x y = true) : 0 ≤ x ∧ x < r.w ∧ 0 ≤ y ∧ y < r.h := by
 unfold zF0 at h
 rw [Bool.and_eq_true, Bool.not_eq_true'] at h
 have g := h.1
 unfold zEj at g
 simp only [Bool.or_eq_false_iff, decide_eq_false_iff_not] at g
 omega
/-- ends.line -/
theorem line_ok (r : Go.Ax.Gm.Rules) (hv : ValidR r) (p : Pos) (S : Sound r p) (player : Int) (N : Nat) (hN : N ≤ 64) : zn Tryd.prog 66 [ruA r, poA p, .int .i64 player, iN N] (.bool (zIg r p player N)) := by
 refine ze.value0 (zP (P := Tryd.prog) (fn := Tryd.f66) J J (by kernel_rfl) J (fun c hR hfix => ?_)) (fix := fun _ => False) (fun _ h => h) J J
 have hc := (zBD hv S).c
 have hcl := S.cl
 have hw : 1 ≤ r.w ∧ r.w ≤ 8 := ⟨hv.w1, hv.w8⟩
 have hh : 1 ≤ r.h ∧ r.h ≤ 8 := ⟨hv.h1, hv.h8⟩
 refine zX ?_
 repeat (first | refine zA (zN rfl) ?_ | refine zC ?_ | refine zB ?_ | refine zK rfl ?_ | refine zAp rfl rfl ?_)
 refine zG6 [(3, iN N), (4, .rp (.box (ruC r)) 0 0), (5, .rp (.box (poC p)) 0 0), (6, .rp (.box [.int .i64 player]) 0 0), (8, .bool false)] (zB6 (zt rfl) (zB6 (zt rfl) (zB6 (zt rfl) zCZ))) ⟨⟨_, rfl, .inl rfl⟩, ⟨.ptr 0 0 0, rfl, .inr (.inr ⟨rfl, fun o ho => by cases ho; exact Nat.zero_lt_one⟩)⟩, ⟨.ptr 1 0 0, rfl, .inr (.inr ⟨rfl, fun o ho => by cases ho; exact Nat.zero_lt_one⟩)⟩, ⟨.ptr 2 0 0, rfl, .inr (.inr ⟨rfl, fun o ho => by cases ho; exact Nat.zero_lt_one⟩)⟩, ⟨_, rfl, .inl rfl⟩, trivial⟩ ⟨rfl, rfl, rfl, rfl, rfl, trivial⟩ rfl hfix ?_
 refine zBW ?_
 refine zx (ι := Nat) (fun k => [(3, iN N), (4, .rp (.box (ruC r)) 0 0), (5, .rp (.box (poC p)) 0 0), (6, .rp (.box [.int .i64 player]) 0 0), (9, .fn 74 [.rp (.box (ruC r)) 0 0, .rp (.box (poC p)) 0 0, .rp (.box [.int .i64 player]) 0 0]), (18, zq p.cells), (19, iN p.cells.length), (20, iN k)]) (fun _ => [])
  (fun k => k ≤ p.cells.length ∧ (List.range k).any (fun s => dirs.any (fun d => zBo r p player N ((s : Int).tmod r.w) ((s : Int).tdiv r.w) d.1 d.2)) = false) (fun k => p.cells.length - k) 0 ⟨⟨rfl, rfl, rfl, rfl, rfl, rfl, rfl, rfl, trivial⟩, rfl, Nat.zero_le _, rfl⟩ ?_
 intro k ⟨hk, hno⟩
 refine rn4 ?_
 refine zI J (fun q => ?_) (fun q => ?_)
 ·have hk' : k < p.cells.length := by omega
  have hsx : 0 ≤ (k : Int) / r.w ∧ (k : Int) / r.w < r.h ∧ 0 ≤ (k : Int) % r.w ∧ (k : Int) % r.w < r.w := by
   refine ⟨Int.ediv_nonneg (by omega) (by omega), Int.ediv_lt_of_lt_mul (by omega) ?_, Int.emod_nonneg _ (by omega), Int.emod_lt_of_pos _ (by omega)⟩
   rw [Int.mul_comm, ← hcl]; omega
  have hstep : (List.range (k + 1)).any (fun s => dirs.any (fun d => zBo r p player N ((s : Int).tmod r.w) ((s : Int).tdiv r.w) d.1 d.2)) = dirs.any (fun d => zBo r p player N ((k : Int) % r.w) ((k : Int) / r.w) d.1 d.2) := by
   rw [List.range_succ, List.any_append, hno, Bool.false_or, ← Int.tdiv_eq_ediv_of_nonneg (show 0 ≤ (k : Int) by omega), ← Int.tmod_eq_emod_of_nonneg (show 0 ≤ (k : Int) by omega)]; simp
  have win : dirs.any (fun d => zBo r p player N ((k : Int) % r.w) ((k : Int) / r.w) d.1 d.2) = true → zIg r p player N = true := fun h => by
   unfold zIg
   rw [List.any_eq_true]
   refine ⟨k, List.mem_range.2 hk', ?_⟩
   rw [Int.tdiv_eq_ediv_of_nonneg (show 0 ≤ (k : Int) by omega), Int.tmod_eq_emod_of_nonneg (show 0 ≤ (k : Int) by omega)]; exact h
  generalize hX : (k : Int) % r.w = X at hsx hstep win
  generalize hY : (k : Int) / r.w = Y at hsx hstep win
  refine rn9 ?_
  refine zBl 27 (.agg dirA) J (AEq.of_eq J) ?_
  refine zx (ι := Nat) (fun i => [(3, iN N), (4, .rp (.box (ruC r)) 0 0), (5, .rp (.box (poC p)) 0 0), (6, .rp (.box [.int .i64 player]) 0 0), (9, .fn 74 [.rp (.box (ruC r)) 0 0, .rp (.box (poC p)) 0 0, .rp (.box [.int .i64 player]) 0 0]), (18, zq p.cells), (19, iN p.cells.length), (20, iN k), (10, iN k), (27, .agg dirA), (28, iN i)]) (fun _ => [])
   (fun i => i ≤ 4 ∧ (dirs.take i).any (fun d => zBo r p player N X Y d.1 d.2) = false) (fun i => 4 - i) 0 ⟨⟨rfl, rfl, rfl, rfl, rfl, rfl, rfl, rfl, rfl, rfl, rfl, trivial⟩, rfl, Nat.zero_le _, rfl⟩ ?_
  intro i ⟨hi, hno2⟩
  refine rn4 ?_
  refine zI J (fun q2 => ?_) (fun q2 => ?_)
  ·have hi' : i < 4 := by omega
   have hdt := zLc hi' (fun d => zBo r p player N X Y d.1 d.2)
   rw [hno2, Bool.false_or] at hdt
   have hda := dirA_at hi'
   have hds := zLb hi'
   have hwin2 : zBo r p player N X Y (zDo i).1 (zDo i).2 = true → zIg r p player N = true := fun h => win (List.any_eq_true.2 ⟨zDo i, by unfold zDo; exact zAi (0, 0) hi', h⟩)
   generalize (zDo i).1 = dx at hdt hda hds hwin2
   generalize (zDo i).2 = dy at hdt hda hds hwin2
   refine rn1 ?_
   refine zA (zL3 J J J J J J hda ⟨(by omega), (by show (i : Int) < ((4 : Nat) : Int); omega), (by show i * 2 + 2 ≤ 8; omega)⟩) ?_
   repeat (refine zAJ rfl rfl rfl ?_)
   refine zW [.int .i64 dx, .int .i64 dy] J J J J J J J ?_
   refine zAz ?_
   refine zCG 12 [(3, iN N), (4, .rp (.box (ruC r)) 0 0), (5, .rp (.box (poC p)) 0 0), (6, .rp (.box [.int .i64 player]) 0 0), (9, .fn 74 [.rp (.box (ruC r)) 0 0, .rp (.box (poC p)) 0 0, .rp (.box [.int .i64 player]) 0 0]), (18, zq p.cells), (19, iN p.cells.length), (20, iN k), (10, iN k), (27, .agg dirA), (28, iN i)] J ⟨J, J, J, J, J, J, J, J, J, J, J, J, trivial⟩ ⟨J, J, J, J, J, J, J, J, J, J, J, trivial⟩ J hfix ?_
   refine zb (by kernel_rfl) ?_
   refine zi (fuel := 0) [0, 1, 2, 3, 4, 5, 6, 7, 8, 9, 10] [(3, iN N), (4, .rp (.box (ruC r)) 0 0), (5, .rp (.box (poC p)) 0 0), (6, .rp (.box [.int .i64 player]) 0 0), (9, .fn 74 [.rp (.box (ruC r)) 0 0, .rp (.box (poC p)) 0 0, .rp (.box [.int .i64 player]) 0 0]), (18, zq p.cells), (19, iN p.cells.length), (20, iN k), (10, iN k), (27, .agg dirA), (28, iN i), (12, .rp (.box [.int .i64 dx, .int .i64 dy]) 0 0)] ⟨J, J, J, J, J, J, J, J, J, J, J, J, trivial⟩ (by kernel_rfl) (by decide) J J ?_
   refine zJ J J (zG J) ?_
   refine zJ J J (zH J J J J J J) ?_
   refine zJ J J (zD J J J J) ?_
   refine zJ J J (zJ6 J J (by omega)) ?_
   refine zJ J J (zG J) ?_
   refine zJ J J (zH J J J J J J) ?_
   refine zJ J J (zD J J J J) ?_
   refine zJ J J (zGm J J (by omega)) ?_
   refine zJ J J (zN J) ?_
   refine zJ J J (zN J) ?_
   refine zJ J J (zN J) ?_
   refine z6 ?_
   refine zZ (by kernel_rfl) ?_
   refine rn1 ?_
   refine zx (ι := Nat) (fun n => [(3, iN N), (4, .rp (.box (ruC r)) 0 0), (5, .rp (.box (poC p)) 0 0), (6, .rp (.box [.int .i64 player]) 0 0), (9, .fn 74 [.rp (.box (ruC r)) 0 0, .rp (.box (poC p)) 0 0, .rp (.box [.int .i64 player]) 0 0]), (18, zq p.cells), (19, iN p.cells.length), (20, iN k), (10, iN k), (27, .agg dirA), (28, iN i), (12, .rp (.box [.int .i64 dx, .int .i64 dy]) 0 0), (13, .int .i64 (X + (n : Int) * dx)), (14, .int .i64 (Y + (n : Int) * dy)), (15, iN n)]) (fun _ => [])
    (fun n => n ≤ N ∧ zBo r p player n X Y dx dy = true) (fun n => N - n) 0 ⟨⟨rfl, rfl, rfl, rfl, rfl, rfl, rfl, rfl, rfl, rfl, rfl, rfl, ?_, ?_, rfl, trivial⟩, rfl, Nat.zero_le _, rfl⟩ ?_
   ·rw [show X + ((0 : Nat) : Int) * dx = X by rw [Int.natCast_zero, Int.zero_mul, Int.add_zero], ← hX]; rfl
   ·rw [show Y + ((0 : Nat) : Int) * dy = Y by rw [Int.natCast_zero, Int.zero_mul, Int.add_zero], ← hY]; rfl
   intro n ⟨hn, hrow⟩
   have hrs := row_succ r p player n X Y dx dy
   rw [hrow, Bool.true_and] at hrs
   have hrn := fun (h : n < N) => row_no (r := r) (p := p) (player := player) (x := X) (y := Y) (dx := dx) (dy := dy) h
   have e1 : X + ((n + 1 : Nat) : Int) * dx = X + (n : Int) * dx + dx := by rw [Int.natCast_add, Int.add_mul, Int.natCast_one, Int.one_mul, Int.add_assoc]
   have e2 : Y + ((n + 1 : Nat) : Int) * dy = Y + (n : Int) * dy + dy := by rw [Int.natCast_add, Int.add_mul, Int.natCast_one, Int.one_mul, Int.add_assoc]
   generalize X + (n : Int) * dx = x at hrs hrn e1 ⊢
   generalize Y + (n : Int) * dy = y at hrs hrn e2 ⊢
   refine rn4 ?_
   refine zh J J (fun a1 => ?_) (fun a1 => ?_)
   ·have a1 : n < N := by
     have a1 : (n : Int) < (N : Int) := a1
     omega
    refine rn2 ?_
    refine zU J J J (own_ok r hv p S player x y) ?_
    refine rn2 ?_
    refine zAK J (fun a2 => ?_) (fun a2 => ?_)
    ·have hin := own_in a2
     rw [a2] at hrs
     refine rn1 ?_
     refine zb (by kernel_rfl) ?_
     refine zV 0 J (by kernel_rfl) (by kernel_rfl) (by kernel_rfl) J (zG J) J ?_
     refine zV 1 J (by kernel_rfl) (by kernel_rfl) (by kernel_rfl) J (zBX J J J J (by first | (simp only [Nat.zero_add, Int.toNat_natCast]; exact J) | exact J) (by omega)) J ?_
     refine zV 4 J (by kernel_rfl) (by kernel_rfl) (by kernel_rfl) J (zG J) J ?_
     refine zV 5 J (by kernel_rfl) (by kernel_rfl) (by kernel_rfl) J (zBX J J J J (by first | (simp only [Nat.zero_add, Int.toNat_natCast]; exact J) | exact J) (by omega)) J ?_
     refine zV 8 J (by kernel_rfl) (by kernel_rfl) (by kernel_rfl) J (zG J) J ?_
     refine zV 9 J (by kernel_rfl) (by kernel_rfl) (by kernel_rfl) J (zAy J J (by omega)) J ?_
     apply zQ (H := []) [(3, iN N), (4, .rp (.box (ruC r)) 0 0), (5, .rp (.box (poC p)) 0 0), (6, .rp (.box [.int .i64 player]) 0 0), (9, .fn 74 [.rp (.box (ruC r)) 0 0, .rp (.box (poC p)) 0 0, .rp (.box [.int .i64 player]) 0 0]), (18, zq p.cells), (19, iN p.cells.length), (20, iN k), (10, iN k), (27, .agg dirA), (28, iN i), (12, .rp (.box [.int .i64 dx, .int .i64 dy]) 0 0), (13, .int .i64 (x + dx)), (14, .int .i64 (y + dy)), (15, .int .i64 ((n : Int) + 1))]
     ·intro fin
      refine zF (is := [2, 6]) (by kernel_rfl) (by simp) J ⟨fun o ho => ?_, fun o ho => ?_, trivial⟩
      all_goals (cases ho)
      ·repeat (first | refine zC ?_ | refine zS ?_ | refine zA (zD rfl rfl rfl rfl) ?_)
       refine zV 3 J (by kernel_rfl) (by kernel_rfl) (by kernel_rfl) J (zAy J J (by omega)) J ?_
       refine zV 10 J (by kernel_rfl) (by kernel_rfl) (by kernel_rfl) J (zN J) J ?_
       refine zF (is := [6]) (by kernel_rfl) (by simp) J ⟨fun o ho => ?_, trivial⟩
       all_goals (cases ho)
       repeat (first | refine zC ?_ | refine zS ?_ | refine zA (zD rfl rfl rfl rfl) ?_)
       refine zV 7 J (by kernel_rfl) (by kernel_rfl) (by kernel_rfl) J (zAy J J (by omega)) J ?_
       refine zV 11 J (by kernel_rfl) (by kernel_rfl) (by kernel_rfl) J (zN J) J ?_
       refine zV 12 J (by kernel_rfl) (by kernel_rfl) (by kernel_rfl) J (zN J) J ?_
       exact fin _ ⟨J, J, J, J, J, J, J, J, J, J, J, J, J, J, J, trivial⟩
      ·repeat (first | refine zC ?_ | refine zS ?_ | refine zA (zD rfl rfl rfl rfl) ?_)
       refine zV 7 J (by kernel_rfl) (by kernel_rfl) (by kernel_rfl) J (zAy J J (by omega)) J ?_
       refine zF (is := [2]) (by kernel_rfl) (by simp) J ⟨fun o ho => ?_, trivial⟩
       all_goals (cases ho)
       repeat (first | refine zC ?_ | refine zS ?_ | refine zA (zD rfl rfl rfl rfl) ?_)
       refine zV 3 J (by kernel_rfl) (by kernel_rfl) (by kernel_rfl) J (zAy J J (by omega)) J ?_
       refine zV 10 J (by kernel_rfl) (by kernel_rfl) (by kernel_rfl) J (zN J) J ?_
       refine zV 11 J (by kernel_rfl) (by kernel_rfl) (by kernel_rfl) J (zN J) J ?_
       refine zV 12 J (by kernel_rfl) (by kernel_rfl) (by kernel_rfl) J (zN J) J ?_
       exact fin _ ⟨J, J, J, J, J, J, J, J, J, J, J, J, J, J, J, trivial⟩
     refine zZ (by kernel_rfl) ?_
     repeat (refine zAH ?_)
     refine zT ⟨n + 1, ⟨by omega, hrs⟩, by omega, ⟨J, J, J, J, J, J, J, J, J, J, J, J, ?_, ?_, J, trivial⟩, J⟩
     ·rw [e1]; rfl
     ·rw [e2]; rfl
    ·have hno3 := hrn a1 a2
     refine rn5 ?_
     refine zI J (fun a3 => ?_) (fun a3 => ?_)
     ·exact absurd (show (n : Int) = (N : Int) from a3) (by omega)
     refine rn5 ?_
     exact zT ⟨i + 1, ⟨by omega, by rw [hdt]; exact hno3⟩, by omega, ⟨J, J, J, J, J, J, J, J, J, J, J, trivial⟩, J⟩
   ·have a1 : n = N := by
     have a1 : ¬ (n : Int) < (N : Int) := a1
     omega
    refine rn6 ?_
    refine zI J (fun a3 => ?_) (fun a3 => absurd (show (n : Int) = (N : Int) by omega) a3)
    refine rn6 ?_
    refine zO hR J ?_
    rw [hwin2 (by rw [← a1]; exact hrow)]; rfl
  ·have hi' : i = 4 := by omega
   subst hi'
   refine rn5 ?_
   exact zT ⟨k + 1, ⟨by omega, by rw [hstep]; exact hno2⟩, by omega, ⟨J, J, J, J, J, J, J, J, trivial⟩, J⟩
 ·have hk' : k = p.cells.length := by omega
  subst hk'
  refine rn5 ?_
  refine zO hR J ?_
  unfold zIg; rw [hno]; rfl
/-- ends.holds -/
theorem holds_ok (r : Go.Ax.Gm.Rules) (hv : ValidR r) (p : Pos) (S : Sound r p) (x : En) (hx : zDG r.pcs.length x = 0) (mover : Int) (hm : 0 ≤ mover ∧ mover ≤ 1) : zn Tryd.prog 52 [ruA r, poA p, .agg (enC x), .int .i64 mover] (.bool (zCj r p mover x)) := by
 refine ze.value0 (zP (P := Tryd.prog) (fn := Tryd.f52) J J (by kernel_rfl) J (fun c hR hfix => ?_)) (fix := fun _ => False) (fun _ h => h) J J
 have hc := (zBD hv S).c
 have hw : 1 ≤ r.w ∧ r.w ≤ 8 := ⟨hv.w1, hv.w8⟩
 have hh : 1 ≤ r.h ∧ r.h ≤ 8 := ⟨hv.h1, hv.h8⟩
 have hn6 := hv.n6
 have hxk : (x.kind = 0 → 1 ≤ x.count ∧ x.count ≤ 64) ∧ (x.kind ≠ 0 → 0 ≤ x.piece ∧ x.piece ≤ 5) ∧ -1 ≤ x.count ∧ x.count ≤ 64 := by
  unfold zDG at hx
  split at hx
  ·rename_i k0
   split at hx
   ·rename_i h; have := Go.Ax.Gm.within_iff.1 h.1; exact ⟨fun _ => by omega, fun q => absurd k0 q, by omega, by omega⟩
   ·cases hx
  ·rename_i k0
   split at hx
   ·split at hx
    ·rename_i h; have := Go.Ax.Gm.within_iff.1 h.2; exact ⟨fun q => absurd q k0, fun _ => by omega, by omega, by omega⟩
    ·cases hx
   ·split at hx
    ·split at hx
     ·rename_i h; have := Go.Ax.Gm.within_iff.1 h.1; have := Go.Ax.Gm.within_iff.1 h.2; exact ⟨fun q => absurd q k0, fun _ => by omega, by omega, by omega⟩
     ·cases hx
    ·cases hx
 obtain ⟨hx0, hx1, hx2⟩ := hxk
 refine zX ?_
 repeat (first | refine zA (zN rfl) ?_ | refine zC ?_ | refine zB ?_ | refine zK rfl ?_ | refine zAp rfl rfl ?_)
 refine zG6 [(3, .int .i64 mover), (4, .rp (.box (ruC r)) 0 0), (5, .rp (.box (poC p)) 0 0), (6, .rp (.box (enC x)) 0 0)] (zB6 (zt rfl) (zB6 (zt rfl) (zB6 (zt rfl) zCZ))) ⟨⟨_, rfl, .inl rfl⟩, ⟨.ptr 0 0 0, rfl, .inr (.inr ⟨rfl, fun o ho => by cases ho; exact Nat.zero_lt_one⟩)⟩, ⟨.ptr 1 0 0, rfl, .inr (.inr ⟨rfl, fun o ho => by cases ho; exact Nat.zero_lt_one⟩)⟩, ⟨.ptr 2 0 0, rfl, .inr (.inr ⟨rfl, fun o ho => by cases ho; exact Nat.zero_lt_one⟩)⟩, trivial⟩ ⟨rfl, rfl, rfl, rfl, trivial⟩ rfl hfix ?_
 refine zBW ?_
 refine zI J (fun k0 => ?_) (fun k0 => ?_)
 ·have k0 : x.kind = 0 := k0
  have hN := hx0 k0
  obtain ⟨N, hNc⟩ : ∃ N : Nat, x.count = (N : Int) := ⟨x.count.toNat, by omega⟩
  repeat (first | refine zA (zG rfl) ?_ | refine zX ?_ | refine zK rfl ?_ | refine zA (zD rfl rfl rfl rfl) ?_ | refine zA (zH rfl rfl rfl rfl rfl rfl) ?_ | refine zA (zAF rfl rfl rfl rfl rfl rfl) ?_)
  rw [hNc]
  refine zU J J J (line_ok r hv p S mover N (by omega)) ?_
  refine rn6 ?_
  refine zO hR J ?_
  unfold zCj; rw [if_pos k0, hNc]; rfl
 have k0 : x.kind ≠ 0 := k0
 have hp := hx1 k0
 refine rn4 ?_
 refine zI J (fun k1 => ?_) (fun k1 => ?_)
 ·have k1 : x.kind = 1 := k1
  have hval : zCj r p mover x = zJG r p mover (2 * x.piece + mover + 1) := by unfold zCj; rw [if_neg k0, if_pos k1]
  refine zBW ?_
  refine zx (ι := Nat) (fun k => [(3, .int .i64 mover), (4, .rp (.box (ruC r)) 0 0), (5, .rp (.box (poC p)) 0 0), (6, .rp (.box (enC x)) 0 0), (27, zq p.cells), (28, iN p.cells.length), (29, iN k)]) (fun _ => [])
   (fun k => k ≤ p.cells.length ∧ (List.range k).any (fun s => decide (zAB p s = 2 * x.piece + mover + 1) && zEf r mover s) = false) (fun k => p.cells.length - k) 0 ⟨⟨rfl, rfl, rfl, rfl, rfl, rfl, rfl, trivial⟩, rfl, Nat.zero_le _, rfl⟩ ?_
  intro k ⟨hk, hno⟩
  refine rn4 ?_
  refine zI J (fun q => ?_) (fun q => ?_)
  ·have hk' : k < p.cells.length := by omega
   have hst : (List.range (k + 1)).any (fun s => decide (zAB p s = 2 * x.piece + mover + 1) && zEf r mover s) = (decide (zAB p k = 2 * x.piece + mover + 1) && zEf r mover k) := by rw [List.range_succ, List.any_append, hno]; simp
   repeat (first | refine zA (zG rfl) ?_ | refine zA (zN rfl) ?_ | refine zA (zBQ rfl rfl rfl) ?_ | refine zC ?_ | refine zB ?_ | refine zX ?_ | refine zK rfl ?_ | refine zAL ?_ | refine zAG ?_ | refine zA (zf rfl rfl rfl rfl (by first | (simp only [Nat.zero_add, Int.toNat_natCast, Int.toNat_zero]; exact rfl) | exact rfl) (by omega)) ?_ | refine zA (zD rfl rfl rfl rfl) ?_ | refine zA (zH rfl rfl rfl rfl rfl rfl) ?_)
   refine zA (zCY J J (by omega)) ?_
   refine rn4 ?_
   refine zh J J (fun a1 => ?_) (fun a1 => ?_)
   ·have a1 : zAB p k = 2 * x.piece + mover + 1 := a1
    rw [decide_eq_true a1, Bool.true_and] at hst
    refine rn6 ?_
    refine zU J J J (zId r hw hh mover k (by omega)) ?_
    refine rn2 ?_
    refine zAK J (fun a2 => ?_) (fun a2 => ?_)
    ·refine rn6 ?_
     refine zO hR J ?_
     rw [hval]
     unfold zJG
     rw [show (List.range p.cells.length).any (fun s => decide (zAB p s = 2 * x.piece + mover + 1) && zEf r mover s) = true from List.any_eq_true.2 ⟨k, List.mem_range.2 hk', by rw [decide_eq_true a1, a2]; rfl⟩]; rfl
    ·refine rn5 ?_
     exact zT ⟨k + 1, ⟨by omega, by rw [hst]; exact a2⟩, by omega, ⟨J, J, J, J, J, J, J, trivial⟩, J⟩
   ·have a1 : ¬ zAB p k = 2 * x.piece + mover + 1 := a1
    rw [decide_eq_false a1, Bool.false_and] at hst
    refine rn6 ?_
    exact zT ⟨k + 1, ⟨by omega, hst⟩, by omega, ⟨J, J, J, J, J, J, J, trivial⟩, J⟩
  ·have hk' : k = p.cells.length := by omega
   subst hk'
   refine rn6 ?_
   refine zO hR J ?_
   rw [hval]; unfold zJG; rw [hno]; rfl
 ·have k1 : ¬ x.kind = 1 := k1
  have hval : zCj r p mover x = decide (((p.cells.filter (fun c => decide (c = 2 * x.piece + 1 - mover + 1))).length : Int) < x.count) := by unfold zCj; rw [if_neg k0, if_neg k1]
  refine zBW ?_
  refine zx (ι := Nat) (fun k => [(3, .int .i64 mover), (4, .rp (.box (ruC r)) 0 0), (5, .rp (.box (poC p)) 0 0), (6, .rp (.box (enC x)) 0 0), (11, .int .i64 (((p.cells.take k).filter (fun c => decide (c = 2 * x.piece + 1 - mover + 1))).length : Nat)), (50, zq p.cells), (51, iN p.cells.length), (52, iN k)]) (fun _ => [])
   (fun k => k ≤ p.cells.length) (fun k => p.cells.length - k) 0 ⟨⟨rfl, rfl, rfl, rfl, rfl, rfl, rfl, rfl, trivial⟩, rfl, Nat.zero_le _⟩ ?_
  intro k hk
  refine rn4 ?_
  refine zI J (fun q => ?_) (fun q => ?_)
  ·have hk' : k < p.cells.length := by omega
   have hfl : ((p.cells.take k).filter (fun c => decide (c = 2 * x.piece + 1 - mover + 1))).length ≤ k := Nat.le_trans (List.length_filter_le ..) (by rw [List.length_take]; exact Nat.min_le_left _ _)
   have htk := zw p.cells 0 k hk'
   repeat (first | refine zA (zG rfl) ?_ | refine zA (zN rfl) ?_ | refine zA (zBQ rfl rfl rfl) ?_ | refine zC ?_ | refine zB ?_ | refine zX ?_ | refine zK rfl ?_ | refine zAL ?_ | refine zAG ?_ | refine zA (zf rfl rfl rfl rfl (by first | (simp only [Nat.zero_add, Int.toNat_natCast, Int.toNat_zero]; exact rfl) | exact rfl) (by omega)) ?_ | refine zA (zD rfl rfl rfl rfl) ?_ | refine zA (zH rfl rfl rfl rfl rfl rfl) ?_)
   refine zA (zCY J J (by omega)) ?_
   repeat (first | refine zA (zG rfl) ?_ | refine zC ?_ | refine zB ?_ | refine zA (zBh rfl rfl) ?_ | refine zA (zAy rfl rfl (by omega)) ?_ | refine zA (zA8 rfl rfl (by omega)) ?_)
   refine zI J (fun a1 => ?_) (fun a1 => ?_)
   ·have a1 : p.cells.getD k 0 = 2 * x.piece + 1 - mover + 1 := a1
    have e : ((p.cells.take (k + 1)).filter (fun c => decide (c = 2 * x.piece + 1 - mover + 1))).length = ((p.cells.take k).filter (fun c => decide (c = 2 * x.piece + 1 - mover + 1))).length + 1 := by rw [htk, List.filter_append, List.length_append, List.filter_cons_of_pos (by exact decide_eq_true a1)]; rfl
    refine rn5 ?_
    exact zT ⟨k + 1, by omega, by omega, ⟨J, J, J, J, by rw [e]; rfl, J, J, J, trivial⟩, J⟩
   ·have a1 : ¬ p.cells.getD k 0 = 2 * x.piece + 1 - mover + 1 := a1
    have e : ((p.cells.take (k + 1)).filter (fun c => decide (c = 2 * x.piece + 1 - mover + 1))).length = ((p.cells.take k).filter (fun c => decide (c = 2 * x.piece + 1 - mover + 1))).length := by rw [htk, List.filter_append, List.length_append, List.filter_cons_of_neg (by rw [decide_eq_false a1]; exact Bool.false_ne_true)]; rfl
    refine rn5 ?_
    exact zT ⟨k + 1, by omega, by omega, ⟨J, J, J, J, by rw [e]; rfl, J, J, J, trivial⟩, J⟩
  ·have hk' : k = p.cells.length := by omega
   subst hk'
   rw [List.take_length]
   repeat (first | refine zA (zG rfl) ?_ | refine zA (zN rfl) ?_ | refine zC ?_ | refine zB ?_ | refine zX ?_ | refine zK rfl ?_ | refine zCD ?_ | refine zAe ?_ | refine zAd ?_ | refine zAm ?_ | refine zu ?_ | refine zA (zBv rfl rfl) ?_ | refine zA (zD rfl rfl rfl rfl) ?_ | refine zA (zH rfl rfl rfl rfl rfl rfl) ?_)
   refine zO hR J ?_
   rw [hval]; rfl
/-- ends.Result$1 -/
theorem zKr (r : Go.Ax.Gm.Rules) (hv : ValidR r) (p : Pos) (S : Sound r p) (x : En) (hx : zDG r.pcs.length x = 0) (mover : Int) (hm : 0 ≤ mover ∧ mover ≤ 1) : zn Tryd.prog 51 [.agg (enC x), .rp (.box (ruC r)) 0 0, .rp (.box (poC p)) 0 0, .rp (.box [.int .i64 mover]) 0 0] (.bool (zCj r p mover x)) := by
 refine ze.value0 (zP (P := Tryd.prog) (fn := Tryd.f51) J J (by kernel_rfl) J (fun c hR hfix => ?_)) (fix := fun _ => False) (fun _ h => h) J J
 repeat (first | refine zA (zN rfl) ?_ | refine zC ?_ | refine zB ?_ | refine zX ?_ | refine zK rfl ?_ | refine zA (zD rfl rfl rfl rfl) ?_ | refine zA (zAF rfl rfl rfl rfl rfl rfl) ?_ | refine zA (qpp rfl rfl rfl rfl rfl rfl rfl) ?_ | refine zAp rfl rfl ?_)
 refine zU J J J (holds_ok r hv p S x hx mover hm) ?_
 refine rn0 ?_
 exact zO hR J J
theorem zJq {α : Type} (p : α → Bool) : ∀ l : List α, zDH p l = if l.findIdx p < l.length then ((l.findIdx p : Nat) : Int) else -1
 | [] => rfl
 | x :: r => by
  have ih := zJq p r
  rw [zDH, List.findIdx_cons]
  by_cases h : p x = true
  ·rw [if_pos h, h]; simp
  ·rw [if_neg h, Bool.eq_false_iff.2 h, ih, cond_false, List.length_cons]
   have hle := List.findIdx_le_length (p := p) (xs := r)
   by_cases h2 : r.findIdx p < r.length
   ·rw [if_pos h2, if_neg (by omega), if_pos (by omega)]; omega
   ·rw [if_neg h2, if_pos (by omega), if_neg (by omega)]
theorem zJ2 {r : Go.Ax.Gm.Rules} {p : Pos} (h : zEC r p = 0) : zAQ r = 0 ∧ Sound r p := by
 unfold zEC at h
 split at h
 ·rename_i q; exact absurd h q
 ·rename_i q; exact ⟨Classical.not_not.1 q, zKA.1 h⟩
/-- ends.Result -/
theorem zIo (r : Go.Ax.Gm.Rules) (hv : ValidR r) (p : Pos) (S : Sound r p) : zn Tryd.prog 37 [ruA r, poA p] (.int .i64 (zAr r p)) := by
 refine ze.value0 (zP (P := Tryd.prog) (fn := Tryd.f37) J J (by kernel_rfl) J (fun c hR hfix => ?_)) (fix := fun _ => False) (fun _ h => h) J J
 have htn : 0 ≤ p.turn ∧ p.turn ≤ 1 := by have := S.tn; omega
 have hen := hv.e6
 refine zX ?_
 repeat (first | refine zA (zN rfl) ?_ | refine zC ?_ | refine zB ?_ | refine zK rfl ?_ | refine zAp rfl rfl ?_)
 refine zX ?_
 repeat (first | refine zC ?_ | refine zB ?_ | refine zK rfl ?_ | refine zA (zR rfl rfl rfl rfl rfl) ?_ | refine zA (zA8 rfl rfl (by omega)) ?_ | refine zA (zL rfl rfl rfl rfl rfl rfl) ?_ | refine z8 rfl rfl rfl rfl rfl rfl rfl Nat.zero_lt_one ?_ | refine zAJ rfl rfl rfl ?_)
 refine zG6 [(2, .rp (.box (ruC r)) 0 0), (3, .rp (.box (poC p)) 0 0), (5, .rp (.box [.int .i64 (1 - p.turn)]) 0 0)] (zB6 (zt rfl) (zB6 (zt rfl) (zB6 (zt rfl) zCZ))) ⟨⟨.ptr 0 0 0, rfl, .inr (.inr ⟨rfl, fun o ho => by cases ho; exact Nat.zero_lt_one⟩)⟩, ⟨.ptr 1 0 0, rfl, .inr (.inr ⟨rfl, fun o ho => by cases ho; exact Nat.zero_lt_one⟩)⟩, ⟨.ptr 2 0 0, rfl, .inr (.inr ⟨rfl, fun o ho => by cases ho; exact Nat.zero_lt_one⟩)⟩, trivial⟩ ⟨rfl, rfl, rfl, trivial⟩ rfl hfix ?_
 refine zBW ?_
 have cidx := zJr r.ends r.ends.length 51 [.rp (.box (ruC r)) 0 0, .rp (.box (poC p)) 0 0, .rp (.box [.int .i64 (1 - p.turn)]) 0 0] (zCj r p (1 - p.turn)) (Nat.le_refl _) rfl (by omega) (fun x hx => zKr r hv p S x (hv.en x hx) (1 - p.turn) (by omega))
 rw [List.take_length, zJq] at cidx
 obtain ⟨I, hI⟩ : ∃ I, r.ends.findIdx (zCj r p (1 - p.turn)) = I := ⟨_, rfl⟩
 rw [hI] at cidx
 refine zU J J J cidx ?_
 by_cases hlt : I < r.ends.length
 ·rw [if_pos hlt]
  have hval : zAr r p = if (r.ends.getD I en0).loses = true then 1 + p.turn else 1 + (1 - p.turn) := by unfold zAr; rw [hI, if_pos hlt]
  refine zBW ?_
  refine zBl 21 (.bool (r.ends.getD I en0).loses) J (AEq.of_eq J) ?_
  refine zAK J (fun b => ?_) (fun b => ?_)
  ·have b : (r.ends.getD I en0).loses = true := b
   refine zBW ?_
   refine zU J J J (zG3 p.turn htn) ?_
   refine rn2 ?_
   refine zO hR J ?_
   rw [hval, if_pos b]; rfl
  ·have b : (r.ends.getD I en0).loses = false := b
   refine rn8 ?_
   refine zU J J J (zG3 (1 - p.turn) (by omega)) ?_
   refine rn2 ?_
   refine zO hR J ?_
   rw [hval, if_neg (by rw [b]; exact Bool.false_ne_true)]; rfl
 rw [if_neg hlt]
 have hval : zAr r p = if r.quiet ≠ 0 ∧ r.quiet ≤ p.quiet then 3 else if 0 < (zBB r p).length then 0 else if r.blocked = 0 then 1 + (1 - p.turn) else if r.blocked = 1 then 1 + p.turn else 3 := by unfold zAr; rw [hI, if_neg hlt]
 refine zBW ?_
 apply zAD (H := []) [(2, .rp (.box (ruC r)) 0 0), (3, .rp (.box (poC p)) 0 0), (5, .rp (.box [.int .i64 (1 - p.turn)]) 0 0), (27, .bool (decide (r.quiet ≠ 0 ∧ r.quiet ≤ p.quiet)))]
 ·intro fin
  refine zh J J (fun b => ?_) (fun b => ?_)
  ·have b : r.quiet ≠ 0 := b
   repeat (first | refine zA (zN rfl) ?_ | refine zC ?_ | refine zB ?_ | refine zl rfl rfl ?_ | refine zA (zDa rfl rfl) ?_ | refine zA (zd rfl rfl) ?_ | refine zA (zD rfl rfl rfl rfl) ?_ | refine zA (zH rfl rfl rfl rfl rfl rfl) ?_)
   exact fin _ ⟨J, J, J, congrArg (fun b => some (AV.bool b)) (decide_eq_decide.2 (show r.quiet ≤ p.quiet ↔ _ from ⟨fun h => ⟨b, h⟩, fun h => h.2⟩)), trivial⟩
  ·have b : ¬ r.quiet ≠ 0 := b
   refine zAz ?_
   exact fin _ ⟨J, J, J, congrArg (fun b => some (AV.bool b)) (show false = decide (r.quiet ≠ 0 ∧ r.quiet ≤ p.quiet) from (decide_eq_false (fun h => b h.1)).symm), trivial⟩
 refine zI J (fun q1 => ?_) (fun q1 => ?_)
 ·refine rn6 ?_
  refine zO hR J ?_
  rw [hval, if_pos q1]; rfl
 rw [if_neg q1] at hval
 refine rn6 ?_
 refine zU J J J (zLF r hv p S) ?_
 refine rn6 ?_
 refine zI J (fun q2 => ?_) (fun q2 => ?_)
 ·refine rn6 ?_
  refine zO hR J ?_
  rw [hval, if_pos (by omega)]; rfl
 rw [if_neg (by omega)] at hval
 refine zBW ?_
 refine zI J (fun q3 => ?_) (fun q3 => ?_)
 ·refine rn8 ?_
  refine zU J J J (zG3 (1 - p.turn) (by omega)) ?_
  refine rn6 ?_
  refine zO hR J ?_
  rw [hval, if_pos q3]; rfl
 rw [if_neg q3] at hval
 refine zBW ?_
 refine zI J (fun q4 => ?_) (fun q4 => ?_)
 ·refine zBW ?_
  refine zU J J J (zG3 p.turn htn) ?_
  refine rn6 ?_
  refine zO hR J ?_
  rw [hval, if_pos q4]; rfl
 refine rn5 ?_
 refine zO hR J ?_
 rw [hval, if_neg q4]; rfl
/-- ends.Moves -/
theorem zGi (r : Go.Ax.Gm.Rules) (hv : ValidR r) (p : Pos) (S : Sound r p) : zn Tryd.prog 21 [ruA r, poA p] (zCz (zA1 r p)) := by
 refine ze.value0 (zP (P := Tryd.prog) (fn := Tryd.f21) J J (by kernel_rfl) J (fun c hR hfix => ?_)) (fix := fun _ => False) (fun _ h => h) J J
 refine rn6 ?_
 refine zU J J J (zIo r hv p S) ?_
 refine rn3 ?_
 refine zI J (fun q => ?_) (fun q => ?_)
 ·refine rn7 ?_
  refine zBl 4 (zCz []) J AEq.nil ?_
  refine rn2 ?_
  refine zO hR J ?_
  unfold zA1; rw [if_pos q]; rfl
 ·refine rn6 ?_
  refine zU J J J (zLF r hv p S) ?_
  refine rn0 ?_
  refine zO hR J ?_
  unfold zA1; rw [if_neg q]; rfl
def poZ : List AV := [.nil, .nil, .nil, .int .i64 0, .int .i64 0]
def poB (s : List Int) (x y : AV) : List AV := [zq s, x, y, .int .i64 0, .int .i64 0]
abbrev hpB (s : List Int) (x y : AV) (l l' : List Int) : zM := [none, some ⟨29, .box poZ⟩, some ⟨29, .box (poB s x y)⟩, some ⟨3, .ints .i64 l⟩, some ⟨3, .ints .i64 l'⟩]
/-- place.Begin, refused -/
theorem zJW (r : Go.Ax.Gm.Rules) (hr : Lens r) (h : zAQ r ≠ 0) : zn Tryd.prog 5 [ruA r] (.tup [poA zz, .int .i64 (zAQ r)]) := by
 refine ze.value0 (zP (P := Tryd.prog) (fn := Tryd.f5) J J (by kernel_rfl) J (fun c hR hfix => ?_)) (fix := fun _ => False) (fun _ h => h) J J
 refine rn6 ?_
 refine zU J J J (zHF r hr) ?_
 refine rn3 ?_
 refine zI J (fun h1 => ?_) (fun h1 => absurd h1 (fun q => q h))
 refine rn8 ?_
 refine zW poZ J J J J J J J ?_
 refine rn7 ?_
 refine zJU [some ⟨26, .box (ruC r)⟩, some ⟨29, .box (poC zz)⟩] J ?_ ?_
 ·intro h o ho
  match h, ho with
  | 0, ho => cases ho; exact ⟨_, rfl, rfl, rfl, rfl, fun _ _ _ _ => AEq.rfl'⟩
  | 1, ho =>
   cases ho
   refine ⟨_, J, J, J, J, fun i j hi hj => ?_⟩
   obtain rfl : i = 0 := Nat.lt_one_iff.1 hi
   have hj : j < 5 := hj
   match j, hj with
   | 0, _ => exact AEq.nil
   | 1, _ => exact AEq.nil
   | 2, _ => exact AEq.nil
   | 3, _ => exact AEq.rfl'
   | 4, _ => exact AEq.rfl'
  | _ + 2, ho => simp at ho
 refine rn2 ?_
 exact zO hR J J
/-- place.Begin -/
theorem zG8 (r : Go.Ax.Gm.Rules) (hr : Lens r) (h : zAQ r = 0) : zn Tryd.prog 5 [ruA r] (.tup [poA (zA5 r), .int .i64 0]) := by
 refine ze.value0 (zP (P := Tryd.prog) (fn := Tryd.f5) J J (by kernel_rfl) J (fun c hR hfix => ?_)) (fix := fun _ => False) (fun _ h => h) J J
 have hs := zJ9 (zCM h)
 have hpl := hs.pcs
 have hsl := hs.start
 refine rn6 ?_
 refine zU J J J (zHF r hr) ?_
 refine rn3 ?_
 refine zI J (fun h1 => absurd h h1) (fun _ => ?_)
 refine rn5 ?_
 refine zU J J J (zHG r.start (by omega)) ?_
 refine rn8 ?_
 refine zW (poB r.start .nil .nil) J J J J J J J ?_
 refine rn5 ?_
 refine zAt [some ⟨26, .box (ruC r)⟩, none, none] [none, some ⟨29, .box poZ⟩, some ⟨29, .box (poB r.start .nil .nil)⟩] [(2, .ptr 1 0 0), (5, .ptr 2 0 0), (19, .ro (zAV r.pcs) 0 r.pcs.length), (20, iN r.pcs.length), (21, .int .i64 ((0 : Nat) : Int))] ?_ (zB6 (zt J) (zB7 (zB7 zCZ))) J ?_ (zBr ⟨J, J, J, J, J, trivial⟩) ?_
 ·intro h o ho
  match h, ho with
  | 0, ho => exact ho
  | 1, ho => simp at ho
  | 2, ho => simp at ho
  | _ + 3, ho => simp at ho
 ·intro h o ho
  match h, ho with
  | 0, ho => simp at ho
  | 1, ho => cases ho; exact ⟨fun o h => by simp at h, _, rfl, rfl, rfl, rfl, fun _ _ _ _ => .inl rfl⟩
  | 2, ho => cases ho; exact ⟨fun o h => by simp at h, _, rfl, rfl, rfl, rfl, fun _ _ _ _ => .inl rfl⟩
  | _ + 3, ho => simp at ho
 refine zDD 2 ⟨3, .ints .i64 []⟩ (.box (poB r.start (.sl 3 0 0) .nil)) J J J J (fun i j hi hj => ?_) ?_
 ·obtain rfl : i = 0 := Nat.lt_one_iff.1 hi
  have hj : j < 5 := hj
  match j, hj with
  | 0, _ => exact .inl rfl
  | 1, _ => exact .inr ⟨rfl, rfl⟩
  | 2, _ => exact .inl rfl
  | 3, _ => exact .inl rfl
  | 4, _ => exact .inl rfl
 refine zDD 2 ⟨3, .ints .i64 []⟩ (.box (poB r.start (.sl 3 0 0) (.sl 4 0 0))) J J J J (fun i j hi hj => ?_) ?_
 ·obtain rfl : i = 0 := Nat.lt_one_iff.1 hi
  have hj : j < 5 := hj
  match j, hj with
  | 0, _ => exact .inl rfl
  | 1, _ => exact .inl rfl
  | 2, _ => exact .inr ⟨rfl, rfl⟩
  | 3, _ => exact .inl rfl
  | 4, _ => exact .inl rfl
 refine zx (ι := Nat) (fun k => [(2, .ptr 1 0 0), (5, .ptr 2 0 0), (19, .ro (zAV r.pcs) 0 r.pcs.length), (20, iN r.pcs.length), (21, iN k)]) (fun k => hpB r.start (.sl 3 0 k) (.sl 4 0 k) ((zBK r).take k) ((zBK r).take k))
  (fun k => k ≤ r.pcs.length) (fun k => r.pcs.length - k) 0 ⟨⟨rfl, rfl, rfl, rfl, rfl, trivial⟩, rfl, Nat.zero_le _⟩ ?_
 intro k hk
 have hhl : (zBK r).length = r.pcs.length := List.length_map ..
 refine rn4 ?_
 refine zI J (fun h2 => ?_) (fun h2 => ?_)
 ·have hk' : k < r.pcs.length := by omega
  generalize hp : r.pcs.getD k pc0 = p
  have hph : (zBK r).getD k 0 = p.hand := by rw [← hp]; unfold zBK; simp [List.getD, hk']
  have htk : (zBK r).take (k + 1) = (zBK r).take k ++ [p.hand] := by rw [zw _ 0 k (by omega), hph]
  have htl : ((zBK r).take k).length = k := by rw [List.length_take]; omega
  generalize hA : (zBK r).take k = A at htl htk
  refine zGV ?_
  repeat (refine zAJ rfl rfl rfl ?_)
  refine zW (pcC p) J J J J J (by rw [← hp]; rfl) J ?_
  refine rn0 ?_
  refine zAt [none, none, none, none, none, some ⟨60, .box (pcC p)⟩] [none, some ⟨29, .box poZ⟩, some ⟨29, .box (poB r.start (.sl 3 0 k) (.sl 4 0 k))⟩, some ⟨3, .ints .i64 A⟩, some ⟨3, .ints .i64 A⟩, none] [(2, .ptr 1 0 0), (5, .ptr 2 0 0), (19, .ro (zAV r.pcs) 0 r.pcs.length), (20, iN r.pcs.length), (21, iN k), (7, .rp (.box (pcC p)) 0 0)] ?_ (zB7 (zB7 (zB7 (zB7 (zB7 (zB6 (zt rfl) zCZ)))))) rfl ?_ ⟨⟨_, rfl, .inl rfl⟩, ⟨_, rfl, .inl rfl⟩, ⟨_, rfl, .inl rfl⟩, ⟨_, rfl, .inl rfl⟩, ⟨_, rfl, .inl rfl⟩, ⟨.ptr 5 0 0, rfl, .inr (.inr ⟨rfl, fun o ho => by cases ho; exact Nat.zero_lt_one⟩)⟩, trivial⟩ ?_
  ·intro h o ho
   match h, ho with
   | 0, ho => simp at ho
   | 1, ho => simp at ho
   | 2, ho => simp at ho
   | 3, ho => simp at ho
   | 4, ho => simp at ho
   | 5, ho => exact ho
   | _ + 6, ho => simp at ho
  ·intro h o ho
   match h, ho with
   | 0, ho => simp at ho
   | 1, ho => cases ho; exact ⟨fun o h => by simp at h, _, rfl, rfl, rfl, rfl, fun _ _ _ _ => .inl rfl⟩
   | 2, ho => cases ho; exact ⟨fun o h => by simp at h, _, rfl, rfl, rfl, rfl, fun _ _ _ _ => .inl rfl⟩
   | 3, ho => cases ho; exact ⟨fun o h => by simp at h, _, rfl, rfl, rfl, rfl, fun _ _ _ _ => .inl rfl⟩
   | 4, ho => cases ho; exact ⟨fun o h => by simp at h, _, rfl, rfl, rfl, rfl, fun _ _ _ _ => .inl rfl⟩
   | 5, ho => simp at ho
   | _ + 6, ho => simp at ho
  have hb : (k + 1) * 8 ≤ 140737488355328 ∧ k + 1 ≤ 9223372036854775807 := by omega
  refine zb (by kernel_rfl) ?_
  refine zV 0 J (by kernel_rfl) (by kernel_rfl) (by kernel_rfl) J (zL J J J J J J) J ?_
  refine zV 1 J (by kernel_rfl) (by kernel_rfl) (by kernel_rfl) J (zAU J J J J (by first | (simp only [Nat.zero_add, Int.toNat_natCast]; exact J) | exact J) (by omega)) J ?_
  refine zV 3 J (by kernel_rfl) (by kernel_rfl) (by kernel_rfl) J (zH J J J J J J) J ?_
  refine zV 7 J (by kernel_rfl) (by kernel_rfl) (by kernel_rfl) J (zL J J J J J J) J ?_
  refine zV 8 J (by kernel_rfl) (by kernel_rfl) (by kernel_rfl) J (zAU J J J J (by first | (simp only [Nat.zero_add, Int.toNat_natCast]; exact J) | exact J) (by omega)) J ?_
  refine zV 10 J (by kernel_rfl) (by kernel_rfl) (by kernel_rfl) J (zH J J J J J J) J ?_
  refine zV 14 J (by kernel_rfl) (by kernel_rfl) (by kernel_rfl) J (zL J J J J J J) J ?_
  refine zV 17 J (by kernel_rfl) (by kernel_rfl) (by kernel_rfl) J (zL J J J J J J) J ?_
  apply zQ (H := [none, some ⟨29, .box poZ⟩, some ⟨29, .box (poB r.start .any .any)⟩, some ⟨3, .ints .i64 (A ++ [p.hand])⟩, some ⟨3, .ints .i64 (A ++ [p.hand])⟩, none]) [(2, .ptr 1 0 0), (5, .ptr 2 0 0), (19, .ro (zAV r.pcs) 0 r.pcs.length), (20, iN r.pcs.length), (21, iN k), (31, .sl 3 0 (k + 1)), (38, .sl 4 0 (k + 1)), (40, .ptr 2 0 1), (41, .ptr 2 0 1)]
  intro fin
  apply zQ (H := [none, some ⟨29, .box poZ⟩, some ⟨29, .box (poB r.start .any (.sl 4 0 k))⟩, some ⟨3, .ints .i64 (A ++ [p.hand])⟩, some ⟨3, .ints .i64 A⟩, none]) [(2, .ptr 1 0 0), (5, .ptr 2 0 0), (19, .ro (zAV r.pcs) 0 r.pcs.length), (20, iN r.pcs.length), (21, iN k), (7, .rp (.box (pcC p)) 0 0), (26, .ptr 2 0 1), (28, .rp (.box (pcC p)) 0 1), (33, .ptr 2 0 2), (35, .rp (.box (pcC p)) 0 1), (39, .ptr 2 0 1), (41, .ptr 2 0 1), (31, .sl 3 0 (k + 1)), (34, .sl 4 0 k), (37, .ro (.ints .i64 [p.hand]) 0 1), (40, .ptr 2 0 1)]
  intro s45
  apply zQ (H := [none, some ⟨29, .box poZ⟩, some ⟨29, .box (poB r.start .any .any)⟩, some ⟨3, .ints .i64 (A ++ [p.hand])⟩, some ⟨3, .ints .i64 (A ++ [p.hand])⟩, none]) [(2, .ptr 1 0 0), (5, .ptr 2 0 0), (19, .ro (zAV r.pcs) 0 r.pcs.length), (20, iN r.pcs.length), (21, iN k), (7, .rp (.box (pcC p)) 0 0), (26, .ptr 2 0 1), (28, .rp (.box (pcC p)) 0 1), (33, .ptr 2 0 2), (35, .rp (.box (pcC p)) 0 1), (39, .ptr 2 0 1), (41, .ptr 2 0 1), (31, .sl 3 0 (k + 1)), (38, .sl 4 0 (k + 1))]
  intro s44
  apply zQ (H := [none, some ⟨29, .box poZ⟩, some ⟨29, .box (poB r.start .any (.sl 4 0 k))⟩, some ⟨3, .ints .i64 (A ++ [p.hand])⟩, some ⟨3, .ints .i64 A⟩, none]) [(2, .ptr 1 0 0), (5, .ptr 2 0 0), (19, .ro (zAV r.pcs) 0 r.pcs.length), (20, iN r.pcs.length), (21, iN k), (7, .rp (.box (pcC p)) 0 0), (26, .ptr 2 0 1), (28, .rp (.box (pcC p)) 0 1), (33, .ptr 2 0 2), (35, .rp (.box (pcC p)) 0 1), (39, .ptr 2 0 1), (41, .ptr 2 0 1), (31, .sl 3 0 (k + 1)), (34, .sl 4 0 k), (36, .int .i64 p.hand), (40, .ptr 2 0 1)]
  intro s43
  apply zQ (H := [none, some ⟨29, .box poZ⟩, some ⟨29, .box (poB r.start .any (.sl 4 0 k))⟩, some ⟨3, .ints .i64 (A ++ [p.hand])⟩, some ⟨3, .ints .i64 A⟩, none]) [(2, .ptr 1 0 0), (5, .ptr 2 0 0), (19, .ro (zAV r.pcs) 0 r.pcs.length), (20, iN r.pcs.length), (21, iN k), (7, .rp (.box (pcC p)) 0 0), (26, .ptr 2 0 1), (28, .rp (.box (pcC p)) 0 1), (33, .ptr 2 0 2), (35, .rp (.box (pcC p)) 0 1), (39, .ptr 2 0 1), (41, .ptr 2 0 1), (31, .sl 3 0 (k + 1)), (34, .sl 4 0 k), (37, .ro (.ints .i64 [p.hand]) 0 1)]
  intro s42
  apply zQ (H := [none, some ⟨29, .box poZ⟩, some ⟨29, .box (poB r.start (.sl 3 0 k) (.sl 4 0 k))⟩, some ⟨3, .ints .i64 A⟩, some ⟨3, .ints .i64 A⟩, none]) [(2, .ptr 1 0 0), (5, .ptr 2 0 0), (19, .ro (zAV r.pcs) 0 r.pcs.length), (20, iN r.pcs.length), (21, iN k), (7, .rp (.box (pcC p)) 0 0), (26, .ptr 2 0 1), (28, .rp (.box (pcC p)) 0 1), (33, .ptr 2 0 2), (35, .rp (.box (pcC p)) 0 1), (39, .ptr 2 0 1), (41, .ptr 2 0 1), (27, .sl 3 0 k), (30, .ro (.ints .i64 [p.hand]) 0 1), (34, .sl 4 0 k), (37, .ro (.ints .i64 [p.hand]) 0 1)]
  intro s41
  apply zQ (H := [none, some ⟨29, .box poZ⟩, some ⟨29, .box (poB r.start .any (.sl 4 0 k))⟩, some ⟨3, .ints .i64 (A ++ [p.hand])⟩, some ⟨3, .ints .i64 A⟩, none]) [(2, .ptr 1 0 0), (5, .ptr 2 0 0), (19, .ro (zAV r.pcs) 0 r.pcs.length), (20, iN r.pcs.length), (21, iN k), (7, .rp (.box (pcC p)) 0 0), (26, .ptr 2 0 1), (28, .rp (.box (pcC p)) 0 1), (33, .ptr 2 0 2), (35, .rp (.box (pcC p)) 0 1), (39, .ptr 2 0 1), (41, .ptr 2 0 1), (31, .sl 3 0 (k + 1)), (37, .ro (.ints .i64 [p.hand]) 0 1)]
  intro s40
  apply zQ (H := [none, some ⟨29, .box poZ⟩, some ⟨29, .box (poB r.start .any (.sl 4 0 k))⟩, some ⟨3, .ints .i64 (A ++ [p.hand])⟩, some ⟨3, .ints .i64 A⟩, none]) [(2, .ptr 1 0 0), (5, .ptr 2 0 0), (19, .ro (zAV r.pcs) 0 r.pcs.length), (20, iN r.pcs.length), (21, iN k), (7, .rp (.box (pcC p)) 0 0), (26, .ptr 2 0 1), (28, .rp (.box (pcC p)) 0 1), (33, .ptr 2 0 2), (35, .rp (.box (pcC p)) 0 1), (39, .ptr 2 0 1), (41, .ptr 2 0 1), (31, .sl 3 0 (k + 1)), (34, .sl 4 0 k), (40, .ptr 2 0 1)]
  intro s39
  apply zQ (H := [none, some ⟨29, .box poZ⟩, some ⟨29, .box (poB r.start .any (.sl 4 0 k))⟩, some ⟨3, .ints .i64 (A ++ [p.hand])⟩, some ⟨3, .ints .i64 A⟩, none]) [(2, .ptr 1 0 0), (5, .ptr 2 0 0), (19, .ro (zAV r.pcs) 0 r.pcs.length), (20, iN r.pcs.length), (21, iN k), (7, .rp (.box (pcC p)) 0 0), (26, .ptr 2 0 1), (28, .rp (.box (pcC p)) 0 1), (33, .ptr 2 0 2), (35, .rp (.box (pcC p)) 0 1), (39, .ptr 2 0 1), (41, .ptr 2 0 1), (31, .sl 3 0 (k + 1)), (34, .sl 4 0 k), (36, .int .i64 p.hand)]
  intro s38
  apply zQ (H := [none, some ⟨29, .box poZ⟩, some ⟨29, .box (poB r.start (.sl 3 0 k) (.sl 4 0 k))⟩, some ⟨3, .ints .i64 A⟩, some ⟨3, .ints .i64 A⟩, none]) [(2, .ptr 1 0 0), (5, .ptr 2 0 0), (19, .ro (zAV r.pcs) 0 r.pcs.length), (20, iN r.pcs.length), (21, iN k), (7, .rp (.box (pcC p)) 0 0), (26, .ptr 2 0 1), (28, .rp (.box (pcC p)) 0 1), (33, .ptr 2 0 2), (35, .rp (.box (pcC p)) 0 1), (39, .ptr 2 0 1), (41, .ptr 2 0 1), (30, .ro (.ints .i64 [p.hand]) 0 1), (34, .sl 4 0 k), (37, .ro (.ints .i64 [p.hand]) 0 1)]
  intro s37
  apply zQ (H := [none, some ⟨29, .box poZ⟩, some ⟨29, .box (poB r.start (.sl 3 0 k) (.sl 4 0 k))⟩, some ⟨3, .ints .i64 A⟩, some ⟨3, .ints .i64 A⟩, none]) [(2, .ptr 1 0 0), (5, .ptr 2 0 0), (19, .ro (zAV r.pcs) 0 r.pcs.length), (20, iN r.pcs.length), (21, iN k), (7, .rp (.box (pcC p)) 0 0), (26, .ptr 2 0 1), (28, .rp (.box (pcC p)) 0 1), (33, .ptr 2 0 2), (35, .rp (.box (pcC p)) 0 1), (39, .ptr 2 0 1), (41, .ptr 2 0 1), (27, .sl 3 0 k), (29, .int .i64 p.hand), (34, .sl 4 0 k), (37, .ro (.ints .i64 [p.hand]) 0 1)]
  intro s36
  apply zQ (H := [none, some ⟨29, .box poZ⟩, some ⟨29, .box (poB r.start (.sl 3 0 k) (.sl 4 0 k))⟩, some ⟨3, .ints .i64 A⟩, some ⟨3, .ints .i64 A⟩, none]) [(2, .ptr 1 0 0), (5, .ptr 2 0 0), (19, .ro (zAV r.pcs) 0 r.pcs.length), (20, iN r.pcs.length), (21, iN k), (7, .rp (.box (pcC p)) 0 0), (26, .ptr 2 0 1), (28, .rp (.box (pcC p)) 0 1), (33, .ptr 2 0 2), (35, .rp (.box (pcC p)) 0 1), (39, .ptr 2 0 1), (41, .ptr 2 0 1), (27, .sl 3 0 k), (30, .ro (.ints .i64 [p.hand]) 0 1), (37, .ro (.ints .i64 [p.hand]) 0 1)]
  intro s35
  apply zQ (H := [none, some ⟨29, .box poZ⟩, some ⟨29, .box (poB r.start (.sl 3 0 k) (.sl 4 0 k))⟩, some ⟨3, .ints .i64 A⟩, some ⟨3, .ints .i64 A⟩, none]) [(2, .ptr 1 0 0), (5, .ptr 2 0 0), (19, .ro (zAV r.pcs) 0 r.pcs.length), (20, iN r.pcs.length), (21, iN k), (7, .rp (.box (pcC p)) 0 0), (26, .ptr 2 0 1), (28, .rp (.box (pcC p)) 0 1), (33, .ptr 2 0 2), (35, .rp (.box (pcC p)) 0 1), (39, .ptr 2 0 1), (41, .ptr 2 0 1), (27, .sl 3 0 k), (30, .ro (.ints .i64 [p.hand]) 0 1), (34, .sl 4 0 k), (36, .int .i64 p.hand)]
  intro s34
  apply zQ (H := [none, some ⟨29, .box poZ⟩, some ⟨29, .box (poB r.start .any (.sl 4 0 k))⟩, some ⟨3, .ints .i64 (A ++ [p.hand])⟩, some ⟨3, .ints .i64 A⟩, none]) [(2, .ptr 1 0 0), (5, .ptr 2 0 0), (19, .ro (zAV r.pcs) 0 r.pcs.length), (20, iN r.pcs.length), (21, iN k), (7, .rp (.box (pcC p)) 0 0), (26, .ptr 2 0 1), (28, .rp (.box (pcC p)) 0 1), (33, .ptr 2 0 2), (35, .rp (.box (pcC p)) 0 1), (39, .ptr 2 0 1), (41, .ptr 2 0 1), (31, .sl 3 0 (k + 1)), (36, .int .i64 p.hand)]
  intro s33
  apply zQ (H := [none, some ⟨29, .box poZ⟩, some ⟨29, .box (poB r.start .any (.sl 4 0 k))⟩, some ⟨3, .ints .i64 (A ++ [p.hand])⟩, some ⟨3, .ints .i64 A⟩, none]) [(2, .ptr 1 0 0), (5, .ptr 2 0 0), (19, .ro (zAV r.pcs) 0 r.pcs.length), (20, iN r.pcs.length), (21, iN k), (7, .rp (.box (pcC p)) 0 0), (26, .ptr 2 0 1), (28, .rp (.box (pcC p)) 0 1), (33, .ptr 2 0 2), (35, .rp (.box (pcC p)) 0 1), (39, .ptr 2 0 1), (41, .ptr 2 0 1), (31, .sl 3 0 (k + 1)), (34, .sl 4 0 k)]
  intro s32
  apply zQ (H := [none, some ⟨29, .box poZ⟩, some ⟨29, .box (poB r.start (.sl 3 0 k) (.sl 4 0 k))⟩, some ⟨3, .ints .i64 A⟩, some ⟨3, .ints .i64 A⟩, none]) [(2, .ptr 1 0 0), (5, .ptr 2 0 0), (19, .ro (zAV r.pcs) 0 r.pcs.length), (20, iN r.pcs.length), (21, iN k), (7, .rp (.box (pcC p)) 0 0), (26, .ptr 2 0 1), (28, .rp (.box (pcC p)) 0 1), (33, .ptr 2 0 2), (35, .rp (.box (pcC p)) 0 1), (39, .ptr 2 0 1), (41, .ptr 2 0 1), (29, .int .i64 p.hand), (34, .sl 4 0 k), (37, .ro (.ints .i64 [p.hand]) 0 1)]
  intro s31
  apply zQ (H := [none, some ⟨29, .box poZ⟩, some ⟨29, .box (poB r.start (.sl 3 0 k) (.sl 4 0 k))⟩, some ⟨3, .ints .i64 A⟩, some ⟨3, .ints .i64 A⟩, none]) [(2, .ptr 1 0 0), (5, .ptr 2 0 0), (19, .ro (zAV r.pcs) 0 r.pcs.length), (20, iN r.pcs.length), (21, iN k), (7, .rp (.box (pcC p)) 0 0), (26, .ptr 2 0 1), (28, .rp (.box (pcC p)) 0 1), (33, .ptr 2 0 2), (35, .rp (.box (pcC p)) 0 1), (39, .ptr 2 0 1), (41, .ptr 2 0 1), (30, .ro (.ints .i64 [p.hand]) 0 1), (37, .ro (.ints .i64 [p.hand]) 0 1)]
  intro s30
  apply zQ (H := [none, some ⟨29, .box poZ⟩, some ⟨29, .box (poB r.start (.sl 3 0 k) (.sl 4 0 k))⟩, some ⟨3, .ints .i64 A⟩, some ⟨3, .ints .i64 A⟩, none]) [(2, .ptr 1 0 0), (5, .ptr 2 0 0), (19, .ro (zAV r.pcs) 0 r.pcs.length), (20, iN r.pcs.length), (21, iN k), (7, .rp (.box (pcC p)) 0 0), (26, .ptr 2 0 1), (28, .rp (.box (pcC p)) 0 1), (33, .ptr 2 0 2), (35, .rp (.box (pcC p)) 0 1), (39, .ptr 2 0 1), (41, .ptr 2 0 1), (30, .ro (.ints .i64 [p.hand]) 0 1), (34, .sl 4 0 k), (36, .int .i64 p.hand)]
  intro s29
  apply zQ (H := [none, some ⟨29, .box poZ⟩, some ⟨29, .box (poB r.start (.sl 3 0 k) (.sl 4 0 k))⟩, some ⟨3, .ints .i64 A⟩, some ⟨3, .ints .i64 A⟩, none]) [(2, .ptr 1 0 0), (5, .ptr 2 0 0), (19, .ro (zAV r.pcs) 0 r.pcs.length), (20, iN r.pcs.length), (21, iN k), (7, .rp (.box (pcC p)) 0 0), (26, .ptr 2 0 1), (28, .rp (.box (pcC p)) 0 1), (33, .ptr 2 0 2), (35, .rp (.box (pcC p)) 0 1), (39, .ptr 2 0 1), (41, .ptr 2 0 1), (27, .sl 3 0 k), (34, .sl 4 0 k), (37, .ro (.ints .i64 [p.hand]) 0 1)]
  intro s28
  apply zQ (H := [none, some ⟨29, .box poZ⟩, some ⟨29, .box (poB r.start (.sl 3 0 k) (.sl 4 0 k))⟩, some ⟨3, .ints .i64 A⟩, some ⟨3, .ints .i64 A⟩, none]) [(2, .ptr 1 0 0), (5, .ptr 2 0 0), (19, .ro (zAV r.pcs) 0 r.pcs.length), (20, iN r.pcs.length), (21, iN k), (7, .rp (.box (pcC p)) 0 0), (26, .ptr 2 0 1), (28, .rp (.box (pcC p)) 0 1), (33, .ptr 2 0 2), (35, .rp (.box (pcC p)) 0 1), (39, .ptr 2 0 1), (41, .ptr 2 0 1), (27, .sl 3 0 k), (29, .int .i64 p.hand), (37, .ro (.ints .i64 [p.hand]) 0 1)]
  intro s27
  apply zQ (H := [none, some ⟨29, .box poZ⟩, some ⟨29, .box (poB r.start (.sl 3 0 k) (.sl 4 0 k))⟩, some ⟨3, .ints .i64 A⟩, some ⟨3, .ints .i64 A⟩, none]) [(2, .ptr 1 0 0), (5, .ptr 2 0 0), (19, .ro (zAV r.pcs) 0 r.pcs.length), (20, iN r.pcs.length), (21, iN k), (7, .rp (.box (pcC p)) 0 0), (26, .ptr 2 0 1), (28, .rp (.box (pcC p)) 0 1), (33, .ptr 2 0 2), (35, .rp (.box (pcC p)) 0 1), (39, .ptr 2 0 1), (41, .ptr 2 0 1), (27, .sl 3 0 k), (29, .int .i64 p.hand), (34, .sl 4 0 k), (36, .int .i64 p.hand)]
  intro s26
  apply zQ (H := [none, some ⟨29, .box poZ⟩, some ⟨29, .box (poB r.start (.sl 3 0 k) (.sl 4 0 k))⟩, some ⟨3, .ints .i64 A⟩, some ⟨3, .ints .i64 A⟩, none]) [(2, .ptr 1 0 0), (5, .ptr 2 0 0), (19, .ro (zAV r.pcs) 0 r.pcs.length), (20, iN r.pcs.length), (21, iN k), (7, .rp (.box (pcC p)) 0 0), (26, .ptr 2 0 1), (28, .rp (.box (pcC p)) 0 1), (33, .ptr 2 0 2), (35, .rp (.box (pcC p)) 0 1), (39, .ptr 2 0 1), (41, .ptr 2 0 1), (27, .sl 3 0 k), (30, .ro (.ints .i64 [p.hand]) 0 1), (36, .int .i64 p.hand)]
  intro s25
  apply zQ (H := [none, some ⟨29, .box poZ⟩, some ⟨29, .box (poB r.start (.sl 3 0 k) (.sl 4 0 k))⟩, some ⟨3, .ints .i64 A⟩, some ⟨3, .ints .i64 A⟩, none]) [(2, .ptr 1 0 0), (5, .ptr 2 0 0), (19, .ro (zAV r.pcs) 0 r.pcs.length), (20, iN r.pcs.length), (21, iN k), (7, .rp (.box (pcC p)) 0 0), (26, .ptr 2 0 1), (28, .rp (.box (pcC p)) 0 1), (33, .ptr 2 0 2), (35, .rp (.box (pcC p)) 0 1), (39, .ptr 2 0 1), (41, .ptr 2 0 1), (27, .sl 3 0 k), (30, .ro (.ints .i64 [p.hand]) 0 1), (34, .sl 4 0 k)]
  intro s24
  apply zQ (H := [none, some ⟨29, .box poZ⟩, some ⟨29, .box (poB r.start .any (.sl 4 0 k))⟩, some ⟨3, .ints .i64 (A ++ [p.hand])⟩, some ⟨3, .ints .i64 A⟩, none]) [(2, .ptr 1 0 0), (5, .ptr 2 0 0), (19, .ro (zAV r.pcs) 0 r.pcs.length), (20, iN r.pcs.length), (21, iN k), (7, .rp (.box (pcC p)) 0 0), (26, .ptr 2 0 1), (28, .rp (.box (pcC p)) 0 1), (33, .ptr 2 0 2), (35, .rp (.box (pcC p)) 0 1), (39, .ptr 2 0 1), (41, .ptr 2 0 1), (31, .sl 3 0 (k + 1))]
  intro s23
  apply zQ (H := [none, some ⟨29, .box poZ⟩, some ⟨29, .box (poB r.start (.sl 3 0 k) (.sl 4 0 k))⟩, some ⟨3, .ints .i64 A⟩, some ⟨3, .ints .i64 A⟩, none]) [(2, .ptr 1 0 0), (5, .ptr 2 0 0), (19, .ro (zAV r.pcs) 0 r.pcs.length), (20, iN r.pcs.length), (21, iN k), (7, .rp (.box (pcC p)) 0 0), (26, .ptr 2 0 1), (28, .rp (.box (pcC p)) 0 1), (33, .ptr 2 0 2), (35, .rp (.box (pcC p)) 0 1), (39, .ptr 2 0 1), (41, .ptr 2 0 1), (34, .sl 4 0 k), (37, .ro (.ints .i64 [p.hand]) 0 1)]
  intro s22
  apply zQ (H := [none, some ⟨29, .box poZ⟩, some ⟨29, .box (poB r.start (.sl 3 0 k) (.sl 4 0 k))⟩, some ⟨3, .ints .i64 A⟩, some ⟨3, .ints .i64 A⟩, none]) [(2, .ptr 1 0 0), (5, .ptr 2 0 0), (19, .ro (zAV r.pcs) 0 r.pcs.length), (20, iN r.pcs.length), (21, iN k), (7, .rp (.box (pcC p)) 0 0), (26, .ptr 2 0 1), (28, .rp (.box (pcC p)) 0 1), (33, .ptr 2 0 2), (35, .rp (.box (pcC p)) 0 1), (39, .ptr 2 0 1), (41, .ptr 2 0 1), (29, .int .i64 p.hand), (37, .ro (.ints .i64 [p.hand]) 0 1)]
  intro s21
  apply zQ (H := [none, some ⟨29, .box poZ⟩, some ⟨29, .box (poB r.start (.sl 3 0 k) (.sl 4 0 k))⟩, some ⟨3, .ints .i64 A⟩, some ⟨3, .ints .i64 A⟩, none]) [(2, .ptr 1 0 0), (5, .ptr 2 0 0), (19, .ro (zAV r.pcs) 0 r.pcs.length), (20, iN r.pcs.length), (21, iN k), (7, .rp (.box (pcC p)) 0 0), (26, .ptr 2 0 1), (28, .rp (.box (pcC p)) 0 1), (33, .ptr 2 0 2), (35, .rp (.box (pcC p)) 0 1), (39, .ptr 2 0 1), (41, .ptr 2 0 1), (29, .int .i64 p.hand), (34, .sl 4 0 k), (36, .int .i64 p.hand)]
  intro s20
  apply zQ (H := [none, some ⟨29, .box poZ⟩, some ⟨29, .box (poB r.start (.sl 3 0 k) (.sl 4 0 k))⟩, some ⟨3, .ints .i64 A⟩, some ⟨3, .ints .i64 A⟩, none]) [(2, .ptr 1 0 0), (5, .ptr 2 0 0), (19, .ro (zAV r.pcs) 0 r.pcs.length), (20, iN r.pcs.length), (21, iN k), (7, .rp (.box (pcC p)) 0 0), (26, .ptr 2 0 1), (28, .rp (.box (pcC p)) 0 1), (33, .ptr 2 0 2), (35, .rp (.box (pcC p)) 0 1), (39, .ptr 2 0 1), (41, .ptr 2 0 1), (30, .ro (.ints .i64 [p.hand]) 0 1), (36, .int .i64 p.hand)]
  intro s19
  apply zQ (H := [none, some ⟨29, .box poZ⟩, some ⟨29, .box (poB r.start (.sl 3 0 k) (.sl 4 0 k))⟩, some ⟨3, .ints .i64 A⟩, some ⟨3, .ints .i64 A⟩, none]) [(2, .ptr 1 0 0), (5, .ptr 2 0 0), (19, .ro (zAV r.pcs) 0 r.pcs.length), (20, iN r.pcs.length), (21, iN k), (7, .rp (.box (pcC p)) 0 0), (26, .ptr 2 0 1), (28, .rp (.box (pcC p)) 0 1), (33, .ptr 2 0 2), (35, .rp (.box (pcC p)) 0 1), (39, .ptr 2 0 1), (41, .ptr 2 0 1), (30, .ro (.ints .i64 [p.hand]) 0 1), (34, .sl 4 0 k)]
  intro s18
  apply zQ (H := [none, some ⟨29, .box poZ⟩, some ⟨29, .box (poB r.start (.sl 3 0 k) (.sl 4 0 k))⟩, some ⟨3, .ints .i64 A⟩, some ⟨3, .ints .i64 A⟩, none]) [(2, .ptr 1 0 0), (5, .ptr 2 0 0), (19, .ro (zAV r.pcs) 0 r.pcs.length), (20, iN r.pcs.length), (21, iN k), (7, .rp (.box (pcC p)) 0 0), (26, .ptr 2 0 1), (28, .rp (.box (pcC p)) 0 1), (33, .ptr 2 0 2), (35, .rp (.box (pcC p)) 0 1), (39, .ptr 2 0 1), (41, .ptr 2 0 1), (27, .sl 3 0 k), (37, .ro (.ints .i64 [p.hand]) 0 1)]
  intro s17
  apply zQ (H := [none, some ⟨29, .box poZ⟩, some ⟨29, .box (poB r.start (.sl 3 0 k) (.sl 4 0 k))⟩, some ⟨3, .ints .i64 A⟩, some ⟨3, .ints .i64 A⟩, none]) [(2, .ptr 1 0 0), (5, .ptr 2 0 0), (19, .ro (zAV r.pcs) 0 r.pcs.length), (20, iN r.pcs.length), (21, iN k), (7, .rp (.box (pcC p)) 0 0), (26, .ptr 2 0 1), (28, .rp (.box (pcC p)) 0 1), (33, .ptr 2 0 2), (35, .rp (.box (pcC p)) 0 1), (39, .ptr 2 0 1), (41, .ptr 2 0 1), (27, .sl 3 0 k), (34, .sl 4 0 k), (36, .int .i64 p.hand)]
  intro s16
  apply zQ (H := [none, some ⟨29, .box poZ⟩, some ⟨29, .box (poB r.start (.sl 3 0 k) (.sl 4 0 k))⟩, some ⟨3, .ints .i64 A⟩, some ⟨3, .ints .i64 A⟩, none]) [(2, .ptr 1 0 0), (5, .ptr 2 0 0), (19, .ro (zAV r.pcs) 0 r.pcs.length), (20, iN r.pcs.length), (21, iN k), (7, .rp (.box (pcC p)) 0 0), (26, .ptr 2 0 1), (28, .rp (.box (pcC p)) 0 1), (33, .ptr 2 0 2), (35, .rp (.box (pcC p)) 0 1), (39, .ptr 2 0 1), (41, .ptr 2 0 1), (27, .sl 3 0 k), (29, .int .i64 p.hand), (36, .int .i64 p.hand)]
  intro s15
  apply zQ (H := [none, some ⟨29, .box poZ⟩, some ⟨29, .box (poB r.start (.sl 3 0 k) (.sl 4 0 k))⟩, some ⟨3, .ints .i64 A⟩, some ⟨3, .ints .i64 A⟩, none]) [(2, .ptr 1 0 0), (5, .ptr 2 0 0), (19, .ro (zAV r.pcs) 0 r.pcs.length), (20, iN r.pcs.length), (21, iN k), (7, .rp (.box (pcC p)) 0 0), (26, .ptr 2 0 1), (28, .rp (.box (pcC p)) 0 1), (33, .ptr 2 0 2), (35, .rp (.box (pcC p)) 0 1), (39, .ptr 2 0 1), (41, .ptr 2 0 1), (27, .sl 3 0 k), (29, .int .i64 p.hand), (34, .sl 4 0 k)]
  intro s14
  apply zQ (H := [none, some ⟨29, .box poZ⟩, some ⟨29, .box (poB r.start (.sl 3 0 k) (.sl 4 0 k))⟩, some ⟨3, .ints .i64 A⟩, some ⟨3, .ints .i64 A⟩, none]) [(2, .ptr 1 0 0), (5, .ptr 2 0 0), (19, .ro (zAV r.pcs) 0 r.pcs.length), (20, iN r.pcs.length), (21, iN k), (7, .rp (.box (pcC p)) 0 0), (26, .ptr 2 0 1), (28, .rp (.box (pcC p)) 0 1), (33, .ptr 2 0 2), (35, .rp (.box (pcC p)) 0 1), (39, .ptr 2 0 1), (41, .ptr 2 0 1), (27, .sl 3 0 k), (30, .ro (.ints .i64 [p.hand]) 0 1)]
  intro s13
  apply zQ (H := [none, some ⟨29, .box poZ⟩, some ⟨29, .box (poB r.start (.sl 3 0 k) (.sl 4 0 k))⟩, some ⟨3, .ints .i64 A⟩, some ⟨3, .ints .i64 A⟩, none]) [(2, .ptr 1 0 0), (5, .ptr 2 0 0), (19, .ro (zAV r.pcs) 0 r.pcs.length), (20, iN r.pcs.length), (21, iN k), (7, .rp (.box (pcC p)) 0 0), (26, .ptr 2 0 1), (28, .rp (.box (pcC p)) 0 1), (33, .ptr 2 0 2), (35, .rp (.box (pcC p)) 0 1), (39, .ptr 2 0 1), (41, .ptr 2 0 1), (37, .ro (.ints .i64 [p.hand]) 0 1)]
  intro s12
  apply zQ (H := [none, some ⟨29, .box poZ⟩, some ⟨29, .box (poB r.start (.sl 3 0 k) (.sl 4 0 k))⟩, some ⟨3, .ints .i64 A⟩, some ⟨3, .ints .i64 A⟩, none]) [(2, .ptr 1 0 0), (5, .ptr 2 0 0), (19, .ro (zAV r.pcs) 0 r.pcs.length), (20, iN r.pcs.length), (21, iN k), (7, .rp (.box (pcC p)) 0 0), (26, .ptr 2 0 1), (28, .rp (.box (pcC p)) 0 1), (33, .ptr 2 0 2), (35, .rp (.box (pcC p)) 0 1), (39, .ptr 2 0 1), (41, .ptr 2 0 1), (34, .sl 4 0 k), (36, .int .i64 p.hand)]
  intro s11
  apply zQ (H := [none, some ⟨29, .box poZ⟩, some ⟨29, .box (poB r.start (.sl 3 0 k) (.sl 4 0 k))⟩, some ⟨3, .ints .i64 A⟩, some ⟨3, .ints .i64 A⟩, none]) [(2, .ptr 1 0 0), (5, .ptr 2 0 0), (19, .ro (zAV r.pcs) 0 r.pcs.length), (20, iN r.pcs.length), (21, iN k), (7, .rp (.box (pcC p)) 0 0), (26, .ptr 2 0 1), (28, .rp (.box (pcC p)) 0 1), (33, .ptr 2 0 2), (35, .rp (.box (pcC p)) 0 1), (39, .ptr 2 0 1), (41, .ptr 2 0 1), (29, .int .i64 p.hand), (36, .int .i64 p.hand)]
  intro s10
  apply zQ (H := [none, some ⟨29, .box poZ⟩, some ⟨29, .box (poB r.start (.sl 3 0 k) (.sl 4 0 k))⟩, some ⟨3, .ints .i64 A⟩, some ⟨3, .ints .i64 A⟩, none]) [(2, .ptr 1 0 0), (5, .ptr 2 0 0), (19, .ro (zAV r.pcs) 0 r.pcs.length), (20, iN r.pcs.length), (21, iN k), (7, .rp (.box (pcC p)) 0 0), (26, .ptr 2 0 1), (28, .rp (.box (pcC p)) 0 1), (33, .ptr 2 0 2), (35, .rp (.box (pcC p)) 0 1), (39, .ptr 2 0 1), (41, .ptr 2 0 1), (29, .int .i64 p.hand), (34, .sl 4 0 k)]
  intro s9
  apply zQ (H := [none, some ⟨29, .box poZ⟩, some ⟨29, .box (poB r.start (.sl 3 0 k) (.sl 4 0 k))⟩, some ⟨3, .ints .i64 A⟩, some ⟨3, .ints .i64 A⟩, none]) [(2, .ptr 1 0 0), (5, .ptr 2 0 0), (19, .ro (zAV r.pcs) 0 r.pcs.length), (20, iN r.pcs.length), (21, iN k), (7, .rp (.box (pcC p)) 0 0), (26, .ptr 2 0 1), (28, .rp (.box (pcC p)) 0 1), (33, .ptr 2 0 2), (35, .rp (.box (pcC p)) 0 1), (39, .ptr 2 0 1), (41, .ptr 2 0 1), (30, .ro (.ints .i64 [p.hand]) 0 1)]
  intro s8
  apply zQ (H := [none, some ⟨29, .box poZ⟩, some ⟨29, .box (poB r.start (.sl 3 0 k) (.sl 4 0 k))⟩, some ⟨3, .ints .i64 A⟩, some ⟨3, .ints .i64 A⟩, none]) [(2, .ptr 1 0 0), (5, .ptr 2 0 0), (19, .ro (zAV r.pcs) 0 r.pcs.length), (20, iN r.pcs.length), (21, iN k), (7, .rp (.box (pcC p)) 0 0), (26, .ptr 2 0 1), (28, .rp (.box (pcC p)) 0 1), (33, .ptr 2 0 2), (35, .rp (.box (pcC p)) 0 1), (39, .ptr 2 0 1), (41, .ptr 2 0 1), (27, .sl 3 0 k), (36, .int .i64 p.hand)]
  intro s7
  apply zQ (H := [none, some ⟨29, .box poZ⟩, some ⟨29, .box (poB r.start (.sl 3 0 k) (.sl 4 0 k))⟩, some ⟨3, .ints .i64 A⟩, some ⟨3, .ints .i64 A⟩, none]) [(2, .ptr 1 0 0), (5, .ptr 2 0 0), (19, .ro (zAV r.pcs) 0 r.pcs.length), (20, iN r.pcs.length), (21, iN k), (7, .rp (.box (pcC p)) 0 0), (26, .ptr 2 0 1), (28, .rp (.box (pcC p)) 0 1), (33, .ptr 2 0 2), (35, .rp (.box (pcC p)) 0 1), (39, .ptr 2 0 1), (41, .ptr 2 0 1), (27, .sl 3 0 k), (34, .sl 4 0 k)]
  intro s6
  apply zQ (H := [none, some ⟨29, .box poZ⟩, some ⟨29, .box (poB r.start (.sl 3 0 k) (.sl 4 0 k))⟩, some ⟨3, .ints .i64 A⟩, some ⟨3, .ints .i64 A⟩, none]) [(2, .ptr 1 0 0), (5, .ptr 2 0 0), (19, .ro (zAV r.pcs) 0 r.pcs.length), (20, iN r.pcs.length), (21, iN k), (7, .rp (.box (pcC p)) 0 0), (26, .ptr 2 0 1), (28, .rp (.box (pcC p)) 0 1), (33, .ptr 2 0 2), (35, .rp (.box (pcC p)) 0 1), (39, .ptr 2 0 1), (41, .ptr 2 0 1), (27, .sl 3 0 k), (29, .int .i64 p.hand)]
  intro s5
  apply zQ (H := [none, some ⟨29, .box poZ⟩, some ⟨29, .box (poB r.start (.sl 3 0 k) (.sl 4 0 k))⟩, some ⟨3, .ints .i64 A⟩, some ⟨3, .ints .i64 A⟩, none]) [(2, .ptr 1 0 0), (5, .ptr 2 0 0), (19, .ro (zAV r.pcs) 0 r.pcs.length), (20, iN r.pcs.length), (21, iN k), (7, .rp (.box (pcC p)) 0 0), (26, .ptr 2 0 1), (28, .rp (.box (pcC p)) 0 1), (33, .ptr 2 0 2), (35, .rp (.box (pcC p)) 0 1), (39, .ptr 2 0 1), (41, .ptr 2 0 1), (36, .int .i64 p.hand)]
  intro s4
  apply zQ (H := [none, some ⟨29, .box poZ⟩, some ⟨29, .box (poB r.start (.sl 3 0 k) (.sl 4 0 k))⟩, some ⟨3, .ints .i64 A⟩, some ⟨3, .ints .i64 A⟩, none]) [(2, .ptr 1 0 0), (5, .ptr 2 0 0), (19, .ro (zAV r.pcs) 0 r.pcs.length), (20, iN r.pcs.length), (21, iN k), (7, .rp (.box (pcC p)) 0 0), (26, .ptr 2 0 1), (28, .rp (.box (pcC p)) 0 1), (33, .ptr 2 0 2), (35, .rp (.box (pcC p)) 0 1), (39, .ptr 2 0 1), (41, .ptr 2 0 1), (34, .sl 4 0 k)]
  intro s3
  apply zQ (H := [none, some ⟨29, .box poZ⟩, some ⟨29, .box (poB r.start (.sl 3 0 k) (.sl 4 0 k))⟩, some ⟨3, .ints .i64 A⟩, some ⟨3, .ints .i64 A⟩, none]) [(2, .ptr 1 0 0), (5, .ptr 2 0 0), (19, .ro (zAV r.pcs) 0 r.pcs.length), (20, iN r.pcs.length), (21, iN k), (7, .rp (.box (pcC p)) 0 0), (26, .ptr 2 0 1), (28, .rp (.box (pcC p)) 0 1), (33, .ptr 2 0 2), (35, .rp (.box (pcC p)) 0 1), (39, .ptr 2 0 1), (41, .ptr 2 0 1), (29, .int .i64 p.hand)]
  intro s2
  apply zQ (H := [none, some ⟨29, .box poZ⟩, some ⟨29, .box (poB r.start (.sl 3 0 k) (.sl 4 0 k))⟩, some ⟨3, .ints .i64 A⟩, some ⟨3, .ints .i64 A⟩, none]) [(2, .ptr 1 0 0), (5, .ptr 2 0 0), (19, .ro (zAV r.pcs) 0 r.pcs.length), (20, iN r.pcs.length), (21, iN k), (7, .rp (.box (pcC p)) 0 0), (26, .ptr 2 0 1), (28, .rp (.box (pcC p)) 0 1), (33, .ptr 2 0 2), (35, .rp (.box (pcC p)) 0 1), (39, .ptr 2 0 1), (41, .ptr 2 0 1), (27, .sl 3 0 k)]
  intro s1
  ·refine zF (is := [2, 4, 9, 11]) (by kernel_rfl) (by simp) J ⟨fun o ho => ?_, fun o ho => ?_, fun o ho => ?_, fun o ho => ?_, trivial⟩
   all_goals (cases ho)
   ·refine rn4 ?_
    exact s1 _ ⟨J, J, J, J, J, J, J, J, J, J, J, J, J, trivial⟩
   ·repeat (first | refine zC ?_ | refine zS ?_ | refine zA (zD rfl rfl rfl rfl) ?_)
    exact s2 _ ⟨J, J, J, J, J, J, J, J, J, J, J, J, J, trivial⟩
   ·refine rn4 ?_
    exact s3 _ ⟨J, J, J, J, J, J, J, J, J, J, J, J, J, trivial⟩
   ·repeat (first | refine zC ?_ | refine zS ?_ | refine zA (zD rfl rfl rfl rfl) ?_)
    exact s4 _ ⟨J, J, J, J, J, J, J, J, J, J, J, J, J, trivial⟩
  ·refine zF (is := [4, 9, 11]) (by kernel_rfl) (by simp) J ⟨fun o ho => ?_, fun o ho => ?_, fun o ho => ?_, trivial⟩
   all_goals (cases ho)
   ·repeat (first | refine zC ?_ | refine zS ?_ | refine zA (zD rfl rfl rfl rfl) ?_)
    exact s5 _ ⟨J, J, J, J, J, J, J, J, J, J, J, J, J, J, trivial⟩
   ·refine rn4 ?_
    exact s6 _ ⟨J, J, J, J, J, J, J, J, J, J, J, J, J, J, trivial⟩
   ·repeat (first | refine zC ?_ | refine zS ?_ | refine zA (zD rfl rfl rfl rfl) ?_)
    exact s7 _ ⟨J, J, J, J, J, J, J, J, J, J, J, J, J, J, trivial⟩
  ·refine zF (is := [2, 5, 9, 11]) (by kernel_rfl) (by simp) J ⟨fun o ho => ?_, fun o ho => ?_, fun o ho => ?_, fun o ho => ?_, trivial⟩
   all_goals (cases ho)
   ·refine rn4 ?_
    exact s5 _ ⟨J, J, J, J, J, J, J, J, J, J, J, J, J, J, trivial⟩
   ·refine rn3 ?_
    exact s8 _ ⟨J, J, J, J, J, J, J, J, J, J, J, J, J, trivial⟩
   ·refine rn4 ?_
    exact s9 _ ⟨J, J, J, J, J, J, J, J, J, J, J, J, J, J, trivial⟩
   ·repeat (first | refine zC ?_ | refine zS ?_ | refine zA (zD rfl rfl rfl rfl) ?_)
    exact s10 _ ⟨J, J, J, J, J, J, J, J, J, J, J, J, J, J, trivial⟩
  ·refine zF (is := [2, 4, 11]) (by kernel_rfl) (by simp) J ⟨fun o ho => ?_, fun o ho => ?_, fun o ho => ?_, trivial⟩
   all_goals (cases ho)
   ·refine rn4 ?_
    exact s6 _ ⟨J, J, J, J, J, J, J, J, J, J, J, J, J, J, trivial⟩
   ·repeat (first | refine zC ?_ | refine zS ?_ | refine zA (zD rfl rfl rfl rfl) ?_)
    exact s9 _ ⟨J, J, J, J, J, J, J, J, J, J, J, J, J, J, trivial⟩
   ·repeat (first | refine zC ?_ | refine zS ?_ | refine zA (zD rfl rfl rfl rfl) ?_)
    exact s11 _ ⟨J, J, J, J, J, J, J, J, J, J, J, J, J, J, trivial⟩
  ·refine zF (is := [2, 4, 9, 12]) (by kernel_rfl) (by simp) J ⟨fun o ho => ?_, fun o ho => ?_, fun o ho => ?_, fun o ho => ?_, trivial⟩
   all_goals (cases ho)
   ·refine rn4 ?_
    exact s7 _ ⟨J, J, J, J, J, J, J, J, J, J, J, J, J, J, trivial⟩
   ·repeat (first | refine zC ?_ | refine zS ?_ | refine zA (zD rfl rfl rfl rfl) ?_)
    exact s10 _ ⟨J, J, J, J, J, J, J, J, J, J, J, J, J, J, trivial⟩
   ·refine rn4 ?_
    exact s11 _ ⟨J, J, J, J, J, J, J, J, J, J, J, J, J, J, trivial⟩
   ·refine rn3 ?_
    exact s12 _ ⟨J, J, J, J, J, J, J, J, J, J, J, J, J, trivial⟩
  ·refine zF (is := [5, 9, 11]) (by kernel_rfl) (by simp) J ⟨fun o ho => ?_, fun o ho => ?_, fun o ho => ?_, trivial⟩
   all_goals (cases ho)
   ·refine rn3 ?_
    exact s13 _ ⟨J, J, J, J, J, J, J, J, J, J, J, J, J, J, trivial⟩
   ·refine rn4 ?_
    exact s14 _ ⟨J, J, J, J, J, J, J, J, J, J, J, J, J, J, J, trivial⟩
   ·repeat (first | refine zC ?_ | refine zS ?_ | refine zA (zD rfl rfl rfl rfl) ?_)
    exact s15 _ ⟨J, J, J, J, J, J, J, J, J, J, J, J, J, J, J, trivial⟩
  ·refine zF (is := [4, 11]) (by kernel_rfl) (by simp) J ⟨fun o ho => ?_, fun o ho => ?_, trivial⟩
   all_goals (cases ho)
   ·repeat (first | refine zC ?_ | refine zS ?_ | refine zA (zD rfl rfl rfl rfl) ?_)
    exact s14 _ ⟨J, J, J, J, J, J, J, J, J, J, J, J, J, J, J, trivial⟩
   ·repeat (first | refine zC ?_ | refine zS ?_ | refine zA (zD rfl rfl rfl rfl) ?_)
    exact s16 _ ⟨J, J, J, J, J, J, J, J, J, J, J, J, J, J, J, trivial⟩
  ·refine zF (is := [4, 9, 12]) (by kernel_rfl) (by simp) J ⟨fun o ho => ?_, fun o ho => ?_, fun o ho => ?_, trivial⟩
   all_goals (cases ho)
   ·repeat (first | refine zC ?_ | refine zS ?_ | refine zA (zD rfl rfl rfl rfl) ?_)
    exact s15 _ ⟨J, J, J, J, J, J, J, J, J, J, J, J, J, J, J, trivial⟩
   ·refine rn4 ?_
    exact s16 _ ⟨J, J, J, J, J, J, J, J, J, J, J, J, J, J, J, trivial⟩
   ·refine rn3 ?_
    exact s17 _ ⟨J, J, J, J, J, J, J, J, J, J, J, J, J, J, trivial⟩
  ·refine zF (is := [2, 9, 11]) (by kernel_rfl) (by simp) J ⟨fun o ho => ?_, fun o ho => ?_, fun o ho => ?_, trivial⟩
   all_goals (cases ho)
   ·refine rn4 ?_
    exact s13 _ ⟨J, J, J, J, J, J, J, J, J, J, J, J, J, J, trivial⟩
   ·refine rn4 ?_
    exact s18 _ ⟨J, J, J, J, J, J, J, J, J, J, J, J, J, J, trivial⟩
   ·repeat (first | refine zC ?_ | refine zS ?_ | refine zA (zD rfl rfl rfl rfl) ?_)
    exact s19 _ ⟨J, J, J, J, J, J, J, J, J, J, J, J, J, J, trivial⟩
  ·refine zF (is := [2, 5, 11]) (by kernel_rfl) (by simp) J ⟨fun o ho => ?_, fun o ho => ?_, fun o ho => ?_, trivial⟩
   all_goals (cases ho)
   ·refine rn4 ?_
    exact s14 _ ⟨J, J, J, J, J, J, J, J, J, J, J, J, J, J, J, trivial⟩
   ·refine rn3 ?_
    exact s18 _ ⟨J, J, J, J, J, J, J, J, J, J, J, J, J, J, trivial⟩
   ·repeat (first | refine zC ?_ | refine zS ?_ | refine zA (zD rfl rfl rfl rfl) ?_)
    exact s20 _ ⟨J, J, J, J, J, J, J, J, J, J, J, J, J, J, J, trivial⟩
  ·refine zF (is := [2, 5, 9, 12]) (by kernel_rfl) (by simp) J ⟨fun o ho => ?_, fun o ho => ?_, fun o ho => ?_, fun o ho => ?_, trivial⟩
   all_goals (cases ho)
   ·refine rn4 ?_
    exact s15 _ ⟨J, J, J, J, J, J, J, J, J, J, J, J, J, J, J, trivial⟩
   ·refine rn3 ?_
    exact s19 _ ⟨J, J, J, J, J, J, J, J, J, J, J, J, J, J, trivial⟩
   ·refine rn4 ?_
    exact s20 _ ⟨J, J, J, J, J, J, J, J, J, J, J, J, J, J, J, trivial⟩
   ·refine rn3 ?_
    exact s21 _ ⟨J, J, J, J, J, J, J, J, J, J, J, J, J, J, trivial⟩
  ·refine zF (is := [2, 4, 12]) (by kernel_rfl) (by simp) J ⟨fun o ho => ?_, fun o ho => ?_, fun o ho => ?_, trivial⟩
   all_goals (cases ho)
   ·refine rn4 ?_
    exact s16 _ ⟨J, J, J, J, J, J, J, J, J, J, J, J, J, J, J, trivial⟩
   ·repeat (first | refine zC ?_ | refine zS ?_ | refine zA (zD rfl rfl rfl rfl) ?_)
    exact s20 _ ⟨J, J, J, J, J, J, J, J, J, J, J, J, J, J, J, trivial⟩
   ·refine rn3 ?_
    exact s22 _ ⟨J, J, J, J, J, J, J, J, J, J, J, J, J, J, trivial⟩
  ·refine zF (is := [2, 4, 9]) (by kernel_rfl) (by simp) J ⟨fun o ho => ?_, fun o ho => ?_, fun o ho => ?_, trivial⟩
   all_goals (cases ho)
   ·refine rn4 ?_
    exact s17 _ ⟨J, J, J, J, J, J, J, J, J, J, J, J, J, J, trivial⟩
   ·repeat (first | refine zC ?_ | refine zS ?_ | refine zA (zD rfl rfl rfl rfl) ?_)
    exact s21 _ ⟨J, J, J, J, J, J, J, J, J, J, J, J, J, J, trivial⟩
   ·refine rn4 ?_
    exact s22 _ ⟨J, J, J, J, J, J, J, J, J, J, J, J, J, J, trivial⟩
  ·refine zF (is := [6, 9, 11]) (by kernel_rfl) (by simp) J ⟨fun o ho => ?_, fun o ho => ?_, fun o ho => ?_, trivial⟩
   all_goals (cases ho)
   ·refine zAY J J J J J J J J J htl J J (by show 0 + 1 ≤ 1; omega) J hb (fun i j _ _ => rfl) (by rw [hfix]; exact fun h => h) ?_
    refine rn1 ?_
    exact s23 _ ⟨J, J, J, J, J, J, J, J, J, J, J, J, J, trivial⟩
   ·refine rn4 ?_
    exact s24 _ ⟨J, J, J, J, J, J, J, J, J, J, J, J, J, J, J, trivial⟩
   ·repeat (first | refine zC ?_ | refine zS ?_ | refine zA (zD rfl rfl rfl rfl) ?_)
    exact s25 _ ⟨J, J, J, J, J, J, J, J, J, J, J, J, J, J, J, trivial⟩
  ·refine zF (is := [5, 11]) (by kernel_rfl) (by simp) J ⟨fun o ho => ?_, fun o ho => ?_, trivial⟩
   all_goals (cases ho)
   ·refine rn3 ?_
    exact s24 _ ⟨J, J, J, J, J, J, J, J, J, J, J, J, J, J, J, trivial⟩
   ·repeat (first | refine zC ?_ | refine zS ?_ | refine zA (zD rfl rfl rfl rfl) ?_)
    exact s26 _ ⟨J, J, J, J, J, J, J, J, J, J, J, J, J, J, J, J, trivial⟩
  ·refine zF (is := [5, 9, 12]) (by kernel_rfl) (by simp) J ⟨fun o ho => ?_, fun o ho => ?_, fun o ho => ?_, trivial⟩
   all_goals (cases ho)
   ·refine rn3 ?_
    exact s25 _ ⟨J, J, J, J, J, J, J, J, J, J, J, J, J, J, J, trivial⟩
   ·refine rn4 ?_
    exact s26 _ ⟨J, J, J, J, J, J, J, J, J, J, J, J, J, J, J, J, trivial⟩
   ·refine rn3 ?_
    exact s27 _ ⟨J, J, J, J, J, J, J, J, J, J, J, J, J, J, J, trivial⟩
  ·refine zF (is := [4, 12]) (by kernel_rfl) (by simp) J ⟨fun o ho => ?_, fun o ho => ?_, trivial⟩
   all_goals (cases ho)
   ·repeat (first | refine zC ?_ | refine zS ?_ | refine zA (zD rfl rfl rfl rfl) ?_)
    exact s26 _ ⟨J, J, J, J, J, J, J, J, J, J, J, J, J, J, J, J, trivial⟩
   ·refine rn3 ?_
    exact s28 _ ⟨J, J, J, J, J, J, J, J, J, J, J, J, J, J, J, trivial⟩
  ·refine zF (is := [4, 9]) (by kernel_rfl) (by simp) J ⟨fun o ho => ?_, fun o ho => ?_, trivial⟩
   all_goals (cases ho)
   ·repeat (first | refine zC ?_ | refine zS ?_ | refine zA (zD rfl rfl rfl rfl) ?_)
    exact s27 _ ⟨J, J, J, J, J, J, J, J, J, J, J, J, J, J, J, trivial⟩
   ·refine rn4 ?_
    exact s28 _ ⟨J, J, J, J, J, J, J, J, J, J, J, J, J, J, J, trivial⟩
  ·refine zF (is := [2, 11]) (by kernel_rfl) (by simp) J ⟨fun o ho => ?_, fun o ho => ?_, trivial⟩
   all_goals (cases ho)
   ·refine rn4 ?_
    exact s24 _ ⟨J, J, J, J, J, J, J, J, J, J, J, J, J, J, J, trivial⟩
   ·repeat (first | refine zC ?_ | refine zS ?_ | refine zA (zD rfl rfl rfl rfl) ?_)
    exact s29 _ ⟨J, J, J, J, J, J, J, J, J, J, J, J, J, J, J, trivial⟩
  ·refine zF (is := [2, 9, 12]) (by kernel_rfl) (by simp) J ⟨fun o ho => ?_, fun o ho => ?_, fun o ho => ?_, trivial⟩
   all_goals (cases ho)
   ·refine rn4 ?_
    exact s25 _ ⟨J, J, J, J, J, J, J, J, J, J, J, J, J, J, J, trivial⟩
   ·refine rn4 ?_
    exact s29 _ ⟨J, J, J, J, J, J, J, J, J, J, J, J, J, J, J, trivial⟩
   ·refine rn3 ?_
    exact s30 _ ⟨J, J, J, J, J, J, J, J, J, J, J, J, J, J, trivial⟩
  ·refine zF (is := [2, 5, 12]) (by kernel_rfl) (by simp) J ⟨fun o ho => ?_, fun o ho => ?_, fun o ho => ?_, trivial⟩
   all_goals (cases ho)
   ·refine rn4 ?_
    exact s26 _ ⟨J, J, J, J, J, J, J, J, J, J, J, J, J, J, J, J, trivial⟩
   ·refine rn3 ?_
    exact s29 _ ⟨J, J, J, J, J, J, J, J, J, J, J, J, J, J, J, trivial⟩
   ·refine rn3 ?_
    exact s31 _ ⟨J, J, J, J, J, J, J, J, J, J, J, J, J, J, J, trivial⟩
  ·refine zF (is := [2, 5, 9]) (by kernel_rfl) (by simp) J ⟨fun o ho => ?_, fun o ho => ?_, fun o ho => ?_, trivial⟩
   all_goals (cases ho)
   ·refine rn4 ?_
    exact s27 _ ⟨J, J, J, J, J, J, J, J, J, J, J, J, J, J, J, trivial⟩
   ·refine rn3 ?_
    exact s30 _ ⟨J, J, J, J, J, J, J, J, J, J, J, J, J, J, trivial⟩
   ·refine rn4 ?_
    exact s31 _ ⟨J, J, J, J, J, J, J, J, J, J, J, J, J, J, J, trivial⟩
  ·refine zF (is := [2, 4]) (by kernel_rfl) (by simp) J ⟨fun o ho => ?_, fun o ho => ?_, trivial⟩
   all_goals (cases ho)
   ·refine rn4 ?_
    exact s28 _ ⟨J, J, J, J, J, J, J, J, J, J, J, J, J, J, J, trivial⟩
   ·repeat (first | refine zC ?_ | refine zS ?_ | refine zA (zD rfl rfl rfl rfl) ?_)
    exact s31 _ ⟨J, J, J, J, J, J, J, J, J, J, J, J, J, J, J, trivial⟩
  ·refine zF (is := [9, 11]) (by kernel_rfl) (by simp) J ⟨fun o ho => ?_, fun o ho => ?_, trivial⟩
   all_goals (cases ho)
   ·refine rn4 ?_
    exact s32 _ ⟨J, J, J, J, J, J, J, J, J, J, J, J, J, J, trivial⟩
   ·repeat (first | refine zC ?_ | refine zS ?_ | refine zA (zD rfl rfl rfl rfl) ?_)
    exact s33 _ ⟨J, J, J, J, J, J, J, J, J, J, J, J, J, J, trivial⟩
  ·refine zF (is := [6, 11]) (by kernel_rfl) (by simp) J ⟨fun o ho => ?_, fun o ho => ?_, trivial⟩
   all_goals (cases ho)
   ·refine zAY J J J J J J J J J htl J J (by show 0 + 1 ≤ 1; omega) J hb (fun i j _ _ => rfl) (by rw [hfix]; exact fun h => h) ?_
    refine rn1 ?_
    exact s32 _ ⟨J, J, J, J, J, J, J, J, J, J, J, J, J, J, trivial⟩
   ·repeat (first | refine zC ?_ | refine zS ?_ | refine zA (zD rfl rfl rfl rfl) ?_)
    exact s34 _ ⟨J, J, J, J, J, J, J, J, J, J, J, J, J, J, J, J, trivial⟩
  ·refine zF (is := [6, 9, 12]) (by kernel_rfl) (by simp) J ⟨fun o ho => ?_, fun o ho => ?_, fun o ho => ?_, trivial⟩
   all_goals (cases ho)
   ·refine zAY J J J J J J J J J htl J J (by show 0 + 1 ≤ 1; omega) J hb (fun i j _ _ => rfl) (by rw [hfix]; exact fun h => h) ?_
    refine rn1 ?_
    exact s33 _ ⟨J, J, J, J, J, J, J, J, J, J, J, J, J, J, trivial⟩
   ·refine rn4 ?_
    exact s34 _ ⟨J, J, J, J, J, J, J, J, J, J, J, J, J, J, J, J, trivial⟩
   ·refine rn3 ?_
    exact s35 _ ⟨J, J, J, J, J, J, J, J, J, J, J, J, J, J, J, trivial⟩
  ·refine zF (is := [5, 12]) (by kernel_rfl) (by simp) J ⟨fun o ho => ?_, fun o ho => ?_, trivial⟩
   all_goals (cases ho)
   ·refine rn3 ?_
    exact s34 _ ⟨J, J, J, J, J, J, J, J, J, J, J, J, J, J, J, J, trivial⟩
   ·refine rn3 ?_
    exact s36 _ ⟨J, J, J, J, J, J, J, J, J, J, J, J, J, J, J, J, trivial⟩
  ·refine zF (is := [5, 9]) (by kernel_rfl) (by simp) J ⟨fun o ho => ?_, fun o ho => ?_, trivial⟩
   all_goals (cases ho)
   ·refine rn3 ?_
    exact s35 _ ⟨J, J, J, J, J, J, J, J, J, J, J, J, J, J, J, trivial⟩
   ·refine rn4 ?_
    exact s36 _ ⟨J, J, J, J, J, J, J, J, J, J, J, J, J, J, J, J, trivial⟩
  ·refine zF (is := [4]) (by kernel_rfl) (by simp) J ⟨fun o ho => ?_, trivial⟩
   all_goals (cases ho)
   repeat (first | refine zC ?_ | refine zS ?_ | refine zA (zD rfl rfl rfl rfl) ?_)
   exact s36 _ ⟨J, J, J, J, J, J, J, J, J, J, J, J, J, J, J, J, trivial⟩
  ·refine zF (is := [2, 12]) (by kernel_rfl) (by simp) J ⟨fun o ho => ?_, fun o ho => ?_, trivial⟩
   all_goals (cases ho)
   ·refine rn4 ?_
    exact s34 _ ⟨J, J, J, J, J, J, J, J, J, J, J, J, J, J, J, J, trivial⟩
   ·refine rn3 ?_
    exact s37 _ ⟨J, J, J, J, J, J, J, J, J, J, J, J, J, J, J, trivial⟩
  ·refine zF (is := [2, 9]) (by kernel_rfl) (by simp) J ⟨fun o ho => ?_, fun o ho => ?_, trivial⟩
   all_goals (cases ho)
   ·refine rn4 ?_
    exact s35 _ ⟨J, J, J, J, J, J, J, J, J, J, J, J, J, J, J, trivial⟩
   ·refine rn4 ?_
    exact s37 _ ⟨J, J, J, J, J, J, J, J, J, J, J, J, J, J, J, trivial⟩
  ·refine zF (is := [2, 5]) (by kernel_rfl) (by simp) J ⟨fun o ho => ?_, fun o ho => ?_, trivial⟩
   all_goals (cases ho)
   ·refine rn4 ?_
    exact s36 _ ⟨J, J, J, J, J, J, J, J, J, J, J, J, J, J, J, J, trivial⟩
   ·refine rn3 ?_
    exact s37 _ ⟨J, J, J, J, J, J, J, J, J, J, J, J, J, J, J, trivial⟩
  ·refine zF (is := [11, 15]) (by kernel_rfl) (by simp) J ⟨fun o ho => ?_, fun o ho => ?_, trivial⟩
   all_goals (cases ho)
   ·repeat (first | refine zC ?_ | refine zS ?_ | refine zA (zD rfl rfl rfl rfl) ?_)
    exact s38 _ ⟨J, J, J, J, J, J, J, J, J, J, J, J, J, J, J, trivial⟩
   ·refine rn10 ?_
    exact s39 _ ⟨J, J, J, J, J, J, J, J, J, J, J, J, J, J, J, trivial⟩
  ·refine zF (is := [9, 12]) (by kernel_rfl) (by simp) J ⟨fun o ho => ?_, fun o ho => ?_, trivial⟩
   all_goals (cases ho)
   ·refine rn4 ?_
    exact s38 _ ⟨J, J, J, J, J, J, J, J, J, J, J, J, J, J, J, trivial⟩
   ·refine rn3 ?_
    exact s40 _ ⟨J, J, J, J, J, J, J, J, J, J, J, J, J, J, trivial⟩
  ·refine zF (is := [6, 12]) (by kernel_rfl) (by simp) J ⟨fun o ho => ?_, fun o ho => ?_, trivial⟩
   all_goals (cases ho)
   ·refine zAY J J J J J J J J J htl J J (by show 0 + 1 ≤ 1; omega) J hb (fun i j _ _ => rfl) (by rw [hfix]; exact fun h => h) ?_
    refine rn1 ?_
    exact s38 _ ⟨J, J, J, J, J, J, J, J, J, J, J, J, J, J, J, trivial⟩
   ·refine rn3 ?_
    exact s41 _ ⟨J, J, J, J, J, J, J, J, J, J, J, J, J, J, J, J, trivial⟩
  ·refine zF (is := [6, 9]) (by kernel_rfl) (by simp) J ⟨fun o ho => ?_, fun o ho => ?_, trivial⟩
   all_goals (cases ho)
   ·refine zAY J J J J J J J J J htl J J (by show 0 + 1 ≤ 1; omega) J hb (fun i j _ _ => rfl) (by rw [hfix]; exact fun h => h) ?_
    refine rn1 ?_
    exact s40 _ ⟨J, J, J, J, J, J, J, J, J, J, J, J, J, J, trivial⟩
   ·refine rn4 ?_
    exact s41 _ ⟨J, J, J, J, J, J, J, J, J, J, J, J, J, J, J, J, trivial⟩
  ·refine zF (is := [5]) (by kernel_rfl) (by simp) J ⟨fun o ho => ?_, trivial⟩
   all_goals (cases ho)
   refine rn3 ?_
   exact s41 _ ⟨J, J, J, J, J, J, J, J, J, J, J, J, J, J, J, J, trivial⟩
  ·refine zF (is := [2]) (by kernel_rfl) (by simp) J ⟨fun o ho => ?_, trivial⟩
   all_goals (cases ho)
   refine rn4 ?_
   exact s41 _ ⟨J, J, J, J, J, J, J, J, J, J, J, J, J, J, J, J, trivial⟩
  ·refine zF (is := [12, 15]) (by kernel_rfl) (by simp) J ⟨fun o ho => ?_, fun o ho => ?_, trivial⟩
   all_goals (cases ho)
   ·refine rn3 ?_
    exact s42 _ ⟨J, J, J, J, J, J, J, J, J, J, J, J, J, J, J, trivial⟩
   ·refine rn10 ?_
    exact s43 _ ⟨J, J, J, J, J, J, J, J, J, J, J, J, J, J, J, J, trivial⟩
  ·refine zF (is := [11]) (by kernel_rfl) (by simp) J ⟨fun o ho => ?_, trivial⟩
   all_goals (cases ho)
   repeat (first | refine zC ?_ | refine zS ?_ | refine zA (zD rfl rfl rfl rfl) ?_)
   exact s43 _ ⟨J, J, J, J, J, J, J, J, J, J, J, J, J, J, J, J, trivial⟩
  ·refine zF (is := [9]) (by kernel_rfl) (by simp) J ⟨fun o ho => ?_, trivial⟩
   all_goals (cases ho)
   refine rn4 ?_
   exact s42 _ ⟨J, J, J, J, J, J, J, J, J, J, J, J, J, J, J, trivial⟩
  ·refine zF (is := [6]) (by kernel_rfl) (by simp) J ⟨fun o ho => ?_, trivial⟩
   all_goals (cases ho)
   refine zAY J J J J J J J J J htl J J (by show 0 + 1 ≤ 1; omega) J hb (fun i j _ _ => rfl) (by rw [hfix]; exact fun h => h) ?_
   refine rn1 ?_
   exact s42 _ ⟨J, J, J, J, J, J, J, J, J, J, J, J, J, J, J, trivial⟩
  ·refine zF (is := [13, 15]) (by kernel_rfl) (by simp) J ⟨fun o ho => ?_, fun o ho => ?_, trivial⟩
   all_goals (cases ho)
   ·refine zAY J J J J J J J J J htl J J (by show 0 + 1 ≤ 1; omega) J hb (fun i j _ _ => rfl) (by rw [hfix]; exact fun h => h) ?_
    refine rn1 ?_
    exact s44 _ ⟨J, J, J, J, J, J, J, J, J, J, J, J, J, J, trivial⟩
   ·refine rn10 ?_
    exact s45 _ ⟨J, J, J, J, J, J, J, J, J, J, J, J, J, J, J, J, trivial⟩
  ·refine zF (is := [12]) (by kernel_rfl) (by simp) J ⟨fun o ho => ?_, trivial⟩
   all_goals (cases ho)
   refine rn3 ?_
   exact s45 _ ⟨J, J, J, J, J, J, J, J, J, J, J, J, J, J, J, J, trivial⟩
  ·refine zF (is := [15]) (by kernel_rfl) (by simp) J ⟨fun o ho => ?_, trivial⟩
   all_goals (cases ho)
   refine rn10 ?_
   exact fin _ ⟨J, J, J, J, J, J, J, J, J, trivial⟩
  ·refine zF (is := [13]) (by kernel_rfl) (by simp) J ⟨fun o ho => ?_, trivial⟩
   all_goals (cases ho)
   refine zAY J J J J J J J J J htl J J (by show 0 + 1 ≤ 1; omega) J hb (fun i j _ _ => rfl) (by rw [hfix]; exact fun h => h) ?_
   refine rn1 ?_
   exact fin _ ⟨J, J, J, J, J, J, J, J, J, trivial⟩
  refine zF (is := [16]) (by kernel_rfl) (by simp) J ⟨fun o ho => ?_, trivial⟩
  all_goals (cases ho)
  refine rn9 ?_
  refine zV 18 J (by kernel_rfl) (by kernel_rfl) (by kernel_rfl) J (zAU J J J J (by first | (simp only [Nat.zero_add, Int.toNat_natCast]; exact J) | exact J) (by omega)) J ?_
  refine zF (is := [19]) (by kernel_rfl) (by simp) J ⟨fun o ho => ?_, trivial⟩
  all_goals (cases ho)
  refine rn9 ?_
  refine zZ (by kernel_rfl) ?_
  repeat (refine zAH ?_)
  refine zB ?_
  refine zCS (hpB r.start (.sl 3 0 (k + 1)) (.sl 4 0 (k + 1)) (A ++ [p.hand]) (A ++ [p.hand])) [none] [(2, .ptr 1 0 0), (5, .ptr 2 0 0), (19, .ro (zAV r.pcs) 0 r.pcs.length), (20, iN r.pcs.length), (21, iN k)] J ⟨J, J, J, J, J, trivial⟩ (fun h hh => by rw [hfix] at hh; exact hh.elim) (bl_n (zCA (zHC J) (zCA (zHC J) (zCA (fun _ _ _ _ => rfl) (zCA (fun _ _ _ _ => rfl) zBp))))) J ?_
  refine rn3 ?_
  exact zT ⟨k + 1, by omega, by omega, ⟨J, J, J, J, J, trivial⟩, by rw [htk]⟩
 ·have hk' : k = r.pcs.length := by omega
  subst hk'
  have htl : (zBK r).take r.pcs.length = zBK r := by rw [← hhl, List.take_length]
  rw [htl]
  refine rn6 ?_
  refine zW (poB r.start (.sl 3 0 r.pcs.length) (.sl 4 0 r.pcs.length)) J J J J J J J ?_
  refine rn7 ?_
  refine zAt [none, none, none, some ⟨3, .ints .i64 (zBK r)⟩, some ⟨3, .ints .i64 (zBK r)⟩] [none, some ⟨29, .box (poB r.start (.ro (.ints .i64 (zBK r)) 0 r.pcs.length) (.ro (.ints .i64 (zBK r)) 0 r.pcs.length))⟩, none, none, none] [(2, .ptr 1 0 0), (3, .int .i64 0)] ?_ (zB7 (zB7 (zB7 (zB6 zAI (zB6 zAI zCZ))))) J ?_ (zBr ⟨J, J, trivial⟩) ?_
  ·intro h o ho
   match h, ho with
   | 0, ho => simp at ho
   | 1, ho => simp at ho
   | 2, ho => simp at ho
   | 3, ho => exact ho
   | 4, ho => exact ho
   | _ + 5, ho => simp at ho
  ·intro h o ho
   match h, ho with
   | 0, ho => simp at ho
   | 1, ho =>
    cases ho
    refine ⟨fun o h => by simp at h, ⟨29, .box (poB r.start (.sl 3 0 r.pcs.length) (.sl 4 0 r.pcs.length))⟩, J, J, J, J, fun i j hi hj => ?_⟩
    obtain rfl : i = 0 := Nat.lt_one_iff.1 hi
    have hj : j < 5 := hj
    match j, hj with
    | 0, _ => exact .inl rfl
    | 1, _ => exact .inr (.inr ⟨rfl, fun o ho => by cases ho; show 0 + r.pcs.length ≤ (zBK r).length; omega⟩)
    | 2, _ => exact .inr (.inr ⟨rfl, fun o ho => by cases ho; show 0 + r.pcs.length ≤ (zBK r).length; omega⟩)
    | 3, _ => exact .inl rfl
    | 4, _ => exact .inl rfl
   | 2, ho => simp at ho
   | 3, ho => simp at ho
   | 4, ho => simp at ho
   | _ + 5, ho => simp at ho
  repeat (refine zu ?_)
  refine zO hR J ?_
  show AV.tup [.agg (poB r.start (.ro (.ints .i64 (zBK r)) 0 r.pcs.length) (.ro (.ints .i64 (zBK r)) 0 r.pcs.length)), .int .i64 0] = _
  rw [← hhl]; rfl
def poS (p : Pos) (n : Nat) : List AV := [.sl n 0 p.cells.length, .sl (n + 1) 0 p.h0.length, .sl (n + 2) 0 p.h1.length, .int .i64 p.turn, .int .i64 p.quiet]
/-- place.Copy, whose slices are the caller's -/
theorem zJf (p : Pos) (hp : SmallP p) : MCall Tryd.prog 25 [poA p] (.agg (poS p 2)) [some ⟨29, .box (poS p 2)⟩, some ⟨29, .box (poS p 2)⟩, some ⟨3, .ints .i64 p.cells⟩, some ⟨3, .ints .i64 p.h0⟩, some ⟨3, .ints .i64 p.h1⟩] := by
 refine ze.many (zP (P := Tryd.prog) (fn := Tryd.f25) J J (by kernel_rfl) J (fun c hR hfix => ?_)) (fix := fun _ => False) (fun _ h => h) J
 obtain ⟨h1, h2, h3⟩ := hp
 refine rn6 ?_
 refine zDl J J J (zJa p.cells (by omega)) ?_
 refine rn8 ?_
 refine zb (by kernel_rfl) ?_
 refine zV 0 J (by kernel_rfl) (by kernel_rfl) (by kernel_rfl) J (zL J J J J J J) J ?_
 refine zV 1 J (by kernel_rfl) (by kernel_rfl) (by kernel_rfl) J (zAU J J J J (by first | (simp only [Nat.zero_add, Int.toNat_natCast]; exact J) | exact J) (by omega)) J ?_
 refine zV 4 J (by kernel_rfl) (by kernel_rfl) (by kernel_rfl) J (zL J J J J J J) J ?_
 refine zV 5 J (by kernel_rfl) (by kernel_rfl) (by kernel_rfl) J (zAU J J J J (by first | (simp only [Nat.zero_add, Int.toNat_natCast]; exact J) | exact J) (by omega)) J ?_
 apply zQ (H := [some ⟨29, .box [.sl 2 0 p.cells.length, zq p.h0, zq p.h1, .int .i64 p.turn, .int .i64 p.quiet]⟩, some ⟨29, .box poZ⟩, some ⟨3, .ints .i64 p.cells⟩, some ⟨3, .ints .i64 p.h0⟩, some ⟨3, .ints .i64 p.h1⟩]) [(1, .ptr 0 0 0), (2, .ptr 1 0 0), (10, .sl 3 0 p.h0.length), (14, .sl 4 0 p.h1.length)]
 intro fin
 apply zQ (H := [some ⟨29, .box [.sl 2 0 p.cells.length, zq p.h0, zq p.h1, .int .i64 p.turn, .int .i64 p.quiet]⟩, some ⟨29, .box poZ⟩, some ⟨3, .ints .i64 p.cells⟩, some ⟨3, .ints .i64 p.h0⟩]) [(1, .ptr 0 0 0), (2, .ptr 1 0 0), (8, .ptr 0 0 1), (12, .ptr 0 0 2), (10, .sl 3 0 p.h0.length), (13, zq p.h1)]
 intro s5
 apply zQ (H := [some ⟨29, .box [.sl 2 0 p.cells.length, zq p.h0, zq p.h1, .int .i64 p.turn, .int .i64 p.quiet]⟩, some ⟨29, .box poZ⟩, some ⟨3, .ints .i64 p.cells⟩]) [(1, .ptr 0 0 0), (2, .ptr 1 0 0), (8, .ptr 0 0 1), (12, .ptr 0 0 2), (9, zq p.h0), (13, zq p.h1)]
 intro s4
 apply zQ (H := [some ⟨29, .box [.sl 2 0 p.cells.length, zq p.h0, zq p.h1, .int .i64 p.turn, .int .i64 p.quiet]⟩, some ⟨29, .box poZ⟩, some ⟨3, .ints .i64 p.cells⟩, some ⟨3, .ints .i64 p.h0⟩]) [(1, .ptr 0 0 0), (2, .ptr 1 0 0), (8, .ptr 0 0 1), (12, .ptr 0 0 2), (10, .sl 3 0 p.h0.length)]
 intro s3
 apply zQ (H := [some ⟨29, .box [.sl 2 0 p.cells.length, zq p.h0, zq p.h1, .int .i64 p.turn, .int .i64 p.quiet]⟩, some ⟨29, .box poZ⟩, some ⟨3, .ints .i64 p.cells⟩]) [(1, .ptr 0 0 0), (2, .ptr 1 0 0), (8, .ptr 0 0 1), (12, .ptr 0 0 2), (13, zq p.h1)]
 intro s2
 apply zQ (H := [some ⟨29, .box [.sl 2 0 p.cells.length, zq p.h0, zq p.h1, .int .i64 p.turn, .int .i64 p.quiet]⟩, some ⟨29, .box poZ⟩, some ⟨3, .ints .i64 p.cells⟩]) [(1, .ptr 0 0 0), (2, .ptr 1 0 0), (8, .ptr 0 0 1), (12, .ptr 0 0 2), (9, zq p.h0)]
 intro s1
 ·refine zF (is := [2, 6]) (by kernel_rfl) (by simp) J ⟨fun o ho => ?_, fun o ho => ?_, trivial⟩
  all_goals (cases ho)
  ·refine rn4 ?_
   exact s1 _ ⟨J, J, J, J, J, trivial⟩
  ·refine rn4 ?_
   exact s2 _ ⟨J, J, J, J, J, trivial⟩
 ·refine zF (is := [3, 6]) (by kernel_rfl) (by simp) J ⟨fun o ho => ?_, fun o ho => ?_, trivial⟩
  all_goals (cases ho)
  ·refine zDl J J J (zJa p.h0 (by omega)) ?_
   refine rn1 ?_
   exact s3 _ ⟨J, J, J, J, J, trivial⟩
  ·refine rn4 ?_
   exact s4 _ ⟨J, J, J, J, J, J, trivial⟩
 ·refine zF (is := [2]) (by kernel_rfl) (by simp) J ⟨fun o ho => ?_, trivial⟩
  all_goals (cases ho)
  refine rn4 ?_
  exact s4 _ ⟨J, J, J, J, J, J, trivial⟩
 ·refine zF (is := [6]) (by kernel_rfl) (by simp) J ⟨fun o ho => ?_, trivial⟩
  all_goals (cases ho)
  refine rn4 ?_
  exact s5 _ ⟨J, J, J, J, J, J, trivial⟩
 ·refine zF (is := [3]) (by kernel_rfl) (by simp) J ⟨fun o ho => ?_, trivial⟩
  all_goals (cases ho)
  refine zDl J J J (zJa p.h0 (by omega)) ?_
  refine rn1 ?_
  exact s5 _ ⟨J, J, J, J, J, J, trivial⟩
 ·refine zF (is := [7]) (by kernel_rfl) (by simp) J ⟨fun o ho => ?_, trivial⟩
  all_goals (cases ho)
  refine zDl J J J (zJa p.h1 (by omega)) ?_
  refine rn1 ?_
  exact fin _ ⟨J, J, J, J, trivial⟩
 refine zV 8 J (by kernel_rfl) (by kernel_rfl) (by kernel_rfl) J (zC9 J J J J J J) J ?_
 refine zV 9 J (by kernel_rfl) (by kernel_rfl) (by kernel_rfl) J (zL J J J J J J) J ?_
 refine zF (is := [10]) (by kernel_rfl) (by simp) J ⟨fun o ho => ?_, trivial⟩
 all_goals (cases ho)
 refine zFj (c' := .box (poS p 2)) (i := 0) (j := 1) J J J J J (by show 1 + 2 ≤ 5; omega) Nat.zero_lt_one J J (fun i' j' hi' hj' => ?_) ?_
 ·obtain rfl : i' = 0 := Nat.lt_one_iff.1 hi'
  have hj' : j' < 5 := hj'
  match j', hj' with
  | 0, _ => rfl
  | 1, _ => rfl
  | 2, _ => rfl
  | 3, _ => rfl
  | 4, _ => rfl
 refine rn1 ?_
 refine zZ (by kernel_rfl) ?_
 refine rn6 ?_
 refine zW (poS p 2) J J J J J J J ?_
 refine rn0 ?_
 exact zO hR J ⟨J, J⟩
/-- moves.Make, player 0 -/
theorem make0_ok (r : Go.Ax.Gm.Rules) (hv : ValidR r) (cs a b : List Int) (qt : Int) (S : Sound r ⟨cs, a, b, 0, qt⟩) (m : Mv) (hm : MvOK r ⟨cs, a, b, 0, qt⟩ m) : zn Tryd.prog 22 [ruA r, poA ⟨cs, a, b, 0, qt⟩, mvA m] (poA (zBf r ⟨cs, a, b, 0, qt⟩ m)) := by
 refine ze.value0 (zP (P := Tryd.prog) (fn := Tryd.f22) J J (by kernel_rfl) J (fun c hR hfix => ?_)) (fix := fun _ => False) (fun _ h => h) J J
 have SP := zBD hv S
 have hcc : cs.length ≤ 64 := SP.c
 have hcl : (cs.length : Int) = r.w * r.h := S.cl
 have hal : a.length = r.pcs.length := S.l0
 have hn6 := hv.n6
 have hqt : 0 ≤ qt ∧ qt ≤ 200 := S.qt
 have hain : ∀ n ∈ a, 0 ≤ n ∧ n ≤ 1000 := S.c0
 have hC12 := fun s => zHE hv S s
 have hKlt := fun s => zD4 S s
 obtain ⟨m1, m2, m3, m4, m5⟩ := hm
 have m2 : m.to.toNat < cs.length := m2
 have m4 : m.pc.toNat < a.length := by omega
 have m5 : (m.fr = -1 ∧ 0 < a.getD m.pc.toNat 0) ∨ (0 ≤ m.fr ∧ m.fr.toNat < cs.length) := m5
 have hapc := hain _ (zAi 0 m4)
 refine zX ?_
 repeat (first | refine zC ?_ | refine zB ?_ | refine zK rfl ?_ | refine zAp rfl rfl ?_ | refine zAJ rfl rfl rfl ?_)
 refine zAt [some ⟨26, .box (ruC r)⟩, some ⟨29, .box (poC ⟨cs, a, b, 0, qt⟩)⟩, some ⟨53, .box (mvC m)⟩, none] [none, none, none, some ⟨29, .box poZ⟩] [(3, .rp (.box (ruC r)) 0 0), (4, .rp (.box [zq cs, zq a, zq b, .int .i64 0, .int .i64 qt]) 0 0), (5, .rp (.box (mvC m)) 0 0), (6, .ptr 3 0 0)] ?_ (zB6 (zt rfl) (zB6 (zt rfl) (zB6 (zt rfl) (zB7 zCZ)))) rfl ?_ ⟨⟨.ptr 0 0 0, rfl, .inr (.inr ⟨rfl, fun o ho => by cases ho; exact Nat.zero_lt_one⟩)⟩, ⟨.ptr 1 0 0, rfl, .inr (.inr ⟨rfl, fun o ho => by cases ho; exact Nat.zero_lt_one⟩)⟩, ⟨.ptr 2 0 0, rfl, .inr (.inr ⟨rfl, fun o ho => by cases ho; exact Nat.zero_lt_one⟩)⟩, ⟨_, rfl, .inl rfl⟩, trivial⟩ ?_
 ·intro h o ho
  match h, ho with
  | 0, ho => exact ho
  | 1, ho => exact ho
  | 2, ho => exact ho
  | 3, ho => simp at ho
  | _ + 4, ho => simp at ho
 ·intro h o ho
  match h, ho with
  | 0, ho => simp at ho
  | 1, ho => simp at ho
  | 2, ho => simp at ho
  | 3, ho => cases ho; exact ⟨fun o h => by simp at h, _, rfl, rfl, rfl, rfl, fun _ _ _ _ => .inl rfl⟩
  | _ + 4, ho => simp at ho
 refine rn6 ?_
 refine zJT (.agg (poS ⟨cs, a, b, 0, qt⟩ 6)) [none, none, none, some ⟨29, .box poZ⟩, some ⟨29, .box (poS ⟨cs, a, b, 0, qt⟩ 6)⟩, some ⟨29, .box (poS ⟨cs, a, b, 0, qt⟩ 6)⟩, some ⟨3, .ints .i64 cs⟩, some ⟨3, .ints .i64 a⟩, some ⟨3, .ints .i64 b⟩] J J J (zJf _ SP) J J ?_
 repeat (refine zAJ rfl rfl rfl ?_)
 refine zW (poS ⟨cs, a, b, 0, qt⟩ 6) J J J J J J J ?_
 refine zA0 [none, none, none, some ⟨29, .box poZ⟩, none, none, some ⟨3, .ints .i64 cs⟩, some ⟨3, .ints .i64 a⟩, some ⟨3, .ints .i64 b⟩, some ⟨29, .box [.sl 6 0 cs.length, .sl 7 0 a.length, .sl 8 0 b.length, .int .i64 0, .int .i64 qt]⟩] (zAs.drop (zAs.drop (zAs.drop (zAs.eqv (CEq.refl _) (zAs.drop (zAs.drop (zAs.refl _))))))) ?_
 repeat (first | refine zA (zN rfl) ?_ | refine zC ?_ | refine zB ?_ | refine zX ?_ | refine zK rfl ?_ | refine zA (zR rfl rfl rfl rfl rfl) ?_ | refine zA (zDa rfl rfl) ?_ | refine zA (zg rfl rfl rfl rfl rfl (by first | (simp only [Nat.zero_add, Int.toNat_natCast, Int.toNat_zero]; exact rfl) | exact rfl) (by omega)) ?_ | refine zA (zAo rfl rfl rfl rfl (by first | assumption | omega)) ?_ | refine zA (zD rfl rfl rfl rfl) ?_ | refine zA (zL rfl rfl rfl rfl rfl rfl) ?_ | refine zA (zH rfl rfl rfl rfl rfl rfl) ?_)
 obtain ⟨took, htk⟩ : ∃ took, cs.getD m.to.toNat 0 = took := ⟨_, rfl⟩
 have htk2 : zAB ⟨cs, a, b, 0, qt⟩ m.to.toNat = took := htk
 have ht12 := hC12 m.to.toNat
 have htK : took ≠ 0 → zAO took < r.pcs.length := fun q => by
  have h := hKlt m.to.toNat
  rw [htk2] at h
  exact zE3 q h.1 h.2
 rw [htk2] at ht12
 obtain ⟨C1, hC1⟩ : ∃ C1, (if 0 ≤ m.fr then cs.set m.fr.toNat 0 else cs) = C1 := ⟨_, rfl⟩
 obtain ⟨A1, hA1⟩ : ∃ A1, (if 0 ≤ m.fr then a else a.set m.pc.toNat (a.getD m.pc.toNat 0 - 1)) = A1 := ⟨_, rfl⟩
 have hC1l : C1.length = cs.length := by rw [← hC1]; split <;> simp
 have hA1l : A1.length = a.length := by rw [← hA1]; split <;> simp
 have hA1in : ∀ i, -1 ≤ A1.getD i 0 ∧ A1.getD i 0 ≤ 1000 := fun i => by
  rw [← hA1]
  split
  ·by_cases q : i < a.length
   ·have := hain _ (zAi 0 q); omega
   ·rw [List.getD, List.getElem?_eq_none (by omega)]; exact ⟨by decide, by decide⟩
  ·by_cases q : i < a.length
   ·by_cases q2 : m.pc.toNat = i
    ·rw [← q2, List.getD, List.getElem?_set_self m4]; show -1 ≤ a.getD m.pc.toNat 0 - 1 ∧ a.getD m.pc.toNat 0 - 1 ≤ 1000; omega
    ·rw [List.getD, List.getElem?_set_ne q2]; have := hain _ (zAi 0 q); rw [List.getD] at this; omega
   ·rw [List.getD, List.getElem?_eq_none (by rw [List.length_set]; omega)]; exact ⟨by decide, by decide⟩
 refine zBl 8 (.int .i64 took) J (AEq.of_eq (by rw [← htk])) ?_
 apply zAD (H := [none, none, none, some ⟨29, .box poZ⟩, none, none, some ⟨3, .ints .i64 C1⟩, some ⟨3, .ints .i64 A1⟩, some ⟨3, .ints .i64 b⟩, some ⟨29, .box [.sl 6 0 cs.length, .sl 7 0 a.length, .sl 8 0 b.length, .int .i64 0, .int .i64 qt]⟩]) [(3, .rp (.box (ruC r)) 0 0), (4, .rp (.box [zq cs, zq a, zq b, .int .i64 0, .int .i64 qt]) 0 0), (5, .rp (.box (mvC m)) 0 0), (6, .ptr 3 0 0), (7, .ptr 9 0 0), (8, .int .i64 took)]
 ·intro fin
  refine zI J (fun f1 => ?_) (fun f1 => ?_)
  ·have f1 : 0 ≤ m.fr := f1
   rw [if_pos f1] at hC1 hA1
   have f2 : m.fr.toNat < cs.length := by rcases m5 with q | q; omega; exact q.2
   subst hC1 hA1
   repeat (first | refine zC ?_ | refine zB ?_ | refine zK rfl ?_ | refine zA (zR rfl rfl rfl rfl rfl) ?_ | refine zA (zg rfl rfl rfl rfl rfl (by first | (simp only [Nat.zero_add, Int.toNat_natCast, Int.toNat_zero]; exact rfl) | exact rfl) (by omega)) ?_ | refine zA (zD rfl rfl rfl rfl) ?_ | refine zA (zL rfl rfl rfl rfl rfl rfl) ?_ | refine zA (zH rfl rfl rfl rfl rfl rfl) ?_ | refine z8 rfl rfl rfl rfl rfl rfl rfl (by first | assumption | (show _ < List.length _; first | assumption | omega)) ?_)
   exact fin _ ⟨J, J, J, J, J, J, trivial⟩
  ·have f1 : ¬ 0 ≤ m.fr := f1
   rw [if_neg f1] at hC1 hA1
   subst hC1 hA1
   skip
   refine zb (by kernel_rfl) ?_
   refine zi (fuel := 1) [0, 1, 2, 3, 4, 5, 6, 7, 8, 9, 10] [(3, .rp (.box (ruC r)) 0 0), (4, .rp (.box [zq cs, zq a, zq b, .int .i64 0, .int .i64 qt]) 0 0), (5, .rp (.box (mvC m)) 0 0), (6, .ptr 3 0 0), (7, .ptr 9 0 0), (8, .int .i64 took)] ⟨J, J, J, J, J, J, trivial⟩ (by kernel_rfl) (by decide) J J ?_
   refine zJ J J (zH J J J J J J) ?_
   refine zJ J J (zD J J J J) ?_
   refine zJ J J (zL J J J J J J) ?_
   refine zJ J J (zAU J J J J J (by show (0 : Int) ≤ 0 ∧ (0 : Int) < 2; decide)) ?_
   refine zJ J J (zR J J J J J) ?_
   refine zJ J J (zH J J J J J J) ?_
   refine zJ J J (zD J J J J) ?_
   refine zJ J J (zg J J J J J (by first | (simp only [Nat.zero_add, Int.toNat_natCast, Int.toNat_zero]; exact J) | exact J) (by omega)) ?_
   refine zJ J J (zAo J J J J (by first | assumption | omega)) ?_
   refine zJ J J (zA8 J J (by omega)) ?_
   refine zJ J J (zg J J J J J (by first | (simp only [Nat.zero_add, Int.toNat_natCast, Int.toNat_zero]; exact J) | exact J) (by omega)) ?_
   refine z6 ?_
   refine zF (is := [11]) (by kernel_rfl) (by simp) J ⟨fun o ho => ?_, trivial⟩
   all_goals (cases ho)
   refine rn7 ?_
   refine zZ (by kernel_rfl) ?_
   repeat (refine zB ?_)
   exact fin _ ⟨J, J, J, J, J, J, trivial⟩
 obtain ⟨C2, hC2⟩ : ∃ C2, C1.set m.to.toNat (2 * m.pc + 0 + 1) = C2 := ⟨_, rfl⟩
 have hC2l : C2.length = cs.length := by rw [← hC2, List.length_set, hC1l]
 obtain ⟨A2, hA2⟩ : ∃ A2, (if 0 < took ∧ r.keeps = true then A1.set (zAO took) (min (A1.getD (zAO took) 0 + 1) 1000) else A1) = A2 := ⟨_, rfl⟩
 have hmt : m.to.toNat < C1.length := by omega
 have hmt2 : m.to.toNat < (Cells.ints .i64 C1).len := hmt
 obtain ⟨q3, hq3⟩ : ∃ q3, (if 0 < took ∨ m.fr < 0 then 0 else min (qt + 1) 200) = q3 := ⟨_, rfl⟩
 repeat (first | refine zX ?_ | refine zK rfl ?_ | refine zA (zR rfl rfl rfl rfl rfl) ?_ | refine zA (zD rfl rfl rfl rfl) ?_ | refine zA (zL rfl rfl rfl rfl rfl rfl) ?_ | refine zA (zH rfl rfl rfl rfl rfl rfl) ?_)
 refine zA (zCY J J (by omega)) ?_
 repeat (first | refine zA (zG rfl) ?_ | refine zC ?_ | refine zB ?_ | refine zX ?_ | refine zK rfl ?_ | refine zA (zCL rfl rfl) ?_ | refine zA (zAy rfl rfl (by omega)) ?_ | refine zA (zg rfl rfl rfl rfl rfl (by first | (simp only [Nat.zero_add, Int.toNat_natCast, Int.toNat_zero]; exact rfl) | exact rfl) (by omega)) ?_ | refine zA (zD rfl rfl rfl rfl) ?_ | refine zA (zH rfl rfl rfl rfl rfl rfl) ?_ | refine z8 rfl rfl rfl rfl rfl rfl rfl (by first | assumption | (show _ < List.length _; first | assumption | omega)) ?_)
 refine zAb [none, none, none, some ⟨29, .box poZ⟩, none, none, some ⟨3, .ints .i64 C2⟩, some ⟨3, .ints .i64 A1⟩, some ⟨3, .ints .i64 b⟩, some ⟨29, .box [.sl 6 0 cs.length, .sl 7 0 a.length, .sl 8 0 b.length, .int .i64 0, .int .i64 qt]⟩] (by rw [← hC2]; rfl) ?_
 apply zAD (H := [none, none, none, some ⟨29, .box poZ⟩, none, none, some ⟨3, .ints .i64 C2⟩, some ⟨3, .ints .i64 A2⟩, some ⟨3, .ints .i64 b⟩, some ⟨29, .box [.sl 6 0 cs.length, .sl 7 0 a.length, .sl 8 0 b.length, .int .i64 0, .int .i64 qt]⟩]) [(3, .rp (.box (ruC r)) 0 0), (4, .rp (.box [zq cs, zq a, zq b, .int .i64 0, .int .i64 qt]) 0 0), (5, .rp (.box (mvC m)) 0 0), (6, .ptr 3 0 0), (7, .ptr 9 0 0), (8, .int .i64 took)]
 ·intro fin
  refine zh J J (fun f1 => ?_) (fun f1 => ?_)
  ·have f1 : 0 < took := f1
   refine zAz ?_
   refine zAK J (fun f2 => ?_) (fun f2 => ?_)
   ·rw [if_pos ⟨f1, f2⟩] at hA2
    have hKl : zAO took < A1.length := by have := htK (by omega); omega
    have hKl2 : zAO took < (Cells.ints .i64 A1).len := hKl
    have hKC : (took - 1) / 2 = ((zAO took : Nat) : Int) := by unfold zAO; rw [Int.tdiv_eq_ediv_of_nonneg (by omega)]; omega
    have hKin := hA1in (zAO took)
    generalize zAO took = K at hA2 hKl hKl2 hKC hKin
    refine zX ?_
    repeat (first | refine zA (zG rfl) ?_ | refine zA (zN rfl) ?_ | refine zC ?_ | refine zB ?_ | refine zK rfl ?_ | refine zA (zA8 rfl rfl (by omega)) ?_ | refine zA (zGm rfl rfl (by omega)) ?_)
    refine zBl 9 (iN K) J (AEq.of_eq (by rw [hKC])) ?_
    refine zb (by kernel_rfl) ?_
    refine zi (fuel := 1) [0, 1, 2, 3, 4, 5, 6, 7, 8, 9, 10, 11, 12, 13, 14, 15, 16] [(3, .rp (.box (ruC r)) 0 0), (4, .rp (.box [zq cs, zq a, zq b, .int .i64 0, .int .i64 qt]) 0 0), (5, .rp (.box (mvC m)) 0 0), (6, .ptr 3 0 0), (7, .ptr 9 0 0), (8, .int .i64 took), (9, iN K)] ⟨J, J, J, J, J, J, J, trivial⟩ (by kernel_rfl) (by decide) J J ?_
    refine zJ J J (zH J J J J J J) ?_
    refine zJ J J (zD J J J J) ?_
    refine zJ J J (zL J J J J J J) ?_
    refine zJ J J (zAU J J J J J (by show (0 : Int) ≤ 0 ∧ (0 : Int) < 2; decide)) ?_
    refine zJ J J (zR J J J J J) ?_
    refine zJ J J (zG J) ?_
    refine zJ J J (zH J J J J J J) ?_
    refine zJ J J (zD J J J J) ?_
    refine zJ J J (zL J J J J J J) ?_
    refine zJ J J (zAU J J J J J (by show (0 : Int) ≤ 0 ∧ (0 : Int) < 2; decide)) ?_
    refine zJ J J (zR J J J J J) ?_
    refine zJ J J (zG J) ?_
    refine zJ J J (zg J J J J J (by first | (simp only [Nat.zero_add, Int.toNat_natCast, Int.toNat_zero]; exact J) | exact J) (by omega)) ?_
    refine zJ J J (zAo J J J J (by first | assumption | omega)) ?_
    refine zJ J J (zAy J J (by omega)) ?_
    refine zJ J J (zHm J J) ?_
    refine zJ J J (zg J J J J J (by first | (simp only [Nat.zero_add, Int.toNat_natCast, Int.toNat_zero]; exact J) | exact J) (by omega)) ?_
    refine z6 ?_
    refine zF (is := [17]) (by kernel_rfl) (by simp) J ⟨fun o ho => ?_, trivial⟩
    all_goals (cases ho)
    refine rn7 ?_
    refine zZ (by kernel_rfl) ?_
    repeat (refine zB ?_)
    have e : (if A1.getD K 0 + 1 ≤ 1000 then A1.getD K 0 + 1 else (1000 : Int)) = (if 1000 < A1.getD K 0 + 1 then 1000 else A1.getD K 0 + 1) := by split <;> split <;> omega
    refine zAa [none, none, none, some ⟨29, .box poZ⟩, none, none, some ⟨3, .ints .i64 C2⟩, some ⟨3, .ints .i64 A2⟩, some ⟨3, .ints .i64 b⟩, some ⟨29, .box [.sl 6 0 cs.length, .sl 7 0 a.length, .sl 8 0 b.length, .int .i64 0, .int .i64 qt]⟩] (by rw [← hA2, Int.min_def, e]; rfl) ?_
    exact fin _ ⟨J, J, J, J, J, J, trivial⟩
   ·rw [if_neg (fun q => by rw [f2] at q; exact Bool.false_ne_true q.2)] at hA2
    subst hA2
    refine zFB ?_
    exact fin _ ⟨J, J, J, J, J, J, trivial⟩
  ·have f1 : ¬ 0 < took := f1
   rw [if_neg (fun q => f1 q.1)] at hA2
   subst hA2
   refine zFB ?_
   exact fin _ ⟨J, J, J, J, J, J, trivial⟩
 repeat (first | refine zA (zG rfl) ?_ | refine zC ?_ | refine zB ?_ | refine zX ?_ | refine zK rfl ?_ | refine zA (zCL rfl rfl) ?_ | refine zA (zAy rfl rfl (by omega)) ?_ | refine zA (zD rfl rfl rfl rfl) ?_ | refine zA (zHm rfl rfl) ?_ | refine zA (zL rfl rfl rfl rfl rfl rfl) ?_ | refine zA (zH rfl rfl rfl rfl rfl rfl) ?_ | refine z8 rfl rfl rfl rfl rfl rfl rfl Nat.zero_lt_one ?_)
 refine zAb [none, none, none, some ⟨29, .box poZ⟩, none, none, some ⟨3, .ints .i64 C2⟩, some ⟨3, .ints .i64 A2⟩, some ⟨3, .ints .i64 b⟩, some ⟨29, .box [.sl 6 0 cs.length, .sl 7 0 a.length, .sl 8 0 b.length, .int .i64 0, .int .i64 (if 200 < qt + 1 then 200 else qt + 1)]⟩] J ?_
 apply zAD (H := [none, none, none, some ⟨29, .box poZ⟩, none, none, some ⟨3, .ints .i64 C2⟩, some ⟨3, .ints .i64 A2⟩, some ⟨3, .ints .i64 b⟩, some ⟨29, .box [.sl 6 0 cs.length, .sl 7 0 a.length, .sl 8 0 b.length, .int .i64 0, .int .i64 q3]⟩]) [(3, .rp (.box (ruC r)) 0 0), (4, .rp (.box [zq cs, zq a, zq b, .int .i64 0, .int .i64 qt]) 0 0), (5, .rp (.box (mvC m)) 0 0), (6, .ptr 3 0 0), (7, .ptr 9 0 0), (8, .int .i64 took)]
 ·intro fin
  refine zh J J (fun f1 => ?_) (fun f1 => ?_)
  ·have f1 : 0 < took := f1
   rw [if_pos (.inl f1)] at hq3
   subst hq3
   repeat (first | refine zC ?_ | refine zB ?_ | refine zK rfl ?_ | refine zAM rfl rfl rfl ?_ | refine zAZ rfl ?_ | refine zA (zd rfl rfl) ?_ | refine zA (zL rfl rfl rfl rfl rfl rfl) ?_ | refine z8 rfl rfl rfl rfl rfl rfl rfl Nat.zero_lt_one ?_)
   exact fin _ ⟨J, J, J, J, J, J, trivial⟩
  ·have f1 : ¬ 0 < took := f1
   repeat (first | refine zC ?_ | refine zB ?_ | refine zl rfl rfl ?_ | refine zA (zBv rfl rfl) ?_ | refine zA (zd rfl rfl) ?_ | refine zA (zD rfl rfl rfl rfl) ?_ | refine zA (zH rfl rfl rfl rfl rfl rfl) ?_)
   refine zI J (fun f2 => ?_) (fun f2 => ?_)
   ·have f2 : m.fr < 0 := f2
    rw [if_pos (.inr f2)] at hq3
    subst hq3
    repeat (first | refine zC ?_ | refine zB ?_ | refine zK rfl ?_ | refine zA (zL rfl rfl rfl rfl rfl rfl) ?_ | refine z8 rfl rfl rfl rfl rfl rfl rfl Nat.zero_lt_one ?_)
    exact fin _ ⟨J, J, J, J, J, J, trivial⟩
   ·have f2 : ¬ m.fr < 0 := f2
    rw [if_neg (fun q => q.elim f1 f2)] at hq3
    refine zFB ?_
    have e : (if 200 < qt + 1 then (200 : Int) else qt + 1) = q3 := by
     rw [← hq3, Int.min_def]
     split <;> split <;> omega
    refine zAa [none, none, none, some ⟨29, .box poZ⟩, none, none, some ⟨3, .ints .i64 C2⟩, some ⟨3, .ints .i64 A2⟩, some ⟨3, .ints .i64 b⟩, some ⟨29, .box [.sl 6 0 cs.length, .sl 7 0 a.length, .sl 8 0 b.length, .int .i64 0, .int .i64 q3]⟩] (by rw [e]) ?_
    exact fin _ ⟨J, J, J, J, J, J, trivial⟩
 repeat (first | refine zC ?_ | refine zB ?_ | refine zX ?_ | refine zK rfl ?_ | refine zA (zA8 rfl rfl (by omega)) ?_ | refine zA (zD rfl rfl rfl rfl) ?_ | refine zA (zL rfl rfl rfl rfl rfl rfl) ?_ | refine zA (zH rfl rfl rfl rfl rfl rfl) ?_ | refine zA (qpp rfl rfl rfl rfl rfl rfl rfl) ?_ | refine z8 rfl rfl rfl rfl rfl rfl rfl Nat.zero_lt_one ?_)
 have hA2l : A2.length = a.length := by rw [← hA2]; split <;> simp [hA1l]
 have hmk : zBf r ⟨cs, a, b, 0, qt⟩ m = ⟨C2, A2, b, 1 - 0, q3⟩ := by
  have e : zBf r ⟨cs, a, b, 0, qt⟩ m = ⟨(if 0 ≤ m.fr then cs.set m.fr.toNat 0 else cs).set m.to.toNat (2 * m.pc + 0 + 1), (if 0 < zAB ⟨cs, a, b, 0, qt⟩ m.to.toNat ∧ r.keeps = true then (if 0 ≤ m.fr then a else a.set m.pc.toNat (a.getD m.pc.toNat 0 - 1)).set (zAO (zAB ⟨cs, a, b, 0, qt⟩ m.to.toNat)) (min ((if 0 ≤ m.fr then a else a.set m.pc.toNat (a.getD m.pc.toNat 0 - 1)).getD (zAO (zAB ⟨cs, a, b, 0, qt⟩ m.to.toNat)) 0 + 1) 1000) else (if 0 ≤ m.fr then a else a.set m.pc.toNat (a.getD m.pc.toNat 0 - 1))), b, 1 - 0, if 0 < zAB ⟨cs, a, b, 0, qt⟩ m.to.toNat ∨ m.fr < 0 then 0 else min (qt + 1) 200⟩ := rfl
  rw [e, htk2, hC1, hA1, hC2, hA2, hq3]
 refine zW [.sl 6 0 cs.length, .sl 7 0 a.length, .sl 8 0 b.length, .int .i64 (1 - 0), .int .i64 q3] J J J J J J J ?_
 refine rn7 ?_
 refine zAt [none, none, none, none, none, none, some ⟨3, .ints .i64 C2⟩, some ⟨3, .ints .i64 A2⟩, some ⟨3, .ints .i64 b⟩, none] [none, none, none, some ⟨29, .box [.ro (.ints .i64 C2) 0 cs.length, .ro (.ints .i64 A2) 0 a.length, .ro (.ints .i64 b) 0 b.length, .int .i64 (1 - 0), .int .i64 q3]⟩, none, none, none, none, none, none] [(6, .ptr 3 0 0)] ?_ (zB7 (zB7 (zB7 (zB7 (zB7 (zB7 (zB6 zAI (zB6 zAI (zB6 zAI (zB7 zCZ)))))))))) J ?_ (zBr ⟨J, trivial⟩) ?_
 ·intro h o ho
  match h, ho with
  | 0, ho => simp at ho
  | 1, ho => simp at ho
  | 2, ho => simp at ho
  | 3, ho => simp at ho
  | 4, ho => simp at ho
  | 5, ho => simp at ho
  | 6, ho => exact ho
  | 7, ho => exact ho
  | 8, ho => exact ho
  | 9, ho => simp at ho
  | _ + 10, ho => simp at ho
 ·intro h o ho
  match h, ho with
  | 0, ho => simp at ho
  | 1, ho => simp at ho
  | 2, ho => simp at ho
  | 3, ho =>
   cases ho
   refine ⟨fun o h => by simp at h, ⟨29, .box [.sl 6 0 cs.length, .sl 7 0 a.length, .sl 8 0 b.length, .int .i64 (1 - 0), .int .i64 q3]⟩, J, J, J, J, fun i j hi hj => ?_⟩
   obtain rfl : i = 0 := Nat.lt_one_iff.1 hi
   have hj : j < 5 := hj
   match j, hj with
   | 0, _ => exact .inr (.inr ⟨rfl, fun o ho => by cases ho; show 0 + cs.length ≤ C2.length; omega⟩)
   | 1, _ => exact .inr (.inr ⟨rfl, fun o ho => by cases ho; show 0 + a.length ≤ A2.length; omega⟩)
   | 2, _ => exact .inr (.inr ⟨rfl, fun o ho => by cases ho; show 0 + b.length ≤ b.length; omega⟩)
   | 3, _ => exact .inl rfl
   | 4, _ => exact .inl rfl
  | 4, ho => simp at ho
  | 5, ho => simp at ho
  | 6, ho => simp at ho
  | 7, ho => simp at ho
  | 8, ho => simp at ho
  | 9, ho => simp at ho
  | _ + 10, ho => simp at ho
 repeat (refine zu ?_)
 refine zO hR J ?_
 rw [hmk]
 show AV.agg [.ro (.ints .i64 C2) 0 cs.length, .ro (.ints .i64 A2) 0 a.length, .ro (.ints .i64 b) 0 b.length, .int .i64 (1 - 0), .int .i64 q3] = AV.agg [zq C2, zq A2, zq b, .int .i64 (1 - 0), .int .i64 q3]
 unfold zq
 rw [hC2l, hA2l]
end Go.Proofs.YtiifcejepaeepaaDoor
