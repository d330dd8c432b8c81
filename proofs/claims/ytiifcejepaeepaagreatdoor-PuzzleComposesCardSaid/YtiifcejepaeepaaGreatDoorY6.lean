import Derived.Test.YtiifcejepaeepaaGreatDoorY5
set_option linter.unusedVariables false
set_option linter.unusedSimpArgs false
set_option maxRecDepth 100000
set_option maxHeartbeats 4000000
namespace Go.Proofs.YtiifcejepaeepaaGreatDoor
open Go.Ax Go.Ax.Gm Go.RowKit Go.Ax.Idx Go.Ax.Cd
attribute [local irreducible] Ax zCT QOp zb
def dirA : List AV := [.int .i64 1, .int .i64 0, .int .i64 0, .int .i64 1, .int .i64 1, .int .i64 1, .int .i64 1, .int .i64 (-1)]
def zE5 (i : Nat) : Int × Int := dirs.getD i (0, 0)
theorem dirA_at {i : Nat} (hi : i < 4) : (dirA.drop (i * 2)).take 2 = [.int .i64 (zE5 i).1, .int .i64 (zE5 i).2] := by
 match i, hi with
 | 0, _ => rfl
 | 1, _ => rfl
 | 2, _ => rfl
 | 3, _ => rfl
theorem zOW {i : Nat} (hi : i < 4) : -1 ≤ (zE5 i).1 ∧ (zE5 i).1 ≤ 1 ∧ -1 ≤ (zE5 i).2 ∧ (zE5 i).2 ≤ 1 := by
 match i, hi with
 | 0, _ => decide
 | 1, _ => decide
 | 2, _ => decide
 | 3, _ => decide
theorem zOX {i : Nat} (hi : i < 4) (f : Int × Int → Bool) : (dirs.take (i + 1)).any f = ((dirs.take i).any f || f (zE5 i)) := zBw f dirs (0, 0) i hi
theorem row_succ (r : Go.Ax.Gm.Rules) (p : Pos) (player : Int) (n : Nat) (x y dx dy : Int) : zCQ r p player (n + 1) x y dx dy = (zCQ r p player n x y dx dy && zHc r p player (x + n * dx) (y + n * dy)) := by
 unfold zCQ
 rw [List.range_succ, List.all_append]; simp
theorem row_no {r : Go.Ax.Gm.Rules} {p : Pos} {player : Int} {n N : Nat} {x y dx dy : Int} (h : n < N) (ho : zHc r p player (x + n * dx) (y + n * dy) = false) : zCQ r p player N x y dx dy = false := by
 refine Bool.eq_false_iff.2 (fun q => ?_)
 unfold zCQ at q
 have := List.all_eq_true.1 q n (List.mem_range.2 h)
 rw [ho] at this; cases this
theorem own_in {r : Go.Ax.Gm.Rules} {p : Pos} {player x y : Int} (h : zHc r p player x y = true) : 0 ≤ x ∧ x < r.w ∧ 0 ≤ y ∧ y < r.h := by
 unfold zHc at h
 rw [Bool.and_eq_true, Bool.not_eq_true'] at h
 have g := h.1
 unfold zF9 at g
 simp only [Bool.or_eq_false_iff, decide_eq_false_iff_not] at g
 omega
/-- ends.line -/
theorem line_ok (r : Go.Ax.Gm.Rules) (hv : ValidR r) (p : Pos) (S : Sound r p) (player : Int) (N : Nat) (hN : N ≤ 64) : zj Tryz.prog 115 [ruA r, poA p, .int .i64 player, iN N] (.bool (zKp r p player N)) := by
 refine zb.value0 (zM (P := Tryz.prog) (fn := Tryz.f115) rfl rfl (by kernel_rfl) rfl (fun c hR hfix => ?_)) (fix := fun _ => False) (fun _ h => h) rfl rfl
 have hc := (zAv hv S).c
 have hcl := S.cl
 have hw : 1 ≤ r.w ∧ r.w ≤ 8 := ⟨hv.w1, hv.w8⟩
 have hh : 1 ≤ r.h ∧ r.h ≤ 8 := ⟨hv.h1, hv.h8⟩
 refine zZ ?_
 repeat (first | refine zA (zP rfl) ?_ | refine zC ?_ | refine zB ?_ | refine zK rfl ?_ | refine zAQ rfl rfl ?_)
 refine zFs [(3, iN N), (4, .rp (.box (ruC r)) 0 0), (5, .rp (.box (poC p)) 0 0), (6, .rp (.box [.int .i64 player]) 0 0), (8, .bool false)] (zBz (zt rfl) (zBz (zt rfl) (zBz (zt rfl) zCg))) ⟨⟨_, rfl, .inl rfl⟩, ⟨.ptr 0 0 0, rfl, .inr (.inr ⟨rfl, fun o ho => by cases ho; exact Nat.zero_lt_one⟩)⟩, ⟨.ptr 1 0 0, rfl, .inr (.inr ⟨rfl, fun o ho => by cases ho; exact Nat.zero_lt_one⟩)⟩, ⟨.ptr 2 0 0, rfl, .inr (.inr ⟨rfl, fun o ho => by cases ho; exact Nat.zero_lt_one⟩)⟩, ⟨_, rfl, .inl rfl⟩, trivial⟩ ⟨rfl, rfl, rfl, rfl, rfl, trivial⟩ rfl hfix ?_
 refine zB0 ?_
 refine zAA (ι := Nat) (fun k => [(3, iN N), (4, .rp (.box (ruC r)) 0 0), (5, .rp (.box (poC p)) 0 0), (6, .rp (.box [.int .i64 player]) 0 0), (9, .fn 125 [.rp (.box (ruC r)) 0 0, .rp (.box (poC p)) 0 0, .rp (.box [.int .i64 player]) 0 0]), (18, zAB p.cells), (19, iN p.cells.length), (20, iN k)]) (fun _ => [])
  (fun k => k ≤ p.cells.length ∧ (List.range k).any (fun s => dirs.any (fun d => zCQ r p player N ((s : Int).tmod r.w) ((s : Int).tdiv r.w) d.1 d.2)) = false) (fun k => p.cells.length - k) 0 ⟨⟨rfl, rfl, rfl, rfl, rfl, rfl, rfl, rfl, trivial⟩, rfl, Nat.zero_le _, rfl⟩ ?_
 intro k ⟨hk, hno⟩
 refine rn4 ?_
 refine zD rfl (fun q => ?_) (fun q => ?_)
 ·have hk' : k < p.cells.length := by omega
  have hsx : 0 ≤ (k : Int) / r.w ∧ (k : Int) / r.w < r.h ∧ 0 ≤ (k : Int) % r.w ∧ (k : Int) % r.w < r.w := by
   refine ⟨Int.ediv_nonneg (by omega) (by omega), Int.ediv_lt_of_lt_mul (by omega) ?_, Int.emod_nonneg _ (by omega), Int.emod_lt_of_pos _ (by omega)⟩
   rw [Int.mul_comm, ← hcl]; omega
  have hstep : (List.range (k + 1)).any (fun s => dirs.any (fun d => zCQ r p player N ((s : Int).tmod r.w) ((s : Int).tdiv r.w) d.1 d.2)) = dirs.any (fun d => zCQ r p player N ((k : Int) % r.w) ((k : Int) / r.w) d.1 d.2) := by
   rw [List.range_succ, List.any_append, hno, Bool.false_or, ← Int.tdiv_eq_ediv_of_nonneg (show 0 ≤ (k : Int) by omega), ← Int.tmod_eq_emod_of_nonneg (show 0 ≤ (k : Int) by omega)]; simp
  have win : dirs.any (fun d => zCQ r p player N ((k : Int) % r.w) ((k : Int) / r.w) d.1 d.2) = true → zKp r p player N = true := fun h => by
   unfold zKp
   rw [List.any_eq_true]
   refine ⟨k, List.mem_range.2 hk', ?_⟩
   rw [Int.tdiv_eq_ediv_of_nonneg (show 0 ≤ (k : Int) by omega), Int.tmod_eq_emod_of_nonneg (show 0 ≤ (k : Int) by omega)]; exact h
  generalize hX : (k : Int) % r.w = X at hsx hstep win
  generalize hY : (k : Int) / r.w = Y at hsx hstep win
  refine rn9 ?_
  refine zBM 27 (.agg dirA) rfl (AEq.of_eq rfl) ?_
  refine zAA (ι := Nat) (fun i => [(3, iN N), (4, .rp (.box (ruC r)) 0 0), (5, .rp (.box (poC p)) 0 0), (6, .rp (.box [.int .i64 player]) 0 0), (9, .fn 125 [.rp (.box (ruC r)) 0 0, .rp (.box (poC p)) 0 0, .rp (.box [.int .i64 player]) 0 0]), (18, zAB p.cells), (19, iN p.cells.length), (20, iN k), (10, iN k), (27, .agg dirA), (28, iN i)]) (fun _ => [])
   (fun i => i ≤ 4 ∧ (dirs.take i).any (fun d => zCQ r p player N X Y d.1 d.2) = false) (fun i => 4 - i) 0 ⟨⟨rfl, rfl, rfl, rfl, rfl, rfl, rfl, rfl, rfl, rfl, rfl, trivial⟩, rfl, Nat.zero_le _, rfl⟩ ?_
  intro i ⟨hi, hno2⟩
  refine rn4 ?_
  refine zD rfl (fun q2 => ?_) (fun q2 => ?_)
  ·have hi' : i < 4 := by omega
   have hdt := zOX hi' (fun d => zCQ r p player N X Y d.1 d.2)
   rw [hno2, Bool.false_or] at hdt
   have hda := dirA_at hi'
   have hds := zOW hi'
   have hwin2 : zCQ r p player N X Y (zE5 i).1 (zE5 i).2 = true → zKp r p player N = true := fun h => win (List.any_eq_true.2 ⟨zE5 i, by unfold zE5; exact zAL (0, 0) hi', h⟩)
   generalize (zE5 i).1 = dx at hdt hda hds hwin2
   generalize (zE5 i).2 = dy at hdt hda hds hwin2
   refine rn1 ?_
   refine zA (zO3 rfl rfl rfl rfl rfl rfl hda ⟨(by omega), (by show (i : Int) < ((4 : Nat) : Int); omega), (by show i * 2 + 2 ≤ 8; omega)⟩) ?_
   repeat (refine zAG rfl rfl rfl ?_)
   refine zd [.int .i64 dx, .int .i64 dy] rfl rfl rfl rfl rfl rfl rfl ?_
   refine zBC ?_
   refine zB1 12 [(3, iN N), (4, .rp (.box (ruC r)) 0 0), (5, .rp (.box (poC p)) 0 0), (6, .rp (.box [.int .i64 player]) 0 0), (9, .fn 125 [.rp (.box (ruC r)) 0 0, .rp (.box (poC p)) 0 0, .rp (.box [.int .i64 player]) 0 0]), (18, zAB p.cells), (19, iN p.cells.length), (20, iN k), (10, iN k), (27, .agg dirA), (28, iN i)] rfl ⟨rfl, rfl, rfl, rfl, rfl, rfl, rfl, rfl, rfl, rfl, rfl, rfl, trivial⟩ ⟨rfl, rfl, rfl, rfl, rfl, rfl, rfl, rfl, rfl, rfl, rfl, trivial⟩ rfl hfix ?_
   refine zg (by kernel_rfl) ?_
   refine zq (fuel := 0) [0, 1, 2, 3, 4, 5, 6, 7, 8, 9, 10] [(3, iN N), (4, .rp (.box (ruC r)) 0 0), (5, .rp (.box (poC p)) 0 0), (6, .rp (.box [.int .i64 player]) 0 0), (9, .fn 125 [.rp (.box (ruC r)) 0 0, .rp (.box (poC p)) 0 0, .rp (.box [.int .i64 player]) 0 0]), (18, zAB p.cells), (19, iN p.cells.length), (20, iN k), (10, iN k), (27, .agg dirA), (28, iN i), (12, .rp (.box [.int .i64 dx, .int .i64 dy]) 0 0)] ⟨rfl, rfl, rfl, rfl, rfl, rfl, rfl, rfl, rfl, rfl, rfl, rfl, trivial⟩ (by kernel_rfl) (by decide) rfl rfl ?_
   refine zI rfl rfl (zG rfl) ?_
   refine zI rfl rfl (zL rfl rfl rfl rfl rfl rfl) ?_
   refine zI rfl rfl (zF rfl rfl rfl rfl) ?_
   refine zI rfl rfl (zJg rfl rfl (by omega)) ?_
   refine zI rfl rfl (zG rfl) ?_
   refine zI rfl rfl (zL rfl rfl rfl rfl rfl rfl) ?_
   refine zI rfl rfl (zF rfl rfl rfl rfl) ?_
   refine zI rfl rfl (zIY rfl rfl (by omega)) ?_
   refine zI rfl rfl (zP rfl) ?_
   refine zI rfl rfl (zP rfl) ?_
   refine zI rfl rfl (zP rfl) ?_
   refine z7 ?_
   refine zX (by kernel_rfl) ?_
   refine rn1 ?_
   refine zAA (ι := Nat) (fun n => [(3, iN N), (4, .rp (.box (ruC r)) 0 0), (5, .rp (.box (poC p)) 0 0), (6, .rp (.box [.int .i64 player]) 0 0), (9, .fn 125 [.rp (.box (ruC r)) 0 0, .rp (.box (poC p)) 0 0, .rp (.box [.int .i64 player]) 0 0]), (18, zAB p.cells), (19, iN p.cells.length), (20, iN k), (10, iN k), (27, .agg dirA), (28, iN i), (12, .rp (.box [.int .i64 dx, .int .i64 dy]) 0 0), (13, .int .i64 (X + (n : Int) * dx)), (14, .int .i64 (Y + (n : Int) * dy)), (15, iN n)]) (fun _ => [])
    (fun n => n ≤ N ∧ zCQ r p player n X Y dx dy = true) (fun n => N - n) 0 ⟨⟨rfl, rfl, rfl, rfl, rfl, rfl, rfl, rfl, rfl, rfl, rfl, rfl, ?_, ?_, rfl, trivial⟩, rfl, Nat.zero_le _, rfl⟩ ?_
   ·rw [show X + ((0 : Nat) : Int) * dx = X by rw [Int.natCast_zero, Int.zero_mul, Int.add_zero], ← hX]; rfl
   ·rw [show Y + ((0 : Nat) : Int) * dy = Y by rw [Int.natCast_zero, Int.zero_mul, Int.add_zero], ← hY]; rfl
   intro n ⟨hn, hrow⟩
   have hrs := row_succ r p player n X Y dx dy
   rw [hrow, Bool.true_and] at hrs
   have hrn := fun (h : n < N) => row_no (r := r) (p := p) (player := player) (x := X) (y := Y) (dx := dx) (dy := dy) h
   have e1 : X + ((n + 1 : Nat) : Int) * dx = X + (n : Int) * dx + dx := by rw [Int.natCast_add, Int.add_mul, Int.natCast_one, Int.one_mul, Int.add_assoc]
   have e2 : Y + ((n + 1 : Nat) : Int) * dy = Y + (n : Int) * dy + dy := by rw [Int.natCast_add, Int.add_mul, Int.natCast_one, Int.one_mul, Int.add_assoc]
   generalize X + (n : Int) * dx = x at hrs hrn e1 ⊢
   generalize Y + (n : Int) * dy = y at hrs hrn e2 ⊢
   refine rn4 ?_
   refine zn rfl rfl (fun a1 => ?_) (fun a1 => ?_)
   ·have a1 : n < N := by
     have a1 : (n : Int) < (N : Int) := a1
     omega
    refine rn2 ?_
    refine zN rfl rfl rfl (own_ok r hv p S player x y) ?_
    refine rn2 ?_
    refine zAR rfl (fun a2 => ?_) (fun a2 => ?_)
    ·have hin := own_in a2
     rw [a2] at hrs
     refine rn1 ?_
     refine zg (by kernel_rfl) ?_
     refine zW 0 rfl (by kernel_rfl) (by kernel_rfl) (by kernel_rfl) rfl (zG rfl) rfl ?_
     refine zW 1 rfl (by kernel_rfl) (by kernel_rfl) (by kernel_rfl) rfl (zB7 rfl rfl rfl rfl (by first | (simp only [Nat.zero_add, Int.toNat_natCast]; exact rfl) | exact rfl) (by omega)) rfl ?_
     refine zW 4 rfl (by kernel_rfl) (by kernel_rfl) (by kernel_rfl) rfl (zG rfl) rfl ?_
     refine zW 5 rfl (by kernel_rfl) (by kernel_rfl) (by kernel_rfl) rfl (zB7 rfl rfl rfl rfl (by first | (simp only [Nat.zero_add, Int.toNat_natCast]; exact rfl) | exact rfl) (by omega)) rfl ?_
     refine zW 8 rfl (by kernel_rfl) (by kernel_rfl) (by kernel_rfl) rfl (zG rfl) rfl ?_
     refine zW 9 rfl (by kernel_rfl) (by kernel_rfl) (by kernel_rfl) rfl (zBA rfl rfl (by omega)) rfl ?_
     apply zT (H := []) [(3, iN N), (4, .rp (.box (ruC r)) 0 0), (5, .rp (.box (poC p)) 0 0), (6, .rp (.box [.int .i64 player]) 0 0), (9, .fn 125 [.rp (.box (ruC r)) 0 0, .rp (.box (poC p)) 0 0, .rp (.box [.int .i64 player]) 0 0]), (18, zAB p.cells), (19, iN p.cells.length), (20, iN k), (10, iN k), (27, .agg dirA), (28, iN i), (12, .rp (.box [.int .i64 dx, .int .i64 dy]) 0 0), (13, .int .i64 (x + dx)), (14, .int .i64 (y + dy)), (15, .int .i64 ((n : Int) + 1))]
     ·intro fin
      refine zH (is := [2, 6]) (by kernel_rfl) (by simp) rfl ⟨fun o ho => ?_, fun o ho => ?_, trivial⟩
      all_goals (cases ho)
      ·repeat (first | refine zC ?_ | refine zY ?_ | refine zA (zF rfl rfl rfl rfl) ?_)
       refine zW 3 rfl (by kernel_rfl) (by kernel_rfl) (by kernel_rfl) rfl (zBA rfl rfl (by omega)) rfl ?_
       refine zW 10 rfl (by kernel_rfl) (by kernel_rfl) (by kernel_rfl) rfl (zP rfl) rfl ?_
       refine zH (is := [6]) (by kernel_rfl) (by simp) rfl ⟨fun o ho => ?_, trivial⟩
       all_goals (cases ho)
       repeat (first | refine zC ?_ | refine zY ?_ | refine zA (zF rfl rfl rfl rfl) ?_)
       refine zW 7 rfl (by kernel_rfl) (by kernel_rfl) (by kernel_rfl) rfl (zBA rfl rfl (by omega)) rfl ?_
       refine zW 11 rfl (by kernel_rfl) (by kernel_rfl) (by kernel_rfl) rfl (zP rfl) rfl ?_
       refine zW 12 rfl (by kernel_rfl) (by kernel_rfl) (by kernel_rfl) rfl (zP rfl) rfl ?_
       exact fin _ ⟨rfl, rfl, rfl, rfl, rfl, rfl, rfl, rfl, rfl, rfl, rfl, rfl, rfl, rfl, rfl, trivial⟩
      ·repeat (first | refine zC ?_ | refine zY ?_ | refine zA (zF rfl rfl rfl rfl) ?_)
       refine zW 7 rfl (by kernel_rfl) (by kernel_rfl) (by kernel_rfl) rfl (zBA rfl rfl (by omega)) rfl ?_
       refine zH (is := [2]) (by kernel_rfl) (by simp) rfl ⟨fun o ho => ?_, trivial⟩
       all_goals (cases ho)
       repeat (first | refine zC ?_ | refine zY ?_ | refine zA (zF rfl rfl rfl rfl) ?_)
       refine zW 3 rfl (by kernel_rfl) (by kernel_rfl) (by kernel_rfl) rfl (zBA rfl rfl (by omega)) rfl ?_
       refine zW 10 rfl (by kernel_rfl) (by kernel_rfl) (by kernel_rfl) rfl (zP rfl) rfl ?_
       refine zW 11 rfl (by kernel_rfl) (by kernel_rfl) (by kernel_rfl) rfl (zP rfl) rfl ?_
       refine zW 12 rfl (by kernel_rfl) (by kernel_rfl) (by kernel_rfl) rfl (zP rfl) rfl ?_
       exact fin _ ⟨rfl, rfl, rfl, rfl, rfl, rfl, rfl, rfl, rfl, rfl, rfl, rfl, rfl, rfl, rfl, trivial⟩
     refine zX (by kernel_rfl) ?_
     repeat (refine zAa ?_)
     refine zS ⟨n + 1, ⟨by omega, hrs⟩, by omega, ⟨rfl, rfl, rfl, rfl, rfl, rfl, rfl, rfl, rfl, rfl, rfl, rfl, ?_, ?_, rfl, trivial⟩, rfl⟩
     ·rw [e1]; rfl
     ·rw [e2]; rfl
    ·have hno3 := hrn a1 a2
     refine rn5 ?_
     refine zD rfl (fun a3 => ?_) (fun a3 => ?_)
     ·exact absurd (show (n : Int) = (N : Int) from a3) (by omega)
     refine rn5 ?_
     exact zS ⟨i + 1, ⟨by omega, by rw [hdt]; exact hno3⟩, by omega, ⟨rfl, rfl, rfl, rfl, rfl, rfl, rfl, rfl, rfl, rfl, rfl, trivial⟩, rfl⟩
   ·have a1 : n = N := by
     have a1 : ¬ (n : Int) < (N : Int) := a1
     omega
    refine rn6 ?_
    refine zD rfl (fun a3 => ?_) (fun a3 => absurd (show (n : Int) = (N : Int) by omega) a3)
    refine rn6 ?_
    refine zJ hR rfl ?_
    rw [hwin2 (by rw [← a1]; exact hrow)]; rfl
  ·have hi' : i = 4 := by omega
   subst hi'
   refine rn5 ?_
   exact zS ⟨k + 1, ⟨by omega, by rw [hstep]; exact hno2⟩, by omega, ⟨rfl, rfl, rfl, rfl, rfl, rfl, rfl, rfl, trivial⟩, rfl⟩
 ·have hk' : k = p.cells.length := by omega
  subst hk'
  refine rn5 ?_
  refine zJ hR rfl ?_
  unfold zKp; rw [hno]; rfl
/-- ends.holds -/
theorem holds_ok (r : Go.Ax.Gm.Rules) (hv : ValidR r) (p : Pos) (S : Sound r p) (x : En) (hx : zEP r.pcs.length x = 0) (mover : Int) (hm : 0 ≤ mover ∧ mover ≤ 1) : zj Tryz.prog 84 [ruA r, poA p, .agg (enC x), .int .i64 mover] (.bool (zDe r p mover x)) := by
 refine zb.value0 (zM (P := Tryz.prog) (fn := Tryz.f84) rfl rfl (by kernel_rfl) rfl (fun c hR hfix => ?_)) (fix := fun _ => False) (fun _ h => h) rfl rfl
 have hc := (zAv hv S).c
 have hw : 1 ≤ r.w ∧ r.w ≤ 8 := ⟨hv.w1, hv.w8⟩
 have hh : 1 ≤ r.h ∧ r.h ≤ 8 := ⟨hv.h1, hv.h8⟩
 have hn6 := hv.n6
 have hxk : (x.kind = 0 → 1 ≤ x.count ∧ x.count ≤ 64) ∧ (x.kind ≠ 0 → 0 ≤ x.piece ∧ x.piece ≤ 5) ∧ -1 ≤ x.count ∧ x.count ≤ 64 := by
  unfold zEP at hx
  split at hx
  ·rename_i k0
   split at hx
   ·rename_i h; have := Go.Ax.Gm.within_iff.1 h.1; exact ⟨fun _ => by omega, fun q => absurd k0 q, by omega, by omega⟩
   ·cases hx
  ·rename_i k0
   split at hx
   ·split at hx
    ·rename_i h; have := Go.Ax.Gm.within_iff.1 h.2; exact ⟨fun q => absurd q k0, fun _ => by omega, by omega, by omega⟩
    ·cases hx
   ·split at hx
    ·split at hx
     ·rename_i h; have := Go.Ax.Gm.within_iff.1 h.1; have := Go.Ax.Gm.within_iff.1 h.2; exact ⟨fun q => absurd q k0, fun _ => by omega, by omega, by omega⟩
     ·cases hx
    ·cases hx
 obtain ⟨hx0, hx1, hx2⟩ := hxk
 refine zZ ?_
 repeat (first | refine zA (zP rfl) ?_ | refine zC ?_ | refine zB ?_ | refine zK rfl ?_ | refine zAQ rfl rfl ?_)
 refine zFs [(3, .int .i64 mover), (4, .rp (.box (ruC r)) 0 0), (5, .rp (.box (poC p)) 0 0), (6, .rp (.box (enC x)) 0 0)] (zBz (zt rfl) (zBz (zt rfl) (zBz (zt rfl) zCg))) ⟨⟨_, rfl, .inl rfl⟩, ⟨.ptr 0 0 0, rfl, .inr (.inr ⟨rfl, fun o ho => by cases ho; exact Nat.zero_lt_one⟩)⟩, ⟨.ptr 1 0 0, rfl, .inr (.inr ⟨rfl, fun o ho => by cases ho; exact Nat.zero_lt_one⟩)⟩, ⟨.ptr 2 0 0, rfl, .inr (.inr ⟨rfl, fun o ho => by cases ho; exact Nat.zero_lt_one⟩)⟩, trivial⟩ ⟨rfl, rfl, rfl, rfl, trivial⟩ rfl hfix ?_
 refine zB0 ?_
 refine zD rfl (fun k0 => ?_) (fun k0 => ?_)
 ·have k0 : x.kind = 0 := k0
  have hN := hx0 k0
  obtain ⟨N, hNc⟩ : ∃ N : Nat, x.count = (N : Int) := ⟨x.count.toNat, by omega⟩
  repeat (first | refine zA (zG rfl) ?_ | refine zZ ?_ | refine zK rfl ?_ | refine zA (zF rfl rfl rfl rfl) ?_ | refine zA (zL rfl rfl rfl rfl rfl rfl) ?_ | refine zA (zf rfl rfl rfl rfl rfl rfl) ?_)
  rw [hNc]
  refine zN rfl rfl rfl (line_ok r hv p S mover N (by omega)) ?_
  refine rn6 ?_
  refine zJ hR rfl ?_
  unfold zDe; rw [if_pos k0, hNc]; rfl
 have k0 : x.kind ≠ 0 := k0
 have hp := hx1 k0
 refine rn4 ?_
 refine zD rfl (fun k1 => ?_) (fun k1 => ?_)
 ·have k1 : x.kind = 1 := k1
  have hval : zDe r p mover x = zLY r p mover (2 * x.piece + mover + 1) := by unfold zDe; rw [if_neg k0, if_pos k1]
  refine zB0 ?_
  refine zAA (ι := Nat) (fun k => [(3, .int .i64 mover), (4, .rp (.box (ruC r)) 0 0), (5, .rp (.box (poC p)) 0 0), (6, .rp (.box (enC x)) 0 0), (27, zAB p.cells), (28, iN p.cells.length), (29, iN k)]) (fun _ => [])
   (fun k => k ≤ p.cells.length ∧ (List.range k).any (fun s => decide (zAM p s = 2 * x.piece + mover + 1) && zF5 r mover s) = false) (fun k => p.cells.length - k) 0 ⟨⟨rfl, rfl, rfl, rfl, rfl, rfl, rfl, trivial⟩, rfl, Nat.zero_le _, rfl⟩ ?_
  intro k ⟨hk, hno⟩
  refine rn4 ?_
  refine zD rfl (fun q => ?_) (fun q => ?_)
  ·have hk' : k < p.cells.length := by omega
   have hst : (List.range (k + 1)).any (fun s => decide (zAM p s = 2 * x.piece + mover + 1) && zF5 r mover s) = (decide (zAM p k = 2 * x.piece + mover + 1) && zF5 r mover k) := by rw [List.range_succ, List.any_append, hno]; simp
   repeat (first | refine zA (zG rfl) ?_ | refine zA (zP rfl) ?_ | refine zA (zBi rfl rfl rfl) ?_ | refine zC ?_ | refine zB ?_ | refine zZ ?_ | refine zK rfl ?_ | refine zAe ?_ | refine zAO ?_ | refine zA (zi rfl rfl rfl rfl (by first | (simp only [Nat.zero_add, Int.toNat_natCast, Int.toNat_zero]; exact rfl) | exact rfl) (by omega)) ?_ | refine zA (zF rfl rfl rfl rfl) ?_ | refine zA (zL rfl rfl rfl rfl rfl rfl) ?_)
   refine zA (zDC rfl rfl (by omega)) ?_
   refine rn4 ?_
   refine zn rfl rfl (fun a1 => ?_) (fun a1 => ?_)
   ·have a1 : zAM p k = 2 * x.piece + mover + 1 := a1
    rw [decide_eq_true a1, Bool.true_and] at hst
    refine rn6 ?_
    refine zN rfl rfl rfl (zKl r hw hh mover k (by omega)) ?_
    refine rn2 ?_
    refine zAR rfl (fun a2 => ?_) (fun a2 => ?_)
    ·refine rn6 ?_
     refine zJ hR rfl ?_
     rw [hval]
     unfold zLY
     rw [show (List.range p.cells.length).any (fun s => decide (zAM p s = 2 * x.piece + mover + 1) && zF5 r mover s) = true from List.any_eq_true.2 ⟨k, List.mem_range.2 hk', by rw [decide_eq_true a1, a2]; rfl⟩]; rfl
    ·refine rn5 ?_
     exact zS ⟨k + 1, ⟨by omega, by rw [hst]; exact a2⟩, by omega, ⟨rfl, rfl, rfl, rfl, rfl, rfl, rfl, trivial⟩, rfl⟩
   ·have a1 : ¬ zAM p k = 2 * x.piece + mover + 1 := a1
    rw [decide_eq_false a1, Bool.false_and] at hst
    refine rn6 ?_
    exact zS ⟨k + 1, ⟨by omega, hst⟩, by omega, ⟨rfl, rfl, rfl, rfl, rfl, rfl, rfl, trivial⟩, rfl⟩
  ·have hk' : k = p.cells.length := by omega
   subst hk'
   refine rn6 ?_
   refine zJ hR rfl ?_
   rw [hval]; unfold zLY; rw [hno]; rfl
 ·have k1 : ¬ x.kind = 1 := k1
  have hval : zDe r p mover x = decide (((p.cells.filter (fun c => decide (c = 2 * x.piece + 1 - mover + 1))).length : Int) < x.count) := by unfold zDe; rw [if_neg k0, if_neg k1]
  refine zB0 ?_
  refine zAA (ι := Nat) (fun k => [(3, .int .i64 mover), (4, .rp (.box (ruC r)) 0 0), (5, .rp (.box (poC p)) 0 0), (6, .rp (.box (enC x)) 0 0), (11, .int .i64 (((p.cells.take k).filter (fun c => decide (c = 2 * x.piece + 1 - mover + 1))).length : Nat)), (50, zAB p.cells), (51, iN p.cells.length), (52, iN k)]) (fun _ => [])
   (fun k => k ≤ p.cells.length) (fun k => p.cells.length - k) 0 ⟨⟨rfl, rfl, rfl, rfl, rfl, rfl, rfl, rfl, trivial⟩, rfl, Nat.zero_le _⟩ ?_
  intro k hk
  refine rn4 ?_
  refine zD rfl (fun q => ?_) (fun q => ?_)
  ·have hk' : k < p.cells.length := by omega
   have hfl : ((p.cells.take k).filter (fun c => decide (c = 2 * x.piece + 1 - mover + 1))).length ≤ k := Nat.le_trans (List.length_filter_le ..) (by rw [List.length_take]; exact Nat.min_le_left _ _)
   have htk := zz p.cells 0 k hk'
   repeat (first | refine zA (zG rfl) ?_ | refine zA (zP rfl) ?_ | refine zA (zBi rfl rfl rfl) ?_ | refine zC ?_ | refine zB ?_ | refine zZ ?_ | refine zK rfl ?_ | refine zAe ?_ | refine zAO ?_ | refine zA (zi rfl rfl rfl rfl (by first | (simp only [Nat.zero_add, Int.toNat_natCast, Int.toNat_zero]; exact rfl) | exact rfl) (by omega)) ?_ | refine zA (zF rfl rfl rfl rfl) ?_ | refine zA (zL rfl rfl rfl rfl rfl rfl) ?_)
   refine zA (zDC rfl rfl (by omega)) ?_
   repeat (first | refine zA (zG rfl) ?_ | refine zC ?_ | refine zB ?_ | refine zA (zBb rfl rfl) ?_ | refine zA (zBA rfl rfl (by omega)) ?_ | refine zA (zBR rfl rfl (by omega)) ?_)
   refine zD rfl (fun a1 => ?_) (fun a1 => ?_)
   ·have a1 : p.cells.getD k 0 = 2 * x.piece + 1 - mover + 1 := a1
    have e : ((p.cells.take (k + 1)).filter (fun c => decide (c = 2 * x.piece + 1 - mover + 1))).length = ((p.cells.take k).filter (fun c => decide (c = 2 * x.piece + 1 - mover + 1))).length + 1 := by rw [htk, List.filter_append, List.length_append, List.filter_cons_of_pos (by exact decide_eq_true a1)]; rfl
    refine rn5 ?_
    exact zS ⟨k + 1, by omega, by omega, ⟨rfl, rfl, rfl, rfl, by rw [e]; rfl, rfl, rfl, rfl, trivial⟩, rfl⟩
   ·have a1 : ¬ p.cells.getD k 0 = 2 * x.piece + 1 - mover + 1 := a1
    have e : ((p.cells.take (k + 1)).filter (fun c => decide (c = 2 * x.piece + 1 - mover + 1))).length = ((p.cells.take k).filter (fun c => decide (c = 2 * x.piece + 1 - mover + 1))).length := by rw [htk, List.filter_append, List.length_append, List.filter_cons_of_neg (by rw [decide_eq_false a1]; exact Bool.false_ne_true)]; rfl
    refine rn5 ?_
    exact zS ⟨k + 1, by omega, by omega, ⟨rfl, rfl, rfl, rfl, by rw [e]; rfl, rfl, rfl, rfl, trivial⟩, rfl⟩
  ·have hk' : k = p.cells.length := by omega
   subst hk'
   rw [List.take_length]
   repeat (first | refine zA (zG rfl) ?_ | refine zA (zP rfl) ?_ | refine zC ?_ | refine zB ?_ | refine zZ ?_ | refine zK rfl ?_ | refine zCz ?_ | refine zA1 ?_ | refine zA0 ?_ | refine zBI ?_ | refine zAC ?_ | refine zA (zCK rfl rfl) ?_ | refine zA (zF rfl rfl rfl rfl) ?_ | refine zA (zL rfl rfl rfl rfl rfl rfl) ?_)
   refine zJ hR rfl ?_
   rw [hval]; rfl
/-- ends.Result$1 -/
theorem zNf (r : Go.Ax.Gm.Rules) (hv : ValidR r) (p : Pos) (S : Sound r p) (x : En) (hx : zEP r.pcs.length x = 0) (mover : Int) (hm : 0 ≤ mover ∧ mover ≤ 1) : zj Tryz.prog 83 [.agg (enC x), .rp (.box (ruC r)) 0 0, .rp (.box (poC p)) 0 0, .rp (.box [.int .i64 mover]) 0 0] (.bool (zDe r p mover x)) := by
 refine zb.value0 (zM (P := Tryz.prog) (fn := Tryz.f83) rfl rfl (by kernel_rfl) rfl (fun c hR hfix => ?_)) (fix := fun _ => False) (fun _ h => h) rfl rfl
 repeat (first | refine zA (zP rfl) ?_ | refine zC ?_ | refine zB ?_ | refine zZ ?_ | refine zK rfl ?_ | refine zA (zF rfl rfl rfl rfl) ?_ | refine zA (zf rfl rfl rfl rfl rfl rfl) ?_ | refine zA (qpp rfl rfl rfl rfl rfl rfl rfl) ?_ | refine zAQ rfl rfl ?_)
 refine zN rfl rfl rfl (holds_ok r hv p S x hx mover hm) ?_
 refine rn0 ?_
 exact zJ hR rfl rfl
theorem zJL {α : Type} (p : α → Bool) : ∀ l : List α, zDf p l = if l.findIdx p < l.length then ((l.findIdx p : Nat) : Int) else -1
 | [] => rfl
 | x :: r => by
  have ih := zJL p r
  rw [zDf, List.findIdx_cons]
  by_cases h : p x = true
  ·rw [if_pos h, h]; simp
  ·rw [if_neg h, Bool.eq_false_iff.2 h, ih, cond_false, List.length_cons]
   have hle := List.findIdx_le_length (p := p) (xs := r)
   by_cases h2 : r.findIdx p < r.length
   ·rw [if_pos h2, if_neg (by omega), if_pos (by omega)]; omega
   ·rw [if_neg h2, if_pos (by omega), if_neg (by omega)]
theorem zCe {r : Go.Ax.Gm.Rules} {p : Pos} (h : zAs r p = 0) : zAY r = 0 ∧ Sound r p := by
 unfold zAs at h
 split at h
 ·rename_i q; exact absurd h q
 ·rename_i q; exact ⟨Classical.not_not.1 q, zGH.1 h⟩
/-- ends.Result -/
theorem zCO (r : Go.Ax.Gm.Rules) (hv : ValidR r) (p : Pos) (S : Sound r p) : zj Tryz.prog 56 [ruA r, poA p] (.int .i64 (ze r p)) := by
 refine zb.value0 (zM (P := Tryz.prog) (fn := Tryz.f56) rfl rfl (by kernel_rfl) rfl (fun c hR hfix => ?_)) (fix := fun _ => False) (fun _ h => h) rfl rfl
 have htn : 0 ≤ p.turn ∧ p.turn ≤ 1 := by have := S.tn; omega
 have hen := hv.e6
 refine zZ ?_
 repeat (first | refine zA (zP rfl) ?_ | refine zC ?_ | refine zB ?_ | refine zK rfl ?_ | refine zAQ rfl rfl ?_)
 refine zZ ?_
 repeat (first | refine zC ?_ | refine zB ?_ | refine zK rfl ?_ | refine zA (zV rfl rfl rfl rfl rfl) ?_ | refine zA (zBR rfl rfl (by omega)) ?_ | refine zA (zO rfl rfl rfl rfl rfl rfl) ?_ | refine zAH rfl rfl rfl rfl rfl rfl rfl Nat.zero_lt_one ?_ | refine zAG rfl rfl rfl ?_)
 refine zFs [(2, .rp (.box (ruC r)) 0 0), (3, .rp (.box (poC p)) 0 0), (5, .rp (.box [.int .i64 (1 - p.turn)]) 0 0)] (zBz (zt rfl) (zBz (zt rfl) (zBz (zt rfl) zCg))) ⟨⟨.ptr 0 0 0, rfl, .inr (.inr ⟨rfl, fun o ho => by cases ho; exact Nat.zero_lt_one⟩)⟩, ⟨.ptr 1 0 0, rfl, .inr (.inr ⟨rfl, fun o ho => by cases ho; exact Nat.zero_lt_one⟩)⟩, ⟨.ptr 2 0 0, rfl, .inr (.inr ⟨rfl, fun o ho => by cases ho; exact Nat.zero_lt_one⟩)⟩, trivial⟩ ⟨rfl, rfl, rfl, trivial⟩ rfl hfix ?_
 refine zB0 ?_
 have cidx := zMO r.ends r.ends.length 83 [.rp (.box (ruC r)) 0 0, .rp (.box (poC p)) 0 0, .rp (.box [.int .i64 (1 - p.turn)]) 0 0] (zDe r p (1 - p.turn)) (Nat.le_refl _) rfl (by omega) (fun x hx => zNf r hv p S x (hv.en x hx) (1 - p.turn) (by omega))
 rw [List.take_length, zJL] at cidx
 obtain ⟨I, hI⟩ : ∃ I, r.ends.findIdx (zDe r p (1 - p.turn)) = I := ⟨_, rfl⟩
 rw [hI] at cidx
 refine zN rfl rfl rfl cidx ?_
 by_cases hlt : I < r.ends.length
 ·rw [if_pos hlt]
  have hval : ze r p = if (r.ends.getD I en0).loses = true then 1 + p.turn else 1 + (1 - p.turn) := by unfold ze; rw [hI, if_pos hlt]
  refine zB0 ?_
  refine zBM 21 (.bool (r.ends.getD I en0).loses) rfl (AEq.of_eq rfl) ?_
  refine zAR rfl (fun b => ?_) (fun b => ?_)
  ·have b : (r.ends.getD I en0).loses = true := b
   refine zB0 ?_
   refine zN rfl rfl rfl (zI0 p.turn htn) ?_
   refine rn2 ?_
   refine zJ hR rfl ?_
   rw [hval, if_pos b]; rfl
  ·have b : (r.ends.getD I en0).loses = false := b
   refine rn8 ?_
   refine zN rfl rfl rfl (zI0 (1 - p.turn) (by omega)) ?_
   refine rn2 ?_
   refine zJ hR rfl ?_
   rw [hval, if_neg (by rw [b]; exact Bool.false_ne_true)]; rfl
 rw [if_neg hlt]
 have hval : ze r p = if r.quiet ≠ 0 ∧ r.quiet ≤ p.quiet then 3 else if 0 < (zo r p).length then 0 else if r.blocked = 0 then 1 + (1 - p.turn) else if r.blocked = 1 then 1 + p.turn else 3 := by unfold ze; rw [hI, if_neg hlt]
 refine zB0 ?_
 apply zAP (H := []) [(2, .rp (.box (ruC r)) 0 0), (3, .rp (.box (poC p)) 0 0), (5, .rp (.box [.int .i64 (1 - p.turn)]) 0 0), (27, .bool (decide (r.quiet ≠ 0 ∧ r.quiet ≤ p.quiet)))]
 ·intro fin
  refine zn rfl rfl (fun b => ?_) (fun b => ?_)
  ·have b : r.quiet ≠ 0 := b
   repeat (first | refine zA (zP rfl) ?_ | refine zC ?_ | refine zB ?_ | refine zw rfl rfl ?_ | refine zA (zD9 rfl rfl) ?_ | refine zA (zh rfl rfl) ?_ | refine zA (zF rfl rfl rfl rfl) ?_ | refine zA (zL rfl rfl rfl rfl rfl rfl) ?_)
   exact fin _ ⟨rfl, rfl, rfl, congrArg (fun b => some (AV.bool b)) (decide_eq_decide.2 (show r.quiet ≤ p.quiet ↔ _ from ⟨fun h => ⟨b, h⟩, fun h => h.2⟩)), trivial⟩
  ·have b : ¬ r.quiet ≠ 0 := b
   refine zBC ?_
   exact fin _ ⟨rfl, rfl, rfl, congrArg (fun b => some (AV.bool b)) (show false = decide (r.quiet ≠ 0 ∧ r.quiet ≤ p.quiet) from (decide_eq_false (fun h => b h.1)).symm), trivial⟩
 refine zD rfl (fun q1 => ?_) (fun q1 => ?_)
 ·refine rn6 ?_
  refine zJ hR rfl ?_
  rw [hval, if_pos q1]; rfl
 rw [if_neg q1] at hval
 refine rn6 ?_
 refine zN rfl rfl rfl (list_ok r hv p S) ?_
 refine rn6 ?_
 refine zD rfl (fun q2 => ?_) (fun q2 => ?_)
 ·refine rn6 ?_
  refine zJ hR rfl ?_
  rw [hval, if_pos (by omega)]; rfl
 rw [if_neg (by omega)] at hval
 refine zB0 ?_
 refine zD rfl (fun q3 => ?_) (fun q3 => ?_)
 ·refine rn8 ?_
  refine zN rfl rfl rfl (zI0 (1 - p.turn) (by omega)) ?_
  refine rn6 ?_
  refine zJ hR rfl ?_
  rw [hval, if_pos q3]; rfl
 rw [if_neg q3] at hval
 refine zB0 ?_
 refine zD rfl (fun q4 => ?_) (fun q4 => ?_)
 ·refine zB0 ?_
  refine zN rfl rfl rfl (zI0 p.turn htn) ?_
  refine rn6 ?_
  refine zJ hR rfl ?_
  rw [hval, if_pos q4]; rfl
 refine rn5 ?_
 refine zJ hR rfl ?_
 rw [hval, if_neg q4]; rfl
/-- ends.Moves -/
theorem zEl (r : Go.Ax.Gm.Rules) (hv : ValidR r) (p : Pos) (S : Sound r p) : zj Tryz.prog 61 [ruA r, poA p] (zAy (z8 r p)) := by
 refine zb.value0 (zM (P := Tryz.prog) (fn := Tryz.f61) rfl rfl (by kernel_rfl) rfl (fun c hR hfix => ?_)) (fix := fun _ => False) (fun _ h => h) rfl rfl
 refine rn6 ?_
 refine zN rfl rfl rfl (zCO r hv p S) ?_
 refine rn3 ?_
 refine zD rfl (fun q => ?_) (fun q => ?_)
 ·refine rn7 ?_
  refine zBM 4 (zAy []) rfl AEq.nil ?_
  refine rn2 ?_
  refine zJ hR rfl ?_
  unfold z8; rw [if_pos q]; rfl
 ·refine rn6 ?_
  refine zN rfl rfl rfl (list_ok r hv p S) ?_
  refine rn0 ?_
  refine zJ hR rfl ?_
  unfold z8; rw [if_neg q]; rfl
/-- ends.Of -/
theorem zMI (r : Go.Ax.Gm.Rules) (hr : Lens r) (p : Pos) (hp : LenP p) : zj Tryz.prog 20 [ruA r, poA p] (.tup [.int .i64 (if zAs r p ≠ 0 then 0 else ze r p), .int .i64 (zAs r p)]) := by
 refine zb.value0 (zM (P := Tryz.prog) (fn := Tryz.f20) rfl rfl (by kernel_rfl) rfl (fun c hR hfix => ?_)) (fix := fun _ => False) (fun _ h => h) rfl rfl
 refine rn6 ?_
 refine zN rfl rfl rfl (zCN r hr p hp) ?_
 refine rn3 ?_
 refine zD rfl (fun q => ?_) (fun q => ?_)
 ·refine rn2 ?_
  refine zJ hR rfl ?_
  rw [if_pos q]; rfl
 ·obtain ⟨hz, S⟩ := zCe (Classical.not_not.1 q)
  refine rn6 ?_
  refine zN rfl rfl rfl (zCO r (zAp hz) p S) ?_
  refine rn0 ?_
  refine zJ hR rfl ?_
  rw [if_neg q, Classical.not_not.1 q]; rfl
/-- moves.All -/
theorem zK7 (r : Go.Ax.Gm.Rules) (hr : Lens r) (p : Pos) (hp : LenP p) : zj Tryz.prog 32 [ruA r, poA p] (.tup [zAy (if zAs r p ≠ 0 then [] else zo r p), .int .i64 (zAs r p)]) := by
 refine zb.value0 (zM (P := Tryz.prog) (fn := Tryz.f32) rfl rfl (by kernel_rfl) rfl (fun c hR hfix => ?_)) (fix := fun _ => False) (fun _ h => h) rfl rfl
 refine rn6 ?_
 refine zN rfl rfl rfl (zCN r hr p hp) ?_
 refine rn3 ?_
 refine zD rfl (fun q => ?_) (fun q => ?_)
 ·refine rn7 ?_
  refine zBM 4 (zAy []) rfl AEq.nil ?_
  refine rn2 ?_
  refine zJ hR rfl ?_
  rw [if_pos q]; rfl
 ·obtain ⟨hz, S⟩ := zCe (Classical.not_not.1 q)
  refine rn6 ?_
  refine zN rfl rfl rfl (list_ok r (zAp hz) p S) ?_
  refine rn0 ?_
  refine zJ hR rfl ?_
  rw [if_neg q, Classical.not_not.1 q]; rfl
def poZ : List AV := [.nil, .nil, .nil, .int .i64 0, .int .i64 0]
def poB (s : List Int) (x y : AV) : List AV := [zAB s, x, y, .int .i64 0, .int .i64 0]
abbrev hpB (s : List Int) (x y : AV) (l l' : List Int) : zR := [none, some ⟨35, .box poZ⟩, some ⟨35, .box (poB s x y)⟩, some ⟨3, .ints .i64 l⟩, some ⟨3, .ints .i64 l'⟩]
/-- place.Begin, refused -/
theorem begin_no (r : Go.Ax.Gm.Rules) (hr : Lens r) (h : zAY r ≠ 0) : zj Tryz.prog 28 [ruA r] (.tup [poA zu, .int .i64 (zAY r)]) := by
 refine zb.value0 (zM (P := Tryz.prog) (fn := Tryz.f28) rfl rfl (by kernel_rfl) rfl (fun c hR hfix => ?_)) (fix := fun _ => False) (fun _ h => h) rfl rfl
 refine rn6 ?_
 refine zN rfl rfl rfl (zHN r hr) ?_
 refine rn3 ?_
 refine zD rfl (fun h1 => ?_) (fun h1 => absurd h1 (fun q => q h))
 refine rn8 ?_
 refine zd poZ rfl rfl rfl rfl rfl rfl rfl ?_
 refine rn7 ?_
 refine zLx [some ⟨26, .box (ruC r)⟩, some ⟨35, .box (poC zu)⟩] rfl ?_ ?_
 ·intro h o ho
  match h, ho with
  | 0, ho => cases ho; exact ⟨_, rfl, rfl, rfl, rfl, fun _ _ _ _ => AEq.rfl'⟩
  | 1, ho =>
   cases ho
   refine ⟨_, rfl, rfl, rfl, rfl, fun i j hi hj => ?_⟩
   obtain rfl : i = 0 := Nat.lt_one_iff.1 hi
   have hj : j < 5 := hj
   match j, hj with
   | 0, _ => exact AEq.nil
   | 1, _ => exact AEq.nil
   | 2, _ => exact AEq.nil
   | 3, _ => exact AEq.rfl'
   | 4, _ => exact AEq.rfl'
  | _ + 2, ho => simp at ho
 refine rn2 ?_
 exact zJ hR rfl rfl
/-- place.Begin -/
theorem zL0 (r : Go.Ax.Gm.Rules) (hr : Lens r) (h : zAY r = 0) : zj Tryz.prog 28 [ruA r] (.tup [poA (zAK r), .int .i64 0]) := by
 refine zb.value0 (zM (P := Tryz.prog) (fn := Tryz.f28) rfl rfl (by kernel_rfl) rfl (fun c hR hfix => ?_)) (fix := fun _ => False) (fun _ h => h) rfl rfl
 have hs := zMo (zAp h)
 have hpl := hs.pcs
 have hsl := hs.start
 refine rn6 ?_
 refine zN rfl rfl rfl (zHN r hr) ?_
 refine rn3 ?_
 refine zD rfl (fun h1 => absurd h h1) (fun _ => ?_)
 refine rn5 ?_
 refine zN rfl rfl rfl (zI9 r.start (by omega)) ?_
 refine rn8 ?_
 refine zd (poB r.start .nil .nil) rfl rfl rfl rfl rfl rfl rfl ?_
 refine rn5 ?_
 refine zBO [some ⟨26, .box (ruC r)⟩, none, none] [none, some ⟨35, .box poZ⟩, some ⟨35, .box (poB r.start .nil .nil)⟩] [(2, .ptr 1 0 0), (5, .ptr 2 0 0), (19, .ro (zAn r.pcs) 0 r.pcs.length), (20, iN r.pcs.length), (21, .int .i64 ((0 : Nat) : Int))] ?_ (zBz (zt rfl) (zCr (zCr zCg))) rfl ?_ (zCY ⟨rfl, rfl, rfl, rfl, rfl, trivial⟩) ?_
 ·intro h o ho
  match h, ho with
  | 0, ho => exact ho
  | 1, ho => simp at ho
  | 2, ho => simp at ho
  | _ + 3, ho => simp at ho
 ·intro h o ho
  match h, ho with
  | 0, ho => simp at ho
  | 1, ho => cases ho; exact ⟨fun o h => by simp at h, _, rfl, rfl, rfl, rfl, fun _ _ _ _ => .inl rfl⟩
  | 2, ho => cases ho; exact ⟨fun o h => by simp at h, _, rfl, rfl, rfl, rfl, fun _ _ _ _ => .inl rfl⟩
  | _ + 3, ho => simp at ho
 refine zDc 2 ⟨3, .ints .i64 []⟩ (.box (poB r.start (.sl 3 0 0) .nil)) rfl rfl rfl rfl (fun i j hi hj => ?_) ?_
 ·obtain rfl : i = 0 := Nat.lt_one_iff.1 hi
  have hj : j < 5 := hj
  match j, hj with
  | 0, _ => exact .inl rfl
  | 1, _ => exact .inr ⟨rfl, rfl⟩
  | 2, _ => exact .inl rfl
  | 3, _ => exact .inl rfl
  | 4, _ => exact .inl rfl
 refine zDc 2 ⟨3, .ints .i64 []⟩ (.box (poB r.start (.sl 3 0 0) (.sl 4 0 0))) rfl rfl rfl rfl (fun i j hi hj => ?_) ?_
 ·obtain rfl : i = 0 := Nat.lt_one_iff.1 hi
  have hj : j < 5 := hj
  match j, hj with
  | 0, _ => exact .inl rfl
  | 1, _ => exact .inl rfl
  | 2, _ => exact .inr ⟨rfl, rfl⟩
  | 3, _ => exact .inl rfl
  | 4, _ => exact .inl rfl
 refine zAA (ι := Nat) (fun k => [(2, .ptr 1 0 0), (5, .ptr 2 0 0), (19, .ro (zAn r.pcs) 0 r.pcs.length), (20, iN r.pcs.length), (21, iN k)]) (fun k => hpB r.start (.sl 3 0 k) (.sl 4 0 k) ((zBn r).take k) ((zBn r).take k))
  (fun k => k ≤ r.pcs.length) (fun k => r.pcs.length - k) 0 ⟨⟨rfl, rfl, rfl, rfl, rfl, trivial⟩, rfl, Nat.zero_le _⟩ ?_
 intro k hk
 have hhl : (zBn r).length = r.pcs.length := List.length_map ..
 refine rn4 ?_
 refine zD rfl (fun h2 => ?_) (fun h2 => ?_)
 ·have hk' : k < r.pcs.length := by omega
  generalize hp : r.pcs.getD k pc0 = p
  have hph : (zBn r).getD k 0 = p.hand := by rw [← hp]; unfold zBn; simp [List.getD, hk']
  have htk : (zBn r).take (k + 1) = (zBn r).take k ++ [p.hand] := by rw [zz _ 0 k (by omega), hph]
  have htl : ((zBn r).take k).length = k := by rw [List.length_take]; omega
  generalize hA : (zBn r).take k = A at htl htk
  refine zFc ?_
  repeat (refine zAG rfl rfl rfl ?_)
  refine zd (pcC p) rfl rfl rfl rfl rfl (by rw [← hp]; rfl) rfl ?_
  refine rn0 ?_
  refine zBO [none, none, none, none, none, some ⟨114, .box (pcC p)⟩] [none, some ⟨35, .box poZ⟩, some ⟨35, .box (poB r.start (.sl 3 0 k) (.sl 4 0 k))⟩, some ⟨3, .ints .i64 A⟩, some ⟨3, .ints .i64 A⟩, none] [(2, .ptr 1 0 0), (5, .ptr 2 0 0), (19, .ro (zAn r.pcs) 0 r.pcs.length), (20, iN r.pcs.length), (21, iN k), (7, .rp (.box (pcC p)) 0 0)] ?_ (zCr (zCr (zCr (zCr (zCr (zBz (zt rfl) zCg)))))) rfl ?_ ⟨⟨_, rfl, .inl rfl⟩, ⟨_, rfl, .inl rfl⟩, ⟨_, rfl, .inl rfl⟩, ⟨_, rfl, .inl rfl⟩, ⟨_, rfl, .inl rfl⟩, ⟨.ptr 5 0 0, rfl, .inr (.inr ⟨rfl, fun o ho => by cases ho; exact Nat.zero_lt_one⟩)⟩, trivial⟩ ?_
  ·intro h o ho
   match h, ho with
   | 0, ho => simp at ho
   | 1, ho => simp at ho
   | 2, ho => simp at ho
   | 3, ho => simp at ho
   | 4, ho => simp at ho
   | 5, ho => exact ho
   | _ + 6, ho => simp at ho
  ·intro h o ho
   match h, ho with
   | 0, ho => simp at ho
   | 1, ho => cases ho; exact ⟨fun o h => by simp at h, _, rfl, rfl, rfl, rfl, fun _ _ _ _ => .inl rfl⟩
   | 2, ho => cases ho; exact ⟨fun o h => by simp at h, _, rfl, rfl, rfl, rfl, fun _ _ _ _ => .inl rfl⟩
   | 3, ho => cases ho; exact ⟨fun o h => by simp at h, _, rfl, rfl, rfl, rfl, fun _ _ _ _ => .inl rfl⟩
   | 4, ho => cases ho; exact ⟨fun o h => by simp at h, _, rfl, rfl, rfl, rfl, fun _ _ _ _ => .inl rfl⟩
   | 5, ho => simp at ho
   | _ + 6, ho => simp at ho
  have hb : (k + 1) * 8 ≤ 140737488355328 ∧ k + 1 ≤ 9223372036854775807 := by omega
  refine zg (by kernel_rfl) ?_
  refine zW 0 rfl (by kernel_rfl) (by kernel_rfl) (by kernel_rfl) rfl (zO rfl rfl rfl rfl rfl rfl) rfl ?_
  refine zW 1 rfl (by kernel_rfl) (by kernel_rfl) (by kernel_rfl) rfl (zAk rfl rfl rfl rfl (by first | (simp only [Nat.zero_add, Int.toNat_natCast]; exact rfl) | exact rfl) (by omega)) rfl ?_
  refine zW 3 rfl (by kernel_rfl) (by kernel_rfl) (by kernel_rfl) rfl (zL rfl rfl rfl rfl rfl rfl) rfl ?_
  refine zW 7 rfl (by kernel_rfl) (by kernel_rfl) (by kernel_rfl) rfl (zO rfl rfl rfl rfl rfl rfl) rfl ?_
  refine zW 8 rfl (by kernel_rfl) (by kernel_rfl) (by kernel_rfl) rfl (zAk rfl rfl rfl rfl (by first | (simp only [Nat.zero_add, Int.toNat_natCast]; exact rfl) | exact rfl) (by omega)) rfl ?_
  refine zW 10 rfl (by kernel_rfl) (by kernel_rfl) (by kernel_rfl) rfl (zL rfl rfl rfl rfl rfl rfl) rfl ?_
  refine zW 14 rfl (by kernel_rfl) (by kernel_rfl) (by kernel_rfl) rfl (zO rfl rfl rfl rfl rfl rfl) rfl ?_
  refine zW 17 rfl (by kernel_rfl) (by kernel_rfl) (by kernel_rfl) rfl (zO rfl rfl rfl rfl rfl rfl) rfl ?_
  apply zT (H := [none, some ⟨35, .box poZ⟩, some ⟨35, .box (poB r.start .any .any)⟩, some ⟨3, .ints .i64 (A ++ [p.hand])⟩, some ⟨3, .ints .i64 (A ++ [p.hand])⟩, none]) [(2, .ptr 1 0 0), (5, .ptr 2 0 0), (19, .ro (zAn r.pcs) 0 r.pcs.length), (20, iN r.pcs.length), (21, iN k), (31, .sl 3 0 (k + 1)), (38, .sl 4 0 (k + 1)), (40, .ptr 2 0 1), (41, .ptr 2 0 1)]
  intro fin
  apply zT (H := [none, some ⟨35, .box poZ⟩, some ⟨35, .box (poB r.start .any (.sl 4 0 k))⟩, some ⟨3, .ints .i64 (A ++ [p.hand])⟩, some ⟨3, .ints .i64 A⟩, none]) [(2, .ptr 1 0 0), (5, .ptr 2 0 0), (19, .ro (zAn r.pcs) 0 r.pcs.length), (20, iN r.pcs.length), (21, iN k), (7, .rp (.box (pcC p)) 0 0), (26, .ptr 2 0 1), (28, .rp (.box (pcC p)) 0 1), (33, .ptr 2 0 2), (35, .rp (.box (pcC p)) 0 1), (39, .ptr 2 0 1), (41, .ptr 2 0 1), (31, .sl 3 0 (k + 1)), (34, .sl 4 0 k), (37, .ro (.ints .i64 [p.hand]) 0 1), (40, .ptr 2 0 1)]
  intro s45
  apply zT (H := [none, some ⟨35, .box poZ⟩, some ⟨35, .box (poB r.start .any .any)⟩, some ⟨3, .ints .i64 (A ++ [p.hand])⟩, some ⟨3, .ints .i64 (A ++ [p.hand])⟩, none]) [(2, .ptr 1 0 0), (5, .ptr 2 0 0), (19, .ro (zAn r.pcs) 0 r.pcs.length), (20, iN r.pcs.length), (21, iN k), (7, .rp (.box (pcC p)) 0 0), (26, .ptr 2 0 1), (28, .rp (.box (pcC p)) 0 1), (33, .ptr 2 0 2), (35, .rp (.box (pcC p)) 0 1), (39, .ptr 2 0 1), (41, .ptr 2 0 1), (31, .sl 3 0 (k + 1)), (38, .sl 4 0 (k + 1))]
  intro s44
  apply zT (H := [none, some ⟨35, .box poZ⟩, some ⟨35, .box (poB r.start .any (.sl 4 0 k))⟩, some ⟨3, .ints .i64 (A ++ [p.hand])⟩, some ⟨3, .ints .i64 A⟩, none]) [(2, .ptr 1 0 0), (5, .ptr 2 0 0), (19, .ro (zAn r.pcs) 0 r.pcs.length), (20, iN r.pcs.length), (21, iN k), (7, .rp (.box (pcC p)) 0 0), (26, .ptr 2 0 1), (28, .rp (.box (pcC p)) 0 1), (33, .ptr 2 0 2), (35, .rp (.box (pcC p)) 0 1), (39, .ptr 2 0 1), (41, .ptr 2 0 1), (31, .sl 3 0 (k + 1)), (34, .sl 4 0 k), (36, .int .i64 p.hand), (40, .ptr 2 0 1)]
  intro s43
  apply zT (H := [none, some ⟨35, .box poZ⟩, some ⟨35, .box (poB r.start .any (.sl 4 0 k))⟩, some ⟨3, .ints .i64 (A ++ [p.hand])⟩, some ⟨3, .ints .i64 A⟩, none]) [(2, .ptr 1 0 0), (5, .ptr 2 0 0), (19, .ro (zAn r.pcs) 0 r.pcs.length), (20, iN r.pcs.length), (21, iN k), (7, .rp (.box (pcC p)) 0 0), (26, .ptr 2 0 1), (28, .rp (.box (pcC p)) 0 1), (33, .ptr 2 0 2), (35, .rp (.box (pcC p)) 0 1), (39, .ptr 2 0 1), (41, .ptr 2 0 1), (31, .sl 3 0 (k + 1)), (34, .sl 4 0 k), (37, .ro (.ints .i64 [p.hand]) 0 1)]
  intro s42
  apply zT (H := [none, some ⟨35, .box poZ⟩, some ⟨35, .box (poB r.start (.sl 3 0 k) (.sl 4 0 k))⟩, some ⟨3, .ints .i64 A⟩, some ⟨3, .ints .i64 A⟩, none]) [(2, .ptr 1 0 0), (5, .ptr 2 0 0), (19, .ro (zAn r.pcs) 0 r.pcs.length), (20, iN r.pcs.length), (21, iN k), (7, .rp (.box (pcC p)) 0 0), (26, .ptr 2 0 1), (28, .rp (.box (pcC p)) 0 1), (33, .ptr 2 0 2), (35, .rp (.box (pcC p)) 0 1), (39, .ptr 2 0 1), (41, .ptr 2 0 1), (27, .sl 3 0 k), (30, .ro (.ints .i64 [p.hand]) 0 1), (34, .sl 4 0 k), (37, .ro (.ints .i64 [p.hand]) 0 1)]
  intro s41
  apply zT (H := [none, some ⟨35, .box poZ⟩, some ⟨35, .box (poB r.start .any (.sl 4 0 k))⟩, some ⟨3, .ints .i64 (A ++ [p.hand])⟩, some ⟨3, .ints .i64 A⟩, none]) [(2, .ptr 1 0 0), (5, .ptr 2 0 0), (19, .ro (zAn r.pcs) 0 r.pcs.length), (20, iN r.pcs.length), (21, iN k), (7, .rp (.box (pcC p)) 0 0), (26, .ptr 2 0 1), (28, .rp (.box (pcC p)) 0 1), (33, .ptr 2 0 2), (35, .rp (.box (pcC p)) 0 1), (39, .ptr 2 0 1), (41, .ptr 2 0 1), (31, .sl 3 0 (k + 1)), (37, .ro (.ints .i64 [p.hand]) 0 1)]
  intro s40
  apply zT (H := [none, some ⟨35, .box poZ⟩, some ⟨35, .box (poB r.start .any (.sl 4 0 k))⟩, some ⟨3, .ints .i64 (A ++ [p.hand])⟩, some ⟨3, .ints .i64 A⟩, none]) [(2, .ptr 1 0 0), (5, .ptr 2 0 0), (19, .ro (zAn r.pcs) 0 r.pcs.length), (20, iN r.pcs.length), (21, iN k), (7, .rp (.box (pcC p)) 0 0), (26, .ptr 2 0 1), (28, .rp (.box (pcC p)) 0 1), (33, .ptr 2 0 2), (35, .rp (.box (pcC p)) 0 1), (39, .ptr 2 0 1), (41, .ptr 2 0 1), (31, .sl 3 0 (k + 1)), (34, .sl 4 0 k), (40, .ptr 2 0 1)]
  intro s39
  apply zT (H := [none, some ⟨35, .box poZ⟩, some ⟨35, .box (poB r.start .any (.sl 4 0 k))⟩, some ⟨3, .ints .i64 (A ++ [p.hand])⟩, some ⟨3, .ints .i64 A⟩, none]) [(2, .ptr 1 0 0), (5, .ptr 2 0 0), (19, .ro (zAn r.pcs) 0 r.pcs.length), (20, iN r.pcs.length), (21, iN k), (7, .rp (.box (pcC p)) 0 0), (26, .ptr 2 0 1), (28, .rp (.box (pcC p)) 0 1), (33, .ptr 2 0 2), (35, .rp (.box (pcC p)) 0 1), (39, .ptr 2 0 1), (41, .ptr 2 0 1), (31, .sl 3 0 (k + 1)), (34, .sl 4 0 k), (36, .int .i64 p.hand)]
  intro s38
  apply zT (H := [none, some ⟨35, .box poZ⟩, some ⟨35, .box (poB r.start (.sl 3 0 k) (.sl 4 0 k))⟩, some ⟨3, .ints .i64 A⟩, some ⟨3, .ints .i64 A⟩, none]) [(2, .ptr 1 0 0), (5, .ptr 2 0 0), (19, .ro (zAn r.pcs) 0 r.pcs.length), (20, iN r.pcs.length), (21, iN k), (7, .rp (.box (pcC p)) 0 0), (26, .ptr 2 0 1), (28, .rp (.box (pcC p)) 0 1), (33, .ptr 2 0 2), (35, .rp (.box (pcC p)) 0 1), (39, .ptr 2 0 1), (41, .ptr 2 0 1), (30, .ro (.ints .i64 [p.hand]) 0 1), (34, .sl 4 0 k), (37, .ro (.ints .i64 [p.hand]) 0 1)]
  intro s37
  apply zT (H := [none, some ⟨35, .box poZ⟩, some ⟨35, .box (poB r.start (.sl 3 0 k) (.sl 4 0 k))⟩, some ⟨3, .ints .i64 A⟩, some ⟨3, .ints .i64 A⟩, none]) [(2, .ptr 1 0 0), (5, .ptr 2 0 0), (19, .ro (zAn r.pcs) 0 r.pcs.length), (20, iN r.pcs.length), (21, iN k), (7, .rp (.box (pcC p)) 0 0), (26, .ptr 2 0 1), (28, .rp (.box (pcC p)) 0 1), (33, .ptr 2 0 2), (35, .rp (.box (pcC p)) 0 1), (39, .ptr 2 0 1), (41, .ptr 2 0 1), (27, .sl 3 0 k), (29, .int .i64 p.hand), (34, .sl 4 0 k), (37, .ro (.ints .i64 [p.hand]) 0 1)]
  intro s36
  apply zT (H := [none, some ⟨35, .box poZ⟩, some ⟨35, .box (poB r.start (.sl 3 0 k) (.sl 4 0 k))⟩, some ⟨3, .ints .i64 A⟩, some ⟨3, .ints .i64 A⟩, none]) [(2, .ptr 1 0 0), (5, .ptr 2 0 0), (19, .ro (zAn r.pcs) 0 r.pcs.length), (20, iN r.pcs.length), (21, iN k), (7, .rp (.box (pcC p)) 0 0), (26, .ptr 2 0 1), (28, .rp (.box (pcC p)) 0 1), (33, .ptr 2 0 2), (35, .rp (.box (pcC p)) 0 1), (39, .ptr 2 0 1), (41, .ptr 2 0 1), (27, .sl 3 0 k), (30, .ro (.ints .i64 [p.hand]) 0 1), (37, .ro (.ints .i64 [p.hand]) 0 1)]
  intro s35
  apply zT (H := [none, some ⟨35, .box poZ⟩, some ⟨35, .box (poB r.start (.sl 3 0 k) (.sl 4 0 k))⟩, some ⟨3, .ints .i64 A⟩, some ⟨3, .ints .i64 A⟩, none]) [(2, .ptr 1 0 0), (5, .ptr 2 0 0), (19, .ro (zAn r.pcs) 0 r.pcs.length), (20, iN r.pcs.length), (21, iN k), (7, .rp (.box (pcC p)) 0 0), (26, .ptr 2 0 1), (28, .rp (.box (pcC p)) 0 1), (33, .ptr 2 0 2), (35, .rp (.box (pcC p)) 0 1), (39, .ptr 2 0 1), (41, .ptr 2 0 1), (27, .sl 3 0 k), (30, .ro (.ints .i64 [p.hand]) 0 1), (34, .sl 4 0 k), (36, .int .i64 p.hand)]
  intro s34
  apply zT (H := [none, some ⟨35, .box poZ⟩, some ⟨35, .box (poB r.start .any (.sl 4 0 k))⟩, some ⟨3, .ints .i64 (A ++ [p.hand])⟩, some ⟨3, .ints .i64 A⟩, none]) [(2, .ptr 1 0 0), (5, .ptr 2 0 0), (19, .ro (zAn r.pcs) 0 r.pcs.length), (20, iN r.pcs.length), (21, iN k), (7, .rp (.box (pcC p)) 0 0), (26, .ptr 2 0 1), (28, .rp (.box (pcC p)) 0 1), (33, .ptr 2 0 2), (35, .rp (.box (pcC p)) 0 1), (39, .ptr 2 0 1), (41, .ptr 2 0 1), (31, .sl 3 0 (k + 1)), (36, .int .i64 p.hand)]
  intro s33
  apply zT (H := [none, some ⟨35, .box poZ⟩, some ⟨35, .box (poB r.start .any (.sl 4 0 k))⟩, some ⟨3, .ints .i64 (A ++ [p.hand])⟩, some ⟨3, .ints .i64 A⟩, none]) [(2, .ptr 1 0 0), (5, .ptr 2 0 0), (19, .ro (zAn r.pcs) 0 r.pcs.length), (20, iN r.pcs.length), (21, iN k), (7, .rp (.box (pcC p)) 0 0), (26, .ptr 2 0 1), (28, .rp (.box (pcC p)) 0 1), (33, .ptr 2 0 2), (35, .rp (.box (pcC p)) 0 1), (39, .ptr 2 0 1), (41, .ptr 2 0 1), (31, .sl 3 0 (k + 1)), (34, .sl 4 0 k)]
  intro s32
  apply zT (H := [none, some ⟨35, .box poZ⟩, some ⟨35, .box (poB r.start (.sl 3 0 k) (.sl 4 0 k))⟩, some ⟨3, .ints .i64 A⟩, some ⟨3, .ints .i64 A⟩, none]) [(2, .ptr 1 0 0), (5, .ptr 2 0 0), (19, .ro (zAn r.pcs) 0 r.pcs.length), (20, iN r.pcs.length), (21, iN k), (7, .rp (.box (pcC p)) 0 0), (26, .ptr 2 0 1), (28, .rp (.box (pcC p)) 0 1), (33, .ptr 2 0 2), (35, .rp (.box (pcC p)) 0 1), (39, .ptr 2 0 1), (41, .ptr 2 0 1), (29, .int .i64 p.hand), (34, .sl 4 0 k), (37, .ro (.ints .i64 [p.hand]) 0 1)]
  intro s31
  apply zT (H := [none, some ⟨35, .box poZ⟩, some ⟨35, .box (poB r.start (.sl 3 0 k) (.sl 4 0 k))⟩, some ⟨3, .ints .i64 A⟩, some ⟨3, .ints .i64 A⟩, none]) [(2, .ptr 1 0 0), (5, .ptr 2 0 0), (19, .ro (zAn r.pcs) 0 r.pcs.length), (20, iN r.pcs.length), (21, iN k), (7, .rp (.box (pcC p)) 0 0), (26, .ptr 2 0 1), (28, .rp (.box (pcC p)) 0 1), (33, .ptr 2 0 2), (35, .rp (.box (pcC p)) 0 1), (39, .ptr 2 0 1), (41, .ptr 2 0 1), (30, .ro (.ints .i64 [p.hand]) 0 1), (37, .ro (.ints .i64 [p.hand]) 0 1)]
  intro s30
  apply zT (H := [none, some ⟨35, .box poZ⟩, some ⟨35, .box (poB r.start (.sl 3 0 k) (.sl 4 0 k))⟩, some ⟨3, .ints .i64 A⟩, some ⟨3, .ints .i64 A⟩, none]) [(2, .ptr 1 0 0), (5, .ptr 2 0 0), (19, .ro (zAn r.pcs) 0 r.pcs.length), (20, iN r.pcs.length), (21, iN k), (7, .rp (.box (pcC p)) 0 0), (26, .ptr 2 0 1), (28, .rp (.box (pcC p)) 0 1), (33, .ptr 2 0 2), (35, .rp (.box (pcC p)) 0 1), (39, .ptr 2 0 1), (41, .ptr 2 0 1), (30, .ro (.ints .i64 [p.hand]) 0 1), (34, .sl 4 0 k), (36, .int .i64 p.hand)]
  intro s29
  apply zT (H := [none, some ⟨35, .box poZ⟩, some ⟨35, .box (poB r.start (.sl 3 0 k) (.sl 4 0 k))⟩, some ⟨3, .ints .i64 A⟩, some ⟨3, .ints .i64 A⟩, none]) [(2, .ptr 1 0 0), (5, .ptr 2 0 0), (19, .ro (zAn r.pcs) 0 r.pcs.length), (20, iN r.pcs.length), (21, iN k), (7, .rp (.box (pcC p)) 0 0), (26, .ptr 2 0 1), (28, .rp (.box (pcC p)) 0 1), (33, .ptr 2 0 2), (35, .rp (.box (pcC p)) 0 1), (39, .ptr 2 0 1), (41, .ptr 2 0 1), (27, .sl 3 0 k), (34, .sl 4 0 k), (37, .ro (.ints .i64 [p.hand]) 0 1)]
  intro s28
  apply zT (H := [none, some ⟨35, .box poZ⟩, some ⟨35, .box (poB r.start (.sl 3 0 k) (.sl 4 0 k))⟩, some ⟨3, .ints .i64 A⟩, some ⟨3, .ints .i64 A⟩, none]) [(2, .ptr 1 0 0), (5, .ptr 2 0 0), (19, .ro (zAn r.pcs) 0 r.pcs.length), (20, iN r.pcs.length), (21, iN k), (7, .rp (.box (pcC p)) 0 0), (26, .ptr 2 0 1), (28, .rp (.box (pcC p)) 0 1), (33, .ptr 2 0 2), (35, .rp (.box (pcC p)) 0 1), (39, .ptr 2 0 1), (41, .ptr 2 0 1), (27, .sl 3 0 k), (29, .int .i64 p.hand), (37, .ro (.ints .i64 [p.hand]) 0 1)]
  intro s27
  apply zT (H := [none, some ⟨35, .box poZ⟩, some ⟨35, .box (poB r.start (.sl 3 0 k) (.sl 4 0 k))⟩, some ⟨3, .ints .i64 A⟩, some ⟨3, .ints .i64 A⟩, none]) [(2, .ptr 1 0 0), (5, .ptr 2 0 0), (19, .ro (zAn r.pcs) 0 r.pcs.length), (20, iN r.pcs.length), (21, iN k), (7, .rp (.box (pcC p)) 0 0), (26, .ptr 2 0 1), (28, .rp (.box (pcC p)) 0 1), (33, .ptr 2 0 2), (35, .rp (.box (pcC p)) 0 1), (39, .ptr 2 0 1), (41, .ptr 2 0 1), (27, .sl 3 0 k), (29, .int .i64 p.hand), (34, .sl 4 0 k), (36, .int .i64 p.hand)]
  intro s26
  apply zT (H := [none, some ⟨35, .box poZ⟩, some ⟨35, .box (poB r.start (.sl 3 0 k) (.sl 4 0 k))⟩, some ⟨3, .ints .i64 A⟩, some ⟨3, .ints .i64 A⟩, none]) [(2, .ptr 1 0 0), (5, .ptr 2 0 0), (19, .ro (zAn r.pcs) 0 r.pcs.length), (20, iN r.pcs.length), (21, iN k), (7, .rp (.box (pcC p)) 0 0), (26, .ptr 2 0 1), (28, .rp (.box (pcC p)) 0 1), (33, .ptr 2 0 2), (35, .rp (.box (pcC p)) 0 1), (39, .ptr 2 0 1), (41, .ptr 2 0 1), (27, .sl 3 0 k), (30, .ro (.ints .i64 [p.hand]) 0 1), (36, .int .i64 p.hand)]
  intro s25
  apply zT (H := [none, some ⟨35, .box poZ⟩, some ⟨35, .box (poB r.start (.sl 3 0 k) (.sl 4 0 k))⟩, some ⟨3, .ints .i64 A⟩, some ⟨3, .ints .i64 A⟩, none]) [(2, .ptr 1 0 0), (5, .ptr 2 0 0), (19, .ro (zAn r.pcs) 0 r.pcs.length), (20, iN r.pcs.length), (21, iN k), (7, .rp (.box (pcC p)) 0 0), (26, .ptr 2 0 1), (28, .rp (.box (pcC p)) 0 1), (33, .ptr 2 0 2), (35, .rp (.box (pcC p)) 0 1), (39, .ptr 2 0 1), (41, .ptr 2 0 1), (27, .sl 3 0 k), (30, .ro (.ints .i64 [p.hand]) 0 1), (34, .sl 4 0 k)]
  intro s24
  apply zT (H := [none, some ⟨35, .box poZ⟩, some ⟨35, .box (poB r.start .any (.sl 4 0 k))⟩, some ⟨3, .ints .i64 (A ++ [p.hand])⟩, some ⟨3, .ints .i64 A⟩, none]) [(2, .ptr 1 0 0), (5, .ptr 2 0 0), (19, .ro (zAn r.pcs) 0 r.pcs.length), (20, iN r.pcs.length), (21, iN k), (7, .rp (.box (pcC p)) 0 0), (26, .ptr 2 0 1), (28, .rp (.box (pcC p)) 0 1), (33, .ptr 2 0 2), (35, .rp (.box (pcC p)) 0 1), (39, .ptr 2 0 1), (41, .ptr 2 0 1), (31, .sl 3 0 (k + 1))]
  intro s23
  apply zT (H := [none, some ⟨35, .box poZ⟩, some ⟨35, .box (poB r.start (.sl 3 0 k) (.sl 4 0 k))⟩, some ⟨3, .ints .i64 A⟩, some ⟨3, .ints .i64 A⟩, none]) [(2, .ptr 1 0 0), (5, .ptr 2 0 0), (19, .ro (zAn r.pcs) 0 r.pcs.length), (20, iN r.pcs.length), (21, iN k), (7, .rp (.box (pcC p)) 0 0), (26, .ptr 2 0 1), (28, .rp (.box (pcC p)) 0 1), (33, .ptr 2 0 2), (35, .rp (.box (pcC p)) 0 1), (39, .ptr 2 0 1), (41, .ptr 2 0 1), (34, .sl 4 0 k), (37, .ro (.ints .i64 [p.hand]) 0 1)]
  intro s22
  apply zT (H := [none, some ⟨35, .box poZ⟩, some ⟨35, .box (poB r.start (.sl 3 0 k) (.sl 4 0 k))⟩, some ⟨3, .ints .i64 A⟩, some ⟨3, .ints .i64 A⟩, none]) [(2, .ptr 1 0 0), (5, .ptr 2 0 0), (19, .ro (zAn r.pcs) 0 r.pcs.length), (20, iN r.pcs.length), (21, iN k), (7, .rp (.box (pcC p)) 0 0), (26, .ptr 2 0 1), (28, .rp (.box (pcC p)) 0 1), (33, .ptr 2 0 2), (35, .rp (.box (pcC p)) 0 1), (39, .ptr 2 0 1), (41, .ptr 2 0 1), (29, .int .i64 p.hand), (37, .ro (.ints .i64 [p.hand]) 0 1)]
  intro s21
  apply zT (H := [none, some ⟨35, .box poZ⟩, some ⟨35, .box (poB r.start (.sl 3 0 k) (.sl 4 0 k))⟩, some ⟨3, .ints .i64 A⟩, some ⟨3, .ints .i64 A⟩, none]) [(2, .ptr 1 0 0), (5, .ptr 2 0 0), (19, .ro (zAn r.pcs) 0 r.pcs.length), (20, iN r.pcs.length), (21, iN k), (7, .rp (.box (pcC p)) 0 0), (26, .ptr 2 0 1), (28, .rp (.box (pcC p)) 0 1), (33, .ptr 2 0 2), (35, .rp (.box (pcC p)) 0 1), (39, .ptr 2 0 1), (41, .ptr 2 0 1), (29, .int .i64 p.hand), (34, .sl 4 0 k), (36, .int .i64 p.hand)]
  intro s20
  apply zT (H := [none, some ⟨35, .box poZ⟩, some ⟨35, .box (poB r.start (.sl 3 0 k) (.sl 4 0 k))⟩, some ⟨3, .ints .i64 A⟩, some ⟨3, .ints .i64 A⟩, none]) [(2, .ptr 1 0 0), (5, .ptr 2 0 0), (19, .ro (zAn r.pcs) 0 r.pcs.length), (20, iN r.pcs.length), (21, iN k), (7, .rp (.box (pcC p)) 0 0), (26, .ptr 2 0 1), (28, .rp (.box (pcC p)) 0 1), (33, .ptr 2 0 2), (35, .rp (.box (pcC p)) 0 1), (39, .ptr 2 0 1), (41, .ptr 2 0 1), (30, .ro (.ints .i64 [p.hand]) 0 1), (36, .int .i64 p.hand)]
  intro s19
  apply zT (H := [none, some ⟨35, .box poZ⟩, some ⟨35, .box (poB r.start (.sl 3 0 k) (.sl 4 0 k))⟩, some ⟨3, .ints .i64 A⟩, some ⟨3, .ints .i64 A⟩, none]) [(2, .ptr 1 0 0), (5, .ptr 2 0 0), (19, .ro (zAn r.pcs) 0 r.pcs.length), (20, iN r.pcs.length), (21, iN k), (7, .rp (.box (pcC p)) 0 0), (26, .ptr 2 0 1), (28, .rp (.box (pcC p)) 0 1), (33, .ptr 2 0 2), (35, .rp (.box (pcC p)) 0 1), (39, .ptr 2 0 1), (41, .ptr 2 0 1), (30, .ro (.ints .i64 [p.hand]) 0 1), (34, .sl 4 0 k)]
  intro s18
  apply zT (H := [none, some ⟨35, .box poZ⟩, some ⟨35, .box (poB r.start (.sl 3 0 k) (.sl 4 0 k))⟩, some ⟨3, .ints .i64 A⟩, some ⟨3, .ints .i64 A⟩, none]) [(2, .ptr 1 0 0), (5, .ptr 2 0 0), (19, .ro (zAn r.pcs) 0 r.pcs.length), (20, iN r.pcs.length), (21, iN k), (7, .rp (.box (pcC p)) 0 0), (26, .ptr 2 0 1), (28, .rp (.box (pcC p)) 0 1), (33, .ptr 2 0 2), (35, .rp (.box (pcC p)) 0 1), (39, .ptr 2 0 1), (41, .ptr 2 0 1), (27, .sl 3 0 k), (37, .ro (.ints .i64 [p.hand]) 0 1)]
  intro s17
  apply zT (H := [none, some ⟨35, .box poZ⟩, some ⟨35, .box (poB r.start (.sl 3 0 k) (.sl 4 0 k))⟩, some ⟨3, .ints .i64 A⟩, some ⟨3, .ints .i64 A⟩, none]) [(2, .ptr 1 0 0), (5, .ptr 2 0 0), (19, .ro (zAn r.pcs) 0 r.pcs.length), (20, iN r.pcs.length), (21, iN k), (7, .rp (.box (pcC p)) 0 0), (26, .ptr 2 0 1), (28, .rp (.box (pcC p)) 0 1), (33, .ptr 2 0 2), (35, .rp (.box (pcC p)) 0 1), (39, .ptr 2 0 1), (41, .ptr 2 0 1), (27, .sl 3 0 k), (34, .sl 4 0 k), (36, .int .i64 p.hand)]
  intro s16
  apply zT (H := [none, some ⟨35, .box poZ⟩, some ⟨35, .box (poB r.start (.sl 3 0 k) (.sl 4 0 k))⟩, some ⟨3, .ints .i64 A⟩, some ⟨3, .ints .i64 A⟩, none]) [(2, .ptr 1 0 0), (5, .ptr 2 0 0), (19, .ro (zAn r.pcs) 0 r.pcs.length), (20, iN r.pcs.length), (21, iN k), (7, .rp (.box (pcC p)) 0 0), (26, .ptr 2 0 1), (28, .rp (.box (pcC p)) 0 1), (33, .ptr 2 0 2), (35, .rp (.box (pcC p)) 0 1), (39, .ptr 2 0 1), (41, .ptr 2 0 1), (27, .sl 3 0 k), (29, .int .i64 p.hand), (36, .int .i64 p.hand)]
  intro s15
  apply zT (H := [none, some ⟨35, .box poZ⟩, some ⟨35, .box (poB r.start (.sl 3 0 k) (.sl 4 0 k))⟩, some ⟨3, .ints .i64 A⟩, some ⟨3, .ints .i64 A⟩, none]) [(2, .ptr 1 0 0), (5, .ptr 2 0 0), (19, .ro (zAn r.pcs) 0 r.pcs.length), (20, iN r.pcs.length), (21, iN k), (7, .rp (.box (pcC p)) 0 0), (26, .ptr 2 0 1), (28, .rp (.box (pcC p)) 0 1), (33, .ptr 2 0 2), (35, .rp (.box (pcC p)) 0 1), (39, .ptr 2 0 1), (41, .ptr 2 0 1), (27, .sl 3 0 k), (29, .int .i64 p.hand), (34, .sl 4 0 k)]
  intro s14
  apply zT (H := [none, some ⟨35, .box poZ⟩, some ⟨35, .box (poB r.start (.sl 3 0 k) (.sl 4 0 k))⟩, some ⟨3, .ints .i64 A⟩, some ⟨3, .ints .i64 A⟩, none]) [(2, .ptr 1 0 0), (5, .ptr 2 0 0), (19, .ro (zAn r.pcs) 0 r.pcs.length), (20, iN r.pcs.length), (21, iN k), (7, .rp (.box (pcC p)) 0 0), (26, .ptr 2 0 1), (28, .rp (.box (pcC p)) 0 1), (33, .ptr 2 0 2), (35, .rp (.box (pcC p)) 0 1), (39, .ptr 2 0 1), (41, .ptr 2 0 1), (27, .sl 3 0 k), (30, .ro (.ints .i64 [p.hand]) 0 1)]
  intro s13
  apply zT (H := [none, some ⟨35, .box poZ⟩, some ⟨35, .box (poB r.start (.sl 3 0 k) (.sl 4 0 k))⟩, some ⟨3, .ints .i64 A⟩, some ⟨3, .ints .i64 A⟩, none]) [(2, .ptr 1 0 0), (5, .ptr 2 0 0), (19, .ro (zAn r.pcs) 0 r.pcs.length), (20, iN r.pcs.length), (21, iN k), (7, .rp (.box (pcC p)) 0 0), (26, .ptr 2 0 1), (28, .rp (.box (pcC p)) 0 1), (33, .ptr 2 0 2), (35, .rp (.box (pcC p)) 0 1), (39, .ptr 2 0 1), (41, .ptr 2 0 1), (37, .ro (.ints .i64 [p.hand]) 0 1)]
  intro s12
  apply zT (H := [none, some ⟨35, .box poZ⟩, some ⟨35, .box (poB r.start (.sl 3 0 k) (.sl 4 0 k))⟩, some ⟨3, .ints .i64 A⟩, some ⟨3, .ints .i64 A⟩, none]) [(2, .ptr 1 0 0), (5, .ptr 2 0 0), (19, .ro (zAn r.pcs) 0 r.pcs.length), (20, iN r.pcs.length), (21, iN k), (7, .rp (.box (pcC p)) 0 0), (26, .ptr 2 0 1), (28, .rp (.box (pcC p)) 0 1), (33, .ptr 2 0 2), (35, .rp (.box (pcC p)) 0 1), (39, .ptr 2 0 1), (41, .ptr 2 0 1), (34, .sl 4 0 k), (36, .int .i64 p.hand)]
  intro s11
  apply zT (H := [none, some ⟨35, .box poZ⟩, some ⟨35, .box (poB r.start (.sl 3 0 k) (.sl 4 0 k))⟩, some ⟨3, .ints .i64 A⟩, some ⟨3, .ints .i64 A⟩, none]) [(2, .ptr 1 0 0), (5, .ptr 2 0 0), (19, .ro (zAn r.pcs) 0 r.pcs.length), (20, iN r.pcs.length), (21, iN k), (7, .rp (.box (pcC p)) 0 0), (26, .ptr 2 0 1), (28, .rp (.box (pcC p)) 0 1), (33, .ptr 2 0 2), (35, .rp (.box (pcC p)) 0 1), (39, .ptr 2 0 1), (41, .ptr 2 0 1), (29, .int .i64 p.hand), (36, .int .i64 p.hand)]
  intro s10
  apply zT (H := [none, some ⟨35, .box poZ⟩, some ⟨35, .box (poB r.start (.sl 3 0 k) (.sl 4 0 k))⟩, some ⟨3, .ints .i64 A⟩, some ⟨3, .ints .i64 A⟩, none]) [(2, .ptr 1 0 0), (5, .ptr 2 0 0), (19, .ro (zAn r.pcs) 0 r.pcs.length), (20, iN r.pcs.length), (21, iN k), (7, .rp (.box (pcC p)) 0 0), (26, .ptr 2 0 1), (28, .rp (.box (pcC p)) 0 1), (33, .ptr 2 0 2), (35, .rp (.box (pcC p)) 0 1), (39, .ptr 2 0 1), (41, .ptr 2 0 1), (29, .int .i64 p.hand), (34, .sl 4 0 k)]
  intro s9
  apply zT (H := [none, some ⟨35, .box poZ⟩, some ⟨35, .box (poB r.start (.sl 3 0 k) (.sl 4 0 k))⟩, some ⟨3, .ints .i64 A⟩, some ⟨3, .ints .i64 A⟩, none]) [(2, .ptr 1 0 0), (5, .ptr 2 0 0), (19, .ro (zAn r.pcs) 0 r.pcs.length), (20, iN r.pcs.length), (21, iN k), (7, .rp (.box (pcC p)) 0 0), (26, .ptr 2 0 1), (28, .rp (.box (pcC p)) 0 1), (33, .ptr 2 0 2), (35, .rp (.box (pcC p)) 0 1), (39, .ptr 2 0 1), (41, .ptr 2 0 1), (30, .ro (.ints .i64 [p.hand]) 0 1)]
  intro s8
  apply zT (H := [none, some ⟨35, .box poZ⟩, some ⟨35, .box (poB r.start (.sl 3 0 k) (.sl 4 0 k))⟩, some ⟨3, .ints .i64 A⟩, some ⟨3, .ints .i64 A⟩, none]) [(2, .ptr 1 0 0), (5, .ptr 2 0 0), (19, .ro (zAn r.pcs) 0 r.pcs.length), (20, iN r.pcs.length), (21, iN k), (7, .rp (.box (pcC p)) 0 0), (26, .ptr 2 0 1), (28, .rp (.box (pcC p)) 0 1), (33, .ptr 2 0 2), (35, .rp (.box (pcC p)) 0 1), (39, .ptr 2 0 1), (41, .ptr 2 0 1), (27, .sl 3 0 k), (36, .int .i64 p.hand)]
  intro s7
  apply zT (H := [none, some ⟨35, .box poZ⟩, some ⟨35, .box (poB r.start (.sl 3 0 k) (.sl 4 0 k))⟩, some ⟨3, .ints .i64 A⟩, some ⟨3, .ints .i64 A⟩, none]) [(2, .ptr 1 0 0), (5, .ptr 2 0 0), (19, .ro (zAn r.pcs) 0 r.pcs.length), (20, iN r.pcs.length), (21, iN k), (7, .rp (.box (pcC p)) 0 0), (26, .ptr 2 0 1), (28, .rp (.box (pcC p)) 0 1), (33, .ptr 2 0 2), (35, .rp (.box (pcC p)) 0 1), (39, .ptr 2 0 1), (41, .ptr 2 0 1), (27, .sl 3 0 k), (34, .sl 4 0 k)]
  intro s6
  apply zT (H := [none, some ⟨35, .box poZ⟩, some ⟨35, .box (poB r.start (.sl 3 0 k) (.sl 4 0 k))⟩, some ⟨3, .ints .i64 A⟩, some ⟨3, .ints .i64 A⟩, none]) [(2, .ptr 1 0 0), (5, .ptr 2 0 0), (19, .ro (zAn r.pcs) 0 r.pcs.length), (20, iN r.pcs.length), (21, iN k), (7, .rp (.box (pcC p)) 0 0), (26, .ptr 2 0 1), (28, .rp (.box (pcC p)) 0 1), (33, .ptr 2 0 2), (35, .rp (.box (pcC p)) 0 1), (39, .ptr 2 0 1), (41, .ptr 2 0 1), (27, .sl 3 0 k), (29, .int .i64 p.hand)]
  intro s5
  apply zT (H := [none, some ⟨35, .box poZ⟩, some ⟨35, .box (poB r.start (.sl 3 0 k) (.sl 4 0 k))⟩, some ⟨3, .ints .i64 A⟩, some ⟨3, .ints .i64 A⟩, none]) [(2, .ptr 1 0 0), (5, .ptr 2 0 0), (19, .ro (zAn r.pcs) 0 r.pcs.length), (20, iN r.pcs.length), (21, iN k), (7, .rp (.box (pcC p)) 0 0), (26, .ptr 2 0 1), (28, .rp (.box (pcC p)) 0 1), (33, .ptr 2 0 2), (35, .rp (.box (pcC p)) 0 1), (39, .ptr 2 0 1), (41, .ptr 2 0 1), (36, .int .i64 p.hand)]
  intro s4
  apply zT (H := [none, some ⟨35, .box poZ⟩, some ⟨35, .box (poB r.start (.sl 3 0 k) (.sl 4 0 k))⟩, some ⟨3, .ints .i64 A⟩, some ⟨3, .ints .i64 A⟩, none]) [(2, .ptr 1 0 0), (5, .ptr 2 0 0), (19, .ro (zAn r.pcs) 0 r.pcs.length), (20, iN r.pcs.length), (21, iN k), (7, .rp (.box (pcC p)) 0 0), (26, .ptr 2 0 1), (28, .rp (.box (pcC p)) 0 1), (33, .ptr 2 0 2), (35, .rp (.box (pcC p)) 0 1), (39, .ptr 2 0 1), (41, .ptr 2 0 1), (34, .sl 4 0 k)]
  intro s3
  apply zT (H := [none, some ⟨35, .box poZ⟩, some ⟨35, .box (poB r.start (.sl 3 0 k) (.sl 4 0 k))⟩, some ⟨3, .ints .i64 A⟩, some ⟨3, .ints .i64 A⟩, none]) [(2, .ptr 1 0 0), (5, .ptr 2 0 0), (19, .ro (zAn r.pcs) 0 r.pcs.length), (20, iN r.pcs.length), (21, iN k), (7, .rp (.box (pcC p)) 0 0), (26, .ptr 2 0 1), (28, .rp (.box (pcC p)) 0 1), (33, .ptr 2 0 2), (35, .rp (.box (pcC p)) 0 1), (39, .ptr 2 0 1), (41, .ptr 2 0 1), (29, .int .i64 p.hand)]
  intro s2
  apply zT (H := [none, some ⟨35, .box poZ⟩, some ⟨35, .box (poB r.start (.sl 3 0 k) (.sl 4 0 k))⟩, some ⟨3, .ints .i64 A⟩, some ⟨3, .ints .i64 A⟩, none]) [(2, .ptr 1 0 0), (5, .ptr 2 0 0), (19, .ro (zAn r.pcs) 0 r.pcs.length), (20, iN r.pcs.length), (21, iN k), (7, .rp (.box (pcC p)) 0 0), (26, .ptr 2 0 1), (28, .rp (.box (pcC p)) 0 1), (33, .ptr 2 0 2), (35, .rp (.box (pcC p)) 0 1), (39, .ptr 2 0 1), (41, .ptr 2 0 1), (27, .sl 3 0 k)]
  intro s1
  ·refine zH (is := [2, 4, 9, 11]) (by kernel_rfl) (by simp) rfl ⟨fun o ho => ?_, fun o ho => ?_, fun o ho => ?_, fun o ho => ?_, trivial⟩
   all_goals (cases ho)
   ·refine rn4 ?_
    exact s1 _ ⟨rfl, rfl, rfl, rfl, rfl, rfl, rfl, rfl, rfl, rfl, rfl, rfl, rfl, trivial⟩
   ·repeat (first | refine zC ?_ | refine zY ?_ | refine zA (zF rfl rfl rfl rfl) ?_)
    exact s2 _ ⟨rfl, rfl, rfl, rfl, rfl, rfl, rfl, rfl, rfl, rfl, rfl, rfl, rfl, trivial⟩
   ·refine rn4 ?_
    exact s3 _ ⟨rfl, rfl, rfl, rfl, rfl, rfl, rfl, rfl, rfl, rfl, rfl, rfl, rfl, trivial⟩
   ·repeat (first | refine zC ?_ | refine zY ?_ | refine zA (zF rfl rfl rfl rfl) ?_)
    exact s4 _ ⟨rfl, rfl, rfl, rfl, rfl, rfl, rfl, rfl, rfl, rfl, rfl, rfl, rfl, trivial⟩
  ·refine zH (is := [4, 9, 11]) (by kernel_rfl) (by simp) rfl ⟨fun o ho => ?_, fun o ho => ?_, fun o ho => ?_, trivial⟩
   all_goals (cases ho)
   ·repeat (first | refine zC ?_ | refine zY ?_ | refine zA (zF rfl rfl rfl rfl) ?_)
    exact s5 _ ⟨rfl, rfl, rfl, rfl, rfl, rfl, rfl, rfl, rfl, rfl, rfl, rfl, rfl, rfl, trivial⟩
   ·refine rn4 ?_
    exact s6 _ ⟨rfl, rfl, rfl, rfl, rfl, rfl, rfl, rfl, rfl, rfl, rfl, rfl, rfl, rfl, trivial⟩
   ·repeat (first | refine zC ?_ | refine zY ?_ | refine zA (zF rfl rfl rfl rfl) ?_)
    exact s7 _ ⟨rfl, rfl, rfl, rfl, rfl, rfl, rfl, rfl, rfl, rfl, rfl, rfl, rfl, rfl, trivial⟩
  ·refine zH (is := [2, 5, 9, 11]) (by kernel_rfl) (by simp) rfl ⟨fun o ho => ?_, fun o ho => ?_, fun o ho => ?_, fun o ho => ?_, trivial⟩
   all_goals (cases ho)
   ·refine rn4 ?_
    exact s5 _ ⟨rfl, rfl, rfl, rfl, rfl, rfl, rfl, rfl, rfl, rfl, rfl, rfl, rfl, rfl, trivial⟩
   ·refine rn3 ?_
    exact s8 _ ⟨rfl, rfl, rfl, rfl, rfl, rfl, rfl, rfl, rfl, rfl, rfl, rfl, rfl, trivial⟩
   ·refine rn4 ?_
    exact s9 _ ⟨rfl, rfl, rfl, rfl, rfl, rfl, rfl, rfl, rfl, rfl, rfl, rfl, rfl, rfl, trivial⟩
   ·repeat (first | refine zC ?_ | refine zY ?_ | refine zA (zF rfl rfl rfl rfl) ?_)
    exact s10 _ ⟨rfl, rfl, rfl, rfl, rfl, rfl, rfl, rfl, rfl, rfl, rfl, rfl, rfl, rfl, trivial⟩
  ·refine zH (is := [2, 4, 11]) (by kernel_rfl) (by simp) rfl ⟨fun o ho => ?_, fun o ho => ?_, fun o ho => ?_, trivial⟩
   all_goals (cases ho)
   ·refine rn4 ?_
    exact s6 _ ⟨rfl, rfl, rfl, rfl, rfl, rfl, rfl, rfl, rfl, rfl, rfl, rfl, rfl, rfl, trivial⟩
   ·repeat (first | refine zC ?_ | refine zY ?_ | refine zA (zF rfl rfl rfl rfl) ?_)
    exact s9 _ ⟨rfl, rfl, rfl, rfl, rfl, rfl, rfl, rfl, rfl, rfl, rfl, rfl, rfl, rfl, trivial⟩
   ·repeat (first | refine zC ?_ | refine zY ?_ | refine zA (zF rfl rfl rfl rfl) ?_)
    exact s11 _ ⟨rfl, rfl, rfl, rfl, rfl, rfl, rfl, rfl, rfl, rfl, rfl, rfl, rfl, rfl, trivial⟩
  ·refine zH (is := [2, 4, 9, 12]) (by kernel_rfl) (by simp) rfl ⟨fun o ho => ?_, fun o ho => ?_, fun o ho => ?_, fun o ho => ?_, trivial⟩
   all_goals (cases ho)
   ·refine rn4 ?_
    exact s7 _ ⟨rfl, rfl, rfl, rfl, rfl, rfl, rfl, rfl, rfl, rfl, rfl, rfl, rfl, rfl, trivial⟩
   ·repeat (first | refine zC ?_ | refine zY ?_ | refine zA (zF rfl rfl rfl rfl) ?_)
    exact s10 _ ⟨rfl, rfl, rfl, rfl, rfl, rfl, rfl, rfl, rfl, rfl, rfl, rfl, rfl, rfl, trivial⟩
   ·refine rn4 ?_
    exact s11 _ ⟨rfl, rfl, rfl, rfl, rfl, rfl, rfl, rfl, rfl, rfl, rfl, rfl, rfl, rfl, trivial⟩
   ·refine rn3 ?_
    exact s12 _ ⟨rfl, rfl, rfl, rfl, rfl, rfl, rfl, rfl, rfl, rfl, rfl, rfl, rfl, trivial⟩
  ·refine zH (is := [5, 9, 11]) (by kernel_rfl) (by simp) rfl ⟨fun o ho => ?_, fun o ho => ?_, fun o ho => ?_, trivial⟩
   all_goals (cases ho)
   ·refine rn3 ?_
    exact s13 _ ⟨rfl, rfl, rfl, rfl, rfl, rfl, rfl, rfl, rfl, rfl, rfl, rfl, rfl, rfl, trivial⟩
   ·refine rn4 ?_
    exact s14 _ ⟨rfl, rfl, rfl, rfl, rfl, rfl, rfl, rfl, rfl, rfl, rfl, rfl, rfl, rfl, rfl, trivial⟩
   ·repeat (first | refine zC ?_ | refine zY ?_ | refine zA (zF rfl rfl rfl rfl) ?_)
    exact s15 _ ⟨rfl, rfl, rfl, rfl, rfl, rfl, rfl, rfl, rfl, rfl, rfl, rfl, rfl, rfl, rfl, trivial⟩
  ·refine zH (is := [4, 11]) (by kernel_rfl) (by simp) rfl ⟨fun o ho => ?_, fun o ho => ?_, trivial⟩
   all_goals (cases ho)
   ·repeat (first | refine zC ?_ | refine zY ?_ | refine zA (zF rfl rfl rfl rfl) ?_)
    exact s14 _ ⟨rfl, rfl, rfl, rfl, rfl, rfl, rfl, rfl, rfl, rfl, rfl, rfl, rfl, rfl, rfl, trivial⟩
   ·repeat (first | refine zC ?_ | refine zY ?_ | refine zA (zF rfl rfl rfl rfl) ?_)
    exact s16 _ ⟨rfl, rfl, rfl, rfl, rfl, rfl, rfl, rfl, rfl, rfl, rfl, rfl, rfl, rfl, rfl, trivial⟩
  ·refine zH (is := [4, 9, 12]) (by kernel_rfl) (by simp) rfl ⟨fun o ho => ?_, fun o ho => ?_, fun o ho => ?_, trivial⟩
   all_goals (cases ho)
   ·repeat (first | refine zC ?_ | refine zY ?_ | refine zA (zF rfl rfl rfl rfl) ?_)
    exact s15 _ ⟨rfl, rfl, rfl, rfl, rfl, rfl, rfl, rfl, rfl, rfl, rfl, rfl, rfl, rfl, rfl, trivial⟩
   ·refine rn4 ?_
    exact s16 _ ⟨rfl, rfl, rfl, rfl, rfl, rfl, rfl, rfl, rfl, rfl, rfl, rfl, rfl, rfl, rfl, trivial⟩
   ·refine rn3 ?_
    exact s17 _ ⟨rfl, rfl, rfl, rfl, rfl, rfl, rfl, rfl, rfl, rfl, rfl, rfl, rfl, rfl, trivial⟩
  ·refine zH (is := [2, 9, 11]) (by kernel_rfl) (by simp) rfl ⟨fun o ho => ?_, fun o ho => ?_, fun o ho => ?_, trivial⟩
   all_goals (cases ho)
   ·refine rn4 ?_
    exact s13 _ ⟨rfl, rfl, rfl, rfl, rfl, rfl, rfl, rfl, rfl, rfl, rfl, rfl, rfl, rfl, trivial⟩
   ·refine rn4 ?_
    exact s18 _ ⟨rfl, rfl, rfl, rfl, rfl, rfl, rfl, rfl, rfl, rfl, rfl, rfl, rfl, rfl, trivial⟩
   ·repeat (first | refine zC ?_ | refine zY ?_ | refine zA (zF rfl rfl rfl rfl) ?_)
    exact s19 _ ⟨rfl, rfl, rfl, rfl, rfl, rfl, rfl, rfl, rfl, rfl, rfl, rfl, rfl, rfl, trivial⟩
  ·refine zH (is := [2, 5, 11]) (by kernel_rfl) (by simp) rfl ⟨fun o ho => ?_, fun o ho => ?_, fun o ho => ?_, trivial⟩
   all_goals (cases ho)
   ·refine rn4 ?_
    exact s14 _ ⟨rfl, rfl, rfl, rfl, rfl, rfl, rfl, rfl, rfl, rfl, rfl, rfl, rfl, rfl, rfl, trivial⟩
   ·refine rn3 ?_
    exact s18 _ ⟨rfl, rfl, rfl, rfl, rfl, rfl, rfl, rfl, rfl, rfl, rfl, rfl, rfl, rfl, trivial⟩
   ·repeat (first | refine zC ?_ | refine zY ?_ | refine zA (zF rfl rfl rfl rfl) ?_)
    exact s20 _ ⟨rfl, rfl, rfl, rfl, rfl, rfl, rfl, rfl, rfl, rfl, rfl, rfl, rfl, rfl, rfl, trivial⟩
  ·refine zH (is := [2, 5, 9, 12]) (by kernel_rfl) (by simp) rfl ⟨fun o ho => ?_, fun o ho => ?_, fun o ho => ?_, fun o ho => ?_, trivial⟩
   all_goals (cases ho)
   ·refine rn4 ?_
    exact s15 _ ⟨rfl, rfl, rfl, rfl, rfl, rfl, rfl, rfl, rfl, rfl, rfl, rfl, rfl, rfl, rfl, trivial⟩
   ·refine rn3 ?_
    exact s19 _ ⟨rfl, rfl, rfl, rfl, rfl, rfl, rfl, rfl, rfl, rfl, rfl, rfl, rfl, rfl, trivial⟩
   ·refine rn4 ?_
    exact s20 _ ⟨rfl, rfl, rfl, rfl, rfl, rfl, rfl, rfl, rfl, rfl, rfl, rfl, rfl, rfl, rfl, trivial⟩
   ·refine rn3 ?_
    exact s21 _ ⟨rfl, rfl, rfl, rfl, rfl, rfl, rfl, rfl, rfl, rfl, rfl, rfl, rfl, rfl, trivial⟩
  ·refine zH (is := [2, 4, 12]) (by kernel_rfl) (by simp) rfl ⟨fun o ho => ?_, fun o ho => ?_, fun o ho => ?_, trivial⟩
   all_goals (cases ho)
   ·refine rn4 ?_
    exact s16 _ ⟨rfl, rfl, rfl, rfl, rfl, rfl, rfl, rfl, rfl, rfl, rfl, rfl, rfl, rfl, rfl, trivial⟩
   ·repeat (first | refine zC ?_ | refine zY ?_ | refine zA (zF rfl rfl rfl rfl) ?_)
    exact s20 _ ⟨rfl, rfl, rfl, rfl, rfl, rfl, rfl, rfl, rfl, rfl, rfl, rfl, rfl, rfl, rfl, trivial⟩
   ·refine rn3 ?_
    exact s22 _ ⟨rfl, rfl, rfl, rfl, rfl, rfl, rfl, rfl, rfl, rfl, rfl, rfl, rfl, rfl, trivial⟩
  ·refine zH (is := [2, 4, 9]) (by kernel_rfl) (by simp) rfl ⟨fun o ho => ?_, fun o ho => ?_, fun o ho => ?_, trivial⟩
   all_goals (cases ho)
   ·refine rn4 ?_
    exact s17 _ ⟨rfl, rfl, rfl, rfl, rfl, rfl, rfl, rfl, rfl, rfl, rfl, rfl, rfl, rfl, trivial⟩
   ·repeat (first | refine zC ?_ | refine zY ?_ | refine zA (zF rfl rfl rfl rfl) ?_)
    exact s21 _ ⟨rfl, rfl, rfl, rfl, rfl, rfl, rfl, rfl, rfl, rfl, rfl, rfl, rfl, rfl, trivial⟩
   ·refine rn4 ?_
    exact s22 _ ⟨rfl, rfl, rfl, rfl, rfl, rfl, rfl, rfl, rfl, rfl, rfl, rfl, rfl, rfl, trivial⟩
  ·refine zH (is := [6, 9, 11]) (by kernel_rfl) (by simp) rfl ⟨fun o ho => ?_, fun o ho => ?_, fun o ho => ?_, trivial⟩
   all_goals (cases ho)
   ·refine zAo rfl rfl rfl rfl rfl rfl rfl rfl rfl htl rfl rfl (by show 0 + 1 ≤ 1; omega) rfl hb (fun i j _ _ => rfl) (by rw [hfix]; exact fun h => h) ?_
    refine rn1 ?_
    exact s23 _ ⟨rfl, rfl, rfl, rfl, rfl, rfl, rfl, rfl, rfl, rfl, rfl, rfl, rfl, trivial⟩
   ·refine rn4 ?_
    exact s24 _ ⟨rfl, rfl, rfl, rfl, rfl, rfl, rfl, rfl, rfl, rfl, rfl, rfl, rfl, rfl, rfl, trivial⟩
   ·repeat (first | refine zC ?_ | refine zY ?_ | refine zA (zF rfl rfl rfl rfl) ?_)
    exact s25 _ ⟨rfl, rfl, rfl, rfl, rfl, rfl, rfl, rfl, rfl, rfl, rfl, rfl, rfl, rfl, rfl, trivial⟩
  ·refine zH (is := [5, 11]) (by kernel_rfl) (by simp) rfl ⟨fun o ho => ?_, fun o ho => ?_, trivial⟩
   all_goals (cases ho)
   ·refine rn3 ?_
    exact s24 _ ⟨rfl, rfl, rfl, rfl, rfl, rfl, rfl, rfl, rfl, rfl, rfl, rfl, rfl, rfl, rfl, trivial⟩
   ·repeat (first | refine zC ?_ | refine zY ?_ | refine zA (zF rfl rfl rfl rfl) ?_)
    exact s26 _ ⟨rfl, rfl, rfl, rfl, rfl, rfl, rfl, rfl, rfl, rfl, rfl, rfl, rfl, rfl, rfl, rfl, trivial⟩
  ·refine zH (is := [5, 9, 12]) (by kernel_rfl) (by simp) rfl ⟨fun o ho => ?_, fun o ho => ?_, fun o ho => ?_, trivial⟩
   all_goals (cases ho)
   ·refine rn3 ?_
    exact s25 _ ⟨rfl, rfl, rfl, rfl, rfl, rfl, rfl, rfl, rfl, rfl, rfl, rfl, rfl, rfl, rfl, trivial⟩
   ·refine rn4 ?_
    exact s26 _ ⟨rfl, rfl, rfl, rfl, rfl, rfl, rfl, rfl, rfl, rfl, rfl, rfl, rfl, rfl, rfl, rfl, trivial⟩
   ·refine rn3 ?_
    exact s27 _ ⟨rfl, rfl, rfl, rfl, rfl, rfl, rfl, rfl, rfl, rfl, rfl, rfl, rfl, rfl, rfl, trivial⟩
  ·refine zH (is := [4, 12]) (by kernel_rfl) (by simp) rfl ⟨fun o ho => ?_, fun o ho => ?_, trivial⟩
   all_goals (cases ho)
   ·repeat (first | refine zC ?_ | refine zY ?_ | refine zA (zF rfl rfl rfl rfl) ?_)
    exact s26 _ ⟨rfl, rfl, rfl, rfl, rfl, rfl, rfl, rfl, rfl, rfl, rfl, rfl, rfl, rfl, rfl, rfl, trivial⟩
   ·refine rn3 ?_
    exact s28 _ ⟨rfl, rfl, rfl, rfl, rfl, rfl, rfl, rfl, rfl, rfl, rfl, rfl, rfl, rfl, rfl, trivial⟩
  ·refine zH (is := [4, 9]) (by kernel_rfl) (by simp) rfl ⟨fun o ho => ?_, fun o ho => ?_, trivial⟩
   all_goals (cases ho)
   ·repeat (first | refine zC ?_ | refine zY ?_ | refine zA (zF rfl rfl rfl rfl) ?_)
    exact s27 _ ⟨rfl, rfl, rfl, rfl, rfl, rfl, rfl, rfl, rfl, rfl, rfl, rfl, rfl, rfl, rfl, trivial⟩
   ·refine rn4 ?_
    exact s28 _ ⟨rfl, rfl, rfl, rfl, rfl, rfl, rfl, rfl, rfl, rfl, rfl, rfl, rfl, rfl, rfl, trivial⟩
  ·refine zH (is := [2, 11]) (by kernel_rfl) (by simp) rfl ⟨fun o ho => ?_, fun o ho => ?_, trivial⟩
   all_goals (cases ho)
   ·refine rn4 ?_
    exact s24 _ ⟨rfl, rfl, rfl, rfl, rfl, rfl, rfl, rfl, rfl, rfl, rfl, rfl, rfl, rfl, rfl, trivial⟩
   ·repeat (first | refine zC ?_ | refine zY ?_ | refine zA (zF rfl rfl rfl rfl) ?_)
    exact s29 _ ⟨rfl, rfl, rfl, rfl, rfl, rfl, rfl, rfl, rfl, rfl, rfl, rfl, rfl, rfl, rfl, trivial⟩
  ·refine zH (is := [2, 9, 12]) (by kernel_rfl) (by simp) rfl ⟨fun o ho => ?_, fun o ho => ?_, fun o ho => ?_, trivial⟩
   all_goals (cases ho)
   ·refine rn4 ?_
    exact s25 _ ⟨rfl, rfl, rfl, rfl, rfl, rfl, rfl, rfl, rfl, rfl, rfl, rfl, rfl, rfl, rfl, trivial⟩
   ·refine rn4 ?_
    exact s29 _ ⟨rfl, rfl, rfl, rfl, rfl, rfl, rfl, rfl, rfl, rfl, rfl, rfl, rfl, rfl, rfl, trivial⟩
   ·refine rn3 ?_
    exact s30 _ ⟨rfl, rfl, rfl, rfl, rfl, rfl, rfl, rfl, rfl, rfl, rfl, rfl, rfl, rfl, trivial⟩
  ·refine zH (is := [2, 5, 12]) (by kernel_rfl) (by simp) rfl ⟨fun o ho => ?_, fun o ho => ?_, fun o ho => ?_, trivial⟩
   all_goals (cases ho)
   ·refine rn4 ?_
    exact s26 _ ⟨rfl, rfl, rfl, rfl, rfl, rfl, rfl, rfl, rfl, rfl, rfl, rfl, rfl, rfl, rfl, rfl, trivial⟩
   ·refine rn3 ?_
    exact s29 _ ⟨rfl, rfl, rfl, rfl, rfl, rfl, rfl, rfl, rfl, rfl, rfl, rfl, rfl, rfl, rfl, trivial⟩
   ·refine rn3 ?_
    exact s31 _ ⟨rfl, rfl, rfl, rfl, rfl, rfl, rfl, rfl, rfl, rfl, rfl, rfl, rfl, rfl, rfl, trivial⟩
  ·refine zH (is := [2, 5, 9]) (by kernel_rfl) (by simp) rfl ⟨fun o ho => ?_, fun o ho => ?_, fun o ho => ?_, trivial⟩
   all_goals (cases ho)
   ·refine rn4 ?_
    exact s27 _ ⟨rfl, rfl, rfl, rfl, rfl, rfl, rfl, rfl, rfl, rfl, rfl, rfl, rfl, rfl, rfl, trivial⟩
   ·refine rn3 ?_
    exact s30 _ ⟨rfl, rfl, rfl, rfl, rfl, rfl, rfl, rfl, rfl, rfl, rfl, rfl, rfl, rfl, trivial⟩
   ·refine rn4 ?_
    exact s31 _ ⟨rfl, rfl, rfl, rfl, rfl, rfl, rfl, rfl, rfl, rfl, rfl, rfl, rfl, rfl, rfl, trivial⟩
  ·refine zH (is := [2, 4]) (by kernel_rfl) (by simp) rfl ⟨fun o ho => ?_, fun o ho => ?_, trivial⟩
   all_goals (cases ho)
   ·refine rn4 ?_
    exact s28 _ ⟨rfl, rfl, rfl, rfl, rfl, rfl, rfl, rfl, rfl, rfl, rfl, rfl, rfl, rfl, rfl, trivial⟩
   ·repeat (first | refine zC ?_ | refine zY ?_ | refine zA (zF rfl rfl rfl rfl) ?_)
    exact s31 _ ⟨rfl, rfl, rfl, rfl, rfl, rfl, rfl, rfl, rfl, rfl, rfl, rfl, rfl, rfl, rfl, trivial⟩
  ·refine zH (is := [9, 11]) (by kernel_rfl) (by simp) rfl ⟨fun o ho => ?_, fun o ho => ?_, trivial⟩
   all_goals (cases ho)
   ·refine rn4 ?_
    exact s32 _ ⟨rfl, rfl, rfl, rfl, rfl, rfl, rfl, rfl, rfl, rfl, rfl, rfl, rfl, rfl, trivial⟩
   ·repeat (first | refine zC ?_ | refine zY ?_ | refine zA (zF rfl rfl rfl rfl) ?_)
    exact s33 _ ⟨rfl, rfl, rfl, rfl, rfl, rfl, rfl, rfl, rfl, rfl, rfl, rfl, rfl, rfl, trivial⟩
  ·refine zH (is := [6, 11]) (by kernel_rfl) (by simp) rfl ⟨fun o ho => ?_, fun o ho => ?_, trivial⟩
   all_goals (cases ho)
   ·refine zAo rfl rfl rfl rfl rfl rfl rfl rfl rfl htl rfl rfl (by show 0 + 1 ≤ 1; omega) rfl hb (fun i j _ _ => rfl) (by rw [hfix]; exact fun h => h) ?_
    refine rn1 ?_
    exact s32 _ ⟨rfl, rfl, rfl, rfl, rfl, rfl, rfl, rfl, rfl, rfl, rfl, rfl, rfl, rfl, trivial⟩
   ·repeat (first | refine zC ?_ | refine zY ?_ | refine zA (zF rfl rfl rfl rfl) ?_)
    exact s34 _ ⟨rfl, rfl, rfl, rfl, rfl, rfl, rfl, rfl, rfl, rfl, rfl, rfl, rfl, rfl, rfl, rfl, trivial⟩
  ·refine zH (is := [6, 9, 12]) (by kernel_rfl) (by simp) rfl ⟨fun o ho => ?_, fun o ho => ?_, fun o ho => ?_, trivial⟩
   all_goals (cases ho)
   ·refine zAo rfl rfl rfl rfl rfl rfl rfl rfl rfl htl rfl rfl (by show 0 + 1 ≤ 1; omega) rfl hb (fun i j _ _ => rfl) (by rw [hfix]; exact fun h => h) ?_
    refine rn1 ?_
    exact s33 _ ⟨rfl, rfl, rfl, rfl, rfl, rfl, rfl, rfl, rfl, rfl, rfl, rfl, rfl, rfl, trivial⟩
   ·refine rn4 ?_
    exact s34 _ ⟨rfl, rfl, rfl, rfl, rfl, rfl, rfl, rfl, rfl, rfl, rfl, rfl, rfl, rfl, rfl, rfl, trivial⟩
   ·refine rn3 ?_
    exact s35 _ ⟨rfl, rfl, rfl, rfl, rfl, rfl, rfl, rfl, rfl, rfl, rfl, rfl, rfl, rfl, rfl, trivial⟩
  ·refine zH (is := [5, 12]) (by kernel_rfl) (by simp) rfl ⟨fun o ho => ?_, fun o ho => ?_, trivial⟩
   all_goals (cases ho)
   ·refine rn3 ?_
    exact s34 _ ⟨rfl, rfl, rfl, rfl, rfl, rfl, rfl, rfl, rfl, rfl, rfl, rfl, rfl, rfl, rfl, rfl, trivial⟩
   ·refine rn3 ?_
    exact s36 _ ⟨rfl, rfl, rfl, rfl, rfl, rfl, rfl, rfl, rfl, rfl, rfl, rfl, rfl, rfl, rfl, rfl, trivial⟩
  ·refine zH (is := [5, 9]) (by kernel_rfl) (by simp) rfl ⟨fun o ho => ?_, fun o ho => ?_, trivial⟩
   all_goals (cases ho)
   ·refine rn3 ?_
    exact s35 _ ⟨rfl, rfl, rfl, rfl, rfl, rfl, rfl, rfl, rfl, rfl, rfl, rfl, rfl, rfl, rfl, trivial⟩
   ·refine rn4 ?_
    exact s36 _ ⟨rfl, rfl, rfl, rfl, rfl, rfl, rfl, rfl, rfl, rfl, rfl, rfl, rfl, rfl, rfl, rfl, trivial⟩
  ·refine zH (is := [4]) (by kernel_rfl) (by simp) rfl ⟨fun o ho => ?_, trivial⟩
   all_goals (cases ho)
   repeat (first | refine zC ?_ | refine zY ?_ | refine zA (zF rfl rfl rfl rfl) ?_)
   exact s36 _ ⟨rfl, rfl, rfl, rfl, rfl, rfl, rfl, rfl, rfl, rfl, rfl, rfl, rfl, rfl, rfl, rfl, trivial⟩
  ·refine zH (is := [2, 12]) (by kernel_rfl) (by simp) rfl ⟨fun o ho => ?_, fun o ho => ?_, trivial⟩
   all_goals (cases ho)
   ·refine rn4 ?_
    exact s34 _ ⟨rfl, rfl, rfl, rfl, rfl, rfl, rfl, rfl, rfl, rfl, rfl, rfl, rfl, rfl, rfl, rfl, trivial⟩
   ·refine rn3 ?_
    exact s37 _ ⟨rfl, rfl, rfl, rfl, rfl, rfl, rfl, rfl, rfl, rfl, rfl, rfl, rfl, rfl, rfl, trivial⟩
  ·refine zH (is := [2, 9]) (by kernel_rfl) (by simp) rfl ⟨fun o ho => ?_, fun o ho => ?_, trivial⟩
   all_goals (cases ho)
   ·refine rn4 ?_
    exact s35 _ ⟨rfl, rfl, rfl, rfl, rfl, rfl, rfl, rfl, rfl, rfl, rfl, rfl, rfl, rfl, rfl, trivial⟩
   ·refine rn4 ?_
    exact s37 _ ⟨rfl, rfl, rfl, rfl, rfl, rfl, rfl, rfl, rfl, rfl, rfl, rfl, rfl, rfl, rfl, trivial⟩
  ·refine zH (is := [2, 5]) (by kernel_rfl) (by simp) rfl ⟨fun o ho => ?_, fun o ho => ?_, trivial⟩
   all_goals (cases ho)
   ·refine rn4 ?_
    exact s36 _ ⟨rfl, rfl, rfl, rfl, rfl, rfl, rfl, rfl, rfl, rfl, rfl, rfl, rfl, rfl, rfl, rfl, trivial⟩
   ·refine rn3 ?_
    exact s37 _ ⟨rfl, rfl, rfl, rfl, rfl, rfl, rfl, rfl, rfl, rfl, rfl, rfl, rfl, rfl, rfl, trivial⟩
  ·refine zH (is := [11, 15]) (by kernel_rfl) (by simp) rfl ⟨fun o ho => ?_, fun o ho => ?_, trivial⟩
   all_goals (cases ho)
   ·repeat (first | refine zC ?_ | refine zY ?_ | refine zA (zF rfl rfl rfl rfl) ?_)
    exact s38 _ ⟨rfl, rfl, rfl, rfl, rfl, rfl, rfl, rfl, rfl, rfl, rfl, rfl, rfl, rfl, rfl, trivial⟩
   ·refine zJl ?_
    exact s39 _ ⟨rfl, rfl, rfl, rfl, rfl, rfl, rfl, rfl, rfl, rfl, rfl, rfl, rfl, rfl, rfl, trivial⟩
  ·refine zH (is := [9, 12]) (by kernel_rfl) (by simp) rfl ⟨fun o ho => ?_, fun o ho => ?_, trivial⟩
   all_goals (cases ho)
   ·refine rn4 ?_
    exact s38 _ ⟨rfl, rfl, rfl, rfl, rfl, rfl, rfl, rfl, rfl, rfl, rfl, rfl, rfl, rfl, rfl, trivial⟩
   ·refine rn3 ?_
    exact s40 _ ⟨rfl, rfl, rfl, rfl, rfl, rfl, rfl, rfl, rfl, rfl, rfl, rfl, rfl, rfl, trivial⟩
  ·refine zH (is := [6, 12]) (by kernel_rfl) (by simp) rfl ⟨fun o ho => ?_, fun o ho => ?_, trivial⟩
   all_goals (cases ho)
   ·refine zAo rfl rfl rfl rfl rfl rfl rfl rfl rfl htl rfl rfl (by show 0 + 1 ≤ 1; omega) rfl hb (fun i j _ _ => rfl) (by rw [hfix]; exact fun h => h) ?_
    refine rn1 ?_
    exact s38 _ ⟨rfl, rfl, rfl, rfl, rfl, rfl, rfl, rfl, rfl, rfl, rfl, rfl, rfl, rfl, rfl, trivial⟩
   ·refine rn3 ?_
    exact s41 _ ⟨rfl, rfl, rfl, rfl, rfl, rfl, rfl, rfl, rfl, rfl, rfl, rfl, rfl, rfl, rfl, rfl, trivial⟩
  ·refine zH (is := [6, 9]) (by kernel_rfl) (by simp) rfl ⟨fun o ho => ?_, fun o ho => ?_, trivial⟩
   all_goals (cases ho)
   ·refine zAo rfl rfl rfl rfl rfl rfl rfl rfl rfl htl rfl rfl (by show 0 + 1 ≤ 1; omega) rfl hb (fun i j _ _ => rfl) (by rw [hfix]; exact fun h => h) ?_
    refine rn1 ?_
    exact s40 _ ⟨rfl, rfl, rfl, rfl, rfl, rfl, rfl, rfl, rfl, rfl, rfl, rfl, rfl, rfl, trivial⟩
   ·refine rn4 ?_
    exact s41 _ ⟨rfl, rfl, rfl, rfl, rfl, rfl, rfl, rfl, rfl, rfl, rfl, rfl, rfl, rfl, rfl, rfl, trivial⟩
  ·refine zH (is := [5]) (by kernel_rfl) (by simp) rfl ⟨fun o ho => ?_, trivial⟩
   all_goals (cases ho)
   refine rn3 ?_
   exact s41 _ ⟨rfl, rfl, rfl, rfl, rfl, rfl, rfl, rfl, rfl, rfl, rfl, rfl, rfl, rfl, rfl, rfl, trivial⟩
  ·refine zH (is := [2]) (by kernel_rfl) (by simp) rfl ⟨fun o ho => ?_, trivial⟩
   all_goals (cases ho)
   refine rn4 ?_
   exact s41 _ ⟨rfl, rfl, rfl, rfl, rfl, rfl, rfl, rfl, rfl, rfl, rfl, rfl, rfl, rfl, rfl, rfl, trivial⟩
  ·refine zH (is := [12, 15]) (by kernel_rfl) (by simp) rfl ⟨fun o ho => ?_, fun o ho => ?_, trivial⟩
   all_goals (cases ho)
   ·refine rn3 ?_
    exact s42 _ ⟨rfl, rfl, rfl, rfl, rfl, rfl, rfl, rfl, rfl, rfl, rfl, rfl, rfl, rfl, rfl, trivial⟩
   ·refine zJl ?_
    exact s43 _ ⟨rfl, rfl, rfl, rfl, rfl, rfl, rfl, rfl, rfl, rfl, rfl, rfl, rfl, rfl, rfl, rfl, trivial⟩
  ·refine zH (is := [11]) (by kernel_rfl) (by simp) rfl ⟨fun o ho => ?_, trivial⟩
   all_goals (cases ho)
   repeat (first | refine zC ?_ | refine zY ?_ | refine zA (zF rfl rfl rfl rfl) ?_)
   exact s43 _ ⟨rfl, rfl, rfl, rfl, rfl, rfl, rfl, rfl, rfl, rfl, rfl, rfl, rfl, rfl, rfl, rfl, trivial⟩
  ·refine zH (is := [9]) (by kernel_rfl) (by simp) rfl ⟨fun o ho => ?_, trivial⟩
   all_goals (cases ho)
   refine rn4 ?_
   exact s42 _ ⟨rfl, rfl, rfl, rfl, rfl, rfl, rfl, rfl, rfl, rfl, rfl, rfl, rfl, rfl, rfl, trivial⟩
  ·refine zH (is := [6]) (by kernel_rfl) (by simp) rfl ⟨fun o ho => ?_, trivial⟩
   all_goals (cases ho)
   refine zAo rfl rfl rfl rfl rfl rfl rfl rfl rfl htl rfl rfl (by show 0 + 1 ≤ 1; omega) rfl hb (fun i j _ _ => rfl) (by rw [hfix]; exact fun h => h) ?_
   refine rn1 ?_
   exact s42 _ ⟨rfl, rfl, rfl, rfl, rfl, rfl, rfl, rfl, rfl, rfl, rfl, rfl, rfl, rfl, rfl, trivial⟩
  ·refine zH (is := [13, 15]) (by kernel_rfl) (by simp) rfl ⟨fun o ho => ?_, fun o ho => ?_, trivial⟩
   all_goals (cases ho)
   ·refine zAo rfl rfl rfl rfl rfl rfl rfl rfl rfl htl rfl rfl (by show 0 + 1 ≤ 1; omega) rfl hb (fun i j _ _ => rfl) (by rw [hfix]; exact fun h => h) ?_
    refine rn1 ?_
    exact s44 _ ⟨rfl, rfl, rfl, rfl, rfl, rfl, rfl, rfl, rfl, rfl, rfl, rfl, rfl, rfl, trivial⟩
   ·refine zJl ?_
    exact s45 _ ⟨rfl, rfl, rfl, rfl, rfl, rfl, rfl, rfl, rfl, rfl, rfl, rfl, rfl, rfl, rfl, rfl, trivial⟩
  ·refine zH (is := [12]) (by kernel_rfl) (by simp) rfl ⟨fun o ho => ?_, trivial⟩
   all_goals (cases ho)
   refine rn3 ?_
   exact s45 _ ⟨rfl, rfl, rfl, rfl, rfl, rfl, rfl, rfl, rfl, rfl, rfl, rfl, rfl, rfl, rfl, rfl, trivial⟩
  ·refine zH (is := [15]) (by kernel_rfl) (by simp) rfl ⟨fun o ho => ?_, trivial⟩
   all_goals (cases ho)
   refine zJl ?_
   exact fin _ ⟨rfl, rfl, rfl, rfl, rfl, rfl, rfl, rfl, rfl, trivial⟩
  ·refine zH (is := [13]) (by kernel_rfl) (by simp) rfl ⟨fun o ho => ?_, trivial⟩
   all_goals (cases ho)
   refine zAo rfl rfl rfl rfl rfl rfl rfl rfl rfl htl rfl rfl (by show 0 + 1 ≤ 1; omega) rfl hb (fun i j _ _ => rfl) (by rw [hfix]; exact fun h => h) ?_
   refine rn1 ?_
   exact fin _ ⟨rfl, rfl, rfl, rfl, rfl, rfl, rfl, rfl, rfl, trivial⟩
  refine zH (is := [16]) (by kernel_rfl) (by simp) rfl ⟨fun o ho => ?_, trivial⟩
  all_goals (cases ho)
  refine rn9 ?_
  refine zW 18 rfl (by kernel_rfl) (by kernel_rfl) (by kernel_rfl) rfl (zAk rfl rfl rfl rfl (by first | (simp only [Nat.zero_add, Int.toNat_natCast]; exact rfl) | exact rfl) (by omega)) rfl ?_
  refine zH (is := [19]) (by kernel_rfl) (by simp) rfl ⟨fun o ho => ?_, trivial⟩
  all_goals (cases ho)
  refine rn9 ?_
  refine zX (by kernel_rfl) ?_
  repeat (refine zAa ?_)
  refine zB ?_
  refine zBZ (hpB r.start (.sl 3 0 (k + 1)) (.sl 4 0 (k + 1)) (A ++ [p.hand]) (A ++ [p.hand])) [none] [(2, .ptr 1 0 0), (5, .ptr 2 0 0), (19, .ro (zAn r.pcs) 0 r.pcs.length), (20, iN r.pcs.length), (21, iN k)] rfl ⟨rfl, rfl, rfl, rfl, rfl, trivial⟩ (fun h hh => by rw [hfix] at hh; exact hh.elim) (bl_n (zBs (zGl rfl) (zBs (zGl rfl) (zBs (fun _ _ _ _ => rfl) (zBs (fun _ _ _ _ => rfl) zBP))))) rfl ?_
  refine rn3 ?_
  exact zS ⟨k + 1, by omega, by omega, ⟨rfl, rfl, rfl, rfl, rfl, trivial⟩, by rw [htk]⟩
 ·have hk' : k = r.pcs.length := by omega
  subst hk'
  have htl : (zBn r).take r.pcs.length = zBn r := by rw [← hhl, List.take_length]
  rw [htl]
  refine rn6 ?_
  refine zd (poB r.start (.sl 3 0 r.pcs.length) (.sl 4 0 r.pcs.length)) rfl rfl rfl rfl rfl rfl rfl ?_
  refine rn7 ?_
  refine zBO [none, none, none, some ⟨3, .ints .i64 (zBn r)⟩, some ⟨3, .ints .i64 (zBn r)⟩] [none, some ⟨35, .box (poB r.start (.ro (.ints .i64 (zBn r)) 0 r.pcs.length) (.ro (.ints .i64 (zBn r)) 0 r.pcs.length))⟩, none, none, none] [(2, .ptr 1 0 0), (3, .int .i64 0)] ?_ (zCr (zCr (zCr (zBz zAS (zBz zAS zCg))))) rfl ?_ (zCY ⟨rfl, rfl, trivial⟩) ?_
  ·intro h o ho
   match h, ho with
   | 0, ho => simp at ho
   | 1, ho => simp at ho
   | 2, ho => simp at ho
   | 3, ho => exact ho
   | 4, ho => exact ho
   | _ + 5, ho => simp at ho
  ·intro h o ho
   match h, ho with
   | 0, ho => simp at ho
   | 1, ho =>
    cases ho
    refine ⟨fun o h => by simp at h, ⟨35, .box (poB r.start (.sl 3 0 r.pcs.length) (.sl 4 0 r.pcs.length))⟩, rfl, rfl, rfl, rfl, fun i j hi hj => ?_⟩
    obtain rfl : i = 0 := Nat.lt_one_iff.1 hi
    have hj : j < 5 := hj
    match j, hj with
    | 0, _ => exact .inl rfl
    | 1, _ => exact .inr (.inr ⟨rfl, fun o ho => by cases ho; show 0 + r.pcs.length ≤ (zBn r).length; omega⟩)
    | 2, _ => exact .inr (.inr ⟨rfl, fun o ho => by cases ho; show 0 + r.pcs.length ≤ (zBn r).length; omega⟩)
    | 3, _ => exact .inl rfl
    | 4, _ => exact .inl rfl
   | 2, ho => simp at ho
   | 3, ho => simp at ho
   | 4, ho => simp at ho
   | _ + 5, ho => simp at ho
  repeat (refine zAC ?_)
  refine zJ hR rfl ?_
  show AV.tup [.agg (poB r.start (.ro (.ints .i64 (zBn r)) 0 r.pcs.length) (.ro (.ints .i64 (zBn r)) 0 r.pcs.length)), .int .i64 0] = _
  rw [← hhl]; rfl
def poS (p : Pos) (n : Nat) : List AV := [.sl n 0 p.cells.length, .sl (n + 1) 0 p.h0.length, .sl (n + 2) 0 p.h1.length, .int .i64 p.turn, .int .i64 p.quiet]
/-- place.Copy, whose slices are the caller's -/
theorem zMC (p : Pos) (hp : SmallP p) : MCall Tryz.prog 53 [poA p] (.agg (poS p 2)) [some ⟨35, .box (poS p 2)⟩, some ⟨35, .box (poS p 2)⟩, some ⟨3, .ints .i64 p.cells⟩, some ⟨3, .ints .i64 p.h0⟩, some ⟨3, .ints .i64 p.h1⟩] := by
 refine zb.many (zM (P := Tryz.prog) (fn := Tryz.f53) rfl rfl (by kernel_rfl) rfl (fun c hR hfix => ?_)) (fix := fun _ => False) (fun _ h => h) rfl
 obtain ⟨h1, h2, h3⟩ := hp
 refine rn6 ?_
 refine zEK rfl rfl rfl (zL5 p.cells (by omega)) ?_
 refine rn8 ?_
 refine zg (by kernel_rfl) ?_
 refine zW 0 rfl (by kernel_rfl) (by kernel_rfl) (by kernel_rfl) rfl (zO rfl rfl rfl rfl rfl rfl) rfl ?_
 refine zW 1 rfl (by kernel_rfl) (by kernel_rfl) (by kernel_rfl) rfl (zAk rfl rfl rfl rfl (by first | (simp only [Nat.zero_add, Int.toNat_natCast]; exact rfl) | exact rfl) (by omega)) rfl ?_
 refine zW 4 rfl (by kernel_rfl) (by kernel_rfl) (by kernel_rfl) rfl (zO rfl rfl rfl rfl rfl rfl) rfl ?_
 refine zW 5 rfl (by kernel_rfl) (by kernel_rfl) (by kernel_rfl) rfl (zAk rfl rfl rfl rfl (by first | (simp only [Nat.zero_add, Int.toNat_natCast]; exact rfl) | exact rfl) (by omega)) rfl ?_
 apply zT (H := [some ⟨35, .box [.sl 2 0 p.cells.length, zAB p.h0, zAB p.h1, .int .i64 p.turn, .int .i64 p.quiet]⟩, some ⟨35, .box poZ⟩, some ⟨3, .ints .i64 p.cells⟩, some ⟨3, .ints .i64 p.h0⟩, some ⟨3, .ints .i64 p.h1⟩]) [(1, .ptr 0 0 0), (2, .ptr 1 0 0), (10, .sl 3 0 p.h0.length), (14, .sl 4 0 p.h1.length)]
 intro fin
 apply zT (H := [some ⟨35, .box [.sl 2 0 p.cells.length, zAB p.h0, zAB p.h1, .int .i64 p.turn, .int .i64 p.quiet]⟩, some ⟨35, .box poZ⟩, some ⟨3, .ints .i64 p.cells⟩, some ⟨3, .ints .i64 p.h0⟩]) [(1, .ptr 0 0 0), (2, .ptr 1 0 0), (8, .ptr 0 0 1), (12, .ptr 0 0 2), (10, .sl 3 0 p.h0.length), (13, zAB p.h1)]
 intro s5
 apply zT (H := [some ⟨35, .box [.sl 2 0 p.cells.length, zAB p.h0, zAB p.h1, .int .i64 p.turn, .int .i64 p.quiet]⟩, some ⟨35, .box poZ⟩, some ⟨3, .ints .i64 p.cells⟩]) [(1, .ptr 0 0 0), (2, .ptr 1 0 0), (8, .ptr 0 0 1), (12, .ptr 0 0 2), (9, zAB p.h0), (13, zAB p.h1)]
 intro s4
 apply zT (H := [some ⟨35, .box [.sl 2 0 p.cells.length, zAB p.h0, zAB p.h1, .int .i64 p.turn, .int .i64 p.quiet]⟩, some ⟨35, .box poZ⟩, some ⟨3, .ints .i64 p.cells⟩, some ⟨3, .ints .i64 p.h0⟩]) [(1, .ptr 0 0 0), (2, .ptr 1 0 0), (8, .ptr 0 0 1), (12, .ptr 0 0 2), (10, .sl 3 0 p.h0.length)]
 intro s3
 apply zT (H := [some ⟨35, .box [.sl 2 0 p.cells.length, zAB p.h0, zAB p.h1, .int .i64 p.turn, .int .i64 p.quiet]⟩, some ⟨35, .box poZ⟩, some ⟨3, .ints .i64 p.cells⟩]) [(1, .ptr 0 0 0), (2, .ptr 1 0 0), (8, .ptr 0 0 1), (12, .ptr 0 0 2), (13, zAB p.h1)]
 intro s2
 apply zT (H := [some ⟨35, .box [.sl 2 0 p.cells.length, zAB p.h0, zAB p.h1, .int .i64 p.turn, .int .i64 p.quiet]⟩, some ⟨35, .box poZ⟩, some ⟨3, .ints .i64 p.cells⟩]) [(1, .ptr 0 0 0), (2, .ptr 1 0 0), (8, .ptr 0 0 1), (12, .ptr 0 0 2), (9, zAB p.h0)]
 intro s1
 ·refine zH (is := [2, 6]) (by kernel_rfl) (by simp) rfl ⟨fun o ho => ?_, fun o ho => ?_, trivial⟩
  all_goals (cases ho)
  ·refine rn4 ?_
   exact s1 _ ⟨rfl, rfl, rfl, rfl, rfl, trivial⟩
  ·refine rn4 ?_
   exact s2 _ ⟨rfl, rfl, rfl, rfl, rfl, trivial⟩
 ·refine zH (is := [3, 6]) (by kernel_rfl) (by simp) rfl ⟨fun o ho => ?_, fun o ho => ?_, trivial⟩
  all_goals (cases ho)
  ·refine zEK rfl rfl rfl (zL5 p.h0 (by omega)) ?_
   refine rn1 ?_
   exact s3 _ ⟨rfl, rfl, rfl, rfl, rfl, trivial⟩
  ·refine rn4 ?_
   exact s4 _ ⟨rfl, rfl, rfl, rfl, rfl, rfl, trivial⟩
 ·refine zH (is := [2]) (by kernel_rfl) (by simp) rfl ⟨fun o ho => ?_, trivial⟩
  all_goals (cases ho)
  refine rn4 ?_
  exact s4 _ ⟨rfl, rfl, rfl, rfl, rfl, rfl, trivial⟩
 ·refine zH (is := [6]) (by kernel_rfl) (by simp) rfl ⟨fun o ho => ?_, trivial⟩
  all_goals (cases ho)
  refine rn4 ?_
  exact s5 _ ⟨rfl, rfl, rfl, rfl, rfl, rfl, trivial⟩
 ·refine zH (is := [3]) (by kernel_rfl) (by simp) rfl ⟨fun o ho => ?_, trivial⟩
  all_goals (cases ho)
  refine zEK rfl rfl rfl (zL5 p.h0 (by omega)) ?_
  refine rn1 ?_
  exact s5 _ ⟨rfl, rfl, rfl, rfl, rfl, rfl, trivial⟩
 ·refine zH (is := [7]) (by kernel_rfl) (by simp) rfl ⟨fun o ho => ?_, trivial⟩
  all_goals (cases ho)
  refine zEK rfl rfl rfl (zL5 p.h1 (by omega)) ?_
  refine rn1 ?_
  exact fin _ ⟨rfl, rfl, rfl, rfl, trivial⟩
 refine zW 8 rfl (by kernel_rfl) (by kernel_rfl) (by kernel_rfl) rfl (zCm rfl rfl rfl rfl rfl rfl) rfl ?_
 refine zW 9 rfl (by kernel_rfl) (by kernel_rfl) (by kernel_rfl) rfl (zO rfl rfl rfl rfl rfl rfl) rfl ?_
 refine zH (is := [10]) (by kernel_rfl) (by simp) rfl ⟨fun o ho => ?_, trivial⟩
 all_goals (cases ho)
 refine zHL (c' := .box (poS p 2)) (i := 0) (j := 1) rfl rfl rfl rfl rfl (by show 1 + 2 ≤ 5; omega) Nat.zero_lt_one rfl rfl (fun i' j' hi' hj' => ?_) ?_
 ·obtain rfl : i' = 0 := Nat.lt_one_iff.1 hi'
  have hj' : j' < 5 := hj'
  match j', hj' with
  | 0, _ => rfl
  | 1, _ => rfl
  | 2, _ => rfl
  | 3, _ => rfl
  | 4, _ => rfl
 refine rn1 ?_
 refine zX (by kernel_rfl) ?_
 refine rn6 ?_
 refine zd (poS p 2) rfl rfl rfl rfl rfl rfl rfl ?_
 refine rn0 ?_
 exact zJ hR rfl ⟨rfl, rfl⟩
/-- moves.Make, player 0 -/
theorem make0_ok (r : Go.Ax.Gm.Rules) (hv : ValidR r) (cs a b : List Int) (qt : Int) (S : Sound r ⟨cs, a, b, 0, qt⟩) (m : Mv) (hm : MvOK r ⟨cs, a, b, 0, qt⟩ m) : zj Tryz.prog 67 [ruA r, poA ⟨cs, a, b, 0, qt⟩, mvA m] (poA (zQ r ⟨cs, a, b, 0, qt⟩ m)) := by
 refine zb.value0 (zM (P := Tryz.prog) (fn := Tryz.f67) rfl rfl (by kernel_rfl) rfl (fun c hR hfix => ?_)) (fix := fun _ => False) (fun _ h => h) rfl rfl
 have SP := zAv hv S
 have hcc : cs.length ≤ 64 := SP.c
 have hcl : (cs.length : Int) = r.w * r.h := S.cl
 have hal : a.length = r.pcs.length := S.l0
 have hn6 := hv.n6
 have hqt : 0 ≤ qt ∧ qt ≤ 200 := S.qt
 have hain : ∀ n ∈ a, 0 ≤ n ∧ n ≤ 1000 := S.c0
 have hC12 := fun s => zI8 hv S s
 have hKlt := fun s => zFR S s
 obtain ⟨m1, m2, m3, m4, m5⟩ := hm
 have m2 : m.to.toNat < cs.length := m2
 have m4 : m.pc.toNat < a.length := by omega
 have m5 : (m.fr = -1 ∧ 0 < a.getD m.pc.toNat 0) ∨ (0 ≤ m.fr ∧ m.fr.toNat < cs.length) := m5
 have hapc := hain _ (zAL 0 m4)
 refine zZ ?_
 repeat (first | refine zC ?_ | refine zB ?_ | refine zK rfl ?_ | refine zAQ rfl rfl ?_ | refine zAG rfl rfl rfl ?_)
 refine zBO [some ⟨26, .box (ruC r)⟩, some ⟨35, .box (poC ⟨cs, a, b, 0, qt⟩)⟩, some ⟨58, .box (mvC m)⟩, none] [none, none, none, some ⟨35, .box poZ⟩] [(3, .rp (.box (ruC r)) 0 0), (4, .rp (.box [zAB cs, zAB a, zAB b, .int .i64 0, .int .i64 qt]) 0 0), (5, .rp (.box (mvC m)) 0 0), (6, .ptr 3 0 0)] ?_ (zBz (zt rfl) (zBz (zt rfl) (zBz (zt rfl) (zCr zCg)))) rfl ?_ ⟨⟨.ptr 0 0 0, rfl, .inr (.inr ⟨rfl, fun o ho => by cases ho; exact Nat.zero_lt_one⟩)⟩, ⟨.ptr 1 0 0, rfl, .inr (.inr ⟨rfl, fun o ho => by cases ho; exact Nat.zero_lt_one⟩)⟩, ⟨.ptr 2 0 0, rfl, .inr (.inr ⟨rfl, fun o ho => by cases ho; exact Nat.zero_lt_one⟩)⟩, ⟨_, rfl, .inl rfl⟩, trivial⟩ ?_
 ·intro h o ho
  match h, ho with
  | 0, ho => exact ho
  | 1, ho => exact ho
  | 2, ho => exact ho
  | 3, ho => simp at ho
  | _ + 4, ho => simp at ho
 ·intro h o ho
  match h, ho with
  | 0, ho => simp at ho
  | 1, ho => simp at ho
  | 2, ho => simp at ho
  | 3, ho => cases ho; exact ⟨fun o h => by simp at h, _, rfl, rfl, rfl, rfl, fun _ _ _ _ => .inl rfl⟩
  | _ + 4, ho => simp at ho
 refine rn6 ?_
 refine zLw (.agg (poS ⟨cs, a, b, 0, qt⟩ 6)) [none, none, none, some ⟨35, .box poZ⟩, some ⟨35, .box (poS ⟨cs, a, b, 0, qt⟩ 6)⟩, some ⟨35, .box (poS ⟨cs, a, b, 0, qt⟩ 6)⟩, some ⟨3, .ints .i64 cs⟩, some ⟨3, .ints .i64 a⟩, some ⟨3, .ints .i64 b⟩] rfl rfl rfl (zMC _ SP) rfl rfl ?_
 repeat (refine zAG rfl rfl rfl ?_)
 refine zd (poS ⟨cs, a, b, 0, qt⟩ 6) rfl rfl rfl rfl rfl rfl rfl ?_
 refine zBS [none, none, none, some ⟨35, .box poZ⟩, none, none, some ⟨3, .ints .i64 cs⟩, some ⟨3, .ints .i64 a⟩, some ⟨3, .ints .i64 b⟩, some ⟨35, .box [.sl 6 0 cs.length, .sl 7 0 a.length, .sl 8 0 b.length, .int .i64 0, .int .i64 qt]⟩] (zA3.drop (zA3.drop (zA3.drop (zA3.eqv (CEq.refl _) (zA3.drop (zA3.drop (zA3.refl _))))))) ?_
 repeat (first | refine zA (zP rfl) ?_ | refine zC ?_ | refine zB ?_ | refine zZ ?_ | refine zK rfl ?_ | refine zA (zV rfl rfl rfl rfl rfl) ?_ | refine zA (zD9 rfl rfl) ?_ | refine zA (zr rfl rfl rfl rfl rfl (by first | (simp only [Nat.zero_add, Int.toNat_natCast, Int.toNat_zero]; exact rfl) | exact rfl) (by omega)) ?_ | refine zA (zBK rfl rfl rfl rfl (by first | assumption | omega)) ?_ | refine zA (zF rfl rfl rfl rfl) ?_ | refine zA (zO rfl rfl rfl rfl rfl rfl) ?_ | refine zA (zL rfl rfl rfl rfl rfl rfl) ?_)
 obtain ⟨took, htk⟩ : ∃ took, cs.getD m.to.toNat 0 = took := ⟨_, rfl⟩
 have htk2 : zAM ⟨cs, a, b, 0, qt⟩ m.to.toNat = took := htk
 have ht12 := hC12 m.to.toNat
 have htK : took ≠ 0 → zAf took < r.pcs.length := fun q => by
  have h := hKlt m.to.toNat
  rw [htk2] at h
  exact zGZ q h.1 h.2
 rw [htk2] at ht12
 obtain ⟨C1, hC1⟩ : ∃ C1, (if 0 ≤ m.fr then cs.set m.fr.toNat 0 else cs) = C1 := ⟨_, rfl⟩
 obtain ⟨A1, hA1⟩ : ∃ A1, (if 0 ≤ m.fr then a else a.set m.pc.toNat (a.getD m.pc.toNat 0 - 1)) = A1 := ⟨_, rfl⟩
 have hC1l : C1.length = cs.length := by rw [← hC1]; split <;> simp
 have hA1l : A1.length = a.length := by rw [← hA1]; split <;> simp
 have hA1in : ∀ i, -1 ≤ A1.getD i 0 ∧ A1.getD i 0 ≤ 1000 := fun i => by
  rw [← hA1]
  split
  ·by_cases q : i < a.length
   ·have := hain _ (zAL 0 q); omega
   ·rw [List.getD, List.getElem?_eq_none (by omega)]; exact ⟨by decide, by decide⟩
  ·by_cases q : i < a.length
   ·by_cases q2 : m.pc.toNat = i
    ·rw [← q2, List.getD, List.getElem?_set_self m4]; show -1 ≤ a.getD m.pc.toNat 0 - 1 ∧ a.getD m.pc.toNat 0 - 1 ≤ 1000; omega
    ·rw [List.getD, List.getElem?_set_ne q2]; have := hain _ (zAL 0 q); rw [List.getD] at this; omega
   ·rw [List.getD, List.getElem?_eq_none (by rw [List.length_set]; omega)]; exact ⟨by decide, by decide⟩
 refine zBM 8 (.int .i64 took) rfl (AEq.of_eq (by rw [← htk])) ?_
 apply zAP (H := [none, none, none, some ⟨35, .box poZ⟩, none, none, some ⟨3, .ints .i64 C1⟩, some ⟨3, .ints .i64 A1⟩, some ⟨3, .ints .i64 b⟩, some ⟨35, .box [.sl 6 0 cs.length, .sl 7 0 a.length, .sl 8 0 b.length, .int .i64 0, .int .i64 qt]⟩]) [(3, .rp (.box (ruC r)) 0 0), (4, .rp (.box [zAB cs, zAB a, zAB b, .int .i64 0, .int .i64 qt]) 0 0), (5, .rp (.box (mvC m)) 0 0), (6, .ptr 3 0 0), (7, .ptr 9 0 0), (8, .int .i64 took)]
 ·intro fin
  refine zD rfl (fun f1 => ?_) (fun f1 => ?_)
  ·have f1 : 0 ≤ m.fr := f1
   rw [if_pos f1] at hC1 hA1
   have f2 : m.fr.toNat < cs.length := by rcases m5 with q | q; omega; exact q.2
   subst hC1 hA1
   repeat (first | refine zC ?_ | refine zB ?_ | refine zK rfl ?_ | refine zA (zV rfl rfl rfl rfl rfl) ?_ | refine zA (zr rfl rfl rfl rfl rfl (by first | (simp only [Nat.zero_add, Int.toNat_natCast, Int.toNat_zero]; exact rfl) | exact rfl) (by omega)) ?_ | refine zA (zF rfl rfl rfl rfl) ?_ | refine zA (zO rfl rfl rfl rfl rfl rfl) ?_ | refine zA (zL rfl rfl rfl rfl rfl rfl) ?_ | refine zAH rfl rfl rfl rfl rfl rfl rfl (by first | assumption | (show _ < List.length _; first | assumption | omega)) ?_)
   exact fin _ ⟨rfl, rfl, rfl, rfl, rfl, rfl, trivial⟩
  ·have f1 : ¬ 0 ≤ m.fr := f1
   rw [if_neg f1] at hC1 hA1
   subst hC1 hA1
   skip
   refine zg (by kernel_rfl) ?_
   refine zq (fuel := 1) [0, 1, 2, 3, 4, 5, 6, 7, 8, 9, 10] [(3, .rp (.box (ruC r)) 0 0), (4, .rp (.box [zAB cs, zAB a, zAB b, .int .i64 0, .int .i64 qt]) 0 0), (5, .rp (.box (mvC m)) 0 0), (6, .ptr 3 0 0), (7, .ptr 9 0 0), (8, .int .i64 took)] ⟨rfl, rfl, rfl, rfl, rfl, rfl, trivial⟩ (by kernel_rfl) (by decide) rfl rfl ?_
   refine zI rfl rfl (zL rfl rfl rfl rfl rfl rfl) ?_
   refine zI rfl rfl (zF rfl rfl rfl rfl) ?_
   refine zI rfl rfl (zO rfl rfl rfl rfl rfl rfl) ?_
   refine zI rfl rfl (zAk rfl rfl rfl rfl rfl (by show (0 : Int) ≤ 0 ∧ (0 : Int) < 2; decide)) ?_
   refine zI rfl rfl (zV rfl rfl rfl rfl rfl) ?_
   refine zI rfl rfl (zL rfl rfl rfl rfl rfl rfl) ?_
   refine zI rfl rfl (zF rfl rfl rfl rfl) ?_
   refine zI rfl rfl (zr rfl rfl rfl rfl rfl (by first | (simp only [Nat.zero_add, Int.toNat_natCast, Int.toNat_zero]; exact rfl) | exact rfl) (by omega)) ?_
   refine zI rfl rfl (zBK rfl rfl rfl rfl (by first | assumption | omega)) ?_
   refine zI rfl rfl (zBR rfl rfl (by omega)) ?_
   refine zI rfl rfl (zr rfl rfl rfl rfl rfl (by first | (simp only [Nat.zero_add, Int.toNat_natCast, Int.toNat_zero]; exact rfl) | exact rfl) (by omega)) ?_
   refine z7 ?_
   refine zH (is := [11]) (by kernel_rfl) (by simp) rfl ⟨fun o ho => ?_, trivial⟩
   all_goals (cases ho)
   refine rn7 ?_
   refine zX (by kernel_rfl) ?_
   repeat (refine zB ?_)
   exact fin _ ⟨rfl, rfl, rfl, rfl, rfl, rfl, trivial⟩
 obtain ⟨C2, hC2⟩ : ∃ C2, C1.set m.to.toNat (2 * m.pc + 0 + 1) = C2 := ⟨_, rfl⟩
 have hC2l : C2.length = cs.length := by rw [← hC2, List.length_set, hC1l]
 obtain ⟨A2, hA2⟩ : ∃ A2, (if 0 < took ∧ r.keeps = true then A1.set (zAf took) (min (A1.getD (zAf took) 0 + 1) 1000) else A1) = A2 := ⟨_, rfl⟩
 have hmt : m.to.toNat < C1.length := by omega
 have hmt2 : m.to.toNat < (Cells.ints .i64 C1).len := hmt
 obtain ⟨q3, hq3⟩ : ∃ q3, (if 0 < took ∨ m.fr < 0 then 0 else min (qt + 1) 200) = q3 := ⟨_, rfl⟩
 repeat (first | refine zZ ?_ | refine zK rfl ?_ | refine zA (zV rfl rfl rfl rfl rfl) ?_ | refine zA (zF rfl rfl rfl rfl) ?_ | refine zA (zO rfl rfl rfl rfl rfl rfl) ?_ | refine zA (zL rfl rfl rfl rfl rfl rfl) ?_)
 refine zA (zDC rfl rfl (by omega)) ?_
 repeat (first | refine zA (zG rfl) ?_ | refine zC ?_ | refine zB ?_ | refine zZ ?_ | refine zK rfl ?_ | refine zA (zCo rfl rfl) ?_ | refine zA (zBA rfl rfl (by omega)) ?_ | refine zA (zr rfl rfl rfl rfl rfl (by first | (simp only [Nat.zero_add, Int.toNat_natCast, Int.toNat_zero]; exact rfl) | exact rfl) (by omega)) ?_ | refine zA (zF rfl rfl rfl rfl) ?_ | refine zA (zL rfl rfl rfl rfl rfl rfl) ?_ | refine zAH rfl rfl rfl rfl rfl rfl rfl (by first | assumption | (show _ < List.length _; first | assumption | omega)) ?_)
 refine zAX [none, none, none, some ⟨35, .box poZ⟩, none, none, some ⟨3, .ints .i64 C2⟩, some ⟨3, .ints .i64 A1⟩, some ⟨3, .ints .i64 b⟩, some ⟨35, .box [.sl 6 0 cs.length, .sl 7 0 a.length, .sl 8 0 b.length, .int .i64 0, .int .i64 qt]⟩] (by rw [← hC2]; rfl) ?_
 apply zAP (H := [none, none, none, some ⟨35, .box poZ⟩, none, none, some ⟨3, .ints .i64 C2⟩, some ⟨3, .ints .i64 A2⟩, some ⟨3, .ints .i64 b⟩, some ⟨35, .box [.sl 6 0 cs.length, .sl 7 0 a.length, .sl 8 0 b.length, .int .i64 0, .int .i64 qt]⟩]) [(3, .rp (.box (ruC r)) 0 0), (4, .rp (.box [zAB cs, zAB a, zAB b, .int .i64 0, .int .i64 qt]) 0 0), (5, .rp (.box (mvC m)) 0 0), (6, .ptr 3 0 0), (7, .ptr 9 0 0), (8, .int .i64 took)]
 ·intro fin
  refine zn rfl rfl (fun f1 => ?_) (fun f1 => ?_)
  ·have f1 : 0 < took := f1
   refine zBC ?_
   refine zAR rfl (fun f2 => ?_) (fun f2 => ?_)
   ·rw [if_pos ⟨f1, f2⟩] at hA2
    have hKl : zAf took < A1.length := by have := htK (by omega); omega
    have hKl2 : zAf took < (Cells.ints .i64 A1).len := hKl
    have hKC : (took - 1) / 2 = ((zAf took : Nat) : Int) := by unfold zAf; rw [Int.tdiv_eq_ediv_of_nonneg (by omega)]; omega
    have hKin := hA1in (zAf took)
    generalize zAf took = K at hA2 hKl hKl2 hKC hKin
    refine zZ ?_
    repeat (first | refine zA (zG rfl) ?_ | refine zA (zP rfl) ?_ | refine zC ?_ | refine zB ?_ | refine zK rfl ?_ | refine zA (zBR rfl rfl (by omega)) ?_ | refine zA (zIY rfl rfl (by omega)) ?_)
    refine zBM 9 (iN K) rfl (AEq.of_eq (by rw [hKC])) ?_
    refine zg (by kernel_rfl) ?_
    refine zq (fuel := 1) [0, 1, 2, 3, 4, 5, 6, 7, 8, 9, 10, 11, 12, 13, 14, 15, 16] [(3, .rp (.box (ruC r)) 0 0), (4, .rp (.box [zAB cs, zAB a, zAB b, .int .i64 0, .int .i64 qt]) 0 0), (5, .rp (.box (mvC m)) 0 0), (6, .ptr 3 0 0), (7, .ptr 9 0 0), (8, .int .i64 took), (9, iN K)] ⟨rfl, rfl, rfl, rfl, rfl, rfl, rfl, trivial⟩ (by kernel_rfl) (by decide) rfl rfl ?_
    refine zI rfl rfl (zL rfl rfl rfl rfl rfl rfl) ?_
    refine zI rfl rfl (zF rfl rfl rfl rfl) ?_
    refine zI rfl rfl (zO rfl rfl rfl rfl rfl rfl) ?_
    refine zI rfl rfl (zAk rfl rfl rfl rfl rfl (by show (0 : Int) ≤ 0 ∧ (0 : Int) < 2; decide)) ?_
    refine zI rfl rfl (zV rfl rfl rfl rfl rfl) ?_
    refine zI rfl rfl (zG rfl) ?_
    refine zI rfl rfl (zL rfl rfl rfl rfl rfl rfl) ?_
    refine zI rfl rfl (zF rfl rfl rfl rfl) ?_
    refine zI rfl rfl (zO rfl rfl rfl rfl rfl rfl) ?_
    refine zI rfl rfl (zAk rfl rfl rfl rfl rfl (by show (0 : Int) ≤ 0 ∧ (0 : Int) < 2; decide)) ?_
    refine zI rfl rfl (zV rfl rfl rfl rfl rfl) ?_
    refine zI rfl rfl (zG rfl) ?_
    refine zI rfl rfl (zr rfl rfl rfl rfl rfl (by first | (simp only [Nat.zero_add, Int.toNat_natCast, Int.toNat_zero]; exact rfl) | exact rfl) (by omega)) ?_
    refine zI rfl rfl (zBK rfl rfl rfl rfl (by first | assumption | omega)) ?_
    refine zI rfl rfl (zBA rfl rfl (by omega)) ?_
    refine zI rfl rfl (zMj rfl rfl) ?_
    refine zI rfl rfl (zr rfl rfl rfl rfl rfl (by first | (simp only [Nat.zero_add, Int.toNat_natCast, Int.toNat_zero]; exact rfl) | exact rfl) (by omega)) ?_
    refine z7 ?_
    refine zH (is := [17]) (by kernel_rfl) (by simp) rfl ⟨fun o ho => ?_, trivial⟩
    all_goals (cases ho)
    refine rn7 ?_
    refine zX (by kernel_rfl) ?_
    repeat (refine zB ?_)
    have e : (if A1.getD K 0 + 1 ≤ 1000 then A1.getD K 0 + 1 else (1000 : Int)) = (if 1000 < A1.getD K 0 + 1 then 1000 else A1.getD K 0 + 1) := by split <;> split <;> omega
    refine zAU [none, none, none, some ⟨35, .box poZ⟩, none, none, some ⟨3, .ints .i64 C2⟩, some ⟨3, .ints .i64 A2⟩, some ⟨3, .ints .i64 b⟩, some ⟨35, .box [.sl 6 0 cs.length, .sl 7 0 a.length, .sl 8 0 b.length, .int .i64 0, .int .i64 qt]⟩] (by rw [← hA2, Int.min_def, e]; rfl) ?_
    exact fin _ ⟨rfl, rfl, rfl, rfl, rfl, rfl, trivial⟩
   ·rw [if_neg (fun q => by rw [f2] at q; exact Bool.false_ne_true q.2)] at hA2
    subst hA2
    refine zGn ?_
    exact fin _ ⟨rfl, rfl, rfl, rfl, rfl, rfl, trivial⟩
  ·have f1 : ¬ 0 < took := f1
   rw [if_neg (fun q => f1 q.1)] at hA2
   subst hA2
   refine zGn ?_
   exact fin _ ⟨rfl, rfl, rfl, rfl, rfl, rfl, trivial⟩
 repeat (first | refine zA (zG rfl) ?_ | refine zC ?_ | refine zB ?_ | refine zZ ?_ | refine zK rfl ?_ | refine zA (zCo rfl rfl) ?_ | refine zA (zBA rfl rfl (by omega)) ?_ | refine zA (zF rfl rfl rfl rfl) ?_ | refine zA (zMj rfl rfl) ?_ | refine zA (zO rfl rfl rfl rfl rfl rfl) ?_ | refine zA (zL rfl rfl rfl rfl rfl rfl) ?_ | refine zAH rfl rfl rfl rfl rfl rfl rfl Nat.zero_lt_one ?_)
 refine zAX [none, none, none, some ⟨35, .box poZ⟩, none, none, some ⟨3, .ints .i64 C2⟩, some ⟨3, .ints .i64 A2⟩, some ⟨3, .ints .i64 b⟩, some ⟨35, .box [.sl 6 0 cs.length, .sl 7 0 a.length, .sl 8 0 b.length, .int .i64 0, .int .i64 (if 200 < qt + 1 then 200 else qt + 1)]⟩] rfl ?_
 apply zAP (H := [none, none, none, some ⟨35, .box poZ⟩, none, none, some ⟨3, .ints .i64 C2⟩, some ⟨3, .ints .i64 A2⟩, some ⟨3, .ints .i64 b⟩, some ⟨35, .box [.sl 6 0 cs.length, .sl 7 0 a.length, .sl 8 0 b.length, .int .i64 0, .int .i64 q3]⟩]) [(3, .rp (.box (ruC r)) 0 0), (4, .rp (.box [zAB cs, zAB a, zAB b, .int .i64 0, .int .i64 qt]) 0 0), (5, .rp (.box (mvC m)) 0 0), (6, .ptr 3 0 0), (7, .ptr 9 0 0), (8, .int .i64 took)]
 ·intro fin
  refine zn rfl rfl (fun f1 => ?_) (fun f1 => ?_)
  ·have f1 : 0 < took := f1
   rw [if_pos (.inl f1)] at hq3
   subst hq3
   repeat (first | refine zC ?_ | refine zB ?_ | refine zK rfl ?_ | refine zAb rfl rfl rfl ?_ | refine zAj rfl ?_ | refine zA (zh rfl rfl) ?_ | refine zA (zO rfl rfl rfl rfl rfl rfl) ?_ | refine zAH rfl rfl rfl rfl rfl rfl rfl Nat.zero_lt_one ?_)
   exact fin _ ⟨rfl, rfl, rfl, rfl, rfl, rfl, trivial⟩
  ·have f1 : ¬ 0 < took := f1
   repeat (first | refine zC ?_ | refine zB ?_ | refine zw rfl rfl ?_ | refine zA (zCK rfl rfl) ?_ | refine zA (zh rfl rfl) ?_ | refine zA (zF rfl rfl rfl rfl) ?_ | refine zA (zL rfl rfl rfl rfl rfl rfl) ?_)
   refine zD rfl (fun f2 => ?_) (fun f2 => ?_)
   ·have f2 : m.fr < 0 := f2
    rw [if_pos (.inr f2)] at hq3
    subst hq3
    repeat (first | refine zC ?_ | refine zB ?_ | refine zK rfl ?_ | refine zA (zO rfl rfl rfl rfl rfl rfl) ?_ | refine zAH rfl rfl rfl rfl rfl rfl rfl Nat.zero_lt_one ?_)
    exact fin _ ⟨rfl, rfl, rfl, rfl, rfl, rfl, trivial⟩
   ·have f2 : ¬ m.fr < 0 := f2
    rw [if_neg (fun q => q.elim f1 f2)] at hq3
    refine zGn ?_
    have e : (if 200 < qt + 1 then (200 : Int) else qt + 1) = q3 := by
     rw [← hq3, Int.min_def]
     split <;> split <;> omega
    refine zAU [none, none, none, some ⟨35, .box poZ⟩, none, none, some ⟨3, .ints .i64 C2⟩, some ⟨3, .ints .i64 A2⟩, some ⟨3, .ints .i64 b⟩, some ⟨35, .box [.sl 6 0 cs.length, .sl 7 0 a.length, .sl 8 0 b.length, .int .i64 0, .int .i64 q3]⟩] (by rw [e]) ?_
    exact fin _ ⟨rfl, rfl, rfl, rfl, rfl, rfl, trivial⟩
 repeat (first | refine zC ?_ | refine zB ?_ | refine zZ ?_ | refine zK rfl ?_ | refine zA (zBR rfl rfl (by omega)) ?_ | refine zA (zF rfl rfl rfl rfl) ?_ | refine zA (zO rfl rfl rfl rfl rfl rfl) ?_ | refine zA (zL rfl rfl rfl rfl rfl rfl) ?_ | refine zA (qpp rfl rfl rfl rfl rfl rfl rfl) ?_ | refine zAH rfl rfl rfl rfl rfl rfl rfl Nat.zero_lt_one ?_)
 have hA2l : A2.length = a.length := by rw [← hA2]; split <;> simp [hA1l]
 have hmk : zQ r ⟨cs, a, b, 0, qt⟩ m = ⟨C2, A2, b, 1 - 0, q3⟩ := by
  have e : zQ r ⟨cs, a, b, 0, qt⟩ m = ⟨(if 0 ≤ m.fr then cs.set m.fr.toNat 0 else cs).set m.to.toNat (2 * m.pc + 0 + 1), (if 0 < zAM ⟨cs, a, b, 0, qt⟩ m.to.toNat ∧ r.keeps = true then (if 0 ≤ m.fr then a else a.set m.pc.toNat (a.getD m.pc.toNat 0 - 1)).set (zAf (zAM ⟨cs, a, b, 0, qt⟩ m.to.toNat)) (min ((if 0 ≤ m.fr then a else a.set m.pc.toNat (a.getD m.pc.toNat 0 - 1)).getD (zAf (zAM ⟨cs, a, b, 0, qt⟩ m.to.toNat)) 0 + 1) 1000) else (if 0 ≤ m.fr then a else a.set m.pc.toNat (a.getD m.pc.toNat 0 - 1))), b, 1 - 0, if 0 < zAM ⟨cs, a, b, 0, qt⟩ m.to.toNat ∨ m.fr < 0 then 0 else min (qt + 1) 200⟩ := rfl
  rw [e, htk2, hC1, hA1, hC2, hA2, hq3]
 refine zd [.sl 6 0 cs.length, .sl 7 0 a.length, .sl 8 0 b.length, .int .i64 (1 - 0), .int .i64 q3] rfl rfl rfl rfl rfl rfl rfl ?_
 refine rn7 ?_
 refine zBO [none, none, none, none, none, none, some ⟨3, .ints .i64 C2⟩, some ⟨3, .ints .i64 A2⟩, some ⟨3, .ints .i64 b⟩, none] [none, none, none, some ⟨35, .box [.ro (.ints .i64 C2) 0 cs.length, .ro (.ints .i64 A2) 0 a.length, .ro (.ints .i64 b) 0 b.length, .int .i64 (1 - 0), .int .i64 q3]⟩, none, none, none, none, none, none] [(6, .ptr 3 0 0)] ?_ (zCr (zCr (zCr (zCr (zCr (zCr (zBz zAS (zBz zAS (zBz zAS (zCr zCg)))))))))) rfl ?_ (zCY ⟨rfl, trivial⟩) ?_
 ·intro h o ho
  match h, ho with
  | 0, ho => simp at ho
  | 1, ho => simp at ho
  | 2, ho => simp at ho
  | 3, ho => simp at ho
  | 4, ho => simp at ho
  | 5, ho => simp at ho
  | 6, ho => exact ho
  | 7, ho => exact ho
  | 8, ho => exact ho
  | 9, ho => simp at ho
  | _ + 10, ho => simp at ho
 ·intro h o ho
  match h, ho with
  | 0, ho => simp at ho
  | 1, ho => simp at ho
  | 2, ho => simp at ho
  | 3, ho =>
   cases ho
   refine ⟨fun o h => by simp at h, ⟨35, .box [.sl 6 0 cs.length, .sl 7 0 a.length, .sl 8 0 b.length, .int .i64 (1 - 0), .int .i64 q3]⟩, rfl, rfl, rfl, rfl, fun i j hi hj => ?_⟩
   obtain rfl : i = 0 := Nat.lt_one_iff.1 hi
   have hj : j < 5 := hj
   match j, hj with
   | 0, _ => exact .inr (.inr ⟨rfl, fun o ho => by cases ho; show 0 + cs.length ≤ C2.length; omega⟩)
   | 1, _ => exact .inr (.inr ⟨rfl, fun o ho => by cases ho; show 0 + a.length ≤ A2.length; omega⟩)
   | 2, _ => exact .inr (.inr ⟨rfl, fun o ho => by cases ho; show 0 + b.length ≤ b.length; omega⟩)
   | 3, _ => exact .inl rfl
   | 4, _ => exact .inl rfl
  | 4, ho => simp at ho
  | 5, ho => simp at ho
  | 6, ho => simp at ho
  | 7, ho => simp at ho
  | 8, ho => simp at ho
  | 9, ho => simp at ho
  | _ + 10, ho => simp at ho
 repeat (refine zAC ?_)
 refine zJ hR rfl ?_
 rw [hmk]
 show AV.agg [.ro (.ints .i64 C2) 0 cs.length, .ro (.ints .i64 A2) 0 a.length, .ro (.ints .i64 b) 0 b.length, .int .i64 (1 - 0), .int .i64 q3] = AV.agg [zAB C2, zAB A2, zAB b, .int .i64 (1 - 0), .int .i64 q3]
 unfold zAB
 rw [hC2l, hA2l]
/-- moves.Make, player 1 -/
theorem make1_ok (r : Go.Ax.Gm.Rules) (hv : ValidR r) (cs a b : List Int) (qt : Int) (S : Sound r ⟨cs, b, a, 1, qt⟩) (m : Mv) (hm : MvOK r ⟨cs, b, a, 1, qt⟩ m) : zj Tryz.prog 67 [ruA r, poA ⟨cs, b, a, 1, qt⟩, mvA m] (poA (zQ r ⟨cs, b, a, 1, qt⟩ m)) := by
 refine zb.value0 (zM (P := Tryz.prog) (fn := Tryz.f67) rfl rfl (by kernel_rfl) rfl (fun c hR hfix => ?_)) (fix := fun _ => False) (fun _ h => h) rfl rfl
 have SP := zAv hv S
 have hcc : cs.length ≤ 64 := SP.c
 have hcl : (cs.length : Int) = r.w * r.h := S.cl
 have hal : a.length = r.pcs.length := S.l1
 have hn6 := hv.n6
 have hqt : 0 ≤ qt ∧ qt ≤ 200 := S.qt
 have hain : ∀ n ∈ a, 0 ≤ n ∧ n ≤ 1000 := S.c1
 have hC12 := fun s => zI8 hv S s
 have hKlt := fun s => zFR S s
 obtain ⟨m1, m2, m3, m4, m5⟩ := hm
 have m2 : m.to.toNat < cs.length := m2
 have m4 : m.pc.toNat < a.length := by omega
 have m5 : (m.fr = -1 ∧ 0 < a.getD m.pc.toNat 0) ∨ (0 ≤ m.fr ∧ m.fr.toNat < cs.length) := m5
 have hapc := hain _ (zAL 0 m4)
 refine zZ ?_
 repeat (first | refine zC ?_ | refine zB ?_ | refine zK rfl ?_ | refine zAQ rfl rfl ?_ | refine zAG rfl rfl rfl ?_)
 refine zBO [some ⟨26, .box (ruC r)⟩, some ⟨35, .box (poC ⟨cs, b, a, 1, qt⟩)⟩, some ⟨58, .box (mvC m)⟩, none] [none, none, none, some ⟨35, .box poZ⟩] [(3, .rp (.box (ruC r)) 0 0), (4, .rp (.box [zAB cs, zAB b, zAB a, .int .i64 1, .int .i64 qt]) 0 0), (5, .rp (.box (mvC m)) 0 0), (6, .ptr 3 0 0)] ?_ (zBz (zt rfl) (zBz (zt rfl) (zBz (zt rfl) (zCr zCg)))) rfl ?_ ⟨⟨.ptr 0 0 0, rfl, .inr (.inr ⟨rfl, fun o ho => by cases ho; exact Nat.zero_lt_one⟩)⟩, ⟨.ptr 1 0 0, rfl, .inr (.inr ⟨rfl, fun o ho => by cases ho; exact Nat.zero_lt_one⟩)⟩, ⟨.ptr 2 0 0, rfl, .inr (.inr ⟨rfl, fun o ho => by cases ho; exact Nat.zero_lt_one⟩)⟩, ⟨_, rfl, .inl rfl⟩, trivial⟩ ?_
 ·intro h o ho
  match h, ho with
  | 0, ho => exact ho
  | 1, ho => exact ho
  | 2, ho => exact ho
  | 3, ho => simp at ho
  | _ + 4, ho => simp at ho
 ·intro h o ho
  match h, ho with
  | 0, ho => simp at ho
  | 1, ho => simp at ho
  | 2, ho => simp at ho
  | 3, ho => cases ho; exact ⟨fun o h => by simp at h, _, rfl, rfl, rfl, rfl, fun _ _ _ _ => .inl rfl⟩
  | _ + 4, ho => simp at ho
 refine rn6 ?_
 refine zLw (.agg (poS ⟨cs, b, a, 1, qt⟩ 6)) [none, none, none, some ⟨35, .box poZ⟩, some ⟨35, .box (poS ⟨cs, b, a, 1, qt⟩ 6)⟩, some ⟨35, .box (poS ⟨cs, b, a, 1, qt⟩ 6)⟩, some ⟨3, .ints .i64 cs⟩, some ⟨3, .ints .i64 b⟩, some ⟨3, .ints .i64 a⟩] rfl rfl rfl (zMC _ SP) rfl rfl ?_
 repeat (refine zAG rfl rfl rfl ?_)
 refine zd (poS ⟨cs, b, a, 1, qt⟩ 6) rfl rfl rfl rfl rfl rfl rfl ?_
 refine zBS [none, none, none, some ⟨35, .box poZ⟩, none, none, some ⟨3, .ints .i64 cs⟩, some ⟨3, .ints .i64 b⟩, some ⟨3, .ints .i64 a⟩, some ⟨35, .box [.sl 6 0 cs.length, .sl 7 0 b.length, .sl 8 0 a.length, .int .i64 1, .int .i64 qt]⟩] (zA3.drop (zA3.drop (zA3.drop (zA3.eqv (CEq.refl _) (zA3.drop (zA3.drop (zA3.refl _))))))) ?_
 repeat (first | refine zA (zP rfl) ?_ | refine zC ?_ | refine zB ?_ | refine zZ ?_ | refine zK rfl ?_ | refine zA (zV rfl rfl rfl rfl rfl) ?_ | refine zA (zD9 rfl rfl) ?_ | refine zA (zr rfl rfl rfl rfl rfl (by first | (simp only [Nat.zero_add, Int.toNat_natCast, Int.toNat_zero]; exact rfl) | exact rfl) (by omega)) ?_ | refine zA (zBK rfl rfl rfl rfl (by first | assumption | omega)) ?_ | refine zA (zF rfl rfl rfl rfl) ?_ | refine zA (zO rfl rfl rfl rfl rfl rfl) ?_ | refine zA (zL rfl rfl rfl rfl rfl rfl) ?_)
 obtain ⟨took, htk⟩ : ∃ took, cs.getD m.to.toNat 0 = took := ⟨_, rfl⟩
 have htk2 : zAM ⟨cs, b, a, 1, qt⟩ m.to.toNat = took := htk
 have ht12 := hC12 m.to.toNat
 have htK : took ≠ 0 → zAf took < r.pcs.length := fun q => by
  have h := hKlt m.to.toNat
  rw [htk2] at h
  exact zGZ q h.1 h.2
 rw [htk2] at ht12
 obtain ⟨C1, hC1⟩ : ∃ C1, (if 0 ≤ m.fr then cs.set m.fr.toNat 0 else cs) = C1 := ⟨_, rfl⟩
 obtain ⟨A1, hA1⟩ : ∃ A1, (if 0 ≤ m.fr then a else a.set m.pc.toNat (a.getD m.pc.toNat 0 - 1)) = A1 := ⟨_, rfl⟩
 have hC1l : C1.length = cs.length := by rw [← hC1]; split <;> simp
 have hA1l : A1.length = a.length := by rw [← hA1]; split <;> simp
 have hA1in : ∀ i, -1 ≤ A1.getD i 0 ∧ A1.getD i 0 ≤ 1000 := fun i => by
  rw [← hA1]
  split
  ·by_cases q : i < a.length
   ·have := hain _ (zAL 0 q); omega
   ·rw [List.getD, List.getElem?_eq_none (by omega)]; exact ⟨by decide, by decide⟩
  ·by_cases q : i < a.length
   ·by_cases q2 : m.pc.toNat = i
    ·rw [← q2, List.getD, List.getElem?_set_self m4]; show -1 ≤ a.getD m.pc.toNat 0 - 1 ∧ a.getD m.pc.toNat 0 - 1 ≤ 1000; omega
    ·rw [List.getD, List.getElem?_set_ne q2]; have := hain _ (zAL 0 q); rw [List.getD] at this; omega
   ·rw [List.getD, List.getElem?_eq_none (by rw [List.length_set]; omega)]; exact ⟨by decide, by decide⟩
 refine zBM 8 (.int .i64 took) rfl (AEq.of_eq (by rw [← htk])) ?_
 apply zAP (H := [none, none, none, some ⟨35, .box poZ⟩, none, none, some ⟨3, .ints .i64 C1⟩, some ⟨3, .ints .i64 b⟩, some ⟨3, .ints .i64 A1⟩, some ⟨35, .box [.sl 6 0 cs.length, .sl 7 0 b.length, .sl 8 0 a.length, .int .i64 1, .int .i64 qt]⟩]) [(3, .rp (.box (ruC r)) 0 0), (4, .rp (.box [zAB cs, zAB b, zAB a, .int .i64 1, .int .i64 qt]) 0 0), (5, .rp (.box (mvC m)) 0 0), (6, .ptr 3 0 0), (7, .ptr 9 0 0), (8, .int .i64 took)]
 ·intro fin
  refine zD rfl (fun f1 => ?_) (fun f1 => ?_)
  ·have f1 : 0 ≤ m.fr := f1
   rw [if_pos f1] at hC1 hA1
   have f2 : m.fr.toNat < cs.length := by rcases m5 with q | q; omega; exact q.2
   subst hC1 hA1
   repeat (first | refine zC ?_ | refine zB ?_ | refine zK rfl ?_ | refine zA (zV rfl rfl rfl rfl rfl) ?_ | refine zA (zr rfl rfl rfl rfl rfl (by first | (simp only [Nat.zero_add, Int.toNat_natCast, Int.toNat_zero]; exact rfl) | exact rfl) (by omega)) ?_ | refine zA (zF rfl rfl rfl rfl) ?_ | refine zA (zO rfl rfl rfl rfl rfl rfl) ?_ | refine zA (zL rfl rfl rfl rfl rfl rfl) ?_ | refine zAH rfl rfl rfl rfl rfl rfl rfl (by first | assumption | (show _ < List.length _; first | assumption | omega)) ?_)
   exact fin _ ⟨rfl, rfl, rfl, rfl, rfl, rfl, trivial⟩
  ·have f1 : ¬ 0 ≤ m.fr := f1
   rw [if_neg f1] at hC1 hA1
   subst hC1 hA1
   skip
   refine zg (by kernel_rfl) ?_
   refine zq (fuel := 1) [0, 1, 2, 3, 4, 5, 6, 7, 8, 9, 10] [(3, .rp (.box (ruC r)) 0 0), (4, .rp (.box [zAB cs, zAB b, zAB a, .int .i64 1, .int .i64 qt]) 0 0), (5, .rp (.box (mvC m)) 0 0), (6, .ptr 3 0 0), (7, .ptr 9 0 0), (8, .int .i64 took)] ⟨rfl, rfl, rfl, rfl, rfl, rfl, trivial⟩ (by kernel_rfl) (by decide) rfl rfl ?_
   refine zI rfl rfl (zL rfl rfl rfl rfl rfl rfl) ?_
   refine zI rfl rfl (zF rfl rfl rfl rfl) ?_
   refine zI rfl rfl (zO rfl rfl rfl rfl rfl rfl) ?_
   refine zI rfl rfl (zAk rfl rfl rfl rfl rfl (by show (0 : Int) ≤ 1 ∧ (1 : Int) < 2; decide)) ?_
   refine zI rfl rfl (zV rfl rfl rfl rfl rfl) ?_
   refine zI rfl rfl (zL rfl rfl rfl rfl rfl rfl) ?_
   refine zI rfl rfl (zF rfl rfl rfl rfl) ?_
   refine zI rfl rfl (zr rfl rfl rfl rfl rfl (by first | (simp only [Nat.zero_add, Int.toNat_natCast, Int.toNat_zero]; exact rfl) | exact rfl) (by omega)) ?_
   refine zI rfl rfl (zBK rfl rfl rfl rfl (by first | assumption | omega)) ?_
   refine zI rfl rfl (zBR rfl rfl (by omega)) ?_
   refine zI rfl rfl (zr rfl rfl rfl rfl rfl (by first | (simp only [Nat.zero_add, Int.toNat_natCast, Int.toNat_zero]; exact rfl) | exact rfl) (by omega)) ?_
   refine z7 ?_
   refine zH (is := [11]) (by kernel_rfl) (by simp) rfl ⟨fun o ho => ?_, trivial⟩
   all_goals (cases ho)
   refine rn7 ?_
   refine zX (by kernel_rfl) ?_
   repeat (refine zB ?_)
   exact fin _ ⟨rfl, rfl, rfl, rfl, rfl, rfl, trivial⟩
 obtain ⟨C2, hC2⟩ : ∃ C2, C1.set m.to.toNat (2 * m.pc + 1 + 1) = C2 := ⟨_, rfl⟩
 have hC2l : C2.length = cs.length := by rw [← hC2, List.length_set, hC1l]
 obtain ⟨A2, hA2⟩ : ∃ A2, (if 0 < took ∧ r.keeps = true then A1.set (zAf took) (min (A1.getD (zAf took) 0 + 1) 1000) else A1) = A2 := ⟨_, rfl⟩
 have hmt : m.to.toNat < C1.length := by omega
 have hmt2 : m.to.toNat < (Cells.ints .i64 C1).len := hmt
 obtain ⟨q3, hq3⟩ : ∃ q3, (if 0 < took ∨ m.fr < 0 then 0 else min (qt + 1) 200) = q3 := ⟨_, rfl⟩
 repeat (first | refine zZ ?_ | refine zK rfl ?_ | refine zA (zV rfl rfl rfl rfl rfl) ?_ | refine zA (zF rfl rfl rfl rfl) ?_ | refine zA (zO rfl rfl rfl rfl rfl rfl) ?_ | refine zA (zL rfl rfl rfl rfl rfl rfl) ?_)
 refine zA (zDC rfl rfl (by omega)) ?_
 repeat (first | refine zA (zG rfl) ?_ | refine zC ?_ | refine zB ?_ | refine zZ ?_ | refine zK rfl ?_ | refine zA (zCo rfl rfl) ?_ | refine zA (zBA rfl rfl (by omega)) ?_ | refine zA (zr rfl rfl rfl rfl rfl (by first | (simp only [Nat.zero_add, Int.toNat_natCast, Int.toNat_zero]; exact rfl) | exact rfl) (by omega)) ?_ | refine zA (zF rfl rfl rfl rfl) ?_ | refine zA (zL rfl rfl rfl rfl rfl rfl) ?_ | refine zAH rfl rfl rfl rfl rfl rfl rfl (by first | assumption | (show _ < List.length _; first | assumption | omega)) ?_)
 refine zAX [none, none, none, some ⟨35, .box poZ⟩, none, none, some ⟨3, .ints .i64 C2⟩, some ⟨3, .ints .i64 b⟩, some ⟨3, .ints .i64 A1⟩, some ⟨35, .box [.sl 6 0 cs.length, .sl 7 0 b.length, .sl 8 0 a.length, .int .i64 1, .int .i64 qt]⟩] (by rw [← hC2]; rfl) ?_
 apply zAP (H := [none, none, none, some ⟨35, .box poZ⟩, none, none, some ⟨3, .ints .i64 C2⟩, some ⟨3, .ints .i64 b⟩, some ⟨3, .ints .i64 A2⟩, some ⟨35, .box [.sl 6 0 cs.length, .sl 7 0 b.length, .sl 8 0 a.length, .int .i64 1, .int .i64 qt]⟩]) [(3, .rp (.box (ruC r)) 0 0), (4, .rp (.box [zAB cs, zAB b, zAB a, .int .i64 1, .int .i64 qt]) 0 0), (5, .rp (.box (mvC m)) 0 0), (6, .ptr 3 0 0), (7, .ptr 9 0 0), (8, .int .i64 took)]
 ·intro fin
  refine zn rfl rfl (fun f1 => ?_) (fun f1 => ?_)
  ·have f1 : 0 < took := f1
   refine zBC ?_
   refine zAR rfl (fun f2 => ?_) (fun f2 => ?_)
   ·rw [if_pos ⟨f1, f2⟩] at hA2
    have hKl : zAf took < A1.length := by have := htK (by omega); omega
    have hKl2 : zAf took < (Cells.ints .i64 A1).len := hKl
    have hKC : (took - 1) / 2 = ((zAf took : Nat) : Int) := by unfold zAf; rw [Int.tdiv_eq_ediv_of_nonneg (by omega)]; omega
    have hKin := hA1in (zAf took)
    generalize zAf took = K at hA2 hKl hKl2 hKC hKin
    refine zZ ?_
    repeat (first | refine zA (zG rfl) ?_ | refine zA (zP rfl) ?_ | refine zC ?_ | refine zB ?_ | refine zK rfl ?_ | refine zA (zBR rfl rfl (by omega)) ?_ | refine zA (zIY rfl rfl (by omega)) ?_)
    refine zBM 9 (iN K) rfl (AEq.of_eq (by rw [hKC])) ?_
    refine zg (by kernel_rfl) ?_
    refine zq (fuel := 1) [0, 1, 2, 3, 4, 5, 6, 7, 8, 9, 10, 11, 12, 13, 14, 15, 16] [(3, .rp (.box (ruC r)) 0 0), (4, .rp (.box [zAB cs, zAB b, zAB a, .int .i64 1, .int .i64 qt]) 0 0), (5, .rp (.box (mvC m)) 0 0), (6, .ptr 3 0 0), (7, .ptr 9 0 0), (8, .int .i64 took), (9, iN K)] ⟨rfl, rfl, rfl, rfl, rfl, rfl, rfl, trivial⟩ (by kernel_rfl) (by decide) rfl rfl ?_
    refine zI rfl rfl (zL rfl rfl rfl rfl rfl rfl) ?_
    refine zI rfl rfl (zF rfl rfl rfl rfl) ?_
    refine zI rfl rfl (zO rfl rfl rfl rfl rfl rfl) ?_
    refine zI rfl rfl (zAk rfl rfl rfl rfl rfl (by show (0 : Int) ≤ 1 ∧ (1 : Int) < 2; decide)) ?_
    refine zI rfl rfl (zV rfl rfl rfl rfl rfl) ?_
    refine zI rfl rfl (zG rfl) ?_
    refine zI rfl rfl (zL rfl rfl rfl rfl rfl rfl) ?_
    refine zI rfl rfl (zF rfl rfl rfl rfl) ?_
    refine zI rfl rfl (zO rfl rfl rfl rfl rfl rfl) ?_
    refine zI rfl rfl (zAk rfl rfl rfl rfl rfl (by show (0 : Int) ≤ 1 ∧ (1 : Int) < 2; decide)) ?_
    refine zI rfl rfl (zV rfl rfl rfl rfl rfl) ?_
    refine zI rfl rfl (zG rfl) ?_
    refine zI rfl rfl (zr rfl rfl rfl rfl rfl (by first | (simp only [Nat.zero_add, Int.toNat_natCast, Int.toNat_zero]; exact rfl) | exact rfl) (by omega)) ?_
    refine zI rfl rfl (zBK rfl rfl rfl rfl (by first | assumption | omega)) ?_
    refine zI rfl rfl (zBA rfl rfl (by omega)) ?_
    refine zI rfl rfl (zMj rfl rfl) ?_
    refine zI rfl rfl (zr rfl rfl rfl rfl rfl (by first | (simp only [Nat.zero_add, Int.toNat_natCast, Int.toNat_zero]; exact rfl) | exact rfl) (by omega)) ?_
    refine z7 ?_
    refine zH (is := [17]) (by kernel_rfl) (by simp) rfl ⟨fun o ho => ?_, trivial⟩
    all_goals (cases ho)
    refine rn7 ?_
    refine zX (by kernel_rfl) ?_
    repeat (refine zB ?_)
    have e : (if A1.getD K 0 + 1 ≤ 1000 then A1.getD K 0 + 1 else (1000 : Int)) = (if 1000 < A1.getD K 0 + 1 then 1000 else A1.getD K 0 + 1) := by split <;> split <;> omega
    refine zAU [none, none, none, some ⟨35, .box poZ⟩, none, none, some ⟨3, .ints .i64 C2⟩, some ⟨3, .ints .i64 b⟩, some ⟨3, .ints .i64 A2⟩, some ⟨35, .box [.sl 6 0 cs.length, .sl 7 0 b.length, .sl 8 0 a.length, .int .i64 1, .int .i64 qt]⟩] (by rw [← hA2, Int.min_def, e]; rfl) ?_
    exact fin _ ⟨rfl, rfl, rfl, rfl, rfl, rfl, trivial⟩
   ·rw [if_neg (fun q => by rw [f2] at q; exact Bool.false_ne_true q.2)] at hA2
    subst hA2
    refine zGn ?_
    exact fin _ ⟨rfl, rfl, rfl, rfl, rfl, rfl, trivial⟩
  ·have f1 : ¬ 0 < took := f1
   rw [if_neg (fun q => f1 q.1)] at hA2
   subst hA2
   refine zGn ?_
   exact fin _ ⟨rfl, rfl, rfl, rfl, rfl, rfl, trivial⟩
 repeat (first | refine zA (zG rfl) ?_ | refine zC ?_ | refine zB ?_ | refine zZ ?_ | refine zK rfl ?_ | refine zA (zCo rfl rfl) ?_ | refine zA (zBA rfl rfl (by omega)) ?_ | refine zA (zF rfl rfl rfl rfl) ?_ | refine zA (zMj rfl rfl) ?_ | refine zA (zO rfl rfl rfl rfl rfl rfl) ?_ | refine zA (zL rfl rfl rfl rfl rfl rfl) ?_ | refine zAH rfl rfl rfl rfl rfl rfl rfl Nat.zero_lt_one ?_)
 refine zAX [none, none, none, some ⟨35, .box poZ⟩, none, none, some ⟨3, .ints .i64 C2⟩, some ⟨3, .ints .i64 b⟩, some ⟨3, .ints .i64 A2⟩, some ⟨35, .box [.sl 6 0 cs.length, .sl 7 0 b.length, .sl 8 0 a.length, .int .i64 1, .int .i64 (if 200 < qt + 1 then 200 else qt + 1)]⟩] rfl ?_
 apply zAP (H := [none, none, none, some ⟨35, .box poZ⟩, none, none, some ⟨3, .ints .i64 C2⟩, some ⟨3, .ints .i64 b⟩, some ⟨3, .ints .i64 A2⟩, some ⟨35, .box [.sl 6 0 cs.length, .sl 7 0 b.length, .sl 8 0 a.length, .int .i64 1, .int .i64 q3]⟩]) [(3, .rp (.box (ruC r)) 0 0), (4, .rp (.box [zAB cs, zAB b, zAB a, .int .i64 1, .int .i64 qt]) 0 0), (5, .rp (.box (mvC m)) 0 0), (6, .ptr 3 0 0), (7, .ptr 9 0 0), (8, .int .i64 took)]
 ·intro fin
  refine zn rfl rfl (fun f1 => ?_) (fun f1 => ?_)
  ·have f1 : 0 < took := f1
   rw [if_pos (.inl f1)] at hq3
   subst hq3
   repeat (first | refine zC ?_ | refine zB ?_ | refine zK rfl ?_ | refine zAb rfl rfl rfl ?_ | refine zAj rfl ?_ | refine zA (zh rfl rfl) ?_ | refine zA (zO rfl rfl rfl rfl rfl rfl) ?_ | refine zAH rfl rfl rfl rfl rfl rfl rfl Nat.zero_lt_one ?_)
   exact fin _ ⟨rfl, rfl, rfl, rfl, rfl, rfl, trivial⟩
  ·have f1 : ¬ 0 < took := f1
   repeat (first | refine zC ?_ | refine zB ?_ | refine zw rfl rfl ?_ | refine zA (zCK rfl rfl) ?_ | refine zA (zh rfl rfl) ?_ | refine zA (zF rfl rfl rfl rfl) ?_ | refine zA (zL rfl rfl rfl rfl rfl rfl) ?_)
   refine zD rfl (fun f2 => ?_) (fun f2 => ?_)
   ·have f2 : m.fr < 0 := f2
    rw [if_pos (.inr f2)] at hq3
    subst hq3
    repeat (first | refine zC ?_ | refine zB ?_ | refine zK rfl ?_ | refine zA (zO rfl rfl rfl rfl rfl rfl) ?_ | refine zAH rfl rfl rfl rfl rfl rfl rfl Nat.zero_lt_one ?_)
    exact fin _ ⟨rfl, rfl, rfl, rfl, rfl, rfl, trivial⟩
   ·have f2 : ¬ m.fr < 0 := f2
    rw [if_neg (fun q => q.elim f1 f2)] at hq3
    refine zGn ?_
    have e : (if 200 < qt + 1 then (200 : Int) else qt + 1) = q3 := by
     rw [← hq3, Int.min_def]
     split <;> split <;> omega
    refine zAU [none, none, none, some ⟨35, .box poZ⟩, none, none, some ⟨3, .ints .i64 C2⟩, some ⟨3, .ints .i64 b⟩, some ⟨3, .ints .i64 A2⟩, some ⟨35, .box [.sl 6 0 cs.length, .sl 7 0 b.length, .sl 8 0 a.length, .int .i64 1, .int .i64 q3]⟩] (by rw [e]) ?_
    exact fin _ ⟨rfl, rfl, rfl, rfl, rfl, rfl, trivial⟩
 repeat (first | refine zC ?_ | refine zB ?_ | refine zZ ?_ | refine zK rfl ?_ | refine zA (zBR rfl rfl (by omega)) ?_ | refine zA (zF rfl rfl rfl rfl) ?_ | refine zA (zO rfl rfl rfl rfl rfl rfl) ?_ | refine zA (zL rfl rfl rfl rfl rfl rfl) ?_ | refine zA (qpp rfl rfl rfl rfl rfl rfl rfl) ?_ | refine zAH rfl rfl rfl rfl rfl rfl rfl Nat.zero_lt_one ?_)
 have hA2l : A2.length = a.length := by rw [← hA2]; split <;> simp [hA1l]
 have hmk : zQ r ⟨cs, b, a, 1, qt⟩ m = ⟨C2, b, A2, 1 - 1, q3⟩ := by
  have e : zQ r ⟨cs, b, a, 1, qt⟩ m = ⟨(if 0 ≤ m.fr then cs.set m.fr.toNat 0 else cs).set m.to.toNat (2 * m.pc + 1 + 1), b, (if 0 < zAM ⟨cs, b, a, 1, qt⟩ m.to.toNat ∧ r.keeps = true then (if 0 ≤ m.fr then a else a.set m.pc.toNat (a.getD m.pc.toNat 0 - 1)).set (zAf (zAM ⟨cs, b, a, 1, qt⟩ m.to.toNat)) (min ((if 0 ≤ m.fr then a else a.set m.pc.toNat (a.getD m.pc.toNat 0 - 1)).getD (zAf (zAM ⟨cs, b, a, 1, qt⟩ m.to.toNat)) 0 + 1) 1000) else (if 0 ≤ m.fr then a else a.set m.pc.toNat (a.getD m.pc.toNat 0 - 1))), 1 - 1, if 0 < zAM ⟨cs, b, a, 1, qt⟩ m.to.toNat ∨ m.fr < 0 then 0 else min (qt + 1) 200⟩ := rfl
  rw [e, htk2, hC1, hA1, hC2, hA2, hq3]
 refine zd [.sl 6 0 cs.length, .sl 7 0 b.length, .sl 8 0 a.length, .int .i64 (1 - 1), .int .i64 q3] rfl rfl rfl rfl rfl rfl rfl ?_
 refine rn7 ?_
 refine zBO [none, none, none, none, none, none, some ⟨3, .ints .i64 C2⟩, some ⟨3, .ints .i64 b⟩, some ⟨3, .ints .i64 A2⟩, none] [none, none, none, some ⟨35, .box [.ro (.ints .i64 C2) 0 cs.length, .ro (.ints .i64 b) 0 b.length, .ro (.ints .i64 A2) 0 a.length, .int .i64 (1 - 1), .int .i64 q3]⟩, none, none, none, none, none, none] [(6, .ptr 3 0 0)] ?_ (zCr (zCr (zCr (zCr (zCr (zCr (zBz zAS (zBz zAS (zBz zAS (zCr zCg)))))))))) rfl ?_ (zCY ⟨rfl, trivial⟩) ?_
 ·intro h o ho
  match h, ho with
  | 0, ho => simp at ho
  | 1, ho => simp at ho
  | 2, ho => simp at ho
  | 3, ho => simp at ho
  | 4, ho => simp at ho
  | 5, ho => simp at ho
  | 6, ho => exact ho
  | 7, ho => exact ho
  | 8, ho => exact ho
  | 9, ho => simp at ho
  | _ + 10, ho => simp at ho
 ·intro h o ho
  match h, ho with
  | 0, ho => simp at ho
  | 1, ho => simp at ho
  | 2, ho => simp at ho
  | 3, ho =>
   cases ho
   refine ⟨fun o h => by simp at h, ⟨35, .box [.sl 6 0 cs.length, .sl 7 0 b.length, .sl 8 0 a.length, .int .i64 (1 - 1), .int .i64 q3]⟩, rfl, rfl, rfl, rfl, fun i j hi hj => ?_⟩
   obtain rfl : i = 0 := Nat.lt_one_iff.1 hi
   have hj : j < 5 := hj
   match j, hj with
   | 0, _ => exact .inr (.inr ⟨rfl, fun o ho => by cases ho; show 0 + cs.length ≤ C2.length; omega⟩)
   | 1, _ => exact .inr (.inr ⟨rfl, fun o ho => by cases ho; show 0 + b.length ≤ b.length; omega⟩)
   | 2, _ => exact .inr (.inr ⟨rfl, fun o ho => by cases ho; show 0 + a.length ≤ A2.length; omega⟩)
   | 3, _ => exact .inl rfl
   | 4, _ => exact .inl rfl
  | 4, ho => simp at ho
  | 5, ho => simp at ho
  | 6, ho => simp at ho
  | 7, ho => simp at ho
  | 8, ho => simp at ho
  | 9, ho => simp at ho
  | _ + 10, ho => simp at ho
 repeat (refine zAC ?_)
 refine zJ hR rfl ?_
 rw [hmk]
 show AV.agg [.ro (.ints .i64 C2) 0 cs.length, .ro (.ints .i64 b) 0 b.length, .ro (.ints .i64 A2) 0 a.length, .int .i64 (1 - 1), .int .i64 q3] = AV.agg [zAB C2, zAB b, zAB A2, .int .i64 (1 - 1), .int .i64 q3]
 unfold zAB
 rw [hC2l, hA2l]
/-- moves.Make -/
theorem zDm (r : Go.Ax.Gm.Rules) (hv : ValidR r) (p : Pos) (S : Sound r p) (m : Mv) (hm : MvOK r p m) : zj Tryz.prog 67 [ruA r, poA p, mvA m] (poA (zQ r p m)) := by
 obtain ⟨cs, h0, h1, turn, qt⟩ := p
 rcases S.tn with q | q
 ·have q : turn = 0 := q
  subst q
  exact make0_ok r hv cs h0 h1 qt S m hm
 ·have q : turn = 1 := q
  subst q
  exact make1_ok r hv cs h1 h0 qt S m hm
theorem zGX {r : Go.Ax.Gm.Rules} (hv : ValidR r) {p : Pos} (S : Sound r p) : zj Tryz.prog 86 [poA p] (.str (keyT p)) :=
 key_ok p (zAv hv S) S.tn (fun c hc => by have := S.cs c hc; have := hv.n6; omega) S.c0 S.c1
def zCZ (l : List Pos) : List AV := l.map (fun p => .str (keyT p))
def zDH (n : Nat) : List AV := (List.range n).map (fun i : Nat => iN i)
abbrev zEA (nx : List (List Nat)) : Cells := zCx [] 1 (fun row : List Nat => [zAB (row.map Int.ofNat)]) nx
abbrev tbC (r : Go.Ax.Gm.Rules) (l n : Nat) (e : AV) : List AV := [.str r.name, .int .i64 r.w, .int .i64 r.h, .ro (zAn r.pcs) 0 r.pcs.length, zAB r.start, .bool r.falls, .bool r.keeps, .ro (zFT r.ends) 0 r.ends.length, .int .i64 r.blocked, .int .i64 r.quiet, .int .i64 r.rep, .sl 2 0 l, .sl 3 0 n, e, .mp 0]
abbrev zJ2 (r : Go.Ax.Gm.Rules) (l : List Pos) (nx : List (List Nat)) (L : List Int) : zR :=
 [some ⟨95, .mp (zCZ l) (zDH l.length)⟩, some ⟨97, .box (tbC r l.length nx.length .nil)⟩, some ⟨35, zCJ l⟩, some ⟨23, zEA nx⟩, some ⟨3, .ints .i64 L⟩]
theorem zDs (l : List Pos) : ∀ x ∈ zCZ l, zEn .str x = true := fun x hx => by
 obtain ⟨p, _, rfl⟩ := List.mem_map.1 hx
 rfl
theorem zOl {l : List Pos} {i : Nat} (h : i < l.length) : (zCZ l)[i]? = some (.str (keyT (l.getD i zu))) := by
 unfold zCZ
 rw [List.getElem?_map, List.getElem?_eq_getElem h]; simp [List.getD, h]
theorem zIF {n i : Nat} (h : i < n) : (zDH n)[i]? = some (iN i) := by
 unfold zDH
 rw [List.getElem?_map, List.getElem?_range h]; rfl
theorem zH5 {l : List Pos} {p : Pos} (h : zAu l p < l.length) : (zCZ l)[zAu l p]? = some (.str (keyT p)) := by
 rw [zOl h, zIs h]; rfl
theorem zF4 {r : Go.Ax.Gm.Rules} (hv : ValidR r) {l : List Pos} {p : Pos} (S : Sound r p) (G : ∀ q ∈ l, Sound r q ∧ q.quiet = 0) (h : ¬ zAu l p < l.length) : AV.str (keyT p) ∉ zCZ l := fun hm => by
 obtain ⟨q, hq, e⟩ := List.mem_map.1 hm
 have e := key_inj hv (G q hq).1 S (AV.str.inj e)
 rw [zKs (G q hq).2] at e
 exact idx_no h (e ▸ hq)
theorem zHw {n : Nat} : ∀ {l : List AV}, (∀ x ∈ l, zCq n x = true) → zB9 n l = true
 | [], _ => rfl
 | x :: l, h => by
  show (zCq n x && zB9 n l) = true
  rw [h x (List.mem_cons_self ..), zHw (fun y hy => h y (List.mem_cons_of_mem _ hy))]; rfl
theorem zJN {n : Nat} (l : List Pos) (m : Nat) : zAx n (.mp (zCZ l) (zDH m)) :=
 ⟨zHw (fun x hx => by obtain ⟨p, _, rfl⟩ := List.mem_map.1 hx; rfl), zHw (fun x hx => by obtain ⟨p, _, rfl⟩ := List.mem_map.1 hx; rfl)⟩
theorem zFH {n : Nat} (l : List Pos) : zAx n (zCJ l) := fun i j _ hj => by
 have hj : j < 5 := hj
 match j, hj with
 | 0, _ => rfl
 | 1, _ => rfl
 | 2, _ => rfl
 | 3, _ => rfl
 | 4, _ => rfl
theorem zJo {n : Nat} (nx : List (List Nat)) : zAx n (zEA nx) := fun i j _ hj => by
 obtain rfl : j = 0 := Nat.lt_one_iff.1 hj
 rfl
theorem zJ3 (r : Go.Ax.Gm.Rules) (l : List Pos) (nx : List (List Nat)) (L : List Int) : ∀ (h : Nat) (o : AObj), (zJ2 r l nx L)[h]? = some (some o) → zAx (zJ2 r l nx L).length o.c :=
 zBs (zJN l _) (zBs (zGl rfl) (zBs (zFH l) (zBs (zJo nx) (zBs (fun _ _ _ _ => rfl) zBP))))
theorem zF1 {h : Nat} : ∀ {l : List AV}, (∀ x ∈ l, x.forget h = x) → AV.forgets h l = l
 | [], _ => rfl
 | x :: l, q => by
  show x.forget h :: AV.forgets h l = x :: l
  rw [q x (List.mem_cons_self ..), zF1 (fun y hy => q y (List.mem_cons_of_mem _ hy))]
theorem zEo {h : Nat} (l : List Pos) (m : Nat) : (Cells.mp (zCZ l) (zDH m)).forget h = .mp (zCZ l) (zDH m) := by
 show Cells.mp (AV.forgets h (zCZ l)) (AV.forgets h (zDH m)) = _
 rw [zF1 (fun x hx => by obtain ⟨p, _, rfl⟩ := List.mem_map.1 hx; rfl), zF1 (fun x hx => by obtain ⟨p, _, rfl⟩ := List.mem_map.1 hx; rfl)]
theorem zBv {α : Type} {d : α} {n h : Nat} {e : α → List AV} {l : List α} (q : ∀ a j, ((e a).getD j .any).forget h = (e a).getD j .any) : (zCx d n e l).forget h = zCx d n e l := by
 show Cells.fn l.length n (fun i j => ((e (l.getD i d)).getD j .any).forget h) = _
 simp only [q]; rfl
theorem zDu (a : Pos) (j k : Nat) : ((poC a).getD j .any).forget k = (poC a).getD j .any := by
 match j with
 | 0 => rfl
 | 1 => rfl
 | 2 => rfl
 | 3 => rfl
 | 4 => rfl
 | j + 5 => rfl
theorem zEr (a : List Nat) (j k : Nat) : (([zAB (a.map Int.ofNat)] : List AV).getD j .any).forget k = ([zAB (a.map Int.ofNat)] : List AV).getD j .any := by
 match j with
 | 0 => rfl
 | j + 1 => rfl
theorem zKn (l : List Pos) (p : Pos) : zCZ l ++ [.str (keyT p)] = zCZ (l ++ [zBG p]) := by unfold zCZ; rw [List.map_append]; rfl
theorem zK1 (n : Nat) : zDH n ++ [iN n] = zDH (n + 1) := by unfold zDH; rw [List.range_succ, List.map_append]; rfl
/-- (*retro.Table).add -/
theorem add_ok (r : Go.Ax.Gm.Rules) (hv : ValidR r) (l : List Pos) (nx : List (List Nat)) (L : List Int) (p : Pos) (S : Sound r p) (G : ∀ q ∈ l, Sound r q ∧ q.quiet = 0) (hl : l.length ≤ 3001) :
 zb Tryz.prog 78 [.ptr 1 0 0, poA p] (zJ2 r l nx L) (fun h => h < 5 ∧ h ≠ 2) (fun v H => v = iN (zAu l p) ∧ H = zJ2 r (zDM l p) nx L) := by
 have hc : zb Tryz.prog 78 [.ptr 1 0 0, poA p] (zJ2 r l nx L) (fun h => h < 5 ∧ h ≠ 2) (fun v H => v = iN (zAu l p) ∧ ∃ x, H = zJ2 r (zDM l p) nx L ++ [x]) := by
  refine zM (P := Tryz.prog) (fn := Tryz.f78) rfl rfl (by kernel_rfl) rfl (fun c hR hfix => ?_)
  refine rn6 ?_
  refine zN rfl rfl rfl (zGX hv S) ?_
  refine rn8 ?_
  by_cases hi : zAu l p < l.length
  ·have hadd : zDM l p = l := by unfold zDM; rw [if_pos hi]
   rw [hadd] at hR
   refine zA (zFb rfl (.str rfl) rfl rfl rfl rfl (zDs l) (zAu l p) (zH5 hi) (zIF hi)) ?_
   refine rn5 ?_
   exact zJ hR rfl ⟨rfl, _, rfl⟩
  ·have hadd : zDM l p = l ++ [zBG p] := by unfold zDM; rw [if_neg hi]
   have hidx : zAu l p = l.length := by have := zLM l p; omega
   rw [hadd, hidx] at hR
   refine zA (zE0 rfl (.str rfl) rfl rfl rfl rfl rfl rfl rfl rfl (zDs l) (zF4 hv S G hi)) ?_
   repeat (first | refine zA (zG rfl) ?_ | refine zA (zP rfl) ?_ | refine zC ?_ | refine zB ?_ | refine zZ ?_ | refine zK rfl ?_ | refine zAj rfl ?_ | refine zA (zV rfl rfl rfl rfl rfl) ?_ | refine zA (zEa rfl) ?_ | refine zA (zA5 rfl rfl) ?_ | refine zA (zBB rfl rfl rfl) ?_ | refine zA (zU rfl) ?_ | refine zA (zO rfl rfl rfl rfl rfl rfl) ?_ | refine zAH rfl rfl rfl rfl rfl rfl rfl Nat.zero_lt_one ?_)
   refine zFt rfl (.str rfl) rfl rfl rfl rfl rfl (zDs l) (zF4 hv S G hi) ?_
   refine rn0 ?_
   have hll : (l ++ [zBG p]).length = l.length + 1 := by rw [List.length_append]; rfl
   refine zAU [some ⟨95, .mp (zCZ (l ++ [zBG p])) (zDH (l.length + 1))⟩, some ⟨97, .box (tbC r l.length nx.length .nil)⟩, some ⟨35, zCJ l⟩, some ⟨23, zEA nx⟩, some ⟨3, .ints .i64 L⟩, some ⟨35, .box (poC (zBG p))⟩] (by rw [← zKn, ← zK1]; rfl) ?_
   refine zg (by kernel_rfl) ?_
   refine zW 0 rfl (by kernel_rfl) (by kernel_rfl) (by kernel_rfl) rfl (zG rfl) rfl ?_
   refine zq (fuel := 4) [1, 2, 3, 4, 5, 6] [(33, .ptr 1 0 0), (0, .ptr 1 0 0), (3, .ptr 5 0 0), (6, iN l.length)] ⟨rfl, rfl, rfl, rfl, trivial⟩ (by kernel_rfl) (by decide) rfl rfl ?_
   refine zI rfl rfl (zG rfl) ?_
   refine zI rfl rfl (zU rfl) ?_
   refine zI rfl rfl (zO rfl rfl rfl rfl rfl rfl) ?_
   refine zI rfl rfl (zV rfl rfl rfl rfl rfl) ?_
   refine zI rfl rfl (qpp rfl rfl rfl rfl rfl rfl rfl) ?_
   refine px_b rfl rfl rfl rfl rfl rfl rfl rfl rfl rfl rfl rfl rfl ?_
   refine z7 ?_
   refine zH (is := [7]) (by kernel_rfl) (by simp) rfl ⟨fun o ho => ?_, trivial⟩
   all_goals (cases ho)
   refine zBW [zBG p] rfl rfl rfl rfl rfl rfl rfl rfl rfl rfl rfl rfl rfl (Nat.le_refl _) (fun k' j hk' hj => ?_) (by show (l.length + 1) * 88 ≤ _ ∧ _; omega) (fun a j k _ => zDu a j k) (by rw [hfix]; exact fun h => h.2 rfl) ?_
   ·obtain rfl : k' = 0 := Nat.lt_one_iff.1 hk'
    match j, hj with
    | 0, _ => rfl
    | 1, _ => rfl
    | 2, _ => rfl
    | 3, _ => rfl
    | 4, _ => rfl
   refine zAX [some ⟨95, .mp (zCZ (l ++ [zBG p])) (zDH (l.length + 1))⟩, some ⟨97, .box ((tbC r l.length nx.length .nil).set 11 .any)⟩, some ⟨35, zCJ (l ++ [zBG p])⟩, some ⟨23, zEA nx⟩, some ⟨3, .ints .i64 L⟩, some ⟨35, .box (poC (zBG p))⟩] ?_ ?_
   ·show [some (AObj.mk _ ((Cells.mp _ _).forget 2)), some (AObj.mk _ ((Cells.box _).forget 2)), some (AObj.mk _ (zCJ (l ++ [zBG p]))), some (AObj.mk _ ((zEA nx).forget 2)), some (AObj.mk _ ((Cells.ints .i64 L).forget 2)), some (AObj.mk _ ((Cells.box (poC (zBG p))).forget 2))] = _
    rw [zEo, zBv (fun a j => zEr a j 2)]; rfl
   refine rn1 ?_
   refine zW 8 rfl (by kernel_rfl) (by kernel_rfl) (by kernel_rfl) rfl (zU rfl) rfl ?_
   refine zW 9 rfl (by kernel_rfl) (by kernel_rfl) (by kernel_rfl) rfl (zO rfl rfl rfl rfl rfl rfl) rfl ?_
   refine zH (is := [10]) (by kernel_rfl) (by simp) rfl ⟨fun o ho => ?_, trivial⟩
   all_goals (cases ho)
   refine rn9 ?_
   refine zX (by kernel_rfl) ?_
   refine rn0 ?_
   exact zJ hR rfl ⟨rfl, _, by show _ = [_, _, _, _, _, _]; rw [hll]; rfl⟩
 exact zb.cutR hc (fun v H ⟨e1, x, e2⟩ => ⟨_, [x], e2, fun h q => q.1, zJ3 _ _ _ _, e1 ▸ rfl, e1, rfl⟩)
/-- slices.IndexFunc of numbers, the function looks at the caller's memory -/
theorem zNM {H : zR} (l : List Int) (q : Int → Bool) (g : Nat) (caps : List AV) (hl : l.length ≤ 1000000) (hc : ∀ x ∈ l, zb Tryz.prog g (.int .i64 x :: caps) H (fun h => h < H.length) (fun r H' => r = .bool (q x) ∧ H' = H)) :
 zb Tryz.prog 119 [zAB l, .fn g caps] H (fun h => h < H.length) (fun r H' => (∃ n : Int, r = .int .i64 n ∧ (decide (0 ≤ n) = l.any q)) ∧ H' = H) := by
 refine zM (P := Tryz.prog) (fn := Tryz.f119) rfl rfl (by kernel_rfl) rfl (fun c hR hfix => ?_)
 refine rn3 ?_
 refine zAA (ι := Nat) (fun k => [(0, zAB l), (1, .fn g caps), (7, iN l.length), (8, iN k)]) (fun _ => H)
  (fun k => k ≤ l.length ∧ (l.take k).any q = false) (fun k => l.length - k) 0 ⟨⟨rfl, rfl, rfl, rfl, trivial⟩, rfl, Nat.zero_le _, by rw [List.take_zero]; rfl⟩ ?_
 intro k ⟨hk, hno⟩
 refine rn4 ?_
 refine zD rfl (fun h => ?_) (fun h => ?_)
 ·have hk' : k < l.length := by omega
  have hmem : l.getD k 0 ∈ l := zAL 0 hk'
  have htk : (l.take (k + 1)).any q = ((l.take k).any q || q (l.getD k 0)) := by rw [zz _ 0 k hk', List.any_append]; simp
  refine rn6 ?_
  refine zCG rfl rfl rfl (hc _ hmem) (fun _ h => h) (fun _ h => h) ?_
  rintro r H' ⟨rfl, rfl⟩
  refine rn0 ?_
  cases hq : q (l.getD k 0) with
  | true =>
   refine rn6 ?_
   refine zJ hR rfl ⟨⟨(k : Nat), rfl, ?_⟩, rfl⟩
   rw [decide_eq_true (by omega : (0 : Int) ≤ (k : Nat)), List.any_eq_true.2 ⟨_, hmem, hq⟩]
  | false =>
   refine rn5 ?_
   exact zS ⟨k + 1, ⟨by omega, by rw [htk, hno, hq]; rfl⟩, by omega, ⟨rfl, rfl, rfl, rfl, trivial⟩, rfl⟩
 ·have hk' : k = l.length := by omega
  subst hk'
  rw [List.take_length] at hno
  refine rn5 ?_
  refine zJ hR rfl ⟨⟨-1, rfl, ?_⟩, rfl⟩
  rw [hno]; rfl
/-- slices.ContainsFunc of numbers, the function looks at the caller's memory -/
theorem zH0 {H : zR} (l : List Int) (q : Int → Bool) (g : Nat) (caps : List AV) (hl : l.length ≤ 1000000) (hc : ∀ x ∈ l, zb Tryz.prog g (.int .i64 x :: caps) H (fun h => h < H.length) (fun r H' => r = .bool (q x) ∧ H' = H)) :
 zb Tryz.prog 91 [zAB l, .fn g caps] H (fun h => h < H.length) (fun r H' => r = .bool (l.any q) ∧ H' = H) := by
 refine zM (P := Tryz.prog) (fn := Tryz.f91) rfl rfl (by kernel_rfl) rfl (fun c hR hfix => ?_)
 refine rn0 ?_
 refine zCG rfl rfl rfl (zNM l q g caps hl hc) (fun _ h => h) (fun _ h => h) ?_
 rintro r H' ⟨⟨n, rfl, hn⟩, rfl⟩
 refine rn8 ?_
 exact zJ hR rfl ⟨congrArg AV.bool hn, rfl⟩
abbrev tbF (r : Go.Ax.Gm.Rules) (l : List Pos) (nx : List (List Nat)) (e : AV) : List AV := [.str r.name, .int .i64 r.w, .int .i64 r.h, .ro (zAn r.pcs) 0 r.pcs.length, zAB r.start, .bool r.falls, .bool r.keeps, .ro (zFT r.ends) 0 r.ends.length, .int .i64 r.blocked, .int .i64 r.quiet, .int .i64 r.rep, .ro (zCJ l) 0 l.length, .ro (zEA nx) 0 nx.length, e, .rom (zCZ l) (zDH l.length)]
abbrev zCP (E : List Ent) : Cells := zCx (0, 0) 2 zC7 E
/-- the closures of solve, over its memory -/
structure SolveH (r : Go.Ax.Gm.Rules) (l : List Pos) (nx : List (List Nat)) (E : List Ent) (H : zR) : Prop where
 h1 : H[1]? = some (some ⟨97, .box (tbF r l nx (.sl 3 0 E.length))⟩)
 h2 : H[2]? = some (some ⟨28, .box [.ptr 1 0 0]⟩)
 h3 : H[3]? = some (some ⟨37, zCP E⟩)
theorem cl1_ok {r : Go.Ax.Gm.Rules} {l : List Pos} {nx : List (List Nat)} {E : List Ent} {H : zR} (S : SolveH r l nx E H) (own : Int) (k : Int) (hk : 0 ≤ k ∧ k < (E.length : Int)) :
 zb Tryz.prog 109 [.int .i64 k, .ptr 2 0 0, .rp (.box [.int .i64 own]) 0 0] H (fun h => h < H.length) (fun r H' => r = .bool (decide ((E.getD k.toNat (0, 0)).1 = own)) ∧ H' = H) := by
 obtain ⟨h1, h2, h3⟩ := S
 have hk' : k.toNat < E.length := by omega
 refine zM (P := Tryz.prog) (fn := Tryz.f109) rfl rfl (by kernel_rfl) rfl (fun c hR hfix => ?_)
 refine rn0 ?_
 refine zg (by kernel_rfl) ?_
 refine zq (fuel := 0) [0, 1, 2, 3, 4, 5, 6, 7, 8, 9, 10] [(0, .int .i64 k), (1, .ptr 2 0 0), (2, .rp (.box [.int .i64 own]) 0 0)] ⟨rfl, rfl, rfl, trivial⟩ (by kernel_rfl) (by decide) rfl rfl ?_
 refine zI rfl rfl (zBc rfl rfl rfl (by assumption) (by rfl)) ?_
 refine zI rfl rfl (zU rfl) ?_
 refine zI rfl rfl (zO rfl rfl rfl rfl rfl rfl) ?_
 refine zI rfl rfl (zBc rfl rfl rfl (by assumption) (by rfl)) ?_
 refine zI rfl rfl (zG rfl) ?_
 refine zI rfl rfl (qis rfl rfl rfl) ?_
 refine zI rfl rfl (zO rfl rfl rfl rfl rfl rfl) ?_
 refine zI rfl rfl (zDw rfl rfl rfl (by assumption) rfl (by first | assumption | omega)) ?_
 refine zI rfl rfl (zF rfl rfl rfl rfl) ?_
 refine zI rfl rfl (zBb rfl rfl) ?_
 refine zI rfl rfl (zP rfl) ?_
 refine z7 ?_
 refine zX (by kernel_rfl) ?_
 refine rn0 ?_
 exact zJ hR rfl ⟨rfl, rfl⟩
theorem cl2_ok {r : Go.Ax.Gm.Rules} {l : List Pos} {nx : List (List Nat)} {E : List Ent} {H : zR} (S : SolveH r l nx E H) (own : Int) (k : Int) (hk : 0 ≤ k ∧ k < (E.length : Int)) :
 zb Tryz.prog 110 [.int .i64 k, .ptr 2 0 0, .rp (.box [.int .i64 own]) 0 0] H (fun h => h < H.length) (fun r H' => r = .bool (decide ((E.getD k.toNat (0, 0)).1 ≠ own)) ∧ H' = H) := by
 obtain ⟨h1, h2, h3⟩ := S
 have hk' : k.toNat < E.length := by omega
 refine zM (P := Tryz.prog) (fn := Tryz.f110) rfl rfl (by kernel_rfl) rfl (fun c hR hfix => ?_)
 refine rn0 ?_
 refine zg (by kernel_rfl) ?_
 refine zq (fuel := 0) [0, 1, 2, 3, 4, 5, 6, 7, 8, 9, 10] [(0, .int .i64 k), (1, .ptr 2 0 0), (2, .rp (.box [.int .i64 own]) 0 0)] ⟨rfl, rfl, rfl, trivial⟩ (by kernel_rfl) (by decide) rfl rfl ?_
 refine zI rfl rfl (zBc rfl rfl rfl (by assumption) (by rfl)) ?_
 refine zI rfl rfl (zU rfl) ?_
 refine zI rfl rfl (zO rfl rfl rfl rfl rfl rfl) ?_
 refine zI rfl rfl (zBc rfl rfl rfl (by assumption) (by rfl)) ?_
 refine zI rfl rfl (zG rfl) ?_
 refine zI rfl rfl (qis rfl rfl rfl) ?_
 refine zI rfl rfl (zO rfl rfl rfl rfl rfl rfl) ?_
 refine zI rfl rfl (zDw rfl rfl rfl (by assumption) rfl (by first | assumption | omega)) ?_
 refine zI rfl rfl (zF rfl rfl rfl rfl) ?_
 refine zI rfl rfl (zBj rfl rfl) ?_
 refine zI rfl rfl (zP rfl) ?_
 refine z7 ?_
 refine zX (by kernel_rfl) ?_
 refine rn0 ?_
 exact zJ hR rfl ⟨rfl, rfl⟩
theorem cl3_ok {r : Go.Ax.Gm.Rules} {l : List Pos} {nx : List (List Nat)} {E : List Ent} {H : zR} (S : SolveH r l nx E H) (i : Nat) (hi : i < l.length) (ht : zAE l i = 0 ∨ zAE l i = 1) (k : Int) (hk : 0 ≤ k ∧ k < (E.length : Int)) :
 zb Tryz.prog 111 [.int .i64 k, .ptr 2 0 0, .rp (.box [iN i]) 0 0] H (fun h => h < H.length) (fun r H' => r = .bool (decide ((E.getD k.toNat (0, 0)).1 = 1 + zAE l i)) ∧ H' = H) := by
 obtain ⟨h1, h2, h3⟩ := S
 have hk' : k.toNat < E.length := by omega
 have ht : 0 ≤ (l.getD i zu).turn ∧ (l.getD i zu).turn ≤ 1 := by unfold zAE at ht; omega
 refine zM (P := Tryz.prog) (fn := Tryz.f111) rfl rfl (by kernel_rfl) rfl (fun c hR hfix => ?_)
 refine rn0 ?_
 refine zg (by kernel_rfl) ?_
 refine zq (fuel := 0) [0, 1, 2, 3, 4, 5, 6, 7, 8, 9, 10, 11, 12, 13, 14, 15, 16, 17, 18] [(0, .int .i64 k), (1, .ptr 2 0 0), (2, .rp (.box [iN i]) 0 0)] ⟨rfl, rfl, rfl, trivial⟩ (by kernel_rfl) (by decide) rfl rfl ?_
 refine zI rfl rfl (zBc rfl rfl rfl (by assumption) (by rfl)) ?_
 refine zI rfl rfl (zU rfl) ?_
 refine zI rfl rfl (zO rfl rfl rfl rfl rfl rfl) ?_
 refine zI rfl rfl (zBc rfl rfl rfl (by assumption) (by rfl)) ?_
 refine zI rfl rfl (zG rfl) ?_
 refine zI rfl rfl (qis rfl rfl rfl) ?_
 refine zI rfl rfl (zO rfl rfl rfl rfl rfl rfl) ?_
 refine zI rfl rfl (zDw rfl rfl rfl (by assumption) rfl (by first | assumption | omega)) ?_
 refine zI rfl rfl (zBc rfl rfl rfl (by assumption) (by rfl)) ?_
 refine zI rfl rfl (zU rfl) ?_
 refine zI rfl rfl (zO rfl rfl rfl rfl rfl rfl) ?_
 refine zI rfl rfl (zBc rfl rfl rfl (by assumption) (by rfl)) ?_
 refine zI rfl rfl (zF rfl rfl rfl rfl) ?_
 refine zI rfl rfl (zi rfl rfl rfl rfl (by first | (simp only [Nat.zero_add, Int.toNat_natCast, Int.toNat_zero]; exact rfl) | exact rfl) (by omega)) ?_
 refine zI rfl rfl (zL rfl rfl rfl rfl rfl rfl) ?_
 refine zI rfl rfl (zAt rfl rfl rfl rfl) ?_
 refine zI rfl rfl (zBA rfl rfl (by omega)) ?_
 refine zI rfl rfl (zBb rfl rfl) ?_
 refine zI rfl rfl (zP rfl) ?_
 refine z7 ?_
 refine zX (by kernel_rfl) ?_
 refine rn0 ?_
 exact zJ hR rfl ⟨rfl, rfl⟩
/-- is(own): the box is only read from now on -/
theorem cl0_ok {H : zR} (own : Int) (hb : ∀ (h : Nat) (o : AObj), H[h]? = some (some o) → zAx H.length o.c) (hlt : 2 < H.length) :
 zb Tryz.prog 108 [.int .i64 own, .ptr 2 0 0] H (fun h => h < H.length) (fun r H' => r = .fn 109 [.ptr 2 0 0, .rp (.box [.int .i64 own]) 0 0] ∧ H' = H) := by
 have hc : zb Tryz.prog 108 [.int .i64 own, .ptr 2 0 0] H (fun h => h < H.length) (fun r H' => r = .fn 109 [.ptr 2 0 0, .rp (.box [.int .i64 own]) 0 0] ∧ H' = H ++ [none]) := by
  refine zM (P := Tryz.prog) (fn := Tryz.f108) rfl rfl (by kernel_rfl) rfl (fun c hR hfix => ?_)
  refine zZ ?_
  repeat (first | refine zA (zP rfl) ?_ | refine zC ?_ | refine zB ?_ | refine zK rfl ?_ | refine zAQ rfl rfl ?_)
  refine ax_fzN H 2 [(1, .ptr 2 0 0)] rfl rfl ⟨rfl, trivial⟩ ?_
  repeat (first | refine zA (zP rfl) ?_ | refine zC ?_ | refine zB ?_ | refine zZ ?_ | refine zK rfl ?_ | refine zAC ?_ | refine zA (zCw rfl) ?_)
  exact zJ hR rfl ⟨rfl, rfl⟩
 exact zb.cutR hc (fun v H' ⟨e1, e2⟩ => ⟨H, [none], e2, fun h q => q, hb, by rw [e1]; show (Nat.blt 2 H.length && _) = true; rw [show Nat.blt 2 H.length = true from Nat.ble_eq_true_of_le hlt]; rfl, e1, rfl⟩)
abbrev slH (r : Go.Ax.Gm.Rules) (l : List Pos) (nx : List (List Nat)) (E : List Ent) (T : zR) : zR :=
 none :: some ⟨97, .box (tbF r l nx (.sl 3 0 E.length))⟩ :: some ⟨28, .box [.ptr 1 0 0]⟩ :: some ⟨37, zCP E⟩ :: T
abbrev zG0 (f : List Nat) : Option AObj := some ⟨3, .ints .i64 (f.map Int.ofNat)⟩
abbrev resO (f : List Int) : Option AObj := some ⟨3, .ints .i64 f⟩
theorem slH_S (r : Go.Ax.Gm.Rules) (l : List Pos) (nx : List (List Nat)) (E : List Ent) (T : zR) : SolveH r l nx E (slH r l nx E T) := ⟨rfl, rfl, rfl⟩
theorem zNK {n : Nat} (E : List Ent) : zAx n (zCP E) := fun i j _ hj => by
 have hj : j < 2 := hj
 match j, hj with
 | 0, _ => rfl
 | 1, _ => rfl
theorem zHS (a : Ent) (j k : Nat) : ((zC7 a).getD j .any).forget k = (zC7 a).getD j .any := by
 match j with
 | 0 => rfl
 | 1 => rfl
 | j + 2 => rfl
/-- what solve may rely on -/
structure SolveP (r : Go.Ax.Gm.Rules) (l : List Pos) (nx : List (List Nat)) : Prop where
 hv : ValidR r
 ll : l.length ≤ 3000
 S : ∀ i, i < l.length → Sound r (l.getD i zu)
 nl : nx.length = l.length
 rl : ∀ i, i < l.length → (nx.getD i []).length ≤ 1000000
 nk : ∀ i, i < l.length → ∀ k ∈ nx.getD i [], k < l.length
theorem zGQ (n : Nat) : CEq (zBU n [.int .i64 0, .int .i64 0]) (zCP (List.replicate n (0, 0))) := by
 refine ⟨by show (List.replicate n ((0, 0) : Ent)).length = n; rw [List.length_replicate], rfl, fun i j hi hj => ?_⟩
 have hj : j < 2 := hj
 have e : (List.replicate n ((0, 0) : Ent)).getD i (0, 0) = (0, 0) := by
  simp only [List.getD, List.getElem?_replicate]; split <;> rfl
 show (zC7 ((List.replicate n ((0, 0) : Ent)).getD i (0, 0))).getD j .any = _
 rw [e]
 match j, hj with
 | 0, _ => rfl
 | 1, _ => rfl
theorem zGW {H : zR} {t : TypeId} {a b : Cells} (h : CEq a b) : zA3 (H ++ [some ⟨t, a⟩]) (H ++ [some ⟨t, b⟩]) :=
 zA3.append (zA3.refl H) (zA3.cons (fun o ho => by cases ho; exact ⟨_, rfl, rfl, h⟩) (zA3.refl []))
theorem zFJ (r : Go.Ax.Gm.Rules) (l : List Pos) (nx : List (List Nat)) (E : List Ent) {T : zR} (h : ∀ (h : Nat) (o : AObj), T[h]? = some (some o) → zAx (slH r l nx E T).length o.c) : ∀ (h : Nat) (o : AObj), (slH r l nx E T)[h]? = some (some o) → zAx (slH r l nx E T).length o.c :=
 have e : (slH r l nx E T).length = T.length + 4 := rfl
 have q : ∀ n, 4 ≤ n → (Nat.blt 3 n) = true ∧ (Nat.blt 1 n) = true := fun n hn => ⟨Nat.ble_eq_true_of_le hn, Nat.ble_eq_true_of_le (by omega)⟩
 bl_n (zBs (zGl (by show (true && (true && (true && (true && (true && (true && (true && (true && (true && (true && (true && (true && (true && (Nat.blt 3 _ && (true && true))))))))))))))) = true; rw [(q _ (by omega)).1]; rfl)) (zBs (zGl (by show (Nat.blt 1 _ && true) = true; rw [(q _ (by omega)).2]; rfl)) (zBs (zNK E) h)))
theorem zHC (r : Go.Ax.Gm.Rules) (l : List Pos) (nx : List (List Nat)) (E : List Ent) : ∀ (h : Nat) (o : AObj), (slH r l nx E [])[h]? = some (some o) → zAx (slH r l nx E []).length o.c := zFJ r l nx E zBP
/-- (*retro.Table).solve -/
theorem solve_ok (r : Go.Ax.Gm.Rules) (l : List Pos) (nx : List (List Nat)) (Q : SolveP r l nx) :
 zb Tryz.prog 79 [.ptr 1 0 0] [none, some ⟨97, .box (tbF r l nx .nil)⟩] (fun h => h < 2) (fun v H => v = .tup [] ∧ ∃ N, zA9 l nx (zm l nx (zAN r l) N) = [] ∧ H = slH r l nx (zCA (zm l nx (zAN r l) N)) []) := by
 obtain ⟨hv, hll, hS, hnl, hrl, hnk⟩ := Q
 refine zM (P := Tryz.prog) (fn := Tryz.f79) rfl rfl (by kernel_rfl) rfl (fun c hR hfix => ?_)
 have turnB : ∀ i, zAE l i = 0 ∨ zAE l i = 1 := fun i => by
  rcases Nat.lt_or_ge i l.length with q | q
  ·exact (hS i q).tn
  ·left; unfold zAE; rw [List.getD, List.getElem?_eq_none q]; rfl
 have hfx : ∀ h, c.fix h → h < 2 := fun h q => by rw [hfix] at q; exact q
 refine zZ ?_
 repeat (first | refine zC ?_ | refine zB ?_ | refine zK rfl ?_ | refine zAQ rfl rfl ?_)
 refine zZ ?_
 refine zg (by kernel_rfl) ?_
 apply zT (H := [none, some ⟨97, .box (tbF r l nx .nil)⟩, some ⟨28, .box [.ptr 1 0 0]⟩, some ⟨37, zCP (List.replicate l.length (0, 0))⟩]) [(1, .ptr 2 0 0), (19, .ptr 1 0 0), (25, .sl 3 0 l.length)]
 ·intro fin
  refine zH (is := [0, 1]) (by kernel_rfl) (by simp) rfl ⟨fun o ho => ?_, fun o ho => ?_, trivial⟩
  all_goals (cases ho)
  ·refine rn4 ?_
   refine zq (fuel := 4) [1, 2, 3, 4, 5] [(1, .ptr 2 0 0), (19, .ptr 1 0 0)] ⟨rfl, rfl, trivial⟩ (by kernel_rfl) (by decide) rfl rfl ?_
   refine zI rfl rfl (zV rfl rfl rfl rfl rfl) ?_
   refine zI rfl rfl (zU rfl) ?_
   refine zI rfl rfl (zO rfl rfl rfl rfl rfl rfl) ?_
   refine zI rfl rfl (zV rfl rfl rfl rfl rfl) ?_
   refine zI rfl rfl (zBB rfl rfl rfl) ?_
   refine z7 ?_
   refine zH (is := [6]) (by kernel_rfl) (by simp) rfl ⟨fun o ho => ?_, trivial⟩
   all_goals (cases ho)
   refine zHK rfl rfl rfl rfl rfl rfl rfl rfl (by show (0 : Int) ≤ _ ∧ _ ≤ _ ∧ (16 : Int) * _ ≤ _ ∧ _; omega) ?_
   refine zBS _ (zGW (zGQ l.length)) ?_
   refine rn1 ?_
   exact fin _ ⟨rfl, rfl, rfl, trivial⟩
  ·refine rn4 ?_
   refine zW 2 rfl (by kernel_rfl) (by kernel_rfl) (by kernel_rfl) rfl (zU rfl) rfl ?_
   refine zW 3 rfl (by kernel_rfl) (by kernel_rfl) (by kernel_rfl) rfl (zO rfl rfl rfl rfl rfl rfl) rfl ?_
   refine zH (is := [0, 4]) (by kernel_rfl) (by simp) rfl ⟨fun o ho => ?_, fun o ho => ?_, trivial⟩
   all_goals (cases ho)
   ·refine rn4 ?_
    refine zq (fuel := 4) [4, 5] [(1, .ptr 2 0 0), (19, .ptr 1 0 0), (22, .ptr 1 0 11)] ⟨rfl, rfl, rfl, trivial⟩ (by kernel_rfl) (by decide) rfl rfl ?_
    refine zI rfl rfl (zV rfl rfl rfl rfl rfl) ?_
    refine zI rfl rfl (zBB rfl rfl rfl) ?_
    refine z7 ?_
    refine zH (is := [6]) (by kernel_rfl) (by simp) rfl ⟨fun o ho => ?_, trivial⟩
    all_goals (cases ho)
    refine zHK rfl rfl rfl rfl rfl rfl rfl rfl (by show (0 : Int) ≤ _ ∧ _ ≤ _ ∧ (16 : Int) * _ ≤ _ ∧ _; omega) ?_
    refine zBS _ (zGW (zGQ l.length)) ?_
    refine rn1 ?_
    exact fin _ ⟨rfl, rfl, rfl, trivial⟩
   ·refine rn4 ?_
    refine zW 5 rfl (by kernel_rfl) (by kernel_rfl) (by kernel_rfl) rfl (zBB rfl rfl rfl) rfl ?_
    refine zH (is := [0, 6]) (by kernel_rfl) (by simp) rfl ⟨fun o ho => ?_, fun o ho => ?_, trivial⟩
    all_goals (cases ho)
    ·refine rn4 ?_
     refine zH (is := [6]) (by kernel_rfl) (by simp) rfl ⟨fun o ho => ?_, trivial⟩
     all_goals (cases ho)
     refine zHK rfl rfl rfl rfl rfl rfl rfl rfl (by show (0 : Int) ≤ _ ∧ _ ≤ _ ∧ (16 : Int) * _ ≤ _ ∧ _; omega) ?_
     refine zBS _ (zGW (zGQ l.length)) ?_
     refine rn1 ?_
     exact fin _ ⟨rfl, rfl, rfl, trivial⟩
    ·refine zHK rfl rfl rfl rfl rfl rfl rfl rfl (by show (0 : Int) ≤ _ ∧ _ ≤ _ ∧ (16 : Int) * _ ≤ _ ∧ _; omega) ?_
     refine zBS _ (zGW (zGQ l.length)) ?_
     refine rn1 ?_
     refine zH (is := [0]) (by kernel_rfl) (by simp) rfl ⟨fun o ho => ?_, trivial⟩
     all_goals (cases ho)
     refine rn4 ?_
     exact fin _ ⟨rfl, rfl, rfl, trivial⟩
 refine zW 7 rfl (by kernel_rfl) (by kernel_rfl) (by kernel_rfl) rfl (zU rfl) rfl ?_
 refine zW 8 rfl (by kernel_rfl) (by kernel_rfl) (by kernel_rfl) rfl (zO rfl rfl rfl rfl rfl rfl) rfl ?_
 refine zH (is := [9]) (by kernel_rfl) (by simp) rfl ⟨fun o ho => ?_, trivial⟩
 all_goals (cases ho)
 refine rn9 ?_
 refine zX (by kernel_rfl) ?_
 repeat (refine zB ?_)
 refine zAU (slH r l nx (zDU r l 0) []) (by rw [zMs]; show _ = [none, some (AObj.mk _ (.box (tbF r l nx (.sl 3 0 (List.replicate l.length ((0, 0) : Ent)).length)))), _, _]; rw [List.length_replicate]; rfl) ?_
 refine zZ ?_
 refine rn15 ?_
 refine zAA (ι := Nat) (fun k => [(1, .ptr 2 0 0), (31, .ro (zCJ l) 0 l.length), (32, iN l.length), (33, iN k)]) (fun k => slH r l nx (zDU r l k) []) (fun k => k ≤ l.length) (fun k => l.length - k) 0 ⟨⟨rfl, rfl, rfl, rfl, trivial⟩, rfl, Nat.zero_le _⟩ ?_
 ·intro k hk
  refine rn4 ?_
  refine zD rfl (fun h => ?_) (fun h => ?_)
  ·have hk' : k < l.length := by omega
   have hEl := zJy r hk
   generalize hp : l.getD k zu = p
   refine zFc ?_
   refine rn4 ?_
   refine zd (poC p) rfl rfl rfl rfl rfl (by rw [← hp]; rfl) rfl ?_
   refine rn0 ?_
   refine zCU (slH r l nx (zDU r l k) []) 3 [(1, .ptr 2 0 0), (31, .ro (zCJ l) 0 l.length), (32, iN l.length), (33, iN k), (2, iN k)] rfl rfl ⟨rfl, rfl, rfl, rfl, rfl, trivial⟩ ⟨rfl, rfl, rfl, rfl, rfl, rfl, trivial⟩ (zHC _ _ _ _) rfl (fun h q => Nat.lt_of_lt_of_le (hfx h q) (by show 2 ≤ 4; decide)) ?_
   refine zg (by kernel_rfl) ?_
   refine zq (fuel := 3) [0, 1, 2, 3, 4, 5, 6, 7, 8, 9, 10] [(3, .rp (.box (poC p)) 0 0), (1, .ptr 2 0 0), (31, .ro (zCJ l) 0 l.length), (32, iN l.length), (33, iN k), (2, iN k)] ⟨rfl, rfl, rfl, rfl, rfl, rfl, trivial⟩ (by kernel_rfl) (by decide) rfl rfl ?_
   refine zI rfl rfl (zV rfl rfl rfl rfl rfl) ?_
   refine zI rfl rfl (zU rfl) ?_
   refine zI rfl rfl (zO rfl rfl rfl rfl rfl rfl) ?_
   refine zI rfl rfl (zV rfl rfl rfl rfl rfl) ?_
   refine zI rfl rfl (zG rfl) ?_
   refine zI rfl rfl (zV rfl rfl rfl rfl rfl) ?_
   refine zI rfl rfl (zU rfl) ?_
   refine zI rfl rfl (zO rfl rfl rfl rfl rfl rfl) ?_
   refine zI rfl rfl (qpp rfl rfl rfl rfl rfl rfl rfl) ?_
   refine zI rfl rfl (zf rfl rfl rfl rfl rfl rfl) ?_
   refine zCS rfl rfl rfl rfl rfl (zCO r hv p (by rw [← hp]; exact hS k hk')) ?_
   refine z7 ?_
   refine zW 11 rfl (by kernel_rfl) (by kernel_rfl) (by kernel_rfl) rfl (zr rfl rfl rfl rfl rfl (by first | (simp only [Nat.zero_add, Int.toNat_natCast, Int.toNat_zero]; exact rfl) | exact rfl) (by omega)) rfl ?_
   refine zW 12 rfl (by kernel_rfl) (by kernel_rfl) (by kernel_rfl) rfl (zO rfl rfl rfl rfl rfl rfl) rfl ?_
   refine zH (is := [13]) (by kernel_rfl) (by simp) rfl ⟨fun o ho => ?_, trivial⟩
   all_goals (cases ho)
   refine zKU (ze r p, 0) rfl rfl rfl rfl rfl rfl (by omega) (fun j' hj' => ?_) ?_
   ·rw [zPH r hk']
    match j', hj' with
    | 0, _ => rfl
    | 1, _ => rfl
   refine rn1 ?_
   refine zX (by kernel_rfl) ?_
   refine rn5 ?_
   refine zS ⟨k + 1, by omega, by omega, ⟨rfl, rfl, rfl, rfl, trivial⟩, ?_⟩
   rw [zMr r hk', hp]
   show _ = [none, some (AObj.mk _ (.box (tbF r l nx (.sl 3 0 (List.set _ _ _).length)))), _, _]
   rw [List.length_set]; rfl
  ·have hk' : k = l.length := by omega
   subst hk'
   rw [zIe]
   refine rn5 ?_
   have hE0 : (zAN r l).length = l.length := by rw [← zIe]; exact zJy r (Nat.le_refl _)
   have hopl : ∀ E : List Ent, zB6 E ≤ E.length := fun E => List.length_filter_le ..
   refine zAA (ι := Nat) (fun n => [(1, .ptr 2 0 0), (4, .int .i64 ((n : Int) + 1))]) (fun n => slH r l nx (zm l nx (zAN r l) n) []) (fun n => n + zB6 (zm l nx (zAN r l) n) ≤ l.length) (fun n => zB6 (zm l nx (zAN r l) n)) 0 ⟨⟨rfl, rfl, trivial⟩, rfl, by show 0 + zB6 (zAN r l) ≤ _; have := hopl (zAN r l); omega⟩ ?_
   intro n hn
   have hEl : (zm l nx (zAN r l) n).length = l.length := zDD hE0 n
   have hst : zm l nx (zAN r l) (n + 1) = zEB l nx (n + 1) (zm l nx (zAN r l) n) := rfl
   have hop : zA9 l nx (zm l nx (zAN r l) n) ≠ [] → zB6 (zEB l nx (n + 1) (zm l nx (zAN r l) n)) < zB6 (zm l nx (zAN r l) n) := fun q => zFi hEl (fun i => turnB i) q
   generalize hEn : zm l nx (zAN r l) n = E at hn hEl hop hst
   refine rn15 ?_
   refine zBp 5 ⟨3, .ints .i64 []⟩ rfl rfl ?_
   skip
   refine zAA (ι := Nat) (fun k => [(1, .ptr 2 0 0), (4, .int .i64 ((n : Int) + 1)), (57, .ro (zCJ l) 0 l.length), (58, iN l.length), (59, iN k), (5, .sl 4 0 (zBQ l nx E k).length)]) (fun k => slH r l nx E [zG0 (zBQ l nx E k)]) (fun k => k ≤ l.length) (fun k => l.length - k) 0 ⟨⟨rfl, rfl, rfl, rfl, rfl, rfl, trivial⟩, rfl, Nat.zero_le _⟩ ?_
   intro k hk
   refine rn4 ?_
   refine zD rfl (fun h => ?_) (fun h => ?_)
   ·have hk' : k < l.length := by omega
    have hkE : k < E.length := by omega
    have hfl := zJH l nx E k
    have htn := turnB k
    have hfs := zMJ l nx E k
    have hT : zAE l k = (l.getD k zu).turn := rfl
    generalize hp : l.getD k zu = p at hT
    refine zFc ?_
    refine rn4 ?_
    refine zd (poC p) rfl rfl rfl rfl rfl (by rw [← hp]; rfl) rfl ?_
    refine zBC ?_
    refine zCU (slH r l nx E [zG0 (zBQ l nx E k)]) 7 [(1, .ptr 2 0 0), (4, .int .i64 ((n : Int) + 1)), (57, .ro (zCJ l) 0 l.length), (58, iN l.length), (59, iN k), (5, .sl 4 0 (zBQ l nx E k).length), (6, iN k)] rfl rfl ⟨rfl, rfl, rfl, rfl, rfl, rfl, rfl, trivial⟩ ⟨rfl, rfl, rfl, rfl, rfl, rfl, rfl, rfl, trivial⟩ (zFJ _ _ _ _ (zBs (fun _ _ _ _ => rfl) zBP)) rfl (fun h q => Nat.lt_of_lt_of_le (hfx h q) (by show 2 ≤ 5; decide)) ?_
    repeat (first | refine zA (zG rfl) ?_ | refine zC ?_ | refine zB ?_ | refine zK rfl ?_ | refine zA (zV rfl rfl rfl rfl rfl) ?_ | refine zA (zBj rfl rfl) ?_ | refine zA (zr rfl rfl rfl rfl rfl (by first | (simp only [Nat.zero_add, Int.toNat_natCast, Int.toNat_zero]; exact rfl) | exact rfl) (by omega)) ?_ | refine zA (zDv rfl rfl rfl rfl rfl (by first | assumption | omega)) ?_ | refine zA (zU rfl) ?_ | refine zA (zO rfl rfl rfl rfl rfl rfl) ?_)
    refine zD rfl (fun o1 => ?_) (fun o1 => ?_)
    ·have hno : ¬ zBT l nx E k = true := fun q => o1 (zEQ q)
     refine rn5 ?_
     refine zS ⟨k + 1, by omega, by omega, ⟨rfl, rfl, rfl, rfl, rfl, ?_, trivial⟩, ?_⟩
     ·rw [hfs, if_neg hno]; rfl
     ·rw [hfs, if_neg hno]
    ·have ho : zAl E k = 0 := Classical.not_not.1 o1
     have hfb : zBT l nx E k = (zGt l nx E k || zEy l nx E k) := by unfold zBT; rw [ho]; rfl
     refine rn1 ?_
     refine zg (by kernel_rfl) ?_
     refine zW 0 rfl (by kernel_rfl) (by kernel_rfl) (by kernel_rfl) rfl (zL rfl rfl rfl rfl rfl rfl) rfl ?_
     refine zW 3 rfl (by kernel_rfl) (by kernel_rfl) (by kernel_rfl) rfl (zL rfl rfl rfl rfl rfl rfl) rfl ?_
     apply zT (H := slH r l nx E [zG0 (zBQ l nx E k), some ⟨3, .box [.int .i64 0]⟩]) [(1, .ptr 2 0 0), (4, .int .i64 ((n : Int) + 1)), (57, .ro (zCJ l) 0 l.length), (58, iN l.length), (59, iN k), (5, .sl 4 0 (zBQ l nx E k).length), (6, iN k), (8, .int .i64 (1 + p.turn)), (78, .int .i64 (2 - p.turn)), (9, .ptr 5 0 0)]
     ·intro fin
      refine zH (is := [1, 4, 6]) (by kernel_rfl) (by simp) rfl ⟨fun o ho => ?_, fun o ho => ?_, fun o ho => ?_, trivial⟩
      all_goals (cases ho)
      ·repeat (first | refine zC ?_ | refine zY ?_ | refine zA (zF rfl rfl rfl rfl) ?_)
       refine zW 2 rfl (by kernel_rfl) (by kernel_rfl) (by kernel_rfl) rfl (zBA rfl rfl (by omega)) rfl ?_
       refine zH (is := [4, 6]) (by kernel_rfl) (by simp) rfl ⟨fun o ho => ?_, fun o ho => ?_, trivial⟩
       all_goals (cases ho)
       ·repeat (first | refine zC ?_ | refine zY ?_ | refine zA (zF rfl rfl rfl rfl) ?_)
        refine zW 5 rfl (by kernel_rfl) (by kernel_rfl) (by kernel_rfl) rfl (zBR rfl rfl (by omega)) rfl ?_
        refine zH (is := [6]) (by kernel_rfl) (by simp) rfl ⟨fun o ho => ?_, trivial⟩
        all_goals (cases ho)
        refine rn4 ?_
        refine zW 7 rfl (by kernel_rfl) (by kernel_rfl) (by kernel_rfl) rfl (zP rfl) rfl ?_
        exact fin _ ⟨rfl, rfl, rfl, rfl, rfl, rfl, rfl, rfl, rfl, rfl, trivial⟩
       ·refine rn4 ?_
        refine zW 7 rfl (by kernel_rfl) (by kernel_rfl) (by kernel_rfl) rfl (zP rfl) rfl ?_
        refine zH (is := [4]) (by kernel_rfl) (by simp) rfl ⟨fun o ho => ?_, trivial⟩
        all_goals (cases ho)
        repeat (first | refine zC ?_ | refine zY ?_ | refine zA (zF rfl rfl rfl rfl) ?_)
        refine zW 5 rfl (by kernel_rfl) (by kernel_rfl) (by kernel_rfl) rfl (zBR rfl rfl (by omega)) rfl ?_
        exact fin _ ⟨rfl, rfl, rfl, rfl, rfl, rfl, rfl, rfl, rfl, rfl, trivial⟩
      ·repeat (first | refine zC ?_ | refine zY ?_ | refine zA (zF rfl rfl rfl rfl) ?_)
       refine zW 5 rfl (by kernel_rfl) (by kernel_rfl) (by kernel_rfl) rfl (zBR rfl rfl (by omega)) rfl ?_
       refine zH (is := [1, 6]) (by kernel_rfl) (by simp) rfl ⟨fun o ho => ?_, fun o ho => ?_, trivial⟩
       all_goals (cases ho)
       ·repeat (first | refine zC ?_ | refine zY ?_ | refine zA (zF rfl rfl rfl rfl) ?_)
        refine zW 2 rfl (by kernel_rfl) (by kernel_rfl) (by kernel_rfl) rfl (zBA rfl rfl (by omega)) rfl ?_
        refine zH (is := [6]) (by kernel_rfl) (by simp) rfl ⟨fun o ho => ?_, trivial⟩
        all_goals (cases ho)
        refine rn4 ?_
        refine zW 7 rfl (by kernel_rfl) (by kernel_rfl) (by kernel_rfl) rfl (zP rfl) rfl ?_
        exact fin _ ⟨rfl, rfl, rfl, rfl, rfl, rfl, rfl, rfl, rfl, rfl, trivial⟩
       ·refine rn4 ?_
        refine zH (is := [1]) (by kernel_rfl) (by simp) rfl ⟨fun o ho => ?_, trivial⟩
        all_goals (cases ho)
        repeat (first | refine zC ?_ | refine zY ?_ | refine zA (zF rfl rfl rfl rfl) ?_)
        refine zW 2 rfl (by kernel_rfl) (by kernel_rfl) (by kernel_rfl) rfl (zBA rfl rfl (by omega)) rfl ?_
        refine zW 7 rfl (by kernel_rfl) (by kernel_rfl) (by kernel_rfl) rfl (zP rfl) rfl ?_
        exact fin _ ⟨rfl, rfl, rfl, rfl, rfl, rfl, rfl, rfl, rfl, rfl, trivial⟩
      ·refine rn4 ?_
       refine zH (is := [1, 4]) (by kernel_rfl) (by simp) rfl ⟨fun o ho => ?_, fun o ho => ?_, trivial⟩
       all_goals (cases ho)
       ·repeat (first | refine zC ?_ | refine zY ?_ | refine zA (zF rfl rfl rfl rfl) ?_)
        refine zW 2 rfl (by kernel_rfl) (by kernel_rfl) (by kernel_rfl) rfl (zBA rfl rfl (by omega)) rfl ?_
        refine zW 7 rfl (by kernel_rfl) (by kernel_rfl) (by kernel_rfl) rfl (zP rfl) rfl ?_
        refine zH (is := [4]) (by kernel_rfl) (by simp) rfl ⟨fun o ho => ?_, trivial⟩
        all_goals (cases ho)
        repeat (first | refine zC ?_ | refine zY ?_ | refine zA (zF rfl rfl rfl rfl) ?_)
        refine zW 5 rfl (by kernel_rfl) (by kernel_rfl) (by kernel_rfl) rfl (zBR rfl rfl (by omega)) rfl ?_
        exact fin _ ⟨rfl, rfl, rfl, rfl, rfl, rfl, rfl, rfl, rfl, rfl, trivial⟩
       ·repeat (first | refine zC ?_ | refine zY ?_ | refine zA (zF rfl rfl rfl rfl) ?_)
        refine zW 5 rfl (by kernel_rfl) (by kernel_rfl) (by kernel_rfl) rfl (zBR rfl rfl (by omega)) rfl ?_
        refine zH (is := [1]) (by kernel_rfl) (by simp) rfl ⟨fun o ho => ?_, trivial⟩
        all_goals (cases ho)
        repeat (first | refine zC ?_ | refine zY ?_ | refine zA (zF rfl rfl rfl rfl) ?_)
        refine zW 2 rfl (by kernel_rfl) (by kernel_rfl) (by kernel_rfl) rfl (zBA rfl rfl (by omega)) rfl ?_
        refine zW 7 rfl (by kernel_rfl) (by kernel_rfl) (by kernel_rfl) rfl (zP rfl) rfl ?_
        exact fin _ ⟨rfl, rfl, rfl, rfl, rfl, rfl, rfl, rfl, rfl, rfl, trivial⟩
     refine zH (is := [8]) (by kernel_rfl) (by simp) rfl ⟨fun o ho => ?_, trivial⟩
     all_goals (cases ho)
     refine rn9 ?_
     refine zX (by kernel_rfl) ?_
     refine zBC ?_
     refine zCU (slH r l nx E [zG0 (zBQ l nx E k)]) 9 [(1, .ptr 2 0 0), (4, .int .i64 ((n : Int) + 1)), (57, .ro (zCJ l) 0 l.length), (58, iN l.length), (59, iN k), (5, .sl 4 0 (zBQ l nx E k).length), (6, iN k), (8, .int .i64 (1 + p.turn))] rfl rfl ⟨rfl, rfl, rfl, rfl, rfl, rfl, rfl, rfl, trivial⟩ ⟨rfl, rfl, rfl, rfl, rfl, rfl, rfl, rfl, rfl, trivial⟩ (zFJ _ _ _ _ (zBs (fun _ _ _ _ => rfl) zBP)) rfl (fun h q => Nat.lt_of_lt_of_le (hfx h q) (by show 2 ≤ 5; decide)) ?_
     refine zB0 ?_
     have hkn : k < nx.length := by omega
     have hrow := hrl k hk'
     have hcl : ∀ x ∈ (nx.getD k []).map Int.ofNat, 0 ≤ x ∧ x < (E.length : Int) := fun x hx => by
      obtain ⟨q, hq, rfl⟩ := List.mem_map.1 hx
      have := hnk k hk' q hq
      exact ⟨Int.natCast_nonneg q, by show (q : Int) < _; omega⟩
     have hrl2 : ((nx.getD k []).map Int.ofNat).length ≤ 1000000 := by rw [List.length_map]; exact hrow
     have c1 := zH0 (H := slH r l nx E [zG0 (zBQ l nx E k)]) ((nx.getD k []).map Int.ofNat) (fun x => decide ((E.getD x.toNat (0, 0)).1 = 1 + p.turn)) 109 [.ptr 2 0 0, .rp (.box [.int .i64 (1 + p.turn)]) 0 0] hrl2 (fun x hx => cl1_ok (slH_S r l nx E _) (1 + p.turn) x (hcl x hx))
     have c2 := zH0 (H := slH r l nx E [zG0 (zBQ l nx E k)]) ((nx.getD k []).map Int.ofNat) (fun x => decide ((E.getD x.toNat (0, 0)).1 ≠ 2 - p.turn)) 110 [.ptr 2 0 0, .rp (.box [.int .i64 (2 - p.turn)]) 0 0] hrl2 (fun x hx => cl2_ok (slH_S r l nx E _) (2 - p.turn) x (hcl x hx))
     rw [← hT, zLs] at c1
     rw [← hT] at c2
     rw [← hT]
     refine zg (by kernel_rfl) ?_
     refine zq (fuel := 0) [0, 1, 2, 3, 4, 5, 6, 7, 8, 9, 10, 11] [(9, .rp (.box [.int .i64 (2 - zAE l k)]) 0 0), (1, .ptr 2 0 0), (4, .int .i64 ((n : Int) + 1)), (57, .ro (zCJ l) 0 l.length), (58, iN l.length), (59, iN k), (5, .sl 4 0 (zBQ l nx E k).length), (6, iN k), (8, .int .i64 (1 + zAE l k)), (10, .fn 108 [.ptr 2 0 0])] ⟨rfl, rfl, rfl, rfl, rfl, rfl, rfl, rfl, rfl, rfl, trivial⟩ (by kernel_rfl) (by decide) rfl rfl ?_
     refine zI rfl rfl (zV rfl rfl rfl rfl rfl) ?_
     refine zI rfl rfl (zU rfl) ?_
     refine zI rfl rfl (zO rfl rfl rfl rfl rfl rfl) ?_
     refine zI rfl rfl (zV rfl rfl rfl rfl rfl) ?_
     refine zI rfl rfl (zG rfl) ?_
     refine zI rfl rfl (zi rfl rfl rfl rfl (by first | (simp only [Nat.zero_add, Int.toNat_natCast, Int.toNat_zero]; exact rfl) | exact rfl) (by omega)) ?_
     refine zI rfl rfl (zAt rfl rfl rfl rfl) ?_
     refine zI rfl rfl (zG rfl) ?_
     refine zI rfl rfl (zG rfl) ?_
     refine px_c rfl rfl rfl rfl rfl (cl0_ok _ (zFJ _ _ _ _ (zBs (fun _ _ _ _ => rfl) zBP)) (by show 2 < 5; decide)) ?_
     refine px_c rfl rfl rfl rfl rfl c1 ?_
     refine zI rfl rfl (zP rfl) ?_
     refine z7 ?_
     refine zX (by kernel_rfl) ?_
     repeat (first | refine zA (zG rfl) ?_ | refine zB ?_ | refine zZ ?_ | refine zK rfl ?_ | refine zA (zAt rfl rfl rfl rfl) ?_ | refine zA (zV rfl rfl rfl rfl rfl) ?_ | refine zA (zi rfl rfl rfl rfl (by first | (simp only [Nat.zero_add, Int.toNat_natCast, Int.toNat_zero]; exact rfl) | exact rfl) (by omega)) ?_ | refine zA (zCw rfl) ?_ | refine zA (zU rfl) ?_ | refine zA (zO rfl rfl rfl rfl rfl rfl) ?_)
     refine zCG rfl rfl rfl c2 (fun _ h => h) (fun _ h => h) ?_
     rintro r' H' ⟨rfl, rfl⟩
     refine rn5 ?_
     rw [zOQ]
     have hml : ((zBQ l nx E k).map Int.ofNat).length = (zBQ l nx E k).length := List.length_map ..
     cases hw : zGt l nx E k with
     | true =>
      have hyes : zBT l nx E k = true := by rw [hfb, hw]; rfl
      refine rn6 ?_
      refine zAo rfl rfl rfl rfl rfl rfl rfl rfl rfl hml rfl rfl (by show 0 + 1 ≤ 1; omega) rfl (by show ((zBQ l nx E k).length + 1) * 8 ≤ _ ∧ _; omega) (fun i j _ _ => rfl) (by rw [hfix]; show ¬ 4 < 2; decide) ?_
      refine zAX (slH r l nx E [zG0 (zBQ l nx E k ++ [k])]) ?_ ?_
      ·show [none, some (AObj.mk _ ((Cells.box _).forget 4)), some (AObj.mk _ ((Cells.box _).forget 4)), some (AObj.mk _ ((zCP E).forget 4)), _] = _
       rw [zBv (fun a j => zHS a j 4)]
       show _ = [none, _, _, _, some (AObj.mk _ (Cells.ints .i64 (List.map Int.ofNat (zBQ l nx E k ++ [k]))))]
       rw [List.map_append]; rfl
      refine rn5 ?_
      refine zS ⟨k + 1, by omega, by omega, ⟨rfl, rfl, rfl, rfl, rfl, ?_, trivial⟩, ?_⟩
      ·rw [hfs, hyes, if_pos rfl, List.length_append]; rfl
      ·rw [hfs, hyes]; rfl
     | false =>
      cases hl : zEy l nx E k with
      | true =>
       have hyes : zBT l nx E k = true := by rw [hfb, hw, hl]; rfl
       refine rn5 ?_
       refine zAo rfl rfl rfl rfl rfl rfl rfl rfl rfl hml rfl rfl (by show 0 + 1 ≤ 1; omega) rfl (by show ((zBQ l nx E k).length + 1) * 8 ≤ _ ∧ _; omega) (fun i j _ _ => rfl) (by rw [hfix]; show ¬ 4 < 2; decide) ?_
       refine zAX (slH r l nx E [zG0 (zBQ l nx E k ++ [k])]) ?_ ?_
       ·show [none, some (AObj.mk _ ((Cells.box _).forget 4)), some (AObj.mk _ ((Cells.box _).forget 4)), some (AObj.mk _ ((zCP E).forget 4)), _] = _
        rw [zBv (fun a j => zHS a j 4)]
        show _ = [none, _, _, _, some (AObj.mk _ (Cells.ints .i64 (List.map Int.ofNat (zBQ l nx E k ++ [k]))))]
        rw [List.map_append]; rfl
       refine rn5 ?_
       refine zS ⟨k + 1, by omega, by omega, ⟨rfl, rfl, rfl, rfl, rfl, ?_, trivial⟩, ?_⟩
       ·rw [hfs, hyes, if_pos rfl, List.length_append]; rfl
       ·rw [hfs, hyes]; rfl
      | false =>
       have hno : zBT l nx E k = false := by rw [hfb, hw, hl]; rfl
       refine rn5 ?_
       refine zS ⟨k + 1, by omega, by omega, ⟨rfl, rfl, rfl, rfl, rfl, ?_, trivial⟩, ?_⟩
       ·rw [hfs, hno]; rfl
       ·rw [hfs, hno]; rfl
   ·have hk' : k = l.length := by omega
    subst hk'
    have hF : zBQ l nx E l.length = zA9 l nx E := rfl
    have hfl : (zA9 l nx E).length ≤ l.length := zJH l nx E l.length
    have hlt : ∀ j, j < (zA9 l nx E).length → (zA9 l nx E).getD j 0 < l.length := fun j hj => zOf (l := l) (nx := nx) (E := E) (k := l.length) (zAL 0 hj)
    have hstep := zLe (l := l) (nx := nx) (E := E) (n := n + 1) hEl
    rw [hF]
    generalize hf : zA9 l nx E = f at hfl hlt hop hstep
    refine rn5 ?_
    refine zD rfl (fun z => ?_) (fun z => ?_)
    ·have z2 : f = [] := List.length_eq_zero_iff.1 (by omega)
     subst z2
     repeat (first | refine zB ?_ | refine zZ ?_ | refine zCz ?_ | refine zA1 ?_ | refine zA0 ?_ | refine zBI ?_ | refine zGw rfl ?_)
     refine zBZ (slH r l nx E []) [zG0 []] [(1, .ptr 2 0 0)] rfl ⟨rfl, trivial⟩ (fun h q => Nat.lt_of_lt_of_le (hfx h q) (by show 2 ≤ 4; decide)) (zHC r l nx E) rfl ?_
     refine rn15 ?_
     refine zAA (ι := Nat) (fun j => [(1, .ptr 2 0 0), (181, iN E.length), (182, iN j)]) (fun j => slH r l nx (zCW E j) []) (fun j => j ≤ E.length) (fun j => E.length - j) 0 ⟨⟨rfl, rfl, rfl, trivial⟩, by rw [zL8], Nat.zero_le _⟩ ?_
     intro j hj
     have hcl := zJA E j
     refine rn4 ?_
     refine zD rfl (fun q => ?_) (fun q => ?_)
     ·have hj' : j < E.length := by omega
      have hat := zOT hj'
      have hsu := zL7 hj'
      have hsl : (zCW E (j + 1)).length = E.length := zJA E (j + 1)
      repeat (first | refine zA (zG rfl) ?_ | refine zA (zP rfl) ?_ | refine zC ?_ | refine zB ?_ | refine zZ ?_ | refine zK rfl ?_ | refine zAe ?_ | refine zAO ?_ | refine zA (zV rfl rfl rfl rfl rfl) ?_ | refine zA (zBb rfl rfl) ?_ | refine zA (zr rfl rfl rfl rfl rfl (by first | (simp only [Nat.zero_add, Int.toNat_natCast, Int.toNat_zero]; exact rfl) | exact rfl) (by omega)) ?_ | refine zA (zDv rfl rfl rfl rfl rfl (by first | assumption | omega)) ?_ | refine zA (zU rfl) ?_ | refine zA (zO rfl rfl rfl rfl rfl rfl) ?_)
      refine zD rfl (fun o => ?_) (fun o => ?_)
      ·have o : ((zCW E j).getD j (0, 0)).1 = 0 := o
       rw [hat] at o
       rw [if_pos o] at hsu
       repeat (first | refine zA (zG rfl) ?_ | refine zK rfl ?_ | refine zA (zV rfl rfl rfl rfl rfl) ?_ | refine zA (zr rfl rfl rfl rfl rfl (by first | (simp only [Nat.zero_add, Int.toNat_natCast, Int.toNat_zero]; exact rfl) | exact rfl) (by omega)) ?_ | refine zA (zU rfl) ?_ | refine zA (zO rfl rfl rfl rfl rfl rfl) ?_)
       refine zKU (3, (E.getD j (0, 0)).2) rfl rfl rfl rfl rfl rfl (by show j < (zCW E j).length; omega) (fun j' hj' => ?_) ?_
       ·rw [hat]
        match j', hj' with
        | 0, _ => rfl
        | 1, _ => rfl
       refine rn5 ?_
       refine zS ⟨j + 1, by omega, by omega, ⟨rfl, rfl, rfl, trivial⟩, ?_⟩
       rw [hsu]
       show _ = [none, some (AObj.mk _ (.box (tbF r l nx (.sl 3 0 (List.set _ _ _).length)))), _, _]
       rw [List.length_set]; rfl
      ·have o : ¬ ((zCW E j).getD j (0, 0)).1 = 0 := o
       rw [hat] at o
       rw [if_neg o] at hsu
       refine rn5 ?_
       refine zS ⟨j + 1, by omega, by omega, ⟨rfl, rfl, rfl, trivial⟩, ?_⟩
       rw [hsu]
     ·have hj' : j = E.length := by omega
      subst hj'
      rw [zL6]
      refine rn5 ?_
      refine ax_end (vs := []) hR rfl ?_
      exact ⟨rfl, n, by rw [hEn]; exact hf, by rw [hEn]⟩
    ·have hne : f ≠ [] := fun c => z (by rw [c]; rfl)
     have hop := hop hne
     have hml : (f.map Int.ofNat).length = f.length := List.length_map ..
     refine rn3 ?_
     refine zHK rfl rfl rfl rfl rfl rfl rfl rfl (by show (0 : Int) ≤ _ ∧ _ ≤ _ ∧ (8 : Int) * _ ≤ _ ∧ _; omega) ?_
     refine rn3 ?_
     refine zAA (ι := Nat) (fun j => [(1, .ptr 2 0 0), (4, .int .i64 ((n : Int) + 1)), (5, .sl 4 0 f.length), (13, .sl 5 0 f.length), (116, .sl 4 0 f.length), (117, iN f.length), (118, iN j)]) (fun j => slH r l nx E [zG0 f, resO (zFo l nx E f j)]) (fun j => j ≤ f.length) (fun j => f.length - j) 0 ⟨⟨rfl, rfl, rfl, rfl, rfl, rfl, rfl, trivial⟩, rfl, Nat.zero_le _⟩ ?_
     intro j hj
     have hrl0 := hrl
     have hrl := resK_len (l := l) (nx := nx) (E := E) hj
     refine rn4 ?_
     refine zD rfl (fun q => ?_) (fun q => ?_)
     ·have hj' : j < f.length := by omega
      have hjr : j < (zFo l nx E f j).length := by omega
      have hil := hlt j hj'
      have hsu := zO6 (l := l) (nx := nx) (E := E) hj'
      have hgi : (f.map Int.ofNat).getD j 0 = ((f.getD j 0 : Nat) : Int) := by simp [List.getD, List.getElem?_eq_getElem hj']
      generalize hi : f.getD j 0 = i at hil hsu hgi
      have htn := turnB i
      have hT : zAE l i = (l.getD i zu).turn := rfl
      refine rn20 ?_
      refine zK rfl ?_
      repeat (first | refine zA (zG rfl) ?_ | refine zA (zP rfl) ?_ | refine zC ?_ | refine zB ?_ | refine zZ ?_ | refine zA (zr rfl rfl rfl rfl rfl (by first | (simp only [Nat.zero_add, Int.toNat_natCast, Int.toNat_zero]; exact rfl) | exact rfl) (by omega)) ?_ | refine zA (zBK rfl rfl rfl rfl (by first | assumption | omega)) ?_ | refine zAH rfl rfl rfl rfl rfl rfl rfl Nat.zero_lt_one ?_ | refine zAG rfl rfl rfl ?_)
      rw [hgi]
      refine zCU (slH r l nx E [zG0 f, resO (zFo l nx E f j)]) 15 [(1, .ptr 2 0 0), (4, .int .i64 ((n : Int) + 1)), (5, .sl 4 0 f.length), (13, .sl 5 0 f.length), (116, .sl 4 0 f.length), (117, iN f.length), (118, iN j), (14, iN j)] rfl rfl ⟨rfl, rfl, rfl, rfl, rfl, rfl, rfl, rfl, trivial⟩ ⟨rfl, rfl, rfl, rfl, rfl, rfl, rfl, rfl, rfl, trivial⟩ (zFJ _ _ _ _ (zBs (fun _ _ _ _ => rfl) (zBs (fun _ _ _ _ => rfl) zBP))) rfl (fun h q => Nat.lt_of_lt_of_le (hfx h q) (by show 2 ≤ 6; decide)) ?_
      skip
      refine zg (by kernel_rfl) ?_
      refine zq (fuel := 1) [0, 1, 2, 3, 4, 5, 6, 7, 8, 9, 10, 11] [(15, .rp (.box [iN i]) 0 0), (1, .ptr 2 0 0), (4, .int .i64 ((n : Int) + 1)), (5, .sl 4 0 f.length), (13, .sl 5 0 f.length), (116, .sl 4 0 f.length), (117, iN f.length), (118, iN j), (14, iN j)] ⟨rfl, rfl, rfl, rfl, rfl, rfl, rfl, rfl, rfl, trivial⟩ (by kernel_rfl) (by decide) rfl rfl ?_
      refine zI rfl rfl (zG rfl) ?_
      refine zI rfl rfl (zG rfl) ?_
      refine zI rfl rfl (zV rfl rfl rfl rfl rfl) ?_
      refine zI rfl rfl (zU rfl) ?_
      refine zI rfl rfl (zO rfl rfl rfl rfl rfl rfl) ?_
      refine zI rfl rfl (zV rfl rfl rfl rfl rfl) ?_
      refine zI rfl rfl (zF rfl rfl rfl rfl) ?_
      refine zI rfl rfl (zi rfl rfl rfl rfl (by first | (simp only [Nat.zero_add, Int.toNat_natCast, Int.toNat_zero]; exact rfl) | exact rfl) (by omega)) ?_
      refine zI rfl rfl (zL rfl rfl rfl rfl rfl rfl) ?_
      refine zI rfl rfl (zAt rfl rfl rfl rfl) ?_
      refine zI rfl rfl (zBR rfl rfl (by omega)) ?_
      refine zI rfl rfl (zr rfl rfl rfl rfl rfl (by first | (simp only [Nat.zero_add, Int.toNat_natCast, Int.toNat_zero]; exact rfl) | exact rfl) (by omega)) ?_
      refine z7 ?_
      refine zH (is := [12]) (by kernel_rfl) (by simp) rfl ⟨fun o ho => ?_, trivial⟩
      all_goals (cases ho)
      refine rn7 ?_
      refine zX (by kernel_rfl) ?_
      refine rn0 ?_
      have hrow := hrl0 i hil
      have hcl : ∀ x ∈ (nx.getD i []).map Int.ofNat, 0 ≤ x ∧ x < (E.length : Int) := fun x hx => by
       obtain ⟨q, hq, rfl⟩ := List.mem_map.1 hx
       have := hnk i hil q hq
       exact ⟨Int.natCast_nonneg q, by show (q : Int) < _; omega⟩
      have hrl2 : ((nx.getD i []).map Int.ofNat).length ≤ 1000000 := by rw [List.length_map]; exact hrow
      have c3 := zH0 (H := slH r l nx E [zG0 f, resO ((zFo l nx E f j).set j (2 - (l.getD i zu).turn))]) ((nx.getD i []).map Int.ofNat) (fun x => decide ((E.getD x.toNat (0, 0)).1 = 1 + zAE l i)) 111 [.ptr 2 0 0, .rp (.box [iN i]) 0 0] hrl2 (fun x hx => cl3_ok (slH_S r l nx E _) i hil htn x (hcl x hx))
      rw [zLs] at c3
      refine zg (by kernel_rfl) ?_
      refine zq (fuel := 0) [0, 1, 2, 3, 4, 5, 6, 7, 8] [(15, .rp (.box [iN i]) 0 0), (1, .ptr 2 0 0), (4, .int .i64 ((n : Int) + 1)), (5, .sl 4 0 f.length), (13, .sl 5 0 f.length), (116, .sl 4 0 f.length), (117, iN f.length), (118, iN j), (14, iN j)] ⟨rfl, rfl, rfl, rfl, rfl, rfl, rfl, rfl, rfl, trivial⟩ (by kernel_rfl) (by decide) rfl rfl ?_
      refine zI rfl rfl (zV rfl rfl rfl rfl rfl) ?_
      refine zI rfl rfl (zU rfl) ?_
      refine zI rfl rfl (zO rfl rfl rfl rfl rfl rfl) ?_
      refine zI rfl rfl (zV rfl rfl rfl rfl rfl) ?_
      refine zI rfl rfl (zF rfl rfl rfl rfl) ?_
      refine zI rfl rfl (zi rfl rfl rfl rfl (by first | (simp only [Nat.zero_add, Int.toNat_natCast, Int.toNat_zero]; exact rfl) | exact rfl) (by omega)) ?_
      refine zI rfl rfl (zAt rfl rfl rfl rfl) ?_
      refine zI rfl rfl (zCw rfl) ?_
      refine px_c rfl rfl rfl rfl rfl c3 ?_
      refine z7 ?_
      refine zX (by kernel_rfl) ?_
      cases hw : zGt l nx E i with
      | true =>
       have hres : zCE l nx E i = 1 + (l.getD i zu).turn := by unfold zCE; rw [hw, if_pos rfl]; rfl
       refine rn5 ?_
       refine zg (by kernel_rfl) ?_
       refine zq (fuel := 1) [0, 1, 2, 3, 4, 5, 6, 7, 8, 9, 10, 11] [(15, .rp (.box [iN i]) 0 0), (1, .ptr 2 0 0), (4, .int .i64 ((n : Int) + 1)), (5, .sl 4 0 f.length), (13, .sl 5 0 f.length), (116, .sl 4 0 f.length), (117, iN f.length), (118, iN j), (14, iN j)] ⟨rfl, rfl, rfl, rfl, rfl, rfl, rfl, rfl, rfl, trivial⟩ (by kernel_rfl) (by decide) rfl rfl ?_
       refine zI rfl rfl (zG rfl) ?_
       refine zI rfl rfl (zG rfl) ?_
       refine zI rfl rfl (zV rfl rfl rfl rfl rfl) ?_
       refine zI rfl rfl (zU rfl) ?_
       refine zI rfl rfl (zO rfl rfl rfl rfl rfl rfl) ?_
       refine zI rfl rfl (zV rfl rfl rfl rfl rfl) ?_
       refine zI rfl rfl (zF rfl rfl rfl rfl) ?_
       refine zI rfl rfl (zi rfl rfl rfl rfl (by first | (simp only [Nat.zero_add, Int.toNat_natCast, Int.toNat_zero]; exact rfl) | exact rfl) (by omega)) ?_
       refine zI rfl rfl (zL rfl rfl rfl rfl rfl rfl) ?_
       refine zI rfl rfl (zAt rfl rfl rfl rfl) ?_
       refine zI rfl rfl (zBA rfl rfl (by omega)) ?_
       refine zI rfl rfl (zr rfl rfl rfl rfl rfl (by first | (simp only [Nat.zero_add, Int.toNat_natCast, Int.toNat_zero]; exact rfl) | exact rfl) (by omega)) ?_
       refine z7 ?_
       refine zH (is := [12]) (by kernel_rfl) (by simp) rfl ⟨fun o ho => ?_, trivial⟩
       all_goals (cases ho)
       have hjr2 : j < ((zFo l nx E f j).set j (2 - (l.getD i zu).turn)).length := by rw [List.length_set]; exact hjr
       refine rn7 ?_
       refine zX (by kernel_rfl) ?_
       refine rn5 ?_
       refine zS ⟨j + 1, by omega, by omega, ⟨rfl, rfl, rfl, rfl, rfl, rfl, rfl, trivial⟩, ?_⟩
       rw [hsu, hres]
       show [_, _, _, _, _, some (AObj.mk _ (Cells.ints .i64 (((zFo l nx E f j).set j (2 - (l.getD i zu).turn)).set j (1 + (l.getD i zu).turn))))] = _
       rw [List.set_set]
      | false =>
       have hres : zCE l nx E i = 2 - (l.getD i zu).turn := by unfold zCE; rw [hw, if_neg (by decide)]; rfl
       refine rn5 ?_
       refine zS ⟨j + 1, by omega, by omega, ⟨rfl, rfl, rfl, rfl, rfl, rfl, rfl, trivial⟩, ?_⟩
       rw [hsu, hres]; rfl
     ·have hj' : j = f.length := by omega
      subst hj'
      refine rn5 ?_
      refine zAA (ι := Nat) (fun j => [(1, .ptr 2 0 0), (4, .int .i64 ((n : Int) + 1)), (13, .sl 5 0 f.length), (157, .sl 4 0 f.length), (158, iN f.length), (159, iN j)]) (fun j => slH r l nx (zC3 (fun i => (zCE l nx E i, ((n + 1 : Nat) : Int))) (f.take j) E) [zG0 f, resO (zFo l nx E f f.length)]) (fun j => j ≤ f.length) (fun j => f.length - j) 0 ⟨⟨rfl, rfl, rfl, rfl, rfl, rfl, trivial⟩, rfl, Nat.zero_le _⟩ ?_
      intro j hj
      refine rn4 ?_
      refine zD rfl (fun q => ?_) (fun q => ?_)
      ·have hj' : j < f.length := by omega
       have hjr : j < (zFo l nx E f f.length).length := by omega
       have hil := hlt j hj'
       have hgi : (f.map Int.ofNat).getD j 0 = ((f.getD j 0 : Nat) : Int) := by simp [List.getD, List.getElem?_eq_getElem hj']
       have hrf := zO5 (l := l) (nx := nx) (E := E) hj'
       have hsn := zLd (fun i => (zCE l nx E i, ((n + 1 : Nat) : Int))) (f.take j) (f.getD j 0) E
       rw [← zz _ 0 j hj'] at hsn
       have hsl := zDx (fun i => (zCE l nx E i, ((n + 1 : Nat) : Int))) (f.take j) E
       have hsl2 := zDx (fun i => (zCE l nx E i, ((n + 1 : Nat) : Int))) (f.take (j + 1)) E
       generalize hi : f.getD j 0 = i at hil hgi hrf hsn
       generalize hA : zC3 (fun i => (zCE l nx E i, ((n + 1 : Nat) : Int))) (f.take j) E = A at hsl hsn
       generalize hA2 : zC3 (fun i => (zCE l nx E i, ((n + 1 : Nat) : Int))) (f.take (j + 1)) E = A2 at hsn hsl2
       refine rn20 ?_
       refine zK rfl ?_
       repeat (first | refine zA (zG rfl) ?_ | refine zA (zP rfl) ?_ | refine zC ?_ | refine zB ?_ | refine zA (zr rfl rfl rfl rfl rfl (by first | (simp only [Nat.zero_add, Int.toNat_natCast, Int.toNat_zero]; exact rfl) | exact rfl) (by omega)) ?_ | refine zA (zBK rfl rfl rfl rfl (by first | assumption | omega)) ?_)
       rw [hgi]
       skip
       refine zg (by kernel_rfl) ?_
       refine zq (fuel := 1) [0, 1, 2, 3, 4, 5, 6, 7, 8, 9, 10, 11] [(1, .ptr 2 0 0), (4, .int .i64 ((n : Int) + 1)), (13, .sl 5 0 f.length), (157, .sl 4 0 f.length), (158, iN f.length), (159, iN j), (16, iN j), (17, iN i)] ⟨rfl, rfl, rfl, rfl, rfl, rfl, rfl, rfl, trivial⟩ (by kernel_rfl) (by decide) rfl rfl ?_
       refine zI rfl rfl (zV rfl rfl rfl rfl rfl) ?_
       refine zI rfl rfl (zU rfl) ?_
       refine zI rfl rfl (zO rfl rfl rfl rfl rfl rfl) ?_
       refine zI rfl rfl (zV rfl rfl rfl rfl rfl) ?_
       refine zI rfl rfl (zG rfl) ?_
       refine zI rfl rfl (zG rfl) ?_
       refine zI rfl rfl (zG rfl) ?_
       refine zI rfl rfl (zr rfl rfl rfl rfl rfl (by first | (simp only [Nat.zero_add, Int.toNat_natCast, Int.toNat_zero]; exact rfl) | exact rfl) (by omega)) ?_
       refine zI rfl rfl (zBK rfl rfl rfl rfl (by first | assumption | omega)) ?_
       refine zI rfl rfl (zG rfl) ?_
       refine zI rfl rfl (zCm rfl rfl rfl rfl rfl rfl) ?_
       refine zI rfl rfl (zr rfl rfl rfl rfl rfl (by first | (simp only [Nat.zero_add, Int.toNat_natCast, Int.toNat_zero]; exact rfl) | exact rfl) (by omega)) ?_
       refine z7 ?_
       refine zH (is := [12]) (by kernel_rfl) (by simp) rfl ⟨fun o ho => ?_, trivial⟩
       all_goals (cases ho)
       refine zNA (zCE l nx E i, ((n + 1 : Nat) : Int)) rfl rfl rfl rfl rfl (by show i < A.length; omega) (by decide) (fun j' hj' => ?_) ?_
       ·match j', hj' with
        | 0, _ => show AV.int .i64 (zCE l nx E i) = AV.int .i64 ((zFo l nx E f f.length).getD j 0); rw [hrf]
        | 1, _ => rfl
       refine rn1 ?_
       refine zX (by kernel_rfl) ?_
       refine rn5 ?_
       refine zS ⟨j + 1, by omega, by omega, ⟨rfl, rfl, rfl, rfl, rfl, rfl, trivial⟩, ?_⟩
       show _ = slH r l nx (zC3 (fun i => (zCE l nx E i, ((n + 1 : Nat) : Int))) (f.take (j + 1)) E) [zG0 f, resO (zFo l nx E f f.length)]
       rw [hA2, hsn]
       show _ = [none, some (AObj.mk _ (.box (tbF r l nx (.sl 3 0 (List.set _ _ _).length)))), _, _, _, _]
       rw [List.length_set]; rfl
      ·have hj' : j = f.length := by omega
       subst hj'
       rw [List.take_length, hstep, ← hst]
       refine zGn ?_
       refine zBZ (slH r l nx (zm l nx (zAN r l) (n + 1)) []) [zG0 f, resO (zFo l nx E f f.length)] [(1, .ptr 2 0 0), (4, .int .i64 ((n : Int) + 1))] rfl ⟨rfl, rfl, trivial⟩ (fun h q => Nat.lt_of_lt_of_le (hfx h q) (by show 2 ≤ 4; decide)) (zHC r l nx _) rfl ?_
       refine rn3 ?_
       refine zS ⟨n + 1, by rw [hst]; omega, by rw [hst]; omega, ⟨rfl, rfl, trivial⟩, rfl⟩
abbrev zFn (r : Go.Ax.Gm.Rules) (l : List Pos) (nx : List (List Nat)) : zR :=
 [some ⟨95, .mp (zCZ l) (zDH l.length)⟩, some ⟨97, .box (tbC r l.length nx.length .nil)⟩, some ⟨35, zCJ l⟩, some ⟨23, zEA nx⟩]
theorem zGJ (r : Go.Ax.Gm.Rules) (l : List Pos) (nx : List (List Nat)) : ∀ (h : Nat) (o : AObj), (zFn r l nx)[h]? = some (some o) → zAx (zFn r l nx).length o.c :=
 zBs (zJN l _) (zBs (zGl rfl) (zBs (zFH l) (zBs (zJo nx) zBP)))
/-- (*retro.Table).add -/
theorem add0_ok (r : Go.Ax.Gm.Rules) (hv : ValidR r) (l : List Pos) (nx : List (List Nat)) (p : Pos) (S : Sound r p) (G : ∀ q ∈ l, Sound r q ∧ q.quiet = 0) (hl : l.length ≤ 3001) :
 zb Tryz.prog 78 [.ptr 1 0 0, poA p] (zFn r l nx) (fun h => h < 4 ∧ h ≠ 2) (fun v H => v = iN (zAu l p) ∧ H = zFn r (zDM l p) nx) := by
 have hc : zb Tryz.prog 78 [.ptr 1 0 0, poA p] (zFn r l nx) (fun h => h < 4 ∧ h ≠ 2) (fun v H => v = iN (zAu l p) ∧ ∃ x, H = zFn r (zDM l p) nx ++ [x]) := by
  refine zM (P := Tryz.prog) (fn := Tryz.f78) rfl rfl (by kernel_rfl) rfl (fun c hR hfix => ?_)
  refine rn6 ?_
  refine zN rfl rfl rfl (zGX hv S) ?_
  refine rn8 ?_
  by_cases hi : zAu l p < l.length
  ·have hadd : zDM l p = l := by unfold zDM; rw [if_pos hi]
   rw [hadd] at hR
   refine zA (zFb rfl (.str rfl) rfl rfl rfl rfl (zDs l) (zAu l p) (zH5 hi) (zIF hi)) ?_
   refine rn5 ?_
   exact zJ hR rfl ⟨rfl, _, rfl⟩
  ·have hadd : zDM l p = l ++ [zBG p] := by unfold zDM; rw [if_neg hi]
   have hidx : zAu l p = l.length := by have := zLM l p; omega
   rw [hadd, hidx] at hR
   refine zA (zE0 rfl (.str rfl) rfl rfl rfl rfl rfl rfl rfl rfl (zDs l) (zF4 hv S G hi)) ?_
   repeat (first | refine zA (zG rfl) ?_ | refine zA (zP rfl) ?_ | refine zC ?_ | refine zB ?_ | refine zZ ?_ | refine zK rfl ?_ | refine zAj rfl ?_ | refine zA (zV rfl rfl rfl rfl rfl) ?_ | refine zA (zEa rfl) ?_ | refine zA (zA5 rfl rfl) ?_ | refine zA (zBB rfl rfl rfl) ?_ | refine zA (zU rfl) ?_ | refine zA (zO rfl rfl rfl rfl rfl rfl) ?_ | refine zAH rfl rfl rfl rfl rfl rfl rfl Nat.zero_lt_one ?_)
   refine zFt rfl (.str rfl) rfl rfl rfl rfl rfl (zDs l) (zF4 hv S G hi) ?_
   refine rn0 ?_
   have hll : (l ++ [zBG p]).length = l.length + 1 := by rw [List.length_append]; rfl
   refine zAU [some ⟨95, .mp (zCZ (l ++ [zBG p])) (zDH (l.length + 1))⟩, some ⟨97, .box (tbC r l.length nx.length .nil)⟩, some ⟨35, zCJ l⟩, some ⟨23, zEA nx⟩, some ⟨35, .box (poC (zBG p))⟩] (by rw [← zKn, ← zK1]; rfl) ?_
   refine zg (by kernel_rfl) ?_
   refine zW 0 rfl (by kernel_rfl) (by kernel_rfl) (by kernel_rfl) rfl (zG rfl) rfl ?_
   refine zq (fuel := 4) [1, 2, 3, 4, 5, 6] [(33, .ptr 1 0 0), (0, .ptr 1 0 0), (3, .ptr 4 0 0), (6, iN l.length)] ⟨rfl, rfl, rfl, rfl, trivial⟩ (by kernel_rfl) (by decide) rfl rfl ?_
   refine zI rfl rfl (zG rfl) ?_
   refine zI rfl rfl (zU rfl) ?_
   refine zI rfl rfl (zO rfl rfl rfl rfl rfl rfl) ?_
   refine zI rfl rfl (zV rfl rfl rfl rfl rfl) ?_
   refine zI rfl rfl (qpp rfl rfl rfl rfl rfl rfl rfl) ?_
   refine px_b rfl rfl rfl rfl rfl rfl rfl rfl rfl rfl rfl rfl rfl ?_
   refine z7 ?_
   refine zH (is := [7]) (by kernel_rfl) (by simp) rfl ⟨fun o ho => ?_, trivial⟩
   all_goals (cases ho)
   refine zBW [zBG p] rfl rfl rfl rfl rfl rfl rfl rfl rfl rfl rfl rfl rfl (Nat.le_refl _) (fun k' j hk' hj => ?_) (by show (l.length + 1) * 88 ≤ _ ∧ _; omega) (fun a j k _ => zDu a j k) (by rw [hfix]; exact fun h => h.2 rfl) ?_
   ·obtain rfl : k' = 0 := Nat.lt_one_iff.1 hk'
    match j, hj with
    | 0, _ => rfl
    | 1, _ => rfl
    | 2, _ => rfl
    | 3, _ => rfl
    | 4, _ => rfl
   refine zAX [some ⟨95, .mp (zCZ (l ++ [zBG p])) (zDH (l.length + 1))⟩, some ⟨97, .box ((tbC r l.length nx.length .nil).set 11 .any)⟩, some ⟨35, zCJ (l ++ [zBG p])⟩, some ⟨23, zEA nx⟩, some ⟨35, .box (poC (zBG p))⟩] ?_ ?_
   ·show [some (AObj.mk _ ((Cells.mp _ _).forget 2)), some (AObj.mk _ ((Cells.box _).forget 2)), some (AObj.mk _ (zCJ (l ++ [zBG p]))), some (AObj.mk _ ((zEA nx).forget 2)), some (AObj.mk _ ((Cells.box (poC (zBG p))).forget 2))] = _
    rw [zEo, zBv (fun a j => zEr a j 2)]; rfl
   refine rn1 ?_
   refine zW 8 rfl (by kernel_rfl) (by kernel_rfl) (by kernel_rfl) rfl (zU rfl) rfl ?_
   refine zW 9 rfl (by kernel_rfl) (by kernel_rfl) (by kernel_rfl) rfl (zO rfl rfl rfl rfl rfl rfl) rfl ?_
   refine zH (is := [10]) (by kernel_rfl) (by simp) rfl ⟨fun o ho => ?_, trivial⟩
   all_goals (cases ho)
   refine rn9 ?_
   refine zX (by kernel_rfl) ?_
   refine rn0 ?_
   exact zJ hR rfl ⟨rfl, _, by show _ = [_, _, _, _, _]; rw [hll]; rfl⟩
 exact zb.cutR hc (fun v H ⟨e1, x, e2⟩ => ⟨_, [x], e2, fun h q => q.1, zGJ _ _ _, e1 ▸ rfl, e1, rfl⟩)
theorem zCc {r : Go.Ax.Gm.Rules} (hv : ValidR r) {p : Pos} (S : Sound r p) : (zo r p).length ≤ 10000 := by
 have h1 := zID hv S p.cells.length
 have h2 := (zAv hv S).c
 have h3 : (rawM r p).length ≤ 384 + 112 * p.cells.length := h1
 unfold zo
 have h4 := zIN ((rawM r p).mergeSort leM)
 rw [List.length_mergeSort] at h4
 omega
theorem zEI {r : Go.Ax.Gm.Rules} (hv : ValidR r) {p : Pos} (S : Sound r p) : (z8 r p).length ≤ 10000 := by
 unfold z8
 split
 ·exact Nat.zero_le _
 ·exact zCc hv S
abbrev zD4 (T : Tab) : AV := .rp (.box (tbF T.r T.l T.nx (.ro (zCP T.E) 0 T.E.length))) 0 0
def zF8 (r : Go.Ax.Gm.Rules) : AV := if zDX r ≠ 0 then .nilp else match zEz r with
 | some x => zD4 (zEF r x)
 | none => .nilp
theorem zIB : ∀ {l : List AV}, (∀ x ∈ l, noRef x = true) → noRef.noRefs l = true
 | [], _ => rfl
 | x :: l, h => by
  show (noRef x && noRef.noRefs l) = true
  rw [h x (List.mem_cons_self ..), zIB (fun y hy => h y (List.mem_cons_of_mem _ hy))]; rfl
theorem zLN (l : List Pos) (n : Nat) : zAI (.mp (zCZ l) (zDH n)) :=
 ⟨zIB (fun x hx => by obtain ⟨p, _, rfl⟩ := List.mem_map.1 hx; rfl), zIB (fun x hx => by obtain ⟨p, _, rfl⟩ := List.mem_map.1 hx; rfl)⟩
theorem zMd (l : List Pos) : zAI (zCJ l) := zAV (fun a j hj => by
 match j, hj with
 | 0, _ => rfl
 | 1, _ => rfl
 | 2, _ => rfl
 | 3, _ => rfl
 | 4, _ => rfl)
theorem zLc (nx : List (List Nat)) : zAI (zEA nx) := zAV (fun a j hj => by
 obtain rfl : j = 0 := Nat.lt_one_iff.1 hj
 rfl)
theorem zLI (E : List Ent) : zAI (zCP E) := zAV (fun a j hj => by
 match j, hj with
 | 0, _ => rfl
 | 1, _ => rfl)
/-- retro.New, refused -/
theorem new_no (r : Go.Ax.Gm.Rules) (hr : Lens r) (h : zAY r ≠ 0) : zj Tryz.prog 48 [ruA r] (.tup [.nilp, .int .i64 (zAY r)]) := by
 refine zb.value0 (zM (P := Tryz.prog) (fn := Tryz.f48) rfl rfl (by kernel_rfl) rfl (fun c hR hfix => ?_)) (fix := fun _ => False) (fun _ h => h) rfl rfl
 refine rn6 ?_
 refine zN rfl rfl rfl (begin_no r hr h) ?_
 refine rn4 ?_
 refine zd (poC zu) rfl rfl rfl rfl rfl rfl rfl ?_
 refine rn3 ?_
 refine zD rfl (fun q => ?_) (fun q => absurd h q)
 refine rn2 ?_
 exact zJ hR rfl rfl
/-- retro.New, a limit of quiet moves -/
theorem zOs (r : Go.Ax.Gm.Rules) (hr : Lens r) (h : zAY r = 0) (hq : r.quiet ≠ 0) : zj Tryz.prog 48 [ruA r] (.tup [.nilp, .int .i64 1]) := by
 refine zb.value0 (zM (P := Tryz.prog) (fn := Tryz.f48) rfl rfl (by kernel_rfl) rfl (fun c hR hfix => ?_)) (fix := fun _ => False) (fun _ h => h) rfl rfl
 refine rn6 ?_
 refine zN rfl rfl rfl (zL0 r hr h) ?_
 refine rn4 ?_
 refine zd (poC (zAK r)) rfl rfl rfl rfl rfl rfl rfl ?_
 refine rn5 ?_
 refine zD rfl (fun q => ?_) (fun q => absurd hq q)
 refine rn2 ?_
 exact zJ hR rfl rfl
/-- retro.New -/
theorem new_run (r : Go.Ax.Gm.Rules) (hr : Lens r) (h : zAY r = 0) (hq : r.quiet = 0) : zj Tryz.prog 48 [ruA r] (.tup [zF8 r, .int .i64 (zDX r)]) := by
 have hE : zDX r = match zEz r with | none => 2 | some _ => 0 := by
  unfold zDX
  rw [if_neg (fun c => c h), if_neg (fun c => c hq)]
  cases zEz r <;> rfl
 have hnone : zEz r = none → zDX r = 2 ∧ zF8 r = .nilp := fun q => by
  have e : zDX r = 2 := by rw [hE, q]
  exact ⟨e, by unfold zF8; rw [e, if_pos (by decide)]⟩
 have hsome : ∀ x, zEz r = some x → zDX r = 0 ∧ zF8 r = zD4 (zEF r x) := fun x q => by
  have e : zDX r = 0 := by rw [hE, q]
  exact ⟨e, by unfold zF8; rw [e, if_neg (by decide), q]⟩
 have hv := zAp h
 refine zb.value0 (zM (P := Tryz.prog) (fn := Tryz.f48) rfl rfl (by kernel_rfl) rfl (fun c hR hfix => ?_)) (fix := fun _ => False) (fun _ h => h) ?_ ?_
 rotate_left
 ·rfl
 ·show (noRef (zF8 r) && true) = true
  rcases hx : zEz r with _ | x
  ·rw [(hnone hx).2]; rfl
  ·rw [(hsome x hx).2]; rfl
 refine zZ ?_
 repeat (first | refine zA (zP rfl) ?_ | refine zC ?_ | refine zB ?_ | refine zK rfl ?_ | refine zAQ rfl rfl ?_)
 refine zB1 1 [] rfl ⟨rfl, trivial⟩ trivial rfl hfix ?_
 refine rn6 ?_
 refine zN rfl rfl rfl (zL0 r hr h) ?_
 refine rn4 ?_
 refine zd (poC (zAK r)) rfl rfl rfl rfl rfl rfl rfl ?_
 refine zBC ?_
 refine zB1 4 [(1, .rp (.box (ruC r)) 0 0), (5, .int .i64 0)] rfl ⟨rfl, rfl, rfl, trivial⟩ ⟨rfl, rfl, trivial⟩ rfl hfix ?_
 refine zB0 ?_
 refine zD rfl (fun q => absurd hq q) (fun q => ?_)
 refine rn6 ?_
 refine zN rfl rfl rfl (copyR_ok r (zMo hv)) ?_
 skip
 refine zM7 ?_
 skip
 refine zA (q_buildM rfl rfl rfl rfl rfl rfl) ?_
 repeat (first | refine zA (zP rfl) ?_ | refine zC ?_ | refine zB ?_ | refine zZ ?_ | refine zAQ rfl rfl ?_)
 refine zAU [some ⟨95, .mp (zCZ []) (zDH 0)⟩, some ⟨97, .box [.str r.name, .int .i64 r.w, .int .i64 r.h, .ro (zAn r.pcs) 0 r.pcs.length, zAB r.start, .bool r.falls, .bool r.keeps, .ro (zFT r.ends) 0 r.ends.length, .int .i64 r.blocked, .int .i64 r.quiet, .int .i64 r.rep, .nil, .nil, .nil, .mp 0]⟩] rfl ?_
 refine zDc 1 ⟨35, zCJ []⟩ (.box [.str r.name, .int .i64 r.w, .int .i64 r.h, .ro (zAn r.pcs) 0 r.pcs.length, zAB r.start, .bool r.falls, .bool r.keeps, .ro (zFT r.ends) 0 r.ends.length, .int .i64 r.blocked, .int .i64 r.quiet, .int .i64 r.rep, .sl 2 0 0, .nil, .nil, .mp 0]) rfl rfl rfl rfl (fun i j hi hj => by
  obtain rfl : i = 0 := Nat.lt_one_iff.1 hi
  have hj : j < 15 := hj
  match j, hj with
  | 0, _ => exact .inl rfl
  | 1, _ => exact .inl rfl
  | 2, _ => exact .inl rfl
  | 3, _ => exact .inl rfl
  | 4, _ => exact .inl rfl
  | 5, _ => exact .inl rfl
  | 6, _ => exact .inl rfl
  | 7, _ => exact .inl rfl
  | 8, _ => exact .inl rfl
  | 9, _ => exact .inl rfl
  | 10, _ => exact .inl rfl
  | 11, _ => exact .inr ⟨rfl, rfl⟩
  | 12, _ => exact .inl rfl
  | 13, _ => exact .inl rfl
  | 14, _ => exact .inl rfl) ?_
 refine zDc 1 ⟨23, zEA []⟩ (.box [.str r.name, .int .i64 r.w, .int .i64 r.h, .ro (zAn r.pcs) 0 r.pcs.length, zAB r.start, .bool r.falls, .bool r.keeps, .ro (zFT r.ends) 0 r.ends.length, .int .i64 r.blocked, .int .i64 r.quiet, .int .i64 r.rep, .sl 2 0 0, .sl 3 0 0, .nil, .mp 0]) rfl rfl rfl rfl (fun i j hi hj => by
  obtain rfl : i = 0 := Nat.lt_one_iff.1 hi
  have hj : j < 15 := hj
  match j, hj with
  | 0, _ => exact .inl rfl
  | 1, _ => exact .inl rfl
  | 2, _ => exact .inl rfl
  | 3, _ => exact .inl rfl
  | 4, _ => exact .inl rfl
  | 5, _ => exact .inl rfl
  | 6, _ => exact .inl rfl
  | 7, _ => exact .inl rfl
  | 8, _ => exact .inl rfl
  | 9, _ => exact .inl rfl
  | 10, _ => exact .inl rfl
  | 11, _ => exact .inl rfl
  | 12, _ => exact .inr ⟨rfl, rfl⟩
  | 13, _ => exact .inl rfl
  | 14, _ => exact .inl rfl) ?_
 refine zAU (zFn r [] []) rfl ?_
 have nofix : ∀ (h n : Nat), c.fix h → h < n := fun h n q => by rw [hfix] at q; exact q.elim
 refine zBZ (zFn r [] []) [] [(4, .rp (.box (poC (zAK r))) 0 0), (6, .ptr 1 0 0)] rfl ⟨rfl, rfl, trivial⟩ (fun h q => nofix h _ q) (zGJ _ _ _) rfl ?_
 refine rn6 ?_
 refine zEL 2 rfl rfl rfl (add0_ok r hv [] [] (zAK r) (zEi hv) (fun q hq => absurd hq (by simp)) (Nat.zero_le _)) (fun h q1 q2 => ⟨q1, q2⟩) (fun h q => q.1) (by rw [hfix]; exact fun h => h) ?_
 rintro v H ⟨rfl, rfl⟩
 refine ⟨Nat.le_refl _, ?_⟩
 refine rn1 ?_
 refine zAA (ι := Nat × List Pos × List (List Nat)) (fun x => [(6, .ptr 1 0 0), (7, iN x.1)]) (fun x => zFn r x.2.1 x.2.2) (fun x => Grown r x.1 x.2.1 x.2.2 ∧ Go.Ax.Gm.grow r (3001 - x.1) x.1 x.2.1 x.2.2 = zEz r) (fun x => 3001 - x.1) (0, [zAK r], []) ⟨⟨rfl, rfl, trivial⟩, rfl, zIR hv, rfl⟩ ?_
 rintro ⟨i, l, nx⟩ ⟨G, hg⟩
 have G : Grown r i l nx := G
 have hg : Go.Ax.Gm.grow r (3001 - i) i l nx = zEz r := hg
 change Ax _ _ _ _ [(6, .ptr 1 0 0), (7, iN i)] (zFn r l nx)
 have hmost := G.most
 have hle := G.le
 repeat (first | refine zA (zG rfl) ?_ | refine zC ?_ | refine zB ?_ | refine zZ ?_ | refine zK rfl ?_ | refine zA (zV rfl rfl rfl rfl rfl) ?_ | refine zA (zCK rfl rfl) ?_ | refine zA (zBB rfl rfl rfl) ?_ | refine zA (zU rfl) ?_ | refine zA (zO rfl rfl rfl rfl rfl rfl) ?_)
 refine zD rfl (fun q => ?_) (fun q => ?_)
 ·have hi : i < l.length := by omega
  have S := (G.snd (l.getD i zu) (by
   rw [show l.getD i zu = l[i] by simp [List.getD, hi]]
   exact List.getElem_mem hi)).1
  have hml := zEI hv S
  refine rn20 ?_
  refine zK rfl ?_
  refine zBC ?_
  refine zBp 8 ⟨3, .ints .i64 []⟩ rfl rfl ?_
  refine zAU (zJ2 r l nx []) rfl ?_
  skip
  refine zg (by kernel_rfl) ?_
  refine zq (fuel := 0) [0, 1, 2, 3, 4, 5, 6, 7, 8, 9, 10, 11, 12, 13] [(6, .ptr 1 0 0), (7, iN i), (8, .sl 4 0 0)] ⟨rfl, rfl, rfl, trivial⟩ (by kernel_rfl) (by decide) rfl rfl ?_
  refine zI rfl rfl (zG rfl) ?_
  refine zI rfl rfl (zU rfl) ?_
  refine zI rfl rfl (zO rfl rfl rfl rfl rfl rfl) ?_
  refine zI rfl rfl (qpp rfl rfl rfl rfl rfl rfl rfl) ?_
  refine zI rfl rfl (zG rfl) ?_
  refine zI rfl rfl (zU rfl) ?_
  refine zI rfl rfl (zO rfl rfl rfl rfl rfl rfl) ?_
  refine zI rfl rfl (zV rfl rfl rfl rfl rfl) ?_
  refine zI rfl rfl (zG rfl) ?_
  refine zI rfl rfl (zr rfl rfl rfl rfl rfl (by first | (simp only [Nat.zero_add, Int.toNat_natCast, Int.toNat_zero]; exact rfl) | exact rfl) (by omega)) ?_
  refine zI rfl rfl (qpp rfl rfl rfl rfl rfl rfl rfl) ?_
  refine zCS rfl rfl rfl rfl rfl (zEl r hv (l.getD i zu) S) ?_
  refine zI rfl rfl (zBB rfl rfl rfl) ?_
  refine zI rfl rfl (zG rfl) ?_
  refine z7 ?_
  refine zX (by kernel_rfl) ?_
  refine rn1 ?_
  have hok : ∀ m ∈ z8 r (l.getD i zu), MvOK r (l.getD i zu) m ∧ Sound r (zQ r (l.getD i zu) m) := fun m hm => ⟨zFD hv S hm, zEW hv S (zFD hv S hm)⟩
  have hstep := fun l' ix (h : zCp r (l.getD i zu) (z8 r (l.getD i zu)) l [] = some (l', ix)) => zJI G hi (fun m hm => (hok m hm).2) h
  have hgN : zCp r (l.getD i zu) (z8 r (l.getD i zu)) l [] = none → ∀ f, Go.Ax.Gm.grow r (f + 1) i l nx = none := fun a f => by rw [Go.Ax.Gm.grow, if_pos hi, a]
  have hgS : ∀ x, zCp r (l.getD i zu) (z8 r (l.getD i zu)) l [] = some x → ∀ f, Go.Ax.Gm.grow r (f + 1) i l nx = Go.Ax.Gm.grow r f (i + 1) x.1 (nx ++ [x.2]) := fun x a f => by rw [Go.Ax.Gm.grow, if_pos hi, a]
  generalize hms : z8 r (l.getD i zu) = ms at hok hstep hgN hgS hml
  refine zAA (ι := Nat × List Pos × List Nat) (fun x => [(6, .ptr 1 0 0), (7, iN i), (8, .sl 4 0 x.2.2.length), (50, zAy ms), (51, iN ms.length), (52, iN x.1)]) (fun x => zJ2 r x.2.1 nx (x.2.2.map Int.ofNat)) (fun x => x.1 ≤ ms.length ∧ zCp r (l.getD i zu) (ms.drop x.1) x.2.1 x.2.2 = zCp r (l.getD i zu) ms l [] ∧ l <+: x.2.1 ∧ (∀ q ∈ x.2.1, Sound r q ∧ q.quiet = 0) ∧ x.2.1.length ≤ 3000 ∧ x.2.2.length = x.1) (fun x => ms.length - x.1) (0, l, []) ⟨⟨rfl, rfl, rfl, rfl, rfl, rfl, trivial⟩, rfl, Nat.zero_le _, rfl, List.prefix_refl _, G.snd, hmost, rfl⟩ ?_
  rintro ⟨k, l', ix⟩ ⟨hk, ha, hpre, hsnd, hl3, hix⟩
  have hk : k ≤ ms.length := hk
  have ha : zCp r (l.getD i zu) (ms.drop k) l' ix = zCp r (l.getD i zu) ms l [] := ha
  have hpre : l <+: l' := hpre
  have hsnd : ∀ q ∈ l', Sound r q ∧ q.quiet = 0 := hsnd
  have hl3 : l'.length ≤ 3000 := hl3
  have hix : ix.length = k := hix
  change Ax _ _ _ _ [(6, .ptr 1 0 0), (7, iN i), (8, .sl 4 0 ix.length), (50, zAy ms), (51, iN ms.length), (52, iN k)] (zJ2 r l' nx (ix.map Int.ofNat))
  have hli : (ix.map Int.ofNat).length = ix.length := List.length_map ..
  refine rn4 ?_
  refine zD rfl (fun q2 => ?_) (fun q2 => ?_)
  ·have hk' : k < ms.length := by omega
   have hd : ms.drop k = ms.getD k mv0 :: ms.drop (k + 1) := by rw [List.drop_eq_getElem_cons hk', zDP mv0 hk']
   have hm := hok (ms.getD k mv0) (zAL mv0 hk')
   rw [hd, zCp] at ha
   have hpi : l'.getD i zu = l.getD i zu := zGC hpre hi
   have hi' : i < l'.length := Nat.lt_of_lt_of_le hi hpre.length_le
   rw [← hpi] at hm S
   generalize hmk : ms.getD k mv0 = m at ha hm
   refine zFc ?_
   repeat (refine zAG rfl rfl rfl ?_)
   refine zd (mvC m) rfl rfl rfl rfl rfl (by rw [← hmk]; rfl) rfl ?_
   refine rn0 ?_
   refine zCU (zJ2 r l' nx (ix.map Int.ofNat)) 10 [(6, .ptr 1 0 0), (7, iN i), (8, .sl 4 0 ix.length), (50, zAy ms), (51, iN ms.length), (52, iN k)] rfl rfl ⟨rfl, rfl, rfl, rfl, rfl, rfl, trivial⟩ ⟨rfl, rfl, rfl, rfl, rfl, rfl, rfl, trivial⟩ (zJ3 _ _ _ _) rfl (fun h q => nofix h _ q) ?_
   refine zg (by kernel_rfl) ?_
   refine zW 0 rfl (by kernel_rfl) (by kernel_rfl) (by kernel_rfl) rfl (zG rfl) rfl ?_
   refine zq (fuel := 4) [1, 2, 3, 4, 5, 6, 7, 8, 9, 10, 11, 12, 13, 14] [(56, .sl 4 0 ix.length), (10, .rp (.box (mvC m)) 0 0), (6, .ptr 1 0 0), (7, iN i), (8, .sl 4 0 ix.length), (50, zAy ms), (51, iN ms.length), (52, iN k)] ⟨rfl, rfl, rfl, rfl, rfl, rfl, rfl, rfl, trivial⟩ (by kernel_rfl) (by decide) rfl rfl ?_
   refine zI rfl rfl (zG rfl) ?_
   refine zI rfl rfl (zG rfl) ?_
   refine zI rfl rfl (zU rfl) ?_
   refine zI rfl rfl (zO rfl rfl rfl rfl rfl rfl) ?_
   refine zI rfl rfl (qpp rfl rfl rfl rfl rfl rfl rfl) ?_
   refine zI rfl rfl (zG rfl) ?_
   refine zI rfl rfl (zU rfl) ?_
   refine zI rfl rfl (zO rfl rfl rfl rfl rfl rfl) ?_
   refine zI rfl rfl (zV rfl rfl rfl rfl rfl) ?_
   refine zI rfl rfl (zG rfl) ?_
   refine zI rfl rfl (zr rfl rfl rfl rfl rfl (by first | (simp only [Nat.zero_add, Int.toNat_natCast, Int.toNat_zero]; exact rfl) | exact rfl) (by omega)) ?_
   refine zI rfl rfl (qpp rfl rfl rfl rfl rfl rfl rfl) ?_
   refine zI rfl rfl (zf rfl rfl rfl rfl rfl rfl) ?_
   refine zCS rfl rfl rfl rfl rfl (zDm r hv (l'.getD i zu) S m hm.1) ?_
   refine z7 ?_
   refine zH (is := [15]) (by kernel_rfl) (by simp) rfl ⟨fun o ho => ?_, trivial⟩
   all_goals (cases ho)
   refine zEL 2 rfl rfl rfl (add_ok r hv l' nx (ix.map Int.ofNat) (zQ r (l'.getD i zu) m) hm.2 hsnd (by omega)) (fun h q1 q2 => ⟨q1, q2⟩) (fun h q => q.1) (by rw [hfix]; exact fun h => h) ?_
   rintro v H ⟨rfl, rfl⟩
   refine ⟨Nat.le_refl _, ?_⟩
   rw [hpi]
   generalize hP : zQ r (l.getD i zu) m = P at ha hm
   have hadd := zNs l' P
   refine rn1 ?_
   refine zH (is := [16]) (by kernel_rfl) (by simp) rfl ⟨fun o ho => ?_, trivial⟩
   all_goals (cases ho)
   refine rn3 ?_
   refine zH (is := [17]) (by kernel_rfl) (by simp) rfl ⟨fun o ho => ?_, trivial⟩
   all_goals (cases ho)
   refine zAo rfl rfl rfl rfl rfl rfl rfl rfl rfl hli rfl rfl (by show 0 + 1 ≤ 1; omega) rfl (by show (ix.length + 1) * 8 ≤ _ ∧ _; omega) (fun i j _ _ => rfl) (by rw [hfix]; exact fun h => h) ?_
   refine zAX (zJ2 r (zDM l' P) nx ((ix ++ [zAu l' P]).map Int.ofNat)) ?_ ?_
   ·show [some (AObj.mk _ ((Cells.mp _ _).forget 4)), some (AObj.mk _ ((Cells.box _).forget 4)), some (AObj.mk _ ((zCJ _).forget 4)), some (AObj.mk _ ((zEA nx).forget 4)), _] = _
    rw [zEo, zBv (fun a j => zDu a j 4), zBv (fun a j => zEr a j 4)]
    show _ = [_, _, _, _, some (AObj.mk _ (Cells.ints .i64 ((ix ++ [zAu l' P]).map Int.ofNat)))]
    rw [List.map_append]; rfl
   refine rn1 ?_
   refine zH (is := [18]) (by kernel_rfl) (by simp) rfl ⟨fun o ho => ?_, trivial⟩
   all_goals (cases ho)
   refine rn1 ?_
   refine zX (by kernel_rfl) ?_
   refine rn15 ?_
   refine zD rfl (fun g => ?_) (fun g => ?_)
   ·rw [if_pos (by omega)] at ha
    have hN : zEz r = none := by
     rw [← hg, show 3001 - i = (3000 - i) + 1 by omega]
     exact hgN ha.symm _
    refine rn6 ?_
    refine zJ hR rfl ?_
    show _ = AV.tup [zF8 r, .int .i64 (zDX r)]
    rw [(hnone hN).1, (hnone hN).2]; rfl
   ·rw [if_neg (by omega)] at ha
    have hmP : Sound r P := by rw [← hP, ← hpi]; exact hm.2
    refine rn5 ?_
    refine zS ⟨(k + 1, zDM l' P, ix ++ [zAu l' P]), ⟨by show k + 1 ≤ ms.length; omega, ha, hpre.trans (zNt l' P), zKQ hmP hsnd, by show (zDM l' P).length ≤ 3000; omega, by show (ix ++ [zAu l' P]).length = k + 1; rw [List.length_append, hix]; rfl⟩, by show ms.length - (k + 1) < ms.length - k; omega, ⟨rfl, rfl, ?_, rfl, rfl, rfl, trivial⟩, rfl⟩
    show some (AV.sl 4 0 (ix.length + 1)) = some (AV.sl 4 0 (ix ++ [zAu l' P]).length)
    rw [List.length_append]; rfl
  ·have hk' : k = ms.length := by omega
   subst hk'
   rw [List.drop_length, zCp] at ha
   have ha := ha.symm
   refine zBC ?_
   refine zCj 4 8 ix.length [(6, .ptr 1 0 0), (7, iN i)] rfl zAS rfl (by show ix.length ≤ (ix.map Int.ofNat).length; rw [hli]; exact Nat.le_refl _) ⟨rfl, rfl, trivial⟩ ?_
   have hnl : (nx ++ [ix]).length = nx.length + 1 := by rw [List.length_append]; rfl
   have hnx : nx.length ≤ 3000 := by have := G.len; omega
   refine zK rfl ?_
   repeat (first | refine zA (zG rfl) ?_ | refine zA (zV rfl rfl rfl rfl rfl) ?_ | refine zA (zU rfl) ?_ | refine zA (zO rfl rfl rfl rfl rfl rfl) ?_ | refine zAJ rfl rfl rfl rfl rfl rfl rfl rfl rfl rfl rfl ?_)
   refine zBW [ix] rfl rfl rfl rfl rfl rfl rfl rfl rfl rfl rfl rfl rfl (by show 0 + 1 ≤ 1; omega) (fun k' j hk' hj => ?_) (by show (nx.length + 1) * 24 ≤ _ ∧ _; omega) (fun a j k _ => zEr a j k) (by rw [hfix]; exact fun h => h) ?_
   ·obtain rfl : k' = 0 := Nat.lt_one_iff.1 hk'
    obtain rfl : j = 0 := Nat.lt_one_iff.1 hj
    show AV.ro (Cells.ints .i64 (List.map Int.ofNat ix)) 0 ix.length = AV.ro (Cells.ints .i64 (List.map Int.ofNat ix)) 0 (List.map Int.ofNat ix).length
    rw [hli]
   refine zAX [some ⟨95, .mp (zCZ l') (zDH l'.length)⟩, some ⟨97, .box ((tbC r l'.length nx.length .nil).set 12 .any)⟩, some ⟨35, zCJ l'⟩, some ⟨23, zEA (nx ++ [ix])⟩, none] ?_ ?_
   ·show [some (AObj.mk _ ((Cells.mp _ _).forget 3)), some (AObj.mk _ ((Cells.box _).forget 3)), some (AObj.mk _ ((zCJ _).forget 3)), some (AObj.mk _ (zEA (nx ++ [ix]))), none] = _
    rw [zEo, zBv (fun a j => zDu a j 3)]; rfl
   repeat (first | refine zC ?_ | refine zAa ?_ | refine zA (zU rfl) ?_ | refine zA (zO rfl rfl rfl rfl rfl rfl) ?_ | refine zAH rfl rfl rfl rfl rfl rfl rfl Nat.zero_lt_one ?_)
   refine zB ?_
   refine zAU (zFn r l' (nx ++ [ix]) ++ [none]) (by show _ = [_, some (AObj.mk _ (.box (tbC r l'.length (nx ++ [ix]).length .nil))), _, _, _]; rw [hnl]; rfl) ?_
   refine zBZ (zFn r l' (nx ++ [ix])) [none] [(6, .ptr 1 0 0), (7, iN i)] rfl ⟨rfl, rfl, trivial⟩ (fun h q => nofix h _ q) (zGJ _ _ _) rfl ?_
   refine rn3 ?_
   refine zS ⟨(i + 1, l', nx ++ [ix]), ⟨hstep l' ix ha, ?_⟩, by show 3001 - (i + 1) < 3001 - i; omega, ⟨rfl, rfl, trivial⟩, rfl⟩
   show Go.Ax.Gm.grow r (3001 - (i + 1)) (i + 1) l' (nx ++ [ix]) = zEz r
   rw [← hg, show 3001 - i = (3001 - (i + 1)) + 1 by omega]
   exact (hgS (l', ix) ha _).symm
 ·have hi : i = l.length := by omega
  subst hi
  have hN : zEz r = some (l, nx) := by
   rw [← hg]
   cases 3001 - l.length with
   | zero => rfl
   | succ f => rw [Go.Ax.Gm.grow, if_neg (Nat.lt_irrefl _)]
  refine zBC ?_
  refine zBO [some ⟨95, .mp (zCZ l) (zDH l.length)⟩, none, some ⟨35, zCJ l⟩, some ⟨23, zEA nx⟩] [none, some ⟨97, .box (tbF r l nx .nil)⟩, none, none] [(6, .ptr 1 0 0)] ?_ (zBz (zLN l _) (zCr (zBz (zMd l) (zBz (zLc nx) zCg)))) rfl ?_ ⟨⟨.ptr 1 0 0, rfl, .inl rfl⟩, trivial⟩ ?_
  ·intro h o ho
   match h, ho with
   | 0, ho => exact ho
   | 1, ho => simp at ho
   | 2, ho => exact ho
   | 3, ho => exact ho
   | _ + 4, ho => simp at ho
  ·intro h o ho
   match h, ho with
   | 0, ho => simp at ho
   | 1, ho =>
    cases ho
    refine ⟨fun o h => by simp at h, _, rfl, rfl, rfl, rfl, fun i j hi hj => ?_⟩
    obtain rfl : i = 0 := Nat.lt_one_iff.1 hi
    have hj : j < 15 := hj
    match j, hj with
    | 0, _ => exact .inl rfl
    | 1, _ => exact .inl rfl
    | 2, _ => exact .inl rfl
    | 3, _ => exact .inl rfl
    | 4, _ => exact .inl rfl
    | 5, _ => exact .inl rfl
    | 6, _ => exact .inl rfl
    | 7, _ => exact .inl rfl
    | 8, _ => exact .inl rfl
    | 9, _ => exact .inl rfl
    | 10, _ => exact .inl rfl
    | 11, _ => exact .inr (.inr ⟨rfl, fun o ho => by cases ho; show 0 + l.length ≤ l.length; omega⟩)
    | 12, _ => exact .inr (.inr ⟨rfl, fun o ho => by cases ho; show 0 + nx.length ≤ nx.length; omega⟩)
    | 13, _ => exact .inl rfl
    | 14, _ => exact .inr (.inr ⟨rfl, trivial⟩)
   | 2, ho => simp at ho
   | 3, ho => simp at ho
   | _ + 4, ho => simp at ho
  refine zBZ [none, some ⟨97, .box (tbF r l nx .nil)⟩] [none, none] [(6, .ptr 1 0 0)] rfl ⟨rfl, trivial⟩ (fun h q => nofix h _ q) (bl_n (zBs (zGl rfl) zBP)) rfl ?_
  have hmem : ∀ i, i < l.length → Sound r (l.getD i zu) := fun i hi => by
   rw [show l.getD i zu = l[i] by simp [List.getD, hi]]
   exact (G.snd _ (List.getElem_mem hi)).1
  have hP : SolveP r l nx := ⟨hv, hmost, hmem, G.len, fun i hi => by
   have h1 := G.nxl i hi
   have h2 := zEI hv (hmem i hi)
   omega, fun i hi k hk => by
   obtain ⟨j, hj, rfl⟩ := List.mem_iff_getElem.1 hk
   have h1 := G.nxl i hi
   have := (G.nxt i hi j (by omega)).1
   rwa [Go.Ax.Gm.get_at (nx.getD i []) hj] at this⟩
  refine rn0 ?_
  refine zCG rfl rfl rfl (solve_ok r l nx hP) (fun h q => q) (fun h q => q) ?_
  rintro v H ⟨rfl, N, hN2, rfl⟩
  have hE2 : zCA (zm l nx (zAN r l) N) = (zEF r (l, nx)).E := new_ent (x := (l, nx)) G hN2
  rw [hE2]
  generalize hEE : (zEF r (l, nx)).E = E
  refine zBC ?_
  refine zBO [none, none, none, some ⟨37, zCP E⟩] [none, some ⟨97, .box (tbF r l nx (.ro (zCP E) 0 E.length))⟩, none, none] [(6, .ptr 1 0 0)] ?_ (zCr (zCr (zCr (zBz (zLI E) zCg)))) rfl ?_ ⟨⟨.ptr 1 0 0, rfl, .inl rfl⟩, trivial⟩ ?_
  ·intro h o ho
   match h, ho with
   | 0, ho => simp at ho
   | 1, ho => simp at ho
   | 2, ho => simp at ho
   | 3, ho => exact ho
   | _ + 4, ho => simp at ho
  ·intro h o ho
   match h, ho with
   | 0, ho => simp at ho
   | 1, ho =>
    cases ho
    refine ⟨fun o h => by simp at h, _, rfl, rfl, rfl, rfl, fun i j hi hj => ?_⟩
    obtain rfl : i = 0 := Nat.lt_one_iff.1 hi
    have hj : j < 15 := hj
    match j, hj with
    | 0, _ => exact .inl rfl
    | 1, _ => exact .inl rfl
    | 2, _ => exact .inl rfl
    | 3, _ => exact .inl rfl
    | 4, _ => exact .inl rfl
    | 5, _ => exact .inl rfl
    | 6, _ => exact .inl rfl
    | 7, _ => exact .inl rfl
    | 8, _ => exact .inl rfl
    | 9, _ => exact .inl rfl
    | 10, _ => exact .inl rfl
    | 11, _ => exact .inl rfl
    | 12, _ => exact .inl rfl
    | 13, _ => exact .inr (.inr ⟨rfl, fun o ho => by cases ho; show 0 + E.length ≤ E.length; omega⟩)
    | 14, _ => exact .inl rfl
   | 2, ho => simp at ho
   | 3, ho => simp at ho
   | _ + 4, ho => simp at ho
  refine zBZ [none, some ⟨97, .box (tbF r l nx (.ro (zCP E) 0 E.length))⟩] [none, none] [(6, .ptr 1 0 0)] rfl ⟨rfl, trivial⟩ (fun h q => nofix h _ q) (bl_n (zBs (zGl rfl) zBP)) rfl ?_
  refine zCU [none] 6 [] rfl rfl trivial ⟨rfl, trivial⟩ (bl_n zBP) rfl (fun h q => nofix h _ q) ?_
  refine rn0 ?_
  refine zJ hR rfl ?_
  show _ = AV.tup [zF8 r, .int .i64 (zDX r)]
  rw [(hsome _ hN).1, (hsome _ hN).2]
  show _ = AV.tup [.rp (.box (tbF r l nx (.ro (zCP (zEF r (l, nx)).E) 0 (zEF r (l, nx)).E.length))) 0 0, .int .i64 0]
  rw [hEE]; rfl
/-- retro.New -/
theorem zLS (r : Go.Ax.Gm.Rules) (hr : Lens r) : zj Tryz.prog 48 [ruA r] (.tup [zF8 r, .int .i64 (zDX r)]) := by
 by_cases h : zAY r = 0
 ·by_cases hq : r.quiet = 0
  ·exact new_run r hr h hq
  ·have e : zDX r = 1 := by unfold zDX; rw [if_neg (fun c => c h), if_pos hq]
   have e2 : zF8 r = .nilp := by unfold zF8; rw [e, if_pos (by decide)]
   rw [e, e2]; exact zOs r hr h hq
 ·have e : zDX r = zAY r := by unfold zDX; rw [if_pos h]
  have e2 : zF8 r = .nilp := by unfold zF8; rw [e, if_pos h]
  rw [e, e2]; exact new_no r hr h
/-- the zero position has empty rows -/
theorem zKT {P : Program} {fn : Func} {c : Ctx} {fr : Fr} {H : zR} {k : List It} {x : Code} {ty : TypeId} (h : Nat) (hh : H[h]? = some (some ⟨ty, .box poZ⟩)) (hk : Ax P fn c (.code x k) fr (H.set h (some ⟨ty, .box (poC zu)⟩))) : Ax P fn c (.code x k) fr H := by
 have hlt : h < H.length := (List.getElem?_eq_some_iff.1 hh).1
 refine zLx (H.set h (some ⟨ty, .box (poC zu)⟩)) (List.length_set ..) (fun h' o ho => ?_) hk
 by_cases e : h' = h
 ·subst e
  rw [List.getElem?_set_self hlt] at ho
  cases ho
  refine ⟨_, hh, rfl, rfl, rfl, fun i j hi hj => ?_⟩
  obtain rfl : i = 0 := Nat.lt_one_iff.1 hi
  have hj : j < 5 := hj
  match j, hj with
  | 0, _ => exact AEq.nil
  | 1, _ => exact AEq.nil
  | 2, _ => exact AEq.nil
  | 3, _ => exact AEq.rfl'
  | 4, _ => exact AEq.rfl'
 ·rw [List.getElem?_set_ne (Ne.symm e)] at ho
  exact ⟨o, ho, rfl, rfl, rfl, fun _ _ _ _ => AEq.rfl'⟩
/-- (*retro.Table).Size -/
theorem zLg (T : Tab) : zj Tryz.prog 18 [zD4 T] (iN T.l.length) := by
 refine zb.value0 (zM (P := Tryz.prog) (fn := Tryz.f18) rfl rfl (by kernel_rfl) rfl (fun c hR hfix => ?_)) (fix := fun _ => False) (fun _ h => h) rfl rfl
 repeat (first | refine zA (zG rfl) ?_ | refine zA (zP rfl) ?_ | refine zC ?_ | refine zB ?_ | refine zZ ?_ | refine zK rfl ?_ | refine zAC ?_ | refine zA (zBB rfl rfl rfl) ?_ | refine zA (zF rfl rfl rfl rfl) ?_ | refine zA (zAZ rfl) ?_ | refine zA (zL rfl rfl rfl rfl rfl rfl) ?_)
 exact zJ hR rfl rfl
def atE (T : Tab) (i : Int) : Int := if i < 0 ∨ (T.l.length : Int) ≤ i then 4 else 0
def atP (T : Tab) (i : Int) : Pos := if atE T i ≠ 0 then zu else T.l.getD i.toNat zu
def atX (T : Tab) (i : Int) : Ent := if atE T i ≠ 0 then (0, 0) else zBN T i.toNat
theorem zGc {T : Tab} (h : TabOK T) {i : Nat} (hi : i < T.l.length) : SmallP (T.l.getD i zu) := zAv h.v (h.sound hi).1
/-- (*retro.Table).At -/
theorem at_ok (T : Tab) (h : TabOK T) (i : Int) : zj Tryz.prog 17 [zD4 T, .int .i64 i] (.tup [poA (atP T i), entA (atX T i), .int .i64 (atE T i)]) := by
 refine zb.value0 (zM (P := Tryz.prog) (fn := Tryz.f17) rfl rfl (by kernel_rfl) rfl (fun c hR hfix => ?_)) (fix := fun _ => False) (fun _ h => h) rfl rfl
 have hEl := h.len
 have hmost := h.G.most
 by_cases hi : i < 0 ∨ (T.l.length : Int) ≤ i
 ·have e : atE T i = 4 := by unfold atE; rw [if_pos hi]
  have e1 : atP T i = zu := by unfold atP; rw [e, if_pos (by decide)]
  have e2 : atX T i = (0, 0) := by unfold atX; rw [e, if_pos (by decide)]
  rw [e, e1, e2] at hR
  refine rn4 ?_
  refine zn rfl rfl (fun g => ?_) (fun g => ?_)
  ·refine rn18 ?_
   refine zd poZ rfl rfl rfl rfl rfl rfl rfl ?_
   skip
   refine zd (zC7 (0, 0)) rfl rfl rfl rfl rfl rfl rfl ?_
   refine rn7 ?_
   refine zKT 0 rfl ?_
   refine rn2 ?_
   exact zJ hR rfl rfl
  ·repeat (first | refine zA (zG rfl) ?_ | refine zC ?_ | refine zB ?_ | refine zw rfl rfl ?_ | refine zA (zD9 rfl rfl) ?_ | refine zA (zh rfl rfl) ?_ | refine zA (zBB rfl rfl rfl) ?_ | refine zA (zF rfl rfl rfl rfl) ?_ | refine zA (zAZ rfl) ?_ | refine zA (zL rfl rfl rfl rfl rfl rfl) ?_)
   refine zD rfl (fun q => ?_) (fun q => absurd q (by omega))
   refine rn8 ?_
   refine zd poZ rfl rfl rfl rfl rfl rfl rfl ?_
   skip
   refine zd (zC7 (0, 0)) rfl rfl rfl rfl rfl rfl rfl ?_
   refine rn7 ?_
   refine zKT 0 rfl ?_
   refine rn2 ?_
   exact zJ hR rfl rfl
 ·have e : atE T i = 0 := by unfold atE; rw [if_neg hi]
  have e1 : atP T i = T.l.getD i.toNat zu := by unfold atP; rw [e, if_neg (by decide)]
  have e2 : atX T i = zBN T i.toNat := by unfold atX; rw [e, if_neg (by decide)]
  rw [e, e1, e2] at hR
  obtain ⟨n, rfl⟩ : ∃ n : Nat, i = (n : Int) := ⟨i.toNat, by omega⟩
  rw [Int.toNat_natCast] at hR
  have hn : n < T.l.length := by omega
  repeat (first | refine zA (zG rfl) ?_ | refine zA (zP rfl) ?_ | refine zC ?_ | refine zB ?_ | refine zZ ?_ | refine zK rfl ?_ | refine zw rfl rfl ?_ | refine zA (zCK rfl rfl) ?_ | refine zA (zD9 rfl rfl) ?_ | refine zA (zh rfl rfl) ?_ | refine zA (zBB rfl rfl rfl) ?_ | refine zA (zF rfl rfl rfl rfl) ?_ | refine zA (zAZ rfl) ?_ | refine zA (zL rfl rfl rfl rfl rfl rfl) ?_ | refine zAG rfl rfl rfl ?_)
  refine zD rfl (fun q => ?_) (fun q => ?_)
  ·exact absurd q (by omega)
  refine rn1 ?_
  refine zg (by kernel_rfl) ?_
  refine zW 0 rfl (by kernel_rfl) (by kernel_rfl) (by kernel_rfl) rfl (zG rfl) rfl ?_
  refine zW 1 rfl (by kernel_rfl) (by kernel_rfl) (by kernel_rfl) rfl (zAZ rfl) rfl ?_
  refine zW 2 rfl (by kernel_rfl) (by kernel_rfl) (by kernel_rfl) rfl (zL rfl rfl rfl rfl rfl rfl) rfl ?_
  refine zW 4 rfl (by kernel_rfl) (by kernel_rfl) (by kernel_rfl) rfl (zG rfl) rfl ?_
  refine zW 8 rfl (by kernel_rfl) (by kernel_rfl) (by kernel_rfl) rfl (zG rfl) rfl ?_
  refine zW 9 rfl (by kernel_rfl) (by kernel_rfl) (by kernel_rfl) rfl (zAZ rfl) rfl ?_
  refine zW 10 rfl (by kernel_rfl) (by kernel_rfl) (by kernel_rfl) rfl (zL rfl rfl rfl rfl rfl rfl) rfl ?_
  refine zW 12 rfl (by kernel_rfl) (by kernel_rfl) (by kernel_rfl) rfl (zG rfl) rfl ?_
  apply zT (H := [some ⟨35, .box (poC (T.l.getD n zu))⟩, some ⟨37, .box (zC7 (0, 0))⟩]) [(4, .ptr 0 0 0), (5, .ptr 1 0 0), (34, entA (zBN T n))]
  ·intro f42
   apply zT (H := [some ⟨35, .box poZ⟩, some ⟨37, .box (zC7 (0, 0))⟩]) [(4, .ptr 0 0 0), (5, .ptr 1 0 0), (27, poA (T.l.getD n zu)), (34, entA (zBN T n))]
   ·intro f32
    apply zT (H := [some ⟨35, .box (poC (T.l.getD n zu))⟩, some ⟨37, .box (zC7 (0, 0))⟩]) [(4, .ptr 0 0 0), (5, .ptr 1 0 0), (33, .rp (zCP T.E) n 0)]
    ·intro f41
     apply zT (H := [some ⟨35, .box poZ⟩, some ⟨37, .box (zC7 (0, 0))⟩]) [(4, .ptr 0 0 0), (5, .ptr 1 0 0), (26, poA (T.l.getD n zu)), (34, entA (zBN T n))]
     ·intro f22
      apply zT (H := [some ⟨35, .box poZ⟩, some ⟨37, .box (zC7 (0, 0))⟩]) [(4, .ptr 0 0 0), (5, .ptr 1 0 0), (27, poA (T.l.getD n zu)), (33, .rp (zCP T.E) n 0)]
      ·intro f31
       apply zT (H := [some ⟨35, .box (poC (T.l.getD n zu))⟩, some ⟨37, .box (zC7 (0, 0))⟩]) [(4, .ptr 0 0 0), (5, .ptr 1 0 0), (30, .rp (.box (tbF T.r T.l T.nx (.ro (zCP T.E) 0 T.E.length))) 0 13), (32, iN n)]
       ·intro f40
        apply zT (H := [some ⟨35, .box poZ⟩, some ⟨37, .box (zC7 (0, 0))⟩]) [(4, .ptr 0 0 0), (5, .ptr 1 0 0), (25, .rp (zCJ T.l) n 0), (34, entA (zBN T n))]
        ·intro f12
         apply zT (H := [some ⟨35, .box poZ⟩, some ⟨37, .box (zC7 (0, 0))⟩]) [(4, .ptr 0 0 0), (5, .ptr 1 0 0), (26, poA (T.l.getD n zu)), (33, .rp (zCP T.E) n 0)]
         ·intro f21
          apply zT (H := [some ⟨35, .box poZ⟩, some ⟨37, .box (zC7 (0, 0))⟩]) [(4, .ptr 0 0 0), (5, .ptr 1 0 0), (27, poA (T.l.getD n zu)), (30, .rp (.box (tbF T.r T.l T.nx (.ro (zCP T.E) 0 T.E.length))) 0 13), (32, iN n)]
          ·intro f30
           apply zT (H := [some ⟨35, .box poZ⟩, some ⟨37, .box (zC7 (0, 0))⟩]) [(4, .ptr 0 0 0), (5, .ptr 1 0 0), (22, .rp (.box (tbF T.r T.l T.nx (.ro (zCP T.E) 0 T.E.length))) 0 11), (24, iN n), (34, entA (zBN T n))]
           ·intro f02
            apply zT (H := [some ⟨35, .box poZ⟩, some ⟨37, .box (zC7 (0, 0))⟩]) [(4, .ptr 0 0 0), (5, .ptr 1 0 0), (25, .rp (zCJ T.l) n 0), (33, .rp (zCP T.E) n 0)]
            ·intro f11
             apply zT (H := [some ⟨35, .box poZ⟩, some ⟨37, .box (zC7 (0, 0))⟩]) [(4, .ptr 0 0 0), (5, .ptr 1 0 0), (26, poA (T.l.getD n zu)), (30, .rp (.box (tbF T.r T.l T.nx (.ro (zCP T.E) 0 T.E.length))) 0 13), (32, iN n)]
             ·intro f20
              apply zT (H := [some ⟨35, .box poZ⟩, some ⟨37, .box (zC7 (0, 0))⟩]) [(4, .ptr 0 0 0), (5, .ptr 1 0 0), (22, .rp (.box (tbF T.r T.l T.nx (.ro (zCP T.E) 0 T.E.length))) 0 11), (24, iN n), (33, .rp (zCP T.E) n 0)]
              ·intro f01
               apply zT (H := [some ⟨35, .box poZ⟩, some ⟨37, .box (zC7 (0, 0))⟩]) [(4, .ptr 0 0 0), (5, .ptr 1 0 0), (25, .rp (zCJ T.l) n 0), (30, .rp (.box (tbF T.r T.l T.nx (.ro (zCP T.E) 0 T.E.length))) 0 13), (32, iN n)]
               ·intro f10
                refine zH (is := [3, 11]) (by kernel_rfl) (by simp) rfl ⟨fun o ho => ?_, fun o ho => ?_, trivial⟩
                all_goals (cases ho)
                ·repeat (first | refine zC ?_ | refine zY ?_ | refine zA (zF rfl rfl rfl rfl) ?_)
                 refine zW 5 rfl (by kernel_rfl) (by kernel_rfl) (by kernel_rfl) rfl (zi rfl rfl rfl rfl (by first | (simp only [Nat.zero_add, Int.toNat_natCast, Int.toNat_zero]; exact rfl) | exact rfl) (by omega)) rfl ?_
                 exact f10 _ ⟨rfl, rfl, rfl, rfl, rfl, trivial⟩
                ·repeat (first | refine zC ?_ | refine zY ?_ | refine zA (zF rfl rfl rfl rfl) ?_)
                 refine zW 13 rfl (by kernel_rfl) (by kernel_rfl) (by kernel_rfl) rfl (zi rfl rfl rfl rfl (by first | (simp only [Nat.zero_add, Int.toNat_natCast, Int.toNat_zero]; exact rfl) | exact rfl) (by omega)) rfl ?_
                 exact f01 _ ⟨rfl, rfl, rfl, rfl, rfl, trivial⟩
               ·refine zH (is := [6, 11]) (by kernel_rfl) (by simp) rfl ⟨fun o ho => ?_, fun o ho => ?_, trivial⟩
                all_goals (cases ho)
                ·refine rn6 ?_
                 exact f20 _ ⟨rfl, rfl, rfl, rfl, rfl, trivial⟩
                ·repeat (first | refine zC ?_ | refine zY ?_ | refine zA (zF rfl rfl rfl rfl) ?_)
                 refine zW 13 rfl (by kernel_rfl) (by kernel_rfl) (by kernel_rfl) rfl (zi rfl rfl rfl rfl (by first | (simp only [Nat.zero_add, Int.toNat_natCast, Int.toNat_zero]; exact rfl) | exact rfl) (by omega)) rfl ?_
                 exact f11 _ ⟨rfl, rfl, rfl, rfl, trivial⟩
              ·refine zH (is := [3, 14]) (by kernel_rfl) (by simp) rfl ⟨fun o ho => ?_, fun o ho => ?_, trivial⟩
               all_goals (cases ho)
               ·repeat (first | refine zC ?_ | refine zY ?_ | refine zA (zF rfl rfl rfl rfl) ?_)
                refine zW 5 rfl (by kernel_rfl) (by kernel_rfl) (by kernel_rfl) rfl (zi rfl rfl rfl rfl (by first | (simp only [Nat.zero_add, Int.toNat_natCast, Int.toNat_zero]; exact rfl) | exact rfl) (by omega)) rfl ?_
                exact f11 _ ⟨rfl, rfl, rfl, rfl, trivial⟩
               ·refine rn6 ?_
                exact f02 _ ⟨rfl, rfl, rfl, rfl, rfl, trivial⟩
             ·refine zH (is := [7, 11]) (by kernel_rfl) (by simp) rfl ⟨fun o ho => ?_, fun o ho => ?_, trivial⟩
              all_goals (cases ho)
              ·refine zN rfl rfl rfl (zJD (T.l.getD n zu) (zGc h hn)) ?_
               refine rn1 ?_
               exact f30 _ ⟨rfl, rfl, rfl, rfl, rfl, trivial⟩
              ·repeat (first | refine zC ?_ | refine zY ?_ | refine zA (zF rfl rfl rfl rfl) ?_)
               refine zW 13 rfl (by kernel_rfl) (by kernel_rfl) (by kernel_rfl) rfl (zi rfl rfl rfl rfl (by first | (simp only [Nat.zero_add, Int.toNat_natCast, Int.toNat_zero]; exact rfl) | exact rfl) (by omega)) rfl ?_
               exact f21 _ ⟨rfl, rfl, rfl, rfl, trivial⟩
            ·refine zH (is := [6, 14]) (by kernel_rfl) (by simp) rfl ⟨fun o ho => ?_, fun o ho => ?_, trivial⟩
             all_goals (cases ho)
             ·refine rn6 ?_
              exact f21 _ ⟨rfl, rfl, rfl, rfl, trivial⟩
             ·refine rn6 ?_
              exact f12 _ ⟨rfl, rfl, rfl, rfl, trivial⟩
           ·refine zH (is := [3]) (by kernel_rfl) (by simp) rfl ⟨fun o ho => ?_, trivial⟩
            all_goals (cases ho)
            repeat (first | refine zC ?_ | refine zY ?_ | refine zA (zF rfl rfl rfl rfl) ?_)
            refine zW 5 rfl (by kernel_rfl) (by kernel_rfl) (by kernel_rfl) rfl (zi rfl rfl rfl rfl (by first | (simp only [Nat.zero_add, Int.toNat_natCast, Int.toNat_zero]; exact rfl) | exact rfl) (by omega)) rfl ?_
            exact f12 _ ⟨rfl, rfl, rfl, rfl, trivial⟩
          ·refine zH (is := [11, 15]) (by kernel_rfl) (by simp) rfl ⟨fun o ho => ?_, fun o ho => ?_, trivial⟩
           all_goals (cases ho)
           ·repeat (first | refine zC ?_ | refine zY ?_ | refine zA (zF rfl rfl rfl rfl) ?_)
            refine zW 13 rfl (by kernel_rfl) (by kernel_rfl) (by kernel_rfl) rfl (zi rfl rfl rfl rfl (by first | (simp only [Nat.zero_add, Int.toNat_natCast, Int.toNat_zero]; exact rfl) | exact rfl) (by omega)) rfl ?_
            exact f31 _ ⟨rfl, rfl, rfl, rfl, trivial⟩
           ·refine zd (poC (T.l.getD n zu)) rfl rfl rfl rfl rfl rfl rfl ?_
            refine rn1 ?_
            exact f40 _ ⟨rfl, rfl, rfl, rfl, trivial⟩
         ·refine zH (is := [7, 14]) (by kernel_rfl) (by simp) rfl ⟨fun o ho => ?_, fun o ho => ?_, trivial⟩
          all_goals (cases ho)
          ·refine zN rfl rfl rfl (zJD (T.l.getD n zu) (zGc h hn)) ?_
           refine rn1 ?_
           exact f31 _ ⟨rfl, rfl, rfl, rfl, trivial⟩
          ·refine rn6 ?_
           exact f22 _ ⟨rfl, rfl, rfl, rfl, trivial⟩
        ·refine zH (is := [6]) (by kernel_rfl) (by simp) rfl ⟨fun o ho => ?_, trivial⟩
         all_goals (cases ho)
         refine rn6 ?_
         exact f22 _ ⟨rfl, rfl, rfl, rfl, trivial⟩
       ·refine zH (is := [11]) (by kernel_rfl) (by simp) rfl ⟨fun o ho => ?_, trivial⟩
        all_goals (cases ho)
        repeat (first | refine zC ?_ | refine zY ?_ | refine zA (zF rfl rfl rfl rfl) ?_)
        refine zW 13 rfl (by kernel_rfl) (by kernel_rfl) (by kernel_rfl) rfl (zi rfl rfl rfl rfl (by first | (simp only [Nat.zero_add, Int.toNat_natCast, Int.toNat_zero]; exact rfl) | exact rfl) (by omega)) rfl ?_
        exact f41 _ ⟨rfl, rfl, rfl, trivial⟩
      ·refine zH (is := [14, 15]) (by kernel_rfl) (by simp) rfl ⟨fun o ho => ?_, fun o ho => ?_, trivial⟩
       all_goals (cases ho)
       ·refine rn6 ?_
        exact f32 _ ⟨rfl, rfl, rfl, rfl, trivial⟩
       ·refine zd (poC (T.l.getD n zu)) rfl rfl rfl rfl rfl rfl rfl ?_
        refine rn1 ?_
        exact f41 _ ⟨rfl, rfl, rfl, trivial⟩
     ·refine zH (is := [7]) (by kernel_rfl) (by simp) rfl ⟨fun o ho => ?_, trivial⟩
      all_goals (cases ho)
      refine zN rfl rfl rfl (zJD (T.l.getD n zu) (zGc h hn)) ?_
      refine rn1 ?_
      exact f32 _ ⟨rfl, rfl, rfl, rfl, trivial⟩
    ·refine zH (is := [14]) (by kernel_rfl) (by simp) rfl ⟨fun o ho => ?_, trivial⟩
     all_goals (cases ho)
     refine rn6 ?_
     exact f42 _ ⟨rfl, rfl, rfl, trivial⟩
   ·refine zH (is := [15]) (by kernel_rfl) (by simp) rfl ⟨fun o ho => ?_, trivial⟩
    all_goals (cases ho)
    refine zd (poC (T.l.getD n zu)) rfl rfl rfl rfl rfl rfl rfl ?_
    refine rn1 ?_
    exact f42 _ ⟨rfl, rfl, rfl, trivial⟩
  refine zH (is := [16]) (by kernel_rfl) (by simp) rfl ⟨fun o ho => ?_, trivial⟩
  all_goals (cases ho)
  refine zd (zC7 (zBN T n)) rfl rfl rfl rfl rfl rfl rfl ?_
  refine rn1 ?_
  refine zH (is := [17]) (by kernel_rfl) (by simp) rfl ⟨fun o ho => ?_, trivial⟩
  all_goals (cases ho)
  refine rn1 ?_
  refine zX (by kernel_rfl) ?_
  refine rn0 ?_
  exact zJ hR rfl rfl
/-- (*retro.Table).find -/
theorem find_ok (T : Tab) (h : TabOK T) (hr : Lens T.r) (p : Pos) (hp : LenP p) : zj Tryz.prog 57 [zD4 T, poA p] (.tup [.int .i64 (if zCX T p ≠ 0 then 0 else ((zAu T.l p : Nat) : Int)), .int .i64 (zCX T p)]) := by
 refine zb.value0 (zM (P := Tryz.prog) (fn := Tryz.f57) rfl rfl (by kernel_rfl) rfl (fun c hR hfix => ?_)) (fix := fun _ => False) (fun _ h => h) rfl rfl
 refine zZ ?_
 repeat (first | refine zA (zP rfl) ?_ | refine zC ?_ | refine zB ?_ | refine zK rfl ?_ | refine zAQ rfl rfl ?_)
 refine zB1 3 [(0, zD4 T)] rfl ⟨rfl, rfl, trivial⟩ ⟨rfl, trivial⟩ rfl hfix ?_
 repeat (refine zZ ?_)
 refine zg (by kernel_rfl) ?_
 refine zq (fuel := 0) [0, 1, 2, 3, 4, 5, 6] [(3, .rp (.box (poC p)) 0 0), (0, zD4 T)] ⟨rfl, rfl, trivial⟩ (by kernel_rfl) (by decide) rfl rfl ?_
 refine zI rfl rfl (zG rfl) ?_
 refine zI rfl rfl (zAZ rfl) ?_
 refine zI rfl rfl (zL rfl rfl rfl rfl rfl rfl) ?_
 refine zI rfl rfl (zCv rfl rfl rfl rfl rfl rfl) ?_
 refine zI rfl rfl (zf rfl rfl rfl rfl rfl rfl) ?_
 refine zCS rfl rfl rfl rfl rfl (zCN T.r hr p hp) ?_
 refine zI rfl rfl (zP rfl) ?_
 refine z7 ?_
 refine zX (by kernel_rfl) ?_
 refine rn3 ?_
 refine zD rfl (fun q => ?_) (fun q => ?_)
 ·have e : zCX T p = zAs T.r p := by unfold zCX; rw [if_pos q]
  rw [e, if_pos q] at hR
  refine rn2 ?_
  exact zJ hR rfl rfl
 have q2 := Classical.not_not.1 q
 obtain ⟨hz, S⟩ := zCe q2
 refine rn1 ?_
 by_cases hi : zAu T.l p < T.l.length
 ·have e : zCX T p = 0 := by unfold zCX; rw [if_neg q, if_pos hi]
  rw [e, if_neg (by decide)] at hR
  refine zg (by kernel_rfl) ?_
  refine zq (fuel := 0) [0, 1, 2, 3, 4, 5, 6, 7, 8, 9, 10, 11] [(3, .rp (.box (poC p)) 0 0), (0, zD4 T)] ⟨rfl, rfl, trivial⟩ (by kernel_rfl) (by decide) rfl rfl ?_
  refine zI rfl rfl (zG rfl) ?_
  refine zI rfl rfl (zAZ rfl) ?_
  refine zI rfl rfl (zL rfl rfl rfl rfl rfl rfl) ?_
  refine zI rfl rfl (zF rfl rfl rfl rfl) ?_
  refine zI rfl rfl (zf rfl rfl rfl rfl rfl rfl) ?_
  refine zCS rfl rfl rfl rfl rfl (zGX h.v S) ?_
  refine zI rfl rfl (zFb rfl (.str rfl) rfl rfl rfl rfl (zDs T.l) (zAu T.l p) (zH5 hi) (zIF hi)) ?_
  refine zI rfl rfl (zG rfl) ?_
  refine zI rfl rfl (zA5 rfl rfl) ?_
  refine zI rfl rfl (zA5 rfl rfl) ?_
  refine zI rfl rfl (zP rfl) ?_
  refine zI rfl rfl (zP rfl) ?_
  refine z7 ?_
  refine zX (by kernel_rfl) ?_
  refine rn5 ?_
  exact zJ hR rfl rfl
 ·have e : zCX T p = 8 := by unfold zCX; rw [if_neg q, if_neg hi]
  rw [e, if_pos (by decide)] at hR
  refine zg (by kernel_rfl) ?_
  refine zq (fuel := 0) [0, 1, 2, 3, 4, 5, 6, 7, 8, 9, 10, 11] [(3, .rp (.box (poC p)) 0 0), (0, zD4 T)] ⟨rfl, rfl, trivial⟩ (by kernel_rfl) (by decide) rfl rfl ?_
  refine zI rfl rfl (zG rfl) ?_
  refine zI rfl rfl (zAZ rfl) ?_
  refine zI rfl rfl (zL rfl rfl rfl rfl rfl rfl) ?_
  refine zI rfl rfl (zF rfl rfl rfl rfl) ?_
  refine zI rfl rfl (zf rfl rfl rfl rfl rfl rfl) ?_
  refine zCS rfl rfl rfl rfl rfl (zGX h.v S) ?_
  refine zI rfl rfl (zE0 rfl (.str rfl) rfl rfl rfl rfl rfl rfl rfl rfl (zDs T.l) (zF4 h.v S h.G.snd hi)) ?_
  refine zI rfl rfl (zG rfl) ?_
  refine zI rfl rfl (zA5 rfl rfl) ?_
  refine zI rfl rfl (zA5 rfl rfl) ?_
  refine zI rfl rfl (zP rfl) ?_
  refine zI rfl rfl (zP rfl) ?_
  refine z7 ?_
  refine zX (by kernel_rfl) ?_
  refine rn5 ?_
  exact zJ hR rfl rfl
end Go.Proofs.YtiifcejepaeepaaGreatDoor
