import Derived.Test.YtkhdfimdkjjimaaGreatDoorY5
set_option linter.unusedVariables false
set_option linter.unusedSimpArgs false
set_option maxRecDepth 100000
set_option maxHeartbeats 4000000
namespace Go.Proofs.YtkhdfimdkjjimaaGreatDoor
open Go.Ax Go.Ax.Gm Go.RowKit Go.Ax.Idx Go.Ax.Cd
attribute [local irreducible] Ax zCT QOp zd
def dirA : List AV := [.int .i64 1, .int .i64 0, .int .i64 0, .int .i64 1, .int .i64 1, .int .i64 1, .int .i64 1, .int .i64 (-1)]
def zEs (i : Nat) : Int × Int := dirs.getD i (0, 0)
theorem dirA_at {i : Nat} (hi : i < 4) : (dirA.drop (i * 2)).take 2 = [.int .i64 (zEs i).1, .int .i64 (zEs i).2] := by
 match i, hi with
 | 0, _ => rfl
 | 1, _ => rfl
 | 2, _ => rfl
 | 3, _ => rfl
theorem zNw {i : Nat} (hi : i < 4) : -1 ≤ (zEs i).1 ∧ (zEs i).1 ≤ 1 ∧ -1 ≤ (zEs i).2 ∧ (zEs i).2 ≤ 1 := by
 match i, hi with
 | 0, _ => decide
 | 1, _ => decide
 | 2, _ => decide
 | 3, _ => decide
theorem zNx {i : Nat} (hi : i < 4) (f : Int × Int → Bool) : (dirs.take (i + 1)).any f = ((dirs.take i).any f || f (zEs i)) := zBr f dirs (0, 0) i hi
theorem row_succ (r : Go.Ax.Gm.Rules) (p : Pos) (player : Int) (n : Nat) (x y dx dy : Int) : zCK r p player (n + 1) x y dx dy = (zCK r p player n x y dx dy && zHE r p player (x + n * dx) (y + n * dy)) := by
 unfold zCK
 rw [List.range_succ, List.all_append]; simp
theorem row_no {r : Go.Ax.Gm.Rules} {p : Pos} {player : Int} {n N : Nat} {x y dx dy : Int} (h : n < N) (ho : zHE r p player (x + n * dx) (y + n * dy) = false) : zCK r p player N x y dx dy = false := by
 refine Bool.eq_false_iff.2 (fun q => ?_)
 unfold zCK at q
 have := List.all_eq_true.1 q n (List.mem_range.2 h)
 rw [ho] at this; cases this
theorem own_in {r : Go.Ax.Gm.Rules} {p : Pos} {player x y : Int} (h : zHE r p player x y = true) : 0 ≤ x ∧ x < r.w ∧ 0 ≤ y ∧ y < r.h := by
 unfold zHE at h
 rw [Bool.and_eq_true, Bool.not_eq_true'] at h
 have g := h.1
 unfold zFu at g
 simp only [Bool.or_eq_false_iff, decide_eq_false_iff_not] at g
 omega
/-- ends.line -/
theorem line_ok (r : Go.Ax.Gm.Rules) (hv : ValidR r) (p : Pos) (S : Sound r p) (player : Int) (N : Nat) (hN : N ≤ 64) : zl Tryz.prog 96 [ruA r, poA p, .int .i64 player, iN N] (.bool (zKK r p player N)) := by
 refine zd.value0 (zL (P := Tryz.prog) (fn := Tryz.f96) U U (by kernel_rfl) U (fun c hR hfix => ?_)) (fix := fun _ => False) (fun _ h => h) U U
 have hc := (zA5 hv S).c
 have hcl := S.cl
 have hw : 1 ≤ r.w ∧ r.w ≤ 8 := ⟨hv.w1, hv.w8⟩
 have hh : 1 ≤ r.h ∧ r.h ≤ 8 := ⟨hv.h1, hv.h8⟩
 refine zY ?_
 repeat (first | refine zA (zM rfl) ?_ | refine zC ?_ | refine zB ?_ | refine zJ rfl ?_ | refine zAO rfl rfl ?_)
 refine zGZ [(3, iN N), (4, .rp (.box (ruC r)) 0 0), (5, .rp (.box (poC p)) 0 0), (6, .rp (.box [.int .i64 player]) 0 0), (8, .bool false)] (zCA (zu rfl) (zCA (zu rfl) (zCA (zu rfl) zCi))) ⟨⟨_, rfl, .inl rfl⟩, ⟨.ptr 0 0 0, rfl, .inr (.inr ⟨rfl, fun o ho => by cases ho; exact Nat.zero_lt_one⟩)⟩, ⟨.ptr 1 0 0, rfl, .inr (.inr ⟨rfl, fun o ho => by cases ho; exact Nat.zero_lt_one⟩)⟩, ⟨.ptr 2 0 0, rfl, .inr (.inr ⟨rfl, fun o ho => by cases ho; exact Nat.zero_lt_one⟩)⟩, ⟨_, rfl, .inl rfl⟩, trivial⟩ ⟨rfl, rfl, rfl, rfl, rfl, trivial⟩ rfl hfix ?_
 refine zBz ?_
 refine zAA (ι := Nat) (fun k => [(3, iN N), (4, .rp (.box (ruC r)) 0 0), (5, .rp (.box (poC p)) 0 0), (6, .rp (.box [.int .i64 player]) 0 0), (9, .fn 113 [.rp (.box (ruC r)) 0 0, .rp (.box (poC p)) 0 0, .rp (.box [.int .i64 player]) 0 0]), (18, z8 p.cells), (19, iN p.cells.length), (20, iN k)]) (fun _ => [])
  (fun k => k ≤ p.cells.length ∧ (List.range k).any (fun s => dirs.any (fun d => zCK r p player N ((s : Int).tmod r.w) ((s : Int).tdiv r.w) d.1 d.2)) = false) (fun k => p.cells.length - k) 0 ⟨⟨rfl, rfl, rfl, rfl, rfl, rfl, rfl, rfl, trivial⟩, rfl, Nat.zero_le _, rfl⟩ ?_
 intro k ⟨hk, hno⟩
 refine rn4 ?_
 refine zF U (fun q => ?_) (fun q => ?_)
 ·have hk' : k < p.cells.length := by omega
  have hsx : 0 ≤ (k : Int) / r.w ∧ (k : Int) / r.w < r.h ∧ 0 ≤ (k : Int) % r.w ∧ (k : Int) % r.w < r.w := by
   refine ⟨Int.ediv_nonneg (by omega) (by omega), Int.ediv_lt_of_lt_mul (by omega) ?_, Int.emod_nonneg _ (by omega), Int.emod_lt_of_pos _ (by omega)⟩
   rw [Int.mul_comm, ← hcl]; omega
  have hstep : (List.range (k + 1)).any (fun s => dirs.any (fun d => zCK r p player N ((s : Int).tmod r.w) ((s : Int).tdiv r.w) d.1 d.2)) = dirs.any (fun d => zCK r p player N ((k : Int) % r.w) ((k : Int) / r.w) d.1 d.2) := by
   rw [List.range_succ, List.any_append, hno, Bool.false_or, ← Int.tdiv_eq_ediv_of_nonneg (show 0 ≤ (k : Int) by omega), ← Int.tmod_eq_emod_of_nonneg (show 0 ≤ (k : Int) by omega)]; simp
  have win : dirs.any (fun d => zCK r p player N ((k : Int) % r.w) ((k : Int) / r.w) d.1 d.2) = true → zKK r p player N = true := fun h => by
   unfold zKK
   rw [List.any_eq_true]
   refine ⟨k, List.mem_range.2 hk', ?_⟩
   rw [Int.tdiv_eq_ediv_of_nonneg (show 0 ≤ (k : Int) by omega), Int.tmod_eq_emod_of_nonneg (show 0 ≤ (k : Int) by omega)]; exact h
  generalize hX : (k : Int) % r.w = X at hsx hstep win
  generalize hY : (k : Int) / r.w = Y at hsx hstep win
  refine rn9 ?_
  refine zBu 27 (.agg dirA) U (AEq.of_eq U) ?_
  refine zAA (ι := Nat) (fun i => [(3, iN N), (4, .rp (.box (ruC r)) 0 0), (5, .rp (.box (poC p)) 0 0), (6, .rp (.box [.int .i64 player]) 0 0), (9, .fn 113 [.rp (.box (ruC r)) 0 0, .rp (.box (poC p)) 0 0, .rp (.box [.int .i64 player]) 0 0]), (18, z8 p.cells), (19, iN p.cells.length), (20, iN k), (10, iN k), (27, .agg dirA), (28, iN i)]) (fun _ => [])
   (fun i => i ≤ 4 ∧ (dirs.take i).any (fun d => zCK r p player N X Y d.1 d.2) = false) (fun i => 4 - i) 0 ⟨⟨rfl, rfl, rfl, rfl, rfl, rfl, rfl, rfl, rfl, rfl, rfl, trivial⟩, rfl, Nat.zero_le _, rfl⟩ ?_
  intro i ⟨hi, hno2⟩
  refine rn4 ?_
  refine zF U (fun q2 => ?_) (fun q2 => ?_)
  ·have hi' : i < 4 := by omega
   have hdt := zNx hi' (fun d => zCK r p player N X Y d.1 d.2)
   rw [hno2, Bool.false_or] at hdt
   have hda := dirA_at hi'
   have hds := zNw hi'
   have hwin2 : zCK r p player N X Y (zEs i).1 (zEs i).2 = true → zKK r p player N = true := fun h => win (List.any_eq_true.2 ⟨zEs i, by unfold zEs; exact zAR (0, 0) hi', h⟩)
   generalize (zEs i).1 = dx at hdt hda hds hwin2
   generalize (zEs i).2 = dy at hdt hda hds hwin2
   refine rn1 ?_
   refine zA (zOT U U U U U U hda ⟨(by omega), (by show (i : Int) < ((4 : Nat) : Int); omega), (by show i * 2 + 2 ≤ 8; omega)⟩) ?_
   repeat (refine zAI rfl rfl rfl ?_)
   refine zZ [.int .i64 dx, .int .i64 dy] U U U U U U U ?_
   refine zBG ?_
   refine zBi 12 [(3, iN N), (4, .rp (.box (ruC r)) 0 0), (5, .rp (.box (poC p)) 0 0), (6, .rp (.box [.int .i64 player]) 0 0), (9, .fn 113 [.rp (.box (ruC r)) 0 0, .rp (.box (poC p)) 0 0, .rp (.box [.int .i64 player]) 0 0]), (18, z8 p.cells), (19, iN p.cells.length), (20, iN k), (10, iN k), (27, .agg dirA), (28, iN i)] U ⟨U, U, U, U, U, U, U, U, U, U, U, U, trivial⟩ ⟨U, U, U, U, U, U, U, U, U, U, U, trivial⟩ U hfix ?_
   refine ze (by kernel_rfl) ?_
   refine zh (fuel := 0) [0, 1, 2, 3, 4, 5, 6, 7, 8, 9, 10] [(3, iN N), (4, .rp (.box (ruC r)) 0 0), (5, .rp (.box (poC p)) 0 0), (6, .rp (.box [.int .i64 player]) 0 0), (9, .fn 113 [.rp (.box (ruC r)) 0 0, .rp (.box (poC p)) 0 0, .rp (.box [.int .i64 player]) 0 0]), (18, z8 p.cells), (19, iN p.cells.length), (20, iN k), (10, iN k), (27, .agg dirA), (28, iN i), (12, .rp (.box [.int .i64 dx, .int .i64 dy]) 0 0)] ⟨U, U, U, U, U, U, U, U, U, U, U, U, trivial⟩ (by kernel_rfl) (by decide) U U ?_
   refine zI U U (zG U) ?_
   refine zI U U (zK U U U U U U) ?_
   refine zI U U (zD U U U U) ?_
   refine zI U U (zJF U U (by omega)) ?_
   refine zI U U (zG U) ?_
   refine zI U U (zK U U U U U U) ?_
   refine zI U U (zD U U U U) ?_
   refine zI U U (zIB U U (by omega)) ?_
   refine zI U U (zM U) ?_
   refine zI U U (zM U) ?_
   refine zI U U (zM U) ?_
   refine zw ?_
   refine zW (by kernel_rfl) ?_
   refine rn1 ?_
   refine zAA (ι := Nat) (fun n => [(3, iN N), (4, .rp (.box (ruC r)) 0 0), (5, .rp (.box (poC p)) 0 0), (6, .rp (.box [.int .i64 player]) 0 0), (9, .fn 113 [.rp (.box (ruC r)) 0 0, .rp (.box (poC p)) 0 0, .rp (.box [.int .i64 player]) 0 0]), (18, z8 p.cells), (19, iN p.cells.length), (20, iN k), (10, iN k), (27, .agg dirA), (28, iN i), (12, .rp (.box [.int .i64 dx, .int .i64 dy]) 0 0), (13, .int .i64 (X + (n : Int) * dx)), (14, .int .i64 (Y + (n : Int) * dy)), (15, iN n)]) (fun _ => [])
    (fun n => n ≤ N ∧ zCK r p player n X Y dx dy = true) (fun n => N - n) 0 ⟨⟨rfl, rfl, rfl, rfl, rfl, rfl, rfl, rfl, rfl, rfl, rfl, rfl, ?_, ?_, rfl, trivial⟩, rfl, Nat.zero_le _, rfl⟩ ?_
   ·rw [show X + ((0 : Nat) : Int) * dx = X by rw [Int.natCast_zero, Int.zero_mul, Int.add_zero], ← hX]; rfl
   ·rw [show Y + ((0 : Nat) : Int) * dy = Y by rw [Int.natCast_zero, Int.zero_mul, Int.add_zero], ← hY]; rfl
   intro n ⟨hn, hrow⟩
   have hrs := row_succ r p player n X Y dx dy
   rw [hrow, Bool.true_and] at hrs
   have hrn := fun (h : n < N) => row_no (r := r) (p := p) (player := player) (x := X) (y := Y) (dx := dx) (dy := dy) h
   have e1 : X + ((n + 1 : Nat) : Int) * dx = X + (n : Int) * dx + dx := by rw [Int.natCast_add, Int.add_mul, Int.natCast_one, Int.one_mul, Int.add_assoc]
   have e2 : Y + ((n + 1 : Nat) : Int) * dy = Y + (n : Int) * dy + dy := by rw [Int.natCast_add, Int.add_mul, Int.natCast_one, Int.one_mul, Int.add_assoc]
   generalize X + (n : Int) * dx = x at hrs hrn e1 ⊢
   generalize Y + (n : Int) * dy = y at hrs hrn e2 ⊢
   refine rn4 ?_
   refine zj U U (fun a1 => ?_) (fun a1 => ?_)
   ·have a1 : n < N := by
     have a1 : (n : Int) < (N : Int) := a1
     omega
    refine rn2 ?_
    refine zQ U U U (own_ok r hv p S player x y) ?_
    refine rn2 ?_
    refine zAQ U (fun a2 => ?_) (fun a2 => ?_)
    ·have hin := own_in a2
     rw [a2] at hrs
     refine rn1 ?_
     refine ze (by kernel_rfl) ?_
     refine zS 0 U (by kernel_rfl) (by kernel_rfl) (by kernel_rfl) U (zG U) U ?_
     refine zS 1 U (by kernel_rfl) (by kernel_rfl) (by kernel_rfl) U (zB1 U U U U (by first | (simp only [Nat.zero_add, Int.toNat_natCast]; exact U) | exact U) (by omega)) U ?_
     refine zS 4 U (by kernel_rfl) (by kernel_rfl) (by kernel_rfl) U (zG U) U ?_
     refine zS 5 U (by kernel_rfl) (by kernel_rfl) (by kernel_rfl) U (zB1 U U U U (by first | (simp only [Nat.zero_add, Int.toNat_natCast]; exact U) | exact U) (by omega)) U ?_
     refine zS 8 U (by kernel_rfl) (by kernel_rfl) (by kernel_rfl) U (zG U) U ?_
     refine zS 9 U (by kernel_rfl) (by kernel_rfl) (by kernel_rfl) U (zA4 U U (by omega)) U ?_
     apply zT (H := []) [(3, iN N), (4, .rp (.box (ruC r)) 0 0), (5, .rp (.box (poC p)) 0 0), (6, .rp (.box [.int .i64 player]) 0 0), (9, .fn 113 [.rp (.box (ruC r)) 0 0, .rp (.box (poC p)) 0 0, .rp (.box [.int .i64 player]) 0 0]), (18, z8 p.cells), (19, iN p.cells.length), (20, iN k), (10, iN k), (27, .agg dirA), (28, iN i), (12, .rp (.box [.int .i64 dx, .int .i64 dy]) 0 0), (13, .int .i64 (x + dx)), (14, .int .i64 (y + dy)), (15, .int .i64 ((n : Int) + 1))]
     ·intro fin
      refine zH (is := [2, 6]) (by kernel_rfl) (by simp) U ⟨fun o ho => ?_, fun o ho => ?_, trivial⟩
      all_goals (cases ho)
      ·repeat (first | refine zC ?_ | refine zX ?_ | refine zA (zD rfl rfl rfl rfl) ?_)
       refine zS 3 U (by kernel_rfl) (by kernel_rfl) (by kernel_rfl) U (zA4 U U (by omega)) U ?_
       refine zS 10 U (by kernel_rfl) (by kernel_rfl) (by kernel_rfl) U (zM U) U ?_
       refine zH (is := [6]) (by kernel_rfl) (by simp) U ⟨fun o ho => ?_, trivial⟩
       all_goals (cases ho)
       repeat (first | refine zC ?_ | refine zX ?_ | refine zA (zD rfl rfl rfl rfl) ?_)
       refine zS 7 U (by kernel_rfl) (by kernel_rfl) (by kernel_rfl) U (zA4 U U (by omega)) U ?_
       refine zS 11 U (by kernel_rfl) (by kernel_rfl) (by kernel_rfl) U (zM U) U ?_
       refine zS 12 U (by kernel_rfl) (by kernel_rfl) (by kernel_rfl) U (zM U) U ?_
       exact fin _ ⟨U, U, U, U, U, U, U, U, U, U, U, U, U, U, U, trivial⟩
      ·repeat (first | refine zC ?_ | refine zX ?_ | refine zA (zD rfl rfl rfl rfl) ?_)
       refine zS 7 U (by kernel_rfl) (by kernel_rfl) (by kernel_rfl) U (zA4 U U (by omega)) U ?_
       refine zH (is := [2]) (by kernel_rfl) (by simp) U ⟨fun o ho => ?_, trivial⟩
       all_goals (cases ho)
       repeat (first | refine zC ?_ | refine zX ?_ | refine zA (zD rfl rfl rfl rfl) ?_)
       refine zS 3 U (by kernel_rfl) (by kernel_rfl) (by kernel_rfl) U (zA4 U U (by omega)) U ?_
       refine zS 10 U (by kernel_rfl) (by kernel_rfl) (by kernel_rfl) U (zM U) U ?_
       refine zS 11 U (by kernel_rfl) (by kernel_rfl) (by kernel_rfl) U (zM U) U ?_
       refine zS 12 U (by kernel_rfl) (by kernel_rfl) (by kernel_rfl) U (zM U) U ?_
       exact fin _ ⟨U, U, U, U, U, U, U, U, U, U, U, U, U, U, U, trivial⟩
     refine zW (by kernel_rfl) ?_
     repeat (refine zAY ?_)
     refine zR ⟨n + 1, ⟨by omega, hrs⟩, by omega, ⟨U, U, U, U, U, U, U, U, U, U, U, U, ?_, ?_, U, trivial⟩, U⟩
     ·rw [e1]; rfl
     ·rw [e2]; rfl
    ·have hno3 := hrn a1 a2
     refine rn5 ?_
     refine zF U (fun a3 => ?_) (fun a3 => ?_)
     ·exact absurd (show (n : Int) = (N : Int) from a3) (by omega)
     refine rn5 ?_
     exact zR ⟨i + 1, ⟨by omega, by rw [hdt]; exact hno3⟩, by omega, ⟨U, U, U, U, U, U, U, U, U, U, U, trivial⟩, U⟩
   ·have a1 : n = N := by
     have a1 : ¬ (n : Int) < (N : Int) := a1
     omega
    refine rn6 ?_
    refine zF U (fun a3 => ?_) (fun a3 => absurd (show (n : Int) = (N : Int) by omega) a3)
    refine rn6 ?_
    refine zN hR U ?_
    rw [hwin2 (by rw [← a1]; exact hrow)]; rfl
  ·have hi' : i = 4 := by omega
   subst hi'
   refine rn5 ?_
   exact zR ⟨k + 1, ⟨by omega, by rw [hstep]; exact hno2⟩, by omega, ⟨U, U, U, U, U, U, U, U, trivial⟩, U⟩
 ·have hk' : k = p.cells.length := by omega
  subst hk'
  refine rn5 ?_
  refine zN hR U ?_
  unfold zKK; rw [hno]; rfl
/-- ends.holds -/
theorem holds_ok (r : Go.Ax.Gm.Rules) (hv : ValidR r) (p : Pos) (S : Sound r p) (x : En) (hx : zD8 r.pcs.length x = 0) (mover : Int) (hm : 0 ≤ mover ∧ mover ≤ 1) : zl Tryz.prog 72 [ruA r, poA p, .agg (enC x), .int .i64 mover] (.bool (zDO r p mover x)) := by
 refine zd.value0 (zL (P := Tryz.prog) (fn := Tryz.f72) U U (by kernel_rfl) U (fun c hR hfix => ?_)) (fix := fun _ => False) (fun _ h => h) U U
 have hc := (zA5 hv S).c
 have hw : 1 ≤ r.w ∧ r.w ≤ 8 := ⟨hv.w1, hv.w8⟩
 have hh : 1 ≤ r.h ∧ r.h ≤ 8 := ⟨hv.h1, hv.h8⟩
 have hn6 := hv.n6
 have hxk : (x.kind = 0 → 1 ≤ x.count ∧ x.count ≤ 64) ∧ (x.kind ≠ 0 → 0 ≤ x.piece ∧ x.piece ≤ 5) ∧ -1 ≤ x.count ∧ x.count ≤ 64 := by
  unfold zD8 at hx
  split at hx
  ·rename_i k0
   split at hx
   ·rename_i h; have := Go.Ax.Gm.within_iff.1 h.1; exact ⟨fun _ => by omega, fun q => absurd k0 q, by omega, by omega⟩
   ·cases hx
  ·rename_i k0
   split at hx
   ·split at hx
    ·rename_i h; have := Go.Ax.Gm.within_iff.1 h.2; exact ⟨fun q => absurd q k0, fun _ => by omega, by omega, by omega⟩
    ·cases hx
   ·split at hx
    ·split at hx
     ·rename_i h; have := Go.Ax.Gm.within_iff.1 h.1; have := Go.Ax.Gm.within_iff.1 h.2; exact ⟨fun q => absurd q k0, fun _ => by omega, by omega, by omega⟩
     ·cases hx
    ·cases hx
 obtain ⟨hx0, hx1, hx2⟩ := hxk
 refine zY ?_
 repeat (first | refine zA (zM rfl) ?_ | refine zC ?_ | refine zB ?_ | refine zJ rfl ?_ | refine zAO rfl rfl ?_)
 refine zGZ [(3, .int .i64 mover), (4, .rp (.box (ruC r)) 0 0), (5, .rp (.box (poC p)) 0 0), (6, .rp (.box (enC x)) 0 0)] (zCA (zu rfl) (zCA (zu rfl) (zCA (zu rfl) zCi))) ⟨⟨_, rfl, .inl rfl⟩, ⟨.ptr 0 0 0, rfl, .inr (.inr ⟨rfl, fun o ho => by cases ho; exact Nat.zero_lt_one⟩)⟩, ⟨.ptr 1 0 0, rfl, .inr (.inr ⟨rfl, fun o ho => by cases ho; exact Nat.zero_lt_one⟩)⟩, ⟨.ptr 2 0 0, rfl, .inr (.inr ⟨rfl, fun o ho => by cases ho; exact Nat.zero_lt_one⟩)⟩, trivial⟩ ⟨rfl, rfl, rfl, rfl, trivial⟩ rfl hfix ?_
 refine zBz ?_
 refine zF U (fun k0 => ?_) (fun k0 => ?_)
 ·have k0 : x.kind = 0 := k0
  have hN := hx0 k0
  obtain ⟨N, hNc⟩ : ∃ N : Nat, x.count = (N : Int) := ⟨x.count.toNat, by omega⟩
  repeat (first | refine zA (zG rfl) ?_ | refine zY ?_ | refine zJ rfl ?_ | refine zA (zD rfl rfl rfl rfl) ?_ | refine zA (zK rfl rfl rfl rfl rfl rfl) ?_ | refine zA (zm rfl rfl rfl rfl rfl rfl) ?_)
  rw [hNc]
  refine zQ U U U (line_ok r hv p S mover N (by omega)) ?_
  refine rn6 ?_
  refine zN hR U ?_
  unfold zDO; rw [if_pos k0, hNc]; rfl
 have k0 : x.kind ≠ 0 := k0
 have hp := hx1 k0
 refine rn4 ?_
 refine zF U (fun k1 => ?_) (fun k1 => ?_)
 ·have k1 : x.kind = 1 := k1
  have hval : zDO r p mover x = zK8 r p mover (2 * x.piece + mover + 1) := by unfold zDO; rw [if_neg k0, if_pos k1]
  refine zBz ?_
  refine zAA (ι := Nat) (fun k => [(3, .int .i64 mover), (4, .rp (.box (ruC r)) 0 0), (5, .rp (.box (poC p)) 0 0), (6, .rp (.box (enC x)) 0 0), (27, z8 p.cells), (28, iN p.cells.length), (29, iN k)]) (fun _ => [])
   (fun k => k ≤ p.cells.length ∧ (List.range k).any (fun s => decide (zAM p s = 2 * x.piece + mover + 1) && zFq r mover s) = false) (fun k => p.cells.length - k) 0 ⟨⟨rfl, rfl, rfl, rfl, rfl, rfl, rfl, trivial⟩, rfl, Nat.zero_le _, rfl⟩ ?_
  intro k ⟨hk, hno⟩
  refine rn4 ?_
  refine zF U (fun q => ?_) (fun q => ?_)
  ·have hk' : k < p.cells.length := by omega
   have hst : (List.range (k + 1)).any (fun s => decide (zAM p s = 2 * x.piece + mover + 1) && zFq r mover s) = (decide (zAM p k = 2 * x.piece + mover + 1) && zFq r mover k) := by rw [List.range_succ, List.any_append, hno]; simp
   repeat (first | refine zA (zG rfl) ?_ | refine zA (zM rfl) ?_ | refine zA (zBs rfl rfl rfl) ?_ | refine zC ?_ | refine zB ?_ | refine zY ?_ | refine zJ rfl ?_ | refine zAX ?_ | refine zAP ?_ | refine zA (zn rfl rfl rfl rfl (by first | (simp only [Nat.zero_add, Int.toNat_natCast, Int.toNat_zero]; exact rfl) | exact rfl) (by omega)) ?_ | refine zA (zD rfl rfl rfl rfl) ?_ | refine zA (zK rfl rfl rfl rfl rfl rfl) ?_)
   refine zA (zDF U U (by omega)) ?_
   refine rn4 ?_
   refine zj U U (fun a1 => ?_) (fun a1 => ?_)
   ·have a1 : zAM p k = 2 * x.piece + mover + 1 := a1
    rw [decide_eq_true a1, Bool.true_and] at hst
    refine rn6 ?_
    refine zQ U U U (zKG r hw hh mover k (by omega)) ?_
    refine rn2 ?_
    refine zAQ U (fun a2 => ?_) (fun a2 => ?_)
    ·refine rn6 ?_
     refine zN hR U ?_
     rw [hval]
     unfold zK8
     rw [show (List.range p.cells.length).any (fun s => decide (zAM p s = 2 * x.piece + mover + 1) && zFq r mover s) = true from List.any_eq_true.2 ⟨k, List.mem_range.2 hk', by rw [decide_eq_true a1, a2]; rfl⟩]; rfl
    ·refine rn5 ?_
     exact zR ⟨k + 1, ⟨by omega, by rw [hst]; exact a2⟩, by omega, ⟨U, U, U, U, U, U, U, trivial⟩, U⟩
   ·have a1 : ¬ zAM p k = 2 * x.piece + mover + 1 := a1
    rw [decide_eq_false a1, Bool.false_and] at hst
    refine rn6 ?_
    exact zR ⟨k + 1, ⟨by omega, hst⟩, by omega, ⟨U, U, U, U, U, U, U, trivial⟩, U⟩
  ·have hk' : k = p.cells.length := by omega
   subst hk'
   refine rn6 ?_
   refine zN hR U ?_
   rw [hval]; unfold zK8; rw [hno]; rfl
 ·have k1 : ¬ x.kind = 1 := k1
  have hval : zDO r p mover x = decide (((p.cells.filter (fun c => decide (c = 2 * x.piece + 1 - mover + 1))).length : Int) < x.count) := by unfold zDO; rw [if_neg k0, if_neg k1]
  refine zBz ?_
  refine zAA (ι := Nat) (fun k => [(3, .int .i64 mover), (4, .rp (.box (ruC r)) 0 0), (5, .rp (.box (poC p)) 0 0), (6, .rp (.box (enC x)) 0 0), (11, .int .i64 (((p.cells.take k).filter (fun c => decide (c = 2 * x.piece + 1 - mover + 1))).length : Nat)), (50, z8 p.cells), (51, iN p.cells.length), (52, iN k)]) (fun _ => [])
   (fun k => k ≤ p.cells.length) (fun k => p.cells.length - k) 0 ⟨⟨rfl, rfl, rfl, rfl, rfl, rfl, rfl, rfl, trivial⟩, rfl, Nat.zero_le _⟩ ?_
  intro k hk
  refine rn4 ?_
  refine zF U (fun q => ?_) (fun q => ?_)
  ·have hk' : k < p.cells.length := by omega
   have hfl : ((p.cells.take k).filter (fun c => decide (c = 2 * x.piece + 1 - mover + 1))).length ≤ k := Nat.le_trans (List.length_filter_le ..) (by rw [List.length_take]; exact Nat.min_le_left _ _)
   have htk := zAE p.cells 0 k hk'
   repeat (first | refine zA (zG rfl) ?_ | refine zA (zM rfl) ?_ | refine zA (zBs rfl rfl rfl) ?_ | refine zC ?_ | refine zB ?_ | refine zY ?_ | refine zJ rfl ?_ | refine zAX ?_ | refine zAP ?_ | refine zA (zn rfl rfl rfl rfl (by first | (simp only [Nat.zero_add, Int.toNat_natCast, Int.toNat_zero]; exact rfl) | exact rfl) (by omega)) ?_ | refine zA (zD rfl rfl rfl rfl) ?_ | refine zA (zK rfl rfl rfl rfl rfl rfl) ?_)
   refine zA (zDF U U (by omega)) ?_
   repeat (first | refine zA (zG rfl) ?_ | refine zC ?_ | refine zB ?_ | refine zA (zBp rfl rfl) ?_ | refine zA (zA4 rfl rfl (by omega)) ?_ | refine zA (zA1 rfl rfl (by omega)) ?_)
   refine zF U (fun a1 => ?_) (fun a1 => ?_)
   ·have a1 : p.cells.getD k 0 = 2 * x.piece + 1 - mover + 1 := a1
    have e : ((p.cells.take (k + 1)).filter (fun c => decide (c = 2 * x.piece + 1 - mover + 1))).length = ((p.cells.take k).filter (fun c => decide (c = 2 * x.piece + 1 - mover + 1))).length + 1 := by rw [htk, List.filter_append, List.length_append, List.filter_cons_of_pos (by exact decide_eq_true a1)]; rfl
    refine rn5 ?_
    exact zR ⟨k + 1, by omega, by omega, ⟨U, U, U, U, by rw [e]; rfl, U, U, U, trivial⟩, U⟩
   ·have a1 : ¬ p.cells.getD k 0 = 2 * x.piece + 1 - mover + 1 := a1
    have e : ((p.cells.take (k + 1)).filter (fun c => decide (c = 2 * x.piece + 1 - mover + 1))).length = ((p.cells.take k).filter (fun c => decide (c = 2 * x.piece + 1 - mover + 1))).length := by rw [htk, List.filter_append, List.length_append, List.filter_cons_of_neg (by rw [decide_eq_false a1]; exact Bool.false_ne_true)]; rfl
    refine rn5 ?_
    exact zR ⟨k + 1, by omega, by omega, ⟨U, U, U, U, by rw [e]; rfl, U, U, U, trivial⟩, U⟩
  ·have hk' : k = p.cells.length := by omega
   subst hk'
   rw [List.take_length]
   repeat (first | refine zA (zG rfl) ?_ | refine zA (zM rfl) ?_ | refine zC ?_ | refine zB ?_ | refine zY ?_ | refine zJ rfl ?_ | refine zCU ?_ | refine zAr ?_ | refine zAq ?_ | refine zAw ?_ | refine z6 ?_ | refine zA (zCR rfl rfl) ?_ | refine zA (zD rfl rfl rfl rfl) ?_ | refine zA (zK rfl rfl rfl rfl rfl rfl) ?_)
   refine zN hR U ?_
   rw [hval]; rfl
/-- ends.Result$1 -/
theorem zM5 (r : Go.Ax.Gm.Rules) (hv : ValidR r) (p : Pos) (S : Sound r p) (x : En) (hx : zD8 r.pcs.length x = 0) (mover : Int) (hm : 0 ≤ mover ∧ mover ≤ 1) : zl Tryz.prog 71 [.agg (enC x), .rp (.box (ruC r)) 0 0, .rp (.box (poC p)) 0 0, .rp (.box [.int .i64 mover]) 0 0] (.bool (zDO r p mover x)) := by
 refine zd.value0 (zL (P := Tryz.prog) (fn := Tryz.f71) U U (by kernel_rfl) U (fun c hR hfix => ?_)) (fix := fun _ => False) (fun _ h => h) U U
 repeat (first | refine zA (zM rfl) ?_ | refine zC ?_ | refine zB ?_ | refine zY ?_ | refine zJ rfl ?_ | refine zA (zD rfl rfl rfl rfl) ?_ | refine zA (zm rfl rfl rfl rfl rfl rfl) ?_ | refine zA (qpp rfl rfl rfl rfl rfl rfl rfl) ?_ | refine zAO rfl rfl ?_)
 refine zQ U U U (holds_ok r hv p S x hx mover hm) ?_
 refine rn0 ?_
 exact zN hR U U
theorem zIw {α : Type} (p : α → Bool) : ∀ l : List α, zDP p l = if l.findIdx p < l.length then ((l.findIdx p : Nat) : Int) else -1
 | [] => rfl
 | x :: r => by
  have ih := zIw p r
  rw [zDP, List.findIdx_cons]
  by_cases h : p x = true
  ·rw [if_pos h, h]; simp
  ·rw [if_neg h, Bool.eq_false_iff.2 h, ih, cond_false, List.length_cons]
   have hle := List.findIdx_le_length (p := p) (xs := r)
   by_cases h2 : r.findIdx p < r.length
   ·rw [if_pos h2, if_neg (by omega), if_pos (by omega)]; omega
   ·rw [if_neg h2, if_pos (by omega), if_neg (by omega)]
theorem zDZ {r : Go.Ax.Gm.Rules} {p : Pos} (h : zBC r p = 0) : zAl r = 0 ∧ Sound r p := by
 unfold zBC at h
 split at h
 ·rename_i q; exact absurd h q
 ·rename_i q; exact ⟨Classical.not_not.1 q, zF2.1 h⟩
/-- ends.Result -/
theorem zCX (r : Go.Ax.Gm.Rules) (hv : ValidR r) (p : Pos) (S : Sound r p) : zl Tryz.prog 40 [ruA r, poA p] (.int .i64 (zb r p)) := by
 refine zd.value0 (zL (P := Tryz.prog) (fn := Tryz.f40) U U (by kernel_rfl) U (fun c hR hfix => ?_)) (fix := fun _ => False) (fun _ h => h) U U
 have htn : 0 ≤ p.turn ∧ p.turn ≤ 1 := by have := S.tn; omega
 have hen := hv.e6
 refine zY ?_
 repeat (first | refine zA (zM rfl) ?_ | refine zC ?_ | refine zB ?_ | refine zJ rfl ?_ | refine zAO rfl rfl ?_)
 refine zY ?_
 repeat (first | refine zC ?_ | refine zB ?_ | refine zJ rfl ?_ | refine zA (zU rfl rfl rfl rfl rfl) ?_ | refine zA (zA1 rfl rfl (by omega)) ?_ | refine zA (zO rfl rfl rfl rfl rfl rfl) ?_ | refine zAJ rfl rfl rfl rfl rfl rfl rfl Nat.zero_lt_one ?_ | refine zAI rfl rfl rfl ?_)
 refine zGZ [(2, .rp (.box (ruC r)) 0 0), (3, .rp (.box (poC p)) 0 0), (5, .rp (.box [.int .i64 (1 - p.turn)]) 0 0)] (zCA (zu rfl) (zCA (zu rfl) (zCA (zu rfl) zCi))) ⟨⟨.ptr 0 0 0, rfl, .inr (.inr ⟨rfl, fun o ho => by cases ho; exact Nat.zero_lt_one⟩)⟩, ⟨.ptr 1 0 0, rfl, .inr (.inr ⟨rfl, fun o ho => by cases ho; exact Nat.zero_lt_one⟩)⟩, ⟨.ptr 2 0 0, rfl, .inr (.inr ⟨rfl, fun o ho => by cases ho; exact Nat.zero_lt_one⟩)⟩, trivial⟩ ⟨rfl, rfl, rfl, trivial⟩ rfl hfix ?_
 refine zBz ?_
 have cidx := zLu r.ends r.ends.length 71 [.rp (.box (ruC r)) 0 0, .rp (.box (poC p)) 0 0, .rp (.box [.int .i64 (1 - p.turn)]) 0 0] (zDO r p (1 - p.turn)) (Nat.le_refl _) rfl (by omega) (fun x hx => zM5 r hv p S x (hv.en x hx) (1 - p.turn) (by omega))
 rw [List.take_length, zIw] at cidx
 obtain ⟨I, hI⟩ : ∃ I, r.ends.findIdx (zDO r p (1 - p.turn)) = I := ⟨_, rfl⟩
 rw [hI] at cidx
 refine zQ U U U cidx ?_
 by_cases hlt : I < r.ends.length
 ·rw [if_pos hlt]
  have hval : zb r p = if (r.ends.getD I en0).loses = true then 1 + p.turn else 1 + (1 - p.turn) := by unfold zb; rw [hI, if_pos hlt]
  refine zBz ?_
  refine zBu 21 (.bool (r.ends.getD I en0).loses) U (AEq.of_eq U) ?_
  refine zAQ U (fun b => ?_) (fun b => ?_)
  ·have b : (r.ends.getD I en0).loses = true := b
   refine zBz ?_
   refine zQ U U U (zIY p.turn htn) ?_
   refine rn2 ?_
   refine zN hR U ?_
   rw [hval, if_pos b]; rfl
  ·have b : (r.ends.getD I en0).loses = false := b
   refine rn8 ?_
   refine zQ U U U (zIY (1 - p.turn) (by omega)) ?_
   refine rn2 ?_
   refine zN hR U ?_
   rw [hval, if_neg (by rw [b]; exact Bool.false_ne_true)]; rfl
 rw [if_neg hlt]
 have hval : zb r p = if r.quiet ≠ 0 ∧ r.quiet ≤ p.quiet then 3 else if 0 < (zr r p).length then 0 else if r.blocked = 0 then 1 + (1 - p.turn) else if r.blocked = 1 then 1 + p.turn else 3 := by unfold zb; rw [hI, if_neg hlt]
 refine zBz ?_
 apply zAL (H := []) [(2, .rp (.box (ruC r)) 0 0), (3, .rp (.box (poC p)) 0 0), (5, .rp (.box [.int .i64 (1 - p.turn)]) 0 0), (27, .bool (decide (r.quiet ≠ 0 ∧ r.quiet ≤ p.quiet)))]
 ·intro fin
  refine zj U U (fun b => ?_) (fun b => ?_)
  ·have b : r.quiet ≠ 0 := b
   repeat (first | refine zA (zM rfl) ?_ | refine zC ?_ | refine zB ?_ | refine zx rfl rfl ?_ | refine zA (zEZ rfl rfl) ?_ | refine zA (zi rfl rfl) ?_ | refine zA (zD rfl rfl rfl rfl) ?_ | refine zA (zK rfl rfl rfl rfl rfl rfl) ?_)
   exact fin _ ⟨U, U, U, congrArg (fun b => some (AV.bool b)) (decide_eq_decide.2 (show r.quiet ≤ p.quiet ↔ _ from ⟨fun h => ⟨b, h⟩, fun h => h.2⟩)), trivial⟩
  ·have b : ¬ r.quiet ≠ 0 := b
   refine zBG ?_
   exact fin _ ⟨U, U, U, congrArg (fun b => some (AV.bool b)) (show false = decide (r.quiet ≠ 0 ∧ r.quiet ≤ p.quiet) from (decide_eq_false (fun h => b h.1)).symm), trivial⟩
 refine zF U (fun q1 => ?_) (fun q1 => ?_)
 ·refine rn6 ?_
  refine zN hR U ?_
  rw [hval, if_pos q1]; rfl
 rw [if_neg q1] at hval
 refine rn6 ?_
 refine zQ U U U (list_ok r hv p S) ?_
 refine rn6 ?_
 refine zF U (fun q2 => ?_) (fun q2 => ?_)
 ·refine rn6 ?_
  refine zN hR U ?_
  rw [hval, if_pos (by omega)]; rfl
 rw [if_neg (by omega)] at hval
 refine zBz ?_
 refine zF U (fun q3 => ?_) (fun q3 => ?_)
 ·refine rn8 ?_
  refine zQ U U U (zIY (1 - p.turn) (by omega)) ?_
  refine rn6 ?_
  refine zN hR U ?_
  rw [hval, if_pos q3]; rfl
 rw [if_neg q3] at hval
 refine zBz ?_
 refine zF U (fun q4 => ?_) (fun q4 => ?_)
 ·refine zBz ?_
  refine zQ U U U (zIY p.turn htn) ?_
  refine rn6 ?_
  refine zN hR U ?_
  rw [hval, if_pos q4]; rfl
 refine rn5 ?_
 refine zN hR U ?_
 rw [hval, if_neg q4]; rfl
/-- ends.Moves -/
theorem zFj (r : Go.Ax.Gm.Rules) (hv : ValidR r) (p : Pos) (S : Sound r p) : zl Tryz.prog 37 [ruA r, poA p] (zBP (zAW r p)) := by
 refine zd.value0 (zL (P := Tryz.prog) (fn := Tryz.f37) U U (by kernel_rfl) U (fun c hR hfix => ?_)) (fix := fun _ => False) (fun _ h => h) U U
 refine rn6 ?_
 refine zQ U U U (zCX r hv p S) ?_
 refine rn3 ?_
 refine zF U (fun q => ?_) (fun q => ?_)
 ·refine rn7 ?_
  refine zBu 4 (zBP []) U AEq.nil ?_
  refine rn2 ?_
  refine zN hR U ?_
  unfold zAW; rw [if_pos q]; rfl
 ·refine rn6 ?_
  refine zQ U U U (list_ok r hv p S) ?_
  refine rn0 ?_
  refine zN hR U ?_
  unfold zAW; rw [if_neg q]; rfl
/-- ends.Of -/
theorem endOf_ok (r : Go.Ax.Gm.Rules) (hr : Lens r) (p : Pos) (hp : LenP p) : zl Tryz.prog 19 [ruA r, poA p] (.tup [.int .i64 (if zBC r p ≠ 0 then 0 else zb r p), .int .i64 (zBC r p)]) := by
 refine zd.value0 (zL (P := Tryz.prog) (fn := Tryz.f19) U U (by kernel_rfl) U (fun c hR hfix => ?_)) (fix := fun _ => False) (fun _ h => h) U U
 refine rn6 ?_
 refine zQ U U U (zCG r hr p hp) ?_
 refine rn3 ?_
 refine zF U (fun q => ?_) (fun q => ?_)
 ·refine rn2 ?_
  refine zN hR U ?_
  rw [if_pos q]; rfl
 ·obtain ⟨hz, S⟩ := zDZ (Classical.not_not.1 q)
  refine rn6 ?_
  refine zQ U U U (zCX r (zAm hz) p S) ?_
  refine rn0 ?_
  refine zN hR U ?_
  rw [if_neg q, Classical.not_not.1 q]; rfl
/-- moves.All -/
theorem all_ok (r : Go.Ax.Gm.Rules) (hr : Lens r) (p : Pos) (hp : LenP p) : zl Tryz.prog 10 [ruA r, poA p] (.tup [zBP (if zBC r p ≠ 0 then [] else zr r p), .int .i64 (zBC r p)]) := by
 refine zd.value0 (zL (P := Tryz.prog) (fn := Tryz.f10) U U (by kernel_rfl) U (fun c hR hfix => ?_)) (fix := fun _ => False) (fun _ h => h) U U
 refine rn6 ?_
 refine zQ U U U (zCG r hr p hp) ?_
 refine rn3 ?_
 refine zF U (fun q => ?_) (fun q => ?_)
 ·refine rn7 ?_
  refine zBu 4 (zBP []) U AEq.nil ?_
  refine rn2 ?_
  refine zN hR U ?_
  rw [if_pos q]; rfl
 ·obtain ⟨hz, S⟩ := zDZ (Classical.not_not.1 q)
  refine rn6 ?_
  refine zQ U U U (list_ok r (zAm hz) p S) ?_
  refine rn0 ?_
  refine zN hR U ?_
  rw [if_neg q, Classical.not_not.1 q]; rfl
def poZ : List AV := [.nil, .nil, .nil, .int .i64 0, .int .i64 0]
def poB (s : List Int) (x y : AV) : List AV := [z8 s, x, y, .int .i64 0, .int .i64 0]
abbrev hpB (s : List Int) (x y : AV) (l l' : List Int) : zP := [none, some ⟨33, .box poZ⟩, some ⟨33, .box (poB s x y)⟩, some ⟨3, .ints .i64 l⟩, some ⟨3, .ints .i64 l'⟩]
/-- place.Begin, refused -/
theorem begin_no (r : Go.Ax.Gm.Rules) (hr : Lens r) (h : zAl r ≠ 0) : zl Tryz.prog 35 [ruA r] (.tup [poA zq, .int .i64 (zAl r)]) := by
 refine zd.value0 (zL (P := Tryz.prog) (fn := Tryz.f35) U U (by kernel_rfl) U (fun c hR hfix => ?_)) (fix := fun _ => False) (fun _ h => h) U U
 refine rn6 ?_
 refine zQ U U U (zIh r hr) ?_
 refine rn3 ?_
 refine zF U (fun h1 => ?_) (fun h1 => absurd h1 (fun q => q h))
 refine rn8 ?_
 refine zZ poZ U U U U U U U ?_
 refine rn7 ?_
 refine zLU [some ⟨26, .box (ruC r)⟩, some ⟨33, .box (poC zq)⟩] U ?_ ?_
 ·intro h o ho
  match h, ho with
  | 0, ho => cases ho; exact ⟨_, rfl, rfl, rfl, rfl, fun _ _ _ _ => AEq.rfl'⟩
  | 1, ho =>
   cases ho
   refine ⟨_, U, U, U, U, fun i j hi hj => ?_⟩
   obtain rfl : i = 0 := Nat.lt_one_iff.1 hi
   have hj : j < 5 := hj
   match j, hj with
   | 0, _ => exact AEq.nil
   | 1, _ => exact AEq.nil
   | 2, _ => exact AEq.nil
   | 3, _ => exact AEq.rfl'
   | 4, _ => exact AEq.rfl'
  | _ + 2, ho => simp at ho
 refine rn2 ?_
 exact zN hR U U
/-- place.Begin -/
theorem zIb (r : Go.Ax.Gm.Rules) (hr : Lens r) (h : zAl r = 0) : zl Tryz.prog 35 [ruA r] (.tup [poA (z7 r), .int .i64 0]) := by
 refine zd.value0 (zL (P := Tryz.prog) (fn := Tryz.f35) U U (by kernel_rfl) U (fun c hR hfix => ?_)) (fix := fun _ => False) (fun _ h => h) U U
 have hs := zHQ (zAm h)
 have hpl := hs.pcs
 have hsl := hs.start
 refine rn6 ?_
 refine zQ U U U (zIh r hr) ?_
 refine rn3 ?_
 refine zF U (fun h1 => absurd h h1) (fun _ => ?_)
 refine rn5 ?_
 refine zQ U U U (zIi r.start (by omega)) ?_
 refine rn8 ?_
 refine zZ (poB r.start .nil .nil) U U U U U U U ?_
 refine rn5 ?_
 refine zBD [some ⟨26, .box (ruC r)⟩, none, none] [none, some ⟨33, .box poZ⟩, some ⟨33, .box (poB r.start .nil .nil)⟩] [(2, .ptr 1 0 0), (5, .ptr 2 0 0), (19, .ro (zAj r.pcs) 0 r.pcs.length), (20, iN r.pcs.length), (21, .int .i64 ((0 : Nat) : Int))] ?_ (zCA (zu U) (zCh (zCh zCi))) U ?_ (zCM ⟨U, U, U, U, U, trivial⟩) ?_
 ·intro h o ho
  match h, ho with
  | 0, ho => exact ho
  | 1, ho => simp at ho
  | 2, ho => simp at ho
  | _ + 3, ho => simp at ho
 ·intro h o ho
  match h, ho with
  | 0, ho => simp at ho
  | 1, ho => cases ho; exact ⟨fun o h => by simp at h, _, rfl, rfl, rfl, rfl, fun _ _ _ _ => .inl rfl⟩
  | 2, ho => cases ho; exact ⟨fun o h => by simp at h, _, rfl, rfl, rfl, rfl, fun _ _ _ _ => .inl rfl⟩
  | _ + 3, ho => simp at ho
 refine zDM 2 ⟨3, .ints .i64 []⟩ (.box (poB r.start (.sl 3 0 0) .nil)) U U U U (fun i j hi hj => ?_) ?_
 ·obtain rfl : i = 0 := Nat.lt_one_iff.1 hi
  have hj : j < 5 := hj
  match j, hj with
  | 0, _ => exact .inl rfl
  | 1, _ => exact .inr ⟨rfl, rfl⟩
  | 2, _ => exact .inl rfl
  | 3, _ => exact .inl rfl
  | 4, _ => exact .inl rfl
 refine zDM 2 ⟨3, .ints .i64 []⟩ (.box (poB r.start (.sl 3 0 0) (.sl 4 0 0))) U U U U (fun i j hi hj => ?_) ?_
 ·obtain rfl : i = 0 := Nat.lt_one_iff.1 hi
  have hj : j < 5 := hj
  match j, hj with
  | 0, _ => exact .inl rfl
  | 1, _ => exact .inl rfl
  | 2, _ => exact .inr ⟨rfl, rfl⟩
  | 3, _ => exact .inl rfl
  | 4, _ => exact .inl rfl
 refine zAA (ι := Nat) (fun k => [(2, .ptr 1 0 0), (5, .ptr 2 0 0), (19, .ro (zAj r.pcs) 0 r.pcs.length), (20, iN r.pcs.length), (21, iN k)]) (fun k => hpB r.start (.sl 3 0 k) (.sl 4 0 k) ((zBj r).take k) ((zBj r).take k))
  (fun k => k ≤ r.pcs.length) (fun k => r.pcs.length - k) 0 ⟨⟨rfl, rfl, rfl, rfl, rfl, trivial⟩, rfl, Nat.zero_le _⟩ ?_
 intro k hk
 have hhl : (zBj r).length = r.pcs.length := List.length_map ..
 refine rn4 ?_
 refine zF U (fun h2 => ?_) (fun h2 => ?_)
 ·have hk' : k < r.pcs.length := by omega
  generalize hp : r.pcs.getD k pc0 = p
  have hph : (zBj r).getD k 0 = p.hand := by rw [← hp]; unfold zBj; simp [List.getD, hk']
  have htk : (zBj r).take (k + 1) = (zBj r).take k ++ [p.hand] := by rw [zAE _ 0 k (by omega), hph]
  have htl : ((zBj r).take k).length = k := by rw [List.length_take]; omega
  generalize hA : (zBj r).take k = A at htl htk
  refine zGo ?_
  repeat (refine zAI rfl rfl rfl ?_)
  refine zZ (pcC p) U U U U U (by rw [← hp]; rfl) U ?_
  refine rn0 ?_
  refine zBD [none, none, none, none, none, some ⟨94, .box (pcC p)⟩] [none, some ⟨33, .box poZ⟩, some ⟨33, .box (poB r.start (.sl 3 0 k) (.sl 4 0 k))⟩, some ⟨3, .ints .i64 A⟩, some ⟨3, .ints .i64 A⟩, none] [(2, .ptr 1 0 0), (5, .ptr 2 0 0), (19, .ro (zAj r.pcs) 0 r.pcs.length), (20, iN r.pcs.length), (21, iN k), (7, .rp (.box (pcC p)) 0 0)] ?_ (zCh (zCh (zCh (zCh (zCh (zCA (zu rfl) zCi)))))) rfl ?_ ⟨⟨_, rfl, .inl rfl⟩, ⟨_, rfl, .inl rfl⟩, ⟨_, rfl, .inl rfl⟩, ⟨_, rfl, .inl rfl⟩, ⟨_, rfl, .inl rfl⟩, ⟨.ptr 5 0 0, rfl, .inr (.inr ⟨rfl, fun o ho => by cases ho; exact Nat.zero_lt_one⟩)⟩, trivial⟩ ?_
  ·intro h o ho
   match h, ho with
   | 0, ho => simp at ho
   | 1, ho => simp at ho
   | 2, ho => simp at ho
   | 3, ho => simp at ho
   | 4, ho => simp at ho
   | 5, ho => exact ho
   | _ + 6, ho => simp at ho
  ·intro h o ho
   match h, ho with
   | 0, ho => simp at ho
   | 1, ho => cases ho; exact ⟨fun o h => by simp at h, _, rfl, rfl, rfl, rfl, fun _ _ _ _ => .inl rfl⟩
   | 2, ho => cases ho; exact ⟨fun o h => by simp at h, _, rfl, rfl, rfl, rfl, fun _ _ _ _ => .inl rfl⟩
   | 3, ho => cases ho; exact ⟨fun o h => by simp at h, _, rfl, rfl, rfl, rfl, fun _ _ _ _ => .inl rfl⟩
   | 4, ho => cases ho; exact ⟨fun o h => by simp at h, _, rfl, rfl, rfl, rfl, fun _ _ _ _ => .inl rfl⟩
   | 5, ho => simp at ho
   | _ + 6, ho => simp at ho
  have hb : (k + 1) * 8 ≤ 140737488355328 ∧ k + 1 ≤ 9223372036854775807 := by omega
  refine ze (by kernel_rfl) ?_
  refine zS 0 U (by kernel_rfl) (by kernel_rfl) (by kernel_rfl) U (zO U U U U U U) U ?_
  refine zS 1 U (by kernel_rfl) (by kernel_rfl) (by kernel_rfl) U (zAk U U U U (by first | (simp only [Nat.zero_add, Int.toNat_natCast]; exact U) | exact U) (by omega)) U ?_
  refine zS 3 U (by kernel_rfl) (by kernel_rfl) (by kernel_rfl) U (zK U U U U U U) U ?_
  refine zS 7 U (by kernel_rfl) (by kernel_rfl) (by kernel_rfl) U (zO U U U U U U) U ?_
  refine zS 8 U (by kernel_rfl) (by kernel_rfl) (by kernel_rfl) U (zAk U U U U (by first | (simp only [Nat.zero_add, Int.toNat_natCast]; exact U) | exact U) (by omega)) U ?_
  refine zS 10 U (by kernel_rfl) (by kernel_rfl) (by kernel_rfl) U (zK U U U U U U) U ?_
  refine zS 14 U (by kernel_rfl) (by kernel_rfl) (by kernel_rfl) U (zO U U U U U U) U ?_
  refine zS 17 U (by kernel_rfl) (by kernel_rfl) (by kernel_rfl) U (zO U U U U U U) U ?_
  apply zT (H := [none, some ⟨33, .box poZ⟩, some ⟨33, .box (poB r.start .any .any)⟩, some ⟨3, .ints .i64 (A ++ [p.hand])⟩, some ⟨3, .ints .i64 (A ++ [p.hand])⟩, none]) [(2, .ptr 1 0 0), (5, .ptr 2 0 0), (19, .ro (zAj r.pcs) 0 r.pcs.length), (20, iN r.pcs.length), (21, iN k), (31, .sl 3 0 (k + 1)), (38, .sl 4 0 (k + 1)), (40, .ptr 2 0 1), (41, .ptr 2 0 1)]
  intro fin
  apply zT (H := [none, some ⟨33, .box poZ⟩, some ⟨33, .box (poB r.start .any (.sl 4 0 k))⟩, some ⟨3, .ints .i64 (A ++ [p.hand])⟩, some ⟨3, .ints .i64 A⟩, none]) [(2, .ptr 1 0 0), (5, .ptr 2 0 0), (19, .ro (zAj r.pcs) 0 r.pcs.length), (20, iN r.pcs.length), (21, iN k), (7, .rp (.box (pcC p)) 0 0), (26, .ptr 2 0 1), (28, .rp (.box (pcC p)) 0 1), (33, .ptr 2 0 2), (35, .rp (.box (pcC p)) 0 1), (39, .ptr 2 0 1), (41, .ptr 2 0 1), (31, .sl 3 0 (k + 1)), (34, .sl 4 0 k), (37, .ro (.ints .i64 [p.hand]) 0 1), (40, .ptr 2 0 1)]
  intro s45
  apply zT (H := [none, some ⟨33, .box poZ⟩, some ⟨33, .box (poB r.start .any .any)⟩, some ⟨3, .ints .i64 (A ++ [p.hand])⟩, some ⟨3, .ints .i64 (A ++ [p.hand])⟩, none]) [(2, .ptr 1 0 0), (5, .ptr 2 0 0), (19, .ro (zAj r.pcs) 0 r.pcs.length), (20, iN r.pcs.length), (21, iN k), (7, .rp (.box (pcC p)) 0 0), (26, .ptr 2 0 1), (28, .rp (.box (pcC p)) 0 1), (33, .ptr 2 0 2), (35, .rp (.box (pcC p)) 0 1), (39, .ptr 2 0 1), (41, .ptr 2 0 1), (31, .sl 3 0 (k + 1)), (38, .sl 4 0 (k + 1))]
  intro s44
  apply zT (H := [none, some ⟨33, .box poZ⟩, some ⟨33, .box (poB r.start .any (.sl 4 0 k))⟩, some ⟨3, .ints .i64 (A ++ [p.hand])⟩, some ⟨3, .ints .i64 A⟩, none]) [(2, .ptr 1 0 0), (5, .ptr 2 0 0), (19, .ro (zAj r.pcs) 0 r.pcs.length), (20, iN r.pcs.length), (21, iN k), (7, .rp (.box (pcC p)) 0 0), (26, .ptr 2 0 1), (28, .rp (.box (pcC p)) 0 1), (33, .ptr 2 0 2), (35, .rp (.box (pcC p)) 0 1), (39, .ptr 2 0 1), (41, .ptr 2 0 1), (31, .sl 3 0 (k + 1)), (34, .sl 4 0 k), (36, .int .i64 p.hand), (40, .ptr 2 0 1)]
  intro s43
  apply zT (H := [none, some ⟨33, .box poZ⟩, some ⟨33, .box (poB r.start .any (.sl 4 0 k))⟩, some ⟨3, .ints .i64 (A ++ [p.hand])⟩, some ⟨3, .ints .i64 A⟩, none]) [(2, .ptr 1 0 0), (5, .ptr 2 0 0), (19, .ro (zAj r.pcs) 0 r.pcs.length), (20, iN r.pcs.length), (21, iN k), (7, .rp (.box (pcC p)) 0 0), (26, .ptr 2 0 1), (28, .rp (.box (pcC p)) 0 1), (33, .ptr 2 0 2), (35, .rp (.box (pcC p)) 0 1), (39, .ptr 2 0 1), (41, .ptr 2 0 1), (31, .sl 3 0 (k + 1)), (34, .sl 4 0 k), (37, .ro (.ints .i64 [p.hand]) 0 1)]
  intro s42
  apply zT (H := [none, some ⟨33, .box poZ⟩, some ⟨33, .box (poB r.start (.sl 3 0 k) (.sl 4 0 k))⟩, some ⟨3, .ints .i64 A⟩, some ⟨3, .ints .i64 A⟩, none]) [(2, .ptr 1 0 0), (5, .ptr 2 0 0), (19, .ro (zAj r.pcs) 0 r.pcs.length), (20, iN r.pcs.length), (21, iN k), (7, .rp (.box (pcC p)) 0 0), (26, .ptr 2 0 1), (28, .rp (.box (pcC p)) 0 1), (33, .ptr 2 0 2), (35, .rp (.box (pcC p)) 0 1), (39, .ptr 2 0 1), (41, .ptr 2 0 1), (27, .sl 3 0 k), (30, .ro (.ints .i64 [p.hand]) 0 1), (34, .sl 4 0 k), (37, .ro (.ints .i64 [p.hand]) 0 1)]
  intro s41
  apply zT (H := [none, some ⟨33, .box poZ⟩, some ⟨33, .box (poB r.start .any (.sl 4 0 k))⟩, some ⟨3, .ints .i64 (A ++ [p.hand])⟩, some ⟨3, .ints .i64 A⟩, none]) [(2, .ptr 1 0 0), (5, .ptr 2 0 0), (19, .ro (zAj r.pcs) 0 r.pcs.length), (20, iN r.pcs.length), (21, iN k), (7, .rp (.box (pcC p)) 0 0), (26, .ptr 2 0 1), (28, .rp (.box (pcC p)) 0 1), (33, .ptr 2 0 2), (35, .rp (.box (pcC p)) 0 1), (39, .ptr 2 0 1), (41, .ptr 2 0 1), (31, .sl 3 0 (k + 1)), (37, .ro (.ints .i64 [p.hand]) 0 1)]
  intro s40
  apply zT (H := [none, some ⟨33, .box poZ⟩, some ⟨33, .box (poB r.start .any (.sl 4 0 k))⟩, some ⟨3, .ints .i64 (A ++ [p.hand])⟩, some ⟨3, .ints .i64 A⟩, none]) [(2, .ptr 1 0 0), (5, .ptr 2 0 0), (19, .ro (zAj r.pcs) 0 r.pcs.length), (20, iN r.pcs.length), (21, iN k), (7, .rp (.box (pcC p)) 0 0), (26, .ptr 2 0 1), (28, .rp (.box (pcC p)) 0 1), (33, .ptr 2 0 2), (35, .rp (.box (pcC p)) 0 1), (39, .ptr 2 0 1), (41, .ptr 2 0 1), (31, .sl 3 0 (k + 1)), (34, .sl 4 0 k), (40, .ptr 2 0 1)]
  intro s39
  apply zT (H := [none, some ⟨33, .box poZ⟩, some ⟨33, .box (poB r.start .any (.sl 4 0 k))⟩, some ⟨3, .ints .i64 (A ++ [p.hand])⟩, some ⟨3, .ints .i64 A⟩, none]) [(2, .ptr 1 0 0), (5, .ptr 2 0 0), (19, .ro (zAj r.pcs) 0 r.pcs.length), (20, iN r.pcs.length), (21, iN k), (7, .rp (.box (pcC p)) 0 0), (26, .ptr 2 0 1), (28, .rp (.box (pcC p)) 0 1), (33, .ptr 2 0 2), (35, .rp (.box (pcC p)) 0 1), (39, .ptr 2 0 1), (41, .ptr 2 0 1), (31, .sl 3 0 (k + 1)), (34, .sl 4 0 k), (36, .int .i64 p.hand)]
  intro s38
  apply zT (H := [none, some ⟨33, .box poZ⟩, some ⟨33, .box (poB r.start (.sl 3 0 k) (.sl 4 0 k))⟩, some ⟨3, .ints .i64 A⟩, some ⟨3, .ints .i64 A⟩, none]) [(2, .ptr 1 0 0), (5, .ptr 2 0 0), (19, .ro (zAj r.pcs) 0 r.pcs.length), (20, iN r.pcs.length), (21, iN k), (7, .rp (.box (pcC p)) 0 0), (26, .ptr 2 0 1), (28, .rp (.box (pcC p)) 0 1), (33, .ptr 2 0 2), (35, .rp (.box (pcC p)) 0 1), (39, .ptr 2 0 1), (41, .ptr 2 0 1), (30, .ro (.ints .i64 [p.hand]) 0 1), (34, .sl 4 0 k), (37, .ro (.ints .i64 [p.hand]) 0 1)]
  intro s37
  apply zT (H := [none, some ⟨33, .box poZ⟩, some ⟨33, .box (poB r.start (.sl 3 0 k) (.sl 4 0 k))⟩, some ⟨3, .ints .i64 A⟩, some ⟨3, .ints .i64 A⟩, none]) [(2, .ptr 1 0 0), (5, .ptr 2 0 0), (19, .ro (zAj r.pcs) 0 r.pcs.length), (20, iN r.pcs.length), (21, iN k), (7, .rp (.box (pcC p)) 0 0), (26, .ptr 2 0 1), (28, .rp (.box (pcC p)) 0 1), (33, .ptr 2 0 2), (35, .rp (.box (pcC p)) 0 1), (39, .ptr 2 0 1), (41, .ptr 2 0 1), (27, .sl 3 0 k), (29, .int .i64 p.hand), (34, .sl 4 0 k), (37, .ro (.ints .i64 [p.hand]) 0 1)]
  intro s36
  apply zT (H := [none, some ⟨33, .box poZ⟩, some ⟨33, .box (poB r.start (.sl 3 0 k) (.sl 4 0 k))⟩, some ⟨3, .ints .i64 A⟩, some ⟨3, .ints .i64 A⟩, none]) [(2, .ptr 1 0 0), (5, .ptr 2 0 0), (19, .ro (zAj r.pcs) 0 r.pcs.length), (20, iN r.pcs.length), (21, iN k), (7, .rp (.box (pcC p)) 0 0), (26, .ptr 2 0 1), (28, .rp (.box (pcC p)) 0 1), (33, .ptr 2 0 2), (35, .rp (.box (pcC p)) 0 1), (39, .ptr 2 0 1), (41, .ptr 2 0 1), (27, .sl 3 0 k), (30, .ro (.ints .i64 [p.hand]) 0 1), (37, .ro (.ints .i64 [p.hand]) 0 1)]
  intro s35
  apply zT (H := [none, some ⟨33, .box poZ⟩, some ⟨33, .box (poB r.start (.sl 3 0 k) (.sl 4 0 k))⟩, some ⟨3, .ints .i64 A⟩, some ⟨3, .ints .i64 A⟩, none]) [(2, .ptr 1 0 0), (5, .ptr 2 0 0), (19, .ro (zAj r.pcs) 0 r.pcs.length), (20, iN r.pcs.length), (21, iN k), (7, .rp (.box (pcC p)) 0 0), (26, .ptr 2 0 1), (28, .rp (.box (pcC p)) 0 1), (33, .ptr 2 0 2), (35, .rp (.box (pcC p)) 0 1), (39, .ptr 2 0 1), (41, .ptr 2 0 1), (27, .sl 3 0 k), (30, .ro (.ints .i64 [p.hand]) 0 1), (34, .sl 4 0 k), (36, .int .i64 p.hand)]
  intro s34
  apply zT (H := [none, some ⟨33, .box poZ⟩, some ⟨33, .box (poB r.start .any (.sl 4 0 k))⟩, some ⟨3, .ints .i64 (A ++ [p.hand])⟩, some ⟨3, .ints .i64 A⟩, none]) [(2, .ptr 1 0 0), (5, .ptr 2 0 0), (19, .ro (zAj r.pcs) 0 r.pcs.length), (20, iN r.pcs.length), (21, iN k), (7, .rp (.box (pcC p)) 0 0), (26, .ptr 2 0 1), (28, .rp (.box (pcC p)) 0 1), (33, .ptr 2 0 2), (35, .rp (.box (pcC p)) 0 1), (39, .ptr 2 0 1), (41, .ptr 2 0 1), (31, .sl 3 0 (k + 1)), (36, .int .i64 p.hand)]
  intro s33
  apply zT (H := [none, some ⟨33, .box poZ⟩, some ⟨33, .box (poB r.start .any (.sl 4 0 k))⟩, some ⟨3, .ints .i64 (A ++ [p.hand])⟩, some ⟨3, .ints .i64 A⟩, none]) [(2, .ptr 1 0 0), (5, .ptr 2 0 0), (19, .ro (zAj r.pcs) 0 r.pcs.length), (20, iN r.pcs.length), (21, iN k), (7, .rp (.box (pcC p)) 0 0), (26, .ptr 2 0 1), (28, .rp (.box (pcC p)) 0 1), (33, .ptr 2 0 2), (35, .rp (.box (pcC p)) 0 1), (39, .ptr 2 0 1), (41, .ptr 2 0 1), (31, .sl 3 0 (k + 1)), (34, .sl 4 0 k)]
  intro s32
  apply zT (H := [none, some ⟨33, .box poZ⟩, some ⟨33, .box (poB r.start (.sl 3 0 k) (.sl 4 0 k))⟩, some ⟨3, .ints .i64 A⟩, some ⟨3, .ints .i64 A⟩, none]) [(2, .ptr 1 0 0), (5, .ptr 2 0 0), (19, .ro (zAj r.pcs) 0 r.pcs.length), (20, iN r.pcs.length), (21, iN k), (7, .rp (.box (pcC p)) 0 0), (26, .ptr 2 0 1), (28, .rp (.box (pcC p)) 0 1), (33, .ptr 2 0 2), (35, .rp (.box (pcC p)) 0 1), (39, .ptr 2 0 1), (41, .ptr 2 0 1), (29, .int .i64 p.hand), (34, .sl 4 0 k), (37, .ro (.ints .i64 [p.hand]) 0 1)]
  intro s31
  apply zT (H := [none, some ⟨33, .box poZ⟩, some ⟨33, .box (poB r.start (.sl 3 0 k) (.sl 4 0 k))⟩, some ⟨3, .ints .i64 A⟩, some ⟨3, .ints .i64 A⟩, none]) [(2, .ptr 1 0 0), (5, .ptr 2 0 0), (19, .ro (zAj r.pcs) 0 r.pcs.length), (20, iN r.pcs.length), (21, iN k), (7, .rp (.box (pcC p)) 0 0), (26, .ptr 2 0 1), (28, .rp (.box (pcC p)) 0 1), (33, .ptr 2 0 2), (35, .rp (.box (pcC p)) 0 1), (39, .ptr 2 0 1), (41, .ptr 2 0 1), (30, .ro (.ints .i64 [p.hand]) 0 1), (37, .ro (.ints .i64 [p.hand]) 0 1)]
  intro s30
  apply zT (H := [none, some ⟨33, .box poZ⟩, some ⟨33, .box (poB r.start (.sl 3 0 k) (.sl 4 0 k))⟩, some ⟨3, .ints .i64 A⟩, some ⟨3, .ints .i64 A⟩, none]) [(2, .ptr 1 0 0), (5, .ptr 2 0 0), (19, .ro (zAj r.pcs) 0 r.pcs.length), (20, iN r.pcs.length), (21, iN k), (7, .rp (.box (pcC p)) 0 0), (26, .ptr 2 0 1), (28, .rp (.box (pcC p)) 0 1), (33, .ptr 2 0 2), (35, .rp (.box (pcC p)) 0 1), (39, .ptr 2 0 1), (41, .ptr 2 0 1), (30, .ro (.ints .i64 [p.hand]) 0 1), (34, .sl 4 0 k), (36, .int .i64 p.hand)]
  intro s29
  apply zT (H := [none, some ⟨33, .box poZ⟩, some ⟨33, .box (poB r.start (.sl 3 0 k) (.sl 4 0 k))⟩, some ⟨3, .ints .i64 A⟩, some ⟨3, .ints .i64 A⟩, none]) [(2, .ptr 1 0 0), (5, .ptr 2 0 0), (19, .ro (zAj r.pcs) 0 r.pcs.length), (20, iN r.pcs.length), (21, iN k), (7, .rp (.box (pcC p)) 0 0), (26, .ptr 2 0 1), (28, .rp (.box (pcC p)) 0 1), (33, .ptr 2 0 2), (35, .rp (.box (pcC p)) 0 1), (39, .ptr 2 0 1), (41, .ptr 2 0 1), (27, .sl 3 0 k), (34, .sl 4 0 k), (37, .ro (.ints .i64 [p.hand]) 0 1)]
  intro s28
  apply zT (H := [none, some ⟨33, .box poZ⟩, some ⟨33, .box (poB r.start (.sl 3 0 k) (.sl 4 0 k))⟩, some ⟨3, .ints .i64 A⟩, some ⟨3, .ints .i64 A⟩, none]) [(2, .ptr 1 0 0), (5, .ptr 2 0 0), (19, .ro (zAj r.pcs) 0 r.pcs.length), (20, iN r.pcs.length), (21, iN k), (7, .rp (.box (pcC p)) 0 0), (26, .ptr 2 0 1), (28, .rp (.box (pcC p)) 0 1), (33, .ptr 2 0 2), (35, .rp (.box (pcC p)) 0 1), (39, .ptr 2 0 1), (41, .ptr 2 0 1), (27, .sl 3 0 k), (29, .int .i64 p.hand), (37, .ro (.ints .i64 [p.hand]) 0 1)]
  intro s27
  apply zT (H := [none, some ⟨33, .box poZ⟩, some ⟨33, .box (poB r.start (.sl 3 0 k) (.sl 4 0 k))⟩, some ⟨3, .ints .i64 A⟩, some ⟨3, .ints .i64 A⟩, none]) [(2, .ptr 1 0 0), (5, .ptr 2 0 0), (19, .ro (zAj r.pcs) 0 r.pcs.length), (20, iN r.pcs.length), (21, iN k), (7, .rp (.box (pcC p)) 0 0), (26, .ptr 2 0 1), (28, .rp (.box (pcC p)) 0 1), (33, .ptr 2 0 2), (35, .rp (.box (pcC p)) 0 1), (39, .ptr 2 0 1), (41, .ptr 2 0 1), (27, .sl 3 0 k), (29, .int .i64 p.hand), (34, .sl 4 0 k), (36, .int .i64 p.hand)]
  intro s26
  apply zT (H := [none, some ⟨33, .box poZ⟩, some ⟨33, .box (poB r.start (.sl 3 0 k) (.sl 4 0 k))⟩, some ⟨3, .ints .i64 A⟩, some ⟨3, .ints .i64 A⟩, none]) [(2, .ptr 1 0 0), (5, .ptr 2 0 0), (19, .ro (zAj r.pcs) 0 r.pcs.length), (20, iN r.pcs.length), (21, iN k), (7, .rp (.box (pcC p)) 0 0), (26, .ptr 2 0 1), (28, .rp (.box (pcC p)) 0 1), (33, .ptr 2 0 2), (35, .rp (.box (pcC p)) 0 1), (39, .ptr 2 0 1), (41, .ptr 2 0 1), (27, .sl 3 0 k), (30, .ro (.ints .i64 [p.hand]) 0 1), (36, .int .i64 p.hand)]
  intro s25
  apply zT (H := [none, some ⟨33, .box poZ⟩, some ⟨33, .box (poB r.start (.sl 3 0 k) (.sl 4 0 k))⟩, some ⟨3, .ints .i64 A⟩, some ⟨3, .ints .i64 A⟩, none]) [(2, .ptr 1 0 0), (5, .ptr 2 0 0), (19, .ro (zAj r.pcs) 0 r.pcs.length), (20, iN r.pcs.length), (21, iN k), (7, .rp (.box (pcC p)) 0 0), (26, .ptr 2 0 1), (28, .rp (.box (pcC p)) 0 1), (33, .ptr 2 0 2), (35, .rp (.box (pcC p)) 0 1), (39, .ptr 2 0 1), (41, .ptr 2 0 1), (27, .sl 3 0 k), (30, .ro (.ints .i64 [p.hand]) 0 1), (34, .sl 4 0 k)]
  intro s24
  apply zT (H := [none, some ⟨33, .box poZ⟩, some ⟨33, .box (poB r.start .any (.sl 4 0 k))⟩, some ⟨3, .ints .i64 (A ++ [p.hand])⟩, some ⟨3, .ints .i64 A⟩, none]) [(2, .ptr 1 0 0), (5, .ptr 2 0 0), (19, .ro (zAj r.pcs) 0 r.pcs.length), (20, iN r.pcs.length), (21, iN k), (7, .rp (.box (pcC p)) 0 0), (26, .ptr 2 0 1), (28, .rp (.box (pcC p)) 0 1), (33, .ptr 2 0 2), (35, .rp (.box (pcC p)) 0 1), (39, .ptr 2 0 1), (41, .ptr 2 0 1), (31, .sl 3 0 (k + 1))]
  intro s23
  apply zT (H := [none, some ⟨33, .box poZ⟩, some ⟨33, .box (poB r.start (.sl 3 0 k) (.sl 4 0 k))⟩, some ⟨3, .ints .i64 A⟩, some ⟨3, .ints .i64 A⟩, none]) [(2, .ptr 1 0 0), (5, .ptr 2 0 0), (19, .ro (zAj r.pcs) 0 r.pcs.length), (20, iN r.pcs.length), (21, iN k), (7, .rp (.box (pcC p)) 0 0), (26, .ptr 2 0 1), (28, .rp (.box (pcC p)) 0 1), (33, .ptr 2 0 2), (35, .rp (.box (pcC p)) 0 1), (39, .ptr 2 0 1), (41, .ptr 2 0 1), (34, .sl 4 0 k), (37, .ro (.ints .i64 [p.hand]) 0 1)]
  intro s22
  apply zT (H := [none, some ⟨33, .box poZ⟩, some ⟨33, .box (poB r.start (.sl 3 0 k) (.sl 4 0 k))⟩, some ⟨3, .ints .i64 A⟩, some ⟨3, .ints .i64 A⟩, none]) [(2, .ptr 1 0 0), (5, .ptr 2 0 0), (19, .ro (zAj r.pcs) 0 r.pcs.length), (20, iN r.pcs.length), (21, iN k), (7, .rp (.box (pcC p)) 0 0), (26, .ptr 2 0 1), (28, .rp (.box (pcC p)) 0 1), (33, .ptr 2 0 2), (35, .rp (.box (pcC p)) 0 1), (39, .ptr 2 0 1), (41, .ptr 2 0 1), (29, .int .i64 p.hand), (37, .ro (.ints .i64 [p.hand]) 0 1)]
  intro s21
  apply zT (H := [none, some ⟨33, .box poZ⟩, some ⟨33, .box (poB r.start (.sl 3 0 k) (.sl 4 0 k))⟩, some ⟨3, .ints .i64 A⟩, some ⟨3, .ints .i64 A⟩, none]) [(2, .ptr 1 0 0), (5, .ptr 2 0 0), (19, .ro (zAj r.pcs) 0 r.pcs.length), (20, iN r.pcs.length), (21, iN k), (7, .rp (.box (pcC p)) 0 0), (26, .ptr 2 0 1), (28, .rp (.box (pcC p)) 0 1), (33, .ptr 2 0 2), (35, .rp (.box (pcC p)) 0 1), (39, .ptr 2 0 1), (41, .ptr 2 0 1), (29, .int .i64 p.hand), (34, .sl 4 0 k), (36, .int .i64 p.hand)]
  intro s20
  apply zT (H := [none, some ⟨33, .box poZ⟩, some ⟨33, .box (poB r.start (.sl 3 0 k) (.sl 4 0 k))⟩, some ⟨3, .ints .i64 A⟩, some ⟨3, .ints .i64 A⟩, none]) [(2, .ptr 1 0 0), (5, .ptr 2 0 0), (19, .ro (zAj r.pcs) 0 r.pcs.length), (20, iN r.pcs.length), (21, iN k), (7, .rp (.box (pcC p)) 0 0), (26, .ptr 2 0 1), (28, .rp (.box (pcC p)) 0 1), (33, .ptr 2 0 2), (35, .rp (.box (pcC p)) 0 1), (39, .ptr 2 0 1), (41, .ptr 2 0 1), (30, .ro (.ints .i64 [p.hand]) 0 1), (36, .int .i64 p.hand)]
  intro s19
  apply zT (H := [none, some ⟨33, .box poZ⟩, some ⟨33, .box (poB r.start (.sl 3 0 k) (.sl 4 0 k))⟩, some ⟨3, .ints .i64 A⟩, some ⟨3, .ints .i64 A⟩, none]) [(2, .ptr 1 0 0), (5, .ptr 2 0 0), (19, .ro (zAj r.pcs) 0 r.pcs.length), (20, iN r.pcs.length), (21, iN k), (7, .rp (.box (pcC p)) 0 0), (26, .ptr 2 0 1), (28, .rp (.box (pcC p)) 0 1), (33, .ptr 2 0 2), (35, .rp (.box (pcC p)) 0 1), (39, .ptr 2 0 1), (41, .ptr 2 0 1), (30, .ro (.ints .i64 [p.hand]) 0 1), (34, .sl 4 0 k)]
  intro s18
  apply zT (H := [none, some ⟨33, .box poZ⟩, some ⟨33, .box (poB r.start (.sl 3 0 k) (.sl 4 0 k))⟩, some ⟨3, .ints .i64 A⟩, some ⟨3, .ints .i64 A⟩, none]) [(2, .ptr 1 0 0), (5, .ptr 2 0 0), (19, .ro (zAj r.pcs) 0 r.pcs.length), (20, iN r.pcs.length), (21, iN k), (7, .rp (.box (pcC p)) 0 0), (26, .ptr 2 0 1), (28, .rp (.box (pcC p)) 0 1), (33, .ptr 2 0 2), (35, .rp (.box (pcC p)) 0 1), (39, .ptr 2 0 1), (41, .ptr 2 0 1), (27, .sl 3 0 k), (37, .ro (.ints .i64 [p.hand]) 0 1)]
  intro s17
  apply zT (H := [none, some ⟨33, .box poZ⟩, some ⟨33, .box (poB r.start (.sl 3 0 k) (.sl 4 0 k))⟩, some ⟨3, .ints .i64 A⟩, some ⟨3, .ints .i64 A⟩, none]) [(2, .ptr 1 0 0), (5, .ptr 2 0 0), (19, .ro (zAj r.pcs) 0 r.pcs.length), (20, iN r.pcs.length), (21, iN k), (7, .rp (.box (pcC p)) 0 0), (26, .ptr 2 0 1), (28, .rp (.box (pcC p)) 0 1), (33, .ptr 2 0 2), (35, .rp (.box (pcC p)) 0 1), (39, .ptr 2 0 1), (41, .ptr 2 0 1), (27, .sl 3 0 k), (34, .sl 4 0 k), (36, .int .i64 p.hand)]
  intro s16
  apply zT (H := [none, some ⟨33, .box poZ⟩, some ⟨33, .box (poB r.start (.sl 3 0 k) (.sl 4 0 k))⟩, some ⟨3, .ints .i64 A⟩, some ⟨3, .ints .i64 A⟩, none]) [(2, .ptr 1 0 0), (5, .ptr 2 0 0), (19, .ro (zAj r.pcs) 0 r.pcs.length), (20, iN r.pcs.length), (21, iN k), (7, .rp (.box (pcC p)) 0 0), (26, .ptr 2 0 1), (28, .rp (.box (pcC p)) 0 1), (33, .ptr 2 0 2), (35, .rp (.box (pcC p)) 0 1), (39, .ptr 2 0 1), (41, .ptr 2 0 1), (27, .sl 3 0 k), (29, .int .i64 p.hand), (36, .int .i64 p.hand)]
  intro s15
  apply zT (H := [none, some ⟨33, .box poZ⟩, some ⟨33, .box (poB r.start (.sl 3 0 k) (.sl 4 0 k))⟩, some ⟨3, .ints .i64 A⟩, some ⟨3, .ints .i64 A⟩, none]) [(2, .ptr 1 0 0), (5, .ptr 2 0 0), (19, .ro (zAj r.pcs) 0 r.pcs.length), (20, iN r.pcs.length), (21, iN k), (7, .rp (.box (pcC p)) 0 0), (26, .ptr 2 0 1), (28, .rp (.box (pcC p)) 0 1), (33, .ptr 2 0 2), (35, .rp (.box (pcC p)) 0 1), (39, .ptr 2 0 1), (41, .ptr 2 0 1), (27, .sl 3 0 k), (29, .int .i64 p.hand), (34, .sl 4 0 k)]
  intro s14
  apply zT (H := [none, some ⟨33, .box poZ⟩, some ⟨33, .box (poB r.start (.sl 3 0 k) (.sl 4 0 k))⟩, some ⟨3, .ints .i64 A⟩, some ⟨3, .ints .i64 A⟩, none]) [(2, .ptr 1 0 0), (5, .ptr 2 0 0), (19, .ro (zAj r.pcs) 0 r.pcs.length), (20, iN r.pcs.length), (21, iN k), (7, .rp (.box (pcC p)) 0 0), (26, .ptr 2 0 1), (28, .rp (.box (pcC p)) 0 1), (33, .ptr 2 0 2), (35, .rp (.box (pcC p)) 0 1), (39, .ptr 2 0 1), (41, .ptr 2 0 1), (27, .sl 3 0 k), (30, .ro (.ints .i64 [p.hand]) 0 1)]
  intro s13
  apply zT (H := [none, some ⟨33, .box poZ⟩, some ⟨33, .box (poB r.start (.sl 3 0 k) (.sl 4 0 k))⟩, some ⟨3, .ints .i64 A⟩, some ⟨3, .ints .i64 A⟩, none]) [(2, .ptr 1 0 0), (5, .ptr 2 0 0), (19, .ro (zAj r.pcs) 0 r.pcs.length), (20, iN r.pcs.length), (21, iN k), (7, .rp (.box (pcC p)) 0 0), (26, .ptr 2 0 1), (28, .rp (.box (pcC p)) 0 1), (33, .ptr 2 0 2), (35, .rp (.box (pcC p)) 0 1), (39, .ptr 2 0 1), (41, .ptr 2 0 1), (37, .ro (.ints .i64 [p.hand]) 0 1)]
  intro s12
  apply zT (H := [none, some ⟨33, .box poZ⟩, some ⟨33, .box (poB r.start (.sl 3 0 k) (.sl 4 0 k))⟩, some ⟨3, .ints .i64 A⟩, some ⟨3, .ints .i64 A⟩, none]) [(2, .ptr 1 0 0), (5, .ptr 2 0 0), (19, .ro (zAj r.pcs) 0 r.pcs.length), (20, iN r.pcs.length), (21, iN k), (7, .rp (.box (pcC p)) 0 0), (26, .ptr 2 0 1), (28, .rp (.box (pcC p)) 0 1), (33, .ptr 2 0 2), (35, .rp (.box (pcC p)) 0 1), (39, .ptr 2 0 1), (41, .ptr 2 0 1), (34, .sl 4 0 k), (36, .int .i64 p.hand)]
  intro s11
  apply zT (H := [none, some ⟨33, .box poZ⟩, some ⟨33, .box (poB r.start (.sl 3 0 k) (.sl 4 0 k))⟩, some ⟨3, .ints .i64 A⟩, some ⟨3, .ints .i64 A⟩, none]) [(2, .ptr 1 0 0), (5, .ptr 2 0 0), (19, .ro (zAj r.pcs) 0 r.pcs.length), (20, iN r.pcs.length), (21, iN k), (7, .rp (.box (pcC p)) 0 0), (26, .ptr 2 0 1), (28, .rp (.box (pcC p)) 0 1), (33, .ptr 2 0 2), (35, .rp (.box (pcC p)) 0 1), (39, .ptr 2 0 1), (41, .ptr 2 0 1), (29, .int .i64 p.hand), (36, .int .i64 p.hand)]
  intro s10
  apply zT (H := [none, some ⟨33, .box poZ⟩, some ⟨33, .box (poB r.start (.sl 3 0 k) (.sl 4 0 k))⟩, some ⟨3, .ints .i64 A⟩, some ⟨3, .ints .i64 A⟩, none]) [(2, .ptr 1 0 0), (5, .ptr 2 0 0), (19, .ro (zAj r.pcs) 0 r.pcs.length), (20, iN r.pcs.length), (21, iN k), (7, .rp (.box (pcC p)) 0 0), (26, .ptr 2 0 1), (28, .rp (.box (pcC p)) 0 1), (33, .ptr 2 0 2), (35, .rp (.box (pcC p)) 0 1), (39, .ptr 2 0 1), (41, .ptr 2 0 1), (29, .int .i64 p.hand), (34, .sl 4 0 k)]
  intro s9
  apply zT (H := [none, some ⟨33, .box poZ⟩, some ⟨33, .box (poB r.start (.sl 3 0 k) (.sl 4 0 k))⟩, some ⟨3, .ints .i64 A⟩, some ⟨3, .ints .i64 A⟩, none]) [(2, .ptr 1 0 0), (5, .ptr 2 0 0), (19, .ro (zAj r.pcs) 0 r.pcs.length), (20, iN r.pcs.length), (21, iN k), (7, .rp (.box (pcC p)) 0 0), (26, .ptr 2 0 1), (28, .rp (.box (pcC p)) 0 1), (33, .ptr 2 0 2), (35, .rp (.box (pcC p)) 0 1), (39, .ptr 2 0 1), (41, .ptr 2 0 1), (30, .ro (.ints .i64 [p.hand]) 0 1)]
  intro s8
  apply zT (H := [none, some ⟨33, .box poZ⟩, some ⟨33, .box (poB r.start (.sl 3 0 k) (.sl 4 0 k))⟩, some ⟨3, .ints .i64 A⟩, some ⟨3, .ints .i64 A⟩, none]) [(2, .ptr 1 0 0), (5, .ptr 2 0 0), (19, .ro (zAj r.pcs) 0 r.pcs.length), (20, iN r.pcs.length), (21, iN k), (7, .rp (.box (pcC p)) 0 0), (26, .ptr 2 0 1), (28, .rp (.box (pcC p)) 0 1), (33, .ptr 2 0 2), (35, .rp (.box (pcC p)) 0 1), (39, .ptr 2 0 1), (41, .ptr 2 0 1), (27, .sl 3 0 k), (36, .int .i64 p.hand)]
  intro s7
  apply zT (H := [none, some ⟨33, .box poZ⟩, some ⟨33, .box (poB r.start (.sl 3 0 k) (.sl 4 0 k))⟩, some ⟨3, .ints .i64 A⟩, some ⟨3, .ints .i64 A⟩, none]) [(2, .ptr 1 0 0), (5, .ptr 2 0 0), (19, .ro (zAj r.pcs) 0 r.pcs.length), (20, iN r.pcs.length), (21, iN k), (7, .rp (.box (pcC p)) 0 0), (26, .ptr 2 0 1), (28, .rp (.box (pcC p)) 0 1), (33, .ptr 2 0 2), (35, .rp (.box (pcC p)) 0 1), (39, .ptr 2 0 1), (41, .ptr 2 0 1), (27, .sl 3 0 k), (34, .sl 4 0 k)]
  intro s6
  apply zT (H := [none, some ⟨33, .box poZ⟩, some ⟨33, .box (poB r.start (.sl 3 0 k) (.sl 4 0 k))⟩, some ⟨3, .ints .i64 A⟩, some ⟨3, .ints .i64 A⟩, none]) [(2, .ptr 1 0 0), (5, .ptr 2 0 0), (19, .ro (zAj r.pcs) 0 r.pcs.length), (20, iN r.pcs.length), (21, iN k), (7, .rp (.box (pcC p)) 0 0), (26, .ptr 2 0 1), (28, .rp (.box (pcC p)) 0 1), (33, .ptr 2 0 2), (35, .rp (.box (pcC p)) 0 1), (39, .ptr 2 0 1), (41, .ptr 2 0 1), (27, .sl 3 0 k), (29, .int .i64 p.hand)]
  intro s5
  apply zT (H := [none, some ⟨33, .box poZ⟩, some ⟨33, .box (poB r.start (.sl 3 0 k) (.sl 4 0 k))⟩, some ⟨3, .ints .i64 A⟩, some ⟨3, .ints .i64 A⟩, none]) [(2, .ptr 1 0 0), (5, .ptr 2 0 0), (19, .ro (zAj r.pcs) 0 r.pcs.length), (20, iN r.pcs.length), (21, iN k), (7, .rp (.box (pcC p)) 0 0), (26, .ptr 2 0 1), (28, .rp (.box (pcC p)) 0 1), (33, .ptr 2 0 2), (35, .rp (.box (pcC p)) 0 1), (39, .ptr 2 0 1), (41, .ptr 2 0 1), (36, .int .i64 p.hand)]
  intro s4
  apply zT (H := [none, some ⟨33, .box poZ⟩, some ⟨33, .box (poB r.start (.sl 3 0 k) (.sl 4 0 k))⟩, some ⟨3, .ints .i64 A⟩, some ⟨3, .ints .i64 A⟩, none]) [(2, .ptr 1 0 0), (5, .ptr 2 0 0), (19, .ro (zAj r.pcs) 0 r.pcs.length), (20, iN r.pcs.length), (21, iN k), (7, .rp (.box (pcC p)) 0 0), (26, .ptr 2 0 1), (28, .rp (.box (pcC p)) 0 1), (33, .ptr 2 0 2), (35, .rp (.box (pcC p)) 0 1), (39, .ptr 2 0 1), (41, .ptr 2 0 1), (34, .sl 4 0 k)]
  intro s3
  apply zT (H := [none, some ⟨33, .box poZ⟩, some ⟨33, .box (poB r.start (.sl 3 0 k) (.sl 4 0 k))⟩, some ⟨3, .ints .i64 A⟩, some ⟨3, .ints .i64 A⟩, none]) [(2, .ptr 1 0 0), (5, .ptr 2 0 0), (19, .ro (zAj r.pcs) 0 r.pcs.length), (20, iN r.pcs.length), (21, iN k), (7, .rp (.box (pcC p)) 0 0), (26, .ptr 2 0 1), (28, .rp (.box (pcC p)) 0 1), (33, .ptr 2 0 2), (35, .rp (.box (pcC p)) 0 1), (39, .ptr 2 0 1), (41, .ptr 2 0 1), (29, .int .i64 p.hand)]
  intro s2
  apply zT (H := [none, some ⟨33, .box poZ⟩, some ⟨33, .box (poB r.start (.sl 3 0 k) (.sl 4 0 k))⟩, some ⟨3, .ints .i64 A⟩, some ⟨3, .ints .i64 A⟩, none]) [(2, .ptr 1 0 0), (5, .ptr 2 0 0), (19, .ro (zAj r.pcs) 0 r.pcs.length), (20, iN r.pcs.length), (21, iN k), (7, .rp (.box (pcC p)) 0 0), (26, .ptr 2 0 1), (28, .rp (.box (pcC p)) 0 1), (33, .ptr 2 0 2), (35, .rp (.box (pcC p)) 0 1), (39, .ptr 2 0 1), (41, .ptr 2 0 1), (27, .sl 3 0 k)]
  intro s1
  ·refine zH (is := [2, 4, 9, 11]) (by kernel_rfl) (by simp) U ⟨fun o ho => ?_, fun o ho => ?_, fun o ho => ?_, fun o ho => ?_, trivial⟩
   all_goals (cases ho)
   ·refine rn4 ?_
    exact s1 _ ⟨U, U, U, U, U, U, U, U, U, U, U, U, U, trivial⟩
   ·repeat (first | refine zC ?_ | refine zX ?_ | refine zA (zD rfl rfl rfl rfl) ?_)
    exact s2 _ ⟨U, U, U, U, U, U, U, U, U, U, U, U, U, trivial⟩
   ·refine rn4 ?_
    exact s3 _ ⟨U, U, U, U, U, U, U, U, U, U, U, U, U, trivial⟩
   ·repeat (first | refine zC ?_ | refine zX ?_ | refine zA (zD rfl rfl rfl rfl) ?_)
    exact s4 _ ⟨U, U, U, U, U, U, U, U, U, U, U, U, U, trivial⟩
  ·refine zH (is := [4, 9, 11]) (by kernel_rfl) (by simp) U ⟨fun o ho => ?_, fun o ho => ?_, fun o ho => ?_, trivial⟩
   all_goals (cases ho)
   ·repeat (first | refine zC ?_ | refine zX ?_ | refine zA (zD rfl rfl rfl rfl) ?_)
    exact s5 _ ⟨U, U, U, U, U, U, U, U, U, U, U, U, U, U, trivial⟩
   ·refine rn4 ?_
    exact s6 _ ⟨U, U, U, U, U, U, U, U, U, U, U, U, U, U, trivial⟩
   ·repeat (first | refine zC ?_ | refine zX ?_ | refine zA (zD rfl rfl rfl rfl) ?_)
    exact s7 _ ⟨U, U, U, U, U, U, U, U, U, U, U, U, U, U, trivial⟩
  ·refine zH (is := [2, 5, 9, 11]) (by kernel_rfl) (by simp) U ⟨fun o ho => ?_, fun o ho => ?_, fun o ho => ?_, fun o ho => ?_, trivial⟩
   all_goals (cases ho)
   ·refine rn4 ?_
    exact s5 _ ⟨U, U, U, U, U, U, U, U, U, U, U, U, U, U, trivial⟩
   ·refine rn3 ?_
    exact s8 _ ⟨U, U, U, U, U, U, U, U, U, U, U, U, U, trivial⟩
   ·refine rn4 ?_
    exact s9 _ ⟨U, U, U, U, U, U, U, U, U, U, U, U, U, U, trivial⟩
   ·repeat (first | refine zC ?_ | refine zX ?_ | refine zA (zD rfl rfl rfl rfl) ?_)
    exact s10 _ ⟨U, U, U, U, U, U, U, U, U, U, U, U, U, U, trivial⟩
  ·refine zH (is := [2, 4, 11]) (by kernel_rfl) (by simp) U ⟨fun o ho => ?_, fun o ho => ?_, fun o ho => ?_, trivial⟩
   all_goals (cases ho)
   ·refine rn4 ?_
    exact s6 _ ⟨U, U, U, U, U, U, U, U, U, U, U, U, U, U, trivial⟩
   ·repeat (first | refine zC ?_ | refine zX ?_ | refine zA (zD rfl rfl rfl rfl) ?_)
    exact s9 _ ⟨U, U, U, U, U, U, U, U, U, U, U, U, U, U, trivial⟩
   ·repeat (first | refine zC ?_ | refine zX ?_ | refine zA (zD rfl rfl rfl rfl) ?_)
    exact s11 _ ⟨U, U, U, U, U, U, U, U, U, U, U, U, U, U, trivial⟩
  ·refine zH (is := [2, 4, 9, 12]) (by kernel_rfl) (by simp) U ⟨fun o ho => ?_, fun o ho => ?_, fun o ho => ?_, fun o ho => ?_, trivial⟩
   all_goals (cases ho)
   ·refine rn4 ?_
    exact s7 _ ⟨U, U, U, U, U, U, U, U, U, U, U, U, U, U, trivial⟩
   ·repeat (first | refine zC ?_ | refine zX ?_ | refine zA (zD rfl rfl rfl rfl) ?_)
    exact s10 _ ⟨U, U, U, U, U, U, U, U, U, U, U, U, U, U, trivial⟩
   ·refine rn4 ?_
    exact s11 _ ⟨U, U, U, U, U, U, U, U, U, U, U, U, U, U, trivial⟩
   ·refine rn3 ?_
    exact s12 _ ⟨U, U, U, U, U, U, U, U, U, U, U, U, U, trivial⟩
  ·refine zH (is := [5, 9, 11]) (by kernel_rfl) (by simp) U ⟨fun o ho => ?_, fun o ho => ?_, fun o ho => ?_, trivial⟩
   all_goals (cases ho)
   ·refine rn3 ?_
    exact s13 _ ⟨U, U, U, U, U, U, U, U, U, U, U, U, U, U, trivial⟩
   ·refine rn4 ?_
    exact s14 _ ⟨U, U, U, U, U, U, U, U, U, U, U, U, U, U, U, trivial⟩
   ·repeat (first | refine zC ?_ | refine zX ?_ | refine zA (zD rfl rfl rfl rfl) ?_)
    exact s15 _ ⟨U, U, U, U, U, U, U, U, U, U, U, U, U, U, U, trivial⟩
  ·refine zH (is := [4, 11]) (by kernel_rfl) (by simp) U ⟨fun o ho => ?_, fun o ho => ?_, trivial⟩
   all_goals (cases ho)
   ·repeat (first | refine zC ?_ | refine zX ?_ | refine zA (zD rfl rfl rfl rfl) ?_)
    exact s14 _ ⟨U, U, U, U, U, U, U, U, U, U, U, U, U, U, U, trivial⟩
   ·repeat (first | refine zC ?_ | refine zX ?_ | refine zA (zD rfl rfl rfl rfl) ?_)
    exact s16 _ ⟨U, U, U, U, U, U, U, U, U, U, U, U, U, U, U, trivial⟩
  ·refine zH (is := [4, 9, 12]) (by kernel_rfl) (by simp) U ⟨fun o ho => ?_, fun o ho => ?_, fun o ho => ?_, trivial⟩
   all_goals (cases ho)
   ·repeat (first | refine zC ?_ | refine zX ?_ | refine zA (zD rfl rfl rfl rfl) ?_)
    exact s15 _ ⟨U, U, U, U, U, U, U, U, U, U, U, U, U, U, U, trivial⟩
   ·refine rn4 ?_
    exact s16 _ ⟨U, U, U, U, U, U, U, U, U, U, U, U, U, U, U, trivial⟩
   ·refine rn3 ?_
    exact s17 _ ⟨U, U, U, U, U, U, U, U, U, U, U, U, U, U, trivial⟩
  ·refine zH (is := [2, 9, 11]) (by kernel_rfl) (by simp) U ⟨fun o ho => ?_, fun o ho => ?_, fun o ho => ?_, trivial⟩
   all_goals (cases ho)
   ·refine rn4 ?_
    exact s13 _ ⟨U, U, U, U, U, U, U, U, U, U, U, U, U, U, trivial⟩
   ·refine rn4 ?_
    exact s18 _ ⟨U, U, U, U, U, U, U, U, U, U, U, U, U, U, trivial⟩
   ·repeat (first | refine zC ?_ | refine zX ?_ | refine zA (zD rfl rfl rfl rfl) ?_)
    exact s19 _ ⟨U, U, U, U, U, U, U, U, U, U, U, U, U, U, trivial⟩
  ·refine zH (is := [2, 5, 11]) (by kernel_rfl) (by simp) U ⟨fun o ho => ?_, fun o ho => ?_, fun o ho => ?_, trivial⟩
   all_goals (cases ho)
   ·refine rn4 ?_
    exact s14 _ ⟨U, U, U, U, U, U, U, U, U, U, U, U, U, U, U, trivial⟩
   ·refine rn3 ?_
    exact s18 _ ⟨U, U, U, U, U, U, U, U, U, U, U, U, U, U, trivial⟩
   ·repeat (first | refine zC ?_ | refine zX ?_ | refine zA (zD rfl rfl rfl rfl) ?_)
    exact s20 _ ⟨U, U, U, U, U, U, U, U, U, U, U, U, U, U, U, trivial⟩
  ·refine zH (is := [2, 5, 9, 12]) (by kernel_rfl) (by simp) U ⟨fun o ho => ?_, fun o ho => ?_, fun o ho => ?_, fun o ho => ?_, trivial⟩
   all_goals (cases ho)
   ·refine rn4 ?_
    exact s15 _ ⟨U, U, U, U, U, U, U, U, U, U, U, U, U, U, U, trivial⟩
   ·refine rn3 ?_
    exact s19 _ ⟨U, U, U, U, U, U, U, U, U, U, U, U, U, U, trivial⟩
   ·refine rn4 ?_
    exact s20 _ ⟨U, U, U, U, U, U, U, U, U, U, U, U, U, U, U, trivial⟩
   ·refine rn3 ?_
    exact s21 _ ⟨U, U, U, U, U, U, U, U, U, U, U, U, U, U, trivial⟩
  ·refine zH (is := [2, 4, 12]) (by kernel_rfl) (by simp) U ⟨fun o ho => ?_, fun o ho => ?_, fun o ho => ?_, trivial⟩
   all_goals (cases ho)
   ·refine rn4 ?_
    exact s16 _ ⟨U, U, U, U, U, U, U, U, U, U, U, U, U, U, U, trivial⟩
   ·repeat (first | refine zC ?_ | refine zX ?_ | refine zA (zD rfl rfl rfl rfl) ?_)
    exact s20 _ ⟨U, U, U, U, U, U, U, U, U, U, U, U, U, U, U, trivial⟩
   ·refine rn3 ?_
    exact s22 _ ⟨U, U, U, U, U, U, U, U, U, U, U, U, U, U, trivial⟩
  ·refine zH (is := [2, 4, 9]) (by kernel_rfl) (by simp) U ⟨fun o ho => ?_, fun o ho => ?_, fun o ho => ?_, trivial⟩
   all_goals (cases ho)
   ·refine rn4 ?_
    exact s17 _ ⟨U, U, U, U, U, U, U, U, U, U, U, U, U, U, trivial⟩
   ·repeat (first | refine zC ?_ | refine zX ?_ | refine zA (zD rfl rfl rfl rfl) ?_)
    exact s21 _ ⟨U, U, U, U, U, U, U, U, U, U, U, U, U, U, trivial⟩
   ·refine rn4 ?_
    exact s22 _ ⟨U, U, U, U, U, U, U, U, U, U, U, U, U, U, trivial⟩
  ·refine zH (is := [6, 9, 11]) (by kernel_rfl) (by simp) U ⟨fun o ho => ?_, fun o ho => ?_, fun o ho => ?_, trivial⟩
   all_goals (cases ho)
   ·refine zAt U U U U U U U U U htl U U (by show 0 + 1 ≤ 1; omega) U hb (fun i j _ _ => rfl) (by rw [hfix]; exact fun h => h) ?_
    refine rn1 ?_
    exact s23 _ ⟨U, U, U, U, U, U, U, U, U, U, U, U, U, trivial⟩
   ·refine rn4 ?_
    exact s24 _ ⟨U, U, U, U, U, U, U, U, U, U, U, U, U, U, U, trivial⟩
   ·repeat (first | refine zC ?_ | refine zX ?_ | refine zA (zD rfl rfl rfl rfl) ?_)
    exact s25 _ ⟨U, U, U, U, U, U, U, U, U, U, U, U, U, U, U, trivial⟩
  ·refine zH (is := [5, 11]) (by kernel_rfl) (by simp) U ⟨fun o ho => ?_, fun o ho => ?_, trivial⟩
   all_goals (cases ho)
   ·refine rn3 ?_
    exact s24 _ ⟨U, U, U, U, U, U, U, U, U, U, U, U, U, U, U, trivial⟩
   ·repeat (first | refine zC ?_ | refine zX ?_ | refine zA (zD rfl rfl rfl rfl) ?_)
    exact s26 _ ⟨U, U, U, U, U, U, U, U, U, U, U, U, U, U, U, U, trivial⟩
  ·refine zH (is := [5, 9, 12]) (by kernel_rfl) (by simp) U ⟨fun o ho => ?_, fun o ho => ?_, fun o ho => ?_, trivial⟩
   all_goals (cases ho)
   ·refine rn3 ?_
    exact s25 _ ⟨U, U, U, U, U, U, U, U, U, U, U, U, U, U, U, trivial⟩
   ·refine rn4 ?_
    exact s26 _ ⟨U, U, U, U, U, U, U, U, U, U, U, U, U, U, U, U, trivial⟩
   ·refine rn3 ?_
    exact s27 _ ⟨U, U, U, U, U, U, U, U, U, U, U, U, U, U, U, trivial⟩
  ·refine zH (is := [4, 12]) (by kernel_rfl) (by simp) U ⟨fun o ho => ?_, fun o ho => ?_, trivial⟩
   all_goals (cases ho)
   ·repeat (first | refine zC ?_ | refine zX ?_ | refine zA (zD rfl rfl rfl rfl) ?_)
    exact s26 _ ⟨U, U, U, U, U, U, U, U, U, U, U, U, U, U, U, U, trivial⟩
   ·refine rn3 ?_
    exact s28 _ ⟨U, U, U, U, U, U, U, U, U, U, U, U, U, U, U, trivial⟩
  ·refine zH (is := [4, 9]) (by kernel_rfl) (by simp) U ⟨fun o ho => ?_, fun o ho => ?_, trivial⟩
   all_goals (cases ho)
   ·repeat (first | refine zC ?_ | refine zX ?_ | refine zA (zD rfl rfl rfl rfl) ?_)
    exact s27 _ ⟨U, U, U, U, U, U, U, U, U, U, U, U, U, U, U, trivial⟩
   ·refine rn4 ?_
    exact s28 _ ⟨U, U, U, U, U, U, U, U, U, U, U, U, U, U, U, trivial⟩
  ·refine zH (is := [2, 11]) (by kernel_rfl) (by simp) U ⟨fun o ho => ?_, fun o ho => ?_, trivial⟩
   all_goals (cases ho)
   ·refine rn4 ?_
    exact s24 _ ⟨U, U, U, U, U, U, U, U, U, U, U, U, U, U, U, trivial⟩
   ·repeat (first | refine zC ?_ | refine zX ?_ | refine zA (zD rfl rfl rfl rfl) ?_)
    exact s29 _ ⟨U, U, U, U, U, U, U, U, U, U, U, U, U, U, U, trivial⟩
  ·refine zH (is := [2, 9, 12]) (by kernel_rfl) (by simp) U ⟨fun o ho => ?_, fun o ho => ?_, fun o ho => ?_, trivial⟩
   all_goals (cases ho)
   ·refine rn4 ?_
    exact s25 _ ⟨U, U, U, U, U, U, U, U, U, U, U, U, U, U, U, trivial⟩
   ·refine rn4 ?_
    exact s29 _ ⟨U, U, U, U, U, U, U, U, U, U, U, U, U, U, U, trivial⟩
   ·refine rn3 ?_
    exact s30 _ ⟨U, U, U, U, U, U, U, U, U, U, U, U, U, U, trivial⟩
  ·refine zH (is := [2, 5, 12]) (by kernel_rfl) (by simp) U ⟨fun o ho => ?_, fun o ho => ?_, fun o ho => ?_, trivial⟩
   all_goals (cases ho)
   ·refine rn4 ?_
    exact s26 _ ⟨U, U, U, U, U, U, U, U, U, U, U, U, U, U, U, U, trivial⟩
   ·refine rn3 ?_
    exact s29 _ ⟨U, U, U, U, U, U, U, U, U, U, U, U, U, U, U, trivial⟩
   ·refine rn3 ?_
    exact s31 _ ⟨U, U, U, U, U, U, U, U, U, U, U, U, U, U, U, trivial⟩
  ·refine zH (is := [2, 5, 9]) (by kernel_rfl) (by simp) U ⟨fun o ho => ?_, fun o ho => ?_, fun o ho => ?_, trivial⟩
   all_goals (cases ho)
   ·refine rn4 ?_
    exact s27 _ ⟨U, U, U, U, U, U, U, U, U, U, U, U, U, U, U, trivial⟩
   ·refine rn3 ?_
    exact s30 _ ⟨U, U, U, U, U, U, U, U, U, U, U, U, U, U, trivial⟩
   ·refine rn4 ?_
    exact s31 _ ⟨U, U, U, U, U, U, U, U, U, U, U, U, U, U, U, trivial⟩
  ·refine zH (is := [2, 4]) (by kernel_rfl) (by simp) U ⟨fun o ho => ?_, fun o ho => ?_, trivial⟩
   all_goals (cases ho)
   ·refine rn4 ?_
    exact s28 _ ⟨U, U, U, U, U, U, U, U, U, U, U, U, U, U, U, trivial⟩
   ·repeat (first | refine zC ?_ | refine zX ?_ | refine zA (zD rfl rfl rfl rfl) ?_)
    exact s31 _ ⟨U, U, U, U, U, U, U, U, U, U, U, U, U, U, U, trivial⟩
  ·refine zH (is := [9, 11]) (by kernel_rfl) (by simp) U ⟨fun o ho => ?_, fun o ho => ?_, trivial⟩
   all_goals (cases ho)
   ·refine rn4 ?_
    exact s32 _ ⟨U, U, U, U, U, U, U, U, U, U, U, U, U, U, trivial⟩
   ·repeat (first | refine zC ?_ | refine zX ?_ | refine zA (zD rfl rfl rfl rfl) ?_)
    exact s33 _ ⟨U, U, U, U, U, U, U, U, U, U, U, U, U, U, trivial⟩
  ·refine zH (is := [6, 11]) (by kernel_rfl) (by simp) U ⟨fun o ho => ?_, fun o ho => ?_, trivial⟩
   all_goals (cases ho)
   ·refine zAt U U U U U U U U U htl U U (by show 0 + 1 ≤ 1; omega) U hb (fun i j _ _ => rfl) (by rw [hfix]; exact fun h => h) ?_
    refine rn1 ?_
    exact s32 _ ⟨U, U, U, U, U, U, U, U, U, U, U, U, U, U, trivial⟩
   ·repeat (first | refine zC ?_ | refine zX ?_ | refine zA (zD rfl rfl rfl rfl) ?_)
    exact s34 _ ⟨U, U, U, U, U, U, U, U, U, U, U, U, U, U, U, U, trivial⟩
  ·refine zH (is := [6, 9, 12]) (by kernel_rfl) (by simp) U ⟨fun o ho => ?_, fun o ho => ?_, fun o ho => ?_, trivial⟩
   all_goals (cases ho)
   ·refine zAt U U U U U U U U U htl U U (by show 0 + 1 ≤ 1; omega) U hb (fun i j _ _ => rfl) (by rw [hfix]; exact fun h => h) ?_
    refine rn1 ?_
    exact s33 _ ⟨U, U, U, U, U, U, U, U, U, U, U, U, U, U, trivial⟩
   ·refine rn4 ?_
    exact s34 _ ⟨U, U, U, U, U, U, U, U, U, U, U, U, U, U, U, U, trivial⟩
   ·refine rn3 ?_
    exact s35 _ ⟨U, U, U, U, U, U, U, U, U, U, U, U, U, U, U, trivial⟩
  ·refine zH (is := [5, 12]) (by kernel_rfl) (by simp) U ⟨fun o ho => ?_, fun o ho => ?_, trivial⟩
   all_goals (cases ho)
   ·refine rn3 ?_
    exact s34 _ ⟨U, U, U, U, U, U, U, U, U, U, U, U, U, U, U, U, trivial⟩
   ·refine rn3 ?_
    exact s36 _ ⟨U, U, U, U, U, U, U, U, U, U, U, U, U, U, U, U, trivial⟩
  ·refine zH (is := [5, 9]) (by kernel_rfl) (by simp) U ⟨fun o ho => ?_, fun o ho => ?_, trivial⟩
   all_goals (cases ho)
   ·refine rn3 ?_
    exact s35 _ ⟨U, U, U, U, U, U, U, U, U, U, U, U, U, U, U, trivial⟩
   ·refine rn4 ?_
    exact s36 _ ⟨U, U, U, U, U, U, U, U, U, U, U, U, U, U, U, U, trivial⟩
  ·refine zH (is := [4]) (by kernel_rfl) (by simp) U ⟨fun o ho => ?_, trivial⟩
   all_goals (cases ho)
   repeat (first | refine zC ?_ | refine zX ?_ | refine zA (zD rfl rfl rfl rfl) ?_)
   exact s36 _ ⟨U, U, U, U, U, U, U, U, U, U, U, U, U, U, U, U, trivial⟩
  ·refine zH (is := [2, 12]) (by kernel_rfl) (by simp) U ⟨fun o ho => ?_, fun o ho => ?_, trivial⟩
   all_goals (cases ho)
   ·refine rn4 ?_
    exact s34 _ ⟨U, U, U, U, U, U, U, U, U, U, U, U, U, U, U, U, trivial⟩
   ·refine rn3 ?_
    exact s37 _ ⟨U, U, U, U, U, U, U, U, U, U, U, U, U, U, U, trivial⟩
  ·refine zH (is := [2, 9]) (by kernel_rfl) (by simp) U ⟨fun o ho => ?_, fun o ho => ?_, trivial⟩
   all_goals (cases ho)
   ·refine rn4 ?_
    exact s35 _ ⟨U, U, U, U, U, U, U, U, U, U, U, U, U, U, U, trivial⟩
   ·refine rn4 ?_
    exact s37 _ ⟨U, U, U, U, U, U, U, U, U, U, U, U, U, U, U, trivial⟩
  ·refine zH (is := [2, 5]) (by kernel_rfl) (by simp) U ⟨fun o ho => ?_, fun o ho => ?_, trivial⟩
   all_goals (cases ho)
   ·refine rn4 ?_
    exact s36 _ ⟨U, U, U, U, U, U, U, U, U, U, U, U, U, U, U, U, trivial⟩
   ·refine rn3 ?_
    exact s37 _ ⟨U, U, U, U, U, U, U, U, U, U, U, U, U, U, U, trivial⟩
  ·refine zH (is := [11, 15]) (by kernel_rfl) (by simp) U ⟨fun o ho => ?_, fun o ho => ?_, trivial⟩
   all_goals (cases ho)
   ·repeat (first | refine zC ?_ | refine zX ?_ | refine zA (zD rfl rfl rfl rfl) ?_)
    exact s38 _ ⟨U, U, U, U, U, U, U, U, U, U, U, U, U, U, U, trivial⟩
   ·refine rn10 ?_
    exact s39 _ ⟨U, U, U, U, U, U, U, U, U, U, U, U, U, U, U, trivial⟩
  ·refine zH (is := [9, 12]) (by kernel_rfl) (by simp) U ⟨fun o ho => ?_, fun o ho => ?_, trivial⟩
   all_goals (cases ho)
   ·refine rn4 ?_
    exact s38 _ ⟨U, U, U, U, U, U, U, U, U, U, U, U, U, U, U, trivial⟩
   ·refine rn3 ?_
    exact s40 _ ⟨U, U, U, U, U, U, U, U, U, U, U, U, U, U, trivial⟩
  ·refine zH (is := [6, 12]) (by kernel_rfl) (by simp) U ⟨fun o ho => ?_, fun o ho => ?_, trivial⟩
   all_goals (cases ho)
   ·refine zAt U U U U U U U U U htl U U (by show 0 + 1 ≤ 1; omega) U hb (fun i j _ _ => rfl) (by rw [hfix]; exact fun h => h) ?_
    refine rn1 ?_
    exact s38 _ ⟨U, U, U, U, U, U, U, U, U, U, U, U, U, U, U, trivial⟩
   ·refine rn3 ?_
    exact s41 _ ⟨U, U, U, U, U, U, U, U, U, U, U, U, U, U, U, U, trivial⟩
  ·refine zH (is := [6, 9]) (by kernel_rfl) (by simp) U ⟨fun o ho => ?_, fun o ho => ?_, trivial⟩
   all_goals (cases ho)
   ·refine zAt U U U U U U U U U htl U U (by show 0 + 1 ≤ 1; omega) U hb (fun i j _ _ => rfl) (by rw [hfix]; exact fun h => h) ?_
    refine rn1 ?_
    exact s40 _ ⟨U, U, U, U, U, U, U, U, U, U, U, U, U, U, trivial⟩
   ·refine rn4 ?_
    exact s41 _ ⟨U, U, U, U, U, U, U, U, U, U, U, U, U, U, U, U, trivial⟩
  ·refine zH (is := [5]) (by kernel_rfl) (by simp) U ⟨fun o ho => ?_, trivial⟩
   all_goals (cases ho)
   refine rn3 ?_
   exact s41 _ ⟨U, U, U, U, U, U, U, U, U, U, U, U, U, U, U, U, trivial⟩
  ·refine zH (is := [2]) (by kernel_rfl) (by simp) U ⟨fun o ho => ?_, trivial⟩
   all_goals (cases ho)
   refine rn4 ?_
   exact s41 _ ⟨U, U, U, U, U, U, U, U, U, U, U, U, U, U, U, U, trivial⟩
  ·refine zH (is := [12, 15]) (by kernel_rfl) (by simp) U ⟨fun o ho => ?_, fun o ho => ?_, trivial⟩
   all_goals (cases ho)
   ·refine rn3 ?_
    exact s42 _ ⟨U, U, U, U, U, U, U, U, U, U, U, U, U, U, U, trivial⟩
   ·refine rn10 ?_
    exact s43 _ ⟨U, U, U, U, U, U, U, U, U, U, U, U, U, U, U, U, trivial⟩
  ·refine zH (is := [11]) (by kernel_rfl) (by simp) U ⟨fun o ho => ?_, trivial⟩
   all_goals (cases ho)
   repeat (first | refine zC ?_ | refine zX ?_ | refine zA (zD rfl rfl rfl rfl) ?_)
   exact s43 _ ⟨U, U, U, U, U, U, U, U, U, U, U, U, U, U, U, U, trivial⟩
  ·refine zH (is := [9]) (by kernel_rfl) (by simp) U ⟨fun o ho => ?_, trivial⟩
   all_goals (cases ho)
   refine rn4 ?_
   exact s42 _ ⟨U, U, U, U, U, U, U, U, U, U, U, U, U, U, U, trivial⟩
  ·refine zH (is := [6]) (by kernel_rfl) (by simp) U ⟨fun o ho => ?_, trivial⟩
   all_goals (cases ho)
   refine zAt U U U U U U U U U htl U U (by show 0 + 1 ≤ 1; omega) U hb (fun i j _ _ => rfl) (by rw [hfix]; exact fun h => h) ?_
   refine rn1 ?_
   exact s42 _ ⟨U, U, U, U, U, U, U, U, U, U, U, U, U, U, U, trivial⟩
  ·refine zH (is := [13, 15]) (by kernel_rfl) (by simp) U ⟨fun o ho => ?_, fun o ho => ?_, trivial⟩
   all_goals (cases ho)
   ·refine zAt U U U U U U U U U htl U U (by show 0 + 1 ≤ 1; omega) U hb (fun i j _ _ => rfl) (by rw [hfix]; exact fun h => h) ?_
    refine rn1 ?_
    exact s44 _ ⟨U, U, U, U, U, U, U, U, U, U, U, U, U, U, trivial⟩
   ·refine rn10 ?_
    exact s45 _ ⟨U, U, U, U, U, U, U, U, U, U, U, U, U, U, U, U, trivial⟩
  ·refine zH (is := [12]) (by kernel_rfl) (by simp) U ⟨fun o ho => ?_, trivial⟩
   all_goals (cases ho)
   refine rn3 ?_
   exact s45 _ ⟨U, U, U, U, U, U, U, U, U, U, U, U, U, U, U, U, trivial⟩
  ·refine zH (is := [15]) (by kernel_rfl) (by simp) U ⟨fun o ho => ?_, trivial⟩
   all_goals (cases ho)
   refine rn10 ?_
   exact fin _ ⟨U, U, U, U, U, U, U, U, U, trivial⟩
  ·refine zH (is := [13]) (by kernel_rfl) (by simp) U ⟨fun o ho => ?_, trivial⟩
   all_goals (cases ho)
   refine zAt U U U U U U U U U htl U U (by show 0 + 1 ≤ 1; omega) U hb (fun i j _ _ => rfl) (by rw [hfix]; exact fun h => h) ?_
   refine rn1 ?_
   exact fin _ ⟨U, U, U, U, U, U, U, U, U, trivial⟩
  refine zH (is := [16]) (by kernel_rfl) (by simp) U ⟨fun o ho => ?_, trivial⟩
  all_goals (cases ho)
  refine rn9 ?_
  refine zS 18 U (by kernel_rfl) (by kernel_rfl) (by kernel_rfl) U (zAk U U U U (by first | (simp only [Nat.zero_add, Int.toNat_natCast]; exact U) | exact U) (by omega)) U ?_
  refine zH (is := [19]) (by kernel_rfl) (by simp) U ⟨fun o ho => ?_, trivial⟩
  all_goals (cases ho)
  refine rn9 ?_
  refine zW (by kernel_rfl) ?_
  repeat (refine zAY ?_)
  refine zB ?_
  refine zB2 (hpB r.start (.sl 3 0 (k + 1)) (.sl 4 0 (k + 1)) (A ++ [p.hand]) (A ++ [p.hand])) [none] [(2, .ptr 1 0 0), (5, .ptr 2 0 0), (19, .ro (zAj r.pcs) 0 r.pcs.length), (20, iN r.pcs.length), (21, iN k)] U ⟨U, U, U, U, U, trivial⟩ (fun h hh => by rw [hfix] at hh; exact hh.elim) (bl_n (zBY (zDr U) (zBY (zDr U) (zBY (fun _ _ _ _ => rfl) (zBY (fun _ _ _ _ => rfl) zBZ))))) U ?_
  refine rn3 ?_
  exact zR ⟨k + 1, by omega, by omega, ⟨U, U, U, U, U, trivial⟩, by rw [htk]⟩
 ·have hk' : k = r.pcs.length := by omega
  subst hk'
  have htl : (zBj r).take r.pcs.length = zBj r := by rw [← hhl, List.take_length]
  rw [htl]
  refine rn6 ?_
  refine zZ (poB r.start (.sl 3 0 r.pcs.length) (.sl 4 0 r.pcs.length)) U U U U U U U ?_
  refine rn7 ?_
  refine zBD [none, none, none, some ⟨3, .ints .i64 (zBj r)⟩, some ⟨3, .ints .i64 (zBj r)⟩] [none, some ⟨33, .box (poB r.start (.ro (.ints .i64 (zBj r)) 0 r.pcs.length) (.ro (.ints .i64 (zBj r)) 0 r.pcs.length))⟩, none, none, none] [(2, .ptr 1 0 0), (3, .int .i64 0)] ?_ (zCh (zCh (zCh (zCA zAb (zCA zAb zCi))))) U ?_ (zCM ⟨U, U, trivial⟩) ?_
  ·intro h o ho
   match h, ho with
   | 0, ho => simp at ho
   | 1, ho => simp at ho
   | 2, ho => simp at ho
   | 3, ho => exact ho
   | 4, ho => exact ho
   | _ + 5, ho => simp at ho
  ·intro h o ho
   match h, ho with
   | 0, ho => simp at ho
   | 1, ho =>
    cases ho
    refine ⟨fun o h => by simp at h, ⟨33, .box (poB r.start (.sl 3 0 r.pcs.length) (.sl 4 0 r.pcs.length))⟩, U, U, U, U, fun i j hi hj => ?_⟩
    obtain rfl : i = 0 := Nat.lt_one_iff.1 hi
    have hj : j < 5 := hj
    match j, hj with
    | 0, _ => exact .inl rfl
    | 1, _ => exact .inr (.inr ⟨rfl, fun o ho => by cases ho; show 0 + r.pcs.length ≤ (zBj r).length; omega⟩)
    | 2, _ => exact .inr (.inr ⟨rfl, fun o ho => by cases ho; show 0 + r.pcs.length ≤ (zBj r).length; omega⟩)
    | 3, _ => exact .inl rfl
    | 4, _ => exact .inl rfl
   | 2, ho => simp at ho
   | 3, ho => simp at ho
   | 4, ho => simp at ho
   | _ + 5, ho => simp at ho
  repeat (refine z6 ?_)
  refine zN hR U ?_
  show AV.tup [.agg (poB r.start (.ro (.ints .i64 (zBj r)) 0 r.pcs.length) (.ro (.ints .i64 (zBj r)) 0 r.pcs.length)), .int .i64 0] = _
  rw [← hhl]; rfl
def poS (p : Pos) (n : Nat) : List AV := [.sl n 0 p.cells.length, .sl (n + 1) 0 p.h0.length, .sl (n + 2) 0 p.h1.length, .int .i64 p.turn, .int .i64 p.quiet]
/-- place.Copy, whose slices are the caller's -/
theorem zLh (p : Pos) (hp : SmallP p) : MCall Tryz.prog 20 [poA p] (.agg (poS p 2)) [some ⟨33, .box (poS p 2)⟩, some ⟨33, .box (poS p 2)⟩, some ⟨3, .ints .i64 p.cells⟩, some ⟨3, .ints .i64 p.h0⟩, some ⟨3, .ints .i64 p.h1⟩] := by
 refine zd.many (zL (P := Tryz.prog) (fn := Tryz.f20) U U (by kernel_rfl) U (fun c hR hfix => ?_)) (fix := fun _ => False) (fun _ h => h) U
 obtain ⟨h1, h2, h3⟩ := hp
 refine rn6 ?_
 refine zD4 U U U (zLc p.cells (by omega)) ?_
 refine rn8 ?_
 refine ze (by kernel_rfl) ?_
 refine zS 0 U (by kernel_rfl) (by kernel_rfl) (by kernel_rfl) U (zO U U U U U U) U ?_
 refine zS 1 U (by kernel_rfl) (by kernel_rfl) (by kernel_rfl) U (zAk U U U U (by first | (simp only [Nat.zero_add, Int.toNat_natCast]; exact U) | exact U) (by omega)) U ?_
 refine zS 4 U (by kernel_rfl) (by kernel_rfl) (by kernel_rfl) U (zO U U U U U U) U ?_
 refine zS 5 U (by kernel_rfl) (by kernel_rfl) (by kernel_rfl) U (zAk U U U U (by first | (simp only [Nat.zero_add, Int.toNat_natCast]; exact U) | exact U) (by omega)) U ?_
 apply zT (H := [some ⟨33, .box [.sl 2 0 p.cells.length, z8 p.h0, z8 p.h1, .int .i64 p.turn, .int .i64 p.quiet]⟩, some ⟨33, .box poZ⟩, some ⟨3, .ints .i64 p.cells⟩, some ⟨3, .ints .i64 p.h0⟩, some ⟨3, .ints .i64 p.h1⟩]) [(1, .ptr 0 0 0), (2, .ptr 1 0 0), (10, .sl 3 0 p.h0.length), (14, .sl 4 0 p.h1.length)]
 intro fin
 apply zT (H := [some ⟨33, .box [.sl 2 0 p.cells.length, z8 p.h0, z8 p.h1, .int .i64 p.turn, .int .i64 p.quiet]⟩, some ⟨33, .box poZ⟩, some ⟨3, .ints .i64 p.cells⟩, some ⟨3, .ints .i64 p.h0⟩]) [(1, .ptr 0 0 0), (2, .ptr 1 0 0), (8, .ptr 0 0 1), (12, .ptr 0 0 2), (10, .sl 3 0 p.h0.length), (13, z8 p.h1)]
 intro s5
 apply zT (H := [some ⟨33, .box [.sl 2 0 p.cells.length, z8 p.h0, z8 p.h1, .int .i64 p.turn, .int .i64 p.quiet]⟩, some ⟨33, .box poZ⟩, some ⟨3, .ints .i64 p.cells⟩]) [(1, .ptr 0 0 0), (2, .ptr 1 0 0), (8, .ptr 0 0 1), (12, .ptr 0 0 2), (9, z8 p.h0), (13, z8 p.h1)]
 intro s4
 apply zT (H := [some ⟨33, .box [.sl 2 0 p.cells.length, z8 p.h0, z8 p.h1, .int .i64 p.turn, .int .i64 p.quiet]⟩, some ⟨33, .box poZ⟩, some ⟨3, .ints .i64 p.cells⟩, some ⟨3, .ints .i64 p.h0⟩]) [(1, .ptr 0 0 0), (2, .ptr 1 0 0), (8, .ptr 0 0 1), (12, .ptr 0 0 2), (10, .sl 3 0 p.h0.length)]
 intro s3
 apply zT (H := [some ⟨33, .box [.sl 2 0 p.cells.length, z8 p.h0, z8 p.h1, .int .i64 p.turn, .int .i64 p.quiet]⟩, some ⟨33, .box poZ⟩, some ⟨3, .ints .i64 p.cells⟩]) [(1, .ptr 0 0 0), (2, .ptr 1 0 0), (8, .ptr 0 0 1), (12, .ptr 0 0 2), (13, z8 p.h1)]
 intro s2
 apply zT (H := [some ⟨33, .box [.sl 2 0 p.cells.length, z8 p.h0, z8 p.h1, .int .i64 p.turn, .int .i64 p.quiet]⟩, some ⟨33, .box poZ⟩, some ⟨3, .ints .i64 p.cells⟩]) [(1, .ptr 0 0 0), (2, .ptr 1 0 0), (8, .ptr 0 0 1), (12, .ptr 0 0 2), (9, z8 p.h0)]
 intro s1
 ·refine zH (is := [2, 6]) (by kernel_rfl) (by simp) U ⟨fun o ho => ?_, fun o ho => ?_, trivial⟩
  all_goals (cases ho)
  ·refine rn4 ?_
   exact s1 _ ⟨U, U, U, U, U, trivial⟩
  ·refine rn4 ?_
   exact s2 _ ⟨U, U, U, U, U, trivial⟩
 ·refine zH (is := [3, 6]) (by kernel_rfl) (by simp) U ⟨fun o ho => ?_, fun o ho => ?_, trivial⟩
  all_goals (cases ho)
  ·refine zD4 U U U (zLc p.h0 (by omega)) ?_
   refine rn1 ?_
   exact s3 _ ⟨U, U, U, U, U, trivial⟩
  ·refine rn4 ?_
   exact s4 _ ⟨U, U, U, U, U, U, trivial⟩
 ·refine zH (is := [2]) (by kernel_rfl) (by simp) U ⟨fun o ho => ?_, trivial⟩
  all_goals (cases ho)
  refine rn4 ?_
  exact s4 _ ⟨U, U, U, U, U, U, trivial⟩
 ·refine zH (is := [6]) (by kernel_rfl) (by simp) U ⟨fun o ho => ?_, trivial⟩
  all_goals (cases ho)
  refine rn4 ?_
  exact s5 _ ⟨U, U, U, U, U, U, trivial⟩
 ·refine zH (is := [3]) (by kernel_rfl) (by simp) U ⟨fun o ho => ?_, trivial⟩
  all_goals (cases ho)
  refine zD4 U U U (zLc p.h0 (by omega)) ?_
  refine rn1 ?_
  exact s5 _ ⟨U, U, U, U, U, U, trivial⟩
 ·refine zH (is := [7]) (by kernel_rfl) (by simp) U ⟨fun o ho => ?_, trivial⟩
  all_goals (cases ho)
  refine zD4 U U U (zLc p.h1 (by omega)) ?_
  refine rn1 ?_
  exact fin _ ⟨U, U, U, U, trivial⟩
 refine zS 8 U (by kernel_rfl) (by kernel_rfl) (by kernel_rfl) U (zDE U U U U U U) U ?_
 refine zS 9 U (by kernel_rfl) (by kernel_rfl) (by kernel_rfl) U (zO U U U U U U) U ?_
 refine zH (is := [10]) (by kernel_rfl) (by simp) U ⟨fun o ho => ?_, trivial⟩
 all_goals (cases ho)
 refine zGy (c' := .box (poS p 2)) (i := 0) (j := 1) U U U U U (by show 1 + 2 ≤ 5; omega) Nat.zero_lt_one U U (fun i' j' hi' hj' => ?_) ?_
 ·obtain rfl : i' = 0 := Nat.lt_one_iff.1 hi'
  have hj' : j' < 5 := hj'
  match j', hj' with
  | 0, _ => rfl
  | 1, _ => rfl
  | 2, _ => rfl
  | 3, _ => rfl
  | 4, _ => rfl
 refine rn1 ?_
 refine zW (by kernel_rfl) ?_
 refine rn6 ?_
 refine zZ (poS p 2) U U U U U U U ?_
 refine rn0 ?_
 exact zN hR U ⟨U, U⟩
/-- moves.Make, player 0 -/
theorem make0_ok (r : Go.Ax.Gm.Rules) (hv : ValidR r) (cs a b : List Int) (qt : Int) (S : Sound r ⟨cs, a, b, 0, qt⟩) (m : Mv) (hm : MvOK r ⟨cs, a, b, 0, qt⟩ m) : zl Tryz.prog 30 [ruA r, poA ⟨cs, a, b, 0, qt⟩, mvA m] (poA (zf r ⟨cs, a, b, 0, qt⟩ m)) := by
 refine zd.value0 (zL (P := Tryz.prog) (fn := Tryz.f30) U U (by kernel_rfl) U (fun c hR hfix => ?_)) (fix := fun _ => False) (fun _ h => h) U U
 have SP := zA5 hv S
 have hcc : cs.length ≤ 64 := SP.c
 have hcl : (cs.length : Int) = r.w * r.h := S.cl
 have hal : a.length = r.pcs.length := S.l0
 have hn6 := hv.n6
 have hqt : 0 ≤ qt ∧ qt ≤ 200 := S.qt
 have hain : ∀ n ∈ a, 0 ≤ n ∧ n ≤ 1000 := S.c0
 have hC12 := fun s => zIg hv S s
 have hKlt := fun s => zFE S s
 obtain ⟨m1, m2, m3, m4, m5⟩ := hm
 have m2 : m.to.toNat < cs.length := m2
 have m4 : m.pc.toNat < a.length := by omega
 have m5 : (m.fr = -1 ∧ 0 < a.getD m.pc.toNat 0) ∨ (0 ≤ m.fr ∧ m.fr.toNat < cs.length) := m5
 have hapc := hain _ (zAR 0 m4)
 refine zY ?_
 repeat (first | refine zC ?_ | refine zB ?_ | refine zJ rfl ?_ | refine zAO rfl rfl ?_ | refine zAI rfl rfl rfl ?_)
 refine zBD [some ⟨26, .box (ruC r)⟩, some ⟨33, .box (poC ⟨cs, a, b, 0, qt⟩)⟩, some ⟨85, .box (mvC m)⟩, none] [none, none, none, some ⟨33, .box poZ⟩] [(3, .rp (.box (ruC r)) 0 0), (4, .rp (.box [z8 cs, z8 a, z8 b, .int .i64 0, .int .i64 qt]) 0 0), (5, .rp (.box (mvC m)) 0 0), (6, .ptr 3 0 0)] ?_ (zCA (zu rfl) (zCA (zu rfl) (zCA (zu rfl) (zCh zCi)))) rfl ?_ ⟨⟨.ptr 0 0 0, rfl, .inr (.inr ⟨rfl, fun o ho => by cases ho; exact Nat.zero_lt_one⟩)⟩, ⟨.ptr 1 0 0, rfl, .inr (.inr ⟨rfl, fun o ho => by cases ho; exact Nat.zero_lt_one⟩)⟩, ⟨.ptr 2 0 0, rfl, .inr (.inr ⟨rfl, fun o ho => by cases ho; exact Nat.zero_lt_one⟩)⟩, ⟨_, rfl, .inl rfl⟩, trivial⟩ ?_
 ·intro h o ho
  match h, ho with
  | 0, ho => exact ho
  | 1, ho => exact ho
  | 2, ho => exact ho
  | 3, ho => simp at ho
  | _ + 4, ho => simp at ho
 ·intro h o ho
  match h, ho with
  | 0, ho => simp at ho
  | 1, ho => simp at ho
  | 2, ho => simp at ho
  | 3, ho => cases ho; exact ⟨fun o h => by simp at h, _, rfl, rfl, rfl, rfl, fun _ _ _ _ => .inl rfl⟩
  | _ + 4, ho => simp at ho
 refine rn6 ?_
 refine zIZ (.agg (poS ⟨cs, a, b, 0, qt⟩ 6)) [none, none, none, some ⟨33, .box poZ⟩, some ⟨33, .box (poS ⟨cs, a, b, 0, qt⟩ 6)⟩, some ⟨33, .box (poS ⟨cs, a, b, 0, qt⟩ 6)⟩, some ⟨3, .ints .i64 cs⟩, some ⟨3, .ints .i64 a⟩, some ⟨3, .ints .i64 b⟩] U U U (zLh _ SP) U U ?_
 repeat (refine zAI rfl rfl rfl ?_)
 refine zZ (poS ⟨cs, a, b, 0, qt⟩ 6) U U U U U U U ?_
 refine zBH [none, none, none, some ⟨33, .box poZ⟩, none, none, some ⟨3, .ints .i64 cs⟩, some ⟨3, .ints .i64 a⟩, some ⟨3, .ints .i64 b⟩, some ⟨33, .box [.sl 6 0 cs.length, .sl 7 0 a.length, .sl 8 0 b.length, .int .i64 0, .int .i64 qt]⟩] (zAs.drop (zAs.drop (zAs.drop (zAs.eqv (CEq.refl _) (zAs.drop (zAs.drop (zAs.refl _))))))) ?_
 repeat (first | refine zA (zM rfl) ?_ | refine zC ?_ | refine zB ?_ | refine zY ?_ | refine zJ rfl ?_ | refine zA (zU rfl rfl rfl rfl rfl) ?_ | refine zA (zEZ rfl rfl) ?_ | refine zA (zo rfl rfl rfl rfl rfl (by first | (simp only [Nat.zero_add, Int.toNat_natCast, Int.toNat_zero]; exact rfl) | exact rfl) (by omega)) ?_ | refine zA (zBA rfl rfl rfl rfl (by first | assumption | omega)) ?_ | refine zA (zD rfl rfl rfl rfl) ?_ | refine zA (zO rfl rfl rfl rfl rfl rfl) ?_ | refine zA (zK rfl rfl rfl rfl rfl rfl) ?_)
 obtain ⟨took, htk⟩ : ∃ took, cs.getD m.to.toNat 0 = took := ⟨_, rfl⟩
 have htk2 : zAM ⟨cs, a, b, 0, qt⟩ m.to.toNat = took := htk
 have ht12 := hC12 m.to.toNat
 have htK : took ≠ 0 → zAe took < r.pcs.length := fun q => by
  have h := hKlt m.to.toNat
  rw [htk2] at h
  exact zGF q h.1 h.2
 rw [htk2] at ht12
 obtain ⟨C1, hC1⟩ : ∃ C1, (if 0 ≤ m.fr then cs.set m.fr.toNat 0 else cs) = C1 := ⟨_, rfl⟩
 obtain ⟨A1, hA1⟩ : ∃ A1, (if 0 ≤ m.fr then a else a.set m.pc.toNat (a.getD m.pc.toNat 0 - 1)) = A1 := ⟨_, rfl⟩
 have hC1l : C1.length = cs.length := by rw [← hC1]; split <;> simp
 have hA1l : A1.length = a.length := by rw [← hA1]; split <;> simp
 have hA1in : ∀ i, -1 ≤ A1.getD i 0 ∧ A1.getD i 0 ≤ 1000 := fun i => by
  rw [← hA1]
  split
  ·by_cases q : i < a.length
   ·have := hain _ (zAR 0 q); omega
   ·rw [List.getD, List.getElem?_eq_none (by omega)]; exact ⟨by decide, by decide⟩
  ·by_cases q : i < a.length
   ·by_cases q2 : m.pc.toNat = i
    ·rw [← q2, List.getD, List.getElem?_set_self m4]; show -1 ≤ a.getD m.pc.toNat 0 - 1 ∧ a.getD m.pc.toNat 0 - 1 ≤ 1000; omega
    ·rw [List.getD, List.getElem?_set_ne q2]; have := hain _ (zAR 0 q); rw [List.getD] at this; omega
   ·rw [List.getD, List.getElem?_eq_none (by rw [List.length_set]; omega)]; exact ⟨by decide, by decide⟩
 refine zBu 8 (.int .i64 took) U (AEq.of_eq (by rw [← htk])) ?_
 apply zAL (H := [none, none, none, some ⟨33, .box poZ⟩, none, none, some ⟨3, .ints .i64 C1⟩, some ⟨3, .ints .i64 A1⟩, some ⟨3, .ints .i64 b⟩, some ⟨33, .box [.sl 6 0 cs.length, .sl 7 0 a.length, .sl 8 0 b.length, .int .i64 0, .int .i64 qt]⟩]) [(3, .rp (.box (ruC r)) 0 0), (4, .rp (.box [z8 cs, z8 a, z8 b, .int .i64 0, .int .i64 qt]) 0 0), (5, .rp (.box (mvC m)) 0 0), (6, .ptr 3 0 0), (7, .ptr 9 0 0), (8, .int .i64 took)]
 ·intro fin
  refine zF U (fun f1 => ?_) (fun f1 => ?_)
  ·have f1 : 0 ≤ m.fr := f1
   rw [if_pos f1] at hC1 hA1
   have f2 : m.fr.toNat < cs.length := by rcases m5 with q | q; omega; exact q.2
   subst hC1 hA1
   repeat (first | refine zC ?_ | refine zB ?_ | refine zJ rfl ?_ | refine zA (zU rfl rfl rfl rfl rfl) ?_ | refine zA (zo rfl rfl rfl rfl rfl (by first | (simp only [Nat.zero_add, Int.toNat_natCast, Int.toNat_zero]; exact rfl) | exact rfl) (by omega)) ?_ | refine zA (zD rfl rfl rfl rfl) ?_ | refine zA (zO rfl rfl rfl rfl rfl rfl) ?_ | refine zA (zK rfl rfl rfl rfl rfl rfl) ?_ | refine zAJ rfl rfl rfl rfl rfl rfl rfl (by first | assumption | (show _ < List.length _; first | assumption | omega)) ?_)
   exact fin _ ⟨U, U, U, U, U, U, trivial⟩
  ·have f1 : ¬ 0 ≤ m.fr := f1
   rw [if_neg f1] at hC1 hA1
   subst hC1 hA1
   skip
   refine ze (by kernel_rfl) ?_
   refine zh (fuel := 1) [0, 1, 2, 3, 4, 5, 6, 7, 8, 9, 10] [(3, .rp (.box (ruC r)) 0 0), (4, .rp (.box [z8 cs, z8 a, z8 b, .int .i64 0, .int .i64 qt]) 0 0), (5, .rp (.box (mvC m)) 0 0), (6, .ptr 3 0 0), (7, .ptr 9 0 0), (8, .int .i64 took)] ⟨U, U, U, U, U, U, trivial⟩ (by kernel_rfl) (by decide) U U ?_
   refine zI U U (zK U U U U U U) ?_
   refine zI U U (zD U U U U) ?_
   refine zI U U (zO U U U U U U) ?_
   refine zI U U (zAk U U U U U (by show (0 : Int) ≤ 0 ∧ (0 : Int) < 2; decide)) ?_
   refine zI U U (zU U U U U U) ?_
   refine zI U U (zK U U U U U U) ?_
   refine zI U U (zD U U U U) ?_
   refine zI U U (zo U U U U U (by first | (simp only [Nat.zero_add, Int.toNat_natCast, Int.toNat_zero]; exact U) | exact U) (by omega)) ?_
   refine zI U U (zBA U U U U (by first | assumption | omega)) ?_
   refine zI U U (zA1 U U (by omega)) ?_
   refine zI U U (zo U U U U U (by first | (simp only [Nat.zero_add, Int.toNat_natCast, Int.toNat_zero]; exact U) | exact U) (by omega)) ?_
   refine zw ?_
   refine zH (is := [11]) (by kernel_rfl) (by simp) U ⟨fun o ho => ?_, trivial⟩
   all_goals (cases ho)
   refine rn7 ?_
   refine zW (by kernel_rfl) ?_
   repeat (refine zB ?_)
   exact fin _ ⟨U, U, U, U, U, U, trivial⟩
 obtain ⟨C2, hC2⟩ : ∃ C2, C1.set m.to.toNat (2 * m.pc + 0 + 1) = C2 := ⟨_, rfl⟩
 have hC2l : C2.length = cs.length := by rw [← hC2, List.length_set, hC1l]
 obtain ⟨A2, hA2⟩ : ∃ A2, (if 0 < took ∧ r.keeps = true then A1.set (zAe took) (min (A1.getD (zAe took) 0 + 1) 1000) else A1) = A2 := ⟨_, rfl⟩
 have hmt : m.to.toNat < C1.length := by omega
 have hmt2 : m.to.toNat < (Cells.ints .i64 C1).len := hmt
 obtain ⟨q3, hq3⟩ : ∃ q3, (if 0 < took ∨ m.fr < 0 then 0 else min (qt + 1) 200) = q3 := ⟨_, rfl⟩
 repeat (first | refine zY ?_ | refine zJ rfl ?_ | refine zA (zU rfl rfl rfl rfl rfl) ?_ | refine zA (zD rfl rfl rfl rfl) ?_ | refine zA (zO rfl rfl rfl rfl rfl rfl) ?_ | refine zA (zK rfl rfl rfl rfl rfl rfl) ?_)
 refine zA (zDF U U (by omega)) ?_
 repeat (first | refine zA (zG rfl) ?_ | refine zC ?_ | refine zB ?_ | refine zY ?_ | refine zJ rfl ?_ | refine zA (zCa rfl rfl) ?_ | refine zA (zA4 rfl rfl (by omega)) ?_ | refine zA (zo rfl rfl rfl rfl rfl (by first | (simp only [Nat.zero_add, Int.toNat_natCast, Int.toNat_zero]; exact rfl) | exact rfl) (by omega)) ?_ | refine zA (zD rfl rfl rfl rfl) ?_ | refine zA (zK rfl rfl rfl rfl rfl rfl) ?_ | refine zAJ rfl rfl rfl rfl rfl rfl rfl (by first | assumption | (show _ < List.length _; first | assumption | omega)) ?_)
 refine zAT [none, none, none, some ⟨33, .box poZ⟩, none, none, some ⟨3, .ints .i64 C2⟩, some ⟨3, .ints .i64 A1⟩, some ⟨3, .ints .i64 b⟩, some ⟨33, .box [.sl 6 0 cs.length, .sl 7 0 a.length, .sl 8 0 b.length, .int .i64 0, .int .i64 qt]⟩] (by rw [← hC2]; rfl) ?_
 apply zAL (H := [none, none, none, some ⟨33, .box poZ⟩, none, none, some ⟨3, .ints .i64 C2⟩, some ⟨3, .ints .i64 A2⟩, some ⟨3, .ints .i64 b⟩, some ⟨33, .box [.sl 6 0 cs.length, .sl 7 0 a.length, .sl 8 0 b.length, .int .i64 0, .int .i64 qt]⟩]) [(3, .rp (.box (ruC r)) 0 0), (4, .rp (.box [z8 cs, z8 a, z8 b, .int .i64 0, .int .i64 qt]) 0 0), (5, .rp (.box (mvC m)) 0 0), (6, .ptr 3 0 0), (7, .ptr 9 0 0), (8, .int .i64 took)]
 ·intro fin
  refine zj U U (fun f1 => ?_) (fun f1 => ?_)
  ·have f1 : 0 < took := f1
   refine zBG ?_
   refine zAQ U (fun f2 => ?_) (fun f2 => ?_)
   ·rw [if_pos ⟨f1, f2⟩] at hA2
    have hKl : zAe took < A1.length := by have := htK (by omega); omega
    have hKl2 : zAe took < (Cells.ints .i64 A1).len := hKl
    have hKC : (took - 1) / 2 = ((zAe took : Nat) : Int) := by unfold zAe; rw [Int.tdiv_eq_ediv_of_nonneg (by omega)]; omega
    have hKin := hA1in (zAe took)
    generalize zAe took = K at hA2 hKl hKl2 hKC hKin
    refine zY ?_
    repeat (first | refine zA (zG rfl) ?_ | refine zA (zM rfl) ?_ | refine zC ?_ | refine zB ?_ | refine zJ rfl ?_ | refine zA (zA1 rfl rfl (by omega)) ?_ | refine zA (zIB rfl rfl (by omega)) ?_)
    refine zBu 9 (iN K) U (AEq.of_eq (by rw [hKC])) ?_
    refine ze (by kernel_rfl) ?_
    refine zh (fuel := 1) [0, 1, 2, 3, 4, 5, 6, 7, 8, 9, 10, 11, 12, 13, 14, 15, 16] [(3, .rp (.box (ruC r)) 0 0), (4, .rp (.box [z8 cs, z8 a, z8 b, .int .i64 0, .int .i64 qt]) 0 0), (5, .rp (.box (mvC m)) 0 0), (6, .ptr 3 0 0), (7, .ptr 9 0 0), (8, .int .i64 took), (9, iN K)] ⟨U, U, U, U, U, U, U, trivial⟩ (by kernel_rfl) (by decide) U U ?_
    refine zI U U (zK U U U U U U) ?_
    refine zI U U (zD U U U U) ?_
    refine zI U U (zO U U U U U U) ?_
    refine zI U U (zAk U U U U U (by show (0 : Int) ≤ 0 ∧ (0 : Int) < 2; decide)) ?_
    refine zI U U (zU U U U U U) ?_
    refine zI U U (zG U) ?_
    refine zI U U (zK U U U U U U) ?_
    refine zI U U (zD U U U U) ?_
    refine zI U U (zO U U U U U U) ?_
    refine zI U U (zAk U U U U U (by show (0 : Int) ≤ 0 ∧ (0 : Int) < 2; decide)) ?_
    refine zI U U (zU U U U U U) ?_
    refine zI U U (zG U) ?_
    refine zI U U (zo U U U U U (by first | (simp only [Nat.zero_add, Int.toNat_natCast, Int.toNat_zero]; exact U) | exact U) (by omega)) ?_
    refine zI U U (zBA U U U U (by first | assumption | omega)) ?_
    refine zI U U (zA4 U U (by omega)) ?_
    refine zI U U (zKT U U) ?_
    refine zI U U (zo U U U U U (by first | (simp only [Nat.zero_add, Int.toNat_natCast, Int.toNat_zero]; exact U) | exact U) (by omega)) ?_
    refine zw ?_
    refine zH (is := [17]) (by kernel_rfl) (by simp) U ⟨fun o ho => ?_, trivial⟩
    all_goals (cases ho)
    refine rn7 ?_
    refine zW (by kernel_rfl) ?_
    repeat (refine zB ?_)
    have e : (if A1.getD K 0 + 1 ≤ 1000 then A1.getD K 0 + 1 else (1000 : Int)) = (if 1000 < A1.getD K 0 + 1 then 1000 else A1.getD K 0 + 1) := by split <;> split <;> omega
    refine zAK [none, none, none, some ⟨33, .box poZ⟩, none, none, some ⟨3, .ints .i64 C2⟩, some ⟨3, .ints .i64 A2⟩, some ⟨3, .ints .i64 b⟩, some ⟨33, .box [.sl 6 0 cs.length, .sl 7 0 a.length, .sl 8 0 b.length, .int .i64 0, .int .i64 qt]⟩] (by rw [← hA2, Int.min_def, e]; rfl) ?_
    exact fin _ ⟨U, U, U, U, U, U, trivial⟩
   ·rw [if_neg (fun q => by rw [f2] at q; exact Bool.false_ne_true q.2)] at hA2
    subst hA2
    refine zE6 ?_
    exact fin _ ⟨U, U, U, U, U, U, trivial⟩
  ·have f1 : ¬ 0 < took := f1
   rw [if_neg (fun q => f1 q.1)] at hA2
   subst hA2
   refine zE6 ?_
   exact fin _ ⟨U, U, U, U, U, U, trivial⟩
 repeat (first | refine zA (zG rfl) ?_ | refine zC ?_ | refine zB ?_ | refine zY ?_ | refine zJ rfl ?_ | refine zA (zCa rfl rfl) ?_ | refine zA (zA4 rfl rfl (by omega)) ?_ | refine zA (zD rfl rfl rfl rfl) ?_ | refine zA (zKT rfl rfl) ?_ | refine zA (zO rfl rfl rfl rfl rfl rfl) ?_ | refine zA (zK rfl rfl rfl rfl rfl rfl) ?_ | refine zAJ rfl rfl rfl rfl rfl rfl rfl Nat.zero_lt_one ?_)
 refine zAT [none, none, none, some ⟨33, .box poZ⟩, none, none, some ⟨3, .ints .i64 C2⟩, some ⟨3, .ints .i64 A2⟩, some ⟨3, .ints .i64 b⟩, some ⟨33, .box [.sl 6 0 cs.length, .sl 7 0 a.length, .sl 8 0 b.length, .int .i64 0, .int .i64 (if 200 < qt + 1 then 200 else qt + 1)]⟩] U ?_
 apply zAL (H := [none, none, none, some ⟨33, .box poZ⟩, none, none, some ⟨3, .ints .i64 C2⟩, some ⟨3, .ints .i64 A2⟩, some ⟨3, .ints .i64 b⟩, some ⟨33, .box [.sl 6 0 cs.length, .sl 7 0 a.length, .sl 8 0 b.length, .int .i64 0, .int .i64 q3]⟩]) [(3, .rp (.box (ruC r)) 0 0), (4, .rp (.box [z8 cs, z8 a, z8 b, .int .i64 0, .int .i64 qt]) 0 0), (5, .rp (.box (mvC m)) 0 0), (6, .ptr 3 0 0), (7, .ptr 9 0 0), (8, .int .i64 took)]
 ·intro fin
  refine zj U U (fun f1 => ?_) (fun f1 => ?_)
  ·have f1 : 0 < took := f1
   rw [if_pos (.inl f1)] at hq3
   subst hq3
   repeat (first | refine zC ?_ | refine zB ?_ | refine zJ rfl ?_ | refine zAZ rfl rfl rfl ?_ | refine zAi rfl ?_ | refine zA (zi rfl rfl) ?_ | refine zA (zO rfl rfl rfl rfl rfl rfl) ?_ | refine zAJ rfl rfl rfl rfl rfl rfl rfl Nat.zero_lt_one ?_)
   exact fin _ ⟨U, U, U, U, U, U, trivial⟩
  ·have f1 : ¬ 0 < took := f1
   repeat (first | refine zC ?_ | refine zB ?_ | refine zx rfl rfl ?_ | refine zA (zCR rfl rfl) ?_ | refine zA (zi rfl rfl) ?_ | refine zA (zD rfl rfl rfl rfl) ?_ | refine zA (zK rfl rfl rfl rfl rfl rfl) ?_)
   refine zF U (fun f2 => ?_) (fun f2 => ?_)
   ·have f2 : m.fr < 0 := f2
    rw [if_pos (.inr f2)] at hq3
    subst hq3
    repeat (first | refine zC ?_ | refine zB ?_ | refine zJ rfl ?_ | refine zA (zO rfl rfl rfl rfl rfl rfl) ?_ | refine zAJ rfl rfl rfl rfl rfl rfl rfl Nat.zero_lt_one ?_)
    exact fin _ ⟨U, U, U, U, U, U, trivial⟩
   ·have f2 : ¬ m.fr < 0 := f2
    rw [if_neg (fun q => q.elim f1 f2)] at hq3
    refine zE6 ?_
    have e : (if 200 < qt + 1 then (200 : Int) else qt + 1) = q3 := by
     rw [← hq3, Int.min_def]
     split <;> split <;> omega
    refine zAK [none, none, none, some ⟨33, .box poZ⟩, none, none, some ⟨3, .ints .i64 C2⟩, some ⟨3, .ints .i64 A2⟩, some ⟨3, .ints .i64 b⟩, some ⟨33, .box [.sl 6 0 cs.length, .sl 7 0 a.length, .sl 8 0 b.length, .int .i64 0, .int .i64 q3]⟩] (by rw [e]) ?_
    exact fin _ ⟨U, U, U, U, U, U, trivial⟩
 repeat (first | refine zC ?_ | refine zB ?_ | refine zY ?_ | refine zJ rfl ?_ | refine zA (zA1 rfl rfl (by omega)) ?_ | refine zA (zD rfl rfl rfl rfl) ?_ | refine zA (zO rfl rfl rfl rfl rfl rfl) ?_ | refine zA (zK rfl rfl rfl rfl rfl rfl) ?_ | refine zA (qpp rfl rfl rfl rfl rfl rfl rfl) ?_ | refine zAJ rfl rfl rfl rfl rfl rfl rfl Nat.zero_lt_one ?_)
 have hA2l : A2.length = a.length := by rw [← hA2]; split <;> simp [hA1l]
 have hmk : zf r ⟨cs, a, b, 0, qt⟩ m = ⟨C2, A2, b, 1 - 0, q3⟩ := by
  have e : zf r ⟨cs, a, b, 0, qt⟩ m = ⟨(if 0 ≤ m.fr then cs.set m.fr.toNat 0 else cs).set m.to.toNat (2 * m.pc + 0 + 1), (if 0 < zAM ⟨cs, a, b, 0, qt⟩ m.to.toNat ∧ r.keeps = true then (if 0 ≤ m.fr then a else a.set m.pc.toNat (a.getD m.pc.toNat 0 - 1)).set (zAe (zAM ⟨cs, a, b, 0, qt⟩ m.to.toNat)) (min ((if 0 ≤ m.fr then a else a.set m.pc.toNat (a.getD m.pc.toNat 0 - 1)).getD (zAe (zAM ⟨cs, a, b, 0, qt⟩ m.to.toNat)) 0 + 1) 1000) else (if 0 ≤ m.fr then a else a.set m.pc.toNat (a.getD m.pc.toNat 0 - 1))), b, 1 - 0, if 0 < zAM ⟨cs, a, b, 0, qt⟩ m.to.toNat ∨ m.fr < 0 then 0 else min (qt + 1) 200⟩ := rfl
  rw [e, htk2, hC1, hA1, hC2, hA2, hq3]
 refine zZ [.sl 6 0 cs.length, .sl 7 0 a.length, .sl 8 0 b.length, .int .i64 (1 - 0), .int .i64 q3] U U U U U U U ?_
 refine rn7 ?_
 refine zBD [none, none, none, none, none, none, some ⟨3, .ints .i64 C2⟩, some ⟨3, .ints .i64 A2⟩, some ⟨3, .ints .i64 b⟩, none] [none, none, none, some ⟨33, .box [.ro (.ints .i64 C2) 0 cs.length, .ro (.ints .i64 A2) 0 a.length, .ro (.ints .i64 b) 0 b.length, .int .i64 (1 - 0), .int .i64 q3]⟩, none, none, none, none, none, none] [(6, .ptr 3 0 0)] ?_ (zCh (zCh (zCh (zCh (zCh (zCh (zCA zAb (zCA zAb (zCA zAb (zCh zCi)))))))))) U ?_ (zCM ⟨U, trivial⟩) ?_
 ·intro h o ho
  match h, ho with
  | 0, ho => simp at ho
  | 1, ho => simp at ho
  | 2, ho => simp at ho
  | 3, ho => simp at ho
  | 4, ho => simp at ho
  | 5, ho => simp at ho
  | 6, ho => exact ho
  | 7, ho => exact ho
  | 8, ho => exact ho
  | 9, ho => simp at ho
  | _ + 10, ho => simp at ho
 ·intro h o ho
  match h, ho with
  | 0, ho => simp at ho
  | 1, ho => simp at ho
  | 2, ho => simp at ho
  | 3, ho =>
   cases ho
   refine ⟨fun o h => by simp at h, ⟨33, .box [.sl 6 0 cs.length, .sl 7 0 a.length, .sl 8 0 b.length, .int .i64 (1 - 0), .int .i64 q3]⟩, U, U, U, U, fun i j hi hj => ?_⟩
   obtain rfl : i = 0 := Nat.lt_one_iff.1 hi
   have hj : j < 5 := hj
   match j, hj with
   | 0, _ => exact .inr (.inr ⟨rfl, fun o ho => by cases ho; show 0 + cs.length ≤ C2.length; omega⟩)
   | 1, _ => exact .inr (.inr ⟨rfl, fun o ho => by cases ho; show 0 + a.length ≤ A2.length; omega⟩)
   | 2, _ => exact .inr (.inr ⟨rfl, fun o ho => by cases ho; show 0 + b.length ≤ b.length; omega⟩)
   | 3, _ => exact .inl rfl
   | 4, _ => exact .inl rfl
  | 4, ho => simp at ho
  | 5, ho => simp at ho
  | 6, ho => simp at ho
  | 7, ho => simp at ho
  | 8, ho => simp at ho
  | 9, ho => simp at ho
  | _ + 10, ho => simp at ho
 repeat (refine z6 ?_)
 refine zN hR U ?_
 rw [hmk]
 show AV.agg [.ro (.ints .i64 C2) 0 cs.length, .ro (.ints .i64 A2) 0 a.length, .ro (.ints .i64 b) 0 b.length, .int .i64 (1 - 0), .int .i64 q3] = AV.agg [z8 C2, z8 A2, z8 b, .int .i64 (1 - 0), .int .i64 q3]
 unfold z8
 rw [hC2l, hA2l]
/-- moves.Make, player 1 -/
theorem make1_ok (r : Go.Ax.Gm.Rules) (hv : ValidR r) (cs a b : List Int) (qt : Int) (S : Sound r ⟨cs, b, a, 1, qt⟩) (m : Mv) (hm : MvOK r ⟨cs, b, a, 1, qt⟩ m) : zl Tryz.prog 30 [ruA r, poA ⟨cs, b, a, 1, qt⟩, mvA m] (poA (zf r ⟨cs, b, a, 1, qt⟩ m)) := by
 refine zd.value0 (zL (P := Tryz.prog) (fn := Tryz.f30) U U (by kernel_rfl) U (fun c hR hfix => ?_)) (fix := fun _ => False) (fun _ h => h) U U
 have SP := zA5 hv S
 have hcc : cs.length ≤ 64 := SP.c
 have hcl : (cs.length : Int) = r.w * r.h := S.cl
 have hal : a.length = r.pcs.length := S.l1
 have hn6 := hv.n6
 have hqt : 0 ≤ qt ∧ qt ≤ 200 := S.qt
 have hain : ∀ n ∈ a, 0 ≤ n ∧ n ≤ 1000 := S.c1
 have hC12 := fun s => zIg hv S s
 have hKlt := fun s => zFE S s
 obtain ⟨m1, m2, m3, m4, m5⟩ := hm
 have m2 : m.to.toNat < cs.length := m2
 have m4 : m.pc.toNat < a.length := by omega
 have m5 : (m.fr = -1 ∧ 0 < a.getD m.pc.toNat 0) ∨ (0 ≤ m.fr ∧ m.fr.toNat < cs.length) := m5
 have hapc := hain _ (zAR 0 m4)
 refine zY ?_
 repeat (first | refine zC ?_ | refine zB ?_ | refine zJ rfl ?_ | refine zAO rfl rfl ?_ | refine zAI rfl rfl rfl ?_)
 refine zBD [some ⟨26, .box (ruC r)⟩, some ⟨33, .box (poC ⟨cs, b, a, 1, qt⟩)⟩, some ⟨85, .box (mvC m)⟩, none] [none, none, none, some ⟨33, .box poZ⟩] [(3, .rp (.box (ruC r)) 0 0), (4, .rp (.box [z8 cs, z8 b, z8 a, .int .i64 1, .int .i64 qt]) 0 0), (5, .rp (.box (mvC m)) 0 0), (6, .ptr 3 0 0)] ?_ (zCA (zu rfl) (zCA (zu rfl) (zCA (zu rfl) (zCh zCi)))) rfl ?_ ⟨⟨.ptr 0 0 0, rfl, .inr (.inr ⟨rfl, fun o ho => by cases ho; exact Nat.zero_lt_one⟩)⟩, ⟨.ptr 1 0 0, rfl, .inr (.inr ⟨rfl, fun o ho => by cases ho; exact Nat.zero_lt_one⟩)⟩, ⟨.ptr 2 0 0, rfl, .inr (.inr ⟨rfl, fun o ho => by cases ho; exact Nat.zero_lt_one⟩)⟩, ⟨_, rfl, .inl rfl⟩, trivial⟩ ?_
 ·intro h o ho
  match h, ho with
  | 0, ho => exact ho
  | 1, ho => exact ho
  | 2, ho => exact ho
  | 3, ho => simp at ho
  | _ + 4, ho => simp at ho
 ·intro h o ho
  match h, ho with
  | 0, ho => simp at ho
  | 1, ho => simp at ho
  | 2, ho => simp at ho
  | 3, ho => cases ho; exact ⟨fun o h => by simp at h, _, rfl, rfl, rfl, rfl, fun _ _ _ _ => .inl rfl⟩
  | _ + 4, ho => simp at ho
 refine rn6 ?_
 refine zIZ (.agg (poS ⟨cs, b, a, 1, qt⟩ 6)) [none, none, none, some ⟨33, .box poZ⟩, some ⟨33, .box (poS ⟨cs, b, a, 1, qt⟩ 6)⟩, some ⟨33, .box (poS ⟨cs, b, a, 1, qt⟩ 6)⟩, some ⟨3, .ints .i64 cs⟩, some ⟨3, .ints .i64 b⟩, some ⟨3, .ints .i64 a⟩] U U U (zLh _ SP) U U ?_
 repeat (refine zAI rfl rfl rfl ?_)
 refine zZ (poS ⟨cs, b, a, 1, qt⟩ 6) U U U U U U U ?_
 refine zBH [none, none, none, some ⟨33, .box poZ⟩, none, none, some ⟨3, .ints .i64 cs⟩, some ⟨3, .ints .i64 b⟩, some ⟨3, .ints .i64 a⟩, some ⟨33, .box [.sl 6 0 cs.length, .sl 7 0 b.length, .sl 8 0 a.length, .int .i64 1, .int .i64 qt]⟩] (zAs.drop (zAs.drop (zAs.drop (zAs.eqv (CEq.refl _) (zAs.drop (zAs.drop (zAs.refl _))))))) ?_
 repeat (first | refine zA (zM rfl) ?_ | refine zC ?_ | refine zB ?_ | refine zY ?_ | refine zJ rfl ?_ | refine zA (zU rfl rfl rfl rfl rfl) ?_ | refine zA (zEZ rfl rfl) ?_ | refine zA (zo rfl rfl rfl rfl rfl (by first | (simp only [Nat.zero_add, Int.toNat_natCast, Int.toNat_zero]; exact rfl) | exact rfl) (by omega)) ?_ | refine zA (zBA rfl rfl rfl rfl (by first | assumption | omega)) ?_ | refine zA (zD rfl rfl rfl rfl) ?_ | refine zA (zO rfl rfl rfl rfl rfl rfl) ?_ | refine zA (zK rfl rfl rfl rfl rfl rfl) ?_)
 obtain ⟨took, htk⟩ : ∃ took, cs.getD m.to.toNat 0 = took := ⟨_, rfl⟩
 have htk2 : zAM ⟨cs, b, a, 1, qt⟩ m.to.toNat = took := htk
 have ht12 := hC12 m.to.toNat
 have htK : took ≠ 0 → zAe took < r.pcs.length := fun q => by
  have h := hKlt m.to.toNat
  rw [htk2] at h
  exact zGF q h.1 h.2
 rw [htk2] at ht12
 obtain ⟨C1, hC1⟩ : ∃ C1, (if 0 ≤ m.fr then cs.set m.fr.toNat 0 else cs) = C1 := ⟨_, rfl⟩
 obtain ⟨A1, hA1⟩ : ∃ A1, (if 0 ≤ m.fr then a else a.set m.pc.toNat (a.getD m.pc.toNat 0 - 1)) = A1 := ⟨_, rfl⟩
 have hC1l : C1.length = cs.length := by rw [← hC1]; split <;> simp
 have hA1l : A1.length = a.length := by rw [← hA1]; split <;> simp
 have hA1in : ∀ i, -1 ≤ A1.getD i 0 ∧ A1.getD i 0 ≤ 1000 := fun i => by
  rw [← hA1]
  split
  ·by_cases q : i < a.length
   ·have := hain _ (zAR 0 q); omega
   ·rw [List.getD, List.getElem?_eq_none (by omega)]; exact ⟨by decide, by decide⟩
  ·by_cases q : i < a.length
   ·by_cases q2 : m.pc.toNat = i
    ·rw [← q2, List.getD, List.getElem?_set_self m4]; show -1 ≤ a.getD m.pc.toNat 0 - 1 ∧ a.getD m.pc.toNat 0 - 1 ≤ 1000; omega
    ·rw [List.getD, List.getElem?_set_ne q2]; have := hain _ (zAR 0 q); rw [List.getD] at this; omega
   ·rw [List.getD, List.getElem?_eq_none (by rw [List.length_set]; omega)]; exact ⟨by decide, by decide⟩
 refine zBu 8 (.int .i64 took) U (AEq.of_eq (by rw [← htk])) ?_
 apply zAL (H := [none, none, none, some ⟨33, .box poZ⟩, none, none, some ⟨3, .ints .i64 C1⟩, some ⟨3, .ints .i64 b⟩, some ⟨3, .ints .i64 A1⟩, some ⟨33, .box [.sl 6 0 cs.length, .sl 7 0 b.length, .sl 8 0 a.length, .int .i64 1, .int .i64 qt]⟩]) [(3, .rp (.box (ruC r)) 0 0), (4, .rp (.box [z8 cs, z8 b, z8 a, .int .i64 1, .int .i64 qt]) 0 0), (5, .rp (.box (mvC m)) 0 0), (6, .ptr 3 0 0), (7, .ptr 9 0 0), (8, .int .i64 took)]
 ·intro fin
  refine zF U (fun f1 => ?_) (fun f1 => ?_)
  ·have f1 : 0 ≤ m.fr := f1
   rw [if_pos f1] at hC1 hA1
   have f2 : m.fr.toNat < cs.length := by rcases m5 with q | q; omega; exact q.2
   subst hC1 hA1
   repeat (first | refine zC ?_ | refine zB ?_ | refine zJ rfl ?_ | refine zA (zU rfl rfl rfl rfl rfl) ?_ | refine zA (zo rfl rfl rfl rfl rfl (by first | (simp only [Nat.zero_add, Int.toNat_natCast, Int.toNat_zero]; exact rfl) | exact rfl) (by omega)) ?_ | refine zA (zD rfl rfl rfl rfl) ?_ | refine zA (zO rfl rfl rfl rfl rfl rfl) ?_ | refine zA (zK rfl rfl rfl rfl rfl rfl) ?_ | refine zAJ rfl rfl rfl rfl rfl rfl rfl (by first | assumption | (show _ < List.length _; first | assumption | omega)) ?_)
   exact fin _ ⟨U, U, U, U, U, U, trivial⟩
  ·have f1 : ¬ 0 ≤ m.fr := f1
   rw [if_neg f1] at hC1 hA1
   subst hC1 hA1
   skip
   refine ze (by kernel_rfl) ?_
   refine zh (fuel := 1) [0, 1, 2, 3, 4, 5, 6, 7, 8, 9, 10] [(3, .rp (.box (ruC r)) 0 0), (4, .rp (.box [z8 cs, z8 b, z8 a, .int .i64 1, .int .i64 qt]) 0 0), (5, .rp (.box (mvC m)) 0 0), (6, .ptr 3 0 0), (7, .ptr 9 0 0), (8, .int .i64 took)] ⟨U, U, U, U, U, U, trivial⟩ (by kernel_rfl) (by decide) U U ?_
   refine zI U U (zK U U U U U U) ?_
   refine zI U U (zD U U U U) ?_
   refine zI U U (zO U U U U U U) ?_
   refine zI U U (zAk U U U U U (by show (0 : Int) ≤ 1 ∧ (1 : Int) < 2; decide)) ?_
   refine zI U U (zU U U U U U) ?_
   refine zI U U (zK U U U U U U) ?_
   refine zI U U (zD U U U U) ?_
   refine zI U U (zo U U U U U (by first | (simp only [Nat.zero_add, Int.toNat_natCast, Int.toNat_zero]; exact U) | exact U) (by omega)) ?_
   refine zI U U (zBA U U U U (by first | assumption | omega)) ?_
   refine zI U U (zA1 U U (by omega)) ?_
   refine zI U U (zo U U U U U (by first | (simp only [Nat.zero_add, Int.toNat_natCast, Int.toNat_zero]; exact U) | exact U) (by omega)) ?_
   refine zw ?_
   refine zH (is := [11]) (by kernel_rfl) (by simp) U ⟨fun o ho => ?_, trivial⟩
   all_goals (cases ho)
   refine rn7 ?_
   refine zW (by kernel_rfl) ?_
   repeat (refine zB ?_)
   exact fin _ ⟨U, U, U, U, U, U, trivial⟩
 obtain ⟨C2, hC2⟩ : ∃ C2, C1.set m.to.toNat (2 * m.pc + 1 + 1) = C2 := ⟨_, rfl⟩
 have hC2l : C2.length = cs.length := by rw [← hC2, List.length_set, hC1l]
 obtain ⟨A2, hA2⟩ : ∃ A2, (if 0 < took ∧ r.keeps = true then A1.set (zAe took) (min (A1.getD (zAe took) 0 + 1) 1000) else A1) = A2 := ⟨_, rfl⟩
 have hmt : m.to.toNat < C1.length := by omega
 have hmt2 : m.to.toNat < (Cells.ints .i64 C1).len := hmt
 obtain ⟨q3, hq3⟩ : ∃ q3, (if 0 < took ∨ m.fr < 0 then 0 else min (qt + 1) 200) = q3 := ⟨_, rfl⟩
 repeat (first | refine zY ?_ | refine zJ rfl ?_ | refine zA (zU rfl rfl rfl rfl rfl) ?_ | refine zA (zD rfl rfl rfl rfl) ?_ | refine zA (zO rfl rfl rfl rfl rfl rfl) ?_ | refine zA (zK rfl rfl rfl rfl rfl rfl) ?_)
 refine zA (zDF U U (by omega)) ?_
 repeat (first | refine zA (zG rfl) ?_ | refine zC ?_ | refine zB ?_ | refine zY ?_ | refine zJ rfl ?_ | refine zA (zCa rfl rfl) ?_ | refine zA (zA4 rfl rfl (by omega)) ?_ | refine zA (zo rfl rfl rfl rfl rfl (by first | (simp only [Nat.zero_add, Int.toNat_natCast, Int.toNat_zero]; exact rfl) | exact rfl) (by omega)) ?_ | refine zA (zD rfl rfl rfl rfl) ?_ | refine zA (zK rfl rfl rfl rfl rfl rfl) ?_ | refine zAJ rfl rfl rfl rfl rfl rfl rfl (by first | assumption | (show _ < List.length _; first | assumption | omega)) ?_)
 refine zAT [none, none, none, some ⟨33, .box poZ⟩, none, none, some ⟨3, .ints .i64 C2⟩, some ⟨3, .ints .i64 b⟩, some ⟨3, .ints .i64 A1⟩, some ⟨33, .box [.sl 6 0 cs.length, .sl 7 0 b.length, .sl 8 0 a.length, .int .i64 1, .int .i64 qt]⟩] (by rw [← hC2]; rfl) ?_
 apply zAL (H := [none, none, none, some ⟨33, .box poZ⟩, none, none, some ⟨3, .ints .i64 C2⟩, some ⟨3, .ints .i64 b⟩, some ⟨3, .ints .i64 A2⟩, some ⟨33, .box [.sl 6 0 cs.length, .sl 7 0 b.length, .sl 8 0 a.length, .int .i64 1, .int .i64 qt]⟩]) [(3, .rp (.box (ruC r)) 0 0), (4, .rp (.box [z8 cs, z8 b, z8 a, .int .i64 1, .int .i64 qt]) 0 0), (5, .rp (.box (mvC m)) 0 0), (6, .ptr 3 0 0), (7, .ptr 9 0 0), (8, .int .i64 took)]
 ·intro fin
  refine zj U U (fun f1 => ?_) (fun f1 => ?_)
  ·have f1 : 0 < took := f1
   refine zBG ?_
   refine zAQ U (fun f2 => ?_) (fun f2 => ?_)
   ·rw [if_pos ⟨f1, f2⟩] at hA2
    have hKl : zAe took < A1.length := by have := htK (by omega); omega
    have hKl2 : zAe took < (Cells.ints .i64 A1).len := hKl
    have hKC : (took - 1) / 2 = ((zAe took : Nat) : Int) := by unfold zAe; rw [Int.tdiv_eq_ediv_of_nonneg (by omega)]; omega
    have hKin := hA1in (zAe took)
    generalize zAe took = K at hA2 hKl hKl2 hKC hKin
    refine zY ?_
    repeat (first | refine zA (zG rfl) ?_ | refine zA (zM rfl) ?_ | refine zC ?_ | refine zB ?_ | refine zJ rfl ?_ | refine zA (zA1 rfl rfl (by omega)) ?_ | refine zA (zIB rfl rfl (by omega)) ?_)
    refine zBu 9 (iN K) U (AEq.of_eq (by rw [hKC])) ?_
    refine ze (by kernel_rfl) ?_
    refine zh (fuel := 1) [0, 1, 2, 3, 4, 5, 6, 7, 8, 9, 10, 11, 12, 13, 14, 15, 16] [(3, .rp (.box (ruC r)) 0 0), (4, .rp (.box [z8 cs, z8 b, z8 a, .int .i64 1, .int .i64 qt]) 0 0), (5, .rp (.box (mvC m)) 0 0), (6, .ptr 3 0 0), (7, .ptr 9 0 0), (8, .int .i64 took), (9, iN K)] ⟨U, U, U, U, U, U, U, trivial⟩ (by kernel_rfl) (by decide) U U ?_
    refine zI U U (zK U U U U U U) ?_
    refine zI U U (zD U U U U) ?_
    refine zI U U (zO U U U U U U) ?_
    refine zI U U (zAk U U U U U (by show (0 : Int) ≤ 1 ∧ (1 : Int) < 2; decide)) ?_
    refine zI U U (zU U U U U U) ?_
    refine zI U U (zG U) ?_
    refine zI U U (zK U U U U U U) ?_
    refine zI U U (zD U U U U) ?_
    refine zI U U (zO U U U U U U) ?_
    refine zI U U (zAk U U U U U (by show (0 : Int) ≤ 1 ∧ (1 : Int) < 2; decide)) ?_
    refine zI U U (zU U U U U U) ?_
    refine zI U U (zG U) ?_
    refine zI U U (zo U U U U U (by first | (simp only [Nat.zero_add, Int.toNat_natCast, Int.toNat_zero]; exact U) | exact U) (by omega)) ?_
    refine zI U U (zBA U U U U (by first | assumption | omega)) ?_
    refine zI U U (zA4 U U (by omega)) ?_
    refine zI U U (zKT U U) ?_
    refine zI U U (zo U U U U U (by first | (simp only [Nat.zero_add, Int.toNat_natCast, Int.toNat_zero]; exact U) | exact U) (by omega)) ?_
    refine zw ?_
    refine zH (is := [17]) (by kernel_rfl) (by simp) U ⟨fun o ho => ?_, trivial⟩
    all_goals (cases ho)
    refine rn7 ?_
    refine zW (by kernel_rfl) ?_
    repeat (refine zB ?_)
    have e : (if A1.getD K 0 + 1 ≤ 1000 then A1.getD K 0 + 1 else (1000 : Int)) = (if 1000 < A1.getD K 0 + 1 then 1000 else A1.getD K 0 + 1) := by split <;> split <;> omega
    refine zAK [none, none, none, some ⟨33, .box poZ⟩, none, none, some ⟨3, .ints .i64 C2⟩, some ⟨3, .ints .i64 b⟩, some ⟨3, .ints .i64 A2⟩, some ⟨33, .box [.sl 6 0 cs.length, .sl 7 0 b.length, .sl 8 0 a.length, .int .i64 1, .int .i64 qt]⟩] (by rw [← hA2, Int.min_def, e]; rfl) ?_
    exact fin _ ⟨U, U, U, U, U, U, trivial⟩
   ·rw [if_neg (fun q => by rw [f2] at q; exact Bool.false_ne_true q.2)] at hA2
    subst hA2
    refine zE6 ?_
    exact fin _ ⟨U, U, U, U, U, U, trivial⟩
  ·have f1 : ¬ 0 < took := f1
   rw [if_neg (fun q => f1 q.1)] at hA2
   subst hA2
   refine zE6 ?_
   exact fin _ ⟨U, U, U, U, U, U, trivial⟩
 repeat (first | refine zA (zG rfl) ?_ | refine zC ?_ | refine zB ?_ | refine zY ?_ | refine zJ rfl ?_ | refine zA (zCa rfl rfl) ?_ | refine zA (zA4 rfl rfl (by omega)) ?_ | refine zA (zD rfl rfl rfl rfl) ?_ | refine zA (zKT rfl rfl) ?_ | refine zA (zO rfl rfl rfl rfl rfl rfl) ?_ | refine zA (zK rfl rfl rfl rfl rfl rfl) ?_ | refine zAJ rfl rfl rfl rfl rfl rfl rfl Nat.zero_lt_one ?_)
 refine zAT [none, none, none, some ⟨33, .box poZ⟩, none, none, some ⟨3, .ints .i64 C2⟩, some ⟨3, .ints .i64 b⟩, some ⟨3, .ints .i64 A2⟩, some ⟨33, .box [.sl 6 0 cs.length, .sl 7 0 b.length, .sl 8 0 a.length, .int .i64 1, .int .i64 (if 200 < qt + 1 then 200 else qt + 1)]⟩] U ?_
 apply zAL (H := [none, none, none, some ⟨33, .box poZ⟩, none, none, some ⟨3, .ints .i64 C2⟩, some ⟨3, .ints .i64 b⟩, some ⟨3, .ints .i64 A2⟩, some ⟨33, .box [.sl 6 0 cs.length, .sl 7 0 b.length, .sl 8 0 a.length, .int .i64 1, .int .i64 q3]⟩]) [(3, .rp (.box (ruC r)) 0 0), (4, .rp (.box [z8 cs, z8 b, z8 a, .int .i64 1, .int .i64 qt]) 0 0), (5, .rp (.box (mvC m)) 0 0), (6, .ptr 3 0 0), (7, .ptr 9 0 0), (8, .int .i64 took)]
 ·intro fin
  refine zj U U (fun f1 => ?_) (fun f1 => ?_)
  ·have f1 : 0 < took := f1
   rw [if_pos (.inl f1)] at hq3
   subst hq3
   repeat (first | refine zC ?_ | refine zB ?_ | refine zJ rfl ?_ | refine zAZ rfl rfl rfl ?_ | refine zAi rfl ?_ | refine zA (zi rfl rfl) ?_ | refine zA (zO rfl rfl rfl rfl rfl rfl) ?_ | refine zAJ rfl rfl rfl rfl rfl rfl rfl Nat.zero_lt_one ?_)
   exact fin _ ⟨U, U, U, U, U, U, trivial⟩
  ·have f1 : ¬ 0 < took := f1
   repeat (first | refine zC ?_ | refine zB ?_ | refine zx rfl rfl ?_ | refine zA (zCR rfl rfl) ?_ | refine zA (zi rfl rfl) ?_ | refine zA (zD rfl rfl rfl rfl) ?_ | refine zA (zK rfl rfl rfl rfl rfl rfl) ?_)
   refine zF U (fun f2 => ?_) (fun f2 => ?_)
   ·have f2 : m.fr < 0 := f2
    rw [if_pos (.inr f2)] at hq3
    subst hq3
    repeat (first | refine zC ?_ | refine zB ?_ | refine zJ rfl ?_ | refine zA (zO rfl rfl rfl rfl rfl rfl) ?_ | refine zAJ rfl rfl rfl rfl rfl rfl rfl Nat.zero_lt_one ?_)
    exact fin _ ⟨U, U, U, U, U, U, trivial⟩
   ·have f2 : ¬ m.fr < 0 := f2
    rw [if_neg (fun q => q.elim f1 f2)] at hq3
    refine zE6 ?_
    have e : (if 200 < qt + 1 then (200 : Int) else qt + 1) = q3 := by
     rw [← hq3, Int.min_def]
     split <;> split <;> omega
    refine zAK [none, none, none, some ⟨33, .box poZ⟩, none, none, some ⟨3, .ints .i64 C2⟩, some ⟨3, .ints .i64 b⟩, some ⟨3, .ints .i64 A2⟩, some ⟨33, .box [.sl 6 0 cs.length, .sl 7 0 b.length, .sl 8 0 a.length, .int .i64 1, .int .i64 q3]⟩] (by rw [e]) ?_
    exact fin _ ⟨U, U, U, U, U, U, trivial⟩
 repeat (first | refine zC ?_ | refine zB ?_ | refine zY ?_ | refine zJ rfl ?_ | refine zA (zA1 rfl rfl (by omega)) ?_ | refine zA (zD rfl rfl rfl rfl) ?_ | refine zA (zO rfl rfl rfl rfl rfl rfl) ?_ | refine zA (zK rfl rfl rfl rfl rfl rfl) ?_ | refine zA (qpp rfl rfl rfl rfl rfl rfl rfl) ?_ | refine zAJ rfl rfl rfl rfl rfl rfl rfl Nat.zero_lt_one ?_)
 have hA2l : A2.length = a.length := by rw [← hA2]; split <;> simp [hA1l]
 have hmk : zf r ⟨cs, b, a, 1, qt⟩ m = ⟨C2, b, A2, 1 - 1, q3⟩ := by
  have e : zf r ⟨cs, b, a, 1, qt⟩ m = ⟨(if 0 ≤ m.fr then cs.set m.fr.toNat 0 else cs).set m.to.toNat (2 * m.pc + 1 + 1), b, (if 0 < zAM ⟨cs, b, a, 1, qt⟩ m.to.toNat ∧ r.keeps = true then (if 0 ≤ m.fr then a else a.set m.pc.toNat (a.getD m.pc.toNat 0 - 1)).set (zAe (zAM ⟨cs, b, a, 1, qt⟩ m.to.toNat)) (min ((if 0 ≤ m.fr then a else a.set m.pc.toNat (a.getD m.pc.toNat 0 - 1)).getD (zAe (zAM ⟨cs, b, a, 1, qt⟩ m.to.toNat)) 0 + 1) 1000) else (if 0 ≤ m.fr then a else a.set m.pc.toNat (a.getD m.pc.toNat 0 - 1))), 1 - 1, if 0 < zAM ⟨cs, b, a, 1, qt⟩ m.to.toNat ∨ m.fr < 0 then 0 else min (qt + 1) 200⟩ := rfl
  rw [e, htk2, hC1, hA1, hC2, hA2, hq3]
 refine zZ [.sl 6 0 cs.length, .sl 7 0 b.length, .sl 8 0 a.length, .int .i64 (1 - 1), .int .i64 q3] U U U U U U U ?_
 refine rn7 ?_
 refine zBD [none, none, none, none, none, none, some ⟨3, .ints .i64 C2⟩, some ⟨3, .ints .i64 b⟩, some ⟨3, .ints .i64 A2⟩, none] [none, none, none, some ⟨33, .box [.ro (.ints .i64 C2) 0 cs.length, .ro (.ints .i64 b) 0 b.length, .ro (.ints .i64 A2) 0 a.length, .int .i64 (1 - 1), .int .i64 q3]⟩, none, none, none, none, none, none] [(6, .ptr 3 0 0)] ?_ (zCh (zCh (zCh (zCh (zCh (zCh (zCA zAb (zCA zAb (zCA zAb (zCh zCi)))))))))) U ?_ (zCM ⟨U, trivial⟩) ?_
 ·intro h o ho
  match h, ho with
  | 0, ho => simp at ho
  | 1, ho => simp at ho
  | 2, ho => simp at ho
  | 3, ho => simp at ho
  | 4, ho => simp at ho
  | 5, ho => simp at ho
  | 6, ho => exact ho
  | 7, ho => exact ho
  | 8, ho => exact ho
  | 9, ho => simp at ho
  | _ + 10, ho => simp at ho
 ·intro h o ho
  match h, ho with
  | 0, ho => simp at ho
  | 1, ho => simp at ho
  | 2, ho => simp at ho
  | 3, ho =>
   cases ho
   refine ⟨fun o h => by simp at h, ⟨33, .box [.sl 6 0 cs.length, .sl 7 0 b.length, .sl 8 0 a.length, .int .i64 (1 - 1), .int .i64 q3]⟩, U, U, U, U, fun i j hi hj => ?_⟩
   obtain rfl : i = 0 := Nat.lt_one_iff.1 hi
   have hj : j < 5 := hj
   match j, hj with
   | 0, _ => exact .inr (.inr ⟨rfl, fun o ho => by cases ho; show 0 + cs.length ≤ C2.length; omega⟩)
   | 1, _ => exact .inr (.inr ⟨rfl, fun o ho => by cases ho; show 0 + b.length ≤ b.length; omega⟩)
   | 2, _ => exact .inr (.inr ⟨rfl, fun o ho => by cases ho; show 0 + a.length ≤ A2.length; omega⟩)
   | 3, _ => exact .inl rfl
   | 4, _ => exact .inl rfl
  | 4, ho => simp at ho
  | 5, ho => simp at ho
  | 6, ho => simp at ho
  | 7, ho => simp at ho
  | 8, ho => simp at ho
  | 9, ho => simp at ho
  | _ + 10, ho => simp at ho
 repeat (refine z6 ?_)
 refine zN hR U ?_
 rw [hmk]
 show AV.agg [.ro (.ints .i64 C2) 0 cs.length, .ro (.ints .i64 b) 0 b.length, .ro (.ints .i64 A2) 0 a.length, .int .i64 (1 - 1), .int .i64 q3] = AV.agg [z8 C2, z8 b, z8 A2, .int .i64 (1 - 1), .int .i64 q3]
 unfold z8
 rw [hC2l, hA2l]
/-- moves.Make -/
theorem zEW (r : Go.Ax.Gm.Rules) (hv : ValidR r) (p : Pos) (S : Sound r p) (m : Mv) (hm : MvOK r p m) : zl Tryz.prog 30 [ruA r, poA p, mvA m] (poA (zf r p m)) := by
 obtain ⟨cs, h0, h1, turn, qt⟩ := p
 rcases S.tn with q | q
 ·have q : turn = 0 := q
  subst q
  exact make0_ok r hv cs h0 h1 qt S m hm
 ·have q : turn = 1 := q
  subst q
  exact make1_ok r hv cs h1 h0 qt S m hm
theorem zGE {r : Go.Ax.Gm.Rules} (hv : ValidR r) {p : Pos} (S : Sound r p) : zl Tryz.prog 62 [poA p] (.str (keyT p)) :=
 key_ok p (zA5 hv S) S.tn (fun c hc => by have := S.cs c hc; have := hv.n6; omega) S.c0 S.c1
def zCN (l : List Pos) : List AV := l.map (fun p => .str (keyT p))
def zC1 (n : Nat) : List AV := (List.range n).map (fun i : Nat => iN i)
abbrev zDm (nx : List (List Nat)) : Cells := zC3 [] 1 (fun row : List Nat => [z8 (row.map Int.ofNat)]) nx
abbrev tbC (r : Go.Ax.Gm.Rules) (l n : Nat) (e : AV) : List AV := [.str r.name, .int .i64 r.w, .int .i64 r.h, .ro (zAj r.pcs) 0 r.pcs.length, z8 r.start, .bool r.falls, .bool r.keeps, .ro (zEv r.ends) 0 r.ends.length, .int .i64 r.blocked, .int .i64 r.quiet, .int .i64 r.rep, .sl 2 0 l, .sl 3 0 n, e, .mp 0]
abbrev zJX (r : Go.Ax.Gm.Rules) (l : List Pos) (nx : List (List Nat)) (L : List Int) : zP :=
 [some ⟨62, .mp (zCN l) (zC1 l.length)⟩, some ⟨64, .box (tbC r l.length nx.length .nil)⟩, some ⟨33, zCg l⟩, some ⟨23, zDm nx⟩, some ⟨3, .ints .i64 L⟩]
theorem zDV (l : List Pos) : ∀ x ∈ zCN l, zEU .str x = true := fun x hx => by
 obtain ⟨p, _, rfl⟩ := List.mem_map.1 hx
 rfl
theorem zOA {l : List Pos} {i : Nat} (h : i < l.length) : (zCN l)[i]? = some (.str (keyT (l.getD i zq))) := by
 unfold zCN
 rw [List.getElem?_map, List.getElem?_eq_getElem h]; simp [List.getD, h]
theorem zHu {n i : Nat} (h : i < n) : (zC1 n)[i]? = some (iN i) := by
 unfold zC1
 rw [List.getElem?_map, List.getElem?_range h]; rfl
theorem zHk {l : List Pos} {p : Pos} (h : zAp l p < l.length) : (zCN l)[zAp l p]? = some (.str (keyT p)) := by
 rw [zOA h, zIS h]; rfl
theorem zFp {r : Go.Ax.Gm.Rules} (hv : ValidR r) {l : List Pos} {p : Pos} (S : Sound r p) (G : ∀ q ∈ l, Sound r q ∧ q.quiet = 0) (h : ¬ zAp l p < l.length) : AV.str (keyT p) ∉ zCN l := fun hm => by
 obtain ⟨q, hq, e⟩ := List.mem_map.1 hm
 have e := key_inj hv (G q hq).1 S (AV.str.inj e)
 rw [zKN (G q hq).2] at e
 exact idx_no h (e ▸ hq)
theorem zHd {n : Nat} : ∀ {l : List AV}, (∀ x ∈ l, zCe n x = true) → zB4 n l = true
 | [], _ => rfl
 | x :: l, h => by
  show (zCe n x && zB4 n l) = true
  rw [h x (List.mem_cons_self ..), zHd (fun y hy => h y (List.mem_cons_of_mem _ hy))]; rfl
theorem zIy {n : Nat} (l : List Pos) (m : Nat) : zAz n (.mp (zCN l) (zC1 m)) :=
 ⟨zHd (fun x hx => by obtain ⟨p, _, rfl⟩ := List.mem_map.1 hx; rfl), zHd (fun x hx => by obtain ⟨p, _, rfl⟩ := List.mem_map.1 hx; rfl)⟩
theorem zHq {n : Nat} (l : List Pos) : zAz n (zCg l) := fun i j _ hj => by
 have hj : j < 5 := hj
 match j, hj with
 | 0, _ => rfl
 | 1, _ => rfl
 | 2, _ => rfl
 | 3, _ => rfl
 | 4, _ => rfl
theorem zJL {n : Nat} (nx : List (List Nat)) : zAz n (zDm nx) := fun i j _ hj => by
 obtain rfl : j = 0 := Nat.lt_one_iff.1 hj
 rfl
theorem zJY (r : Go.Ax.Gm.Rules) (l : List Pos) (nx : List (List Nat)) (L : List Int) : ∀ (h : Nat) (o : AObj), (zJX r l nx L)[h]? = some (some o) → zAz (zJX r l nx L).length o.c :=
 zBY (zIy l _) (zBY (zDr rfl) (zBY (zHq l) (zBY (zJL nx) (zBY (fun _ _ _ _ => rfl) zBZ))))
theorem zFn {h : Nat} : ∀ {l : List AV}, (∀ x ∈ l, x.forget h = x) → AV.forgets h l = l
 | [], _ => rfl
 | x :: l, q => by
  show x.forget h :: AV.forgets h l = x :: l
  rw [q x (List.mem_cons_self ..), zFn (fun y hy => q y (List.mem_cons_of_mem _ hy))]
theorem zEV {h : Nat} (l : List Pos) (m : Nat) : (Cells.mp (zCN l) (zC1 m)).forget h = .mp (zCN l) (zC1 m) := by
 show Cells.mp (AV.forgets h (zCN l)) (AV.forgets h (zC1 m)) = _
 rw [zFn (fun x hx => by obtain ⟨p, _, rfl⟩ := List.mem_map.1 hx; rfl), zFn (fun x hx => by obtain ⟨p, _, rfl⟩ := List.mem_map.1 hx; rfl)]
theorem zBq {α : Type} {d : α} {n h : Nat} {e : α → List AV} {l : List α} (q : ∀ a j, ((e a).getD j .any).forget h = (e a).getD j .any) : (zC3 d n e l).forget h = zC3 d n e l := by
 show Cells.fn l.length n (fun i j => ((e (l.getD i d)).getD j .any).forget h) = _
 simp only [q]; rfl
theorem zCy (a : Pos) (j k : Nat) : ((poC a).getD j .any).forget k = (poC a).getD j .any := by
 match j with
 | 0 => rfl
 | 1 => rfl
 | 2 => rfl
 | 3 => rfl
 | 4 => rfl
 | j + 5 => rfl
theorem zEb (a : List Nat) (j k : Nat) : (([z8 (a.map Int.ofNat)] : List AV).getD j .any).forget k = ([z8 (a.map Int.ofNat)] : List AV).getD j .any := by
 match j with
 | 0 => rfl
 | j + 1 => rfl
theorem zKI (l : List Pos) (p : Pos) : zCN l ++ [.str (keyT p)] = zCN (l ++ [zA7 p]) := by unfold zCN; rw [List.map_append]; rfl
theorem zKY (n : Nat) : zC1 n ++ [iN n] = zC1 (n + 1) := by unfold zC1; rw [List.range_succ, List.map_append]; rfl
/-- (*retro.Table).add -/
theorem add_ok (r : Go.Ax.Gm.Rules) (hv : ValidR r) (l : List Pos) (nx : List (List Nat)) (L : List Int) (p : Pos) (S : Sound r p) (G : ∀ q ∈ l, Sound r q ∧ q.quiet = 0) (hl : l.length ≤ 3001) :
 zd Tryz.prog 36 [.ptr 1 0 0, poA p] (zJX r l nx L) (fun h => h < 5 ∧ h ≠ 2) (fun v H => v = iN (zAp l p) ∧ H = zJX r (zC6 l p) nx L) := by
 have hc : zd Tryz.prog 36 [.ptr 1 0 0, poA p] (zJX r l nx L) (fun h => h < 5 ∧ h ≠ 2) (fun v H => v = iN (zAp l p) ∧ ∃ x, H = zJX r (zC6 l p) nx L ++ [x]) := by
  refine zL (P := Tryz.prog) (fn := Tryz.f36) U U (by kernel_rfl) U (fun c hR hfix => ?_)
  refine rn6 ?_
  refine zQ U U U (zGE hv S) ?_
  refine rn8 ?_
  by_cases hi : zAp l p < l.length
  ·have hadd : zC6 l p = l := by unfold zC6; rw [if_pos hi]
   rw [hadd] at hR
   refine zA (zFL U (.str U) U U U U (zDV l) (zAp l p) (zHk hi) (zHu hi)) ?_
   refine rn5 ?_
   exact zN hR U ⟨U, _, U⟩
  ·have hadd : zC6 l p = l ++ [zA7 p] := by unfold zC6; rw [if_neg hi]
   have hidx : zAp l p = l.length := by have := zKr l p; omega
   rw [hadd, hidx] at hR
   refine zA (zEn U (.str U) U U U U U U U U (zDV l) (zFp hv S G hi)) ?_
   repeat (first | refine zA (zG rfl) ?_ | refine zA (zM rfl) ?_ | refine zC ?_ | refine zB ?_ | refine zY ?_ | refine zJ rfl ?_ | refine zAi rfl ?_ | refine zA (zU rfl rfl rfl rfl rfl) ?_ | refine zA (zDl rfl) ?_ | refine zA (zAC rfl rfl) ?_ | refine zA (zBK rfl rfl rfl) ?_ | refine zA (zV rfl) ?_ | refine zA (zO rfl rfl rfl rfl rfl rfl) ?_ | refine zAJ rfl rfl rfl rfl rfl rfl rfl Nat.zero_lt_one ?_)
   refine zFf U (.str U) U U U U U (zDV l) (zFp hv S G hi) ?_
   refine rn0 ?_
   have hll : (l ++ [zA7 p]).length = l.length + 1 := by rw [List.length_append]; rfl
   refine zAK [some ⟨62, .mp (zCN (l ++ [zA7 p])) (zC1 (l.length + 1))⟩, some ⟨64, .box (tbC r l.length nx.length .nil)⟩, some ⟨33, zCg l⟩, some ⟨23, zDm nx⟩, some ⟨3, .ints .i64 L⟩, some ⟨33, .box (poC (zA7 p))⟩] (by rw [← zKI, ← zKY]; rfl) ?_
   refine ze (by kernel_rfl) ?_
   refine zS 0 U (by kernel_rfl) (by kernel_rfl) (by kernel_rfl) U (zG U) U ?_
   refine zh (fuel := 4) [1, 2, 3, 4, 5, 6] [(33, .ptr 1 0 0), (0, .ptr 1 0 0), (3, .ptr 5 0 0), (6, iN l.length)] ⟨U, U, U, U, trivial⟩ (by kernel_rfl) (by decide) U U ?_
   refine zI U U (zG U) ?_
   refine zI U U (zV U) ?_
   refine zI U U (zO U U U U U U) ?_
   refine zI U U (zU U U U U U) ?_
   refine zI U U (qpp U U U U U U U) ?_
   refine px_b U U U U U U U U U U U U U ?_
   refine zw ?_
   refine zH (is := [7]) (by kernel_rfl) (by simp) U ⟨fun o ho => ?_, trivial⟩
   all_goals (cases ho)
   refine zBN [zA7 p] U U U U U U U U U U U U U (Nat.le_refl _) (fun k' j hk' hj => ?_) (by show (l.length + 1) * 88 ≤ _ ∧ _; omega) (fun a j k _ => zCy a j k) (by rw [hfix]; exact fun h => h.2 U) ?_
   ·obtain rfl : k' = 0 := Nat.lt_one_iff.1 hk'
    match j, hj with
    | 0, _ => rfl
    | 1, _ => rfl
    | 2, _ => rfl
    | 3, _ => rfl
    | 4, _ => rfl
   refine zAT [some ⟨62, .mp (zCN (l ++ [zA7 p])) (zC1 (l.length + 1))⟩, some ⟨64, .box ((tbC r l.length nx.length .nil).set 11 .any)⟩, some ⟨33, zCg (l ++ [zA7 p])⟩, some ⟨23, zDm nx⟩, some ⟨3, .ints .i64 L⟩, some ⟨33, .box (poC (zA7 p))⟩] ?_ ?_
   ·show [some (AObj.mk _ ((Cells.mp _ _).forget 2)), some (AObj.mk _ ((Cells.box _).forget 2)), some (AObj.mk _ (zCg (l ++ [zA7 p]))), some (AObj.mk _ ((zDm nx).forget 2)), some (AObj.mk _ ((Cells.ints .i64 L).forget 2)), some (AObj.mk _ ((Cells.box (poC (zA7 p))).forget 2))] = _
    rw [zEV, zBq (fun a j => zEb a j 2)]; rfl
   refine rn1 ?_
   refine zS 8 U (by kernel_rfl) (by kernel_rfl) (by kernel_rfl) U (zV U) U ?_
   refine zS 9 U (by kernel_rfl) (by kernel_rfl) (by kernel_rfl) U (zO U U U U U U) U ?_
   refine zH (is := [10]) (by kernel_rfl) (by simp) U ⟨fun o ho => ?_, trivial⟩
   all_goals (cases ho)
   refine rn9 ?_
   refine zW (by kernel_rfl) ?_
   refine rn0 ?_
   exact zN hR U ⟨U, _, by show _ = [_, _, _, _, _, _]; rw [hll]; rfl⟩
 exact zd.cutR hc (fun v H ⟨e1, x, e2⟩ => ⟨_, [x], e2, fun h q => q.1, zJY _ _ _ _, e1 ▸ U, e1, U⟩)
/-- slices.IndexFunc of numbers, the function looks at the caller's memory -/
theorem zMk {H : zP} (l : List Int) (q : Int → Bool) (g : Nat) (caps : List AV) (hl : l.length ≤ 1000000) (hc : ∀ x ∈ l, zd Tryz.prog g (.int .i64 x :: caps) H (fun h => h < H.length) (fun r H' => r = .bool (q x) ∧ H' = H)) :
 zd Tryz.prog 91 [z8 l, .fn g caps] H (fun h => h < H.length) (fun r H' => (∃ n : Int, r = .int .i64 n ∧ (decide (0 ≤ n) = l.any q)) ∧ H' = H) := by
 refine zL (P := Tryz.prog) (fn := Tryz.f91) U U (by kernel_rfl) U (fun c hR hfix => ?_)
 refine rn3 ?_
 refine zAA (ι := Nat) (fun k => [(0, z8 l), (1, .fn g caps), (7, iN l.length), (8, iN k)]) (fun _ => H)
  (fun k => k ≤ l.length ∧ (l.take k).any q = false) (fun k => l.length - k) 0 ⟨⟨rfl, rfl, rfl, rfl, trivial⟩, rfl, Nat.zero_le _, by rw [List.take_zero]; rfl⟩ ?_
 intro k ⟨hk, hno⟩
 refine rn4 ?_
 refine zF U (fun h => ?_) (fun h => ?_)
 ·have hk' : k < l.length := by omega
  have hmem : l.getD k 0 ∈ l := zAR 0 hk'
  have htk : (l.take (k + 1)).any q = ((l.take k).any q || q (l.getD k 0)) := by rw [zAE _ 0 k hk', List.any_append]; simp
  refine rn6 ?_
  refine zBR U U U (hc _ hmem) (fun _ h => h) (fun _ h => h) ?_
  rintro r H' ⟨rfl, rfl⟩
  refine rn0 ?_
  cases hq : q (l.getD k 0) with
  | true =>
   refine rn6 ?_
   refine zN hR U ⟨⟨(k : Nat), U, ?_⟩, U⟩
   rw [decide_eq_true (by omega : (0 : Int) ≤ (k : Nat)), List.any_eq_true.2 ⟨_, hmem, hq⟩]
  | false =>
   refine rn5 ?_
   exact zR ⟨k + 1, ⟨by omega, by rw [htk, hno, hq]; rfl⟩, by omega, ⟨U, U, U, U, trivial⟩, U⟩
 ·have hk' : k = l.length := by omega
  subst hk'
  rw [List.take_length] at hno
  refine rn5 ?_
  refine zN hR U ⟨⟨-1, U, ?_⟩, U⟩
  rw [hno]; rfl
/-- slices.ContainsFunc of numbers, the function looks at the caller's memory -/
theorem zHf {H : zP} (l : List Int) (q : Int → Bool) (g : Nat) (caps : List AV) (hl : l.length ≤ 1000000) (hc : ∀ x ∈ l, zd Tryz.prog g (.int .i64 x :: caps) H (fun h => h < H.length) (fun r H' => r = .bool (q x) ∧ H' = H)) :
 zd Tryz.prog 65 [z8 l, .fn g caps] H (fun h => h < H.length) (fun r H' => r = .bool (l.any q) ∧ H' = H) := by
 refine zL (P := Tryz.prog) (fn := Tryz.f65) U U (by kernel_rfl) U (fun c hR hfix => ?_)
 refine rn0 ?_
 refine zBR U U U (zMk l q g caps hl hc) (fun _ h => h) (fun _ h => h) ?_
 rintro r H' ⟨⟨n, rfl, hn⟩, rfl⟩
 refine rn8 ?_
 exact zN hR U ⟨congrArg AV.bool hn, U⟩
abbrev tbF (r : Go.Ax.Gm.Rules) (l : List Pos) (nx : List (List Nat)) (e : AV) : List AV := [.str r.name, .int .i64 r.w, .int .i64 r.h, .ro (zAj r.pcs) 0 r.pcs.length, z8 r.start, .bool r.falls, .bool r.keeps, .ro (zEv r.ends) 0 r.ends.length, .int .i64 r.blocked, .int .i64 r.quiet, .int .i64 r.rep, .ro (zCg l) 0 l.length, .ro (zDm nx) 0 nx.length, e, .rom (zCN l) (zC1 l.length)]
abbrev zCI (E : List Ent) : Cells := zC3 (0, 0) 2 zB6 E
/-- the closures of solve, over its memory -/
structure SolveH (r : Go.Ax.Gm.Rules) (l : List Pos) (nx : List (List Nat)) (E : List Ent) (H : zP) : Prop where
 h1 : H[1]? = some (some ⟨64, .box (tbF r l nx (.sl 3 0 E.length))⟩)
 h2 : H[2]? = some (some ⟨28, .box [.ptr 1 0 0]⟩)
 h3 : H[3]? = some (some ⟨35, zCI E⟩)
theorem cl1_ok {r : Go.Ax.Gm.Rules} {l : List Pos} {nx : List (List Nat)} {E : List Ent} {H : zP} (S : SolveH r l nx E H) (own : Int) (k : Int) (hk : 0 ≤ k ∧ k < (E.length : Int)) :
 zd Tryz.prog 64 [.int .i64 k, .ptr 2 0 0, .rp (.box [.int .i64 own]) 0 0] H (fun h => h < H.length) (fun r H' => r = .bool (decide ((E.getD k.toNat (0, 0)).1 = own)) ∧ H' = H) := by
 obtain ⟨h1, h2, h3⟩ := S
 have hk' : k.toNat < E.length := by omega
 refine zL (P := Tryz.prog) (fn := Tryz.f64) U U (by kernel_rfl) U (fun c hR hfix => ?_)
 refine rn0 ?_
 refine ze (by kernel_rfl) ?_
 refine zh (fuel := 0) [0, 1, 2, 3, 4, 5, 6, 7, 8, 9, 10] [(0, .int .i64 k), (1, .ptr 2 0 0), (2, .rp (.box [.int .i64 own]) 0 0)] ⟨U, U, U, trivial⟩ (by kernel_rfl) (by decide) U U ?_
 refine zI U U (zBU U U U (by assumption) (by rfl)) ?_
 refine zI U U (zV U) ?_
 refine zI U U (zO U U U U U U) ?_
 refine zI U U (zBU U U U (by assumption) (by rfl)) ?_
 refine zI U U (zG U) ?_
 refine zI U U (qis U U U) ?_
 refine zI U U (zO U U U U U U) ?_
 refine zI U U (zDb U U U (by assumption) U (by first | assumption | omega)) ?_
 refine zI U U (zD U U U U) ?_
 refine zI U U (zBp U U) ?_
 refine zI U U (zM U) ?_
 refine zw ?_
 refine zW (by kernel_rfl) ?_
 refine rn0 ?_
 exact zN hR U ⟨U, U⟩
theorem cl2_ok {r : Go.Ax.Gm.Rules} {l : List Pos} {nx : List (List Nat)} {E : List Ent} {H : zP} (S : SolveH r l nx E H) (own : Int) (k : Int) (hk : 0 ≤ k ∧ k < (E.length : Int)) :
 zd Tryz.prog 66 [.int .i64 k, .ptr 2 0 0, .rp (.box [.int .i64 own]) 0 0] H (fun h => h < H.length) (fun r H' => r = .bool (decide ((E.getD k.toNat (0, 0)).1 ≠ own)) ∧ H' = H) := by
 obtain ⟨h1, h2, h3⟩ := S
 have hk' : k.toNat < E.length := by omega
 refine zL (P := Tryz.prog) (fn := Tryz.f66) U U (by kernel_rfl) U (fun c hR hfix => ?_)
 refine rn0 ?_
 refine ze (by kernel_rfl) ?_
 refine zh (fuel := 0) [0, 1, 2, 3, 4, 5, 6, 7, 8, 9, 10] [(0, .int .i64 k), (1, .ptr 2 0 0), (2, .rp (.box [.int .i64 own]) 0 0)] ⟨U, U, U, trivial⟩ (by kernel_rfl) (by decide) U U ?_
 refine zI U U (zBU U U U (by assumption) (by rfl)) ?_
 refine zI U U (zV U) ?_
 refine zI U U (zO U U U U U U) ?_
 refine zI U U (zBU U U U (by assumption) (by rfl)) ?_
 refine zI U U (zG U) ?_
 refine zI U U (qis U U U) ?_
 refine zI U U (zO U U U U U U) ?_
 refine zI U U (zDb U U U (by assumption) U (by first | assumption | omega)) ?_
 refine zI U U (zD U U U U) ?_
 refine zI U U (zBh U U) ?_
 refine zI U U (zM U) ?_
 refine zw ?_
 refine zW (by kernel_rfl) ?_
 refine rn0 ?_
 exact zN hR U ⟨U, U⟩
theorem cl3_ok {r : Go.Ax.Gm.Rules} {l : List Pos} {nx : List (List Nat)} {E : List Ent} {H : zP} (S : SolveH r l nx E H) (i : Nat) (hi : i < l.length) (ht : zAF l i = 0 ∨ zAF l i = 1) (k : Int) (hk : 0 ≤ k ∧ k < (E.length : Int)) :
 zd Tryz.prog 67 [.int .i64 k, .ptr 2 0 0, .rp (.box [iN i]) 0 0] H (fun h => h < H.length) (fun r H' => r = .bool (decide ((E.getD k.toNat (0, 0)).1 = 1 + zAF l i)) ∧ H' = H) := by
 obtain ⟨h1, h2, h3⟩ := S
 have hk' : k.toNat < E.length := by omega
 have ht : 0 ≤ (l.getD i zq).turn ∧ (l.getD i zq).turn ≤ 1 := by unfold zAF at ht; omega
 refine zL (P := Tryz.prog) (fn := Tryz.f67) U U (by kernel_rfl) U (fun c hR hfix => ?_)
 refine rn0 ?_
 refine ze (by kernel_rfl) ?_
 refine zh (fuel := 0) [0, 1, 2, 3, 4, 5, 6, 7, 8, 9, 10, 11, 12, 13, 14, 15, 16, 17, 18] [(0, .int .i64 k), (1, .ptr 2 0 0), (2, .rp (.box [iN i]) 0 0)] ⟨U, U, U, trivial⟩ (by kernel_rfl) (by decide) U U ?_
 refine zI U U (zBU U U U (by assumption) (by rfl)) ?_
 refine zI U U (zV U) ?_
 refine zI U U (zO U U U U U U) ?_
 refine zI U U (zBU U U U (by assumption) (by rfl)) ?_
 refine zI U U (zG U) ?_
 refine zI U U (qis U U U) ?_
 refine zI U U (zO U U U U U U) ?_
 refine zI U U (zDb U U U (by assumption) U (by first | assumption | omega)) ?_
 refine zI U U (zBU U U U (by assumption) (by rfl)) ?_
 refine zI U U (zV U) ?_
 refine zI U U (zO U U U U U U) ?_
 refine zI U U (zBU U U U (by assumption) (by rfl)) ?_
 refine zI U U (zD U U U U) ?_
 refine zI U U (zn U U U U (by first | (simp only [Nat.zero_add, Int.toNat_natCast, Int.toNat_zero]; exact U) | exact U) (by omega)) ?_
 refine zI U U (zK U U U U U U) ?_
 refine zI U U (zBF U U U U) ?_
 refine zI U U (zA4 U U (by omega)) ?_
 refine zI U U (zBp U U) ?_
 refine zI U U (zM U) ?_
 refine zw ?_
 refine zW (by kernel_rfl) ?_
 refine rn0 ?_
 exact zN hR U ⟨U, U⟩
/-- is(own): the box is only read from now on -/
theorem cl0_ok {H : zP} (own : Int) (hb : ∀ (h : Nat) (o : AObj), H[h]? = some (some o) → zAz H.length o.c) (hlt : 2 < H.length) :
 zd Tryz.prog 63 [.int .i64 own, .ptr 2 0 0] H (fun h => h < H.length) (fun r H' => r = .fn 64 [.ptr 2 0 0, .rp (.box [.int .i64 own]) 0 0] ∧ H' = H) := by
 have hc : zd Tryz.prog 63 [.int .i64 own, .ptr 2 0 0] H (fun h => h < H.length) (fun r H' => r = .fn 64 [.ptr 2 0 0, .rp (.box [.int .i64 own]) 0 0] ∧ H' = H ++ [none]) := by
  refine zL (P := Tryz.prog) (fn := Tryz.f63) U U (by kernel_rfl) U (fun c hR hfix => ?_)
  refine zY ?_
  repeat (first | refine zA (zM rfl) ?_ | refine zC ?_ | refine zB ?_ | refine zJ rfl ?_ | refine zAO rfl rfl ?_)
  refine ax_fzN H 2 [(1, .ptr 2 0 0)] U U ⟨U, trivial⟩ ?_
  repeat (first | refine zA (zM rfl) ?_ | refine zC ?_ | refine zB ?_ | refine zY ?_ | refine zJ rfl ?_ | refine z6 ?_ | refine zA (zCn rfl) ?_)
  exact zN hR U ⟨U, U⟩
 exact zd.cutR hc (fun v H' ⟨e1, e2⟩ => ⟨H, [none], e2, fun h q => q, hb, by rw [e1]; show (Nat.blt 2 H.length && _) = true; rw [show Nat.blt 2 H.length = true from Nat.ble_eq_true_of_le hlt]; rfl, e1, U⟩)
abbrev slH (r : Go.Ax.Gm.Rules) (l : List Pos) (nx : List (List Nat)) (E : List Ent) (T : zP) : zP :=
 none :: some ⟨64, .box (tbF r l nx (.sl 3 0 E.length))⟩ :: some ⟨28, .box [.ptr 1 0 0]⟩ :: some ⟨35, zCI E⟩ :: T
abbrev zGd (f : List Nat) : Option AObj := some ⟨3, .ints .i64 (f.map Int.ofNat)⟩
abbrev resO (f : List Int) : Option AObj := some ⟨3, .ints .i64 f⟩
theorem slH_S (r : Go.Ax.Gm.Rules) (l : List Pos) (nx : List (List Nat)) (E : List Ent) (T : zP) : SolveH r l nx E (slH r l nx E T) := ⟨rfl, rfl, rfl⟩
theorem zMi {n : Nat} (E : List Ent) : zAz n (zCI E) := fun i j _ hj => by
 have hj : j < 2 := hj
 match j, hj with
 | 0, _ => rfl
 | 1, _ => rfl
theorem zG5 (a : Ent) (j k : Nat) : ((zB6 a).getD j .any).forget k = (zB6 a).getD j .any := by
 match j with
 | 0 => rfl
 | 1 => rfl
 | j + 2 => rfl
/-- what solve may rely on -/
structure SolveP (r : Go.Ax.Gm.Rules) (l : List Pos) (nx : List (List Nat)) : Prop where
 hv : ValidR r
 ll : l.length ≤ 3000
 S : ∀ i, i < l.length → Sound r (l.getD i zq)
 nl : nx.length = l.length
 rl : ∀ i, i < l.length → (nx.getD i []).length ≤ 1000000
 nk : ∀ i, i < l.length → ∀ k ∈ nx.getD i [], k < l.length
theorem zF7 (n : Nat) : CEq (zBL n [.int .i64 0, .int .i64 0]) (zCI (List.replicate n (0, 0))) := by
 refine ⟨by show (List.replicate n ((0, 0) : Ent)).length = n; rw [List.length_replicate], U, fun i j hi hj => ?_⟩
 have hj : j < 2 := hj
 have e : (List.replicate n ((0, 0) : Ent)).getD i (0, 0) = (0, 0) := by
  simp only [List.getD, List.getElem?_replicate]; split <;> rfl
 show (zB6 ((List.replicate n ((0, 0) : Ent)).getD i (0, 0))).getD j .any = _
 rw [e]
 match j, hj with
 | 0, _ => rfl
 | 1, _ => rfl
theorem zGD {H : zP} {t : TypeId} {a b : Cells} (h : CEq a b) : zAs (H ++ [some ⟨t, a⟩]) (H ++ [some ⟨t, b⟩]) :=
 zAs.append (zAs.refl H) (zAs.cons (fun o ho => by cases ho; exact ⟨_, rfl, rfl, h⟩) (zAs.refl []))
theorem zE7 (r : Go.Ax.Gm.Rules) (l : List Pos) (nx : List (List Nat)) (E : List Ent) {T : zP} (h : ∀ (h : Nat) (o : AObj), T[h]? = some (some o) → zAz (slH r l nx E T).length o.c) : ∀ (h : Nat) (o : AObj), (slH r l nx E T)[h]? = some (some o) → zAz (slH r l nx E T).length o.c :=
 have e : (slH r l nx E T).length = T.length + 4 := rfl
 have q : ∀ n, 4 ≤ n → (Nat.blt 3 n) = true ∧ (Nat.blt 1 n) = true := fun n hn => ⟨Nat.ble_eq_true_of_le hn, Nat.ble_eq_true_of_le (by omega)⟩
 bl_n (zBY (zDr (by show (true && (true && (true && (true && (true && (true && (true && (true && (true && (true && (true && (true && (true && (Nat.blt 3 _ && (true && true))))))))))))))) = true; rw [(q _ (by omega)).1]; rfl)) (zBY (zDr (by show (Nat.blt 1 _ && true) = true; rw [(q _ (by omega)).2]; rfl)) (zBY (zMi E) h)))
theorem zGr (r : Go.Ax.Gm.Rules) (l : List Pos) (nx : List (List Nat)) (E : List Ent) : ∀ (h : Nat) (o : AObj), (slH r l nx E [])[h]? = some (some o) → zAz (slH r l nx E []).length o.c := zE7 r l nx E zBZ
/-- (*retro.Table).solve -/
theorem solve_ok (r : Go.Ax.Gm.Rules) (l : List Pos) (nx : List (List Nat)) (Q : SolveP r l nx) :
 zd Tryz.prog 38 [.ptr 1 0 0] [none, some ⟨64, .box (tbF r l nx .nil)⟩] (fun h => h < 2) (fun v H => v = .tup [] ∧ ∃ N, zA0 l nx (zg l nx (zAD r l) N) = [] ∧ H = slH r l nx (zB5 (zg l nx (zAD r l) N)) []) := by
 obtain ⟨hv, hll, hS, hnl, hrl, hnk⟩ := Q
 refine zL (P := Tryz.prog) (fn := Tryz.f38) U U (by kernel_rfl) U (fun c hR hfix => ?_)
 have turnB : ∀ i, zAF l i = 0 ∨ zAF l i = 1 := fun i => by
  rcases Nat.lt_or_ge i l.length with q | q
  ·exact (hS i q).tn
  ·left; unfold zAF; rw [List.getD, List.getElem?_eq_none q]; rfl
 have hfx : ∀ h, c.fix h → h < 2 := fun h q => by rw [hfix] at q; exact q
 refine zY ?_
 repeat (first | refine zC ?_ | refine zB ?_ | refine zJ rfl ?_ | refine zAO rfl rfl ?_)
 refine zY ?_
 refine ze (by kernel_rfl) ?_
 apply zT (H := [none, some ⟨64, .box (tbF r l nx .nil)⟩, some ⟨28, .box [.ptr 1 0 0]⟩, some ⟨35, zCI (List.replicate l.length (0, 0))⟩]) [(1, .ptr 2 0 0), (19, .ptr 1 0 0), (25, .sl 3 0 l.length)]
 ·intro fin
  refine zH (is := [0, 1]) (by kernel_rfl) (by simp) U ⟨fun o ho => ?_, fun o ho => ?_, trivial⟩
  all_goals (cases ho)
  ·refine rn4 ?_
   refine zh (fuel := 4) [1, 2, 3, 4, 5] [(1, .ptr 2 0 0), (19, .ptr 1 0 0)] ⟨U, U, trivial⟩ (by kernel_rfl) (by decide) U U ?_
   refine zI U U (zU U U U U U) ?_
   refine zI U U (zV U) ?_
   refine zI U U (zO U U U U U U) ?_
   refine zI U U (zU U U U U U) ?_
   refine zI U U (zBK U U U) ?_
   refine zw ?_
   refine zH (is := [6]) (by kernel_rfl) (by simp) U ⟨fun o ho => ?_, trivial⟩
   all_goals (cases ho)
   refine zGx U U U U U U U U (by show (0 : Int) ≤ _ ∧ _ ≤ _ ∧ (16 : Int) * _ ≤ _ ∧ _; omega) ?_
   refine zBH _ (zGD (zF7 l.length)) ?_
   refine rn1 ?_
   exact fin _ ⟨U, U, U, trivial⟩
  ·refine rn4 ?_
   refine zS 2 U (by kernel_rfl) (by kernel_rfl) (by kernel_rfl) U (zV U) U ?_
   refine zS 3 U (by kernel_rfl) (by kernel_rfl) (by kernel_rfl) U (zO U U U U U U) U ?_
   refine zH (is := [0, 4]) (by kernel_rfl) (by simp) U ⟨fun o ho => ?_, fun o ho => ?_, trivial⟩
   all_goals (cases ho)
   ·refine rn4 ?_
    refine zh (fuel := 4) [4, 5] [(1, .ptr 2 0 0), (19, .ptr 1 0 0), (22, .ptr 1 0 11)] ⟨U, U, U, trivial⟩ (by kernel_rfl) (by decide) U U ?_
    refine zI U U (zU U U U U U) ?_
    refine zI U U (zBK U U U) ?_
    refine zw ?_
    refine zH (is := [6]) (by kernel_rfl) (by simp) U ⟨fun o ho => ?_, trivial⟩
    all_goals (cases ho)
    refine zGx U U U U U U U U (by show (0 : Int) ≤ _ ∧ _ ≤ _ ∧ (16 : Int) * _ ≤ _ ∧ _; omega) ?_
    refine zBH _ (zGD (zF7 l.length)) ?_
    refine rn1 ?_
    exact fin _ ⟨U, U, U, trivial⟩
   ·refine rn4 ?_
    refine zS 5 U (by kernel_rfl) (by kernel_rfl) (by kernel_rfl) U (zBK U U U) U ?_
    refine zH (is := [0, 6]) (by kernel_rfl) (by simp) U ⟨fun o ho => ?_, fun o ho => ?_, trivial⟩
    all_goals (cases ho)
    ·refine rn4 ?_
     refine zH (is := [6]) (by kernel_rfl) (by simp) U ⟨fun o ho => ?_, trivial⟩
     all_goals (cases ho)
     refine zGx U U U U U U U U (by show (0 : Int) ≤ _ ∧ _ ≤ _ ∧ (16 : Int) * _ ≤ _ ∧ _; omega) ?_
     refine zBH _ (zGD (zF7 l.length)) ?_
     refine rn1 ?_
     exact fin _ ⟨U, U, U, trivial⟩
    ·refine zGx U U U U U U U U (by show (0 : Int) ≤ _ ∧ _ ≤ _ ∧ (16 : Int) * _ ≤ _ ∧ _; omega) ?_
     refine zBH _ (zGD (zF7 l.length)) ?_
     refine rn1 ?_
     refine zH (is := [0]) (by kernel_rfl) (by simp) U ⟨fun o ho => ?_, trivial⟩
     all_goals (cases ho)
     refine rn4 ?_
     exact fin _ ⟨U, U, U, trivial⟩
 refine zS 7 U (by kernel_rfl) (by kernel_rfl) (by kernel_rfl) U (zV U) U ?_
 refine zS 8 U (by kernel_rfl) (by kernel_rfl) (by kernel_rfl) U (zO U U U U U U) U ?_
 refine zH (is := [9]) (by kernel_rfl) (by simp) U ⟨fun o ho => ?_, trivial⟩
 all_goals (cases ho)
 refine rn9 ?_
 refine zW (by kernel_rfl) ?_
 repeat (refine zB ?_)
 refine zAK (slH r l nx (zDH r l 0) []) (by rw [zMP]; show _ = [none, some (AObj.mk _ (.box (tbF r l nx (.sl 3 0 (List.replicate l.length ((0, 0) : Ent)).length)))), _, _]; rw [List.length_replicate]; rfl) ?_
 refine zY ?_
 refine rn15 ?_
 refine zAA (ι := Nat) (fun k => [(1, .ptr 2 0 0), (31, .ro (zCg l) 0 l.length), (32, iN l.length), (33, iN k)]) (fun k => slH r l nx (zDH r l k) []) (fun k => k ≤ l.length) (fun k => l.length - k) 0 ⟨⟨U, U, U, U, trivial⟩, U, Nat.zero_le _⟩ ?_
 ·intro k hk
  refine rn4 ?_
  refine zF U (fun h => ?_) (fun h => ?_)
  ·have hk' : k < l.length := by omega
   have hEl := zJV r hk
   generalize hp : l.getD k zq = p
   refine zGo ?_
   refine rn4 ?_
   refine zZ (poC p) U U U U U (by rw [← hp]; rfl) U ?_
   refine rn0 ?_
   refine zDL (slH r l nx (zDH r l k) []) 3 [(1, .ptr 2 0 0), (31, .ro (zCg l) 0 l.length), (32, iN l.length), (33, iN k), (2, iN k)] U U ⟨U, U, U, U, U, trivial⟩ ⟨U, U, U, U, U, U, trivial⟩ (zGr _ _ _ _) U (fun h q => Nat.lt_of_lt_of_le (hfx h q) (by show 2 ≤ 4; decide)) ?_
   refine ze (by kernel_rfl) ?_
   refine zh (fuel := 3) [0, 1, 2, 3, 4, 5, 6, 7, 8, 9, 10] [(3, .rp (.box (poC p)) 0 0), (1, .ptr 2 0 0), (31, .ro (zCg l) 0 l.length), (32, iN l.length), (33, iN k), (2, iN k)] ⟨U, U, U, U, U, U, trivial⟩ (by kernel_rfl) (by decide) U U ?_
   refine zI U U (zU U U U U U) ?_
   refine zI U U (zV U) ?_
   refine zI U U (zO U U U U U U) ?_
   refine zI U U (zU U U U U U) ?_
   refine zI U U (zG U) ?_
   refine zI U U (zU U U U U U) ?_
   refine zI U U (zV U) ?_
   refine zI U U (zO U U U U U U) ?_
   refine zI U U (qpp U U U U U U U) ?_
   refine zI U U (zm U U U U U U) ?_
   refine zBS U U U U U (zCX r hv p (by rw [← hp]; exact hS k hk')) ?_
   refine zw ?_
   refine zS 11 U (by kernel_rfl) (by kernel_rfl) (by kernel_rfl) U (zo U U U U U (by first | (simp only [Nat.zero_add, Int.toNat_natCast, Int.toNat_zero]; exact U) | exact U) (by omega)) U ?_
   refine zS 12 U (by kernel_rfl) (by kernel_rfl) (by kernel_rfl) U (zO U U U U U U) U ?_
   refine zH (is := [13]) (by kernel_rfl) (by simp) U ⟨fun o ho => ?_, trivial⟩
   all_goals (cases ho)
   refine zJ0 (zb r p, 0) U U U U U U (by omega) (fun j' hj' => ?_) ?_
   ·rw [zOf r hk']
    match j', hj' with
    | 0, _ => rfl
    | 1, _ => rfl
   refine rn1 ?_
   refine zW (by kernel_rfl) ?_
   refine rn5 ?_
   refine zR ⟨k + 1, by omega, by omega, ⟨U, U, U, U, trivial⟩, ?_⟩
   rw [zMO r hk', hp]
   show _ = [none, some (AObj.mk _ (.box (tbF r l nx (.sl 3 0 (List.set _ _ _).length)))), _, _]
   rw [List.length_set]; rfl
  ·have hk' : k = l.length := by omega
   subst hk'
   rw [zII]
   refine rn5 ?_
   have hE0 : (zAD r l).length = l.length := by rw [← zII]; exact zJV r (Nat.le_refl _)
   have hopl : ∀ E : List Ent, zBy E ≤ E.length := fun E => List.length_filter_le ..
   refine zAA (ι := Nat) (fun n => [(1, .ptr 2 0 0), (4, .int .i64 ((n : Int) + 1))]) (fun n => slH r l nx (zg l nx (zAD r l) n) []) (fun n => n + zBy (zg l nx (zAD r l) n) ≤ l.length) (fun n => zBy (zg l nx (zAD r l) n)) 0 ⟨⟨U, U, trivial⟩, U, by show 0 + zBy (zAD r l) ≤ _; have := hopl (zAD r l); omega⟩ ?_
   intro n hn
   have hEl : (zg l nx (zAD r l) n).length = l.length := zC0 hE0 n
   have hst : zg l nx (zAD r l) (n + 1) = zDn l nx (n + 1) (zg l nx (zAD r l) n) := rfl
   have hop : zA0 l nx (zg l nx (zAD r l) n) ≠ [] → zBy (zDn l nx (n + 1) (zg l nx (zAD r l) n)) < zBy (zg l nx (zAD r l) n) := fun q => zFS hEl (fun i => turnB i) q
   generalize hEn : zg l nx (zAD r l) n = E at hn hEl hop hst
   refine rn15 ?_
   refine zCF 5 ⟨3, .ints .i64 []⟩ U U ?_
   skip
   refine zAA (ι := Nat) (fun k => [(1, .ptr 2 0 0), (4, .int .i64 ((n : Int) + 1)), (57, .ro (zCg l) 0 l.length), (58, iN l.length), (59, iN k), (5, .sl 4 0 (zBE l nx E k).length)]) (fun k => slH r l nx E [zGd (zBE l nx E k)]) (fun k => k ≤ l.length) (fun k => l.length - k) 0 ⟨⟨U, U, U, U, U, U, trivial⟩, U, Nat.zero_le _⟩ ?_
   intro k hk
   refine rn4 ?_
   refine zF U (fun h => ?_) (fun h => ?_)
   ·have hk' : k < l.length := by omega
    have hkE : k < E.length := by omega
    have hfl := zIr l nx E k
    have htn := turnB k
    have hfs := zLo l nx E k
    have hT : zAF l k = (l.getD k zq).turn := rfl
    generalize hp : l.getD k zq = p at hT
    refine zGo ?_
    refine rn4 ?_
    refine zZ (poC p) U U U U U (by rw [← hp]; rfl) U ?_
    refine zBG ?_
    refine zDL (slH r l nx E [zGd (zBE l nx E k)]) 7 [(1, .ptr 2 0 0), (4, .int .i64 ((n : Int) + 1)), (57, .ro (zCg l) 0 l.length), (58, iN l.length), (59, iN k), (5, .sl 4 0 (zBE l nx E k).length), (6, iN k)] U U ⟨U, U, U, U, U, U, U, trivial⟩ ⟨U, U, U, U, U, U, U, U, trivial⟩ (zE7 _ _ _ _ (zBY (fun _ _ _ _ => rfl) zBZ)) U (fun h q => Nat.lt_of_lt_of_le (hfx h q) (by show 2 ≤ 5; decide)) ?_
    repeat (first | refine zA (zG rfl) ?_ | refine zC ?_ | refine zB ?_ | refine zJ rfl ?_ | refine zA (zU rfl rfl rfl rfl rfl) ?_ | refine zA (zBh rfl rfl) ?_ | refine zA (zo rfl rfl rfl rfl rfl (by first | (simp only [Nat.zero_add, Int.toNat_natCast, Int.toNat_zero]; exact rfl) | exact rfl) (by omega)) ?_ | refine zA (zDa rfl rfl rfl rfl rfl (by first | assumption | omega)) ?_ | refine zA (zV rfl) ?_ | refine zA (zO rfl rfl rfl rfl rfl rfl) ?_)
    refine zF U (fun o1 => ?_) (fun o1 => ?_)
    ·have hno : ¬ zBJ l nx E k = true := fun q => o1 (zEA q)
     refine rn5 ?_
     refine zR ⟨k + 1, by omega, by omega, ⟨U, U, U, U, U, ?_, trivial⟩, ?_⟩
     ·rw [hfs, if_neg hno]; rfl
     ·rw [hfs, if_neg hno]
    ·have ho : zAU E k = 0 := Classical.not_not.1 o1
     have hfb : zBJ l nx E k = (zGV l nx E k || zEk l nx E k) := by unfold zBJ; rw [ho]; rfl
     refine rn1 ?_
     refine ze (by kernel_rfl) ?_
     refine zS 0 U (by kernel_rfl) (by kernel_rfl) (by kernel_rfl) U (zK U U U U U U) U ?_
     refine zS 3 U (by kernel_rfl) (by kernel_rfl) (by kernel_rfl) U (zK U U U U U U) U ?_
     apply zT (H := slH r l nx E [zGd (zBE l nx E k), some ⟨3, .box [.int .i64 0]⟩]) [(1, .ptr 2 0 0), (4, .int .i64 ((n : Int) + 1)), (57, .ro (zCg l) 0 l.length), (58, iN l.length), (59, iN k), (5, .sl 4 0 (zBE l nx E k).length), (6, iN k), (8, .int .i64 (1 + p.turn)), (78, .int .i64 (2 - p.turn)), (9, .ptr 5 0 0)]
     ·intro fin
      refine zH (is := [1, 4, 6]) (by kernel_rfl) (by simp) U ⟨fun o ho => ?_, fun o ho => ?_, fun o ho => ?_, trivial⟩
      all_goals (cases ho)
      ·repeat (first | refine zC ?_ | refine zX ?_ | refine zA (zD rfl rfl rfl rfl) ?_)
       refine zS 2 U (by kernel_rfl) (by kernel_rfl) (by kernel_rfl) U (zA4 U U (by omega)) U ?_
       refine zH (is := [4, 6]) (by kernel_rfl) (by simp) U ⟨fun o ho => ?_, fun o ho => ?_, trivial⟩
       all_goals (cases ho)
       ·repeat (first | refine zC ?_ | refine zX ?_ | refine zA (zD rfl rfl rfl rfl) ?_)
        refine zS 5 U (by kernel_rfl) (by kernel_rfl) (by kernel_rfl) U (zA1 U U (by omega)) U ?_
        refine zH (is := [6]) (by kernel_rfl) (by simp) U ⟨fun o ho => ?_, trivial⟩
        all_goals (cases ho)
        refine rn4 ?_
        refine zS 7 U (by kernel_rfl) (by kernel_rfl) (by kernel_rfl) U (zM U) U ?_
        exact fin _ ⟨U, U, U, U, U, U, U, U, U, U, trivial⟩
       ·refine rn4 ?_
        refine zS 7 U (by kernel_rfl) (by kernel_rfl) (by kernel_rfl) U (zM U) U ?_
        refine zH (is := [4]) (by kernel_rfl) (by simp) U ⟨fun o ho => ?_, trivial⟩
        all_goals (cases ho)
        repeat (first | refine zC ?_ | refine zX ?_ | refine zA (zD rfl rfl rfl rfl) ?_)
        refine zS 5 U (by kernel_rfl) (by kernel_rfl) (by kernel_rfl) U (zA1 U U (by omega)) U ?_
        exact fin _ ⟨U, U, U, U, U, U, U, U, U, U, trivial⟩
      ·repeat (first | refine zC ?_ | refine zX ?_ | refine zA (zD rfl rfl rfl rfl) ?_)
       refine zS 5 U (by kernel_rfl) (by kernel_rfl) (by kernel_rfl) U (zA1 U U (by omega)) U ?_
       refine zH (is := [1, 6]) (by kernel_rfl) (by simp) U ⟨fun o ho => ?_, fun o ho => ?_, trivial⟩
       all_goals (cases ho)
       ·repeat (first | refine zC ?_ | refine zX ?_ | refine zA (zD rfl rfl rfl rfl) ?_)
        refine zS 2 U (by kernel_rfl) (by kernel_rfl) (by kernel_rfl) U (zA4 U U (by omega)) U ?_
        refine zH (is := [6]) (by kernel_rfl) (by simp) U ⟨fun o ho => ?_, trivial⟩
        all_goals (cases ho)
        refine rn4 ?_
        refine zS 7 U (by kernel_rfl) (by kernel_rfl) (by kernel_rfl) U (zM U) U ?_
        exact fin _ ⟨U, U, U, U, U, U, U, U, U, U, trivial⟩
       ·refine rn4 ?_
        refine zH (is := [1]) (by kernel_rfl) (by simp) U ⟨fun o ho => ?_, trivial⟩
        all_goals (cases ho)
        repeat (first | refine zC ?_ | refine zX ?_ | refine zA (zD rfl rfl rfl rfl) ?_)
        refine zS 2 U (by kernel_rfl) (by kernel_rfl) (by kernel_rfl) U (zA4 U U (by omega)) U ?_
        refine zS 7 U (by kernel_rfl) (by kernel_rfl) (by kernel_rfl) U (zM U) U ?_
        exact fin _ ⟨U, U, U, U, U, U, U, U, U, U, trivial⟩
      ·refine rn4 ?_
       refine zH (is := [1, 4]) (by kernel_rfl) (by simp) U ⟨fun o ho => ?_, fun o ho => ?_, trivial⟩
       all_goals (cases ho)
       ·repeat (first | refine zC ?_ | refine zX ?_ | refine zA (zD rfl rfl rfl rfl) ?_)
        refine zS 2 U (by kernel_rfl) (by kernel_rfl) (by kernel_rfl) U (zA4 U U (by omega)) U ?_
        refine zS 7 U (by kernel_rfl) (by kernel_rfl) (by kernel_rfl) U (zM U) U ?_
        refine zH (is := [4]) (by kernel_rfl) (by simp) U ⟨fun o ho => ?_, trivial⟩
        all_goals (cases ho)
        repeat (first | refine zC ?_ | refine zX ?_ | refine zA (zD rfl rfl rfl rfl) ?_)
        refine zS 5 U (by kernel_rfl) (by kernel_rfl) (by kernel_rfl) U (zA1 U U (by omega)) U ?_
        exact fin _ ⟨U, U, U, U, U, U, U, U, U, U, trivial⟩
       ·repeat (first | refine zC ?_ | refine zX ?_ | refine zA (zD rfl rfl rfl rfl) ?_)
        refine zS 5 U (by kernel_rfl) (by kernel_rfl) (by kernel_rfl) U (zA1 U U (by omega)) U ?_
        refine zH (is := [1]) (by kernel_rfl) (by simp) U ⟨fun o ho => ?_, trivial⟩
        all_goals (cases ho)
        repeat (first | refine zC ?_ | refine zX ?_ | refine zA (zD rfl rfl rfl rfl) ?_)
        refine zS 2 U (by kernel_rfl) (by kernel_rfl) (by kernel_rfl) U (zA4 U U (by omega)) U ?_
        refine zS 7 U (by kernel_rfl) (by kernel_rfl) (by kernel_rfl) U (zM U) U ?_
        exact fin _ ⟨U, U, U, U, U, U, U, U, U, U, trivial⟩
     refine zH (is := [8]) (by kernel_rfl) (by simp) U ⟨fun o ho => ?_, trivial⟩
     all_goals (cases ho)
     refine rn9 ?_
     refine zW (by kernel_rfl) ?_
     refine zBG ?_
     refine zDL (slH r l nx E [zGd (zBE l nx E k)]) 9 [(1, .ptr 2 0 0), (4, .int .i64 ((n : Int) + 1)), (57, .ro (zCg l) 0 l.length), (58, iN l.length), (59, iN k), (5, .sl 4 0 (zBE l nx E k).length), (6, iN k), (8, .int .i64 (1 + p.turn))] U U ⟨U, U, U, U, U, U, U, U, trivial⟩ ⟨U, U, U, U, U, U, U, U, U, trivial⟩ (zE7 _ _ _ _ (zBY (fun _ _ _ _ => rfl) zBZ)) U (fun h q => Nat.lt_of_lt_of_le (hfx h q) (by show 2 ≤ 5; decide)) ?_
     refine zBz ?_
     have hkn : k < nx.length := by omega
     have hrow := hrl k hk'
     have hcl : ∀ x ∈ (nx.getD k []).map Int.ofNat, 0 ≤ x ∧ x < (E.length : Int) := fun x hx => by
      obtain ⟨q, hq, rfl⟩ := List.mem_map.1 hx
      have := hnk k hk' q hq
      exact ⟨Int.natCast_nonneg q, by show (q : Int) < _; omega⟩
     have hrl2 : ((nx.getD k []).map Int.ofNat).length ≤ 1000000 := by rw [List.length_map]; exact hrow
     have c1 := zHf (H := slH r l nx E [zGd (zBE l nx E k)]) ((nx.getD k []).map Int.ofNat) (fun x => decide ((E.getD x.toNat (0, 0)).1 = 1 + p.turn)) 64 [.ptr 2 0 0, .rp (.box [.int .i64 (1 + p.turn)]) 0 0] hrl2 (fun x hx => cl1_ok (slH_S r l nx E _) (1 + p.turn) x (hcl x hx))
     have c2 := zHf (H := slH r l nx E [zGd (zBE l nx E k)]) ((nx.getD k []).map Int.ofNat) (fun x => decide ((E.getD x.toNat (0, 0)).1 ≠ 2 - p.turn)) 66 [.ptr 2 0 0, .rp (.box [.int .i64 (2 - p.turn)]) 0 0] hrl2 (fun x hx => cl2_ok (slH_S r l nx E _) (2 - p.turn) x (hcl x hx))
     rw [← hT, zLQ] at c1
     rw [← hT] at c2
     rw [← hT]
     refine ze (by kernel_rfl) ?_
     refine zh (fuel := 0) [0, 1, 2, 3, 4, 5, 6, 7, 8, 9, 10, 11] [(9, .rp (.box [.int .i64 (2 - zAF l k)]) 0 0), (1, .ptr 2 0 0), (4, .int .i64 ((n : Int) + 1)), (57, .ro (zCg l) 0 l.length), (58, iN l.length), (59, iN k), (5, .sl 4 0 (zBE l nx E k).length), (6, iN k), (8, .int .i64 (1 + zAF l k)), (10, .fn 63 [.ptr 2 0 0])] ⟨U, U, U, U, U, U, U, U, U, U, trivial⟩ (by kernel_rfl) (by decide) U U ?_
     refine zI U U (zU U U U U U) ?_
     refine zI U U (zV U) ?_
     refine zI U U (zO U U U U U U) ?_
     refine zI U U (zU U U U U U) ?_
     refine zI U U (zG U) ?_
     refine zI U U (zn U U U U (by first | (simp only [Nat.zero_add, Int.toNat_natCast, Int.toNat_zero]; exact U) | exact U) (by omega)) ?_
     refine zI U U (zBF U U U U) ?_
     refine zI U U (zG U) ?_
     refine zI U U (zG U) ?_
     refine px_c U U U U U (cl0_ok _ (zE7 _ _ _ _ (zBY (fun _ _ _ _ => rfl) zBZ)) (by show 2 < 5; decide)) ?_
     refine px_c U U U U U c1 ?_
     refine zI U U (zM U) ?_
     refine zw ?_
     refine zW (by kernel_rfl) ?_
     repeat (first | refine zA (zG rfl) ?_ | refine zB ?_ | refine zY ?_ | refine zJ rfl ?_ | refine zA (zBF rfl rfl rfl rfl) ?_ | refine zA (zU rfl rfl rfl rfl rfl) ?_ | refine zA (zn rfl rfl rfl rfl (by first | (simp only [Nat.zero_add, Int.toNat_natCast, Int.toNat_zero]; exact rfl) | exact rfl) (by omega)) ?_ | refine zA (zCn rfl) ?_ | refine zA (zV rfl) ?_ | refine zA (zO rfl rfl rfl rfl rfl rfl) ?_)
     refine zBR U U U c2 (fun _ h => h) (fun _ h => h) ?_
     rintro r' H' ⟨rfl, rfl⟩
     refine rn5 ?_
     rw [zNo]
     have hml : ((zBE l nx E k).map Int.ofNat).length = (zBE l nx E k).length := List.length_map ..
     cases hw : zGV l nx E k with
     | true =>
      have hyes : zBJ l nx E k = true := by rw [hfb, hw]; rfl
      refine rn6 ?_
      refine zAt U U U U U U U U U hml U U (by show 0 + 1 ≤ 1; omega) U (by show ((zBE l nx E k).length + 1) * 8 ≤ _ ∧ _; omega) (fun i j _ _ => rfl) (by rw [hfix]; show ¬ 4 < 2; decide) ?_
      refine zAT (slH r l nx E [zGd (zBE l nx E k ++ [k])]) ?_ ?_
      ·show [none, some (AObj.mk _ ((Cells.box _).forget 4)), some (AObj.mk _ ((Cells.box _).forget 4)), some (AObj.mk _ ((zCI E).forget 4)), _] = _
       rw [zBq (fun a j => zG5 a j 4)]
       show _ = [none, _, _, _, some (AObj.mk _ (Cells.ints .i64 (List.map Int.ofNat (zBE l nx E k ++ [k]))))]
       rw [List.map_append]; rfl
      refine rn5 ?_
      refine zR ⟨k + 1, by omega, by omega, ⟨U, U, U, U, U, ?_, trivial⟩, ?_⟩
      ·rw [hfs, hyes, if_pos rfl, List.length_append]; rfl
      ·rw [hfs, hyes]; rfl
     | false =>
      cases hl : zEk l nx E k with
      | true =>
       have hyes : zBJ l nx E k = true := by rw [hfb, hw, hl]; rfl
       refine rn5 ?_
       refine zAt U U U U U U U U U hml U U (by show 0 + 1 ≤ 1; omega) U (by show ((zBE l nx E k).length + 1) * 8 ≤ _ ∧ _; omega) (fun i j _ _ => rfl) (by rw [hfix]; show ¬ 4 < 2; decide) ?_
       refine zAT (slH r l nx E [zGd (zBE l nx E k ++ [k])]) ?_ ?_
       ·show [none, some (AObj.mk _ ((Cells.box _).forget 4)), some (AObj.mk _ ((Cells.box _).forget 4)), some (AObj.mk _ ((zCI E).forget 4)), _] = _
        rw [zBq (fun a j => zG5 a j 4)]
        show _ = [none, _, _, _, some (AObj.mk _ (Cells.ints .i64 (List.map Int.ofNat (zBE l nx E k ++ [k]))))]
        rw [List.map_append]; rfl
       refine rn5 ?_
       refine zR ⟨k + 1, by omega, by omega, ⟨U, U, U, U, U, ?_, trivial⟩, ?_⟩
       ·rw [hfs, hyes, if_pos rfl, List.length_append]; rfl
       ·rw [hfs, hyes]; rfl
      | false =>
       have hno : zBJ l nx E k = false := by rw [hfb, hw, hl]; rfl
       refine rn5 ?_
       refine zR ⟨k + 1, by omega, by omega, ⟨U, U, U, U, U, ?_, trivial⟩, ?_⟩
       ·rw [hfs, hno]; rfl
       ·rw [hfs, hno]; rfl
   ·have hk' : k = l.length := by omega
    subst hk'
    have hF : zBE l nx E l.length = zA0 l nx E := rfl
    have hfl : (zA0 l nx E).length ≤ l.length := zIr l nx E l.length
    have hlt : ∀ j, j < (zA0 l nx E).length → (zA0 l nx E).getD j 0 < l.length := fun j hj => zN4 (l := l) (nx := nx) (E := E) (k := l.length) (zAR 0 hj)
    have hstep := zLE (l := l) (nx := nx) (E := E) (n := n + 1) hEl
    rw [hF]
    generalize hf : zA0 l nx E = f at hfl hlt hop hstep
    refine rn5 ?_
    refine zF U (fun z => ?_) (fun z => ?_)
    ·have z2 : f = [] := List.length_eq_zero_iff.1 (by omega)
     subst z2
     repeat (first | refine zB ?_ | refine zY ?_ | refine zCU ?_ | refine zAr ?_ | refine zAq ?_ | refine zAw ?_ | refine zFC rfl ?_)
     refine zB2 (slH r l nx E []) [zGd []] [(1, .ptr 2 0 0)] U ⟨U, trivial⟩ (fun h q => Nat.lt_of_lt_of_le (hfx h q) (by show 2 ≤ 4; decide)) (zGr r l nx E) U ?_
     refine rn15 ?_
     refine zAA (ι := Nat) (fun j => [(1, .ptr 2 0 0), (181, iN E.length), (182, iN j)]) (fun j => slH r l nx (zCL E j) []) (fun j => j ≤ E.length) (fun j => E.length - j) 0 ⟨⟨U, U, U, trivial⟩, by rw [zLf], Nat.zero_le _⟩ ?_
     intro j hj
     have hcl := zIj E j
     refine rn4 ?_
     refine zF U (fun q => ?_) (fun q => ?_)
     ·have hj' : j < E.length := by omega
      have hat := zNt hj'
      have hsu := zLe hj'
      have hsl : (zCL E (j + 1)).length = E.length := zIj E (j + 1)
      repeat (first | refine zA (zG rfl) ?_ | refine zA (zM rfl) ?_ | refine zC ?_ | refine zB ?_ | refine zY ?_ | refine zJ rfl ?_ | refine zAX ?_ | refine zAP ?_ | refine zA (zU rfl rfl rfl rfl rfl) ?_ | refine zA (zBp rfl rfl) ?_ | refine zA (zo rfl rfl rfl rfl rfl (by first | (simp only [Nat.zero_add, Int.toNat_natCast, Int.toNat_zero]; exact rfl) | exact rfl) (by omega)) ?_ | refine zA (zDa rfl rfl rfl rfl rfl (by first | assumption | omega)) ?_ | refine zA (zV rfl) ?_ | refine zA (zO rfl rfl rfl rfl rfl rfl) ?_)
      refine zF U (fun o => ?_) (fun o => ?_)
      ·have o : ((zCL E j).getD j (0, 0)).1 = 0 := o
       rw [hat] at o
       rw [if_pos o] at hsu
       repeat (first | refine zA (zG rfl) ?_ | refine zJ rfl ?_ | refine zA (zU rfl rfl rfl rfl rfl) ?_ | refine zA (zo rfl rfl rfl rfl rfl (by first | (simp only [Nat.zero_add, Int.toNat_natCast, Int.toNat_zero]; exact rfl) | exact rfl) (by omega)) ?_ | refine zA (zV rfl) ?_ | refine zA (zO rfl rfl rfl rfl rfl rfl) ?_)
       refine zJ0 (3, (E.getD j (0, 0)).2) U U U U U U (by show j < (zCL E j).length; omega) (fun j' hj' => ?_) ?_
       ·rw [hat]
        match j', hj' with
        | 0, _ => rfl
        | 1, _ => rfl
       refine rn5 ?_
       refine zR ⟨j + 1, by omega, by omega, ⟨U, U, U, trivial⟩, ?_⟩
       rw [hsu]
       show _ = [none, some (AObj.mk _ (.box (tbF r l nx (.sl 3 0 (List.set _ _ _).length)))), _, _]
       rw [List.length_set]; rfl
      ·have o : ¬ ((zCL E j).getD j (0, 0)).1 = 0 := o
       rw [hat] at o
       rw [if_neg o] at hsu
       refine rn5 ?_
       refine zR ⟨j + 1, by omega, by omega, ⟨U, U, U, trivial⟩, ?_⟩
       rw [hsu]
     ·have hj' : j = E.length := by omega
      subst hj'
      rw [zLd]
      refine rn5 ?_
      refine ax_end (vs := []) hR U ?_
      exact ⟨U, n, by rw [hEn]; exact hf, by rw [hEn]⟩
    ·have hne : f ≠ [] := fun c => z (by rw [c]; rfl)
     have hop := hop hne
     have hml : (f.map Int.ofNat).length = f.length := List.length_map ..
     refine rn3 ?_
     refine zGx U U U U U U U U (by show (0 : Int) ≤ _ ∧ _ ≤ _ ∧ (8 : Int) * _ ≤ _ ∧ _; omega) ?_
     refine rn3 ?_
     refine zAA (ι := Nat) (fun j => [(1, .ptr 2 0 0), (4, .int .i64 ((n : Int) + 1)), (5, .sl 4 0 f.length), (13, .sl 5 0 f.length), (116, .sl 4 0 f.length), (117, iN f.length), (118, iN j)]) (fun j => slH r l nx E [zGd f, resO (zFZ l nx E f j)]) (fun j => j ≤ f.length) (fun j => f.length - j) 0 ⟨⟨U, U, U, U, U, U, U, trivial⟩, U, Nat.zero_le _⟩ ?_
     intro j hj
     have hrl0 := hrl
     have hrl := resK_len (l := l) (nx := nx) (E := E) hj
     refine rn4 ?_
     refine zF U (fun q => ?_) (fun q => ?_)
     ·have hj' : j < f.length := by omega
      have hjr : j < (zFZ l nx E f j).length := by omega
      have hil := hlt j hj'
      have hsu := zOW (l := l) (nx := nx) (E := E) hj'
      have hgi : (f.map Int.ofNat).getD j 0 = ((f.getD j 0 : Nat) : Int) := by simp [List.getD, List.getElem?_eq_getElem hj']
      generalize hi : f.getD j 0 = i at hil hsu hgi
      have htn := turnB i
      have hT : zAF l i = (l.getD i zq).turn := rfl
      refine rn20 ?_
      refine zJ U ?_
      repeat (first | refine zA (zG rfl) ?_ | refine zA (zM rfl) ?_ | refine zC ?_ | refine zB ?_ | refine zY ?_ | refine zA (zo rfl rfl rfl rfl rfl (by first | (simp only [Nat.zero_add, Int.toNat_natCast, Int.toNat_zero]; exact rfl) | exact rfl) (by omega)) ?_ | refine zA (zBA rfl rfl rfl rfl (by first | assumption | omega)) ?_ | refine zAJ rfl rfl rfl rfl rfl rfl rfl Nat.zero_lt_one ?_ | refine zAI rfl rfl rfl ?_)
      rw [hgi]
      refine zDL (slH r l nx E [zGd f, resO (zFZ l nx E f j)]) 15 [(1, .ptr 2 0 0), (4, .int .i64 ((n : Int) + 1)), (5, .sl 4 0 f.length), (13, .sl 5 0 f.length), (116, .sl 4 0 f.length), (117, iN f.length), (118, iN j), (14, iN j)] U U ⟨U, U, U, U, U, U, U, U, trivial⟩ ⟨U, U, U, U, U, U, U, U, U, trivial⟩ (zE7 _ _ _ _ (zBY (fun _ _ _ _ => rfl) (zBY (fun _ _ _ _ => rfl) zBZ))) U (fun h q => Nat.lt_of_lt_of_le (hfx h q) (by show 2 ≤ 6; decide)) ?_
      skip
      refine ze (by kernel_rfl) ?_
      refine zh (fuel := 1) [0, 1, 2, 3, 4, 5, 6, 7, 8, 9, 10, 11] [(15, .rp (.box [iN i]) 0 0), (1, .ptr 2 0 0), (4, .int .i64 ((n : Int) + 1)), (5, .sl 4 0 f.length), (13, .sl 5 0 f.length), (116, .sl 4 0 f.length), (117, iN f.length), (118, iN j), (14, iN j)] ⟨U, U, U, U, U, U, U, U, U, trivial⟩ (by kernel_rfl) (by decide) U U ?_
      refine zI U U (zG U) ?_
      refine zI U U (zG U) ?_
      refine zI U U (zU U U U U U) ?_
      refine zI U U (zV U) ?_
      refine zI U U (zO U U U U U U) ?_
      refine zI U U (zU U U U U U) ?_
      refine zI U U (zD U U U U) ?_
      refine zI U U (zn U U U U (by first | (simp only [Nat.zero_add, Int.toNat_natCast, Int.toNat_zero]; exact U) | exact U) (by omega)) ?_
      refine zI U U (zK U U U U U U) ?_
      refine zI U U (zBF U U U U) ?_
      refine zI U U (zA1 U U (by omega)) ?_
      refine zI U U (zo U U U U U (by first | (simp only [Nat.zero_add, Int.toNat_natCast, Int.toNat_zero]; exact U) | exact U) (by omega)) ?_
      refine zw ?_
      refine zH (is := [12]) (by kernel_rfl) (by simp) U ⟨fun o ho => ?_, trivial⟩
      all_goals (cases ho)
      refine rn7 ?_
      refine zW (by kernel_rfl) ?_
      refine rn0 ?_
      have hrow := hrl0 i hil
      have hcl : ∀ x ∈ (nx.getD i []).map Int.ofNat, 0 ≤ x ∧ x < (E.length : Int) := fun x hx => by
       obtain ⟨q, hq, rfl⟩ := List.mem_map.1 hx
       have := hnk i hil q hq
       exact ⟨Int.natCast_nonneg q, by show (q : Int) < _; omega⟩
      have hrl2 : ((nx.getD i []).map Int.ofNat).length ≤ 1000000 := by rw [List.length_map]; exact hrow
      have c3 := zHf (H := slH r l nx E [zGd f, resO ((zFZ l nx E f j).set j (2 - (l.getD i zq).turn))]) ((nx.getD i []).map Int.ofNat) (fun x => decide ((E.getD x.toNat (0, 0)).1 = 1 + zAF l i)) 67 [.ptr 2 0 0, .rp (.box [iN i]) 0 0] hrl2 (fun x hx => cl3_ok (slH_S r l nx E _) i hil htn x (hcl x hx))
      rw [zLQ] at c3
      refine ze (by kernel_rfl) ?_
      refine zh (fuel := 0) [0, 1, 2, 3, 4, 5, 6, 7, 8] [(15, .rp (.box [iN i]) 0 0), (1, .ptr 2 0 0), (4, .int .i64 ((n : Int) + 1)), (5, .sl 4 0 f.length), (13, .sl 5 0 f.length), (116, .sl 4 0 f.length), (117, iN f.length), (118, iN j), (14, iN j)] ⟨U, U, U, U, U, U, U, U, U, trivial⟩ (by kernel_rfl) (by decide) U U ?_
      refine zI U U (zU U U U U U) ?_
      refine zI U U (zV U) ?_
      refine zI U U (zO U U U U U U) ?_
      refine zI U U (zU U U U U U) ?_
      refine zI U U (zD U U U U) ?_
      refine zI U U (zn U U U U (by first | (simp only [Nat.zero_add, Int.toNat_natCast, Int.toNat_zero]; exact U) | exact U) (by omega)) ?_
      refine zI U U (zBF U U U U) ?_
      refine zI U U (zCn U) ?_
      refine px_c U U U U U c3 ?_
      refine zw ?_
      refine zW (by kernel_rfl) ?_
      cases hw : zGV l nx E i with
      | true =>
       have hres : zBt l nx E i = 1 + (l.getD i zq).turn := by unfold zBt; rw [hw, if_pos rfl]; rfl
       refine rn5 ?_
       refine ze (by kernel_rfl) ?_
       refine zh (fuel := 1) [0, 1, 2, 3, 4, 5, 6, 7, 8, 9, 10, 11] [(15, .rp (.box [iN i]) 0 0), (1, .ptr 2 0 0), (4, .int .i64 ((n : Int) + 1)), (5, .sl 4 0 f.length), (13, .sl 5 0 f.length), (116, .sl 4 0 f.length), (117, iN f.length), (118, iN j), (14, iN j)] ⟨U, U, U, U, U, U, U, U, U, trivial⟩ (by kernel_rfl) (by decide) U U ?_
       refine zI U U (zG U) ?_
       refine zI U U (zG U) ?_
       refine zI U U (zU U U U U U) ?_
       refine zI U U (zV U) ?_
       refine zI U U (zO U U U U U U) ?_
       refine zI U U (zU U U U U U) ?_
       refine zI U U (zD U U U U) ?_
       refine zI U U (zn U U U U (by first | (simp only [Nat.zero_add, Int.toNat_natCast, Int.toNat_zero]; exact U) | exact U) (by omega)) ?_
       refine zI U U (zK U U U U U U) ?_
       refine zI U U (zBF U U U U) ?_
       refine zI U U (zA4 U U (by omega)) ?_
       refine zI U U (zo U U U U U (by first | (simp only [Nat.zero_add, Int.toNat_natCast, Int.toNat_zero]; exact U) | exact U) (by omega)) ?_
       refine zw ?_
       refine zH (is := [12]) (by kernel_rfl) (by simp) U ⟨fun o ho => ?_, trivial⟩
       all_goals (cases ho)
       have hjr2 : j < ((zFZ l nx E f j).set j (2 - (l.getD i zq).turn)).length := by rw [List.length_set]; exact hjr
       refine rn7 ?_
       refine zW (by kernel_rfl) ?_
       refine rn5 ?_
       refine zR ⟨j + 1, by omega, by omega, ⟨U, U, U, U, U, U, U, trivial⟩, ?_⟩
       rw [hsu, hres]
       show [_, _, _, _, _, some (AObj.mk _ (Cells.ints .i64 (((zFZ l nx E f j).set j (2 - (l.getD i zq).turn)).set j (1 + (l.getD i zq).turn))))] = _
       rw [List.set_set]
      | false =>
       have hres : zBt l nx E i = 2 - (l.getD i zq).turn := by unfold zBt; rw [hw, if_neg (by decide)]; rfl
       refine rn5 ?_
       refine zR ⟨j + 1, by omega, by omega, ⟨U, U, U, U, U, U, U, trivial⟩, ?_⟩
       rw [hsu, hres]; rfl
     ·have hj' : j = f.length := by omega
      subst hj'
      refine rn5 ?_
      refine zAA (ι := Nat) (fun j => [(1, .ptr 2 0 0), (4, .int .i64 ((n : Int) + 1)), (13, .sl 5 0 f.length), (157, .sl 4 0 f.length), (158, iN f.length), (159, iN j)]) (fun j => slH r l nx (zCs (fun i => (zBt l nx E i, ((n + 1 : Nat) : Int))) (f.take j) E) [zGd f, resO (zFZ l nx E f f.length)]) (fun j => j ≤ f.length) (fun j => f.length - j) 0 ⟨⟨U, U, U, U, U, U, trivial⟩, U, Nat.zero_le _⟩ ?_
      intro j hj
      refine rn4 ?_
      refine zF U (fun q => ?_) (fun q => ?_)
      ·have hj' : j < f.length := by omega
       have hjr : j < (zFZ l nx E f f.length).length := by omega
       have hil := hlt j hj'
       have hgi : (f.map Int.ofNat).getD j 0 = ((f.getD j 0 : Nat) : Int) := by simp [List.getD, List.getElem?_eq_getElem hj']
       have hrf := zOV (l := l) (nx := nx) (E := E) hj'
       have hsn := zLD (fun i => (zBt l nx E i, ((n + 1 : Nat) : Int))) (f.take j) (f.getD j 0) E
       rw [← zAE _ 0 j hj'] at hsn
       have hsl := zDc (fun i => (zBt l nx E i, ((n + 1 : Nat) : Int))) (f.take j) E
       have hsl2 := zDc (fun i => (zBt l nx E i, ((n + 1 : Nat) : Int))) (f.take (j + 1)) E
       generalize hi : f.getD j 0 = i at hil hgi hrf hsn
       generalize hA : zCs (fun i => (zBt l nx E i, ((n + 1 : Nat) : Int))) (f.take j) E = A at hsl hsn
       generalize hA2 : zCs (fun i => (zBt l nx E i, ((n + 1 : Nat) : Int))) (f.take (j + 1)) E = A2 at hsn hsl2
       refine rn20 ?_
       refine zJ U ?_
       repeat (first | refine zA (zG rfl) ?_ | refine zA (zM rfl) ?_ | refine zC ?_ | refine zB ?_ | refine zA (zo rfl rfl rfl rfl rfl (by first | (simp only [Nat.zero_add, Int.toNat_natCast, Int.toNat_zero]; exact rfl) | exact rfl) (by omega)) ?_ | refine zA (zBA rfl rfl rfl rfl (by first | assumption | omega)) ?_)
       rw [hgi]
       skip
       refine ze (by kernel_rfl) ?_
       refine zh (fuel := 1) [0, 1, 2, 3, 4, 5, 6, 7, 8, 9, 10, 11] [(1, .ptr 2 0 0), (4, .int .i64 ((n : Int) + 1)), (13, .sl 5 0 f.length), (157, .sl 4 0 f.length), (158, iN f.length), (159, iN j), (16, iN j), (17, iN i)] ⟨U, U, U, U, U, U, U, U, trivial⟩ (by kernel_rfl) (by decide) U U ?_
       refine zI U U (zU U U U U U) ?_
       refine zI U U (zV U) ?_
       refine zI U U (zO U U U U U U) ?_
       refine zI U U (zU U U U U U) ?_
       refine zI U U (zG U) ?_
       refine zI U U (zG U) ?_
       refine zI U U (zG U) ?_
       refine zI U U (zo U U U U U (by first | (simp only [Nat.zero_add, Int.toNat_natCast, Int.toNat_zero]; exact U) | exact U) (by omega)) ?_
       refine zI U U (zBA U U U U (by first | assumption | omega)) ?_
       refine zI U U (zG U) ?_
       refine zI U U (zDE U U U U U U) ?_
       refine zI U U (zo U U U U U (by first | (simp only [Nat.zero_add, Int.toNat_natCast, Int.toNat_zero]; exact U) | exact U) (by omega)) ?_
       refine zw ?_
       refine zH (is := [12]) (by kernel_rfl) (by simp) U ⟨fun o ho => ?_, trivial⟩
       all_goals (cases ho)
       refine zMb (zBt l nx E i, ((n + 1 : Nat) : Int)) U U U U U (by show i < A.length; omega) (by decide) (fun j' hj' => ?_) ?_
       ·match j', hj' with
        | 0, _ => show AV.int .i64 (zBt l nx E i) = AV.int .i64 ((zFZ l nx E f f.length).getD j 0); rw [hrf]
        | 1, _ => rfl
       refine rn1 ?_
       refine zW (by kernel_rfl) ?_
       refine rn5 ?_
       refine zR ⟨j + 1, by omega, by omega, ⟨U, U, U, U, U, U, trivial⟩, ?_⟩
       show _ = slH r l nx (zCs (fun i => (zBt l nx E i, ((n + 1 : Nat) : Int))) (f.take (j + 1)) E) [zGd f, resO (zFZ l nx E f f.length)]
       rw [hA2, hsn]
       show _ = [none, some (AObj.mk _ (.box (tbF r l nx (.sl 3 0 (List.set _ _ _).length)))), _, _, _, _]
       rw [List.length_set]; rfl
      ·have hj' : j = f.length := by omega
       subst hj'
       rw [List.take_length, hstep, ← hst]
       refine zE6 ?_
       refine zB2 (slH r l nx (zg l nx (zAD r l) (n + 1)) []) [zGd f, resO (zFZ l nx E f f.length)] [(1, .ptr 2 0 0), (4, .int .i64 ((n : Int) + 1))] U ⟨U, U, trivial⟩ (fun h q => Nat.lt_of_lt_of_le (hfx h q) (by show 2 ≤ 4; decide)) (zGr r l nx _) U ?_
       refine rn3 ?_
       refine zR ⟨n + 1, by rw [hst]; omega, by rw [hst]; omega, ⟨U, U, trivial⟩, U⟩
abbrev zFY (r : Go.Ax.Gm.Rules) (l : List Pos) (nx : List (List Nat)) : zP :=
 [some ⟨62, .mp (zCN l) (zC1 l.length)⟩, some ⟨64, .box (tbC r l.length nx.length .nil)⟩, some ⟨33, zCg l⟩, some ⟨23, zDm nx⟩]
theorem zF4 (r : Go.Ax.Gm.Rules) (l : List Pos) (nx : List (List Nat)) : ∀ (h : Nat) (o : AObj), (zFY r l nx)[h]? = some (some o) → zAz (zFY r l nx).length o.c :=
 zBY (zIy l _) (zBY (zDr rfl) (zBY (zHq l) (zBY (zJL nx) zBZ)))
/-- (*retro.Table).add -/
theorem add0_ok (r : Go.Ax.Gm.Rules) (hv : ValidR r) (l : List Pos) (nx : List (List Nat)) (p : Pos) (S : Sound r p) (G : ∀ q ∈ l, Sound r q ∧ q.quiet = 0) (hl : l.length ≤ 3001) :
 zd Tryz.prog 36 [.ptr 1 0 0, poA p] (zFY r l nx) (fun h => h < 4 ∧ h ≠ 2) (fun v H => v = iN (zAp l p) ∧ H = zFY r (zC6 l p) nx) := by
 have hc : zd Tryz.prog 36 [.ptr 1 0 0, poA p] (zFY r l nx) (fun h => h < 4 ∧ h ≠ 2) (fun v H => v = iN (zAp l p) ∧ ∃ x, H = zFY r (zC6 l p) nx ++ [x]) := by
  refine zL (P := Tryz.prog) (fn := Tryz.f36) U U (by kernel_rfl) U (fun c hR hfix => ?_)
  refine rn6 ?_
  refine zQ U U U (zGE hv S) ?_
  refine rn8 ?_
  by_cases hi : zAp l p < l.length
  ·have hadd : zC6 l p = l := by unfold zC6; rw [if_pos hi]
   rw [hadd] at hR
   refine zA (zFL U (.str U) U U U U (zDV l) (zAp l p) (zHk hi) (zHu hi)) ?_
   refine rn5 ?_
   exact zN hR U ⟨U, _, U⟩
  ·have hadd : zC6 l p = l ++ [zA7 p] := by unfold zC6; rw [if_neg hi]
   have hidx : zAp l p = l.length := by have := zKr l p; omega
   rw [hadd, hidx] at hR
   refine zA (zEn U (.str U) U U U U U U U U (zDV l) (zFp hv S G hi)) ?_
   repeat (first | refine zA (zG rfl) ?_ | refine zA (zM rfl) ?_ | refine zC ?_ | refine zB ?_ | refine zY ?_ | refine zJ rfl ?_ | refine zAi rfl ?_ | refine zA (zU rfl rfl rfl rfl rfl) ?_ | refine zA (zDl rfl) ?_ | refine zA (zAC rfl rfl) ?_ | refine zA (zBK rfl rfl rfl) ?_ | refine zA (zV rfl) ?_ | refine zA (zO rfl rfl rfl rfl rfl rfl) ?_ | refine zAJ rfl rfl rfl rfl rfl rfl rfl Nat.zero_lt_one ?_)
   refine zFf U (.str U) U U U U U (zDV l) (zFp hv S G hi) ?_
   refine rn0 ?_
   have hll : (l ++ [zA7 p]).length = l.length + 1 := by rw [List.length_append]; rfl
   refine zAK [some ⟨62, .mp (zCN (l ++ [zA7 p])) (zC1 (l.length + 1))⟩, some ⟨64, .box (tbC r l.length nx.length .nil)⟩, some ⟨33, zCg l⟩, some ⟨23, zDm nx⟩, some ⟨33, .box (poC (zA7 p))⟩] (by rw [← zKI, ← zKY]; rfl) ?_
   refine ze (by kernel_rfl) ?_
   refine zS 0 U (by kernel_rfl) (by kernel_rfl) (by kernel_rfl) U (zG U) U ?_
   refine zh (fuel := 4) [1, 2, 3, 4, 5, 6] [(33, .ptr 1 0 0), (0, .ptr 1 0 0), (3, .ptr 4 0 0), (6, iN l.length)] ⟨U, U, U, U, trivial⟩ (by kernel_rfl) (by decide) U U ?_
   refine zI U U (zG U) ?_
   refine zI U U (zV U) ?_
   refine zI U U (zO U U U U U U) ?_
   refine zI U U (zU U U U U U) ?_
   refine zI U U (qpp U U U U U U U) ?_
   refine px_b U U U U U U U U U U U U U ?_
   refine zw ?_
   refine zH (is := [7]) (by kernel_rfl) (by simp) U ⟨fun o ho => ?_, trivial⟩
   all_goals (cases ho)
   refine zBN [zA7 p] U U U U U U U U U U U U U (Nat.le_refl _) (fun k' j hk' hj => ?_) (by show (l.length + 1) * 88 ≤ _ ∧ _; omega) (fun a j k _ => zCy a j k) (by rw [hfix]; exact fun h => h.2 U) ?_
   ·obtain rfl : k' = 0 := Nat.lt_one_iff.1 hk'
    match j, hj with
    | 0, _ => rfl
    | 1, _ => rfl
    | 2, _ => rfl
    | 3, _ => rfl
    | 4, _ => rfl
   refine zAT [some ⟨62, .mp (zCN (l ++ [zA7 p])) (zC1 (l.length + 1))⟩, some ⟨64, .box ((tbC r l.length nx.length .nil).set 11 .any)⟩, some ⟨33, zCg (l ++ [zA7 p])⟩, some ⟨23, zDm nx⟩, some ⟨33, .box (poC (zA7 p))⟩] ?_ ?_
   ·show [some (AObj.mk _ ((Cells.mp _ _).forget 2)), some (AObj.mk _ ((Cells.box _).forget 2)), some (AObj.mk _ (zCg (l ++ [zA7 p]))), some (AObj.mk _ ((zDm nx).forget 2)), some (AObj.mk _ ((Cells.box (poC (zA7 p))).forget 2))] = _
    rw [zEV, zBq (fun a j => zEb a j 2)]; rfl
   refine rn1 ?_
   refine zS 8 U (by kernel_rfl) (by kernel_rfl) (by kernel_rfl) U (zV U) U ?_
   refine zS 9 U (by kernel_rfl) (by kernel_rfl) (by kernel_rfl) U (zO U U U U U U) U ?_
   refine zH (is := [10]) (by kernel_rfl) (by simp) U ⟨fun o ho => ?_, trivial⟩
   all_goals (cases ho)
   refine rn9 ?_
   refine zW (by kernel_rfl) ?_
   refine rn0 ?_
   exact zN hR U ⟨U, _, by show _ = [_, _, _, _, _]; rw [hll]; rfl⟩
 exact zd.cutR hc (fun v H ⟨e1, x, e2⟩ => ⟨_, [x], e2, fun h q => q.1, zF4 _ _ _, e1 ▸ U, e1, U⟩)
theorem zDX {r : Go.Ax.Gm.Rules} (hv : ValidR r) {p : Pos} (S : Sound r p) : (zr r p).length ≤ 10000 := by
 have h1 := zHr hv S p.cells.length
 have h2 := (zA5 hv S).c
 have h3 : (rawM r p).length ≤ 384 + 112 * p.cells.length := h1
 unfold zr
 have h4 := zH2 ((rawM r p).mergeSort leM)
 rw [List.length_mergeSort] at h4
 omega
theorem zGH {r : Go.Ax.Gm.Rules} (hv : ValidR r) {p : Pos} (S : Sound r p) : (zAW r p).length ≤ 10000 := by
 unfold zAW
 split
 ·exact Nat.zero_le _
 ·exact zDX hv S
abbrev zDx (T : Tab) : AV := .rp (.box (tbF T.r T.l T.nx (.ro (zCI T.E) 0 T.E.length))) 0 0
def zFt (r : Go.Ax.Gm.Rules) : AV := if zDv r ≠ 0 then .nilp else match zE4 r with
 | some x => zDx (zDd r x)
 | none => .nilp
theorem zHo : ∀ {l : List AV}, (∀ x ∈ l, noRef x = true) → noRef.noRefs l = true
 | [], _ => rfl
 | x :: l, h => by
  show (noRef x && noRef.noRefs l) = true
  rw [h x (List.mem_cons_self ..), zHo (fun y hy => h y (List.mem_cons_of_mem _ hy))]; rfl
theorem zKs (l : List Pos) (n : Nat) : zAG (.mp (zCN l) (zC1 n)) :=
 ⟨zHo (fun x hx => by obtain ⟨p, _, rfl⟩ := List.mem_map.1 hx; rfl), zHo (fun x hx => by obtain ⟨p, _, rfl⟩ := List.mem_map.1 hx; rfl)⟩
theorem zME (l : List Pos) : zAG (zCg l) := zAc (fun a j hj => by
 match j, hj with
 | 0, _ => rfl
 | 1, _ => rfl
 | 2, _ => rfl
 | 3, _ => rfl
 | 4, _ => rfl)
theorem zLC (nx : List (List Nat)) : zAG (zDm nx) := zAc (fun a j hj => by
 obtain rfl : j = 0 := Nat.lt_one_iff.1 hj
 rfl)
theorem zKn (E : List Ent) : zAG (zCI E) := zAc (fun a j hj => by
 match j, hj with
 | 0, _ => rfl
 | 1, _ => rfl)
/-- retro.New, refused -/
theorem new_no (r : Go.Ax.Gm.Rules) (hr : Lens r) (h : zAl r ≠ 0) : zl Tryz.prog 17 [ruA r] (.tup [.nilp, .int .i64 (zAl r)]) := by
 refine zd.value0 (zL (P := Tryz.prog) (fn := Tryz.f17) U U (by kernel_rfl) U (fun c hR hfix => ?_)) (fix := fun _ => False) (fun _ h => h) U U
 refine rn6 ?_
 refine zQ U U U (begin_no r hr h) ?_
 refine rn4 ?_
 refine zZ (poC zq) U U U U U U U ?_
 refine rn3 ?_
 refine zF U (fun q => ?_) (fun q => absurd h q)
 refine rn2 ?_
 exact zN hR U U
/-- retro.New, a limit of quiet moves -/
theorem zOH (r : Go.Ax.Gm.Rules) (hr : Lens r) (h : zAl r = 0) (hq : r.quiet ≠ 0) : zl Tryz.prog 17 [ruA r] (.tup [.nilp, .int .i64 1]) := by
 refine zd.value0 (zL (P := Tryz.prog) (fn := Tryz.f17) U U (by kernel_rfl) U (fun c hR hfix => ?_)) (fix := fun _ => False) (fun _ h => h) U U
 refine rn6 ?_
 refine zQ U U U (zIb r hr h) ?_
 refine rn4 ?_
 refine zZ (poC (z7 r)) U U U U U U U ?_
 refine rn5 ?_
 refine zF U (fun q => ?_) (fun q => absurd hq q)
 refine rn2 ?_
 exact zN hR U U
/-- retro.New -/
theorem new_run (r : Go.Ax.Gm.Rules) (hr : Lens r) (h : zAl r = 0) (hq : r.quiet = 0) : zl Tryz.prog 17 [ruA r] (.tup [zFt r, .int .i64 (zDv r)]) := by
 have hE : zDv r = match zE4 r with | none => 2 | some _ => 0 := by
  unfold zDv
  rw [if_neg (fun c => c h), if_neg (fun c => c hq)]
  cases zE4 r <;> rfl
 have hnone : zE4 r = none → zDv r = 2 ∧ zFt r = .nilp := fun q => by
  have e : zDv r = 2 := by rw [hE, q]
  exact ⟨e, by unfold zFt; rw [e, if_pos (by decide)]⟩
 have hsome : ∀ x, zE4 r = some x → zDv r = 0 ∧ zFt r = zDx (zDd r x) := fun x q => by
  have e : zDv r = 0 := by rw [hE, q]
  exact ⟨e, by unfold zFt; rw [e, if_neg (by decide), q]⟩
 have hv := zAm h
 refine zd.value0 (zL (P := Tryz.prog) (fn := Tryz.f17) U U (by kernel_rfl) U (fun c hR hfix => ?_)) (fix := fun _ => False) (fun _ h => h) ?_ ?_
 rotate_left
 ·rfl
 ·show (noRef (zFt r) && true) = true
  rcases hx : zE4 r with _ | x
  ·rw [(hnone hx).2]; rfl
  ·rw [(hsome x hx).2]; rfl
 refine zY ?_
 repeat (first | refine zA (zM rfl) ?_ | refine zC ?_ | refine zB ?_ | refine zJ rfl ?_ | refine zAO rfl rfl ?_)
 refine zBi 1 [] U ⟨U, trivial⟩ trivial U hfix ?_
 refine rn6 ?_
 refine zQ U U U (zIb r hr h) ?_
 refine rn4 ?_
 refine zZ (poC (z7 r)) U U U U U U U ?_
 refine zBG ?_
 refine zBi 4 [(1, .rp (.box (ruC r)) 0 0), (5, .int .i64 0)] U ⟨U, U, U, trivial⟩ ⟨U, U, trivial⟩ U hfix ?_
 refine zBz ?_
 refine zF U (fun q => absurd hq q) (fun q => ?_)
 refine rn6 ?_
 refine zQ U U U (zIn r (zHQ hv)) ?_
 skip
 refine zMY ?_
 skip
 refine zA (q_buildM U U U U U U) ?_
 repeat (first | refine zA (zM rfl) ?_ | refine zC ?_ | refine zB ?_ | refine zY ?_ | refine zAO rfl rfl ?_)
 refine zAK [some ⟨62, .mp (zCN []) (zC1 0)⟩, some ⟨64, .box [.str r.name, .int .i64 r.w, .int .i64 r.h, .ro (zAj r.pcs) 0 r.pcs.length, z8 r.start, .bool r.falls, .bool r.keeps, .ro (zEv r.ends) 0 r.ends.length, .int .i64 r.blocked, .int .i64 r.quiet, .int .i64 r.rep, .nil, .nil, .nil, .mp 0]⟩] U ?_
 refine zDM 1 ⟨33, zCg []⟩ (.box [.str r.name, .int .i64 r.w, .int .i64 r.h, .ro (zAj r.pcs) 0 r.pcs.length, z8 r.start, .bool r.falls, .bool r.keeps, .ro (zEv r.ends) 0 r.ends.length, .int .i64 r.blocked, .int .i64 r.quiet, .int .i64 r.rep, .sl 2 0 0, .nil, .nil, .mp 0]) U U U U (fun i j hi hj => by
  obtain rfl : i = 0 := Nat.lt_one_iff.1 hi
  have hj : j < 15 := hj
  match j, hj with
  | 0, _ => exact .inl rfl
  | 1, _ => exact .inl rfl
  | 2, _ => exact .inl rfl
  | 3, _ => exact .inl rfl
  | 4, _ => exact .inl rfl
  | 5, _ => exact .inl rfl
  | 6, _ => exact .inl rfl
  | 7, _ => exact .inl rfl
  | 8, _ => exact .inl rfl
  | 9, _ => exact .inl rfl
  | 10, _ => exact .inl rfl
  | 11, _ => exact .inr ⟨rfl, rfl⟩
  | 12, _ => exact .inl rfl
  | 13, _ => exact .inl rfl
  | 14, _ => exact .inl rfl) ?_
 refine zDM 1 ⟨23, zDm []⟩ (.box [.str r.name, .int .i64 r.w, .int .i64 r.h, .ro (zAj r.pcs) 0 r.pcs.length, z8 r.start, .bool r.falls, .bool r.keeps, .ro (zEv r.ends) 0 r.ends.length, .int .i64 r.blocked, .int .i64 r.quiet, .int .i64 r.rep, .sl 2 0 0, .sl 3 0 0, .nil, .mp 0]) U U U U (fun i j hi hj => by
  obtain rfl : i = 0 := Nat.lt_one_iff.1 hi
  have hj : j < 15 := hj
  match j, hj with
  | 0, _ => exact .inl rfl
  | 1, _ => exact .inl rfl
  | 2, _ => exact .inl rfl
  | 3, _ => exact .inl rfl
  | 4, _ => exact .inl rfl
  | 5, _ => exact .inl rfl
  | 6, _ => exact .inl rfl
  | 7, _ => exact .inl rfl
  | 8, _ => exact .inl rfl
  | 9, _ => exact .inl rfl
  | 10, _ => exact .inl rfl
  | 11, _ => exact .inl rfl
  | 12, _ => exact .inr ⟨rfl, rfl⟩
  | 13, _ => exact .inl rfl
  | 14, _ => exact .inl rfl) ?_
 refine zAK (zFY r [] []) U ?_
 have nofix : ∀ (h n : Nat), c.fix h → h < n := fun h n q => by rw [hfix] at q; exact q.elim
 refine zB2 (zFY r [] []) [] [(4, .rp (.box (poC (z7 r))) 0 0), (6, .ptr 1 0 0)] U ⟨U, U, trivial⟩ (fun h q => nofix h _ q) (zF4 _ _ _) U ?_
 refine rn6 ?_
 refine zFe 2 U U U (add0_ok r hv [] [] (z7 r) (zER hv) (fun q hq => absurd hq (by simp)) (Nat.zero_le _)) (fun h q1 q2 => ⟨q1, q2⟩) (fun h q => q.1) (by rw [hfix]; exact fun h => h) ?_
 rintro v H ⟨rfl, rfl⟩
 refine ⟨Nat.le_refl _, ?_⟩
 refine rn1 ?_
 refine zAA (ι := Nat × List Pos × List (List Nat)) (fun x => [(6, .ptr 1 0 0), (7, iN x.1)]) (fun x => zFY r x.2.1 x.2.2) (fun x => Grown r x.1 x.2.1 x.2.2 ∧ Go.Ax.Gm.grow r (3001 - x.1) x.1 x.2.1 x.2.2 = zE4 r) (fun x => 3001 - x.1) (0, [z7 r], []) ⟨⟨U, U, trivial⟩, U, zH7 hv, U⟩ ?_
 rintro ⟨i, l, nx⟩ ⟨G, hg⟩
 have G : Grown r i l nx := G
 have hg : Go.Ax.Gm.grow r (3001 - i) i l nx = zE4 r := hg
 change Ax _ _ _ _ [(6, .ptr 1 0 0), (7, iN i)] (zFY r l nx)
 have hmost := G.most
 have hle := G.le
 repeat (first | refine zA (zG rfl) ?_ | refine zC ?_ | refine zB ?_ | refine zY ?_ | refine zJ rfl ?_ | refine zA (zU rfl rfl rfl rfl rfl) ?_ | refine zA (zCR rfl rfl) ?_ | refine zA (zBK rfl rfl rfl) ?_ | refine zA (zV rfl) ?_ | refine zA (zO rfl rfl rfl rfl rfl rfl) ?_)
 refine zF U (fun q => ?_) (fun q => ?_)
 ·have hi : i < l.length := by omega
  have S := (G.snd (l.getD i zq) (by
   rw [show l.getD i zq = l[i] by simp [List.getD, hi]]
   exact List.getElem_mem hi)).1
  have hml := zGH hv S
  refine rn20 ?_
  refine zJ U ?_
  refine zBG ?_
  refine zCF 8 ⟨3, .ints .i64 []⟩ U U ?_
  refine zAK (zJX r l nx []) U ?_
  skip
  refine ze (by kernel_rfl) ?_
  refine zh (fuel := 0) [0, 1, 2, 3, 4, 5, 6, 7, 8, 9, 10, 11, 12, 13] [(6, .ptr 1 0 0), (7, iN i), (8, .sl 4 0 0)] ⟨U, U, U, trivial⟩ (by kernel_rfl) (by decide) U U ?_
  refine zI U U (zG U) ?_
  refine zI U U (zV U) ?_
  refine zI U U (zO U U U U U U) ?_
  refine zI U U (qpp U U U U U U U) ?_
  refine zI U U (zG U) ?_
  refine zI U U (zV U) ?_
  refine zI U U (zO U U U U U U) ?_
  refine zI U U (zU U U U U U) ?_
  refine zI U U (zG U) ?_
  refine zI U U (zo U U U U U (by first | (simp only [Nat.zero_add, Int.toNat_natCast, Int.toNat_zero]; exact U) | exact U) (by omega)) ?_
  refine zI U U (qpp U U U U U U U) ?_
  refine zBS U U U U U (zFj r hv (l.getD i zq) S) ?_
  refine zI U U (zBK U U U) ?_
  refine zI U U (zG U) ?_
  refine zw ?_
  refine zW (by kernel_rfl) ?_
  refine rn1 ?_
  have hok : ∀ m ∈ zAW r (l.getD i zq), MvOK r (l.getD i zq) m ∧ Sound r (zf r (l.getD i zq) m) := fun m hm => ⟨zE1 hv S hm, zEF hv S (zE1 hv S hm)⟩
  have hstep := fun l' ix (h : zCd r (l.getD i zq) (zAW r (l.getD i zq)) l [] = some (l', ix)) => zIs G hi (fun m hm => (hok m hm).2) h
  have hgN : zCd r (l.getD i zq) (zAW r (l.getD i zq)) l [] = none → ∀ f, Go.Ax.Gm.grow r (f + 1) i l nx = none := fun a f => by rw [Go.Ax.Gm.grow, if_pos hi, a]
  have hgS : ∀ x, zCd r (l.getD i zq) (zAW r (l.getD i zq)) l [] = some x → ∀ f, Go.Ax.Gm.grow r (f + 1) i l nx = Go.Ax.Gm.grow r f (i + 1) x.1 (nx ++ [x.2]) := fun x a f => by rw [Go.Ax.Gm.grow, if_pos hi, a]
  generalize hms : zAW r (l.getD i zq) = ms at hok hstep hgN hgS hml
  refine zAA (ι := Nat × List Pos × List Nat) (fun x => [(6, .ptr 1 0 0), (7, iN i), (8, .sl 4 0 x.2.2.length), (50, zBP ms), (51, iN ms.length), (52, iN x.1)]) (fun x => zJX r x.2.1 nx (x.2.2.map Int.ofNat)) (fun x => x.1 ≤ ms.length ∧ zCd r (l.getD i zq) (ms.drop x.1) x.2.1 x.2.2 = zCd r (l.getD i zq) ms l [] ∧ l <+: x.2.1 ∧ (∀ q ∈ x.2.1, Sound r q ∧ q.quiet = 0) ∧ x.2.1.length ≤ 3000 ∧ x.2.2.length = x.1) (fun x => ms.length - x.1) (0, l, []) ⟨⟨U, U, U, U, U, U, trivial⟩, U, Nat.zero_le _, U, List.prefix_refl _, G.snd, hmost, U⟩ ?_
  rintro ⟨k, l', ix⟩ ⟨hk, ha, hpre, hsnd, hl3, hix⟩
  have hk : k ≤ ms.length := hk
  have ha : zCd r (l.getD i zq) (ms.drop k) l' ix = zCd r (l.getD i zq) ms l [] := ha
  have hpre : l <+: l' := hpre
  have hsnd : ∀ q ∈ l', Sound r q ∧ q.quiet = 0 := hsnd
  have hl3 : l'.length ≤ 3000 := hl3
  have hix : ix.length = k := hix
  change Ax _ _ _ _ [(6, .ptr 1 0 0), (7, iN i), (8, .sl 4 0 ix.length), (50, zBP ms), (51, iN ms.length), (52, iN k)] (zJX r l' nx (ix.map Int.ofNat))
  have hli : (ix.map Int.ofNat).length = ix.length := List.length_map ..
  refine rn4 ?_
  refine zF U (fun q2 => ?_) (fun q2 => ?_)
  ·have hk' : k < ms.length := by omega
   have hd : ms.drop k = ms.getD k mv0 :: ms.drop (k + 1) := by rw [List.drop_eq_getElem_cons hk', zCq mv0 hk']
   have hm := hok (ms.getD k mv0) (zAR mv0 hk')
   rw [hd, zCd] at ha
   have hpi : l'.getD i zq = l.getD i zq := zFw hpre hi
   have hi' : i < l'.length := Nat.lt_of_lt_of_le hi hpre.length_le
   rw [← hpi] at hm S
   generalize hmk : ms.getD k mv0 = m at ha hm
   refine zGo ?_
   repeat (refine zAI rfl rfl rfl ?_)
   refine zZ (mvC m) U U U U U (by rw [← hmk]; rfl) U ?_
   refine rn0 ?_
   refine zDL (zJX r l' nx (ix.map Int.ofNat)) 10 [(6, .ptr 1 0 0), (7, iN i), (8, .sl 4 0 ix.length), (50, zBP ms), (51, iN ms.length), (52, iN k)] U U ⟨U, U, U, U, U, U, trivial⟩ ⟨U, U, U, U, U, U, U, trivial⟩ (zJY _ _ _ _) U (fun h q => nofix h _ q) ?_
   refine ze (by kernel_rfl) ?_
   refine zS 0 U (by kernel_rfl) (by kernel_rfl) (by kernel_rfl) U (zG U) U ?_
   refine zh (fuel := 4) [1, 2, 3, 4, 5, 6, 7, 8, 9, 10, 11, 12, 13, 14] [(56, .sl 4 0 ix.length), (10, .rp (.box (mvC m)) 0 0), (6, .ptr 1 0 0), (7, iN i), (8, .sl 4 0 ix.length), (50, zBP ms), (51, iN ms.length), (52, iN k)] ⟨U, U, U, U, U, U, U, U, trivial⟩ (by kernel_rfl) (by decide) U U ?_
   refine zI U U (zG U) ?_
   refine zI U U (zG U) ?_
   refine zI U U (zV U) ?_
   refine zI U U (zO U U U U U U) ?_
   refine zI U U (qpp U U U U U U U) ?_
   refine zI U U (zG U) ?_
   refine zI U U (zV U) ?_
   refine zI U U (zO U U U U U U) ?_
   refine zI U U (zU U U U U U) ?_
   refine zI U U (zG U) ?_
   refine zI U U (zo U U U U U (by first | (simp only [Nat.zero_add, Int.toNat_natCast, Int.toNat_zero]; exact U) | exact U) (by omega)) ?_
   refine zI U U (qpp U U U U U U U) ?_
   refine zI U U (zm U U U U U U) ?_
   refine zBS U U U U U (zEW r hv (l'.getD i zq) S m hm.1) ?_
   refine zw ?_
   refine zH (is := [15]) (by kernel_rfl) (by simp) U ⟨fun o ho => ?_, trivial⟩
   all_goals (cases ho)
   refine zFe 2 U U U (add_ok r hv l' nx (ix.map Int.ofNat) (zf r (l'.getD i zq) m) hm.2 hsnd (by omega)) (fun h q1 q2 => ⟨q1, q2⟩) (fun h q => q.1) (by rw [hfix]; exact fun h => h) ?_
   rintro v H ⟨rfl, rfl⟩
   refine ⟨Nat.le_refl _, ?_⟩
   rw [hpi]
   generalize hP : zf r (l.getD i zq) m = P at ha hm
   have hadd := zNJ l' P
   refine rn1 ?_
   refine zH (is := [16]) (by kernel_rfl) (by simp) U ⟨fun o ho => ?_, trivial⟩
   all_goals (cases ho)
   refine rn3 ?_
   refine zH (is := [17]) (by kernel_rfl) (by simp) U ⟨fun o ho => ?_, trivial⟩
   all_goals (cases ho)
   refine zAt U U U U U U U U U hli U U (by show 0 + 1 ≤ 1; omega) U (by show (ix.length + 1) * 8 ≤ _ ∧ _; omega) (fun i j _ _ => rfl) (by rw [hfix]; exact fun h => h) ?_
   refine zAT (zJX r (zC6 l' P) nx ((ix ++ [zAp l' P]).map Int.ofNat)) ?_ ?_
   ·show [some (AObj.mk _ ((Cells.mp _ _).forget 4)), some (AObj.mk _ ((Cells.box _).forget 4)), some (AObj.mk _ ((zCg _).forget 4)), some (AObj.mk _ ((zDm nx).forget 4)), _] = _
    rw [zEV, zBq (fun a j => zCy a j 4), zBq (fun a j => zEb a j 4)]
    show _ = [_, _, _, _, some (AObj.mk _ (Cells.ints .i64 ((ix ++ [zAp l' P]).map Int.ofNat)))]
    rw [List.map_append]; rfl
   refine rn1 ?_
   refine zH (is := [18]) (by kernel_rfl) (by simp) U ⟨fun o ho => ?_, trivial⟩
   all_goals (cases ho)
   refine rn1 ?_
   refine zW (by kernel_rfl) ?_
   refine rn15 ?_
   refine zF U (fun g => ?_) (fun g => ?_)
   ·rw [if_pos (by omega)] at ha
    have hN : zE4 r = none := by
     rw [← hg, show 3001 - i = (3000 - i) + 1 by omega]
     exact hgN ha.symm _
    refine rn6 ?_
    refine zN hR U ?_
    show _ = AV.tup [zFt r, .int .i64 (zDv r)]
    rw [(hnone hN).1, (hnone hN).2]; rfl
   ·rw [if_neg (by omega)] at ha
    have hmP : Sound r P := by rw [← hP, ← hpi]; exact hm.2
    refine rn5 ?_
    refine zR ⟨(k + 1, zC6 l' P, ix ++ [zAp l' P]), ⟨by show k + 1 ≤ ms.length; omega, ha, hpre.trans (zNK l' P), zJw hmP hsnd, by show (zC6 l' P).length ≤ 3000; omega, by show (ix ++ [zAp l' P]).length = k + 1; rw [List.length_append, hix]; rfl⟩, by show ms.length - (k + 1) < ms.length - k; omega, ⟨U, U, ?_, U, U, U, trivial⟩, U⟩
    show some (AV.sl 4 0 (ix.length + 1)) = some (AV.sl 4 0 (ix ++ [zAp l' P]).length)
    rw [List.length_append]; rfl
  ·have hk' : k = ms.length := by omega
   subst hk'
   rw [List.drop_length, zCd] at ha
   have ha := ha.symm
   refine zBG ?_
   refine zDq 4 8 ix.length [(6, .ptr 1 0 0), (7, iN i)] U zAb U (by show ix.length ≤ (ix.map Int.ofNat).length; rw [hli]; exact Nat.le_refl _) ⟨U, U, trivial⟩ ?_
   have hnl : (nx ++ [ix]).length = nx.length + 1 := by rw [List.length_append]; rfl
   have hnx : nx.length ≤ 3000 := by have := G.len; omega
   refine zJ U ?_
   repeat (first | refine zA (zG rfl) ?_ | refine zA (zU rfl rfl rfl rfl rfl) ?_ | refine zA (zV rfl) ?_ | refine zA (zO rfl rfl rfl rfl rfl rfl) ?_ | refine zAN rfl rfl rfl rfl rfl rfl rfl rfl rfl rfl rfl ?_)
   refine zBN [ix] U U U U U U U U U U U U U (by show 0 + 1 ≤ 1; omega) (fun k' j hk' hj => ?_) (by show (nx.length + 1) * 24 ≤ _ ∧ _; omega) (fun a j k _ => zEb a j k) (by rw [hfix]; exact fun h => h) ?_
   ·obtain rfl : k' = 0 := Nat.lt_one_iff.1 hk'
    obtain rfl : j = 0 := Nat.lt_one_iff.1 hj
    show AV.ro (Cells.ints .i64 (List.map Int.ofNat ix)) 0 ix.length = AV.ro (Cells.ints .i64 (List.map Int.ofNat ix)) 0 (List.map Int.ofNat ix).length
    rw [hli]
   refine zAT [some ⟨62, .mp (zCN l') (zC1 l'.length)⟩, some ⟨64, .box ((tbC r l'.length nx.length .nil).set 12 .any)⟩, some ⟨33, zCg l'⟩, some ⟨23, zDm (nx ++ [ix])⟩, none] ?_ ?_
   ·show [some (AObj.mk _ ((Cells.mp _ _).forget 3)), some (AObj.mk _ ((Cells.box _).forget 3)), some (AObj.mk _ ((zCg _).forget 3)), some (AObj.mk _ (zDm (nx ++ [ix]))), none] = _
    rw [zEV, zBq (fun a j => zCy a j 3)]; rfl
   repeat (first | refine zC ?_ | refine zAY ?_ | refine zA (zV rfl) ?_ | refine zA (zO rfl rfl rfl rfl rfl rfl) ?_ | refine zAJ rfl rfl rfl rfl rfl rfl rfl Nat.zero_lt_one ?_)
   refine zB ?_
   refine zAK (zFY r l' (nx ++ [ix]) ++ [none]) (by show _ = [_, some (AObj.mk _ (.box (tbC r l'.length (nx ++ [ix]).length .nil))), _, _, _]; rw [hnl]; rfl) ?_
   refine zB2 (zFY r l' (nx ++ [ix])) [none] [(6, .ptr 1 0 0), (7, iN i)] U ⟨U, U, trivial⟩ (fun h q => nofix h _ q) (zF4 _ _ _) U ?_
   refine rn3 ?_
   refine zR ⟨(i + 1, l', nx ++ [ix]), ⟨hstep l' ix ha, ?_⟩, by show 3001 - (i + 1) < 3001 - i; omega, ⟨U, U, trivial⟩, U⟩
   show Go.Ax.Gm.grow r (3001 - (i + 1)) (i + 1) l' (nx ++ [ix]) = zE4 r
   rw [← hg, show 3001 - i = (3001 - (i + 1)) + 1 by omega]
   exact (hgS (l', ix) ha _).symm
 ·have hi : i = l.length := by omega
  subst hi
  have hN : zE4 r = some (l, nx) := by
   rw [← hg]
   cases 3001 - l.length with
   | zero => rfl
   | succ f => rw [Go.Ax.Gm.grow, if_neg (Nat.lt_irrefl _)]
  refine zBG ?_
  refine zBD [some ⟨62, .mp (zCN l) (zC1 l.length)⟩, none, some ⟨33, zCg l⟩, some ⟨23, zDm nx⟩] [none, some ⟨64, .box (tbF r l nx .nil)⟩, none, none] [(6, .ptr 1 0 0)] ?_ (zCA (zKs l _) (zCh (zCA (zME l) (zCA (zLC nx) zCi)))) U ?_ ⟨⟨.ptr 1 0 0, U, .inl U⟩, trivial⟩ ?_
  ·intro h o ho
   match h, ho with
   | 0, ho => exact ho
   | 1, ho => simp at ho
   | 2, ho => exact ho
   | 3, ho => exact ho
   | _ + 4, ho => simp at ho
  ·intro h o ho
   match h, ho with
   | 0, ho => simp at ho
   | 1, ho =>
    cases ho
    refine ⟨fun o h => by simp at h, _, U, U, U, U, fun i j hi hj => ?_⟩
    obtain rfl : i = 0 := Nat.lt_one_iff.1 hi
    have hj : j < 15 := hj
    match j, hj with
    | 0, _ => exact .inl rfl
    | 1, _ => exact .inl rfl
    | 2, _ => exact .inl rfl
    | 3, _ => exact .inl rfl
    | 4, _ => exact .inl rfl
    | 5, _ => exact .inl rfl
    | 6, _ => exact .inl rfl
    | 7, _ => exact .inl rfl
    | 8, _ => exact .inl rfl
    | 9, _ => exact .inl rfl
    | 10, _ => exact .inl rfl
    | 11, _ => exact .inr (.inr ⟨rfl, fun o ho => by cases ho; show 0 + l.length ≤ l.length; omega⟩)
    | 12, _ => exact .inr (.inr ⟨rfl, fun o ho => by cases ho; show 0 + nx.length ≤ nx.length; omega⟩)
    | 13, _ => exact .inl rfl
    | 14, _ => exact .inr (.inr ⟨rfl, trivial⟩)
   | 2, ho => simp at ho
   | 3, ho => simp at ho
   | _ + 4, ho => simp at ho
  refine zB2 [none, some ⟨64, .box (tbF r l nx .nil)⟩] [none, none] [(6, .ptr 1 0 0)] U ⟨U, trivial⟩ (fun h q => nofix h _ q) (bl_n (zBY (zDr U) zBZ)) U ?_
  have hmem : ∀ i, i < l.length → Sound r (l.getD i zq) := fun i hi => by
   rw [show l.getD i zq = l[i] by simp [List.getD, hi]]
   exact (G.snd _ (List.getElem_mem hi)).1
  have hP : SolveP r l nx := ⟨hv, hmost, hmem, G.len, fun i hi => by
   have h1 := G.nxl i hi
   have h2 := zGH hv (hmem i hi)
   omega, fun i hi k hk => by
   obtain ⟨j, hj, rfl⟩ := List.mem_iff_getElem.1 hk
   have h1 := G.nxl i hi
   have := (G.nxt i hi j (by omega)).1
   rwa [Go.Ax.Gm.get_at (nx.getD i []) hj] at this⟩
  refine rn0 ?_
  refine zBR U U U (solve_ok r l nx hP) (fun h q => q) (fun h q => q) ?_
  rintro v H ⟨rfl, N, hN2, rfl⟩
  have hE2 : zB5 (zg l nx (zAD r l) N) = (zDd r (l, nx)).E := new_ent (x := (l, nx)) G hN2
  rw [hE2]
  generalize hEE : (zDd r (l, nx)).E = E
  refine zBG ?_
  refine zBD [none, none, none, some ⟨35, zCI E⟩] [none, some ⟨64, .box (tbF r l nx (.ro (zCI E) 0 E.length))⟩, none, none] [(6, .ptr 1 0 0)] ?_ (zCh (zCh (zCh (zCA (zKn E) zCi)))) U ?_ ⟨⟨.ptr 1 0 0, U, .inl U⟩, trivial⟩ ?_
  ·intro h o ho
   match h, ho with
   | 0, ho => simp at ho
   | 1, ho => simp at ho
   | 2, ho => simp at ho
   | 3, ho => exact ho
   | _ + 4, ho => simp at ho
  ·intro h o ho
   match h, ho with
   | 0, ho => simp at ho
   | 1, ho =>
    cases ho
    refine ⟨fun o h => by simp at h, _, U, U, U, U, fun i j hi hj => ?_⟩
    obtain rfl : i = 0 := Nat.lt_one_iff.1 hi
    have hj : j < 15 := hj
    match j, hj with
    | 0, _ => exact .inl rfl
    | 1, _ => exact .inl rfl
    | 2, _ => exact .inl rfl
    | 3, _ => exact .inl rfl
    | 4, _ => exact .inl rfl
    | 5, _ => exact .inl rfl
    | 6, _ => exact .inl rfl
    | 7, _ => exact .inl rfl
    | 8, _ => exact .inl rfl
    | 9, _ => exact .inl rfl
    | 10, _ => exact .inl rfl
    | 11, _ => exact .inl rfl
    | 12, _ => exact .inl rfl
    | 13, _ => exact .inr (.inr ⟨rfl, fun o ho => by cases ho; show 0 + E.length ≤ E.length; omega⟩)
    | 14, _ => exact .inl rfl
   | 2, ho => simp at ho
   | 3, ho => simp at ho
   | _ + 4, ho => simp at ho
  refine zB2 [none, some ⟨64, .box (tbF r l nx (.ro (zCI E) 0 E.length))⟩] [none, none] [(6, .ptr 1 0 0)] U ⟨U, trivial⟩ (fun h q => nofix h _ q) (bl_n (zBY (zDr U) zBZ)) U ?_
  refine zDL [none] 6 [] U U trivial ⟨U, trivial⟩ (bl_n zBZ) U (fun h q => nofix h _ q) ?_
  refine rn0 ?_
  refine zN hR U ?_
  show _ = AV.tup [zFt r, .int .i64 (zDv r)]
  rw [(hsome _ hN).1, (hsome _ hN).2]
  show _ = AV.tup [.rp (.box (tbF r l nx (.ro (zCI (zDd r (l, nx)).E) 0 (zDd r (l, nx)).E.length))) 0 0, .int .i64 0]
  rw [hEE]; rfl
/-- retro.New -/
theorem zMp (r : Go.Ax.Gm.Rules) (hr : Lens r) : zl Tryz.prog 17 [ruA r] (.tup [zFt r, .int .i64 (zDv r)]) := by
 by_cases h : zAl r = 0
 ·by_cases hq : r.quiet = 0
  ·exact new_run r hr h hq
  ·have e : zDv r = 1 := by unfold zDv; rw [if_neg (fun c => c h), if_pos hq]
   have e2 : zFt r = .nilp := by unfold zFt; rw [e, if_pos (by decide)]
   rw [e, e2]; exact zOH r hr h hq
 ·have e : zDv r = zAl r := by unfold zDv; rw [if_pos h]
  have e2 : zFt r = .nilp := by unfold zFt; rw [e, if_pos h]
  rw [e, e2]; exact new_no r hr h
/-- the zero position has empty rows -/
theorem zJz {P : Program} {fn : Func} {c : Ctx} {fr : Fr} {H : zP} {k : List It} {x : Code} {ty : TypeId} (h : Nat) (hh : H[h]? = some (some ⟨ty, .box poZ⟩)) (hk : Ax P fn c (.code x k) fr (H.set h (some ⟨ty, .box (poC zq)⟩))) : Ax P fn c (.code x k) fr H := by
 have hlt : h < H.length := (List.getElem?_eq_some_iff.1 hh).1
 refine zLU (H.set h (some ⟨ty, .box (poC zq)⟩)) (List.length_set ..) (fun h' o ho => ?_) hk
 by_cases e : h' = h
 ·subst e
  rw [List.getElem?_set_self hlt] at ho
  cases ho
  refine ⟨_, hh, U, U, U, fun i j hi hj => ?_⟩
  obtain rfl : i = 0 := Nat.lt_one_iff.1 hi
  have hj : j < 5 := hj
  match j, hj with
  | 0, _ => exact AEq.nil
  | 1, _ => exact AEq.nil
  | 2, _ => exact AEq.nil
  | 3, _ => exact AEq.rfl'
  | 4, _ => exact AEq.rfl'
 ·rw [List.getElem?_set_ne (Ne.symm e)] at ho
  exact ⟨o, ho, U, U, U, fun _ _ _ _ => AEq.rfl'⟩
/-- (*retro.Table).Size -/
theorem zHP (T : Tab) : zl Tryz.prog 9 [zDx T] (iN T.l.length) := by
 refine zd.value0 (zL (P := Tryz.prog) (fn := Tryz.f9) U U (by kernel_rfl) U (fun c hR hfix => ?_)) (fix := fun _ => False) (fun _ h => h) U U
 repeat (first | refine zA (zG rfl) ?_ | refine zA (zM rfl) ?_ | refine zC ?_ | refine zB ?_ | refine zY ?_ | refine zJ rfl ?_ | refine z6 ?_ | refine zA (zBK rfl rfl rfl) ?_ | refine zA (zD rfl rfl rfl rfl) ?_ | refine zA (zAH rfl) ?_ | refine zA (zK rfl rfl rfl rfl rfl rfl) ?_)
 exact zN hR U U
def atE (T : Tab) (i : Int) : Int := if i < 0 ∨ (T.l.length : Int) ≤ i then 4 else 0
def atP (T : Tab) (i : Int) : Pos := if atE T i ≠ 0 then zq else T.l.getD i.toNat zq
def atX (T : Tab) (i : Int) : Ent := if atE T i ≠ 0 then (0, 0) else zAx T i.toNat
theorem zGJ {T : Tab} (h : TabOK T) {i : Nat} (hi : i < T.l.length) : SmallP (T.l.getD i zq) := zA5 h.v (h.sound hi).1
/-- (*retro.Table).At -/
theorem at_ok (T : Tab) (h : TabOK T) (i : Int) : zl Tryz.prog 7 [zDx T, .int .i64 i] (.tup [poA (atP T i), entA (atX T i), .int .i64 (atE T i)]) := by
 refine zd.value0 (zL (P := Tryz.prog) (fn := Tryz.f7) U U (by kernel_rfl) U (fun c hR hfix => ?_)) (fix := fun _ => False) (fun _ h => h) U U
 have hEl := h.len
 have hmost := h.G.most
 by_cases hi : i < 0 ∨ (T.l.length : Int) ≤ i
 ·have e : atE T i = 4 := by unfold atE; rw [if_pos hi]
  have e1 : atP T i = zq := by unfold atP; rw [e, if_pos (by decide)]
  have e2 : atX T i = (0, 0) := by unfold atX; rw [e, if_pos (by decide)]
  rw [e, e1, e2] at hR
  refine rn4 ?_
  refine zj U U (fun g => ?_) (fun g => ?_)
  ·refine rn18 ?_
   refine zZ poZ U U U U U U U ?_
   skip
   refine zZ (zB6 (0, 0)) U U U U U U U ?_
   refine rn7 ?_
   refine zJz 0 U ?_
   refine rn2 ?_
   exact zN hR U U
  ·repeat (first | refine zA (zG rfl) ?_ | refine zC ?_ | refine zB ?_ | refine zx rfl rfl ?_ | refine zA (zEZ rfl rfl) ?_ | refine zA (zi rfl rfl) ?_ | refine zA (zBK rfl rfl rfl) ?_ | refine zA (zD rfl rfl rfl rfl) ?_ | refine zA (zAH rfl) ?_ | refine zA (zK rfl rfl rfl rfl rfl rfl) ?_)
   refine zF U (fun q => ?_) (fun q => absurd q (by omega))
   refine rn8 ?_
   refine zZ poZ U U U U U U U ?_
   skip
   refine zZ (zB6 (0, 0)) U U U U U U U ?_
   refine rn7 ?_
   refine zJz 0 U ?_
   refine rn2 ?_
   exact zN hR U U
 ·have e : atE T i = 0 := by unfold atE; rw [if_neg hi]
  have e1 : atP T i = T.l.getD i.toNat zq := by unfold atP; rw [e, if_neg (by decide)]
  have e2 : atX T i = zAx T i.toNat := by unfold atX; rw [e, if_neg (by decide)]
  rw [e, e1, e2] at hR
  obtain ⟨n, rfl⟩ : ∃ n : Nat, i = (n : Int) := ⟨i.toNat, by omega⟩
  rw [Int.toNat_natCast] at hR
  have hn : n < T.l.length := by omega
  repeat (first | refine zA (zG rfl) ?_ | refine zA (zM rfl) ?_ | refine zC ?_ | refine zB ?_ | refine zY ?_ | refine zJ rfl ?_ | refine zx rfl rfl ?_ | refine zA (zCR rfl rfl) ?_ | refine zA (zEZ rfl rfl) ?_ | refine zA (zi rfl rfl) ?_ | refine zA (zBK rfl rfl rfl) ?_ | refine zA (zD rfl rfl rfl rfl) ?_ | refine zA (zAH rfl) ?_ | refine zA (zK rfl rfl rfl rfl rfl rfl) ?_ | refine zAI rfl rfl rfl ?_)
  refine zF U (fun q => ?_) (fun q => ?_)
  ·exact absurd q (by omega)
  refine rn1 ?_
  refine ze (by kernel_rfl) ?_
  refine zS 0 U (by kernel_rfl) (by kernel_rfl) (by kernel_rfl) U (zG U) U ?_
  refine zS 1 U (by kernel_rfl) (by kernel_rfl) (by kernel_rfl) U (zAH U) U ?_
  refine zS 2 U (by kernel_rfl) (by kernel_rfl) (by kernel_rfl) U (zK U U U U U U) U ?_
  refine zS 4 U (by kernel_rfl) (by kernel_rfl) (by kernel_rfl) U (zG U) U ?_
  refine zS 8 U (by kernel_rfl) (by kernel_rfl) (by kernel_rfl) U (zG U) U ?_
  refine zS 9 U (by kernel_rfl) (by kernel_rfl) (by kernel_rfl) U (zAH U) U ?_
  refine zS 10 U (by kernel_rfl) (by kernel_rfl) (by kernel_rfl) U (zK U U U U U U) U ?_
  refine zS 12 U (by kernel_rfl) (by kernel_rfl) (by kernel_rfl) U (zG U) U ?_
  apply zT (H := [some ⟨33, .box (poC (T.l.getD n zq))⟩, some ⟨35, .box (zB6 (0, 0))⟩]) [(4, .ptr 0 0 0), (5, .ptr 1 0 0), (34, entA (zAx T n))]
  ·intro f42
   apply zT (H := [some ⟨33, .box poZ⟩, some ⟨35, .box (zB6 (0, 0))⟩]) [(4, .ptr 0 0 0), (5, .ptr 1 0 0), (27, poA (T.l.getD n zq)), (34, entA (zAx T n))]
   ·intro f32
    apply zT (H := [some ⟨33, .box (poC (T.l.getD n zq))⟩, some ⟨35, .box (zB6 (0, 0))⟩]) [(4, .ptr 0 0 0), (5, .ptr 1 0 0), (33, .rp (zCI T.E) n 0)]
    ·intro f41
     apply zT (H := [some ⟨33, .box poZ⟩, some ⟨35, .box (zB6 (0, 0))⟩]) [(4, .ptr 0 0 0), (5, .ptr 1 0 0), (26, poA (T.l.getD n zq)), (34, entA (zAx T n))]
     ·intro f22
      apply zT (H := [some ⟨33, .box poZ⟩, some ⟨35, .box (zB6 (0, 0))⟩]) [(4, .ptr 0 0 0), (5, .ptr 1 0 0), (27, poA (T.l.getD n zq)), (33, .rp (zCI T.E) n 0)]
      ·intro f31
       apply zT (H := [some ⟨33, .box (poC (T.l.getD n zq))⟩, some ⟨35, .box (zB6 (0, 0))⟩]) [(4, .ptr 0 0 0), (5, .ptr 1 0 0), (30, .rp (.box (tbF T.r T.l T.nx (.ro (zCI T.E) 0 T.E.length))) 0 13), (32, iN n)]
       ·intro f40
        apply zT (H := [some ⟨33, .box poZ⟩, some ⟨35, .box (zB6 (0, 0))⟩]) [(4, .ptr 0 0 0), (5, .ptr 1 0 0), (25, .rp (zCg T.l) n 0), (34, entA (zAx T n))]
        ·intro f12
         apply zT (H := [some ⟨33, .box poZ⟩, some ⟨35, .box (zB6 (0, 0))⟩]) [(4, .ptr 0 0 0), (5, .ptr 1 0 0), (26, poA (T.l.getD n zq)), (33, .rp (zCI T.E) n 0)]
         ·intro f21
          apply zT (H := [some ⟨33, .box poZ⟩, some ⟨35, .box (zB6 (0, 0))⟩]) [(4, .ptr 0 0 0), (5, .ptr 1 0 0), (27, poA (T.l.getD n zq)), (30, .rp (.box (tbF T.r T.l T.nx (.ro (zCI T.E) 0 T.E.length))) 0 13), (32, iN n)]
          ·intro f30
           apply zT (H := [some ⟨33, .box poZ⟩, some ⟨35, .box (zB6 (0, 0))⟩]) [(4, .ptr 0 0 0), (5, .ptr 1 0 0), (22, .rp (.box (tbF T.r T.l T.nx (.ro (zCI T.E) 0 T.E.length))) 0 11), (24, iN n), (34, entA (zAx T n))]
           ·intro f02
            apply zT (H := [some ⟨33, .box poZ⟩, some ⟨35, .box (zB6 (0, 0))⟩]) [(4, .ptr 0 0 0), (5, .ptr 1 0 0), (25, .rp (zCg T.l) n 0), (33, .rp (zCI T.E) n 0)]
            ·intro f11
             apply zT (H := [some ⟨33, .box poZ⟩, some ⟨35, .box (zB6 (0, 0))⟩]) [(4, .ptr 0 0 0), (5, .ptr 1 0 0), (26, poA (T.l.getD n zq)), (30, .rp (.box (tbF T.r T.l T.nx (.ro (zCI T.E) 0 T.E.length))) 0 13), (32, iN n)]
             ·intro f20
              apply zT (H := [some ⟨33, .box poZ⟩, some ⟨35, .box (zB6 (0, 0))⟩]) [(4, .ptr 0 0 0), (5, .ptr 1 0 0), (22, .rp (.box (tbF T.r T.l T.nx (.ro (zCI T.E) 0 T.E.length))) 0 11), (24, iN n), (33, .rp (zCI T.E) n 0)]
              ·intro f01
               apply zT (H := [some ⟨33, .box poZ⟩, some ⟨35, .box (zB6 (0, 0))⟩]) [(4, .ptr 0 0 0), (5, .ptr 1 0 0), (25, .rp (zCg T.l) n 0), (30, .rp (.box (tbF T.r T.l T.nx (.ro (zCI T.E) 0 T.E.length))) 0 13), (32, iN n)]
               ·intro f10
                refine zH (is := [3, 11]) (by kernel_rfl) (by simp) U ⟨fun o ho => ?_, fun o ho => ?_, trivial⟩
                all_goals (cases ho)
                ·repeat (first | refine zC ?_ | refine zX ?_ | refine zA (zD rfl rfl rfl rfl) ?_)
                 refine zS 5 U (by kernel_rfl) (by kernel_rfl) (by kernel_rfl) U (zn U U U U (by first | (simp only [Nat.zero_add, Int.toNat_natCast, Int.toNat_zero]; exact U) | exact U) (by omega)) U ?_
                 exact f10 _ ⟨U, U, U, U, U, trivial⟩
                ·repeat (first | refine zC ?_ | refine zX ?_ | refine zA (zD rfl rfl rfl rfl) ?_)
                 refine zS 13 U (by kernel_rfl) (by kernel_rfl) (by kernel_rfl) U (zn U U U U (by first | (simp only [Nat.zero_add, Int.toNat_natCast, Int.toNat_zero]; exact U) | exact U) (by omega)) U ?_
                 exact f01 _ ⟨U, U, U, U, U, trivial⟩
               ·refine zH (is := [6, 11]) (by kernel_rfl) (by simp) U ⟨fun o ho => ?_, fun o ho => ?_, trivial⟩
                all_goals (cases ho)
                ·refine rn6 ?_
                 exact f20 _ ⟨U, U, U, U, U, trivial⟩
                ·repeat (first | refine zC ?_ | refine zX ?_ | refine zA (zD rfl rfl rfl rfl) ?_)
                 refine zS 13 U (by kernel_rfl) (by kernel_rfl) (by kernel_rfl) U (zn U U U U (by first | (simp only [Nat.zero_add, Int.toNat_natCast, Int.toNat_zero]; exact U) | exact U) (by omega)) U ?_
                 exact f11 _ ⟨U, U, U, U, trivial⟩
              ·refine zH (is := [3, 14]) (by kernel_rfl) (by simp) U ⟨fun o ho => ?_, fun o ho => ?_, trivial⟩
               all_goals (cases ho)
               ·repeat (first | refine zC ?_ | refine zX ?_ | refine zA (zD rfl rfl rfl rfl) ?_)
                refine zS 5 U (by kernel_rfl) (by kernel_rfl) (by kernel_rfl) U (zn U U U U (by first | (simp only [Nat.zero_add, Int.toNat_natCast, Int.toNat_zero]; exact U) | exact U) (by omega)) U ?_
                exact f11 _ ⟨U, U, U, U, trivial⟩
               ·refine rn6 ?_
                exact f02 _ ⟨U, U, U, U, U, trivial⟩
             ·refine zH (is := [7, 11]) (by kernel_rfl) (by simp) U ⟨fun o ho => ?_, fun o ho => ?_, trivial⟩
              all_goals (cases ho)
              ·refine zQ U U U (zG2 (T.l.getD n zq) (zGJ h hn)) ?_
               refine rn1 ?_
               exact f30 _ ⟨U, U, U, U, U, trivial⟩
              ·repeat (first | refine zC ?_ | refine zX ?_ | refine zA (zD rfl rfl rfl rfl) ?_)
               refine zS 13 U (by kernel_rfl) (by kernel_rfl) (by kernel_rfl) U (zn U U U U (by first | (simp only [Nat.zero_add, Int.toNat_natCast, Int.toNat_zero]; exact U) | exact U) (by omega)) U ?_
               exact f21 _ ⟨U, U, U, U, trivial⟩
            ·refine zH (is := [6, 14]) (by kernel_rfl) (by simp) U ⟨fun o ho => ?_, fun o ho => ?_, trivial⟩
             all_goals (cases ho)
             ·refine rn6 ?_
              exact f21 _ ⟨U, U, U, U, trivial⟩
             ·refine rn6 ?_
              exact f12 _ ⟨U, U, U, U, trivial⟩
           ·refine zH (is := [3]) (by kernel_rfl) (by simp) U ⟨fun o ho => ?_, trivial⟩
            all_goals (cases ho)
            repeat (first | refine zC ?_ | refine zX ?_ | refine zA (zD rfl rfl rfl rfl) ?_)
            refine zS 5 U (by kernel_rfl) (by kernel_rfl) (by kernel_rfl) U (zn U U U U (by first | (simp only [Nat.zero_add, Int.toNat_natCast, Int.toNat_zero]; exact U) | exact U) (by omega)) U ?_
            exact f12 _ ⟨U, U, U, U, trivial⟩
          ·refine zH (is := [11, 15]) (by kernel_rfl) (by simp) U ⟨fun o ho => ?_, fun o ho => ?_, trivial⟩
           all_goals (cases ho)
           ·repeat (first | refine zC ?_ | refine zX ?_ | refine zA (zD rfl rfl rfl rfl) ?_)
            refine zS 13 U (by kernel_rfl) (by kernel_rfl) (by kernel_rfl) U (zn U U U U (by first | (simp only [Nat.zero_add, Int.toNat_natCast, Int.toNat_zero]; exact U) | exact U) (by omega)) U ?_
            exact f31 _ ⟨U, U, U, U, trivial⟩
           ·refine zZ (poC (T.l.getD n zq)) U U U U U U U ?_
            refine rn1 ?_
            exact f40 _ ⟨U, U, U, U, trivial⟩
         ·refine zH (is := [7, 14]) (by kernel_rfl) (by simp) U ⟨fun o ho => ?_, fun o ho => ?_, trivial⟩
          all_goals (cases ho)
          ·refine zQ U U U (zG2 (T.l.getD n zq) (zGJ h hn)) ?_
           refine rn1 ?_
           exact f31 _ ⟨U, U, U, U, trivial⟩
          ·refine rn6 ?_
           exact f22 _ ⟨U, U, U, U, trivial⟩
        ·refine zH (is := [6]) (by kernel_rfl) (by simp) U ⟨fun o ho => ?_, trivial⟩
         all_goals (cases ho)
         refine rn6 ?_
         exact f22 _ ⟨U, U, U, U, trivial⟩
       ·refine zH (is := [11]) (by kernel_rfl) (by simp) U ⟨fun o ho => ?_, trivial⟩
        all_goals (cases ho)
        repeat (first | refine zC ?_ | refine zX ?_ | refine zA (zD rfl rfl rfl rfl) ?_)
        refine zS 13 U (by kernel_rfl) (by kernel_rfl) (by kernel_rfl) U (zn U U U U (by first | (simp only [Nat.zero_add, Int.toNat_natCast, Int.toNat_zero]; exact U) | exact U) (by omega)) U ?_
        exact f41 _ ⟨U, U, U, trivial⟩
      ·refine zH (is := [14, 15]) (by kernel_rfl) (by simp) U ⟨fun o ho => ?_, fun o ho => ?_, trivial⟩
       all_goals (cases ho)
       ·refine rn6 ?_
        exact f32 _ ⟨U, U, U, U, trivial⟩
       ·refine zZ (poC (T.l.getD n zq)) U U U U U U U ?_
        refine rn1 ?_
        exact f41 _ ⟨U, U, U, trivial⟩
     ·refine zH (is := [7]) (by kernel_rfl) (by simp) U ⟨fun o ho => ?_, trivial⟩
      all_goals (cases ho)
      refine zQ U U U (zG2 (T.l.getD n zq) (zGJ h hn)) ?_
      refine rn1 ?_
      exact f32 _ ⟨U, U, U, U, trivial⟩
    ·refine zH (is := [14]) (by kernel_rfl) (by simp) U ⟨fun o ho => ?_, trivial⟩
     all_goals (cases ho)
     refine rn6 ?_
     exact f42 _ ⟨U, U, U, trivial⟩
   ·refine zH (is := [15]) (by kernel_rfl) (by simp) U ⟨fun o ho => ?_, trivial⟩
    all_goals (cases ho)
    refine zZ (poC (T.l.getD n zq)) U U U U U U U ?_
    refine rn1 ?_
    exact f42 _ ⟨U, U, U, trivial⟩
  refine zH (is := [16]) (by kernel_rfl) (by simp) U ⟨fun o ho => ?_, trivial⟩
  all_goals (cases ho)
  refine zZ (zB6 (zAx T n)) U U U U U U U ?_
  refine rn1 ?_
  refine zH (is := [17]) (by kernel_rfl) (by simp) U ⟨fun o ho => ?_, trivial⟩
  all_goals (cases ho)
  refine rn1 ?_
  refine zW (by kernel_rfl) ?_
  refine rn0 ?_
  exact zN hR U U
/-- (*retro.Table).find -/
theorem zNU (T : Tab) (h : TabOK T) (hr : Lens T.r) (p : Pos) (hp : LenP p) : zl Tryz.prog 58 [zDx T, poA p] (.tup [.int .i64 (if zCJ T p ≠ 0 then 0 else ((zAp T.l p : Nat) : Int)), .int .i64 (zCJ T p)]) := by
 refine zd.value0 (zL (P := Tryz.prog) (fn := Tryz.f58) U U (by kernel_rfl) U (fun c hR hfix => ?_)) (fix := fun _ => False) (fun _ h => h) U U
 refine zY ?_
 repeat (first | refine zA (zM rfl) ?_ | refine zC ?_ | refine zB ?_ | refine zJ rfl ?_ | refine zAO rfl rfl ?_)
 refine zBi 3 [(0, zDx T)] U ⟨U, U, trivial⟩ ⟨U, trivial⟩ U hfix ?_
 repeat (refine zY ?_)
 refine ze (by kernel_rfl) ?_
 refine zh (fuel := 0) [0, 1, 2, 3, 4, 5, 6] [(3, .rp (.box (poC p)) 0 0), (0, zDx T)] ⟨U, U, trivial⟩ (by kernel_rfl) (by decide) U U ?_
 refine zI U U (zG U) ?_
 refine zI U U (zAH U) ?_
 refine zI U U (zK U U U U U U) ?_
 refine zI U U (zEm U U U U U U) ?_
 refine zI U U (zm U U U U U U) ?_
 refine zBS U U U U U (zCG T.r hr p hp) ?_
 refine zI U U (zM U) ?_
 refine zw ?_
 refine zW (by kernel_rfl) ?_
 refine rn3 ?_
 refine zF U (fun q => ?_) (fun q => ?_)
 ·have e : zCJ T p = zBC T.r p := by unfold zCJ; rw [if_pos q]
  rw [e, if_pos q] at hR
  refine rn2 ?_
  exact zN hR U U
 have q2 := Classical.not_not.1 q
 obtain ⟨hz, S⟩ := zDZ q2
 refine rn1 ?_
 by_cases hi : zAp T.l p < T.l.length
 ·have e : zCJ T p = 0 := by unfold zCJ; rw [if_neg q, if_pos hi]
  rw [e, if_neg (by decide)] at hR
  refine ze (by kernel_rfl) ?_
  refine zh (fuel := 0) [0, 1, 2, 3, 4, 5, 6, 7, 8, 9, 10, 11] [(3, .rp (.box (poC p)) 0 0), (0, zDx T)] ⟨U, U, trivial⟩ (by kernel_rfl) (by decide) U U ?_
  refine zI U U (zG U) ?_
  refine zI U U (zAH U) ?_
  refine zI U U (zK U U U U U U) ?_
  refine zI U U (zD U U U U) ?_
  refine zI U U (zm U U U U U U) ?_
  refine zBS U U U U U (zGE h.v S) ?_
  refine zI U U (zFL U (.str U) U U U U (zDV T.l) (zAp T.l p) (zHk hi) (zHu hi)) ?_
  refine zI U U (zG U) ?_
  refine zI U U (zAC U U) ?_
  refine zI U U (zAC U U) ?_
  refine zI U U (zM U) ?_
  refine zI U U (zM U) ?_
  refine zw ?_
  refine zW (by kernel_rfl) ?_
  refine rn5 ?_
  exact zN hR U U
 ·have e : zCJ T p = 8 := by unfold zCJ; rw [if_neg q, if_neg hi]
  rw [e, if_pos (by decide)] at hR
  refine ze (by kernel_rfl) ?_
  refine zh (fuel := 0) [0, 1, 2, 3, 4, 5, 6, 7, 8, 9, 10, 11] [(3, .rp (.box (poC p)) 0 0), (0, zDx T)] ⟨U, U, trivial⟩ (by kernel_rfl) (by decide) U U ?_
  refine zI U U (zG U) ?_
  refine zI U U (zAH U) ?_
  refine zI U U (zK U U U U U U) ?_
  refine zI U U (zD U U U U) ?_
  refine zI U U (zm U U U U U U) ?_
  refine zBS U U U U U (zGE h.v S) ?_
  refine zI U U (zEn U (.str U) U U U U U U U U (zDV T.l) (zFp h.v S h.G.snd hi)) ?_
  refine zI U U (zG U) ?_
  refine zI U U (zAC U U) ?_
  refine zI U U (zAC U U) ?_
  refine zI U U (zM U) ?_
  refine zI U U (zM U) ?_
  refine zw ?_
  refine zW (by kernel_rfl) ?_
  refine rn5 ?_
  exact zN hR U U
/-- (*retro.Table).Of -/
theorem of_ok (T : Tab) (h : TabOK T) (hr : Lens T.r) (p : Pos) (hp : LenP p) : zl Tryz.prog 28 [zDx T, poA p] (.tup [entA (ofT T p), .int .i64 (zCJ T p)]) := by
 refine zd.value0 (zL (P := Tryz.prog) (fn := Tryz.f28) U U (by kernel_rfl) U (fun c hR hfix => ?_)) (fix := fun _ => False) (fun _ h => h) U U
 have hEl := h.len
 refine rn6 ?_
 refine zQ U U U (zNU T h hr p hp) ?_
 refine rn3 ?_
 refine zF U (fun q => ?_) (fun q => ?_)
 ·have e : ofT T p = (0, 0) := by unfold ofT; rw [if_pos q]
  rw [e] at hR
  refine rn8 ?_
  refine zZ (zB6 (0, 0)) U U U U U U U ?_
  refine rn2 ?_
  exact zN hR U U
 ·have q2 : zCJ T p = 0 := Classical.not_not.1 q
  have hi : zAp T.l p < T.l.length := by
   unfold zCJ at q2
   split at q2
   ·rename_i h1; exact absurd q2 h1
   ·split at q2
    ·assumption
    ·cases q2
  have e : ofT T p = zAx T (zAp T.l p) := by unfold ofT; rw [if_neg q]
  rw [e, q2] at hR
  rw [if_neg q]
  repeat (first | refine zA (zG rfl) ?_ | refine zB ?_ | refine zY ?_ | refine zJ rfl ?_ | refine zAP ?_ | refine zA (zn rfl rfl rfl rfl (by first | (simp only [Nat.zero_add, Int.toNat_natCast, Int.toNat_zero]; exact rfl) | exact rfl) (by omega)) ?_ | refine zA (zD rfl rfl rfl rfl) ?_ | refine zA (zAH rfl) ?_ | refine zA (zK rfl rfl rfl rfl rfl rfl) ?_ | refine zA (zm rfl rfl rfl rfl rfl rfl) ?_)
  refine zZ (zB6 (zAx T (zAp T.l p))) U U U U U U U ?_
  refine rn0 ?_
  exact zN hR U U
end Go.Proofs.YtkhdfimdkjjimaaGreatDoor
