import Derived.Test.YtbeegiiiochblaaGreatDoorG3
set_option linter.unusedVariables false
set_option linter.unusedSimpArgs false
namespace Go.Proofs.YtbeegiiiochblaaGreatDoor
open Go.Ax Go.Ax.Bg Go.Ax.Rt Go.RowKit
attribute [local irreducible] Ax Post QOp ACall PureOp
set_option maxRecDepth 100000
set_option maxHeartbeats 4000000

def intA (x : Int) : AV := .agg [.bool (decide (x < 0)), natA x.natAbs]
theorem made_ok (b : Bool) (n : Nat) : VCall Tryz.prog 95 [.bool b, natA n] (intA (sgnI b n)) := by
  have hp : 0 < (natL n).length ↔ n ≠ 0 := natL_pos_len
  have hr : intA (sgnI b n) = .agg [.bool (b && decide (n ≠ 0)), natA n] := by unfold intA; rw [sgnI_abs, sgnI_neg]
  rw [hr]
  refine ACall.value0 (acall_of_ax (P := Tryz.prog) (fn := Tryz.f95) rfl rfl (by kernel_rfl) rfl (fun c hR hfix => ?_)) (fix := fun _ => False) (fun _ h => h) rfl rfl
  unfold natA at hR ⊢
  cases b
  · repeat (first
      | refine ax_q (q_move rfl) ?_
      | refine ax_ops_nil ?_
      | refine ax_post_code ?_
      | refine ax_seq ?_
      | refine ax_region rfl ?_
      | refine ax_skip_not rfl rfl rfl ?_
      | refine ax_q (q_pick rfl rfl) ?_
      | refine ax_q (q_build rfl rfl rfl rfl rfl rfl) ?_
      | refine ax_alloc rfl rfl rfl ?_)
    refine ax_storeagg (c' := .box [.bool false, .ro (.ints .u32 (natL n)) 0 (natL n).length]) rfl rfl rfl rfl rfl Nat.zero_lt_one rfl rfl (fun i' j' hi' hj' => ?_) ?_
    · rw [if_pos (Nat.lt_one_iff.1 hi')]; rfl
    repeat (first
      | refine ax_ops_nil ?_
      | refine ax_post_code ?_
      | refine ax_return ?_)
    exact ax_ret hR rfl rfl
  · repeat (first
      | refine ax_q (q_move rfl) ?_
      | refine ax_ops_nil ?_
      | refine ax_post_code ?_
      | refine ax_seq ?_
      | refine ax_region rfl ?_
      | refine ax_guard rfl rfl ?_
      | refine ax_q (q_gtr rfl rfl) ?_
      | refine ax_q (q_pick rfl rfl) ?_
      | refine ax_q (q_len rfl rfl rfl) ?_
      | refine ax_q (q_build rfl rfl rfl rfl rfl rfl) ?_
      | refine ax_alloc rfl rfl rfl ?_)
    have e : decide (0 < ((natL n).length : Int)) = decide (n ≠ 0) := by rw [decide_eq_decide, ← hp]; omega
    refine ax_storeagg (c' := .box [.bool (decide (n ≠ 0)), .ro (.ints .u32 (natL n)) 0 (natL n).length]) rfl rfl rfl rfl rfl Nat.zero_lt_one rfl rfl (fun i' j' hi' hj' => ?_) ?_
    · rw [if_pos (Nat.lt_one_iff.1 hi'), ← e]; rfl
    repeat (first
      | refine ax_ops_nil ?_
      | refine ax_post_code ?_
      | refine ax_return ?_)
    exact ax_ret hR rfl rfl
theorem mul_sgn (x y : Int) : sgnI (!(decide (x < 0) == decide (y < 0))) (x.natAbs * y.natAbs) = x * y := by
  have h : (x * y).natAbs = x.natAbs * y.natAbs := Int.natAbs_mul x y
  unfold sgnI
  rcases Int.lt_trichotomy x 0 with hx | hx | hx <;> rcases Int.lt_trichotomy y 0 with hy | hy | hy
  · have := Int.mul_pos_of_neg_of_neg hx hy
    simp only [hx, hy]; simp; omega
  · subst hy; simp
  · have := Int.mul_neg_of_neg_of_pos hx hy
    simp only [hx, show ¬ y < 0 by omega]; simp; omega
  · subst hx; simp
  · subst hx; simp
  · subst hx; simp
  · have := Int.mul_neg_of_pos_of_neg hx hy
    simp only [hy, show ¬ x < 0 by omega]; simp; omega
  · subst hy; simp
  · have := Int.mul_pos hx hy
    simp only [show ¬ x < 0 by omega, show ¬ y < 0 by omega]; simp; omega
theorem imul_ok (x y : Int) (hx : (natL x.natAbs).length ≤ 1000000) (hy : (natL y.natAbs).length ≤ 1000000) : VCall Tryz.prog 93 [intA x, intA y] (intA (x * y)) := by
  have h1 := mul_ok x.natAbs y.natAbs (by omega) (by omega)
  have h2 := made_ok (!(decide (x < 0) == decide (y < 0))) (x.natAbs * y.natAbs)
  rw [mul_sgn] at h2
  refine ACall.value0 (acall_of_ax (P := Tryz.prog) (fn := Tryz.f93) rfl rfl (by kernel_rfl) rfl (fun c hR hfix => ?_)) (fix := fun _ => False) (fun _ h => h) rfl rfl
  repeat (first
    | refine ax_ops_nil ?_
    | refine ax_post_code ?_
    | refine ax_seq ?_
    | refine ax_region rfl ?_
    | refine ax_box rfl rfl ?_
    | refine ax_alloc rfl rfl rfl ?_)
  refine ax_regiond (by kernel_rfl) ?_
  refine ax_any_run (fuel := 1) [0, 1, 2, 3, 4, 5, 6, 7, 8, 9, 10] [(2, .ptr 0 0 0), (3, .ptr 1 0 0), (4, .ptr 2 0 0)] ⟨rfl, rfl, rfl, trivial⟩ (by kernel_rfl) (by decide) rfl rfl ?_
  refine px_q rfl rfl (q_field_ptr rfl rfl rfl rfl rfl rfl) ?_
  refine px_q rfl rfl (q_loadb_ptr rfl rfl rfl rfl rfl) ?_
  refine px_q rfl rfl (q_field_ptr rfl rfl rfl rfl rfl rfl) ?_
  refine px_q rfl rfl (q_loadb_ptr rfl rfl rfl rfl rfl) ?_
  refine px_q rfl rfl (q_boolneq rfl rfl rfl) ?_
  refine px_q rfl rfl (q_field_ptr rfl rfl rfl rfl rfl rfl) ?_
  refine px_q rfl rfl (q_loadb_ptr rfl rfl rfl rfl rfl) ?_
  refine px_q rfl rfl (q_field_ptr rfl rfl rfl rfl rfl rfl) ?_
  refine px_q rfl rfl (q_loadb_ptr rfl rfl rfl rfl rfl) ?_
  refine px_v rfl rfl rfl rfl rfl h1 ?_
  refine px_v rfl rfl rfl rfl rfl h2 ?_
  refine px_done ?_
  refine ax_any_step (is := [11]) (by kernel_rfl) (by simp) rfl ⟨fun o ho => ?_, trivial⟩
  all_goals (cases ho)
  skip
  unfold intA natA
  refine ax_storeagg (c' := .box [.bool (decide (x * y < 0)), .ro (.ints .u32 (natL (x * y).natAbs)) 0 (natL (x * y).natAbs).length]) rfl rfl rfl rfl rfl Nat.zero_lt_one rfl rfl (fun i' j' hi' hj' => ?_) ?_
  · rw [if_pos (Nat.lt_one_iff.1 hi')]; rfl
  repeat (first
    | refine ax_ops_nil ?_
    | refine ax_post_any ?_)
  refine ax_any_done (by kernel_rfl) ?_
  repeat (first
    | refine ax_post_code ?_
    | refine ax_return ?_)
  exact ax_ret hR rfl rfl
end Go.Proofs.YtbeegiiiochblaaGreatDoor

namespace Go.Proofs.YtbeegiiiochblaaGreatDoor
open Go.Ax Go.Ax.Bg Go.Ax.Rt Go.RowKit
attribute [local irreducible] Ax Post QOp ACall PureOp
set_option maxRecDepth 100000
set_option maxHeartbeats 4000000

theorem opp_sgn (x : Int) : sgnI (!decide (x < 0)) x.natAbs = -x := by
  unfold sgnI
  by_cases h : x < 0
  · simp [h]; omega
  · simp [h]; omega
theorem iopp_ok (x : Int) : VCall Tryz.prog 98 [intA x] (intA (-x)) := by
  have h2 := made_ok (!decide (x < 0)) x.natAbs
  rw [opp_sgn] at h2
  refine ACall.value0 (acall_of_ax (P := Tryz.prog) (fn := Tryz.f98) rfl rfl (by kernel_rfl) rfl (fun c hR hfix => ?_)) (fix := fun _ => False) (fun _ h => h) rfl rfl
  repeat (first
    | refine ax_ops_nil ?_
    | refine ax_post_code ?_
    | refine ax_seq ?_
    | refine ax_region rfl ?_
    | refine ax_q (q_loadb_ptr rfl rfl rfl rfl rfl) ?_
    | refine ax_q (q_not rfl) ?_
    | refine ax_q (q_field_ptr rfl rfl rfl rfl rfl rfl) ?_
    | refine ax_box rfl rfl ?_
    | refine ax_alloc rfl rfl rfl ?_)
  refine ax_callv rfl rfl rfl h2 ?_
  skip
  unfold intA
  refine ax_storeagg (c' := .box [.bool (decide (-x < 0)), natA (-x).natAbs]) rfl rfl rfl rfl rfl Nat.zero_lt_one rfl rfl (fun i' j' hi' hj' => ?_) ?_
  · rw [if_pos (Nat.lt_one_iff.1 hi')]; rfl
  repeat (first
    | refine ax_ops_nil ?_
    | refine ax_post_code ?_
    | refine ax_return ?_)
  exact ax_ret hR rfl rfl
theorem isign_ok (x : Int) : VCall Tryz.prog 97 [intA x] (.int .i64 (sgn x)) := by
  have hp : 0 < (natL x.natAbs).length ↔ x.natAbs ≠ 0 := natL_pos_len
  unfold sgn
  refine ACall.value0 (acall_of_ax (P := Tryz.prog) (fn := Tryz.f97) rfl rfl (by kernel_rfl) rfl (fun c hR hfix => ?_)) (fix := fun _ => False) (fun _ h => h) rfl rfl
  unfold intA natA
  rcases Int.lt_trichotomy x 0 with h | h | h
  · have e : decide (x < 0) = true := decide_eq_true h
    rw [e]
    rw [if_pos h] at hR
    repeat (first
      | refine ax_q (q_assign rfl) ?_
      | refine ax_ops_nil ?_
      | refine ax_post_code ?_
      | refine ax_seq ?_
      | refine ax_region rfl ?_
      | refine ax_block ?_
      | refine ax_q (q_loadb_ptr rfl rfl rfl rfl rfl) ?_
      | refine ax_q (q_eql rfl rfl) ?_
      | refine ax_q (q_len rfl rfl rfl) ?_
      | refine ax_q (q_field_ptr rfl rfl rfl rfl rfl rfl) ?_
      | refine ax_box rfl rfl ?_)
    refine ax_cond_dec rfl (fun h0 => absurd h0 (by omega)) (fun h0 => ?_)
    repeat (first
      | refine ax_q (q_assign rfl) ?_
      | refine ax_ops_nil ?_
      | refine ax_post_code ?_
      | refine ax_seq ?_
      | refine ax_region rfl ?_
      | refine ax_cond_true rfl ?_
      | refine ax_return ?_
      | refine ax_ret_code ?_
      | refine ax_ret_blk ?_
      | refine ax_q (q_loadb_ptr rfl rfl rfl rfl rfl) ?_
      | refine ax_q (q_field_ptr rfl rfl rfl rfl rfl rfl) ?_)
    exact ax_ret hR rfl rfl
  · subst h
    rw [if_neg (by omega), if_pos rfl] at hR
    have e0 : natL (0 : Int).natAbs = [] := natL_zero
    rw [e0]
    repeat (first
      | refine ax_q (q_assign rfl) ?_
      | refine ax_ops_nil ?_
      | refine ax_post_code ?_
      | refine ax_seq ?_
      | refine ax_region rfl ?_
      | refine ax_cond_true rfl ?_
      | refine ax_block ?_
      | refine ax_return ?_
      | refine ax_ret_code ?_
      | refine ax_ret_blk ?_
      | refine ax_q (q_loadb_ptr rfl rfl rfl rfl rfl) ?_
      | refine ax_q (q_eql rfl rfl) ?_
      | refine ax_q (q_len rfl rfl rfl) ?_
      | refine ax_q (q_field_ptr rfl rfl rfl rfl rfl rfl) ?_
      | refine ax_box rfl rfl ?_)
    exact ax_ret hR rfl rfl
  · have e : decide (x < 0) = false := decide_eq_false (by omega)
    rw [e]
    rw [if_neg (by omega), if_neg (by omega)] at hR
    repeat (first
      | refine ax_q (q_assign rfl) ?_
      | refine ax_ops_nil ?_
      | refine ax_post_code ?_
      | refine ax_seq ?_
      | refine ax_region rfl ?_
      | refine ax_block ?_
      | refine ax_q (q_loadb_ptr rfl rfl rfl rfl rfl) ?_
      | refine ax_q (q_eql rfl rfl) ?_
      | refine ax_q (q_len rfl rfl rfl) ?_
      | refine ax_q (q_field_ptr rfl rfl rfl rfl rfl rfl) ?_
      | refine ax_box rfl rfl ?_)
    refine ax_cond_dec rfl (fun h0 => absurd h0 (by omega)) (fun h0 => ?_)
    repeat (first
      | refine ax_q (q_assign rfl) ?_
      | refine ax_ops_nil ?_
      | refine ax_post_code ?_
      | refine ax_seq ?_
      | refine ax_region rfl ?_
      | refine ax_cond_false rfl ?_
      | refine ax_post_blk ?_
      | refine ax_skip ?_
      | refine ax_return ?_
      | refine ax_q (q_loadb_ptr rfl rfl rfl rfl rfl) ?_
      | refine ax_q (q_field_ptr rfl rfl rfl rfl rfl rfl) ?_)
    exact ax_ret hR rfl rfl
theorem add_sgn1 (x y : Int) (h : decide (x < 0) = decide (y < 0)) : sgnI (decide (x < 0)) (x.natAbs + y.natAbs) = x + y := by
  unfold sgnI
  rw [decide_eq_decide] at h
  by_cases h1 : x < 0
  · simp [h1]; omega
  · simp [h1]; omega
theorem add_sgn2 (x y : Int) (h : ¬ decide (x < 0) = decide (y < 0)) (h2 : y.natAbs ≤ x.natAbs) : sgnI (decide (x < 0)) (x.natAbs - y.natAbs) = x + y := by
  unfold sgnI
  rw [decide_eq_decide] at h
  by_cases h1 : x < 0
  · simp [h1]; omega
  · simp [h1]; omega
theorem add_sgn3 (x y : Int) (h : ¬ decide (x < 0) = decide (y < 0)) (h2 : ¬ y.natAbs ≤ x.natAbs) : sgnI (decide (y < 0)) (y.natAbs - x.natAbs) = x + y := by
  unfold sgnI
  rw [decide_eq_decide] at h
  by_cases h1 : y < 0
  · simp [h1]; omega
  · simp [h1]; omega
theorem cmpZ_le {x y : Int} : 0 ≤ cmpZ x y ↔ y ≤ x := by
  unfold cmpZ
  split
  · omega
  · split <;> omega
theorem iadd_ok (x y : Int) (hx : (natL x.natAbs).length ≤ 1000000) (hy : (natL y.natAbs).length ≤ 1000000) : VCall Tryz.prog 94 [intA x, intA y] (intA (x + y)) := by
  by_cases h : decide (x < 0) = decide (y < 0)
  · have h1 := add_ok x.natAbs y.natAbs (by omega) (by omega)
    have h2 := made_ok (decide (x < 0)) (x.natAbs + y.natAbs)
    rw [add_sgn1 x y h] at h2
    refine ACall.value0 (acall_of_ax (P := Tryz.prog) (fn := Tryz.f94) rfl rfl (by kernel_rfl) rfl (fun c hR hfix => ?_)) (fix := fun _ => False) (fun _ h => h) rfl rfl
    unfold intA at hR ⊢
    repeat (first
      | refine ax_ops_nil ?_
      | refine ax_post_code ?_
      | refine ax_seq ?_
      | refine ax_region rfl ?_
      | refine ax_q (q_loadb_ptr rfl rfl rfl rfl rfl) ?_
      | refine ax_q (q_field_ptr rfl rfl rfl rfl rfl rfl) ?_
      | refine ax_q (q_booleq rfl rfl rfl) ?_
      | refine ax_box rfl rfl ?_
      | refine ax_alloc rfl rfl rfl ?_)
    refine ax_slot 9 (.bool true) rfl (AEq.of_eq (by rw [h]; simp)) ?_
    repeat (first
      | refine ax_seq ?_
      | refine ax_cond_true rfl ?_)
    refine ax_regiond (by kernel_rfl) ?_
    refine ax_any_run (fuel := 1) [0, 1, 2, 3, 4, 5, 6, 7] [(2, .ptr 0 0 0), (3, .ptr 1 0 0), (4, .ptr 2 0 0)] ⟨rfl, rfl, rfl, trivial⟩ (by kernel_rfl) (by decide) rfl rfl ?_
    refine px_q rfl rfl (q_field_ptr rfl rfl rfl rfl rfl rfl) ?_
    refine px_q rfl rfl (q_loadb_ptr rfl rfl rfl rfl rfl) ?_
    refine px_q rfl rfl (q_field_ptr rfl rfl rfl rfl rfl rfl) ?_
    refine px_q rfl rfl (q_loadb_ptr rfl rfl rfl rfl rfl) ?_
    refine px_q rfl rfl (q_field_ptr rfl rfl rfl rfl rfl rfl) ?_
    refine px_q rfl rfl (q_loadb_ptr rfl rfl rfl rfl rfl) ?_
    refine px_v rfl rfl rfl rfl rfl h1 ?_
    refine px_v rfl rfl rfl rfl rfl h2 ?_
    refine px_done ?_
    refine ax_any_step (is := [8]) (by kernel_rfl) (by simp) rfl ⟨fun o ho => ?_, trivial⟩
    all_goals (cases ho)
    skip
    unfold intA
    refine ax_storeagg (c' := .box [.bool (decide (x + y < 0)), natA (x + y).natAbs]) rfl rfl rfl rfl rfl Nat.zero_lt_one rfl rfl (fun i' j' hi' hj' => ?_) ?_
    · rw [if_pos (Nat.lt_one_iff.1 hi')]; rfl
    repeat (first
      | refine ax_ops_nil ?_
      | refine ax_post_any ?_)
    refine ax_any_done (by kernel_rfl) ?_
    repeat (first
      | refine ax_post_code ?_
      | refine ax_return ?_
      | refine ax_ret_code ?_)
    exact ax_ret hR rfl rfl
  · have h0 := cmp_ok x.natAbs y.natAbs (by omega) (by omega)
    by_cases hc : y.natAbs ≤ x.natAbs
    · have h1 := sub_ok x.natAbs y.natAbs hc (by omega)
      have h2 := made_ok (decide (x < 0)) (x.natAbs - y.natAbs)
      rw [add_sgn2 x y h hc] at h2
      refine ACall.value0 (acall_of_ax (P := Tryz.prog) (fn := Tryz.f94) rfl rfl (by kernel_rfl) rfl (fun c hR hfix => ?_)) (fix := fun _ => False) (fun _ h => h) rfl rfl
      unfold intA at hR ⊢
      repeat (first
        | refine ax_ops_nil ?_
        | refine ax_post_code ?_
        | refine ax_seq ?_
        | refine ax_region rfl ?_
        | refine ax_q (q_loadb_ptr rfl rfl rfl rfl rfl) ?_
        | refine ax_q (q_field_ptr rfl rfl rfl rfl rfl rfl) ?_
        | refine ax_q (q_booleq rfl rfl rfl) ?_
        | refine ax_box rfl rfl ?_
        | refine ax_alloc rfl rfl rfl ?_)
      refine ax_slot 9 (.bool false) rfl (AEq.of_eq (by rw [beq_eq_false_iff_ne.2 h])) ?_
      repeat (first
        | refine ax_post_code ?_
        | refine ax_seq ?_
        | refine ax_region rfl ?_
        | refine ax_cond_false rfl ?_
        | refine ax_skip ?_
        | refine ax_q (q_loadb_ptr rfl rfl rfl rfl rfl) ?_
        | refine ax_q (q_field_ptr rfl rfl rfl rfl rfl rfl) ?_)
      refine ax_callv rfl rfl rfl h0 ?_
      repeat (first
        | refine ax_ops_nil ?_
        | refine ax_post_code ?_
        | refine ax_q (q_geq rfl rfl) ?_)
      refine ax_cond_dec rfl (fun h5 => ?_) (fun h5 => absurd (cmpZ_le.2 (Int.ofNat_le.2 hc)) h5)
      repeat (refine ax_seq ?_)
      refine ax_regiond (by kernel_rfl) ?_
      refine ax_any_run (fuel := 1) [0, 1, 2, 3, 4, 5, 6, 7] [(2, .ptr 0 0 0), (3, .ptr 1 0 0), (4, .ptr 2 0 0)] ⟨rfl, rfl, rfl, trivial⟩ (by kernel_rfl) (by decide) rfl rfl ?_
      refine px_q rfl rfl (q_field_ptr rfl rfl rfl rfl rfl rfl) ?_
      refine px_q rfl rfl (q_loadb_ptr rfl rfl rfl rfl rfl) ?_
      refine px_q rfl rfl (q_field_ptr rfl rfl rfl rfl rfl rfl) ?_
      refine px_q rfl rfl (q_loadb_ptr rfl rfl rfl rfl rfl) ?_
      refine px_q rfl rfl (q_field_ptr rfl rfl rfl rfl rfl rfl) ?_
      refine px_q rfl rfl (q_loadb_ptr rfl rfl rfl rfl rfl) ?_
      refine px_v rfl rfl rfl rfl rfl h1 ?_
      refine px_v rfl rfl rfl rfl rfl h2 ?_
      refine px_done ?_
      refine ax_any_step (is := [8]) (by kernel_rfl) (by simp) rfl ⟨fun o ho => ?_, trivial⟩
      all_goals (cases ho)
      skip
      unfold intA
      refine ax_storeagg (c' := .box [.bool (decide (x + y < 0)), natA (x + y).natAbs]) rfl rfl rfl rfl rfl Nat.zero_lt_one rfl rfl (fun i' j' hi' hj' => ?_) ?_
      · rw [if_pos (Nat.lt_one_iff.1 hi')]; rfl
      repeat (first
        | refine ax_ops_nil ?_
        | refine ax_post_any ?_)
      refine ax_any_done (by kernel_rfl) ?_
      repeat (first
        | refine ax_post_code ?_
        | refine ax_return ?_
        | refine ax_ret_code ?_)
      exact ax_ret hR rfl rfl
    · have h1 := sub_ok y.natAbs x.natAbs (by omega) (by omega)
      have h2 := made_ok (decide (y < 0)) (y.natAbs - x.natAbs)
      rw [add_sgn3 x y h hc] at h2
      refine ACall.value0 (acall_of_ax (P := Tryz.prog) (fn := Tryz.f94) rfl rfl (by kernel_rfl) rfl (fun c hR hfix => ?_)) (fix := fun _ => False) (fun _ h => h) rfl rfl
      unfold intA at hR ⊢
      repeat (first
        | refine ax_ops_nil ?_
        | refine ax_post_code ?_
        | refine ax_seq ?_
        | refine ax_region rfl ?_
        | refine ax_q (q_loadb_ptr rfl rfl rfl rfl rfl) ?_
        | refine ax_q (q_field_ptr rfl rfl rfl rfl rfl rfl) ?_
        | refine ax_q (q_booleq rfl rfl rfl) ?_
        | refine ax_box rfl rfl ?_
        | refine ax_alloc rfl rfl rfl ?_)
      refine ax_slot 9 (.bool false) rfl (AEq.of_eq (by rw [beq_eq_false_iff_ne.2 h])) ?_
      repeat (first
        | refine ax_post_code ?_
        | refine ax_seq ?_
        | refine ax_region rfl ?_
        | refine ax_cond_false rfl ?_
        | refine ax_skip ?_
        | refine ax_q (q_loadb_ptr rfl rfl rfl rfl rfl) ?_
        | refine ax_q (q_field_ptr rfl rfl rfl rfl rfl rfl) ?_)
      refine ax_callv rfl rfl rfl h0 ?_
      repeat (first
        | refine ax_ops_nil ?_
        | refine ax_post_code ?_
        | refine ax_q (q_geq rfl rfl) ?_)
      refine ax_cond_dec rfl (fun h5 => absurd (Int.ofNat_le.1 (cmpZ_le.1 h5)) hc) (fun h5 => ?_)
      repeat (first
        | refine ax_post_code ?_
        | refine ax_seq ?_
        | refine ax_skip ?_)
      refine ax_regiond (by kernel_rfl) ?_
      refine ax_any_run (fuel := 1) [0, 1, 2, 3, 4, 5, 6, 7] [(2, .ptr 0 0 0), (3, .ptr 1 0 0), (4, .ptr 2 0 0)] ⟨rfl, rfl, rfl, trivial⟩ (by kernel_rfl) (by decide) rfl rfl ?_
      refine px_q rfl rfl (q_field_ptr rfl rfl rfl rfl rfl rfl) ?_
      refine px_q rfl rfl (q_loadb_ptr rfl rfl rfl rfl rfl) ?_
      refine px_q rfl rfl (q_field_ptr rfl rfl rfl rfl rfl rfl) ?_
      refine px_q rfl rfl (q_loadb_ptr rfl rfl rfl rfl rfl) ?_
      refine px_q rfl rfl (q_field_ptr rfl rfl rfl rfl rfl rfl) ?_
      refine px_q rfl rfl (q_loadb_ptr rfl rfl rfl rfl rfl) ?_
      refine px_v rfl rfl rfl rfl rfl h1 ?_
      refine px_v rfl rfl rfl rfl rfl h2 ?_
      refine px_done ?_
      refine ax_any_step (is := [8]) (by kernel_rfl) (by simp) rfl ⟨fun o ho => ?_, trivial⟩
      all_goals (cases ho)
      skip
      unfold intA
      refine ax_storeagg (c' := .box [.bool (decide (x + y < 0)), natA (x + y).natAbs]) rfl rfl rfl rfl rfl Nat.zero_lt_one rfl rfl (fun i' j' hi' hj' => ?_) ?_
      · rw [if_pos (Nat.lt_one_iff.1 hi')]; rfl
      repeat (first
        | refine ax_ops_nil ?_
        | refine ax_post_any ?_)
      refine ax_any_done (by kernel_rfl) ?_
      repeat (first
        | refine ax_post_code ?_
        | refine ax_return ?_)
      exact ax_ret hR rfl rfl
theorem len_neg {x : Int} {k : Nat} (h : (natL x.natAbs).length ≤ k) : (natL (-x).natAbs).length ≤ k := by rw [Int.natAbs_neg]; exact h
theorem isub_ok (x y : Int) (hx : (natL x.natAbs).length ≤ 1000000) (hy : (natL y.natAbs).length ≤ 1000000) : VCall Tryz.prog 122 [intA x, intA y] (intA (x - y)) := by
  have h1 := iopp_ok y
  have h2 := iadd_ok x (-y) hx (len_neg hy)
  rw [show x + -y = x - y from rfl] at h2
  refine ACall.value0 (acall_of_ax (P := Tryz.prog) (fn := Tryz.f122) rfl rfl (by kernel_rfl) rfl (fun c hR hfix => ?_)) (fix := fun _ => False) (fun _ h => h) rfl rfl
  repeat (first
    | refine ax_ops_nil ?_
    | refine ax_post_code ?_
    | refine ax_seq ?_
    | refine ax_region rfl ?_
    | refine ax_box rfl rfl ?_
    | refine ax_alloc rfl rfl rfl ?_)
  refine ax_regiond (by kernel_rfl) ?_
  refine ax_any_run (fuel := 1) [0, 1, 2, 3] [(2, .ptr 0 0 0), (3, .ptr 1 0 0), (4, .ptr 2 0 0)] ⟨rfl, rfl, rfl, trivial⟩ (by kernel_rfl) (by decide) rfl rfl ?_
  refine px_q rfl rfl (q_loadpart_ptr rfl rfl rfl rfl rfl rfl rfl (by first | exact Nat.zero_lt_one | assumption | omega)) ?_
  refine px_q rfl rfl (q_loadpart_ptr rfl rfl rfl rfl rfl rfl rfl (by first | exact Nat.zero_lt_one | assumption | omega)) ?_
  refine px_v rfl rfl rfl rfl rfl h1 ?_
  refine px_v rfl rfl rfl rfl rfl h2 ?_
  refine px_done ?_
  refine ax_any_step (is := [4]) (by kernel_rfl) (by simp) rfl ⟨fun o ho => ?_, trivial⟩
  all_goals (cases ho)
  skip
  unfold intA
  refine ax_storeagg (c' := .box [.bool (decide (x - y < 0)), natA (x - y).natAbs]) rfl rfl rfl rfl rfl Nat.zero_lt_one rfl rfl (fun i' j' hi' hj' => ?_) ?_
  · rw [if_pos (Nat.lt_one_iff.1 hi')]; rfl
  repeat (first
    | refine ax_ops_nil ?_
    | refine ax_post_any ?_)
  refine ax_any_done (by kernel_rfl) ?_
  repeat (first
    | refine ax_post_code ?_
    | refine ax_return ?_)
  exact ax_ret hR rfl rfl
theorem icmp_ok (x y : Int) (hx : (natL x.natAbs).length ≤ 1000000) (hy : (natL y.natAbs).length ≤ 1000000) : VCall Tryz.prog 96 [intA x, intA y] (.int .i64 (sgn (x - y))) := by
  have h1 := isub_ok x y hx hy
  have h2 := isign_ok (x - y)
  refine ACall.value0 (acall_of_ax (P := Tryz.prog) (fn := Tryz.f96) rfl rfl (by kernel_rfl) rfl (fun c hR hfix => ?_)) (fix := fun _ => False) (fun _ h => h) rfl rfl
  repeat (first
    | refine ax_q (q_assign rfl) ?_
    | refine ax_ops_nil ?_
    | refine ax_post_code ?_
    | refine ax_seq ?_
    | refine ax_region rfl ?_
    | refine ax_q (q_loadpart_ptr rfl rfl rfl rfl rfl rfl rfl (by first | exact Nat.zero_lt_one | assumption | omega)) ?_
    | refine ax_box rfl rfl ?_)
  refine ax_callv rfl rfl rfl h1 ?_
  skip
  refine ax_callv rfl rfl rfl h2 ?_
  repeat (first
    | refine ax_q (q_assign rfl) ?_
    | refine ax_ops_nil ?_
    | refine ax_post_code ?_
    | refine ax_return ?_)
  exact ax_ret hR rfl rfl
theorem whole_ok (n : Int) (h : -9223372036854775808 ≤ n ∧ n < 9223372036854775808) : VCall Tryz.prog 88 [.int .i64 n] (intA n) := by
  refine ACall.value0 (acall_of_ax (P := Tryz.prog) (fn := Tryz.f88) rfl rfl (by kernel_rfl) rfl (fun c hR hfix => ?_)) (fix := fun _ => False) (fun _ h => h) rfl rfl
  rcases Int.lt_or_le n 0 with hn | hn
  · have h1 := small_ok n.natAbs (by omega)
    repeat (first
      | refine ax_q (q_move rfl) ?_
      | refine ax_ops_nil ?_
      | refine ax_post_code ?_
      | refine ax_seq ?_
      | refine ax_region rfl ?_
      | refine ax_q (q_lss rfl rfl) ?_
      | refine ax_alloc rfl rfl rfl ?_)
    refine ax_cond_dec rfl (fun _ => ?_) (fun h0 => absurd hn h0)
    repeat (first
      | refine ax_q (q_move rfl) ?_
      | refine ax_seq ?_
      | refine ax_region rfl ?_
      | refine ax_q (q_add rfl rfl (by omega)) ?_)
    refine ax_q (q_neg rfl (by omega)) ?_
    refine ax_slot_ops 7 (.int .i64 ((n.natAbs - 1 : Nat) : Int)) rfl (AEq.of_eq (congrArg _ (by omega))) ?_
    refine ax_q (q_uconv (m := n.natAbs - 1) rfl rfl rfl uk64 (by omega)) ?_
    refine ax_q (q_uadd (m := n.natAbs - 1) (n := 1) rfl rfl uk64 (by omega)) ?_
    refine ax_slot_ops 9 (.int .u64 ((n.natAbs : Nat) : Int)) rfl (AEq.of_eq (congrArg _ (by omega))) ?_
    skip
    refine ax_callv rfl rfl rfl h1 ?_
    repeat (refine ax_q (q_build rfl rfl rfl rfl rfl rfl) ?_)
    refine ax_storeagg (c' := .box [.bool true, natA n.natAbs]) rfl rfl rfl rfl rfl Nat.zero_lt_one rfl rfl (fun i' j' hi' hj' => ?_) ?_
    · rw [if_pos (Nat.lt_one_iff.1 hi')]; rfl
    repeat (first
      | refine ax_ops_nil ?_
      | refine ax_post_code ?_
      | refine ax_return ?_
      | refine ax_ret_code ?_)
    refine ax_ret hR rfl ?_
    unfold intA
    rw [show decide (n < 0) = true from decide_eq_true hn]
    rfl
  · have h1 := small_ok n.natAbs (by omega)
    repeat (first
      | refine ax_q (q_move rfl) ?_
      | refine ax_ops_nil ?_
      | refine ax_post_code ?_
      | refine ax_seq ?_
      | refine ax_region rfl ?_
      | refine ax_q (q_lss rfl rfl) ?_
      | refine ax_alloc rfl rfl rfl ?_)
    refine ax_cond_dec rfl (fun h0 => absurd h0 (by omega)) (fun h0 => ?_)
    repeat (first
      | refine ax_q (q_move rfl) ?_
      | refine ax_post_code ?_
      | refine ax_seq ?_
      | refine ax_region rfl ?_
      | refine ax_skip ?_)
    refine ax_slot_ops 12 (.int .i64 ((n.natAbs : Nat) : Int)) rfl (AEq.of_eq (congrArg _ (by omega))) ?_
    refine ax_q (q_uconv (m := n.natAbs) rfl rfl rfl uk64 (by omega)) ?_
    skip
    refine ax_callv rfl rfl rfl h1 ?_
    repeat (refine ax_q (q_build rfl rfl rfl rfl rfl rfl) ?_)
    refine ax_storeagg (c' := .box [.bool false, natA n.natAbs]) rfl rfl rfl rfl rfl Nat.zero_lt_one rfl rfl (fun i' j' hi' hj' => ?_) ?_
    · rw [if_pos (Nat.lt_one_iff.1 hi')]; rfl
    repeat (first
      | refine ax_ops_nil ?_
      | refine ax_post_code ?_
      | refine ax_return ?_)
    refine ax_ret hR rfl ?_
    unfold intA
    rw [show decide (n < 0) = false from decide_eq_false (by omega)]
    rfl
end Go.Proofs.YtbeegiiiochblaaGreatDoor

namespace Go.Proofs.YtbeegiiiochblaaGreatDoor
open Go.Ax Go.Ax.Bg Go.Ax.Rt Go.RowKit
attribute [local irreducible] Ax Post QOp ACall PureOp
set_option maxRecDepth 100000
set_option maxHeartbeats 4000000

def qA (q : Rat) : AV := .agg [.bool (decide (q.num < 0)), natA q.num.natAbs, natA q.den]
theorem int_nat (n : Nat) : intA (n : Int) = .agg [.bool false, natA n] := by
  unfold intA
  rw [show decide ((n : Int) < 0) = false from decide_eq_false (by omega), Int.natAbs_natCast]
theorem bne_iff {x y z : Int} (h : z < 0 ↔ x ≠ 0 ∧ ((x < 0 ∧ ¬ y < 0) ∨ (¬ x < 0 ∧ y < 0))) (hz : x = 0 → z = 0) : sgnI (!(decide (x < 0) == decide (y < 0))) z.natAbs = z := by
  unfold sgnI
  by_cases h1 : x < 0 <;> by_cases h2 : y < 0
  · simp [h1, h2]; have : ¬ z < 0 := fun q => by have := h.1 q; omega
    omega
  · simp [h1, h2]; have : z < 0 := h.2 (by omega)
    omega
  · simp [h1, h2]
    rcases Int.lt_or_le z 0 with q | q
    · omega
    · have : x = 0 := by
        rcases Int.lt_trichotomy x 0 with w | w | w
        · exact absurd w h1
        · exact w
        · exact absurd (h.2 ⟨by omega, .inr ⟨h1, h2⟩⟩) (by omega)
      have := hz this
      omega
  · simp [h1, h2]; have : ¬ z < 0 := fun q => by have := h.1 q; omega
    omega
theorem gcd_len {a b k : Nat} (ha : (natL a).length ≤ k) (hb : (natL b).length ≤ k) : (natL (Nat.gcd a b)).length ≤ k := by
  rcases Nat.eq_zero_or_pos a with h | h
  · subst h; rw [Nat.gcd_zero_left]; exact hb
  · exact natL_le_len (Nat.gcd_le_left b h) ha
theorem frac_ok (n d : Int) (hd : d ≠ 0) (hn : (natL n.natAbs).length ≤ 1000000) (hdl : (natL d.natAbs).length ≤ 1000000) : VCall Tryz.prog 87 [intA n, intA d] (qA (Rat.divInt n d)) := by
  obtain ⟨e1, e2, e3⟩ := frac_parts n d hd
  have hg := gcd_ok n.natAbs d.natAbs hn hdl
  have hgl := gcd_len hn hdl
  have hgp : 0 < Nat.gcd n.natAbs d.natAbs := Nat.gcd_pos_of_pos_right _ (by omega)
  have h1 := div_ok n.natAbs _ hgp hn hgl
  have h2 := div_ok d.natAbs _ hgp hdl hgl
  have h3 := made_ok (!(decide (n < 0) == decide (d < 0))) (Rat.divInt n d).num.natAbs
  rw [bne_iff e3 (fun h0 => by rw [h0, Rat.zero_divInt]; rfl)] at h3
  rw [← e1] at h1
  rw [← e2] at h2
  refine ACall.value0 (acall_of_ax (P := Tryz.prog) (fn := Tryz.f87) rfl rfl (by kernel_rfl) rfl (fun c hR hfix => ?_)) (fix := fun _ => False) (fun _ h => h) rfl rfl
  repeat (first
    | refine ax_ops_nil ?_
    | refine ax_post_code ?_
    | refine ax_seq ?_
    | refine ax_region rfl ?_
    | refine ax_q (q_loadb_ptr rfl rfl rfl rfl rfl) ?_
    | refine ax_q (q_field_ptr rfl rfl rfl rfl rfl rfl) ?_
    | refine ax_box rfl rfl ?_
    | refine ax_alloc rfl rfl rfl ?_)
  refine ax_callv rfl rfl rfl hg ?_
  repeat (first
    | refine ax_q (q_move rfl) ?_
    | refine ax_q (q_assign rfl) ?_
    | refine ax_ops_nil ?_
    | refine ax_post_code ?_
    | refine ax_seq ?_
    | refine ax_region rfl ?_
    | refine ax_q (q_loadb_ptr rfl rfl rfl rfl rfl) ?_
    | refine ax_q (q_field_ptr rfl rfl rfl rfl rfl rfl) ?_)
  refine ax_callv rfl rfl rfl h1 ?_
  repeat (first
    | refine ax_q (q_move rfl) ?_
    | refine ax_q (q_assign rfl) ?_
    | refine ax_ops_nil ?_
    | refine ax_post_code ?_
    | refine ax_seq ?_
    | refine ax_region rfl ?_
    | refine ax_q (q_loadb_ptr rfl rfl rfl rfl rfl) ?_
    | refine ax_q (q_extract rfl rfl) ?_
    | refine ax_q (q_field_ptr rfl rfl rfl rfl rfl rfl) ?_)
  refine ax_callv rfl rfl rfl h2 ?_
  repeat (first
    | refine ax_q (q_move rfl) ?_
    | refine ax_q (q_assign rfl) ?_
    | refine ax_ops_nil ?_
    | refine ax_post_code ?_
    | refine ax_seq ?_
    | refine ax_region rfl ?_
    | refine ax_q (q_loadb_ptr rfl rfl rfl rfl rfl) ?_
    | refine ax_q (q_extract rfl rfl) ?_
    | refine ax_q (q_field_ptr rfl rfl rfl rfl rfl rfl) ?_
    | refine ax_q (q_boolneq rfl rfl rfl) ?_)
  refine ax_callv rfl rfl rfl h3 ?_
  repeat (first
    | refine ax_q (q_move rfl) ?_
    | refine ax_q (q_build rfl rfl rfl rfl rfl rfl) ?_)
  refine ax_storeagg (c' := .box [.bool (decide ((Rat.divInt n d).num < 0)), natA (Rat.divInt n d).num.natAbs, natA (Rat.divInt n d).den]) rfl rfl rfl rfl rfl Nat.zero_lt_one rfl rfl (fun i' j' hi' hj' => ?_) ?_
  · rw [if_pos (Nat.lt_one_iff.1 hi')]; rfl
  repeat (first
    | refine ax_ops_nil ?_
    | refine ax_post_code ?_
    | refine ax_return ?_)
  exact ax_ret hR rfl rfl
def Sz (k : Nat) (q : Rat) : Prop := (natL q.num.natAbs).length ≤ k ∧ (natL q.den).length ≤ k
theorem imul_len {x y : Int} {k : Nat} (hx : (natL x.natAbs).length ≤ k) (hy : (natL y.natAbs).length ≤ k) : (natL (x * y).natAbs).length ≤ k + k := by
  rw [Int.natAbs_mul]; exact len_mul hx hy
theorem iadd_len {x y : Int} {k : Nat} (hx : (natL x.natAbs).length ≤ k) (hy : (natL y.natAbs).length ≤ k) : (natL (x + y).natAbs).length ≤ k + 1 :=
  natL_le_len (Int.natAbs_add_le x y) (len_add hx hy)
theorem den_ne (q : Rat) : (q.den : Int) ≠ 0 := by have := q.den_nz; omega
theorem qadd_ok (p q : Rat) (hp : Sz 100000 p) (hq : Sz 100000 q) : VCall Tryz.prog 56 [qA p, qA q] (qA (p + q)) := by
  have l1 : (natL (q.den : Int).natAbs).length ≤ 100000 := hq.2
  have l2 : (natL (p.den : Int).natAbs).length ≤ 100000 := hp.2
  have h1 := imul_ok p.num q.den (by have := hp.1; omega) (by omega)
  have h2 := imul_ok q.num p.den (by have := hq.1; omega) (by omega)
  have m1 := imul_len hp.1 l1
  have m2 := imul_len hq.1 l2
  have h3 := iadd_ok (p.num * q.den) (q.num * p.den) (by omega) (by omega)
  have h4 := mul_ok p.den q.den (by have := hp.2; omega) (by have := hq.2; omega)
  have m3 := iadd_len m1 m2
  have m4 := len_mul hp.2 hq.2
  have h5 := frac_ok (p.num * q.den + q.num * p.den) ((p.den * q.den : Nat) : Int) (by have := Nat.mul_ne_zero p.den_nz q.den_nz; omega) (by omega) (by rw [Int.natAbs_natCast]; omega)
  rw [int_nat, add_frac] at h5
  rw [int_nat] at h1 h2
  refine ACall.value0 (acall_of_ax (P := Tryz.prog) (fn := Tryz.f56) rfl rfl (by kernel_rfl) rfl (fun c hR hfix => ?_)) (fix := fun _ => False) (fun _ h => h) rfl rfl
  repeat (first
    | refine ax_ops_nil ?_
    | refine ax_post_code ?_
    | refine ax_seq ?_
    | refine ax_region rfl ?_
    | refine ax_box rfl rfl ?_
    | refine ax_alloc rfl rfl rfl ?_)
  refine ax_regiond (by kernel_rfl) ?_
  refine ax_any_run (fuel := 1) [0, 1, 2, 3, 4, 5, 6, 7, 8, 9, 10, 11, 12, 13, 14, 15, 16, 17, 18, 19] [(2, .ptr 0 0 0), (3, .ptr 1 0 0), (4, .ptr 2 0 0)] ⟨rfl, rfl, rfl, trivial⟩ (by kernel_rfl) (by decide) rfl rfl ?_
  refine px_q rfl rfl (q_field_ptr rfl rfl rfl rfl rfl rfl) ?_
  refine px_q rfl rfl (q_loadpart_ptr rfl rfl rfl rfl rfl rfl rfl (by first | exact Nat.zero_lt_one | assumption | omega)) ?_
  refine px_q rfl rfl (q_field_ptr rfl rfl rfl rfl rfl rfl) ?_
  refine px_q rfl rfl (q_loadb_ptr rfl rfl rfl rfl rfl) ?_
  refine px_q rfl rfl (q_build rfl rfl rfl rfl rfl rfl) ?_
  refine px_v rfl rfl rfl rfl rfl h1 ?_
  refine px_q rfl rfl (q_field_ptr rfl rfl rfl rfl rfl rfl) ?_
  refine px_q rfl rfl (q_loadpart_ptr rfl rfl rfl rfl rfl rfl rfl (by first | exact Nat.zero_lt_one | assumption | omega)) ?_
  refine px_q rfl rfl (q_field_ptr rfl rfl rfl rfl rfl rfl) ?_
  refine px_q rfl rfl (q_loadb_ptr rfl rfl rfl rfl rfl) ?_
  refine px_q rfl rfl (q_build rfl rfl rfl rfl rfl rfl) ?_
  refine px_v rfl rfl rfl rfl rfl h2 ?_
  refine px_v rfl rfl rfl rfl rfl h3 ?_
  refine px_q rfl rfl (q_field_ptr rfl rfl rfl rfl rfl rfl) ?_
  refine px_q rfl rfl (q_loadb_ptr rfl rfl rfl rfl rfl) ?_
  refine px_q rfl rfl (q_field_ptr rfl rfl rfl rfl rfl rfl) ?_
  refine px_q rfl rfl (q_loadb_ptr rfl rfl rfl rfl rfl) ?_
  refine px_v rfl rfl rfl rfl rfl h4 ?_
  refine px_q rfl rfl (q_build rfl rfl rfl rfl rfl rfl) ?_
  refine px_v rfl rfl rfl rfl rfl h5 ?_
  refine px_done ?_
  refine ax_any_step (is := [20]) (by kernel_rfl) (by simp) rfl ⟨fun o ho => ?_, trivial⟩
  all_goals (cases ho)
  skip
  unfold qA
  refine ax_storeagg (c' := .box [.bool (decide ((p + q).num < 0)), natA (p + q).num.natAbs, natA (p + q).den]) rfl rfl rfl rfl rfl Nat.zero_lt_one rfl rfl (fun i' j' hi' hj' => ?_) ?_
  · rw [if_pos (Nat.lt_one_iff.1 hi')]; rfl
  repeat (first
    | refine ax_ops_nil ?_
    | refine ax_post_any ?_)
  refine ax_any_done (by kernel_rfl) ?_
  repeat (first
    | refine ax_post_code ?_
    | refine ax_return ?_)
  exact ax_ret hR rfl rfl
theorem qmul_ok (p q : Rat) (hp : Sz 100000 p) (hq : Sz 100000 q) : VCall Tryz.prog 57 [qA p, qA q] (qA (p * q)) := by
  have h1 := imul_ok p.num q.num (by have := hp.1; omega) (by have := hq.1; omega)
  have m1 := imul_len hp.1 hq.1
  have h4 := mul_ok p.den q.den (by have := hp.2; omega) (by have := hq.2; omega)
  have m4 := len_mul hp.2 hq.2
  have h5 := frac_ok (p.num * q.num) ((p.den * q.den : Nat) : Int) (by have := Nat.mul_ne_zero p.den_nz q.den_nz; omega) (by omega) (by rw [Int.natAbs_natCast]; omega)
  rw [int_nat, mul_frac] at h5
  refine ACall.value0 (acall_of_ax (P := Tryz.prog) (fn := Tryz.f57) rfl rfl (by kernel_rfl) rfl (fun c hR hfix => ?_)) (fix := fun _ => False) (fun _ h => h) rfl rfl
  repeat (first
    | refine ax_ops_nil ?_
    | refine ax_post_code ?_
    | refine ax_seq ?_
    | refine ax_region rfl ?_
    | refine ax_box rfl rfl ?_
    | refine ax_alloc rfl rfl rfl ?_)
  refine ax_regiond (by kernel_rfl) ?_
  refine ax_any_run (fuel := 1) [0, 1, 2, 3, 4, 5, 6, 7, 8, 9, 10, 11] [(2, .ptr 0 0 0), (3, .ptr 1 0 0), (4, .ptr 2 0 0)] ⟨rfl, rfl, rfl, trivial⟩ (by kernel_rfl) (by decide) rfl rfl ?_
  refine px_q rfl rfl (q_field_ptr rfl rfl rfl rfl rfl rfl) ?_
  refine px_q rfl rfl (q_loadpart_ptr rfl rfl rfl rfl rfl rfl rfl (by first | exact Nat.zero_lt_one | assumption | omega)) ?_
  refine px_q rfl rfl (q_field_ptr rfl rfl rfl rfl rfl rfl) ?_
  refine px_q rfl rfl (q_loadpart_ptr rfl rfl rfl rfl rfl rfl rfl (by first | exact Nat.zero_lt_one | assumption | omega)) ?_
  refine px_v rfl rfl rfl rfl rfl h1 ?_
  refine px_q rfl rfl (q_field_ptr rfl rfl rfl rfl rfl rfl) ?_
  refine px_q rfl rfl (q_loadb_ptr rfl rfl rfl rfl rfl) ?_
  refine px_q rfl rfl (q_field_ptr rfl rfl rfl rfl rfl rfl) ?_
  refine px_q rfl rfl (q_loadb_ptr rfl rfl rfl rfl rfl) ?_
  refine px_v rfl rfl rfl rfl rfl h4 ?_
  refine px_q rfl rfl (q_build rfl rfl rfl rfl rfl rfl) ?_
  refine px_v rfl rfl rfl rfl rfl h5 ?_
  refine px_done ?_
  refine ax_any_step (is := [12]) (by kernel_rfl) (by simp) rfl ⟨fun o ho => ?_, trivial⟩
  all_goals (cases ho)
  skip
  unfold qA
  refine ax_storeagg (c' := .box [.bool (decide ((p * q).num < 0)), natA (p * q).num.natAbs, natA (p * q).den]) rfl rfl rfl rfl rfl Nat.zero_lt_one rfl rfl (fun i' j' hi' hj' => ?_) ?_
  · rw [if_pos (Nat.lt_one_iff.1 hi')]; rfl
  repeat (first
    | refine ax_ops_nil ?_
    | refine ax_post_any ?_)
  refine ax_any_done (by kernel_rfl) ?_
  repeat (first
    | refine ax_post_code ?_
    | refine ax_return ?_)
  exact ax_ret hR rfl rfl
theorem qdiv_ok (p q : Rat) (hp : Sz 100000 p) (hq : Sz 100000 q) (h0 : q ≠ 0) : VCall Tryz.prog 59 [qA p, qA q] (qA (p / q)) := by
  have l1 : (natL (q.den : Int).natAbs).length ≤ 100000 := hq.2
  have l2 : (natL (p.den : Int).natAbs).length ≤ 100000 := hp.2
  have h1 := imul_ok p.num q.den (by have := hp.1; omega) (by omega)
  have h2 := imul_ok q.num p.den (by have := hq.1; omega) (by omega)
  have m1 := imul_len hp.1 l1
  have m2 := imul_len hq.1 l2
  have hn : q.num ≠ 0 := fun h => h0 (Rat.num_eq_zero.1 h)
  have h5 := frac_ok (p.num * q.den) (q.num * p.den) (Int.mul_ne_zero hn (den_ne p)) (by omega) (by omega)
  rw [div_frac p q h0] at h5
  rw [int_nat] at h1 h2
  refine ACall.value0 (acall_of_ax (P := Tryz.prog) (fn := Tryz.f59) rfl rfl (by kernel_rfl) rfl (fun c hR hfix => ?_)) (fix := fun _ => False) (fun _ h => h) rfl rfl
  repeat (first
    | refine ax_ops_nil ?_
    | refine ax_post_code ?_
    | refine ax_seq ?_
    | refine ax_region rfl ?_
    | refine ax_box rfl rfl ?_
    | refine ax_alloc rfl rfl rfl ?_)
  refine ax_regiond (by kernel_rfl) ?_
  refine ax_any_run (fuel := 1) [0, 1, 2, 3, 4, 5, 6, 7, 8, 9, 10, 11, 12] [(2, .ptr 0 0 0), (3, .ptr 1 0 0), (4, .ptr 2 0 0)] ⟨rfl, rfl, rfl, trivial⟩ (by kernel_rfl) (by decide) rfl rfl ?_
  refine px_q rfl rfl (q_field_ptr rfl rfl rfl rfl rfl rfl) ?_
  refine px_q rfl rfl (q_loadpart_ptr rfl rfl rfl rfl rfl rfl rfl (by first | exact Nat.zero_lt_one | assumption | omega)) ?_
  refine px_q rfl rfl (q_field_ptr rfl rfl rfl rfl rfl rfl) ?_
  refine px_q rfl rfl (q_loadb_ptr rfl rfl rfl rfl rfl) ?_
  refine px_q rfl rfl (q_build rfl rfl rfl rfl rfl rfl) ?_
  refine px_v rfl rfl rfl rfl rfl h1 ?_
  refine px_q rfl rfl (q_field_ptr rfl rfl rfl rfl rfl rfl) ?_
  refine px_q rfl rfl (q_loadpart_ptr rfl rfl rfl rfl rfl rfl rfl (by first | exact Nat.zero_lt_one | assumption | omega)) ?_
  refine px_q rfl rfl (q_field_ptr rfl rfl rfl rfl rfl rfl) ?_
  refine px_q rfl rfl (q_loadb_ptr rfl rfl rfl rfl rfl) ?_
  refine px_q rfl rfl (q_build rfl rfl rfl rfl rfl rfl) ?_
  refine px_v rfl rfl rfl rfl rfl h2 ?_
  refine px_v rfl rfl rfl rfl rfl h5 ?_
  refine px_done ?_
  refine ax_any_step (is := [13]) (by kernel_rfl) (by simp) rfl ⟨fun o ho => ?_, trivial⟩
  all_goals (cases ho)
  skip
  unfold qA
  refine ax_storeagg (c' := .box [.bool (decide ((p / q).num < 0)), natA (p / q).num.natAbs, natA (p / q).den]) rfl rfl rfl rfl rfl Nat.zero_lt_one rfl rfl (fun i' j' hi' hj' => ?_) ?_
  · rw [if_pos (Nat.lt_one_iff.1 hi')]; rfl
  repeat (first
    | refine ax_ops_nil ?_
    | refine ax_post_any ?_)
  refine ax_any_done (by kernel_rfl) ?_
  repeat (first
    | refine ax_post_code ?_
    | refine ax_return ?_)
  exact ax_ret hR rfl rfl
theorem qcmp_ok (p q : Rat) (hp : Sz 100000 p) (hq : Sz 100000 q) : VCall Tryz.prog 61 [qA p, qA q] (.int .i64 (cmpQ p q)) := by
  have l1 : (natL (q.den : Int).natAbs).length ≤ 100000 := hq.2
  have l2 : (natL (p.den : Int).natAbs).length ≤ 100000 := hp.2
  have h1 := imul_ok p.num q.den (by have := hp.1; omega) (by omega)
  have h2 := imul_ok q.num p.den (by have := hq.1; omega) (by omega)
  have m1 := imul_len hp.1 l1
  have m2 := imul_len hq.1 l2
  have h5 := icmp_ok (p.num * q.den) (q.num * p.den) (by omega) (by omega)
  rw [sgn_cmp p q] at h5
  rw [int_nat] at h1 h2
  refine ACall.value0 (acall_of_ax (P := Tryz.prog) (fn := Tryz.f61) rfl rfl (by kernel_rfl) rfl (fun c hR hfix => ?_)) (fix := fun _ => False) (fun _ h => h) rfl rfl
  repeat (first
    | refine ax_q (q_assign rfl) ?_
    | refine ax_ops_nil ?_
    | refine ax_post_code ?_
    | refine ax_seq ?_
    | refine ax_region rfl ?_
    | refine ax_box rfl rfl ?_)
  refine ax_regiond (by kernel_rfl) ?_
  refine ax_any_run (fuel := 0) [0, 1, 2, 3, 4, 5, 6, 7, 8, 9, 10, 11, 12, 13] [(2, .ptr 0 0 0), (3, .ptr 1 0 0)] ⟨rfl, rfl, trivial⟩ (by kernel_rfl) (by decide) rfl rfl ?_
  refine px_q rfl rfl (q_field_ptr rfl rfl rfl rfl rfl rfl) ?_
  refine px_q rfl rfl (q_loadpart_ptr rfl rfl rfl rfl rfl rfl rfl (by first | exact Nat.zero_lt_one | assumption | omega)) ?_
  refine px_q rfl rfl (q_field_ptr rfl rfl rfl rfl rfl rfl) ?_
  refine px_q rfl rfl (q_loadb_ptr rfl rfl rfl rfl rfl) ?_
  refine px_q rfl rfl (q_build rfl rfl rfl rfl rfl rfl) ?_
  refine px_v rfl rfl rfl rfl rfl h1 ?_
  refine px_q rfl rfl (q_field_ptr rfl rfl rfl rfl rfl rfl) ?_
  refine px_q rfl rfl (q_loadpart_ptr rfl rfl rfl rfl rfl rfl rfl (by first | exact Nat.zero_lt_one | assumption | omega)) ?_
  refine px_q rfl rfl (q_field_ptr rfl rfl rfl rfl rfl rfl) ?_
  refine px_q rfl rfl (q_loadb_ptr rfl rfl rfl rfl rfl) ?_
  refine px_q rfl rfl (q_build rfl rfl rfl rfl rfl rfl) ?_
  refine px_v rfl rfl rfl rfl rfl h2 ?_
  refine px_v rfl rfl rfl rfl rfl h5 ?_
  refine px_q rfl rfl (q_assign rfl) ?_
  refine px_done ?_
  refine ax_any_done (by kernel_rfl) ?_
  repeat (first
    | refine ax_post_code ?_
    | refine ax_return ?_)
  exact ax_ret hR rfl rfl
theorem qsign_ok (p : Rat) : VCall Tryz.prog 62 [qA p] (.int .i64 (sgn p.num)) := by
  have h1 := isign_ok p.num
  refine ACall.value0 (acall_of_ax (P := Tryz.prog) (fn := Tryz.f62) rfl rfl (by kernel_rfl) rfl (fun c hR hfix => ?_)) (fix := fun _ => False) (fun _ h => h) rfl rfl
  repeat (first
    | refine ax_q (q_assign rfl) ?_
    | refine ax_ops_nil ?_
    | refine ax_post_code ?_
    | refine ax_seq ?_
    | refine ax_region rfl ?_
    | refine ax_q (q_field_ptr rfl rfl rfl rfl rfl rfl) ?_
    | refine ax_q (q_loadpart_ptr rfl rfl rfl rfl rfl rfl rfl (by first | exact Nat.zero_lt_one | assumption | omega)) ?_
    | refine ax_box rfl rfl ?_)
  refine ax_callv rfl rfl rfl h1 ?_
  repeat (first
    | refine ax_q (q_assign rfl) ?_
    | refine ax_ops_nil ?_
    | refine ax_post_code ?_
    | refine ax_return ?_)
  exact ax_ret hR rfl rfl
theorem qopp_ok (p : Rat) : VCall Tryz.prog 64 [qA p] (qA (-p)) := by
  have h1 := iopp_ok p.num
  refine ACall.value0 (acall_of_ax (P := Tryz.prog) (fn := Tryz.f64) rfl rfl (by kernel_rfl) rfl (fun c hR hfix => ?_)) (fix := fun _ => False) (fun _ h => h) rfl rfl
  repeat (first
    | refine ax_ops_nil ?_
    | refine ax_post_code ?_
    | refine ax_seq ?_
    | refine ax_region rfl ?_
    | refine ax_box rfl rfl ?_
    | refine ax_alloc rfl rfl rfl ?_)
  refine ax_regiond (by kernel_rfl) ?_
  refine ax_any_run (fuel := 1) [0, 1, 2, 3, 4, 5] [(1, .ptr 0 0 0), (2, .ptr 1 0 0)] ⟨rfl, rfl, trivial⟩ (by kernel_rfl) (by decide) rfl rfl ?_
  refine px_q rfl rfl (q_field_ptr rfl rfl rfl rfl rfl rfl) ?_
  refine px_q rfl rfl (q_loadpart_ptr rfl rfl rfl rfl rfl rfl rfl (by first | exact Nat.zero_lt_one | assumption | omega)) ?_
  refine px_v rfl rfl rfl rfl rfl h1 ?_
  refine px_q rfl rfl (q_field_ptr rfl rfl rfl rfl rfl rfl) ?_
  refine px_q rfl rfl (q_loadb_ptr rfl rfl rfl rfl rfl) ?_
  refine px_q rfl rfl (q_build rfl rfl rfl rfl rfl rfl) ?_
  refine px_done ?_
  refine ax_any_step (is := [6]) (by kernel_rfl) (by simp) rfl ⟨fun o ho => ?_, trivial⟩
  all_goals (cases ho)
  skip
  refine ax_storeagg (c' := .box [.bool (decide ((-p).num < 0)), natA (-p).num.natAbs, natA (-p).den]) rfl rfl rfl rfl rfl Nat.zero_lt_one rfl rfl (fun i' j' hi' hj' => ?_) ?_
  · rw [if_pos (Nat.lt_one_iff.1 hi')]; rfl
  repeat (first
    | refine ax_ops_nil ?_
    | refine ax_post_any ?_)
  refine ax_any_done (by kernel_rfl) ?_
  repeat (first
    | refine ax_post_code ?_
    | refine ax_return ?_)
  exact ax_ret hR rfl rfl
theorem sz_neg {k : Nat} {q : Rat} (h : Sz k q) : Sz k (-q) := by
  refine ⟨?_, h.2⟩
  show (natL (-q.num).natAbs).length ≤ k
  rw [Int.natAbs_neg]; exact h.1
theorem qsub_ok (p q : Rat) (hp : Sz 100000 p) (hq : Sz 100000 q) : VCall Tryz.prog 58 [qA p, qA q] (qA (p - q)) := by
  have h1 := qopp_ok q
  have h2 := qadd_ok p (-q) hp (sz_neg hq)
  rw [← Rat.sub_eq_add_neg] at h2
  refine ACall.value0 (acall_of_ax (P := Tryz.prog) (fn := Tryz.f58) rfl rfl (by kernel_rfl) rfl (fun c hR hfix => ?_)) (fix := fun _ => False) (fun _ h => h) rfl rfl
  repeat (first
    | refine ax_ops_nil ?_
    | refine ax_post_code ?_
    | refine ax_seq ?_
    | refine ax_region rfl ?_
    | refine ax_box rfl rfl ?_
    | refine ax_alloc rfl rfl rfl ?_)
  refine ax_regiond (by kernel_rfl) ?_
  refine ax_any_run (fuel := 1) [0, 1, 2, 3] [(2, .ptr 0 0 0), (3, .ptr 1 0 0), (4, .ptr 2 0 0)] ⟨rfl, rfl, rfl, trivial⟩ (by kernel_rfl) (by decide) rfl rfl ?_
  refine px_q rfl rfl (q_loadpart_ptr rfl rfl rfl rfl rfl rfl rfl (by first | exact Nat.zero_lt_one | assumption | omega)) ?_
  refine px_q rfl rfl (q_loadpart_ptr rfl rfl rfl rfl rfl rfl rfl (by first | exact Nat.zero_lt_one | assumption | omega)) ?_
  refine px_v rfl rfl rfl rfl rfl h1 ?_
  refine px_v rfl rfl rfl rfl rfl h2 ?_
  refine px_done ?_
  refine ax_any_step (is := [4]) (by kernel_rfl) (by simp) rfl ⟨fun o ho => ?_, trivial⟩
  all_goals (cases ho)
  skip
  unfold qA
  refine ax_storeagg (c' := .box [.bool (decide ((p - q).num < 0)), natA (p - q).num.natAbs, natA (p - q).den]) rfl rfl rfl rfl rfl Nat.zero_lt_one rfl rfl (fun i' j' hi' hj' => ?_) ?_
  · rw [if_pos (Nat.lt_one_iff.1 hi')]; rfl
  repeat (first
    | refine ax_ops_nil ?_
    | refine ax_post_any ?_)
  refine ax_any_done (by kernel_rfl) ?_
  repeat (first
    | refine ax_post_code ?_
    | refine ax_return ?_)
  exact ax_ret hR rfl rfl
end Go.Proofs.YtbeegiiiochblaaGreatDoor

namespace Go.Proofs.YtbeegiiiochblaaGreatDoor
open Go.Ax Go.Ax.Bg Go.Ax.Rt Go.RowKit
attribute [local irreducible] Ax Post QOp ACall PureOp
set_option maxRecDepth 100000
set_option maxHeartbeats 4000000

open Go.Ax.Tb (cutF cutF_idx)
theorem natA_one : natA 1 = .ro (.ints .u32 [1]) 0 1 := by unfold natA; rw [natL_one]; rfl
theorem qA_int (z : Int) : qA (z : Rat) = .agg [.bool (decide (z < 0)), natA z.natAbs, natA 1] := rfl
theorem qof_ok (n : Int) (h : -9223372036854775808 ≤ n ∧ n < 9223372036854775808) : VCall Tryz.prog 70 [.int .i64 n] (qA (n : Rat)) := by
  have h1 := whole_ok n h
  refine ACall.value0 (acall_of_ax (P := Tryz.prog) (fn := Tryz.f70) rfl rfl (by kernel_rfl) rfl (fun c hR hfix => ?_)) (fix := fun _ => False) (fun _ h => h) rfl rfl
  repeat (first
    | refine ax_q (q_move rfl) ?_
    | refine ax_ops_nil ?_
    | refine ax_post_code ?_
    | refine ax_seq ?_
    | refine ax_region rfl ?_
    | refine ax_alloc rfl rfl rfl ?_)
  refine ax_callv rfl rfl rfl h1 ?_
  unfold intA
  repeat (first
    | refine ax_q (q_build rfl rfl rfl rfl rfl rfl) ?_
    | refine ax_buildSliceRo rfl rfl rfl rfl rfl rfl rfl rfl rfl rfl rfl ?_)
  refine ax_storeagg (c' := .box [.bool (decide (n < 0)), natA n.natAbs, .ro (.ints .u32 [1]) 0 1]) rfl rfl rfl rfl rfl Nat.zero_lt_one rfl rfl (fun i' j' hi' hj' => ?_) ?_
  · rw [if_pos (Nat.lt_one_iff.1 hi')]; rfl
  repeat (first
    | refine ax_ops_nil ?_
    | refine ax_post_code ?_
    | refine ax_return ?_)
  refine ax_ret hR rfl ?_
  rw [qA_int, natA_one]
  rfl
theorem floor1 {q : Rat} (h : q.num < 0) (h2 : 0 < q.num.natAbs % q.den) : sgnI true (q.num.natAbs / q.den + 1) = q.floor := by
  rw [floor_parts, if_pos ⟨h, h2⟩]; rfl
theorem floor2 {q : Rat} (h : q.num < 0) (h2 : ¬ 0 < q.num.natAbs % q.den) : sgnI true (q.num.natAbs / q.den) = q.floor := by
  rw [floor_parts, if_neg (fun h3 => h2 h3.2), if_pos h]; rfl
theorem floor3 {q : Rat} (h : ¬ q.num < 0) : sgnI false (q.num.natAbs / q.den) = q.floor := by
  rw [floor_parts, if_neg (fun h3 => h h3.1), if_neg h]; rfl
theorem qfloor_ok (q : Rat) (hq : Sz 100000 q) : VCall Tryz.prog 65 [qA q] (qA (q.floor : Rat)) := by
  have hd : 0 < q.den := Nat.pos_of_ne_zero q.den_nz
  have h1 := div_ok q.num.natAbs q.den hd (by have := hq.1; omega) (by have := hq.2; omega)
  have hl : (natL (q.num.natAbs / q.den)).length ≤ 100000 := natL_le_len (Nat.div_le_self _ _) hq.1
  have hp : 0 < (natL (q.num.natAbs % q.den)).length ↔ q.num.natAbs % q.den ≠ 0 := natL_pos_len
  by_cases hn : q.num < 0
  · by_cases hz : 0 < q.num.natAbs % q.den
    · have h2 := add_ok (q.num.natAbs / q.den) 1 (by omega) (by rw [natL_one]; simp)
      rw [natA_one] at h2
      have h3 := made_ok true (q.num.natAbs / q.den + 1)
      rw [floor1 hn hz] at h3
      refine ACall.value0 (acall_of_ax (P := Tryz.prog) (fn := Tryz.f65) rfl rfl (by kernel_rfl) rfl (fun c hR hfix => ?_)) (fix := fun _ => False) (fun _ h => h) rfl rfl
      rw [qA_int, natA_one] at hR
      unfold qA
      rw [decide_eq_true hn]
      repeat (first
        | refine ax_ops_nil ?_
        | refine ax_post_code ?_
        | refine ax_seq ?_
        | refine ax_region rfl ?_
        | refine ax_q (q_loadb_ptr rfl rfl rfl rfl rfl) ?_
        | refine ax_q (q_field_ptr rfl rfl rfl rfl rfl rfl) ?_
        | refine ax_box rfl rfl ?_
        | refine ax_alloc rfl rfl rfl ?_)
      refine ax_callv rfl rfl rfl h1 ?_
      repeat (first
        | refine ax_q (q_move rfl) ?_
        | refine ax_q (q_assign rfl) ?_
        | refine ax_ops_nil ?_
        | refine ax_post_code ?_
        | refine ax_seq ?_
        | refine ax_region rfl ?_
        | refine ax_guard rfl rfl ?_
        | refine ax_q (q_loadb_ptr rfl rfl rfl rfl rfl) ?_
        | refine ax_q (q_gtr rfl rfl) ?_
        | refine ax_q (q_pick rfl rfl) ?_
        | refine ax_q (q_extract rfl rfl) ?_
        | refine ax_q (q_len rfl rfl rfl) ?_
        | refine ax_q (q_field_ptr rfl rfl rfl rfl rfl rfl) ?_)
      refine ax_cond_dec rfl (fun _ => ?_) (fun h0 => absurd (Int.natCast_pos.2 (hp.2 (by omega))) h0)
      repeat (first
        | refine ax_q (q_move rfl) ?_
        | refine ax_region rfl ?_
        | refine ax_buildSliceRo rfl rfl rfl rfl rfl rfl rfl rfl rfl rfl rfl ?_)
      refine ax_callv rfl rfl rfl h2 ?_
      repeat (first
        | refine ax_q (q_move rfl) ?_
        | refine ax_q (q_assign rfl) ?_
        | refine ax_ops_nil ?_
        | refine ax_post_code ?_
        | refine ax_seq ?_
        | refine ax_region rfl ?_
        | refine ax_q (q_loadb_ptr rfl rfl rfl rfl rfl) ?_
        | refine ax_q (q_field_ptr rfl rfl rfl rfl rfl rfl) ?_)
      refine ax_callv rfl rfl rfl h3 ?_
      unfold intA
      repeat (first
        | refine ax_q (q_build rfl rfl rfl rfl rfl rfl) ?_
        | refine ax_buildSliceRo rfl rfl rfl rfl rfl rfl rfl rfl rfl rfl rfl ?_)
      refine ax_storeagg (c' := .box [.bool (decide (q.floor < 0)), natA q.floor.natAbs, .ro (.ints .u32 [1]) 0 1]) rfl rfl rfl rfl rfl Nat.zero_lt_one rfl rfl (fun i' j' hi' hj' => ?_) ?_
      · rw [if_pos (Nat.lt_one_iff.1 hi')]; rfl
      repeat (first
        | refine ax_ops_nil ?_
        | refine ax_post_code ?_
        | refine ax_return ?_)
      exact ax_ret hR rfl rfl
    · have h3 := made_ok true (q.num.natAbs / q.den)
      rw [floor2 hn hz] at h3
      refine ACall.value0 (acall_of_ax (P := Tryz.prog) (fn := Tryz.f65) rfl rfl (by kernel_rfl) rfl (fun c hR hfix => ?_)) (fix := fun _ => False) (fun _ h => h) rfl rfl
      rw [qA_int, natA_one] at hR
      unfold qA
      rw [decide_eq_true hn]
      repeat (first
        | refine ax_ops_nil ?_
        | refine ax_post_code ?_
        | refine ax_seq ?_
        | refine ax_region rfl ?_
        | refine ax_q (q_loadb_ptr rfl rfl rfl rfl rfl) ?_
        | refine ax_q (q_field_ptr rfl rfl rfl rfl rfl rfl) ?_
        | refine ax_box rfl rfl ?_
        | refine ax_alloc rfl rfl rfl ?_)
      refine ax_callv rfl rfl rfl h1 ?_
      repeat (first
        | refine ax_q (q_move rfl) ?_
        | refine ax_q (q_assign rfl) ?_
        | refine ax_ops_nil ?_
        | refine ax_post_code ?_
        | refine ax_seq ?_
        | refine ax_region rfl ?_
        | refine ax_guard rfl rfl ?_
        | refine ax_q (q_loadb_ptr rfl rfl rfl rfl rfl) ?_
        | refine ax_q (q_gtr rfl rfl) ?_
        | refine ax_q (q_pick rfl rfl) ?_
        | refine ax_q (q_extract rfl rfl) ?_
        | refine ax_q (q_len rfl rfl rfl) ?_
        | refine ax_q (q_field_ptr rfl rfl rfl rfl rfl rfl) ?_)
      refine ax_cond_dec rfl (fun h0 => absurd (Nat.pos_of_ne_zero (hp.1 (Int.natCast_pos.1 h0))) hz) (fun h0 => ?_)
      repeat (first
        | refine ax_q (q_move rfl) ?_
        | refine ax_post_code ?_
        | refine ax_seq ?_
        | refine ax_region rfl ?_
        | refine ax_skip ?_
        | refine ax_q (q_loadb_ptr rfl rfl rfl rfl rfl) ?_
        | refine ax_q (q_field_ptr rfl rfl rfl rfl rfl rfl) ?_)
      refine ax_callv rfl rfl rfl h3 ?_
      unfold intA
      repeat (first
        | refine ax_q (q_build rfl rfl rfl rfl rfl rfl) ?_
        | refine ax_buildSliceRo rfl rfl rfl rfl rfl rfl rfl rfl rfl rfl rfl ?_)
      refine ax_storeagg (c' := .box [.bool (decide (q.floor < 0)), natA q.floor.natAbs, .ro (.ints .u32 [1]) 0 1]) rfl rfl rfl rfl rfl Nat.zero_lt_one rfl rfl (fun i' j' hi' hj' => ?_) ?_
      · rw [if_pos (Nat.lt_one_iff.1 hi')]; rfl
      repeat (first
        | refine ax_ops_nil ?_
        | refine ax_post_code ?_
        | refine ax_return ?_)
      exact ax_ret hR rfl rfl
  · have h3 := made_ok false (q.num.natAbs / q.den)
    rw [floor3 hn] at h3
    refine ACall.value0 (acall_of_ax (P := Tryz.prog) (fn := Tryz.f65) rfl rfl (by kernel_rfl) rfl (fun c hR hfix => ?_)) (fix := fun _ => False) (fun _ h => h) rfl rfl
    rw [qA_int, natA_one] at hR
    unfold qA
    rw [decide_eq_false hn]
    repeat (first
      | refine ax_ops_nil ?_
      | refine ax_post_code ?_
      | refine ax_seq ?_
      | refine ax_region rfl ?_
      | refine ax_q (q_loadb_ptr rfl rfl rfl rfl rfl) ?_
      | refine ax_q (q_field_ptr rfl rfl rfl rfl rfl rfl) ?_
      | refine ax_box rfl rfl ?_
      | refine ax_alloc rfl rfl rfl ?_)
    refine ax_callv rfl rfl rfl h1 ?_
    repeat (first
      | refine ax_q (q_move rfl) ?_
      | refine ax_q (q_assign rfl) ?_
      | refine ax_ops_nil ?_
      | refine ax_post_code ?_
      | refine ax_seq ?_
      | refine ax_region rfl ?_
      | refine ax_skip_not rfl rfl rfl ?_
      | refine ax_cond_false rfl ?_
      | refine ax_skip ?_
      | refine ax_q (q_loadb_ptr rfl rfl rfl rfl rfl) ?_
      | refine ax_q (q_pick rfl rfl) ?_
      | refine ax_q (q_extract rfl rfl) ?_
      | refine ax_q (q_field_ptr rfl rfl rfl rfl rfl rfl) ?_)
    refine ax_callv rfl rfl rfl h3 ?_
    unfold intA
    repeat (first
      | refine ax_q (q_build rfl rfl rfl rfl rfl rfl) ?_
      | refine ax_buildSliceRo rfl rfl rfl rfl rfl rfl rfl rfl rfl rfl rfl ?_)
    refine ax_storeagg (c' := .box [.bool (decide (q.floor < 0)), natA q.floor.natAbs, .ro (.ints .u32 [1]) 0 1]) rfl rfl rfl rfl rfl Nat.zero_lt_one rfl rfl (fun i' j' hi' hj' => ?_) ?_
    · rw [if_pos (Nat.lt_one_iff.1 hi')]; rfl
    repeat (first
      | refine ax_ops_nil ?_
      | refine ax_post_code ?_
      | refine ax_return ?_)
    exact ax_ret hR rfl rfl
theorem indexByteI (s : List UInt8) (b : Int) : VCall Tryz.prog 151 [.str s, .int .u8 b] (.int .i64 (Lib.indexByte s b.toNat.toUInt8)) := by
  refine ACall.value0 (acall_of_ax (P := Tryz.prog) (fn := Tryz.f151) rfl rfl (by kernel_rfl) rfl (fun c hR hfix => ?_)) (fix := fun _ => False) (fun _ h => h) rfl rfl
  repeat (first
    | refine ax_q (q_move rfl) ?_
    | refine ax_q (q_assign rfl) ?_
    | refine ax_ops_nil ?_
    | refine ax_post_code ?_
    | refine ax_seq ?_
    | refine ax_region rfl ?_)
  refine ax_q (q_indexByte rfl rfl rfl rfl (by kernel_rfl) (by kernel_rfl) (by kernel_rfl) (by kernel_rfl)) ?_
  repeat (first
    | refine ax_q (q_assign rfl) ?_
    | refine ax_ops_nil ?_
    | refine ax_post_code ?_
    | refine ax_return ?_)
  exact ax_ret hR rfl rfl
theorem indexI1 (s : List UInt8) (b : UInt8) : VCall Tryz.prog 135 [.str s, .str [b]] (.int .i64 (Lib.indexByte s b)) := by
  refine ACall.value0 (acall_of_ax (P := Tryz.prog) (fn := Tryz.f135) rfl rfl (by kernel_rfl) rfl (fun c hR hfix => ?_)) (fix := fun _ => False) (fun _ h => h) rfl rfl
  repeat (first
    | refine ax_q (q_move rfl) ?_
    | refine ax_q (q_assign rfl) ?_
    | refine ax_ops_nil ?_
    | refine ax_post_code ?_
    | refine ax_seq ?_
    | refine ax_region rfl ?_
    | refine ax_guard rfl rfl ?_
    | refine ax_block ?_
    | refine ax_q (q_eql rfl rfl) ?_
    | refine ax_q (q_pick rfl rfl) ?_
    | refine ax_q (q_lenstr rfl rfl) ?_
    | refine ax_q (q_streql rfl rfl) ?_)
  refine ax_cond_dec rfl (fun h => ?_) (fun h => ?_)
  · repeat (first
      | refine ax_q (q_assign rfl) ?_
      | refine ax_ops_nil ?_
      | refine ax_post_code ?_
      | refine ax_seq ?_
      | refine ax_region rfl ?_
      | refine ax_return ?_
      | refine ax_ret_code ?_
      | refine ax_ret_blk ?_)
    refine ax_ret hR rfl ?_
    subst h
    simp [tupOf, Lib.indexByte]
  repeat (first
    | refine ax_q (q_move rfl) ?_
    | refine ax_q (q_assign rfl) ?_
    | refine ax_ops_nil ?_
    | refine ax_post_code ?_
    | refine ax_seq ?_
    | refine ax_region rfl ?_
    | refine ax_cond_true rfl ?_
    | refine ax_q (q_eql rfl rfl) ?_
    | refine ax_q (q_stridx rfl rfl rfl (by first | assumption | omega | simp)) ?_)
  refine ax_callv rfl rfl rfl (indexByteI s b.toNat) ?_
  repeat (first
    | refine ax_q (q_assign rfl) ?_
    | refine ax_ops_nil ?_
    | refine ax_post_code ?_
    | refine ax_return ?_
    | refine ax_ret_code ?_
    | refine ax_ret_blk ?_)
  refine ax_ret hR rfl ?_
  simp [tupOf]
theorem indexByte_lt (l : List UInt8) (b : UInt8) : Lib.indexByte l b < l.length := by
  induction l with
  | nil => simp [Lib.indexByte]
  | cons c r ih =>
    rw [Lib.indexByte]
    simp only [List.length_cons]
    split
    · omega
    · split
      · omega
      · omega
theorem cutI (s : List UInt8) (b : UInt8) (h : s.length ≤ 9223372036854775807) : VCall Tryz.prog 121 [.str s, .str [b]] (.tup [.str (cutF b s).1, .str (cutF b s).2.1, .bool (cutF b s).2.2]) := by
  have hc := cutF_idx b s
  have hlt := indexByte_lt s b
  have hge := Lib.indexByte_ge s b
  have ci := indexI1 s b
  refine ACall.value0 (acall_of_ax (P := Tryz.prog) (fn := Tryz.f121) rfl rfl (by kernel_rfl) rfl (fun c hR hfix => ?_)) (fix := fun _ => False) (fun _ h => h) rfl rfl
  generalize Lib.indexByte s b = i at *
  repeat (first
    | refine ax_q (q_move rfl) ?_
    | refine ax_q (q_assign rfl) ?_
    | refine ax_ops_nil ?_
    | refine ax_post_code ?_
    | refine ax_seq ?_
    | refine ax_region rfl ?_)
  refine ax_callv rfl rfl rfl ci ?_
  repeat (first
    | refine ax_q (q_move rfl) ?_
    | refine ax_q (q_assign rfl) ?_
    | refine ax_ops_nil ?_
    | refine ax_post_code ?_
    | refine ax_seq ?_
    | refine ax_region rfl ?_
    | refine ax_q (q_geq rfl rfl) ?_)
  refine ax_cond_dec rfl (fun h0 => ?_) (fun h0 => ?_)
  · rw [if_pos h0] at hc
    rw [hc] at hR
    have hb1 : ([b] : List UInt8).length = 1 := rfl
    have hi1 : (i + 1).toNat = i.toNat + 1 := by omega
    repeat (refine ax_seq ?_)
    refine ax_regionq (by kernel_rfl) (by kernel_rfl) rfl ?_
    repeat (first
      | refine ax_q (q_move rfl) ?_
      | refine ax_q (q_assign rfl) ?_
      | refine ax_ops_nil ?_
      | refine ax_post_code ?_
      | refine ax_return ?_
      | refine ax_ret_code ?_
      | refine ax_q (q_lenstr rfl rfl) ?_
      | refine ax_q (q_add rfl rfl (by omega)) ?_
      | refine ax_q (q_strslice rfl rfl rfl rfl rfl rfl (by omega)) ?_)
    refine ax_ret hR rfl ?_
    simp [tupOf, hi1]
    exact List.take_of_length_le (by simp)
  · rw [if_neg h0] at hc
    rw [hc] at hR
    repeat (first
      | refine ax_q (q_move rfl) ?_
      | refine ax_q (q_assign rfl) ?_
      | refine ax_ops_nil ?_
      | refine ax_post_code ?_
      | refine ax_seq ?_
      | refine ax_region rfl ?_
      | refine ax_skip ?_
      | refine ax_return ?_)
    exact ax_ret hR rfl rfl
theorem cutS (s : List UInt8) (b : UInt8) (h : s.length ≤ 9223372036854775807) : VCall Tryz.prog 91 [.str s, .str [b]] (.tup [.str (cutF b s).1, .str (cutF b s).2.1, .bool (cutF b s).2.2]) := by
  have ci := cutI s b h
  refine ACall.value0 (acall_of_ax (P := Tryz.prog) (fn := Tryz.f91) rfl rfl (by kernel_rfl) rfl (fun c hR hfix => ?_)) (fix := fun _ => False) (fun _ h => h) rfl rfl
  generalize cutF b s = q at *
  repeat (first
    | refine ax_q (q_move rfl) ?_
    | refine ax_q (q_assign rfl) ?_
    | refine ax_ops_nil ?_
    | refine ax_post_code ?_
    | refine ax_seq ?_
    | refine ax_region rfl ?_)
  refine ax_callv rfl rfl rfl ci ?_
  repeat (first
    | refine ax_q (q_assign rfl) ?_
    | refine ax_ops_nil ?_
    | refine ax_post_code ?_
    | refine ax_return ?_
    | refine ax_q (q_extract rfl rfl) ?_)
  exact ax_ret hR rfl rfl
theorem cutP1 (s p : List UInt8) (hs : s.length ≤ 9223372036854775807) (hp : p.length ≤ 9223372036854775807) : VCall Tryz.prog 120 [.str s, .str p] (.tup [.str (if preB s p then s.drop p.length else s), .bool (preB s p)]) := by
  have h1 := prefix1 s p hs hp
  refine ACall.value0 (acall_of_ax (P := Tryz.prog) (fn := Tryz.f120) rfl rfl (by kernel_rfl) rfl (fun c hR hfix => ?_)) (fix := fun _ => False) (fun _ h => h) rfl rfl
  by_cases h : preB s p = true
  · have hle : p.length ≤ s.length := by unfold preB at h; exact (of_decide_eq_true h).1
    rw [h] at h1 hR
    repeat (first
      | refine ax_q (q_move rfl) ?_
      | refine ax_q (q_assign rfl) ?_
      | refine ax_ops_nil ?_
      | refine ax_post_code ?_
      | refine ax_seq ?_
      | refine ax_region rfl ?_)
    refine ax_callv rfl rfl rfl h1 ?_
    repeat (first
      | refine ax_q (q_move rfl) ?_
      | refine ax_q (q_assign rfl) ?_
      | refine ax_ops_nil ?_
      | refine ax_post_code ?_
      | refine ax_seq ?_
      | refine ax_region rfl ?_
      | refine ax_cond_false rfl ?_
      | refine ax_skip ?_
      | refine ax_return ?_
      | refine ax_q (q_not rfl) ?_
      | refine ax_q (q_lenstr rfl rfl) ?_
      | refine ax_q (q_strslice rfl rfl rfl rfl rfl rfl (by omega)) ?_)
    refine ax_ret hR rfl ?_
    simp only [tupOf, Int.toNat_natCast]
    rw [List.take_of_length_le (by simp)]
    rfl
  · rw [Bool.not_eq_true] at h
    rw [h] at h1 hR
    repeat (first
      | refine ax_q (q_move rfl) ?_
      | refine ax_q (q_assign rfl) ?_
      | refine ax_ops_nil ?_
      | refine ax_post_code ?_
      | refine ax_seq ?_
      | refine ax_region rfl ?_)
    refine ax_callv rfl rfl rfl h1 ?_
    repeat (first
      | refine ax_q (q_move rfl) ?_
      | refine ax_q (q_assign rfl) ?_
      | refine ax_ops_nil ?_
      | refine ax_post_code ?_
      | refine ax_seq ?_
      | refine ax_region rfl ?_
      | refine ax_cond_true rfl ?_
      | refine ax_return ?_
      | refine ax_ret_code ?_
      | refine ax_q (q_not rfl) ?_)
    exact ax_ret hR rfl rfl
theorem cutP (s p : List UInt8) (hs : s.length ≤ 9223372036854775807) (hp : p.length ≤ 9223372036854775807) : VCall Tryz.prog 90 [.str s, .str p] (.tup [.str (if preB s p then s.drop p.length else s), .bool (preB s p)]) := by
  have h1 := cutP1 s p hs hp
  refine ACall.value0 (acall_of_ax (P := Tryz.prog) (fn := Tryz.f90) rfl rfl (by kernel_rfl) rfl (fun c hR hfix => ?_)) (fix := fun _ => False) (fun _ h => h) rfl rfl
  generalize preB s p = b at *
  repeat (first
    | refine ax_q (q_move rfl) ?_
    | refine ax_q (q_assign rfl) ?_
    | refine ax_ops_nil ?_
    | refine ax_post_code ?_
    | refine ax_seq ?_
    | refine ax_region rfl ?_)
  refine ax_callv rfl rfl rfl h1 ?_
  repeat (first
    | refine ax_q (q_assign rfl) ?_
    | refine ax_ops_nil ?_
    | refine ax_post_code ?_
    | refine ax_return ?_
    | refine ax_q (q_extract rfl rfl) ?_)
  exact ax_ret hR rfl rfl
end Go.Proofs.YtbeegiiiochblaaGreatDoor

/-
  The texts of rational numbers, in plain Lean. No program in sight.
-/
namespace Go.Ax.Rt
open Go.Ax.Bg
open Go.Ax.Tb (digit digits_digit digits_ne cutF cutF_no cutF_at no_in_digits)

def negB : List UInt8 → Bool
  | c :: _ => decide (c = 45)
  | [] => false
def bodyS (s : List UInt8) : List UInt8 := if negB s then s.drop 1 else s
def numS (s : List UInt8) : List UInt8 := (cutF 47 (bodyS s)).1
def denS (s : List UInt8) : List UInt8 := (cutF 47 (bodyS s)).2.1
def hasD (s : List UInt8) : Bool := (cutF 47 (bodyS s)).2.2
/-- rat.Check -/
def ratE (s : List UInt8) : Int :=
  if canonB (numS s) = false ∨ (hasD s = true ∧ canonB (denS s) = false) ∨ (negB s = true ∧ numS s = [48]) then 5
  else if 2000 < (numS s).length ∨ 2000 < (denS s).length then 2
  else if hasD s = true ∧ (denS s = [48] ∨ denS s = [49] ∨ Nat.gcd (decV 0 (numS s)) (decV 0 (denS s)) ≠ 1) then 3 else 0
def denV (s : List UInt8) : Nat := if hasD s then decV 0 (denS s) else 1
def ratV (s : List UInt8) : Rat := Rat.divInt (sgnI (negB s) (decV 0 (numS s))) (denV s : Nat)
def textQ (q : Rat) : List UInt8 := (if q.num < 0 then [45] else []) ++ (Lib.decDigits q.num.natAbs ++ (if q.den = 1 then [] else 47 :: Lib.decDigits q.den))
def fitB (q : Rat) : Bool := decide ((Lib.decDigits q.num.natAbs).length ≤ 2000) && decide ((Lib.decDigits q.den).length ≤ 2000)
def outF (q : Rat) : List UInt8 × Int := if fitB q then (textQ q, 0) else ([], 2)

theorem cutF_join (b : UInt8) : ∀ l : List UInt8, l = (cutF b l).1 ++ (if (cutF b l).2.2 then b :: (cutF b l).2.1 else [])
  | [] => rfl
  | c :: r => by
    rw [cutF]
    split
    · rename_i h; subst h; simp
    · have := cutF_join b r
      simp only [List.cons_append, List.cons.injEq, true_and]
      exact this
theorem cutF_den {b : UInt8} : ∀ {l : List UInt8}, (cutF b l).2.2 = false → (cutF b l).2.1 = []
  | [], _ => rfl
  | c :: r, h => by
    rw [cutF] at h ⊢
    split at h
    · cases h
    · rename_i h1
      rw [if_neg h1]
      exact cutF_den (l := r) h
structure Parts (s : List UInt8) (q : Rat) : Prop where
  num : q.num = sgnI (negB s) (decV 0 (numS s))
  den : q.den = denV s
  cn : Canon (numS s)
  cd : hasD s = true → Canon (denS s) ∧ decV 0 (denS s) ≠ 0 ∧ decV 0 (denS s) ≠ 1
  ln : (numS s).length ≤ 2000
  ld : (denS s).length ≤ 2000
  ng : negB s = true → decV 0 (numS s) ≠ 0
theorem one_dig {s : List UInt8} {n : Nat} (hc : Canon s) (hn : n < 10) (h : decV 0 s = n) : s = [UInt8.ofNat (48 + n)] := by
  rw [← canon_eq hc, h, Lib.decDigits_one hn]
theorem den_one {s : List UInt8} (h : hasD s = false) : denV s = 1 := by unfold denV; rw [h]; rfl
theorem den_some {s : List UInt8} (h : hasD s = true) : denV s = decV 0 (denS s) := by unfold denV; rw [h]; rfl
theorem rat_parts {s : List UInt8} (h : ratE s = 0) : Parts s (ratV s) := by
  unfold ratE at h
  split at h
  · omega
  split at h
  · omega
  split at h
  · omega
  rename_i h1 h2 h3
  simp only [not_or, not_and, Bool.not_eq_false] at h1 h2 h3
  obtain ⟨a1, a2, a3⟩ := h1
  have cn := canonB_iff.1 a1
  have cd : hasD s = true → Canon (denS s) ∧ decV 0 (denS s) ≠ 0 ∧ decV 0 (denS s) ≠ 1 := fun hd => by
    have c := canonB_iff.1 (a2 hd)
    exact ⟨c, fun e => (h3 hd).1 (one_dig c (by decide) e), fun e => (h3 hd).2.1 (one_dig c (by decide) e)⟩
  have hd0 : denV s ≠ 0 := by
    cases e : hasD s
    · rw [den_one e]; decide
    · rw [den_some e]; exact (cd e).2.1
  have hg : Nat.gcd (decV 0 (numS s)) (denV s) = 1 := by
    cases e : hasD s
    · rw [den_one e]; exact Nat.gcd_one_right _
    · rw [den_some e]; exact Classical.not_not.1 (h3 e).2.2
  obtain ⟨e1, e2, e3⟩ := frac_nat (sgnI (negB s) (decV 0 (numS s))) (denV s) hd0
  rw [sgnI_abs, hg, Nat.div_one] at e1
  rw [sgnI_abs, hg, Nat.div_one] at e2
  refine ⟨?_, e2, cn, cd, by omega, by omega, fun hn e => a3 hn (one_dig cn (by decide) e)⟩
  show (Rat.divInt _ _).num = _
  have := sgnI_abs (negB s) (decV 0 (numS s))
  omega
theorem neg_body {s : List UInt8} : s = (if negB s then [45] else []) ++ bodyS s := by
  unfold bodyS
  cases s with
  | nil => rfl
  | cons c r =>
    unfold negB
    by_cases h : c = 45
    · subst h; rfl
    · simp [h]
theorem Parts.text {s : List UInt8} {q : Rat} (h : Parts s q) : textQ q = s := by
  conv => rhs; rw [neg_body (s := s), cutF_join 47 (bodyS s)]
  change textQ q = _ ++ (numS s ++ if hasD s then 47 :: denS s else [])
  unfold textQ
  rw [h.num, h.den, sgnI_abs, canon_eq h.cn]
  congr 1
  · have := sgnI_neg (negB s) (decV 0 (numS s))
    cases e : negB s
    · rw [e] at this; simp at this
      rw [if_neg (by simpa [e] using this)]; rfl
    · rw [e] at this
      have hn := h.ng e
      simp [hn] at this
      rw [if_pos this]; rfl
  · congr 1
    cases e : hasD s
    · rw [den_one e]; rfl
    · obtain ⟨c, c0, c1⟩ := h.cd e
      rw [den_some e, if_neg c1, canon_eq c]; rfl
theorem neg_text (q : Rat) : negB (textQ q) = decide (q.num < 0) ∧ bodyS (textQ q) = Lib.decDigits q.num.natAbs ++ (if q.den = 1 then [] else 47 :: Lib.decDigits q.den) := by
  have hne := digits_ne q.num.natAbs
  have h45 := no_in_digits q.num.natAbs 45 (by decide)
  unfold bodyS textQ
  by_cases h : q.num < 0
  · simp [h, negB]
  · have : negB (Lib.decDigits q.num.natAbs ++ (if q.den = 1 then [] else 47 :: Lib.decDigits q.den)) = false := by
      cases e : Lib.decDigits q.num.natAbs with
      | nil => exact absurd e hne
      | cons c r =>
        rw [e] at h45
        have : c ≠ 45 := fun e => h45 (by simp [e])
        simp [negB, this]
    simp [h, this]
theorem cut_text (q : Rat) : cutF 47 (bodyS (textQ q)) = (Lib.decDigits q.num.natAbs, (if q.den = 1 then [] else Lib.decDigits q.den), decide (q.den ≠ 1)) := by
  rw [(neg_text q).2]
  by_cases h : q.den = 1
  · rw [if_pos h, if_pos h, List.append_nil, cutF_no (no_in_digits _ 47 (by decide))]
    simp [h]
  · rw [if_neg h, if_neg h, cutF_at (no_in_digits _ 47 (by decide))]
    simp [h]
theorem rat_of {q : Rat} (h : fitB q = true) : ratE (textQ q) = 0 ∧ ratV (textQ q) = q := by
  have e1 : numS (textQ q) = Lib.decDigits q.num.natAbs := by unfold numS; rw [cut_text]
  have e2 : denS (textQ q) = if q.den = 1 then [] else Lib.decDigits q.den := by unfold denS; rw [cut_text]
  have e3 : hasD (textQ q) = decide (q.den ≠ 1) := by unfold hasD; rw [cut_text]
  have e4 := (neg_text q).1
  unfold fitB at h
  rw [Bool.and_eq_true, decide_eq_true_eq, decide_eq_true_eq] at h
  constructor
  · unfold ratE
    rw [e1, e2, e3, e4, decV_digits, canonB_iff.2 (canon_digits _)]
    have g1 : ¬ (true = false ∨ (decide (q.den ≠ 1) = true ∧ canonB (if q.den = 1 then [] else Lib.decDigits q.den) = false) ∨ (decide (q.num < 0) = true ∧ Lib.decDigits q.num.natAbs = [48])) := by
      rintro (g | ⟨g1, g2⟩ | ⟨g1, g2⟩)
      · cases g
      · rw [decide_eq_true_eq] at g1
        rw [if_neg g1, canonB_iff.2 (canon_digits _)] at g2
        cases g2
      · rw [decide_eq_true_eq] at g1
        have : q.num.natAbs = 0 := decDigits_inj (by rw [g2, Lib.decDigits_one (by decide)]; rfl)
        omega
    have g2 : ¬ (2000 < (Lib.decDigits q.num.natAbs).length ∨ 2000 < (if q.den = 1 then [] else Lib.decDigits q.den : List UInt8).length) := by
      rintro (g | g)
      · omega
      · split at g
        · simp at g
        · omega
    have g3 : ¬ (decide (q.den ≠ 1) = true ∧ ((if q.den = 1 then [] else Lib.decDigits q.den) = [48] ∨ (if q.den = 1 then [] else Lib.decDigits q.den) = [49] ∨ Nat.gcd q.num.natAbs (decV 0 (if q.den = 1 then [] else Lib.decDigits q.den)) ≠ 1)) := by
      rintro ⟨g, g3⟩
      rw [decide_eq_true_eq] at g
      rw [if_neg g] at g3
      rw [decV_digits] at g3
      rcases g3 with g3 | g3 | g3
      · have : q.den = 0 := decDigits_inj (by rw [g3, Lib.decDigits_one (by decide)]; rfl)
        exact q.den_nz this
      · exact g (decDigits_inj (by rw [g3, Lib.decDigits_one (by decide)]; rfl))
      · exact g3 q.reduced
    rw [if_neg g1, if_neg g2, if_neg g3]
  · unfold ratV
    have e5 : denV (textQ q) = q.den := by
      unfold denV
      rw [e3, e2]
      by_cases g : q.den = 1
      · simp [g]
      · simp [g, decV_digits]
    rw [e1, e4, e5, decV_digits, sgnI_self]
    exact Rat.num_divInt_den q
/-- rat.CheckAll -/
def allE : List (List UInt8) → Int
  | [] => 0
  | s :: r => if ratE s = 0 then allE r else ratE s
theorem allE_mem : ∀ {l : List (List UInt8)}, allE l = 0 → ∀ s ∈ l, ratE s = 0
  | [], _, s, h => by simp at h
  | a :: r, h, s, hs => by
    rw [allE] at h
    split at h
    · rename_i h1
      rcases List.mem_cons.1 hs with e | e
      · rw [e]; exact h1
      · exact allE_mem h s e
    · contradiction
theorem allE_of : ∀ {l : List (List UInt8)}, (∀ s ∈ l, ratE s = 0) → allE l = 0
  | [], _ => rfl
  | a :: r, h => by
    rw [allE, if_pos (h a (by simp))]
    exact allE_of (fun s hs => h s (by simp [hs]))
theorem Parts.zero {s : List UInt8} (h : ratE s = 0) : ratV s = 0 ↔ s = [48] := by
  constructor
  · intro e
    have := (rat_parts h).text
    rw [e] at this
    rw [← this]
    unfold textQ
    rw [if_neg (by decide), if_pos (show (0 : Rat).den = 1 from rfl)]
    show [] ++ (Lib.decDigits 0 ++ []) = _
    rw [Lib.decDigits_one (by decide)]; rfl
  · intro e
    subst e
    decide
/-- Sums, products and so on of two texts. -/
def twoR (F : Rat → Rat → Rat) (a b : List UInt8) : List UInt8 × Int := if allE [a, b] = 0 then outF (F (ratV a) (ratV b)) else ([], allE [a, b])
def oneR (F : Rat → Rat) (a : List UInt8) : List UInt8 × Int := if ratE a = 0 then outF (F (ratV a)) else ([], ratE a)
def divR (a b : List UInt8) : List UInt8 × Int := if allE [a, b] = 0 then (if b = [48] then ([], 18) else outF (ratV a / ratV b)) else ([], allE [a, b])
def cmpR (a b : List UInt8) : Int × Int := if allE [a, b] = 0 then (cmpQ (ratV a) (ratV b), 0) else (0, allE [a, b])
def signR (a : List UInt8) : Int × Int := if ratE a = 0 then (sgn (ratV a).num, 0) else (0, ratE a)
def outAllF (l : List Rat) : List (List UInt8) × Int := if l.all fitB then (l.map textQ, 0) else ([], 2)
def sumL : Rat → List Rat → Rat × Int
  | acc, [] => (acc, 0)
  | acc, q :: r => if fitB (acc + q) then sumL (acc + q) r else (acc + q, 2)
def sumR (l : List (List UInt8)) : Rat × Int := if 256 < l.length then (0, 2) else if allE l = 0 then sumL 0 (l.map ratV) else (0, allE l)
def sumT (l : List (List UInt8)) : List UInt8 × Int := if (sumR l).2 = 0 then outF (sumR l).1 else ([], (sumR l).2)
def posE (l : List (List UInt8)) : Int := if (sumR l).2 = 0 ∧ l.any negB = true then 4 else (sumR l).2
def sharesR (l : List (List UInt8)) : List (List UInt8) × Int :=
  if posE l = 0 then (if (sumR l).1 = 0 then ([], 18) else outAllF ((l.map ratV).map (fun q => q / (sumR l).1))) else ([], posE l)
def oddsR (l : List (List UInt8)) : Int := if posE l = 0 then (if cmpQ (sumR l).1 1 = 0 then 0 else 3) else posE l
def bestK (x : List Rat) : Nat → Nat
  | 0 => 0
  | k + 1 => if 0 < cmpQ (x.getD k 0) (x.getD (bestK x k) 0) then k else bestK x k
def bestR (l : List (List UInt8)) : Int × Int := if 256 < l.length then (0, 2) else if l = [] then (0, 8) else if allE l = 0 then ((bestK (l.map ratV) l.length : Nat), 0) else (0, allE l)
theorem bestK_le (x : List Rat) : ∀ k, bestK x k ≤ k
  | 0 => Nat.le_refl _
  | k + 1 => by
    rw [bestK]
    have := bestK_le x k
    split <;> omega
theorem fit_len {q : Rat} (h : fitB q = true) : (natL q.num.natAbs).length ≤ 2000 ∧ (natL q.den).length ≤ 2000 := by
  unfold fitB at h
  rw [Bool.and_eq_true, decide_eq_true_eq, decide_eq_true_eq] at h
  have key : ∀ (n m : Nat), (Lib.decDigits n).length ≤ m → (natL n).length ≤ m := fun n m hl => by
    refine natL_len_le (Nat.lt_of_lt_of_le (digits_lt n) ?_)
    exact Nat.le_trans (Nat.pow_le_pow_right (by decide) hl) (Nat.pow_le_pow_left (by decide) m)
  exact ⟨key _ _ h.1, key _ _ h.2⟩
def ofR (n d : Int) : List UInt8 × Int := if d = 0 then ([], 18) else outF (Rat.divInt n d)
end Go.Ax.Rt

namespace Go.Proofs.YtbeegiiiochblaaGreatDoor
open Go.Ax Go.Ax.Bg Go.Ax.Rt Go.RowKit
attribute [local irreducible] Ax Post QOp ACall PureOp
set_option maxRecDepth 100000
set_option maxHeartbeats 4000000

open Go.Ax.Tb (cutF cutF_idx cutF_len)
theorem pre_neg (s : List UInt8) : preB s [45] = negB s := by
  unfold preB negB
  cases s with
  | nil => rfl
  | cons c r => simp
theorem body_len (s : List UInt8) : (bodyS s).length ≤ s.length := by
  unfold bodyS; split
  · simp
  · exact Nat.le_refl _
theorem parts_len (s : List UInt8) : (numS s).length ≤ s.length ∧ (denS s).length ≤ s.length := by
  have h := cutF_len 47 (bodyS s)
  have h2 := body_len s
  unfold numS denS
  omega
theorem cutNeg (s : List UInt8) (hs : s.length ≤ 9223372036854775807) : VCall Tryz.prog 90 [.str s, .str [45]] (.tup [.str (bodyS s), .bool (negB s)]) := by
  have h := cutP s [45] hs (by decide)
  rw [pre_neg] at h
  exact h
theorem cutBar (s : List UInt8) (hs : s.length ≤ 9223372036854775807) : VCall Tryz.prog 91 [.str (bodyS s), .str [47]] (.tup [.str (numS s), .str (denS s), .bool (hasD s)]) :=
  cutS (bodyS s) 47 (Nat.le_trans (body_len s) hs)
theorem parse_ok (s : List UInt8) (hs : s.length ≤ 9223372036854775807) (h : ratE s = 0) : VCall Tryz.prog 60 [.str s] (qA (ratV s)) := by
  have hp := rat_parts h
  have h1 := cutNeg s (by omega)
  have h2 := cutBar s hs
  have h3 := read_ok (numS s) hp.cn.2.1 (by have := hp.ln; omega)
  have h4 := made_ok (negB s) (decV 0 (numS s))
  rw [← hp.num] at h4
  unfold qA
  rw [hp.den]
  cases e : hasD s
  · rw [e] at h2
    rw [den_one e, natA_one]
    refine ACall.value0 (acall_of_ax (P := Tryz.prog) (fn := Tryz.f60) rfl rfl (by kernel_rfl) rfl (fun c hR hfix => ?_)) (fix := fun _ => False) (fun _ h => h) rfl rfl
    repeat (first
      | refine ax_q (q_move rfl) ?_
      | refine ax_ops_nil ?_
      | refine ax_post_code ?_
      | refine ax_seq ?_
      | refine ax_region rfl ?_
      | refine ax_alloc rfl rfl rfl ?_)
    refine ax_callv rfl rfl rfl h1 ?_
    repeat (first
      | refine ax_q (q_move rfl) ?_
      | refine ax_q (q_assign rfl) ?_
      | refine ax_ops_nil ?_
      | refine ax_post_code ?_
      | refine ax_seq ?_
      | refine ax_region rfl ?_
      | refine ax_q (q_extract rfl rfl) ?_)
    refine ax_callv rfl rfl rfl h2 ?_
    repeat (first
      | refine ax_q (q_move rfl) ?_
      | refine ax_q (q_assign rfl) ?_
      | refine ax_ops_nil ?_
      | refine ax_post_code ?_
      | refine ax_seq ?_
      | refine ax_region rfl ?_
      | refine ax_q (q_extract rfl rfl) ?_)
    refine ax_callv rfl rfl rfl h3 ?_
    skip
    refine ax_callv rfl rfl rfl h4 ?_
    unfold intA
    repeat (first
      | refine ax_q (q_build rfl rfl rfl rfl rfl rfl) ?_
      | refine ax_buildSliceRo rfl rfl rfl rfl rfl rfl rfl rfl rfl rfl rfl ?_
      | refine ax_alloc rfl rfl rfl ?_)
    refine ax_storeagg (c' := .box [.bool (decide ((ratV s).num < 0)), natA (ratV s).num.natAbs, .ro (.ints .u32 [1]) 0 1]) rfl rfl rfl rfl rfl Nat.zero_lt_one rfl rfl (fun i' j' hi' hj' => ?_) ?_
    · rw [if_pos (Nat.lt_one_iff.1 hi')]; rfl
    repeat (first
      | refine ax_q (q_move rfl) ?_
      | refine ax_ops_nil ?_
      | refine ax_post_code ?_
      | refine ax_seq ?_
      | refine ax_region rfl ?_
      | refine ax_cond_false rfl ?_
      | refine ax_skip ?_
      | refine ax_q (q_loadpart_ptr rfl rfl rfl rfl rfl rfl rfl (by first | exact Nat.zero_lt_one | assumption | omega)) ?_)
    refine ax_storeagg (c' := .box [.bool (decide ((ratV s).num < 0)), natA (ratV s).num.natAbs, .ro (.ints .u32 [1]) 0 1]) rfl rfl rfl rfl rfl Nat.zero_lt_one rfl rfl (fun i' j' hi' hj' => ?_) ?_
    · rw [if_pos (Nat.lt_one_iff.1 hi')]; rfl
    repeat (first
      | refine ax_ops_nil ?_
      | refine ax_post_code ?_
      | refine ax_return ?_)
    exact ax_ret hR rfl rfl
  · rw [e] at h2
    rw [den_some e]
    have h5 := read_ok (denS s) (hp.cd e).1.2.1 (by have := hp.ld; omega)
    refine ACall.value0 (acall_of_ax (P := Tryz.prog) (fn := Tryz.f60) rfl rfl (by kernel_rfl) rfl (fun c hR hfix => ?_)) (fix := fun _ => False) (fun _ h => h) rfl rfl
    repeat (first
      | refine ax_q (q_move rfl) ?_
      | refine ax_ops_nil ?_
      | refine ax_post_code ?_
      | refine ax_seq ?_
      | refine ax_region rfl ?_
      | refine ax_alloc rfl rfl rfl ?_)
    refine ax_callv rfl rfl rfl h1 ?_
    repeat (first
      | refine ax_q (q_move rfl) ?_
      | refine ax_q (q_assign rfl) ?_
      | refine ax_ops_nil ?_
      | refine ax_post_code ?_
      | refine ax_seq ?_
      | refine ax_region rfl ?_
      | refine ax_q (q_extract rfl rfl) ?_)
    refine ax_callv rfl rfl rfl h2 ?_
    repeat (first
      | refine ax_q (q_move rfl) ?_
      | refine ax_q (q_assign rfl) ?_
      | refine ax_ops_nil ?_
      | refine ax_post_code ?_
      | refine ax_seq ?_
      | refine ax_region rfl ?_
      | refine ax_q (q_extract rfl rfl) ?_)
    refine ax_callv rfl rfl rfl h3 ?_
    skip
    refine ax_callv rfl rfl rfl h4 ?_
    unfold intA
    repeat (first
      | refine ax_q (q_build rfl rfl rfl rfl rfl rfl) ?_
      | refine ax_buildSliceRo rfl rfl rfl rfl rfl rfl rfl rfl rfl rfl rfl ?_
      | refine ax_alloc rfl rfl rfl ?_)
    refine ax_storeagg (c' := .box [.bool (decide ((ratV s).num < 0)), natA (ratV s).num.natAbs, .ro (.ints .u32 [1]) 0 1]) rfl rfl rfl rfl rfl Nat.zero_lt_one rfl rfl (fun i' j' hi' hj' => ?_) ?_
    · rw [if_pos (Nat.lt_one_iff.1 hi')]; rfl
    repeat (first
      | refine ax_q (q_move rfl) ?_
      | refine ax_ops_nil ?_
      | refine ax_post_code ?_
      | refine ax_seq ?_
      | refine ax_region rfl ?_
      | refine ax_cond_true rfl ?_)
    refine ax_callv rfl rfl rfl h5 ?_
    repeat (first
      | refine ax_ops_nil ?_
      | refine ax_post_code ?_
      | refine ax_seq ?_
      | refine ax_region rfl ?_
      | refine ax_q (q_field_ptr rfl rfl rfl rfl rfl rfl) ?_
      | refine ax_q (q_loadpart_ptr rfl rfl rfl rfl rfl rfl rfl (by first | exact Nat.zero_lt_one | assumption | omega)) ?_
      | refine ax_store rfl rfl rfl rfl rfl rfl rfl Nat.zero_lt_one ?_)
    refine ax_storeagg (c' := .box [.bool (decide ((ratV s).num < 0)), natA (ratV s).num.natAbs, natA (decV 0 (denS s))]) rfl rfl rfl rfl rfl Nat.zero_lt_one rfl rfl (fun i' j' hi' hj' => ?_) ?_
    · rw [if_pos (Nat.lt_one_iff.1 hi')]; rfl
    repeat (first
      | refine ax_ops_nil ?_
      | refine ax_post_code ?_
      | refine ax_return ?_)
    exact ax_ret hR rfl rfl
theorem qtext_ok (q : Rat) (hq : Sz 100000 q) : VCall Tryz.prog 119 [qA q] (.str (textQ q)) := by
  have h1 := text_ok q.num.natAbs (by have := hq.1; omega)
  have h2 := one_ok q.den
  have h3 := text_ok q.den (by have := hq.2; omega)
  unfold textQ
  have l1 := digits_len_b hq.1 (by decide)
  have l2 := digits_len_b hq.2 (by decide)
  refine ACall.value0 (acall_of_ax (P := Tryz.prog) (fn := Tryz.f119) rfl rfl (by kernel_rfl) rfl (fun c hR hfix => ?_)) (fix := fun _ => False) (fun _ h => h) rfl rfl
  by_cases hn : q.num < 0 <;> by_cases hd : q.den = 1
  · rw [if_pos hn, if_pos hd] at hR
    rw [decide_eq_true hd] at h2
    unfold qA
    rw [decide_eq_true hn]
    repeat (first
      | refine ax_q (q_assign rfl) ?_
      | refine ax_ops_nil ?_
      | refine ax_post_code ?_
      | refine ax_seq ?_
      | refine ax_region rfl ?_
      | refine ax_q (q_loadb_ptr rfl rfl rfl rfl rfl) ?_
      | refine ax_q (q_field_ptr rfl rfl rfl rfl rfl rfl) ?_
      | refine ax_box rfl rfl ?_)
    refine ax_callv rfl rfl rfl h1 ?_
    repeat (first
      | refine ax_q (q_move rfl) ?_
      | refine ax_q (q_assign rfl) ?_
      | refine ax_ops_nil ?_
      | refine ax_post_code ?_
      | refine ax_seq ?_
      | refine ax_region rfl ?_
      | refine ax_cond_true rfl ?_
      | refine ax_q (q_loadb_ptr rfl rfl rfl rfl rfl) ?_
      | refine ax_q (q_field_ptr rfl rfl rfl rfl rfl rfl) ?_)
    refine ax_q (q_concat rfl rfl (by show ([45] : List UInt8).length + _ ≤ _; simp only [List.length_cons, List.length_nil, List.length_append]; omega)) ?_
    repeat (first
      | refine ax_q (q_assign rfl) ?_
      | refine ax_ops_nil ?_
      | refine ax_post_code ?_
      | refine ax_seq ?_
      | refine ax_region rfl ?_
      | refine ax_q (q_loadb_ptr rfl rfl rfl rfl rfl) ?_
      | refine ax_q (q_field_ptr rfl rfl rfl rfl rfl rfl) ?_)
    refine ax_callv rfl rfl rfl h2 ?_
    repeat (first
      | refine ax_q (q_move rfl) ?_
      | refine ax_q (q_assign rfl) ?_
      | refine ax_ops_nil ?_
      | refine ax_post_code ?_
      | refine ax_seq ?_
      | refine ax_region rfl ?_
      | refine ax_cond_false rfl ?_
      | refine ax_skip ?_
      | refine ax_return ?_
      | refine ax_q (q_not rfl) ?_)
    refine ax_ret hR rfl ?_
    simp [tupOf]
  · rw [if_pos hn, if_neg hd] at hR
    rw [decide_eq_false hd] at h2
    unfold qA
    rw [decide_eq_true hn]
    repeat (first
      | refine ax_q (q_assign rfl) ?_
      | refine ax_ops_nil ?_
      | refine ax_post_code ?_
      | refine ax_seq ?_
      | refine ax_region rfl ?_
      | refine ax_q (q_loadb_ptr rfl rfl rfl rfl rfl) ?_
      | refine ax_q (q_field_ptr rfl rfl rfl rfl rfl rfl) ?_
      | refine ax_box rfl rfl ?_)
    refine ax_callv rfl rfl rfl h1 ?_
    repeat (first
      | refine ax_q (q_move rfl) ?_
      | refine ax_q (q_assign rfl) ?_
      | refine ax_ops_nil ?_
      | refine ax_post_code ?_
      | refine ax_seq ?_
      | refine ax_region rfl ?_
      | refine ax_cond_true rfl ?_
      | refine ax_q (q_loadb_ptr rfl rfl rfl rfl rfl) ?_
      | refine ax_q (q_field_ptr rfl rfl rfl rfl rfl rfl) ?_)
    refine ax_q (q_concat rfl rfl (by show ([45] : List UInt8).length + _ ≤ _; simp only [List.length_cons, List.length_nil, List.length_append]; omega)) ?_
    repeat (first
      | refine ax_q (q_assign rfl) ?_
      | refine ax_ops_nil ?_
      | refine ax_post_code ?_
      | refine ax_seq ?_
      | refine ax_region rfl ?_
      | refine ax_q (q_loadb_ptr rfl rfl rfl rfl rfl) ?_
      | refine ax_q (q_field_ptr rfl rfl rfl rfl rfl rfl) ?_)
    refine ax_callv rfl rfl rfl h2 ?_
    repeat (first
      | refine ax_q (q_move rfl) ?_
      | refine ax_ops_nil ?_
      | refine ax_post_code ?_
      | refine ax_region rfl ?_
      | refine ax_cond_true rfl ?_
      | refine ax_q (q_loadb_ptr rfl rfl rfl rfl rfl) ?_
      | refine ax_q (q_not rfl) ?_
      | refine ax_q (q_field_ptr rfl rfl rfl rfl rfl rfl) ?_)
    refine ax_callv rfl rfl rfl h3 ?_
    skip
    refine ax_q (q_concat rfl rfl (by show ([47] : List UInt8).length + _ ≤ _; simp only [List.length_cons, List.length_nil, List.length_append]; omega)) ?_
    refine ax_q (q_concat (b := 47 :: Lib.decDigits q.den) rfl rfl (by simp only [List.length_cons, List.length_nil, List.length_append]; omega)) ?_
    repeat (first
      | refine ax_q (q_move rfl) ?_
      | refine ax_q (q_assign rfl) ?_
      | refine ax_ops_nil ?_
      | refine ax_post_code ?_
      | refine ax_seq ?_
      | refine ax_region rfl ?_
      | refine ax_return ?_)
    refine ax_ret hR rfl ?_
    simp [tupOf]
  · rw [if_neg hn, if_pos hd] at hR
    rw [decide_eq_true hd] at h2
    unfold qA
    rw [decide_eq_false hn]
    repeat (first
      | refine ax_q (q_assign rfl) ?_
      | refine ax_ops_nil ?_
      | refine ax_post_code ?_
      | refine ax_seq ?_
      | refine ax_region rfl ?_
      | refine ax_q (q_loadb_ptr rfl rfl rfl rfl rfl) ?_
      | refine ax_q (q_field_ptr rfl rfl rfl rfl rfl rfl) ?_
      | refine ax_box rfl rfl ?_)
    refine ax_callv rfl rfl rfl h1 ?_
    repeat (first
      | refine ax_q (q_assign rfl) ?_
      | refine ax_ops_nil ?_
      | refine ax_post_code ?_
      | refine ax_seq ?_
      | refine ax_region rfl ?_
      | refine ax_cond_false rfl ?_
      | refine ax_skip ?_
      | refine ax_q (q_loadb_ptr rfl rfl rfl rfl rfl) ?_
      | refine ax_q (q_field_ptr rfl rfl rfl rfl rfl rfl) ?_)
    refine ax_callv rfl rfl rfl h2 ?_
    repeat (first
      | refine ax_q (q_move rfl) ?_
      | refine ax_q (q_assign rfl) ?_
      | refine ax_ops_nil ?_
      | refine ax_post_code ?_
      | refine ax_seq ?_
      | refine ax_region rfl ?_
      | refine ax_cond_false rfl ?_
      | refine ax_skip ?_
      | refine ax_return ?_
      | refine ax_q (q_not rfl) ?_)
    refine ax_ret hR rfl ?_
    simp [tupOf]
  · rw [if_neg hn, if_neg hd] at hR
    rw [decide_eq_false hd] at h2
    unfold qA
    rw [decide_eq_false hn]
    repeat (first
      | refine ax_q (q_assign rfl) ?_
      | refine ax_ops_nil ?_
      | refine ax_post_code ?_
      | refine ax_seq ?_
      | refine ax_region rfl ?_
      | refine ax_q (q_loadb_ptr rfl rfl rfl rfl rfl) ?_
      | refine ax_q (q_field_ptr rfl rfl rfl rfl rfl rfl) ?_
      | refine ax_box rfl rfl ?_)
    refine ax_callv rfl rfl rfl h1 ?_
    repeat (first
      | refine ax_q (q_assign rfl) ?_
      | refine ax_ops_nil ?_
      | refine ax_post_code ?_
      | refine ax_seq ?_
      | refine ax_region rfl ?_
      | refine ax_cond_false rfl ?_
      | refine ax_skip ?_
      | refine ax_q (q_loadb_ptr rfl rfl rfl rfl rfl) ?_
      | refine ax_q (q_field_ptr rfl rfl rfl rfl rfl rfl) ?_)
    refine ax_callv rfl rfl rfl h2 ?_
    repeat (first
      | refine ax_q (q_move rfl) ?_
      | refine ax_ops_nil ?_
      | refine ax_post_code ?_
      | refine ax_region rfl ?_
      | refine ax_cond_true rfl ?_
      | refine ax_q (q_loadb_ptr rfl rfl rfl rfl rfl) ?_
      | refine ax_q (q_not rfl) ?_
      | refine ax_q (q_field_ptr rfl rfl rfl rfl rfl rfl) ?_)
    refine ax_callv rfl rfl rfl h3 ?_
    skip
    refine ax_q (q_concat rfl rfl (by show ([47] : List UInt8).length + _ ≤ _; simp only [List.length_cons, List.length_nil, List.length_append]; omega)) ?_
    refine ax_q (q_concat (b := 47 :: Lib.decDigits q.den) rfl rfl (by simp only [List.length_cons, List.length_nil, List.length_append]; omega)) ?_
    repeat (first
      | refine ax_q (q_move rfl) ?_
      | refine ax_q (q_assign rfl) ?_
      | refine ax_ops_nil ?_
      | refine ax_post_code ?_
      | refine ax_seq ?_
      | refine ax_region rfl ?_
      | refine ax_return ?_)
    refine ax_ret hR rfl ?_
    simp [tupOf]
end Go.Proofs.YtbeegiiiochblaaGreatDoor

namespace Go.Proofs.YtbeegiiiochblaaGreatDoor
open Go.Ax Go.Ax.Bg Go.Ax.Rt Go.RowKit
attribute [local irreducible] Ax Post QOp ACall PureOp
set_option maxRecDepth 100000
set_option maxHeartbeats 4000000

theorem big_len {n k m : Nat} (h : k < (natL n).length) (hm : m ≤ 9 * k) : m < (Lib.decDigits n).length := by
  rcases Nat.lt_or_ge m (Lib.decDigits n).length with q | q
  · exact q
  exfalso
  have h1 := digits_lt n
  have h2 : 10 ^ (Lib.decDigits n).length ≤ 10 ^ (9 * k) := Nat.pow_le_pow_right (by decide) (by omega)
  have h3 : 10 ^ (9 * k) ≤ B ^ k := by rw [Nat.pow_mul]; exact Nat.pow_le_pow_left (by decide) k
  have h4 : ¬ n < B ^ k := fun h5 => by have := natL_len_le h5; omega
  omega
theorem fits_ok (q : Rat) (hq : Sz 100000 q) : VCall Tryz.prog 118 [qA q, .int .i64 2000] (.bool (fitB q)) := by
  have h1 := text_ok q.num.natAbs (by have := hq.1; omega)
  have h3 := text_ok q.den (by have := hq.2; omega)
  have l1 := digits_len_b hq.1 (by decide)
  have l2 := digits_len_b hq.2 (by decide)
  have g1 := hq.1
  have g2 := hq.2
  have b1 := @big_len q.num.natAbs 224 2000
  have b2 := @big_len q.den 224 2000
  unfold fitB
  refine ACall.value0 (acall_of_ax (P := Tryz.prog) (fn := Tryz.f118) rfl rfl (by kernel_rfl) rfl (fun c hR hfix => ?_)) (fix := fun _ => False) (fun _ h => h) rfl rfl
  unfold qA
  unfold natA at h1 h3 ⊢
  repeat (first
    | refine ax_q (q_move rfl) ?_
    | refine ax_q (q_assign rfl) ?_
    | refine ax_ops_nil ?_
    | refine ax_post_code ?_
    | refine ax_seq ?_
    | refine ax_region rfl ?_
    | refine ax_q (q_loadb_ptr rfl rfl rfl rfl rfl) ?_
    | refine ax_q (q_gtr rfl rfl) ?_
    | refine ax_q (q_len rfl rfl rfl) ?_
    | refine ax_q (q_add rfl rfl (by omega)) ?_
    | refine ax_q (q_quo rfl rfl (by omega)) ?_
    | refine ax_q (q_max rfl rfl) ?_
    | refine ax_q (q_field_ptr rfl rfl rfl rfl rfl rfl) ?_
    | refine ax_box rfl rfl ?_)
  refine ax_cond_dec rfl (fun h0 => ?_) (fun h0 => ?_)
  · repeat (first
      | refine ax_q (q_assign rfl) ?_
      | refine ax_ops_nil ?_
      | refine ax_post_code ?_
      | refine ax_seq ?_
      | refine ax_region rfl ?_
      | refine ax_return ?_
      | refine ax_ret_code ?_)
    refine ax_ret hR rfl ?_
    have h5 : 224 < (natL q.num.natAbs).length ∨ 224 < (natL q.den).length := by
      split at h0 <;> omega
    have h6 : ¬ ((Lib.decDigits q.num.natAbs).length ≤ 2000 ∧ (Lib.decDigits q.den).length ≤ 2000) := by
      rcases h5 with h5 | h5
      · have := b1 h5 (by decide); omega
      · have := b2 h5 (by decide); omega
    rw [← Bool.decide_and, decide_eq_false h6]
    rfl
  · repeat (first
      | refine ax_post_code ?_
      | refine ax_seq ?_
      | refine ax_region rfl ?_
      | refine ax_skip ?_
      | refine ax_q (q_loadb_ptr rfl rfl rfl rfl rfl) ?_
      | refine ax_q (q_field_ptr rfl rfl rfl rfl rfl rfl) ?_)
    refine ax_callv rfl rfl rfl h1 ?_
    repeat (first
      | refine ax_q (q_move rfl) ?_
      | refine ax_q (q_leq rfl rfl) ?_
      | refine ax_q (q_lenstr rfl rfl) ?_)
    refine ax_gsplit rfl rfl (fun h5 => ?_) (fun h5 => ?_)
    · repeat (first
        | refine ax_guard rfl rfl ?_
        | refine ax_q (q_loadb_ptr rfl rfl rfl rfl rfl) ?_
        | refine ax_q (q_field_ptr rfl rfl rfl rfl rfl rfl) ?_)
      refine ax_callv rfl rfl rfl h3 ?_
      repeat (first
        | refine ax_q (q_move rfl) ?_
        | refine ax_q (q_assign rfl) ?_
        | refine ax_ops_nil ?_
        | refine ax_post_code ?_
        | refine ax_guard rfl rfl ?_
        | refine ax_return ?_
        | refine ax_q (q_leq rfl rfl) ?_
        | refine ax_q (q_pick rfl rfl) ?_
        | refine ax_q (q_lenstr rfl rfl) ?_)
      refine ax_ret hR rfl ?_
      rw [show decide ((Lib.decDigits q.num.natAbs).length ≤ 2000) = true from decide_eq_true (by omega), Bool.true_and]
      show AV.bool _ = AV.bool _
      rw [show decide (((Lib.decDigits q.den).length : Int) ≤ 2000) = decide ((Lib.decDigits q.den).length ≤ 2000) from by rw [decide_eq_decide]; omega]
    · repeat (first
        | refine ax_q (q_assign rfl) ?_
        | refine ax_ops_nil ?_
        | refine ax_post_code ?_
        | refine ax_skip_not rfl rfl rfl ?_
        | refine ax_return ?_
        | refine ax_q (q_pick rfl rfl) ?_)
      refine ax_ret hR rfl ?_
      rw [show decide ((Lib.decDigits q.num.natAbs).length ≤ 2000) = false from decide_eq_false (by omega), Bool.false_and]
      rfl
theorem out_yes (q : Rat) (hq : Sz 100000 q) (h : fitB q = true) : VCall Tryz.prog 86 [qA q] (.tup [.str (textQ q), .int .i64 0]) := by
  have h1 := fits_ok q hq
  have h2 := qtext_ok q hq
  rw [h] at h1
  refine ACall.value0 (acall_of_ax (P := Tryz.prog) (fn := Tryz.f86) rfl rfl (by kernel_rfl) rfl (fun c hR hfix => ?_)) (fix := fun _ => False) (fun _ h => h) rfl rfl
  repeat (first
    | refine ax_q (q_assign rfl) ?_
    | refine ax_ops_nil ?_
    | refine ax_post_code ?_
    | refine ax_seq ?_
    | refine ax_region rfl ?_
    | refine ax_q (q_loadpart_ptr rfl rfl rfl rfl rfl rfl rfl (by first | exact Nat.zero_lt_one | assumption | omega)) ?_
    | refine ax_box rfl rfl ?_)
  refine ax_callv rfl rfl rfl h1 ?_
  repeat (first
    | refine ax_ops_nil ?_
    | refine ax_post_code ?_
    | refine ax_seq ?_
    | refine ax_region rfl ?_
    | refine ax_cond_false rfl ?_
    | refine ax_skip ?_
    | refine ax_q (q_not rfl) ?_
    | refine ax_q (q_loadpart_ptr rfl rfl rfl rfl rfl rfl rfl (by first | exact Nat.zero_lt_one | assumption | omega)) ?_)
  refine ax_callv rfl rfl rfl h2 ?_
  repeat (first
    | refine ax_q (q_assign rfl) ?_
    | refine ax_ops_nil ?_
    | refine ax_post_code ?_
    | refine ax_return ?_)
  exact ax_ret hR rfl rfl
theorem out_no (q : Rat) (hq : Sz 100000 q) (h : fitB q = false) : VCall Tryz.prog 86 [qA q] (.tup [.str [], .int .i64 2]) := by
  have h1 := fits_ok q hq
  rw [h] at h1
  refine ACall.value0 (acall_of_ax (P := Tryz.prog) (fn := Tryz.f86) rfl rfl (by kernel_rfl) rfl (fun c hR hfix => ?_)) (fix := fun _ => False) (fun _ h => h) rfl rfl
  repeat (first
    | refine ax_q (q_assign rfl) ?_
    | refine ax_ops_nil ?_
    | refine ax_post_code ?_
    | refine ax_seq ?_
    | refine ax_region rfl ?_
    | refine ax_q (q_loadpart_ptr rfl rfl rfl rfl rfl rfl rfl (by first | exact Nat.zero_lt_one | assumption | omega)) ?_
    | refine ax_box rfl rfl ?_)
  refine ax_callv rfl rfl rfl h1 ?_
  repeat (first
    | refine ax_q (q_assign rfl) ?_
    | refine ax_ops_nil ?_
    | refine ax_post_code ?_
    | refine ax_seq ?_
    | refine ax_region rfl ?_
    | refine ax_cond_true rfl ?_
    | refine ax_return ?_
    | refine ax_ret_code ?_
    | refine ax_q (q_not rfl) ?_)
  exact ax_ret hR rfl rfl
theorem out_ok (q : Rat) (hq : Sz 100000 q) : VCall Tryz.prog 86 [qA q] (pairA (outF q)) := by
  unfold outF
  cases h : fitB q
  · exact out_no q hq h
  · exact out_yes q hq h
theorem rcheck_ok (s : List UInt8) (hs : s.length ≤ 9223372036854775807) : VCall Tryz.prog 54 [.str s] (.int .i64 (ratE s)) := by
  have h1 := cutNeg s (by omega)
  have h2 := cutBar s hs
  obtain ⟨ln, ld⟩ := parts_len s
  have h3 := digits_ok (numS s) (by omega)
  have h4 := digits_ok (denS s) (by omega)
  have cn := @canonB_iff (numS s)
  have cd := @canonB_iff (denS s)
  unfold ratE
  generalize numS s = n at *
  generalize denS s = d at *
  generalize hasD s = ok at *
  generalize negB s = ng at *
  generalize bodyS s = b at *
  generalize canonB n = p at *
  generalize canonB d = q at *
  refine ACall.value0 (acall_of_ax (P := Tryz.prog) (fn := Tryz.f54) rfl rfl (by kernel_rfl) rfl (fun c hR hfix => ?_)) (fix := fun _ => False) (fun _ h => h) rfl rfl
  repeat (first
    | refine ax_q (q_move rfl) ?_
    | refine ax_q (q_assign rfl) ?_
    | refine ax_ops_nil ?_
    | refine ax_post_code ?_
    | refine ax_seq ?_
    | refine ax_region rfl ?_)
  refine ax_callv rfl rfl rfl h1 ?_
  repeat (first
    | refine ax_q (q_move rfl) ?_
    | refine ax_q (q_assign rfl) ?_
    | refine ax_ops_nil ?_
    | refine ax_post_code ?_
    | refine ax_seq ?_
    | refine ax_region rfl ?_
    | refine ax_q (q_extract rfl rfl) ?_)
  refine ax_callv rfl rfl rfl h2 ?_
  repeat (first
    | refine ax_q (q_move rfl) ?_
    | refine ax_q (q_assign rfl) ?_
    | refine ax_ops_nil ?_
    | refine ax_post_code ?_
    | refine ax_q (q_extract rfl rfl) ?_)
  by_cases hsyn : p = false ∨ (ok = true ∧ q = false) ∨ (ng = true ∧ n = [48])
  · rw [if_pos hsyn] at hR
    cases p
    · repeat (first
        | refine ax_q (q_move rfl) ?_
        | refine ax_seq ?_
        | refine ax_region rfl ?_)
      refine ax_callv rfl rfl rfl h3 ?_
      repeat (first
        | refine ax_q (q_move rfl) ?_
        | refine ax_q (q_assign rfl) ?_
        | refine ax_ops_nil ?_
        | refine ax_post_code ?_
        | refine ax_seq ?_
        | refine ax_region rfl ?_
        | refine ax_skip_undef rfl rfl ?_
        | refine ax_skip_not rfl rfl rfl ?_
        | refine ax_cond_true rfl ?_
        | refine ax_return ?_
        | refine ax_ret_code ?_
        | refine ax_q (q_not rfl) ?_
        | refine ax_q (q_pick rfl rfl) ?_)
      exact ax_ret hR rfl rfl
    · cases ok
      · obtain ⟨hng, hn⟩ : ng = true ∧ n = [48] := by simpa using hsyn
        subst hng
        subst hn
        repeat (first
          | refine ax_q (q_move rfl) ?_
          | refine ax_seq ?_
          | refine ax_region rfl ?_)
        refine ax_callv rfl rfl rfl h3 ?_
        repeat (first
          | refine ax_q (q_move rfl) ?_
          | refine ax_q (q_assign rfl) ?_
          | refine ax_ops_nil ?_
          | refine ax_post_code ?_
          | refine ax_seq ?_
          | refine ax_region rfl ?_
          | refine ax_guard rfl rfl ?_
          | refine ax_skip_not rfl rfl rfl ?_
          | refine ax_cond_true rfl ?_
          | refine ax_return ?_
          | refine ax_ret_code ?_
          | refine ax_q (q_not rfl) ?_
          | refine ax_q (q_pick rfl rfl) ?_
          | refine ax_q (q_streql rfl rfl) ?_)
        exact ax_ret hR rfl rfl
      · cases q
        · repeat (first
            | refine ax_q (q_move rfl) ?_
            | refine ax_seq ?_
            | refine ax_region rfl ?_)
          refine ax_callv rfl rfl rfl h3 ?_
          repeat (first
            | refine ax_q (q_move rfl) ?_
            | refine ax_guard rfl rfl ?_
            | refine ax_q (q_not rfl) ?_)
          refine ax_callv rfl rfl rfl h4 ?_
          repeat (first
            | refine ax_q (q_move rfl) ?_
            | refine ax_q (q_assign rfl) ?_
            | refine ax_ops_nil ?_
            | refine ax_post_code ?_
            | refine ax_seq ?_
            | refine ax_region rfl ?_
            | refine ax_guard rfl rfl ?_
            | refine ax_skip_undef rfl rfl ?_
            | refine ax_skip_not rfl rfl rfl ?_
            | refine ax_cond_true rfl ?_
            | refine ax_return ?_
            | refine ax_ret_code ?_
            | refine ax_q (q_not rfl) ?_
            | refine ax_q (q_pick rfl rfl) ?_)
          exact ax_ret hR rfl rfl
        · obtain ⟨hng, hn⟩ : ng = true ∧ n = [48] := by simpa using hsyn
          subst hng
          subst hn
          repeat (first
            | refine ax_q (q_move rfl) ?_
            | refine ax_seq ?_
            | refine ax_region rfl ?_)
          refine ax_callv rfl rfl rfl h3 ?_
          repeat (first
            | refine ax_q (q_move rfl) ?_
            | refine ax_guard rfl rfl ?_
            | refine ax_q (q_not rfl) ?_)
          refine ax_callv rfl rfl rfl h4 ?_
          repeat (first
            | refine ax_q (q_move rfl) ?_
            | refine ax_q (q_assign rfl) ?_
            | refine ax_ops_nil ?_
            | refine ax_post_code ?_
            | refine ax_seq ?_
            | refine ax_region rfl ?_
            | refine ax_guard rfl rfl ?_
            | refine ax_cond_true rfl ?_
            | refine ax_return ?_
            | refine ax_ret_code ?_
            | refine ax_q (q_not rfl) ?_
            | refine ax_q (q_pick rfl rfl) ?_
            | refine ax_q (q_streql rfl rfl) ?_)
          exact ax_ret hR rfl rfl
  rw [if_neg hsyn] at hR
  apply ax_tail_code (H := []) [(5, .str n), (6, .str d), (7, .bool ok)]
  · intro fin
    cases p
    · exact absurd (.inl rfl) hsyn
    cases ok
    · cases ng
      · repeat (first
          | refine ax_q (q_move rfl) ?_
          | refine ax_seq ?_
          | refine ax_region rfl ?_)
        refine ax_callv rfl rfl rfl h3 ?_
        repeat (first
          | refine ax_q (q_move rfl) ?_
          | refine ax_ops_nil ?_
          | refine ax_post_code ?_
          | refine ax_guard rfl rfl ?_
          | refine ax_skip_not rfl rfl rfl ?_
          | refine ax_cond_false rfl ?_
          | refine ax_skip ?_
          | refine ax_q (q_not rfl) ?_
          | refine ax_q (q_pick rfl rfl) ?_)
        exact fin _ ⟨rfl, rfl, rfl, trivial⟩
      · repeat (first
          | refine ax_q (q_move rfl) ?_
          | refine ax_seq ?_
          | refine ax_region rfl ?_)
        refine ax_callv rfl rfl rfl h3 ?_
        repeat (first
          | refine ax_q (q_move rfl) ?_
          | refine ax_ops_nil ?_
          | refine ax_post_code ?_
          | refine ax_guard rfl rfl ?_
          | refine ax_skip_not rfl rfl rfl ?_
          | refine ax_q (q_not rfl) ?_
          | refine ax_q (q_pick rfl rfl) ?_
          | refine ax_q (q_streql rfl rfl) ?_)
        refine ax_cond_dec rfl (fun h0 => absurd (.inr (.inr ⟨rfl, h0⟩)) hsyn) (fun h0 => ?_)
        repeat (first
          | refine ax_post_code ?_
          | refine ax_skip ?_)
        exact fin _ ⟨rfl, rfl, rfl, trivial⟩
    · cases q
      · exact absurd (.inr (.inl ⟨rfl, rfl⟩)) hsyn
      cases ng
      · repeat (first
          | refine ax_q (q_move rfl) ?_
          | refine ax_seq ?_
          | refine ax_region rfl ?_)
        refine ax_callv rfl rfl rfl h3 ?_
        repeat (first
          | refine ax_q (q_move rfl) ?_
          | refine ax_guard rfl rfl ?_
          | refine ax_q (q_not rfl) ?_)
        refine ax_callv rfl rfl rfl h4 ?_
        repeat (first
          | refine ax_q (q_move rfl) ?_
          | refine ax_ops_nil ?_
          | refine ax_post_code ?_
          | refine ax_guard rfl rfl ?_
          | refine ax_skip_not rfl rfl rfl ?_
          | refine ax_cond_false rfl ?_
          | refine ax_skip ?_
          | refine ax_q (q_not rfl) ?_
          | refine ax_q (q_pick rfl rfl) ?_)
        exact fin _ ⟨rfl, rfl, rfl, trivial⟩
      · repeat (first
          | refine ax_q (q_move rfl) ?_
          | refine ax_seq ?_
          | refine ax_region rfl ?_)
        refine ax_callv rfl rfl rfl h3 ?_
        repeat (first
          | refine ax_q (q_move rfl) ?_
          | refine ax_guard rfl rfl ?_
          | refine ax_q (q_not rfl) ?_)
        refine ax_callv rfl rfl rfl h4 ?_
        repeat (first
          | refine ax_q (q_move rfl) ?_
          | refine ax_ops_nil ?_
          | refine ax_post_code ?_
          | refine ax_guard rfl rfl ?_
          | refine ax_q (q_not rfl) ?_
          | refine ax_q (q_pick rfl rfl) ?_
          | refine ax_q (q_streql rfl rfl) ?_)
        refine ax_cond_dec rfl (fun h0 => absurd (.inr (.inr ⟨rfl, h0⟩)) hsyn) (fun h0 => ?_)
        repeat (first
          | refine ax_post_code ?_
          | refine ax_skip ?_)
        exact fin _ ⟨rfl, rfl, rfl, trivial⟩
  by_cases hl : 2000 < n.length ∨ 2000 < d.length
  · rw [if_pos hl] at hR
    repeat (first
      | refine ax_q (q_move rfl) ?_
      | refine ax_seq ?_
      | refine ax_region rfl ?_
      | refine ax_q (q_gtr rfl rfl) ?_
      | refine ax_q (q_lenstr rfl rfl) ?_)
    refine ax_gsplit rfl rfl (fun h5 => ?_) (fun h5 => ?_)
    · repeat (first
        | refine ax_q (q_assign rfl) ?_
        | refine ax_ops_nil ?_
        | refine ax_post_code ?_
        | refine ax_seq ?_
        | refine ax_region rfl ?_
        | refine ax_skip_not rfl rfl rfl ?_
        | refine ax_cond_true rfl ?_
        | refine ax_return ?_
        | refine ax_ret_code ?_
        | refine ax_q (q_pick rfl rfl) ?_)
      exact ax_ret hR rfl rfl
    · repeat (first
        | refine ax_q (q_move rfl) ?_
        | refine ax_ops_nil ?_
        | refine ax_post_code ?_
        | refine ax_guard rfl rfl ?_
        | refine ax_q (q_gtr rfl rfl) ?_
        | refine ax_q (q_pick rfl rfl) ?_
        | refine ax_q (q_lenstr rfl rfl) ?_)
      refine ax_cond_dec rfl (fun h0 => ?_) (fun h0 => absurd hl (by omega))
      repeat (first
        | refine ax_q (q_assign rfl) ?_
        | refine ax_ops_nil ?_
        | refine ax_post_code ?_
        | refine ax_seq ?_
        | refine ax_region rfl ?_
        | refine ax_return ?_
        | refine ax_ret_code ?_)
      exact ax_ret hR rfl rfl
  rw [if_neg hl] at hR
  repeat (first
    | refine ax_q (q_move rfl) ?_
    | refine ax_seq ?_
    | refine ax_region rfl ?_
    | refine ax_q (q_gtr rfl rfl) ?_
    | refine ax_q (q_lenstr rfl rfl) ?_)
  refine ax_gsplit rfl rfl (fun h5 => absurd hl (by omega)) (fun h5 => ?_)
  repeat (first
    | refine ax_q (q_move rfl) ?_
    | refine ax_ops_nil ?_
    | refine ax_post_code ?_
    | refine ax_guard rfl rfl ?_
    | refine ax_q (q_gtr rfl rfl) ?_
    | refine ax_q (q_pick rfl rfl) ?_
    | refine ax_q (q_lenstr rfl rfl) ?_)
  refine ax_cond_dec rfl (fun h0 => absurd hl (by omega)) (fun h0 => ?_)
  cases ok
  · rw [if_neg (fun h => Bool.false_ne_true h.1)] at hR
    repeat (first
      | refine ax_q (q_move rfl) ?_
      | refine ax_q (q_assign rfl) ?_
      | refine ax_ops_nil ?_
      | refine ax_post_code ?_
      | refine ax_seq ?_
      | refine ax_region rfl ?_
      | refine ax_skip_undef rfl rfl ?_
      | refine ax_skip_not rfl rfl rfl ?_
      | refine ax_cond_false rfl ?_
      | refine ax_skip ?_
      | refine ax_return ?_
      | refine ax_q (q_pick rfl rfl) ?_)
    exact ax_ret hR rfl rfl
  have hp : p = true := by cases p; exact absurd (.inl rfl) hsyn; rfl
  have hq : q = true := by cases q; exact absurd (.inr (.inl ⟨rfl, rfl⟩)) hsyn; rfl
  have c1 := cn.1 hp
  have c2 := cd.1 hq
  have h6 := read_ok n c1.2.1 (by omega)
  have h7 := read_ok d c2.2.1 (by omega)
  have v1 : (natL (decV 0 n)).length ≤ 2000 := val_len c1 (by omega)
  have v2 : (natL (decV 0 d)).length ≤ 2000 := val_len c2 (by omega)
  have h8 := gcd_ok (decV 0 n) (decV 0 d) (by omega) (by omega)
  have h9 := one_ok (Nat.gcd (decV 0 n) (decV 0 d))
  repeat (first
    | refine ax_q (q_move rfl) ?_
    | refine ax_post_code ?_
    | refine ax_seq ?_
    | refine ax_region rfl ?_
    | refine ax_guard rfl rfl ?_
    | refine ax_skip ?_
    | refine ax_q (q_streql rfl rfl) ?_)
  refine ax_gsplit rfl rfl (fun h10 => ?_) (fun h10 => ?_)
  · rw [if_pos ⟨rfl, .inl h10⟩] at hR
    repeat (first
      | refine ax_q (q_move rfl) ?_
      | refine ax_q (q_assign rfl) ?_
      | refine ax_ops_nil ?_
      | refine ax_post_code ?_
      | refine ax_seq ?_
      | refine ax_region rfl ?_
      | refine ax_guard rfl rfl ?_
      | refine ax_skip_not rfl rfl rfl ?_
      | refine ax_cond_true rfl ?_
      | refine ax_return ?_
      | refine ax_ret_code ?_
      | refine ax_q (q_pick rfl rfl) ?_)
    exact ax_ret hR rfl rfl
  · repeat (first
      | refine ax_q (q_move rfl) ?_
      | refine ax_guard rfl rfl ?_
      | refine ax_q (q_pick rfl rfl) ?_
      | refine ax_q (q_streql rfl rfl) ?_)
    refine ax_gsplit rfl rfl (fun h11 => ?_) (fun h11 => ?_)
    · rw [if_pos ⟨rfl, .inr (.inl h11)⟩] at hR
      repeat (first
        | refine ax_q (q_assign rfl) ?_
        | refine ax_ops_nil ?_
        | refine ax_post_code ?_
        | refine ax_seq ?_
        | refine ax_region rfl ?_
        | refine ax_guard rfl rfl ?_
        | refine ax_skip_not rfl rfl rfl ?_
        | refine ax_cond_true rfl ?_
        | refine ax_return ?_
        | refine ax_ret_code ?_
        | refine ax_q (q_pick rfl rfl) ?_)
      exact ax_ret hR rfl rfl
    · by_cases hg : Nat.gcd (decV 0 n) (decV 0 d) = 1
      · rw [decide_eq_true hg] at h9
        rw [if_neg (fun h => by rcases h.2 with e | e | e; exact h10 e; exact h11 e; exact e hg)] at hR
        repeat (first
          | refine ax_q (q_move rfl) ?_
          | refine ax_guard rfl rfl ?_)
        refine ax_callv rfl rfl rfl h6 ?_
        repeat (first
          | refine ax_q (q_move rfl) ?_
          | refine ax_guard rfl rfl ?_)
        refine ax_callv rfl rfl rfl h7 ?_
        repeat (refine ax_guard rfl rfl ?_)
        refine ax_callv rfl rfl rfl h8 ?_
        repeat (refine ax_guard rfl rfl ?_)
        refine ax_callv rfl rfl rfl h9 ?_
        repeat (first
          | refine ax_q (q_assign rfl) ?_
          | refine ax_ops_nil ?_
          | refine ax_post_code ?_
          | refine ax_seq ?_
          | refine ax_region rfl ?_
          | refine ax_guard rfl rfl ?_
          | refine ax_cond_false rfl ?_
          | refine ax_skip ?_
          | refine ax_return ?_
          | refine ax_q (q_not rfl) ?_
          | refine ax_q (q_pick rfl rfl) ?_)
        exact ax_ret hR rfl rfl
      · rw [decide_eq_false hg] at h9
        rw [if_pos ⟨rfl, .inr (.inr hg)⟩] at hR
        repeat (first
          | refine ax_q (q_move rfl) ?_
          | refine ax_guard rfl rfl ?_)
        refine ax_callv rfl rfl rfl h6 ?_
        repeat (first
          | refine ax_q (q_move rfl) ?_
          | refine ax_guard rfl rfl ?_)
        refine ax_callv rfl rfl rfl h7 ?_
        repeat (refine ax_guard rfl rfl ?_)
        refine ax_callv rfl rfl rfl h8 ?_
        repeat (refine ax_guard rfl rfl ?_)
        refine ax_callv rfl rfl rfl h9 ?_
        repeat (first
          | refine ax_q (q_assign rfl) ?_
          | refine ax_ops_nil ?_
          | refine ax_post_code ?_
          | refine ax_seq ?_
          | refine ax_region rfl ?_
          | refine ax_guard rfl rfl ?_
          | refine ax_cond_true rfl ?_
          | refine ax_return ?_
          | refine ax_ret_code ?_
          | refine ax_q (q_not rfl) ?_
          | refine ax_q (q_pick rfl rfl) ?_)
        exact ax_ret hR rfl rfl
end Go.Proofs.YtbeegiiiochblaaGreatDoor

namespace Go.Proofs.YtbeegiiiochblaaGreatDoor
open Go.Ax Go.Ax.Bg Go.Ax.Rt Go.RowKit
attribute [local irreducible] Ax Post QOp ACall PureOp
set_option maxRecDepth 100000
set_option maxHeartbeats 4000000

theorem drop_cons {α : Type} {l : List α} {d : α} {k : Nat} (h : k < l.length) : l.drop k = l.getD k d :: l.drop (k + 1) := by
  rw [List.drop_eq_getElem_cons h]; simp [List.getD, h]
theorem checkAll_ok (l : List (List UInt8)) (hlen : l.length ≤ 9223372036854775807) (hs : ∀ s ∈ l, s.length ≤ 9223372036854775807) : VCall Tryz.prog 24 [.ro (.strs l) 0 l.length] (.int .i64 (allE l)) := by
  refine ACall.value0 (acall_of_ax (P := Tryz.prog) (fn := Tryz.f24) rfl rfl (by kernel_rfl) rfl (fun c hR hfix => ?_)) (fix := fun _ => False) (fun _ h => h) rfl rfl
  repeat (first
    | refine ax_q (q_move rfl) ?_
    | refine ax_q (q_assign rfl) ?_
    | refine ax_ops_nil ?_
    | refine ax_post_code ?_
    | refine ax_seq ?_
    | refine ax_region rfl ?_
    | refine ax_block ?_
    | refine ax_q (q_len rfl rfl rfl) ?_)
  refine ax_loop (ι := Nat) (fun k => [(0, .ro (.strs l) 0 l.length), (6, .ro (.strs l) 0 l.length), (7, .int .i64 (l.length : Nat)), (8, .int .i64 (k : Nat))]) (fun _ => [])
    (fun k => k ≤ l.length ∧ allE l = allE (l.drop k)) (fun k => l.length - k) 0 ⟨⟨rfl, rfl, rfl, rfl, trivial⟩, rfl, Nat.zero_le _, by rw [List.drop_zero]⟩ ?_
  intro k ⟨hk, hE⟩
  repeat (first
    | refine ax_ops_nil ?_
    | refine ax_post_code ?_
    | refine ax_seq ?_
    | refine ax_region rfl ?_
    | refine ax_q (q_lss rfl rfl) ?_)
  refine ax_cond_dec rfl (fun h => ?_) (fun h => ?_)
  · have hk' : k < l.length := by omega
    have hd := drop_cons (d := []) hk'
    have hc := rcheck_ok (l.getD k []) (hs _ (getD_mem [] hk'))
    rw [hd, allE] at hE
    repeat (first
      | refine ax_q (q_move rfl) ?_
      | refine ax_q (q_assign rfl) ?_
      | refine ax_ops_nil ?_
      | refine ax_post_code ?_
      | refine ax_seq ?_
      | refine ax_region rfl ?_
      | refine ax_block ?_
      | refine ax_skip ?_
      | refine ax_q (q_loads_rp rfl rfl rfl) ?_
      | refine ax_q (q_index_ro' rfl rfl rfl rfl (by first | (simp only [Nat.zero_add, Int.toNat_natCast, Int.toNat_zero]; exact rfl) | exact rfl) (by omega)) ?_)
    refine ax_callv rfl rfl rfl hc ?_
    repeat (first
      | refine ax_q (q_move rfl) ?_
      | refine ax_q (q_assign rfl) ?_
      | refine ax_ops_nil ?_
      | refine ax_post_code ?_
      | refine ax_seq ?_
      | refine ax_region rfl ?_
      | refine ax_q (q_neq rfl rfl) ?_)
    refine ax_cond_dec rfl (fun h2 => ?_) (fun h2 => ?_)
    · rw [if_neg h2] at hE
      repeat (first
        | refine ax_q (q_move rfl) ?_
        | refine ax_q (q_assign rfl) ?_
        | refine ax_ops_nil ?_
        | refine ax_post_code ?_
        | refine ax_seq ?_
        | refine ax_region rfl ?_
        | refine ax_return ?_
        | refine ax_ret_code ?_
        | refine ax_ret_blk ?_
        | refine ax_ret_inv ?_)
      refine ax_ret hR rfl ?_
      rw [hE]; rfl
    · rw [if_pos (Classical.not_not.1 h2)] at hE
      repeat (first
        | refine ax_q (q_move rfl) ?_
        | refine ax_ops_nil ?_
        | refine ax_post_code ?_
        | refine ax_region rfl ?_
        | refine ax_post_blk ?_
        | refine ax_skip ?_
        | refine ax_q (q_add rfl rfl (by omega)) ?_)
      refine ax_post_inv ⟨k + 1, ⟨by omega, hE⟩, by omega, ⟨rfl, rfl, rfl, rfl, trivial⟩, rfl⟩
  · have hk' : k = l.length := by omega
    subst hk'
    rw [List.drop_length] at hE
    repeat (first
      | refine ax_q (q_assign rfl) ?_
      | refine ax_ops_nil ?_
      | refine ax_post_code ?_
      | refine ax_seq ?_
      | refine ax_region rfl ?_
      | refine ax_exit ?_
      | refine ax_exit_here ?_
      | refine ax_exit_code ?_
      | refine ax_exit_inv ?_
      | refine ax_return ?_)
    refine ax_ret hR rfl ?_
    rw [hE]; rfl
theorem sz_v {s : List UInt8} (h : ratE s = 0) : Sz 2000 (ratV s) := by
  have hp := rat_parts h
  refine ⟨?_, ?_⟩
  · rw [hp.num, sgnI_abs]; exact val_len hp.cn hp.ln
  · rw [hp.den]
    cases e : hasD s
    · rw [den_one e, natL_one]; decide
    · rw [den_some e]; exact val_len (hp.cd e).1 hp.ld
theorem Sz.mono {j k : Nat} {q : Rat} (h : Sz j q) (hk : j ≤ k) : Sz k q := ⟨Nat.le_trans h.1 hk, Nat.le_trans h.2 hk⟩
theorem sz_frac {n d : Int} {k : Nat} (hd : d ≠ 0) (h1 : (natL n.natAbs).length ≤ k) (h2 : (natL d.natAbs).length ≤ k) : Sz k (Rat.divInt n d) := by
  obtain ⟨e1, e2, _⟩ := frac_parts n d hd
  refine ⟨?_, ?_⟩
  · rw [e1]; exact natL_le_len (Nat.div_le_self _ _) h1
  · rw [e2]; exact natL_le_len (Nat.div_le_self _ _) h2
theorem sz_add {p q : Rat} {k : Nat} (hp : Sz k p) (hq : Sz k q) : Sz (k + k + 1) (p + q) := by
  have l1 : (natL (q.den : Int).natAbs).length ≤ k := hq.2
  have l2 : (natL (p.den : Int).natAbs).length ≤ k := hp.2
  rw [← add_frac]
  refine sz_frac (by have := Nat.mul_ne_zero p.den_nz q.den_nz; omega) (iadd_len (imul_len hp.1 l1) (imul_len hq.1 l2)) ?_
  rw [Int.natAbs_natCast]
  have := len_mul hp.2 hq.2
  omega
theorem sz_sub {p q : Rat} {k : Nat} (hp : Sz k p) (hq : Sz k q) : Sz (k + k + 1) (p - q) := by
  rw [Rat.sub_eq_add_neg]; exact sz_add hp (sz_neg hq)
theorem sz_mul {p q : Rat} {k : Nat} (hp : Sz k p) (hq : Sz k q) : Sz (k + k + 1) (p * q) := by
  rw [← mul_frac]
  refine sz_frac (by have := Nat.mul_ne_zero p.den_nz q.den_nz; omega) (by have := imul_len hp.1 hq.1; omega) ?_
  rw [Int.natAbs_natCast]
  have := len_mul hp.2 hq.2
  omega
theorem sz_div {p q : Rat} {k : Nat} (hp : Sz k p) (hq : Sz k q) (h0 : q ≠ 0) : Sz (k + k + 1) (p / q) := by
  have l1 : (natL (q.den : Int).natAbs).length ≤ k := hq.2
  have l2 : (natL (p.den : Int).natAbs).length ≤ k := hp.2
  have hn : q.num ≠ 0 := fun h => h0 (Rat.num_eq_zero.1 h)
  rw [← div_frac p q h0]
  refine sz_frac (Int.mul_ne_zero hn (den_ne p)) (by have := imul_len hp.1 l1; omega) (by have := imul_len hq.1 l2; omega)
theorem sz_floor {p : Rat} {k : Nat} (hp : Sz k p) (hk : 1 ≤ k) : Sz (k + 1) (p.floor : Rat) := by
  refine ⟨?_, by show (natL 1).length ≤ _; rw [natL_one]; simp⟩
  show (natL p.floor.natAbs).length ≤ _
  have h : p.floor.natAbs ≤ p.num.natAbs + 1 := by
    rw [floor_parts]
    have := Nat.div_le_self p.num.natAbs p.den
    generalize p.num.natAbs / p.den = w at *
    generalize p.num.natAbs = m at *
    split
    · omega
    · split <;> omega
  exact natL_le_len h (len_add hp.1 (by rw [natL_one]; simpa using hk))
theorem rtwo_ok (a b : List UInt8) (ha : a.length ≤ 9223372036854775807) (hb : b.length ≤ 9223372036854775807) (g : FuncId) (F : Rat → Rat → Rat) (hF : allE [a, b] = 0 → VCall Tryz.prog g [qA (ratV a), qA (ratV b)] (qA (F (ratV a) (ratV b))) ∧ Sz 100000 (F (ratV a) (ratV b))) : VCall Tryz.prog 55 [.str a, .str b, .fn g []] (pairA (twoR F a b)) := by
  have h1 := checkAll_ok [a, b] (by show 2 ≤ _; decide) (by intro s hs; simp at hs; rcases hs with rfl | rfl <;> assumption)
  unfold twoR
  by_cases hE : allE [a, b] = 0
  · obtain ⟨h2, hz⟩ := hF hE
    rw [if_pos hE]
    rw [hE] at h1
    have ea := allE_mem hE a (by simp)
    have eb := allE_mem hE b (by simp)
    have h3 := parse_ok a ha ea
    have h4 := parse_ok b hb eb
    have h5 := out_ok _ hz
    refine ACall.value0 (acall_of_ax (P := Tryz.prog) (fn := Tryz.f55) rfl rfl (by kernel_rfl) rfl (fun c hR hfix => ?_)) (fix := fun _ => False) (fun _ h => h) rfl rfl
    generalize outF (F (ratV a) (ratV b)) = r at *
    unfold pairA at *
    repeat (first
      | refine ax_q (q_move rfl) ?_
      | refine ax_q (q_assign rfl) ?_
      | refine ax_ops_nil ?_
      | refine ax_post_code ?_
      | refine ax_seq ?_
      | refine ax_region rfl ?_
      | refine ax_buildSliceRo rfl rfl rfl rfl rfl rfl rfl rfl rfl rfl rfl ?_)
    refine ax_callv rfl rfl rfl h1 ?_
    repeat (first
      | refine ax_q (q_move rfl) ?_
      | refine ax_q (q_assign rfl) ?_
      | refine ax_ops_nil ?_
      | refine ax_post_code ?_
      | refine ax_seq ?_
      | refine ax_region rfl ?_
      | refine ax_cond_false rfl ?_
      | refine ax_skip ?_
      | refine ax_q (q_neq rfl rfl) ?_)
    refine ax_callv rfl rfl rfl h3 ?_
    repeat (refine ax_q (q_move rfl) ?_)
    refine ax_callv rfl rfl rfl h4 ?_
    skip
    refine ax_callv rfl rfl rfl h2 ?_
    skip
    refine ax_callv rfl rfl rfl h5 ?_
    repeat (first
      | refine ax_q (q_assign rfl) ?_
      | refine ax_ops_nil ?_
      | refine ax_post_code ?_
      | refine ax_return ?_
      | refine ax_q (q_extract rfl rfl) ?_)
    exact ax_ret hR rfl rfl
  · rw [if_neg hE]
    generalize allE [a, b] = e at *
    refine ACall.value0 (acall_of_ax (P := Tryz.prog) (fn := Tryz.f55) rfl rfl (by kernel_rfl) rfl (fun c hR hfix => ?_)) (fix := fun _ => False) (fun _ h => h) rfl rfl
    repeat (first
      | refine ax_q (q_move rfl) ?_
      | refine ax_q (q_assign rfl) ?_
      | refine ax_ops_nil ?_
      | refine ax_post_code ?_
      | refine ax_seq ?_
      | refine ax_region rfl ?_
      | refine ax_buildSliceRo rfl rfl rfl rfl rfl rfl rfl rfl rfl rfl rfl ?_)
    refine ax_callv rfl rfl rfl h1 ?_
    repeat (first
      | refine ax_q (q_move rfl) ?_
      | refine ax_q (q_assign rfl) ?_
      | refine ax_ops_nil ?_
      | refine ax_post_code ?_
      | refine ax_seq ?_
      | refine ax_region rfl ?_
      | refine ax_q (q_neq rfl rfl) ?_)
    refine ax_cond_dec rfl (fun h2 => ?_) (fun h2 => absurd hE h2)
    repeat (first
      | refine ax_q (q_move rfl) ?_
      | refine ax_q (q_assign rfl) ?_
      | refine ax_ops_nil ?_
      | refine ax_post_code ?_
      | refine ax_seq ?_
      | refine ax_region rfl ?_
      | refine ax_return ?_
      | refine ax_ret_code ?_)
    exact ax_ret hR rfl rfl
theorem rone_ok (a : List UInt8) (ha : a.length ≤ 9223372036854775807) (g : FuncId) (F : Rat → Rat) (hF : ratE a = 0 → VCall Tryz.prog g [qA (ratV a)] (qA (F (ratV a))) ∧ Sz 100000 (F (ratV a))) : VCall Tryz.prog 63 [.str a, .fn g []] (pairA (oneR F a)) := by
  have h1 := rcheck_ok a ha
  unfold oneR
  by_cases hE : ratE a = 0
  · obtain ⟨h2, hz⟩ := hF hE
    rw [if_pos hE]
    have h3 := parse_ok a ha hE
    rw [hE] at h1
    have h5 := out_ok _ hz
    refine ACall.value0 (acall_of_ax (P := Tryz.prog) (fn := Tryz.f63) rfl rfl (by kernel_rfl) rfl (fun c hR hfix => ?_)) (fix := fun _ => False) (fun _ h => h) rfl rfl
    generalize outF (F (ratV a)) = r at *
    unfold pairA at *
    repeat (first
      | refine ax_q (q_move rfl) ?_
      | refine ax_q (q_assign rfl) ?_
      | refine ax_ops_nil ?_
      | refine ax_post_code ?_
      | refine ax_seq ?_
      | refine ax_region rfl ?_)
    refine ax_callv rfl rfl rfl h1 ?_
    repeat (first
      | refine ax_q (q_move rfl) ?_
      | refine ax_q (q_assign rfl) ?_
      | refine ax_ops_nil ?_
      | refine ax_post_code ?_
      | refine ax_seq ?_
      | refine ax_region rfl ?_
      | refine ax_cond_false rfl ?_
      | refine ax_skip ?_
      | refine ax_q (q_neq rfl rfl) ?_)
    refine ax_callv rfl rfl rfl h3 ?_
    skip
    refine ax_callv rfl rfl rfl h2 ?_
    skip
    refine ax_callv rfl rfl rfl h5 ?_
    repeat (first
      | refine ax_q (q_assign rfl) ?_
      | refine ax_ops_nil ?_
      | refine ax_post_code ?_
      | refine ax_return ?_
      | refine ax_q (q_extract rfl rfl) ?_)
    exact ax_ret hR rfl rfl
  · rw [if_neg hE]
    generalize ratE a = e at *
    refine ACall.value0 (acall_of_ax (P := Tryz.prog) (fn := Tryz.f63) rfl rfl (by kernel_rfl) rfl (fun c hR hfix => ?_)) (fix := fun _ => False) (fun _ h => h) rfl rfl
    repeat (first
      | refine ax_q (q_move rfl) ?_
      | refine ax_q (q_assign rfl) ?_
      | refine ax_ops_nil ?_
      | refine ax_post_code ?_
      | refine ax_seq ?_
      | refine ax_region rfl ?_)
    refine ax_callv rfl rfl rfl h1 ?_
    repeat (first
      | refine ax_q (q_move rfl) ?_
      | refine ax_q (q_assign rfl) ?_
      | refine ax_ops_nil ?_
      | refine ax_post_code ?_
      | refine ax_seq ?_
      | refine ax_region rfl ?_
      | refine ax_q (q_neq rfl rfl) ?_)
    refine ax_cond_dec rfl (fun h2 => ?_) (fun h2 => absurd hE h2)
    repeat (first
      | refine ax_q (q_move rfl) ?_
      | refine ax_q (q_assign rfl) ?_
      | refine ax_ops_nil ?_
      | refine ax_post_code ?_
      | refine ax_seq ?_
      | refine ax_region rfl ?_
      | refine ax_return ?_
      | refine ax_ret_code ?_)
    exact ax_ret hR rfl rfl
theorem radd_ok (a b : List UInt8) (ha : a.length ≤ 9223372036854775807) (hb : b.length ≤ 9223372036854775807) : VCall Tryz.prog 25 [.str a, .str b] (pairA (twoR (fun x y => x + y) a b)) := by
  have h1 := rtwo_ok a b ha hb 56 (fun x y => x + y) (fun hE => by
    have za := sz_v (allE_mem hE a (by simp))
    have zb := sz_v (allE_mem hE b (by simp))
    exact ⟨qadd_ok _ _ (za.mono (by decide)) (zb.mono (by decide)), (sz_add za zb).mono (by decide)⟩)
  refine ACall.value0 (acall_of_ax (P := Tryz.prog) (fn := Tryz.f25) rfl rfl (by kernel_rfl) rfl (fun c hR hfix => ?_)) (fix := fun _ => False) (fun _ h => h) rfl rfl
  generalize twoR (fun x y => x + y) a b = r at *
  unfold pairA at *
  repeat (first
    | refine ax_q (q_move rfl) ?_
    | refine ax_q (q_assign rfl) ?_
    | refine ax_ops_nil ?_
    | refine ax_post_code ?_
    | refine ax_seq ?_
    | refine ax_region rfl ?_)
  refine ax_callv rfl rfl rfl h1 ?_
  repeat (first
    | refine ax_q (q_assign rfl) ?_
    | refine ax_ops_nil ?_
    | refine ax_post_code ?_
    | refine ax_return ?_
    | refine ax_q (q_extract rfl rfl) ?_)
  exact ax_ret hR rfl rfl
theorem rsub_ok (a b : List UInt8) (ha : a.length ≤ 9223372036854775807) (hb : b.length ≤ 9223372036854775807) : VCall Tryz.prog 27 [.str a, .str b] (pairA (twoR (fun x y => x - y) a b)) := by
  have h1 := rtwo_ok a b ha hb 58 (fun x y => x - y) (fun hE => by
    have za := sz_v (allE_mem hE a (by simp))
    have zb := sz_v (allE_mem hE b (by simp))
    exact ⟨qsub_ok _ _ (za.mono (by decide)) (zb.mono (by decide)), (sz_sub za zb).mono (by decide)⟩)
  refine ACall.value0 (acall_of_ax (P := Tryz.prog) (fn := Tryz.f27) rfl rfl (by kernel_rfl) rfl (fun c hR hfix => ?_)) (fix := fun _ => False) (fun _ h => h) rfl rfl
  generalize twoR (fun x y => x - y) a b = r at *
  unfold pairA at *
  repeat (first
    | refine ax_q (q_move rfl) ?_
    | refine ax_q (q_assign rfl) ?_
    | refine ax_ops_nil ?_
    | refine ax_post_code ?_
    | refine ax_seq ?_
    | refine ax_region rfl ?_)
  refine ax_callv rfl rfl rfl h1 ?_
  repeat (first
    | refine ax_q (q_assign rfl) ?_
    | refine ax_ops_nil ?_
    | refine ax_post_code ?_
    | refine ax_return ?_
    | refine ax_q (q_extract rfl rfl) ?_)
  exact ax_ret hR rfl rfl
theorem rmul_ok (a b : List UInt8) (ha : a.length ≤ 9223372036854775807) (hb : b.length ≤ 9223372036854775807) : VCall Tryz.prog 26 [.str a, .str b] (pairA (twoR (fun x y => x * y) a b)) := by
  have h1 := rtwo_ok a b ha hb 57 (fun x y => x * y) (fun hE => by
    have za := sz_v (allE_mem hE a (by simp))
    have zb := sz_v (allE_mem hE b (by simp))
    exact ⟨qmul_ok _ _ (za.mono (by decide)) (zb.mono (by decide)), (sz_mul za zb).mono (by decide)⟩)
  refine ACall.value0 (acall_of_ax (P := Tryz.prog) (fn := Tryz.f26) rfl rfl (by kernel_rfl) rfl (fun c hR hfix => ?_)) (fix := fun _ => False) (fun _ h => h) rfl rfl
  generalize twoR (fun x y => x * y) a b = r at *
  unfold pairA at *
  repeat (first
    | refine ax_q (q_move rfl) ?_
    | refine ax_q (q_assign rfl) ?_
    | refine ax_ops_nil ?_
    | refine ax_post_code ?_
    | refine ax_seq ?_
    | refine ax_region rfl ?_)
  refine ax_callv rfl rfl rfl h1 ?_
  repeat (first
    | refine ax_q (q_assign rfl) ?_
    | refine ax_ops_nil ?_
    | refine ax_post_code ?_
    | refine ax_return ?_
    | refine ax_q (q_extract rfl rfl) ?_)
  exact ax_ret hR rfl rfl
theorem rneg_ok (a : List UInt8) (ha : a.length ≤ 9223372036854775807) : VCall Tryz.prog 31 [.str a] (pairA (oneR (fun x => -x) a)) := by
  have h1 := rone_ok a ha 64 (fun x => -x) (fun hE => by
    have za := sz_v hE
    exact ⟨qopp_ok _, (sz_neg za).mono (by decide)⟩)
  refine ACall.value0 (acall_of_ax (P := Tryz.prog) (fn := Tryz.f31) rfl rfl (by kernel_rfl) rfl (fun c hR hfix => ?_)) (fix := fun _ => False) (fun _ h => h) rfl rfl
  generalize oneR (fun x => -x) a = r at *
  unfold pairA at *
  repeat (first
    | refine ax_q (q_move rfl) ?_
    | refine ax_q (q_assign rfl) ?_
    | refine ax_ops_nil ?_
    | refine ax_post_code ?_
    | refine ax_seq ?_
    | refine ax_region rfl ?_)
  refine ax_callv rfl rfl rfl h1 ?_
  repeat (first
    | refine ax_q (q_assign rfl) ?_
    | refine ax_ops_nil ?_
    | refine ax_post_code ?_
    | refine ax_return ?_
    | refine ax_q (q_extract rfl rfl) ?_)
  exact ax_ret hR rfl rfl
theorem rfloor_ok (a : List UInt8) (ha : a.length ≤ 9223372036854775807) : VCall Tryz.prog 32 [.str a] (pairA (oneR (fun x => (x.floor : Rat)) a)) := by
  have h1 := rone_ok a ha 65 (fun x => (x.floor : Rat)) (fun hE => by
    have za := sz_v hE
    exact ⟨qfloor_ok _ (za.mono (by decide)), (sz_floor za (by decide)).mono (by decide)⟩)
  refine ACall.value0 (acall_of_ax (P := Tryz.prog) (fn := Tryz.f32) rfl rfl (by kernel_rfl) rfl (fun c hR hfix => ?_)) (fix := fun _ => False) (fun _ h => h) rfl rfl
  generalize oneR (fun x => (x.floor : Rat)) a = r at *
  unfold pairA at *
  repeat (first
    | refine ax_q (q_move rfl) ?_
    | refine ax_q (q_assign rfl) ?_
    | refine ax_ops_nil ?_
    | refine ax_post_code ?_
    | refine ax_seq ?_
    | refine ax_region rfl ?_)
  refine ax_callv rfl rfl rfl h1 ?_
  repeat (first
    | refine ax_q (q_assign rfl) ?_
    | refine ax_ops_nil ?_
    | refine ax_post_code ?_
    | refine ax_return ?_
    | refine ax_q (q_extract rfl rfl) ?_)
  exact ax_ret hR rfl rfl
theorem rdiv_ok (a b : List UInt8) (ha : a.length ≤ 9223372036854775807) (hb : b.length ≤ 9223372036854775807) : VCall Tryz.prog 28 [.str a, .str b] (pairA (divR a b)) := by
  have h1 := checkAll_ok [a, b] (by show 2 ≤ _; decide) (by intro s hs; simp at hs; rcases hs with rfl | rfl <;> assumption)
  unfold divR
  by_cases hE : allE [a, b] = 0
  · rw [if_pos hE]
    rw [hE] at h1
    by_cases h0 : b = [48]
    · rw [if_pos h0]
      subst h0
      refine ACall.value0 (acall_of_ax (P := Tryz.prog) (fn := Tryz.f28) rfl rfl (by kernel_rfl) rfl (fun c hR hfix => ?_)) (fix := fun _ => False) (fun _ h => h) rfl rfl
      repeat (first
        | refine ax_q (q_move rfl) ?_
        | refine ax_q (q_assign rfl) ?_
        | refine ax_ops_nil ?_
        | refine ax_post_code ?_
        | refine ax_seq ?_
        | refine ax_region rfl ?_
        | refine ax_buildSliceRo rfl rfl rfl rfl rfl rfl rfl rfl rfl rfl rfl ?_)
      refine ax_callv rfl rfl rfl h1 ?_
      repeat (first
        | refine ax_q (q_move rfl) ?_
        | refine ax_q (q_assign rfl) ?_
        | refine ax_ops_nil ?_
        | refine ax_post_code ?_
        | refine ax_seq ?_
        | refine ax_region rfl ?_
        | refine ax_cond_true rfl ?_
        | refine ax_cond_false rfl ?_
        | refine ax_skip ?_
        | refine ax_return ?_
        | refine ax_ret_code ?_
        | refine ax_q (q_neq rfl rfl) ?_
        | refine ax_q (q_streql rfl rfl) ?_)
      exact ax_ret hR rfl rfl
    · rw [if_neg h0]
      have h2 := rtwo_ok a b ha hb 59 (fun x y => x / y) (fun hE => by
        have za := sz_v (allE_mem hE a (by simp))
        have zb := sz_v (allE_mem hE b (by simp))
        have hn : ratV b ≠ 0 := fun e => h0 ((Parts.zero (allE_mem hE b (by simp))).1 e)
        exact ⟨qdiv_ok _ _ (za.mono (by decide)) (zb.mono (by decide)) hn, (sz_div za zb hn).mono (by decide)⟩)
      unfold twoR at h2
      rw [if_pos hE] at h2
      refine ACall.value0 (acall_of_ax (P := Tryz.prog) (fn := Tryz.f28) rfl rfl (by kernel_rfl) rfl (fun c hR hfix => ?_)) (fix := fun _ => False) (fun _ h => h) rfl rfl
      generalize outF (ratV a / ratV b) = r at *
      unfold pairA at *
      repeat (first
        | refine ax_q (q_move rfl) ?_
        | refine ax_q (q_assign rfl) ?_
        | refine ax_ops_nil ?_
        | refine ax_post_code ?_
        | refine ax_seq ?_
        | refine ax_region rfl ?_
        | refine ax_buildSliceRo rfl rfl rfl rfl rfl rfl rfl rfl rfl rfl rfl ?_)
      refine ax_callv rfl rfl rfl h1 ?_
      repeat (first
        | refine ax_q (q_move rfl) ?_
        | refine ax_q (q_assign rfl) ?_
        | refine ax_ops_nil ?_
        | refine ax_post_code ?_
        | refine ax_seq ?_
        | refine ax_region rfl ?_
        | refine ax_cond_false rfl ?_
        | refine ax_skip ?_
        | refine ax_q (q_neq rfl rfl) ?_
        | refine ax_q (q_streql rfl rfl) ?_)
      refine ax_cond_dec rfl (fun h3 => absurd h3 h0) (fun h3 => ?_)
      repeat (first
        | refine ax_q (q_move rfl) ?_
        | refine ax_post_code ?_
        | refine ax_seq ?_
        | refine ax_region rfl ?_
        | refine ax_skip ?_)
      refine ax_callv rfl rfl rfl h2 ?_
      repeat (first
        | refine ax_q (q_assign rfl) ?_
        | refine ax_ops_nil ?_
        | refine ax_post_code ?_
        | refine ax_return ?_
        | refine ax_q (q_extract rfl rfl) ?_)
      exact ax_ret hR rfl rfl
  · rw [if_neg hE]
    generalize allE [a, b] = e at *
    refine ACall.value0 (acall_of_ax (P := Tryz.prog) (fn := Tryz.f28) rfl rfl (by kernel_rfl) rfl (fun c hR hfix => ?_)) (fix := fun _ => False) (fun _ h => h) rfl rfl
    repeat (first
      | refine ax_q (q_move rfl) ?_
      | refine ax_q (q_assign rfl) ?_
      | refine ax_ops_nil ?_
      | refine ax_post_code ?_
      | refine ax_seq ?_
      | refine ax_region rfl ?_
      | refine ax_buildSliceRo rfl rfl rfl rfl rfl rfl rfl rfl rfl rfl rfl ?_)
    refine ax_callv rfl rfl rfl h1 ?_
    repeat (first
      | refine ax_q (q_move rfl) ?_
      | refine ax_q (q_assign rfl) ?_
      | refine ax_ops_nil ?_
      | refine ax_post_code ?_
      | refine ax_seq ?_
      | refine ax_region rfl ?_
      | refine ax_q (q_neq rfl rfl) ?_)
    refine ax_cond_dec rfl (fun h2 => ?_) (fun h2 => absurd hE h2)
    repeat (first
      | refine ax_q (q_move rfl) ?_
      | refine ax_q (q_assign rfl) ?_
      | refine ax_ops_nil ?_
      | refine ax_post_code ?_
      | refine ax_seq ?_
      | refine ax_region rfl ?_
      | refine ax_return ?_
      | refine ax_ret_code ?_)
    exact ax_ret hR rfl rfl
theorem rcmp_ok (a b : List UInt8) (ha : a.length ≤ 9223372036854775807) (hb : b.length ≤ 9223372036854775807) : VCall Tryz.prog 29 [.str a, .str b] (.tup [.int .i64 (cmpR a b).1, .int .i64 (cmpR a b).2]) := by
  have h1 := checkAll_ok [a, b] (by show 2 ≤ _; decide) (by intro s hs; simp at hs; rcases hs with rfl | rfl <;> assumption)
  unfold cmpR
  by_cases hE : allE [a, b] = 0
  · rw [if_pos hE]
    rw [hE] at h1
    have ea := allE_mem hE a (by simp)
    have eb := allE_mem hE b (by simp)
    have h3 := parse_ok a ha ea
    have h4 := parse_ok b hb eb
    have h5 := qcmp_ok _ _ ((sz_v ea).mono (by decide)) ((sz_v eb).mono (by decide))
    refine ACall.value0 (acall_of_ax (P := Tryz.prog) (fn := Tryz.f29) rfl rfl (by kernel_rfl) rfl (fun c hR hfix => ?_)) (fix := fun _ => False) (fun _ h => h) rfl rfl
    repeat (first
      | refine ax_q (q_move rfl) ?_
      | refine ax_q (q_assign rfl) ?_
      | refine ax_ops_nil ?_
      | refine ax_post_code ?_
      | refine ax_seq ?_
      | refine ax_region rfl ?_
      | refine ax_buildSliceRo rfl rfl rfl rfl rfl rfl rfl rfl rfl rfl rfl ?_)
    refine ax_callv rfl rfl rfl h1 ?_
    repeat (first
      | refine ax_q (q_move rfl) ?_
      | refine ax_q (q_assign rfl) ?_
      | refine ax_ops_nil ?_
      | refine ax_post_code ?_
      | refine ax_seq ?_
      | refine ax_region rfl ?_
      | refine ax_cond_false rfl ?_
      | refine ax_skip ?_
      | refine ax_q (q_neq rfl rfl) ?_)
    refine ax_callv rfl rfl rfl h3 ?_
    repeat (refine ax_q (q_move rfl) ?_)
    refine ax_callv rfl rfl rfl h4 ?_
    skip
    refine ax_callv rfl rfl rfl h5 ?_
    repeat (first
      | refine ax_q (q_assign rfl) ?_
      | refine ax_ops_nil ?_
      | refine ax_post_code ?_
      | refine ax_return ?_)
    exact ax_ret hR rfl rfl
  · rw [if_neg hE]
    generalize allE [a, b] = e at *
    refine ACall.value0 (acall_of_ax (P := Tryz.prog) (fn := Tryz.f29) rfl rfl (by kernel_rfl) rfl (fun c hR hfix => ?_)) (fix := fun _ => False) (fun _ h => h) rfl rfl
    repeat (first
      | refine ax_q (q_move rfl) ?_
      | refine ax_q (q_assign rfl) ?_
      | refine ax_ops_nil ?_
      | refine ax_post_code ?_
      | refine ax_seq ?_
      | refine ax_region rfl ?_
      | refine ax_buildSliceRo rfl rfl rfl rfl rfl rfl rfl rfl rfl rfl rfl ?_)
    refine ax_callv rfl rfl rfl h1 ?_
    repeat (first
      | refine ax_q (q_move rfl) ?_
      | refine ax_q (q_assign rfl) ?_
      | refine ax_ops_nil ?_
      | refine ax_post_code ?_
      | refine ax_seq ?_
      | refine ax_region rfl ?_
      | refine ax_q (q_neq rfl rfl) ?_)
    refine ax_cond_dec rfl (fun h2 => ?_) (fun h2 => absurd hE h2)
    repeat (first
      | refine ax_q (q_move rfl) ?_
      | refine ax_q (q_assign rfl) ?_
      | refine ax_ops_nil ?_
      | refine ax_post_code ?_
      | refine ax_seq ?_
      | refine ax_region rfl ?_
      | refine ax_return ?_
      | refine ax_ret_code ?_)
    exact ax_ret hR rfl rfl
theorem rsign_ok (a : List UInt8) (ha : a.length ≤ 9223372036854775807) : VCall Tryz.prog 30 [.str a] (.tup [.int .i64 (signR a).1, .int .i64 (signR a).2]) := by
  have h1 := rcheck_ok a ha
  unfold signR
  by_cases hE : ratE a = 0
  · rw [if_pos hE]
    have h3 := parse_ok a ha hE
    rw [hE] at h1
    have h5 := qsign_ok (ratV a)
    refine ACall.value0 (acall_of_ax (P := Tryz.prog) (fn := Tryz.f30) rfl rfl (by kernel_rfl) rfl (fun c hR hfix => ?_)) (fix := fun _ => False) (fun _ h => h) rfl rfl
    repeat (first
      | refine ax_q (q_move rfl) ?_
      | refine ax_q (q_assign rfl) ?_
      | refine ax_ops_nil ?_
      | refine ax_post_code ?_
      | refine ax_seq ?_
      | refine ax_region rfl ?_)
    refine ax_callv rfl rfl rfl h1 ?_
    repeat (first
      | refine ax_q (q_move rfl) ?_
      | refine ax_q (q_assign rfl) ?_
      | refine ax_ops_nil ?_
      | refine ax_post_code ?_
      | refine ax_seq ?_
      | refine ax_region rfl ?_
      | refine ax_cond_false rfl ?_
      | refine ax_skip ?_
      | refine ax_q (q_neq rfl rfl) ?_)
    refine ax_callv rfl rfl rfl h3 ?_
    skip
    refine ax_callv rfl rfl rfl h5 ?_
    repeat (first
      | refine ax_q (q_assign rfl) ?_
      | refine ax_ops_nil ?_
      | refine ax_post_code ?_
      | refine ax_return ?_)
    exact ax_ret hR rfl rfl
  · rw [if_neg hE]
    generalize ratE a = e at *
    refine ACall.value0 (acall_of_ax (P := Tryz.prog) (fn := Tryz.f30) rfl rfl (by kernel_rfl) rfl (fun c hR hfix => ?_)) (fix := fun _ => False) (fun _ h => h) rfl rfl
    repeat (first
      | refine ax_q (q_move rfl) ?_
      | refine ax_q (q_assign rfl) ?_
      | refine ax_ops_nil ?_
      | refine ax_post_code ?_
      | refine ax_seq ?_
      | refine ax_region rfl ?_)
    refine ax_callv rfl rfl rfl h1 ?_
    repeat (first
      | refine ax_q (q_move rfl) ?_
      | refine ax_q (q_assign rfl) ?_
      | refine ax_ops_nil ?_
      | refine ax_post_code ?_
      | refine ax_seq ?_
      | refine ax_region rfl ?_
      | refine ax_q (q_neq rfl rfl) ?_)
    refine ax_cond_dec rfl (fun h2 => ?_) (fun h2 => absurd hE h2)
    repeat (first
      | refine ax_q (q_move rfl) ?_
      | refine ax_q (q_assign rfl) ?_
      | refine ax_ops_nil ?_
      | refine ax_post_code ?_
      | refine ax_seq ?_
      | refine ax_region rfl ?_
      | refine ax_return ?_
      | refine ax_ret_code ?_)
    exact ax_ret hR rfl rfl
theorem len_i64 {n : Int} (h : -9223372036854775808 ≤ n ∧ n < 9223372036854775808) : (natL n.natAbs).length ≤ 2 := natL_len_le (by show n.natAbs < 4294967296 ^ 2; omega)
theorem rof_ok (n d : Int) (hn : -9223372036854775808 ≤ n ∧ n < 9223372036854775808) (hd : -9223372036854775808 ≤ d ∧ d < 9223372036854775808) (h0 : d ≠ 0) : VCall Tryz.prog 52 [.int .i64 n, .int .i64 d] (pairA (ofR n d)) := by
  unfold ofR
  rw [if_neg h0]
  have h1 := whole_ok n hn
  have h2 := whole_ok d hd
  have l1 := len_i64 hn
  have l2 := len_i64 hd
  have h3 := frac_ok n d h0 (by omega) (by omega)
  have h4 := out_ok _ ((sz_frac h0 l1 l2).mono (by decide))
  refine ACall.value0 (acall_of_ax (P := Tryz.prog) (fn := Tryz.f52) rfl rfl (by kernel_rfl) rfl (fun c hR hfix => ?_)) (fix := fun _ => False) (fun _ h => h) rfl rfl
  generalize outF (Rat.divInt n d) = r at *
  unfold pairA at *
  repeat (first
    | refine ax_q (q_move rfl) ?_
    | refine ax_q (q_assign rfl) ?_
    | refine ax_ops_nil ?_
    | refine ax_post_code ?_
    | refine ax_seq ?_
    | refine ax_region rfl ?_
    | refine ax_q (q_eql rfl rfl) ?_)
  refine ax_cond_dec rfl (fun h5 => absurd h5 h0) (fun h5 => ?_)
  repeat (first
    | refine ax_q (q_move rfl) ?_
    | refine ax_post_code ?_
    | refine ax_seq ?_
    | refine ax_region rfl ?_
    | refine ax_skip ?_)
  refine ax_callv rfl rfl rfl h1 ?_
  repeat (refine ax_q (q_move rfl) ?_)
  refine ax_callv rfl rfl rfl h2 ?_
  skip
  refine ax_callv rfl rfl rfl h3 ?_
  skip
  refine ax_callv rfl rfl rfl h4 ?_
  repeat (first
    | refine ax_q (q_assign rfl) ?_
    | refine ax_ops_nil ?_
    | refine ax_post_code ?_
    | refine ax_return ?_
    | refine ax_q (q_extract rfl rfl) ?_)
  exact ax_ret hR rfl rfl
end Go.Proofs.YtbeegiiiochblaaGreatDoor

namespace Go.Proofs.YtbeegiiiochblaaGreatDoor
open Go.Ax Go.Ax.Bg Go.Ax.Rt Go.RowKit
attribute [local irreducible] Ax Post QOp ACall PureOp
set_option maxRecDepth 100000
set_option maxHeartbeats 4000000

section
variable {α : Type}
theorem rowE_app (d : α) (n : Nat) (e : α → List AV) (ls : List α) (s : α) (cx : Cells) (h0 : ∀ j, j < n → cx.at 0 j = (e s).getD j .any) (i j : Nat) (hi : i < ls.length + 1) (hj : j < n) :
    (bif Nat.blt i ls.length then (rowE d n e ls).at i j else cx.at (0 + (i - ls.length)) j) = (rowE d n e (ls ++ [s])).at i j := by
  rcases Nat.lt_or_ge i ls.length with h | h
  · have e1 : Nat.blt i ls.length = true := by rw [Nat.blt_eq]; exact h
    rw [e1]
    simp only [rowE, Cells.at, cond_true, List.getD, List.getElem?_append_left h]
  · have hie : i = ls.length := by omega
    have e1 : Nat.blt i ls.length = false := by rw [← Bool.not_eq_true, Nat.blt_eq]; omega
    subst hie
    rw [e1]
    simp only [cond_false, Nat.sub_self, Nat.zero_add]
    rw [h0 j hj]
    simp [rowE, Cells.at, List.getD]
theorem rowE_snoc (d : α) (n : Nat) (e : α → List AV) (ls : List α) (s : α) (cx : Cells) (h0 : ∀ j, j < n → cx.at 0 j = (e s).getD j .any) :
    CEq (.fn (ls.length + 1) n (fun i j => bif Nat.blt i ls.length then (rowE d n e ls).at i j else cx.at (0 + (i - ls.length)) j)) (rowE d n e (ls ++ [s])) := by
  refine ⟨by simp [rowE, Cells.len], rfl, fun i j hi hj => ?_⟩
  exact (rowE_app d n e ls s cx h0 i j hi hj).symm
theorem rowE_noref (d : α) (n : Nat) (e : α → List AV) (hn : ∀ a j h, j < n → ((e a).getD j .any).forget h = (e a).getD j .any) (ls : List α) (s : α) (cx : Cells) (h0 : ∀ j, j < n → cx.at 0 j = (e s).getD j .any) (h i j : Nat) (hi : i < ls.length + 1) (hj : j < n) :
    (bif Nat.blt i ls.length then (rowE d n e ls).at i j else cx.at (0 + (i - ls.length)) j).forget h = (bif Nat.blt i ls.length then (rowE d n e ls).at i j else cx.at (0 + (i - ls.length)) j) := by
  rw [rowE_app d n e ls s cx h0 i j hi hj]; exact hn _ _ _ hj
theorem map_take_succ {β : Type} (f : α → β) (l : List α) (d : α) (k : Nat) (hk : k < l.length) : (l.take (k + 1)).map f = (l.take k).map f ++ [f (l.getD k d)] := by
  rw [List.take_succ_eq_append_getElem hk, List.map_append]; simp [List.getD, hk]
end
def cellsQ (q : Rat) : List AV := [.bool (decide (q.num < 0)), natA q.num.natAbs, natA q.den]
abbrev qsC (l : List Rat) : Cells := rowE 0 3 cellsQ l
theorem cellsQ_noref (q : Rat) (j h : Nat) (hj : j < 3) : ((cellsQ q).getD j .any).forget h = (cellsQ q).getD j .any := by
  match j, hj with
  | 0, _ => rfl
  | 1, _ => rfl
  | 2, _ => rfl
theorem refless_qs (l : List Rat) : refless (qsC l) := by
  intro i j _ hj
  show noRef ((cellsQ (l.getD i 0)).getD j .any) = true
  have hj : j < 3 := hj
  match j, hj with
  | 0, _ => rfl
  | 1, _ => rfl
  | 2, _ => rfl
theorem rowQ1 (q : Rat) (j : Nat) (hj : j < 3) : (rowOf 1 3 [.bool (decide (q.num < 0)), natA q.num.natAbs, natA q.den]).at 0 j = (cellsQ q).getD j .any := by
  match j, hj with
  | 0, _ => rfl
  | 1, _ => rfl
  | 2, _ => rfl
theorem in_ok (l : List (List UInt8)) (hlen : l.length ≤ 1000000) (hs : ∀ s ∈ l, s.length ≤ 9223372036854775807 ∧ ratE s = 0) : VCall Tryz.prog 67 [.ro (.strs l) 0 l.length] (.ro (qsC (l.map ratV)) 0 l.length) := by
  refine ACall.value0 (acall_of_ax (P := Tryz.prog) (fn := Tryz.f67) rfl rfl (by kernel_rfl) rfl (fun c hR hfix => ?_)) (fix := fun _ => False) (fun _ h => h) rfl rfl
  repeat (first
    | refine ax_q (q_move rfl) ?_
    | refine ax_q (q_assign rfl) ?_
    | refine ax_ops_nil ?_
    | refine ax_post_code ?_
    | refine ax_seq ?_
    | refine ax_region rfl ?_
    | refine ax_q (q_len rfl rfl rfl) ?_)
  refine ax_nilobj 3 ⟨79, qsC []⟩ rfl rfl ?_
  repeat (refine ax_block ?_)
  refine ax_loop (ι := Nat) (fun k => [(0, .ro (.strs l) 0 l.length), (3, .sl 0 0 k), (6, .ro (.strs l) 0 l.length), (7, .int .i64 (l.length : Nat)), (8, .int .i64 (k : Nat))]) (fun k => [some ⟨79, qsC ((l.take k).map ratV)⟩])
    (fun k => k ≤ l.length) (fun k => l.length - k) 0 ⟨⟨rfl, rfl, rfl, rfl, rfl, trivial⟩, rfl, Nat.zero_le _⟩ ?_
  intro k hk
  repeat (first
    | refine ax_ops_nil ?_
    | refine ax_post_code ?_
    | refine ax_seq ?_
    | refine ax_region rfl ?_
    | refine ax_q (q_lss rfl rfl) ?_)
  refine ax_cond_dec rfl (fun h => ?_) (fun h => ?_)
  · have hk' : k < l.length := by omega
    obtain ⟨b1, b2⟩ := hs _ (getD_mem [] hk')
    have hc := parse_ok (l.getD k []) b1 b2
    have htk := map_take_succ ratV l [] k hk'
    have hml : ((l.take k).map ratV).length = k := by rw [List.length_map, List.length_take]; omega
    generalize (l.take k).map ratV = qs at *
    repeat (first
      | refine ax_q (q_move rfl) ?_
      | refine ax_q (q_assign rfl) ?_
      | refine ax_ops_nil ?_
      | refine ax_post_code ?_
      | refine ax_seq ?_
      | refine ax_region rfl ?_
      | refine ax_block ?_
      | refine ax_skip ?_
      | refine ax_q (q_loads_rp rfl rfl rfl) ?_
      | refine ax_q (q_index_ro' rfl rfl rfl rfl (by first | (simp only [Nat.zero_add, Int.toNat_natCast, Int.toNat_zero]; exact rfl) | exact rfl) (by omega)) ?_)
    refine ax_callv rfl rfl rfl hc ?_
    unfold qA
    repeat (refine ax_buildSliceRo rfl rfl rfl rfl rfl rfl rfl rfl rfl rfl rfl ?_)
    refine ax_append rfl rfl rfl rfl rfl rfl rfl rfl rfl hml rfl rfl (by show 0 + 1 ≤ 1; omega) rfl (by show (k + 1) * 56 ≤ _ ∧ _; omega) ?_ (by rw [hfix]; exact fun h => h) ?_
    · intro i' j hi hj
      exact rowE_noref 0 3 cellsQ cellsQ_noref qs (ratV (l.getD k [])) _ (rowQ1 _) 0 i' j hi hj
    repeat (first
      | refine ax_q (q_assign rfl) ?_
      | refine ax_ops_nil ?_
      | refine ax_post_blk ?_)
    refine ax_post_code ?_
    refine ax_heap [some ⟨79, qsC ((l.take (k + 1)).map ratV)⟩] ?_ ?_
    · rw [htk]
      exact HSub.eqv (rowE_snoc 0 3 cellsQ qs (ratV (l.getD k [])) _ (rowQ1 _)) HSub.nil
    repeat (first
      | refine ax_q (q_move rfl) ?_
      | refine ax_ops_nil ?_
      | refine ax_region rfl ?_
      | refine ax_q (q_add rfl rfl (by omega)) ?_)
    exact ax_post_inv ⟨k + 1, by omega, by omega, ⟨rfl, rfl, rfl, rfl, rfl, trivial⟩, rfl⟩
  · have hk' : k = l.length := by omega
    subst hk'
    rw [List.take_length]
    repeat (first
      | refine ax_post_code ?_
      | refine ax_seq ?_
      | refine ax_exit ?_
      | refine ax_exit_here ?_
      | refine ax_exit_code ?_
      | refine ax_exit_inv ?_)
    refine ax_give_code 0 3 l.length [] rfl (refless_qs _) rfl (by show _ ≤ (l.map ratV).length; rw [List.length_map]; exact Nat.le_refl _) trivial ?_
    repeat (first
      | refine ax_q (q_move rfl) ?_
      | refine ax_q (q_assign rfl) ?_
      | refine ax_ops_nil ?_
      | refine ax_post_code ?_
      | refine ax_region rfl ?_
      | refine ax_return ?_)
    exact ax_ret hR rfl rfl
end Go.Proofs.YtbeegiiiochblaaGreatDoor

namespace Go.Proofs.YtbeegiiiochblaaGreatDoor
open Go.Ax Go.Ax.Bg Go.Ax.Rt Go.RowKit
attribute [local irreducible] Ax Post QOp ACall PureOp
set_option maxRecDepth 100000
set_option maxHeartbeats 4000000

open Go.Ax.Idx Go.Ax.Cd
theorem indexFuncR (l : List (List UInt8)) (g : FuncId) (caps : List AV) (p : List UInt8 → Bool) (hc : noRef.noRefs caps = true) (hlen : l.length ≤ 9223372036854775807) (hp : ∀ x ∈ l, VCall Tryz.prog g ([.str x] ++ caps) (.bool (p x))) :
    VCall Tryz.prog 69 [.ro (.strs l) 0 l.length, .fn g caps] (.int .i64 (idxF p l)) := by
  refine ACall.value0 (acall_of_ax (P := Tryz.prog) (fn := Tryz.f69) rfl rfl (by kernel_rfl) rfl (fun c hR hfix => ?_)) (fix := fun _ => False) (fun _ h => h) (by simp [noRef.noRefs, noRef, hc]) rfl
  repeat (first
    | refine ax_q (q_move rfl) ?_
    | refine ax_q (q_assign rfl) ?_
    | refine ax_ops_nil ?_
    | refine ax_post_code ?_
    | refine ax_seq ?_
    | refine ax_region rfl ?_
    | refine ax_block ?_
    | refine ax_q (q_len rfl rfl rfl) ?_)
  refine ax_loop (ι := Nat) (fun k => [(0, .ro (.strs l) 0 l.length), (1, .fn g caps), (7, .int .i64 (l.length : Nat)), (8, .int .i64 (k : Nat))]) (fun _ => [])
    (fun k => k ≤ l.length ∧ (l.take k).any p = false) (fun k => l.length - k) 0 ⟨⟨rfl, rfl, rfl, rfl, trivial⟩, rfl, Nat.zero_le _, rfl⟩ ?_
  intro k ⟨hk, hany⟩
  repeat (first
    | refine ax_ops_nil ?_
    | refine ax_post_code ?_
    | refine ax_seq ?_
    | refine ax_region rfl ?_
    | refine ax_q (q_lss rfl rfl) ?_)
  refine ax_cond_dec rfl (fun h => ?_) (fun h => ?_)
  · have hk' : k < l.length := by omega
    have hanys := any_take_succ p l [] k hk'
    repeat (first
      | refine ax_q (q_move rfl) ?_
      | refine ax_q (q_assign rfl) ?_
      | refine ax_ops_nil ?_
      | refine ax_post_code ?_
      | refine ax_seq ?_
      | refine ax_region rfl ?_
      | refine ax_block ?_
      | refine ax_skip ?_
      | refine ax_q (q_loads_rp rfl rfl rfl) ?_
      | refine ax_q (q_index_ro' rfl rfl rfl rfl (by first | (simp only [Nat.zero_add, Int.toNat_natCast, Int.toNat_zero]; exact rfl) | exact rfl) (by omega)) ?_)
    refine ax_callv rfl rfl rfl (hp _ (getD_mem [] hk')) ?_
    repeat (first
      | refine ax_ops_nil ?_
      | refine ax_post_code ?_)
    refine ax_cond rfl (fun h2 => ?_) (fun h2 => ?_)
    · repeat (first
        | refine ax_q (q_move rfl) ?_
        | refine ax_q (q_assign rfl) ?_
        | refine ax_ops_nil ?_
        | refine ax_post_code ?_
        | refine ax_seq ?_
        | refine ax_region rfl ?_
        | refine ax_return ?_
        | refine ax_ret_code ?_
        | refine ax_ret_blk ?_
        | refine ax_ret_inv ?_)
      refine ax_ret hR rfl ?_
      have := idxF_take p l k hany hk
      rw [drop_getD l [] k hk'] at this
      simp only [idxF, h2, if_true] at this
      rw [this]; simp [tupOf]
    · repeat (first
        | refine ax_q (q_move rfl) ?_
        | refine ax_ops_nil ?_
        | refine ax_post_code ?_
        | refine ax_region rfl ?_
        | refine ax_post_blk ?_
        | refine ax_skip ?_
        | refine ax_q (q_add rfl rfl (by omega)) ?_)
      refine ax_post_inv ⟨k + 1, ⟨by omega, by rw [hanys, hany, h2]; rfl⟩, by omega, ⟨rfl, rfl, rfl, rfl, trivial⟩, rfl⟩
  · have hk' : k = l.length := by omega
    subst hk'
    repeat (first
      | refine ax_q (q_assign rfl) ?_
      | refine ax_ops_nil ?_
      | refine ax_post_code ?_
      | refine ax_seq ?_
      | refine ax_region rfl ?_
      | refine ax_exit ?_
      | refine ax_exit_here ?_
      | refine ax_exit_code ?_
      | refine ax_exit_inv ?_
      | refine ax_return ?_)
    refine ax_ret hR rfl ?_
    have := idxF_take p l l.length hany hk
    rw [List.drop_length] at this
    rw [this]; rfl

theorem containsR (l : List (List UInt8)) (g : FuncId) (caps : List AV) (p : List UInt8 → Bool) (hc : noRef.noRefs caps = true) (hlen : l.length ≤ 9223372036854775807) (hp : ∀ x ∈ l, VCall Tryz.prog g ([.str x] ++ caps) (.bool (p x))) :
    VCall Tryz.prog 34 [.ro (.strs l) 0 l.length, .fn g caps] (.bool (l.any p)) := by
  refine ACall.value0 (acall_of_ax (P := Tryz.prog) (fn := Tryz.f34) rfl rfl (by kernel_rfl) rfl (fun c hR hfix => ?_)) (fix := fun _ => False) (fun _ h => h) (by simp [noRef.noRefs, noRef, hc]) rfl
  repeat (first
    | refine ax_q (q_move rfl) ?_
    | refine ax_q (q_assign rfl) ?_
    | refine ax_ops_nil ?_
    | refine ax_post_code ?_
    | refine ax_seq ?_
    | refine ax_region rfl ?_)
  refine ax_callv rfl rfl rfl (indexFuncR l g caps p hc hlen hp) ?_
  repeat (first
    | refine ax_q (q_assign rfl) ?_
    | refine ax_ops_nil ?_
    | refine ax_post_code ?_
    | refine ax_return ?_
    | refine ax_q (q_geq rfl rfl) ?_)
  refine ax_ret hR rfl ?_
  simp only [tupOf, idxF_any]


theorem ratNeg1 (s : List UInt8) (hs : s.length ≤ 9223372036854775807) : VCall Tryz.prog 99 [.str s] (.bool (negB s)) := by
  have h1 := prefix2 s [45] hs (by decide)
  rw [pre_neg] at h1
  refine ACall.value0 (acall_of_ax (P := Tryz.prog) (fn := Tryz.f99) rfl rfl (by kernel_rfl) rfl (fun c hR hfix => ?_)) (fix := fun _ => False) (fun _ h => h) rfl rfl
  repeat (first
    | refine ax_q (q_move rfl) ?_
    | refine ax_q (q_assign rfl) ?_
    | refine ax_ops_nil ?_
    | refine ax_post_code ?_
    | refine ax_seq ?_
    | refine ax_region rfl ?_)
  refine ax_callv rfl rfl rfl h1 ?_
  repeat (first
    | refine ax_q (q_assign rfl) ?_
    | refine ax_ops_nil ?_
    | refine ax_post_code ?_
    | refine ax_return ?_)
  exact ax_ret hR rfl rfl
theorem outAll_yes (l : List Rat) (hlen : l.length ≤ 1000000) (hs : ∀ q ∈ l, Sz 100000 q) (hall : l.all fitB = true) : VCall Tryz.prog 68 [.ro (qsC l) 0 l.length] (.tup [.ro (.strs (l.map textQ)) 0 l.length, .int .i64 0]) := by
  refine ACall.value0 (acall_of_ax (P := Tryz.prog) (fn := Tryz.f68) rfl rfl (by kernel_rfl) rfl (fun c hR hfix => ?_)) (fix := fun _ => False) (fun _ h => h) rfl rfl
  repeat (first
    | refine ax_q (q_move rfl) ?_
    | refine ax_q (q_assign rfl) ?_
    | refine ax_ops_nil ?_
    | refine ax_post_code ?_
    | refine ax_seq ?_
    | refine ax_region rfl ?_
    | refine ax_q (q_len rfl rfl rfl) ?_)
  refine ax_nilobj 4 ⟨38, .strs []⟩ rfl rfl ?_
  repeat (refine ax_block ?_)
  refine ax_loop (ι := Nat) (fun k => [(0, .ro (qsC l) 0 l.length), (4, .sl 0 0 k), (9, .ro (qsC l) 0 l.length), (10, .int .i64 (l.length : Nat)), (11, .int .i64 (k : Nat))]) (fun k => [some ⟨38, .strs ((l.take k).map textQ)⟩])
    (fun k => k ≤ l.length ∧ (l.drop k).all fitB = true) (fun k => l.length - k) 0 ⟨⟨rfl, rfl, rfl, rfl, rfl, trivial⟩, rfl, Nat.zero_le _, hall⟩ ?_
  rintro k ⟨hk, hA⟩
  repeat (first
    | refine ax_ops_nil ?_
    | refine ax_post_code ?_
    | refine ax_seq ?_
    | refine ax_region rfl ?_
    | refine ax_q (q_lss rfl rfl) ?_)
  refine ax_cond_dec rfl (fun h => ?_) (fun h => ?_)
  · have hk' : k < l.length := by omega
    have hz := hs _ (getD_mem 0 hk')
    have hd := drop_cons (d := (0 : Rat)) hk'
    rw [hd, List.all_cons] at hA
    have htk := map_take_succ textQ l 0 k hk'
    have hml : ((l.take k).map textQ).length = k := by rw [List.length_map, List.length_take]; omega
    generalize hX : (l.take k).map textQ = ts at *
    repeat (first
      | refine ax_post_code ?_
      | refine ax_seq ?_
      | refine ax_region rfl ?_
      | refine ax_block ?_
      | refine ax_skip ?_
      | refine ax_q (q_index_ro' rfl rfl rfl rfl (by first | (simp only [Nat.zero_add, Int.toNat_natCast, Int.toNat_zero]; exact rfl) | exact rfl) (by omega)) ?_
      | refine ax_q (q_loadagg_rp rfl rfl rfl rfl rfl rfl) ?_
      | refine ax_alloc rfl rfl rfl ?_)
    refine ax_slot_ops 14 (.agg (cellsQ (l.getD k 0))) rfl (AEq.of_eq rfl) ?_
    generalize l.getD k 0 = q at *
    refine ax_storeagg (c' := .box (cellsQ q)) rfl rfl rfl rfl rfl Nat.zero_lt_one rfl rfl (fun i' j' hi' hj' => ?_) ?_
    · rw [if_pos (Nat.lt_one_iff.1 hi')]; rfl
    rw [Bool.and_eq_true] at hA
    have hc := out_yes q hz hA.1
    repeat (first
      | refine ax_ops_nil ?_
      | refine ax_post_code ?_
      | refine ax_seq ?_
      | refine ax_region rfl ?_
      | refine ax_q (q_loadpart_ptr rfl rfl rfl rfl rfl rfl rfl (by first | exact Nat.zero_lt_one | assumption | omega)) ?_)
    refine ax_callv rfl rfl rfl hc ?_
    repeat (first
      | refine ax_q (q_move rfl) ?_
      | refine ax_q (q_assign rfl) ?_
      | refine ax_ops_nil ?_
      | refine ax_post_code ?_
      | refine ax_seq ?_
      | refine ax_region rfl ?_
      | refine ax_cond_false rfl ?_
      | refine ax_skip ?_
      | refine ax_q (q_neq rfl rfl) ?_
      | refine ax_q (q_extract rfl rfl) ?_
      | refine ax_buildSliceRo rfl rfl rfl rfl rfl rfl rfl rfl rfl rfl rfl ?_)
    refine ax_append rfl rfl rfl rfl rfl rfl rfl rfl rfl hml rfl rfl (by show 0 + 1 ≤ 1; omega) rfl (by show (k + 1) * 16 ≤ _ ∧ _; omega) (fun i j _ _ => rfl) (by rw [hfix]; exact fun h => h) ?_
    repeat (first
      | refine ax_q (q_assign rfl) ?_
      | refine ax_ops_nil ?_
      | refine ax_post_blk ?_)
    refine ax_post_code ?_
    refine ax_heap ([some ⟨38, .strs ((l.take (k + 1)).map textQ)⟩] ++ [none]) ?_ ?_
    · rw [htk]
      exact HSub.eqv (CEq.refl _) (HSub.drop HSub.nil)
    refine ax_drop (H1 := [some ⟨38, .strs ((l.take (k + 1)).map textQ)⟩]) rfl (by rw [hfix]; exact fun h => h) ?_
    repeat (first
      | refine ax_q (q_move rfl) ?_
      | refine ax_ops_nil ?_
      | refine ax_region rfl ?_
      | refine ax_q (q_add rfl rfl (by omega)) ?_)
    exact ax_post_inv ⟨k + 1, ⟨by omega, hA.2⟩, by omega, ⟨rfl, rfl, rfl, rfl, rfl, trivial⟩, rfl⟩
  · have hk' : k = l.length := by omega
    subst hk'
    rw [List.take_length]
    repeat (first
      | refine ax_post_code ?_
      | refine ax_seq ?_
      | refine ax_exit ?_
      | refine ax_exit_here ?_
      | refine ax_exit_code ?_
      | refine ax_exit_inv ?_)
    refine ax_give_code 0 4 l.length [] rfl (fun _ _ _ _ => rfl) rfl (by show _ ≤ (l.map textQ).length; rw [List.length_map]; exact Nat.le_refl _) trivial ?_
    repeat (first
      | refine ax_q (q_move rfl) ?_
      | refine ax_q (q_assign rfl) ?_
      | refine ax_ops_nil ?_
      | refine ax_post_code ?_
      | refine ax_region rfl ?_
      | refine ax_return ?_)
    exact ax_ret hR rfl rfl
theorem outAll_no (l : List Rat) (hlen : l.length ≤ 1000000) (hs : ∀ q ∈ l, Sz 100000 q) (hall : l.all fitB = false) : VCall Tryz.prog 68 [.ro (qsC l) 0 l.length] (.tup [.nil, .int .i64 2]) := by
  refine ACall.value0 (acall_of_ax (P := Tryz.prog) (fn := Tryz.f68) rfl rfl (by kernel_rfl) rfl (fun c hR hfix => ?_)) (fix := fun _ => False) (fun _ h => h) rfl rfl
  repeat (first
    | refine ax_q (q_move rfl) ?_
    | refine ax_q (q_assign rfl) ?_
    | refine ax_ops_nil ?_
    | refine ax_post_code ?_
    | refine ax_seq ?_
    | refine ax_region rfl ?_
    | refine ax_q (q_len rfl rfl rfl) ?_)
  refine ax_nilobj 4 ⟨38, .strs []⟩ rfl rfl ?_
  repeat (refine ax_block ?_)
  refine ax_loop (ι := Nat) (fun k => [(0, .ro (qsC l) 0 l.length), (4, .sl 0 0 k), (9, .ro (qsC l) 0 l.length), (10, .int .i64 (l.length : Nat)), (11, .int .i64 (k : Nat))]) (fun k => [some ⟨38, .strs ((l.take k).map textQ)⟩])
    (fun k => k ≤ l.length ∧ (l.drop k).all fitB = false) (fun k => l.length - k) 0 ⟨⟨rfl, rfl, rfl, rfl, rfl, trivial⟩, rfl, Nat.zero_le _, hall⟩ ?_
  rintro k ⟨hk, hA⟩
  repeat (first
    | refine ax_ops_nil ?_
    | refine ax_post_code ?_
    | refine ax_seq ?_
    | refine ax_region rfl ?_
    | refine ax_q (q_lss rfl rfl) ?_)
  refine ax_cond_dec rfl (fun h => ?_) (fun h => ?_)
  · have hk' : k < l.length := by omega
    have hz := hs _ (getD_mem 0 hk')
    have hd := drop_cons (d := (0 : Rat)) hk'
    rw [hd, List.all_cons] at hA
    have htk := map_take_succ textQ l 0 k hk'
    have hml : ((l.take k).map textQ).length = k := by rw [List.length_map, List.length_take]; omega
    generalize hX : (l.take k).map textQ = ts at *
    repeat (first
      | refine ax_post_code ?_
      | refine ax_seq ?_
      | refine ax_region rfl ?_
      | refine ax_block ?_
      | refine ax_skip ?_
      | refine ax_q (q_index_ro' rfl rfl rfl rfl (by first | (simp only [Nat.zero_add, Int.toNat_natCast, Int.toNat_zero]; exact rfl) | exact rfl) (by omega)) ?_
      | refine ax_q (q_loadagg_rp rfl rfl rfl rfl rfl rfl) ?_
      | refine ax_alloc rfl rfl rfl ?_)
    refine ax_slot_ops 14 (.agg (cellsQ (l.getD k 0))) rfl (AEq.of_eq rfl) ?_
    generalize l.getD k 0 = q at *
    refine ax_storeagg (c' := .box (cellsQ q)) rfl rfl rfl rfl rfl Nat.zero_lt_one rfl rfl (fun i' j' hi' hj' => ?_) ?_
    · rw [if_pos (Nat.lt_one_iff.1 hi')]; rfl
    cases hf : fitB q
    · have hc := out_no q hz hf
      repeat (first
        | refine ax_ops_nil ?_
        | refine ax_post_code ?_
        | refine ax_seq ?_
        | refine ax_region rfl ?_
        | refine ax_q (q_loadpart_ptr rfl rfl rfl rfl rfl rfl rfl (by first | exact Nat.zero_lt_one | assumption | omega)) ?_)
      refine ax_callv rfl rfl rfl hc ?_
      repeat (first
        | refine ax_q (q_move rfl) ?_
        | refine ax_q (q_assign rfl) ?_
        | refine ax_ops_nil ?_
        | refine ax_post_code ?_
        | refine ax_seq ?_
        | refine ax_region rfl ?_
        | refine ax_cond_true rfl ?_
        | refine ax_return ?_
        | refine ax_ret_code ?_
        | refine ax_ret_blk ?_
        | refine ax_ret_inv ?_
        | refine ax_q (q_neq rfl rfl) ?_
        | refine ax_q (q_extract rfl rfl) ?_)
      exact ax_ret hR rfl rfl
    · have hc := out_yes q hz hf
      rw [hf, Bool.true_and] at hA
      repeat (first
        | refine ax_ops_nil ?_
        | refine ax_post_code ?_
        | refine ax_seq ?_
        | refine ax_region rfl ?_
        | refine ax_q (q_loadpart_ptr rfl rfl rfl rfl rfl rfl rfl (by first | exact Nat.zero_lt_one | assumption | omega)) ?_)
      refine ax_callv rfl rfl rfl hc ?_
      repeat (first
        | refine ax_q (q_move rfl) ?_
        | refine ax_q (q_assign rfl) ?_
        | refine ax_ops_nil ?_
        | refine ax_post_code ?_
        | refine ax_seq ?_
        | refine ax_region rfl ?_
        | refine ax_cond_false rfl ?_
        | refine ax_skip ?_
        | refine ax_q (q_neq rfl rfl) ?_
        | refine ax_q (q_extract rfl rfl) ?_
        | refine ax_buildSliceRo rfl rfl rfl rfl rfl rfl rfl rfl rfl rfl rfl ?_)
      refine ax_append rfl rfl rfl rfl rfl rfl rfl rfl rfl hml rfl rfl (by show 0 + 1 ≤ 1; omega) rfl (by show (k + 1) * 16 ≤ _ ∧ _; omega) (fun i j _ _ => rfl) (by rw [hfix]; exact fun h => h) ?_
      repeat (first
        | refine ax_q (q_assign rfl) ?_
        | refine ax_ops_nil ?_
        | refine ax_post_blk ?_)
      refine ax_post_code ?_
      refine ax_heap ([some ⟨38, .strs ((l.take (k + 1)).map textQ)⟩] ++ [none]) ?_ ?_
      · rw [htk]
        exact HSub.eqv (CEq.refl _) (HSub.drop HSub.nil)
      refine ax_drop (H1 := [some ⟨38, .strs ((l.take (k + 1)).map textQ)⟩]) rfl (by rw [hfix]; exact fun h => h) ?_
      repeat (first
        | refine ax_q (q_move rfl) ?_
        | refine ax_ops_nil ?_
        | refine ax_region rfl ?_
        | refine ax_q (q_add rfl rfl (by omega)) ?_)
      exact ax_post_inv ⟨k + 1, ⟨by omega, hA⟩, by omega, ⟨rfl, rfl, rfl, rfl, rfl, trivial⟩, rfl⟩
  · have hk' : k = l.length := by omega
    subst hk'
    rw [List.drop_length] at hA
    exact absurd hA (by decide)
end Go.Proofs.YtbeegiiiochblaaGreatDoor

namespace Go.Proofs.YtbeegiiiochblaaGreatDoor
open Go.Ax Go.Ax.Bg Go.Ax.Rt Go.RowKit
attribute [local irreducible] Ax Post QOp ACall PureOp
set_option maxRecDepth 100000
set_option maxHeartbeats 4000000

theorem of_zero : VCall Tryz.prog 70 [.int .i64 0] (qA 0) := qof_ok 0 (by decide)
theorem of_one : VCall Tryz.prog 70 [.int .i64 1] (qA 1) := qof_ok 1 (by decide)
theorem sz_zero : Sz 2000 0 := by
  refine ⟨?_, ?_⟩
  · show (natL 0).length ≤ 2000; rw [natL_zero]; decide
  · show (natL 1).length ≤ 2000; rw [natL_one]; decide
theorem sum_ok (l : List (List UInt8)) (hlen : l.length ≤ 9223372036854775807) (hs : ∀ s ∈ l, s.length ≤ 9223372036854775807) : VCall Tryz.prog 89 [.ro (.strs l) 0 l.length] (.tup [qA (sumR l).1, .int .i64 (sumR l).2]) := by
  unfold sumR
  have h1 := checkAll_ok l hlen hs
  by_cases hl : 256 < l.length
  · rw [if_pos hl]
    refine ACall.value0 (acall_of_ax (P := Tryz.prog) (fn := Tryz.f89) rfl rfl (by kernel_rfl) rfl (fun c hR hfix => ?_)) (fix := fun _ => False) (fun _ h => h) rfl rfl
    repeat (first
      | refine ax_q (q_assign rfl) ?_
      | refine ax_ops_nil ?_
      | refine ax_post_code ?_
      | refine ax_seq ?_
      | refine ax_region rfl ?_
      | refine ax_alloc rfl rfl rfl ?_)
    refine ax_callv rfl rfl rfl of_zero ?_
    repeat (refine ax_alloc rfl rfl rfl ?_)
    refine ax_storeagg (c' := .box (cellsQ 0)) rfl rfl rfl rfl rfl Nat.zero_lt_one rfl rfl (fun i' j' hi' hj' => ?_) ?_
    · rw [if_pos (Nat.lt_one_iff.1 hi')]; rfl
    repeat (first
      | refine ax_q (q_move rfl) ?_
      | refine ax_ops_nil ?_
      | refine ax_post_code ?_
      | refine ax_seq ?_
      | refine ax_region rfl ?_
      | refine ax_q (q_gtr rfl rfl) ?_
      | refine ax_q (q_len rfl rfl rfl) ?_)
    refine ax_cond_dec rfl (fun h0 => ?_) (fun h0 => absurd hl (by omega))
    repeat (first
      | refine ax_seq ?_
      | refine ax_region rfl ?_
      | refine ax_q (q_loadpart_ptr rfl rfl rfl rfl rfl rfl rfl (by first | exact Nat.zero_lt_one | assumption | omega)) ?_)
    refine ax_storeagg (c' := .box (cellsQ 0)) rfl rfl rfl rfl rfl Nat.zero_lt_one rfl rfl (fun i' j' hi' hj' => ?_) ?_
    · rw [if_pos (Nat.lt_one_iff.1 hi')]; rfl
    repeat (first
      | refine ax_q (q_assign rfl) ?_
      | refine ax_ops_nil ?_
      | refine ax_post_code ?_
      | refine ax_return ?_
      | refine ax_ret_code ?_)
    exact ax_ret hR rfl rfl
  rw [if_neg hl]
  by_cases hE : allE l = 0
  · rw [if_pos hE]
    rw [hE] at h1
    have h2 := in_ok l (by omega) (fun s hm => ⟨hs s hm, allE_mem hE s hm⟩)
    have hz : ∀ q ∈ l.map ratV, Sz 2000 q := fun q hq => by
      obtain ⟨s, h3, rfl⟩ := List.mem_map.1 hq
      exact sz_v (allE_mem hE s h3)
    have hml : (l.map ratV).length = l.length := List.length_map _
    generalize l.map ratV = qs at *
    refine ACall.value0 (acall_of_ax (P := Tryz.prog) (fn := Tryz.f89) rfl rfl (by kernel_rfl) rfl (fun c hR hfix => ?_)) (fix := fun _ => False) (fun _ h => h) rfl rfl
    repeat (first
      | refine ax_q (q_assign rfl) ?_
      | refine ax_ops_nil ?_
      | refine ax_post_code ?_
      | refine ax_seq ?_
      | refine ax_region rfl ?_
      | refine ax_alloc rfl rfl rfl ?_)
    refine ax_callv rfl rfl rfl of_zero ?_
    repeat (refine ax_alloc rfl rfl rfl ?_)
    refine ax_storeagg (c' := .box (cellsQ 0)) rfl rfl rfl rfl rfl Nat.zero_lt_one rfl rfl (fun i' j' hi' hj' => ?_) ?_
    · rw [if_pos (Nat.lt_one_iff.1 hi')]; rfl
    repeat (first
      | refine ax_q (q_move rfl) ?_
      | refine ax_ops_nil ?_
      | refine ax_post_code ?_
      | refine ax_seq ?_
      | refine ax_region rfl ?_
      | refine ax_q (q_gtr rfl rfl) ?_
      | refine ax_q (q_len rfl rfl rfl) ?_)
    refine ax_cond_dec rfl (fun h0 => absurd hl (by omega)) (fun h0 => ?_)
    repeat (first
      | refine ax_q (q_move rfl) ?_
      | refine ax_post_code ?_
      | refine ax_seq ?_
      | refine ax_region rfl ?_
      | refine ax_skip ?_)
    refine ax_callv rfl rfl rfl h1 ?_
    repeat (first
      | refine ax_q (q_move rfl) ?_
      | refine ax_q (q_assign rfl) ?_
      | refine ax_ops_nil ?_
      | refine ax_post_code ?_
      | refine ax_seq ?_
      | refine ax_region rfl ?_
      | refine ax_cond_false rfl ?_
      | refine ax_skip ?_
      | refine ax_q (q_neq rfl rfl) ?_)
    refine ax_callv rfl rfl rfl h2 ?_
    repeat (first
      | refine ax_q (q_move rfl) ?_
      | refine ax_ops_nil ?_
      | refine ax_post_code ?_
      | refine ax_block ?_
      | refine ax_q (q_len rfl rfl rfl) ?_)
    refine ax_loop (ι := Nat × Rat) (fun p => [(2, .ptr 0 0 0), (4, .ptr 1 0 0), (20, .ro (qsC qs) 0 l.length), (21, .int .i64 (l.length : Nat)), (22, .int .i64 (p.1 : Nat))]) (fun p => [some ⟨79, .box [.bool false, .nil, .nil]⟩, some ⟨79, .box (cellsQ p.2)⟩])
      (fun p => p.1 ≤ l.length ∧ sumL 0 qs = sumL p.2 (qs.drop p.1) ∧ Sz 2000 p.2) (fun p => l.length - p.1) (0, 0) ⟨⟨rfl, rfl, rfl, rfl, rfl, trivial⟩, rfl, Nat.zero_le _, rfl, sz_zero⟩ ?_
    rintro ⟨k, acc⟩ ⟨hk, hS, hA⟩
    simp only at *
    repeat (first
      | refine ax_ops_nil ?_
      | refine ax_post_code ?_
      | refine ax_seq ?_
      | refine ax_region rfl ?_
      | refine ax_q (q_lss rfl rfl) ?_)
    refine ax_cond_dec rfl (fun h => ?_) (fun h => ?_)
    · have hk' : k < qs.length := by omega
      have hq := hz _ (getD_mem 0 hk')
      have hd := drop_cons (d := (0 : Rat)) hk'
      rw [hd, sumL] at hS
      repeat (first
        | refine ax_post_code ?_
        | refine ax_seq ?_
        | refine ax_region rfl ?_
        | refine ax_block ?_
        | refine ax_skip ?_
        | refine ax_q (q_index_ro' rfl rfl rfl rfl (by first | (simp only [Nat.zero_add, Int.toNat_natCast, Int.toNat_zero]; exact rfl) | exact rfl) (by omega)) ?_
        | refine ax_q (q_loadagg_rp rfl rfl rfl rfl rfl rfl) ?_
        | refine ax_alloc rfl rfl rfl ?_)
      refine ax_slot_ops 25 (.agg (cellsQ (qs.getD k 0))) rfl (AEq.of_eq rfl) ?_
      generalize qs.getD k 0 = q at *
      have hc := qadd_ok acc q (hA.mono (by decide)) (hq.mono (by decide))
      have hf := fits_ok (acc + q) ((sz_add hA hq).mono (by decide))
      refine ax_storeagg (c' := .box (cellsQ q)) rfl rfl rfl rfl rfl Nat.zero_lt_one rfl rfl (fun i' j' hi' hj' => ?_) ?_
      · rw [if_pos (Nat.lt_one_iff.1 hi')]; rfl
      repeat (first
        | refine ax_ops_nil ?_
        | refine ax_post_code ?_
        | refine ax_seq ?_
        | refine ax_region rfl ?_
        | refine ax_q (q_loadpart_ptr rfl rfl rfl rfl rfl rfl rfl (by first | exact Nat.zero_lt_one | assumption | omega)) ?_)
      refine ax_callv rfl rfl rfl hc ?_
      skip
      refine ax_storeagg (c' := .box (cellsQ (acc + q))) rfl rfl rfl rfl rfl Nat.zero_lt_one rfl rfl (fun i' j' hi' hj' => ?_) ?_
      · rw [if_pos (Nat.lt_one_iff.1 hi')]; rfl
      repeat (first
        | refine ax_ops_nil ?_
        | refine ax_post_code ?_
        | refine ax_seq ?_
        | refine ax_region rfl ?_
        | refine ax_q (q_loadpart_ptr rfl rfl rfl rfl rfl rfl rfl (by first | exact Nat.zero_lt_one | assumption | omega)) ?_)
      refine ax_callv rfl rfl rfl hf ?_
      cases hb : fitB (acc + q)
      · rw [hb, if_neg Bool.false_ne_true] at hS
        rw [hS] at hR
        repeat (first
          | refine ax_ops_nil ?_
          | refine ax_post_code ?_
          | refine ax_seq ?_
          | refine ax_region rfl ?_
          | refine ax_cond_true rfl ?_
          | refine ax_q (q_not rfl) ?_
          | refine ax_q (q_loadpart_ptr rfl rfl rfl rfl rfl rfl rfl (by first | exact Nat.zero_lt_one | assumption | omega)) ?_)
        refine ax_storeagg (c' := .box (cellsQ (acc + q))) rfl rfl rfl rfl rfl Nat.zero_lt_one rfl rfl (fun i' j' hi' hj' => ?_) ?_
        · rw [if_pos (Nat.lt_one_iff.1 hi')]; rfl
        repeat (first
          | refine ax_q (q_assign rfl) ?_
          | refine ax_ops_nil ?_
          | refine ax_post_code ?_
          | refine ax_return ?_
          | refine ax_ret_code ?_
          | refine ax_ret_blk ?_
          | refine ax_ret_inv ?_)
        exact ax_ret hR rfl rfl
      · rw [hb, if_pos rfl] at hS
        repeat (first
          | refine ax_ops_nil ?_
          | refine ax_q (q_not rfl) ?_)
        refine ax_post_code ?_
        refine ax_heap ([some ⟨79, .box [.bool false, .nil, .nil]⟩, some ⟨79, .box (cellsQ (acc + q))⟩] ++ [none]) ?_ ?_
        · exact HSub.eqv (CEq.refl _) (HSub.eqv (CEq.refl _) (HSub.drop HSub.nil))
        refine ax_drop (H1 := [some ⟨79, .box [.bool false, .nil, .nil]⟩, some ⟨79, .box (cellsQ (acc + q))⟩]) rfl (by rw [hfix]; exact fun h => h) ?_
        repeat (first
          | refine ax_q (q_move rfl) ?_
          | refine ax_ops_nil ?_
          | refine ax_post_code ?_
          | refine ax_region rfl ?_
          | refine ax_cond_false rfl ?_
          | refine ax_post_blk ?_
          | refine ax_skip ?_
          | refine ax_q (q_add rfl rfl (by omega)) ?_)
        exact ax_post_inv ⟨(k + 1, acc + q), ⟨by simp only; omega, hS, fit_len hb⟩, by simp only; omega, ⟨rfl, rfl, rfl, rfl, rfl, trivial⟩, rfl⟩
    · have hk' : k = l.length := by omega
      subst hk'
      rw [← hml, List.drop_length, sumL] at hS
      rw [hS] at hR
      repeat (first
        | refine ax_post_code ?_
        | refine ax_seq ?_
        | refine ax_region rfl ?_
        | refine ax_exit ?_
        | refine ax_exit_here ?_
        | refine ax_exit_code ?_
        | refine ax_exit_inv ?_
        | refine ax_q (q_loadpart_ptr rfl rfl rfl rfl rfl rfl rfl (by first | exact Nat.zero_lt_one | assumption | omega)) ?_)
      refine ax_storeagg (c' := .box (cellsQ acc)) rfl rfl rfl rfl rfl Nat.zero_lt_one rfl rfl (fun i' j' hi' hj' => ?_) ?_
      · rw [if_pos (Nat.lt_one_iff.1 hi')]; rfl
      repeat (first
        | refine ax_q (q_assign rfl) ?_
        | refine ax_ops_nil ?_
        | refine ax_post_code ?_
        | refine ax_return ?_)
      exact ax_ret hR rfl rfl
  · rw [if_neg hE]
    generalize allE l = e at *
    refine ACall.value0 (acall_of_ax (P := Tryz.prog) (fn := Tryz.f89) rfl rfl (by kernel_rfl) rfl (fun c hR hfix => ?_)) (fix := fun _ => False) (fun _ h => h) rfl rfl
    repeat (first
      | refine ax_q (q_assign rfl) ?_
      | refine ax_ops_nil ?_
      | refine ax_post_code ?_
      | refine ax_seq ?_
      | refine ax_region rfl ?_
      | refine ax_alloc rfl rfl rfl ?_)
    refine ax_callv rfl rfl rfl of_zero ?_
    repeat (refine ax_alloc rfl rfl rfl ?_)
    refine ax_storeagg (c' := .box (cellsQ 0)) rfl rfl rfl rfl rfl Nat.zero_lt_one rfl rfl (fun i' j' hi' hj' => ?_) ?_
    · rw [if_pos (Nat.lt_one_iff.1 hi')]; rfl
    repeat (first
      | refine ax_q (q_move rfl) ?_
      | refine ax_ops_nil ?_
      | refine ax_post_code ?_
      | refine ax_seq ?_
      | refine ax_region rfl ?_
      | refine ax_q (q_gtr rfl rfl) ?_
      | refine ax_q (q_len rfl rfl rfl) ?_)
    refine ax_cond_dec rfl (fun h0 => absurd hl (by omega)) (fun h0 => ?_)
    repeat (first
      | refine ax_q (q_move rfl) ?_
      | refine ax_post_code ?_
      | refine ax_seq ?_
      | refine ax_region rfl ?_
      | refine ax_skip ?_)
    refine ax_callv rfl rfl rfl h1 ?_
    repeat (first
      | refine ax_q (q_move rfl) ?_
      | refine ax_q (q_assign rfl) ?_
      | refine ax_ops_nil ?_
      | refine ax_post_code ?_
      | refine ax_seq ?_
      | refine ax_region rfl ?_
      | refine ax_q (q_neq rfl rfl) ?_)
    refine ax_cond_dec rfl (fun h2 => ?_) (fun h2 => absurd hE h2)
    repeat (first
      | refine ax_q (q_move rfl) ?_
      | refine ax_seq ?_
      | refine ax_region rfl ?_
      | refine ax_q (q_loadpart_ptr rfl rfl rfl rfl rfl rfl rfl (by first | exact Nat.zero_lt_one | assumption | omega)) ?_)
    refine ax_storeagg (c' := .box (cellsQ 0)) rfl rfl rfl rfl rfl Nat.zero_lt_one rfl rfl (fun i' j' hi' hj' => ?_) ?_
    · rw [if_pos (Nat.lt_one_iff.1 hi')]; rfl
    repeat (first
      | refine ax_q (q_assign rfl) ?_
      | refine ax_ops_nil ?_
      | refine ax_post_code ?_
      | refine ax_return ?_
      | refine ax_ret_code ?_)
    exact ax_ret hR rfl rfl
end Go.Proofs.YtbeegiiiochblaaGreatDoor

namespace Go.Proofs.YtbeegiiiochblaaGreatDoor
open Go.Ax Go.Ax.Bg Go.Ax.Rt Go.RowKit
attribute [local irreducible] Ax Post QOp ACall PureOp
set_option maxRecDepth 100000
set_option maxHeartbeats 4000000

theorem sumL_sz : ∀ (qs : List Rat) (acc : Rat), Sz 2000 acc → (∀ q ∈ qs, Sz 2000 q) → Sz 4001 (sumL acc qs).1
  | [], acc, h, _ => h.mono (by decide)
  | q :: r, acc, h, hs => by
    rw [sumL]
    split
    · rename_i hb
      exact sumL_sz r _ (fit_len hb) (fun x hx => hs x (by simp [hx]))
    · exact sz_add h (hs q (by simp))
theorem sumR_sz (l : List (List UInt8)) : Sz 4001 (sumR l).1 := by
  unfold sumR
  split
  · exact sz_zero.mono (by decide)
  · split
    · rename_i hE
      refine sumL_sz _ _ sz_zero (fun q hq => ?_)
      obtain ⟨s, h3, rfl⟩ := List.mem_map.1 hq
      exact sz_v (allE_mem hE s h3)
    · exact sz_zero.mono (by decide)
theorem rsum_ok (l : List (List UInt8)) (hlen : l.length ≤ 9223372036854775807) (hs : ∀ s ∈ l, s.length ≤ 9223372036854775807) : VCall Tryz.prog 53 [.ro (.strs l) 0 l.length] (pairA (sumT l)) := by
  have h1 := sum_ok l hlen hs
  have hz := sumR_sz l
  unfold sumT
  generalize (sumR l).1 = q at *
  generalize (sumR l).2 = e at *
  by_cases he : e = 0
  · rw [if_pos he]
    subst he
    have h2 := out_ok q (hz.mono (by decide))
    generalize outF q = r at *
    unfold pairA at *
    refine ACall.value0 (acall_of_ax (P := Tryz.prog) (fn := Tryz.f53) rfl rfl (by kernel_rfl) rfl (fun c hR hfix => ?_)) (fix := fun _ => False) (fun _ h => h) rfl rfl
    repeat (first
      | refine ax_q (q_move rfl) ?_
      | refine ax_q (q_assign rfl) ?_
      | refine ax_ops_nil ?_
      | refine ax_post_code ?_
      | refine ax_seq ?_
      | refine ax_region rfl ?_)
    refine ax_callv rfl rfl rfl h1 ?_
    unfold qA
    repeat (first
      | refine ax_q (q_move rfl) ?_
      | refine ax_q (q_extract rfl rfl) ?_
      | refine ax_alloc rfl rfl rfl ?_)
    refine ax_storeagg (c' := .box (cellsQ q)) rfl rfl rfl rfl rfl Nat.zero_lt_one rfl rfl (fun i' j' hi' hj' => ?_) ?_
    · rw [if_pos (Nat.lt_one_iff.1 hi')]; rfl
    repeat (first
      | refine ax_q (q_move rfl) ?_
      | refine ax_q (q_assign rfl) ?_
      | refine ax_ops_nil ?_
      | refine ax_post_code ?_
      | refine ax_seq ?_
      | refine ax_region rfl ?_
      | refine ax_cond_false rfl ?_
      | refine ax_skip ?_
      | refine ax_q (q_neq rfl rfl) ?_
      | refine ax_q (q_loadpart_ptr rfl rfl rfl rfl rfl rfl rfl (by first | exact Nat.zero_lt_one | assumption | omega)) ?_)
    refine ax_callv rfl rfl rfl h2 ?_
    repeat (first
      | refine ax_q (q_assign rfl) ?_
      | refine ax_ops_nil ?_
      | refine ax_post_code ?_
      | refine ax_return ?_
      | refine ax_q (q_extract rfl rfl) ?_)
    exact ax_ret hR rfl rfl
  · rw [if_neg he]
    unfold pairA
    refine ACall.value0 (acall_of_ax (P := Tryz.prog) (fn := Tryz.f53) rfl rfl (by kernel_rfl) rfl (fun c hR hfix => ?_)) (fix := fun _ => False) (fun _ h => h) rfl rfl
    repeat (first
      | refine ax_q (q_move rfl) ?_
      | refine ax_q (q_assign rfl) ?_
      | refine ax_ops_nil ?_
      | refine ax_post_code ?_
      | refine ax_seq ?_
      | refine ax_region rfl ?_)
    refine ax_callv rfl rfl rfl h1 ?_
    unfold qA
    repeat (first
      | refine ax_q (q_move rfl) ?_
      | refine ax_q (q_extract rfl rfl) ?_
      | refine ax_alloc rfl rfl rfl ?_)
    refine ax_storeagg (c' := .box (cellsQ q)) rfl rfl rfl rfl rfl Nat.zero_lt_one rfl rfl (fun i' j' hi' hj' => ?_) ?_
    · rw [if_pos (Nat.lt_one_iff.1 hi')]; rfl
    repeat (first
      | refine ax_q (q_move rfl) ?_
      | refine ax_q (q_assign rfl) ?_
      | refine ax_ops_nil ?_
      | refine ax_post_code ?_
      | refine ax_seq ?_
      | refine ax_region rfl ?_
      | refine ax_q (q_neq rfl rfl) ?_)
    refine ax_cond_dec rfl (fun h0 => ?_) (fun h0 => absurd he h0)
    repeat (first
      | refine ax_q (q_move rfl) ?_
      | refine ax_q (q_assign rfl) ?_
      | refine ax_ops_nil ?_
      | refine ax_post_code ?_
      | refine ax_seq ?_
      | refine ax_region rfl ?_
      | refine ax_return ?_
      | refine ax_ret_code ?_)
    exact ax_ret hR rfl rfl
theorem positive_ok (l : List (List UInt8)) (hlen : l.length ≤ 9223372036854775807) (hs : ∀ s ∈ l, s.length ≤ 9223372036854775807) : VCall Tryz.prog 66 [.ro (.strs l) 0 l.length] (.tup [qA (sumR l).1, .int .i64 (posE l)]) := by
  have h1 := sum_ok l hlen hs
  have h2 := containsR l 99 [] negB rfl hlen (fun s hm => ratNeg1 s (hs s hm))
  unfold posE
  generalize (sumR l).1 = q at *
  generalize (sumR l).2 = e at *
  generalize l.any negB = b at *
  by_cases he : e = 0
  · subst he
    cases b
    · rw [if_neg (fun h => Bool.false_ne_true h.2)]
      refine ACall.value0 (acall_of_ax (P := Tryz.prog) (fn := Tryz.f66) rfl rfl (by kernel_rfl) rfl (fun c hR hfix => ?_)) (fix := fun _ => False) (fun _ h => h) rfl rfl
      repeat (first
        | refine ax_q (q_move rfl) ?_
        | refine ax_q (q_assign rfl) ?_
        | refine ax_ops_nil ?_
        | refine ax_post_code ?_
        | refine ax_seq ?_
        | refine ax_region rfl ?_
        | refine ax_alloc rfl rfl rfl ?_)
      refine ax_callv rfl rfl rfl h1 ?_
      unfold qA
      repeat (first
        | refine ax_q (q_move rfl) ?_
        | refine ax_q (q_extract rfl rfl) ?_
        | refine ax_alloc rfl rfl rfl ?_)
      refine ax_storeagg (c' := .box (cellsQ q)) rfl rfl rfl rfl rfl Nat.zero_lt_one rfl rfl (fun i' j' hi' hj' => ?_) ?_
      · rw [if_pos (Nat.lt_one_iff.1 hi')]; rfl
      repeat (first
        | refine ax_q (q_move rfl) ?_
        | refine ax_q (q_assign rfl) ?_
        | refine ax_ops_nil ?_
        | refine ax_post_code ?_
        | refine ax_seq ?_
        | refine ax_region rfl ?_
        | refine ax_guard rfl rfl ?_
        | refine ax_q (q_eql rfl rfl) ?_)
      refine ax_callv rfl rfl rfl h2 ?_
      repeat (first
        | refine ax_q (q_move rfl) ?_
        | refine ax_ops_nil ?_
        | refine ax_post_code ?_
        | refine ax_seq ?_
        | refine ax_region rfl ?_
        | refine ax_cond_false rfl ?_
        | refine ax_skip ?_
        | refine ax_q (q_pick rfl rfl) ?_
        | refine ax_q (q_loadpart_ptr rfl rfl rfl rfl rfl rfl rfl (by first | exact Nat.zero_lt_one | assumption | omega)) ?_)
      refine ax_storeagg (c' := .box (cellsQ q)) rfl rfl rfl rfl rfl Nat.zero_lt_one rfl rfl (fun i' j' hi' hj' => ?_) ?_
      · rw [if_pos (Nat.lt_one_iff.1 hi')]; rfl
      repeat (first
        | refine ax_q (q_assign rfl) ?_
        | refine ax_ops_nil ?_
        | refine ax_post_code ?_
        | refine ax_return ?_)
      exact ax_ret hR rfl rfl
    · rw [if_pos ⟨rfl, rfl⟩]
      refine ACall.value0 (acall_of_ax (P := Tryz.prog) (fn := Tryz.f66) rfl rfl (by kernel_rfl) rfl (fun c hR hfix => ?_)) (fix := fun _ => False) (fun _ h => h) rfl rfl
      repeat (first
        | refine ax_q (q_move rfl) ?_
        | refine ax_q (q_assign rfl) ?_
        | refine ax_ops_nil ?_
        | refine ax_post_code ?_
        | refine ax_seq ?_
        | refine ax_region rfl ?_
        | refine ax_alloc rfl rfl rfl ?_)
      refine ax_callv rfl rfl rfl h1 ?_
      unfold qA
      repeat (first
        | refine ax_q (q_move rfl) ?_
        | refine ax_q (q_extract rfl rfl) ?_
        | refine ax_alloc rfl rfl rfl ?_)
      refine ax_storeagg (c' := .box (cellsQ q)) rfl rfl rfl rfl rfl Nat.zero_lt_one rfl rfl (fun i' j' hi' hj' => ?_) ?_
      · rw [if_pos (Nat.lt_one_iff.1 hi')]; rfl
      repeat (first
        | refine ax_q (q_move rfl) ?_
        | refine ax_q (q_assign rfl) ?_
        | refine ax_ops_nil ?_
        | refine ax_post_code ?_
        | refine ax_seq ?_
        | refine ax_region rfl ?_
        | refine ax_guard rfl rfl ?_
        | refine ax_q (q_eql rfl rfl) ?_)
      refine ax_callv rfl rfl rfl h2 ?_
      repeat (first
        | refine ax_q (q_move rfl) ?_
        | refine ax_q (q_assign rfl) ?_
        | refine ax_ops_nil ?_
        | refine ax_post_code ?_
        | refine ax_seq ?_
        | refine ax_region rfl ?_
        | refine ax_cond_true rfl ?_
        | refine ax_q (q_pick rfl rfl) ?_
        | refine ax_q (q_loadpart_ptr rfl rfl rfl rfl rfl rfl rfl (by first | exact Nat.zero_lt_one | assumption | omega)) ?_)
      refine ax_storeagg (c' := .box (cellsQ q)) rfl rfl rfl rfl rfl Nat.zero_lt_one rfl rfl (fun i' j' hi' hj' => ?_) ?_
      · rw [if_pos (Nat.lt_one_iff.1 hi')]; rfl
      repeat (first
        | refine ax_q (q_assign rfl) ?_
        | refine ax_ops_nil ?_
        | refine ax_post_code ?_
        | refine ax_return ?_)
      exact ax_ret hR rfl rfl
  · rw [if_neg (fun h => he h.1)]
    refine ACall.value0 (acall_of_ax (P := Tryz.prog) (fn := Tryz.f66) rfl rfl (by kernel_rfl) rfl (fun c hR hfix => ?_)) (fix := fun _ => False) (fun _ h => h) rfl rfl
    repeat (first
      | refine ax_q (q_move rfl) ?_
      | refine ax_q (q_assign rfl) ?_
      | refine ax_ops_nil ?_
      | refine ax_post_code ?_
      | refine ax_seq ?_
      | refine ax_region rfl ?_
      | refine ax_alloc rfl rfl rfl ?_)
    refine ax_callv rfl rfl rfl h1 ?_
    unfold qA
    repeat (first
      | refine ax_q (q_move rfl) ?_
      | refine ax_q (q_extract rfl rfl) ?_
      | refine ax_alloc rfl rfl rfl ?_)
    refine ax_storeagg (c' := .box (cellsQ q)) rfl rfl rfl rfl rfl Nat.zero_lt_one rfl rfl (fun i' j' hi' hj' => ?_) ?_
    · rw [if_pos (Nat.lt_one_iff.1 hi')]; rfl
    repeat (first
      | refine ax_q (q_move rfl) ?_
      | refine ax_q (q_assign rfl) ?_
      | refine ax_ops_nil ?_
      | refine ax_post_code ?_
      | refine ax_seq ?_
      | refine ax_region rfl ?_
      | refine ax_q (q_eql rfl rfl) ?_)
    refine ax_gsplit rfl rfl (fun h0 => absurd h0 he) (fun h0 => ?_)
    repeat (first
      | refine ax_q (q_move rfl) ?_
      | refine ax_ops_nil ?_
      | refine ax_post_code ?_
      | refine ax_seq ?_
      | refine ax_region rfl ?_
      | refine ax_skip_not rfl rfl rfl ?_
      | refine ax_cond_false rfl ?_
      | refine ax_skip ?_
      | refine ax_q (q_pick rfl rfl) ?_
      | refine ax_q (q_loadpart_ptr rfl rfl rfl rfl rfl rfl rfl (by first | exact Nat.zero_lt_one | assumption | omega)) ?_)
    refine ax_storeagg (c' := .box (cellsQ q)) rfl rfl rfl rfl rfl Nat.zero_lt_one rfl rfl (fun i' j' hi' hj' => ?_) ?_
    · rw [if_pos (Nat.lt_one_iff.1 hi')]; rfl
    repeat (first
      | refine ax_q (q_assign rfl) ?_
      | refine ax_ops_nil ?_
      | refine ax_post_code ?_
      | refine ax_return ?_)
    exact ax_ret hR rfl rfl
theorem odds_ok (l : List (List UInt8)) (hlen : l.length ≤ 9223372036854775807) (hs : ∀ s ∈ l, s.length ≤ 9223372036854775807) : VCall Tryz.prog 37 [.ro (.strs l) 0 l.length] (.int .i64 (oddsR l)) := by
  have h1 := positive_ok l hlen hs
  have hz := sumR_sz l
  unfold oddsR
  generalize (sumR l).1 = q at *
  generalize posE l = e at *
  have h2 := qcmp_ok q 1 (hz.mono (by decide)) (by refine ⟨?_, ?_⟩ <;> (show (natL 1).length ≤ 100000; rw [natL_one]; decide))
  by_cases he : e = 0
  · rw [if_pos he]
    subst he
    generalize cmpQ q 1 = t at *
    by_cases ht : t = 0
    · rw [if_pos ht]
      subst ht
      refine ACall.value0 (acall_of_ax (P := Tryz.prog) (fn := Tryz.f37) rfl rfl (by kernel_rfl) rfl (fun c hR hfix => ?_)) (fix := fun _ => False) (fun _ h => h) rfl rfl
      repeat (first
        | refine ax_q (q_move rfl) ?_
        | refine ax_q (q_assign rfl) ?_
        | refine ax_ops_nil ?_
        | refine ax_post_code ?_
        | refine ax_seq ?_
        | refine ax_region rfl ?_)
      refine ax_callv rfl rfl rfl h1 ?_
      unfold qA
      repeat (first
        | refine ax_q (q_move rfl) ?_
        | refine ax_q (q_extract rfl rfl) ?_
        | refine ax_alloc rfl rfl rfl ?_)
      refine ax_storeagg (c' := .box (cellsQ q)) rfl rfl rfl rfl rfl Nat.zero_lt_one rfl rfl (fun i' j' hi' hj' => ?_) ?_
      · rw [if_pos (Nat.lt_one_iff.1 hi')]; rfl
      repeat (first
        | refine ax_q (q_move rfl) ?_
        | refine ax_q (q_assign rfl) ?_
        | refine ax_ops_nil ?_
        | refine ax_post_code ?_
        | refine ax_seq ?_
        | refine ax_region rfl ?_
        | refine ax_cond_false rfl ?_
        | refine ax_skip ?_
        | refine ax_q (q_neq rfl rfl) ?_)
      refine ax_regiond (by kernel_rfl) ?_
      refine ax_any_run (fuel := 0) [0, 1, 2, 3] [(3, .ptr 0 0 0)] ⟨rfl, trivial⟩ (by kernel_rfl) (by decide) rfl rfl ?_
      refine px_q rfl rfl (q_loadpart_ptr rfl rfl rfl rfl rfl rfl rfl (by first | exact Nat.zero_lt_one | assumption | omega)) ?_
      refine px_v rfl rfl rfl rfl rfl of_one ?_
      refine px_v rfl rfl rfl rfl rfl h2 ?_
      refine px_q rfl rfl (q_neq rfl rfl) ?_
      refine px_done ?_
      refine ax_any_done (by kernel_rfl) ?_
      repeat (first
        | refine ax_q (q_assign rfl) ?_
        | refine ax_ops_nil ?_
        | refine ax_post_code ?_
        | refine ax_seq ?_
        | refine ax_region rfl ?_
        | refine ax_cond_false rfl ?_
        | refine ax_skip ?_
        | refine ax_return ?_)
      exact ax_ret hR rfl rfl
    · rw [if_neg ht]
      refine ACall.value0 (acall_of_ax (P := Tryz.prog) (fn := Tryz.f37) rfl rfl (by kernel_rfl) rfl (fun c hR hfix => ?_)) (fix := fun _ => False) (fun _ h => h) rfl rfl
      repeat (first
        | refine ax_q (q_move rfl) ?_
        | refine ax_q (q_assign rfl) ?_
        | refine ax_ops_nil ?_
        | refine ax_post_code ?_
        | refine ax_seq ?_
        | refine ax_region rfl ?_)
      refine ax_callv rfl rfl rfl h1 ?_
      unfold qA
      repeat (first
        | refine ax_q (q_move rfl) ?_
        | refine ax_q (q_extract rfl rfl) ?_
        | refine ax_alloc rfl rfl rfl ?_)
      refine ax_storeagg (c' := .box (cellsQ q)) rfl rfl rfl rfl rfl Nat.zero_lt_one rfl rfl (fun i' j' hi' hj' => ?_) ?_
      · rw [if_pos (Nat.lt_one_iff.1 hi')]; rfl
      repeat (first
        | refine ax_q (q_move rfl) ?_
        | refine ax_q (q_assign rfl) ?_
        | refine ax_ops_nil ?_
        | refine ax_post_code ?_
        | refine ax_seq ?_
        | refine ax_region rfl ?_
        | refine ax_cond_false rfl ?_
        | refine ax_skip ?_
        | refine ax_q (q_neq rfl rfl) ?_)
      refine ax_regiond (by kernel_rfl) ?_
      refine ax_any_run (fuel := 0) [0, 1, 2, 3] [(3, .ptr 0 0 0)] ⟨rfl, trivial⟩ (by kernel_rfl) (by decide) rfl rfl ?_
      refine px_q rfl rfl (q_loadpart_ptr rfl rfl rfl rfl rfl rfl rfl (by first | exact Nat.zero_lt_one | assumption | omega)) ?_
      refine px_v rfl rfl rfl rfl rfl of_one ?_
      refine px_v rfl rfl rfl rfl rfl h2 ?_
      refine px_q rfl rfl (q_neq rfl rfl) ?_
      refine px_done ?_
      refine ax_any_done (by kernel_rfl) ?_
      repeat (refine ax_post_code ?_)
      refine ax_cond_dec rfl (fun h0 => ?_) (fun h0 => absurd ht h0)
      repeat (first
        | refine ax_q (q_assign rfl) ?_
        | refine ax_ops_nil ?_
        | refine ax_post_code ?_
        | refine ax_seq ?_
        | refine ax_region rfl ?_
        | refine ax_return ?_
        | refine ax_ret_code ?_)
      exact ax_ret hR rfl rfl
  · rw [if_neg he]
    refine ACall.value0 (acall_of_ax (P := Tryz.prog) (fn := Tryz.f37) rfl rfl (by kernel_rfl) rfl (fun c hR hfix => ?_)) (fix := fun _ => False) (fun _ h => h) rfl rfl
    repeat (first
      | refine ax_q (q_move rfl) ?_
      | refine ax_q (q_assign rfl) ?_
      | refine ax_ops_nil ?_
      | refine ax_post_code ?_
      | refine ax_seq ?_
      | refine ax_region rfl ?_)
    refine ax_callv rfl rfl rfl h1 ?_
    unfold qA
    repeat (first
      | refine ax_q (q_move rfl) ?_
      | refine ax_q (q_extract rfl rfl) ?_
      | refine ax_alloc rfl rfl rfl ?_)
    refine ax_storeagg (c' := .box (cellsQ q)) rfl rfl rfl rfl rfl Nat.zero_lt_one rfl rfl (fun i' j' hi' hj' => ?_) ?_
    · rw [if_pos (Nat.lt_one_iff.1 hi')]; rfl
    repeat (first
      | refine ax_q (q_move rfl) ?_
      | refine ax_q (q_assign rfl) ?_
      | refine ax_ops_nil ?_
      | refine ax_post_code ?_
      | refine ax_seq ?_
      | refine ax_region rfl ?_
      | refine ax_q (q_neq rfl rfl) ?_)
    refine ax_cond_dec rfl (fun h0 => ?_) (fun h0 => absurd he h0)
    repeat (first
      | refine ax_q (q_move rfl) ?_
      | refine ax_q (q_assign rfl) ?_
      | refine ax_ops_nil ?_
      | refine ax_post_code ?_
      | refine ax_seq ?_
      | refine ax_region rfl ?_
      | refine ax_return ?_
      | refine ax_ret_code ?_)
    exact ax_ret hR rfl rfl
end Go.Proofs.YtbeegiiiochblaaGreatDoor

namespace Go.Proofs.YtbeegiiiochblaaGreatDoor
open Go.Ax Go.Ax.Bg Go.Ax.Rt Go.RowKit
attribute [local irreducible] Ax Post QOp ACall PureOp
set_option maxRecDepth 100000
set_option maxHeartbeats 4000000

theorem sum_zero {l : List (List UInt8)} (h : (sumR l).2 = 0) : l.length ≤ 256 ∧ allE l = 0 := by
  unfold sumR at h
  split at h
  · exact absurd h (by decide)
  · split at h
    · exact ⟨by omega, by assumption⟩
    · exact absurd h (by assumption)
theorem pos_zero {l : List (List UInt8)} (h : posE l = 0) : (sumR l).2 = 0 := by
  unfold posE at h
  split at h
  · exact absurd h (by decide)
  · exact h
theorem sgn_zero {q : Rat} : sgn q.num = 0 ↔ q = 0 := by
  rw [← Rat.num_eq_zero]
  unfold sgn
  split
  · omega
  · split <;> omega
theorem shares_bad (l : List (List UInt8)) (hlen : l.length ≤ 9223372036854775807) (hs : ∀ s ∈ l, s.length ≤ 9223372036854775807) (h : posE l ≠ 0) : VCall Tryz.prog 33 [.ro (.strs l) 0 l.length] (.tup [.nil, .int .i64 (posE l)]) := by
  have h1 := positive_ok l hlen hs
  generalize (sumR l).1 = q at *
  generalize posE l = e at *
  refine ACall.value0 (acall_of_ax (P := Tryz.prog) (fn := Tryz.f33) rfl rfl (by kernel_rfl) rfl (fun c hR hfix => ?_)) (fix := fun _ => False) (fun _ h => h) rfl rfl
  repeat (first
    | refine ax_q (q_move rfl) ?_
    | refine ax_q (q_assign rfl) ?_
    | refine ax_ops_nil ?_
    | refine ax_post_code ?_
    | refine ax_seq ?_
    | refine ax_region rfl ?_)
  refine ax_callv rfl rfl rfl h1 ?_
  unfold qA
  repeat (first
    | refine ax_q (q_move rfl) ?_
    | refine ax_q (q_extract rfl rfl) ?_
    | refine ax_alloc rfl rfl rfl ?_)
  refine ax_storeagg (c' := .box (cellsQ q)) rfl rfl rfl rfl rfl Nat.zero_lt_one rfl rfl (fun i' j' hi' hj' => ?_) ?_
  · rw [if_pos (Nat.lt_one_iff.1 hi')]; rfl
  repeat (first
    | refine ax_q (q_move rfl) ?_
    | refine ax_q (q_assign rfl) ?_
    | refine ax_ops_nil ?_
    | refine ax_post_code ?_
    | refine ax_seq ?_
    | refine ax_region rfl ?_
    | refine ax_q (q_neq rfl rfl) ?_)
  refine ax_cond_dec rfl (fun h0 => ?_) (fun h0 => absurd h h0)
  repeat (first
    | refine ax_q (q_move rfl) ?_
    | refine ax_q (q_assign rfl) ?_
    | refine ax_ops_nil ?_
    | refine ax_post_code ?_
    | refine ax_seq ?_
    | refine ax_region rfl ?_
    | refine ax_return ?_
    | refine ax_ret_code ?_)
  exact ax_ret hR rfl rfl
theorem shares_zero (l : List (List UInt8)) (hlen : l.length ≤ 9223372036854775807) (hs : ∀ s ∈ l, s.length ≤ 9223372036854775807) (h : posE l = 0) (h0 : (sumR l).1 = 0) : VCall Tryz.prog 33 [.ro (.strs l) 0 l.length] (.tup [.nil, .int .i64 18]) := by
  have h1 := positive_ok l hlen hs
  have h2 := qsign_ok (sumR l).1
  rw [sgn_zero.2 h0] at h2
  rw [h] at h1
  generalize (sumR l).1 = q at *
  refine ACall.value0 (acall_of_ax (P := Tryz.prog) (fn := Tryz.f33) rfl rfl (by kernel_rfl) rfl (fun c hR hfix => ?_)) (fix := fun _ => False) (fun _ h => h) rfl rfl
  repeat (first
    | refine ax_q (q_move rfl) ?_
    | refine ax_q (q_assign rfl) ?_
    | refine ax_ops_nil ?_
    | refine ax_post_code ?_
    | refine ax_seq ?_
    | refine ax_region rfl ?_)
  refine ax_callv rfl rfl rfl h1 ?_
  unfold qA
  repeat (first
    | refine ax_q (q_move rfl) ?_
    | refine ax_q (q_extract rfl rfl) ?_
    | refine ax_alloc rfl rfl rfl ?_)
  refine ax_storeagg (c' := .box (cellsQ q)) rfl rfl rfl rfl rfl Nat.zero_lt_one rfl rfl (fun i' j' hi' hj' => ?_) ?_
  · rw [if_pos (Nat.lt_one_iff.1 hi')]; rfl
  repeat (first
    | refine ax_q (q_move rfl) ?_
    | refine ax_q (q_assign rfl) ?_
    | refine ax_ops_nil ?_
    | refine ax_post_code ?_
    | refine ax_seq ?_
    | refine ax_region rfl ?_
    | refine ax_cond_false rfl ?_
    | refine ax_skip ?_
    | refine ax_q (q_neq rfl rfl) ?_
    | refine ax_q (q_loadpart_ptr rfl rfl rfl rfl rfl rfl rfl (by first | exact Nat.zero_lt_one | assumption | omega)) ?_)
  refine ax_callv rfl rfl rfl h2 ?_
  repeat (first
    | refine ax_q (q_assign rfl) ?_
    | refine ax_ops_nil ?_
    | refine ax_post_code ?_
    | refine ax_seq ?_
    | refine ax_region rfl ?_
    | refine ax_cond_true rfl ?_
    | refine ax_return ?_
    | refine ax_ret_code ?_
    | refine ax_q (q_eql rfl rfl) ?_)
  exact ax_ret hR rfl rfl
theorem best_ok (l : List (List UInt8)) (hlen : l.length ≤ 9223372036854775807) (hs : ∀ s ∈ l, s.length ≤ 9223372036854775807) : VCall Tryz.prog 36 [.ro (.strs l) 0 l.length] (.tup [.int .i64 (bestR l).1, .int .i64 (bestR l).2]) := by
  unfold bestR
  have h1 := checkAll_ok l hlen hs
  by_cases hl : 256 < l.length
  · rw [if_pos hl]
    refine ACall.value0 (acall_of_ax (P := Tryz.prog) (fn := Tryz.f36) rfl rfl (by kernel_rfl) rfl (fun c hR hfix => ?_)) (fix := fun _ => False) (fun _ h => h) rfl rfl
    repeat (first
      | refine ax_q (q_move rfl) ?_
      | refine ax_q (q_assign rfl) ?_
      | refine ax_ops_nil ?_
      | refine ax_post_code ?_
      | refine ax_seq ?_
      | refine ax_region rfl ?_
      | refine ax_q (q_gtr rfl rfl) ?_
      | refine ax_q (q_len rfl rfl rfl) ?_)
    refine ax_cond_dec rfl (fun h0 => ?_) (fun h0 => absurd hl (by omega))
    repeat (first
      | refine ax_q (q_assign rfl) ?_
      | refine ax_ops_nil ?_
      | refine ax_post_code ?_
      | refine ax_seq ?_
      | refine ax_region rfl ?_
      | refine ax_return ?_
      | refine ax_ret_code ?_)
    exact ax_ret hR rfl rfl
  rw [if_neg hl]
  by_cases hn : l = []
  · rw [if_pos hn]
    subst hn
    refine ACall.value0 (acall_of_ax (P := Tryz.prog) (fn := Tryz.f36) rfl rfl (by kernel_rfl) rfl (fun c hR hfix => ?_)) (fix := fun _ => False) (fun _ h => h) rfl rfl
    repeat (first
      | refine ax_q (q_move rfl) ?_
      | refine ax_q (q_assign rfl) ?_
      | refine ax_ops_nil ?_
      | refine ax_post_code ?_
      | refine ax_seq ?_
      | refine ax_region rfl ?_
      | refine ax_cond_true rfl ?_
      | refine ax_cond_false rfl ?_
      | refine ax_skip ?_
      | refine ax_return ?_
      | refine ax_ret_code ?_
      | refine ax_q (q_eql rfl rfl) ?_
      | refine ax_q (q_gtr rfl rfl) ?_
      | refine ax_q (q_len rfl rfl rfl) ?_)
    exact ax_ret hR rfl rfl
  rw [if_neg hn]
  have hpos : 0 < l.length := List.length_pos_iff.2 hn
  by_cases hE : allE l = 0
  · rw [if_pos hE]
    rw [hE] at h1
    have h4 := in_ok l (by omega) (fun s hm => ⟨hs s hm, allE_mem hE s hm⟩)
    have hz : ∀ q ∈ l.map ratV, Sz 2000 q := fun q hq => by
      obtain ⟨s, h3, rfl⟩ := List.mem_map.1 hq
      exact sz_v (allE_mem hE s h3)
    have hml : (l.map ratV).length = l.length := List.length_map _
    generalize l.map ratV = qs at *
    refine ACall.value0 (acall_of_ax (P := Tryz.prog) (fn := Tryz.f36) rfl rfl (by kernel_rfl) rfl (fun c hR hfix => ?_)) (fix := fun _ => False) (fun _ h => h) rfl rfl
    repeat (first
      | refine ax_q (q_move rfl) ?_
      | refine ax_q (q_assign rfl) ?_
      | refine ax_ops_nil ?_
      | refine ax_post_code ?_
      | refine ax_seq ?_
      | refine ax_region rfl ?_
      | refine ax_q (q_gtr rfl rfl) ?_
      | refine ax_q (q_len rfl rfl rfl) ?_)
    refine ax_cond_dec rfl (fun h0 => absurd hl (by omega)) (fun h0 => ?_)
    repeat (first
      | refine ax_q (q_move rfl) ?_
      | refine ax_ops_nil ?_
      | refine ax_post_code ?_
      | refine ax_seq ?_
      | refine ax_region rfl ?_
      | refine ax_skip ?_
      | refine ax_q (q_eql rfl rfl) ?_
      | refine ax_q (q_len rfl rfl rfl) ?_)
    refine ax_cond_dec rfl (fun h0 => absurd hpos (by omega)) (fun h0 => ?_)
    repeat (first
      | refine ax_q (q_move rfl) ?_
      | refine ax_post_code ?_
      | refine ax_seq ?_
      | refine ax_region rfl ?_
      | refine ax_skip ?_)
    refine ax_callv rfl rfl rfl h1 ?_
    repeat (first
      | refine ax_q (q_move rfl) ?_
      | refine ax_q (q_assign rfl) ?_
      | refine ax_ops_nil ?_
      | refine ax_post_code ?_
      | refine ax_seq ?_
      | refine ax_region rfl ?_
      | refine ax_cond_false rfl ?_
      | refine ax_skip ?_
      | refine ax_q (q_neq rfl rfl) ?_)
    refine ax_callv rfl rfl rfl h4 ?_
    repeat (first
      | refine ax_q (q_move rfl) ?_
      | refine ax_q (q_assign rfl) ?_
      | refine ax_ops_nil ?_
      | refine ax_post_code ?_
      | refine ax_seq ?_
      | refine ax_region rfl ?_
      | refine ax_block ?_
      | refine ax_q (q_len rfl rfl rfl) ?_)
    refine ax_loop (ι := Nat) (fun k => [(5, .ro (qsC qs) 0 l.length), (6, .int .i64 (bestK qs k : Nat)), (22, .ro (qsC qs) 0 l.length), (23, .int .i64 (l.length : Nat)), (24, .int .i64 (k : Nat))]) (fun _ => [])
      (fun k => k ≤ l.length) (fun k => l.length - k) 0 ⟨⟨rfl, rfl, rfl, rfl, rfl, trivial⟩, rfl, Nat.zero_le _⟩ ?_
    intro k hk
    repeat (first
      | refine ax_ops_nil ?_
      | refine ax_post_code ?_
      | refine ax_seq ?_
      | refine ax_region rfl ?_
      | refine ax_q (q_lss rfl rfl) ?_)
    refine ax_cond_dec rfl (fun h => ?_) (fun h => ?_)
    · have hk' : k < qs.length := by omega
      have hbk := bestK_le qs k
      have hbl : bestK qs k < l.length := by omega
      have hq := hz _ (getD_mem 0 hk')
      have hb := hz _ (getD_mem 0 (show bestK qs k < qs.length by omega))
      have hc := qcmp_ok (qs.getD k 0) (qs.getD (bestK qs k) 0) (hq.mono (by decide)) (hb.mono (by decide))
      have hstep : bestK qs (k + 1) = if 0 < cmpQ (qs.getD k 0) (qs.getD (bestK qs k) 0) then k else bestK qs k := rfl
      generalize bestK qs k = j at *
      generalize cmpQ (qs.getD k 0) (qs.getD j 0) = t at *
      repeat (first
        | refine ax_q (q_move rfl) ?_
        | refine ax_q (q_assign rfl) ?_
        | refine ax_post_code ?_
        | refine ax_seq ?_
        | refine ax_region rfl ?_
        | refine ax_block ?_
        | refine ax_skip ?_
        | refine ax_q (q_index_ro' rfl rfl rfl rfl (by first | (simp only [Nat.zero_add, Int.toNat_natCast, Int.toNat_zero]; exact rfl) | exact rfl) (by omega)) ?_
        | refine ax_q (q_loadagg_rp rfl rfl rfl rfl rfl rfl) ?_
        | refine ax_alloc rfl rfl rfl ?_)
      refine ax_slot_ops 28 (.agg (cellsQ (qs.getD k 0))) rfl (AEq.of_eq rfl) ?_
      refine ax_storeagg (c' := .box (cellsQ (qs.getD k 0))) rfl rfl rfl rfl rfl Nat.zero_lt_one rfl rfl (fun i' j' hi' hj' => ?_) ?_
      · rw [if_pos (Nat.lt_one_iff.1 hi')]; rfl
      repeat (first
        | refine ax_ops_nil ?_
        | refine ax_post_code ?_
        | refine ax_seq ?_)
      refine ax_regiond (by kernel_rfl) ?_
      refine ax_any_run (fuel := 0) [0, 1, 2, 3, 4, 5, 6] [(5, .ro (qsC qs) 0 l.length), (6, .int .i64 (j : Nat)), (7, .int .i64 (k : Nat)), (8, .ptr 0 0 0), (22, .ro (qsC qs) 0 l.length), (23, .int .i64 (l.length : Nat)), (24, .int .i64 (k : Nat))] ⟨rfl, rfl, rfl, rfl, rfl, rfl, rfl, trivial⟩ (by kernel_rfl) (by decide) rfl rfl ?_
      refine px_q rfl rfl (q_loadpart_ptr rfl rfl rfl rfl rfl rfl rfl (by first | exact Nat.zero_lt_one | assumption | omega)) ?_
      refine px_q rfl rfl (q_move rfl) ?_
      refine px_q rfl rfl (q_move rfl) ?_
      refine px_q rfl rfl (q_index_ro' rfl rfl rfl rfl (by first | (simp only [Nat.zero_add, Int.toNat_natCast, Int.toNat_zero]; exact rfl) | exact rfl) (by omega)) ?_
      refine px_q rfl rfl (q_loadagg_rp rfl rfl rfl rfl rfl rfl) ?_
      refine px_v rfl rfl rfl rfl rfl hc ?_
      refine px_q rfl rfl (q_gtr rfl rfl) ?_
      refine px_done ?_
      refine ax_any_done (by kernel_rfl) ?_
      repeat (refine ax_post_code ?_)
      refine ax_cond_dec rfl (fun h5 => ?_) (fun h5 => ?_)
      · rw [if_pos h5] at hstep
        repeat (first
          | refine ax_q (q_move rfl) ?_
          | refine ax_q (q_assign rfl) ?_
          | refine ax_ops_nil ?_
          | refine ax_region rfl ?_
          | refine ax_post_blk ?_)
        refine ax_post_code ?_
        refine ax_heap ([] ++ [none]) ?_ ?_
        · exact HSub.drop HSub.nil
        refine ax_drop (H1 := []) rfl (by rw [hfix]; exact fun h => h) ?_
        repeat (first
          | refine ax_q (q_move rfl) ?_
          | refine ax_ops_nil ?_
          | refine ax_region rfl ?_
          | refine ax_q (q_add rfl rfl (by omega)) ?_)
        exact ax_post_inv ⟨k + 1, by omega, by omega, ⟨rfl, (by show _ = some (AV.int .i64 ((bestK qs (k + 1) : Nat) : Int)); rw [hstep]; rfl), rfl, rfl, rfl, trivial⟩, rfl⟩
      · rw [if_neg h5] at hstep
        repeat (first
          | refine ax_post_blk ?_
          | refine ax_skip ?_)
        refine ax_post_code ?_
        refine ax_heap ([] ++ [none]) ?_ ?_
        · exact HSub.drop HSub.nil
        refine ax_drop (H1 := []) rfl (by rw [hfix]; exact fun h => h) ?_
        repeat (first
          | refine ax_q (q_move rfl) ?_
          | refine ax_ops_nil ?_
          | refine ax_region rfl ?_
          | refine ax_q (q_add rfl rfl (by omega)) ?_)
        exact ax_post_inv ⟨k + 1, by omega, by omega, ⟨rfl, (by show _ = some (AV.int .i64 ((bestK qs (k + 1) : Nat) : Int)); rw [hstep]; rfl), rfl, rfl, rfl, trivial⟩, rfl⟩
    · have hk' : k = l.length := by omega
      subst hk'
      repeat (first
        | refine ax_q (q_move rfl) ?_
        | refine ax_q (q_assign rfl) ?_
        | refine ax_ops_nil ?_
        | refine ax_post_code ?_
        | refine ax_seq ?_
        | refine ax_region rfl ?_
        | refine ax_exit ?_
        | refine ax_exit_here ?_
        | refine ax_exit_code ?_
        | refine ax_exit_inv ?_
        | refine ax_return ?_)
      exact ax_ret hR rfl rfl
  · rw [if_neg hE]
    generalize allE l = e at *
    refine ACall.value0 (acall_of_ax (P := Tryz.prog) (fn := Tryz.f36) rfl rfl (by kernel_rfl) rfl (fun c hR hfix => ?_)) (fix := fun _ => False) (fun _ h => h) rfl rfl
    repeat (first
      | refine ax_q (q_move rfl) ?_
      | refine ax_q (q_assign rfl) ?_
      | refine ax_ops_nil ?_
      | refine ax_post_code ?_
      | refine ax_seq ?_
      | refine ax_region rfl ?_
      | refine ax_q (q_gtr rfl rfl) ?_
      | refine ax_q (q_len rfl rfl rfl) ?_)
    refine ax_cond_dec rfl (fun h0 => absurd hl (by omega)) (fun h0 => ?_)
    repeat (first
      | refine ax_q (q_move rfl) ?_
      | refine ax_ops_nil ?_
      | refine ax_post_code ?_
      | refine ax_seq ?_
      | refine ax_region rfl ?_
      | refine ax_skip ?_
      | refine ax_q (q_eql rfl rfl) ?_
      | refine ax_q (q_len rfl rfl rfl) ?_)
    refine ax_cond_dec rfl (fun h0 => absurd hpos (by omega)) (fun h0 => ?_)
    repeat (first
      | refine ax_q (q_move rfl) ?_
      | refine ax_post_code ?_
      | refine ax_seq ?_
      | refine ax_region rfl ?_
      | refine ax_skip ?_)
    refine ax_callv rfl rfl rfl h1 ?_
    repeat (first
      | refine ax_q (q_move rfl) ?_
      | refine ax_q (q_assign rfl) ?_
      | refine ax_ops_nil ?_
      | refine ax_post_code ?_
      | refine ax_seq ?_
      | refine ax_region rfl ?_
      | refine ax_q (q_neq rfl rfl) ?_)
    refine ax_cond_dec rfl (fun h2 => ?_) (fun h2 => absurd hE h2)
    repeat (first
      | refine ax_q (q_move rfl) ?_
      | refine ax_q (q_assign rfl) ?_
      | refine ax_ops_nil ?_
      | refine ax_post_code ?_
      | refine ax_seq ?_
      | refine ax_region rfl ?_
      | refine ax_return ?_
      | refine ax_ret_code ?_)
    exact ax_ret hR rfl rfl
theorem shares_yes (l : List (List UInt8)) (hlen : l.length ≤ 9223372036854775807) (hs : ∀ s ∈ l, s.length ≤ 9223372036854775807) (h : posE l = 0) (h0 : (sumR l).1 ≠ 0) (hall : ((l.map ratV).map (fun q => q / (sumR l).1)).all fitB = true) : VCall Tryz.prog 33 [.ro (.strs l) 0 l.length] (.tup [.ro (.strs (((l.map ratV).map (fun q => q / (sumR l).1)).map textQ)) 0 l.length, .int .i64 0]) := by
  have h1 := positive_ok l hlen hs
  have h2 := qsign_ok (sumR l).1
  have h3 : ¬ sgn (sumR l).1.num = 0 := fun e => h0 (sgn_zero.1 e)
  obtain ⟨b1, b2⟩ := sum_zero (pos_zero h)
  have h4 := in_ok l (by omega) (fun s hm => ⟨hs s hm, allE_mem b2 s hm⟩)
  have hz : ∀ q ∈ l.map ratV, Sz 2000 q := fun q hq => by
    obtain ⟨s, h3, rfl⟩ := List.mem_map.1 hq
    exact sz_v (allE_mem b2 s h3)
  have hml : (l.map ratV).length = l.length := List.length_map _
  have hsz := sumR_sz l
  rw [h] at h1
  generalize l.map ratV = qs at *
  generalize (sumR l).1 = s at *
  have h5 := outAll_yes (qs.map (fun q => q / s)) (by rw [List.length_map]; omega) (fun q hq => by
    obtain ⟨x, h6, rfl⟩ := List.mem_map.1 hq
    exact (sz_div ((hz x h6).mono (by decide)) hsz h0).mono (by decide)) hall
  rw [List.length_map, hml] at h5
  refine ACall.value0 (acall_of_ax (P := Tryz.prog) (fn := Tryz.f33) rfl rfl (by kernel_rfl) rfl (fun c hR hfix => ?_)) (fix := fun _ => False) (fun _ h => h) rfl rfl
  repeat (first
    | refine ax_q (q_move rfl) ?_
    | refine ax_q (q_assign rfl) ?_
    | refine ax_ops_nil ?_
    | refine ax_post_code ?_
    | refine ax_seq ?_
    | refine ax_region rfl ?_)
  refine ax_callv rfl rfl rfl h1 ?_
  unfold qA
  repeat (first
    | refine ax_q (q_move rfl) ?_
    | refine ax_q (q_extract rfl rfl) ?_
    | refine ax_alloc rfl rfl rfl ?_)
  refine ax_storeagg (c' := .box (cellsQ s)) rfl rfl rfl rfl rfl Nat.zero_lt_one rfl rfl (fun i' j' hi' hj' => ?_) ?_
  · rw [if_pos (Nat.lt_one_iff.1 hi')]; rfl
  repeat (first
    | refine ax_q (q_move rfl) ?_
    | refine ax_q (q_assign rfl) ?_
    | refine ax_ops_nil ?_
    | refine ax_post_code ?_
    | refine ax_seq ?_
    | refine ax_region rfl ?_
    | refine ax_cond_false rfl ?_
    | refine ax_skip ?_
    | refine ax_q (q_neq rfl rfl) ?_
    | refine ax_q (q_loadpart_ptr rfl rfl rfl rfl rfl rfl rfl (by first | exact Nat.zero_lt_one | assumption | omega)) ?_)
  refine ax_callv rfl rfl rfl h2 ?_
  repeat (first
    | refine ax_ops_nil ?_
    | refine ax_post_code ?_
    | refine ax_q (q_eql rfl rfl) ?_)
  refine ax_cond_dec rfl (fun h7 => absurd h7 h3) (fun h7 => ?_)
  repeat (first
    | refine ax_q (q_move rfl) ?_
    | refine ax_q (q_assign rfl) ?_
    | refine ax_ops_nil ?_
    | refine ax_post_code ?_
    | refine ax_seq ?_
    | refine ax_region rfl ?_
    | refine ax_skip ?_)
  refine ax_callv rfl rfl rfl h4 ?_
  repeat (first
    | refine ax_q (q_move rfl) ?_
    | refine ax_ops_nil ?_
    | refine ax_post_code ?_
    | refine ax_q (q_len rfl rfl rfl) ?_)
  refine ax_nilobj 6 ⟨79, qsC []⟩ rfl rfl ?_
  repeat (refine ax_block ?_)
  refine ax_loop (ι := Nat) (fun k => [(4, .ptr 0 0 0), (6, .sl 1 0 k), (21, .ro (qsC qs) 0 l.length), (22, .int .i64 (l.length : Nat)), (23, .int .i64 (k : Nat))]) (fun k => [some ⟨79, .box (cellsQ s)⟩, some ⟨79, qsC ((qs.take k).map (fun q => q / s))⟩])
    (fun k => k ≤ l.length) (fun k => l.length - k) 0 ⟨⟨rfl, rfl, rfl, rfl, rfl, trivial⟩, rfl, Nat.zero_le _⟩ ?_
  intro k hk
  repeat (first
    | refine ax_ops_nil ?_
    | refine ax_post_code ?_
    | refine ax_seq ?_
    | refine ax_region rfl ?_
    | refine ax_q (q_lss rfl rfl) ?_)
  refine ax_cond_dec rfl (fun h => ?_) (fun h => ?_)
  · have hk' : k < qs.length := by omega
    have hq := hz _ (getD_mem 0 hk')
    have htk := map_take_succ (fun q => q / s) qs 0 k hk'
    have hml2 : ((qs.take k).map (fun q => q / s)).length = k := by rw [List.length_map, List.length_take]; omega
    generalize (qs.take k).map (fun q => q / s) = ds at *
    repeat (first
      | refine ax_post_code ?_
      | refine ax_seq ?_
      | refine ax_region rfl ?_
      | refine ax_block ?_
      | refine ax_skip ?_
      | refine ax_q (q_index_ro' rfl rfl rfl rfl (by first | (simp only [Nat.zero_add, Int.toNat_natCast, Int.toNat_zero]; exact rfl) | exact rfl) (by omega)) ?_
      | refine ax_q (q_loadagg_rp rfl rfl rfl rfl rfl rfl) ?_
      | refine ax_alloc rfl rfl rfl ?_)
    refine ax_slot_ops 26 (.agg (cellsQ (qs.getD k 0))) rfl (AEq.of_eq rfl) ?_
    generalize qs.getD k 0 = q at *
    have hc := qdiv_ok q s (hq.mono (by decide)) (hsz.mono (by decide)) h0
    refine ax_storeagg (c' := .box (cellsQ q)) rfl rfl rfl rfl rfl Nat.zero_lt_one rfl rfl (fun i' j' hi' hj' => ?_) ?_
    · rw [if_pos (Nat.lt_one_iff.1 hi')]; rfl
    repeat (first
      | refine ax_q (q_move rfl) ?_
      | refine ax_ops_nil ?_
      | refine ax_post_code ?_
      | refine ax_region rfl ?_
      | refine ax_q (q_loadpart_ptr rfl rfl rfl rfl rfl rfl rfl (by first | exact Nat.zero_lt_one | assumption | omega)) ?_)
    refine ax_callv rfl rfl rfl hc ?_
    unfold qA
    repeat (refine ax_buildSliceRo rfl rfl rfl rfl rfl rfl rfl rfl rfl rfl rfl ?_)
    refine ax_append rfl rfl rfl rfl rfl rfl rfl rfl rfl hml2 rfl rfl (by show 0 + 1 ≤ 1; omega) rfl (by show (k + 1) * 56 ≤ _ ∧ _; omega) ?_ (by rw [hfix]; exact fun h => h) ?_
    · intro i' j hi hj
      exact rowE_noref 0 3 cellsQ cellsQ_noref ds (q / s) _ (rowQ1 _) 1 i' j hi hj
    repeat (first
      | refine ax_q (q_assign rfl) ?_
      | refine ax_ops_nil ?_
      | refine ax_post_blk ?_)
    refine ax_post_code ?_
    refine ax_heap ([some ⟨79, .box (cellsQ s)⟩, some ⟨79, qsC ((qs.take (k + 1)).map (fun q => q / s))⟩] ++ [none]) ?_ ?_
    · rw [htk]
      exact HSub.eqv (CEq.refl _) (HSub.eqv (rowE_snoc 0 3 cellsQ ds (q / s) _ (rowQ1 _)) (HSub.drop HSub.nil))
    refine ax_drop (H1 := [some ⟨79, .box (cellsQ s)⟩, some ⟨79, qsC ((qs.take (k + 1)).map (fun q => q / s))⟩]) rfl (by rw [hfix]; exact fun h => h) ?_
    refine ax_heap [some ⟨79, .box (cellsQ s)⟩, some ⟨79, qsC ((qs.take (k + 1)).map (fun q => q / s))⟩] ?_ ?_
    · exact HSub.eqv (CEq.refl _) (HSub.eqv ⟨rfl, rfl, fun i j _ hj => (cellsQ_noref _ j _ hj).symm⟩ HSub.nil)
    repeat (first
      | refine ax_q (q_move rfl) ?_
      | refine ax_ops_nil ?_
      | refine ax_region rfl ?_
      | refine ax_q (q_add rfl rfl (by omega)) ?_)
    exact ax_post_inv ⟨k + 1, by omega, by omega, ⟨rfl, rfl, rfl, rfl, rfl, trivial⟩, rfl⟩
  · have hk' : k = l.length := by omega
    subst hk'
    rw [List.take_of_length_le (by omega)]
    repeat (first
      | refine ax_post_code ?_
      | refine ax_seq ?_
      | refine ax_exit ?_
      | refine ax_exit_here ?_
      | refine ax_exit_code ?_
      | refine ax_exit_inv ?_)
    refine ax_give_code 1 6 l.length [] rfl (refless_qs _) rfl (by show _ ≤ (qs.map (fun q => q / s)).length; rw [List.length_map]; omega) trivial ?_
    repeat (first
      | refine ax_q (q_move rfl) ?_
      | refine ax_region rfl ?_)
    refine ax_callv rfl rfl rfl h5 ?_
    repeat (first
      | refine ax_q (q_assign rfl) ?_
      | refine ax_ops_nil ?_
      | refine ax_post_code ?_
      | refine ax_return ?_
      | refine ax_q (q_extract rfl rfl) ?_)
    exact ax_ret hR rfl rfl
theorem shares_no (l : List (List UInt8)) (hlen : l.length ≤ 9223372036854775807) (hs : ∀ s ∈ l, s.length ≤ 9223372036854775807) (h : posE l = 0) (h0 : (sumR l).1 ≠ 0) (hall : ((l.map ratV).map (fun q => q / (sumR l).1)).all fitB = false) : VCall Tryz.prog 33 [.ro (.strs l) 0 l.length] (.tup [.nil, .int .i64 2]) := by
  have h1 := positive_ok l hlen hs
  have h2 := qsign_ok (sumR l).1
  have h3 : ¬ sgn (sumR l).1.num = 0 := fun e => h0 (sgn_zero.1 e)
  obtain ⟨b1, b2⟩ := sum_zero (pos_zero h)
  have h4 := in_ok l (by omega) (fun s hm => ⟨hs s hm, allE_mem b2 s hm⟩)
  have hz : ∀ q ∈ l.map ratV, Sz 2000 q := fun q hq => by
    obtain ⟨s, h3, rfl⟩ := List.mem_map.1 hq
    exact sz_v (allE_mem b2 s h3)
  have hml : (l.map ratV).length = l.length := List.length_map _
  have hsz := sumR_sz l
  rw [h] at h1
  generalize l.map ratV = qs at *
  generalize (sumR l).1 = s at *
  have h5 := outAll_no (qs.map (fun q => q / s)) (by rw [List.length_map]; omega) (fun q hq => by
    obtain ⟨x, h6, rfl⟩ := List.mem_map.1 hq
    exact (sz_div ((hz x h6).mono (by decide)) hsz h0).mono (by decide)) hall
  rw [List.length_map, hml] at h5
  refine ACall.value0 (acall_of_ax (P := Tryz.prog) (fn := Tryz.f33) rfl rfl (by kernel_rfl) rfl (fun c hR hfix => ?_)) (fix := fun _ => False) (fun _ h => h) rfl rfl
  repeat (first
    | refine ax_q (q_move rfl) ?_
    | refine ax_q (q_assign rfl) ?_
    | refine ax_ops_nil ?_
    | refine ax_post_code ?_
    | refine ax_seq ?_
    | refine ax_region rfl ?_)
  refine ax_callv rfl rfl rfl h1 ?_
  unfold qA
  repeat (first
    | refine ax_q (q_move rfl) ?_
    | refine ax_q (q_extract rfl rfl) ?_
    | refine ax_alloc rfl rfl rfl ?_)
  refine ax_storeagg (c' := .box (cellsQ s)) rfl rfl rfl rfl rfl Nat.zero_lt_one rfl rfl (fun i' j' hi' hj' => ?_) ?_
  · rw [if_pos (Nat.lt_one_iff.1 hi')]; rfl
  repeat (first
    | refine ax_q (q_move rfl) ?_
    | refine ax_q (q_assign rfl) ?_
    | refine ax_ops_nil ?_
    | refine ax_post_code ?_
    | refine ax_seq ?_
    | refine ax_region rfl ?_
    | refine ax_cond_false rfl ?_
    | refine ax_skip ?_
    | refine ax_q (q_neq rfl rfl) ?_
    | refine ax_q (q_loadpart_ptr rfl rfl rfl rfl rfl rfl rfl (by first | exact Nat.zero_lt_one | assumption | omega)) ?_)
  refine ax_callv rfl rfl rfl h2 ?_
  repeat (first
    | refine ax_ops_nil ?_
    | refine ax_post_code ?_
    | refine ax_q (q_eql rfl rfl) ?_)
  refine ax_cond_dec rfl (fun h7 => absurd h7 h3) (fun h7 => ?_)
  repeat (first
    | refine ax_q (q_move rfl) ?_
    | refine ax_q (q_assign rfl) ?_
    | refine ax_ops_nil ?_
    | refine ax_post_code ?_
    | refine ax_seq ?_
    | refine ax_region rfl ?_
    | refine ax_skip ?_)
  refine ax_callv rfl rfl rfl h4 ?_
  repeat (first
    | refine ax_q (q_move rfl) ?_
    | refine ax_ops_nil ?_
    | refine ax_post_code ?_
    | refine ax_q (q_len rfl rfl rfl) ?_)
  refine ax_nilobj 6 ⟨79, qsC []⟩ rfl rfl ?_
  repeat (refine ax_block ?_)
  refine ax_loop (ι := Nat) (fun k => [(4, .ptr 0 0 0), (6, .sl 1 0 k), (21, .ro (qsC qs) 0 l.length), (22, .int .i64 (l.length : Nat)), (23, .int .i64 (k : Nat))]) (fun k => [some ⟨79, .box (cellsQ s)⟩, some ⟨79, qsC ((qs.take k).map (fun q => q / s))⟩])
    (fun k => k ≤ l.length) (fun k => l.length - k) 0 ⟨⟨rfl, rfl, rfl, rfl, rfl, trivial⟩, rfl, Nat.zero_le _⟩ ?_
  intro k hk
  repeat (first
    | refine ax_ops_nil ?_
    | refine ax_post_code ?_
    | refine ax_seq ?_
    | refine ax_region rfl ?_
    | refine ax_q (q_lss rfl rfl) ?_)
  refine ax_cond_dec rfl (fun h => ?_) (fun h => ?_)
  · have hk' : k < qs.length := by omega
    have hq := hz _ (getD_mem 0 hk')
    have htk := map_take_succ (fun q => q / s) qs 0 k hk'
    have hml2 : ((qs.take k).map (fun q => q / s)).length = k := by rw [List.length_map, List.length_take]; omega
    generalize (qs.take k).map (fun q => q / s) = ds at *
    repeat (first
      | refine ax_post_code ?_
      | refine ax_seq ?_
      | refine ax_region rfl ?_
      | refine ax_block ?_
      | refine ax_skip ?_
      | refine ax_q (q_index_ro' rfl rfl rfl rfl (by first | (simp only [Nat.zero_add, Int.toNat_natCast, Int.toNat_zero]; exact rfl) | exact rfl) (by omega)) ?_
      | refine ax_q (q_loadagg_rp rfl rfl rfl rfl rfl rfl) ?_
      | refine ax_alloc rfl rfl rfl ?_)
    refine ax_slot_ops 26 (.agg (cellsQ (qs.getD k 0))) rfl (AEq.of_eq rfl) ?_
    generalize qs.getD k 0 = q at *
    have hc := qdiv_ok q s (hq.mono (by decide)) (hsz.mono (by decide)) h0
    refine ax_storeagg (c' := .box (cellsQ q)) rfl rfl rfl rfl rfl Nat.zero_lt_one rfl rfl (fun i' j' hi' hj' => ?_) ?_
    · rw [if_pos (Nat.lt_one_iff.1 hi')]; rfl
    repeat (first
      | refine ax_q (q_move rfl) ?_
      | refine ax_ops_nil ?_
      | refine ax_post_code ?_
      | refine ax_region rfl ?_
      | refine ax_q (q_loadpart_ptr rfl rfl rfl rfl rfl rfl rfl (by first | exact Nat.zero_lt_one | assumption | omega)) ?_)
    refine ax_callv rfl rfl rfl hc ?_
    unfold qA
    repeat (refine ax_buildSliceRo rfl rfl rfl rfl rfl rfl rfl rfl rfl rfl rfl ?_)
    refine ax_append rfl rfl rfl rfl rfl rfl rfl rfl rfl hml2 rfl rfl (by show 0 + 1 ≤ 1; omega) rfl (by show (k + 1) * 56 ≤ _ ∧ _; omega) ?_ (by rw [hfix]; exact fun h => h) ?_
    · intro i' j hi hj
      exact rowE_noref 0 3 cellsQ cellsQ_noref ds (q / s) _ (rowQ1 _) 1 i' j hi hj
    repeat (first
      | refine ax_q (q_assign rfl) ?_
      | refine ax_ops_nil ?_
      | refine ax_post_blk ?_)
    refine ax_post_code ?_
    refine ax_heap ([some ⟨79, .box (cellsQ s)⟩, some ⟨79, qsC ((qs.take (k + 1)).map (fun q => q / s))⟩] ++ [none]) ?_ ?_
    · rw [htk]
      exact HSub.eqv (CEq.refl _) (HSub.eqv (rowE_snoc 0 3 cellsQ ds (q / s) _ (rowQ1 _)) (HSub.drop HSub.nil))
    refine ax_drop (H1 := [some ⟨79, .box (cellsQ s)⟩, some ⟨79, qsC ((qs.take (k + 1)).map (fun q => q / s))⟩]) rfl (by rw [hfix]; exact fun h => h) ?_
    refine ax_heap [some ⟨79, .box (cellsQ s)⟩, some ⟨79, qsC ((qs.take (k + 1)).map (fun q => q / s))⟩] ?_ ?_
    · exact HSub.eqv (CEq.refl _) (HSub.eqv ⟨rfl, rfl, fun i j _ hj => (cellsQ_noref _ j _ hj).symm⟩ HSub.nil)
    repeat (first
      | refine ax_q (q_move rfl) ?_
      | refine ax_ops_nil ?_
      | refine ax_region rfl ?_
      | refine ax_q (q_add rfl rfl (by omega)) ?_)
    exact ax_post_inv ⟨k + 1, by omega, by omega, ⟨rfl, rfl, rfl, rfl, rfl, trivial⟩, rfl⟩
  · have hk' : k = l.length := by omega
    subst hk'
    rw [List.take_of_length_le (by omega)]
    repeat (first
      | refine ax_post_code ?_
      | refine ax_seq ?_
      | refine ax_exit ?_
      | refine ax_exit_here ?_
      | refine ax_exit_code ?_
      | refine ax_exit_inv ?_)
    refine ax_give_code 1 6 l.length [] rfl (refless_qs _) rfl (by show _ ≤ (qs.map (fun q => q / s)).length; rw [List.length_map]; omega) trivial ?_
    repeat (first
      | refine ax_q (q_move rfl) ?_
      | refine ax_region rfl ?_)
    refine ax_callv rfl rfl rfl h5 ?_
    repeat (first
      | refine ax_q (q_assign rfl) ?_
      | refine ax_ops_nil ?_
      | refine ax_post_code ?_
      | refine ax_return ?_
      | refine ax_q (q_extract rfl rfl) ?_)
    exact ax_ret hR rfl rfl
end Go.Proofs.YtbeegiiiochblaaGreatDoor

/-
  Texts that spell a rational number. No program in sight.
-/
namespace Go.Ax.Rt
open Go.Ax.Bg

theorem Parts.fit {s : List UInt8} {q : Rat} (h : Parts s q) : fitB q = true := by
  unfold fitB
  rw [Bool.and_eq_true, decide_eq_true_eq, decide_eq_true_eq, h.num, h.den, sgnI_abs, canon_eq h.cn]
  refine ⟨h.ln, ?_⟩
  cases e : hasD s
  · rw [den_one e, Lib.decDigits_one (by decide)]; decide
  · rw [den_some e, canon_eq (h.cd e).1]; exact h.ld
/-- A text that spells q. -/
def IsQ (s : List UInt8) (q : Rat) : Prop := ratE s = 0 ∧ ratV s = q
instance (s : List UInt8) (q : Rat) : Decidable (IsQ s q) := inferInstanceAs (Decidable (_ ∧ _))
theorem IsQ.self {s : List UInt8} (h : ratE s = 0) : IsQ s (ratV s) := ⟨h, rfl⟩
theorem IsQ.text {s : List UInt8} {q : Rat} (h : IsQ s q) : textQ q = s := by
  have := (rat_parts h.1).text
  rwa [h.2] at this
theorem IsQ.fit {s : List UInt8} {q : Rat} (h : IsQ s q) : fitB q = true := by
  have := (rat_parts h.1).fit
  rwa [h.2] at this
theorem isQ_of {q : Rat} (h : fitB q = true) : IsQ (textQ q) q := rat_of h
theorem IsQ.out {s : List UInt8} {q : Rat} (h : IsQ s q) : outF q = (s, 0) := by
  unfold outF
  rw [if_pos h.fit, h.text]
theorem IsQ.inj {a b : List UInt8} {q : Rat} (ha : IsQ a q) (hb : IsQ b q) : a = b := by rw [← ha.text, hb.text]
theorem IsQ.all2 {a b : List UInt8} {x y : Rat} (ha : IsQ a x) (hb : IsQ b y) : allE [a, b] = 0 := by
  refine allE_of (fun s hs => ?_)
  simp at hs
  rcases hs with rfl | rfl
  · exact ha.1
  · exact hb.1
theorem IsQ.two {a b : List UInt8} {x y : Rat} (F : Rat → Rat → Rat) (ha : IsQ a x) (hb : IsQ b y) : twoR F a b = outF (F x y) := by
  unfold twoR
  rw [if_pos (ha.all2 hb), ha.2, hb.2]
theorem IsQ.one {a : List UInt8} {x : Rat} (F : Rat → Rat) (ha : IsQ a x) : oneR F a = outF (F x) := by
  unfold oneR
  rw [if_pos ha.1, ha.2]
theorem IsQ.zero {a : List UInt8} {x : Rat} (ha : IsQ a x) : x = 0 ↔ a = [48] := by rw [← ha.2]; exact Parts.zero ha.1
theorem IsQ.div {a b : List UInt8} {x y : Rat} (ha : IsQ a x) (hb : IsQ b y) : divR a b = if y = 0 then ([], 18) else outF (x / y) := by
  unfold divR
  rw [if_pos (ha.all2 hb), ha.2, hb.2]
  by_cases h : b = [48]
  · rw [if_pos h, if_pos (hb.zero.2 h)]
  · rw [if_neg h, if_neg (fun e => h (hb.zero.1 e))]
theorem IsQ.cmp {a b : List UInt8} {x y : Rat} (ha : IsQ a x) (hb : IsQ b y) : cmpR a b = (cmpQ x y, 0) := by
  unfold cmpR
  rw [if_pos (ha.all2 hb), ha.2, hb.2]
theorem IsQ.sign {a : List UInt8} {x : Rat} (ha : IsQ a x) : signR a = (sgn x.num, 0) := by
  unfold signR
  rw [if_pos ha.1, ha.2]
/-- Numbers of at most so many digits. -/
def D (k : Nat) (q : Rat) : Prop := q.num.natAbs < 10 ^ k ∧ q.den < 10 ^ k
theorem D.mono {j k : Nat} {q : Rat} (h : D j q) (hk : j ≤ k) : D k q :=
  ⟨Nat.lt_of_lt_of_le h.1 (Nat.pow_le_pow_right (by decide) hk), Nat.lt_of_lt_of_le h.2 (Nat.pow_le_pow_right (by decide) hk)⟩
theorem D.fit {k : Nat} {q : Rat} (h : D k q) (hk : k ≤ 2000) : fitB q = true := by
  unfold fitB
  rw [Bool.and_eq_true, decide_eq_true_eq, decide_eq_true_eq]
  exact ⟨TB_len (lt_big h.1 hk), TB_len (lt_big h.2 hk)⟩
theorem D.out {k : Nat} {q : Rat} (h : D k q) (hk : k ≤ 2000) : outF q = (textQ q, 0) ∧ IsQ (textQ q) q := ⟨(isQ_of (h.fit hk)).out, isQ_of (h.fit hk)⟩
theorem IsQ.dig {s : List UInt8} {q : Rat} (h : IsQ s q) {k : Nat} (hk : s.length ≤ k) (h1 : 1 ≤ k) : D k q := by
  have ht := h.text
  have hl : (textQ q).length ≤ k := by rw [ht]; exact hk
  unfold textQ at hl
  rw [List.length_append, List.length_append] at hl
  refine ⟨Nat.lt_of_lt_of_le (digits_lt _) (Nat.pow_le_pow_right (by decide) (by omega)), ?_⟩
  by_cases hd : q.den = 1
  · rw [hd]
    exact Nat.lt_of_lt_of_le (show 1 < 10 ^ 1 by decide) (Nat.pow_le_pow_right (by decide) h1)
  · rw [if_neg hd, List.length_cons] at hl
    exact Nat.lt_of_lt_of_le (digits_lt _) (Nat.pow_le_pow_right (by decide) (by omega))
theorem d_frac {n d : Int} {k : Nat} (hd : d ≠ 0) (h1 : n.natAbs < 10 ^ k) (h2 : d.natAbs < 10 ^ k) : D k (Rat.divInt n d) := by
  obtain ⟨e1, e2, _⟩ := frac_parts n d hd
  refine ⟨?_, ?_⟩
  · rw [e1]; exact Nat.lt_of_le_of_lt (Nat.div_le_self _ _) h1
  · rw [e2]; exact Nat.lt_of_le_of_lt (Nat.div_le_self _ _) h2
theorem D.add {p q : Rat} {j k : Nat} (hp : D j p) (hq : D k q) : D (j + k + 1) (p + q) := by
  rw [← add_frac]
  have a1 := mul_big hp.1 hq.2
  have a2 := mul_big hq.1 hp.2
  rw [Nat.add_comm k j] at a2
  have a3 := mul_big hp.2 hq.2
  refine d_frac (by have := Nat.mul_ne_zero p.den_nz q.den_nz; omega) ?_ ?_
  · have h := Int.natAbs_add_le (p.num * q.den) (q.num * p.den)
    rw [Int.natAbs_mul, Int.natAbs_mul, Int.natAbs_natCast, Int.natAbs_natCast] at h
    exact Nat.lt_of_le_of_lt h (add_big a1 a2)
  · rw [Int.natAbs_natCast]
    exact Nat.lt_of_lt_of_le a3 (Nat.pow_le_pow_right (by decide) (by omega))
theorem D.neg {q : Rat} {k : Nat} (h : D k q) : D k (-q) := by
  refine ⟨?_, h.2⟩
  show (-q.num).natAbs < _
  rw [Int.natAbs_neg]; exact h.1
theorem D.sub {p q : Rat} {j k : Nat} (hp : D j p) (hq : D k q) : D (j + k + 1) (p - q) := by
  rw [Rat.sub_eq_add_neg]; exact hp.add hq.neg
theorem D.mul {p q : Rat} {j k : Nat} (hp : D j p) (hq : D k q) : D (j + k) (p * q) := by
  rw [← mul_frac]
  refine d_frac (by have := Nat.mul_ne_zero p.den_nz q.den_nz; omega) ?_ ?_
  · rw [Int.natAbs_mul]; exact mul_big hp.1 hq.1
  · rw [Int.natAbs_natCast]; exact mul_big hp.2 hq.2
theorem D.div {p q : Rat} {j k : Nat} (hp : D j p) (hq : D k q) (h0 : q ≠ 0) : D (j + k) (p / q) := by
  have hn : q.num ≠ 0 := fun h => h0 (Rat.num_eq_zero.1 h)
  rw [← div_frac p q h0]
  refine d_frac (Int.mul_ne_zero hn (by have := p.den_nz; omega)) ?_ ?_
  · rw [Int.natAbs_mul, Int.natAbs_natCast]; exact mul_big hp.1 hq.2
  · rw [Int.natAbs_mul, Int.natAbs_natCast, Nat.add_comm]; exact mul_big hq.1 hp.2
end Go.Ax.Rt

namespace Go.Proofs.YtbeegiiiochblaaGreatDoor
open Go.Ax Go.Ax.Bg Go.Ax.Rt Go.RowKit
attribute [local irreducible] Ax Post QOp ACall PureOp
set_option maxRecDepth 100000
set_option maxHeartbeats 4000000

open Go.Ax.Idx Go.Ax.Cd
theorem equalR (a b : List (List UInt8)) (hlen : a.length ≤ 9223372036854775807) (hlb : b.length ≤ 9223372036854775807) : VCall Tryz.prog 38 [.ro (.strs a) 0 a.length, .ro (.strs b) 0 b.length] (.bool (decide (a = b))) := by
  refine ACall.value0 (acall_of_ax (P := Tryz.prog) (fn := Tryz.f38) rfl rfl (by kernel_rfl) rfl (fun c hR hfix => ?_)) (fix := fun _ => False) (fun _ h => h) rfl rfl
  repeat (first
    | refine ax_q (q_move rfl) ?_
    | refine ax_q (q_assign rfl) ?_
    | refine ax_ops_nil ?_
    | refine ax_post_code ?_
    | refine ax_seq ?_
    | refine ax_region rfl ?_
    | refine ax_q (q_neq rfl rfl) ?_
    | refine ax_q (q_len rfl rfl rfl) ?_)
  refine ax_cond_dec rfl (fun h => ?_) (fun h => ?_)
  · repeat (first
      | refine ax_q (q_assign rfl) ?_
      | refine ax_ops_nil ?_
      | refine ax_post_code ?_
      | refine ax_seq ?_
      | refine ax_region rfl ?_
      | refine ax_return ?_
      | refine ax_ret_code ?_)
    refine ax_ret hR rfl ?_
    have : ¬ a = b := by rintro rfl; exact h rfl
    simp [tupOf, this]
  have hab : a.length = b.length := by omega
  repeat (first
    | refine ax_q (q_move rfl) ?_
    | refine ax_ops_nil ?_
    | refine ax_post_code ?_
    | refine ax_seq ?_
    | refine ax_region rfl ?_
    | refine ax_block ?_
    | refine ax_skip ?_
    | refine ax_q (q_len rfl rfl rfl) ?_)
  refine ax_loop (ι := Nat) (fun k => [(0, .ro (.strs a) 0 a.length), (1, .ro (.strs b) 0 b.length), (12, .int .i64 (a.length : Nat)), (13, .int .i64 (k : Nat))]) (fun _ => [])
    (fun k => k ≤ a.length ∧ a.take k = b.take k) (fun k => a.length - k) 0 ⟨⟨rfl, rfl, rfl, rfl, trivial⟩, rfl, Nat.zero_le _, rfl⟩ ?_
  intro k ⟨hk, heq⟩
  repeat (first
    | refine ax_ops_nil ?_
    | refine ax_post_code ?_
    | refine ax_seq ?_
    | refine ax_region rfl ?_
    | refine ax_q (q_lss rfl rfl) ?_)
  refine ax_cond_dec rfl (fun h2 => ?_) (fun h2 => ?_)
  · have hk' : k < a.length := by omega
    have ha := take_succ_getD a [] k hk'
    have hb := take_succ_getD b [] k (by omega)
    repeat (first
      | refine ax_q (q_move rfl) ?_
      | refine ax_q (q_assign rfl) ?_
      | refine ax_ops_nil ?_
      | refine ax_post_code ?_
      | refine ax_seq ?_
      | refine ax_region rfl ?_
      | refine ax_block ?_
      | refine ax_skip ?_)
    refine ax_regionq (by kernel_rfl) (by kernel_rfl) rfl ?_
    repeat (first
      | refine ax_q (q_move rfl) ?_
      | refine ax_ops_nil ?_
      | refine ax_post_code ?_
      | refine ax_q (q_loads_rp rfl rfl rfl) ?_
      | refine ax_q (q_index_ro' rfl rfl rfl rfl (by first | (simp only [Nat.zero_add, Int.toNat_natCast, Int.toNat_zero]; exact rfl) | exact rfl) (by omega)) ?_
      | refine ax_q (q_strneq rfl rfl) ?_)
    refine ax_cond_dec rfl (fun h3 => ?_) (fun h3 => ?_)
    · repeat (first
        | refine ax_q (q_assign rfl) ?_
        | refine ax_ops_nil ?_
        | refine ax_post_code ?_
        | refine ax_seq ?_
        | refine ax_region rfl ?_
        | refine ax_return ?_
        | refine ax_ret_code ?_
        | refine ax_ret_blk ?_
        | refine ax_ret_inv ?_)
      refine ax_ret hR rfl ?_
      have : ¬ a = b := by rintro rfl; exact h3 rfl
      simp [tupOf, this]
    · repeat (first
        | refine ax_q (q_move rfl) ?_
        | refine ax_ops_nil ?_
        | refine ax_post_code ?_
        | refine ax_region rfl ?_
        | refine ax_post_blk ?_
        | refine ax_skip ?_
        | refine ax_q (q_add rfl rfl (by omega)) ?_)
      have h4 : a.getD k [] = b.getD k [] := Classical.not_not.1 h3
      exact ax_post_inv ⟨k + 1, ⟨by omega, by rw [ha, hb, heq, h4]⟩, by omega, ⟨rfl, rfl, rfl, rfl, trivial⟩, rfl⟩
  · have hk' : k = a.length := by omega
    subst hk'
    rw [List.take_length, hab, List.take_length] at heq
    repeat (first
      | refine ax_q (q_assign rfl) ?_
      | refine ax_ops_nil ?_
      | refine ax_post_code ?_
      | refine ax_seq ?_
      | refine ax_region rfl ?_
      | refine ax_exit ?_
      | refine ax_exit_here ?_
      | refine ax_exit_code ?_
      | refine ax_exit_inv ?_
      | refine ax_return ?_)
    refine ax_ret hR rfl ?_
    simp [tupOf, heq]

theorem q_1_2 : IsQ [49, 47, 50] (Rat.divInt (1) 2) := by decide +kernel
theorem q_1_3 : IsQ [49, 47, 51] (Rat.divInt (1) 3) := by decide +kernel
theorem q_5_6 : IsQ [53, 47, 54] (Rat.divInt (5) 6) := by decide +kernel
theorem q_1_6 : IsQ [49, 47, 54] (Rat.divInt (1) 6) := by decide +kernel
theorem q_2_3 : IsQ [50, 47, 51] (Rat.divInt (2) 3) := by decide +kernel
theorem q_3_2 : IsQ [51, 47, 50] (Rat.divInt (3) 2) := by decide +kernel
theorem q_1 : IsQ [49] (Rat.divInt (1) 1) := by decide +kernel
theorem q_m3 : IsQ [45, 51] (Rat.divInt (-3) 1) := by decide +kernel
theorem q_m1_3 : IsQ [45, 49, 47, 51] (Rat.divInt (-1) 3) := by decide +kernel
theorem q_m1_2 : IsQ [45, 49, 47, 50] (Rat.divInt (-1) 2) := by decide +kernel
theorem q_m1 : IsQ [45, 49] (Rat.divInt (-1) 1) := by decide +kernel
theorem q_m3_2 : IsQ [45, 51, 47, 50] (Rat.divInt (-3) 2) := by decide +kernel
theorem q_3 : IsQ [51] (Rat.divInt (3) 1) := by decide +kernel
theorem q_1_4 : IsQ [49, 47, 52] (Rat.divInt (1) 4) := by decide +kernel
theorem q_3_4 : IsQ [51, 47, 52] (Rat.divInt (3) 4) := by decide +kernel
theorem q_2 : IsQ [50] (Rat.divInt (2) 1) := by decide +kernel
theorem q_4 : IsQ [52] (Rat.divInt (4) 1) := by decide +kernel
theorem f_add : VCall Tryz.prog 25 [.str [49, 47, 50], .str [49, 47, 51]] (.tup [.str [53, 47, 54], .int .i64 0]) := by
  have h := radd_ok [49, 47, 50] [49, 47, 51] (by decide) (by decide)
  rw [q_1_2.two (fun x y => x + y) q_1_3, show (Rat.divInt (1) 2) + (Rat.divInt (1) 3) = (Rat.divInt (5) 6) by decide +kernel, q_5_6.out] at h
  exact h
theorem f_sub : VCall Tryz.prog 27 [.str [49, 47, 50], .str [49, 47, 51]] (.tup [.str [49, 47, 54], .int .i64 0]) := by
  have h := rsub_ok [49, 47, 50] [49, 47, 51] (by decide) (by decide)
  rw [q_1_2.two (fun x y => x - y) q_1_3, show (Rat.divInt (1) 2) - (Rat.divInt (1) 3) = (Rat.divInt (1) 6) by decide +kernel, q_1_6.out] at h
  exact h
theorem f_mul : VCall Tryz.prog 26 [.str [50, 47, 51], .str [51, 47, 50]] (.tup [.str [49], .int .i64 0]) := by
  have h := rmul_ok [50, 47, 51] [51, 47, 50] (by decide) (by decide)
  rw [q_2_3.two (fun x y => x * y) q_3_2, show (Rat.divInt (2) 3) * (Rat.divInt (3) 2) = (Rat.divInt (1) 1) by decide +kernel, q_1.out] at h
  exact h
theorem f_div : VCall Tryz.prog 28 [.str [49], .str [45, 51]] (.tup [.str [45, 49, 47, 51], .int .i64 0]) := by
  have h := rdiv_ok [49] [45, 51] (by decide) (by decide)
  rw [q_1.div q_m3, if_neg (by decide +kernel), show (Rat.divInt (1) 1) / (Rat.divInt (-3) 1) = (Rat.divInt (-1) 3) by decide +kernel, q_m1_3.out] at h
  exact h
theorem f_neg : VCall Tryz.prog 31 [.str [49, 47, 50]] (.tup [.str [45, 49, 47, 50], .int .i64 0]) := by
  have h := rneg_ok [49, 47, 50] (by decide)
  rw [q_1_2.one (fun x => -x), show -(Rat.divInt (1) 2) = (Rat.divInt (-1) 2) by decide +kernel, q_m1_2.out] at h
  exact h
theorem f_floor : VCall Tryz.prog 32 [.str [45, 49, 47, 50]] (.tup [.str [45, 49], .int .i64 0]) := by
  have h := rfloor_ok [45, 49, 47, 50] (by decide)
  rw [q_m1_2.one (fun x => (x.floor : Rat)), show (((Rat.divInt (-1) 2).floor : Int) : Rat) = (Rat.divInt (-1) 1) by decide +kernel, q_m1.out] at h
  exact h
theorem f_cmp : VCall Tryz.prog 29 [.str [49, 47, 50], .str [49, 47, 51]] (.tup [.int .i64 1, .int .i64 0]) := by
  have h := rcmp_ok [49, 47, 50] [49, 47, 51] (by decide) (by decide)
  rw [q_1_2.cmp q_1_3, show cmpQ (Rat.divInt (1) 2) (Rat.divInt (1) 3) = 1 by decide +kernel] at h
  exact h
theorem f_sign : VCall Tryz.prog 30 [.str [45, 49]] (.tup [.int .i64 (-1), .int .i64 0]) := by
  have h := rsign_ok [45, 49] (by decide)
  rw [q_m1.sign, show sgn ((Rat.divInt (-1) 1)).num = -1 by decide +kernel] at h
  exact h
theorem f_of : VCall Tryz.prog 52 [.int .i64 6, .int .i64 (-4)] (.tup [.str [45, 51, 47, 50], .int .i64 0]) := by
  have h := rof_ok 6 (-4) (by decide) (by decide) (by decide)
  rw [show ofR 6 (-4) = outF (Rat.divInt 6 (-4)) from rfl, show Rat.divInt 6 (-4) = (Rat.divInt (-3) 2) by decide +kernel, q_m3_2.out] at h
  exact h
theorem sumL_step {acc q : Rat} {r : List Rat} {s : List UInt8} {t : Rat} (h : IsQ s t) (e : acc + q = t) : sumL acc (q :: r) = sumL t r := by
  rw [sumL, e, if_pos h.fit]
theorem hlen2 {l : List (List UInt8)} (h : (l.all fun s => decide (s.length ≤ 100)) = true) : ∀ s ∈ l, s.length ≤ 9223372036854775807 := fun s hs => by
  have := List.all_eq_true.1 h s hs
  have := of_decide_eq_true this
  omega
theorem s_sum : sumR [[49, 47, 50], [49, 47, 51], [49, 47, 54]] = ((Rat.divInt (1) 1), 0) := by
  unfold sumR
  rw [if_neg (by decide), if_pos (by decide +kernel)]
  show sumL 0 [ratV [49, 47, 50], ratV [49, 47, 51], ratV [49, 47, 54]] = _
  rw [q_1_2.2]
  rw [q_1_3.2]
  rw [q_1_6.2]
  rw [sumL_step q_1_2 (by decide +kernel)]
  rw [sumL_step q_5_6 (by decide +kernel)]
  rw [sumL_step q_1 (by decide +kernel)]
  rfl
theorem s_sh : sumR [[49], [51]] = ((Rat.divInt (4) 1), 0) := by
  unfold sumR
  rw [if_neg (by decide), if_pos (by decide +kernel)]
  show sumL 0 [ratV [49], ratV [51]] = _
  rw [q_1.2]
  rw [q_3.2]
  rw [sumL_step q_1 (by decide +kernel)]
  rw [sumL_step q_4 (by decide +kernel)]
  rfl
theorem s_od : sumR [[49, 47, 52]] = ((Rat.divInt (1) 4), 0) := by
  unfold sumR
  rw [if_neg (by decide), if_pos (by decide +kernel)]
  show sumL 0 [ratV [49, 47, 52]] = _
  rw [q_1_4.2]
  rw [sumL_step q_1_4 (by decide +kernel)]
  rfl
theorem f_sum : VCall Tryz.prog 53 [.ro (.strs [[49, 47, 50], [49, 47, 51], [49, 47, 54]]) 0 3] (.tup [.str [49], .int .i64 0]) := by
  have h := rsum_ok [[49, 47, 50], [49, 47, 51], [49, 47, 54]] (by decide) (hlen2 (by decide))
  unfold sumT at h
  rw [s_sum, if_pos rfl, q_1.out] at h
  exact h
theorem f_best : VCall Tryz.prog 36 [.ro (.strs [[49], [50], [50]]) 0 3] (.tup [.int .i64 1, .int .i64 0]) := by
  have h := best_ok [[49], [50], [50]] (by decide) (hlen2 (by decide))
  rw [show bestR [[49], [50], [50]] = (1, 0) by decide +kernel] at h
  exact h
theorem f_shares : VCall Tryz.prog 33 [.ro (.strs [[49], [51]]) 0 2] (.tup [.ro (.strs [[49, 47, 52], [51, 47, 52]]) 0 2, .int .i64 0]) := by
  have e : (List.map ratV [[49], [51]]).map (fun q => q / (sumR [[49], [51]]).1) = [(Rat.divInt (1) 4), (Rat.divInt (3) 4)] := by rw [s_sh]; decide +kernel
  have h := shares_yes [[49], [51]] (by decide) (hlen2 (by decide)) (by unfold posE; rw [s_sh, if_neg (by decide)]) (by rw [s_sh]; decide +kernel) (by rw [e]; simp only [List.all_cons, List.all_nil, q_1_4.fit, q_3_4.fit]; rfl)
  rw [e, List.map_cons, List.map_cons, q_1_4.text, q_3_4.text] at h
  exact h
theorem f_odds : VCall Tryz.prog 37 [.ro (.strs [[49, 47, 52]]) 0 1] (.int .i64 3) := by
  have h := odds_ok [[49, 47, 52]] (by decide) (hlen2 (by decide))
  unfold oddsR posE at h
  rw [s_od, if_neg (show ¬ (((Rat.divInt (1) 4), (0 : Int)).2 = 0 ∧ List.any [[49, 47, 52]] negB = true) by decide), if_pos rfl, if_neg (show ¬ cmpQ ((Rat.divInt (1) 4), (0 : Int)).1 1 = 0 by decide +kernel)] at h
  exact h
theorem f_check : VCall Tryz.prog 54 [.str [50, 47, 52]] (.int .i64 3) := by
  have h := rcheck_ok [50, 47, 52] (by decide)
  rw [show ratE [50, 47, 52] = 3 by decide +kernel] at h
  exact h
theorem f_all : VCall Tryz.prog 24 [.ro (.strs [[48], [45, 48]]) 0 2] (.int .i64 5) := by
  have h := checkAll_ok [[48], [45, 48]] (by decide) (hlen2 (by decide))
  rw [show allE [[48], [45, 48]] = 5 by decide +kernel] at h
  exact h
end Go.Proofs.YtbeegiiiochblaaGreatDoor

namespace Go.Proofs.YtbeegiiiochblaaGreatDoor
open Go.Ax Go.Ax.Bg Go.Ax.Rt Go.RowKit
attribute [local irreducible] Ax Post QOp ACall PureOp
set_option maxRecDepth 100000
set_option maxHeartbeats 4000000

theorem f_eq : VCall Tryz.prog 38 [.ro (.strs [[49, 47, 52], [51, 47, 52]]) 0 2, .ro (.strs [[49, 47, 52], [51, 47, 52]]) 0 2] (.bool true) := equalR [[49, 47, 52], [51, 47, 52]] [[49, 47, 52], [51, 47, 52]] (by decide) (by decide)
theorem f_fine : VCall Tryz.prog 16 [.ro (.ints .i64 [0, 0, 0, 0, 0, 0, 0, 0, 0, 0, 0, 0]) 0 12] (.bool true) := fineI [0, 0, 0, 0, 0, 0, 0, 0, 0, 0, 0, 0] (by decide)
theorem eq_row : AEq (.ro (.strs [[49, 47, 52], [51, 47, 52]]) 0 1) (.ro (.strs [[49, 47, 52]]) 0 1) := AEq.ro rfl (fun d j hd hj => by
  have : d = 0 := by omega
  subst this
  rfl)
theorem ratFact : VCall Tryz.prog 23 [] (.bool true) := by
  refine ACall.value0 (acall_of_ax (P := Tryz.prog) (fn := Tryz.f23) rfl rfl (by kernel_rfl) rfl (fun c hR hfix => ?_)) (fix := fun _ => False) (fun _ h => h) rfl rfl
  repeat (first
    | refine ax_q (q_assign rfl) ?_
    | refine ax_ops_nil ?_
    | refine ax_post_code ?_
    | refine ax_seq ?_
    | refine ax_region rfl ?_)
  refine ax_callv rfl rfl rfl f_of ?_
  repeat (first
    | refine ax_q (q_move rfl) ?_
    | refine ax_q (q_assign rfl) ?_
    | refine ax_ops_nil ?_
    | refine ax_post_code ?_
    | refine ax_seq ?_
    | refine ax_region rfl ?_
    | refine ax_q (q_extract rfl rfl) ?_)
  refine ax_callv rfl rfl rfl f_add ?_
  repeat (first
    | refine ax_q (q_move rfl) ?_
    | refine ax_q (q_assign rfl) ?_
    | refine ax_ops_nil ?_
    | refine ax_post_code ?_
    | refine ax_seq ?_
    | refine ax_region rfl ?_
    | refine ax_q (q_extract rfl rfl) ?_)
  refine ax_callv rfl rfl rfl f_sub ?_
  repeat (first
    | refine ax_q (q_move rfl) ?_
    | refine ax_q (q_assign rfl) ?_
    | refine ax_ops_nil ?_
    | refine ax_post_code ?_
    | refine ax_seq ?_
    | refine ax_region rfl ?_
    | refine ax_q (q_extract rfl rfl) ?_)
  refine ax_callv rfl rfl rfl f_mul ?_
  repeat (first
    | refine ax_q (q_move rfl) ?_
    | refine ax_q (q_assign rfl) ?_
    | refine ax_ops_nil ?_
    | refine ax_post_code ?_
    | refine ax_seq ?_
    | refine ax_region rfl ?_
    | refine ax_q (q_extract rfl rfl) ?_)
  refine ax_callv rfl rfl rfl f_div ?_
  repeat (first
    | refine ax_q (q_move rfl) ?_
    | refine ax_q (q_assign rfl) ?_
    | refine ax_ops_nil ?_
    | refine ax_post_code ?_
    | refine ax_seq ?_
    | refine ax_region rfl ?_
    | refine ax_q (q_extract rfl rfl) ?_)
  refine ax_callv rfl rfl rfl f_neg ?_
  repeat (first
    | refine ax_q (q_move rfl) ?_
    | refine ax_q (q_assign rfl) ?_
    | refine ax_ops_nil ?_
    | refine ax_post_code ?_
    | refine ax_seq ?_
    | refine ax_region rfl ?_
    | refine ax_q (q_extract rfl rfl) ?_)
  refine ax_callv rfl rfl rfl f_cmp ?_
  repeat (first
    | refine ax_q (q_move rfl) ?_
    | refine ax_q (q_assign rfl) ?_
    | refine ax_ops_nil ?_
    | refine ax_post_code ?_
    | refine ax_seq ?_
    | refine ax_region rfl ?_
    | refine ax_q (q_extract rfl rfl) ?_)
  refine ax_callv rfl rfl rfl f_sign ?_
  repeat (first
    | refine ax_q (q_move rfl) ?_
    | refine ax_q (q_assign rfl) ?_
    | refine ax_ops_nil ?_
    | refine ax_post_code ?_
    | refine ax_seq ?_
    | refine ax_region rfl ?_
    | refine ax_q (q_extract rfl rfl) ?_)
  refine ax_callv rfl rfl rfl f_floor ?_
  repeat (first
    | refine ax_q (q_move rfl) ?_
    | refine ax_q (q_assign rfl) ?_
    | refine ax_ops_nil ?_
    | refine ax_post_code ?_
    | refine ax_seq ?_
    | refine ax_region rfl ?_
    | refine ax_q (q_extract rfl rfl) ?_
    | refine ax_buildSliceRo rfl rfl rfl rfl rfl rfl rfl rfl rfl rfl rfl ?_)
  refine ax_callv rfl rfl rfl f_sum ?_
  repeat (first
    | refine ax_q (q_move rfl) ?_
    | refine ax_q (q_assign rfl) ?_
    | refine ax_ops_nil ?_
    | refine ax_post_code ?_
    | refine ax_seq ?_
    | refine ax_region rfl ?_
    | refine ax_q (q_extract rfl rfl) ?_
    | refine ax_buildSliceRo rfl rfl rfl rfl rfl rfl rfl rfl rfl rfl rfl ?_)
  refine ax_callv rfl rfl rfl f_best ?_
  repeat (first
    | refine ax_q (q_move rfl) ?_
    | refine ax_q (q_assign rfl) ?_
    | refine ax_ops_nil ?_
    | refine ax_post_code ?_
    | refine ax_seq ?_
    | refine ax_region rfl ?_
    | refine ax_q (q_extract rfl rfl) ?_
    | refine ax_buildSliceRo rfl rfl rfl rfl rfl rfl rfl rfl rfl rfl rfl ?_)
  refine ax_callv rfl rfl rfl f_shares ?_
  repeat (first
    | refine ax_q (q_move rfl) ?_
    | refine ax_q (q_assign rfl) ?_
    | refine ax_ops_nil ?_
    | refine ax_post_code ?_
    | refine ax_seq ?_
    | refine ax_region rfl ?_
    | refine ax_q (q_extract rfl rfl) ?_
    | refine ax_buildSliceRo rfl rfl rfl rfl rfl rfl rfl rfl rfl rfl rfl ?_)
  refine ax_callv rfl rfl rfl f_fine ?_
  repeat (first
    | refine ax_q (q_move rfl) ?_
    | refine ax_guard rfl rfl ?_
    | refine ax_q (q_eql rfl rfl) ?_
    | refine ax_q (q_pick rfl rfl) ?_
    | refine ax_q (q_streql rfl rfl) ?_
    | refine ax_buildSliceRo rfl rfl rfl rfl rfl rfl rfl rfl rfl rfl rfl ?_)
  refine ax_callv rfl rfl rfl f_eq ?_
  repeat (first
    | refine ax_q (q_move rfl) ?_
    | refine ax_guard rfl rfl ?_
    | refine ax_q (q_pick rfl rfl) ?_)
  refine ax_callv rfl rfl rfl f_check ?_
  repeat (first
    | refine ax_q (q_move rfl) ?_
    | refine ax_guard rfl rfl ?_
    | refine ax_q (q_eql rfl rfl) ?_
    | refine ax_q (q_pick rfl rfl) ?_
    | refine ax_buildSliceRo rfl rfl rfl rfl rfl rfl rfl rfl rfl rfl rfl ?_)
  refine ax_callv rfl rfl rfl f_all ?_
  repeat (first
    | refine ax_q (q_move rfl) ?_
    | refine ax_guard rfl rfl ?_
    | refine ax_q (q_eql rfl rfl) ?_
    | refine ax_q (q_pick rfl rfl) ?_
    | refine ax_q (q_slice_ro rfl rfl rfl rfl rfl rfl rfl (by omega)) ?_)
  refine ax_slot_ops 150 (.ro (.strs [[49, 47, 52]]) 0 1) rfl eq_row ?_
  refine ax_callv rfl rfl rfl f_odds ?_
  repeat (first
    | refine ax_q (q_assign rfl) ?_
    | refine ax_ops_nil ?_
    | refine ax_post_code ?_
    | refine ax_guard rfl rfl ?_
    | refine ax_return ?_
    | refine ax_q (q_eql rfl rfl) ?_
    | refine ax_q (q_pick rfl rfl) ?_)
  exact ax_ret hR rfl rfl
end Go.Proofs.YtbeegiiiochblaaGreatDoor

namespace Go.Proofs.YtbeegiiiochblaaGreatDoor
open Go.Ax Go.Ax.Bg Go.Ax.Rt Go.RowKit
attribute [local irreducible] Ax Post QOp ACall PureOp
set_option maxRecDepth 100000
set_option maxHeartbeats 4000000

theorem notOk00 {l : List Int} (h : ∀ x ∈ l, x = 0) : l.any notOk = false := by
  rw [List.any_eq_false]
  intro x hx
  rw [h x hx]; decide
theorem fineZZ (n : Nat) (hn : n ≤ 1000) : VCall Tryz.prog 16 [.ro (.ints .i64 (List.replicate n 0)) 0 n] (.bool true) := by
  have := fineI (List.replicate n 0) (by simpa using hn)
  rw [notOk00 (fun x hx => (List.mem_replicate.1 hx).2), List.length_replicate] at this
  exact this
theorem text_len {q : Rat} (h : fitB q = true) : (textQ q).length ≤ 9223372036854775807 := by
  unfold fitB at h
  rw [Bool.and_eq_true, decide_eq_true_eq, decide_eq_true_eq] at h
  unfold textQ
  rw [List.length_append, List.length_append]
  split <;> split <;> simp <;> omega
theorem len_of {s : List UInt8} (h : ratE s = 0) : s.length ≤ 4002 := by
  have hf := (IsQ.self h).fit
  rw [← (IsQ.self h).text]
  unfold fitB at hf
  rw [Bool.and_eq_true, decide_eq_true_eq, decide_eq_true_eq] at hf
  unfold textQ
  rw [List.length_append, List.length_append]
  split <;> split <;> simp <;> omega
theorem add_sub_self (y z : Rat) : y + z - z = y := by
  rw [Rat.sub_eq_add_neg, Rat.add_assoc, Rat.add_neg_cancel, Rat.add_zero]
theorem RatField_law (a b c' : List UInt8) (ha : a.length ≤ 9223372036854775807) (hb : b.length ≤ 9223372036854775807) (hc : c'.length ≤ 9223372036854775807) : VCall Tryz.prog 7 [.str a, .str b, .str c'] (.bool true) := by
  have hfz : VCall Tryz.prog 16 [.ro (.ints .i64 [0, 0, 0, 0, 0, 0]) 0 6] (.bool true) := fineZZ 6 (by decide)
  have hca := checkAll_ok [a, b, c'] (by show 3 ≤ _; decide) (by intro s hs; simp at hs; rcases hs with rfl | rfl | rfl <;> assumption)
  refine ACall.value0 (acall_of_ax (P := Tryz.prog) (fn := Tryz.f7) rfl rfl (by kernel_rfl) rfl (fun c hR hfix => ?_)) (fix := fun _ => False) (fun _ h => h) rfl rfl
  by_cases hE : allE [a, b, c'] = 0
  case neg =>
    generalize allE [a, b, c'] = e at *
    repeat (first
      | refine ax_q (q_assign rfl) ?_
      | refine ax_ops_nil ?_
      | refine ax_post_code ?_
      | refine ax_seq ?_
      | refine ax_region rfl ?_)
    refine ax_callv rfl rfl rfl ratFact ?_
    repeat (first
      | refine ax_q (q_move rfl) ?_
      | refine ax_ops_nil ?_
      | refine ax_post_code ?_
      | refine ax_seq ?_
      | refine ax_region rfl ?_
      | refine ax_cond_false rfl ?_
      | refine ax_skip ?_
      | refine ax_q (q_not rfl) ?_
      | refine ax_buildSliceRo rfl rfl rfl rfl rfl rfl rfl rfl rfl rfl rfl ?_)
    refine ax_callv rfl rfl rfl hca ?_
    repeat (first
      | refine ax_q (q_move rfl) ?_
      | refine ax_q (q_neq rfl rfl) ?_)
    refine ax_gsplit rfl rfl (fun h1 => ?_) (fun h1 => absurd hE h1)
    repeat (first
      | refine ax_q (q_assign rfl) ?_
      | refine ax_ops_nil ?_
      | refine ax_post_code ?_
      | refine ax_seq ?_
      | refine ax_region rfl ?_
      | refine ax_skip_not rfl rfl rfl ?_
      | refine ax_cond_true rfl ?_
      | refine ax_return ?_
      | refine ax_ret_code ?_
      | refine ax_q (q_pick rfl rfl) ?_)
    exact ax_ret hR rfl rfl
  rw [hE] at hca
  have la := len_of (allE_mem hE a (by simp))
  have lb := len_of (allE_mem hE b (by simp))
  have lc := len_of (allE_mem hE c' (by simp))
  repeat (first
    | refine ax_q (q_assign rfl) ?_
    | refine ax_ops_nil ?_
    | refine ax_post_code ?_
    | refine ax_seq ?_
    | refine ax_region rfl ?_)
  refine ax_callv rfl rfl rfl ratFact ?_
  repeat (first
    | refine ax_q (q_move rfl) ?_
    | refine ax_ops_nil ?_
    | refine ax_post_code ?_
    | refine ax_seq ?_
    | refine ax_region rfl ?_
    | refine ax_cond_false rfl ?_
    | refine ax_skip ?_
    | refine ax_q (q_not rfl) ?_
    | refine ax_buildSliceRo rfl rfl rfl rfl rfl rfl rfl rfl rfl rfl rfl ?_)
  refine ax_callv rfl rfl rfl hca ?_
  repeat (first
    | refine ax_q (q_move rfl) ?_
    | refine ax_ops_nil ?_
    | refine ax_post_code ?_
    | refine ax_guard rfl rfl ?_
    | refine ax_q (q_neq rfl rfl) ?_
    | refine ax_q (q_gtr rfl rfl) ?_
    | refine ax_q (q_pick rfl rfl) ?_
    | refine ax_q (q_lenstr rfl rfl) ?_
    | refine ax_q (q_add rfl rfl (by omega)) ?_)
  refine ax_cond_dec rfl (fun h1 => ?_) (fun h1 => ?_)
  · repeat (first
      | refine ax_q (q_assign rfl) ?_
      | refine ax_ops_nil ?_
      | refine ax_post_code ?_
      | refine ax_seq ?_
      | refine ax_region rfl ?_
      | refine ax_return ?_
      | refine ax_ret_code ?_)
    exact ax_ret hR rfl rfl
  have na := IsQ.self (allE_mem hE a (by simp))
  have nb := IsQ.self (allE_mem hE b (by simp))
  have nc := IsQ.self (allE_mem hE c' (by simp))
  have da := na.dig (k := 400) (by omega) (by decide)
  have db := nb.dig (k := 400) (by omega) (by decide)
  have dc := nc.dig (k := 400) (by omega) (by decide)
  generalize ratV a = x at *
  generalize ratV b = y at *
  generalize ratV c' = z at *
  have dS := db.add dc
  obtain ⟨oS, nS⟩ := dS.out (by decide)
  have p1 := radd_ok b c' hb hc
  rw [nb.two (fun x y => x + y) nc, oS] at p1
  have dX := da.mul dS
  obtain ⟨oX, nX⟩ := dX.out (by decide)
  have p2 := rmul_ok a (textQ (y + z)) ha (text_len nS.fit)
  rw [na.two (fun x y => x * y) nS, oX] at p2
  have dY := da.mul db
  obtain ⟨oY, nY⟩ := dY.out (by decide)
  have p3 := rmul_ok a b ha hb
  rw [na.two (fun x y => x * y) nb, oY] at p3
  have dZ := da.mul dc
  obtain ⟨oZ, nZ⟩ := dZ.out (by decide)
  have p4 := rmul_ok a c' ha hc
  rw [na.two (fun x y => x * y) nc, oZ] at p4
  have p5 := radd_ok _ _ (text_len nY.fit) (text_len nZ.fit)
  rw [nY.two (fun x y => x + y) nZ, ← Rat.mul_add, oX] at p5
  have p6 := rsub_ok _ c' (text_len nS.fit) hc
  rw [nS.two (fun x y => x - y) nc, add_sub_self, nb.out] at p6
  have p7 := rdiv_ok _ b (text_len nY.fit) hb
  rw [nY.div nb] at p7
  have hz := nb.zero
  by_cases h0 : y = 0
  · have hb0 := hz.1 h0
    rw [if_pos h0] at p7
    subst hb0
    clear oS oX oY oZ nS nX nY nZ dS dX dY dZ
    generalize textQ (y + z) = t1 at *
    generalize textQ (x * (y + z)) = t2 at *
    generalize textQ (x * y) = t3 at *
    generalize textQ (x * z) = t4 at *
    unfold pairA at *
    repeat (first
      | refine ax_q (q_move rfl) ?_
      | refine ax_post_code ?_
      | refine ax_seq ?_
      | refine ax_region rfl ?_
      | refine ax_skip ?_)
    refine ax_callv rfl rfl rfl p1 ?_
    repeat (first
      | refine ax_q (q_move rfl) ?_
      | refine ax_q (q_assign rfl) ?_
      | refine ax_ops_nil ?_
      | refine ax_post_code ?_
      | refine ax_seq ?_
      | refine ax_region rfl ?_
      | refine ax_q (q_extract rfl rfl) ?_)
    refine ax_callv rfl rfl rfl p2 ?_
    repeat (first
      | refine ax_q (q_move rfl) ?_
      | refine ax_q (q_assign rfl) ?_
      | refine ax_ops_nil ?_
      | refine ax_post_code ?_
      | refine ax_seq ?_
      | refine ax_region rfl ?_
      | refine ax_q (q_extract rfl rfl) ?_)
    refine ax_callv rfl rfl rfl p3 ?_
    repeat (first
      | refine ax_q (q_move rfl) ?_
      | refine ax_q (q_assign rfl) ?_
      | refine ax_ops_nil ?_
      | refine ax_post_code ?_
      | refine ax_seq ?_
      | refine ax_region rfl ?_
      | refine ax_q (q_extract rfl rfl) ?_)
    refine ax_callv rfl rfl rfl p4 ?_
    repeat (first
      | refine ax_q (q_move rfl) ?_
      | refine ax_q (q_assign rfl) ?_
      | refine ax_ops_nil ?_
      | refine ax_post_code ?_
      | refine ax_seq ?_
      | refine ax_region rfl ?_
      | refine ax_q (q_extract rfl rfl) ?_)
    refine ax_callv rfl rfl rfl p5 ?_
    repeat (first
      | refine ax_q (q_move rfl) ?_
      | refine ax_q (q_assign rfl) ?_
      | refine ax_ops_nil ?_
      | refine ax_post_code ?_
      | refine ax_seq ?_
      | refine ax_region rfl ?_
      | refine ax_q (q_extract rfl rfl) ?_)
    refine ax_callv rfl rfl rfl p6 ?_
    repeat (first
      | refine ax_q (q_move rfl) ?_
      | refine ax_q (q_assign rfl) ?_
      | refine ax_ops_nil ?_
      | refine ax_post_code ?_
      | refine ax_seq ?_
      | refine ax_region rfl ?_
      | refine ax_q (q_extract rfl rfl) ?_)
    refine ax_callv rfl rfl rfl p7 ?_
    repeat (first
      | refine ax_q (q_move rfl) ?_
      | refine ax_q (q_assign rfl) ?_
      | refine ax_ops_nil ?_
      | refine ax_post_code ?_
      | refine ax_seq ?_
      | refine ax_region rfl ?_
      | refine ax_q (q_extract rfl rfl) ?_
      | refine ax_buildSliceRo rfl rfl rfl rfl rfl rfl rfl rfl rfl rfl rfl ?_)
    refine ax_callv rfl rfl rfl hfz ?_
    repeat (first
      | refine ax_q (q_move rfl) ?_
      | refine ax_guard rfl rfl ?_
      | refine ax_q (q_not rfl) ?_
      | refine ax_q (q_pick rfl rfl) ?_
      | refine ax_q (q_strneq rfl rfl) ?_)
    refine ax_gsplit rfl rfl (fun h => absurd rfl h) (fun _ => ?_)
    repeat (first
      | refine ax_q (q_move rfl) ?_
      | refine ax_q (q_assign rfl) ?_
      | refine ax_ops_nil ?_
      | refine ax_post_code ?_
      | refine ax_seq ?_
      | refine ax_region rfl ?_
      | refine ax_guard rfl rfl ?_
      | refine ax_skip_undef rfl rfl ?_
      | refine ax_skip_not rfl rfl rfl ?_
      | refine ax_cond_false rfl ?_
      | refine ax_skip ?_
      | refine ax_return ?_
      | refine ax_q (q_eql rfl rfl) ?_
      | refine ax_q (q_pick rfl rfl) ?_
      | refine ax_q (q_streql rfl rfl) ?_
      | refine ax_q (q_strneq rfl rfl) ?_)
    exact ax_ret hR rfl rfl
  · have hb0 : ¬ b = [48] := fun e => h0 (hz.2 e)
    rw [if_neg h0, Rat.mul_div_cancel h0, na.out] at p7
    clear oS oX oY oZ nS nX nY nZ dS dX dY dZ
    generalize textQ (y + z) = t1 at *
    generalize textQ (x * (y + z)) = t2 at *
    generalize textQ (x * y) = t3 at *
    generalize textQ (x * z) = t4 at *
    unfold pairA at *
    repeat (first
      | refine ax_q (q_move rfl) ?_
      | refine ax_post_code ?_
      | refine ax_seq ?_
      | refine ax_region rfl ?_
      | refine ax_skip ?_)
    refine ax_callv rfl rfl rfl p1 ?_
    repeat (first
      | refine ax_q (q_move rfl) ?_
      | refine ax_q (q_assign rfl) ?_
      | refine ax_ops_nil ?_
      | refine ax_post_code ?_
      | refine ax_seq ?_
      | refine ax_region rfl ?_
      | refine ax_q (q_extract rfl rfl) ?_)
    refine ax_callv rfl rfl rfl p2 ?_
    repeat (first
      | refine ax_q (q_move rfl) ?_
      | refine ax_q (q_assign rfl) ?_
      | refine ax_ops_nil ?_
      | refine ax_post_code ?_
      | refine ax_seq ?_
      | refine ax_region rfl ?_
      | refine ax_q (q_extract rfl rfl) ?_)
    refine ax_callv rfl rfl rfl p3 ?_
    repeat (first
      | refine ax_q (q_move rfl) ?_
      | refine ax_q (q_assign rfl) ?_
      | refine ax_ops_nil ?_
      | refine ax_post_code ?_
      | refine ax_seq ?_
      | refine ax_region rfl ?_
      | refine ax_q (q_extract rfl rfl) ?_)
    refine ax_callv rfl rfl rfl p4 ?_
    repeat (first
      | refine ax_q (q_move rfl) ?_
      | refine ax_q (q_assign rfl) ?_
      | refine ax_ops_nil ?_
      | refine ax_post_code ?_
      | refine ax_seq ?_
      | refine ax_region rfl ?_
      | refine ax_q (q_extract rfl rfl) ?_)
    refine ax_callv rfl rfl rfl p5 ?_
    repeat (first
      | refine ax_q (q_move rfl) ?_
      | refine ax_q (q_assign rfl) ?_
      | refine ax_ops_nil ?_
      | refine ax_post_code ?_
      | refine ax_seq ?_
      | refine ax_region rfl ?_
      | refine ax_q (q_extract rfl rfl) ?_)
    refine ax_callv rfl rfl rfl p6 ?_
    repeat (first
      | refine ax_q (q_move rfl) ?_
      | refine ax_q (q_assign rfl) ?_
      | refine ax_ops_nil ?_
      | refine ax_post_code ?_
      | refine ax_seq ?_
      | refine ax_region rfl ?_
      | refine ax_q (q_extract rfl rfl) ?_)
    refine ax_callv rfl rfl rfl p7 ?_
    repeat (first
      | refine ax_q (q_move rfl) ?_
      | refine ax_q (q_assign rfl) ?_
      | refine ax_ops_nil ?_
      | refine ax_post_code ?_
      | refine ax_seq ?_
      | refine ax_region rfl ?_
      | refine ax_q (q_extract rfl rfl) ?_
      | refine ax_buildSliceRo rfl rfl rfl rfl rfl rfl rfl rfl rfl rfl rfl ?_)
    refine ax_callv rfl rfl rfl hfz ?_
    repeat (first
      | refine ax_q (q_move rfl) ?_
      | refine ax_guard rfl rfl ?_
      | refine ax_q (q_not rfl) ?_
      | refine ax_q (q_pick rfl rfl) ?_
      | refine ax_q (q_strneq rfl rfl) ?_)
    refine ax_gsplit rfl rfl (fun h => absurd rfl h) (fun _ => ?_)
    repeat (first
      | refine ax_q (q_move rfl) ?_
      | refine ax_ops_nil ?_
      | refine ax_post_code ?_
      | refine ax_guard rfl rfl ?_
      | refine ax_q (q_pick rfl rfl) ?_
      | refine ax_q (q_strneq rfl rfl) ?_)
    refine ax_cond_dec rfl (fun h => absurd rfl h) (fun _ => ?_)
    repeat (first
      | refine ax_q (q_move rfl) ?_
      | refine ax_post_code ?_
      | refine ax_seq ?_
      | refine ax_region rfl ?_
      | refine ax_skip ?_
      | refine ax_q (q_streql rfl rfl) ?_)
    refine ax_gsplit rfl rfl (fun h => absurd h hb0) (fun _ => ?_)
    repeat (first
      | refine ax_q (q_move rfl) ?_
      | refine ax_guard rfl rfl ?_
      | refine ax_skip_not rfl rfl rfl ?_
      | refine ax_q (q_pick rfl rfl) ?_
      | refine ax_q (q_strneq rfl rfl) ?_)
    refine ax_gsplit rfl rfl (fun h => ?_) (fun h => absurd hb0 h)
    repeat (first
      | refine ax_q (q_move rfl) ?_
      | refine ax_q (q_assign rfl) ?_
      | refine ax_ops_nil ?_
      | refine ax_post_code ?_
      | refine ax_guard rfl rfl ?_
      | refine ax_return ?_
      | refine ax_q (q_eql rfl rfl) ?_
      | refine ax_q (q_pick rfl rfl) ?_
      | refine ax_q (q_streql rfl rfl) ?_)
    refine ax_ret hR rfl ?_
    simp [tupOf]
end Go.Proofs.YtbeegiiiochblaaGreatDoor

