import Derived.Test.YtmfhdfofmdggaaaR9
import Derived.Test.YtmfhdfofmdggaaaK4
import Derived.Laws.Bits64
namespace Go.Proofs.Ytmfhdfofmdggaaa
open Go.Ax Go.Ax.Idx Go.Ax.Cd Go.Ax.Rk Go.RowKit
attribute [local irreducible] Ax Post QOp ACall
set_option maxRecDepth 100000
set_option maxHeartbeats 4000000
set_option linter.unusedSimpArgs false
set_option linter.unusedVariables false

def pickF (a n : Int) : Int := IntKind.u64.wrap a % n
theorem pickF_bd (a n : Int) (hn : 0 < n) : 0 ≤ pickF a n ∧ pickF a n < n := ⟨Int.emod_nonneg _ (by omega), Int.emod_lt_of_pos _ hn⟩
theorem pick (a n : Int) (hn : 0 < n ∧ n ≤ 1000000) : VCall Try.prog 12 [.int .i64 a, .int .i64 n] (.int .i64 (pickF a n)) := by
  refine ACall.value0 (acall_of_ax (P := Try.prog) (fn := Try.f12) rfl rfl (by kernel_rfl) rfl (fun c hR hfix => ?_)) (fix := fun _ => False) (fun _ h => h) rfl rfl
  have hw : 0 ≤ IntKind.u64.wrap a := by rw [IntKind.wrap_u64]; omega
  have hwn : IntKind.u64.wrap n = n := by rw [IntKind.wrap_u64]; omega
  have hb := pickF_bd a n hn.1
  repeat (first
    | refine ax_q (q_move rfl) ?_
    | refine ax_q (q_assign rfl) ?_
    | refine ax_ops_nil ?_
    | refine ax_post_code ?_
    | refine ax_seq ?_
    | refine ax_region rfl ?_)
  refine ax_q (q_conv (k' := .u64) rfl rfl rfl) ?_
  repeat (refine ax_q (q_move rfl) ?_)
  refine ax_q (q_conv (k' := .u64) rfl rfl rfl) ?_
  rw [hwn]
  generalize hz : IntKind.u64.wrap a = z at *
  have hpf : pickF a n = z % n := by unfold pickF; rw [hz]
  refine ax_q (q_rem rfl rfl (by omega)) ?_
  rw [← hpf]
  refine ax_q (q_conv64 rfl rfl rfl (by omega)) ?_
  repeat (first
    | refine ax_q (q_assign rfl) ?_
    | refine ax_ops_nil ?_
    | refine ax_post_code ?_
    | refine ax_return ?_)
  exact ax_ret hR rfl rfl

theorem lessI (a b : Int) : VCall Try.prog 24 [.int .i64 a, .int .i64 b] (.bool (decide (a < b))) := by
  refine ACall.value0 (acall_of_ax (P := Try.prog) (fn := Try.f24) rfl rfl (by kernel_rfl) rfl (fun c hR hfix => ?_)) (fix := fun _ => False) (fun _ h => h) rfl rfl
  repeat (first
    | refine ax_q (q_move rfl) ?_
    | refine ax_q (q_assign rfl) ?_
    | refine ax_ops_nil ?_
    | refine ax_post_code ?_
    | refine ax_seq ?_
    | refine ax_region rfl ?_)
  refine ax_callv rfl rfl rfl (isNaN a) ?_
  repeat (first
    | refine ax_q (q_move rfl) ?_
    | refine ax_q (q_assign rfl) ?_
    | refine ax_ops_nil ?_
    | refine ax_post_code ?_
    | refine ax_guard rfl rfl ?_
    | refine ax_skip_not rfl rfl rfl ?_
    | refine ax_return ?_
    | refine ax_q (q_lss rfl rfl) ?_
    | refine ax_q (q_pick rfl rfl) ?_)
  exact ax_ret hR rfl rfl

theorem sortedI (l : List Int) (hl : l.length ≤ 1000000) : VCall Try.prog 11 [.ro (.ints .i64 l) 0 l.length] (.bool (srtF l (l.length - 1))) := by
  refine ACall.value0 (acall_of_ax (P := Try.prog) (fn := Try.f11) rfl rfl (by kernel_rfl) rfl (fun c hR hfix => ?_)) (fix := fun _ => False) (fun _ h => h) rfl rfl
  repeat (first
    | refine ax_q (q_move rfl) ?_
    | refine ax_q (q_assign rfl) ?_
    | refine ax_ops_nil ?_
    | refine ax_post_code ?_
    | refine ax_seq ?_
    | refine ax_region rfl ?_
    | refine ax_block ?_
    | refine ax_q (q_len rfl rfl rfl) ?_
    | refine ax_q (q_sub rfl rfl (by omega)) ?_)
  refine ax_loop (ι := Int) (fun i => [(0, .ro (.ints .i64 l) 0 l.length), (3, .int .i64 i)]) (fun _ => []) (fun i => -1 ≤ i ∧ i < l.length ∧ srtF l i.toNat = srtF l (l.length - 1)) (fun i => i.toNat) ((l.length : Nat) - 1) ⟨⟨rfl, rfl, trivial⟩, rfl, by omega, by omega, by congr 1; omega⟩ ?_
  rintro i ⟨h1, h2, h3⟩
  repeat (first
    | refine ax_q (q_move rfl) ?_
    | refine ax_ops_nil ?_
    | refine ax_post_code ?_
    | refine ax_seq ?_
    | refine ax_region rfl ?_
    | refine ax_q (q_gtr rfl rfl) ?_)
  refine ax_cond_dec rfl (fun h4 => ?_) (fun h4 => ?_)
  · obtain ⟨j, rfl⟩ : ∃ j : Nat, i = ((j + 1 : Nat) : Int) := ⟨(i - 1).toNat, by omega⟩
    rw [Int.toNat_natCast, srtF] at h3
    have e : (((j + 1 : Nat) : Int) - 1) = (j : Nat) := by omega
    have hj1 : j + 1 < l.length := by omega
    have hj0 : j < l.length := by omega
    repeat (first
      | refine ax_post_code ?_
      | refine ax_seq ?_
      | refine ax_block ?_
      | refine ax_skip ?_)
    refine ax_regiond (by kernel_rfl) ?_
    refine ax_any_q 0 rfl (by kernel_rfl) (by kernel_rfl) (by kernel_rfl) rfl (q_move rfl) rfl ?_
    refine ax_any_q 1 rfl (by kernel_rfl) (by kernel_rfl) (by kernel_rfl) rfl (q_move rfl) rfl ?_
    refine ax_any_q 2 rfl (by kernel_rfl) (by kernel_rfl) (by kernel_rfl) rfl (q_index_ro' rfl rfl rfl rfl (by first | (simp only [Nat.zero_add, Int.toNat_natCast, Int.toNat_zero]; exact rfl) | exact rfl) (by omega)) rfl ?_
    refine ax_any_q 4 rfl (by kernel_rfl) (by kernel_rfl) (by kernel_rfl) rfl (q_move rfl) rfl ?_
    refine ax_any_q 5 rfl (by kernel_rfl) (by kernel_rfl) (by kernel_rfl) rfl (q_move rfl) rfl ?_
    refine ax_any_q 6 rfl (by kernel_rfl) (by kernel_rfl) (by kernel_rfl) rfl (q_sub rfl rfl (by omega)) rfl ?_
    refine ax_slot_any 17 (.int .i64 (j : Nat)) rfl (AEq.of_eq (by rw [e])) ?_
    refine ax_any_q 7 rfl (by kernel_rfl) (by kernel_rfl) (by kernel_rfl) rfl (q_index_ro' rfl rfl rfl rfl (by first | (simp only [Nat.zero_add, Int.toNat_natCast, Int.toNat_zero]; exact rfl) | exact rfl) (by omega)) rfl ?_
    refine ax_any_step (is := [3, 8]) (by kernel_rfl) (by simp) rfl ⟨fun o ho => ?_, fun o ho => ?_, trivial⟩
    all_goals (cases ho)
    · repeat (first
        | refine ax_q (q_loadi_rp rfl rfl rfl) ?_
        | refine ax_ops_nil ?_
        | refine ax_post_any ?_)
      refine ax_any_step (is := [8]) (by kernel_rfl) (by simp) rfl ⟨fun o ho => ?_, trivial⟩
      all_goals (cases ho)
      repeat (first
        | refine ax_q (q_loadi_rp rfl rfl rfl) ?_
        | refine ax_ops_nil ?_
        | refine ax_post_any ?_)
      refine ax_any_step (is := [9]) (by kernel_rfl) (by simp) rfl ⟨fun o ho => ?_, trivial⟩
      all_goals (cases ho)
      skip
      refine ax_callv rfl rfl rfl (lessI (l.getD (j + 1) 0) (l.getD j 0)) ?_
      repeat (first
        | refine ax_ops_nil ?_
        | refine ax_post_any ?_)
      refine ax_any_done (by kernel_rfl) ?_
      repeat (refine ax_post_code ?_)
      refine ax_cond_dec rfl (fun h5 => ?_) (fun h5 => ?_)
      · rw [if_pos h5] at h3
        rw [← h3] at hR
        repeat (first
          | refine ax_q (q_assign rfl) ?_
          | refine ax_ops_nil ?_
          | refine ax_post_code ?_
          | refine ax_seq ?_
          | refine ax_region rfl ?_
          | refine ax_return ?_
          | refine ax_ret_code ?_
          | refine ax_ret_blk ?_
          | refine ax_ret_inv ?_)
        exact ax_ret hR rfl rfl
      · rw [if_neg h5] at h3
        repeat (first
          | refine ax_q (q_move rfl) ?_
          | refine ax_q (q_assign rfl) ?_
          | refine ax_ops_nil ?_
          | refine ax_post_code ?_
          | refine ax_region rfl ?_
          | refine ax_post_blk ?_
          | refine ax_skip ?_
          | refine ax_q (q_sub rfl rfl (by omega)) ?_)
        exact ax_post_inv ⟨(j : Nat), ⟨by omega, by omega, by rw [Int.toNat_natCast]; exact h3⟩, by omega, ⟨rfl, by show some (AV.int .i64 (((j + 1 : Nat) : Int) - 1)) = _; rw [e], trivial⟩, rfl⟩
    · repeat (first
        | refine ax_q (q_loadi_rp rfl rfl rfl) ?_
        | refine ax_ops_nil ?_
        | refine ax_post_any ?_)
      refine ax_any_step (is := [3]) (by kernel_rfl) (by simp) rfl ⟨fun o ho => ?_, trivial⟩
      all_goals (cases ho)
      repeat (first
        | refine ax_q (q_loadi_rp rfl rfl rfl) ?_
        | refine ax_ops_nil ?_
        | refine ax_post_any ?_)
      refine ax_any_step (is := [9]) (by kernel_rfl) (by simp) rfl ⟨fun o ho => ?_, trivial⟩
      all_goals (cases ho)
      skip
      refine ax_callv rfl rfl rfl (lessI (l.getD (j + 1) 0) (l.getD j 0)) ?_
      repeat (first
        | refine ax_ops_nil ?_
        | refine ax_post_any ?_)
      refine ax_any_done (by kernel_rfl) ?_
      repeat (refine ax_post_code ?_)
      refine ax_cond_dec rfl (fun h5 => ?_) (fun h5 => ?_)
      · rw [if_pos h5] at h3
        rw [← h3] at hR
        repeat (first
          | refine ax_q (q_assign rfl) ?_
          | refine ax_ops_nil ?_
          | refine ax_post_code ?_
          | refine ax_seq ?_
          | refine ax_region rfl ?_
          | refine ax_return ?_
          | refine ax_ret_code ?_
          | refine ax_ret_blk ?_
          | refine ax_ret_inv ?_)
        exact ax_ret hR rfl rfl
      · rw [if_neg h5] at h3
        repeat (first
          | refine ax_q (q_move rfl) ?_
          | refine ax_q (q_assign rfl) ?_
          | refine ax_ops_nil ?_
          | refine ax_post_code ?_
          | refine ax_region rfl ?_
          | refine ax_post_blk ?_
          | refine ax_skip ?_
          | refine ax_q (q_sub rfl rfl (by omega)) ?_)
        exact ax_post_inv ⟨(j : Nat), ⟨by omega, by omega, by rw [Int.toNat_natCast]; exact h3⟩, by omega, ⟨rfl, by show some (AV.int .i64 (((j + 1 : Nat) : Int) - 1)) = _; rw [e], trivial⟩, rfl⟩
  · rw [show i.toNat = 0 by omega, srtF] at h3
    rw [← h3] at hR
    repeat (first
      | refine ax_q (q_assign rfl) ?_
      | refine ax_ops_nil ?_
      | refine ax_post_code ?_
      | refine ax_seq ?_
      | refine ax_region rfl ?_
      | refine ax_exit ?_
      | refine ax_exit_here ?_
      | refine ax_exit_code ?_
      | refine ax_exit_inv ?_
      | refine ax_return ?_)
    exact ax_ret hR rfl rfl

theorem f_class : VCall Try.prog 7 [.ro (.ints .i64 [0, 1, 2, 3, 17]) 0 5] (.tup [.int .i64 4, .int .i64 0]) := by
  have := Class_ok [0, 1, 2, 3, 17] (by decide)
  rwa [show handE [0, 1, 2, 3, 17] = 0 by decide, if_pos rfl, show clsF [0, 1, 2, 3, 17] = 4 by decide] at this
theorem f_value : VCall Try.prog 8 [.ro (.ints .i64 [12, 13, 27, 2, 3]) 0 5] (.tup [.int .i64 1570855, .int .i64 0]) := by
  have := Value_ok [12, 13, 27, 2, 3] (by decide)
  rwa [show handE [12, 13, 27, 2, 3] = 0 by decide, if_pos rfl, show valF [12, 13, 27, 2, 3] = 1570855 by decide] at this
theorem f_best : VCall Try.prog 10 [.ro (.ints .i64 [5, 18, 22, 7, 2, 11]) 0 6] (.tup [.ro (.ints .i64 [0, 1, 2, 3, 5]) 0 5, .int .i64 539877, .int .i64 0]) := by
  have := Best_ok [5, 18, 22, 7, 2, 11] (by decide)
  rwa [show bestF [5, 18, 22, 7, 2, 11] = (539877, [0, 1, 2, 3, 5]) by decide] at this
end Go.Proofs.Ytmfhdfofmdggaaa
