import Derived.Test.YtegaegmkajnibaaAxHeap
import Derived.Test.YtegaegmkajnibaaIdxPlain
import Derived.Test.YtegaegmkajnibaaProg
set_option linter.unusedVariables false
namespace Go.Proofs.Ytegaegmkajnibaa
open Go.Ax Go.Ax.Idx
attribute [local irreducible] Ax Post QOp ACall
set_option maxRecDepth 100000
set_option linter.unusedSimpArgs false

theorem check1 (n : Int) : VCall Try.prog 25 [.int .i64 n] (.bool (outK n)) := by
  refine ACall.value0 (acall_of_ax (P := Try.prog) (fn := Try.f25) rfl rfl (by kernel_rfl) rfl (fun c hR hfix => ?_)) (fix := fun _ => False) (fun _ h => h) rfl rfl
  repeat (first
    | refine ax_q (q_move rfl) ?_
    | refine ax_q (q_assign rfl) ?_
    | refine ax_q (q_loadi_rp rfl rfl rfl) ?_
    | refine ax_ops_nil ?_
    | refine ax_post_code ?_
    | refine ax_seq ?_
    | refine ax_region rfl ?_
    | refine ax_guard rfl rfl ?_
    | refine ax_skip_undef rfl rfl ?_
    | refine ax_skip_not rfl rfl rfl ?_
    | refine ax_guard_not rfl rfl rfl ?_
    | refine ax_cond_true rfl ?_
    | refine ax_cond_false rfl ?_
    | refine ax_post_blk ?_
    | refine ax_post_scope ?_
    | refine ax_post_any ?_
    | refine ax_block ?_
    | refine ax_scope ?_
    | refine ax_skip ?_
    | refine ax_label ?_
    | refine ax_exit ?_
    | refine ax_exit_here ?_
    | refine ax_exit_code ?_
    | refine ax_exit_inv ?_
    | refine ax_exit_scope ?_
    | refine ax_exit_on rfl ?_
    | refine ax_return ?_
    | refine ax_ret_code ?_
    | refine ax_ret_blk ?_
    | refine ax_ret_scope ?_
    | refine ax_ret_inv ?_
    | refine ax_q (q_loads_rp rfl rfl rfl) ?_
    | refine ax_q (q_loadf_rp rfl rfl rfl rfl) ?_
    | refine ax_q (q_loadb_ptr rfl rfl rfl rfl rfl) ?_
    | refine ax_q (q_lss rfl rfl) ?_
    | refine ax_q (q_eql rfl rfl) ?_
    | refine ax_q (q_neq rfl rfl) ?_
    | refine ax_q (q_leq rfl rfl) ?_
    | refine ax_q (q_gtr rfl rfl) ?_
    | refine ax_q (q_geq rfl rfl) ?_
    | refine ax_q (q_not rfl) ?_
    | refine ax_q (q_pick rfl rfl) ?_
    | refine ax_q (q_extract rfl rfl) ?_
    | refine ax_q (q_len rfl rfl rfl) ?_
    | refine ax_q (q_lenstr rfl rfl) ?_
    | refine ax_q (q_add rfl rfl (by omega)) ?_
    | refine ax_q (q_sub rfl rfl (by omega)) ?_
    | refine ax_q (q_index_ro' rfl rfl rfl rfl (by first | (simp only [Nat.zero_add, Int.toNat_natCast, Int.toNat_zero]; exact rfl) | exact rfl) (by omega)) ?_
    | refine ax_q (q_index_sl' rfl rfl rfl rfl rfl (by first | (simp only [Nat.zero_add, Int.toNat_natCast, Int.toNat_zero]; exact rfl) | exact rfl) (by omega)) ?_
    | refine ax_q (q_loadi_ptr rfl rfl rfl rfl (by first | assumption | omega)) ?_
    | refine ax_q (q_loads_ptr rfl rfl rfl rfl (by first | assumption | omega)) ?_
    | refine ax_q (q_loadf_ptr rfl rfl rfl rfl rfl (by first | assumption | omega)) ?_
    | refine ax_q (q_quo rfl rfl (by omega)) ?_
    | refine ax_q (q_rem rfl rfl (by omega)) ?_
    | refine ax_q (q_slice_ro rfl rfl rfl rfl rfl rfl rfl (by omega)) ?_
    | refine ax_q (q_slice_sl rfl rfl rfl rfl rfl rfl rfl rfl (by omega)) ?_
    | refine ax_q (q_eqnilnil rfl rfl rfl) ?_
    | refine ax_q (q_build rfl rfl rfl rfl rfl rfl) ?_
    | refine ax_store rfl rfl rfl rfl rfl rfl rfl (by first | assumption | (show _ < List.length _; first | assumption | omega)) ?_
    | refine ax_buildSliceRo rfl rfl rfl rfl rfl rfl rfl rfl rfl rfl rfl ?_)
  refine ax_split_dec 5 rfl (fun h => ?_) (fun h => ?_)
  · repeat (first
      | refine ax_q (q_move rfl) ?_
      | refine ax_q (q_assign rfl) ?_
      | refine ax_q (q_loadi_rp rfl rfl rfl) ?_
      | refine ax_ops_nil ?_
      | refine ax_post_code ?_
      | refine ax_seq ?_
      | refine ax_region rfl ?_
      | refine ax_guard rfl rfl ?_
      | refine ax_skip_undef rfl rfl ?_
      | refine ax_skip_not rfl rfl rfl ?_
      | refine ax_guard_not rfl rfl rfl ?_
      | refine ax_cond_true rfl ?_
      | refine ax_cond_false rfl ?_
      | refine ax_post_blk ?_
      | refine ax_post_scope ?_
      | refine ax_post_any ?_
      | refine ax_block ?_
      | refine ax_scope ?_
      | refine ax_skip ?_
      | refine ax_label ?_
      | refine ax_exit ?_
      | refine ax_exit_here ?_
      | refine ax_exit_code ?_
      | refine ax_exit_inv ?_
      | refine ax_exit_scope ?_
      | refine ax_exit_on rfl ?_
      | refine ax_return ?_
      | refine ax_ret_code ?_
      | refine ax_ret_blk ?_
      | refine ax_ret_scope ?_
      | refine ax_ret_inv ?_
      | refine ax_q (q_loads_rp rfl rfl rfl) ?_
      | refine ax_q (q_loadf_rp rfl rfl rfl rfl) ?_
      | refine ax_q (q_loadb_ptr rfl rfl rfl rfl rfl) ?_
      | refine ax_q (q_lss rfl rfl) ?_
      | refine ax_q (q_eql rfl rfl) ?_
      | refine ax_q (q_neq rfl rfl) ?_
      | refine ax_q (q_leq rfl rfl) ?_
      | refine ax_q (q_gtr rfl rfl) ?_
      | refine ax_q (q_geq rfl rfl) ?_
      | refine ax_q (q_not rfl) ?_
      | refine ax_q (q_pick rfl rfl) ?_
      | refine ax_q (q_extract rfl rfl) ?_
      | refine ax_q (q_len rfl rfl rfl) ?_
      | refine ax_q (q_lenstr rfl rfl) ?_
      | refine ax_q (q_add rfl rfl (by omega)) ?_
      | refine ax_q (q_sub rfl rfl (by omega)) ?_
      | refine ax_q (q_index_ro' rfl rfl rfl rfl (by first | (simp only [Nat.zero_add, Int.toNat_natCast, Int.toNat_zero]; exact rfl) | exact rfl) (by omega)) ?_
      | refine ax_q (q_index_sl' rfl rfl rfl rfl rfl (by first | (simp only [Nat.zero_add, Int.toNat_natCast, Int.toNat_zero]; exact rfl) | exact rfl) (by omega)) ?_
      | refine ax_q (q_loadi_ptr rfl rfl rfl rfl (by first | assumption | omega)) ?_
      | refine ax_q (q_loads_ptr rfl rfl rfl rfl (by first | assumption | omega)) ?_
      | refine ax_q (q_loadf_ptr rfl rfl rfl rfl rfl (by first | assumption | omega)) ?_
      | refine ax_q (q_quo rfl rfl (by omega)) ?_
      | refine ax_q (q_rem rfl rfl (by omega)) ?_
      | refine ax_q (q_slice_ro rfl rfl rfl rfl rfl rfl rfl (by omega)) ?_
      | refine ax_q (q_slice_sl rfl rfl rfl rfl rfl rfl rfl rfl (by omega)) ?_
      | refine ax_q (q_eqnilnil rfl rfl rfl) ?_
      | refine ax_q (q_build rfl rfl rfl rfl rfl rfl) ?_
      | refine ax_store rfl rfl rfl rfl rfl rfl rfl (by first | assumption | (show _ < List.length _; first | assumption | omega)) ?_
      | refine ax_buildSliceRo rfl rfl rfl rfl rfl rfl rfl rfl rfl rfl rfl ?_)
    refine ax_ret hR rfl ?_
    simp [tupOf, outK, h]
  · repeat (first
      | refine ax_q (q_move rfl) ?_
      | refine ax_q (q_assign rfl) ?_
      | refine ax_q (q_loadi_rp rfl rfl rfl) ?_
      | refine ax_ops_nil ?_
      | refine ax_post_code ?_
      | refine ax_seq ?_
      | refine ax_region rfl ?_
      | refine ax_guard rfl rfl ?_
      | refine ax_skip_undef rfl rfl ?_
      | refine ax_skip_not rfl rfl rfl ?_
      | refine ax_guard_not rfl rfl rfl ?_
      | refine ax_cond_true rfl ?_
      | refine ax_cond_false rfl ?_
      | refine ax_post_blk ?_
      | refine ax_post_scope ?_
      | refine ax_post_any ?_
      | refine ax_block ?_
      | refine ax_scope ?_
      | refine ax_skip ?_
      | refine ax_label ?_
      | refine ax_exit ?_
      | refine ax_exit_here ?_
      | refine ax_exit_code ?_
      | refine ax_exit_inv ?_
      | refine ax_exit_scope ?_
      | refine ax_exit_on rfl ?_
      | refine ax_return ?_
      | refine ax_ret_code ?_
      | refine ax_ret_blk ?_
      | refine ax_ret_scope ?_
      | refine ax_ret_inv ?_
      | refine ax_q (q_loads_rp rfl rfl rfl) ?_
      | refine ax_q (q_loadf_rp rfl rfl rfl rfl) ?_
      | refine ax_q (q_loadb_ptr rfl rfl rfl rfl rfl) ?_
      | refine ax_q (q_lss rfl rfl) ?_
      | refine ax_q (q_eql rfl rfl) ?_
      | refine ax_q (q_neq rfl rfl) ?_
      | refine ax_q (q_leq rfl rfl) ?_
      | refine ax_q (q_gtr rfl rfl) ?_
      | refine ax_q (q_geq rfl rfl) ?_
      | refine ax_q (q_not rfl) ?_
      | refine ax_q (q_pick rfl rfl) ?_
      | refine ax_q (q_extract rfl rfl) ?_
      | refine ax_q (q_len rfl rfl rfl) ?_
      | refine ax_q (q_lenstr rfl rfl) ?_
      | refine ax_q (q_add rfl rfl (by omega)) ?_
      | refine ax_q (q_sub rfl rfl (by omega)) ?_
      | refine ax_q (q_index_ro' rfl rfl rfl rfl (by first | (simp only [Nat.zero_add, Int.toNat_natCast, Int.toNat_zero]; exact rfl) | exact rfl) (by omega)) ?_
      | refine ax_q (q_index_sl' rfl rfl rfl rfl rfl (by first | (simp only [Nat.zero_add, Int.toNat_natCast, Int.toNat_zero]; exact rfl) | exact rfl) (by omega)) ?_
      | refine ax_q (q_loadi_ptr rfl rfl rfl rfl (by first | assumption | omega)) ?_
      | refine ax_q (q_loads_ptr rfl rfl rfl rfl (by first | assumption | omega)) ?_
      | refine ax_q (q_loadf_ptr rfl rfl rfl rfl rfl (by first | assumption | omega)) ?_
      | refine ax_q (q_quo rfl rfl (by omega)) ?_
      | refine ax_q (q_rem rfl rfl (by omega)) ?_
      | refine ax_q (q_slice_ro rfl rfl rfl rfl rfl rfl rfl (by omega)) ?_
      | refine ax_q (q_slice_sl rfl rfl rfl rfl rfl rfl rfl rfl (by omega)) ?_
      | refine ax_q (q_eqnilnil rfl rfl rfl) ?_
      | refine ax_q (q_build rfl rfl rfl rfl rfl rfl) ?_
      | refine ax_store rfl rfl rfl rfl rfl rfl rfl (by first | assumption | (show _ < List.length _; first | assumption | omega)) ?_
      | refine ax_buildSliceRo rfl rfl rfl rfl rfl rfl rfl rfl rfl rfl rfl ?_)
    refine ax_ret hR rfl ?_
    simp [tupOf, outK, h]

theorem checkCounts (l : List Int) : VCall Try.prog 16 [.ro (.ints .i64 l) 0 l.length] (.int .i64 (checkCountsF l)) := by
  refine ACall.value0 (acall_of_ax (P := Try.prog) (fn := Try.f16) rfl rfl (by kernel_rfl) rfl (fun c hR hfix => ?_)) (fix := fun _ => False) (fun _ h => h) rfl rfl
  repeat (first
    | refine ax_q (q_move rfl) ?_
    | refine ax_q (q_assign rfl) ?_
    | refine ax_q (q_loadi_rp rfl rfl rfl) ?_
    | refine ax_ops_nil ?_
    | refine ax_post_code ?_
    | refine ax_seq ?_
    | refine ax_region rfl ?_
    | refine ax_guard rfl rfl ?_
    | refine ax_skip_undef rfl rfl ?_
    | refine ax_skip_not rfl rfl rfl ?_
    | refine ax_guard_not rfl rfl rfl ?_
    | refine ax_cond_true rfl ?_
    | refine ax_cond_false rfl ?_
    | refine ax_post_blk ?_
    | refine ax_post_scope ?_
    | refine ax_post_any ?_
    | refine ax_block ?_
    | refine ax_scope ?_
    | refine ax_skip ?_
    | refine ax_label ?_
    | refine ax_exit ?_
    | refine ax_exit_here ?_
    | refine ax_exit_code ?_
    | refine ax_exit_inv ?_
    | refine ax_exit_scope ?_
    | refine ax_exit_on rfl ?_
    | refine ax_return ?_
    | refine ax_ret_code ?_
    | refine ax_ret_blk ?_
    | refine ax_ret_scope ?_
    | refine ax_ret_inv ?_
    | refine ax_q (q_loads_rp rfl rfl rfl) ?_
    | refine ax_q (q_loadf_rp rfl rfl rfl rfl) ?_
    | refine ax_q (q_loadb_ptr rfl rfl rfl rfl rfl) ?_
    | refine ax_q (q_lss rfl rfl) ?_
    | refine ax_q (q_eql rfl rfl) ?_
    | refine ax_q (q_neq rfl rfl) ?_
    | refine ax_q (q_leq rfl rfl) ?_
    | refine ax_q (q_gtr rfl rfl) ?_
    | refine ax_q (q_geq rfl rfl) ?_
    | refine ax_q (q_not rfl) ?_
    | refine ax_q (q_pick rfl rfl) ?_
    | refine ax_q (q_extract rfl rfl) ?_
    | refine ax_q (q_len rfl rfl rfl) ?_
    | refine ax_q (q_lenstr rfl rfl) ?_
    | refine ax_q (q_add rfl rfl (by omega)) ?_
    | refine ax_q (q_sub rfl rfl (by omega)) ?_
    | refine ax_q (q_index_ro' rfl rfl rfl rfl (by first | (simp only [Nat.zero_add, Int.toNat_natCast, Int.toNat_zero]; exact rfl) | exact rfl) (by omega)) ?_
    | refine ax_q (q_index_sl' rfl rfl rfl rfl rfl (by first | (simp only [Nat.zero_add, Int.toNat_natCast, Int.toNat_zero]; exact rfl) | exact rfl) (by omega)) ?_
    | refine ax_q (q_loadi_ptr rfl rfl rfl rfl (by first | assumption | omega)) ?_
    | refine ax_q (q_loads_ptr rfl rfl rfl rfl (by first | assumption | omega)) ?_
    | refine ax_q (q_loadf_ptr rfl rfl rfl rfl rfl (by first | assumption | omega)) ?_
    | refine ax_q (q_quo rfl rfl (by omega)) ?_
    | refine ax_q (q_rem rfl rfl (by omega)) ?_
    | refine ax_q (q_slice_ro rfl rfl rfl rfl rfl rfl rfl (by omega)) ?_
    | refine ax_q (q_slice_sl rfl rfl rfl rfl rfl rfl rfl rfl (by omega)) ?_
    | refine ax_q (q_eqnilnil rfl rfl rfl) ?_
    | refine ax_q (q_build rfl rfl rfl rfl rfl rfl) ?_
    | refine ax_store rfl rfl rfl rfl rfl rfl rfl (by first | assumption | (show _ < List.length _; first | assumption | omega)) ?_
    | refine ax_buildSliceRo rfl rfl rfl rfl rfl rfl rfl rfl rfl rfl rfl ?_)
  refine ax_cond_dec rfl (fun h => ?_) (fun h => ?_)
  · repeat (first
      | refine ax_q (q_move rfl) ?_
      | refine ax_q (q_assign rfl) ?_
      | refine ax_q (q_loadi_rp rfl rfl rfl) ?_
      | refine ax_ops_nil ?_
      | refine ax_post_code ?_
      | refine ax_seq ?_
      | refine ax_region rfl ?_
      | refine ax_guard rfl rfl ?_
      | refine ax_skip_undef rfl rfl ?_
      | refine ax_skip_not rfl rfl rfl ?_
      | refine ax_guard_not rfl rfl rfl ?_
      | refine ax_cond_true rfl ?_
      | refine ax_cond_false rfl ?_
      | refine ax_post_blk ?_
      | refine ax_post_scope ?_
      | refine ax_post_any ?_
      | refine ax_block ?_
      | refine ax_scope ?_
      | refine ax_skip ?_
      | refine ax_label ?_
      | refine ax_exit ?_
      | refine ax_exit_here ?_
      | refine ax_exit_code ?_
      | refine ax_exit_inv ?_
      | refine ax_exit_scope ?_
      | refine ax_exit_on rfl ?_
      | refine ax_return ?_
      | refine ax_ret_code ?_
      | refine ax_ret_blk ?_
      | refine ax_ret_scope ?_
      | refine ax_ret_inv ?_
      | refine ax_q (q_loads_rp rfl rfl rfl) ?_
      | refine ax_q (q_loadf_rp rfl rfl rfl rfl) ?_
      | refine ax_q (q_loadb_ptr rfl rfl rfl rfl rfl) ?_
      | refine ax_q (q_lss rfl rfl) ?_
      | refine ax_q (q_eql rfl rfl) ?_
      | refine ax_q (q_neq rfl rfl) ?_
      | refine ax_q (q_leq rfl rfl) ?_
      | refine ax_q (q_gtr rfl rfl) ?_
      | refine ax_q (q_geq rfl rfl) ?_
      | refine ax_q (q_not rfl) ?_
      | refine ax_q (q_pick rfl rfl) ?_
      | refine ax_q (q_extract rfl rfl) ?_
      | refine ax_q (q_len rfl rfl rfl) ?_
      | refine ax_q (q_lenstr rfl rfl) ?_
      | refine ax_q (q_add rfl rfl (by omega)) ?_
      | refine ax_q (q_sub rfl rfl (by omega)) ?_
      | refine ax_q (q_index_ro' rfl rfl rfl rfl (by first | (simp only [Nat.zero_add, Int.toNat_natCast, Int.toNat_zero]; exact rfl) | exact rfl) (by omega)) ?_
      | refine ax_q (q_index_sl' rfl rfl rfl rfl rfl (by first | (simp only [Nat.zero_add, Int.toNat_natCast, Int.toNat_zero]; exact rfl) | exact rfl) (by omega)) ?_
      | refine ax_q (q_loadi_ptr rfl rfl rfl rfl (by first | assumption | omega)) ?_
      | refine ax_q (q_loads_ptr rfl rfl rfl rfl (by first | assumption | omega)) ?_
      | refine ax_q (q_loadf_ptr rfl rfl rfl rfl rfl (by first | assumption | omega)) ?_
      | refine ax_q (q_quo rfl rfl (by omega)) ?_
      | refine ax_q (q_rem rfl rfl (by omega)) ?_
      | refine ax_q (q_slice_ro rfl rfl rfl rfl rfl rfl rfl (by omega)) ?_
      | refine ax_q (q_slice_sl rfl rfl rfl rfl rfl rfl rfl rfl (by omega)) ?_
      | refine ax_q (q_eqnilnil rfl rfl rfl) ?_
      | refine ax_q (q_build rfl rfl rfl rfl rfl rfl) ?_
      | refine ax_store rfl rfl rfl rfl rfl rfl rfl (by first | assumption | (show _ < List.length _; first | assumption | omega)) ?_
      | refine ax_buildSliceRo rfl rfl rfl rfl rfl rfl rfl rfl rfl rfl rfl ?_)
    refine ax_ret hR rfl ?_
    unfold checkCountsF; rw [if_pos (by omega)]; rfl
  · repeat (first
      | refine ax_q (q_move rfl) ?_
      | refine ax_q (q_assign rfl) ?_
      | refine ax_q (q_loadi_rp rfl rfl rfl) ?_
      | refine ax_ops_nil ?_
      | refine ax_post_code ?_
      | refine ax_seq ?_
      | refine ax_region rfl ?_
      | refine ax_guard rfl rfl ?_
      | refine ax_skip_undef rfl rfl ?_
      | refine ax_skip_not rfl rfl rfl ?_
      | refine ax_guard_not rfl rfl rfl ?_
      | refine ax_cond_true rfl ?_
      | refine ax_cond_false rfl ?_
      | refine ax_post_blk ?_
      | refine ax_post_scope ?_
      | refine ax_post_any ?_
      | refine ax_block ?_
      | refine ax_scope ?_
      | refine ax_skip ?_
      | refine ax_label ?_
      | refine ax_exit ?_
      | refine ax_exit_here ?_
      | refine ax_exit_code ?_
      | refine ax_exit_inv ?_
      | refine ax_exit_scope ?_
      | refine ax_exit_on rfl ?_
      | refine ax_return ?_
      | refine ax_ret_code ?_
      | refine ax_ret_blk ?_
      | refine ax_ret_scope ?_
      | refine ax_ret_inv ?_
      | refine ax_q (q_loads_rp rfl rfl rfl) ?_
      | refine ax_q (q_loadf_rp rfl rfl rfl rfl) ?_
      | refine ax_q (q_loadb_ptr rfl rfl rfl rfl rfl) ?_
      | refine ax_q (q_lss rfl rfl) ?_
      | refine ax_q (q_eql rfl rfl) ?_
      | refine ax_q (q_neq rfl rfl) ?_
      | refine ax_q (q_leq rfl rfl) ?_
      | refine ax_q (q_gtr rfl rfl) ?_
      | refine ax_q (q_geq rfl rfl) ?_
      | refine ax_q (q_not rfl) ?_
      | refine ax_q (q_pick rfl rfl) ?_
      | refine ax_q (q_extract rfl rfl) ?_
      | refine ax_q (q_len rfl rfl rfl) ?_
      | refine ax_q (q_lenstr rfl rfl) ?_
      | refine ax_q (q_add rfl rfl (by omega)) ?_
      | refine ax_q (q_sub rfl rfl (by omega)) ?_
      | refine ax_q (q_index_ro' rfl rfl rfl rfl (by first | (simp only [Nat.zero_add, Int.toNat_natCast, Int.toNat_zero]; exact rfl) | exact rfl) (by omega)) ?_
      | refine ax_q (q_index_sl' rfl rfl rfl rfl rfl (by first | (simp only [Nat.zero_add, Int.toNat_natCast, Int.toNat_zero]; exact rfl) | exact rfl) (by omega)) ?_
      | refine ax_q (q_loadi_ptr rfl rfl rfl rfl (by first | assumption | omega)) ?_
      | refine ax_q (q_loads_ptr rfl rfl rfl rfl (by first | assumption | omega)) ?_
      | refine ax_q (q_loadf_ptr rfl rfl rfl rfl rfl (by first | assumption | omega)) ?_
      | refine ax_q (q_quo rfl rfl (by omega)) ?_
      | refine ax_q (q_rem rfl rfl (by omega)) ?_
      | refine ax_q (q_slice_ro rfl rfl rfl rfl rfl rfl rfl (by omega)) ?_
      | refine ax_q (q_slice_sl rfl rfl rfl rfl rfl rfl rfl rfl (by omega)) ?_
      | refine ax_q (q_eqnilnil rfl rfl rfl) ?_
      | refine ax_q (q_build rfl rfl rfl rfl rfl rfl) ?_
      | refine ax_store rfl rfl rfl rfl rfl rfl rfl (by first | assumption | (show _ < List.length _; first | assumption | omega)) ?_
      | refine ax_buildSliceRo rfl rfl rfl rfl rfl rfl rfl rfl rfl rfl rfl ?_)
    have hl : l.length = 7 := by omega
    refine ax_loop (ι := Nat) (fun k => [(0, .ro (.ints .i64 l) 0 l.length), (9, .ro (.ints .i64 l) 0 l.length), (10, .int .i64 (l.length : Nat)), (11, .int .i64 (k : Nat)), (3, .int .i64 ((l.take k).sum))]) (fun _ => [])
      (fun k => k ≤ l.length ∧ (l.take k).any outC = false ∧ 0 ≤ (l.take k).sum ∧ (l.take k).sum ≤ 16 * k) (fun k => l.length - k) 0 ⟨⟨rfl, rfl, rfl, rfl, rfl, trivial⟩, rfl, Nat.zero_le _, rfl, by simp⟩ ?_
    intro k ⟨hk, hany, hs⟩
    repeat (first
      | refine ax_q (q_move rfl) ?_
      | refine ax_q (q_assign rfl) ?_
      | refine ax_q (q_loadi_rp rfl rfl rfl) ?_
      | refine ax_ops_nil ?_
      | refine ax_post_code ?_
      | refine ax_seq ?_
      | refine ax_region rfl ?_
      | refine ax_guard rfl rfl ?_
      | refine ax_skip_undef rfl rfl ?_
      | refine ax_skip_not rfl rfl rfl ?_
      | refine ax_guard_not rfl rfl rfl ?_
      | refine ax_cond_true rfl ?_
      | refine ax_cond_false rfl ?_
      | refine ax_post_blk ?_
      | refine ax_post_scope ?_
      | refine ax_post_any ?_
      | refine ax_block ?_
      | refine ax_scope ?_
      | refine ax_skip ?_
      | refine ax_label ?_
      | refine ax_exit ?_
      | refine ax_exit_here ?_
      | refine ax_exit_code ?_
      | refine ax_exit_inv ?_
      | refine ax_exit_scope ?_
      | refine ax_exit_on rfl ?_
      | refine ax_return ?_
      | refine ax_ret_code ?_
      | refine ax_ret_blk ?_
      | refine ax_ret_scope ?_
      | refine ax_ret_inv ?_
      | refine ax_q (q_loads_rp rfl rfl rfl) ?_
      | refine ax_q (q_loadf_rp rfl rfl rfl rfl) ?_
      | refine ax_q (q_loadb_ptr rfl rfl rfl rfl rfl) ?_
      | refine ax_q (q_lss rfl rfl) ?_
      | refine ax_q (q_eql rfl rfl) ?_
      | refine ax_q (q_neq rfl rfl) ?_
      | refine ax_q (q_leq rfl rfl) ?_
      | refine ax_q (q_gtr rfl rfl) ?_
      | refine ax_q (q_geq rfl rfl) ?_
      | refine ax_q (q_not rfl) ?_
      | refine ax_q (q_pick rfl rfl) ?_
      | refine ax_q (q_extract rfl rfl) ?_
      | refine ax_q (q_len rfl rfl rfl) ?_
      | refine ax_q (q_lenstr rfl rfl) ?_
      | refine ax_q (q_add rfl rfl (by omega)) ?_
      | refine ax_q (q_sub rfl rfl (by omega)) ?_
      | refine ax_q (q_index_ro' rfl rfl rfl rfl (by first | (simp only [Nat.zero_add, Int.toNat_natCast, Int.toNat_zero]; exact rfl) | exact rfl) (by omega)) ?_
      | refine ax_q (q_index_sl' rfl rfl rfl rfl rfl (by first | (simp only [Nat.zero_add, Int.toNat_natCast, Int.toNat_zero]; exact rfl) | exact rfl) (by omega)) ?_
      | refine ax_q (q_loadi_ptr rfl rfl rfl rfl (by first | assumption | omega)) ?_
      | refine ax_q (q_loads_ptr rfl rfl rfl rfl (by first | assumption | omega)) ?_
      | refine ax_q (q_loadf_ptr rfl rfl rfl rfl rfl (by first | assumption | omega)) ?_
      | refine ax_q (q_quo rfl rfl (by omega)) ?_
      | refine ax_q (q_rem rfl rfl (by omega)) ?_
      | refine ax_q (q_slice_ro rfl rfl rfl rfl rfl rfl rfl (by omega)) ?_
      | refine ax_q (q_slice_sl rfl rfl rfl rfl rfl rfl rfl rfl (by omega)) ?_
      | refine ax_q (q_eqnilnil rfl rfl rfl) ?_
      | refine ax_q (q_build rfl rfl rfl rfl rfl rfl) ?_
      | refine ax_store rfl rfl rfl rfl rfl rfl rfl (by first | assumption | (show _ < List.length _; first | assumption | omega)) ?_
      | refine ax_buildSliceRo rfl rfl rfl rfl rfl rfl rfl rfl rfl rfl rfl ?_)
    refine ax_cond_dec rfl (fun h => ?_) (fun h => ?_)
    · have hk' : k < l.length := by omega
      have hsum := sum_take_succ l k hk'
      have hanys := any_take_succ outC l 0 k hk'
      repeat (first
        | refine ax_q (q_move rfl) ?_
        | refine ax_q (q_assign rfl) ?_
        | refine ax_q (q_loadi_rp rfl rfl rfl) ?_
        | refine ax_ops_nil ?_
        | refine ax_post_code ?_
        | refine ax_seq ?_
        | refine ax_region rfl ?_
        | refine ax_guard rfl rfl ?_
        | refine ax_skip_undef rfl rfl ?_
        | refine ax_skip_not rfl rfl rfl ?_
        | refine ax_guard_not rfl rfl rfl ?_
        | refine ax_cond_true rfl ?_
        | refine ax_cond_false rfl ?_
        | refine ax_post_blk ?_
        | refine ax_post_scope ?_
        | refine ax_post_any ?_
        | refine ax_block ?_
        | refine ax_scope ?_
        | refine ax_skip ?_
        | refine ax_label ?_
        | refine ax_exit ?_
        | refine ax_exit_here ?_
        | refine ax_exit_code ?_
        | refine ax_exit_inv ?_
        | refine ax_exit_scope ?_
        | refine ax_exit_on rfl ?_
        | refine ax_return ?_
        | refine ax_ret_code ?_
        | refine ax_ret_blk ?_
        | refine ax_ret_scope ?_
        | refine ax_ret_inv ?_
        | refine ax_q (q_loads_rp rfl rfl rfl) ?_
        | refine ax_q (q_loadf_rp rfl rfl rfl rfl) ?_
        | refine ax_q (q_loadb_ptr rfl rfl rfl rfl rfl) ?_
        | refine ax_q (q_lss rfl rfl) ?_
        | refine ax_q (q_eql rfl rfl) ?_
        | refine ax_q (q_neq rfl rfl) ?_
        | refine ax_q (q_leq rfl rfl) ?_
        | refine ax_q (q_gtr rfl rfl) ?_
        | refine ax_q (q_geq rfl rfl) ?_
        | refine ax_q (q_not rfl) ?_
        | refine ax_q (q_pick rfl rfl) ?_
        | refine ax_q (q_extract rfl rfl) ?_
        | refine ax_q (q_len rfl rfl rfl) ?_
        | refine ax_q (q_lenstr rfl rfl) ?_
        | refine ax_q (q_add rfl rfl (by omega)) ?_
        | refine ax_q (q_sub rfl rfl (by omega)) ?_
        | refine ax_q (q_index_ro' rfl rfl rfl rfl (by first | (simp only [Nat.zero_add, Int.toNat_natCast, Int.toNat_zero]; exact rfl) | exact rfl) (by omega)) ?_
        | refine ax_q (q_index_sl' rfl rfl rfl rfl rfl (by first | (simp only [Nat.zero_add, Int.toNat_natCast, Int.toNat_zero]; exact rfl) | exact rfl) (by omega)) ?_
        | refine ax_q (q_loadi_ptr rfl rfl rfl rfl (by first | assumption | omega)) ?_
        | refine ax_q (q_loads_ptr rfl rfl rfl rfl (by first | assumption | omega)) ?_
        | refine ax_q (q_loadf_ptr rfl rfl rfl rfl rfl (by first | assumption | omega)) ?_
        | refine ax_q (q_quo rfl rfl (by omega)) ?_
        | refine ax_q (q_rem rfl rfl (by omega)) ?_
        | refine ax_q (q_slice_ro rfl rfl rfl rfl rfl rfl rfl (by omega)) ?_
        | refine ax_q (q_slice_sl rfl rfl rfl rfl rfl rfl rfl rfl (by omega)) ?_
        | refine ax_q (q_eqnilnil rfl rfl rfl) ?_
        | refine ax_q (q_build rfl rfl rfl rfl rfl rfl) ?_
        | refine ax_store rfl rfl rfl rfl rfl rfl rfl (by first | assumption | (show _ < List.length _; first | assumption | omega)) ?_
        | refine ax_buildSliceRo rfl rfl rfl rfl rfl rfl rfl rfl rfl rfl rfl ?_)
      refine ax_gsplit rfl rfl (fun h2 => ?_) (fun h2 => ?_)
      · repeat (first
          | refine ax_q (q_move rfl) ?_
          | refine ax_q (q_assign rfl) ?_
          | refine ax_q (q_loadi_rp rfl rfl rfl) ?_
          | refine ax_ops_nil ?_
          | refine ax_post_code ?_
          | refine ax_seq ?_
          | refine ax_region rfl ?_
          | refine ax_guard rfl rfl ?_
          | refine ax_skip_undef rfl rfl ?_
          | refine ax_skip_not rfl rfl rfl ?_
          | refine ax_guard_not rfl rfl rfl ?_
          | refine ax_cond_true rfl ?_
          | refine ax_cond_false rfl ?_
          | refine ax_post_blk ?_
          | refine ax_post_scope ?_
          | refine ax_post_any ?_
          | refine ax_block ?_
          | refine ax_scope ?_
          | refine ax_skip ?_
          | refine ax_label ?_
          | refine ax_exit ?_
          | refine ax_exit_here ?_
          | refine ax_exit_code ?_
          | refine ax_exit_inv ?_
          | refine ax_exit_scope ?_
          | refine ax_exit_on rfl ?_
          | refine ax_return ?_
          | refine ax_ret_code ?_
          | refine ax_ret_blk ?_
          | refine ax_ret_scope ?_
          | refine ax_ret_inv ?_
          | refine ax_q (q_loads_rp rfl rfl rfl) ?_
          | refine ax_q (q_loadf_rp rfl rfl rfl rfl) ?_
          | refine ax_q (q_loadb_ptr rfl rfl rfl rfl rfl) ?_
          | refine ax_q (q_lss rfl rfl) ?_
          | refine ax_q (q_eql rfl rfl) ?_
          | refine ax_q (q_neq rfl rfl) ?_
          | refine ax_q (q_leq rfl rfl) ?_
          | refine ax_q (q_gtr rfl rfl) ?_
          | refine ax_q (q_geq rfl rfl) ?_
          | refine ax_q (q_not rfl) ?_
          | refine ax_q (q_pick rfl rfl) ?_
          | refine ax_q (q_extract rfl rfl) ?_
          | refine ax_q (q_len rfl rfl rfl) ?_
          | refine ax_q (q_lenstr rfl rfl) ?_
          | refine ax_q (q_add rfl rfl (by omega)) ?_
          | refine ax_q (q_sub rfl rfl (by omega)) ?_
          | refine ax_q (q_index_ro' rfl rfl rfl rfl (by first | (simp only [Nat.zero_add, Int.toNat_natCast, Int.toNat_zero]; exact rfl) | exact rfl) (by omega)) ?_
          | refine ax_q (q_index_sl' rfl rfl rfl rfl rfl (by first | (simp only [Nat.zero_add, Int.toNat_natCast, Int.toNat_zero]; exact rfl) | exact rfl) (by omega)) ?_
          | refine ax_q (q_loadi_ptr rfl rfl rfl rfl (by first | assumption | omega)) ?_
          | refine ax_q (q_loads_ptr rfl rfl rfl rfl (by first | assumption | omega)) ?_
          | refine ax_q (q_loadf_ptr rfl rfl rfl rfl rfl (by first | assumption | omega)) ?_
          | refine ax_q (q_quo rfl rfl (by omega)) ?_
          | refine ax_q (q_rem rfl rfl (by omega)) ?_
          | refine ax_q (q_slice_ro rfl rfl rfl rfl rfl rfl rfl (by omega)) ?_
          | refine ax_q (q_slice_sl rfl rfl rfl rfl rfl rfl rfl rfl (by omega)) ?_
          | refine ax_q (q_eqnilnil rfl rfl rfl) ?_
          | refine ax_q (q_build rfl rfl rfl rfl rfl rfl) ?_
          | refine ax_store rfl rfl rfl rfl rfl rfl rfl (by first | assumption | (show _ < List.length _; first | assumption | omega)) ?_
          | refine ax_buildSliceRo rfl rfl rfl rfl rfl rfl rfl rfl rfl rfl rfl ?_)
        refine ax_ret hR rfl ?_
        have : l.any outC = true := any_of_getD hk' (decide_eq_true (.inl h2))
        unfold checkCountsF; rw [if_neg (by omega), if_pos this]; rfl
      · repeat (first
          | refine ax_q (q_move rfl) ?_
          | refine ax_q (q_assign rfl) ?_
          | refine ax_q (q_loadi_rp rfl rfl rfl) ?_
          | refine ax_ops_nil ?_
          | refine ax_post_code ?_
          | refine ax_seq ?_
          | refine ax_region rfl ?_
          | refine ax_guard rfl rfl ?_
          | refine ax_skip_undef rfl rfl ?_
          | refine ax_skip_not rfl rfl rfl ?_
          | refine ax_guard_not rfl rfl rfl ?_
          | refine ax_cond_true rfl ?_
          | refine ax_cond_false rfl ?_
          | refine ax_post_blk ?_
          | refine ax_post_scope ?_
          | refine ax_post_any ?_
          | refine ax_block ?_
          | refine ax_scope ?_
          | refine ax_skip ?_
          | refine ax_label ?_
          | refine ax_exit ?_
          | refine ax_exit_here ?_
          | refine ax_exit_code ?_
          | refine ax_exit_inv ?_
          | refine ax_exit_scope ?_
          | refine ax_exit_on rfl ?_
          | refine ax_return ?_
          | refine ax_ret_code ?_
          | refine ax_ret_blk ?_
          | refine ax_ret_scope ?_
          | refine ax_ret_inv ?_
          | refine ax_q (q_loads_rp rfl rfl rfl) ?_
          | refine ax_q (q_loadf_rp rfl rfl rfl rfl) ?_
          | refine ax_q (q_loadb_ptr rfl rfl rfl rfl rfl) ?_
          | refine ax_q (q_lss rfl rfl) ?_
          | refine ax_q (q_eql rfl rfl) ?_
          | refine ax_q (q_neq rfl rfl) ?_
          | refine ax_q (q_leq rfl rfl) ?_
          | refine ax_q (q_gtr rfl rfl) ?_
          | refine ax_q (q_geq rfl rfl) ?_
          | refine ax_q (q_not rfl) ?_
          | refine ax_q (q_pick rfl rfl) ?_
          | refine ax_q (q_extract rfl rfl) ?_
          | refine ax_q (q_len rfl rfl rfl) ?_
          | refine ax_q (q_lenstr rfl rfl) ?_
          | refine ax_q (q_add rfl rfl (by omega)) ?_
          | refine ax_q (q_sub rfl rfl (by omega)) ?_
          | refine ax_q (q_index_ro' rfl rfl rfl rfl (by first | (simp only [Nat.zero_add, Int.toNat_natCast, Int.toNat_zero]; exact rfl) | exact rfl) (by omega)) ?_
          | refine ax_q (q_index_sl' rfl rfl rfl rfl rfl (by first | (simp only [Nat.zero_add, Int.toNat_natCast, Int.toNat_zero]; exact rfl) | exact rfl) (by omega)) ?_
          | refine ax_q (q_loadi_ptr rfl rfl rfl rfl (by first | assumption | omega)) ?_
          | refine ax_q (q_loads_ptr rfl rfl rfl rfl (by first | assumption | omega)) ?_
          | refine ax_q (q_loadf_ptr rfl rfl rfl rfl rfl (by first | assumption | omega)) ?_
          | refine ax_q (q_quo rfl rfl (by omega)) ?_
          | refine ax_q (q_rem rfl rfl (by omega)) ?_
          | refine ax_q (q_slice_ro rfl rfl rfl rfl rfl rfl rfl (by omega)) ?_
          | refine ax_q (q_slice_sl rfl rfl rfl rfl rfl rfl rfl rfl (by omega)) ?_
          | refine ax_q (q_eqnilnil rfl rfl rfl) ?_
          | refine ax_q (q_build rfl rfl rfl rfl rfl rfl) ?_
          | refine ax_store rfl rfl rfl rfl rfl rfl rfl (by first | assumption | (show _ < List.length _; first | assumption | omega)) ?_
          | refine ax_buildSliceRo rfl rfl rfl rfl rfl rfl rfl rfl rfl rfl rfl ?_)
        refine ax_cond_dec rfl (fun h3 => ?_) (fun h3 => ?_)
        · repeat (first
            | refine ax_q (q_move rfl) ?_
            | refine ax_q (q_assign rfl) ?_
            | refine ax_q (q_loadi_rp rfl rfl rfl) ?_
            | refine ax_ops_nil ?_
            | refine ax_post_code ?_
            | refine ax_seq ?_
            | refine ax_region rfl ?_
            | refine ax_guard rfl rfl ?_
            | refine ax_skip_undef rfl rfl ?_
            | refine ax_skip_not rfl rfl rfl ?_
            | refine ax_guard_not rfl rfl rfl ?_
            | refine ax_cond_true rfl ?_
            | refine ax_cond_false rfl ?_
            | refine ax_post_blk ?_
            | refine ax_post_scope ?_
            | refine ax_post_any ?_
            | refine ax_block ?_
            | refine ax_scope ?_
            | refine ax_skip ?_
            | refine ax_label ?_
            | refine ax_exit ?_
            | refine ax_exit_here ?_
            | refine ax_exit_code ?_
            | refine ax_exit_inv ?_
            | refine ax_exit_scope ?_
            | refine ax_exit_on rfl ?_
            | refine ax_return ?_
            | refine ax_ret_code ?_
            | refine ax_ret_blk ?_
            | refine ax_ret_scope ?_
            | refine ax_ret_inv ?_
            | refine ax_q (q_loads_rp rfl rfl rfl) ?_
            | refine ax_q (q_loadf_rp rfl rfl rfl rfl) ?_
            | refine ax_q (q_loadb_ptr rfl rfl rfl rfl rfl) ?_
            | refine ax_q (q_lss rfl rfl) ?_
            | refine ax_q (q_eql rfl rfl) ?_
            | refine ax_q (q_neq rfl rfl) ?_
            | refine ax_q (q_leq rfl rfl) ?_
            | refine ax_q (q_gtr rfl rfl) ?_
            | refine ax_q (q_geq rfl rfl) ?_
            | refine ax_q (q_not rfl) ?_
            | refine ax_q (q_pick rfl rfl) ?_
            | refine ax_q (q_extract rfl rfl) ?_
            | refine ax_q (q_len rfl rfl rfl) ?_
            | refine ax_q (q_lenstr rfl rfl) ?_
            | refine ax_q (q_add rfl rfl (by omega)) ?_
            | refine ax_q (q_sub rfl rfl (by omega)) ?_
            | refine ax_q (q_index_ro' rfl rfl rfl rfl (by first | (simp only [Nat.zero_add, Int.toNat_natCast, Int.toNat_zero]; exact rfl) | exact rfl) (by omega)) ?_
            | refine ax_q (q_index_sl' rfl rfl rfl rfl rfl (by first | (simp only [Nat.zero_add, Int.toNat_natCast, Int.toNat_zero]; exact rfl) | exact rfl) (by omega)) ?_
            | refine ax_q (q_loadi_ptr rfl rfl rfl rfl (by first | assumption | omega)) ?_
            | refine ax_q (q_loads_ptr rfl rfl rfl rfl (by first | assumption | omega)) ?_
            | refine ax_q (q_loadf_ptr rfl rfl rfl rfl rfl (by first | assumption | omega)) ?_
            | refine ax_q (q_quo rfl rfl (by omega)) ?_
            | refine ax_q (q_rem rfl rfl (by omega)) ?_
            | refine ax_q (q_slice_ro rfl rfl rfl rfl rfl rfl rfl (by omega)) ?_
            | refine ax_q (q_slice_sl rfl rfl rfl rfl rfl rfl rfl rfl (by omega)) ?_
            | refine ax_q (q_eqnilnil rfl rfl rfl) ?_
            | refine ax_q (q_build rfl rfl rfl rfl rfl rfl) ?_
            | refine ax_store rfl rfl rfl rfl rfl rfl rfl (by first | assumption | (show _ < List.length _; first | assumption | omega)) ?_
            | refine ax_buildSliceRo rfl rfl rfl rfl rfl rfl rfl rfl rfl rfl rfl ?_)
          refine ax_ret hR rfl ?_
          have : l.any outC = true := any_of_getD hk' (decide_eq_true (.inr h3))
          unfold checkCountsF; rw [if_neg (by omega), if_pos this]; rfl
        · repeat (first
            | refine ax_q (q_move rfl) ?_
            | refine ax_q (q_assign rfl) ?_
            | refine ax_q (q_loadi_rp rfl rfl rfl) ?_
            | refine ax_ops_nil ?_
            | refine ax_post_code ?_
            | refine ax_seq ?_
            | refine ax_region rfl ?_
            | refine ax_guard rfl rfl ?_
            | refine ax_skip_undef rfl rfl ?_
            | refine ax_skip_not rfl rfl rfl ?_
            | refine ax_guard_not rfl rfl rfl ?_
            | refine ax_cond_true rfl ?_
            | refine ax_cond_false rfl ?_
            | refine ax_post_blk ?_
            | refine ax_post_scope ?_
            | refine ax_post_any ?_
            | refine ax_block ?_
            | refine ax_scope ?_
            | refine ax_skip ?_
            | refine ax_label ?_
            | refine ax_exit ?_
            | refine ax_exit_here ?_
            | refine ax_exit_code ?_
            | refine ax_exit_inv ?_
            | refine ax_exit_scope ?_
            | refine ax_exit_on rfl ?_
            | refine ax_return ?_
            | refine ax_ret_code ?_
            | refine ax_ret_blk ?_
            | refine ax_ret_scope ?_
            | refine ax_ret_inv ?_
            | refine ax_q (q_loads_rp rfl rfl rfl) ?_
            | refine ax_q (q_loadf_rp rfl rfl rfl rfl) ?_
            | refine ax_q (q_loadb_ptr rfl rfl rfl rfl rfl) ?_
            | refine ax_q (q_lss rfl rfl) ?_
            | refine ax_q (q_eql rfl rfl) ?_
            | refine ax_q (q_neq rfl rfl) ?_
            | refine ax_q (q_leq rfl rfl) ?_
            | refine ax_q (q_gtr rfl rfl) ?_
            | refine ax_q (q_geq rfl rfl) ?_
            | refine ax_q (q_not rfl) ?_
            | refine ax_q (q_pick rfl rfl) ?_
            | refine ax_q (q_extract rfl rfl) ?_
            | refine ax_q (q_len rfl rfl rfl) ?_
            | refine ax_q (q_lenstr rfl rfl) ?_
            | refine ax_q (q_add rfl rfl (by omega)) ?_
            | refine ax_q (q_sub rfl rfl (by omega)) ?_
            | refine ax_q (q_index_ro' rfl rfl rfl rfl (by first | (simp only [Nat.zero_add, Int.toNat_natCast, Int.toNat_zero]; exact rfl) | exact rfl) (by omega)) ?_
            | refine ax_q (q_index_sl' rfl rfl rfl rfl rfl (by first | (simp only [Nat.zero_add, Int.toNat_natCast, Int.toNat_zero]; exact rfl) | exact rfl) (by omega)) ?_
            | refine ax_q (q_loadi_ptr rfl rfl rfl rfl (by first | assumption | omega)) ?_
            | refine ax_q (q_loads_ptr rfl rfl rfl rfl (by first | assumption | omega)) ?_
            | refine ax_q (q_loadf_ptr rfl rfl rfl rfl rfl (by first | assumption | omega)) ?_
            | refine ax_q (q_quo rfl rfl (by omega)) ?_
            | refine ax_q (q_rem rfl rfl (by omega)) ?_
            | refine ax_q (q_slice_ro rfl rfl rfl rfl rfl rfl rfl (by omega)) ?_
            | refine ax_q (q_slice_sl rfl rfl rfl rfl rfl rfl rfl rfl (by omega)) ?_
            | refine ax_q (q_eqnilnil rfl rfl rfl) ?_
            | refine ax_q (q_build rfl rfl rfl rfl rfl rfl) ?_
            | refine ax_store rfl rfl rfl rfl rfl rfl rfl (by first | assumption | (show _ < List.length _; first | assumption | omega)) ?_
            | refine ax_buildSliceRo rfl rfl rfl rfl rfl rfl rfl rfl rfl rfl rfl ?_)
          refine ax_post_inv ⟨k + 1, ⟨by omega, ?_, by omega, by omega⟩, by omega, ⟨rfl, rfl, rfl, rfl, by rw [hsum]; rfl, trivial⟩, rfl⟩
          rw [hanys, hany]; exact decide_eq_false (by omega)
    · have hk' : k = l.length := by omega
      subst hk'
      simp only [List.take_length] at *
      repeat (first
        | refine ax_q (q_move rfl) ?_
        | refine ax_q (q_assign rfl) ?_
        | refine ax_q (q_loadi_rp rfl rfl rfl) ?_
        | refine ax_ops_nil ?_
        | refine ax_post_code ?_
        | refine ax_seq ?_
        | refine ax_region rfl ?_
        | refine ax_guard rfl rfl ?_
        | refine ax_skip_undef rfl rfl ?_
        | refine ax_skip_not rfl rfl rfl ?_
        | refine ax_guard_not rfl rfl rfl ?_
        | refine ax_cond_true rfl ?_
        | refine ax_cond_false rfl ?_
        | refine ax_post_blk ?_
        | refine ax_post_scope ?_
        | refine ax_post_any ?_
        | refine ax_block ?_
        | refine ax_scope ?_
        | refine ax_skip ?_
        | refine ax_label ?_
        | refine ax_exit ?_
        | refine ax_exit_here ?_
        | refine ax_exit_code ?_
        | refine ax_exit_inv ?_
        | refine ax_exit_scope ?_
        | refine ax_exit_on rfl ?_
        | refine ax_return ?_
        | refine ax_ret_code ?_
        | refine ax_ret_blk ?_
        | refine ax_ret_scope ?_
        | refine ax_ret_inv ?_
        | refine ax_q (q_loads_rp rfl rfl rfl) ?_
        | refine ax_q (q_loadf_rp rfl rfl rfl rfl) ?_
        | refine ax_q (q_loadb_ptr rfl rfl rfl rfl rfl) ?_
        | refine ax_q (q_lss rfl rfl) ?_
        | refine ax_q (q_eql rfl rfl) ?_
        | refine ax_q (q_neq rfl rfl) ?_
        | refine ax_q (q_leq rfl rfl) ?_
        | refine ax_q (q_gtr rfl rfl) ?_
        | refine ax_q (q_geq rfl rfl) ?_
        | refine ax_q (q_not rfl) ?_
        | refine ax_q (q_pick rfl rfl) ?_
        | refine ax_q (q_extract rfl rfl) ?_
        | refine ax_q (q_len rfl rfl rfl) ?_
        | refine ax_q (q_lenstr rfl rfl) ?_
        | refine ax_q (q_add rfl rfl (by omega)) ?_
        | refine ax_q (q_sub rfl rfl (by omega)) ?_
        | refine ax_q (q_index_ro' rfl rfl rfl rfl (by first | (simp only [Nat.zero_add, Int.toNat_natCast, Int.toNat_zero]; exact rfl) | exact rfl) (by omega)) ?_
        | refine ax_q (q_index_sl' rfl rfl rfl rfl rfl (by first | (simp only [Nat.zero_add, Int.toNat_natCast, Int.toNat_zero]; exact rfl) | exact rfl) (by omega)) ?_
        | refine ax_q (q_loadi_ptr rfl rfl rfl rfl (by first | assumption | omega)) ?_
        | refine ax_q (q_loads_ptr rfl rfl rfl rfl (by first | assumption | omega)) ?_
        | refine ax_q (q_loadf_ptr rfl rfl rfl rfl rfl (by first | assumption | omega)) ?_
        | refine ax_q (q_quo rfl rfl (by omega)) ?_
        | refine ax_q (q_rem rfl rfl (by omega)) ?_
        | refine ax_q (q_slice_ro rfl rfl rfl rfl rfl rfl rfl (by omega)) ?_
        | refine ax_q (q_slice_sl rfl rfl rfl rfl rfl rfl rfl rfl (by omega)) ?_
        | refine ax_q (q_eqnilnil rfl rfl rfl) ?_
        | refine ax_q (q_build rfl rfl rfl rfl rfl rfl) ?_
        | refine ax_store rfl rfl rfl rfl rfl rfl rfl (by first | assumption | (show _ < List.length _; first | assumption | omega)) ?_
        | refine ax_buildSliceRo rfl rfl rfl rfl rfl rfl rfl rfl rfl rfl rfl ?_)
      refine ax_cond_dec rfl (fun h2 => ?_) (fun h2 => ?_)
      · repeat (first
          | refine ax_q (q_move rfl) ?_
          | refine ax_q (q_assign rfl) ?_
          | refine ax_q (q_loadi_rp rfl rfl rfl) ?_
          | refine ax_ops_nil ?_
          | refine ax_post_code ?_
          | refine ax_seq ?_
          | refine ax_region rfl ?_
          | refine ax_guard rfl rfl ?_
          | refine ax_skip_undef rfl rfl ?_
          | refine ax_skip_not rfl rfl rfl ?_
          | refine ax_guard_not rfl rfl rfl ?_
          | refine ax_cond_true rfl ?_
          | refine ax_cond_false rfl ?_
          | refine ax_post_blk ?_
          | refine ax_post_scope ?_
          | refine ax_post_any ?_
          | refine ax_block ?_
          | refine ax_scope ?_
          | refine ax_skip ?_
          | refine ax_label ?_
          | refine ax_exit ?_
          | refine ax_exit_here ?_
          | refine ax_exit_code ?_
          | refine ax_exit_inv ?_
          | refine ax_exit_scope ?_
          | refine ax_exit_on rfl ?_
          | refine ax_return ?_
          | refine ax_ret_code ?_
          | refine ax_ret_blk ?_
          | refine ax_ret_scope ?_
          | refine ax_ret_inv ?_
          | refine ax_q (q_loads_rp rfl rfl rfl) ?_
          | refine ax_q (q_loadf_rp rfl rfl rfl rfl) ?_
          | refine ax_q (q_loadb_ptr rfl rfl rfl rfl rfl) ?_
          | refine ax_q (q_lss rfl rfl) ?_
          | refine ax_q (q_eql rfl rfl) ?_
          | refine ax_q (q_neq rfl rfl) ?_
          | refine ax_q (q_leq rfl rfl) ?_
          | refine ax_q (q_gtr rfl rfl) ?_
          | refine ax_q (q_geq rfl rfl) ?_
          | refine ax_q (q_not rfl) ?_
          | refine ax_q (q_pick rfl rfl) ?_
          | refine ax_q (q_extract rfl rfl) ?_
          | refine ax_q (q_len rfl rfl rfl) ?_
          | refine ax_q (q_lenstr rfl rfl) ?_
          | refine ax_q (q_add rfl rfl (by omega)) ?_
          | refine ax_q (q_sub rfl rfl (by omega)) ?_
          | refine ax_q (q_index_ro' rfl rfl rfl rfl (by first | (simp only [Nat.zero_add, Int.toNat_natCast, Int.toNat_zero]; exact rfl) | exact rfl) (by omega)) ?_
          | refine ax_q (q_index_sl' rfl rfl rfl rfl rfl (by first | (simp only [Nat.zero_add, Int.toNat_natCast, Int.toNat_zero]; exact rfl) | exact rfl) (by omega)) ?_
          | refine ax_q (q_loadi_ptr rfl rfl rfl rfl (by first | assumption | omega)) ?_
          | refine ax_q (q_loads_ptr rfl rfl rfl rfl (by first | assumption | omega)) ?_
          | refine ax_q (q_loadf_ptr rfl rfl rfl rfl rfl (by first | assumption | omega)) ?_
          | refine ax_q (q_quo rfl rfl (by omega)) ?_
          | refine ax_q (q_rem rfl rfl (by omega)) ?_
          | refine ax_q (q_slice_ro rfl rfl rfl rfl rfl rfl rfl (by omega)) ?_
          | refine ax_q (q_slice_sl rfl rfl rfl rfl rfl rfl rfl rfl (by omega)) ?_
          | refine ax_q (q_eqnilnil rfl rfl rfl) ?_
          | refine ax_q (q_build rfl rfl rfl rfl rfl rfl) ?_
          | refine ax_store rfl rfl rfl rfl rfl rfl rfl (by first | assumption | (show _ < List.length _; first | assumption | omega)) ?_
          | refine ax_buildSliceRo rfl rfl rfl rfl rfl rfl rfl rfl rfl rfl rfl ?_)
        refine ax_ret hR rfl ?_
        unfold checkCountsF; rw [if_neg (by omega), if_neg (by simp [hany]), if_pos (by omega)]; rfl
      · repeat (first
          | refine ax_q (q_move rfl) ?_
          | refine ax_q (q_assign rfl) ?_
          | refine ax_q (q_loadi_rp rfl rfl rfl) ?_
          | refine ax_ops_nil ?_
          | refine ax_post_code ?_
          | refine ax_seq ?_
          | refine ax_region rfl ?_
          | refine ax_guard rfl rfl ?_
          | refine ax_skip_undef rfl rfl ?_
          | refine ax_skip_not rfl rfl rfl ?_
          | refine ax_guard_not rfl rfl rfl ?_
          | refine ax_cond_true rfl ?_
          | refine ax_cond_false rfl ?_
          | refine ax_post_blk ?_
          | refine ax_post_scope ?_
          | refine ax_post_any ?_
          | refine ax_block ?_
          | refine ax_scope ?_
          | refine ax_skip ?_
          | refine ax_label ?_
          | refine ax_exit ?_
          | refine ax_exit_here ?_
          | refine ax_exit_code ?_
          | refine ax_exit_inv ?_
          | refine ax_exit_scope ?_
          | refine ax_exit_on rfl ?_
          | refine ax_return ?_
          | refine ax_ret_code ?_
          | refine ax_ret_blk ?_
          | refine ax_ret_scope ?_
          | refine ax_ret_inv ?_
          | refine ax_q (q_loads_rp rfl rfl rfl) ?_
          | refine ax_q (q_loadf_rp rfl rfl rfl rfl) ?_
          | refine ax_q (q_loadb_ptr rfl rfl rfl rfl rfl) ?_
          | refine ax_q (q_lss rfl rfl) ?_
          | refine ax_q (q_eql rfl rfl) ?_
          | refine ax_q (q_neq rfl rfl) ?_
          | refine ax_q (q_leq rfl rfl) ?_
          | refine ax_q (q_gtr rfl rfl) ?_
          | refine ax_q (q_geq rfl rfl) ?_
          | refine ax_q (q_not rfl) ?_
          | refine ax_q (q_pick rfl rfl) ?_
          | refine ax_q (q_extract rfl rfl) ?_
          | refine ax_q (q_len rfl rfl rfl) ?_
          | refine ax_q (q_lenstr rfl rfl) ?_
          | refine ax_q (q_add rfl rfl (by omega)) ?_
          | refine ax_q (q_sub rfl rfl (by omega)) ?_
          | refine ax_q (q_index_ro' rfl rfl rfl rfl (by first | (simp only [Nat.zero_add, Int.toNat_natCast, Int.toNat_zero]; exact rfl) | exact rfl) (by omega)) ?_
          | refine ax_q (q_index_sl' rfl rfl rfl rfl rfl (by first | (simp only [Nat.zero_add, Int.toNat_natCast, Int.toNat_zero]; exact rfl) | exact rfl) (by omega)) ?_
          | refine ax_q (q_loadi_ptr rfl rfl rfl rfl (by first | assumption | omega)) ?_
          | refine ax_q (q_loads_ptr rfl rfl rfl rfl (by first | assumption | omega)) ?_
          | refine ax_q (q_loadf_ptr rfl rfl rfl rfl rfl (by first | assumption | omega)) ?_
          | refine ax_q (q_quo rfl rfl (by omega)) ?_
          | refine ax_q (q_rem rfl rfl (by omega)) ?_
          | refine ax_q (q_slice_ro rfl rfl rfl rfl rfl rfl rfl (by omega)) ?_
          | refine ax_q (q_slice_sl rfl rfl rfl rfl rfl rfl rfl rfl (by omega)) ?_
          | refine ax_q (q_eqnilnil rfl rfl rfl) ?_
          | refine ax_q (q_build rfl rfl rfl rfl rfl rfl) ?_
          | refine ax_store rfl rfl rfl rfl rfl rfl rfl (by first | assumption | (show _ < List.length _; first | assumption | omega)) ?_
          | refine ax_buildSliceRo rfl rfl rfl rfl rfl rfl rfl rfl rfl rfl rfl ?_)
        refine ax_ret hR rfl ?_
        unfold checkCountsF; rw [if_neg (by omega), if_neg (by simp [hany]), if_neg (by omega)]; rfl
theorem ways (l : List Int) (h0 : ∀ x ∈ l, 0 ≤ x) (hs : l.sum ≤ 16) (hlen : l.length ≤ 1000) : VCall Try.prog 18 [.ro (.ints .i64 l) 0 l.length] (.int .i64 (waysF l)) := by
  refine ACall.value0 (acall_of_ax (P := Try.prog) (fn := Try.f18) rfl rfl (by kernel_rfl) rfl (fun c hR hfix => ?_)) (fix := fun _ => False) (fun _ h => h) rfl rfl
  repeat (first
    | refine ax_q (q_move rfl) ?_
    | refine ax_q (q_assign rfl) ?_
    | refine ax_q (q_loadi_rp rfl rfl rfl) ?_
    | refine ax_ops_nil ?_
    | refine ax_post_code ?_
    | refine ax_seq ?_
    | refine ax_region rfl ?_
    | refine ax_guard rfl rfl ?_
    | refine ax_skip_undef rfl rfl ?_
    | refine ax_skip_not rfl rfl rfl ?_
    | refine ax_guard_not rfl rfl rfl ?_
    | refine ax_cond_true rfl ?_
    | refine ax_cond_false rfl ?_
    | refine ax_post_blk ?_
    | refine ax_post_scope ?_
    | refine ax_post_any ?_
    | refine ax_block ?_
    | refine ax_scope ?_
    | refine ax_skip ?_
    | refine ax_label ?_
    | refine ax_exit ?_
    | refine ax_exit_here ?_
    | refine ax_exit_code ?_
    | refine ax_exit_inv ?_
    | refine ax_exit_scope ?_
    | refine ax_exit_on rfl ?_
    | refine ax_return ?_
    | refine ax_ret_code ?_
    | refine ax_ret_blk ?_
    | refine ax_ret_scope ?_
    | refine ax_ret_inv ?_
    | refine ax_q (q_loads_rp rfl rfl rfl) ?_
    | refine ax_q (q_loadf_rp rfl rfl rfl rfl) ?_
    | refine ax_q (q_loadb_ptr rfl rfl rfl rfl rfl) ?_
    | refine ax_q (q_lss rfl rfl) ?_
    | refine ax_q (q_eql rfl rfl) ?_
    | refine ax_q (q_neq rfl rfl) ?_
    | refine ax_q (q_leq rfl rfl) ?_
    | refine ax_q (q_gtr rfl rfl) ?_
    | refine ax_q (q_geq rfl rfl) ?_
    | refine ax_q (q_not rfl) ?_
    | refine ax_q (q_pick rfl rfl) ?_
    | refine ax_q (q_extract rfl rfl) ?_
    | refine ax_q (q_len rfl rfl rfl) ?_
    | refine ax_q (q_lenstr rfl rfl) ?_
    | refine ax_q (q_add rfl rfl (by omega)) ?_
    | refine ax_q (q_sub rfl rfl (by omega)) ?_
    | refine ax_q (q_index_ro' rfl rfl rfl rfl (by first | (simp only [Nat.zero_add, Int.toNat_natCast, Int.toNat_zero]; exact rfl) | exact rfl) (by omega)) ?_
    | refine ax_q (q_index_sl' rfl rfl rfl rfl rfl (by first | (simp only [Nat.zero_add, Int.toNat_natCast, Int.toNat_zero]; exact rfl) | exact rfl) (by omega)) ?_
    | refine ax_q (q_loadi_ptr rfl rfl rfl rfl (by first | assumption | omega)) ?_
    | refine ax_q (q_loads_ptr rfl rfl rfl rfl (by first | assumption | omega)) ?_
    | refine ax_q (q_loadf_ptr rfl rfl rfl rfl rfl (by first | assumption | omega)) ?_
    | refine ax_q (q_quo rfl rfl (by omega)) ?_
    | refine ax_q (q_rem rfl rfl (by omega)) ?_
    | refine ax_q (q_slice_ro rfl rfl rfl rfl rfl rfl rfl (by omega)) ?_
    | refine ax_q (q_slice_sl rfl rfl rfl rfl rfl rfl rfl rfl (by omega)) ?_
    | refine ax_q (q_eqnilnil rfl rfl rfl) ?_
    | refine ax_q (q_build rfl rfl rfl rfl rfl rfl) ?_
    | refine ax_store rfl rfl rfl rfl rfl rfl rfl (by first | assumption | (show _ < List.length _; first | assumption | omega)) ?_
    | refine ax_buildSliceRo rfl rfl rfl rfl rfl rfl rfl rfl rfl rfl rfl ?_)
  refine ax_loop (ι := Nat) (fun k => [(8, .ro (.ints .i64 l) 0 l.length), (9, .int .i64 (l.length : Nat)), (10, .int .i64 (k : Nat)), (3, .int .i64 (waysS (l.take k)).1), (4, .int .i64 (waysS (l.take k)).2)]) (fun _ => [])
    (fun k => k ≤ l.length) (fun k => l.length - k) 0 ⟨⟨rfl, rfl, rfl, rfl, rfl, trivial⟩, rfl, Nat.zero_le _⟩ ?_
  intro k hk
  repeat (first
    | refine ax_q (q_move rfl) ?_
    | refine ax_q (q_assign rfl) ?_
    | refine ax_q (q_loadi_rp rfl rfl rfl) ?_
    | refine ax_ops_nil ?_
    | refine ax_post_code ?_
    | refine ax_seq ?_
    | refine ax_region rfl ?_
    | refine ax_guard rfl rfl ?_
    | refine ax_skip_undef rfl rfl ?_
    | refine ax_skip_not rfl rfl rfl ?_
    | refine ax_guard_not rfl rfl rfl ?_
    | refine ax_cond_true rfl ?_
    | refine ax_cond_false rfl ?_
    | refine ax_post_blk ?_
    | refine ax_post_scope ?_
    | refine ax_post_any ?_
    | refine ax_block ?_
    | refine ax_scope ?_
    | refine ax_skip ?_
    | refine ax_label ?_
    | refine ax_exit ?_
    | refine ax_exit_here ?_
    | refine ax_exit_code ?_
    | refine ax_exit_inv ?_
    | refine ax_exit_scope ?_
    | refine ax_exit_on rfl ?_
    | refine ax_return ?_
    | refine ax_ret_code ?_
    | refine ax_ret_blk ?_
    | refine ax_ret_scope ?_
    | refine ax_ret_inv ?_
    | refine ax_q (q_loads_rp rfl rfl rfl) ?_
    | refine ax_q (q_loadf_rp rfl rfl rfl rfl) ?_
    | refine ax_q (q_loadb_ptr rfl rfl rfl rfl rfl) ?_
    | refine ax_q (q_lss rfl rfl) ?_
    | refine ax_q (q_eql rfl rfl) ?_
    | refine ax_q (q_neq rfl rfl) ?_
    | refine ax_q (q_leq rfl rfl) ?_
    | refine ax_q (q_gtr rfl rfl) ?_
    | refine ax_q (q_geq rfl rfl) ?_
    | refine ax_q (q_not rfl) ?_
    | refine ax_q (q_pick rfl rfl) ?_
    | refine ax_q (q_extract rfl rfl) ?_
    | refine ax_q (q_len rfl rfl rfl) ?_
    | refine ax_q (q_lenstr rfl rfl) ?_
    | refine ax_q (q_add rfl rfl (by omega)) ?_
    | refine ax_q (q_sub rfl rfl (by omega)) ?_
    | refine ax_q (q_index_ro' rfl rfl rfl rfl (by first | (simp only [Nat.zero_add, Int.toNat_natCast, Int.toNat_zero]; exact rfl) | exact rfl) (by omega)) ?_
    | refine ax_q (q_index_sl' rfl rfl rfl rfl rfl (by first | (simp only [Nat.zero_add, Int.toNat_natCast, Int.toNat_zero]; exact rfl) | exact rfl) (by omega)) ?_
    | refine ax_q (q_loadi_ptr rfl rfl rfl rfl (by first | assumption | omega)) ?_
    | refine ax_q (q_loads_ptr rfl rfl rfl rfl (by first | assumption | omega)) ?_
    | refine ax_q (q_loadf_ptr rfl rfl rfl rfl rfl (by first | assumption | omega)) ?_
    | refine ax_q (q_quo rfl rfl (by omega)) ?_
    | refine ax_q (q_rem rfl rfl (by omega)) ?_
    | refine ax_q (q_slice_ro rfl rfl rfl rfl rfl rfl rfl (by omega)) ?_
    | refine ax_q (q_slice_sl rfl rfl rfl rfl rfl rfl rfl rfl (by omega)) ?_
    | refine ax_q (q_eqnilnil rfl rfl rfl) ?_
    | refine ax_q (q_build rfl rfl rfl rfl rfl rfl) ?_
    | refine ax_store rfl rfl rfl rfl rfl rfl rfl (by first | assumption | (show _ < List.length _; first | assumption | omega)) ?_
    | refine ax_buildSliceRo rfl rfl rfl rfl rfl rfl rfl rfl rfl rfl rfl ?_)
  refine ax_cond_dec rfl (fun h => ?_) (fun h => ?_)
  · have hk' : k < l.length := by omega
    obtain ⟨n, hn, hw⟩ := waysS_ok l h0 k hk
    have hx := h0 _ (getD_mem 0 hk')
    have hsum := sum_take_succ l k hk'
    have hle := sum_take_le l h0 (k + 1)
    have hnext : waysS (l.take (k + 1)) = wrow (waysS (l.take k)) (l.getD k 0) := by
      unfold waysS; rw [take_succ_getD l 0 k hk', List.foldl_append]; rfl
    generalize waysS (l.take k) = s at hw hnext ⊢
    repeat (first
      | refine ax_q (q_move rfl) ?_
      | refine ax_q (q_assign rfl) ?_
      | refine ax_q (q_loadi_rp rfl rfl rfl) ?_
      | refine ax_ops_nil ?_
      | refine ax_post_code ?_
      | refine ax_seq ?_
      | refine ax_region rfl ?_
      | refine ax_guard rfl rfl ?_
      | refine ax_skip_undef rfl rfl ?_
      | refine ax_skip_not rfl rfl rfl ?_
      | refine ax_guard_not rfl rfl rfl ?_
      | refine ax_cond_true rfl ?_
      | refine ax_cond_false rfl ?_
      | refine ax_post_blk ?_
      | refine ax_post_scope ?_
      | refine ax_post_any ?_
      | refine ax_block ?_
      | refine ax_scope ?_
      | refine ax_skip ?_
      | refine ax_label ?_
      | refine ax_exit ?_
      | refine ax_exit_here ?_
      | refine ax_exit_code ?_
      | refine ax_exit_inv ?_
      | refine ax_exit_scope ?_
      | refine ax_exit_on rfl ?_
      | refine ax_return ?_
      | refine ax_ret_code ?_
      | refine ax_ret_blk ?_
      | refine ax_ret_scope ?_
      | refine ax_ret_inv ?_
      | refine ax_q (q_loads_rp rfl rfl rfl) ?_
      | refine ax_q (q_loadf_rp rfl rfl rfl rfl) ?_
      | refine ax_q (q_loadb_ptr rfl rfl rfl rfl rfl) ?_
      | refine ax_q (q_lss rfl rfl) ?_
      | refine ax_q (q_eql rfl rfl) ?_
      | refine ax_q (q_neq rfl rfl) ?_
      | refine ax_q (q_leq rfl rfl) ?_
      | refine ax_q (q_gtr rfl rfl) ?_
      | refine ax_q (q_geq rfl rfl) ?_
      | refine ax_q (q_not rfl) ?_
      | refine ax_q (q_pick rfl rfl) ?_
      | refine ax_q (q_extract rfl rfl) ?_
      | refine ax_q (q_len rfl rfl rfl) ?_
      | refine ax_q (q_lenstr rfl rfl) ?_
      | refine ax_q (q_add rfl rfl (by omega)) ?_
      | refine ax_q (q_sub rfl rfl (by omega)) ?_
      | refine ax_q (q_index_ro' rfl rfl rfl rfl (by first | (simp only [Nat.zero_add, Int.toNat_natCast, Int.toNat_zero]; exact rfl) | exact rfl) (by omega)) ?_
      | refine ax_q (q_index_sl' rfl rfl rfl rfl rfl (by first | (simp only [Nat.zero_add, Int.toNat_natCast, Int.toNat_zero]; exact rfl) | exact rfl) (by omega)) ?_
      | refine ax_q (q_loadi_ptr rfl rfl rfl rfl (by first | assumption | omega)) ?_
      | refine ax_q (q_loads_ptr rfl rfl rfl rfl (by first | assumption | omega)) ?_
      | refine ax_q (q_loadf_ptr rfl rfl rfl rfl rfl (by first | assumption | omega)) ?_
      | refine ax_q (q_quo rfl rfl (by omega)) ?_
      | refine ax_q (q_rem rfl rfl (by omega)) ?_
      | refine ax_q (q_slice_ro rfl rfl rfl rfl rfl rfl rfl (by omega)) ?_
      | refine ax_q (q_slice_sl rfl rfl rfl rfl rfl rfl rfl rfl (by omega)) ?_
      | refine ax_q (q_eqnilnil rfl rfl rfl) ?_
      | refine ax_q (q_build rfl rfl rfl rfl rfl rfl) ?_
      | refine ax_store rfl rfl rfl rfl rfl rfl rfl (by first | assumption | (show _ < List.length _; first | assumption | omega)) ?_
      | refine ax_buildSliceRo rfl rfl rfl rfl rfl rfl rfl rfl rfl rfl rfl ?_)
    refine ax_loop (ι := Nat) (fun j => [(8, .ro (.ints .i64 l) 0 l.length), (9, .int .i64 (l.length : Nat)), (10, .int .i64 (k : Nat)), (14, .int .i64 (l.getD k 0)), (15, .int .i64 (j : Nat)), (3, .int .i64 ((List.range j).foldl wstep s).1), (4, .int .i64 ((List.range j).foldl wstep s).2)]) (fun _ => [])
      (fun j => j ≤ (l.getD k 0).toNat) (fun j => (l.getD k 0).toNat - j) 0 ⟨⟨rfl, rfl, rfl, rfl, rfl, rfl, rfl, trivial⟩, rfl, Nat.zero_le _⟩ ?_
    intro j hj
    repeat (first
      | refine ax_q (q_move rfl) ?_
      | refine ax_q (q_assign rfl) ?_
      | refine ax_q (q_loadi_rp rfl rfl rfl) ?_
      | refine ax_ops_nil ?_
      | refine ax_post_code ?_
      | refine ax_seq ?_
      | refine ax_region rfl ?_
      | refine ax_guard rfl rfl ?_
      | refine ax_skip_undef rfl rfl ?_
      | refine ax_skip_not rfl rfl rfl ?_
      | refine ax_guard_not rfl rfl rfl ?_
      | refine ax_cond_true rfl ?_
      | refine ax_cond_false rfl ?_
      | refine ax_post_blk ?_
      | refine ax_post_scope ?_
      | refine ax_post_any ?_
      | refine ax_block ?_
      | refine ax_scope ?_
      | refine ax_skip ?_
      | refine ax_label ?_
      | refine ax_exit ?_
      | refine ax_exit_here ?_
      | refine ax_exit_code ?_
      | refine ax_exit_inv ?_
      | refine ax_exit_scope ?_
      | refine ax_exit_on rfl ?_
      | refine ax_return ?_
      | refine ax_ret_code ?_
      | refine ax_ret_blk ?_
      | refine ax_ret_scope ?_
      | refine ax_ret_inv ?_
      | refine ax_q (q_loads_rp rfl rfl rfl) ?_
      | refine ax_q (q_loadf_rp rfl rfl rfl rfl) ?_
      | refine ax_q (q_loadb_ptr rfl rfl rfl rfl rfl) ?_
      | refine ax_q (q_lss rfl rfl) ?_
      | refine ax_q (q_eql rfl rfl) ?_
      | refine ax_q (q_neq rfl rfl) ?_
      | refine ax_q (q_leq rfl rfl) ?_
      | refine ax_q (q_gtr rfl rfl) ?_
      | refine ax_q (q_geq rfl rfl) ?_
      | refine ax_q (q_not rfl) ?_
      | refine ax_q (q_pick rfl rfl) ?_
      | refine ax_q (q_extract rfl rfl) ?_
      | refine ax_q (q_len rfl rfl rfl) ?_
      | refine ax_q (q_lenstr rfl rfl) ?_
      | refine ax_q (q_add rfl rfl (by omega)) ?_
      | refine ax_q (q_sub rfl rfl (by omega)) ?_
      | refine ax_q (q_index_ro' rfl rfl rfl rfl (by first | (simp only [Nat.zero_add, Int.toNat_natCast, Int.toNat_zero]; exact rfl) | exact rfl) (by omega)) ?_
      | refine ax_q (q_index_sl' rfl rfl rfl rfl rfl (by first | (simp only [Nat.zero_add, Int.toNat_natCast, Int.toNat_zero]; exact rfl) | exact rfl) (by omega)) ?_
      | refine ax_q (q_loadi_ptr rfl rfl rfl rfl (by first | assumption | omega)) ?_
      | refine ax_q (q_loads_ptr rfl rfl rfl rfl (by first | assumption | omega)) ?_
      | refine ax_q (q_loadf_ptr rfl rfl rfl rfl rfl (by first | assumption | omega)) ?_
      | refine ax_q (q_quo rfl rfl (by omega)) ?_
      | refine ax_q (q_rem rfl rfl (by omega)) ?_
      | refine ax_q (q_slice_ro rfl rfl rfl rfl rfl rfl rfl (by omega)) ?_
      | refine ax_q (q_slice_sl rfl rfl rfl rfl rfl rfl rfl rfl (by omega)) ?_
      | refine ax_q (q_eqnilnil rfl rfl rfl) ?_
      | refine ax_q (q_build rfl rfl rfl rfl rfl rfl) ?_
      | refine ax_store rfl rfl rfl rfl rfl rfl rfl (by first | assumption | (show _ < List.length _; first | assumption | omega)) ?_
      | refine ax_buildSliceRo rfl rfl rfl rfl rfl rfl rfl rfl rfl rfl rfl ?_)
    refine ax_cond_dec rfl (fun h2 => ?_) (fun h2 => ?_)
    · have hwj := hw.range j
      have hm := hwj.mul (by omega)
      have hnj := hwj.num
      have hstep : (List.range (j + 1)).foldl wstep s = wstep ((List.range j).foldl wstep s) j := by rw [List.range_succ, List.foldl_append]; rfl
      generalize (List.range j).foldl wstep s = t at hm hnj hstep ⊢
      repeat (first
        | refine ax_q (q_move rfl) ?_
        | refine ax_q (q_assign rfl) ?_
        | refine ax_q (q_loadi_rp rfl rfl rfl) ?_
        | refine ax_ops_nil ?_
        | refine ax_post_code ?_
        | refine ax_seq ?_
        | refine ax_region rfl ?_
        | refine ax_guard rfl rfl ?_
        | refine ax_skip_undef rfl rfl ?_
        | refine ax_skip_not rfl rfl rfl ?_
        | refine ax_guard_not rfl rfl rfl ?_
        | refine ax_cond_true rfl ?_
        | refine ax_cond_false rfl ?_
        | refine ax_post_blk ?_
        | refine ax_post_scope ?_
        | refine ax_post_any ?_
        | refine ax_block ?_
        | refine ax_scope ?_
        | refine ax_skip ?_
        | refine ax_label ?_
        | refine ax_exit ?_
        | refine ax_exit_here ?_
        | refine ax_exit_code ?_
        | refine ax_exit_inv ?_
        | refine ax_exit_scope ?_
        | refine ax_exit_on rfl ?_
        | refine ax_return ?_
        | refine ax_ret_code ?_
        | refine ax_ret_blk ?_
        | refine ax_ret_scope ?_
        | refine ax_ret_inv ?_
        | refine ax_q (q_loads_rp rfl rfl rfl) ?_
        | refine ax_q (q_loadf_rp rfl rfl rfl rfl) ?_
        | refine ax_q (q_loadb_ptr rfl rfl rfl rfl rfl) ?_
        | refine ax_q (q_lss rfl rfl) ?_
        | refine ax_q (q_eql rfl rfl) ?_
        | refine ax_q (q_neq rfl rfl) ?_
        | refine ax_q (q_leq rfl rfl) ?_
        | refine ax_q (q_gtr rfl rfl) ?_
        | refine ax_q (q_geq rfl rfl) ?_
        | refine ax_q (q_not rfl) ?_
        | refine ax_q (q_pick rfl rfl) ?_
        | refine ax_q (q_extract rfl rfl) ?_
        | refine ax_q (q_len rfl rfl rfl) ?_
        | refine ax_q (q_lenstr rfl rfl) ?_
        | refine ax_q (q_add rfl rfl (by omega)) ?_
        | refine ax_q (q_sub rfl rfl (by omega)) ?_
        | refine ax_q (q_index_ro' rfl rfl rfl rfl (by first | (simp only [Nat.zero_add, Int.toNat_natCast, Int.toNat_zero]; exact rfl) | exact rfl) (by omega)) ?_
        | refine ax_q (q_index_sl' rfl rfl rfl rfl rfl (by first | (simp only [Nat.zero_add, Int.toNat_natCast, Int.toNat_zero]; exact rfl) | exact rfl) (by omega)) ?_
        | refine ax_q (q_loadi_ptr rfl rfl rfl rfl (by first | assumption | omega)) ?_
        | refine ax_q (q_loads_ptr rfl rfl rfl rfl (by first | assumption | omega)) ?_
        | refine ax_q (q_loadf_ptr rfl rfl rfl rfl rfl (by first | assumption | omega)) ?_
        | refine ax_q (q_quo rfl rfl (by omega)) ?_
        | refine ax_q (q_rem rfl rfl (by omega)) ?_
        | refine ax_q (q_slice_ro rfl rfl rfl rfl rfl rfl rfl (by omega)) ?_
        | refine ax_q (q_slice_sl rfl rfl rfl rfl rfl rfl rfl rfl (by omega)) ?_
        | refine ax_q (q_eqnilnil rfl rfl rfl) ?_
        | refine ax_q (q_build rfl rfl rfl rfl rfl rfl) ?_
        | refine ax_store rfl rfl rfl rfl rfl rfl rfl (by first | assumption | (show _ < List.length _; first | assumption | omega)) ?_
        | refine ax_buildSliceRo rfl rfl rfl rfl rfl rfl rfl rfl rfl rfl rfl ?_)
      refine ax_q (q_mul rfl rfl (by omega)) ?_
      repeat (first
        | refine ax_q (q_move rfl) ?_
        | refine ax_q (q_assign rfl) ?_
        | refine ax_q (q_loadi_rp rfl rfl rfl) ?_
        | refine ax_ops_nil ?_
        | refine ax_post_code ?_
        | refine ax_seq ?_
        | refine ax_region rfl ?_
        | refine ax_guard rfl rfl ?_
        | refine ax_skip_undef rfl rfl ?_
        | refine ax_skip_not rfl rfl rfl ?_
        | refine ax_guard_not rfl rfl rfl ?_
        | refine ax_cond_true rfl ?_
        | refine ax_cond_false rfl ?_
        | refine ax_post_blk ?_
        | refine ax_post_scope ?_
        | refine ax_post_any ?_
        | refine ax_block ?_
        | refine ax_scope ?_
        | refine ax_skip ?_
        | refine ax_label ?_
        | refine ax_exit ?_
        | refine ax_exit_here ?_
        | refine ax_exit_code ?_
        | refine ax_exit_inv ?_
        | refine ax_exit_scope ?_
        | refine ax_exit_on rfl ?_
        | refine ax_return ?_
        | refine ax_ret_code ?_
        | refine ax_ret_blk ?_
        | refine ax_ret_scope ?_
        | refine ax_ret_inv ?_
        | refine ax_q (q_loads_rp rfl rfl rfl) ?_
        | refine ax_q (q_loadf_rp rfl rfl rfl rfl) ?_
        | refine ax_q (q_loadb_ptr rfl rfl rfl rfl rfl) ?_
        | refine ax_q (q_lss rfl rfl) ?_
        | refine ax_q (q_eql rfl rfl) ?_
        | refine ax_q (q_neq rfl rfl) ?_
        | refine ax_q (q_leq rfl rfl) ?_
        | refine ax_q (q_gtr rfl rfl) ?_
        | refine ax_q (q_geq rfl rfl) ?_
        | refine ax_q (q_not rfl) ?_
        | refine ax_q (q_pick rfl rfl) ?_
        | refine ax_q (q_extract rfl rfl) ?_
        | refine ax_q (q_len rfl rfl rfl) ?_
        | refine ax_q (q_lenstr rfl rfl) ?_
        | refine ax_q (q_add rfl rfl (by omega)) ?_
        | refine ax_q (q_sub rfl rfl (by omega)) ?_
        | refine ax_q (q_index_ro' rfl rfl rfl rfl (by first | (simp only [Nat.zero_add, Int.toNat_natCast, Int.toNat_zero]; exact rfl) | exact rfl) (by omega)) ?_
        | refine ax_q (q_index_sl' rfl rfl rfl rfl rfl (by first | (simp only [Nat.zero_add, Int.toNat_natCast, Int.toNat_zero]; exact rfl) | exact rfl) (by omega)) ?_
        | refine ax_q (q_loadi_ptr rfl rfl rfl rfl (by first | assumption | omega)) ?_
        | refine ax_q (q_loads_ptr rfl rfl rfl rfl (by first | assumption | omega)) ?_
        | refine ax_q (q_loadf_ptr rfl rfl rfl rfl rfl (by first | assumption | omega)) ?_
        | refine ax_q (q_quo rfl rfl (by omega)) ?_
        | refine ax_q (q_rem rfl rfl (by omega)) ?_
        | refine ax_q (q_slice_ro rfl rfl rfl rfl rfl rfl rfl (by omega)) ?_
        | refine ax_q (q_slice_sl rfl rfl rfl rfl rfl rfl rfl rfl (by omega)) ?_
        | refine ax_q (q_eqnilnil rfl rfl rfl) ?_
        | refine ax_q (q_build rfl rfl rfl rfl rfl rfl) ?_
        | refine ax_store rfl rfl rfl rfl rfl rfl rfl (by first | assumption | (show _ < List.length _; first | assumption | omega)) ?_
        | refine ax_buildSliceRo rfl rfl rfl rfl rfl rfl rfl rfl rfl rfl rfl ?_)
      refine ax_post_inv ⟨j + 1, by omega, by omega, ⟨rfl, rfl, rfl, rfl, rfl, by rw [hstep]; rfl, by rw [hstep]; rfl, trivial⟩, rfl⟩
    · have hj' : j = (l.getD k 0).toNat := by omega
      subst hj'
      repeat (first
        | refine ax_q (q_move rfl) ?_
        | refine ax_q (q_assign rfl) ?_
        | refine ax_q (q_loadi_rp rfl rfl rfl) ?_
        | refine ax_ops_nil ?_
        | refine ax_post_code ?_
        | refine ax_seq ?_
        | refine ax_region rfl ?_
        | refine ax_guard rfl rfl ?_
        | refine ax_skip_undef rfl rfl ?_
        | refine ax_skip_not rfl rfl rfl ?_
        | refine ax_guard_not rfl rfl rfl ?_
        | refine ax_cond_true rfl ?_
        | refine ax_cond_false rfl ?_
        | refine ax_post_blk ?_
        | refine ax_post_scope ?_
        | refine ax_post_any ?_
        | refine ax_block ?_
        | refine ax_scope ?_
        | refine ax_skip ?_
        | refine ax_label ?_
        | refine ax_exit ?_
        | refine ax_exit_here ?_
        | refine ax_exit_code ?_
        | refine ax_exit_inv ?_
        | refine ax_exit_scope ?_
        | refine ax_exit_on rfl ?_
        | refine ax_return ?_
        | refine ax_ret_code ?_
        | refine ax_ret_blk ?_
        | refine ax_ret_scope ?_
        | refine ax_ret_inv ?_
        | refine ax_q (q_loads_rp rfl rfl rfl) ?_
        | refine ax_q (q_loadf_rp rfl rfl rfl rfl) ?_
        | refine ax_q (q_loadb_ptr rfl rfl rfl rfl rfl) ?_
        | refine ax_q (q_lss rfl rfl) ?_
        | refine ax_q (q_eql rfl rfl) ?_
        | refine ax_q (q_neq rfl rfl) ?_
        | refine ax_q (q_leq rfl rfl) ?_
        | refine ax_q (q_gtr rfl rfl) ?_
        | refine ax_q (q_geq rfl rfl) ?_
        | refine ax_q (q_not rfl) ?_
        | refine ax_q (q_pick rfl rfl) ?_
        | refine ax_q (q_extract rfl rfl) ?_
        | refine ax_q (q_len rfl rfl rfl) ?_
        | refine ax_q (q_lenstr rfl rfl) ?_
        | refine ax_q (q_add rfl rfl (by omega)) ?_
        | refine ax_q (q_sub rfl rfl (by omega)) ?_
        | refine ax_q (q_index_ro' rfl rfl rfl rfl (by first | (simp only [Nat.zero_add, Int.toNat_natCast, Int.toNat_zero]; exact rfl) | exact rfl) (by omega)) ?_
        | refine ax_q (q_index_sl' rfl rfl rfl rfl rfl (by first | (simp only [Nat.zero_add, Int.toNat_natCast, Int.toNat_zero]; exact rfl) | exact rfl) (by omega)) ?_
        | refine ax_q (q_loadi_ptr rfl rfl rfl rfl (by first | assumption | omega)) ?_
        | refine ax_q (q_loads_ptr rfl rfl rfl rfl (by first | assumption | omega)) ?_
        | refine ax_q (q_loadf_ptr rfl rfl rfl rfl rfl (by first | assumption | omega)) ?_
        | refine ax_q (q_quo rfl rfl (by omega)) ?_
        | refine ax_q (q_rem rfl rfl (by omega)) ?_
        | refine ax_q (q_slice_ro rfl rfl rfl rfl rfl rfl rfl (by omega)) ?_
        | refine ax_q (q_slice_sl rfl rfl rfl rfl rfl rfl rfl rfl (by omega)) ?_
        | refine ax_q (q_eqnilnil rfl rfl rfl) ?_
        | refine ax_q (q_build rfl rfl rfl rfl rfl rfl) ?_
        | refine ax_store rfl rfl rfl rfl rfl rfl rfl (by first | assumption | (show _ < List.length _; first | assumption | omega)) ?_
        | refine ax_buildSliceRo rfl rfl rfl rfl rfl rfl rfl rfl rfl rfl rfl ?_)
      refine ax_post_inv ⟨k + 1, by omega, by omega, ⟨rfl, rfl, rfl, by rw [hnext]; rfl, by rw [hnext]; rfl, trivial⟩, rfl⟩
  · have hk' : k = l.length := by omega
    subst hk'
    repeat (first
      | refine ax_q (q_move rfl) ?_
      | refine ax_q (q_assign rfl) ?_
      | refine ax_q (q_loadi_rp rfl rfl rfl) ?_
      | refine ax_ops_nil ?_
      | refine ax_post_code ?_
      | refine ax_seq ?_
      | refine ax_region rfl ?_
      | refine ax_guard rfl rfl ?_
      | refine ax_skip_undef rfl rfl ?_
      | refine ax_skip_not rfl rfl rfl ?_
      | refine ax_guard_not rfl rfl rfl ?_
      | refine ax_cond_true rfl ?_
      | refine ax_cond_false rfl ?_
      | refine ax_post_blk ?_
      | refine ax_post_scope ?_
      | refine ax_post_any ?_
      | refine ax_block ?_
      | refine ax_scope ?_
      | refine ax_skip ?_
      | refine ax_label ?_
      | refine ax_exit ?_
      | refine ax_exit_here ?_
      | refine ax_exit_code ?_
      | refine ax_exit_inv ?_
      | refine ax_exit_scope ?_
      | refine ax_exit_on rfl ?_
      | refine ax_return ?_
      | refine ax_ret_code ?_
      | refine ax_ret_blk ?_
      | refine ax_ret_scope ?_
      | refine ax_ret_inv ?_
      | refine ax_q (q_loads_rp rfl rfl rfl) ?_
      | refine ax_q (q_loadf_rp rfl rfl rfl rfl) ?_
      | refine ax_q (q_loadb_ptr rfl rfl rfl rfl rfl) ?_
      | refine ax_q (q_lss rfl rfl) ?_
      | refine ax_q (q_eql rfl rfl) ?_
      | refine ax_q (q_neq rfl rfl) ?_
      | refine ax_q (q_leq rfl rfl) ?_
      | refine ax_q (q_gtr rfl rfl) ?_
      | refine ax_q (q_geq rfl rfl) ?_
      | refine ax_q (q_not rfl) ?_
      | refine ax_q (q_pick rfl rfl) ?_
      | refine ax_q (q_extract rfl rfl) ?_
      | refine ax_q (q_len rfl rfl rfl) ?_
      | refine ax_q (q_lenstr rfl rfl) ?_
      | refine ax_q (q_add rfl rfl (by omega)) ?_
      | refine ax_q (q_sub rfl rfl (by omega)) ?_
      | refine ax_q (q_index_ro' rfl rfl rfl rfl (by first | (simp only [Nat.zero_add, Int.toNat_natCast, Int.toNat_zero]; exact rfl) | exact rfl) (by omega)) ?_
      | refine ax_q (q_index_sl' rfl rfl rfl rfl rfl (by first | (simp only [Nat.zero_add, Int.toNat_natCast, Int.toNat_zero]; exact rfl) | exact rfl) (by omega)) ?_
      | refine ax_q (q_loadi_ptr rfl rfl rfl rfl (by first | assumption | omega)) ?_
      | refine ax_q (q_loads_ptr rfl rfl rfl rfl (by first | assumption | omega)) ?_
      | refine ax_q (q_loadf_ptr rfl rfl rfl rfl rfl (by first | assumption | omega)) ?_
      | refine ax_q (q_quo rfl rfl (by omega)) ?_
      | refine ax_q (q_rem rfl rfl (by omega)) ?_
      | refine ax_q (q_slice_ro rfl rfl rfl rfl rfl rfl rfl (by omega)) ?_
      | refine ax_q (q_slice_sl rfl rfl rfl rfl rfl rfl rfl rfl (by omega)) ?_
      | refine ax_q (q_eqnilnil rfl rfl rfl) ?_
      | refine ax_q (q_build rfl rfl rfl rfl rfl rfl) ?_
      | refine ax_store rfl rfl rfl rfl rfl rfl rfl (by first | assumption | (show _ < List.length _; first | assumption | omega)) ?_
      | refine ax_buildSliceRo rfl rfl rfl rfl rfl rfl rfl rfl rfl rfl rfl ?_)
    refine ax_ret hR rfl ?_
    simp only [tupOf, List.take_length]
    rfl
theorem indexFuncI (l : List Int) (g : FuncId) (caps : List AV) (p : Int → Bool) (hc : noRef.noRefs caps = true) (hlen : l.length ≤ 9223372036854775807) (hp : ∀ x ∈ l, VCall Try.prog g ([.int .i64 x] ++ caps) (.bool (p x))) :
    VCall Try.prog 28 [.ro (.ints .i64 l) 0 l.length, .fn g caps] (.int .i64 (idxF p l)) := by
  refine ACall.value0 (acall_of_ax (P := Try.prog) (fn := Try.f28) rfl rfl (by kernel_rfl) rfl (fun c hR hfix => ?_)) (fix := fun _ => False) (fun _ h => h) (by simp [noRef.noRefs, noRef, hc]) rfl
  repeat (first
    | refine ax_q (q_move rfl) ?_
    | refine ax_q (q_assign rfl) ?_
    | refine ax_q (q_loadi_rp rfl rfl rfl) ?_
    | refine ax_ops_nil ?_
    | refine ax_post_code ?_
    | refine ax_seq ?_
    | refine ax_region rfl ?_
    | refine ax_guard rfl rfl ?_
    | refine ax_skip_undef rfl rfl ?_
    | refine ax_skip_not rfl rfl rfl ?_
    | refine ax_guard_not rfl rfl rfl ?_
    | refine ax_cond_true rfl ?_
    | refine ax_cond_false rfl ?_
    | refine ax_post_blk ?_
    | refine ax_post_scope ?_
    | refine ax_post_any ?_
    | refine ax_block ?_
    | refine ax_scope ?_
    | refine ax_skip ?_
    | refine ax_label ?_
    | refine ax_exit ?_
    | refine ax_exit_here ?_
    | refine ax_exit_code ?_
    | refine ax_exit_inv ?_
    | refine ax_exit_scope ?_
    | refine ax_exit_on rfl ?_
    | refine ax_return ?_
    | refine ax_ret_code ?_
    | refine ax_ret_blk ?_
    | refine ax_ret_scope ?_
    | refine ax_ret_inv ?_
    | refine ax_q (q_loads_rp rfl rfl rfl) ?_
    | refine ax_q (q_loadf_rp rfl rfl rfl rfl) ?_
    | refine ax_q (q_loadb_ptr rfl rfl rfl rfl rfl) ?_
    | refine ax_q (q_lss rfl rfl) ?_
    | refine ax_q (q_eql rfl rfl) ?_
    | refine ax_q (q_neq rfl rfl) ?_
    | refine ax_q (q_leq rfl rfl) ?_
    | refine ax_q (q_gtr rfl rfl) ?_
    | refine ax_q (q_geq rfl rfl) ?_
    | refine ax_q (q_not rfl) ?_
    | refine ax_q (q_pick rfl rfl) ?_
    | refine ax_q (q_extract rfl rfl) ?_
    | refine ax_q (q_len rfl rfl rfl) ?_
    | refine ax_q (q_lenstr rfl rfl) ?_
    | refine ax_q (q_add rfl rfl (by omega)) ?_
    | refine ax_q (q_sub rfl rfl (by omega)) ?_
    | refine ax_q (q_index_ro' rfl rfl rfl rfl (by first | (simp only [Nat.zero_add, Int.toNat_natCast, Int.toNat_zero]; exact rfl) | exact rfl) (by omega)) ?_
    | refine ax_q (q_index_sl' rfl rfl rfl rfl rfl (by first | (simp only [Nat.zero_add, Int.toNat_natCast, Int.toNat_zero]; exact rfl) | exact rfl) (by omega)) ?_
    | refine ax_q (q_loadi_ptr rfl rfl rfl rfl (by first | assumption | omega)) ?_
    | refine ax_q (q_loads_ptr rfl rfl rfl rfl (by first | assumption | omega)) ?_
    | refine ax_q (q_loadf_ptr rfl rfl rfl rfl rfl (by first | assumption | omega)) ?_
    | refine ax_q (q_quo rfl rfl (by omega)) ?_
    | refine ax_q (q_rem rfl rfl (by omega)) ?_
    | refine ax_q (q_slice_ro rfl rfl rfl rfl rfl rfl rfl (by omega)) ?_
    | refine ax_q (q_slice_sl rfl rfl rfl rfl rfl rfl rfl rfl (by omega)) ?_
    | refine ax_q (q_eqnilnil rfl rfl rfl) ?_
    | refine ax_q (q_build rfl rfl rfl rfl rfl rfl) ?_
    | refine ax_store rfl rfl rfl rfl rfl rfl rfl (by first | assumption | (show _ < List.length _; first | assumption | omega)) ?_
    | refine ax_buildSliceRo rfl rfl rfl rfl rfl rfl rfl rfl rfl rfl rfl ?_)
  refine ax_loop (ι := Nat) (fun k => [(0, .ro (.ints .i64 l) 0 l.length), (1, .fn g caps), (7, .int .i64 (l.length : Nat)), (8, .int .i64 (k : Nat))]) (fun _ => [])
    (fun k => k ≤ l.length ∧ (l.take k).any p = false) (fun k => l.length - k) 0 ⟨⟨rfl, rfl, rfl, rfl, trivial⟩, rfl, Nat.zero_le _, rfl⟩ ?_
  intro k ⟨hk, hany⟩
  repeat (first
    | refine ax_q (q_move rfl) ?_
    | refine ax_q (q_assign rfl) ?_
    | refine ax_q (q_loadi_rp rfl rfl rfl) ?_
    | refine ax_ops_nil ?_
    | refine ax_post_code ?_
    | refine ax_seq ?_
    | refine ax_region rfl ?_
    | refine ax_guard rfl rfl ?_
    | refine ax_skip_undef rfl rfl ?_
    | refine ax_skip_not rfl rfl rfl ?_
    | refine ax_guard_not rfl rfl rfl ?_
    | refine ax_cond_true rfl ?_
    | refine ax_cond_false rfl ?_
    | refine ax_post_blk ?_
    | refine ax_post_scope ?_
    | refine ax_post_any ?_
    | refine ax_block ?_
    | refine ax_scope ?_
    | refine ax_skip ?_
    | refine ax_label ?_
    | refine ax_exit ?_
    | refine ax_exit_here ?_
    | refine ax_exit_code ?_
    | refine ax_exit_inv ?_
    | refine ax_exit_scope ?_
    | refine ax_exit_on rfl ?_
    | refine ax_return ?_
    | refine ax_ret_code ?_
    | refine ax_ret_blk ?_
    | refine ax_ret_scope ?_
    | refine ax_ret_inv ?_
    | refine ax_q (q_loads_rp rfl rfl rfl) ?_
    | refine ax_q (q_loadf_rp rfl rfl rfl rfl) ?_
    | refine ax_q (q_loadb_ptr rfl rfl rfl rfl rfl) ?_
    | refine ax_q (q_lss rfl rfl) ?_
    | refine ax_q (q_eql rfl rfl) ?_
    | refine ax_q (q_neq rfl rfl) ?_
    | refine ax_q (q_leq rfl rfl) ?_
    | refine ax_q (q_gtr rfl rfl) ?_
    | refine ax_q (q_geq rfl rfl) ?_
    | refine ax_q (q_not rfl) ?_
    | refine ax_q (q_pick rfl rfl) ?_
    | refine ax_q (q_extract rfl rfl) ?_
    | refine ax_q (q_len rfl rfl rfl) ?_
    | refine ax_q (q_lenstr rfl rfl) ?_
    | refine ax_q (q_add rfl rfl (by omega)) ?_
    | refine ax_q (q_sub rfl rfl (by omega)) ?_
    | refine ax_q (q_index_ro' rfl rfl rfl rfl (by first | (simp only [Nat.zero_add, Int.toNat_natCast, Int.toNat_zero]; exact rfl) | exact rfl) (by omega)) ?_
    | refine ax_q (q_index_sl' rfl rfl rfl rfl rfl (by first | (simp only [Nat.zero_add, Int.toNat_natCast, Int.toNat_zero]; exact rfl) | exact rfl) (by omega)) ?_
    | refine ax_q (q_loadi_ptr rfl rfl rfl rfl (by first | assumption | omega)) ?_
    | refine ax_q (q_loads_ptr rfl rfl rfl rfl (by first | assumption | omega)) ?_
    | refine ax_q (q_loadf_ptr rfl rfl rfl rfl rfl (by first | assumption | omega)) ?_
    | refine ax_q (q_quo rfl rfl (by omega)) ?_
    | refine ax_q (q_rem rfl rfl (by omega)) ?_
    | refine ax_q (q_slice_ro rfl rfl rfl rfl rfl rfl rfl (by omega)) ?_
    | refine ax_q (q_slice_sl rfl rfl rfl rfl rfl rfl rfl rfl (by omega)) ?_
    | refine ax_q (q_eqnilnil rfl rfl rfl) ?_
    | refine ax_q (q_build rfl rfl rfl rfl rfl rfl) ?_
    | refine ax_store rfl rfl rfl rfl rfl rfl rfl (by first | assumption | (show _ < List.length _; first | assumption | omega)) ?_
    | refine ax_buildSliceRo rfl rfl rfl rfl rfl rfl rfl rfl rfl rfl rfl ?_)
  refine ax_cond_dec rfl (fun h => ?_) (fun h => ?_)
  · have hk' : k < l.length := by omega
    have hanys := any_take_succ p l 0 k hk'
    repeat (first
      | refine ax_q (q_move rfl) ?_
      | refine ax_q (q_assign rfl) ?_
      | refine ax_q (q_loadi_rp rfl rfl rfl) ?_
      | refine ax_ops_nil ?_
      | refine ax_post_code ?_
      | refine ax_seq ?_
      | refine ax_region rfl ?_
      | refine ax_guard rfl rfl ?_
      | refine ax_skip_undef rfl rfl ?_
      | refine ax_skip_not rfl rfl rfl ?_
      | refine ax_guard_not rfl rfl rfl ?_
      | refine ax_cond_true rfl ?_
      | refine ax_cond_false rfl ?_
      | refine ax_post_blk ?_
      | refine ax_post_scope ?_
      | refine ax_post_any ?_
      | refine ax_block ?_
      | refine ax_scope ?_
      | refine ax_skip ?_
      | refine ax_label ?_
      | refine ax_exit ?_
      | refine ax_exit_here ?_
      | refine ax_exit_code ?_
      | refine ax_exit_inv ?_
      | refine ax_exit_scope ?_
      | refine ax_exit_on rfl ?_
      | refine ax_return ?_
      | refine ax_ret_code ?_
      | refine ax_ret_blk ?_
      | refine ax_ret_scope ?_
      | refine ax_ret_inv ?_
      | refine ax_q (q_loads_rp rfl rfl rfl) ?_
      | refine ax_q (q_loadf_rp rfl rfl rfl rfl) ?_
      | refine ax_q (q_loadb_ptr rfl rfl rfl rfl rfl) ?_
      | refine ax_q (q_lss rfl rfl) ?_
      | refine ax_q (q_eql rfl rfl) ?_
      | refine ax_q (q_neq rfl rfl) ?_
      | refine ax_q (q_leq rfl rfl) ?_
      | refine ax_q (q_gtr rfl rfl) ?_
      | refine ax_q (q_geq rfl rfl) ?_
      | refine ax_q (q_not rfl) ?_
      | refine ax_q (q_pick rfl rfl) ?_
      | refine ax_q (q_extract rfl rfl) ?_
      | refine ax_q (q_len rfl rfl rfl) ?_
      | refine ax_q (q_lenstr rfl rfl) ?_
      | refine ax_q (q_add rfl rfl (by omega)) ?_
      | refine ax_q (q_sub rfl rfl (by omega)) ?_
      | refine ax_q (q_index_ro' rfl rfl rfl rfl (by first | (simp only [Nat.zero_add, Int.toNat_natCast, Int.toNat_zero]; exact rfl) | exact rfl) (by omega)) ?_
      | refine ax_q (q_index_sl' rfl rfl rfl rfl rfl (by first | (simp only [Nat.zero_add, Int.toNat_natCast, Int.toNat_zero]; exact rfl) | exact rfl) (by omega)) ?_
      | refine ax_q (q_loadi_ptr rfl rfl rfl rfl (by first | assumption | omega)) ?_
      | refine ax_q (q_loads_ptr rfl rfl rfl rfl (by first | assumption | omega)) ?_
      | refine ax_q (q_loadf_ptr rfl rfl rfl rfl rfl (by first | assumption | omega)) ?_
      | refine ax_q (q_quo rfl rfl (by omega)) ?_
      | refine ax_q (q_rem rfl rfl (by omega)) ?_
      | refine ax_q (q_slice_ro rfl rfl rfl rfl rfl rfl rfl (by omega)) ?_
      | refine ax_q (q_slice_sl rfl rfl rfl rfl rfl rfl rfl rfl (by omega)) ?_
      | refine ax_q (q_eqnilnil rfl rfl rfl) ?_
      | refine ax_q (q_build rfl rfl rfl rfl rfl rfl) ?_
      | refine ax_store rfl rfl rfl rfl rfl rfl rfl (by first | assumption | (show _ < List.length _; first | assumption | omega)) ?_
      | refine ax_buildSliceRo rfl rfl rfl rfl rfl rfl rfl rfl rfl rfl rfl ?_)
    refine ax_callv rfl rfl rfl (hp _ (getD_mem 0 hk')) ?_
    repeat (first
      | refine ax_q (q_move rfl) ?_
      | refine ax_q (q_assign rfl) ?_
      | refine ax_q (q_loadi_rp rfl rfl rfl) ?_
      | refine ax_ops_nil ?_
      | refine ax_post_code ?_
      | refine ax_seq ?_
      | refine ax_region rfl ?_
      | refine ax_guard rfl rfl ?_
      | refine ax_skip_undef rfl rfl ?_
      | refine ax_skip_not rfl rfl rfl ?_
      | refine ax_guard_not rfl rfl rfl ?_
      | refine ax_cond_true rfl ?_
      | refine ax_cond_false rfl ?_
      | refine ax_post_blk ?_
      | refine ax_post_scope ?_
      | refine ax_post_any ?_
      | refine ax_block ?_
      | refine ax_scope ?_
      | refine ax_skip ?_
      | refine ax_label ?_
      | refine ax_exit ?_
      | refine ax_exit_here ?_
      | refine ax_exit_code ?_
      | refine ax_exit_inv ?_
      | refine ax_exit_scope ?_
      | refine ax_exit_on rfl ?_
      | refine ax_return ?_
      | refine ax_ret_code ?_
      | refine ax_ret_blk ?_
      | refine ax_ret_scope ?_
      | refine ax_ret_inv ?_
      | refine ax_q (q_loads_rp rfl rfl rfl) ?_
      | refine ax_q (q_loadf_rp rfl rfl rfl rfl) ?_
      | refine ax_q (q_loadb_ptr rfl rfl rfl rfl rfl) ?_
      | refine ax_q (q_lss rfl rfl) ?_
      | refine ax_q (q_eql rfl rfl) ?_
      | refine ax_q (q_neq rfl rfl) ?_
      | refine ax_q (q_leq rfl rfl) ?_
      | refine ax_q (q_gtr rfl rfl) ?_
      | refine ax_q (q_geq rfl rfl) ?_
      | refine ax_q (q_not rfl) ?_
      | refine ax_q (q_pick rfl rfl) ?_
      | refine ax_q (q_extract rfl rfl) ?_
      | refine ax_q (q_len rfl rfl rfl) ?_
      | refine ax_q (q_lenstr rfl rfl) ?_
      | refine ax_q (q_add rfl rfl (by omega)) ?_
      | refine ax_q (q_sub rfl rfl (by omega)) ?_
      | refine ax_q (q_index_ro' rfl rfl rfl rfl (by first | (simp only [Nat.zero_add, Int.toNat_natCast, Int.toNat_zero]; exact rfl) | exact rfl) (by omega)) ?_
      | refine ax_q (q_index_sl' rfl rfl rfl rfl rfl (by first | (simp only [Nat.zero_add, Int.toNat_natCast, Int.toNat_zero]; exact rfl) | exact rfl) (by omega)) ?_
      | refine ax_q (q_loadi_ptr rfl rfl rfl rfl (by first | assumption | omega)) ?_
      | refine ax_q (q_loads_ptr rfl rfl rfl rfl (by first | assumption | omega)) ?_
      | refine ax_q (q_loadf_ptr rfl rfl rfl rfl rfl (by first | assumption | omega)) ?_
      | refine ax_q (q_quo rfl rfl (by omega)) ?_
      | refine ax_q (q_rem rfl rfl (by omega)) ?_
      | refine ax_q (q_slice_ro rfl rfl rfl rfl rfl rfl rfl (by omega)) ?_
      | refine ax_q (q_slice_sl rfl rfl rfl rfl rfl rfl rfl rfl (by omega)) ?_
      | refine ax_q (q_eqnilnil rfl rfl rfl) ?_
      | refine ax_q (q_build rfl rfl rfl rfl rfl rfl) ?_
      | refine ax_store rfl rfl rfl rfl rfl rfl rfl (by first | assumption | (show _ < List.length _; first | assumption | omega)) ?_
      | refine ax_buildSliceRo rfl rfl rfl rfl rfl rfl rfl rfl rfl rfl rfl ?_)
    refine ax_cond rfl (fun h2 => ?_) (fun h2 => ?_)
    · repeat (first
        | refine ax_q (q_move rfl) ?_
        | refine ax_q (q_assign rfl) ?_
        | refine ax_q (q_loadi_rp rfl rfl rfl) ?_
        | refine ax_ops_nil ?_
        | refine ax_post_code ?_
        | refine ax_seq ?_
        | refine ax_region rfl ?_
        | refine ax_guard rfl rfl ?_
        | refine ax_skip_undef rfl rfl ?_
        | refine ax_skip_not rfl rfl rfl ?_
        | refine ax_guard_not rfl rfl rfl ?_
        | refine ax_cond_true rfl ?_
        | refine ax_cond_false rfl ?_
        | refine ax_post_blk ?_
        | refine ax_post_scope ?_
        | refine ax_post_any ?_
        | refine ax_block ?_
        | refine ax_scope ?_
        | refine ax_skip ?_
        | refine ax_label ?_
        | refine ax_exit ?_
        | refine ax_exit_here ?_
        | refine ax_exit_code ?_
        | refine ax_exit_inv ?_
        | refine ax_exit_scope ?_
        | refine ax_exit_on rfl ?_
        | refine ax_return ?_
        | refine ax_ret_code ?_
        | refine ax_ret_blk ?_
        | refine ax_ret_scope ?_
        | refine ax_ret_inv ?_
        | refine ax_q (q_loads_rp rfl rfl rfl) ?_
        | refine ax_q (q_loadf_rp rfl rfl rfl rfl) ?_
        | refine ax_q (q_loadb_ptr rfl rfl rfl rfl rfl) ?_
        | refine ax_q (q_lss rfl rfl) ?_
        | refine ax_q (q_eql rfl rfl) ?_
        | refine ax_q (q_neq rfl rfl) ?_
        | refine ax_q (q_leq rfl rfl) ?_
        | refine ax_q (q_gtr rfl rfl) ?_
        | refine ax_q (q_geq rfl rfl) ?_
        | refine ax_q (q_not rfl) ?_
        | refine ax_q (q_pick rfl rfl) ?_
        | refine ax_q (q_extract rfl rfl) ?_
        | refine ax_q (q_len rfl rfl rfl) ?_
        | refine ax_q (q_lenstr rfl rfl) ?_
        | refine ax_q (q_add rfl rfl (by omega)) ?_
        | refine ax_q (q_sub rfl rfl (by omega)) ?_
        | refine ax_q (q_index_ro' rfl rfl rfl rfl (by first | (simp only [Nat.zero_add, Int.toNat_natCast, Int.toNat_zero]; exact rfl) | exact rfl) (by omega)) ?_
        | refine ax_q (q_index_sl' rfl rfl rfl rfl rfl (by first | (simp only [Nat.zero_add, Int.toNat_natCast, Int.toNat_zero]; exact rfl) | exact rfl) (by omega)) ?_
        | refine ax_q (q_loadi_ptr rfl rfl rfl rfl (by first | assumption | omega)) ?_
        | refine ax_q (q_loads_ptr rfl rfl rfl rfl (by first | assumption | omega)) ?_
        | refine ax_q (q_loadf_ptr rfl rfl rfl rfl rfl (by first | assumption | omega)) ?_
        | refine ax_q (q_quo rfl rfl (by omega)) ?_
        | refine ax_q (q_rem rfl rfl (by omega)) ?_
        | refine ax_q (q_slice_ro rfl rfl rfl rfl rfl rfl rfl (by omega)) ?_
        | refine ax_q (q_slice_sl rfl rfl rfl rfl rfl rfl rfl rfl (by omega)) ?_
        | refine ax_q (q_eqnilnil rfl rfl rfl) ?_
        | refine ax_q (q_build rfl rfl rfl rfl rfl rfl) ?_
        | refine ax_store rfl rfl rfl rfl rfl rfl rfl (by first | assumption | (show _ < List.length _; first | assumption | omega)) ?_
        | refine ax_buildSliceRo rfl rfl rfl rfl rfl rfl rfl rfl rfl rfl rfl ?_)
      refine ax_ret hR rfl ?_
      have := idxF_take p l k hany hk
      rw [drop_getD l 0 k hk'] at this
      simp only [idxF, h2, if_true] at this
      rw [this]; simp [tupOf]
    · repeat (first
        | refine ax_q (q_move rfl) ?_
        | refine ax_q (q_assign rfl) ?_
        | refine ax_q (q_loadi_rp rfl rfl rfl) ?_
        | refine ax_ops_nil ?_
        | refine ax_post_code ?_
        | refine ax_seq ?_
        | refine ax_region rfl ?_
        | refine ax_guard rfl rfl ?_
        | refine ax_skip_undef rfl rfl ?_
        | refine ax_skip_not rfl rfl rfl ?_
        | refine ax_guard_not rfl rfl rfl ?_
        | refine ax_cond_true rfl ?_
        | refine ax_cond_false rfl ?_
        | refine ax_post_blk ?_
        | refine ax_post_scope ?_
        | refine ax_post_any ?_
        | refine ax_block ?_
        | refine ax_scope ?_
        | refine ax_skip ?_
        | refine ax_label ?_
        | refine ax_exit ?_
        | refine ax_exit_here ?_
        | refine ax_exit_code ?_
        | refine ax_exit_inv ?_
        | refine ax_exit_scope ?_
        | refine ax_exit_on rfl ?_
        | refine ax_return ?_
        | refine ax_ret_code ?_
        | refine ax_ret_blk ?_
        | refine ax_ret_scope ?_
        | refine ax_ret_inv ?_
        | refine ax_q (q_loads_rp rfl rfl rfl) ?_
        | refine ax_q (q_loadf_rp rfl rfl rfl rfl) ?_
        | refine ax_q (q_loadb_ptr rfl rfl rfl rfl rfl) ?_
        | refine ax_q (q_lss rfl rfl) ?_
        | refine ax_q (q_eql rfl rfl) ?_
        | refine ax_q (q_neq rfl rfl) ?_
        | refine ax_q (q_leq rfl rfl) ?_
        | refine ax_q (q_gtr rfl rfl) ?_
        | refine ax_q (q_geq rfl rfl) ?_
        | refine ax_q (q_not rfl) ?_
        | refine ax_q (q_pick rfl rfl) ?_
        | refine ax_q (q_extract rfl rfl) ?_
        | refine ax_q (q_len rfl rfl rfl) ?_
        | refine ax_q (q_lenstr rfl rfl) ?_
        | refine ax_q (q_add rfl rfl (by omega)) ?_
        | refine ax_q (q_sub rfl rfl (by omega)) ?_
        | refine ax_q (q_index_ro' rfl rfl rfl rfl (by first | (simp only [Nat.zero_add, Int.toNat_natCast, Int.toNat_zero]; exact rfl) | exact rfl) (by omega)) ?_
        | refine ax_q (q_index_sl' rfl rfl rfl rfl rfl (by first | (simp only [Nat.zero_add, Int.toNat_natCast, Int.toNat_zero]; exact rfl) | exact rfl) (by omega)) ?_
        | refine ax_q (q_loadi_ptr rfl rfl rfl rfl (by first | assumption | omega)) ?_
        | refine ax_q (q_loads_ptr rfl rfl rfl rfl (by first | assumption | omega)) ?_
        | refine ax_q (q_loadf_ptr rfl rfl rfl rfl rfl (by first | assumption | omega)) ?_
        | refine ax_q (q_quo rfl rfl (by omega)) ?_
        | refine ax_q (q_rem rfl rfl (by omega)) ?_
        | refine ax_q (q_slice_ro rfl rfl rfl rfl rfl rfl rfl (by omega)) ?_
        | refine ax_q (q_slice_sl rfl rfl rfl rfl rfl rfl rfl rfl (by omega)) ?_
        | refine ax_q (q_eqnilnil rfl rfl rfl) ?_
        | refine ax_q (q_build rfl rfl rfl rfl rfl rfl) ?_
        | refine ax_store rfl rfl rfl rfl rfl rfl rfl (by first | assumption | (show _ < List.length _; first | assumption | omega)) ?_
        | refine ax_buildSliceRo rfl rfl rfl rfl rfl rfl rfl rfl rfl rfl rfl ?_)
      refine ax_post_inv ⟨k + 1, ⟨by omega, by rw [hanys, hany, h2]; rfl⟩, by omega, ⟨rfl, rfl, rfl, rfl, trivial⟩, rfl⟩
  · have hk' : k = l.length := by omega
    subst hk'
    repeat (first
      | refine ax_q (q_move rfl) ?_
      | refine ax_q (q_assign rfl) ?_
      | refine ax_q (q_loadi_rp rfl rfl rfl) ?_
      | refine ax_ops_nil ?_
      | refine ax_post_code ?_
      | refine ax_seq ?_
      | refine ax_region rfl ?_
      | refine ax_guard rfl rfl ?_
      | refine ax_skip_undef rfl rfl ?_
      | refine ax_skip_not rfl rfl rfl ?_
      | refine ax_guard_not rfl rfl rfl ?_
      | refine ax_cond_true rfl ?_
      | refine ax_cond_false rfl ?_
      | refine ax_post_blk ?_
      | refine ax_post_scope ?_
      | refine ax_post_any ?_
      | refine ax_block ?_
      | refine ax_scope ?_
      | refine ax_skip ?_
      | refine ax_label ?_
      | refine ax_exit ?_
      | refine ax_exit_here ?_
      | refine ax_exit_code ?_
      | refine ax_exit_inv ?_
      | refine ax_exit_scope ?_
      | refine ax_exit_on rfl ?_
      | refine ax_return ?_
      | refine ax_ret_code ?_
      | refine ax_ret_blk ?_
      | refine ax_ret_scope ?_
      | refine ax_ret_inv ?_
      | refine ax_q (q_loads_rp rfl rfl rfl) ?_
      | refine ax_q (q_loadf_rp rfl rfl rfl rfl) ?_
      | refine ax_q (q_loadb_ptr rfl rfl rfl rfl rfl) ?_
      | refine ax_q (q_lss rfl rfl) ?_
      | refine ax_q (q_eql rfl rfl) ?_
      | refine ax_q (q_neq rfl rfl) ?_
      | refine ax_q (q_leq rfl rfl) ?_
      | refine ax_q (q_gtr rfl rfl) ?_
      | refine ax_q (q_geq rfl rfl) ?_
      | refine ax_q (q_not rfl) ?_
      | refine ax_q (q_pick rfl rfl) ?_
      | refine ax_q (q_extract rfl rfl) ?_
      | refine ax_q (q_len rfl rfl rfl) ?_
      | refine ax_q (q_lenstr rfl rfl) ?_
      | refine ax_q (q_add rfl rfl (by omega)) ?_
      | refine ax_q (q_sub rfl rfl (by omega)) ?_
      | refine ax_q (q_index_ro' rfl rfl rfl rfl (by first | (simp only [Nat.zero_add, Int.toNat_natCast, Int.toNat_zero]; exact rfl) | exact rfl) (by omega)) ?_
      | refine ax_q (q_index_sl' rfl rfl rfl rfl rfl (by first | (simp only [Nat.zero_add, Int.toNat_natCast, Int.toNat_zero]; exact rfl) | exact rfl) (by omega)) ?_
      | refine ax_q (q_loadi_ptr rfl rfl rfl rfl (by first | assumption | omega)) ?_
      | refine ax_q (q_loads_ptr rfl rfl rfl rfl (by first | assumption | omega)) ?_
      | refine ax_q (q_loadf_ptr rfl rfl rfl rfl rfl (by first | assumption | omega)) ?_
      | refine ax_q (q_quo rfl rfl (by omega)) ?_
      | refine ax_q (q_rem rfl rfl (by omega)) ?_
      | refine ax_q (q_slice_ro rfl rfl rfl rfl rfl rfl rfl (by omega)) ?_
      | refine ax_q (q_slice_sl rfl rfl rfl rfl rfl rfl rfl rfl (by omega)) ?_
      | refine ax_q (q_eqnilnil rfl rfl rfl) ?_
      | refine ax_q (q_build rfl rfl rfl rfl rfl rfl) ?_
      | refine ax_store rfl rfl rfl rfl rfl rfl rfl (by first | assumption | (show _ < List.length _; first | assumption | omega)) ?_
      | refine ax_buildSliceRo rfl rfl rfl rfl rfl rfl rfl rfl rfl rfl rfl ?_)
    refine ax_ret hR rfl ?_
    have := idxF_take p l l.length hany hk
    rw [List.drop_length] at this
    rw [this]; rfl

theorem containsI (l : List Int) (g : FuncId) (caps : List AV) (p : Int → Bool) (hc : noRef.noRefs caps = true) (hlen : l.length ≤ 9223372036854775807) (hp : ∀ x ∈ l, VCall Try.prog g ([.int .i64 x] ++ caps) (.bool (p x))) :
    VCall Try.prog 24 [.ro (.ints .i64 l) 0 l.length, .fn g caps] (.bool (l.any p)) := by
  refine ACall.value0 (acall_of_ax (P := Try.prog) (fn := Try.f24) rfl rfl (by kernel_rfl) rfl (fun c hR hfix => ?_)) (fix := fun _ => False) (fun _ h => h) (by simp [noRef.noRefs, noRef, hc]) rfl
  repeat (first
    | refine ax_q (q_move rfl) ?_
    | refine ax_q (q_assign rfl) ?_
    | refine ax_q (q_loadi_rp rfl rfl rfl) ?_
    | refine ax_ops_nil ?_
    | refine ax_post_code ?_
    | refine ax_seq ?_
    | refine ax_region rfl ?_
    | refine ax_guard rfl rfl ?_
    | refine ax_skip_undef rfl rfl ?_
    | refine ax_skip_not rfl rfl rfl ?_
    | refine ax_guard_not rfl rfl rfl ?_
    | refine ax_cond_true rfl ?_
    | refine ax_cond_false rfl ?_
    | refine ax_post_blk ?_
    | refine ax_post_scope ?_
    | refine ax_post_any ?_
    | refine ax_block ?_
    | refine ax_scope ?_
    | refine ax_skip ?_
    | refine ax_label ?_
    | refine ax_exit ?_
    | refine ax_exit_here ?_
    | refine ax_exit_code ?_
    | refine ax_exit_inv ?_
    | refine ax_exit_scope ?_
    | refine ax_exit_on rfl ?_
    | refine ax_return ?_
    | refine ax_ret_code ?_
    | refine ax_ret_blk ?_
    | refine ax_ret_scope ?_
    | refine ax_ret_inv ?_
    | refine ax_q (q_loads_rp rfl rfl rfl) ?_
    | refine ax_q (q_loadf_rp rfl rfl rfl rfl) ?_
    | refine ax_q (q_loadb_ptr rfl rfl rfl rfl rfl) ?_
    | refine ax_q (q_lss rfl rfl) ?_
    | refine ax_q (q_eql rfl rfl) ?_
    | refine ax_q (q_neq rfl rfl) ?_
    | refine ax_q (q_leq rfl rfl) ?_
    | refine ax_q (q_gtr rfl rfl) ?_
    | refine ax_q (q_geq rfl rfl) ?_
    | refine ax_q (q_not rfl) ?_
    | refine ax_q (q_pick rfl rfl) ?_
    | refine ax_q (q_extract rfl rfl) ?_
    | refine ax_q (q_len rfl rfl rfl) ?_
    | refine ax_q (q_lenstr rfl rfl) ?_
    | refine ax_q (q_add rfl rfl (by omega)) ?_
    | refine ax_q (q_sub rfl rfl (by omega)) ?_
    | refine ax_q (q_index_ro' rfl rfl rfl rfl (by first | (simp only [Nat.zero_add, Int.toNat_natCast, Int.toNat_zero]; exact rfl) | exact rfl) (by omega)) ?_
    | refine ax_q (q_index_sl' rfl rfl rfl rfl rfl (by first | (simp only [Nat.zero_add, Int.toNat_natCast, Int.toNat_zero]; exact rfl) | exact rfl) (by omega)) ?_
    | refine ax_q (q_loadi_ptr rfl rfl rfl rfl (by first | assumption | omega)) ?_
    | refine ax_q (q_loads_ptr rfl rfl rfl rfl (by first | assumption | omega)) ?_
    | refine ax_q (q_loadf_ptr rfl rfl rfl rfl rfl (by first | assumption | omega)) ?_
    | refine ax_q (q_quo rfl rfl (by omega)) ?_
    | refine ax_q (q_rem rfl rfl (by omega)) ?_
    | refine ax_q (q_slice_ro rfl rfl rfl rfl rfl rfl rfl (by omega)) ?_
    | refine ax_q (q_slice_sl rfl rfl rfl rfl rfl rfl rfl rfl (by omega)) ?_
    | refine ax_q (q_eqnilnil rfl rfl rfl) ?_
    | refine ax_q (q_build rfl rfl rfl rfl rfl rfl) ?_
    | refine ax_store rfl rfl rfl rfl rfl rfl rfl (by first | assumption | (show _ < List.length _; first | assumption | omega)) ?_
    | refine ax_buildSliceRo rfl rfl rfl rfl rfl rfl rfl rfl rfl rfl rfl ?_)
  refine ax_callv rfl rfl rfl (indexFuncI l g caps p hc hlen hp) ?_
  repeat (first
    | refine ax_q (q_move rfl) ?_
    | refine ax_q (q_assign rfl) ?_
    | refine ax_q (q_loadi_rp rfl rfl rfl) ?_
    | refine ax_ops_nil ?_
    | refine ax_post_code ?_
    | refine ax_seq ?_
    | refine ax_region rfl ?_
    | refine ax_guard rfl rfl ?_
    | refine ax_skip_undef rfl rfl ?_
    | refine ax_skip_not rfl rfl rfl ?_
    | refine ax_guard_not rfl rfl rfl ?_
    | refine ax_cond_true rfl ?_
    | refine ax_cond_false rfl ?_
    | refine ax_post_blk ?_
    | refine ax_post_scope ?_
    | refine ax_post_any ?_
    | refine ax_block ?_
    | refine ax_scope ?_
    | refine ax_skip ?_
    | refine ax_label ?_
    | refine ax_exit ?_
    | refine ax_exit_here ?_
    | refine ax_exit_code ?_
    | refine ax_exit_inv ?_
    | refine ax_exit_scope ?_
    | refine ax_exit_on rfl ?_
    | refine ax_return ?_
    | refine ax_ret_code ?_
    | refine ax_ret_blk ?_
    | refine ax_ret_scope ?_
    | refine ax_ret_inv ?_
    | refine ax_q (q_loads_rp rfl rfl rfl) ?_
    | refine ax_q (q_loadf_rp rfl rfl rfl rfl) ?_
    | refine ax_q (q_loadb_ptr rfl rfl rfl rfl rfl) ?_
    | refine ax_q (q_lss rfl rfl) ?_
    | refine ax_q (q_eql rfl rfl) ?_
    | refine ax_q (q_neq rfl rfl) ?_
    | refine ax_q (q_leq rfl rfl) ?_
    | refine ax_q (q_gtr rfl rfl) ?_
    | refine ax_q (q_geq rfl rfl) ?_
    | refine ax_q (q_not rfl) ?_
    | refine ax_q (q_pick rfl rfl) ?_
    | refine ax_q (q_extract rfl rfl) ?_
    | refine ax_q (q_len rfl rfl rfl) ?_
    | refine ax_q (q_lenstr rfl rfl) ?_
    | refine ax_q (q_add rfl rfl (by omega)) ?_
    | refine ax_q (q_sub rfl rfl (by omega)) ?_
    | refine ax_q (q_index_ro' rfl rfl rfl rfl (by first | (simp only [Nat.zero_add, Int.toNat_natCast, Int.toNat_zero]; exact rfl) | exact rfl) (by omega)) ?_
    | refine ax_q (q_index_sl' rfl rfl rfl rfl rfl (by first | (simp only [Nat.zero_add, Int.toNat_natCast, Int.toNat_zero]; exact rfl) | exact rfl) (by omega)) ?_
    | refine ax_q (q_loadi_ptr rfl rfl rfl rfl (by first | assumption | omega)) ?_
    | refine ax_q (q_loads_ptr rfl rfl rfl rfl (by first | assumption | omega)) ?_
    | refine ax_q (q_loadf_ptr rfl rfl rfl rfl rfl (by first | assumption | omega)) ?_
    | refine ax_q (q_quo rfl rfl (by omega)) ?_
    | refine ax_q (q_rem rfl rfl (by omega)) ?_
    | refine ax_q (q_slice_ro rfl rfl rfl rfl rfl rfl rfl (by omega)) ?_
    | refine ax_q (q_slice_sl rfl rfl rfl rfl rfl rfl rfl rfl (by omega)) ?_
    | refine ax_q (q_eqnilnil rfl rfl rfl) ?_
    | refine ax_q (q_build rfl rfl rfl rfl rfl rfl) ?_
    | refine ax_store rfl rfl rfl rfl rfl rfl rfl (by first | assumption | (show _ < List.length _; first | assumption | omega)) ?_
    | refine ax_buildSliceRo rfl rfl rfl rfl rfl rfl rfl rfl rfl rfl rfl ?_)
  refine ax_ret hR rfl ?_
  simp only [tupOf, idxF_any]

theorem check (l : List Int) : VCall Try.prog 15 [.ro (.ints .i64 l) 0 l.length] (.int .i64 (checkF l)) := by
  refine ACall.value0 (acall_of_ax (P := Try.prog) (fn := Try.f15) rfl rfl (by kernel_rfl) rfl (fun c hR hfix => ?_)) (fix := fun _ => False) (fun _ h => h) rfl rfl
  repeat (first
    | refine ax_q (q_move rfl) ?_
    | refine ax_q (q_assign rfl) ?_
    | refine ax_q (q_loadi_rp rfl rfl rfl) ?_
    | refine ax_ops_nil ?_
    | refine ax_post_code ?_
    | refine ax_seq ?_
    | refine ax_region rfl ?_
    | refine ax_guard rfl rfl ?_
    | refine ax_skip_undef rfl rfl ?_
    | refine ax_skip_not rfl rfl rfl ?_
    | refine ax_guard_not rfl rfl rfl ?_
    | refine ax_cond_true rfl ?_
    | refine ax_cond_false rfl ?_
    | refine ax_post_blk ?_
    | refine ax_post_scope ?_
    | refine ax_post_any ?_
    | refine ax_block ?_
    | refine ax_scope ?_
    | refine ax_skip ?_
    | refine ax_label ?_
    | refine ax_exit ?_
    | refine ax_exit_here ?_
    | refine ax_exit_code ?_
    | refine ax_exit_inv ?_
    | refine ax_exit_scope ?_
    | refine ax_exit_on rfl ?_
    | refine ax_return ?_
    | refine ax_ret_code ?_
    | refine ax_ret_blk ?_
    | refine ax_ret_scope ?_
    | refine ax_ret_inv ?_
    | refine ax_q (q_loads_rp rfl rfl rfl) ?_
    | refine ax_q (q_loadf_rp rfl rfl rfl rfl) ?_
    | refine ax_q (q_loadb_ptr rfl rfl rfl rfl rfl) ?_
    | refine ax_q (q_lss rfl rfl) ?_
    | refine ax_q (q_eql rfl rfl) ?_
    | refine ax_q (q_neq rfl rfl) ?_
    | refine ax_q (q_leq rfl rfl) ?_
    | refine ax_q (q_gtr rfl rfl) ?_
    | refine ax_q (q_geq rfl rfl) ?_
    | refine ax_q (q_not rfl) ?_
    | refine ax_q (q_pick rfl rfl) ?_
    | refine ax_q (q_extract rfl rfl) ?_
    | refine ax_q (q_len rfl rfl rfl) ?_
    | refine ax_q (q_lenstr rfl rfl) ?_
    | refine ax_q (q_add rfl rfl (by omega)) ?_
    | refine ax_q (q_sub rfl rfl (by omega)) ?_
    | refine ax_q (q_index_ro' rfl rfl rfl rfl (by first | (simp only [Nat.zero_add, Int.toNat_natCast, Int.toNat_zero]; exact rfl) | exact rfl) (by omega)) ?_
    | refine ax_q (q_index_sl' rfl rfl rfl rfl rfl (by first | (simp only [Nat.zero_add, Int.toNat_natCast, Int.toNat_zero]; exact rfl) | exact rfl) (by omega)) ?_
    | refine ax_q (q_loadi_ptr rfl rfl rfl rfl (by first | assumption | omega)) ?_
    | refine ax_q (q_loads_ptr rfl rfl rfl rfl (by first | assumption | omega)) ?_
    | refine ax_q (q_loadf_ptr rfl rfl rfl rfl rfl (by first | assumption | omega)) ?_
    | refine ax_q (q_quo rfl rfl (by omega)) ?_
    | refine ax_q (q_rem rfl rfl (by omega)) ?_
    | refine ax_q (q_slice_ro rfl rfl rfl rfl rfl rfl rfl (by omega)) ?_
    | refine ax_q (q_slice_sl rfl rfl rfl rfl rfl rfl rfl rfl (by omega)) ?_
    | refine ax_q (q_eqnilnil rfl rfl rfl) ?_
    | refine ax_q (q_build rfl rfl rfl rfl rfl rfl) ?_
    | refine ax_store rfl rfl rfl rfl rfl rfl rfl (by first | assumption | (show _ < List.length _; first | assumption | omega)) ?_
    | refine ax_buildSliceRo rfl rfl rfl rfl rfl rfl rfl rfl rfl rfl rfl ?_)
  refine ax_cond_dec rfl (fun h => ?_) (fun h => ?_)
  · repeat (first
      | refine ax_q (q_move rfl) ?_
      | refine ax_q (q_assign rfl) ?_
      | refine ax_q (q_loadi_rp rfl rfl rfl) ?_
      | refine ax_ops_nil ?_
      | refine ax_post_code ?_
      | refine ax_seq ?_
      | refine ax_region rfl ?_
      | refine ax_guard rfl rfl ?_
      | refine ax_skip_undef rfl rfl ?_
      | refine ax_skip_not rfl rfl rfl ?_
      | refine ax_guard_not rfl rfl rfl ?_
      | refine ax_cond_true rfl ?_
      | refine ax_cond_false rfl ?_
      | refine ax_post_blk ?_
      | refine ax_post_scope ?_
      | refine ax_post_any ?_
      | refine ax_block ?_
      | refine ax_scope ?_
      | refine ax_skip ?_
      | refine ax_label ?_
      | refine ax_exit ?_
      | refine ax_exit_here ?_
      | refine ax_exit_code ?_
      | refine ax_exit_inv ?_
      | refine ax_exit_scope ?_
      | refine ax_exit_on rfl ?_
      | refine ax_return ?_
      | refine ax_ret_code ?_
      | refine ax_ret_blk ?_
      | refine ax_ret_scope ?_
      | refine ax_ret_inv ?_
      | refine ax_q (q_loads_rp rfl rfl rfl) ?_
      | refine ax_q (q_loadf_rp rfl rfl rfl rfl) ?_
      | refine ax_q (q_loadb_ptr rfl rfl rfl rfl rfl) ?_
      | refine ax_q (q_lss rfl rfl) ?_
      | refine ax_q (q_eql rfl rfl) ?_
      | refine ax_q (q_neq rfl rfl) ?_
      | refine ax_q (q_leq rfl rfl) ?_
      | refine ax_q (q_gtr rfl rfl) ?_
      | refine ax_q (q_geq rfl rfl) ?_
      | refine ax_q (q_not rfl) ?_
      | refine ax_q (q_pick rfl rfl) ?_
      | refine ax_q (q_extract rfl rfl) ?_
      | refine ax_q (q_len rfl rfl rfl) ?_
      | refine ax_q (q_lenstr rfl rfl) ?_
      | refine ax_q (q_add rfl rfl (by omega)) ?_
      | refine ax_q (q_sub rfl rfl (by omega)) ?_
      | refine ax_q (q_index_ro' rfl rfl rfl rfl (by first | (simp only [Nat.zero_add, Int.toNat_natCast, Int.toNat_zero]; exact rfl) | exact rfl) (by omega)) ?_
      | refine ax_q (q_index_sl' rfl rfl rfl rfl rfl (by first | (simp only [Nat.zero_add, Int.toNat_natCast, Int.toNat_zero]; exact rfl) | exact rfl) (by omega)) ?_
      | refine ax_q (q_loadi_ptr rfl rfl rfl rfl (by first | assumption | omega)) ?_
      | refine ax_q (q_loads_ptr rfl rfl rfl rfl (by first | assumption | omega)) ?_
      | refine ax_q (q_loadf_ptr rfl rfl rfl rfl rfl (by first | assumption | omega)) ?_
      | refine ax_q (q_quo rfl rfl (by omega)) ?_
      | refine ax_q (q_rem rfl rfl (by omega)) ?_
      | refine ax_q (q_slice_ro rfl rfl rfl rfl rfl rfl rfl (by omega)) ?_
      | refine ax_q (q_slice_sl rfl rfl rfl rfl rfl rfl rfl rfl (by omega)) ?_
      | refine ax_q (q_eqnilnil rfl rfl rfl) ?_
      | refine ax_q (q_build rfl rfl rfl rfl rfl rfl) ?_
      | refine ax_store rfl rfl rfl rfl rfl rfl rfl (by first | assumption | (show _ < List.length _; first | assumption | omega)) ?_
      | refine ax_buildSliceRo rfl rfl rfl rfl rfl rfl rfl rfl rfl rfl rfl ?_)
    refine ax_ret hR rfl ?_
    unfold checkF; rw [if_pos (by omega)]; rfl
  · repeat (first
      | refine ax_q (q_move rfl) ?_
      | refine ax_q (q_assign rfl) ?_
      | refine ax_q (q_loadi_rp rfl rfl rfl) ?_
      | refine ax_ops_nil ?_
      | refine ax_post_code ?_
      | refine ax_seq ?_
      | refine ax_region rfl ?_
      | refine ax_guard rfl rfl ?_
      | refine ax_skip_undef rfl rfl ?_
      | refine ax_skip_not rfl rfl rfl ?_
      | refine ax_guard_not rfl rfl rfl ?_
      | refine ax_cond_true rfl ?_
      | refine ax_cond_false rfl ?_
      | refine ax_post_blk ?_
      | refine ax_post_scope ?_
      | refine ax_post_any ?_
      | refine ax_block ?_
      | refine ax_scope ?_
      | refine ax_skip ?_
      | refine ax_label ?_
      | refine ax_exit ?_
      | refine ax_exit_here ?_
      | refine ax_exit_code ?_
      | refine ax_exit_inv ?_
      | refine ax_exit_scope ?_
      | refine ax_exit_on rfl ?_
      | refine ax_return ?_
      | refine ax_ret_code ?_
      | refine ax_ret_blk ?_
      | refine ax_ret_scope ?_
      | refine ax_ret_inv ?_
      | refine ax_q (q_loads_rp rfl rfl rfl) ?_
      | refine ax_q (q_loadf_rp rfl rfl rfl rfl) ?_
      | refine ax_q (q_loadb_ptr rfl rfl rfl rfl rfl) ?_
      | refine ax_q (q_lss rfl rfl) ?_
      | refine ax_q (q_eql rfl rfl) ?_
      | refine ax_q (q_neq rfl rfl) ?_
      | refine ax_q (q_leq rfl rfl) ?_
      | refine ax_q (q_gtr rfl rfl) ?_
      | refine ax_q (q_geq rfl rfl) ?_
      | refine ax_q (q_not rfl) ?_
      | refine ax_q (q_pick rfl rfl) ?_
      | refine ax_q (q_extract rfl rfl) ?_
      | refine ax_q (q_len rfl rfl rfl) ?_
      | refine ax_q (q_lenstr rfl rfl) ?_
      | refine ax_q (q_add rfl rfl (by omega)) ?_
      | refine ax_q (q_sub rfl rfl (by omega)) ?_
      | refine ax_q (q_index_ro' rfl rfl rfl rfl (by first | (simp only [Nat.zero_add, Int.toNat_natCast, Int.toNat_zero]; exact rfl) | exact rfl) (by omega)) ?_
      | refine ax_q (q_index_sl' rfl rfl rfl rfl rfl (by first | (simp only [Nat.zero_add, Int.toNat_natCast, Int.toNat_zero]; exact rfl) | exact rfl) (by omega)) ?_
      | refine ax_q (q_loadi_ptr rfl rfl rfl rfl (by first | assumption | omega)) ?_
      | refine ax_q (q_loads_ptr rfl rfl rfl rfl (by first | assumption | omega)) ?_
      | refine ax_q (q_loadf_ptr rfl rfl rfl rfl rfl (by first | assumption | omega)) ?_
      | refine ax_q (q_quo rfl rfl (by omega)) ?_
      | refine ax_q (q_rem rfl rfl (by omega)) ?_
      | refine ax_q (q_slice_ro rfl rfl rfl rfl rfl rfl rfl (by omega)) ?_
      | refine ax_q (q_slice_sl rfl rfl rfl rfl rfl rfl rfl rfl (by omega)) ?_
      | refine ax_q (q_eqnilnil rfl rfl rfl) ?_
      | refine ax_q (q_build rfl rfl rfl rfl rfl rfl) ?_
      | refine ax_store rfl rfl rfl rfl rfl rfl rfl (by first | assumption | (show _ < List.length _; first | assumption | omega)) ?_
      | refine ax_buildSliceRo rfl rfl rfl rfl rfl rfl rfl rfl rfl rfl rfl ?_)
    refine ax_callv rfl rfl rfl (containsI l 25 [] outK rfl (by omega) (fun x _ => check1 x)) ?_
    repeat (first
      | refine ax_q (q_move rfl) ?_
      | refine ax_q (q_assign rfl) ?_
      | refine ax_q (q_loadi_rp rfl rfl rfl) ?_
      | refine ax_ops_nil ?_
      | refine ax_post_code ?_
      | refine ax_seq ?_
      | refine ax_region rfl ?_
      | refine ax_guard rfl rfl ?_
      | refine ax_skip_undef rfl rfl ?_
      | refine ax_skip_not rfl rfl rfl ?_
      | refine ax_guard_not rfl rfl rfl ?_
      | refine ax_cond_true rfl ?_
      | refine ax_cond_false rfl ?_
      | refine ax_post_blk ?_
      | refine ax_post_scope ?_
      | refine ax_post_any ?_
      | refine ax_block ?_
      | refine ax_scope ?_
      | refine ax_skip ?_
      | refine ax_label ?_
      | refine ax_exit ?_
      | refine ax_exit_here ?_
      | refine ax_exit_code ?_
      | refine ax_exit_inv ?_
      | refine ax_exit_scope ?_
      | refine ax_exit_on rfl ?_
      | refine ax_return ?_
      | refine ax_ret_code ?_
      | refine ax_ret_blk ?_
      | refine ax_ret_scope ?_
      | refine ax_ret_inv ?_
      | refine ax_q (q_loads_rp rfl rfl rfl) ?_
      | refine ax_q (q_loadf_rp rfl rfl rfl rfl) ?_
      | refine ax_q (q_loadb_ptr rfl rfl rfl rfl rfl) ?_
      | refine ax_q (q_lss rfl rfl) ?_
      | refine ax_q (q_eql rfl rfl) ?_
      | refine ax_q (q_neq rfl rfl) ?_
      | refine ax_q (q_leq rfl rfl) ?_
      | refine ax_q (q_gtr rfl rfl) ?_
      | refine ax_q (q_geq rfl rfl) ?_
      | refine ax_q (q_not rfl) ?_
      | refine ax_q (q_pick rfl rfl) ?_
      | refine ax_q (q_extract rfl rfl) ?_
      | refine ax_q (q_len rfl rfl rfl) ?_
      | refine ax_q (q_lenstr rfl rfl) ?_
      | refine ax_q (q_add rfl rfl (by omega)) ?_
      | refine ax_q (q_sub rfl rfl (by omega)) ?_
      | refine ax_q (q_index_ro' rfl rfl rfl rfl (by first | (simp only [Nat.zero_add, Int.toNat_natCast, Int.toNat_zero]; exact rfl) | exact rfl) (by omega)) ?_
      | refine ax_q (q_index_sl' rfl rfl rfl rfl rfl (by first | (simp only [Nat.zero_add, Int.toNat_natCast, Int.toNat_zero]; exact rfl) | exact rfl) (by omega)) ?_
      | refine ax_q (q_loadi_ptr rfl rfl rfl rfl (by first | assumption | omega)) ?_
      | refine ax_q (q_loads_ptr rfl rfl rfl rfl (by first | assumption | omega)) ?_
      | refine ax_q (q_loadf_ptr rfl rfl rfl rfl rfl (by first | assumption | omega)) ?_
      | refine ax_q (q_quo rfl rfl (by omega)) ?_
      | refine ax_q (q_rem rfl rfl (by omega)) ?_
      | refine ax_q (q_slice_ro rfl rfl rfl rfl rfl rfl rfl (by omega)) ?_
      | refine ax_q (q_slice_sl rfl rfl rfl rfl rfl rfl rfl rfl (by omega)) ?_
      | refine ax_q (q_eqnilnil rfl rfl rfl) ?_
      | refine ax_q (q_build rfl rfl rfl rfl rfl rfl) ?_
      | refine ax_store rfl rfl rfl rfl rfl rfl rfl (by first | assumption | (show _ < List.length _; first | assumption | omega)) ?_
      | refine ax_buildSliceRo rfl rfl rfl rfl rfl rfl rfl rfl rfl rfl rfl ?_)
    refine ax_cond rfl (fun h2 => ?_) (fun h2 => ?_)
    · repeat (first
        | refine ax_q (q_move rfl) ?_
        | refine ax_q (q_assign rfl) ?_
        | refine ax_q (q_loadi_rp rfl rfl rfl) ?_
        | refine ax_ops_nil ?_
        | refine ax_post_code ?_
        | refine ax_seq ?_
        | refine ax_region rfl ?_
        | refine ax_guard rfl rfl ?_
        | refine ax_skip_undef rfl rfl ?_
        | refine ax_skip_not rfl rfl rfl ?_
        | refine ax_guard_not rfl rfl rfl ?_
        | refine ax_cond_true rfl ?_
        | refine ax_cond_false rfl ?_
        | refine ax_post_blk ?_
        | refine ax_post_scope ?_
        | refine ax_post_any ?_
        | refine ax_block ?_
        | refine ax_scope ?_
        | refine ax_skip ?_
        | refine ax_label ?_
        | refine ax_exit ?_
        | refine ax_exit_here ?_
        | refine ax_exit_code ?_
        | refine ax_exit_inv ?_
        | refine ax_exit_scope ?_
        | refine ax_exit_on rfl ?_
        | refine ax_return ?_
        | refine ax_ret_code ?_
        | refine ax_ret_blk ?_
        | refine ax_ret_scope ?_
        | refine ax_ret_inv ?_
        | refine ax_q (q_loads_rp rfl rfl rfl) ?_
        | refine ax_q (q_loadf_rp rfl rfl rfl rfl) ?_
        | refine ax_q (q_loadb_ptr rfl rfl rfl rfl rfl) ?_
        | refine ax_q (q_lss rfl rfl) ?_
        | refine ax_q (q_eql rfl rfl) ?_
        | refine ax_q (q_neq rfl rfl) ?_
        | refine ax_q (q_leq rfl rfl) ?_
        | refine ax_q (q_gtr rfl rfl) ?_
        | refine ax_q (q_geq rfl rfl) ?_
        | refine ax_q (q_not rfl) ?_
        | refine ax_q (q_pick rfl rfl) ?_
        | refine ax_q (q_extract rfl rfl) ?_
        | refine ax_q (q_len rfl rfl rfl) ?_
        | refine ax_q (q_lenstr rfl rfl) ?_
        | refine ax_q (q_add rfl rfl (by omega)) ?_
        | refine ax_q (q_sub rfl rfl (by omega)) ?_
        | refine ax_q (q_index_ro' rfl rfl rfl rfl (by first | (simp only [Nat.zero_add, Int.toNat_natCast, Int.toNat_zero]; exact rfl) | exact rfl) (by omega)) ?_
        | refine ax_q (q_index_sl' rfl rfl rfl rfl rfl (by first | (simp only [Nat.zero_add, Int.toNat_natCast, Int.toNat_zero]; exact rfl) | exact rfl) (by omega)) ?_
        | refine ax_q (q_loadi_ptr rfl rfl rfl rfl (by first | assumption | omega)) ?_
        | refine ax_q (q_loads_ptr rfl rfl rfl rfl (by first | assumption | omega)) ?_
        | refine ax_q (q_loadf_ptr rfl rfl rfl rfl rfl (by first | assumption | omega)) ?_
        | refine ax_q (q_quo rfl rfl (by omega)) ?_
        | refine ax_q (q_rem rfl rfl (by omega)) ?_
        | refine ax_q (q_slice_ro rfl rfl rfl rfl rfl rfl rfl (by omega)) ?_
        | refine ax_q (q_slice_sl rfl rfl rfl rfl rfl rfl rfl rfl (by omega)) ?_
        | refine ax_q (q_eqnilnil rfl rfl rfl) ?_
        | refine ax_q (q_build rfl rfl rfl rfl rfl rfl) ?_
        | refine ax_store rfl rfl rfl rfl rfl rfl rfl (by first | assumption | (show _ < List.length _; first | assumption | omega)) ?_
        | refine ax_buildSliceRo rfl rfl rfl rfl rfl rfl rfl rfl rfl rfl rfl ?_)
      refine ax_ret hR rfl ?_
      unfold checkF; rw [if_neg (by omega), if_pos h2]; rfl
    · repeat (first
        | refine ax_q (q_move rfl) ?_
        | refine ax_q (q_assign rfl) ?_
        | refine ax_q (q_loadi_rp rfl rfl rfl) ?_
        | refine ax_ops_nil ?_
        | refine ax_post_code ?_
        | refine ax_seq ?_
        | refine ax_region rfl ?_
        | refine ax_guard rfl rfl ?_
        | refine ax_skip_undef rfl rfl ?_
        | refine ax_skip_not rfl rfl rfl ?_
        | refine ax_guard_not rfl rfl rfl ?_
        | refine ax_cond_true rfl ?_
        | refine ax_cond_false rfl ?_
        | refine ax_post_blk ?_
        | refine ax_post_scope ?_
        | refine ax_post_any ?_
        | refine ax_block ?_
        | refine ax_scope ?_
        | refine ax_skip ?_
        | refine ax_label ?_
        | refine ax_exit ?_
        | refine ax_exit_here ?_
        | refine ax_exit_code ?_
        | refine ax_exit_inv ?_
        | refine ax_exit_scope ?_
        | refine ax_exit_on rfl ?_
        | refine ax_return ?_
        | refine ax_ret_code ?_
        | refine ax_ret_blk ?_
        | refine ax_ret_scope ?_
        | refine ax_ret_inv ?_
        | refine ax_q (q_loads_rp rfl rfl rfl) ?_
        | refine ax_q (q_loadf_rp rfl rfl rfl rfl) ?_
        | refine ax_q (q_loadb_ptr rfl rfl rfl rfl rfl) ?_
        | refine ax_q (q_lss rfl rfl) ?_
        | refine ax_q (q_eql rfl rfl) ?_
        | refine ax_q (q_neq rfl rfl) ?_
        | refine ax_q (q_leq rfl rfl) ?_
        | refine ax_q (q_gtr rfl rfl) ?_
        | refine ax_q (q_geq rfl rfl) ?_
        | refine ax_q (q_not rfl) ?_
        | refine ax_q (q_pick rfl rfl) ?_
        | refine ax_q (q_extract rfl rfl) ?_
        | refine ax_q (q_len rfl rfl rfl) ?_
        | refine ax_q (q_lenstr rfl rfl) ?_
        | refine ax_q (q_add rfl rfl (by omega)) ?_
        | refine ax_q (q_sub rfl rfl (by omega)) ?_
        | refine ax_q (q_index_ro' rfl rfl rfl rfl (by first | (simp only [Nat.zero_add, Int.toNat_natCast, Int.toNat_zero]; exact rfl) | exact rfl) (by omega)) ?_
        | refine ax_q (q_index_sl' rfl rfl rfl rfl rfl (by first | (simp only [Nat.zero_add, Int.toNat_natCast, Int.toNat_zero]; exact rfl) | exact rfl) (by omega)) ?_
        | refine ax_q (q_loadi_ptr rfl rfl rfl rfl (by first | assumption | omega)) ?_
        | refine ax_q (q_loads_ptr rfl rfl rfl rfl (by first | assumption | omega)) ?_
        | refine ax_q (q_loadf_ptr rfl rfl rfl rfl rfl (by first | assumption | omega)) ?_
        | refine ax_q (q_quo rfl rfl (by omega)) ?_
        | refine ax_q (q_rem rfl rfl (by omega)) ?_
        | refine ax_q (q_slice_ro rfl rfl rfl rfl rfl rfl rfl (by omega)) ?_
        | refine ax_q (q_slice_sl rfl rfl rfl rfl rfl rfl rfl rfl (by omega)) ?_
        | refine ax_q (q_eqnilnil rfl rfl rfl) ?_
        | refine ax_q (q_build rfl rfl rfl rfl rfl rfl) ?_
        | refine ax_store rfl rfl rfl rfl rfl rfl rfl (by first | assumption | (show _ < List.length _; first | assumption | omega)) ?_
        | refine ax_buildSliceRo rfl rfl rfl rfl rfl rfl rfl rfl rfl rfl rfl ?_)
      refine ax_ret hR rfl ?_
      unfold checkF; rw [if_neg (by omega), if_neg (by simp [h2])]; rfl

theorem checkF_ok {l : List Int} (h : checkF l = 0) : l.length ≤ 16 ∧ ∀ x ∈ l, 0 ≤ x ∧ x ≤ 6 := by
  unfold checkF at h
  split at h
  · omega
  · split at h
    · omega
    · rename_i h1 h2
      refine ⟨by omega, fun x hx => ?_⟩
      have : outK x = false := by
        cases e : outK x
        · rfl
        · exact absurd (List.any_eq_true.mpr ⟨x, hx, e⟩) h2
      unfold outK at this
      have := of_decide_eq_false this
      omega

theorem countsI (l : List Int) (h : checkF l = 0) : FCall Try.prog 17 [.ro (.ints .i64 l) 0 l.length] (fun N => .sl N 0 7) ⟨3, .ints .i64 (cnt l)⟩ := by
  obtain ⟨hlen, hin⟩ := checkF_ok h
  refine ACall.fresh (K := fun r H => r = .sl 0 0 7 ∧ H = [some ⟨3, .ints .i64 (cnt l)⟩]) (acall_of_ax (P := Try.prog) (fn := Try.f17) rfl rfl (by kernel_rfl) rfl (fun c hR hfix => ?_)) (fix := fun _ => False) (fun _ h => h) rfl (fun H => ⟨rfl, by simp [inBs, inB]⟩) ?_
  · repeat (first
      | refine ax_q (q_move rfl) ?_
      | refine ax_q (q_assign rfl) ?_
      | refine ax_q (q_loadi_rp rfl rfl rfl) ?_
      | refine ax_ops_nil ?_
      | refine ax_post_code ?_
      | refine ax_seq ?_
      | refine ax_region rfl ?_
      | refine ax_guard rfl rfl ?_
      | refine ax_skip_undef rfl rfl ?_
      | refine ax_skip_not rfl rfl rfl ?_
      | refine ax_guard_not rfl rfl rfl ?_
      | refine ax_cond_true rfl ?_
      | refine ax_cond_false rfl ?_
      | refine ax_post_blk ?_
      | refine ax_post_scope ?_
      | refine ax_post_any ?_
      | refine ax_block ?_
      | refine ax_scope ?_
      | refine ax_skip ?_
      | refine ax_label ?_
      | refine ax_exit ?_
      | refine ax_exit_here ?_
      | refine ax_exit_code ?_
      | refine ax_exit_inv ?_
      | refine ax_exit_scope ?_
      | refine ax_exit_on rfl ?_
      | refine ax_return ?_
      | refine ax_ret_code ?_
      | refine ax_ret_blk ?_
      | refine ax_ret_scope ?_
      | refine ax_ret_inv ?_
      | refine ax_q (q_loads_rp rfl rfl rfl) ?_
      | refine ax_q (q_loadf_rp rfl rfl rfl rfl) ?_
      | refine ax_q (q_loadb_ptr rfl rfl rfl rfl rfl) ?_
      | refine ax_q (q_lss rfl rfl) ?_
      | refine ax_q (q_eql rfl rfl) ?_
      | refine ax_q (q_neq rfl rfl) ?_
      | refine ax_q (q_leq rfl rfl) ?_
      | refine ax_q (q_gtr rfl rfl) ?_
      | refine ax_q (q_geq rfl rfl) ?_
      | refine ax_q (q_not rfl) ?_
      | refine ax_q (q_pick rfl rfl) ?_
      | refine ax_q (q_extract rfl rfl) ?_
      | refine ax_q (q_len rfl rfl rfl) ?_
      | refine ax_q (q_lenstr rfl rfl) ?_
      | refine ax_q (q_add rfl rfl (by omega)) ?_
      | refine ax_q (q_sub rfl rfl (by omega)) ?_
      | refine ax_q (q_index_ro' rfl rfl rfl rfl (by first | (simp only [Nat.zero_add, Int.toNat_natCast, Int.toNat_zero]; exact rfl) | exact rfl) (by omega)) ?_
      | refine ax_q (q_index_sl' rfl rfl rfl rfl rfl (by first | (simp only [Nat.zero_add, Int.toNat_natCast, Int.toNat_zero]; exact rfl) | exact rfl) (by omega)) ?_
      | refine ax_q (q_loadi_ptr rfl rfl rfl rfl (by first | assumption | omega)) ?_
      | refine ax_q (q_loads_ptr rfl rfl rfl rfl (by first | assumption | omega)) ?_
      | refine ax_q (q_loadf_ptr rfl rfl rfl rfl rfl (by first | assumption | omega)) ?_
      | refine ax_q (q_quo rfl rfl (by omega)) ?_
      | refine ax_q (q_rem rfl rfl (by omega)) ?_
      | refine ax_q (q_slice_ro rfl rfl rfl rfl rfl rfl rfl (by omega)) ?_
      | refine ax_q (q_slice_sl rfl rfl rfl rfl rfl rfl rfl rfl (by omega)) ?_
      | refine ax_q (q_eqnilnil rfl rfl rfl) ?_
      | refine ax_q (q_build rfl rfl rfl rfl rfl rfl) ?_
      | refine ax_store rfl rfl rfl rfl rfl rfl rfl (by first | assumption | (show _ < List.length _; first | assumption | omega)) ?_
      | refine ax_buildSliceRo rfl rfl rfl rfl rfl rfl rfl rfl rfl rfl rfl ?_)
    refine ax_make rfl rfl rfl rfl rfl rfl rfl rfl (by decide) ?_
    repeat (first
      | refine ax_q (q_move rfl) ?_
      | refine ax_q (q_assign rfl) ?_
      | refine ax_q (q_loadi_rp rfl rfl rfl) ?_
      | refine ax_ops_nil ?_
      | refine ax_post_code ?_
      | refine ax_seq ?_
      | refine ax_region rfl ?_
      | refine ax_guard rfl rfl ?_
      | refine ax_skip_undef rfl rfl ?_
      | refine ax_skip_not rfl rfl rfl ?_
      | refine ax_guard_not rfl rfl rfl ?_
      | refine ax_cond_true rfl ?_
      | refine ax_cond_false rfl ?_
      | refine ax_post_blk ?_
      | refine ax_post_scope ?_
      | refine ax_post_any ?_
      | refine ax_block ?_
      | refine ax_scope ?_
      | refine ax_skip ?_
      | refine ax_label ?_
      | refine ax_exit ?_
      | refine ax_exit_here ?_
      | refine ax_exit_code ?_
      | refine ax_exit_inv ?_
      | refine ax_exit_scope ?_
      | refine ax_exit_on rfl ?_
      | refine ax_return ?_
      | refine ax_ret_code ?_
      | refine ax_ret_blk ?_
      | refine ax_ret_scope ?_
      | refine ax_ret_inv ?_
      | refine ax_q (q_loads_rp rfl rfl rfl) ?_
      | refine ax_q (q_loadf_rp rfl rfl rfl rfl) ?_
      | refine ax_q (q_loadb_ptr rfl rfl rfl rfl rfl) ?_
      | refine ax_q (q_lss rfl rfl) ?_
      | refine ax_q (q_eql rfl rfl) ?_
      | refine ax_q (q_neq rfl rfl) ?_
      | refine ax_q (q_leq rfl rfl) ?_
      | refine ax_q (q_gtr rfl rfl) ?_
      | refine ax_q (q_geq rfl rfl) ?_
      | refine ax_q (q_not rfl) ?_
      | refine ax_q (q_pick rfl rfl) ?_
      | refine ax_q (q_extract rfl rfl) ?_
      | refine ax_q (q_len rfl rfl rfl) ?_
      | refine ax_q (q_lenstr rfl rfl) ?_
      | refine ax_q (q_add rfl rfl (by omega)) ?_
      | refine ax_q (q_sub rfl rfl (by omega)) ?_
      | refine ax_q (q_index_ro' rfl rfl rfl rfl (by first | (simp only [Nat.zero_add, Int.toNat_natCast, Int.toNat_zero]; exact rfl) | exact rfl) (by omega)) ?_
      | refine ax_q (q_index_sl' rfl rfl rfl rfl rfl (by first | (simp only [Nat.zero_add, Int.toNat_natCast, Int.toNat_zero]; exact rfl) | exact rfl) (by omega)) ?_
      | refine ax_q (q_loadi_ptr rfl rfl rfl rfl (by first | assumption | omega)) ?_
      | refine ax_q (q_loads_ptr rfl rfl rfl rfl (by first | assumption | omega)) ?_
      | refine ax_q (q_loadf_ptr rfl rfl rfl rfl rfl (by first | assumption | omega)) ?_
      | refine ax_q (q_quo rfl rfl (by omega)) ?_
      | refine ax_q (q_rem rfl rfl (by omega)) ?_
      | refine ax_q (q_slice_ro rfl rfl rfl rfl rfl rfl rfl (by omega)) ?_
      | refine ax_q (q_slice_sl rfl rfl rfl rfl rfl rfl rfl rfl (by omega)) ?_
      | refine ax_q (q_eqnilnil rfl rfl rfl) ?_
      | refine ax_q (q_build rfl rfl rfl rfl rfl rfl) ?_
      | refine ax_store rfl rfl rfl rfl rfl rfl rfl (by first | assumption | (show _ < List.length _; first | assumption | omega)) ?_
      | refine ax_buildSliceRo rfl rfl rfl rfl rfl rfl rfl rfl rfl rfl rfl ?_)
    refine ax_loop (ι := Nat) (fun k => [(3, .sl 0 0 7), (7, .ro (.ints .i64 l) 0 l.length), (8, .int .i64 (l.length : Nat)), (9, .int .i64 (k : Nat))]) (fun k => [some ⟨3, .ints .i64 (cnt (l.take k))⟩])
      (fun k => k ≤ l.length) (fun k => l.length - k) 0 ⟨⟨rfl, rfl, rfl, rfl, trivial⟩, by simp only [List.take_zero, cnt_nil]; rfl, Nat.zero_le _⟩ ?_
    intro k hk
    repeat (first
      | refine ax_q (q_move rfl) ?_
      | refine ax_q (q_assign rfl) ?_
      | refine ax_q (q_loadi_rp rfl rfl rfl) ?_
      | refine ax_ops_nil ?_
      | refine ax_post_code ?_
      | refine ax_seq ?_
      | refine ax_region rfl ?_
      | refine ax_guard rfl rfl ?_
      | refine ax_skip_undef rfl rfl ?_
      | refine ax_skip_not rfl rfl rfl ?_
      | refine ax_guard_not rfl rfl rfl ?_
      | refine ax_cond_true rfl ?_
      | refine ax_cond_false rfl ?_
      | refine ax_post_blk ?_
      | refine ax_post_scope ?_
      | refine ax_post_any ?_
      | refine ax_block ?_
      | refine ax_scope ?_
      | refine ax_skip ?_
      | refine ax_label ?_
      | refine ax_exit ?_
      | refine ax_exit_here ?_
      | refine ax_exit_code ?_
      | refine ax_exit_inv ?_
      | refine ax_exit_scope ?_
      | refine ax_exit_on rfl ?_
      | refine ax_return ?_
      | refine ax_ret_code ?_
      | refine ax_ret_blk ?_
      | refine ax_ret_scope ?_
      | refine ax_ret_inv ?_
      | refine ax_q (q_loads_rp rfl rfl rfl) ?_
      | refine ax_q (q_loadf_rp rfl rfl rfl rfl) ?_
      | refine ax_q (q_loadb_ptr rfl rfl rfl rfl rfl) ?_
      | refine ax_q (q_lss rfl rfl) ?_
      | refine ax_q (q_eql rfl rfl) ?_
      | refine ax_q (q_neq rfl rfl) ?_
      | refine ax_q (q_leq rfl rfl) ?_
      | refine ax_q (q_gtr rfl rfl) ?_
      | refine ax_q (q_geq rfl rfl) ?_
      | refine ax_q (q_not rfl) ?_
      | refine ax_q (q_pick rfl rfl) ?_
      | refine ax_q (q_extract rfl rfl) ?_
      | refine ax_q (q_len rfl rfl rfl) ?_
      | refine ax_q (q_lenstr rfl rfl) ?_
      | refine ax_q (q_add rfl rfl (by omega)) ?_
      | refine ax_q (q_sub rfl rfl (by omega)) ?_
      | refine ax_q (q_index_ro' rfl rfl rfl rfl (by first | (simp only [Nat.zero_add, Int.toNat_natCast, Int.toNat_zero]; exact rfl) | exact rfl) (by omega)) ?_
      | refine ax_q (q_index_sl' rfl rfl rfl rfl rfl (by first | (simp only [Nat.zero_add, Int.toNat_natCast, Int.toNat_zero]; exact rfl) | exact rfl) (by omega)) ?_
      | refine ax_q (q_loadi_ptr rfl rfl rfl rfl (by first | assumption | omega)) ?_
      | refine ax_q (q_loads_ptr rfl rfl rfl rfl (by first | assumption | omega)) ?_
      | refine ax_q (q_loadf_ptr rfl rfl rfl rfl rfl (by first | assumption | omega)) ?_
      | refine ax_q (q_quo rfl rfl (by omega)) ?_
      | refine ax_q (q_rem rfl rfl (by omega)) ?_
      | refine ax_q (q_slice_ro rfl rfl rfl rfl rfl rfl rfl (by omega)) ?_
      | refine ax_q (q_slice_sl rfl rfl rfl rfl rfl rfl rfl rfl (by omega)) ?_
      | refine ax_q (q_eqnilnil rfl rfl rfl) ?_
      | refine ax_q (q_build rfl rfl rfl rfl rfl rfl) ?_
      | refine ax_store rfl rfl rfl rfl rfl rfl rfl (by first | assumption | (show _ < List.length _; first | assumption | omega)) ?_
      | refine ax_buildSliceRo rfl rfl rfl rfl rfl rfl rfl rfl rfl rfl rfl ?_)
    refine ax_cond_dec rfl (fun h1 => ?_) (fun h1 => ?_)
    · have hk' : k < l.length := by omega
      have hx := hin _ (getD_mem 0 hk')
      have hs := cnt_snoc (l.take k) (l.getD k 0) hx.1 hx.2
      rw [← take_succ_getD l 0 k hk'] at hs
      have hb := cnt_le (l.take k) (l.getD k 0).toNat
      have hll : (l.take k).length ≤ 16 := by simp; omega
      have hcl := cnt_length (l.take k)
      have hlt : (l.getD k 0).toNat < (cnt (l.take k)).length := by omega
      repeat (first
        | refine ax_q (q_move rfl) ?_
        | refine ax_q (q_assign rfl) ?_
        | refine ax_q (q_loadi_rp rfl rfl rfl) ?_
        | refine ax_ops_nil ?_
        | refine ax_post_code ?_
        | refine ax_seq ?_
        | refine ax_region rfl ?_
        | refine ax_guard rfl rfl ?_
        | refine ax_skip_undef rfl rfl ?_
        | refine ax_skip_not rfl rfl rfl ?_
        | refine ax_guard_not rfl rfl rfl ?_
        | refine ax_cond_true rfl ?_
        | refine ax_cond_false rfl ?_
        | refine ax_post_blk ?_
        | refine ax_post_scope ?_
        | refine ax_post_any ?_
        | refine ax_block ?_
        | refine ax_scope ?_
        | refine ax_skip ?_
        | refine ax_label ?_
        | refine ax_exit ?_
        | refine ax_exit_here ?_
        | refine ax_exit_code ?_
        | refine ax_exit_inv ?_
        | refine ax_exit_scope ?_
        | refine ax_exit_on rfl ?_
        | refine ax_return ?_
        | refine ax_ret_code ?_
        | refine ax_ret_blk ?_
        | refine ax_ret_scope ?_
        | refine ax_ret_inv ?_
        | refine ax_q (q_loads_rp rfl rfl rfl) ?_
        | refine ax_q (q_loadf_rp rfl rfl rfl rfl) ?_
        | refine ax_q (q_loadb_ptr rfl rfl rfl rfl rfl) ?_
        | refine ax_q (q_lss rfl rfl) ?_
        | refine ax_q (q_eql rfl rfl) ?_
        | refine ax_q (q_neq rfl rfl) ?_
        | refine ax_q (q_leq rfl rfl) ?_
        | refine ax_q (q_gtr rfl rfl) ?_
        | refine ax_q (q_geq rfl rfl) ?_
        | refine ax_q (q_not rfl) ?_
        | refine ax_q (q_pick rfl rfl) ?_
        | refine ax_q (q_extract rfl rfl) ?_
        | refine ax_q (q_len rfl rfl rfl) ?_
        | refine ax_q (q_lenstr rfl rfl) ?_
        | refine ax_q (q_add rfl rfl (by omega)) ?_
        | refine ax_q (q_sub rfl rfl (by omega)) ?_
        | refine ax_q (q_index_ro' rfl rfl rfl rfl (by first | (simp only [Nat.zero_add, Int.toNat_natCast, Int.toNat_zero]; exact rfl) | exact rfl) (by omega)) ?_
        | refine ax_q (q_index_sl' rfl rfl rfl rfl rfl (by first | (simp only [Nat.zero_add, Int.toNat_natCast, Int.toNat_zero]; exact rfl) | exact rfl) (by omega)) ?_
        | refine ax_q (q_loadi_ptr rfl rfl rfl rfl (by first | assumption | omega)) ?_
        | refine ax_q (q_loads_ptr rfl rfl rfl rfl (by first | assumption | omega)) ?_
        | refine ax_q (q_loadf_ptr rfl rfl rfl rfl rfl (by first | assumption | omega)) ?_
        | refine ax_q (q_quo rfl rfl (by omega)) ?_
        | refine ax_q (q_rem rfl rfl (by omega)) ?_
        | refine ax_q (q_slice_ro rfl rfl rfl rfl rfl rfl rfl (by omega)) ?_
        | refine ax_q (q_slice_sl rfl rfl rfl rfl rfl rfl rfl rfl (by omega)) ?_
        | refine ax_q (q_eqnilnil rfl rfl rfl) ?_
        | refine ax_q (q_build rfl rfl rfl rfl rfl rfl) ?_
        | refine ax_store rfl rfl rfl rfl rfl rfl rfl (by first | assumption | (show _ < List.length _; first | assumption | omega)) ?_
        | refine ax_buildSliceRo rfl rfl rfl rfl rfl rfl rfl rfl rfl rfl rfl ?_)
      refine ax_post_inv ⟨k + 1, by omega, by omega, ⟨rfl, rfl, rfl, rfl, trivial⟩, by rw [hs]; rfl⟩
    · have hk' : k = l.length := by omega
      subst hk'
      repeat (first
        | refine ax_q (q_move rfl) ?_
        | refine ax_q (q_assign rfl) ?_
        | refine ax_q (q_loadi_rp rfl rfl rfl) ?_
        | refine ax_ops_nil ?_
        | refine ax_post_code ?_
        | refine ax_seq ?_
        | refine ax_region rfl ?_
        | refine ax_guard rfl rfl ?_
        | refine ax_skip_undef rfl rfl ?_
        | refine ax_skip_not rfl rfl rfl ?_
        | refine ax_guard_not rfl rfl rfl ?_
        | refine ax_cond_true rfl ?_
        | refine ax_cond_false rfl ?_
        | refine ax_post_blk ?_
        | refine ax_post_scope ?_
        | refine ax_post_any ?_
        | refine ax_block ?_
        | refine ax_scope ?_
        | refine ax_skip ?_
        | refine ax_label ?_
        | refine ax_exit ?_
        | refine ax_exit_here ?_
        | refine ax_exit_code ?_
        | refine ax_exit_inv ?_
        | refine ax_exit_scope ?_
        | refine ax_exit_on rfl ?_
        | refine ax_return ?_
        | refine ax_ret_code ?_
        | refine ax_ret_blk ?_
        | refine ax_ret_scope ?_
        | refine ax_ret_inv ?_
        | refine ax_q (q_loads_rp rfl rfl rfl) ?_
        | refine ax_q (q_loadf_rp rfl rfl rfl rfl) ?_
        | refine ax_q (q_loadb_ptr rfl rfl rfl rfl rfl) ?_
        | refine ax_q (q_lss rfl rfl) ?_
        | refine ax_q (q_eql rfl rfl) ?_
        | refine ax_q (q_neq rfl rfl) ?_
        | refine ax_q (q_leq rfl rfl) ?_
        | refine ax_q (q_gtr rfl rfl) ?_
        | refine ax_q (q_geq rfl rfl) ?_
        | refine ax_q (q_not rfl) ?_
        | refine ax_q (q_pick rfl rfl) ?_
        | refine ax_q (q_extract rfl rfl) ?_
        | refine ax_q (q_len rfl rfl rfl) ?_
        | refine ax_q (q_lenstr rfl rfl) ?_
        | refine ax_q (q_add rfl rfl (by omega)) ?_
        | refine ax_q (q_sub rfl rfl (by omega)) ?_
        | refine ax_q (q_index_ro' rfl rfl rfl rfl (by first | (simp only [Nat.zero_add, Int.toNat_natCast, Int.toNat_zero]; exact rfl) | exact rfl) (by omega)) ?_
        | refine ax_q (q_index_sl' rfl rfl rfl rfl rfl (by first | (simp only [Nat.zero_add, Int.toNat_natCast, Int.toNat_zero]; exact rfl) | exact rfl) (by omega)) ?_
        | refine ax_q (q_loadi_ptr rfl rfl rfl rfl (by first | assumption | omega)) ?_
        | refine ax_q (q_loads_ptr rfl rfl rfl rfl (by first | assumption | omega)) ?_
        | refine ax_q (q_loadf_ptr rfl rfl rfl rfl rfl (by first | assumption | omega)) ?_
        | refine ax_q (q_quo rfl rfl (by omega)) ?_
        | refine ax_q (q_rem rfl rfl (by omega)) ?_
        | refine ax_q (q_slice_ro rfl rfl rfl rfl rfl rfl rfl (by omega)) ?_
        | refine ax_q (q_slice_sl rfl rfl rfl rfl rfl rfl rfl rfl (by omega)) ?_
        | refine ax_q (q_eqnilnil rfl rfl rfl) ?_
        | refine ax_q (q_build rfl rfl rfl rfl rfl rfl) ?_
        | refine ax_store rfl rfl rfl rfl rfl rfl rfl (by first | assumption | (show _ < List.length _; first | assumption | omega)) ?_
        | refine ax_buildSliceRo rfl rfl rfl rfl rfl rfl rfl rfl rfl rfl rfl ?_)
      refine ax_ret hR rfl ⟨rfl, ?_⟩
      simp only [List.take_length]
  · rintro r H ⟨rfl, rfl⟩
    refine ⟨?_, fun h o ho => refl1 refless_ints h o ho, 0, rfl, fun n => rfl⟩
    intro o ho; simp at ho; subst ho; show 7 ≤ (cnt l).length; rw [cnt_length]; exact Nat.le_refl _

/-- Counts. -/
theorem Counts_no (l : List Int) (h : checkF l ≠ 0) : VCall Try.prog 8 [.ro (.ints .i64 l) 0 l.length] (.tup [.nil, .int .i64 (checkF l)]) := by
  refine ACall.value0 (acall_of_ax (P := Try.prog) (fn := Try.f8) rfl rfl (by kernel_rfl) rfl (fun c hR hfix => ?_)) (fix := fun _ => False) (fun _ h => h) rfl rfl
  repeat (first
    | refine ax_q (q_move rfl) ?_
    | refine ax_q (q_assign rfl) ?_
    | refine ax_q (q_loadi_rp rfl rfl rfl) ?_
    | refine ax_ops_nil ?_
    | refine ax_post_code ?_
    | refine ax_seq ?_
    | refine ax_region rfl ?_
    | refine ax_guard rfl rfl ?_
    | refine ax_skip_undef rfl rfl ?_
    | refine ax_skip_not rfl rfl rfl ?_
    | refine ax_guard_not rfl rfl rfl ?_
    | refine ax_cond_true rfl ?_
    | refine ax_cond_false rfl ?_
    | refine ax_post_blk ?_
    | refine ax_post_scope ?_
    | refine ax_post_any ?_
    | refine ax_block ?_
    | refine ax_scope ?_
    | refine ax_skip ?_
    | refine ax_label ?_
    | refine ax_exit ?_
    | refine ax_exit_here ?_
    | refine ax_exit_code ?_
    | refine ax_exit_inv ?_
    | refine ax_exit_scope ?_
    | refine ax_exit_on rfl ?_
    | refine ax_return ?_
    | refine ax_ret_code ?_
    | refine ax_ret_blk ?_
    | refine ax_ret_scope ?_
    | refine ax_ret_inv ?_
    | refine ax_q (q_loads_rp rfl rfl rfl) ?_
    | refine ax_q (q_loadf_rp rfl rfl rfl rfl) ?_
    | refine ax_q (q_loadb_ptr rfl rfl rfl rfl rfl) ?_
    | refine ax_q (q_lss rfl rfl) ?_
    | refine ax_q (q_eql rfl rfl) ?_
    | refine ax_q (q_neq rfl rfl) ?_
    | refine ax_q (q_leq rfl rfl) ?_
    | refine ax_q (q_gtr rfl rfl) ?_
    | refine ax_q (q_geq rfl rfl) ?_
    | refine ax_q (q_not rfl) ?_
    | refine ax_q (q_pick rfl rfl) ?_
    | refine ax_q (q_extract rfl rfl) ?_
    | refine ax_q (q_len rfl rfl rfl) ?_
    | refine ax_q (q_lenstr rfl rfl) ?_
    | refine ax_q (q_add rfl rfl (by omega)) ?_
    | refine ax_q (q_sub rfl rfl (by omega)) ?_
    | refine ax_q (q_index_ro' rfl rfl rfl rfl (by first | (simp only [Nat.zero_add, Int.toNat_natCast, Int.toNat_zero]; exact rfl) | exact rfl) (by omega)) ?_
    | refine ax_q (q_index_sl' rfl rfl rfl rfl rfl (by first | (simp only [Nat.zero_add, Int.toNat_natCast, Int.toNat_zero]; exact rfl) | exact rfl) (by omega)) ?_
    | refine ax_q (q_loadi_ptr rfl rfl rfl rfl (by first | assumption | omega)) ?_
    | refine ax_q (q_loads_ptr rfl rfl rfl rfl (by first | assumption | omega)) ?_
    | refine ax_q (q_loadf_ptr rfl rfl rfl rfl rfl (by first | assumption | omega)) ?_
    | refine ax_q (q_quo rfl rfl (by omega)) ?_
    | refine ax_q (q_rem rfl rfl (by omega)) ?_
    | refine ax_q (q_slice_ro rfl rfl rfl rfl rfl rfl rfl (by omega)) ?_
    | refine ax_q (q_slice_sl rfl rfl rfl rfl rfl rfl rfl rfl (by omega)) ?_
    | refine ax_q (q_eqnilnil rfl rfl rfl) ?_
    | refine ax_q (q_build rfl rfl rfl rfl rfl rfl) ?_
    | refine ax_store rfl rfl rfl rfl rfl rfl rfl (by first | assumption | (show _ < List.length _; first | assumption | omega)) ?_
    | refine ax_buildSliceRo rfl rfl rfl rfl rfl rfl rfl rfl rfl rfl rfl ?_)
  refine ax_callv rfl rfl rfl (check l) ?_
  repeat (first
    | refine ax_q (q_move rfl) ?_
    | refine ax_q (q_assign rfl) ?_
    | refine ax_q (q_loadi_rp rfl rfl rfl) ?_
    | refine ax_ops_nil ?_
    | refine ax_post_code ?_
    | refine ax_seq ?_
    | refine ax_region rfl ?_
    | refine ax_guard rfl rfl ?_
    | refine ax_skip_undef rfl rfl ?_
    | refine ax_skip_not rfl rfl rfl ?_
    | refine ax_guard_not rfl rfl rfl ?_
    | refine ax_cond_true rfl ?_
    | refine ax_cond_false rfl ?_
    | refine ax_post_blk ?_
    | refine ax_post_scope ?_
    | refine ax_post_any ?_
    | refine ax_block ?_
    | refine ax_scope ?_
    | refine ax_skip ?_
    | refine ax_label ?_
    | refine ax_exit ?_
    | refine ax_exit_here ?_
    | refine ax_exit_code ?_
    | refine ax_exit_inv ?_
    | refine ax_exit_scope ?_
    | refine ax_exit_on rfl ?_
    | refine ax_return ?_
    | refine ax_ret_code ?_
    | refine ax_ret_blk ?_
    | refine ax_ret_scope ?_
    | refine ax_ret_inv ?_
    | refine ax_q (q_loads_rp rfl rfl rfl) ?_
    | refine ax_q (q_loadf_rp rfl rfl rfl rfl) ?_
    | refine ax_q (q_loadb_ptr rfl rfl rfl rfl rfl) ?_
    | refine ax_q (q_lss rfl rfl) ?_
    | refine ax_q (q_eql rfl rfl) ?_
    | refine ax_q (q_neq rfl rfl) ?_
    | refine ax_q (q_leq rfl rfl) ?_
    | refine ax_q (q_gtr rfl rfl) ?_
    | refine ax_q (q_geq rfl rfl) ?_
    | refine ax_q (q_not rfl) ?_
    | refine ax_q (q_pick rfl rfl) ?_
    | refine ax_q (q_extract rfl rfl) ?_
    | refine ax_q (q_len rfl rfl rfl) ?_
    | refine ax_q (q_lenstr rfl rfl) ?_
    | refine ax_q (q_add rfl rfl (by omega)) ?_
    | refine ax_q (q_sub rfl rfl (by omega)) ?_
    | refine ax_q (q_index_ro' rfl rfl rfl rfl (by first | (simp only [Nat.zero_add, Int.toNat_natCast, Int.toNat_zero]; exact rfl) | exact rfl) (by omega)) ?_
    | refine ax_q (q_index_sl' rfl rfl rfl rfl rfl (by first | (simp only [Nat.zero_add, Int.toNat_natCast, Int.toNat_zero]; exact rfl) | exact rfl) (by omega)) ?_
    | refine ax_q (q_loadi_ptr rfl rfl rfl rfl (by first | assumption | omega)) ?_
    | refine ax_q (q_loads_ptr rfl rfl rfl rfl (by first | assumption | omega)) ?_
    | refine ax_q (q_loadf_ptr rfl rfl rfl rfl rfl (by first | assumption | omega)) ?_
    | refine ax_q (q_quo rfl rfl (by omega)) ?_
    | refine ax_q (q_rem rfl rfl (by omega)) ?_
    | refine ax_q (q_slice_ro rfl rfl rfl rfl rfl rfl rfl (by omega)) ?_
    | refine ax_q (q_slice_sl rfl rfl rfl rfl rfl rfl rfl rfl (by omega)) ?_
    | refine ax_q (q_eqnilnil rfl rfl rfl) ?_
    | refine ax_q (q_build rfl rfl rfl rfl rfl rfl) ?_
    | refine ax_store rfl rfl rfl rfl rfl rfl rfl (by first | assumption | (show _ < List.length _; first | assumption | omega)) ?_
    | refine ax_buildSliceRo rfl rfl rfl rfl rfl rfl rfl rfl rfl rfl rfl ?_)
  refine ax_cond_dec rfl (fun h2 => ?_) (fun h2 => absurd h h2)
  repeat (first
    | refine ax_q (q_move rfl) ?_
    | refine ax_q (q_assign rfl) ?_
    | refine ax_q (q_loadi_rp rfl rfl rfl) ?_
    | refine ax_ops_nil ?_
    | refine ax_post_code ?_
    | refine ax_seq ?_
    | refine ax_region rfl ?_
    | refine ax_guard rfl rfl ?_
    | refine ax_skip_undef rfl rfl ?_
    | refine ax_skip_not rfl rfl rfl ?_
    | refine ax_guard_not rfl rfl rfl ?_
    | refine ax_cond_true rfl ?_
    | refine ax_cond_false rfl ?_
    | refine ax_post_blk ?_
    | refine ax_post_scope ?_
    | refine ax_post_any ?_
    | refine ax_block ?_
    | refine ax_scope ?_
    | refine ax_skip ?_
    | refine ax_label ?_
    | refine ax_exit ?_
    | refine ax_exit_here ?_
    | refine ax_exit_code ?_
    | refine ax_exit_inv ?_
    | refine ax_exit_scope ?_
    | refine ax_exit_on rfl ?_
    | refine ax_return ?_
    | refine ax_ret_code ?_
    | refine ax_ret_blk ?_
    | refine ax_ret_scope ?_
    | refine ax_ret_inv ?_
    | refine ax_q (q_loads_rp rfl rfl rfl) ?_
    | refine ax_q (q_loadf_rp rfl rfl rfl rfl) ?_
    | refine ax_q (q_loadb_ptr rfl rfl rfl rfl rfl) ?_
    | refine ax_q (q_lss rfl rfl) ?_
    | refine ax_q (q_eql rfl rfl) ?_
    | refine ax_q (q_neq rfl rfl) ?_
    | refine ax_q (q_leq rfl rfl) ?_
    | refine ax_q (q_gtr rfl rfl) ?_
    | refine ax_q (q_geq rfl rfl) ?_
    | refine ax_q (q_not rfl) ?_
    | refine ax_q (q_pick rfl rfl) ?_
    | refine ax_q (q_extract rfl rfl) ?_
    | refine ax_q (q_len rfl rfl rfl) ?_
    | refine ax_q (q_lenstr rfl rfl) ?_
    | refine ax_q (q_add rfl rfl (by omega)) ?_
    | refine ax_q (q_sub rfl rfl (by omega)) ?_
    | refine ax_q (q_index_ro' rfl rfl rfl rfl (by first | (simp only [Nat.zero_add, Int.toNat_natCast, Int.toNat_zero]; exact rfl) | exact rfl) (by omega)) ?_
    | refine ax_q (q_index_sl' rfl rfl rfl rfl rfl (by first | (simp only [Nat.zero_add, Int.toNat_natCast, Int.toNat_zero]; exact rfl) | exact rfl) (by omega)) ?_
    | refine ax_q (q_loadi_ptr rfl rfl rfl rfl (by first | assumption | omega)) ?_
    | refine ax_q (q_loads_ptr rfl rfl rfl rfl (by first | assumption | omega)) ?_
    | refine ax_q (q_loadf_ptr rfl rfl rfl rfl rfl (by first | assumption | omega)) ?_
    | refine ax_q (q_quo rfl rfl (by omega)) ?_
    | refine ax_q (q_rem rfl rfl (by omega)) ?_
    | refine ax_q (q_slice_ro rfl rfl rfl rfl rfl rfl rfl (by omega)) ?_
    | refine ax_q (q_slice_sl rfl rfl rfl rfl rfl rfl rfl rfl (by omega)) ?_
    | refine ax_q (q_eqnilnil rfl rfl rfl) ?_
    | refine ax_q (q_build rfl rfl rfl rfl rfl rfl) ?_
    | refine ax_store rfl rfl rfl rfl rfl rfl rfl (by first | assumption | (show _ < List.length _; first | assumption | omega)) ?_
    | refine ax_buildSliceRo rfl rfl rfl rfl rfl rfl rfl rfl rfl rfl rfl ?_)
  exact ax_ret hR rfl rfl
theorem Counts_ok (l : List Int) (h : checkF l = 0) : VCall Try.prog 8 [.ro (.ints .i64 l) 0 l.length] (.tup [.ro (.ints .i64 (cnt l)) 0 7, .int .i64 0]) := by
  refine ACall.value (K := fun r H => r = .tup [.sl 0 0 7, .int .i64 0] ∧ H = [some ⟨3, .ints .i64 (cnt l)⟩]) (acall_of_ax (P := Try.prog) (fn := Try.f8) rfl rfl (by kernel_rfl) rfl (fun c hR hfix => ?_)) (fix := fun _ => False) (fun _ h => h) rfl ?_
  · repeat (first
      | refine ax_q (q_move rfl) ?_
      | refine ax_q (q_assign rfl) ?_
      | refine ax_q (q_loadi_rp rfl rfl rfl) ?_
      | refine ax_ops_nil ?_
      | refine ax_post_code ?_
      | refine ax_seq ?_
      | refine ax_region rfl ?_
      | refine ax_guard rfl rfl ?_
      | refine ax_skip_undef rfl rfl ?_
      | refine ax_skip_not rfl rfl rfl ?_
      | refine ax_guard_not rfl rfl rfl ?_
      | refine ax_cond_true rfl ?_
      | refine ax_cond_false rfl ?_
      | refine ax_post_blk ?_
      | refine ax_post_scope ?_
      | refine ax_post_any ?_
      | refine ax_block ?_
      | refine ax_scope ?_
      | refine ax_skip ?_
      | refine ax_label ?_
      | refine ax_exit ?_
      | refine ax_exit_here ?_
      | refine ax_exit_code ?_
      | refine ax_exit_inv ?_
      | refine ax_exit_scope ?_
      | refine ax_exit_on rfl ?_
      | refine ax_return ?_
      | refine ax_ret_code ?_
      | refine ax_ret_blk ?_
      | refine ax_ret_scope ?_
      | refine ax_ret_inv ?_
      | refine ax_q (q_loads_rp rfl rfl rfl) ?_
      | refine ax_q (q_loadf_rp rfl rfl rfl rfl) ?_
      | refine ax_q (q_loadb_ptr rfl rfl rfl rfl rfl) ?_
      | refine ax_q (q_lss rfl rfl) ?_
      | refine ax_q (q_eql rfl rfl) ?_
      | refine ax_q (q_neq rfl rfl) ?_
      | refine ax_q (q_leq rfl rfl) ?_
      | refine ax_q (q_gtr rfl rfl) ?_
      | refine ax_q (q_geq rfl rfl) ?_
      | refine ax_q (q_not rfl) ?_
      | refine ax_q (q_pick rfl rfl) ?_
      | refine ax_q (q_extract rfl rfl) ?_
      | refine ax_q (q_len rfl rfl rfl) ?_
      | refine ax_q (q_lenstr rfl rfl) ?_
      | refine ax_q (q_add rfl rfl (by omega)) ?_
      | refine ax_q (q_sub rfl rfl (by omega)) ?_
      | refine ax_q (q_index_ro' rfl rfl rfl rfl (by first | (simp only [Nat.zero_add, Int.toNat_natCast, Int.toNat_zero]; exact rfl) | exact rfl) (by omega)) ?_
      | refine ax_q (q_index_sl' rfl rfl rfl rfl rfl (by first | (simp only [Nat.zero_add, Int.toNat_natCast, Int.toNat_zero]; exact rfl) | exact rfl) (by omega)) ?_
      | refine ax_q (q_loadi_ptr rfl rfl rfl rfl (by first | assumption | omega)) ?_
      | refine ax_q (q_loads_ptr rfl rfl rfl rfl (by first | assumption | omega)) ?_
      | refine ax_q (q_loadf_ptr rfl rfl rfl rfl rfl (by first | assumption | omega)) ?_
      | refine ax_q (q_quo rfl rfl (by omega)) ?_
      | refine ax_q (q_rem rfl rfl (by omega)) ?_
      | refine ax_q (q_slice_ro rfl rfl rfl rfl rfl rfl rfl (by omega)) ?_
      | refine ax_q (q_slice_sl rfl rfl rfl rfl rfl rfl rfl rfl (by omega)) ?_
      | refine ax_q (q_eqnilnil rfl rfl rfl) ?_
      | refine ax_q (q_build rfl rfl rfl rfl rfl rfl) ?_
      | refine ax_store rfl rfl rfl rfl rfl rfl rfl (by first | assumption | (show _ < List.length _; first | assumption | omega)) ?_
      | refine ax_buildSliceRo rfl rfl rfl rfl rfl rfl rfl rfl rfl rfl rfl ?_)
    refine ax_callv rfl rfl rfl (check l) ?_
    rw [h]
    repeat (first
      | refine ax_q (q_move rfl) ?_
      | refine ax_q (q_assign rfl) ?_
      | refine ax_q (q_loadi_rp rfl rfl rfl) ?_
      | refine ax_ops_nil ?_
      | refine ax_post_code ?_
      | refine ax_seq ?_
      | refine ax_region rfl ?_
      | refine ax_guard rfl rfl ?_
      | refine ax_skip_undef rfl rfl ?_
      | refine ax_skip_not rfl rfl rfl ?_
      | refine ax_guard_not rfl rfl rfl ?_
      | refine ax_cond_true rfl ?_
      | refine ax_cond_false rfl ?_
      | refine ax_post_blk ?_
      | refine ax_post_scope ?_
      | refine ax_post_any ?_
      | refine ax_block ?_
      | refine ax_scope ?_
      | refine ax_skip ?_
      | refine ax_label ?_
      | refine ax_exit ?_
      | refine ax_exit_here ?_
      | refine ax_exit_code ?_
      | refine ax_exit_inv ?_
      | refine ax_exit_scope ?_
      | refine ax_exit_on rfl ?_
      | refine ax_return ?_
      | refine ax_ret_code ?_
      | refine ax_ret_blk ?_
      | refine ax_ret_scope ?_
      | refine ax_ret_inv ?_
      | refine ax_q (q_loads_rp rfl rfl rfl) ?_
      | refine ax_q (q_loadf_rp rfl rfl rfl rfl) ?_
      | refine ax_q (q_loadb_ptr rfl rfl rfl rfl rfl) ?_
      | refine ax_q (q_lss rfl rfl) ?_
      | refine ax_q (q_eql rfl rfl) ?_
      | refine ax_q (q_neq rfl rfl) ?_
      | refine ax_q (q_leq rfl rfl) ?_
      | refine ax_q (q_gtr rfl rfl) ?_
      | refine ax_q (q_geq rfl rfl) ?_
      | refine ax_q (q_not rfl) ?_
      | refine ax_q (q_pick rfl rfl) ?_
      | refine ax_q (q_extract rfl rfl) ?_
      | refine ax_q (q_len rfl rfl rfl) ?_
      | refine ax_q (q_lenstr rfl rfl) ?_
      | refine ax_q (q_add rfl rfl (by omega)) ?_
      | refine ax_q (q_sub rfl rfl (by omega)) ?_
      | refine ax_q (q_index_ro' rfl rfl rfl rfl (by first | (simp only [Nat.zero_add, Int.toNat_natCast, Int.toNat_zero]; exact rfl) | exact rfl) (by omega)) ?_
      | refine ax_q (q_index_sl' rfl rfl rfl rfl rfl (by first | (simp only [Nat.zero_add, Int.toNat_natCast, Int.toNat_zero]; exact rfl) | exact rfl) (by omega)) ?_
      | refine ax_q (q_loadi_ptr rfl rfl rfl rfl (by first | assumption | omega)) ?_
      | refine ax_q (q_loads_ptr rfl rfl rfl rfl (by first | assumption | omega)) ?_
      | refine ax_q (q_loadf_ptr rfl rfl rfl rfl rfl (by first | assumption | omega)) ?_
      | refine ax_q (q_quo rfl rfl (by omega)) ?_
      | refine ax_q (q_rem rfl rfl (by omega)) ?_
      | refine ax_q (q_slice_ro rfl rfl rfl rfl rfl rfl rfl (by omega)) ?_
      | refine ax_q (q_slice_sl rfl rfl rfl rfl rfl rfl rfl rfl (by omega)) ?_
      | refine ax_q (q_eqnilnil rfl rfl rfl) ?_
      | refine ax_q (q_build rfl rfl rfl rfl rfl rfl) ?_
      | refine ax_store rfl rfl rfl rfl rfl rfl rfl (by first | assumption | (show _ < List.length _; first | assumption | omega)) ?_
      | refine ax_buildSliceRo rfl rfl rfl rfl rfl rfl rfl rfl rfl rfl rfl ?_)
    refine ax_callf rfl rfl rfl (countsI l h) ?_
    repeat (first
      | refine ax_q (q_move rfl) ?_
      | refine ax_q (q_assign rfl) ?_
      | refine ax_q (q_loadi_rp rfl rfl rfl) ?_
      | refine ax_ops_nil ?_
      | refine ax_post_code ?_
      | refine ax_seq ?_
      | refine ax_region rfl ?_
      | refine ax_guard rfl rfl ?_
      | refine ax_skip_undef rfl rfl ?_
      | refine ax_skip_not rfl rfl rfl ?_
      | refine ax_guard_not rfl rfl rfl ?_
      | refine ax_cond_true rfl ?_
      | refine ax_cond_false rfl ?_
      | refine ax_post_blk ?_
      | refine ax_post_scope ?_
      | refine ax_post_any ?_
      | refine ax_block ?_
      | refine ax_scope ?_
      | refine ax_skip ?_
      | refine ax_label ?_
      | refine ax_exit ?_
      | refine ax_exit_here ?_
      | refine ax_exit_code ?_
      | refine ax_exit_inv ?_
      | refine ax_exit_scope ?_
      | refine ax_exit_on rfl ?_
      | refine ax_return ?_
      | refine ax_ret_code ?_
      | refine ax_ret_blk ?_
      | refine ax_ret_scope ?_
      | refine ax_ret_inv ?_
      | refine ax_q (q_loads_rp rfl rfl rfl) ?_
      | refine ax_q (q_loadf_rp rfl rfl rfl rfl) ?_
      | refine ax_q (q_loadb_ptr rfl rfl rfl rfl rfl) ?_
      | refine ax_q (q_lss rfl rfl) ?_
      | refine ax_q (q_eql rfl rfl) ?_
      | refine ax_q (q_neq rfl rfl) ?_
      | refine ax_q (q_leq rfl rfl) ?_
      | refine ax_q (q_gtr rfl rfl) ?_
      | refine ax_q (q_geq rfl rfl) ?_
      | refine ax_q (q_not rfl) ?_
      | refine ax_q (q_pick rfl rfl) ?_
      | refine ax_q (q_extract rfl rfl) ?_
      | refine ax_q (q_len rfl rfl rfl) ?_
      | refine ax_q (q_lenstr rfl rfl) ?_
      | refine ax_q (q_add rfl rfl (by omega)) ?_
      | refine ax_q (q_sub rfl rfl (by omega)) ?_
      | refine ax_q (q_index_ro' rfl rfl rfl rfl (by first | (simp only [Nat.zero_add, Int.toNat_natCast, Int.toNat_zero]; exact rfl) | exact rfl) (by omega)) ?_
      | refine ax_q (q_index_sl' rfl rfl rfl rfl rfl (by first | (simp only [Nat.zero_add, Int.toNat_natCast, Int.toNat_zero]; exact rfl) | exact rfl) (by omega)) ?_
      | refine ax_q (q_loadi_ptr rfl rfl rfl rfl (by first | assumption | omega)) ?_
      | refine ax_q (q_loads_ptr rfl rfl rfl rfl (by first | assumption | omega)) ?_
      | refine ax_q (q_loadf_ptr rfl rfl rfl rfl rfl (by first | assumption | omega)) ?_
      | refine ax_q (q_quo rfl rfl (by omega)) ?_
      | refine ax_q (q_rem rfl rfl (by omega)) ?_
      | refine ax_q (q_slice_ro rfl rfl rfl rfl rfl rfl rfl (by omega)) ?_
      | refine ax_q (q_slice_sl rfl rfl rfl rfl rfl rfl rfl rfl (by omega)) ?_
      | refine ax_q (q_eqnilnil rfl rfl rfl) ?_
      | refine ax_q (q_build rfl rfl rfl rfl rfl rfl) ?_
      | refine ax_store rfl rfl rfl rfl rfl rfl rfl (by first | assumption | (show _ < List.length _; first | assumption | omega)) ?_
      | refine ax_buildSliceRo rfl rfl rfl rfl rfl rfl rfl rfl rfl rfl rfl ?_)
    exact ax_ret hR rfl ⟨rfl, rfl⟩
  · rintro r H ⟨rfl, rfl⟩
    refine ⟨rfl, ?_, fun h o ho => refl1 refless_ints h o ho⟩
    refine ⟨?_, trivial, trivial⟩; intro o ho; simp at ho; subst ho; show 7 ≤ (cnt l).length; rw [cnt_length]; exact Nat.le_refl _
theorem Count_no (l : List Int) (h : checkCountsF l ≠ 0) : VCall Try.prog 9 [.ro (.ints .i64 l) 0 l.length] (.tup [.int .i64 0, .int .i64 (checkCountsF l)]) := by
  refine ACall.value0 (acall_of_ax (P := Try.prog) (fn := Try.f9) rfl rfl (by kernel_rfl) rfl (fun c hR hfix => ?_)) (fix := fun _ => False) (fun _ h => h) rfl rfl
  repeat (first
    | refine ax_q (q_move rfl) ?_
    | refine ax_q (q_assign rfl) ?_
    | refine ax_q (q_loadi_rp rfl rfl rfl) ?_
    | refine ax_ops_nil ?_
    | refine ax_post_code ?_
    | refine ax_seq ?_
    | refine ax_region rfl ?_
    | refine ax_guard rfl rfl ?_
    | refine ax_skip_undef rfl rfl ?_
    | refine ax_skip_not rfl rfl rfl ?_
    | refine ax_guard_not rfl rfl rfl ?_
    | refine ax_cond_true rfl ?_
    | refine ax_cond_false rfl ?_
    | refine ax_post_blk ?_
    | refine ax_post_scope ?_
    | refine ax_post_any ?_
    | refine ax_block ?_
    | refine ax_scope ?_
    | refine ax_skip ?_
    | refine ax_label ?_
    | refine ax_exit ?_
    | refine ax_exit_here ?_
    | refine ax_exit_code ?_
    | refine ax_exit_inv ?_
    | refine ax_exit_scope ?_
    | refine ax_exit_on rfl ?_
    | refine ax_return ?_
    | refine ax_ret_code ?_
    | refine ax_ret_blk ?_
    | refine ax_ret_scope ?_
    | refine ax_ret_inv ?_
    | refine ax_q (q_loads_rp rfl rfl rfl) ?_
    | refine ax_q (q_loadf_rp rfl rfl rfl rfl) ?_
    | refine ax_q (q_loadb_ptr rfl rfl rfl rfl rfl) ?_
    | refine ax_q (q_lss rfl rfl) ?_
    | refine ax_q (q_eql rfl rfl) ?_
    | refine ax_q (q_neq rfl rfl) ?_
    | refine ax_q (q_leq rfl rfl) ?_
    | refine ax_q (q_gtr rfl rfl) ?_
    | refine ax_q (q_geq rfl rfl) ?_
    | refine ax_q (q_not rfl) ?_
    | refine ax_q (q_pick rfl rfl) ?_
    | refine ax_q (q_extract rfl rfl) ?_
    | refine ax_q (q_len rfl rfl rfl) ?_
    | refine ax_q (q_lenstr rfl rfl) ?_
    | refine ax_q (q_add rfl rfl (by omega)) ?_
    | refine ax_q (q_sub rfl rfl (by omega)) ?_
    | refine ax_q (q_index_ro' rfl rfl rfl rfl (by first | (simp only [Nat.zero_add, Int.toNat_natCast, Int.toNat_zero]; exact rfl) | exact rfl) (by omega)) ?_
    | refine ax_q (q_index_sl' rfl rfl rfl rfl rfl (by first | (simp only [Nat.zero_add, Int.toNat_natCast, Int.toNat_zero]; exact rfl) | exact rfl) (by omega)) ?_
    | refine ax_q (q_loadi_ptr rfl rfl rfl rfl (by first | assumption | omega)) ?_
    | refine ax_q (q_loads_ptr rfl rfl rfl rfl (by first | assumption | omega)) ?_
    | refine ax_q (q_loadf_ptr rfl rfl rfl rfl rfl (by first | assumption | omega)) ?_
    | refine ax_q (q_quo rfl rfl (by omega)) ?_
    | refine ax_q (q_rem rfl rfl (by omega)) ?_
    | refine ax_q (q_slice_ro rfl rfl rfl rfl rfl rfl rfl (by omega)) ?_
    | refine ax_q (q_slice_sl rfl rfl rfl rfl rfl rfl rfl rfl (by omega)) ?_
    | refine ax_q (q_eqnilnil rfl rfl rfl) ?_
    | refine ax_q (q_build rfl rfl rfl rfl rfl rfl) ?_
    | refine ax_store rfl rfl rfl rfl rfl rfl rfl (by first | assumption | (show _ < List.length _; first | assumption | omega)) ?_
    | refine ax_buildSliceRo rfl rfl rfl rfl rfl rfl rfl rfl rfl rfl rfl ?_)
  refine ax_callv rfl rfl rfl (checkCounts l) ?_
  repeat (first
    | refine ax_q (q_move rfl) ?_
    | refine ax_q (q_assign rfl) ?_
    | refine ax_q (q_loadi_rp rfl rfl rfl) ?_
    | refine ax_ops_nil ?_
    | refine ax_post_code ?_
    | refine ax_seq ?_
    | refine ax_region rfl ?_
    | refine ax_guard rfl rfl ?_
    | refine ax_skip_undef rfl rfl ?_
    | refine ax_skip_not rfl rfl rfl ?_
    | refine ax_guard_not rfl rfl rfl ?_
    | refine ax_cond_true rfl ?_
    | refine ax_cond_false rfl ?_
    | refine ax_post_blk ?_
    | refine ax_post_scope ?_
    | refine ax_post_any ?_
    | refine ax_block ?_
    | refine ax_scope ?_
    | refine ax_skip ?_
    | refine ax_label ?_
    | refine ax_exit ?_
    | refine ax_exit_here ?_
    | refine ax_exit_code ?_
    | refine ax_exit_inv ?_
    | refine ax_exit_scope ?_
    | refine ax_exit_on rfl ?_
    | refine ax_return ?_
    | refine ax_ret_code ?_
    | refine ax_ret_blk ?_
    | refine ax_ret_scope ?_
    | refine ax_ret_inv ?_
    | refine ax_q (q_loads_rp rfl rfl rfl) ?_
    | refine ax_q (q_loadf_rp rfl rfl rfl rfl) ?_
    | refine ax_q (q_loadb_ptr rfl rfl rfl rfl rfl) ?_
    | refine ax_q (q_lss rfl rfl) ?_
    | refine ax_q (q_eql rfl rfl) ?_
    | refine ax_q (q_neq rfl rfl) ?_
    | refine ax_q (q_leq rfl rfl) ?_
    | refine ax_q (q_gtr rfl rfl) ?_
    | refine ax_q (q_geq rfl rfl) ?_
    | refine ax_q (q_not rfl) ?_
    | refine ax_q (q_pick rfl rfl) ?_
    | refine ax_q (q_extract rfl rfl) ?_
    | refine ax_q (q_len rfl rfl rfl) ?_
    | refine ax_q (q_lenstr rfl rfl) ?_
    | refine ax_q (q_add rfl rfl (by omega)) ?_
    | refine ax_q (q_sub rfl rfl (by omega)) ?_
    | refine ax_q (q_index_ro' rfl rfl rfl rfl (by first | (simp only [Nat.zero_add, Int.toNat_natCast, Int.toNat_zero]; exact rfl) | exact rfl) (by omega)) ?_
    | refine ax_q (q_index_sl' rfl rfl rfl rfl rfl (by first | (simp only [Nat.zero_add, Int.toNat_natCast, Int.toNat_zero]; exact rfl) | exact rfl) (by omega)) ?_
    | refine ax_q (q_loadi_ptr rfl rfl rfl rfl (by first | assumption | omega)) ?_
    | refine ax_q (q_loads_ptr rfl rfl rfl rfl (by first | assumption | omega)) ?_
    | refine ax_q (q_loadf_ptr rfl rfl rfl rfl rfl (by first | assumption | omega)) ?_
    | refine ax_q (q_quo rfl rfl (by omega)) ?_
    | refine ax_q (q_rem rfl rfl (by omega)) ?_
    | refine ax_q (q_slice_ro rfl rfl rfl rfl rfl rfl rfl (by omega)) ?_
    | refine ax_q (q_slice_sl rfl rfl rfl rfl rfl rfl rfl rfl (by omega)) ?_
    | refine ax_q (q_eqnilnil rfl rfl rfl) ?_
    | refine ax_q (q_build rfl rfl rfl rfl rfl rfl) ?_
    | refine ax_store rfl rfl rfl rfl rfl rfl rfl (by first | assumption | (show _ < List.length _; first | assumption | omega)) ?_
    | refine ax_buildSliceRo rfl rfl rfl rfl rfl rfl rfl rfl rfl rfl rfl ?_)
  refine ax_cond_dec rfl (fun h2 => ?_) (fun h2 => absurd h h2)
  repeat (first
    | refine ax_q (q_move rfl) ?_
    | refine ax_q (q_assign rfl) ?_
    | refine ax_q (q_loadi_rp rfl rfl rfl) ?_
    | refine ax_ops_nil ?_
    | refine ax_post_code ?_
    | refine ax_seq ?_
    | refine ax_region rfl ?_
    | refine ax_guard rfl rfl ?_
    | refine ax_skip_undef rfl rfl ?_
    | refine ax_skip_not rfl rfl rfl ?_
    | refine ax_guard_not rfl rfl rfl ?_
    | refine ax_cond_true rfl ?_
    | refine ax_cond_false rfl ?_
    | refine ax_post_blk ?_
    | refine ax_post_scope ?_
    | refine ax_post_any ?_
    | refine ax_block ?_
    | refine ax_scope ?_
    | refine ax_skip ?_
    | refine ax_label ?_
    | refine ax_exit ?_
    | refine ax_exit_here ?_
    | refine ax_exit_code ?_
    | refine ax_exit_inv ?_
    | refine ax_exit_scope ?_
    | refine ax_exit_on rfl ?_
    | refine ax_return ?_
    | refine ax_ret_code ?_
    | refine ax_ret_blk ?_
    | refine ax_ret_scope ?_
    | refine ax_ret_inv ?_
    | refine ax_q (q_loads_rp rfl rfl rfl) ?_
    | refine ax_q (q_loadf_rp rfl rfl rfl rfl) ?_
    | refine ax_q (q_loadb_ptr rfl rfl rfl rfl rfl) ?_
    | refine ax_q (q_lss rfl rfl) ?_
    | refine ax_q (q_eql rfl rfl) ?_
    | refine ax_q (q_neq rfl rfl) ?_
    | refine ax_q (q_leq rfl rfl) ?_
    | refine ax_q (q_gtr rfl rfl) ?_
    | refine ax_q (q_geq rfl rfl) ?_
    | refine ax_q (q_not rfl) ?_
    | refine ax_q (q_pick rfl rfl) ?_
    | refine ax_q (q_extract rfl rfl) ?_
    | refine ax_q (q_len rfl rfl rfl) ?_
    | refine ax_q (q_lenstr rfl rfl) ?_
    | refine ax_q (q_add rfl rfl (by omega)) ?_
    | refine ax_q (q_sub rfl rfl (by omega)) ?_
    | refine ax_q (q_index_ro' rfl rfl rfl rfl (by first | (simp only [Nat.zero_add, Int.toNat_natCast, Int.toNat_zero]; exact rfl) | exact rfl) (by omega)) ?_
    | refine ax_q (q_index_sl' rfl rfl rfl rfl rfl (by first | (simp only [Nat.zero_add, Int.toNat_natCast, Int.toNat_zero]; exact rfl) | exact rfl) (by omega)) ?_
    | refine ax_q (q_loadi_ptr rfl rfl rfl rfl (by first | assumption | omega)) ?_
    | refine ax_q (q_loads_ptr rfl rfl rfl rfl (by first | assumption | omega)) ?_
    | refine ax_q (q_loadf_ptr rfl rfl rfl rfl rfl (by first | assumption | omega)) ?_
    | refine ax_q (q_quo rfl rfl (by omega)) ?_
    | refine ax_q (q_rem rfl rfl (by omega)) ?_
    | refine ax_q (q_slice_ro rfl rfl rfl rfl rfl rfl rfl (by omega)) ?_
    | refine ax_q (q_slice_sl rfl rfl rfl rfl rfl rfl rfl rfl (by omega)) ?_
    | refine ax_q (q_eqnilnil rfl rfl rfl) ?_
    | refine ax_q (q_build rfl rfl rfl rfl rfl rfl) ?_
    | refine ax_store rfl rfl rfl rfl rfl rfl rfl (by first | assumption | (show _ < List.length _; first | assumption | omega)) ?_
    | refine ax_buildSliceRo rfl rfl rfl rfl rfl rfl rfl rfl rfl rfl rfl ?_)
  exact ax_ret hR rfl rfl
theorem checkCountsF_ok {l : List Int} (h : checkCountsF l = 0) : l.length = 7 ∧ (∀ x ∈ l, 0 ≤ x ∧ x ≤ 16) ∧ l.sum ≤ 16 := by
  unfold checkCountsF at h
  split at h
  · omega
  · split at h
    · omega
    · split at h
      · omega
      · rename_i h1 h2 h3
        refine ⟨by omega, fun x hx => ?_, by omega⟩
        have : outC x = false := by
          cases e : outC x
          · rfl
          · exact absurd (List.any_eq_true.mpr ⟨x, hx, e⟩) h2
        unfold outC at this
        have := of_decide_eq_false this
        omega
theorem Count_ok (l : List Int) (h : checkCountsF l = 0) : VCall Try.prog 9 [.ro (.ints .i64 l) 0 l.length] (.tup [.int .i64 (waysF l), .int .i64 0]) := by
  obtain ⟨h1, h2, h3⟩ := checkCountsF_ok h
  refine ACall.value0 (acall_of_ax (P := Try.prog) (fn := Try.f9) rfl rfl (by kernel_rfl) rfl (fun c hR hfix => ?_)) (fix := fun _ => False) (fun _ h => h) rfl rfl
  repeat (first
    | refine ax_q (q_move rfl) ?_
    | refine ax_q (q_assign rfl) ?_
    | refine ax_q (q_loadi_rp rfl rfl rfl) ?_
    | refine ax_ops_nil ?_
    | refine ax_post_code ?_
    | refine ax_seq ?_
    | refine ax_region rfl ?_
    | refine ax_guard rfl rfl ?_
    | refine ax_skip_undef rfl rfl ?_
    | refine ax_skip_not rfl rfl rfl ?_
    | refine ax_guard_not rfl rfl rfl ?_
    | refine ax_cond_true rfl ?_
    | refine ax_cond_false rfl ?_
    | refine ax_post_blk ?_
    | refine ax_post_scope ?_
    | refine ax_post_any ?_
    | refine ax_block ?_
    | refine ax_scope ?_
    | refine ax_skip ?_
    | refine ax_label ?_
    | refine ax_exit ?_
    | refine ax_exit_here ?_
    | refine ax_exit_code ?_
    | refine ax_exit_inv ?_
    | refine ax_exit_scope ?_
    | refine ax_exit_on rfl ?_
    | refine ax_return ?_
    | refine ax_ret_code ?_
    | refine ax_ret_blk ?_
    | refine ax_ret_scope ?_
    | refine ax_ret_inv ?_
    | refine ax_q (q_loads_rp rfl rfl rfl) ?_
    | refine ax_q (q_loadf_rp rfl rfl rfl rfl) ?_
    | refine ax_q (q_loadb_ptr rfl rfl rfl rfl rfl) ?_
    | refine ax_q (q_lss rfl rfl) ?_
    | refine ax_q (q_eql rfl rfl) ?_
    | refine ax_q (q_neq rfl rfl) ?_
    | refine ax_q (q_leq rfl rfl) ?_
    | refine ax_q (q_gtr rfl rfl) ?_
    | refine ax_q (q_geq rfl rfl) ?_
    | refine ax_q (q_not rfl) ?_
    | refine ax_q (q_pick rfl rfl) ?_
    | refine ax_q (q_extract rfl rfl) ?_
    | refine ax_q (q_len rfl rfl rfl) ?_
    | refine ax_q (q_lenstr rfl rfl) ?_
    | refine ax_q (q_add rfl rfl (by omega)) ?_
    | refine ax_q (q_sub rfl rfl (by omega)) ?_
    | refine ax_q (q_index_ro' rfl rfl rfl rfl (by first | (simp only [Nat.zero_add, Int.toNat_natCast, Int.toNat_zero]; exact rfl) | exact rfl) (by omega)) ?_
    | refine ax_q (q_index_sl' rfl rfl rfl rfl rfl (by first | (simp only [Nat.zero_add, Int.toNat_natCast, Int.toNat_zero]; exact rfl) | exact rfl) (by omega)) ?_
    | refine ax_q (q_loadi_ptr rfl rfl rfl rfl (by first | assumption | omega)) ?_
    | refine ax_q (q_loads_ptr rfl rfl rfl rfl (by first | assumption | omega)) ?_
    | refine ax_q (q_loadf_ptr rfl rfl rfl rfl rfl (by first | assumption | omega)) ?_
    | refine ax_q (q_quo rfl rfl (by omega)) ?_
    | refine ax_q (q_rem rfl rfl (by omega)) ?_
    | refine ax_q (q_slice_ro rfl rfl rfl rfl rfl rfl rfl (by omega)) ?_
    | refine ax_q (q_slice_sl rfl rfl rfl rfl rfl rfl rfl rfl (by omega)) ?_
    | refine ax_q (q_eqnilnil rfl rfl rfl) ?_
    | refine ax_q (q_build rfl rfl rfl rfl rfl rfl) ?_
    | refine ax_store rfl rfl rfl rfl rfl rfl rfl (by first | assumption | (show _ < List.length _; first | assumption | omega)) ?_
    | refine ax_buildSliceRo rfl rfl rfl rfl rfl rfl rfl rfl rfl rfl rfl ?_)
  refine ax_callv rfl rfl rfl (checkCounts l) ?_
  rw [h]
  repeat (first
    | refine ax_q (q_move rfl) ?_
    | refine ax_q (q_assign rfl) ?_
    | refine ax_q (q_loadi_rp rfl rfl rfl) ?_
    | refine ax_ops_nil ?_
    | refine ax_post_code ?_
    | refine ax_seq ?_
    | refine ax_region rfl ?_
    | refine ax_guard rfl rfl ?_
    | refine ax_skip_undef rfl rfl ?_
    | refine ax_skip_not rfl rfl rfl ?_
    | refine ax_guard_not rfl rfl rfl ?_
    | refine ax_cond_true rfl ?_
    | refine ax_cond_false rfl ?_
    | refine ax_post_blk ?_
    | refine ax_post_scope ?_
    | refine ax_post_any ?_
    | refine ax_block ?_
    | refine ax_scope ?_
    | refine ax_skip ?_
    | refine ax_label ?_
    | refine ax_exit ?_
    | refine ax_exit_here ?_
    | refine ax_exit_code ?_
    | refine ax_exit_inv ?_
    | refine ax_exit_scope ?_
    | refine ax_exit_on rfl ?_
    | refine ax_return ?_
    | refine ax_ret_code ?_
    | refine ax_ret_blk ?_
    | refine ax_ret_scope ?_
    | refine ax_ret_inv ?_
    | refine ax_q (q_loads_rp rfl rfl rfl) ?_
    | refine ax_q (q_loadf_rp rfl rfl rfl rfl) ?_
    | refine ax_q (q_loadb_ptr rfl rfl rfl rfl rfl) ?_
    | refine ax_q (q_lss rfl rfl) ?_
    | refine ax_q (q_eql rfl rfl) ?_
    | refine ax_q (q_neq rfl rfl) ?_
    | refine ax_q (q_leq rfl rfl) ?_
    | refine ax_q (q_gtr rfl rfl) ?_
    | refine ax_q (q_geq rfl rfl) ?_
    | refine ax_q (q_not rfl) ?_
    | refine ax_q (q_pick rfl rfl) ?_
    | refine ax_q (q_extract rfl rfl) ?_
    | refine ax_q (q_len rfl rfl rfl) ?_
    | refine ax_q (q_lenstr rfl rfl) ?_
    | refine ax_q (q_add rfl rfl (by omega)) ?_
    | refine ax_q (q_sub rfl rfl (by omega)) ?_
    | refine ax_q (q_index_ro' rfl rfl rfl rfl (by first | (simp only [Nat.zero_add, Int.toNat_natCast, Int.toNat_zero]; exact rfl) | exact rfl) (by omega)) ?_
    | refine ax_q (q_index_sl' rfl rfl rfl rfl rfl (by first | (simp only [Nat.zero_add, Int.toNat_natCast, Int.toNat_zero]; exact rfl) | exact rfl) (by omega)) ?_
    | refine ax_q (q_loadi_ptr rfl rfl rfl rfl (by first | assumption | omega)) ?_
    | refine ax_q (q_loads_ptr rfl rfl rfl rfl (by first | assumption | omega)) ?_
    | refine ax_q (q_loadf_ptr rfl rfl rfl rfl rfl (by first | assumption | omega)) ?_
    | refine ax_q (q_quo rfl rfl (by omega)) ?_
    | refine ax_q (q_rem rfl rfl (by omega)) ?_
    | refine ax_q (q_slice_ro rfl rfl rfl rfl rfl rfl rfl (by omega)) ?_
    | refine ax_q (q_slice_sl rfl rfl rfl rfl rfl rfl rfl rfl (by omega)) ?_
    | refine ax_q (q_eqnilnil rfl rfl rfl) ?_
    | refine ax_q (q_build rfl rfl rfl rfl rfl rfl) ?_
    | refine ax_store rfl rfl rfl rfl rfl rfl rfl (by first | assumption | (show _ < List.length _; first | assumption | omega)) ?_
    | refine ax_buildSliceRo rfl rfl rfl rfl rfl rfl rfl rfl rfl rfl rfl ?_)
  refine ax_callv rfl rfl rfl (ways l (fun x hx => (h2 x hx).1) h3 (by omega)) ?_
  repeat (first
    | refine ax_q (q_move rfl) ?_
    | refine ax_q (q_assign rfl) ?_
    | refine ax_q (q_loadi_rp rfl rfl rfl) ?_
    | refine ax_ops_nil ?_
    | refine ax_post_code ?_
    | refine ax_seq ?_
    | refine ax_region rfl ?_
    | refine ax_guard rfl rfl ?_
    | refine ax_skip_undef rfl rfl ?_
    | refine ax_skip_not rfl rfl rfl ?_
    | refine ax_guard_not rfl rfl rfl ?_
    | refine ax_cond_true rfl ?_
    | refine ax_cond_false rfl ?_
    | refine ax_post_blk ?_
    | refine ax_post_scope ?_
    | refine ax_post_any ?_
    | refine ax_block ?_
    | refine ax_scope ?_
    | refine ax_skip ?_
    | refine ax_label ?_
    | refine ax_exit ?_
    | refine ax_exit_here ?_
    | refine ax_exit_code ?_
    | refine ax_exit_inv ?_
    | refine ax_exit_scope ?_
    | refine ax_exit_on rfl ?_
    | refine ax_return ?_
    | refine ax_ret_code ?_
    | refine ax_ret_blk ?_
    | refine ax_ret_scope ?_
    | refine ax_ret_inv ?_
    | refine ax_q (q_loads_rp rfl rfl rfl) ?_
    | refine ax_q (q_loadf_rp rfl rfl rfl rfl) ?_
    | refine ax_q (q_loadb_ptr rfl rfl rfl rfl rfl) ?_
    | refine ax_q (q_lss rfl rfl) ?_
    | refine ax_q (q_eql rfl rfl) ?_
    | refine ax_q (q_neq rfl rfl) ?_
    | refine ax_q (q_leq rfl rfl) ?_
    | refine ax_q (q_gtr rfl rfl) ?_
    | refine ax_q (q_geq rfl rfl) ?_
    | refine ax_q (q_not rfl) ?_
    | refine ax_q (q_pick rfl rfl) ?_
    | refine ax_q (q_extract rfl rfl) ?_
    | refine ax_q (q_len rfl rfl rfl) ?_
    | refine ax_q (q_lenstr rfl rfl) ?_
    | refine ax_q (q_add rfl rfl (by omega)) ?_
    | refine ax_q (q_sub rfl rfl (by omega)) ?_
    | refine ax_q (q_index_ro' rfl rfl rfl rfl (by first | (simp only [Nat.zero_add, Int.toNat_natCast, Int.toNat_zero]; exact rfl) | exact rfl) (by omega)) ?_
    | refine ax_q (q_index_sl' rfl rfl rfl rfl rfl (by first | (simp only [Nat.zero_add, Int.toNat_natCast, Int.toNat_zero]; exact rfl) | exact rfl) (by omega)) ?_
    | refine ax_q (q_loadi_ptr rfl rfl rfl rfl (by first | assumption | omega)) ?_
    | refine ax_q (q_loads_ptr rfl rfl rfl rfl (by first | assumption | omega)) ?_
    | refine ax_q (q_loadf_ptr rfl rfl rfl rfl rfl (by first | assumption | omega)) ?_
    | refine ax_q (q_quo rfl rfl (by omega)) ?_
    | refine ax_q (q_rem rfl rfl (by omega)) ?_
    | refine ax_q (q_slice_ro rfl rfl rfl rfl rfl rfl rfl (by omega)) ?_
    | refine ax_q (q_slice_sl rfl rfl rfl rfl rfl rfl rfl rfl (by omega)) ?_
    | refine ax_q (q_eqnilnil rfl rfl rfl) ?_
    | refine ax_q (q_build rfl rfl rfl rfl rfl rfl) ?_
    | refine ax_store rfl rfl rfl rfl rfl rfl rfl (by first | assumption | (show _ < List.length _; first | assumption | omega)) ?_
    | refine ax_buildSliceRo rfl rfl rfl rfl rfl rfl rfl rfl rfl rfl rfl ?_)
  exact ax_ret hR rfl rfl
end Go.Proofs.Ytegaegmkajnibaa
