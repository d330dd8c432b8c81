import Derived.Test.YtegaegmkajnibaaW1
set_option linter.unusedVariables false
namespace Go.Proofs.Ytegaegmkajnibaa
open Go.Ax Go.Ax.Idx
attribute [local irreducible] Ax Post QOp ACall
set_option maxRecDepth 100000
set_option linter.unusedSimpArgs false

theorem ways7 (l : List Int) (h7 : l.length = 7) (h0 : ∀ x ∈ l, 0 ≤ x) (hs : l.sum ≤ 16) : VCall Try.prog 18 [.ro (.ints .i64 l) 0 7] (.int .i64 (waysF l)) := by
  have := ways l h0 hs (by omega)
  rwa [h7] at this

theorem Rank_no (l : List Int) (h : checkF l ≠ 0) : VCall Try.prog 7 [.ro (.ints .i64 l) 0 l.length] (.tup [.int .i64 0, .int .i64 (checkF l)]) := by
  refine ACall.value0 (acall_of_ax (P := Try.prog) (fn := Try.f7) rfl rfl (by kernel_rfl) rfl (fun c hR hfix => ?_)) (fix := fun _ => False) (fun _ h => h) rfl rfl
  repeat (first
    | refine ax_q (q_move rfl) ?_
    | refine ax_q (q_assign rfl) ?_
    | refine ax_q (q_loadi_rp rfl rfl rfl) ?_
    | refine ax_ops_nil ?_
    | refine ax_post_code ?_
    | refine ax_seq ?_
    | refine ax_region rfl ?_
    | refine ax_guard rfl rfl ?_
    | refine ax_skip_undef rfl rfl ?_
    | refine ax_skip_not rfl rfl rfl ?_
    | refine ax_guard_not rfl rfl rfl ?_
    | refine ax_cond_true rfl ?_
    | refine ax_cond_false rfl ?_
    | refine ax_post_blk ?_
    | refine ax_post_scope ?_
    | refine ax_post_any ?_
    | refine ax_block ?_
    | refine ax_scope ?_
    | refine ax_skip ?_
    | refine ax_label ?_
    | refine ax_exit ?_
    | refine ax_exit_here ?_
    | refine ax_exit_code ?_
    | refine ax_exit_inv ?_
    | refine ax_exit_scope ?_
    | refine ax_exit_on rfl ?_
    | refine ax_return ?_
    | refine ax_ret_code ?_
    | refine ax_ret_blk ?_
    | refine ax_ret_scope ?_
    | refine ax_ret_inv ?_
    | refine ax_q (q_loads_rp rfl rfl rfl) ?_
    | refine ax_q (q_loadf_rp rfl rfl rfl rfl) ?_
    | refine ax_q (q_loadb_ptr rfl rfl rfl rfl rfl) ?_
    | refine ax_q (q_lss rfl rfl) ?_
    | refine ax_q (q_eql rfl rfl) ?_
    | refine ax_q (q_neq rfl rfl) ?_
    | refine ax_q (q_leq rfl rfl) ?_
    | refine ax_q (q_gtr rfl rfl) ?_
    | refine ax_q (q_geq rfl rfl) ?_
    | refine ax_q (q_not rfl) ?_
    | refine ax_q (q_pick rfl rfl) ?_
    | refine ax_q (q_extract rfl rfl) ?_
    | refine ax_q (q_len rfl rfl rfl) ?_
    | refine ax_q (q_lenstr rfl rfl) ?_
    | refine ax_q (q_add rfl rfl (by omega)) ?_
    | refine ax_q (q_sub rfl rfl (by omega)) ?_
    | refine ax_q (q_index_ro' rfl rfl rfl rfl (by first | (simp only [Nat.zero_add, Int.toNat_natCast, Int.toNat_zero]; exact rfl) | exact rfl) (by omega)) ?_
    | refine ax_q (q_index_sl' rfl rfl rfl rfl rfl (by first | (simp only [Nat.zero_add, Int.toNat_natCast, Int.toNat_zero]; exact rfl) | exact rfl) (by omega)) ?_
    | refine ax_q (q_loadi_ptr rfl rfl rfl rfl (by first | assumption | omega)) ?_
    | refine ax_q (q_loads_ptr rfl rfl rfl rfl (by first | assumption | omega)) ?_
    | refine ax_q (q_loadf_ptr rfl rfl rfl rfl rfl (by first | assumption | omega)) ?_
    | refine ax_q (q_quo rfl rfl (by omega)) ?_
    | refine ax_q (q_rem rfl rfl (by omega)) ?_
    | refine ax_q (q_slice_ro rfl rfl rfl rfl rfl rfl rfl (by omega)) ?_
    | refine ax_q (q_slice_sl rfl rfl rfl rfl rfl rfl rfl rfl (by omega)) ?_
    | refine ax_q (q_eqnilnil rfl rfl rfl) ?_
    | refine ax_q (q_build rfl rfl rfl rfl rfl rfl) ?_
    | refine ax_store rfl rfl rfl rfl rfl rfl rfl (by first | assumption | (show _ < List.length _; first | assumption | omega)) ?_
    | refine ax_buildSliceRo rfl rfl rfl rfl rfl rfl rfl rfl rfl rfl rfl ?_)
  refine ax_callv rfl rfl rfl (check l) ?_
  repeat (first
    | refine ax_q (q_move rfl) ?_
    | refine ax_q (q_assign rfl) ?_
    | refine ax_q (q_loadi_rp rfl rfl rfl) ?_
    | refine ax_ops_nil ?_
    | refine ax_post_code ?_
    | refine ax_seq ?_
    | refine ax_region rfl ?_
    | refine ax_guard rfl rfl ?_
    | refine ax_skip_undef rfl rfl ?_
    | refine ax_skip_not rfl rfl rfl ?_
    | refine ax_guard_not rfl rfl rfl ?_
    | refine ax_cond_true rfl ?_
    | refine ax_cond_false rfl ?_
    | refine ax_post_blk ?_
    | refine ax_post_scope ?_
    | refine ax_post_any ?_
    | refine ax_block ?_
    | refine ax_scope ?_
    | refine ax_skip ?_
    | refine ax_label ?_
    | refine ax_exit ?_
    | refine ax_exit_here ?_
    | refine ax_exit_code ?_
    | refine ax_exit_inv ?_
    | refine ax_exit_scope ?_
    | refine ax_exit_on rfl ?_
    | refine ax_return ?_
    | refine ax_ret_code ?_
    | refine ax_ret_blk ?_
    | refine ax_ret_scope ?_
    | refine ax_ret_inv ?_
    | refine ax_q (q_loads_rp rfl rfl rfl) ?_
    | refine ax_q (q_loadf_rp rfl rfl rfl rfl) ?_
    | refine ax_q (q_loadb_ptr rfl rfl rfl rfl rfl) ?_
    | refine ax_q (q_lss rfl rfl) ?_
    | refine ax_q (q_eql rfl rfl) ?_
    | refine ax_q (q_neq rfl rfl) ?_
    | refine ax_q (q_leq rfl rfl) ?_
    | refine ax_q (q_gtr rfl rfl) ?_
    | refine ax_q (q_geq rfl rfl) ?_
    | refine ax_q (q_not rfl) ?_
    | refine ax_q (q_pick rfl rfl) ?_
    | refine ax_q (q_extract rfl rfl) ?_
    | refine ax_q (q_len rfl rfl rfl) ?_
    | refine ax_q (q_lenstr rfl rfl) ?_
    | refine ax_q (q_add rfl rfl (by omega)) ?_
    | refine ax_q (q_sub rfl rfl (by omega)) ?_
    | refine ax_q (q_index_ro' rfl rfl rfl rfl (by first | (simp only [Nat.zero_add, Int.toNat_natCast, Int.toNat_zero]; exact rfl) | exact rfl) (by omega)) ?_
    | refine ax_q (q_index_sl' rfl rfl rfl rfl rfl (by first | (simp only [Nat.zero_add, Int.toNat_natCast, Int.toNat_zero]; exact rfl) | exact rfl) (by omega)) ?_
    | refine ax_q (q_loadi_ptr rfl rfl rfl rfl (by first | assumption | omega)) ?_
    | refine ax_q (q_loads_ptr rfl rfl rfl rfl (by first | assumption | omega)) ?_
    | refine ax_q (q_loadf_ptr rfl rfl rfl rfl rfl (by first | assumption | omega)) ?_
    | refine ax_q (q_quo rfl rfl (by omega)) ?_
    | refine ax_q (q_rem rfl rfl (by omega)) ?_
    | refine ax_q (q_slice_ro rfl rfl rfl rfl rfl rfl rfl (by omega)) ?_
    | refine ax_q (q_slice_sl rfl rfl rfl rfl rfl rfl rfl rfl (by omega)) ?_
    | refine ax_q (q_eqnilnil rfl rfl rfl) ?_
    | refine ax_q (q_build rfl rfl rfl rfl rfl rfl) ?_
    | refine ax_store rfl rfl rfl rfl rfl rfl rfl (by first | assumption | (show _ < List.length _; first | assumption | omega)) ?_
    | refine ax_buildSliceRo rfl rfl rfl rfl rfl rfl rfl rfl rfl rfl rfl ?_)
  refine ax_cond_dec rfl (fun h2 => ?_) (fun h2 => absurd h h2)
  repeat (first
    | refine ax_q (q_move rfl) ?_
    | refine ax_q (q_assign rfl) ?_
    | refine ax_q (q_loadi_rp rfl rfl rfl) ?_
    | refine ax_ops_nil ?_
    | refine ax_post_code ?_
    | refine ax_seq ?_
    | refine ax_region rfl ?_
    | refine ax_guard rfl rfl ?_
    | refine ax_skip_undef rfl rfl ?_
    | refine ax_skip_not rfl rfl rfl ?_
    | refine ax_guard_not rfl rfl rfl ?_
    | refine ax_cond_true rfl ?_
    | refine ax_cond_false rfl ?_
    | refine ax_post_blk ?_
    | refine ax_post_scope ?_
    | refine ax_post_any ?_
    | refine ax_block ?_
    | refine ax_scope ?_
    | refine ax_skip ?_
    | refine ax_label ?_
    | refine ax_exit ?_
    | refine ax_exit_here ?_
    | refine ax_exit_code ?_
    | refine ax_exit_inv ?_
    | refine ax_exit_scope ?_
    | refine ax_exit_on rfl ?_
    | refine ax_return ?_
    | refine ax_ret_code ?_
    | refine ax_ret_blk ?_
    | refine ax_ret_scope ?_
    | refine ax_ret_inv ?_
    | refine ax_q (q_loads_rp rfl rfl rfl) ?_
    | refine ax_q (q_loadf_rp rfl rfl rfl rfl) ?_
    | refine ax_q (q_loadb_ptr rfl rfl rfl rfl rfl) ?_
    | refine ax_q (q_lss rfl rfl) ?_
    | refine ax_q (q_eql rfl rfl) ?_
    | refine ax_q (q_neq rfl rfl) ?_
    | refine ax_q (q_leq rfl rfl) ?_
    | refine ax_q (q_gtr rfl rfl) ?_
    | refine ax_q (q_geq rfl rfl) ?_
    | refine ax_q (q_not rfl) ?_
    | refine ax_q (q_pick rfl rfl) ?_
    | refine ax_q (q_extract rfl rfl) ?_
    | refine ax_q (q_len rfl rfl rfl) ?_
    | refine ax_q (q_lenstr rfl rfl) ?_
    | refine ax_q (q_add rfl rfl (by omega)) ?_
    | refine ax_q (q_sub rfl rfl (by omega)) ?_
    | refine ax_q (q_index_ro' rfl rfl rfl rfl (by first | (simp only [Nat.zero_add, Int.toNat_natCast, Int.toNat_zero]; exact rfl) | exact rfl) (by omega)) ?_
    | refine ax_q (q_index_sl' rfl rfl rfl rfl rfl (by first | (simp only [Nat.zero_add, Int.toNat_natCast, Int.toNat_zero]; exact rfl) | exact rfl) (by omega)) ?_
    | refine ax_q (q_loadi_ptr rfl rfl rfl rfl (by first | assumption | omega)) ?_
    | refine ax_q (q_loads_ptr rfl rfl rfl rfl (by first | assumption | omega)) ?_
    | refine ax_q (q_loadf_ptr rfl rfl rfl rfl rfl (by first | assumption | omega)) ?_
    | refine ax_q (q_quo rfl rfl (by omega)) ?_
    | refine ax_q (q_rem rfl rfl (by omega)) ?_
    | refine ax_q (q_slice_ro rfl rfl rfl rfl rfl rfl rfl (by omega)) ?_
    | refine ax_q (q_slice_sl rfl rfl rfl rfl rfl rfl rfl rfl (by omega)) ?_
    | refine ax_q (q_eqnilnil rfl rfl rfl) ?_
    | refine ax_q (q_build rfl rfl rfl rfl rfl rfl) ?_
    | refine ax_store rfl rfl rfl rfl rfl rfl rfl (by first | assumption | (show _ < List.length _; first | assumption | omega)) ?_
    | refine ax_buildSliceRo rfl rfl rfl rfl rfl rfl rfl rfl rfl rfl rfl ?_)
  exact ax_ret hR rfl rfl

theorem Rank_ok (l : List Int) (h : checkF l = 0) : VCall Try.prog 7 [.ro (.ints .i64 l) 0 l.length] (.tup [.int .i64 (rankF l), .int .i64 0]) := by
  obtain ⟨hlen, hin⟩ := checkF_ok h
  have hR0 := rankF_bd l hin hlen
  refine ACall.value (K := fun r H => r = .tup [.int .i64 (rankF l), .int .i64 0] ∧ H = [some ⟨3, .ints .i64 (cnt [])⟩]) (acall_of_ax (P := Try.prog) (fn := Try.f7) rfl rfl (by kernel_rfl) rfl (fun c hR hfix => ?_)) (fix := fun _ => False) (fun _ h => h) rfl ?_
  · repeat (first
      | refine ax_q (q_move rfl) ?_
      | refine ax_q (q_assign rfl) ?_
      | refine ax_q (q_loadi_rp rfl rfl rfl) ?_
      | refine ax_ops_nil ?_
      | refine ax_post_code ?_
      | refine ax_seq ?_
      | refine ax_region rfl ?_
      | refine ax_guard rfl rfl ?_
      | refine ax_skip_undef rfl rfl ?_
      | refine ax_skip_not rfl rfl rfl ?_
      | refine ax_guard_not rfl rfl rfl ?_
      | refine ax_cond_true rfl ?_
      | refine ax_cond_false rfl ?_
      | refine ax_post_blk ?_
      | refine ax_post_scope ?_
      | refine ax_post_any ?_
      | refine ax_block ?_
      | refine ax_scope ?_
      | refine ax_skip ?_
      | refine ax_label ?_
      | refine ax_exit ?_
      | refine ax_exit_here ?_
      | refine ax_exit_code ?_
      | refine ax_exit_inv ?_
      | refine ax_exit_scope ?_
      | refine ax_exit_on rfl ?_
      | refine ax_return ?_
      | refine ax_ret_code ?_
      | refine ax_ret_blk ?_
      | refine ax_ret_scope ?_
      | refine ax_ret_inv ?_
      | refine ax_q (q_loads_rp rfl rfl rfl) ?_
      | refine ax_q (q_loadf_rp rfl rfl rfl rfl) ?_
      | refine ax_q (q_loadb_ptr rfl rfl rfl rfl rfl) ?_
      | refine ax_q (q_lss rfl rfl) ?_
      | refine ax_q (q_eql rfl rfl) ?_
      | refine ax_q (q_neq rfl rfl) ?_
      | refine ax_q (q_leq rfl rfl) ?_
      | refine ax_q (q_gtr rfl rfl) ?_
      | refine ax_q (q_geq rfl rfl) ?_
      | refine ax_q (q_not rfl) ?_
      | refine ax_q (q_pick rfl rfl) ?_
      | refine ax_q (q_extract rfl rfl) ?_
      | refine ax_q (q_len rfl rfl rfl) ?_
      | refine ax_q (q_lenstr rfl rfl) ?_
      | refine ax_q (q_add rfl rfl (by omega)) ?_
      | refine ax_q (q_sub rfl rfl (by omega)) ?_
      | refine ax_q (q_index_ro' rfl rfl rfl rfl (by first | (simp only [Nat.zero_add, Int.toNat_natCast, Int.toNat_zero]; exact rfl) | exact rfl) (by omega)) ?_
      | refine ax_q (q_index_sl' rfl rfl rfl rfl rfl (by first | (simp only [Nat.zero_add, Int.toNat_natCast, Int.toNat_zero]; exact rfl) | exact rfl) (by omega)) ?_
      | refine ax_q (q_loadi_ptr rfl rfl rfl rfl (by first | assumption | omega)) ?_
      | refine ax_q (q_loads_ptr rfl rfl rfl rfl (by first | assumption | omega)) ?_
      | refine ax_q (q_loadf_ptr rfl rfl rfl rfl rfl (by first | assumption | omega)) ?_
      | refine ax_q (q_quo rfl rfl (by omega)) ?_
      | refine ax_q (q_rem rfl rfl (by omega)) ?_
      | refine ax_q (q_slice_ro rfl rfl rfl rfl rfl rfl rfl (by omega)) ?_
      | refine ax_q (q_slice_sl rfl rfl rfl rfl rfl rfl rfl rfl (by omega)) ?_
      | refine ax_q (q_eqnilnil rfl rfl rfl) ?_
      | refine ax_q (q_build rfl rfl rfl rfl rfl rfl) ?_
      | refine ax_store rfl rfl rfl rfl rfl rfl rfl (by first | assumption | (show _ < List.length _; first | assumption | omega)) ?_
      | refine ax_buildSliceRo rfl rfl rfl rfl rfl rfl rfl rfl rfl rfl rfl ?_)
    refine ax_callv rfl rfl rfl (check l) ?_
    rw [h]
    repeat (first
      | refine ax_q (q_move rfl) ?_
      | refine ax_q (q_assign rfl) ?_
      | refine ax_q (q_loadi_rp rfl rfl rfl) ?_
      | refine ax_ops_nil ?_
      | refine ax_post_code ?_
      | refine ax_seq ?_
      | refine ax_region rfl ?_
      | refine ax_guard rfl rfl ?_
      | refine ax_skip_undef rfl rfl ?_
      | refine ax_skip_not rfl rfl rfl ?_
      | refine ax_guard_not rfl rfl rfl ?_
      | refine ax_cond_true rfl ?_
      | refine ax_cond_false rfl ?_
      | refine ax_post_blk ?_
      | refine ax_post_scope ?_
      | refine ax_post_any ?_
      | refine ax_block ?_
      | refine ax_scope ?_
      | refine ax_skip ?_
      | refine ax_label ?_
      | refine ax_exit ?_
      | refine ax_exit_here ?_
      | refine ax_exit_code ?_
      | refine ax_exit_inv ?_
      | refine ax_exit_scope ?_
      | refine ax_exit_on rfl ?_
      | refine ax_return ?_
      | refine ax_ret_code ?_
      | refine ax_ret_blk ?_
      | refine ax_ret_scope ?_
      | refine ax_ret_inv ?_
      | refine ax_q (q_loads_rp rfl rfl rfl) ?_
      | refine ax_q (q_loadf_rp rfl rfl rfl rfl) ?_
      | refine ax_q (q_loadb_ptr rfl rfl rfl rfl rfl) ?_
      | refine ax_q (q_lss rfl rfl) ?_
      | refine ax_q (q_eql rfl rfl) ?_
      | refine ax_q (q_neq rfl rfl) ?_
      | refine ax_q (q_leq rfl rfl) ?_
      | refine ax_q (q_gtr rfl rfl) ?_
      | refine ax_q (q_geq rfl rfl) ?_
      | refine ax_q (q_not rfl) ?_
      | refine ax_q (q_pick rfl rfl) ?_
      | refine ax_q (q_extract rfl rfl) ?_
      | refine ax_q (q_len rfl rfl rfl) ?_
      | refine ax_q (q_lenstr rfl rfl) ?_
      | refine ax_q (q_add rfl rfl (by omega)) ?_
      | refine ax_q (q_sub rfl rfl (by omega)) ?_
      | refine ax_q (q_index_ro' rfl rfl rfl rfl (by first | (simp only [Nat.zero_add, Int.toNat_natCast, Int.toNat_zero]; exact rfl) | exact rfl) (by omega)) ?_
      | refine ax_q (q_index_sl' rfl rfl rfl rfl rfl (by first | (simp only [Nat.zero_add, Int.toNat_natCast, Int.toNat_zero]; exact rfl) | exact rfl) (by omega)) ?_
      | refine ax_q (q_loadi_ptr rfl rfl rfl rfl (by first | assumption | omega)) ?_
      | refine ax_q (q_loads_ptr rfl rfl rfl rfl (by first | assumption | omega)) ?_
      | refine ax_q (q_loadf_ptr rfl rfl rfl rfl rfl (by first | assumption | omega)) ?_
      | refine ax_q (q_quo rfl rfl (by omega)) ?_
      | refine ax_q (q_rem rfl rfl (by omega)) ?_
      | refine ax_q (q_slice_ro rfl rfl rfl rfl rfl rfl rfl (by omega)) ?_
      | refine ax_q (q_slice_sl rfl rfl rfl rfl rfl rfl rfl rfl (by omega)) ?_
      | refine ax_q (q_eqnilnil rfl rfl rfl) ?_
      | refine ax_q (q_build rfl rfl rfl rfl rfl rfl) ?_
      | refine ax_store rfl rfl rfl rfl rfl rfl rfl (by first | assumption | (show _ < List.length _; first | assumption | omega)) ?_
      | refine ax_buildSliceRo rfl rfl rfl rfl rfl rfl rfl rfl rfl rfl rfl ?_)
    refine ax_callf rfl rfl rfl (countsI l h) ?_
    repeat (first
      | refine ax_q (q_move rfl) ?_
      | refine ax_q (q_assign rfl) ?_
      | refine ax_q (q_loadi_rp rfl rfl rfl) ?_
      | refine ax_ops_nil ?_
      | refine ax_post_code ?_
      | refine ax_seq ?_
      | refine ax_region rfl ?_
      | refine ax_guard rfl rfl ?_
      | refine ax_skip_undef rfl rfl ?_
      | refine ax_skip_not rfl rfl rfl ?_
      | refine ax_guard_not rfl rfl rfl ?_
      | refine ax_cond_true rfl ?_
      | refine ax_cond_false rfl ?_
      | refine ax_post_blk ?_
      | refine ax_post_scope ?_
      | refine ax_post_any ?_
      | refine ax_block ?_
      | refine ax_scope ?_
      | refine ax_skip ?_
      | refine ax_label ?_
      | refine ax_exit ?_
      | refine ax_exit_here ?_
      | refine ax_exit_code ?_
      | refine ax_exit_inv ?_
      | refine ax_exit_scope ?_
      | refine ax_exit_on rfl ?_
      | refine ax_return ?_
      | refine ax_ret_code ?_
      | refine ax_ret_blk ?_
      | refine ax_ret_scope ?_
      | refine ax_ret_inv ?_
      | refine ax_q (q_loads_rp rfl rfl rfl) ?_
      | refine ax_q (q_loadf_rp rfl rfl rfl rfl) ?_
      | refine ax_q (q_loadb_ptr rfl rfl rfl rfl rfl) ?_
      | refine ax_q (q_lss rfl rfl) ?_
      | refine ax_q (q_eql rfl rfl) ?_
      | refine ax_q (q_neq rfl rfl) ?_
      | refine ax_q (q_leq rfl rfl) ?_
      | refine ax_q (q_gtr rfl rfl) ?_
      | refine ax_q (q_geq rfl rfl) ?_
      | refine ax_q (q_not rfl) ?_
      | refine ax_q (q_pick rfl rfl) ?_
      | refine ax_q (q_extract rfl rfl) ?_
      | refine ax_q (q_len rfl rfl rfl) ?_
      | refine ax_q (q_lenstr rfl rfl) ?_
      | refine ax_q (q_add rfl rfl (by omega)) ?_
      | refine ax_q (q_sub rfl rfl (by omega)) ?_
      | refine ax_q (q_index_ro' rfl rfl rfl rfl (by first | (simp only [Nat.zero_add, Int.toNat_natCast, Int.toNat_zero]; exact rfl) | exact rfl) (by omega)) ?_
      | refine ax_q (q_index_sl' rfl rfl rfl rfl rfl (by first | (simp only [Nat.zero_add, Int.toNat_natCast, Int.toNat_zero]; exact rfl) | exact rfl) (by omega)) ?_
      | refine ax_q (q_loadi_ptr rfl rfl rfl rfl (by first | assumption | omega)) ?_
      | refine ax_q (q_loads_ptr rfl rfl rfl rfl (by first | assumption | omega)) ?_
      | refine ax_q (q_loadf_ptr rfl rfl rfl rfl rfl (by first | assumption | omega)) ?_
      | refine ax_q (q_quo rfl rfl (by omega)) ?_
      | refine ax_q (q_rem rfl rfl (by omega)) ?_
      | refine ax_q (q_slice_ro rfl rfl rfl rfl rfl rfl rfl (by omega)) ?_
      | refine ax_q (q_slice_sl rfl rfl rfl rfl rfl rfl rfl rfl (by omega)) ?_
      | refine ax_q (q_eqnilnil rfl rfl rfl) ?_
      | refine ax_q (q_build rfl rfl rfl rfl rfl rfl) ?_
      | refine ax_store rfl rfl rfl rfl rfl rfl rfl (by first | assumption | (show _ < List.length _; first | assumption | omega)) ?_
      | refine ax_buildSliceRo rfl rfl rfl rfl rfl rfl rfl rfl rfl rfl rfl ?_)
    refine ax_loop (ι := Nat) (fun k => [(5, .sl 0 0 7), (6, .int .i64 (rankF l - rankF (l.drop k))), (17, .ro (.ints .i64 l) 0 l.length), (18, .int .i64 (l.length : Nat)), (19, .int .i64 (k : Nat))]) (fun k => [some ⟨3, .ints .i64 (cnt (l.drop k))⟩])
      (fun k => k ≤ l.length) (fun k => l.length - k) 0 ⟨⟨rfl, by simp only [List.drop_zero, Int.sub_self]; rfl, rfl, rfl, rfl, trivial⟩, rfl, Nat.zero_le _⟩ ?_
    intro k hk
    repeat (first
      | refine ax_q (q_move rfl) ?_
      | refine ax_q (q_assign rfl) ?_
      | refine ax_q (q_loadi_rp rfl rfl rfl) ?_
      | refine ax_ops_nil ?_
      | refine ax_post_code ?_
      | refine ax_seq ?_
      | refine ax_region rfl ?_
      | refine ax_guard rfl rfl ?_
      | refine ax_skip_undef rfl rfl ?_
      | refine ax_skip_not rfl rfl rfl ?_
      | refine ax_guard_not rfl rfl rfl ?_
      | refine ax_cond_true rfl ?_
      | refine ax_cond_false rfl ?_
      | refine ax_post_blk ?_
      | refine ax_post_scope ?_
      | refine ax_post_any ?_
      | refine ax_block ?_
      | refine ax_scope ?_
      | refine ax_skip ?_
      | refine ax_label ?_
      | refine ax_exit ?_
      | refine ax_exit_here ?_
      | refine ax_exit_code ?_
      | refine ax_exit_inv ?_
      | refine ax_exit_scope ?_
      | refine ax_exit_on rfl ?_
      | refine ax_return ?_
      | refine ax_ret_code ?_
      | refine ax_ret_blk ?_
      | refine ax_ret_scope ?_
      | refine ax_ret_inv ?_
      | refine ax_q (q_loads_rp rfl rfl rfl) ?_
      | refine ax_q (q_loadf_rp rfl rfl rfl rfl) ?_
      | refine ax_q (q_loadb_ptr rfl rfl rfl rfl rfl) ?_
      | refine ax_q (q_lss rfl rfl) ?_
      | refine ax_q (q_eql rfl rfl) ?_
      | refine ax_q (q_neq rfl rfl) ?_
      | refine ax_q (q_leq rfl rfl) ?_
      | refine ax_q (q_gtr rfl rfl) ?_
      | refine ax_q (q_geq rfl rfl) ?_
      | refine ax_q (q_not rfl) ?_
      | refine ax_q (q_pick rfl rfl) ?_
      | refine ax_q (q_extract rfl rfl) ?_
      | refine ax_q (q_len rfl rfl rfl) ?_
      | refine ax_q (q_lenstr rfl rfl) ?_
      | refine ax_q (q_add rfl rfl (by omega)) ?_
      | refine ax_q (q_sub rfl rfl (by omega)) ?_
      | refine ax_q (q_index_ro' rfl rfl rfl rfl (by first | (simp only [Nat.zero_add, Int.toNat_natCast, Int.toNat_zero]; exact rfl) | exact rfl) (by omega)) ?_
      | refine ax_q (q_index_sl' rfl rfl rfl rfl rfl (by first | (simp only [Nat.zero_add, Int.toNat_natCast, Int.toNat_zero]; exact rfl) | exact rfl) (by omega)) ?_
      | refine ax_q (q_loadi_ptr rfl rfl rfl rfl (by first | assumption | omega)) ?_
      | refine ax_q (q_loads_ptr rfl rfl rfl rfl (by first | assumption | omega)) ?_
      | refine ax_q (q_loadf_ptr rfl rfl rfl rfl rfl (by first | assumption | omega)) ?_
      | refine ax_q (q_quo rfl rfl (by omega)) ?_
      | refine ax_q (q_rem rfl rfl (by omega)) ?_
      | refine ax_q (q_slice_ro rfl rfl rfl rfl rfl rfl rfl (by omega)) ?_
      | refine ax_q (q_slice_sl rfl rfl rfl rfl rfl rfl rfl rfl (by omega)) ?_
      | refine ax_q (q_eqnilnil rfl rfl rfl) ?_
      | refine ax_q (q_build rfl rfl rfl rfl rfl rfl) ?_
      | refine ax_store rfl rfl rfl rfl rfl rfl rfl (by first | assumption | (show _ < List.length _; first | assumption | omega)) ?_
      | refine ax_buildSliceRo rfl rfl rfl rfl rfl rfl rfl rfl rfl rfl rfl ?_)
    refine ax_cond_dec rfl (fun h1 => ?_) (fun h1 => ?_)
    · have hk' : k < l.length := by omega
      have hx := hin _ (getD_mem 0 hk')
      have hd := drop_getD l 0 k hk'
      have hin1 : ∀ x ∈ l.drop k, 0 ≤ x ∧ x ≤ 6 := fun x hx => hin x (List.mem_of_mem_drop hx)
      have hin2 : ∀ x ∈ l.drop (k + 1), 0 ≤ x ∧ x ≤ 6 := fun x hx => hin x (List.mem_of_mem_drop hx)
      have hl1 : (l.drop k).length ≤ 16 := by simp; omega
      have hb1 := rankF_bd _ hin1 hl1
      have hb2 := rankF_bd _ hin2 (by simp; omega)
      have hcs := cnt_sum _ hin1
      have hc0 := cnt_nonneg (l.drop k)
      have hcl := cnt_length (l.drop k)
      have hcb := cnt_le (l.drop k)
      have hcc : cnt (l.drop (k + 1)) = (cnt (l.drop k)).set (l.getD k 0).toNat ((cnt (l.drop k)).getD (l.getD k 0).toNat 0 - 1) := by
        rw [hd]; exact cnt_cons _ _ hx.1 hx.2
      have hrk : rankF (l.drop k) = rrow (cnt (l.drop k)) (l.getD k 0).toNat + rankF (l.drop (k + 1)) := by
        rw [hd]; rfl
      have hdl : (l.drop (k + 1)).length ≤ 16 := by simp; omega
      generalize hm : cnt (l.drop k) = m at *
      generalize hA : rankF l - rankF (l.drop k) = A at *
      have hAb : -3000000000000000 ≤ A ∧ A ≤ 3000000000000000 := by omega
      repeat (first
        | refine ax_q (q_move rfl) ?_
        | refine ax_q (q_assign rfl) ?_
        | refine ax_q (q_loadi_rp rfl rfl rfl) ?_
        | refine ax_ops_nil ?_
        | refine ax_post_code ?_
        | refine ax_seq ?_
        | refine ax_region rfl ?_
        | refine ax_guard rfl rfl ?_
        | refine ax_skip_undef rfl rfl ?_
        | refine ax_skip_not rfl rfl rfl ?_
        | refine ax_guard_not rfl rfl rfl ?_
        | refine ax_cond_true rfl ?_
        | refine ax_cond_false rfl ?_
        | refine ax_post_blk ?_
        | refine ax_post_scope ?_
        | refine ax_post_any ?_
        | refine ax_block ?_
        | refine ax_scope ?_
        | refine ax_skip ?_
        | refine ax_label ?_
        | refine ax_exit ?_
        | refine ax_exit_here ?_
        | refine ax_exit_code ?_
        | refine ax_exit_inv ?_
        | refine ax_exit_scope ?_
        | refine ax_exit_on rfl ?_
        | refine ax_return ?_
        | refine ax_ret_code ?_
        | refine ax_ret_blk ?_
        | refine ax_ret_scope ?_
        | refine ax_ret_inv ?_
        | refine ax_q (q_loads_rp rfl rfl rfl) ?_
        | refine ax_q (q_loadf_rp rfl rfl rfl rfl) ?_
        | refine ax_q (q_loadb_ptr rfl rfl rfl rfl rfl) ?_
        | refine ax_q (q_lss rfl rfl) ?_
        | refine ax_q (q_eql rfl rfl) ?_
        | refine ax_q (q_neq rfl rfl) ?_
        | refine ax_q (q_leq rfl rfl) ?_
        | refine ax_q (q_gtr rfl rfl) ?_
        | refine ax_q (q_geq rfl rfl) ?_
        | refine ax_q (q_not rfl) ?_
        | refine ax_q (q_pick rfl rfl) ?_
        | refine ax_q (q_extract rfl rfl) ?_
        | refine ax_q (q_len rfl rfl rfl) ?_
        | refine ax_q (q_lenstr rfl rfl) ?_
        | refine ax_q (q_add rfl rfl (by omega)) ?_
        | refine ax_q (q_sub rfl rfl (by omega)) ?_
        | refine ax_q (q_index_ro' rfl rfl rfl rfl (by first | (simp only [Nat.zero_add, Int.toNat_natCast, Int.toNat_zero]; exact rfl) | exact rfl) (by omega)) ?_
        | refine ax_q (q_index_sl' rfl rfl rfl rfl rfl (by first | (simp only [Nat.zero_add, Int.toNat_natCast, Int.toNat_zero]; exact rfl) | exact rfl) (by omega)) ?_
        | refine ax_q (q_loadi_ptr rfl rfl rfl rfl (by first | assumption | omega)) ?_
        | refine ax_q (q_loads_ptr rfl rfl rfl rfl (by first | assumption | omega)) ?_
        | refine ax_q (q_loadf_ptr rfl rfl rfl rfl rfl (by first | assumption | omega)) ?_
        | refine ax_q (q_quo rfl rfl (by omega)) ?_
        | refine ax_q (q_rem rfl rfl (by omega)) ?_
        | refine ax_q (q_slice_ro rfl rfl rfl rfl rfl rfl rfl (by omega)) ?_
        | refine ax_q (q_slice_sl rfl rfl rfl rfl rfl rfl rfl rfl (by omega)) ?_
        | refine ax_q (q_eqnilnil rfl rfl rfl) ?_
        | refine ax_q (q_build rfl rfl rfl rfl rfl rfl) ?_
        | refine ax_store rfl rfl rfl rfl rfl rfl rfl (by first | assumption | (show _ < List.length _; first | assumption | omega)) ?_
        | refine ax_buildSliceRo rfl rfl rfl rfl rfl rfl rfl rfl rfl rfl rfl ?_)
      refine ax_loop (ι := Nat) (fun j => [(5, .sl 0 0 7), (6, .int .i64 (A + rrow m j)), (17, .ro (.ints .i64 l) 0 l.length), (18, .int .i64 (l.length : Nat)), (19, .int .i64 (k : Nat)), (8, .int .i64 (l.getD k 0)), (23, .int .i64 (l.getD k 0)), (24, .int .i64 (j : Nat))]) (fun j => [some ⟨3, .ints .i64 m⟩])
        (fun j => j ≤ (l.getD k 0).toNat) (fun j => (l.getD k 0).toNat - j) 0 ⟨⟨rfl, by simp only [rrow, List.range_zero, List.map_nil, List.sum_nil, Int.add_zero]; rfl, rfl, rfl, rfl, rfl, rfl, rfl, trivial⟩, rfl, Nat.zero_le _⟩ ?_
      intro j hj
      have hrb := rrow_bd m hc0 (by omega) j
      repeat (first
        | refine ax_q (q_move rfl) ?_
        | refine ax_q (q_assign rfl) ?_
        | refine ax_q (q_loadi_rp rfl rfl rfl) ?_
        | refine ax_ops_nil ?_
        | refine ax_post_code ?_
        | refine ax_seq ?_
        | refine ax_region rfl ?_
        | refine ax_guard rfl rfl ?_
        | refine ax_skip_undef rfl rfl ?_
        | refine ax_skip_not rfl rfl rfl ?_
        | refine ax_guard_not rfl rfl rfl ?_
        | refine ax_cond_true rfl ?_
        | refine ax_cond_false rfl ?_
        | refine ax_post_blk ?_
        | refine ax_post_scope ?_
        | refine ax_post_any ?_
        | refine ax_block ?_
        | refine ax_scope ?_
        | refine ax_skip ?_
        | refine ax_label ?_
        | refine ax_exit ?_
        | refine ax_exit_here ?_
        | refine ax_exit_code ?_
        | refine ax_exit_inv ?_
        | refine ax_exit_scope ?_
        | refine ax_exit_on rfl ?_
        | refine ax_return ?_
        | refine ax_ret_code ?_
        | refine ax_ret_blk ?_
        | refine ax_ret_scope ?_
        | refine ax_ret_inv ?_
        | refine ax_q (q_loads_rp rfl rfl rfl) ?_
        | refine ax_q (q_loadf_rp rfl rfl rfl rfl) ?_
        | refine ax_q (q_loadb_ptr rfl rfl rfl rfl rfl) ?_
        | refine ax_q (q_lss rfl rfl) ?_
        | refine ax_q (q_eql rfl rfl) ?_
        | refine ax_q (q_neq rfl rfl) ?_
        | refine ax_q (q_leq rfl rfl) ?_
        | refine ax_q (q_gtr rfl rfl) ?_
        | refine ax_q (q_geq rfl rfl) ?_
        | refine ax_q (q_not rfl) ?_
        | refine ax_q (q_pick rfl rfl) ?_
        | refine ax_q (q_extract rfl rfl) ?_
        | refine ax_q (q_len rfl rfl rfl) ?_
        | refine ax_q (q_lenstr rfl rfl) ?_
        | refine ax_q (q_add rfl rfl (by omega)) ?_
        | refine ax_q (q_sub rfl rfl (by omega)) ?_
        | refine ax_q (q_index_ro' rfl rfl rfl rfl (by first | (simp only [Nat.zero_add, Int.toNat_natCast, Int.toNat_zero]; exact rfl) | exact rfl) (by omega)) ?_
        | refine ax_q (q_index_sl' rfl rfl rfl rfl rfl (by first | (simp only [Nat.zero_add, Int.toNat_natCast, Int.toNat_zero]; exact rfl) | exact rfl) (by omega)) ?_
        | refine ax_q (q_loadi_ptr rfl rfl rfl rfl (by first | assumption | omega)) ?_
        | refine ax_q (q_loads_ptr rfl rfl rfl rfl (by first | assumption | omega)) ?_
        | refine ax_q (q_loadf_ptr rfl rfl rfl rfl rfl (by first | assumption | omega)) ?_
        | refine ax_q (q_quo rfl rfl (by omega)) ?_
        | refine ax_q (q_rem rfl rfl (by omega)) ?_
        | refine ax_q (q_slice_ro rfl rfl rfl rfl rfl rfl rfl (by omega)) ?_
        | refine ax_q (q_slice_sl rfl rfl rfl rfl rfl rfl rfl rfl (by omega)) ?_
        | refine ax_q (q_eqnilnil rfl rfl rfl) ?_
        | refine ax_q (q_build rfl rfl rfl rfl rfl rfl) ?_
        | refine ax_store rfl rfl rfl rfl rfl rfl rfl (by first | assumption | (show _ < List.length _; first | assumption | omega)) ?_
        | refine ax_buildSliceRo rfl rfl rfl rfl rfl rfl rfl rfl rfl rfl rfl ?_)
      refine ax_cond_dec rfl (fun h2 => ?_) (fun h2 => ?_)
      · have hj7 : j < m.length := by omega
        have hcbj := hcb j
        have hrs := rrow_succ m j
        repeat (first
          | refine ax_q (q_move rfl) ?_
          | refine ax_q (q_assign rfl) ?_
          | refine ax_q (q_loadi_rp rfl rfl rfl) ?_
          | refine ax_ops_nil ?_
          | refine ax_post_code ?_
          | refine ax_seq ?_
          | refine ax_region rfl ?_
          | refine ax_guard rfl rfl ?_
          | refine ax_skip_undef rfl rfl ?_
          | refine ax_skip_not rfl rfl rfl ?_
          | refine ax_guard_not rfl rfl rfl ?_
          | refine ax_cond_true rfl ?_
          | refine ax_cond_false rfl ?_
          | refine ax_post_blk ?_
          | refine ax_post_scope ?_
          | refine ax_post_any ?_
          | refine ax_block ?_
          | refine ax_scope ?_
          | refine ax_skip ?_
          | refine ax_label ?_
          | refine ax_exit ?_
          | refine ax_exit_here ?_
          | refine ax_exit_code ?_
          | refine ax_exit_inv ?_
          | refine ax_exit_scope ?_
          | refine ax_exit_on rfl ?_
          | refine ax_return ?_
          | refine ax_ret_code ?_
          | refine ax_ret_blk ?_
          | refine ax_ret_scope ?_
          | refine ax_ret_inv ?_
          | refine ax_q (q_loads_rp rfl rfl rfl) ?_
          | refine ax_q (q_loadf_rp rfl rfl rfl rfl) ?_
          | refine ax_q (q_loadb_ptr rfl rfl rfl rfl rfl) ?_
          | refine ax_q (q_lss rfl rfl) ?_
          | refine ax_q (q_eql rfl rfl) ?_
          | refine ax_q (q_neq rfl rfl) ?_
          | refine ax_q (q_leq rfl rfl) ?_
          | refine ax_q (q_gtr rfl rfl) ?_
          | refine ax_q (q_geq rfl rfl) ?_
          | refine ax_q (q_not rfl) ?_
          | refine ax_q (q_pick rfl rfl) ?_
          | refine ax_q (q_extract rfl rfl) ?_
          | refine ax_q (q_len rfl rfl rfl) ?_
          | refine ax_q (q_lenstr rfl rfl) ?_
          | refine ax_q (q_add rfl rfl (by omega)) ?_
          | refine ax_q (q_sub rfl rfl (by omega)) ?_
          | refine ax_q (q_index_ro' rfl rfl rfl rfl (by first | (simp only [Nat.zero_add, Int.toNat_natCast, Int.toNat_zero]; exact rfl) | exact rfl) (by omega)) ?_
          | refine ax_q (q_index_sl' rfl rfl rfl rfl rfl (by first | (simp only [Nat.zero_add, Int.toNat_natCast, Int.toNat_zero]; exact rfl) | exact rfl) (by omega)) ?_
          | refine ax_q (q_loadi_ptr rfl rfl rfl rfl (by first | assumption | omega)) ?_
          | refine ax_q (q_loads_ptr rfl rfl rfl rfl (by first | assumption | omega)) ?_
          | refine ax_q (q_loadf_ptr rfl rfl rfl rfl rfl (by first | assumption | omega)) ?_
          | refine ax_q (q_quo rfl rfl (by omega)) ?_
          | refine ax_q (q_rem rfl rfl (by omega)) ?_
          | refine ax_q (q_slice_ro rfl rfl rfl rfl rfl rfl rfl (by omega)) ?_
          | refine ax_q (q_slice_sl rfl rfl rfl rfl rfl rfl rfl rfl (by omega)) ?_
          | refine ax_q (q_eqnilnil rfl rfl rfl) ?_
          | refine ax_q (q_build rfl rfl rfl rfl rfl rfl) ?_
          | refine ax_store rfl rfl rfl rfl rfl rfl rfl (by first | assumption | (show _ < List.length _; first | assumption | omega)) ?_
          | refine ax_buildSliceRo rfl rfl rfl rfl rfl rfl rfl rfl rfl rfl rfl ?_)
        refine ax_cond_dec rfl (fun h3 => ?_) (fun h3 => ?_)
        · have hok := less_ok hc0 (i := j) (by omega)
          rw [if_pos (by omega)] at hrs
          have hwb := waysF_bd _ hok.1 (by omega)
          have hj8 : j < (m.set j (m.getD j 0 - 1)).length := by simpa using hj7
          have hg : (m.set j (m.getD j 0 - 1)).getD j 0 = m.getD j 0 - 1 := by rw [getD_set hj7, if_pos rfl]
          repeat (first
            | refine ax_q (q_move rfl) ?_
            | refine ax_q (q_assign rfl) ?_
            | refine ax_q (q_loadi_rp rfl rfl rfl) ?_
            | refine ax_ops_nil ?_
            | refine ax_post_code ?_
            | refine ax_seq ?_
            | refine ax_region rfl ?_
            | refine ax_guard rfl rfl ?_
            | refine ax_skip_undef rfl rfl ?_
            | refine ax_skip_not rfl rfl rfl ?_
            | refine ax_guard_not rfl rfl rfl ?_
            | refine ax_cond_true rfl ?_
            | refine ax_cond_false rfl ?_
            | refine ax_post_blk ?_
            | refine ax_post_scope ?_
            | refine ax_post_any ?_
            | refine ax_block ?_
            | refine ax_scope ?_
            | refine ax_skip ?_
            | refine ax_label ?_
            | refine ax_exit ?_
            | refine ax_exit_here ?_
            | refine ax_exit_code ?_
            | refine ax_exit_inv ?_
            | refine ax_exit_scope ?_
            | refine ax_exit_on rfl ?_
            | refine ax_return ?_
            | refine ax_ret_code ?_
            | refine ax_ret_blk ?_
            | refine ax_ret_scope ?_
            | refine ax_ret_inv ?_
            | refine ax_q (q_loads_rp rfl rfl rfl) ?_
            | refine ax_q (q_loadf_rp rfl rfl rfl rfl) ?_
            | refine ax_q (q_loadb_ptr rfl rfl rfl rfl rfl) ?_
            | refine ax_q (q_lss rfl rfl) ?_
            | refine ax_q (q_eql rfl rfl) ?_
            | refine ax_q (q_neq rfl rfl) ?_
            | refine ax_q (q_leq rfl rfl) ?_
            | refine ax_q (q_gtr rfl rfl) ?_
            | refine ax_q (q_geq rfl rfl) ?_
            | refine ax_q (q_not rfl) ?_
            | refine ax_q (q_pick rfl rfl) ?_
            | refine ax_q (q_extract rfl rfl) ?_
            | refine ax_q (q_len rfl rfl rfl) ?_
            | refine ax_q (q_lenstr rfl rfl) ?_
            | refine ax_q (q_add rfl rfl (by omega)) ?_
            | refine ax_q (q_sub rfl rfl (by omega)) ?_
            | refine ax_q (q_index_ro' rfl rfl rfl rfl (by first | (simp only [Nat.zero_add, Int.toNat_natCast, Int.toNat_zero]; exact rfl) | exact rfl) (by omega)) ?_
            | refine ax_q (q_index_sl' rfl rfl rfl rfl rfl (by first | (simp only [Nat.zero_add, Int.toNat_natCast, Int.toNat_zero]; exact rfl) | exact rfl) (by omega)) ?_
            | refine ax_q (q_loadi_ptr rfl rfl rfl rfl (by first | assumption | omega)) ?_
            | refine ax_q (q_loads_ptr rfl rfl rfl rfl (by first | assumption | omega)) ?_
            | refine ax_q (q_loadf_ptr rfl rfl rfl rfl rfl (by first | assumption | omega)) ?_
            | refine ax_q (q_quo rfl rfl (by omega)) ?_
            | refine ax_q (q_rem rfl rfl (by omega)) ?_
            | refine ax_q (q_slice_ro rfl rfl rfl rfl rfl rfl rfl (by omega)) ?_
            | refine ax_q (q_slice_sl rfl rfl rfl rfl rfl rfl rfl rfl (by omega)) ?_
            | refine ax_q (q_eqnilnil rfl rfl rfl) ?_
            | refine ax_q (q_build rfl rfl rfl rfl rfl rfl) ?_
            | refine ax_store rfl rfl rfl rfl rfl rfl rfl (by first | assumption | (show _ < List.length _; first | assumption | omega)) ?_
            | refine ax_buildSliceRo rfl rfl rfl rfl rfl rfl rfl rfl rfl rfl rfl ?_)
          refine ax_calll rfl rfl rfl rfl (ways7 (less m j) (by rw [hok.2.2.1]; exact hcl) hok.1 (by omega)) (refl1 refless_ints) ?_ rfl rfl rfl ?_
          · refine ⟨?_, trivial⟩
            intro o ho; simp at ho; subst ho; show 7 ≤ (m.set j _).length; rw [List.length_set, hcl]; exact Nat.le_refl _
          repeat (first
            | refine ax_q (q_move rfl) ?_
            | refine ax_q (q_assign rfl) ?_
            | refine ax_q (q_loadi_rp rfl rfl rfl) ?_
            | refine ax_ops_nil ?_
            | refine ax_post_code ?_
            | refine ax_seq ?_
            | refine ax_region rfl ?_
            | refine ax_guard rfl rfl ?_
            | refine ax_skip_undef rfl rfl ?_
            | refine ax_skip_not rfl rfl rfl ?_
            | refine ax_guard_not rfl rfl rfl ?_
            | refine ax_cond_true rfl ?_
            | refine ax_cond_false rfl ?_
            | refine ax_post_blk ?_
            | refine ax_post_scope ?_
            | refine ax_post_any ?_
            | refine ax_block ?_
            | refine ax_scope ?_
            | refine ax_skip ?_
            | refine ax_label ?_
            | refine ax_exit ?_
            | refine ax_exit_here ?_
            | refine ax_exit_code ?_
            | refine ax_exit_inv ?_
            | refine ax_exit_scope ?_
            | refine ax_exit_on rfl ?_
            | refine ax_return ?_
            | refine ax_ret_code ?_
            | refine ax_ret_blk ?_
            | refine ax_ret_scope ?_
            | refine ax_ret_inv ?_
            | refine ax_q (q_loads_rp rfl rfl rfl) ?_
            | refine ax_q (q_loadf_rp rfl rfl rfl rfl) ?_
            | refine ax_q (q_loadb_ptr rfl rfl rfl rfl rfl) ?_
            | refine ax_q (q_lss rfl rfl) ?_
            | refine ax_q (q_eql rfl rfl) ?_
            | refine ax_q (q_neq rfl rfl) ?_
            | refine ax_q (q_leq rfl rfl) ?_
            | refine ax_q (q_gtr rfl rfl) ?_
            | refine ax_q (q_geq rfl rfl) ?_
            | refine ax_q (q_not rfl) ?_
            | refine ax_q (q_pick rfl rfl) ?_
            | refine ax_q (q_extract rfl rfl) ?_
            | refine ax_q (q_len rfl rfl rfl) ?_
            | refine ax_q (q_lenstr rfl rfl) ?_
            | refine ax_q (q_add rfl rfl (by omega)) ?_
            | refine ax_q (q_sub rfl rfl (by omega)) ?_
            | refine ax_q (q_index_ro' rfl rfl rfl rfl (by first | (simp only [Nat.zero_add, Int.toNat_natCast, Int.toNat_zero]; exact rfl) | exact rfl) (by omega)) ?_
            | refine ax_q (q_index_sl' rfl rfl rfl rfl rfl (by first | (simp only [Nat.zero_add, Int.toNat_natCast, Int.toNat_zero]; exact rfl) | exact rfl) (by omega)) ?_
            | refine ax_q (q_loadi_ptr rfl rfl rfl rfl (by first | assumption | omega)) ?_
            | refine ax_q (q_loads_ptr rfl rfl rfl rfl (by first | assumption | omega)) ?_
            | refine ax_q (q_loadf_ptr rfl rfl rfl rfl rfl (by first | assumption | omega)) ?_
            | refine ax_q (q_quo rfl rfl (by omega)) ?_
            | refine ax_q (q_rem rfl rfl (by omega)) ?_
            | refine ax_q (q_slice_ro rfl rfl rfl rfl rfl rfl rfl (by omega)) ?_
            | refine ax_q (q_slice_sl rfl rfl rfl rfl rfl rfl rfl rfl (by omega)) ?_
            | refine ax_q (q_eqnilnil rfl rfl rfl) ?_
            | refine ax_q (q_build rfl rfl rfl rfl rfl rfl) ?_
            | refine ax_store rfl rfl rfl rfl rfl rfl rfl (by first | assumption | (show _ < List.length _; first | assumption | omega)) ?_
            | refine ax_buildSliceRo rfl rfl rfl rfl rfl rfl rfl rfl rfl rfl rfl ?_)
          refine ax_post_inv ⟨j + 1, by omega, by omega, ⟨rfl, by rw [hrs, ← Int.add_assoc]; rfl, rfl, rfl, rfl, rfl, rfl, rfl, trivial⟩, ?_⟩
          have hsb := set_back hj7
          unfold less at hsb
          show ([some ⟨3, .ints .i64 ((m.set j (m.getD j 0 - 1)).set j ((m.set j (m.getD j 0 - 1)).getD j 0 + 1))⟩] : AHeap) = _
          rw [hsb]
        · rw [if_neg (by omega)] at hrs
          repeat (first
            | refine ax_q (q_move rfl) ?_
            | refine ax_q (q_assign rfl) ?_
            | refine ax_q (q_loadi_rp rfl rfl rfl) ?_
            | refine ax_ops_nil ?_
            | refine ax_post_code ?_
            | refine ax_seq ?_
            | refine ax_region rfl ?_
            | refine ax_guard rfl rfl ?_
            | refine ax_skip_undef rfl rfl ?_
            | refine ax_skip_not rfl rfl rfl ?_
            | refine ax_guard_not rfl rfl rfl ?_
            | refine ax_cond_true rfl ?_
            | refine ax_cond_false rfl ?_
            | refine ax_post_blk ?_
            | refine ax_post_scope ?_
            | refine ax_post_any ?_
            | refine ax_block ?_
            | refine ax_scope ?_
            | refine ax_skip ?_
            | refine ax_label ?_
            | refine ax_exit ?_
            | refine ax_exit_here ?_
            | refine ax_exit_code ?_
            | refine ax_exit_inv ?_
            | refine ax_exit_scope ?_
            | refine ax_exit_on rfl ?_
            | refine ax_return ?_
            | refine ax_ret_code ?_
            | refine ax_ret_blk ?_
            | refine ax_ret_scope ?_
            | refine ax_ret_inv ?_
            | refine ax_q (q_loads_rp rfl rfl rfl) ?_
            | refine ax_q (q_loadf_rp rfl rfl rfl rfl) ?_
            | refine ax_q (q_loadb_ptr rfl rfl rfl rfl rfl) ?_
            | refine ax_q (q_lss rfl rfl) ?_
            | refine ax_q (q_eql rfl rfl) ?_
            | refine ax_q (q_neq rfl rfl) ?_
            | refine ax_q (q_leq rfl rfl) ?_
            | refine ax_q (q_gtr rfl rfl) ?_
            | refine ax_q (q_geq rfl rfl) ?_
            | refine ax_q (q_not rfl) ?_
            | refine ax_q (q_pick rfl rfl) ?_
            | refine ax_q (q_extract rfl rfl) ?_
            | refine ax_q (q_len rfl rfl rfl) ?_
            | refine ax_q (q_lenstr rfl rfl) ?_
            | refine ax_q (q_add rfl rfl (by omega)) ?_
            | refine ax_q (q_sub rfl rfl (by omega)) ?_
            | refine ax_q (q_index_ro' rfl rfl rfl rfl (by first | (simp only [Nat.zero_add, Int.toNat_natCast, Int.toNat_zero]; exact rfl) | exact rfl) (by omega)) ?_
            | refine ax_q (q_index_sl' rfl rfl rfl rfl rfl (by first | (simp only [Nat.zero_add, Int.toNat_natCast, Int.toNat_zero]; exact rfl) | exact rfl) (by omega)) ?_
            | refine ax_q (q_loadi_ptr rfl rfl rfl rfl (by first | assumption | omega)) ?_
            | refine ax_q (q_loads_ptr rfl rfl rfl rfl (by first | assumption | omega)) ?_
            | refine ax_q (q_loadf_ptr rfl rfl rfl rfl rfl (by first | assumption | omega)) ?_
            | refine ax_q (q_quo rfl rfl (by omega)) ?_
            | refine ax_q (q_rem rfl rfl (by omega)) ?_
            | refine ax_q (q_slice_ro rfl rfl rfl rfl rfl rfl rfl (by omega)) ?_
            | refine ax_q (q_slice_sl rfl rfl rfl rfl rfl rfl rfl rfl (by omega)) ?_
            | refine ax_q (q_eqnilnil rfl rfl rfl) ?_
            | refine ax_q (q_build rfl rfl rfl rfl rfl rfl) ?_
            | refine ax_store rfl rfl rfl rfl rfl rfl rfl (by first | assumption | (show _ < List.length _; first | assumption | omega)) ?_
            | refine ax_buildSliceRo rfl rfl rfl rfl rfl rfl rfl rfl rfl rfl rfl ?_)
          refine ax_post_inv ⟨j + 1, by omega, by omega, ⟨rfl, by rw [hrs, Int.add_zero]; rfl, rfl, rfl, rfl, rfl, rfl, rfl, trivial⟩, rfl⟩
      · have hj' : j = (l.getD k 0).toNat := by omega
        have hj7 : (l.getD k 0).toNat < m.length := by omega
        have hcbj := hcb (l.getD k 0).toNat
        subst hj'
        repeat (first
          | refine ax_q (q_move rfl) ?_
          | refine ax_q (q_assign rfl) ?_
          | refine ax_q (q_loadi_rp rfl rfl rfl) ?_
          | refine ax_ops_nil ?_
          | refine ax_post_code ?_
          | refine ax_seq ?_
          | refine ax_region rfl ?_
          | refine ax_guard rfl rfl ?_
          | refine ax_skip_undef rfl rfl ?_
          | refine ax_skip_not rfl rfl rfl ?_
          | refine ax_guard_not rfl rfl rfl ?_
          | refine ax_cond_true rfl ?_
          | refine ax_cond_false rfl ?_
          | refine ax_post_blk ?_
          | refine ax_post_scope ?_
          | refine ax_post_any ?_
          | refine ax_block ?_
          | refine ax_scope ?_
          | refine ax_skip ?_
          | refine ax_label ?_
          | refine ax_exit ?_
          | refine ax_exit_here ?_
          | refine ax_exit_code ?_
          | refine ax_exit_inv ?_
          | refine ax_exit_scope ?_
          | refine ax_exit_on rfl ?_
          | refine ax_return ?_
          | refine ax_ret_code ?_
          | refine ax_ret_blk ?_
          | refine ax_ret_scope ?_
          | refine ax_ret_inv ?_
          | refine ax_q (q_loads_rp rfl rfl rfl) ?_
          | refine ax_q (q_loadf_rp rfl rfl rfl rfl) ?_
          | refine ax_q (q_loadb_ptr rfl rfl rfl rfl rfl) ?_
          | refine ax_q (q_lss rfl rfl) ?_
          | refine ax_q (q_eql rfl rfl) ?_
          | refine ax_q (q_neq rfl rfl) ?_
          | refine ax_q (q_leq rfl rfl) ?_
          | refine ax_q (q_gtr rfl rfl) ?_
          | refine ax_q (q_geq rfl rfl) ?_
          | refine ax_q (q_not rfl) ?_
          | refine ax_q (q_pick rfl rfl) ?_
          | refine ax_q (q_extract rfl rfl) ?_
          | refine ax_q (q_len rfl rfl rfl) ?_
          | refine ax_q (q_lenstr rfl rfl) ?_
          | refine ax_q (q_add rfl rfl (by omega)) ?_
          | refine ax_q (q_sub rfl rfl (by omega)) ?_
          | refine ax_q (q_index_ro' rfl rfl rfl rfl (by first | (simp only [Nat.zero_add, Int.toNat_natCast, Int.toNat_zero]; exact rfl) | exact rfl) (by omega)) ?_
          | refine ax_q (q_index_sl' rfl rfl rfl rfl rfl (by first | (simp only [Nat.zero_add, Int.toNat_natCast, Int.toNat_zero]; exact rfl) | exact rfl) (by omega)) ?_
          | refine ax_q (q_loadi_ptr rfl rfl rfl rfl (by first | assumption | omega)) ?_
          | refine ax_q (q_loads_ptr rfl rfl rfl rfl (by first | assumption | omega)) ?_
          | refine ax_q (q_loadf_ptr rfl rfl rfl rfl rfl (by first | assumption | omega)) ?_
          | refine ax_q (q_quo rfl rfl (by omega)) ?_
          | refine ax_q (q_rem rfl rfl (by omega)) ?_
          | refine ax_q (q_slice_ro rfl rfl rfl rfl rfl rfl rfl (by omega)) ?_
          | refine ax_q (q_slice_sl rfl rfl rfl rfl rfl rfl rfl rfl (by omega)) ?_
          | refine ax_q (q_eqnilnil rfl rfl rfl) ?_
          | refine ax_q (q_build rfl rfl rfl rfl rfl rfl) ?_
          | refine ax_store rfl rfl rfl rfl rfl rfl rfl (by first | assumption | (show _ < List.length _; first | assumption | omega)) ?_
          | refine ax_buildSliceRo rfl rfl rfl rfl rfl rfl rfl rfl rfl rfl rfl ?_)
        refine ax_post_inv ⟨k + 1, by omega, by omega, ⟨rfl, ?_, rfl, rfl, rfl, trivial⟩, by rw [hcc]; rfl⟩
        rw [show rankF l - rankF (l.drop (k + 1)) = A + rrow m (l.getD k 0).toNat by omega]; rfl
    · have hk' : k = l.length := by omega
      subst hk'
      have e1 : rankF l - rankF (l.drop l.length) = rankF l := by rw [List.drop_length]; simp [rankF]
      rw [e1, List.drop_length]
      repeat (first
        | refine ax_q (q_move rfl) ?_
        | refine ax_q (q_assign rfl) ?_
        | refine ax_q (q_loadi_rp rfl rfl rfl) ?_
        | refine ax_ops_nil ?_
        | refine ax_post_code ?_
        | refine ax_seq ?_
        | refine ax_region rfl ?_
        | refine ax_guard rfl rfl ?_
        | refine ax_skip_undef rfl rfl ?_
        | refine ax_skip_not rfl rfl rfl ?_
        | refine ax_guard_not rfl rfl rfl ?_
        | refine ax_cond_true rfl ?_
        | refine ax_cond_false rfl ?_
        | refine ax_post_blk ?_
        | refine ax_post_scope ?_
        | refine ax_post_any ?_
        | refine ax_block ?_
        | refine ax_scope ?_
        | refine ax_skip ?_
        | refine ax_label ?_
        | refine ax_exit ?_
        | refine ax_exit_here ?_
        | refine ax_exit_code ?_
        | refine ax_exit_inv ?_
        | refine ax_exit_scope ?_
        | refine ax_exit_on rfl ?_
        | refine ax_return ?_
        | refine ax_ret_code ?_
        | refine ax_ret_blk ?_
        | refine ax_ret_scope ?_
        | refine ax_ret_inv ?_
        | refine ax_q (q_loads_rp rfl rfl rfl) ?_
        | refine ax_q (q_loadf_rp rfl rfl rfl rfl) ?_
        | refine ax_q (q_loadb_ptr rfl rfl rfl rfl rfl) ?_
        | refine ax_q (q_lss rfl rfl) ?_
        | refine ax_q (q_eql rfl rfl) ?_
        | refine ax_q (q_neq rfl rfl) ?_
        | refine ax_q (q_leq rfl rfl) ?_
        | refine ax_q (q_gtr rfl rfl) ?_
        | refine ax_q (q_geq rfl rfl) ?_
        | refine ax_q (q_not rfl) ?_
        | refine ax_q (q_pick rfl rfl) ?_
        | refine ax_q (q_extract rfl rfl) ?_
        | refine ax_q (q_len rfl rfl rfl) ?_
        | refine ax_q (q_lenstr rfl rfl) ?_
        | refine ax_q (q_add rfl rfl (by omega)) ?_
        | refine ax_q (q_sub rfl rfl (by omega)) ?_
        | refine ax_q (q_index_ro' rfl rfl rfl rfl (by first | (simp only [Nat.zero_add, Int.toNat_natCast, Int.toNat_zero]; exact rfl) | exact rfl) (by omega)) ?_
        | refine ax_q (q_index_sl' rfl rfl rfl rfl rfl (by first | (simp only [Nat.zero_add, Int.toNat_natCast, Int.toNat_zero]; exact rfl) | exact rfl) (by omega)) ?_
        | refine ax_q (q_loadi_ptr rfl rfl rfl rfl (by first | assumption | omega)) ?_
        | refine ax_q (q_loads_ptr rfl rfl rfl rfl (by first | assumption | omega)) ?_
        | refine ax_q (q_loadf_ptr rfl rfl rfl rfl rfl (by first | assumption | omega)) ?_
        | refine ax_q (q_quo rfl rfl (by omega)) ?_
        | refine ax_q (q_rem rfl rfl (by omega)) ?_
        | refine ax_q (q_slice_ro rfl rfl rfl rfl rfl rfl rfl (by omega)) ?_
        | refine ax_q (q_slice_sl rfl rfl rfl rfl rfl rfl rfl rfl (by omega)) ?_
        | refine ax_q (q_eqnilnil rfl rfl rfl) ?_
        | refine ax_q (q_build rfl rfl rfl rfl rfl rfl) ?_
        | refine ax_store rfl rfl rfl rfl rfl rfl rfl (by first | assumption | (show _ < List.length _; first | assumption | omega)) ?_
        | refine ax_buildSliceRo rfl rfl rfl rfl rfl rfl rfl rfl rfl rfl rfl ?_)
      exact ax_ret hR rfl ⟨rfl, rfl⟩
  · rintro r H ⟨rfl, rfl⟩
    exact ⟨rfl, ⟨trivial, trivial, trivial⟩, fun h o ho => refl1 refless_ints h o ho⟩
end Go.Proofs.Ytegaegmkajnibaa
