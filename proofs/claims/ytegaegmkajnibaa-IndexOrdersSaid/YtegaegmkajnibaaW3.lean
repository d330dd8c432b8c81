import Derived.Test.YtegaegmkajnibaaW2
import Derived.Test.YtegaegmkajnibaaIdxMath
set_option linter.unusedVariables false
namespace Go.Proofs.Ytegaegmkajnibaa
open Go.Ax Go.Ax.Idx
attribute [local irreducible] Ax Post QOp ACall
set_option maxRecDepth 100000
set_option linter.unusedSimpArgs false

theorem clone (l : List Int) (hl : l.length ≤ 1000) : FCall Try.prog 19 [.ro (.ints .i64 l) 0 l.length] (fun N => .sl N 0 l.length) ⟨3, .ints .i64 l⟩ := by
  refine ACall.fresh (K := fun r H => r = .sl 0 0 l.length ∧ H = [some ⟨3, .ints .i64 l⟩]) (acall_of_ax (P := Try.prog) (fn := Try.f19) rfl rfl (by kernel_rfl) rfl (fun c hR hfix => ?_)) (fix := fun _ => False) (fun _ h => h) rfl (fun H => ⟨rfl, by simp [inBs, inB]⟩) ?_
  · repeat (first
      | refine ax_q (q_move rfl) ?_
      | refine ax_q (q_assign rfl) ?_
      | refine ax_q (q_loadi_rp rfl rfl rfl) ?_
      | refine ax_ops_nil ?_
      | refine ax_post_code ?_
      | refine ax_seq ?_
      | refine ax_region rfl ?_
      | refine ax_guard rfl rfl ?_
      | refine ax_skip_undef rfl rfl ?_
      | refine ax_skip_not rfl rfl rfl ?_
      | refine ax_guard_not rfl rfl rfl ?_
      | refine ax_cond_true rfl ?_
      | refine ax_cond_false rfl ?_
      | refine ax_post_blk ?_
      | refine ax_post_scope ?_
      | refine ax_post_any ?_
      | refine ax_block ?_
      | refine ax_scope ?_
      | refine ax_skip ?_
      | refine ax_label ?_
      | refine ax_exit ?_
      | refine ax_exit_here ?_
      | refine ax_exit_code ?_
      | refine ax_exit_inv ?_
      | refine ax_exit_scope ?_
      | refine ax_exit_on rfl ?_
      | refine ax_return ?_
      | refine ax_ret_code ?_
      | refine ax_ret_blk ?_
      | refine ax_ret_scope ?_
      | refine ax_ret_inv ?_
      | refine ax_q (q_loads_rp rfl rfl rfl) ?_
      | refine ax_q (q_loadf_rp rfl rfl rfl rfl) ?_
      | refine ax_q (q_loadb_ptr rfl rfl rfl rfl rfl) ?_
      | refine ax_q (q_lss rfl rfl) ?_
      | refine ax_q (q_eql rfl rfl) ?_
      | refine ax_q (q_neq rfl rfl) ?_
      | refine ax_q (q_leq rfl rfl) ?_
      | refine ax_q (q_gtr rfl rfl) ?_
      | refine ax_q (q_geq rfl rfl) ?_
      | refine ax_q (q_not rfl) ?_
      | refine ax_q (q_pick rfl rfl) ?_
      | refine ax_q (q_extract rfl rfl) ?_
      | refine ax_q (q_len rfl rfl rfl) ?_
      | refine ax_q (q_lenstr rfl rfl) ?_
      | refine ax_q (q_add rfl rfl (by omega)) ?_
      | refine ax_q (q_sub rfl rfl (by omega)) ?_
      | refine ax_q (q_index_ro' rfl rfl rfl rfl (by first | (simp only [Nat.zero_add, Int.toNat_natCast, Int.toNat_zero]; exact rfl) | exact rfl) (by omega)) ?_
      | refine ax_q (q_index_sl' rfl rfl rfl rfl rfl (by first | (simp only [Nat.zero_add, Int.toNat_natCast, Int.toNat_zero]; exact rfl) | exact rfl) (by omega)) ?_
      | refine ax_q (q_loadi_ptr rfl rfl rfl rfl (by first | assumption | omega)) ?_
      | refine ax_q (q_loads_ptr rfl rfl rfl rfl (by first | assumption | omega)) ?_
      | refine ax_q (q_loadf_ptr rfl rfl rfl rfl rfl (by first | assumption | omega)) ?_
      | refine ax_q (q_quo rfl rfl (by omega)) ?_
      | refine ax_q (q_rem rfl rfl (by omega)) ?_
      | refine ax_q (q_slice_ro rfl rfl rfl rfl rfl rfl rfl (by omega)) ?_
      | refine ax_q (q_slice_sl rfl rfl rfl rfl rfl rfl rfl rfl (by omega)) ?_
      | refine ax_q (q_eqnilnil rfl rfl rfl) ?_
      | refine ax_q (q_build rfl rfl rfl rfl rfl rfl) ?_
      | refine ax_store rfl rfl rfl rfl rfl rfl rfl (by first | assumption | (show _ < List.length _; first | assumption | omega)) ?_
      | refine ax_buildSliceRo rfl rfl rfl rfl rfl rfl rfl rfl rfl rfl rfl ?_)
    refine ax_eqnil rfl rfl rfl (fun b hb => ?_)
    repeat (first
      | refine ax_q (q_move rfl) ?_
      | refine ax_q (q_assign rfl) ?_
      | refine ax_q (q_loadi_rp rfl rfl rfl) ?_
      | refine ax_ops_nil ?_
      | refine ax_post_code ?_
      | refine ax_seq ?_
      | refine ax_region rfl ?_
      | refine ax_guard rfl rfl ?_
      | refine ax_skip_undef rfl rfl ?_
      | refine ax_skip_not rfl rfl rfl ?_
      | refine ax_guard_not rfl rfl rfl ?_
      | refine ax_cond_true rfl ?_
      | refine ax_cond_false rfl ?_
      | refine ax_post_blk ?_
      | refine ax_post_scope ?_
      | refine ax_post_any ?_
      | refine ax_block ?_
      | refine ax_scope ?_
      | refine ax_skip ?_
      | refine ax_label ?_
      | refine ax_exit ?_
      | refine ax_exit_here ?_
      | refine ax_exit_code ?_
      | refine ax_exit_inv ?_
      | refine ax_exit_scope ?_
      | refine ax_exit_on rfl ?_
      | refine ax_return ?_
      | refine ax_ret_code ?_
      | refine ax_ret_blk ?_
      | refine ax_ret_scope ?_
      | refine ax_ret_inv ?_
      | refine ax_q (q_loads_rp rfl rfl rfl) ?_
      | refine ax_q (q_loadf_rp rfl rfl rfl rfl) ?_
      | refine ax_q (q_loadb_ptr rfl rfl rfl rfl rfl) ?_
      | refine ax_q (q_lss rfl rfl) ?_
      | refine ax_q (q_eql rfl rfl) ?_
      | refine ax_q (q_neq rfl rfl) ?_
      | refine ax_q (q_leq rfl rfl) ?_
      | refine ax_q (q_gtr rfl rfl) ?_
      | refine ax_q (q_geq rfl rfl) ?_
      | refine ax_q (q_not rfl) ?_
      | refine ax_q (q_pick rfl rfl) ?_
      | refine ax_q (q_extract rfl rfl) ?_
      | refine ax_q (q_len rfl rfl rfl) ?_
      | refine ax_q (q_lenstr rfl rfl) ?_
      | refine ax_q (q_add rfl rfl (by omega)) ?_
      | refine ax_q (q_sub rfl rfl (by omega)) ?_
      | refine ax_q (q_index_ro' rfl rfl rfl rfl (by first | (simp only [Nat.zero_add, Int.toNat_natCast, Int.toNat_zero]; exact rfl) | exact rfl) (by omega)) ?_
      | refine ax_q (q_index_sl' rfl rfl rfl rfl rfl (by first | (simp only [Nat.zero_add, Int.toNat_natCast, Int.toNat_zero]; exact rfl) | exact rfl) (by omega)) ?_
      | refine ax_q (q_loadi_ptr rfl rfl rfl rfl (by first | assumption | omega)) ?_
      | refine ax_q (q_loads_ptr rfl rfl rfl rfl (by first | assumption | omega)) ?_
      | refine ax_q (q_loadf_ptr rfl rfl rfl rfl rfl (by first | assumption | omega)) ?_
      | refine ax_q (q_quo rfl rfl (by omega)) ?_
      | refine ax_q (q_rem rfl rfl (by omega)) ?_
      | refine ax_q (q_slice_ro rfl rfl rfl rfl rfl rfl rfl (by omega)) ?_
      | refine ax_q (q_slice_sl rfl rfl rfl rfl rfl rfl rfl rfl (by omega)) ?_
      | refine ax_q (q_eqnilnil rfl rfl rfl) ?_
      | refine ax_q (q_build rfl rfl rfl rfl rfl rfl) ?_
      | refine ax_store rfl rfl rfl rfl rfl rfl rfl (by first | assumption | (show _ < List.length _; first | assumption | omega)) ?_
      | refine ax_buildSliceRo rfl rfl rfl rfl rfl rfl rfl rfl rfl rfl rfl ?_)
    refine ax_cond rfl (fun h => ?_) (fun h => ?_)
    · have := hb h
      have hn : l = [] := List.length_eq_zero_iff.mp this
      subst hn
      repeat (first
        | refine ax_q (q_move rfl) ?_
        | refine ax_q (q_assign rfl) ?_
        | refine ax_q (q_loadi_rp rfl rfl rfl) ?_
        | refine ax_ops_nil ?_
        | refine ax_post_code ?_
        | refine ax_seq ?_
        | refine ax_region rfl ?_
        | refine ax_guard rfl rfl ?_
        | refine ax_skip_undef rfl rfl ?_
        | refine ax_skip_not rfl rfl rfl ?_
        | refine ax_guard_not rfl rfl rfl ?_
        | refine ax_cond_true rfl ?_
        | refine ax_cond_false rfl ?_
        | refine ax_post_blk ?_
        | refine ax_post_scope ?_
        | refine ax_post_any ?_
        | refine ax_block ?_
        | refine ax_scope ?_
        | refine ax_skip ?_
        | refine ax_label ?_
        | refine ax_exit ?_
        | refine ax_exit_here ?_
        | refine ax_exit_code ?_
        | refine ax_exit_inv ?_
        | refine ax_exit_scope ?_
        | refine ax_exit_on rfl ?_
        | refine ax_ret_code ?_
        | refine ax_ret_blk ?_
        | refine ax_ret_scope ?_
        | refine ax_ret_inv ?_
        | refine ax_q (q_loads_rp rfl rfl rfl) ?_
        | refine ax_q (q_loadf_rp rfl rfl rfl rfl) ?_
        | refine ax_q (q_loadb_ptr rfl rfl rfl rfl rfl) ?_
        | refine ax_q (q_lss rfl rfl) ?_
        | refine ax_q (q_eql rfl rfl) ?_
        | refine ax_q (q_neq rfl rfl) ?_
        | refine ax_q (q_leq rfl rfl) ?_
        | refine ax_q (q_gtr rfl rfl) ?_
        | refine ax_q (q_geq rfl rfl) ?_
        | refine ax_q (q_not rfl) ?_
        | refine ax_q (q_pick rfl rfl) ?_
        | refine ax_q (q_extract rfl rfl) ?_
        | refine ax_q (q_len rfl rfl rfl) ?_
        | refine ax_q (q_lenstr rfl rfl) ?_
        | refine ax_q (q_add rfl rfl (by omega)) ?_
        | refine ax_q (q_sub rfl rfl (by omega)) ?_
        | refine ax_q (q_index_ro' rfl rfl rfl rfl (by first | (simp only [Nat.zero_add, Int.toNat_natCast, Int.toNat_zero]; exact rfl) | exact rfl) (by omega)) ?_
        | refine ax_q (q_index_sl' rfl rfl rfl rfl rfl (by first | (simp only [Nat.zero_add, Int.toNat_natCast, Int.toNat_zero]; exact rfl) | exact rfl) (by omega)) ?_
        | refine ax_q (q_loadi_ptr rfl rfl rfl rfl (by first | assumption | omega)) ?_
        | refine ax_q (q_loads_ptr rfl rfl rfl rfl (by first | assumption | omega)) ?_
        | refine ax_q (q_loadf_ptr rfl rfl rfl rfl rfl (by first | assumption | omega)) ?_
        | refine ax_q (q_quo rfl rfl (by omega)) ?_
        | refine ax_q (q_rem rfl rfl (by omega)) ?_
        | refine ax_q (q_slice_ro rfl rfl rfl rfl rfl rfl rfl (by omega)) ?_
        | refine ax_q (q_slice_sl rfl rfl rfl rfl rfl rfl rfl rfl (by omega)) ?_
        | refine ax_q (q_eqnilnil rfl rfl rfl) ?_
        | refine ax_q (q_build rfl rfl rfl rfl rfl rfl) ?_
        | refine ax_store rfl rfl rfl rfl rfl rfl rfl (by first | assumption | (show _ < List.length _; first | assumption | omega)) ?_
        | refine ax_buildSliceRo rfl rfl rfl rfl rfl rfl rfl rfl rfl rfl rfl ?_)
      refine ax_nilobj 2 ⟨3, .ints .i64 []⟩ rfl rfl ?_
      repeat (first
        | refine ax_q (q_move rfl) ?_
        | refine ax_q (q_assign rfl) ?_
        | refine ax_q (q_loadi_rp rfl rfl rfl) ?_
        | refine ax_ops_nil ?_
        | refine ax_post_code ?_
        | refine ax_seq ?_
        | refine ax_region rfl ?_
        | refine ax_guard rfl rfl ?_
        | refine ax_skip_undef rfl rfl ?_
        | refine ax_skip_not rfl rfl rfl ?_
        | refine ax_guard_not rfl rfl rfl ?_
        | refine ax_cond_true rfl ?_
        | refine ax_cond_false rfl ?_
        | refine ax_post_blk ?_
        | refine ax_post_scope ?_
        | refine ax_post_any ?_
        | refine ax_block ?_
        | refine ax_scope ?_
        | refine ax_skip ?_
        | refine ax_label ?_
        | refine ax_exit ?_
        | refine ax_exit_here ?_
        | refine ax_exit_code ?_
        | refine ax_exit_inv ?_
        | refine ax_exit_scope ?_
        | refine ax_exit_on rfl ?_
        | refine ax_return ?_
        | refine ax_ret_code ?_
        | refine ax_ret_blk ?_
        | refine ax_ret_scope ?_
        | refine ax_ret_inv ?_
        | refine ax_q (q_loads_rp rfl rfl rfl) ?_
        | refine ax_q (q_loadf_rp rfl rfl rfl rfl) ?_
        | refine ax_q (q_loadb_ptr rfl rfl rfl rfl rfl) ?_
        | refine ax_q (q_lss rfl rfl) ?_
        | refine ax_q (q_eql rfl rfl) ?_
        | refine ax_q (q_neq rfl rfl) ?_
        | refine ax_q (q_leq rfl rfl) ?_
        | refine ax_q (q_gtr rfl rfl) ?_
        | refine ax_q (q_geq rfl rfl) ?_
        | refine ax_q (q_not rfl) ?_
        | refine ax_q (q_pick rfl rfl) ?_
        | refine ax_q (q_extract rfl rfl) ?_
        | refine ax_q (q_len rfl rfl rfl) ?_
        | refine ax_q (q_lenstr rfl rfl) ?_
        | refine ax_q (q_add rfl rfl (by omega)) ?_
        | refine ax_q (q_sub rfl rfl (by omega)) ?_
        | refine ax_q (q_index_ro' rfl rfl rfl rfl (by first | (simp only [Nat.zero_add, Int.toNat_natCast, Int.toNat_zero]; exact rfl) | exact rfl) (by omega)) ?_
        | refine ax_q (q_index_sl' rfl rfl rfl rfl rfl (by first | (simp only [Nat.zero_add, Int.toNat_natCast, Int.toNat_zero]; exact rfl) | exact rfl) (by omega)) ?_
        | refine ax_q (q_loadi_ptr rfl rfl rfl rfl (by first | assumption | omega)) ?_
        | refine ax_q (q_loads_ptr rfl rfl rfl rfl (by first | assumption | omega)) ?_
        | refine ax_q (q_loadf_ptr rfl rfl rfl rfl rfl (by first | assumption | omega)) ?_
        | refine ax_q (q_quo rfl rfl (by omega)) ?_
        | refine ax_q (q_rem rfl rfl (by omega)) ?_
        | refine ax_q (q_slice_ro rfl rfl rfl rfl rfl rfl rfl (by omega)) ?_
        | refine ax_q (q_slice_sl rfl rfl rfl rfl rfl rfl rfl rfl (by omega)) ?_
        | refine ax_q (q_eqnilnil rfl rfl rfl) ?_
        | refine ax_q (q_build rfl rfl rfl rfl rfl rfl) ?_
        | refine ax_store rfl rfl rfl rfl rfl rfl rfl (by first | assumption | (show _ < List.length _; first | assumption | omega)) ?_
        | refine ax_buildSliceRo rfl rfl rfl rfl rfl rfl rfl rfl rfl rfl rfl ?_)
      exact ax_ret hR rfl ⟨rfl, rfl⟩
    · repeat (first
        | refine ax_q (q_move rfl) ?_
        | refine ax_q (q_assign rfl) ?_
        | refine ax_q (q_loadi_rp rfl rfl rfl) ?_
        | refine ax_ops_nil ?_
        | refine ax_post_code ?_
        | refine ax_seq ?_
        | refine ax_region rfl ?_
        | refine ax_guard rfl rfl ?_
        | refine ax_skip_undef rfl rfl ?_
        | refine ax_skip_not rfl rfl rfl ?_
        | refine ax_guard_not rfl rfl rfl ?_
        | refine ax_cond_true rfl ?_
        | refine ax_cond_false rfl ?_
        | refine ax_post_blk ?_
        | refine ax_post_scope ?_
        | refine ax_post_any ?_
        | refine ax_block ?_
        | refine ax_scope ?_
        | refine ax_skip ?_
        | refine ax_label ?_
        | refine ax_exit ?_
        | refine ax_exit_here ?_
        | refine ax_exit_code ?_
        | refine ax_exit_inv ?_
        | refine ax_exit_scope ?_
        | refine ax_exit_on rfl ?_
        | refine ax_return ?_
        | refine ax_ret_code ?_
        | refine ax_ret_blk ?_
        | refine ax_ret_scope ?_
        | refine ax_ret_inv ?_
        | refine ax_q (q_loads_rp rfl rfl rfl) ?_
        | refine ax_q (q_loadf_rp rfl rfl rfl rfl) ?_
        | refine ax_q (q_loadb_ptr rfl rfl rfl rfl rfl) ?_
        | refine ax_q (q_lss rfl rfl) ?_
        | refine ax_q (q_eql rfl rfl) ?_
        | refine ax_q (q_neq rfl rfl) ?_
        | refine ax_q (q_leq rfl rfl) ?_
        | refine ax_q (q_gtr rfl rfl) ?_
        | refine ax_q (q_geq rfl rfl) ?_
        | refine ax_q (q_not rfl) ?_
        | refine ax_q (q_pick rfl rfl) ?_
        | refine ax_q (q_extract rfl rfl) ?_
        | refine ax_q (q_len rfl rfl rfl) ?_
        | refine ax_q (q_lenstr rfl rfl) ?_
        | refine ax_q (q_add rfl rfl (by omega)) ?_
        | refine ax_q (q_sub rfl rfl (by omega)) ?_
        | refine ax_q (q_index_ro' rfl rfl rfl rfl (by first | (simp only [Nat.zero_add, Int.toNat_natCast, Int.toNat_zero]; exact rfl) | exact rfl) (by omega)) ?_
        | refine ax_q (q_index_sl' rfl rfl rfl rfl rfl (by first | (simp only [Nat.zero_add, Int.toNat_natCast, Int.toNat_zero]; exact rfl) | exact rfl) (by omega)) ?_
        | refine ax_q (q_loadi_ptr rfl rfl rfl rfl (by first | assumption | omega)) ?_
        | refine ax_q (q_loads_ptr rfl rfl rfl rfl (by first | assumption | omega)) ?_
        | refine ax_q (q_loadf_ptr rfl rfl rfl rfl rfl (by first | assumption | omega)) ?_
        | refine ax_q (q_quo rfl rfl (by omega)) ?_
        | refine ax_q (q_rem rfl rfl (by omega)) ?_
        | refine ax_q (q_slice_ro rfl rfl rfl rfl rfl rfl rfl (by omega)) ?_
        | refine ax_q (q_slice_sl rfl rfl rfl rfl rfl rfl rfl rfl (by omega)) ?_
        | refine ax_q (q_eqnilnil rfl rfl rfl) ?_
        | refine ax_q (q_build rfl rfl rfl rfl rfl rfl) ?_
        | refine ax_store rfl rfl rfl rfl rfl rfl rfl (by first | assumption | (show _ < List.length _; first | assumption | omega)) ?_)
      refine ax_buildSlice rfl rfl rfl rfl rfl rfl rfl rfl rfl rfl ?_
      refine ax_heap_ops [some ⟨3, .ints .i64 []⟩] (HSub.eqv ⟨rfl, rfl, fun i j hi => absurd hi (Nat.not_lt_zero _)⟩ HSub.nil) ?_
      repeat (first
        | refine ax_q (q_move rfl) ?_
        | refine ax_q (q_assign rfl) ?_
        | refine ax_q (q_loadi_rp rfl rfl rfl) ?_
        | refine ax_ops_nil ?_
        | refine ax_post_code ?_
        | refine ax_seq ?_
        | refine ax_region rfl ?_
        | refine ax_guard rfl rfl ?_
        | refine ax_skip_undef rfl rfl ?_
        | refine ax_skip_not rfl rfl rfl ?_
        | refine ax_guard_not rfl rfl rfl ?_
        | refine ax_cond_true rfl ?_
        | refine ax_cond_false rfl ?_
        | refine ax_post_blk ?_
        | refine ax_post_scope ?_
        | refine ax_post_any ?_
        | refine ax_block ?_
        | refine ax_scope ?_
        | refine ax_skip ?_
        | refine ax_label ?_
        | refine ax_exit ?_
        | refine ax_exit_here ?_
        | refine ax_exit_code ?_
        | refine ax_exit_inv ?_
        | refine ax_exit_scope ?_
        | refine ax_exit_on rfl ?_
        | refine ax_return ?_
        | refine ax_ret_code ?_
        | refine ax_ret_blk ?_
        | refine ax_ret_scope ?_
        | refine ax_ret_inv ?_
        | refine ax_q (q_loads_rp rfl rfl rfl) ?_
        | refine ax_q (q_loadf_rp rfl rfl rfl rfl) ?_
        | refine ax_q (q_loadb_ptr rfl rfl rfl rfl rfl) ?_
        | refine ax_q (q_lss rfl rfl) ?_
        | refine ax_q (q_eql rfl rfl) ?_
        | refine ax_q (q_neq rfl rfl) ?_
        | refine ax_q (q_leq rfl rfl) ?_
        | refine ax_q (q_gtr rfl rfl) ?_
        | refine ax_q (q_geq rfl rfl) ?_
        | refine ax_q (q_not rfl) ?_
        | refine ax_q (q_pick rfl rfl) ?_
        | refine ax_q (q_extract rfl rfl) ?_
        | refine ax_q (q_len rfl rfl rfl) ?_
        | refine ax_q (q_lenstr rfl rfl) ?_
        | refine ax_q (q_add rfl rfl (by omega)) ?_
        | refine ax_q (q_sub rfl rfl (by omega)) ?_
        | refine ax_q (q_index_ro' rfl rfl rfl rfl (by first | (simp only [Nat.zero_add, Int.toNat_natCast, Int.toNat_zero]; exact rfl) | exact rfl) (by omega)) ?_
        | refine ax_q (q_index_sl' rfl rfl rfl rfl rfl (by first | (simp only [Nat.zero_add, Int.toNat_natCast, Int.toNat_zero]; exact rfl) | exact rfl) (by omega)) ?_
        | refine ax_q (q_loadi_ptr rfl rfl rfl rfl (by first | assumption | omega)) ?_
        | refine ax_q (q_loads_ptr rfl rfl rfl rfl (by first | assumption | omega)) ?_
        | refine ax_q (q_loadf_ptr rfl rfl rfl rfl rfl (by first | assumption | omega)) ?_
        | refine ax_q (q_quo rfl rfl (by omega)) ?_
        | refine ax_q (q_rem rfl rfl (by omega)) ?_
        | refine ax_q (q_slice_ro rfl rfl rfl rfl rfl rfl rfl (by omega)) ?_
        | refine ax_q (q_slice_sl rfl rfl rfl rfl rfl rfl rfl rfl (by omega)) ?_
        | refine ax_q (q_eqnilnil rfl rfl rfl) ?_
        | refine ax_q (q_build rfl rfl rfl rfl rfl rfl) ?_
        | refine ax_store rfl rfl rfl rfl rfl rfl rfl (by first | assumption | (show _ < List.length _; first | assumption | omega)) ?_
        | refine ax_buildSliceRo rfl rfl rfl rfl rfl rfl rfl rfl rfl rfl rfl ?_)
      refine ax_append rfl rfl rfl rfl rfl rfl rfl rfl rfl rfl rfl rfl (by show 0 + l.length ≤ l.length; omega) rfl (by show (0 + l.length) * 8 ≤ _ ∧ _; omega) (fun i j _ _ => rfl) (by rw [hfix]; exact fun h => h) ?_
      repeat (first
        | refine ax_q (q_move rfl) ?_
        | refine ax_q (q_assign rfl) ?_
        | refine ax_q (q_loadi_rp rfl rfl rfl) ?_
        | refine ax_ops_nil ?_
        | refine ax_post_code ?_
        | refine ax_seq ?_
        | refine ax_region rfl ?_
        | refine ax_guard rfl rfl ?_
        | refine ax_skip_undef rfl rfl ?_
        | refine ax_skip_not rfl rfl rfl ?_
        | refine ax_guard_not rfl rfl rfl ?_
        | refine ax_cond_true rfl ?_
        | refine ax_cond_false rfl ?_
        | refine ax_post_blk ?_
        | refine ax_post_scope ?_
        | refine ax_post_any ?_
        | refine ax_block ?_
        | refine ax_scope ?_
        | refine ax_skip ?_
        | refine ax_label ?_
        | refine ax_exit ?_
        | refine ax_exit_here ?_
        | refine ax_exit_code ?_
        | refine ax_exit_inv ?_
        | refine ax_exit_scope ?_
        | refine ax_exit_on rfl ?_
        | refine ax_return ?_
        | refine ax_ret_code ?_
        | refine ax_ret_blk ?_
        | refine ax_ret_scope ?_
        | refine ax_ret_inv ?_
        | refine ax_q (q_loads_rp rfl rfl rfl) ?_
        | refine ax_q (q_loadf_rp rfl rfl rfl rfl) ?_
        | refine ax_q (q_loadb_ptr rfl rfl rfl rfl rfl) ?_
        | refine ax_q (q_lss rfl rfl) ?_
        | refine ax_q (q_eql rfl rfl) ?_
        | refine ax_q (q_neq rfl rfl) ?_
        | refine ax_q (q_leq rfl rfl) ?_
        | refine ax_q (q_gtr rfl rfl) ?_
        | refine ax_q (q_geq rfl rfl) ?_
        | refine ax_q (q_not rfl) ?_
        | refine ax_q (q_pick rfl rfl) ?_
        | refine ax_q (q_extract rfl rfl) ?_
        | refine ax_q (q_len rfl rfl rfl) ?_
        | refine ax_q (q_lenstr rfl rfl) ?_
        | refine ax_q (q_add rfl rfl (by omega)) ?_
        | refine ax_q (q_sub rfl rfl (by omega)) ?_
        | refine ax_q (q_index_ro' rfl rfl rfl rfl (by first | (simp only [Nat.zero_add, Int.toNat_natCast, Int.toNat_zero]; exact rfl) | exact rfl) (by omega)) ?_
        | refine ax_q (q_index_sl' rfl rfl rfl rfl rfl (by first | (simp only [Nat.zero_add, Int.toNat_natCast, Int.toNat_zero]; exact rfl) | exact rfl) (by omega)) ?_
        | refine ax_q (q_loadi_ptr rfl rfl rfl rfl (by first | assumption | omega)) ?_
        | refine ax_q (q_loads_ptr rfl rfl rfl rfl (by first | assumption | omega)) ?_
        | refine ax_q (q_loadf_ptr rfl rfl rfl rfl rfl (by first | assumption | omega)) ?_
        | refine ax_q (q_quo rfl rfl (by omega)) ?_
        | refine ax_q (q_rem rfl rfl (by omega)) ?_
        | refine ax_q (q_slice_ro rfl rfl rfl rfl rfl rfl rfl (by omega)) ?_
        | refine ax_q (q_slice_sl rfl rfl rfl rfl rfl rfl rfl rfl (by omega)) ?_
        | refine ax_q (q_eqnilnil rfl rfl rfl) ?_
        | refine ax_q (q_build rfl rfl rfl rfl rfl rfl) ?_
        | refine ax_store rfl rfl rfl rfl rfl rfl rfl (by first | assumption | (show _ < List.length _; first | assumption | omega)) ?_
        | refine ax_buildSliceRo rfl rfl rfl rfl rfl rfl rfl rfl rfl rfl rfl ?_)
      refine ax_ret hR rfl ⟨?_, ?_⟩
      · show AV.sl 0 0 (0 + l.length) = _; rw [Nat.zero_add]
      · show ([some ⟨3, .ints .i64 ([] ++ List.take l.length (List.drop 0 l))⟩] : AHeap) = _
        simp
  · rintro r H ⟨rfl, rfl⟩
    refine ⟨?_, fun h o ho => refl1 refless_ints h o ho, 0, rfl, fun n => rfl⟩
    intro o ho; simp at ho; subst ho; show 0 + l.length ≤ l.length; omega
end Go.Proofs.Ytegaegmkajnibaa
