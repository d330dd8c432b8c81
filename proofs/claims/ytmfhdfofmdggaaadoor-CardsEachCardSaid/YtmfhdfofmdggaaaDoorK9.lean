import Derived.Test.YtmfhdfofmdggaaaDoorK8
import Derived.Laws.Bits64
namespace Go.Proofs.YtmfhdfofmdggaaaDoor
open Go.Ax Go.Ax.Idx Go.Ax.Cd
attribute [local irreducible] Ax Post QOp ACall
set_option maxRecDepth 100000
set_option maxHeartbeats 4000000
set_option linter.unusedSimpArgs false
set_option linter.unusedVariables false

def pickF (a n : Int) : Int := IntKind.u64.wrap a % n
theorem pickF_bd (a n : Int) (hn : 0 < n) : 0 ≤ pickF a n ∧ pickF a n < n := ⟨Int.emod_nonneg _ (by omega), Int.emod_lt_of_pos _ hn⟩
theorem pick (a n : Int) (hn : 0 < n ∧ n ≤ 1000000) : VCall Tryd.prog 15 [.int .i64 a, .int .i64 n] (.int .i64 (pickF a n)) := by
  refine ACall.value0 (acall_of_ax (P := Tryd.prog) (fn := Tryd.f15) rfl rfl (by kernel_rfl) rfl (fun c hR hfix => ?_)) (fix := fun _ => False) (fun _ h => h) rfl rfl
  have hw : 0 ≤ IntKind.u64.wrap a := by rw [IntKind.wrap_u64]; omega
  have hwn : IntKind.u64.wrap n = n := by rw [IntKind.wrap_u64]; omega
  have hb := pickF_bd a n hn.1
  repeat (first
    | refine ax_q (q_move rfl) ?_
    | refine ax_q (q_assign rfl) ?_
    | refine ax_ops_nil ?_
    | refine ax_post_code ?_
    | refine ax_seq ?_
    | refine ax_region rfl ?_)
  refine ax_q (q_conv (k' := .u64) rfl rfl rfl) ?_
  repeat (refine ax_q (q_move rfl) ?_)
  refine ax_q (q_conv (k' := .u64) rfl rfl rfl) ?_
  rw [hwn]
  generalize hz : IntKind.u64.wrap a = z at *
  have hpf : pickF a n = z % n := by unfold pickF; rw [hz]
  refine ax_q (q_rem rfl rfl (by omega)) ?_
  rw [← hpf]
  refine ax_q (q_conv64 rfl rfl rfl (by omega)) ?_
  repeat (first
    | refine ax_q (q_assign rfl) ?_
    | refine ax_ops_nil ?_
    | refine ax_post_code ?_
    | refine ax_return ?_)
  exact ax_ret hR rfl rfl

theorem f_fresh : VCall Tryd.prog 16 [.int .i64 3] (.tup [.ro (.ints .i64 [0, 1, 2]) 0 3, .int .i64 0]) := Fresh_ok 3 (by decide)
theorem f_shuf : VCall Tryd.prog 11 [.ro (.ints .i64 [0, 1, 2]) 0 3, .ro (.ints .i64 [0, 0]) 0 2] (.tup [.ro (.ints .i64 [1, 2, 0]) 0 3, .int .i64 0]) := by
  have := Shuffle_ok [0, 1, 2] [0, 0] (by decide) (by decide)
  rwa [show shufF [0, 1, 2] [0, 0] = [1, 2, 0] by decide] at this
theorem f_draws : VCall Tryd.prog 12 [.ro (.ints .i64 [0, 1, 2]) 0 3, .ro (.ints .i64 [1, 2, 0]) 0 3] (.tup [.ro (.ints .i64 [0, 0]) 0 2, .int .i64 0]) := by
  have := Draws_ok [0, 1, 2] [1, 2, 0] (by decide) (by decide) (by decide)
  rwa [show drawsF [0, 1, 2] [1, 2, 0] = [0, 0] by decide] at this
theorem f_cut : VCall Tryd.prog 20 [.ro (.ints .i64 [4, 5, 6]) 0 3, .int .i64 1] (.tup [.ro (.ints .i64 [5, 6, 4]) 0 3, .int .i64 0]) := by
  have := Cut_ok [4, 5, 6] 1 (by decide) (by decide) (by decide)
  rwa [show cutF [4, 5, 6] 1 = [5, 6, 4] by decide] at this
theorem f_deal : VCall Tryd.prog 21 [.ro (.ints .i64 [5, 6, 7]) 0 3, .int .i64 2, .int .i64 1] (.tup [.ro (rowsI [[5], [6]]) 0 2, .ro (.ints .i64 [7]) 0 1, .int .i64 0]) := by
  have := Deal_ok [5, 6, 7] 2 1 (by decide) (by decide) (by decide) (by decide) (by decide)
  rwa [show dealGo 2 [5, 6, 7] (2 * 1) = [[5], [6]] by decide] at this
theorem f_text : VCall Tryd.prog 22 [.ro (.ints .i64 [0, 51]) 0 2] (.tup [.str [50, 67, 32, 65, 83], .int .i64 0]) := by
  have := Text_ok [0, 51] (by decide)
  rwa [show textF [0, 51] = [50, 67, 32, 65, 83] by decide] at this
theorem f_read : VCall Tryd.prog 23 [.str [50, 67, 32, 65, 83]] (.tup [.ro (.ints .i64 [0, 51]) 0 2, .int .i64 0]) := Read_ok [50, 67, 32, 65, 83] (by decide) (by decide) (by decide)
theorem f_fine7 : VCall Tryd.prog 13 [.ro (.ints .i64 [0, 0, 0, 0, 0, 0, 0]) 0 7] (.bool true) := fineI [0, 0, 0, 0, 0, 0, 0] (by decide)
theorem f_eq (l : List Int) (h : l.length ≤ 1000) : VCall Tryd.prog 14 [.ro (.ints .i64 l) 0 l.length, .ro (.ints .i64 l) 0 l.length] (.bool true) := by
  have := equalI l l (by omega) (by omega)
  rwa [decide_eq_true rfl] at this
theorem f_check : VCall Tryd.prog 19 [.ro (.ints .i64 [1, 1]) 0 2] (.int .i64 7) := check [1, 1] (by decide)
theorem f_fits : VCall Tryd.prog 26 [.int .i64 2, .nil] (.int .i64 3) := VCall.args (fits 2 [] (by decide)) ⟨AEq.rfl', AEq.nil, trivial⟩

theorem cardsFact : VCall Tryd.prog 10 [] (.bool true) := by
  refine ACall.value0 (acall_of_ax (P := Tryd.prog) (fn := Tryd.f10) rfl rfl (by kernel_rfl) rfl (fun c hR hfix => ?_)) (fix := fun _ => False) (fun _ h => h) rfl rfl
  repeat (first
    | refine ax_q (q_assign rfl) ?_
    | refine ax_ops_nil ?_
    | refine ax_post_code ?_
    | refine ax_seq ?_
    | refine ax_region rfl ?_)
  refine ax_callv rfl rfl rfl f_fresh ?_
  repeat (first
    | refine ax_q (q_move rfl) ?_
    | refine ax_q (q_assign rfl) ?_
    | refine ax_ops_nil ?_
    | refine ax_post_code ?_
    | refine ax_seq ?_
    | refine ax_region rfl ?_
    | refine ax_q (q_extract rfl rfl) ?_
    | refine ax_buildSliceRo rfl rfl rfl rfl rfl rfl rfl rfl rfl rfl rfl ?_)
  refine ax_callv rfl rfl rfl f_shuf ?_
  repeat (first
    | refine ax_q (q_move rfl) ?_
    | refine ax_q (q_assign rfl) ?_
    | refine ax_ops_nil ?_
    | refine ax_post_code ?_
    | refine ax_seq ?_
    | refine ax_region rfl ?_
    | refine ax_q (q_extract rfl rfl) ?_
    | refine ax_buildSliceRo rfl rfl rfl rfl rfl rfl rfl rfl rfl rfl rfl ?_)
  refine ax_callv rfl rfl rfl f_draws ?_
  repeat (first
    | refine ax_q (q_move rfl) ?_
    | refine ax_q (q_assign rfl) ?_
    | refine ax_ops_nil ?_
    | refine ax_post_code ?_
    | refine ax_seq ?_
    | refine ax_region rfl ?_
    | refine ax_q (q_extract rfl rfl) ?_
    | refine ax_buildSliceRo rfl rfl rfl rfl rfl rfl rfl rfl rfl rfl rfl ?_)
  refine ax_callv rfl rfl rfl f_cut ?_
  repeat (first
    | refine ax_q (q_move rfl) ?_
    | refine ax_q (q_assign rfl) ?_
    | refine ax_ops_nil ?_
    | refine ax_post_code ?_
    | refine ax_seq ?_
    | refine ax_region rfl ?_
    | refine ax_q (q_extract rfl rfl) ?_
    | refine ax_buildSliceRo rfl rfl rfl rfl rfl rfl rfl rfl rfl rfl rfl ?_)
  refine ax_callv rfl rfl rfl f_deal ?_
  repeat (first
    | refine ax_q (q_move rfl) ?_
    | refine ax_q (q_assign rfl) ?_
    | refine ax_ops_nil ?_
    | refine ax_post_code ?_
    | refine ax_seq ?_
    | refine ax_region rfl ?_
    | refine ax_q (q_extract rfl rfl) ?_
    | refine ax_buildSliceRo rfl rfl rfl rfl rfl rfl rfl rfl rfl rfl rfl ?_)
  refine ax_callv rfl rfl rfl f_text ?_
  repeat (first
    | refine ax_q (q_move rfl) ?_
    | refine ax_q (q_assign rfl) ?_
    | refine ax_ops_nil ?_
    | refine ax_post_code ?_
    | refine ax_seq ?_
    | refine ax_region rfl ?_
    | refine ax_q (q_extract rfl rfl) ?_)
  refine ax_callv rfl rfl rfl f_read ?_
  repeat (first
    | refine ax_q (q_move rfl) ?_
    | refine ax_q (q_assign rfl) ?_
    | refine ax_ops_nil ?_
    | refine ax_post_code ?_
    | refine ax_seq ?_
    | refine ax_region rfl ?_
    | refine ax_q (q_extract rfl rfl) ?_
    | refine ax_buildSliceRo rfl rfl rfl rfl rfl rfl rfl rfl rfl rfl rfl ?_)
  refine ax_callv rfl rfl rfl f_fine7 ?_
  repeat (first
    | refine ax_q (q_move rfl) ?_
    | refine ax_guard rfl rfl ?_
    | refine ax_buildSliceRo rfl rfl rfl rfl rfl rfl rfl rfl rfl rfl rfl ?_)
  refine ax_callv rfl rfl rfl (f_eq [0, 1, 2] (by decide)) ?_
  repeat (first
    | refine ax_q (q_move rfl) ?_
    | refine ax_guard rfl rfl ?_
    | refine ax_q (q_pick rfl rfl) ?_
    | refine ax_buildSliceRo rfl rfl rfl rfl rfl rfl rfl rfl rfl rfl rfl ?_)
  refine ax_callv rfl rfl rfl (f_eq [1, 2, 0] (by decide)) ?_
  repeat (first
    | refine ax_q (q_move rfl) ?_
    | refine ax_guard rfl rfl ?_
    | refine ax_q (q_pick rfl rfl) ?_
    | refine ax_buildSliceRo rfl rfl rfl rfl rfl rfl rfl rfl rfl rfl rfl ?_)
  refine ax_callv rfl rfl rfl (f_eq [0, 0] (by decide)) ?_
  repeat (first
    | refine ax_q (q_move rfl) ?_
    | refine ax_guard rfl rfl ?_
    | refine ax_q (q_pick rfl rfl) ?_
    | refine ax_buildSliceRo rfl rfl rfl rfl rfl rfl rfl rfl rfl rfl rfl ?_)
  refine ax_callv rfl rfl rfl (f_eq [5, 6, 4] (by decide)) ?_
  repeat (first
    | refine ax_q (q_move rfl) ?_
    | refine ax_guard rfl rfl ?_
    | refine ax_q (q_loadf_rp rfl rfl rfl rfl) ?_
    | refine ax_q (q_eql rfl rfl) ?_
    | refine ax_q (q_pick rfl rfl) ?_
    | refine ax_q (q_len rfl rfl rfl) ?_
    | refine ax_q (q_index_ro' rfl rfl rfl rfl (by first | (simp only [Nat.zero_add, Int.toNat_natCast, Int.toNat_zero]; exact rfl) | exact rfl) (by omega)) ?_
    | refine ax_buildSliceRo rfl rfl rfl rfl rfl rfl rfl rfl rfl rfl rfl ?_)
  refine ax_callv rfl rfl rfl (f_eq [6] (by decide)) ?_
  repeat (first
    | refine ax_q (q_move rfl) ?_
    | refine ax_guard rfl rfl ?_
    | refine ax_q (q_pick rfl rfl) ?_
    | refine ax_buildSliceRo rfl rfl rfl rfl rfl rfl rfl rfl rfl rfl rfl ?_)
  refine ax_callv rfl rfl rfl (f_eq [7] (by decide)) ?_
  repeat (first
    | refine ax_q (q_move rfl) ?_
    | refine ax_guard rfl rfl ?_
    | refine ax_q (q_pick rfl rfl) ?_
    | refine ax_q (q_streql rfl rfl) ?_
    | refine ax_buildSliceRo rfl rfl rfl rfl rfl rfl rfl rfl rfl rfl rfl ?_)
  refine ax_callv rfl rfl rfl (f_eq [0, 51] (by decide)) ?_
  repeat (first
    | refine ax_q (q_move rfl) ?_
    | refine ax_guard rfl rfl ?_
    | refine ax_q (q_pick rfl rfl) ?_
    | refine ax_buildSliceRo rfl rfl rfl rfl rfl rfl rfl rfl rfl rfl rfl ?_)
  refine ax_callv rfl rfl rfl f_check ?_
  repeat (first
    | refine ax_q (q_move rfl) ?_
    | refine ax_guard rfl rfl ?_
    | refine ax_q (q_eql rfl rfl) ?_
    | refine ax_q (q_pick rfl rfl) ?_)
  refine ax_callv rfl rfl rfl f_fits ?_
  repeat (first
    | refine ax_q (q_assign rfl) ?_
    | refine ax_ops_nil ?_
    | refine ax_post_code ?_
    | refine ax_guard rfl rfl ?_
    | refine ax_return ?_
    | refine ax_q (q_eql rfl rfl) ?_
    | refine ax_q (q_pick rfl rfl) ?_)
  exact ax_ret hR rfl rfl
end Go.Proofs.YtmfhdfofmdggaaaDoor
