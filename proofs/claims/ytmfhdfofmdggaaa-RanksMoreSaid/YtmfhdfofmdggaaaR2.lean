import Derived.Test.YtmfhdfofmdggaaaR1
import Derived.Test.YtmfhdfofmdggaaaAxMore7
namespace Go.Proofs.Ytmfhdfofmdggaaa
open Go.Ax Go.Ax.Idx Go.Ax.Cd Go.Ax.Rk
attribute [local irreducible] Ax Post QOp ACall
set_option maxRecDepth 100000
set_option maxHeartbeats 4000000
set_option linter.unusedSimpArgs false
set_option linter.unusedVariables false

/-- An array of counters that is only read. -/
def cntB (c : List Int) : Cells := .box (c.map (AV.int .i64))
theorem cntB_at {c : List Int} {i : Nat} (h : i < c.length) : (c.map (AV.int .i64))[i]? = some (.int .i64 (c.getD i 0)) := by simp [List.getD, h]

theorem order1 (c : List Int) (hc : c.length = 13) (a b : Int) (ha : 0 ≤ a ∧ a < 13) (hb : 0 ≤ b ∧ b < 13) :
    VCall Try.prog 36 ([.int .i64 a, .int .i64 b] ++ [.rp (cntB c) 0 0]) (.int .i64 (cmpR c a b)) := by
  refine ACall.value0 (acall_of_ax (P := Try.prog) (fn := Try.f36) rfl rfl (by kernel_rfl) rfl (fun c' hR hfix => ?_)) (fix := fun _ => False) (fun _ h => h) rfl rfl
  have ga := cntB_at (c := c) (i := a.toNat) (by omega)
  have gb := cntB_at (c := c) (i := b.toNat) (by omega)
  repeat (first
    | refine ax_q (q_assign rfl) ?_
    | refine ax_ops_nil ?_
    | refine ax_post_code ?_
    | refine ax_seq ?_
    | refine ax_region rfl ?_)
  refine ax_regiond (by kernel_rfl) ?_
  refine ax_any_q 0 rfl (by kernel_rfl) (by kernel_rfl) (by kernel_rfl) rfl (q_move rfl) rfl ?_
  refine ax_any_q 1 rfl (by kernel_rfl) (by kernel_rfl) (by kernel_rfl) rfl (q_idxarr_rp rfl rfl rfl rfl (by first | (simp only [Nat.zero_add, Int.toNat_natCast]; exact rfl) | exact rfl) (by omega)) rfl ?_
  refine ax_any_q 3 rfl (by kernel_rfl) (by kernel_rfl) (by kernel_rfl) rfl (q_move rfl) rfl ?_
  refine ax_any_q 4 rfl (by kernel_rfl) (by kernel_rfl) (by kernel_rfl) rfl (q_idxarr_rp rfl rfl rfl rfl (by first | (simp only [Nat.zero_add, Int.toNat_natCast]; exact rfl) | exact rfl) (by omega)) rfl ?_
  refine ax_any_q 7 rfl (by kernel_rfl) (by kernel_rfl) (by kernel_rfl) rfl (q_move rfl) rfl ?_
  refine ax_any_q 8 rfl (by kernel_rfl) (by kernel_rfl) (by kernel_rfl) rfl (q_move rfl) rfl ?_
  refine ax_any_step (is := [2, 5]) (by kernel_rfl) (by simp) rfl ⟨fun o ho => ?_, fun o ho => ?_, trivial⟩
  all_goals (cases ho)
  · refine ax_q (q_loadb_rp rfl rfl rfl gb) ?_
    repeat (first
      | refine ax_ops_nil ?_
      | refine ax_post_any ?_)
    refine ax_any_step (is := [5]) (by kernel_rfl) (by simp) rfl ⟨fun o ho => ?_, trivial⟩
    all_goals (cases ho)
    refine ax_q (q_loadb_rp rfl rfl rfl ga) ?_
    repeat (first
      | refine ax_ops_nil ?_
      | refine ax_post_any ?_)
    refine ax_any_step (is := [6]) (by kernel_rfl) (by simp) rfl ⟨fun o ho => ?_, trivial⟩
    all_goals (cases ho)
    refine ax_callv rfl rfl rfl (cmpC (c.getD b.toNat 0) (c.getD a.toNat 0)) ?_
    repeat (first
      | refine ax_ops_nil ?_
      | refine ax_post_any ?_)
    refine ax_any_step (is := [9]) (by kernel_rfl) (by simp) rfl ⟨fun o ho => ?_, trivial⟩
    all_goals (cases ho)
    refine ax_callv rfl rfl rfl (cmpC b a) ?_
    repeat (first
      | refine ax_ops_nil ?_
      | refine ax_post_any ?_)
    refine ax_any_step (is := [10]) (by kernel_rfl) (by simp) rfl ⟨fun o ho => ?_, trivial⟩
    all_goals (cases ho)
    repeat (first
      | refine ax_ops_nil ?_
      | refine ax_post_any ?_
      | refine ax_buildSliceRo rfl rfl rfl rfl rfl rfl rfl rfl rfl rfl rfl ?_)
    refine ax_any_step (is := [11]) (by kernel_rfl) (by simp) rfl ⟨fun o ho => ?_, trivial⟩
    all_goals (cases ho)
    refine ax_callv rfl rfl rfl (cmpOr (cmpI (c.getD b.toNat 0) (c.getD a.toNat 0)) (cmpI b a)) ?_
    repeat (first
      | refine ax_ops_nil ?_
      | refine ax_post_any ?_)
    refine ax_any_q 12 rfl (by kernel_rfl) (by kernel_rfl) (by kernel_rfl) rfl (q_assign rfl) rfl ?_
    refine ax_any_done (by kernel_rfl) ?_
    repeat (first
      | refine ax_post_code ?_
      | refine ax_return ?_)
    exact ax_ret hR rfl rfl
  · refine ax_q (q_loadb_rp rfl rfl rfl ga) ?_
    repeat (first
      | refine ax_ops_nil ?_
      | refine ax_post_any ?_)
    refine ax_any_step (is := [2]) (by kernel_rfl) (by simp) rfl ⟨fun o ho => ?_, trivial⟩
    all_goals (cases ho)
    refine ax_q (q_loadb_rp rfl rfl rfl gb) ?_
    repeat (first
      | refine ax_ops_nil ?_
      | refine ax_post_any ?_)
    refine ax_any_step (is := [6]) (by kernel_rfl) (by simp) rfl ⟨fun o ho => ?_, trivial⟩
    all_goals (cases ho)
    refine ax_callv rfl rfl rfl (cmpC (c.getD b.toNat 0) (c.getD a.toNat 0)) ?_
    repeat (first
      | refine ax_ops_nil ?_
      | refine ax_post_any ?_)
    refine ax_any_step (is := [9]) (by kernel_rfl) (by simp) rfl ⟨fun o ho => ?_, trivial⟩
    all_goals (cases ho)
    refine ax_callv rfl rfl rfl (cmpC b a) ?_
    repeat (first
      | refine ax_ops_nil ?_
      | refine ax_post_any ?_)
    refine ax_any_step (is := [10]) (by kernel_rfl) (by simp) rfl ⟨fun o ho => ?_, trivial⟩
    all_goals (cases ho)
    repeat (first
      | refine ax_ops_nil ?_
      | refine ax_post_any ?_
      | refine ax_buildSliceRo rfl rfl rfl rfl rfl rfl rfl rfl rfl rfl rfl ?_)
    refine ax_any_step (is := [11]) (by kernel_rfl) (by simp) rfl ⟨fun o ho => ?_, trivial⟩
    all_goals (cases ho)
    refine ax_callv rfl rfl rfl (cmpOr (cmpI (c.getD b.toNat 0) (c.getD a.toNat 0)) (cmpI b a)) ?_
    repeat (first
      | refine ax_ops_nil ?_
      | refine ax_post_any ?_)
    refine ax_any_q 12 rfl (by kernel_rfl) (by kernel_rfl) (by kernel_rfl) rfl (q_assign rfl) rfl ?_
    refine ax_any_done (by kernel_rfl) ?_
    repeat (first
      | refine ax_post_code ?_
      | refine ax_return ?_)
    exact ax_ret hR rfl rfl
end Go.Proofs.Ytmfhdfofmdggaaa
