import Derived.Test.YtmfhdfofmdggaaaRB
namespace Go.Proofs.Ytmfhdfofmdggaaa
open Go.Ax Go.Ax.Idx Go.Ax.Cd Go.Ax.Rk Go.RowKit
attribute [local irreducible] Ax Post QOp ACall
set_option maxRecDepth 100000
set_option maxHeartbeats 4000000
set_option linter.unusedSimpArgs false
set_option linter.unusedVariables false

theorem fine2 (a b : Int) : VCall Try.prog 9 [.ro (.ints .i64 [a, b]) 0 2] (.bool (decide (a = 0 ∧ b = 0))) := by
  have := fineI [a, b] (show 2 ≤ 1000 by decide)
  have e : (!([a, b].any notOk)) = decide (a = 0 ∧ b = 0) := by
    simp only [List.any_cons, List.any_nil, notOk, Bool.or_false]
    by_cases h : a = 0 <;> by_cases h2 : b = 0 <;> simp [h, h2]
  rwa [e] at this

theorem ranksClassed (l m : List Int) (hl : l.length ≤ 9223372036854775807) (hm : m.length ≤ 9223372036854775807) : VCall Try.prog 3 [.ro (.ints .i64 l) 0 l.length, .ro (.ints .i64 m) 0 m.length] (.bool true) := by
  refine ACall.value0 (acall_of_ax (P := Try.prog) (fn := Try.f3) rfl rfl (by kernel_rfl) rfl (fun c hR hfix => ?_)) (fix := fun _ => False) (fun _ h => h) rfl rfl
  have c1 := Class_ok l hl
  have c2 := Class_ok m hm
  have v1 := Value_ok l hl
  have v2 := Value_ok m hm
  have b1 := valF_bd l
  have b2 := valF_bd m
  repeat (first
    | refine ax_q (q_assign rfl) ?_
    | refine ax_ops_nil ?_
    | refine ax_post_code ?_
    | refine ax_seq ?_
    | refine ax_region rfl ?_)
  refine ax_callv rfl rfl rfl ranksFact ?_
  repeat (first
    | refine ax_q (q_move rfl) ?_
    | refine ax_ops_nil ?_
    | refine ax_post_code ?_
    | refine ax_seq ?_
    | refine ax_region rfl ?_
    | refine ax_cond_false rfl ?_
    | refine ax_skip ?_
    | refine ax_q (q_not rfl) ?_)
  by_cases he : handE l = 0 ∧ handE m = 0
  · obtain ⟨h1, h2⟩ := he
    rw [h1, if_pos rfl] at c1 v1
    rw [h2, if_pos rfl] at c2 v2
    generalize clsF l = k1 at *
    generalize clsF m = k2 at *
    generalize valF l = w1 at *
    generalize valF m = w2 at *
    refine ax_callv rfl rfl rfl c1 ?_
    repeat (first
      | refine ax_q (q_move rfl) ?_
      | refine ax_q (q_assign rfl) ?_
      | refine ax_ops_nil ?_
      | refine ax_post_code ?_
      | refine ax_seq ?_
      | refine ax_region rfl ?_
      | refine ax_q (q_extract rfl rfl) ?_)
    refine ax_callv rfl rfl rfl c2 ?_
    repeat (first
      | refine ax_q (q_move rfl) ?_
      | refine ax_q (q_assign rfl) ?_
      | refine ax_ops_nil ?_
      | refine ax_post_code ?_
      | refine ax_seq ?_
      | refine ax_region rfl ?_
      | refine ax_q (q_extract rfl rfl) ?_)
    refine ax_callv rfl rfl rfl v1 ?_
    repeat (first
      | refine ax_q (q_move rfl) ?_
      | refine ax_q (q_assign rfl) ?_
      | refine ax_ops_nil ?_
      | refine ax_post_code ?_
      | refine ax_seq ?_
      | refine ax_region rfl ?_
      | refine ax_q (q_extract rfl rfl) ?_)
    refine ax_callv rfl rfl rfl v2 ?_
    repeat (first
      | refine ax_q (q_move rfl) ?_
      | refine ax_q (q_assign rfl) ?_
      | refine ax_ops_nil ?_
      | refine ax_post_code ?_
      | refine ax_seq ?_
      | refine ax_region rfl ?_
      | refine ax_q (q_extract rfl rfl) ?_
      | refine ax_buildSliceRo rfl rfl rfl rfl rfl rfl rfl rfl rfl rfl rfl ?_)
    refine ax_callv rfl rfl rfl (fineI [0, 0] (by decide)) ?_
    repeat (first
      | refine ax_q (q_move rfl) ?_
      | refine ax_ops_nil ?_
      | refine ax_post_code ?_
      | refine ax_seq ?_
      | refine ax_region rfl ?_
      | refine ax_cond_false rfl ?_
      | refine ax_skip ?_
      | refine ax_q (q_not rfl) ?_
      | refine ax_buildSliceRo rfl rfl rfl rfl rfl rfl rfl rfl rfl rfl rfl ?_)
    refine ax_callv rfl rfl rfl (fineI [0, 0] (by decide)) ?_
    repeat (first
      | refine ax_q (q_move rfl) ?_
      | refine ax_guard rfl rfl ?_
      | refine ax_q (q_leq rfl rfl) ?_)
    refine ax_gsplit rfl rfl (fun g1 => ?_) (fun g1 => ?_)
    · repeat (first
        | refine ax_q (q_move rfl) ?_
        | refine ax_guard rfl rfl ?_
        | refine ax_skip_not rfl rfl rfl ?_
        | refine ax_q (q_geq rfl rfl) ?_
        | refine ax_q (q_pick rfl rfl) ?_)
      refine ax_gsplit rfl rfl (fun g2 => ?_) (fun g2 => ?_)
      · repeat (first
          | refine ax_q (q_assign rfl) ?_
          | refine ax_ops_nil ?_
          | refine ax_post_code ?_
          | refine ax_guard rfl rfl ?_
          | refine ax_skip_not rfl rfl rfl ?_
          | refine ax_return ?_
          | refine ax_q (q_pick rfl rfl) ?_)
        exact ax_ret hR rfl rfl
      · repeat (first
          | refine ax_q (q_move rfl) ?_
          | refine ax_q (q_assign rfl) ?_
          | refine ax_ops_nil ?_
          | refine ax_post_code ?_
          | refine ax_guard rfl rfl ?_
          | refine ax_return ?_
          | refine ax_q (q_lss rfl rfl) ?_
          | refine ax_q (q_pick rfl rfl) ?_)
        refine ax_ret hR rfl ?_
        show AV.bool (decide (w1 < w2)) = _
        rw [decide_eq_true (by omega)]
    · repeat (first
        | refine ax_q (q_move rfl) ?_
        | refine ax_guard rfl rfl ?_
        | refine ax_q (q_gtr rfl rfl) ?_
        | refine ax_q (q_pick rfl rfl) ?_)
      refine ax_gsplit rfl rfl (fun g2 => ?_) (fun g2 => absurd (show w2 < w1 by omega) g2)
      repeat (first
        | refine ax_q (q_move rfl) ?_
        | refine ax_guard rfl rfl ?_
        | refine ax_q (q_geq rfl rfl) ?_)
      refine ax_gsplit rfl rfl (fun g3 => ?_) (fun g3 => absurd (show k2 ≤ k1 by omega) g3)
      repeat (first
        | refine ax_q (q_assign rfl) ?_
        | refine ax_ops_nil ?_
        | refine ax_post_code ?_
        | refine ax_guard rfl rfl ?_
        | refine ax_skip_not rfl rfl rfl ?_
        | refine ax_return ?_
        | refine ax_q (q_pick rfl rfl) ?_)
      exact ax_ret hR rfl rfl
  · generalize (if handE l = 0 then clsF l else 0) = k1 at *
    generalize (if handE m = 0 then clsF m else 0) = k2 at *
    generalize (if handE l = 0 then valF l else 0) = w1 at *
    generalize (if handE m = 0 then valF m else 0) = w2 at *
    generalize handE l = e1 at *
    generalize handE m = e2 at *
    have hf := fine2 e1 e2
    rw [decide_eq_false he] at hf
    have q1 : decide (e1 = e1) = true := decide_eq_true rfl
    have q2 : decide (e2 = e2) = true := decide_eq_true rfl
    refine ax_callv rfl rfl rfl c1 ?_
    repeat (first
      | refine ax_q (q_move rfl) ?_
      | refine ax_q (q_assign rfl) ?_
      | refine ax_ops_nil ?_
      | refine ax_post_code ?_
      | refine ax_seq ?_
      | refine ax_region rfl ?_
      | refine ax_q (q_extract rfl rfl) ?_)
    refine ax_callv rfl rfl rfl c2 ?_
    repeat (first
      | refine ax_q (q_move rfl) ?_
      | refine ax_q (q_assign rfl) ?_
      | refine ax_ops_nil ?_
      | refine ax_post_code ?_
      | refine ax_seq ?_
      | refine ax_region rfl ?_
      | refine ax_q (q_extract rfl rfl) ?_)
    refine ax_callv rfl rfl rfl v1 ?_
    repeat (first
      | refine ax_q (q_move rfl) ?_
      | refine ax_q (q_assign rfl) ?_
      | refine ax_ops_nil ?_
      | refine ax_post_code ?_
      | refine ax_seq ?_
      | refine ax_region rfl ?_
      | refine ax_q (q_extract rfl rfl) ?_)
    refine ax_callv rfl rfl rfl v2 ?_
    repeat (first
      | refine ax_q (q_move rfl) ?_
      | refine ax_q (q_assign rfl) ?_
      | refine ax_ops_nil ?_
      | refine ax_post_code ?_
      | refine ax_seq ?_
      | refine ax_region rfl ?_
      | refine ax_q (q_extract rfl rfl) ?_
      | refine ax_buildSliceRo rfl rfl rfl rfl rfl rfl rfl rfl rfl rfl rfl ?_)
    refine ax_callv rfl rfl rfl hf ?_
    repeat (first
      | refine ax_q (q_move rfl) ?_
      | refine ax_ops_nil ?_
      | refine ax_post_code ?_
      | refine ax_seq ?_
      | refine ax_region rfl ?_
      | refine ax_cond_true rfl ?_
      | refine ax_q (q_eql rfl rfl) ?_
      | refine ax_q (q_not rfl) ?_)
    refine ax_gsplit rfl rfl (fun g1 => ?_) (fun g1 => absurd rfl g1)
    repeat (first
      | refine ax_q (q_move rfl) ?_
      | refine ax_q (q_assign rfl) ?_
      | refine ax_ops_nil ?_
      | refine ax_post_code ?_
      | refine ax_guard rfl rfl ?_
      | refine ax_return ?_
      | refine ax_ret_code ?_
      | refine ax_q (q_eql rfl rfl) ?_
      | refine ax_q (q_pick rfl rfl) ?_)
    refine ax_ret hR rfl ?_
    show AV.bool (decide (e2 = e2)) = _
    rw [q2]
end Go.Proofs.Ytmfhdfofmdggaaa
