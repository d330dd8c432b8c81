import Derived.Test.YtmfhdfofmdggaaaDoorK9
import Derived.Test.YtmfhdfofmdggaaaDoorCdLaw
namespace Go.Proofs.YtmfhdfofmdggaaaDoor
open Go.Ax Go.Ax.Idx Go.Ax.Cd
attribute [local irreducible] Ax Post QOp ACall
set_option maxRecDepth 100000
set_option maxHeartbeats 4000000
set_option linter.unusedSimpArgs false
set_option linter.unusedVariables false

theorem drawsE_zero {l to : List Int} (hl : l.length = to.length) (h : ∀ c ∈ to, c ∈ l) : drawsE l to = 0 := by
  unfold drawsE
  rw [if_neg (by omega), if_neg]
  intro hq
  obtain ⟨c, hc, h1⟩ := List.any_eq_true.1 hq
  have := any_eqp.2 (h c hc)
  rw [this] at h1; cases h1
theorem drawsErr_zero {l to : List Int} (h1 : deckF l = 0) (h2 : deckF to = 0) (hl : l.length = to.length) (h : ∀ c ∈ to, c ∈ l) : drawsErr l to = 0 := by
  unfold drawsErr
  rw [if_neg (by omega), if_neg (by omega)]; exact drawsE_zero hl h

theorem cardsBack (l ds : List Int) (hl : l.length ≤ 9223372036854775807) (hds : ds.length ≤ 9223372036854775807) : VCall Tryd.prog 3 [.ro (.ints .i64 l) 0 l.length, .ro (.ints .i64 ds) 0 ds.length] (.bool true) := by
  refine ACall.value0 (acall_of_ax (P := Tryd.prog) (fn := Tryd.f3) rfl rfl (by kernel_rfl) rfl (fun c hR hfix => ?_)) (fix := fun _ => False) (fun _ h => h) rfl rfl
  repeat (first
    | refine ax_q (q_assign rfl) ?_
    | refine ax_ops_nil ?_
    | refine ax_post_code ?_
    | refine ax_seq ?_
    | refine ax_region rfl ?_)
  refine ax_callv rfl rfl rfl cardsFact ?_
  repeat (first
    | refine ax_q (q_move rfl) ?_
    | refine ax_ops_nil ?_
    | refine ax_post_code ?_
    | refine ax_seq ?_
    | refine ax_region rfl ?_
    | refine ax_cond_false rfl ?_
    | refine ax_skip ?_
    | refine ax_q (q_not rfl) ?_)
  by_cases he : shufE l ds = 0
  · have hsE := he
    unfold shufE at he
    have hd : deckF l = 0 := by
      by_cases hd : deckF l = 0
      · exact hd
      · rw [if_pos hd] at he; exact he
    rw [if_neg (by omega)] at he
    obtain ⟨p1, p2, p3, p4, p5, p6⟩ := cardsBack_plain hd he
    have hlen := deckF_len hd
    have c1 := Shuffle_ok l ds hl hsE
    have c2 := Draws_ok l (shufF l ds) hl (by omega) (drawsErr_zero hd p1 p3.symm (fun c hc => (p2 c).1 hc))
    have c3 := Draws_ok (shufF l ds) l (by omega) hl (drawsErr_zero p1 hd p3 (fun c hc => (p2 c).2 hc))
    rw [p4] at c2
    have c4 := Shuffle_ok (shufF l ds) (drawsF (shufF l ds) l) (by omega) (by unfold shufE; rw [if_neg (by omega), p3]; exact p5)
    rw [p6] at c4
    rw [p3] at c2 c3 c4
    generalize shufF l ds = to at *
    generalize drawsF to l = back at *
    refine ax_callv rfl rfl rfl c1 ?_
    repeat (first
      | refine ax_q (q_move rfl) ?_
      | refine ax_q (q_assign rfl) ?_
      | refine ax_ops_nil ?_
      | refine ax_post_code ?_
      | refine ax_seq ?_
      | refine ax_region rfl ?_
      | refine ax_cond_false rfl ?_
      | refine ax_skip ?_
      | refine ax_q (q_neq rfl rfl) ?_
      | refine ax_q (q_extract rfl rfl) ?_)
    refine ax_callv rfl rfl rfl c2 ?_
    repeat (first
      | refine ax_q (q_move rfl) ?_
      | refine ax_q (q_assign rfl) ?_
      | refine ax_ops_nil ?_
      | refine ax_post_code ?_
      | refine ax_seq ?_
      | refine ax_region rfl ?_
      | refine ax_q (q_extract rfl rfl) ?_)
    refine ax_callv rfl rfl rfl c3 ?_
    repeat (first
      | refine ax_q (q_move rfl) ?_
      | refine ax_q (q_assign rfl) ?_
      | refine ax_ops_nil ?_
      | refine ax_post_code ?_
      | refine ax_seq ?_
      | refine ax_region rfl ?_
      | refine ax_q (q_extract rfl rfl) ?_)
    refine ax_callv rfl rfl rfl c4 ?_
    repeat (first
      | refine ax_q (q_move rfl) ?_
      | refine ax_q (q_assign rfl) ?_
      | refine ax_ops_nil ?_
      | refine ax_post_code ?_
      | refine ax_seq ?_
      | refine ax_region rfl ?_
      | refine ax_q (q_extract rfl rfl) ?_
      | refine ax_buildSliceRo rfl rfl rfl rfl rfl rfl rfl rfl rfl rfl rfl ?_)
    refine ax_callv rfl rfl rfl (fineI [0, 0, 0] (by decide)) ?_
    repeat (first
      | refine ax_q (q_move rfl) ?_
      | refine ax_guard rfl rfl ?_)
    refine ax_callv rfl rfl rfl (equalI ds ds hds hds) ?_
    rw [decide_eq_true (rfl : ds = ds)]
    repeat (first
      | refine ax_q (q_move rfl) ?_
      | refine ax_guard rfl rfl ?_
      | refine ax_q (q_pick rfl rfl) ?_)
    refine ax_callv rfl rfl rfl (equalI l l hl hl) ?_
    rw [decide_eq_true (rfl : l = l)]
    repeat (first
      | refine ax_q (q_assign rfl) ?_
      | refine ax_ops_nil ?_
      | refine ax_post_code ?_
      | refine ax_return ?_
      | refine ax_q (q_pick rfl rfl) ?_)
    exact ax_ret hR rfl rfl
  · refine ax_callv rfl rfl rfl (Shuffle_no l ds hl rfl he) ?_
    repeat (first
      | refine ax_q (q_move rfl) ?_
      | refine ax_q (q_assign rfl) ?_
      | refine ax_ops_nil ?_
      | refine ax_post_code ?_
      | refine ax_seq ?_
      | refine ax_region rfl ?_
      | refine ax_q (q_neq rfl rfl) ?_
      | refine ax_q (q_extract rfl rfl) ?_)
    refine ax_cond_dec rfl (fun h2 => ?_) (fun h2 => absurd he h2)
    repeat (first
      | refine ax_q (q_move rfl) ?_
      | refine ax_q (q_assign rfl) ?_
      | refine ax_ops_nil ?_
      | refine ax_post_code ?_
      | refine ax_seq ?_
      | refine ax_region rfl ?_
      | refine ax_return ?_
      | refine ax_ret_code ?_
      | refine ax_q (q_eql rfl rfl) ?_
      | refine ax_q (q_len rfl rfl rfl) ?_)
    exact ax_ret hR rfl rfl
end Go.Proofs.YtmfhdfofmdggaaaDoor
