import Derived.Test.YtmfhdfofmdggaaaDoorK9
import Derived.Test.YtmfhdfofmdggaaaDoorCdRead
namespace Go.Proofs.YtmfhdfofmdggaaaDoor
open Go.Ax Go.Ax.Idx Go.Ax.Cd
attribute [local irreducible] Ax Post QOp ACall
set_option maxRecDepth 100000
set_option maxHeartbeats 4000000
set_option linter.unusedSimpArgs false
set_option linter.unusedVariables false

theorem cardsReads (l : List Int) (s : List UInt8) (hl : l.length ≤ 9223372036854775807) (hs : s.length ≤ 9223372036854775807) : VCall Tryd.prog 6 [.ro (.ints .i64 l) 0 l.length, .str s] (.bool true) := by
  refine ACall.value0 (acall_of_ax (P := Tryd.prog) (fn := Tryd.f6) rfl rfl (by kernel_rfl) rfl (fun c hR hfix => ?_)) (fix := fun _ => False) (fun _ h => h) rfl rfl
  repeat (first
    | refine ax_q (q_assign rfl) ?_
    | refine ax_ops_nil ?_
    | refine ax_post_code ?_
    | refine ax_seq ?_
    | refine ax_region rfl ?_)
  refine ax_callv rfl rfl rfl cardsFact ?_
  have hread : ∃ r e, VCall Tryd.prog 23 [.str s] (.tup [r, .int .i64 e]) ∧ ((e ≠ 0 ∧ r = .nil) ∨ (e = 0 ∧ ∃ out, r = .ro (.ints .i64 out) 0 out.length ∧ deckF out = 0 ∧ textF out = s)) := by
    by_cases he : readE s = 0
    · obtain ⟨out, h1, h2⟩ := readE_zero he
      exact ⟨_, _, Read_ok s hs he h1, .inr ⟨rfl, out, rfl, h2, text_read h1⟩⟩
    · exact ⟨_, _, Read_no s hs rfl he, .inl ⟨he, rfl⟩⟩
  have htext : ∃ t e, VCall Tryd.prog 22 [.ro (.ints .i64 l) 0 l.length] (.tup [.str t, .int .i64 e]) ∧ (e ≠ 0 ∨ (e = 0 ∧ VCall Tryd.prog 23 [.str t] (.tup [.ro (.ints .i64 l) 0 l.length, .int .i64 0]))) := by
    by_cases he : deckF l = 0
    · obtain ⟨h1, h2⟩ := read_text he
      have h3 := textF_len l
      have h4 := deckF_len he
      exact ⟨_, _, Text_ok l he, .inr ⟨rfl, Read_ok (textF l) (by omega) h2 h1⟩⟩
    · exact ⟨_, _, Text_no l hl rfl he, .inl he⟩
  obtain ⟨r, e, c1, hr⟩ := hread
  obtain ⟨t, e2, c2, ht⟩ := htext
  repeat (first
    | refine ax_q (q_move rfl) ?_
    | refine ax_ops_nil ?_
    | refine ax_post_code ?_
    | refine ax_seq ?_
    | refine ax_region rfl ?_
    | refine ax_cond_false rfl ?_
    | refine ax_skip ?_
    | refine ax_q (q_not rfl) ?_)
  refine ax_callv rfl rfl rfl c2 ?_
  repeat (first
    | refine ax_q (q_move rfl) ?_
    | refine ax_q (q_assign rfl) ?_
    | refine ax_ops_nil ?_
    | refine ax_post_code ?_
    | refine ax_seq ?_
    | refine ax_region rfl ?_
    | refine ax_q (q_eql rfl rfl) ?_
    | refine ax_q (q_extract rfl rfl) ?_)
  refine ax_cond_dec rfl (fun h2 => ?_) (fun h2 => ?_)
  · subst h2
    have c3 := (ht.resolve_left (by omega)).2
    repeat (first
      | refine ax_q (q_move rfl) ?_
      | refine ax_seq ?_
      | refine ax_region rfl ?_)
    refine ax_callv rfl rfl rfl c3 ?_
    repeat (first
      | refine ax_q (q_move rfl) ?_
      | refine ax_q (q_assign rfl) ?_
      | refine ax_ops_nil ?_
      | refine ax_post_code ?_
      | refine ax_seq ?_
      | refine ax_region rfl ?_
      | refine ax_guard rfl rfl ?_
      | refine ax_q (q_neq rfl rfl) ?_
      | refine ax_q (q_extract rfl rfl) ?_)
    refine ax_callv rfl rfl rfl (equalI l l hl hl) ?_
    rw [decide_eq_true (rfl : l = l)]
    repeat (first
      | refine ax_q (q_move rfl) ?_
      | refine ax_ops_nil ?_
      | refine ax_post_code ?_
      | refine ax_seq ?_
      | refine ax_region rfl ?_
      | refine ax_guard rfl rfl ?_
      | refine ax_cond_false rfl ?_
      | refine ax_skip ?_
      | refine ax_q (q_not rfl) ?_
      | refine ax_q (q_pick rfl rfl) ?_)
    refine ax_callv rfl rfl rfl c1 ?_
    rcases hr with ⟨he, rfl⟩ | ⟨rfl, out, rfl, hd, hto⟩
    · repeat (first
        | refine ax_q (q_move rfl) ?_
        | refine ax_q (q_assign rfl) ?_
        | refine ax_ops_nil ?_
        | refine ax_post_code ?_
        | refine ax_seq ?_
        | refine ax_region rfl ?_
        | refine ax_q (q_neq rfl rfl) ?_
        | refine ax_q (q_extract rfl rfl) ?_)
      refine ax_cond_dec rfl (fun h3 => ?_) (fun h3 => absurd he h3)
      repeat (first
        | refine ax_q (q_move rfl) ?_
        | refine ax_q (q_assign rfl) ?_
        | refine ax_ops_nil ?_
        | refine ax_post_code ?_
        | refine ax_seq ?_
        | refine ax_region rfl ?_
        | refine ax_return ?_
        | refine ax_ret_code ?_
        | refine ax_q (q_eql rfl rfl) ?_
        | refine ax_q (q_len rfl rfl rfl) ?_)
      exact ax_ret hR rfl rfl
    · repeat (first
        | refine ax_q (q_move rfl) ?_
        | refine ax_q (q_assign rfl) ?_
        | refine ax_ops_nil ?_
        | refine ax_post_code ?_
        | refine ax_seq ?_
        | refine ax_region rfl ?_
        | refine ax_cond_false rfl ?_
        | refine ax_skip ?_
        | refine ax_q (q_neq rfl rfl) ?_
        | refine ax_q (q_extract rfl rfl) ?_)
      refine ax_callv rfl rfl rfl (Text_ok out hd) ?_
      rw [hto]
      repeat (first
        | refine ax_q (q_move rfl) ?_
        | refine ax_q (q_assign rfl) ?_
        | refine ax_ops_nil ?_
        | refine ax_post_code ?_
        | refine ax_seq ?_
        | refine ax_region rfl ?_
        | refine ax_guard rfl rfl ?_
        | refine ax_return ?_
        | refine ax_q (q_eql rfl rfl) ?_
        | refine ax_q (q_pick rfl rfl) ?_
        | refine ax_q (q_extract rfl rfl) ?_
        | refine ax_q (q_streql rfl rfl) ?_)
      refine ax_ret hR rfl ?_
      simp [tupOf]
  · repeat (first
      | refine ax_q (q_move rfl) ?_
      | refine ax_post_code ?_
      | refine ax_seq ?_
      | refine ax_region rfl ?_
      | refine ax_skip ?_)
    refine ax_callv rfl rfl rfl c1 ?_
    rcases hr with ⟨he, rfl⟩ | ⟨rfl, out, rfl, hd, hto⟩
    · repeat (first
        | refine ax_q (q_move rfl) ?_
        | refine ax_q (q_assign rfl) ?_
        | refine ax_ops_nil ?_
        | refine ax_post_code ?_
        | refine ax_seq ?_
        | refine ax_region rfl ?_
        | refine ax_q (q_neq rfl rfl) ?_
        | refine ax_q (q_extract rfl rfl) ?_)
      refine ax_cond_dec rfl (fun h3 => ?_) (fun h3 => absurd he h3)
      repeat (first
        | refine ax_q (q_move rfl) ?_
        | refine ax_q (q_assign rfl) ?_
        | refine ax_ops_nil ?_
        | refine ax_post_code ?_
        | refine ax_seq ?_
        | refine ax_region rfl ?_
        | refine ax_return ?_
        | refine ax_ret_code ?_
        | refine ax_q (q_eql rfl rfl) ?_
        | refine ax_q (q_len rfl rfl rfl) ?_)
      exact ax_ret hR rfl rfl
    · repeat (first
        | refine ax_q (q_move rfl) ?_
        | refine ax_q (q_assign rfl) ?_
        | refine ax_ops_nil ?_
        | refine ax_post_code ?_
        | refine ax_seq ?_
        | refine ax_region rfl ?_
        | refine ax_cond_false rfl ?_
        | refine ax_skip ?_
        | refine ax_q (q_neq rfl rfl) ?_
        | refine ax_q (q_extract rfl rfl) ?_)
      refine ax_callv rfl rfl rfl (Text_ok out hd) ?_
      rw [hto]
      repeat (first
        | refine ax_q (q_move rfl) ?_
        | refine ax_q (q_assign rfl) ?_
        | refine ax_ops_nil ?_
        | refine ax_post_code ?_
        | refine ax_seq ?_
        | refine ax_region rfl ?_
        | refine ax_guard rfl rfl ?_
        | refine ax_return ?_
        | refine ax_q (q_eql rfl rfl) ?_
        | refine ax_q (q_pick rfl rfl) ?_
        | refine ax_q (q_extract rfl rfl) ?_
        | refine ax_q (q_streql rfl rfl) ?_)
      refine ax_ret hR rfl ?_
      simp [tupOf]
end Go.Proofs.YtmfhdfofmdggaaaDoor
