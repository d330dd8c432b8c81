import Derived.Test.YtmfhdfofmdggaaaDoorK2
namespace Go.Proofs.YtmfhdfofmdggaaaDoor
open Go.Ax Go.Ax.Idx Go.Ax.Cd
attribute [local irreducible] Ax Post QOp ACall
set_option maxRecDepth 100000
set_option maxHeartbeats 4000000
set_option linter.unusedSimpArgs false
set_option linter.unusedVariables false

theorem draws1 (l : List Int) (v : Int) (hlen : l.length ≤ 9223372036854775807) : VCall Tryd.prog 41 ([.int .i64 v] ++ [.rp (.box [.ro (.ints .i64 l) 0 l.length]) 0 0]) (.bool (!(l.any (eqp v)))) := by
  refine ACall.value0 (acall_of_ax (P := Tryd.prog) (fn := Tryd.f41) rfl rfl (by kernel_rfl) rfl (fun c hR hfix => ?_)) (fix := fun _ => False) (fun _ h => h) rfl rfl
  repeat (first
    | refine ax_q (q_move rfl) ?_
    | refine ax_q (q_assign rfl) ?_
    | refine ax_ops_nil ?_
    | refine ax_post_code ?_
    | refine ax_seq ?_
    | refine ax_region rfl ?_
    | refine ax_q (q_loadb_rp rfl rfl rfl rfl) ?_)
  refine ax_callv rfl rfl rfl (containsV l v hlen) ?_
  repeat (first
    | refine ax_q (q_assign rfl) ?_
    | refine ax_ops_nil ?_
    | refine ax_post_code ?_
    | refine ax_return ?_
    | refine ax_q (q_not rfl) ?_)
  exact ax_ret hR rfl rfl

def drawsErr (l to : List Int) : Int := if deckF l ≠ 0 then deckF l else if deckF to ≠ 0 then deckF to else drawsE l to

theorem Draws_no (l to : List Int) (hl : l.length ≤ 9223372036854775807) (hl2 : to.length ≤ 9223372036854775807) {e : Int} (he : drawsErr l to = e) (h : e ≠ 0) : VCall Tryd.prog 12 [.ro (.ints .i64 l) 0 l.length, .ro (.ints .i64 to) 0 to.length] (.tup [.nil, .int .i64 e]) := by
  refine ACall.value (K := fun r H => r = .tup [.nil, .int .i64 e] ∧ H = [some ⟨22, .box [.ro (.ints .i64 l) 0 l.length]⟩]) (acall_of_ax (P := Tryd.prog) (fn := Tryd.f12) rfl rfl (by kernel_rfl) rfl (fun c hR hfix => ?_)) (fix := fun _ => False) (fun _ h => h) rfl ?_
  · unfold drawsErr at he
    repeat (first
      | refine ax_q (q_assign rfl) ?_
      | refine ax_ops_nil ?_
      | refine ax_post_code ?_
      | refine ax_seq ?_
      | refine ax_region rfl ?_
      | refine ax_q (q_loadb_ptr rfl rfl rfl rfl rfl) ?_
      | refine ax_box rfl rfl ?_)
    refine ax_callv rfl rfl rfl (check l hl) ?_
    repeat (first
      | refine ax_q (q_move rfl) ?_
      | refine ax_q (q_assign rfl) ?_
      | refine ax_ops_nil ?_
      | refine ax_post_code ?_
      | refine ax_seq ?_
      | refine ax_region rfl ?_
      | refine ax_q (q_neq rfl rfl) ?_)
    refine ax_cond_dec rfl (fun h2 => ?_) (fun h2 => ?_)
    · rw [if_pos h2] at he
      subst he
      repeat (first
        | refine ax_q (q_move rfl) ?_
        | refine ax_q (q_assign rfl) ?_
        | refine ax_ops_nil ?_
        | refine ax_post_code ?_
        | refine ax_seq ?_
        | refine ax_region rfl ?_
        | refine ax_return ?_
        | refine ax_ret_code ?_)
      exact ax_ret hR rfl ⟨rfl, rfl⟩
    rw [if_neg h2] at he
    repeat (first
      | refine ax_q (q_move rfl) ?_
      | refine ax_post_code ?_
      | refine ax_seq ?_
      | refine ax_region rfl ?_
      | refine ax_skip ?_)
    refine ax_callv rfl rfl rfl (check to hl2) ?_
    repeat (first
      | refine ax_q (q_move rfl) ?_
      | refine ax_q (q_assign rfl) ?_
      | refine ax_ops_nil ?_
      | refine ax_post_code ?_
      | refine ax_seq ?_
      | refine ax_region rfl ?_
      | refine ax_q (q_neq rfl rfl) ?_)
    refine ax_cond_dec rfl (fun h3 => ?_) (fun h3 => ?_)
    · rw [if_pos h3] at he
      subst he
      repeat (first
        | refine ax_q (q_move rfl) ?_
        | refine ax_q (q_assign rfl) ?_
        | refine ax_ops_nil ?_
        | refine ax_post_code ?_
        | refine ax_seq ?_
        | refine ax_region rfl ?_
        | refine ax_return ?_
        | refine ax_ret_code ?_)
      exact ax_ret hR rfl ⟨rfl, rfl⟩
    rw [if_neg h3] at he
    unfold drawsE at he
    repeat (first
      | refine ax_q (q_move rfl) ?_
      | refine ax_post_code ?_
      | refine ax_seq ?_
      | refine ax_region rfl ?_
      | refine ax_skip ?_
      | refine ax_q (q_loadb_ptr rfl rfl rfl rfl rfl) ?_
      | refine ax_q (q_neq rfl rfl) ?_
      | refine ax_q (q_len rfl rfl rfl) ?_)
    refine ax_gsplit rfl rfl (fun h4 => ?_) (fun h4 => ?_)
    · rw [if_pos (by omega)] at he
      subst he
      repeat (first
        | refine ax_q (q_assign rfl) ?_
        | refine ax_ops_nil ?_
        | refine ax_post_code ?_
        | refine ax_seq ?_
        | refine ax_region rfl ?_
        | refine ax_guard_not rfl rfl rfl ?_
        | refine ax_cond_true rfl ?_
        | refine ax_return ?_
        | refine ax_ret_code ?_
        | refine ax_q (q_pick rfl rfl) ?_)
      exact ax_ret hR rfl ⟨rfl, rfl⟩
    rw [if_neg (by omega)] at he
    repeat (first
      | refine ax_q (q_move rfl) ?_
      | refine ax_guard rfl rfl ?_
      | refine ax_q (q_makefn rfl) ?_)
    refine ax_calll rfl rfl rfl rfl (containsI to 41 [.rp (.box [.ro (.ints .i64 l) 0 l.length]) 0 0] (fun v => !(l.any (eqp v))) rfl hl2 (fun x _ => draws1 l x hl)) (fun h o ho => refl1 (refless_box rfl) h o ho) (by simp [inBs, inB, Cells.len]) rfl rfl rfl ?_
    repeat (first
      | refine ax_ops_nil ?_
      | refine ax_post_code ?_
      | refine ax_q (q_pick rfl rfl) ?_)
    refine ax_cond rfl (fun h5 => ?_) (fun h5 => ?_)
    · rw [if_pos h5] at he
      subst he
      repeat (first
        | refine ax_q (q_assign rfl) ?_
        | refine ax_ops_nil ?_
        | refine ax_post_code ?_
        | refine ax_seq ?_
        | refine ax_region rfl ?_
        | refine ax_return ?_
        | refine ax_ret_code ?_)
      exact ax_ret hR rfl ⟨rfl, rfl⟩
    · rw [if_neg (by rw [h5]; decide)] at he
      exact absurd he.symm h
  · rintro r H ⟨rfl, rfl⟩
    exact ⟨rfl, ⟨trivial, trivial, trivial⟩, fun h o ho => refl1 (refless_box rfl) h o ho⟩

theorem Draws_ok (l to : List Int) (hl : l.length ≤ 9223372036854775807) (hl2 : to.length ≤ 9223372036854775807) (he : drawsErr l to = 0) : VCall Tryd.prog 12 [.ro (.ints .i64 l) 0 l.length, .ro (.ints .i64 to) 0 to.length] (.tup [.ro (.ints .i64 (drawsF l to)) 0 (drawsF l to).length, .int .i64 0]) := by
  unfold drawsErr at he
  have hd : deckF l = 0 := by
    by_cases hd : deckF l = 0
    · exact hd
    · rw [if_pos hd] at he; exact he
  rw [if_neg (by omega)] at he
  have hd2 : deckF to = 0 := by
    by_cases hd : deckF to = 0
    · exact hd
    · rw [if_pos hd] at he; exact he
  rw [if_neg (by omega)] at he
  unfold drawsE at he
  have hln : l.length = to.length := by
    by_cases hq : l.length = to.length
    · exact hq
    · rw [if_pos hq] at he; omega
  rw [if_neg (by omega)] at he
  have hany : to.any (fun c => !(l.any (eqp c))) = false := by
    cases hq : to.any (fun c => !(l.any (eqp c))) with
    | false => rfl
    | true => rw [if_pos hq] at he; omega
  have hmem : ∀ c ∈ to, c ∈ l := by
    intro c hc
    have := List.any_eq_false.1 hany c hc
    simp only [Bool.not_eq_true, Bool.not_eq_false] at this
    rw [← any_eqp]
    simpa using this
  have hlen := deckF_len hd
  refine ACall.value (K := fun r H => r = .tup [.sl 2 0 (drawsF l to).length, .int .i64 0] ∧ ∃ now, H = [some ⟨22, .box [.ro (.ints .i64 l) 0 l.length]⟩, some ⟨3, .ints .i64 now⟩, some ⟨3, .ints .i64 (drawsF l to)⟩]) (acall_of_ax (P := Tryd.prog) (fn := Tryd.f12) rfl rfl (by kernel_rfl) rfl (fun c hR hfix => ?_)) (fix := fun _ => False) (fun _ h => h) rfl ?_
  · repeat (first
      | refine ax_q (q_assign rfl) ?_
      | refine ax_ops_nil ?_
      | refine ax_post_code ?_
      | refine ax_seq ?_
      | refine ax_region rfl ?_
      | refine ax_q (q_loadb_ptr rfl rfl rfl rfl rfl) ?_
      | refine ax_box rfl rfl ?_)
    refine ax_callv rfl rfl rfl (check l hl) ?_
    rw [hd]
    repeat (first
      | refine ax_q (q_move rfl) ?_
      | refine ax_q (q_assign rfl) ?_
      | refine ax_ops_nil ?_
      | refine ax_post_code ?_
      | refine ax_seq ?_
      | refine ax_region rfl ?_
      | refine ax_cond_false rfl ?_
      | refine ax_skip ?_
      | refine ax_q (q_neq rfl rfl) ?_)
    refine ax_callv rfl rfl rfl (check to hl2) ?_
    rw [hd2]
    repeat (first
      | refine ax_q (q_move rfl) ?_
      | refine ax_q (q_assign rfl) ?_
      | refine ax_ops_nil ?_
      | refine ax_post_code ?_
      | refine ax_seq ?_
      | refine ax_region rfl ?_
      | refine ax_cond_false rfl ?_
      | refine ax_skip ?_
      | refine ax_q (q_loadb_ptr rfl rfl rfl rfl rfl) ?_
      | refine ax_q (q_neq rfl rfl) ?_
      | refine ax_q (q_len rfl rfl rfl) ?_)
    refine ax_gsplit rfl rfl (fun h4 => absurd h4 (by omega)) (fun h4 => ?_)
    repeat (first
      | refine ax_q (q_move rfl) ?_
      | refine ax_guard rfl rfl ?_
      | refine ax_q (q_makefn rfl) ?_)
    refine ax_calll rfl rfl rfl rfl (containsI to 41 [.rp (.box [.ro (.ints .i64 l) 0 l.length]) 0 0] (fun v => !(l.any (eqp v))) rfl hl2 (fun x _ => draws1 l x hl)) (fun h o ho => refl1 (refless_box rfl) h o ho) (by simp [inBs, inB, Cells.len]) rfl rfl rfl ?_
    rw [hany]
    repeat (first
      | refine ax_ops_nil ?_
      | refine ax_post_code ?_
      | refine ax_seq ?_
      | refine ax_region rfl ?_
      | refine ax_cond_false rfl ?_
      | refine ax_skip ?_
      | refine ax_q (q_loadb_ptr rfl rfl rfl rfl rfl) ?_
      | refine ax_q (q_pick rfl rfl) ?_)
    refine ax_callf rfl rfl rfl (clone l (by omega)) ?_
    repeat (first
      | refine ax_q (q_move rfl) ?_
      | refine ax_q (q_assign rfl) ?_
      | refine ax_ops_nil ?_
      | refine ax_post_code ?_
      | refine ax_seq ?_
      | refine ax_region rfl ?_
      | refine ax_q (q_len rfl rfl rfl) ?_
      | refine ax_q (q_sub rfl rfl (by omega)) ?_)
    refine ax_nilobj 9 ⟨3, .ints .i64 []⟩ rfl rfl ?_
    repeat (refine ax_block ?_)
    refine ax_loop (ι := Int × List Int × List Int) (fun x => [(1, .ro (.ints .i64 to) 0 to.length), (8, .sl 1 0 l.length), (9, .sl 2 0 x.2.2.length), (10, .int .i64 x.1)]) (fun x => [some ⟨22, .box [.ro (.ints .i64 l) 0 l.length]⟩, some ⟨3, .ints .i64 x.2.1⟩, some ⟨3, .ints .i64 x.2.2⟩])
      (fun x => -1 ≤ x.1 ∧ x.1 ≤ (l.length : Int) - 1 ∧ x.2.1.length = l.length ∧ (x.2.2.length : Int) + x.1 ≤ 52 ∧ (∀ c ∈ to, c ∈ x.2.1) ∧ drawsF l to = x.2.2 ++ drawsGo to x.1.toNat x.2.1) (fun x => x.1.toNat) ((l.length : Int) - 1, l, [])
      ⟨⟨rfl, rfl, rfl, rfl, trivial⟩, rfl, by simp only; omega, by simp only; omega, rfl, by simp only [List.length_nil]; omega, hmem, by simp only [List.nil_append]; unfold drawsF; congr 1; omega⟩ ?_
    rintro ⟨i, now, out⟩ ⟨hi1, hi2, hnl, hol, hmm, hgo⟩
    simp only at *
    repeat (first
      | refine ax_q (q_move rfl) ?_
      | refine ax_ops_nil ?_
      | refine ax_post_code ?_
      | refine ax_seq ?_
      | refine ax_region rfl ?_
      | refine ax_q (q_gtr rfl rfl) ?_)
    refine ax_cond_dec rfl (fun h1 => ?_) (fun h1 => ?_)
    · have hit : i.toNat < to.length := by omega
      obtain ⟨j, hj⟩ : ∃ j, i.toNat = j + 1 := ⟨i.toNat - 1, by omega⟩
      have hcm : to.getD i.toNat 0 ∈ now := hmm _ (getD_mem 0 hit)
      have hix := idxF_lt hcm
      rw [hj, drawsGo, ← hj] at hgo
      repeat (first
        | refine ax_q (q_move rfl) ?_
        | refine ax_q (q_loadi_rp rfl rfl rfl) ?_
        | refine ax_post_code ?_
        | refine ax_seq ?_
        | refine ax_region rfl ?_
        | refine ax_block ?_
        | refine ax_skip ?_
        | refine ax_q (q_index_ro' rfl rfl rfl rfl (by first | (simp only [Nat.zero_add, Int.toNat_natCast, Int.toNat_zero]; exact rfl) | exact rfl) (by omega)) ?_)
      have hidx := indexI now (to.getD i.toNat 0) (by omega)
      rw [hnl] at hidx
      refine ax_calll rfl rfl rfl rfl hidx (fun h o ho => refl3 (refless_box rfl) refless_ints refless_ints h o ho) (by simp [inBs, inB, Cells.len, hnl]) rfl rfl rfl ?_
      generalize idxF (eqp (to.getD i.toNat 0)) now = d at *
      have hl2' : d.toNat < now.length := by omega
      have hl3 : d.toNat < (now.set i.toNat (now.getD d.toNat 0)).length := by simpa using hl2'
      have hl4 : i.toNat < now.length := by omega
      repeat (first
        | refine ax_q (q_assign rfl) ?_
        | refine ax_ops_nil ?_
        | refine ax_post_code ?_
        | refine ax_seq ?_)
      refine ax_regiond (by kernel_rfl) ?_
      refine ax_any_q 0 rfl (by kernel_rfl) (by kernel_rfl) (by kernel_rfl) rfl (q_move rfl) rfl ?_
      refine ax_any_q 1 rfl (by kernel_rfl) (by kernel_rfl) (by kernel_rfl) rfl (q_move rfl) rfl ?_
      refine ax_any_q 2 rfl (by kernel_rfl) (by kernel_rfl) (by kernel_rfl) rfl (q_move rfl) rfl ?_
      refine ax_any_q 3 rfl (by kernel_rfl) (by kernel_rfl) (by kernel_rfl) rfl (q_move rfl) rfl ?_
      refine ax_any_q 4 rfl (by kernel_rfl) (by kernel_rfl) (by kernel_rfl) rfl (q_move rfl) rfl ?_
      refine ax_any_q 5 rfl (by kernel_rfl) (by kernel_rfl) (by kernel_rfl) rfl (q_move rfl) rfl ?_
      refine ax_any_q 8 rfl (by kernel_rfl) (by kernel_rfl) (by kernel_rfl) rfl (q_move rfl) rfl ?_
      refine ax_any_q 9 rfl (by kernel_rfl) (by kernel_rfl) (by kernel_rfl) rfl (q_move rfl) rfl ?_
      refine ax_any_q 6 rfl (by kernel_rfl) (by kernel_rfl) (by kernel_rfl) rfl (q_index_sl' rfl rfl rfl rfl rfl (by first | (simp only [Nat.zero_add, Int.toNat_natCast, Int.toNat_zero]; exact rfl) | exact rfl) (by omega)) rfl ?_
      refine ax_any_q 10 rfl (by kernel_rfl) (by kernel_rfl) (by kernel_rfl) rfl (q_index_sl' rfl rfl rfl rfl rfl (by first | (simp only [Nat.zero_add, Int.toNat_natCast, Int.toNat_zero]; exact rfl) | exact rfl) (by omega)) rfl ?_
      refine ax_any_step (is := [7, 11]) (by kernel_rfl) (by simp) rfl ⟨fun o ho => ?_, fun o ho => ?_, trivial⟩
      all_goals (cases ho)
      · repeat (first
          | refine ax_ops_nil ?_
          | refine ax_post_any ?_
          | refine ax_q (q_loadi_ptr rfl rfl rfl rfl (by first | assumption | omega)) ?_)
        refine ax_any_step (is := [11]) (by kernel_rfl) (by simp) rfl ⟨fun o ho => ?_, trivial⟩
        all_goals (cases ho)
        repeat (first
          | refine ax_ops_nil ?_
          | refine ax_post_any ?_
          | refine ax_q (q_loadi_ptr rfl rfl rfl rfl (by first | assumption | omega)) ?_)
        refine ax_any_q 12 rfl (by kernel_rfl) (by kernel_rfl) (by kernel_rfl) rfl (q_index_sl' rfl rfl rfl rfl rfl (by first | (simp only [Nat.zero_add, Int.toNat_natCast, Int.toNat_zero]; exact rfl) | exact rfl) (by omega)) rfl ?_
        refine ax_any_step (is := [13]) (by kernel_rfl) (by simp) rfl ⟨fun o ho => ?_, trivial⟩
        all_goals (cases ho)
        repeat (first
          | refine ax_ops_nil ?_
          | refine ax_post_any ?_
          | refine ax_store rfl rfl rfl rfl rfl rfl rfl (by first | assumption | (show _ < List.length _; first | assumption | omega)) ?_)
        refine ax_any_q 14 rfl (by kernel_rfl) (by kernel_rfl) (by kernel_rfl) rfl (q_index_sl' rfl rfl rfl rfl rfl (by first | (simp only [Nat.zero_add, Int.toNat_natCast, Int.toNat_zero]; exact rfl) | exact rfl) (by omega)) rfl ?_
        refine ax_any_step (is := [15]) (by kernel_rfl) (by simp) rfl ⟨fun o ho => ?_, trivial⟩
        all_goals (cases ho)
        repeat (first
          | refine ax_ops_nil ?_
          | refine ax_post_any ?_
          | refine ax_store rfl rfl rfl rfl rfl rfl rfl (by first | assumption | (show _ < List.length _; first | assumption | omega)) ?_)
        refine ax_any_done (by kernel_rfl) ?_
        repeat (first
          | refine ax_q (q_move rfl) ?_
          | refine ax_post_code ?_
          | refine ax_region rfl ?_
          | refine ax_buildSliceRo rfl rfl rfl rfl rfl rfl rfl rfl rfl rfl rfl ?_)
        refine ax_append rfl rfl rfl rfl rfl rfl rfl rfl rfl rfl rfl rfl (by show 0 + 1 ≤ 1; omega) rfl (by show (out.length + 1) * 8 ≤ _ ∧ _; omega) (fun i j _ _ => rfl) (by rw [hfix]; exact fun h => h) ?_
        repeat (first
          | refine ax_q (q_move rfl) ?_
          | refine ax_q (q_assign rfl) ?_
          | refine ax_ops_nil ?_
          | refine ax_post_code ?_
          | refine ax_region rfl ?_
          | refine ax_post_blk ?_
          | refine ax_q (q_sub rfl rfl (by omega)) ?_)
        exact ax_post_inv ⟨(i - 1, swapF now i.toNat d.toNat, out ++ [d]), ⟨by simp only; omega, by simp only; omega, by simp only [swapF_length]; omega, by simp only [List.length_append, List.length_cons, List.length_nil]; omega, fun c hc => (mem_swapF hl4 hl2' c).2 (hmm c hc), by simp only; rw [hgo, List.append_assoc, show (i - 1).toNat = j by omega]; rfl⟩, by simp only; omega, ⟨rfl, rfl, by simp only [List.length_append, List.length_cons, List.length_nil]; rfl, rfl, trivial⟩, rfl⟩
      · repeat (first
          | refine ax_ops_nil ?_
          | refine ax_post_any ?_
          | refine ax_q (q_loadi_ptr rfl rfl rfl rfl (by first | assumption | omega)) ?_)
        refine ax_any_step (is := [7]) (by kernel_rfl) (by simp) rfl ⟨fun o ho => ?_, trivial⟩
        all_goals (cases ho)
        repeat (first
          | refine ax_ops_nil ?_
          | refine ax_post_any ?_
          | refine ax_q (q_loadi_ptr rfl rfl rfl rfl (by first | assumption | omega)) ?_)
        refine ax_any_q 12 rfl (by kernel_rfl) (by kernel_rfl) (by kernel_rfl) rfl (q_index_sl' rfl rfl rfl rfl rfl (by first | (simp only [Nat.zero_add, Int.toNat_natCast, Int.toNat_zero]; exact rfl) | exact rfl) (by omega)) rfl ?_
        refine ax_any_step (is := [13]) (by kernel_rfl) (by simp) rfl ⟨fun o ho => ?_, trivial⟩
        all_goals (cases ho)
        repeat (first
          | refine ax_ops_nil ?_
          | refine ax_post_any ?_
          | refine ax_store rfl rfl rfl rfl rfl rfl rfl (by first | assumption | (show _ < List.length _; first | assumption | omega)) ?_)
        refine ax_any_q 14 rfl (by kernel_rfl) (by kernel_rfl) (by kernel_rfl) rfl (q_index_sl' rfl rfl rfl rfl rfl (by first | (simp only [Nat.zero_add, Int.toNat_natCast, Int.toNat_zero]; exact rfl) | exact rfl) (by omega)) rfl ?_
        refine ax_any_step (is := [15]) (by kernel_rfl) (by simp) rfl ⟨fun o ho => ?_, trivial⟩
        all_goals (cases ho)
        repeat (first
          | refine ax_ops_nil ?_
          | refine ax_post_any ?_
          | refine ax_store rfl rfl rfl rfl rfl rfl rfl (by first | assumption | (show _ < List.length _; first | assumption | omega)) ?_)
        refine ax_any_done (by kernel_rfl) ?_
        repeat (first
          | refine ax_q (q_move rfl) ?_
          | refine ax_post_code ?_
          | refine ax_region rfl ?_
          | refine ax_buildSliceRo rfl rfl rfl rfl rfl rfl rfl rfl rfl rfl rfl ?_)
        refine ax_append rfl rfl rfl rfl rfl rfl rfl rfl rfl rfl rfl rfl (by show 0 + 1 ≤ 1; omega) rfl (by show (out.length + 1) * 8 ≤ _ ∧ _; omega) (fun i j _ _ => rfl) (by rw [hfix]; exact fun h => h) ?_
        repeat (first
          | refine ax_q (q_move rfl) ?_
          | refine ax_q (q_assign rfl) ?_
          | refine ax_ops_nil ?_
          | refine ax_post_code ?_
          | refine ax_region rfl ?_
          | refine ax_post_blk ?_
          | refine ax_q (q_sub rfl rfl (by omega)) ?_)
        exact ax_post_inv ⟨(i - 1, swapF now i.toNat d.toNat, out ++ [d]), ⟨by simp only; omega, by simp only; omega, by simp only [swapF_length]; omega, by simp only [List.length_append, List.length_cons, List.length_nil]; omega, fun c hc => (mem_swapF hl4 hl2' c).2 (hmm c hc), by simp only; rw [hgo, List.append_assoc, show (i - 1).toNat = j by omega]; rfl⟩, by simp only; omega, ⟨rfl, rfl, by simp only [List.length_append, List.length_cons, List.length_nil]; rfl, rfl, trivial⟩, rfl⟩
    · have h0 : i.toNat = 0 := by omega
      rw [h0, drawsGo, List.append_nil] at hgo
      subst hgo
      repeat (first
        | refine ax_q (q_move rfl) ?_
        | refine ax_q (q_assign rfl) ?_
        | refine ax_ops_nil ?_
        | refine ax_post_code ?_
        | refine ax_seq ?_
        | refine ax_region rfl ?_
        | refine ax_exit ?_
        | refine ax_exit_here ?_
        | refine ax_exit_code ?_
        | refine ax_exit_inv ?_
        | refine ax_return ?_)
      exact ax_ret hR rfl ⟨rfl, now, rfl⟩
  · rintro r H ⟨rfl, now, rfl⟩
    refine ⟨rfl, ⟨?_, trivial, trivial⟩, fun h o ho => refl3 (refless_box rfl) refless_ints refless_ints h o ho⟩
    intro o ho; simp at ho; subst ho
    show 0 + (drawsF l to).length ≤ (drawsF l to).length
    omega
end Go.Proofs.YtmfhdfofmdggaaaDoor
