import Derived.Test.YtmfhdfofmdggaaaRC
import Derived.Test.YtmfhdfofmdggaaaRkLaw
namespace Go.Proofs.Ytmfhdfofmdggaaa
open Go.Ax Go.Ax.Idx Go.Ax.Cd Go.Ax.Rk Go.RowKit
attribute [local irreducible] Ax Post QOp ACall
set_option maxRecDepth 100000
set_option maxHeartbeats 4000000
set_option linter.unusedSimpArgs false
set_option linter.unusedVariables false

theorem ranksMore (l : List Int) (hl : l.length ≤ 9223372036854775807) : VCall Try.prog 4 [.ro (.ints .i64 l) 0 l.length] (.bool true) := by
  refine ACall.value0 (acall_of_ax (P := Try.prog) (fn := Try.f4) rfl rfl (by kernel_rfl) rfl (fun c hR hfix => ?_)) (fix := fun _ => False) (fun _ h => h) rfl rfl
  repeat (first
    | refine ax_q (q_assign rfl) ?_
    | refine ax_ops_nil ?_
    | refine ax_post_code ?_
    | refine ax_seq ?_
    | refine ax_region rfl ?_)
  refine ax_callv rfl rfl rfl ranksFact ?_
  repeat (first
    | refine ax_q (q_move rfl) ?_
    | refine ax_ops_nil ?_
    | refine ax_post_code ?_
    | refine ax_seq ?_
    | refine ax_region rfl ?_
    | refine ax_cond_false rfl ?_
    | refine ax_skip ?_
    | refine ax_q (q_not rfl) ?_)
  by_cases he : bestE l = 0
  · have c1 := Best_ok l he
    obtain ⟨⟨g1, g2⟩, g3, g4⟩ := bestF_good he
    have hh := bestF_hand he
    obtain ⟨q1, q2⟩ := best_less he
    obtain ⟨hd, n5, n9⟩ := bestE_ok he
    have hvo := Value_ok (handOf l (bestF l).2) (by rw [handOf_length]; omega)
    rw [hh, if_pos rfl, ← g4, handOf_length] at hvo
    have hso := sortedI (bestF l).2 (by omega)
    rw [srtF_true (fun i hi => Int.le_of_lt (okP_getD ⟨g1, g2⟩ (Nat.lt_succ_self i) hi)) _ (.inl (by omega))] at hso
    have hhl := handOf_length l (bestF l).2
    have hhg : ∀ i, i < (bestF l).2.length → (handOf l (bestF l).2).getD i 0 = l.getD ((bestF l).2.getD i 0).toNat 0 := fun i hi => by simp [handOf, List.getD, hi]
    have g1' := fun i (hi : i < (bestF l).2.length) => g1 _ (getD_mem 0 hi)
    clear g4 g1 g2
    generalize handOf l (bestF l).2 = hand at *
    generalize bestF l = b at *
    obtain ⟨most, best⟩ := b
    simp only at *
    refine ax_callv rfl rfl rfl c1 ?_
    repeat (first
      | refine ax_q (q_move rfl) ?_
      | refine ax_q (q_assign rfl) ?_
      | refine ax_ops_nil ?_
      | refine ax_post_code ?_
      | refine ax_seq ?_
      | refine ax_region rfl ?_
      | refine ax_cond_false rfl ?_
      | refine ax_skip ?_
      | refine ax_q (q_neq rfl rfl) ?_
      | refine ax_q (q_extract rfl rfl) ?_
      | refine ax_q (q_len rfl rfl rfl) ?_)
    refine ax_nilobj 6 ⟨3, .ints .i64 []⟩ rfl rfl ?_
    repeat (refine ax_block ?_)
    refine ax_loop (ι := Nat) (fun i => [(0, .ro (.ints .i64 l) 0 l.length), (3, .ro (.ints .i64 best) 0 best.length), (4, .int .i64 most), (6, .sl 0 0 i), (31, .ro (.ints .i64 best) 0 best.length), (32, .int .i64 (best.length : Nat)), (33, .int .i64 (i : Nat))])
      (fun i => [some ⟨3, .ints .i64 (hand.take i)⟩]) (fun i => i ≤ best.length) (fun i => best.length - i) 0 ⟨⟨rfl, rfl, rfl, rfl, rfl, rfl, rfl, trivial⟩, rfl, Nat.zero_le _⟩ ?_
    rintro i hi
    repeat (first
      | refine ax_ops_nil ?_
      | refine ax_post_code ?_
      | refine ax_seq ?_
      | refine ax_region rfl ?_
      | refine ax_q (q_lss rfl rfl) ?_)
    refine ax_cond_dec rfl (fun h1 => ?_) (fun h1 => ?_)
    · have hib : i < best.length := by omega
      have hx := g1' i hib
      have htk := take_succ_getD hand 0 i (by omega)
      have htl : (hand.take i).length = i := by rw [List.length_take]; omega
      rw [hhg i hib] at htk
      generalize hand.take i = hd at *
      repeat (first
        | refine ax_q (q_move rfl) ?_
        | refine ax_q (q_assign rfl) ?_
        | refine ax_q (q_loadi_rp rfl rfl rfl) ?_
        | refine ax_ops_nil ?_
        | refine ax_post_code ?_
        | refine ax_seq ?_
        | refine ax_region rfl ?_
        | refine ax_block ?_
        | refine ax_skip ?_
        | refine ax_q (q_lss rfl rfl) ?_
        | refine ax_q (q_index_ro' rfl rfl rfl rfl (by first | (simp only [Nat.zero_add, Int.toNat_natCast, Int.toNat_zero]; exact rfl) | exact rfl) (by omega)) ?_)
      refine ax_gsplit rfl rfl (fun h2 => absurd h2 (by omega)) (fun h2 => ?_)
      repeat (first
        | refine ax_q (q_move rfl) ?_
        | refine ax_ops_nil ?_
        | refine ax_post_code ?_
        | refine ax_guard rfl rfl ?_
        | refine ax_q (q_geq rfl rfl) ?_
        | refine ax_q (q_pick rfl rfl) ?_
        | refine ax_q (q_len rfl rfl rfl) ?_)
      refine ax_cond_dec rfl (fun h3 => absurd h3 (by omega)) (fun h3 => ?_)
      repeat (first
        | refine ax_q (q_move rfl) ?_
        | refine ax_q (q_loadi_rp rfl rfl rfl) ?_
        | refine ax_post_code ?_
        | refine ax_region rfl ?_
        | refine ax_skip ?_
        | refine ax_q (q_index_ro' rfl rfl rfl rfl (by first | (simp only [Nat.zero_add, Int.toNat_natCast, Int.toNat_zero]; exact rfl) | exact rfl) (by omega)) ?_
        | refine ax_buildSliceRo rfl rfl rfl rfl rfl rfl rfl rfl rfl rfl rfl ?_)
      refine ax_append rfl rfl rfl rfl rfl rfl rfl rfl rfl htl rfl rfl (by show 0 + 1 ≤ 1; omega) rfl (by show (i + 1) * 8 ≤ _ ∧ _; omega) (fun i j _ _ => rfl) (by rw [hfix]; exact fun h => h) ?_
      repeat (first
        | refine ax_q (q_move rfl) ?_
        | refine ax_q (q_assign rfl) ?_
        | refine ax_ops_nil ?_
        | refine ax_post_code ?_
        | refine ax_region rfl ?_
        | refine ax_post_blk ?_
        | refine ax_q (q_add rfl rfl (by omega)) ?_)
      exact ax_post_inv ⟨i + 1, by omega, by omega, ⟨rfl, rfl, rfl, rfl, rfl, rfl, rfl, trivial⟩, by rw [htk]; rfl⟩
    · have hib : i = best.length := by omega
      subst hib
      rw [List.take_of_length_le (by omega)]
      have htl : (l.take (l.length - 1)).length = l.length - 1 := by rw [List.length_take]; omega
      repeat (first
        | refine ax_q (q_move rfl) ?_
        | refine ax_post_code ?_
        | refine ax_seq ?_
        | refine ax_region rfl ?_
        | refine ax_exit ?_
        | refine ax_exit_here ?_
        | refine ax_exit_code ?_
        | refine ax_exit_inv ?_)
      refine ax_calll rfl rfl rfl rfl hvo (refl1 refless_ints) ⟨fun o ho => by simp at ho; subst ho; exact Nat.le_of_eq (by show 0 + best.length = hand.length; omega), trivial⟩ rfl rfl rfl ?_
      repeat (first
        | refine ax_q (q_move rfl) ?_
        | refine ax_q (q_assign rfl) ?_
        | refine ax_ops_nil ?_
        | refine ax_post_code ?_
        | refine ax_seq ?_
        | refine ax_region rfl ?_
        | refine ax_guard rfl rfl ?_
        | refine ax_q (q_neq rfl rfl) ?_
        | refine ax_q (q_pick rfl rfl) ?_
        | refine ax_q (q_extract rfl rfl) ?_)
      refine ax_gsplit rfl rfl (fun h4 => absurd rfl h4) (fun h4 => ?_)
      repeat (first
        | refine ax_q (q_move rfl) ?_
        | refine ax_guard rfl rfl ?_)
      refine ax_callv rfl rfl rfl hso ?_
      repeat (first
        | refine ax_q (q_move rfl) ?_
        | refine ax_ops_nil ?_
        | refine ax_post_code ?_
        | refine ax_seq ?_
        | refine ax_region rfl ?_
        | refine ax_guard rfl rfl ?_
        | refine ax_cond_false rfl ?_
        | refine ax_skip ?_
        | refine ax_q (q_not rfl) ?_
        | refine ax_q (q_pick rfl rfl) ?_
        | refine ax_q (q_len rfl rfl rfl) ?_
        | refine ax_q (q_sub rfl rfl (by omega)) ?_
        | refine ax_q (q_slice_ro rfl rfl rfl rfl rfl rfl rfl (by omega)) ?_)
      refine ax_slot_ops 75 (.ro (.ints .i64 (l.take (l.length - 1))) 0 (l.length - 1)) rfl (AEq.trans (AEq.of_eq (by congr 1; omega)) (AEq.take (n := l.length - 1))) ?_
      by_cases h5 : l.length = 5
      · rw [if_pos h5] at q1
        have c2 := Best_no (l.take (l.length - 1)) (by omega) q1 (by decide)
        rw [htl] at c2
        refine ax_callv rfl rfl rfl c2 ?_
        repeat (first
          | refine ax_q (q_move rfl) ?_
          | refine ax_q (q_assign rfl) ?_
          | refine ax_ops_nil ?_
          | refine ax_post_code ?_
          | refine ax_seq ?_
          | refine ax_region rfl ?_
          | refine ax_guard rfl rfl ?_
          | refine ax_q (q_eql rfl rfl) ?_
          | refine ax_q (q_pick rfl rfl) ?_
          | refine ax_q (q_extract rfl rfl) ?_
          | refine ax_q (q_len rfl rfl rfl) ?_)
        refine ax_gsplit rfl rfl (fun h6 => ?_) (fun h6 => absurd (show (l.length : Int) = 5 by omega) h6)
        repeat (first
          | refine ax_q (q_assign rfl) ?_
          | refine ax_ops_nil ?_
          | refine ax_post_code ?_
          | refine ax_skip_undef rfl rfl ?_
          | refine ax_skip_not rfl rfl rfl ?_
          | refine ax_return ?_
          | refine ax_q (q_pick rfl rfl) ?_)
        exact ax_ret hR rfl rfl
      · rw [if_neg h5] at q1
        have q3 := q2 h5
        have c2 := Best_ok (l.take (l.length - 1)) q1
        rw [htl] at c2
        generalize bestF (l.take (l.length - 1)) = b2 at *
        refine ax_callv rfl rfl rfl c2 ?_
        repeat (first
          | refine ax_q (q_move rfl) ?_
          | refine ax_q (q_assign rfl) ?_
          | refine ax_ops_nil ?_
          | refine ax_post_code ?_
          | refine ax_seq ?_
          | refine ax_region rfl ?_
          | refine ax_guard rfl rfl ?_
          | refine ax_skip_not rfl rfl rfl ?_
          | refine ax_return ?_
          | refine ax_q (q_eql rfl rfl) ?_
          | refine ax_q (q_leq rfl rfl) ?_
          | refine ax_q (q_pick rfl rfl) ?_
          | refine ax_q (q_extract rfl rfl) ?_)
        refine ax_ret hR rfl ?_
        show AV.bool (decide (b2.1 ≤ most)) = _
        rw [decide_eq_true q3]
  · have c1 := Best_no l hl rfl he
    generalize bestE l = e at *
    refine ax_callv rfl rfl rfl c1 ?_
    repeat (first
      | refine ax_q (q_move rfl) ?_
      | refine ax_q (q_assign rfl) ?_
      | refine ax_ops_nil ?_
      | refine ax_post_code ?_
      | refine ax_seq ?_
      | refine ax_region rfl ?_
      | refine ax_q (q_neq rfl rfl) ?_
      | refine ax_q (q_extract rfl rfl) ?_)
    refine ax_cond_dec rfl (fun h2 => ?_) (fun h2 => absurd he h2)
    repeat (first
      | refine ax_q (q_move rfl) ?_
      | refine ax_q (q_assign rfl) ?_
      | refine ax_ops_nil ?_
      | refine ax_post_code ?_
      | refine ax_seq ?_
      | refine ax_region rfl ?_
      | refine ax_guard rfl rfl ?_
      | refine ax_return ?_
      | refine ax_ret_code ?_
      | refine ax_q (q_eql rfl rfl) ?_
      | refine ax_q (q_pick rfl rfl) ?_
      | refine ax_q (q_len rfl rfl rfl) ?_)
    exact ax_ret hR rfl rfl
end Go.Proofs.Ytmfhdfofmdggaaa
