import Derived.Test.YtmfhdfofmdggaaaRA
namespace Go.Proofs.Ytmfhdfofmdggaaa
open Go.Ax Go.Ax.Idx Go.Ax.Cd Go.Ax.Rk Go.RowKit
attribute [local irreducible] Ax Post QOp ACall
set_option maxRecDepth 100000
set_option maxHeartbeats 4000000
set_option linter.unusedSimpArgs false
set_option linter.unusedVariables false

def hs2 : List (List Int) := [[0, 1, 2, 3, 17], [5, 18, 9, 7, 15]]
theorem hs2_ok (k : Nat) (h : k < 2) : VCall Try.prog 16 [.ro (.ints .i64 (hs2.getD k [])) 0 (hs2.getD k []).length] (.int .i64 0) := by
  match k, h with
  | 0, _ => have := rcheck [0, 1, 2, 3, 17] (by decide); rwa [show handE [0, 1, 2, 3, 17] = 0 by decide] at this
  | 1, _ => have := rcheck [5, 18, 9, 7, 15] (by decide); rwa [show handE [5, 18, 9, 7, 15] = 0 by decide] at this
theorem hs2_v0 : VCall Try.prog 18 [.ro (.ints .i64 [0, 1, 2, 3, 17]) 0 5] (.int .i64 (valF [0, 1, 2, 3, 17])) := valueOf [0, 1, 2, 3, 17] (hand_of (by decide))
theorem hs2_v1 : VCall Try.prog 18 [.ro (.ints .i64 [5, 18, 9, 7, 15]) 0 5] (.int .i64 (valF [5, 18, 9, 7, 15])) := valueOf [5, 18, 9, 7, 15] (hand_of (by decide))

theorem f_winners : VCall Try.prog 14 [.ro (rowsI hs2) 0 2] (.tup [.ro (.ints .i64 [0]) 0 1, .int .i64 0]) := by
  have hcon := concat hs2 (by decide) (by decide)
  have hchk : VCall Try.prog 21 [.ro (.ints .i64 hs2.flatten) 0 hs2.flatten.length] (.int .i64 0) := by
    have := check hs2.flatten (by decide); rwa [show deckF hs2.flatten = 0 by decide] at this
  have hv0 := hs2_v0
  have hv1 := hs2_v1
  have hlt : valF [5, 18, 9, 7, 15] < valF [0, 1, 2, 3, 17] := by decide
  have hp0 : -1 < valF [0, 1, 2, 3, 17] := by decide
  generalize valF [0, 1, 2, 3, 17] = v0 at *
  generalize valF [5, 18, 9, 7, 15] = v1 at *
  refine ACall.value (K := fun r H => r = .tup [.ro (.ints .i64 [0]) 0 1, .int .i64 0] ∧ H = []) (acall_of_ax (P := Try.prog) (fn := Try.f14) rfl rfl (by kernel_rfl) rfl (fun c hR hfix => ?_)) (fix := fun _ => False) (fun _ h => h) rfl ?_
  · repeat (first
      | refine ax_q (q_move rfl) ?_
      | refine ax_q (q_assign rfl) ?_
      | refine ax_ops_nil ?_
      | refine ax_post_code ?_
      | refine ax_seq ?_
      | refine ax_region rfl ?_
      | refine ax_cond_false rfl ?_
      | refine ax_block ?_
      | refine ax_skip ?_
      | refine ax_q (q_gtr rfl rfl) ?_
      | refine ax_q (q_len rfl rfl rfl) ?_)
    refine ax_loop (ι := Nat) (fun k => [(0, .ro (rowsI hs2) 0 2), (16, .ro (rowsI hs2) 0 2), (17, .int .i64 2), (18, .int .i64 (k : Nat))]) (fun _ => []) (fun k => k ≤ 2) (fun k => 2 - k) 0 ⟨⟨rfl, rfl, rfl, rfl, trivial⟩, rfl, Nat.zero_le _⟩ ?_
    rintro k hk
    repeat (first
      | refine ax_ops_nil ?_
      | refine ax_post_code ?_
      | refine ax_seq ?_
      | refine ax_region rfl ?_
      | refine ax_q (q_lss rfl rfl) ?_)
    refine ax_cond_dec rfl (fun h1 => ?_) (fun h1 => ?_)
    · have hk2 : k < 2 := by omega
      repeat (first
        | refine ax_q (q_move rfl) ?_
        | refine ax_q (q_assign rfl) ?_
        | refine ax_ops_nil ?_
        | refine ax_post_code ?_
        | refine ax_seq ?_
        | refine ax_region rfl ?_
        | refine ax_block ?_
        | refine ax_skip ?_
        | refine ax_q (q_loadf_rp rfl rfl rfl rfl) ?_
        | refine ax_q (q_index_ro' rfl rfl rfl rfl (by first | (simp only [Nat.zero_add, Int.toNat_natCast, Int.toNat_zero]; exact rfl) | exact rfl) (by omega)) ?_)
      refine ax_callv rfl rfl rfl (hs2_ok k hk2) ?_
      repeat (first
        | refine ax_q (q_move rfl) ?_
        | refine ax_q (q_assign rfl) ?_
        | refine ax_ops_nil ?_
        | refine ax_post_code ?_
        | refine ax_seq ?_
        | refine ax_region rfl ?_
        | refine ax_cond_false rfl ?_
        | refine ax_post_blk ?_
        | refine ax_skip ?_
        | refine ax_q (q_neq rfl rfl) ?_
        | refine ax_q (q_add rfl rfl (by omega)) ?_)
      exact ax_post_inv ⟨k + 1, by omega, by omega, ⟨rfl, rfl, rfl, rfl, trivial⟩, rfl⟩
    · repeat (first
        | refine ax_q (q_move rfl) ?_
        | refine ax_post_code ?_
        | refine ax_seq ?_
        | refine ax_region rfl ?_
        | refine ax_exit ?_
        | refine ax_exit_here ?_
        | refine ax_exit_code ?_
        | refine ax_exit_inv ?_)
      refine ax_callf rfl rfl rfl hcon ?_
      skip
      refine ax_calll rfl rfl rfl rfl hchk (refl1 refless_ints) ⟨fun o ho => by simp at ho; subst ho; exact Nat.le_of_eq (Nat.zero_add _), trivial⟩ rfl rfl rfl ?_
      repeat (first
        | refine ax_q (q_move rfl) ?_
        | refine ax_q (q_assign rfl) ?_
        | refine ax_ops_nil ?_
        | refine ax_post_code ?_
        | refine ax_seq ?_
        | refine ax_region rfl ?_
        | refine ax_cond_false rfl ?_
        | refine ax_block ?_
        | refine ax_skip ?_
        | refine ax_q (q_neq rfl rfl) ?_
        | refine ax_q (q_len rfl rfl rfl) ?_)
      refine ax_cut [] [some ⟨3, .ints .i64 hs2.flatten⟩] [(0, .ro (rowsI hs2) 0 2), (8, .nil), (9, .int .i64 (-1)), (34, .ro (rowsI hs2) 0 2), (35, .int .i64 2), (36, .int .i64 0)] rfl ⟨rfl, rfl, rfl, rfl, rfl, rfl, trivial⟩ (by rw [hfix]; exact fun h hh => hh.elim) rfl rfl ?_
      refine ax_loop (ι := Nat) (fun k => [(34, .ro (rowsI hs2) 0 2), (35, .int .i64 2), (36, .int .i64 (k : Nat)), (8, match k with | 0 => .nil | _ + 1 => .ro (.ints .i64 [0]) 0 1), (9, match k with | 0 => .int .i64 (-1) | _ + 1 => .int .i64 v0)]) (fun _ => []) (fun k => k ≤ 2) (fun k => 2 - k) 0 ⟨⟨rfl, rfl, rfl, rfl, rfl, trivial⟩, rfl, Nat.zero_le _⟩ ?_
      rintro k hk
      match k, hk with
      | 0, hk =>
        repeat (first
          | refine ax_q (q_move rfl) ?_
          | refine ax_q (q_assign rfl) ?_
          | refine ax_ops_nil ?_
          | refine ax_post_code ?_
          | refine ax_seq ?_
          | refine ax_region rfl ?_
          | refine ax_cond_true rfl ?_
          | refine ax_block ?_
          | refine ax_skip ?_
          | refine ax_q (q_loadf_rp rfl rfl rfl rfl) ?_
          | refine ax_q (q_lss rfl rfl) ?_
          | refine ax_q (q_index_ro' rfl rfl rfl rfl (by first | (simp only [Nat.zero_add, Int.toNat_natCast, Int.toNat_zero]; exact rfl) | exact rfl) (by omega)) ?_)
        refine ax_callv rfl rfl rfl hv0 ?_
        repeat (first
          | refine ax_q (q_move rfl) ?_
          | refine ax_q (q_assign rfl) ?_
          | refine ax_ops_nil ?_
          | refine ax_post_code ?_
          | refine ax_seq ?_
          | refine ax_region rfl ?_
          | refine ax_block ?_
          | refine ax_q (q_gtr rfl rfl) ?_)
        refine ax_cond_dec rfl (fun h2 => ?_) (fun h2 => absurd hp0 h2)
        repeat (first
          | refine ax_q (q_move rfl) ?_
          | refine ax_q (q_assign rfl) ?_
          | refine ax_ops_nil ?_
          | refine ax_post_code ?_
          | refine ax_region rfl ?_
          | refine ax_post_blk ?_
          | refine ax_q (q_add rfl rfl (by omega)) ?_
          | refine ax_buildSliceRo rfl rfl rfl rfl rfl rfl rfl rfl rfl rfl rfl ?_)
        exact ax_post_inv ⟨1, by omega, by omega, ⟨rfl, rfl, rfl, rfl, rfl, trivial⟩, rfl⟩
      | 1, hk =>
        repeat (first
          | refine ax_q (q_move rfl) ?_
          | refine ax_q (q_assign rfl) ?_
          | refine ax_ops_nil ?_
          | refine ax_post_code ?_
          | refine ax_seq ?_
          | refine ax_region rfl ?_
          | refine ax_cond_true rfl ?_
          | refine ax_block ?_
          | refine ax_skip ?_
          | refine ax_q (q_loadf_rp rfl rfl rfl rfl) ?_
          | refine ax_q (q_lss rfl rfl) ?_
          | refine ax_q (q_index_ro' rfl rfl rfl rfl (by first | (simp only [Nat.zero_add, Int.toNat_natCast, Int.toNat_zero]; exact rfl) | exact rfl) (by omega)) ?_)
        refine ax_callv rfl rfl rfl hv1 ?_
        repeat (first
          | refine ax_q (q_move rfl) ?_
          | refine ax_q (q_assign rfl) ?_
          | refine ax_ops_nil ?_
          | refine ax_post_code ?_
          | refine ax_seq ?_
          | refine ax_region rfl ?_
          | refine ax_block ?_
          | refine ax_q (q_gtr rfl rfl) ?_)
        refine ax_cond_dec rfl (fun h2 => absurd h2 (by omega)) (fun h2 => ?_)
        repeat (first
          | refine ax_q (q_move rfl) ?_
          | refine ax_q (q_assign rfl) ?_
          | refine ax_ops_nil ?_
          | refine ax_post_code ?_
          | refine ax_seq ?_
          | refine ax_region rfl ?_
          | refine ax_q (q_eql rfl rfl) ?_)
        refine ax_cond_dec rfl (fun h2 => absurd h2 (by omega)) (fun h2 => ?_)
        repeat (first
          | refine ax_q (q_move rfl) ?_
          | refine ax_ops_nil ?_
          | refine ax_post_code ?_
          | refine ax_region rfl ?_
          | refine ax_post_blk ?_
          | refine ax_skip ?_
          | refine ax_q (q_add rfl rfl (by omega)) ?_)
        exact ax_post_inv ⟨2, by omega, by omega, ⟨rfl, rfl, rfl, rfl, rfl, trivial⟩, rfl⟩
      | 2, hk =>
        repeat (first
          | refine ax_q (q_move rfl) ?_
          | refine ax_q (q_assign rfl) ?_
          | refine ax_ops_nil ?_
          | refine ax_post_code ?_
          | refine ax_seq ?_
          | refine ax_region rfl ?_
          | refine ax_cond_false rfl ?_
          | refine ax_exit ?_
          | refine ax_exit_here ?_
          | refine ax_exit_code ?_
          | refine ax_exit_inv ?_
          | refine ax_return ?_
          | refine ax_q (q_lss rfl rfl) ?_)
        exact ax_ret hR rfl ⟨rfl, rfl⟩
      | _ + 3, hk => exact absurd hk (by omega)
  · rintro r H ⟨rfl, rfl⟩
    exact ⟨rfl, ⟨trivial, trivial, trivial⟩, fun h o ho => by simp at ho⟩

theorem f_fine4 : VCall Try.prog 9 [.ro (.ints .i64 [0, 0, 0, 0]) 0 4] (.bool true) := fineI [0, 0, 0, 0] (by decide)
theorem f_eq (l : List Int) (h : l.length ≤ 1000) : VCall Try.prog 15 [.ro (.ints .i64 l) 0 l.length, .ro (.ints .i64 l) 0 l.length] (.bool true) := by
  have := equalI l l (by omega) (by omega)
  rwa [decide_eq_true rfl] at this
theorem f_check : VCall Try.prog 16 [.ro (.ints .i64 [0, 1, 2, 3, 17]) 0 4] (.int .i64 3) := VCall.args (rcheck [0, 1, 2, 3] (by decide)) ⟨AEq.take (n := 4), trivial⟩

theorem ranksFact : VCall Try.prog 6 [] (.bool true) := by
  refine ACall.value0 (acall_of_ax (P := Try.prog) (fn := Try.f6) rfl rfl (by kernel_rfl) rfl (fun c hR hfix => ?_)) (fix := fun _ => False) (fun _ h => h) rfl rfl
  repeat (first
    | refine ax_q (q_move rfl) ?_
    | refine ax_q (q_assign rfl) ?_
    | refine ax_ops_nil ?_
    | refine ax_post_code ?_
    | refine ax_seq ?_
    | refine ax_region rfl ?_
    | refine ax_buildSliceRo rfl rfl rfl rfl rfl rfl rfl rfl rfl rfl rfl ?_)
  refine ax_callv rfl rfl rfl f_class ?_
  repeat (first
    | refine ax_q (q_move rfl) ?_
    | refine ax_q (q_assign rfl) ?_
    | refine ax_ops_nil ?_
    | refine ax_post_code ?_
    | refine ax_seq ?_
    | refine ax_region rfl ?_
    | refine ax_q (q_extract rfl rfl) ?_)
  refine ax_callv rfl rfl rfl f_value ?_
  repeat (first
    | refine ax_q (q_move rfl) ?_
    | refine ax_q (q_assign rfl) ?_
    | refine ax_ops_nil ?_
    | refine ax_post_code ?_
    | refine ax_seq ?_
    | refine ax_region rfl ?_
    | refine ax_q (q_extract rfl rfl) ?_
    | refine ax_buildSliceRo rfl rfl rfl rfl rfl rfl rfl rfl rfl rfl rfl ?_)
  refine ax_callv rfl rfl rfl f_best ?_
  repeat (first
    | refine ax_q (q_move rfl) ?_
    | refine ax_q (q_assign rfl) ?_
    | refine ax_ops_nil ?_
    | refine ax_post_code ?_
    | refine ax_seq ?_
    | refine ax_region rfl ?_
    | refine ax_q (q_extract rfl rfl) ?_
    | refine ax_buildSliceRo rfl rfl rfl rfl rfl rfl rfl rfl rfl rfl rfl ?_)
  refine ax_slot_ops 33 (.ro (rowsI hs2) 0 2) rfl (AEq.ro rfl (fun d j hd hj => ?_)) ?_
  · have hj0 : j = 0 := Nat.lt_one_iff.1 hj
    subst hj0
    match d, hd with
    | 0, _ => rfl
    | 1, _ => rfl
  refine ax_callv rfl rfl rfl f_winners ?_
  repeat (first
    | refine ax_q (q_move rfl) ?_
    | refine ax_q (q_assign rfl) ?_
    | refine ax_ops_nil ?_
    | refine ax_post_code ?_
    | refine ax_seq ?_
    | refine ax_region rfl ?_
    | refine ax_q (q_extract rfl rfl) ?_
    | refine ax_buildSliceRo rfl rfl rfl rfl rfl rfl rfl rfl rfl rfl rfl ?_)
  refine ax_callv rfl rfl rfl f_fine4 ?_
  repeat (first
    | refine ax_q (q_move rfl) ?_
    | refine ax_guard rfl rfl ?_
    | refine ax_q (q_eql rfl rfl) ?_
    | refine ax_q (q_pick rfl rfl) ?_
    | refine ax_buildSliceRo rfl rfl rfl rfl rfl rfl rfl rfl rfl rfl rfl ?_)
  refine ax_callv rfl rfl rfl (f_eq [0, 1, 2, 3, 5] (by decide)) ?_
  repeat (first
    | refine ax_q (q_move rfl) ?_
    | refine ax_guard rfl rfl ?_
    | refine ax_q (q_eql rfl rfl) ?_
    | refine ax_q (q_pick rfl rfl) ?_
    | refine ax_buildSliceRo rfl rfl rfl rfl rfl rfl rfl rfl rfl rfl rfl ?_)
  refine ax_callv rfl rfl rfl (f_eq [0] (by decide)) ?_
  repeat (first
    | refine ax_q (q_move rfl) ?_
    | refine ax_guard rfl rfl ?_
    | refine ax_q (q_pick rfl rfl) ?_
    | refine ax_q (q_slice_ro rfl rfl rfl rfl rfl rfl rfl (by omega)) ?_)
  refine ax_callv rfl rfl rfl f_check ?_
  repeat (first
    | refine ax_q (q_assign rfl) ?_
    | refine ax_ops_nil ?_
    | refine ax_post_code ?_
    | refine ax_guard rfl rfl ?_
    | refine ax_return ?_
    | refine ax_q (q_eql rfl rfl) ?_
    | refine ax_q (q_pick rfl rfl) ?_)
  exact ax_ret hR rfl rfl
end Go.Proofs.Ytmfhdfofmdggaaa
