import Derived.Test.YtmfhdfofmdggaaaDoorK3
import Derived.Test.YtmfhdfofmdggaaaDoorAxMore4
namespace Go.Proofs.YtmfhdfofmdggaaaDoor
open Go.Ax Go.Ax.Idx Go.Ax.Cd
attribute [local irreducible] Ax Post QOp ACall
set_option maxRecDepth 100000
set_option maxHeartbeats 4000000
set_option linter.unusedSimpArgs false
set_option linter.unusedVariables false

theorem grow (n : Int) (h0 : 0 ≤ n) (h1 : n ≤ 1000000) : FCall Tryd.prog 57 [.nil, .int .i64 n] (fun N => .sl N 0 0) ⟨3, .ints .i64 []⟩ := by
  refine ACall.fresh (K := fun r H => r = .sl 0 0 0 ∧ H = [some ⟨3, .ints .i64 []⟩]) (acall_of_ax (P := Tryd.prog) (fn := Tryd.f57) rfl rfl (by kernel_rfl) rfl (fun c hR hfix => ?_)) (fix := fun _ => False) (fun _ h => h) rfl (fun H => ⟨rfl, by simp [inBs, inB]⟩) ?_
  · repeat (first
      | refine ax_q (q_move rfl) ?_
      | refine ax_q (q_assign rfl) ?_
      | refine ax_ops_nil ?_
      | refine ax_post_code ?_
      | refine ax_seq ?_
      | refine ax_region rfl ?_
      | refine ax_q (q_lss rfl rfl) ?_)
    refine ax_cond_dec rfl (fun h => absurd h (by omega)) (fun h => ?_)
    repeat (first
      | refine ax_q (q_move rfl) ?_
      | refine ax_q (q_assign rfl) ?_
      | refine ax_ops_nil ?_
      | refine ax_post_code ?_
      | refine ax_seq ?_
      | refine ax_region rfl ?_
      | refine ax_skip ?_
      | refine ax_q (q_gtr rfl rfl) ?_
      | refine ax_q (q_len rfl rfl rfl) ?_
      | refine ax_q (q_sub rfl rfl (by omega)) ?_
      | refine ax_q (q_capnil rfl rfl) ?_)
    refine ax_cond_dec rfl (fun h => ?_) (fun h => ?_)
    rotate_left
    · repeat (first
        | refine ax_q (q_move rfl) ?_
        | refine ax_q (q_assign rfl) ?_
        | refine ax_ops_nil ?_
        | refine ax_post_code ?_
        | refine ax_seq ?_
        | refine ax_region rfl ?_
        | refine ax_skip ?_)
      refine ax_nilobj 4 ⟨3, .ints .i64 []⟩ rfl rfl ?_
      repeat (refine ax_return ?_)
      exact ax_ret hR rfl ⟨rfl, rfl⟩
    repeat (first
      | refine ax_q (q_move rfl) ?_
      | refine ax_region rfl ?_
      | refine ax_q (q_capnil rfl rfl) ?_
      | refine ax_q (q_slicenil rfl rfl rfl rfl rfl rfl rfl) ?_)
    refine ax_growz rfl rfl rfl rfl rfl rfl rfl rfl rfl (by show 0 < _ ∧ _ * 8 ≤ _ ∧ _; omega) ?_
    repeat (first
      | refine ax_q (q_move rfl) ?_
      | refine ax_q (q_len rfl rfl rfl) ?_)
    refine ax_q (q_slice_sl0 rfl rfl rfl rfl rfl rfl rfl rfl (by omega)) ?_
    refine ax_trunc_ops 0 (.ints .i64 []) rfl ⟨Nat.zero_le _, rfl, fun i j hi => absurd hi (Nat.not_lt_zero _)⟩ ?_
    repeat (first
      | refine ax_q (q_move rfl) ?_
      | refine ax_q (q_assign rfl) ?_
      | refine ax_ops_nil ?_
      | refine ax_post_code ?_
      | refine ax_seq ?_
      | refine ax_region rfl ?_
      | refine ax_return ?_)
    exact ax_ret hR rfl ⟨rfl, rfl⟩
  · rintro r H ⟨rfl, rfl⟩
    refine ⟨?_, fun h o ho => refl1 refless_ints h o ho, 0, rfl, fun n => rfl⟩
    intro o ho; simp at ho; subst ho; exact Nat.zero_le _

def lensum (ls : List (List Int)) : Int := (ls.map fun l => (l.length : Int)).sum
theorem lensum_take_succ (ls : List (List Int)) (k : Nat) (h : k < ls.length) : lensum (ls.take (k + 1)) = lensum (ls.take k) + ((ls.getD k []).length : Int) := by
  unfold lensum
  rw [take_succ_getD ls [] k h, List.map_append, List.sum_append]
  simp
theorem lensum_flatten (ls : List (List Int)) : lensum ls = (ls.flatten.length : Int) := by
  induction ls with
  | nil => rfl
  | cons l r ih => unfold lensum at ih ⊢; simp [ih]
theorem lensum_le (ls : List (List Int)) (k : Nat) : 0 ≤ lensum (ls.take k) ∧ lensum (ls.take k) ≤ lensum ls := by
  have h : ls.flatten = (ls.take k).flatten ++ (ls.drop k).flatten := by rw [← List.flatten_append, List.take_append_drop]
  rw [lensum_flatten, lensum_flatten, h, List.length_append]; omega
theorem flatten_take_succ (ls : List (List Int)) (k : Nat) (h : k < ls.length) : (ls.take (k + 1)).flatten = (ls.take k).flatten ++ ls.getD k [] := by
  rw [take_succ_getD ls [] k h, List.flatten_append]; simp

theorem concat (ls : List (List Int)) (hlen : ls.length ≤ 1000000) (hs : lensum ls ≤ 1000000) :
    FCall Tryd.prog 47 [.ro (rowsI ls) 0 ls.length] (fun N => .sl N 0 ls.flatten.length) ⟨3, .ints .i64 ls.flatten⟩ := by
  refine ACall.fresh (K := fun r H => r = .sl 0 0 ls.flatten.length ∧ H = [some ⟨3, .ints .i64 ls.flatten⟩]) (acall_of_ax (P := Tryd.prog) (fn := Tryd.f47) rfl rfl (by kernel_rfl) rfl (fun c hR hfix => ?_)) (fix := fun _ => False) (fun _ h => h) rfl (fun H => ⟨rfl, by simp [inBs, inB]⟩) ?_
  · repeat (first
      | refine ax_q (q_move rfl) ?_
      | refine ax_q (q_assign rfl) ?_
      | refine ax_ops_nil ?_
      | refine ax_post_code ?_
      | refine ax_seq ?_
      | refine ax_region rfl ?_
      | refine ax_block ?_
      | refine ax_q (q_len rfl rfl rfl) ?_)
    refine ax_loop (ι := Nat) (fun k => [(0, .ro (rowsI ls) 0 ls.length), (3, .int .i64 (lensum (ls.take k))), (9, .ro (rowsI ls) 0 ls.length), (10, .int .i64 (ls.length : Nat)), (11, .int .i64 (k : Nat))]) (fun _ => [])
      (fun k => k ≤ ls.length) (fun k => ls.length - k) 0 ⟨⟨rfl, rfl, rfl, rfl, rfl, trivial⟩, rfl, Nat.zero_le _⟩ ?_
    intro k hk
    repeat (first
      | refine ax_ops_nil ?_
      | refine ax_post_code ?_
      | refine ax_seq ?_
      | refine ax_region rfl ?_
      | refine ax_q (q_lss rfl rfl) ?_)
    refine ax_cond_dec rfl (fun h1 => ?_) (fun h1 => ?_)
    · have hk' : k < ls.length := by omega
      have hsum := lensum_take_succ ls k hk'
      have hb := lensum_le ls (k + 1)
      have hb0 := lensum_le ls k
      repeat (first
        | refine ax_q (q_move rfl) ?_
        | refine ax_q (q_assign rfl) ?_
        | refine ax_ops_nil ?_
        | refine ax_post_code ?_
        | refine ax_seq ?_
        | refine ax_region rfl ?_
        | refine ax_block ?_
        | refine ax_skip ?_
        | refine ax_q (q_loadf_rp rfl rfl rfl rfl) ?_
        | refine ax_q (q_lss rfl rfl) ?_
        | refine ax_q (q_len rfl rfl rfl) ?_
        | refine ax_q (q_add rfl rfl (by omega)) ?_
        | refine ax_q (q_index_ro' rfl rfl rfl rfl (by first | (simp only [Nat.zero_add, Int.toNat_natCast, Int.toNat_zero]; exact rfl) | exact rfl) (by omega)) ?_)
      refine ax_cond_dec rfl (fun h2 => absurd h2 (by omega)) (fun h2 => ?_)
      repeat (first
        | refine ax_q (q_move rfl) ?_
        | refine ax_ops_nil ?_
        | refine ax_post_code ?_
        | refine ax_region rfl ?_
        | refine ax_post_blk ?_
        | refine ax_skip ?_
        | refine ax_q (q_add rfl rfl (by omega)) ?_)
      exact ax_post_inv ⟨k + 1, by omega, by omega, ⟨rfl, by rw [hsum]; rfl, rfl, rfl, rfl, trivial⟩, rfl⟩
    · have hk' : k = ls.length := by omega
      subst hk'
      simp only [List.take_length] at *
      have hfl := lensum_flatten ls
      repeat (first
        | refine ax_q (q_move rfl) ?_
        | refine ax_post_code ?_
        | refine ax_seq ?_
        | refine ax_region rfl ?_
        | refine ax_exit ?_
        | refine ax_exit_here ?_
        | refine ax_exit_code ?_
        | refine ax_exit_inv ?_)
      refine ax_callf rfl rfl rfl (grow (lensum ls) (by omega) hs) ?_
      repeat (first
        | refine ax_q (q_move rfl) ?_
        | refine ax_q (q_assign rfl) ?_
        | refine ax_ops_nil ?_
        | refine ax_post_code ?_
        | refine ax_seq ?_
        | refine ax_region rfl ?_
        | refine ax_block ?_
        | refine ax_q (q_len rfl rfl rfl) ?_)
      refine ax_loop (ι := Nat) (fun k => [(6, .sl 0 0 (ls.take k).flatten.length), (25, .ro (rowsI ls) 0 ls.length), (26, .int .i64 (ls.length : Nat)), (27, .int .i64 (k : Nat))]) (fun k => [some ⟨3, .ints .i64 (ls.take k).flatten⟩])
        (fun k => k ≤ ls.length) (fun k => ls.length - k) 0 ⟨⟨rfl, rfl, rfl, rfl, trivial⟩, rfl, Nat.zero_le _⟩ ?_
      intro k hk
      repeat (first
        | refine ax_ops_nil ?_
        | refine ax_post_code ?_
        | refine ax_seq ?_
        | refine ax_region rfl ?_
        | refine ax_q (q_lss rfl rfl) ?_)
      refine ax_cond_dec rfl (fun h1 => ?_) (fun h1 => ?_)
      · have hk' : k < ls.length := by omega
        have hfs := flatten_take_succ ls k hk'
        have hb := lensum_le ls (k + 1)
        have hsl := lensum_take_succ ls k hk'
        have hb0 := lensum_le ls k
        have hfl0 := lensum_flatten (ls.take k)
        repeat (first
          | refine ax_q (q_move rfl) ?_
          | refine ax_q (q_assign rfl) ?_
          | refine ax_ops_nil ?_
          | refine ax_post_code ?_
          | refine ax_seq ?_
          | refine ax_region rfl ?_
          | refine ax_block ?_
          | refine ax_skip ?_
          | refine ax_q (q_loadf_rp rfl rfl rfl rfl) ?_
          | refine ax_q (q_index_ro' rfl rfl rfl rfl (by first | (simp only [Nat.zero_add, Int.toNat_natCast, Int.toNat_zero]; exact rfl) | exact rfl) (by omega)) ?_)
        refine ax_append rfl rfl rfl rfl rfl rfl rfl rfl rfl rfl rfl rfl (by show 0 + (ls.getD k []).length ≤ (ls.getD k []).length; omega) rfl (by show ((ls.take k).flatten.length + (ls.getD k []).length) * 8 ≤ _ ∧ _; omega) (fun i j _ _ => rfl) (by rw [hfix]; exact fun h => h) ?_
        repeat (first
          | refine ax_q (q_move rfl) ?_
          | refine ax_q (q_assign rfl) ?_
          | refine ax_ops_nil ?_
          | refine ax_post_code ?_
          | refine ax_region rfl ?_
          | refine ax_post_blk ?_
          | refine ax_q (q_add rfl rfl (by omega)) ?_)
        refine ax_post_inv ⟨k + 1, by omega, by omega, ⟨?_, rfl, rfl, rfl, trivial⟩, ?_⟩
        · show some (AV.sl 0 0 ((ls.take k).flatten.length + (ls.getD k []).length)) = _
          rw [hfs, List.length_append]
        · show ([some ⟨3, .ints .i64 ((ls.take k).flatten ++ List.take (ls.getD k []).length (List.drop 0 (ls.getD k [])))⟩] : AHeap) = _
          rw [hfs]; simp
      · have hk' : k = ls.length := by omega
        subst hk'
        simp only [List.take_length] at *
        repeat (first
          | refine ax_q (q_move rfl) ?_
          | refine ax_q (q_assign rfl) ?_
          | refine ax_ops_nil ?_
          | refine ax_post_code ?_
          | refine ax_seq ?_
          | refine ax_region rfl ?_
          | refine ax_exit ?_
          | refine ax_exit_here ?_
          | refine ax_exit_code ?_
          | refine ax_exit_inv ?_
          | refine ax_return ?_)
        exact ax_ret hR rfl ⟨rfl, rfl⟩
  · rintro r H ⟨rfl, rfl⟩
    refine ⟨?_, fun h o ho => refl1 refless_ints h o ho, 0, rfl, fun n => rfl⟩
    intro o ho; simp at ho; subst ho; show 0 + ls.flatten.length ≤ ls.flatten.length; omega

def cutE (l : List Int) (k : Int) : Int := if deckF l ≠ 0 then deckF l else if k < 0 ∨ (l.length : Int) < k then 4 else 0
def cutF (l : List Int) (k : Nat) : List Int := l.drop k ++ l.take k
theorem Cut_no (l : List Int) (k : Int) (hl : l.length ≤ 9223372036854775807) {e : Int} (he : cutE l k = e) (h : e ≠ 0) : VCall Tryd.prog 20 [.ro (.ints .i64 l) 0 l.length, .int .i64 k] (.tup [.nil, .int .i64 e]) := by
  refine ACall.value0 (acall_of_ax (P := Tryd.prog) (fn := Tryd.f20) rfl rfl (by kernel_rfl) rfl (fun c hR hfix => ?_)) (fix := fun _ => False) (fun _ h => h) rfl rfl
  unfold cutE at he
  repeat (first
    | refine ax_q (q_move rfl) ?_
    | refine ax_q (q_assign rfl) ?_
    | refine ax_ops_nil ?_
    | refine ax_post_code ?_
    | refine ax_seq ?_
    | refine ax_region rfl ?_)
  refine ax_callv rfl rfl rfl (check l hl) ?_
  repeat (first
    | refine ax_q (q_move rfl) ?_
    | refine ax_q (q_assign rfl) ?_
    | refine ax_ops_nil ?_
    | refine ax_post_code ?_
    | refine ax_seq ?_
    | refine ax_region rfl ?_
    | refine ax_q (q_neq rfl rfl) ?_)
  refine ax_cond_dec rfl (fun h2 => ?_) (fun h2 => ?_)
  · rw [if_pos h2] at he
    subst he
    repeat (first
      | refine ax_q (q_move rfl) ?_
      | refine ax_q (q_assign rfl) ?_
      | refine ax_ops_nil ?_
      | refine ax_post_code ?_
      | refine ax_seq ?_
      | refine ax_region rfl ?_
      | refine ax_return ?_
      | refine ax_ret_code ?_)
    exact ax_ret hR rfl rfl
  · rw [if_neg h2] at he
    repeat (first
      | refine ax_q (q_move rfl) ?_
      | refine ax_post_code ?_
      | refine ax_seq ?_
      | refine ax_region rfl ?_
      | refine ax_skip ?_
      | refine ax_q (q_lss rfl rfl) ?_)
    refine ax_gsplit rfl rfl (fun h3 => ?_) (fun h3 => ?_)
    · rw [if_pos (.inl h3)] at he
      subst he
      repeat (first
        | refine ax_q (q_assign rfl) ?_
        | refine ax_ops_nil ?_
        | refine ax_post_code ?_
        | refine ax_seq ?_
        | refine ax_region rfl ?_
        | refine ax_guard_not rfl rfl rfl ?_
        | refine ax_cond_true rfl ?_
        | refine ax_return ?_
        | refine ax_ret_code ?_
        | refine ax_q (q_pick rfl rfl) ?_)
      exact ax_ret hR rfl rfl
    · repeat (first
        | refine ax_q (q_move rfl) ?_
        | refine ax_ops_nil ?_
        | refine ax_post_code ?_
        | refine ax_guard rfl rfl ?_
        | refine ax_q (q_gtr rfl rfl) ?_
        | refine ax_q (q_pick rfl rfl) ?_
        | refine ax_q (q_len rfl rfl rfl) ?_)
      refine ax_cond_dec rfl (fun h4 => ?_) (fun h4 => ?_)
      · rw [if_pos (.inr h4)] at he
        subst he
        repeat (first
          | refine ax_q (q_assign rfl) ?_
          | refine ax_ops_nil ?_
          | refine ax_post_code ?_
          | refine ax_seq ?_
          | refine ax_region rfl ?_
          | refine ax_return ?_
          | refine ax_ret_code ?_)
        exact ax_ret hR rfl rfl
      · rw [if_neg (by omega)] at he
        exact absurd he.symm h
theorem Cut_ok (l : List Int) (k : Nat) (hl : l.length ≤ 9223372036854775807) (hd : deckF l = 0) (hk : k ≤ l.length) : VCall Tryd.prog 20 [.ro (.ints .i64 l) 0 l.length, .int .i64 k] (.tup [.ro (.ints .i64 (cutF l k)) 0 l.length, .int .i64 0]) := by
  have hlen := deckF_len hd
  have hcl : ([l.drop k, l.take k].flatten).length = l.length := by simp; omega
  refine ACall.value (K := fun r H => r = .tup [.sl 0 0 l.length, .int .i64 0] ∧ H = [some ⟨3, .ints .i64 (cutF l k)⟩]) (acall_of_ax (P := Tryd.prog) (fn := Tryd.f20) rfl rfl (by kernel_rfl) rfl (fun c hR hfix => ?_)) (fix := fun _ => False) (fun _ h => h) rfl ?_
  · repeat (first
      | refine ax_q (q_move rfl) ?_
      | refine ax_q (q_assign rfl) ?_
      | refine ax_ops_nil ?_
      | refine ax_post_code ?_
      | refine ax_seq ?_
      | refine ax_region rfl ?_)
    refine ax_callv rfl rfl rfl (check l hl) ?_
    rw [hd]
    repeat (first
      | refine ax_q (q_move rfl) ?_
      | refine ax_q (q_assign rfl) ?_
      | refine ax_ops_nil ?_
      | refine ax_post_code ?_
      | refine ax_seq ?_
      | refine ax_region rfl ?_
      | refine ax_guard rfl rfl ?_
      | refine ax_cond_false rfl ?_
      | refine ax_skip ?_
      | refine ax_q (q_lss rfl rfl) ?_
      | refine ax_q (q_neq rfl rfl) ?_
      | refine ax_q (q_gtr rfl rfl) ?_
      | refine ax_q (q_pick rfl rfl) ?_
      | refine ax_q (q_len rfl rfl rfl) ?_)
    refine ax_cond_dec rfl (fun h4 => absurd h4 (by omega)) (fun h4 => ?_)
    repeat (first
      | refine ax_post_code ?_
      | refine ax_seq ?_
      | refine ax_skip ?_)
    refine ax_regiond (by kernel_rfl) ?_
    refine ax_any_q 0 rfl (by kernel_rfl) (by kernel_rfl) (by kernel_rfl) rfl (q_move rfl) rfl ?_
    refine ax_any_q 1 rfl (by kernel_rfl) (by kernel_rfl) (by kernel_rfl) rfl (q_move rfl) rfl ?_
    refine ax_any_q 3 rfl (by kernel_rfl) (by kernel_rfl) (by kernel_rfl) rfl (q_move rfl) rfl ?_
    refine ax_any_q 4 rfl (by kernel_rfl) (by kernel_rfl) (by kernel_rfl) rfl (q_move rfl) rfl ?_
    refine ax_any_q 2 rfl (by kernel_rfl) (by kernel_rfl) (by kernel_rfl) rfl (q_slice_ro rfl rfl rfl rfl rfl rfl rfl (by omega)) rfl ?_
    refine ax_any_q 5 rfl (by kernel_rfl) (by kernel_rfl) (by kernel_rfl) rfl (q_slice_ro rfl rfl rfl rfl rfl rfl rfl (by omega)) rfl ?_
    refine ax_any_step (is := [6]) (by kernel_rfl) (by simp) rfl ⟨fun o ho => ?_, trivial⟩
    all_goals (cases ho)
    repeat (first
      | refine ax_ops_nil ?_
      | refine ax_post_any ?_
      | refine ax_buildSliceRo rfl rfl rfl rfl rfl rfl rfl rfl rfl rfl rfl ?_)
    refine ax_any_step (is := [7]) (by kernel_rfl) (by simp) rfl ⟨fun o ho => ?_, trivial⟩
    all_goals (cases ho)
    refine ax_slot_ops 26 (.ro (rowsI [l.drop k, l.take k]) 0 2) rfl (AEq.ro_in rfl (fun d j hd hj => ?_)) ?_
    · obtain rfl : j = 0 := by
        have : j < 1 := hj
        omega
      match d, hd with
      | 0, _ =>
        show AEq (.ro (.ints .i64 l) (0 + (k : Int).toNat) ((l.length : Int) - k).toNat) (.ro (.ints .i64 (l.drop k)) 0 (l.drop k).length)
        rw [show 0 + (k : Int).toNat = k by omega, show ((l.length : Int) - k).toNat = (l.drop k).length by rw [List.length_drop]; omega]
        exact AEq.drop
      | 1, _ =>
        show AEq (.ro (.ints .i64 l) 0 ((k : Int) - 0).toNat) (.ro (.ints .i64 (l.take k)) 0 (l.take k).length)
        rw [show ((k : Int) - 0).toNat = k by omega, show (l.take k).length = k by simp; omega]
        exact AEq.take
    have hsum : lensum [l.drop k, l.take k] ≤ 1000000 := by rw [lensum_flatten, hcl]; omega
    refine ax_callf rfl rfl rfl (concat [l.drop k, l.take k] (by simp) hsum) ?_
    repeat (first
      | refine ax_ops_nil ?_
      | refine ax_post_any ?_)
    refine ax_any_q 8 rfl (by kernel_rfl) (by kernel_rfl) (by kernel_rfl) rfl (q_assign rfl) rfl ?_
    refine ax_any_q 9 rfl (by kernel_rfl) (by kernel_rfl) (by kernel_rfl) rfl (q_assign rfl) rfl ?_
    refine ax_any_done (by kernel_rfl) ?_
    repeat (first
      | refine ax_post_code ?_
      | refine ax_return ?_)
    refine ax_ret hR rfl ⟨?_, ?_⟩
    · show AV.tup [.sl 0 0 ([l.drop k, l.take k].flatten).length, .int .i64 0] = _
      rw [hcl]
    · show ([some ⟨3, .ints .i64 ([l.drop k, l.take k].flatten)⟩] : AHeap) = _
      simp [cutF]
  · rintro r H ⟨rfl, rfl⟩
    refine ⟨rfl, ⟨?_, trivial, trivial⟩, fun h o ho => refl1 refless_ints h o ho⟩
    intro o ho; simp at ho; subst ho
    show 0 + l.length ≤ (cutF l k).length
    simp [cutF]; omega
end Go.Proofs.YtmfhdfofmdggaaaDoor
