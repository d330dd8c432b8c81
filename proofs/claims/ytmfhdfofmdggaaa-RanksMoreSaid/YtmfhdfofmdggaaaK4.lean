import Derived.Test.YtmfhdfofmdggaaaK3
import Derived.Test.YtmfhdfofmdggaaaAxMore4
namespace Go.Proofs.Ytmfhdfofmdggaaa
open Go.Ax Go.Ax.Idx Go.Ax.Cd
attribute [local irreducible] Ax Post QOp ACall
set_option maxRecDepth 100000
set_option maxHeartbeats 4000000
set_option linter.unusedSimpArgs false
set_option linter.unusedVariables false

theorem grow (n : Int) (h0 : 0 ≤ n) (h1 : n ≤ 1000000) : FCall Try.prog 34 [.nil, .int .i64 n] (fun N => .sl N 0 0) ⟨3, .ints .i64 []⟩ := by
  refine ACall.fresh (K := fun r H => r = .sl 0 0 0 ∧ H = [some ⟨3, .ints .i64 []⟩]) (acall_of_ax (P := Try.prog) (fn := Try.f34) rfl rfl (by kernel_rfl) rfl (fun c hR hfix => ?_)) (fix := fun _ => False) (fun _ h => h) rfl (fun H => ⟨rfl, by simp [inBs, inB]⟩) ?_
  · repeat (first
      | refine ax_q (q_move rfl) ?_
      | refine ax_q (q_assign rfl) ?_
      | refine ax_ops_nil ?_
      | refine ax_post_code ?_
      | refine ax_seq ?_
      | refine ax_region rfl ?_
      | refine ax_q (q_lss rfl rfl) ?_)
    refine ax_cond_dec rfl (fun h => absurd h (by omega)) (fun h => ?_)
    repeat (first
      | refine ax_q (q_move rfl) ?_
      | refine ax_q (q_assign rfl) ?_
      | refine ax_ops_nil ?_
      | refine ax_post_code ?_
      | refine ax_seq ?_
      | refine ax_region rfl ?_
      | refine ax_skip ?_
      | refine ax_q (q_gtr rfl rfl) ?_
      | refine ax_q (q_len rfl rfl rfl) ?_
      | refine ax_q (q_sub rfl rfl (by omega)) ?_
      | refine ax_q (q_capnil rfl rfl) ?_)
    refine ax_cond_dec rfl (fun h => ?_) (fun h => ?_)
    rotate_left
    · repeat (first
        | refine ax_q (q_move rfl) ?_
        | refine ax_q (q_assign rfl) ?_
        | refine ax_ops_nil ?_
        | refine ax_post_code ?_
        | refine ax_seq ?_
        | refine ax_region rfl ?_
        | refine ax_skip ?_)
      refine ax_nilobj 4 ⟨3, .ints .i64 []⟩ rfl rfl ?_
      repeat (refine ax_return ?_)
      exact ax_ret hR rfl ⟨rfl, rfl⟩
    repeat (first
      | refine ax_q (q_move rfl) ?_
      | refine ax_region rfl ?_
      | refine ax_q (q_capnil rfl rfl) ?_
      | refine ax_q (q_slicenil rfl rfl rfl rfl rfl rfl rfl) ?_)
    refine ax_growz rfl rfl rfl rfl rfl rfl rfl rfl rfl (by show 0 < _ ∧ _ * 8 ≤ _ ∧ _; omega) ?_
    repeat (first
      | refine ax_q (q_move rfl) ?_
      | refine ax_q (q_len rfl rfl rfl) ?_)
    refine ax_q (q_slice_sl0 rfl rfl rfl rfl rfl rfl rfl rfl (by omega)) ?_
    refine ax_trunc_ops 0 (.ints .i64 []) rfl ⟨Nat.zero_le _, rfl, fun i j hi => absurd hi (Nat.not_lt_zero _)⟩ ?_
    repeat (first
      | refine ax_q (q_move rfl) ?_
      | refine ax_q (q_assign rfl) ?_
      | refine ax_ops_nil ?_
      | refine ax_post_code ?_
      | refine ax_seq ?_
      | refine ax_region rfl ?_
      | refine ax_return ?_)
    exact ax_ret hR rfl ⟨rfl, rfl⟩
  · rintro r H ⟨rfl, rfl⟩
    refine ⟨?_, fun h o ho => refl1 refless_ints h o ho, 0, rfl, fun n => rfl⟩
    intro o ho; simp at ho; subst ho; exact Nat.zero_le _

def lensum (ls : List (List Int)) : Int := (ls.map fun l => (l.length : Int)).sum
theorem lensum_take_succ (ls : List (List Int)) (k : Nat) (h : k < ls.length) : lensum (ls.take (k + 1)) = lensum (ls.take k) + ((ls.getD k []).length : Int) := by
  unfold lensum
  rw [take_succ_getD ls [] k h, List.map_append, List.sum_append]
  simp
theorem lensum_flatten (ls : List (List Int)) : lensum ls = (ls.flatten.length : Int) := by
  induction ls with
  | nil => rfl
  | cons l r ih => unfold lensum at ih ⊢; simp [ih]
theorem lensum_le (ls : List (List Int)) (k : Nat) : 0 ≤ lensum (ls.take k) ∧ lensum (ls.take k) ≤ lensum ls := by
  have h : ls.flatten = (ls.take k).flatten ++ (ls.drop k).flatten := by rw [← List.flatten_append, List.take_append_drop]
  rw [lensum_flatten, lensum_flatten, h, List.length_append]; omega
theorem flatten_take_succ (ls : List (List Int)) (k : Nat) (h : k < ls.length) : (ls.take (k + 1)).flatten = (ls.take k).flatten ++ ls.getD k [] := by
  rw [take_succ_getD ls [] k h, List.flatten_append]; simp

theorem concat (ls : List (List Int)) (hlen : ls.length ≤ 1000000) (hs : lensum ls ≤ 1000000) :
    FCall Try.prog 26 [.ro (rowsI ls) 0 ls.length] (fun N => .sl N 0 ls.flatten.length) ⟨3, .ints .i64 ls.flatten⟩ := by
  refine ACall.fresh (K := fun r H => r = .sl 0 0 ls.flatten.length ∧ H = [some ⟨3, .ints .i64 ls.flatten⟩]) (acall_of_ax (P := Try.prog) (fn := Try.f26) rfl rfl (by kernel_rfl) rfl (fun c hR hfix => ?_)) (fix := fun _ => False) (fun _ h => h) rfl (fun H => ⟨rfl, by simp [inBs, inB]⟩) ?_
  · repeat (first
      | refine ax_q (q_move rfl) ?_
      | refine ax_q (q_assign rfl) ?_
      | refine ax_ops_nil ?_
      | refine ax_post_code ?_
      | refine ax_seq ?_
      | refine ax_region rfl ?_
      | refine ax_block ?_
      | refine ax_q (q_len rfl rfl rfl) ?_)
    refine ax_loop (ι := Nat) (fun k => [(0, .ro (rowsI ls) 0 ls.length), (3, .int .i64 (lensum (ls.take k))), (9, .ro (rowsI ls) 0 ls.length), (10, .int .i64 (ls.length : Nat)), (11, .int .i64 (k : Nat))]) (fun _ => [])
      (fun k => k ≤ ls.length) (fun k => ls.length - k) 0 ⟨⟨rfl, rfl, rfl, rfl, rfl, trivial⟩, rfl, Nat.zero_le _⟩ ?_
    intro k hk
    repeat (first
      | refine ax_ops_nil ?_
      | refine ax_post_code ?_
      | refine ax_seq ?_
      | refine ax_region rfl ?_
      | refine ax_q (q_lss rfl rfl) ?_)
    refine ax_cond_dec rfl (fun h1 => ?_) (fun h1 => ?_)
    · have hk' : k < ls.length := by omega
      have hsum := lensum_take_succ ls k hk'
      have hb := lensum_le ls (k + 1)
      have hb0 := lensum_le ls k
      repeat (first
        | refine ax_q (q_move rfl) ?_
        | refine ax_q (q_assign rfl) ?_
        | refine ax_ops_nil ?_
        | refine ax_post_code ?_
        | refine ax_seq ?_
        | refine ax_region rfl ?_
        | refine ax_block ?_
        | refine ax_skip ?_
        | refine ax_q (q_loadf_rp rfl rfl rfl rfl) ?_
        | refine ax_q (q_lss rfl rfl) ?_
        | refine ax_q (q_len rfl rfl rfl) ?_
        | refine ax_q (q_add rfl rfl (by omega)) ?_
        | refine ax_q (q_index_ro' rfl rfl rfl rfl (by first | (simp only [Nat.zero_add, Int.toNat_natCast, Int.toNat_zero]; exact rfl) | exact rfl) (by omega)) ?_)
      refine ax_cond_dec rfl (fun h2 => absurd h2 (by omega)) (fun h2 => ?_)
      repeat (first
        | refine ax_q (q_move rfl) ?_
        | refine ax_ops_nil ?_
        | refine ax_post_code ?_
        | refine ax_region rfl ?_
        | refine ax_post_blk ?_
        | refine ax_skip ?_
        | refine ax_q (q_add rfl rfl (by omega)) ?_)
      exact ax_post_inv ⟨k + 1, by omega, by omega, ⟨rfl, by rw [hsum]; rfl, rfl, rfl, rfl, trivial⟩, rfl⟩
    · have hk' : k = ls.length := by omega
      subst hk'
      simp only [List.take_length] at *
      have hfl := lensum_flatten ls
      repeat (first
        | refine ax_q (q_move rfl) ?_
        | refine ax_post_code ?_
        | refine ax_seq ?_
        | refine ax_region rfl ?_
        | refine ax_exit ?_
        | refine ax_exit_here ?_
        | refine ax_exit_code ?_
        | refine ax_exit_inv ?_)
      refine ax_callf rfl rfl rfl (grow (lensum ls) (by omega) hs) ?_
      repeat (first
        | refine ax_q (q_move rfl) ?_
        | refine ax_q (q_assign rfl) ?_
        | refine ax_ops_nil ?_
        | refine ax_post_code ?_
        | refine ax_seq ?_
        | refine ax_region rfl ?_
        | refine ax_block ?_
        | refine ax_q (q_len rfl rfl rfl) ?_)
      refine ax_loop (ι := Nat) (fun k => [(6, .sl 0 0 (ls.take k).flatten.length), (25, .ro (rowsI ls) 0 ls.length), (26, .int .i64 (ls.length : Nat)), (27, .int .i64 (k : Nat))]) (fun k => [some ⟨3, .ints .i64 (ls.take k).flatten⟩])
        (fun k => k ≤ ls.length) (fun k => ls.length - k) 0 ⟨⟨rfl, rfl, rfl, rfl, trivial⟩, rfl, Nat.zero_le _⟩ ?_
      intro k hk
      repeat (first
        | refine ax_ops_nil ?_
        | refine ax_post_code ?_
        | refine ax_seq ?_
        | refine ax_region rfl ?_
        | refine ax_q (q_lss rfl rfl) ?_)
      refine ax_cond_dec rfl (fun h1 => ?_) (fun h1 => ?_)
      · have hk' : k < ls.length := by omega
        have hfs := flatten_take_succ ls k hk'
        have hb := lensum_le ls (k + 1)
        have hsl := lensum_take_succ ls k hk'
        have hb0 := lensum_le ls k
        have hfl0 := lensum_flatten (ls.take k)
        repeat (first
          | refine ax_q (q_move rfl) ?_
          | refine ax_q (q_assign rfl) ?_
          | refine ax_ops_nil ?_
          | refine ax_post_code ?_
          | refine ax_seq ?_
          | refine ax_region rfl ?_
          | refine ax_block ?_
          | refine ax_skip ?_
          | refine ax_q (q_loadf_rp rfl rfl rfl rfl) ?_
          | refine ax_q (q_index_ro' rfl rfl rfl rfl (by first | (simp only [Nat.zero_add, Int.toNat_natCast, Int.toNat_zero]; exact rfl) | exact rfl) (by omega)) ?_)
        refine ax_append rfl rfl rfl rfl rfl rfl rfl rfl rfl rfl rfl rfl (by show 0 + (ls.getD k []).length ≤ (ls.getD k []).length; omega) rfl (by show ((ls.take k).flatten.length + (ls.getD k []).length) * 8 ≤ _ ∧ _; omega) (fun i j _ _ => rfl) (by rw [hfix]; exact fun h => h) ?_
        repeat (first
          | refine ax_q (q_move rfl) ?_
          | refine ax_q (q_assign rfl) ?_
          | refine ax_ops_nil ?_
          | refine ax_post_code ?_
          | refine ax_region rfl ?_
          | refine ax_post_blk ?_
          | refine ax_q (q_add rfl rfl (by omega)) ?_)
        refine ax_post_inv ⟨k + 1, by omega, by omega, ⟨?_, rfl, rfl, rfl, trivial⟩, ?_⟩
        · show some (AV.sl 0 0 ((ls.take k).flatten.length + (ls.getD k []).length)) = _
          rw [hfs, List.length_append]
        · show ([some ⟨3, .ints .i64 ((ls.take k).flatten ++ List.take (ls.getD k []).length (List.drop 0 (ls.getD k [])))⟩] : AHeap) = _
          rw [hfs]; simp
      · have hk' : k = ls.length := by omega
        subst hk'
        simp only [List.take_length] at *
        repeat (first
          | refine ax_q (q_move rfl) ?_
          | refine ax_q (q_assign rfl) ?_
          | refine ax_ops_nil ?_
          | refine ax_post_code ?_
          | refine ax_seq ?_
          | refine ax_region rfl ?_
          | refine ax_exit ?_
          | refine ax_exit_here ?_
          | refine ax_exit_code ?_
          | refine ax_exit_inv ?_
          | refine ax_return ?_)
        exact ax_ret hR rfl ⟨rfl, rfl⟩
  · rintro r H ⟨rfl, rfl⟩
    refine ⟨?_, fun h o ho => refl1 refless_ints h o ho, 0, rfl, fun n => rfl⟩
    intro o ho; simp at ho; subst ho; show 0 + ls.flatten.length ≤ ls.flatten.length; omega

end Go.Proofs.Ytmfhdfofmdggaaa
