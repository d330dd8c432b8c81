import Derived.Test.YtmfhdfofmdggaaaK1
namespace Go.Proofs.Ytmfhdfofmdggaaa
open Go.Ax Go.Ax.Idx Go.Ax.Cd
attribute [local irreducible] Ax Post QOp ACall
set_option maxRecDepth 100000
set_option maxHeartbeats 4000000
set_option linter.unusedSimpArgs false
set_option linter.unusedVariables false

theorem refless_box {L : List AV} (h : noRef.noRefs L = true) : refless (.box L) := by
  intro i j _ hj
  exact noRefs_get h j hj

theorem check (l : List Int) (hlen : l.length ≤ 9223372036854775807) : VCall Try.prog 21 [.ro (.ints .i64 l) 0 l.length] (.int .i64 (deckF l)) := by
  refine ACall.value0 (acall_of_ax (P := Try.prog) (fn := Try.f21) rfl rfl (by kernel_rfl) rfl (fun c hR hfix => ?_)) (fix := fun _ => False) (fun _ h => h) rfl rfl
  repeat (first
    | refine ax_q (q_move rfl) ?_
    | refine ax_q (q_assign rfl) ?_
    | refine ax_ops_nil ?_
    | refine ax_post_code ?_
    | refine ax_seq ?_
    | refine ax_region rfl ?_
    | refine ax_q (q_gtr rfl rfl) ?_
    | refine ax_q (q_len rfl rfl rfl) ?_)
  refine ax_cond_dec rfl (fun h => ?_) (fun h => ?_)
  · repeat (first
      | refine ax_q (q_assign rfl) ?_
      | refine ax_ops_nil ?_
      | refine ax_post_code ?_
      | refine ax_seq ?_
      | refine ax_region rfl ?_
      | refine ax_return ?_
      | refine ax_ret_code ?_)
    refine ax_ret hR rfl ?_
    unfold deckF; rw [if_pos (by omega)]; rfl
  · repeat (first
      | refine ax_q (q_move rfl) ?_
      | refine ax_ops_nil ?_
      | refine ax_post_code ?_
      | refine ax_seq ?_
      | refine ax_region rfl ?_
      | refine ax_block ?_
      | refine ax_skip ?_
      | refine ax_q (q_len rfl rfl rfl) ?_)
    refine ax_loop (ι := Nat) (fun k => [(0, .ro (.ints .i64 l) 0 l.length), (8, .ro (.ints .i64 l) 0 l.length), (9, .int .i64 (l.length : Nat)), (10, .int .i64 (k : Nat))]) (fun _ => [])
      (fun k => k ≤ l.length ∧ ∀ j, j < k → (0 ≤ l.getD j 0 ∧ l.getD j 0 < 52) ∧ (l.take j).any (eqp (l.getD j 0)) = false) (fun k => l.length - k) 0 ⟨⟨rfl, rfl, rfl, rfl, trivial⟩, rfl, Nat.zero_le _, fun j hj => absurd hj (Nat.not_lt_zero _)⟩ ?_
    intro k ⟨hk, hall⟩
    have hgo := deckGo_take hk hall
    repeat (first
      | refine ax_ops_nil ?_
      | refine ax_post_code ?_
      | refine ax_seq ?_
      | refine ax_region rfl ?_
      | refine ax_q (q_lss rfl rfl) ?_)
    refine ax_cond_dec rfl (fun h1 => ?_) (fun h1 => ?_)
    · have hk' : k < l.length := by omega
      rw [drop_getD l 0 k hk', deckGo] at hgo
      repeat (first
        | refine ax_q (q_move rfl) ?_
        | refine ax_q (q_assign rfl) ?_
        | refine ax_q (q_loadi_rp rfl rfl rfl) ?_
        | refine ax_ops_nil ?_
        | refine ax_post_code ?_
        | refine ax_seq ?_
        | refine ax_region rfl ?_
        | refine ax_block ?_
        | refine ax_skip ?_
        | refine ax_q (q_lss rfl rfl) ?_
        | refine ax_q (q_index_ro' rfl rfl rfl rfl (by first | (simp only [Nat.zero_add, Int.toNat_natCast, Int.toNat_zero]; exact rfl) | exact rfl) (by omega)) ?_)
      refine ax_gsplit rfl rfl (fun h2 => ?_) (fun h2 => ?_)
      · repeat (first
          | refine ax_q (q_assign rfl) ?_
          | refine ax_ops_nil ?_
          | refine ax_post_code ?_
          | refine ax_seq ?_
          | refine ax_region rfl ?_
          | refine ax_guard_not rfl rfl rfl ?_
          | refine ax_cond_true rfl ?_
          | refine ax_return ?_
          | refine ax_ret_code ?_
          | refine ax_ret_blk ?_
          | refine ax_ret_inv ?_
          | refine ax_q (q_pick rfl rfl) ?_)
        refine ax_ret hR rfl ?_
        unfold deckF; rw [if_neg (by omega), hgo, if_pos (.inl h2)]; rfl
      · repeat (first
          | refine ax_q (q_move rfl) ?_
          | refine ax_ops_nil ?_
          | refine ax_post_code ?_
          | refine ax_guard rfl rfl ?_
          | refine ax_q (q_geq rfl rfl) ?_
          | refine ax_q (q_pick rfl rfl) ?_)
        refine ax_cond_dec rfl (fun h3 => ?_) (fun h3 => ?_)
        · repeat (first
            | refine ax_q (q_assign rfl) ?_
            | refine ax_ops_nil ?_
            | refine ax_post_code ?_
            | refine ax_seq ?_
            | refine ax_region rfl ?_
            | refine ax_return ?_
            | refine ax_ret_code ?_
            | refine ax_ret_blk ?_
            | refine ax_ret_inv ?_)
          refine ax_ret hR rfl ?_
          unfold deckF; rw [if_neg (by omega), hgo, if_pos (.inr h3)]; rfl
        · rw [if_neg (by omega)] at hgo
          repeat (first
            | refine ax_q (q_move rfl) ?_
            | refine ax_post_code ?_
            | refine ax_seq ?_
            | refine ax_region rfl ?_
            | refine ax_skip ?_
            | refine ax_q (q_slice_ro rfl rfl rfl rfl rfl rfl rfl (by omega)) ?_)
          have hc := containsV (l.take k) (l.getD k 0) (by simp; omega)
          rw [show (l.take k).length = k by simp; omega] at hc
          refine ax_slot_ops 23 _ rfl AEq.take ?_
          skip
          refine ax_callv rfl rfl rfl hc ?_
          repeat (first
            | refine ax_ops_nil ?_
            | refine ax_post_code ?_)
          refine ax_cond rfl (fun h4 => ?_) (fun h4 => ?_)
          · repeat (first
              | refine ax_q (q_assign rfl) ?_
              | refine ax_ops_nil ?_
              | refine ax_post_code ?_
              | refine ax_seq ?_
              | refine ax_region rfl ?_
              | refine ax_return ?_
              | refine ax_ret_code ?_
              | refine ax_ret_blk ?_
              | refine ax_ret_inv ?_)
            refine ax_ret hR rfl ?_
            unfold deckF; rw [if_neg (by omega), hgo, if_pos h4]; rfl
          · repeat (first
              | refine ax_q (q_move rfl) ?_
              | refine ax_ops_nil ?_
              | refine ax_post_code ?_
              | refine ax_region rfl ?_
              | refine ax_post_blk ?_
              | refine ax_skip ?_
              | refine ax_q (q_add rfl rfl (by omega)) ?_)
            refine ax_post_inv ⟨k + 1, ⟨by omega, fun j hj => ?_⟩, by omega, ⟨rfl, rfl, rfl, rfl, trivial⟩, rfl⟩
            by_cases hj' : j < k
            · exact hall j hj'
            · have : j = k := by omega
              subst this
              exact ⟨by omega, h4⟩
    · have hk' : k = l.length := by omega
      subst hk'
      rw [List.drop_length, deckGo] at hgo
      repeat (first
        | refine ax_q (q_assign rfl) ?_
        | refine ax_ops_nil ?_
        | refine ax_post_code ?_
        | refine ax_seq ?_
        | refine ax_region rfl ?_
        | refine ax_exit ?_
        | refine ax_exit_here ?_
        | refine ax_exit_code ?_
        | refine ax_exit_inv ?_
        | refine ax_return ?_)
      refine ax_ret hR rfl ?_
      unfold deckF; rw [if_neg (by omega), hgo]; rfl

theorem fits (n : Int) (l : List Int) (hn : 0 ≤ n ∧ n ≤ 1000) : VCall Try.prog 25 [.int .i64 n, .ro (.ints .i64 l) 0 l.length] (.int .i64 (fitsF n l)) := by
  refine ACall.value0 (acall_of_ax (P := Try.prog) (fn := Try.f25) rfl rfl (by kernel_rfl) rfl (fun c hR hfix => ?_)) (fix := fun _ => False) (fun _ h => h) rfl rfl
  have hm : (0 : Int) ≤ (if 1 > n then 1 else n) - 1 ∧ (if 1 > n then (1 : Int) else n) ≤ 1000 := by split <;> omega
  repeat (first
    | refine ax_q (q_move rfl) ?_
    | refine ax_q (q_assign rfl) ?_
    | refine ax_ops_nil ?_
    | refine ax_post_code ?_
    | refine ax_seq ?_
    | refine ax_region rfl ?_
    | refine ax_q (q_neq rfl rfl) ?_
    | refine ax_q (q_len rfl rfl rfl) ?_
    | refine ax_q (q_sub rfl rfl (by omega)) ?_
    | refine ax_q (q_max rfl rfl) ?_)
  refine ax_cond_dec rfl (fun h => ?_) (fun h => ?_)
  · repeat (first
      | refine ax_q (q_assign rfl) ?_
      | refine ax_ops_nil ?_
      | refine ax_post_code ?_
      | refine ax_seq ?_
      | refine ax_region rfl ?_
      | refine ax_return ?_
      | refine ax_ret_code ?_)
    refine ax_ret hR rfl ?_
    unfold fitsF; rw [if_pos h]; rfl
  · repeat (first
      | refine ax_q (q_move rfl) ?_
      | refine ax_ops_nil ?_
      | refine ax_post_code ?_
      | refine ax_seq ?_
      | refine ax_region rfl ?_
      | refine ax_block ?_
      | refine ax_skip ?_
      | refine ax_q (q_len rfl rfl rfl) ?_)
    refine ax_loop (ι := Nat) (fun k => [(0, .int .i64 n), (13, .ro (.ints .i64 l) 0 l.length), (14, .int .i64 (l.length : Nat)), (15, .int .i64 (k : Nat))]) (fun _ => [])
      (fun k => k ≤ l.length ∧ ∀ j, j < k → 0 ≤ l.getD j 0 ∧ l.getD j 0 ≤ n - 1 - j) (fun k => l.length - k) 0 ⟨⟨rfl, rfl, rfl, rfl, trivial⟩, rfl, Nat.zero_le _, fun j hj => absurd hj (Nat.not_lt_zero _)⟩ ?_
    intro k ⟨hk, hall⟩
    have hgo := fitsGo_take hk hall
    have hkn : (k : Int) ≤ 1000 := by omega
    repeat (first
      | refine ax_ops_nil ?_
      | refine ax_post_code ?_
      | refine ax_seq ?_
      | refine ax_region rfl ?_
      | refine ax_q (q_lss rfl rfl) ?_)
    refine ax_cond_dec rfl (fun h1 => ?_) (fun h1 => ?_)
    · have hk' : k < l.length := by omega
      rw [drop_getD l 0 k hk', fitsGo] at hgo
      repeat (first
        | refine ax_q (q_move rfl) ?_
        | refine ax_q (q_assign rfl) ?_
        | refine ax_q (q_loadi_rp rfl rfl rfl) ?_
        | refine ax_ops_nil ?_
        | refine ax_post_code ?_
        | refine ax_seq ?_
        | refine ax_region rfl ?_
        | refine ax_block ?_
        | refine ax_skip ?_
        | refine ax_q (q_lss rfl rfl) ?_
        | refine ax_q (q_index_ro' rfl rfl rfl rfl (by first | (simp only [Nat.zero_add, Int.toNat_natCast, Int.toNat_zero]; exact rfl) | exact rfl) (by omega)) ?_)
      refine ax_gsplit rfl rfl (fun h2 => ?_) (fun h2 => ?_)
      · repeat (first
          | refine ax_q (q_assign rfl) ?_
          | refine ax_ops_nil ?_
          | refine ax_post_code ?_
          | refine ax_seq ?_
          | refine ax_region rfl ?_
          | refine ax_guard_not rfl rfl rfl ?_
          | refine ax_cond_true rfl ?_
          | refine ax_return ?_
          | refine ax_ret_code ?_
          | refine ax_ret_blk ?_
          | refine ax_ret_inv ?_
          | refine ax_q (q_pick rfl rfl) ?_)
        refine ax_ret hR rfl ?_
        unfold fitsF; rw [if_neg h, hgo, if_pos (.inl h2)]; rfl
      · repeat (first
          | refine ax_q (q_move rfl) ?_
          | refine ax_ops_nil ?_
          | refine ax_post_code ?_
          | refine ax_guard rfl rfl ?_
          | refine ax_q (q_gtr rfl rfl) ?_
          | refine ax_q (q_pick rfl rfl) ?_
          | refine ax_q (q_sub rfl rfl (by omega)) ?_)
        refine ax_cond_dec rfl (fun h3 => ?_) (fun h3 => ?_)
        · repeat (first
            | refine ax_q (q_assign rfl) ?_
            | refine ax_ops_nil ?_
            | refine ax_post_code ?_
            | refine ax_seq ?_
            | refine ax_region rfl ?_
            | refine ax_return ?_
            | refine ax_ret_code ?_
            | refine ax_ret_blk ?_
            | refine ax_ret_inv ?_)
          refine ax_ret hR rfl ?_
          unfold fitsF; rw [if_neg h, hgo, if_pos (.inr h3)]; rfl
        · repeat (first
            | refine ax_q (q_move rfl) ?_
            | refine ax_ops_nil ?_
            | refine ax_post_code ?_
            | refine ax_region rfl ?_
            | refine ax_post_blk ?_
            | refine ax_skip ?_
            | refine ax_q (q_add rfl rfl (by omega)) ?_)
          refine ax_post_inv ⟨k + 1, ⟨by omega, fun j hj => ?_⟩, by omega, ⟨rfl, rfl, rfl, rfl, trivial⟩, rfl⟩
          by_cases hj' : j < k
          · exact hall j hj'
          · have : j = k := by omega
            subst this
            omega
    · have hk' : k = l.length := by omega
      subst hk'
      rw [List.drop_length, fitsGo] at hgo
      repeat (first
        | refine ax_q (q_assign rfl) ?_
        | refine ax_ops_nil ?_
        | refine ax_post_code ?_
        | refine ax_seq ?_
        | refine ax_region rfl ?_
        | refine ax_exit ?_
        | refine ax_exit_here ?_
        | refine ax_exit_code ?_
        | refine ax_exit_inv ?_
        | refine ax_return ?_)
      refine ax_ret hR rfl ?_
      unfold fitsF; rw [if_neg h, hgo]; rfl

def shufE (l draws : List Int) : Int := if deckF l ≠ 0 then deckF l else fitsF l.length draws
theorem deckF_len {l : List Int} (h : deckF l = 0) : l.length ≤ 52 := by
  unfold deckF at h
  split at h <;> omega
theorem fitsF_ok {n : Int} {l : List Int} (hn : 0 ≤ n) (h : fitsF n l = 0) : (l.length : Int) = (if 1 > n then 1 else n) - 1 ∧ ∀ j, j < l.length → 0 ≤ l.getD j 0 ∧ l.getD j 0 ≤ n - 1 - j := by
  unfold fitsF at h
  by_cases h1 : (l.length : Int) ≠ (if 1 > n then 1 else n) - 1
  · rw [if_pos h1] at h; omega
  · rw [if_neg h1] at h
    refine ⟨by omega, fun j hj => ?_⟩
    have := fitsGo_zero 0 h j hj
    simpa using this
theorem Shuffle_no (l draws : List Int) (hl : l.length ≤ 9223372036854775807) {e : Int} (he : shufE l draws = e) (h : e ≠ 0) : VCall Try.prog 13 [.ro (.ints .i64 l) 0 l.length, .ro (.ints .i64 draws) 0 draws.length] (.tup [.nil, .int .i64 e]) := by
  refine ACall.value0 (acall_of_ax (P := Try.prog) (fn := Try.f13) rfl rfl (by kernel_rfl) rfl (fun c hR hfix => ?_)) (fix := fun _ => False) (fun _ h => h) rfl rfl
  unfold shufE at he
  repeat (first
    | refine ax_q (q_move rfl) ?_
    | refine ax_q (q_assign rfl) ?_
    | refine ax_ops_nil ?_
    | refine ax_post_code ?_
    | refine ax_seq ?_
    | refine ax_region rfl ?_)
  refine ax_callv rfl rfl rfl (check l hl) ?_
  repeat (first
    | refine ax_q (q_move rfl) ?_
    | refine ax_q (q_assign rfl) ?_
    | refine ax_ops_nil ?_
    | refine ax_post_code ?_
    | refine ax_seq ?_
    | refine ax_region rfl ?_
    | refine ax_q (q_neq rfl rfl) ?_)
  refine ax_cond_dec rfl (fun h2 => ?_) (fun h2 => ?_)
  · rw [if_pos h2] at he
    subst he
    repeat (first
      | refine ax_q (q_move rfl) ?_
      | refine ax_q (q_assign rfl) ?_
      | refine ax_ops_nil ?_
      | refine ax_post_code ?_
      | refine ax_seq ?_
      | refine ax_region rfl ?_
      | refine ax_return ?_
      | refine ax_ret_code ?_)
    exact ax_ret hR rfl rfl
  · rw [if_neg h2] at he
    subst he
    have hlen := deckF_len (l := l) (by omega)
    repeat (first
      | refine ax_q (q_move rfl) ?_
      | refine ax_post_code ?_
      | refine ax_seq ?_
      | refine ax_region rfl ?_
      | refine ax_skip ?_
      | refine ax_q (q_len rfl rfl rfl) ?_)
    refine ax_callv rfl rfl rfl (fits l.length draws ⟨by omega, by omega⟩) ?_
    repeat (first
      | refine ax_q (q_move rfl) ?_
      | refine ax_q (q_assign rfl) ?_
      | refine ax_ops_nil ?_
      | refine ax_post_code ?_
      | refine ax_seq ?_
      | refine ax_region rfl ?_
      | refine ax_q (q_neq rfl rfl) ?_)
    refine ax_cond_dec rfl (fun h3 => ?_) (fun h3 => absurd h h3)
    repeat (first
      | refine ax_q (q_move rfl) ?_
      | refine ax_q (q_assign rfl) ?_
      | refine ax_ops_nil ?_
      | refine ax_post_code ?_
      | refine ax_seq ?_
      | refine ax_region rfl ?_
      | refine ax_return ?_
      | refine ax_ret_code ?_)
    exact ax_ret hR rfl rfl
theorem Shuffle_ok (l draws : List Int) (hl : l.length ≤ 9223372036854775807) (h : shufE l draws = 0) : VCall Try.prog 13 [.ro (.ints .i64 l) 0 l.length, .ro (.ints .i64 draws) 0 draws.length] (.tup [.ro (.ints .i64 (shufF l draws)) 0 l.length, .int .i64 0]) := by
  unfold shufE at h
  have hd : deckF l = 0 := by
    by_cases hd : deckF l = 0
    · exact hd
    · rw [if_pos hd] at h; exact h
  rw [if_neg (by omega)] at h
  have hlen := deckF_len hd
  obtain ⟨hdl, hdr⟩ := fitsF_ok (by omega) h
  refine ACall.value (K := fun r H => r = .tup [.sl 0 0 l.length, .int .i64 0] ∧ H = [some ⟨3, .ints .i64 (shufF l draws)⟩]) (acall_of_ax (P := Try.prog) (fn := Try.f13) rfl rfl (by kernel_rfl) rfl (fun c hR hfix => ?_)) (fix := fun _ => False) (fun _ h => h) rfl ?_
  · repeat (first
      | refine ax_q (q_move rfl) ?_
      | refine ax_q (q_assign rfl) ?_
      | refine ax_ops_nil ?_
      | refine ax_post_code ?_
      | refine ax_seq ?_
      | refine ax_region rfl ?_)
    refine ax_callv rfl rfl rfl (check l hl) ?_
    rw [hd]
    repeat (first
      | refine ax_q (q_move rfl) ?_
      | refine ax_q (q_assign rfl) ?_
      | refine ax_ops_nil ?_
      | refine ax_post_code ?_
      | refine ax_seq ?_
      | refine ax_region rfl ?_
      | refine ax_cond_false rfl ?_
      | refine ax_skip ?_
      | refine ax_q (q_neq rfl rfl) ?_
      | refine ax_q (q_len rfl rfl rfl) ?_)
    refine ax_callv rfl rfl rfl (fits l.length draws ⟨by omega, by omega⟩) ?_
    rw [h]
    repeat (first
      | refine ax_q (q_move rfl) ?_
      | refine ax_q (q_assign rfl) ?_
      | refine ax_ops_nil ?_
      | refine ax_post_code ?_
      | refine ax_seq ?_
      | refine ax_region rfl ?_
      | refine ax_cond_false rfl ?_
      | refine ax_skip ?_
      | refine ax_q (q_neq rfl rfl) ?_)
    refine ax_callf rfl rfl rfl (clone l (by omega)) ?_
    repeat (first
      | refine ax_q (q_move rfl) ?_
      | refine ax_q (q_assign rfl) ?_
      | refine ax_ops_nil ?_
      | refine ax_post_code ?_
      | refine ax_seq ?_
      | refine ax_region rfl ?_
      | refine ax_block ?_
      | refine ax_q (q_len rfl rfl rfl) ?_)
    refine ax_loop (ι := Nat) (fun k => [(8, .sl 0 0 l.length), (26, .ro (.ints .i64 draws) 0 draws.length), (27, .int .i64 (draws.length : Nat)), (28, .int .i64 (k : Nat))]) (fun k => [some ⟨3, .ints .i64 (shufGo l 0 (draws.take k))⟩])
      (fun k => k ≤ draws.length) (fun k => draws.length - k) 0 ⟨⟨rfl, rfl, rfl, rfl, trivial⟩, rfl, Nat.zero_le _⟩ ?_
    intro k hk
    repeat (first
      | refine ax_ops_nil ?_
      | refine ax_post_code ?_
      | refine ax_seq ?_
      | refine ax_region rfl ?_
      | refine ax_q (q_lss rfl rfl) ?_)
    refine ax_cond_dec rfl (fun h1 => ?_) (fun h1 => ?_)
    · have hk' : k < draws.length := by omega
      have hdk := hdr k hk'
      have hgl := shufGo_length l 0 (draws.take k)
      have hstep : shufGo l 0 (draws.take (k + 1)) = swapF (shufGo l 0 (draws.take k)) (l.length - 1 - k) (draws.getD k 0).toNat := by
        rw [take_succ_getD draws 0 k hk', shufGo_append, shufGo, shufGo, hgl]
        simp; rw [Nat.min_eq_left (by omega)]
      have hkl : (k : Int) < l.length := by split at hdl <;> omega
      have hi0 : (((l.length : Int) - 1 - k).toNat) = l.length - 1 - k := by omega
      have hi1 : l.length - 1 - k < (shufGo l 0 (draws.take k)).length := by omega
      have hi2 : (draws.getD k 0).toNat < (shufGo l 0 (draws.take k)).length := by omega
      generalize shufGo l 0 (draws.take k) = cur at *
      have hl3 : (draws.getD k 0).toNat < (cur.set ((l.length : Int) - 1 - k).toNat (cur.getD (draws.getD k 0).toNat 0)).length := by simpa using hi2
      have hl4 : ((l.length : Int) - 1 - k).toNat < cur.length := by omega
      repeat (first
        | refine ax_q (q_move rfl) ?_
        | refine ax_q (q_assign rfl) ?_
        | refine ax_q (q_loadi_rp rfl rfl rfl) ?_
        | refine ax_ops_nil ?_
        | refine ax_post_code ?_
        | refine ax_seq ?_
        | refine ax_region rfl ?_
        | refine ax_block ?_
        | refine ax_skip ?_
        | refine ax_q (q_len rfl rfl rfl) ?_
        | refine ax_q (q_sub rfl rfl (by omega)) ?_
        | refine ax_q (q_index_ro' rfl rfl rfl rfl (by first | (simp only [Nat.zero_add, Int.toNat_natCast, Int.toNat_zero]; exact rfl) | exact rfl) (by omega)) ?_)
      refine ax_regiond (by kernel_rfl) ?_
      refine ax_any_q 0 rfl (by kernel_rfl) (by kernel_rfl) (by kernel_rfl) rfl (q_move rfl) rfl ?_
      refine ax_any_q 1 rfl (by kernel_rfl) (by kernel_rfl) (by kernel_rfl) rfl (q_move rfl) rfl ?_
      refine ax_any_q 2 rfl (by kernel_rfl) (by kernel_rfl) (by kernel_rfl) rfl (q_move rfl) rfl ?_
      refine ax_any_q 3 rfl (by kernel_rfl) (by kernel_rfl) (by kernel_rfl) rfl (q_move rfl) rfl ?_
      refine ax_any_q 4 rfl (by kernel_rfl) (by kernel_rfl) (by kernel_rfl) rfl (q_move rfl) rfl ?_
      refine ax_any_q 5 rfl (by kernel_rfl) (by kernel_rfl) (by kernel_rfl) rfl (q_move rfl) rfl ?_
      refine ax_any_q 8 rfl (by kernel_rfl) (by kernel_rfl) (by kernel_rfl) rfl (q_move rfl) rfl ?_
      refine ax_any_q 9 rfl (by kernel_rfl) (by kernel_rfl) (by kernel_rfl) rfl (q_move rfl) rfl ?_
      refine ax_any_q 6 rfl (by kernel_rfl) (by kernel_rfl) (by kernel_rfl) rfl (q_index_sl' rfl rfl rfl rfl rfl (by first | (simp only [Nat.zero_add, Int.toNat_natCast, Int.toNat_zero]; exact rfl) | exact rfl) (by omega)) rfl ?_
      refine ax_any_q 10 rfl (by kernel_rfl) (by kernel_rfl) (by kernel_rfl) rfl (q_index_sl' rfl rfl rfl rfl rfl (by first | (simp only [Nat.zero_add, Int.toNat_natCast, Int.toNat_zero]; exact rfl) | exact rfl) (by omega)) rfl ?_
      refine ax_any_step (is := [7, 11]) (by kernel_rfl) (by simp) rfl ⟨fun o ho => ?_, fun o ho => ?_, trivial⟩
      all_goals (cases ho)
      · repeat (first
          | refine ax_ops_nil ?_
          | refine ax_post_any ?_
          | refine ax_q (q_loadi_ptr rfl rfl rfl rfl (by first | assumption | omega)) ?_)
        refine ax_any_step (is := [11]) (by kernel_rfl) (by simp) rfl ⟨fun o ho => ?_, trivial⟩
        all_goals (cases ho)
        repeat (first
          | refine ax_ops_nil ?_
          | refine ax_post_any ?_
          | refine ax_q (q_loadi_ptr rfl rfl rfl rfl (by first | assumption | omega)) ?_)
        refine ax_any_q 12 rfl (by kernel_rfl) (by kernel_rfl) (by kernel_rfl) rfl (q_index_sl' rfl rfl rfl rfl rfl (by first | (simp only [Nat.zero_add, Int.toNat_natCast, Int.toNat_zero]; exact rfl) | exact rfl) (by omega)) rfl ?_
        refine ax_any_step (is := [13]) (by kernel_rfl) (by simp) rfl ⟨fun o ho => ?_, trivial⟩
        all_goals (cases ho)
        repeat (first
          | refine ax_ops_nil ?_
          | refine ax_post_any ?_
          | refine ax_store rfl rfl rfl rfl rfl rfl rfl (by first | assumption | (show _ < List.length _; first | assumption | omega)) ?_)
        refine ax_any_q 14 rfl (by kernel_rfl) (by kernel_rfl) (by kernel_rfl) rfl (q_index_sl' rfl rfl rfl rfl rfl (by first | (simp only [Nat.zero_add, Int.toNat_natCast, Int.toNat_zero]; exact rfl) | exact rfl) (by omega)) rfl ?_
        refine ax_any_step (is := [15]) (by kernel_rfl) (by simp) rfl ⟨fun o ho => ?_, trivial⟩
        all_goals (cases ho)
        repeat (first
          | refine ax_ops_nil ?_
          | refine ax_post_any ?_
          | refine ax_store rfl rfl rfl rfl rfl rfl rfl (by first | assumption | (show _ < List.length _; first | assumption | omega)) ?_)
        refine ax_any_done (by kernel_rfl) ?_
        repeat (first
          | refine ax_q (q_move rfl) ?_
          | refine ax_ops_nil ?_
          | refine ax_post_code ?_
          | refine ax_region rfl ?_
          | refine ax_post_blk ?_
          | refine ax_q (q_add rfl rfl (by omega)) ?_)
        exact ax_post_inv ⟨k + 1, by omega, by omega, ⟨rfl, rfl, rfl, rfl, trivial⟩, by rw [hstep, ← hi0]; rfl⟩
      · repeat (first
          | refine ax_ops_nil ?_
          | refine ax_post_any ?_
          | refine ax_q (q_loadi_ptr rfl rfl rfl rfl (by first | assumption | omega)) ?_)
        refine ax_any_step (is := [7]) (by kernel_rfl) (by simp) rfl ⟨fun o ho => ?_, trivial⟩
        all_goals (cases ho)
        repeat (first
          | refine ax_ops_nil ?_
          | refine ax_post_any ?_
          | refine ax_q (q_loadi_ptr rfl rfl rfl rfl (by first | assumption | omega)) ?_)
        refine ax_any_q 12 rfl (by kernel_rfl) (by kernel_rfl) (by kernel_rfl) rfl (q_index_sl' rfl rfl rfl rfl rfl (by first | (simp only [Nat.zero_add, Int.toNat_natCast, Int.toNat_zero]; exact rfl) | exact rfl) (by omega)) rfl ?_
        refine ax_any_step (is := [13]) (by kernel_rfl) (by simp) rfl ⟨fun o ho => ?_, trivial⟩
        all_goals (cases ho)
        repeat (first
          | refine ax_ops_nil ?_
          | refine ax_post_any ?_
          | refine ax_store rfl rfl rfl rfl rfl rfl rfl (by first | assumption | (show _ < List.length _; first | assumption | omega)) ?_)
        refine ax_any_q 14 rfl (by kernel_rfl) (by kernel_rfl) (by kernel_rfl) rfl (q_index_sl' rfl rfl rfl rfl rfl (by first | (simp only [Nat.zero_add, Int.toNat_natCast, Int.toNat_zero]; exact rfl) | exact rfl) (by omega)) rfl ?_
        refine ax_any_step (is := [15]) (by kernel_rfl) (by simp) rfl ⟨fun o ho => ?_, trivial⟩
        all_goals (cases ho)
        repeat (first
          | refine ax_ops_nil ?_
          | refine ax_post_any ?_
          | refine ax_store rfl rfl rfl rfl rfl rfl rfl (by first | assumption | (show _ < List.length _; first | assumption | omega)) ?_)
        refine ax_any_done (by kernel_rfl) ?_
        repeat (first
          | refine ax_q (q_move rfl) ?_
          | refine ax_ops_nil ?_
          | refine ax_post_code ?_
          | refine ax_region rfl ?_
          | refine ax_post_blk ?_
          | refine ax_q (q_add rfl rfl (by omega)) ?_)
        exact ax_post_inv ⟨k + 1, by omega, by omega, ⟨rfl, rfl, rfl, rfl, trivial⟩, by rw [hstep, ← hi0]; rfl⟩
    · have hk' : k = draws.length := by omega
      subst hk'
      simp only [List.take_length] at *
      repeat (first
        | refine ax_q (q_move rfl) ?_
        | refine ax_q (q_assign rfl) ?_
        | refine ax_ops_nil ?_
        | refine ax_post_code ?_
        | refine ax_seq ?_
        | refine ax_region rfl ?_
        | refine ax_exit ?_
        | refine ax_exit_here ?_
        | refine ax_exit_code ?_
        | refine ax_exit_inv ?_
        | refine ax_return ?_)
      exact ax_ret hR rfl ⟨rfl, rfl⟩
  · rintro r H ⟨rfl, rfl⟩
    refine ⟨rfl, ⟨?_, trivial, trivial⟩, fun h o ho => refl1 refless_ints h o ho⟩
    intro o ho; simp at ho; subst ho
    show 0 + l.length ≤ (shufGo l 0 draws).length
    rw [shufGo_length]; omega
end Go.Proofs.Ytmfhdfofmdggaaa
