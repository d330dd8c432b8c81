import Derived.Test.YtmfhdfofmdggaaaR6
namespace Go.Proofs.Ytmfhdfofmdggaaa
open Go.Ax Go.Ax.Idx Go.Ax.Cd Go.Ax.Rk Go.RowKit
attribute [local irreducible] Ax Post QOp ACall
set_option maxRecDepth 100000
set_option maxHeartbeats 4000000
set_option linter.unusedSimpArgs false
set_option linter.unusedVariables false

theorem valS_range (hand : List Int) (k : Nat) (hk : k ≤ 5) : 0 ≤ valS (dgt hand) k (clsF hand) ∧ valS (dgt hand) k (clsF hand) ≤ 4000000 := by
  have h := valS_bd (dgt_bd hand) (clsF hand) k
  have hc := clsF_bd hand
  have hp : (1 : Int) ≤ 13 ^ k ∧ (13 : Int) ^ k ≤ 371293 := by
    match k, hk with
    | 0, _ => decide
    | 1, _ => decide
    | 2, _ => decide
    | 3, _ => decide
    | 4, _ => decide
    | 5, _ => decide
    | _ + 6, h => omega
  have h1 : 0 ≤ clsF hand * 13 ^ k := Int.mul_nonneg hc.1 (by omega)
  have h2 : (clsF hand + 1) * 13 ^ k ≤ 9 * 371293 := Int.mul_le_mul (by omega) hp.2 (by omega) (by omega)
  omega

theorem valueOf (l : List Int) (hl : Hand l) : VCall Try.prog 18 [.ro (.ints .i64 l) 0 l.length] (.int .i64 (valF l)) := by
  have hcl := classOf l hl
  have hvr := valS_range l
  have hdb := dgt_bd l
  obtain ⟨h5, hb⟩ := hl
  have hor := order l h5 hb
  have hol : (ordF l).length ≤ 5 := by
    have := presentR_5 l h5
    have e : (ordF l).length = (presentR (cntR cnt0 l) 13).length := (sortF_keeps _ id _).2.2
    omega
  have hst := straight (ordF l) (fun i hi => by have := ordF_mem (getD_mem 0 hi); omega) (by omega)
  have hv : valF l = valS (dgt l) 5 (clsF l) := rfl
  have hdg : dgt l = if clsF l = 8 ∨ clsF l = 4 then [strF (ordF l)] else ordF l := rfl
  refine ACall.value0 (acall_of_ax (P := Try.prog) (fn := Try.f18) rfl rfl (by kernel_rfl) rfl (fun c hR hfix => ?_)) (fix := fun _ => False) (fun _ h => h) rfl rfl
  rw [hv] at hR
  generalize strF (ordF l) = st at *
  generalize ordF l = od at *
  generalize oftF l = ot at *
  generalize clsF l = cl at *
  generalize dgt l = dg at *
  repeat (first
    | refine ax_q (q_move rfl) ?_
    | refine ax_q (q_assign rfl) ?_
    | refine ax_ops_nil ?_
    | refine ax_post_code ?_
    | refine ax_seq ?_
    | refine ax_region rfl ?_)
  refine ax_callv rfl rfl rfl hor ?_
  repeat (first
    | refine ax_q (q_move rfl) ?_
    | refine ax_q (q_assign rfl) ?_
    | refine ax_ops_nil ?_
    | refine ax_post_code ?_
    | refine ax_seq ?_
    | refine ax_region rfl ?_
    | refine ax_q (q_extract rfl rfl) ?_)
  refine ax_callv rfl rfl rfl hcl ?_
  repeat (first
    | refine ax_q (q_move rfl) ?_
    | refine ax_q (q_assign rfl) ?_
    | refine ax_ops_nil ?_
    | refine ax_post_code ?_
    | refine ax_seq ?_
    | refine ax_region rfl ?_
    | refine ax_q (q_eql rfl rfl) ?_)
  refine ax_gsplit rfl rfl (fun h8 => ?_) (fun h8 => ?_)
  · repeat (first
      | refine ax_q (q_move rfl) ?_
      | refine ax_ops_nil ?_
      | refine ax_post_code ?_
      | refine ax_region rfl ?_
      | refine ax_skip_not rfl rfl rfl ?_
      | refine ax_cond_true rfl ?_
      | refine ax_q (q_pick rfl rfl) ?_)
    refine ax_callv rfl rfl rfl hst ?_
    rw [if_pos (.inl h8)] at hdg
    repeat (first
      | refine ax_q (q_move rfl) ?_
      | refine ax_q (q_assign rfl) ?_
      | refine ax_ops_nil ?_
      | refine ax_post_code ?_
      | refine ax_seq ?_
      | refine ax_region rfl ?_
      | refine ax_block ?_
      | refine ax_buildSliceRo rfl rfl rfl rfl rfl rfl rfl rfl rfl rfl rfl ?_)
    refine ax_loop (ι := Nat) (fun i => [(3, .ro (.ints .i64 dg) 0 dg.length), (5, .int .i64 (valS dg i cl)), (23, .int .i64 (i : Nat))]) (fun _ => [])
      (fun i => i ≤ 5) (fun i => 5 - i) 0 ⟨⟨by rw [hdg]; rfl, rfl, rfl, trivial⟩, rfl, Nat.zero_le _⟩ ?_
    rintro i hi
    repeat (first
      | refine ax_ops_nil ?_
      | refine ax_post_code ?_
      | refine ax_seq ?_
      | refine ax_region rfl ?_
      | refine ax_q (q_lss rfl rfl) ?_)
    refine ax_cond_dec rfl (fun h1 => ?_) (fun h1 => ?_)
    · have hi5 : i < 5 := by omega
      have hb1 := hvr i (by omega)
      have hb2 := hvr (i + 1) (by omega)
      have hsu : valS dg (i + 1) cl = if i < dg.length then valS dg i cl * 13 + dg.getD i 0 else valS dg i cl * 13 := rfl
      repeat (first
        | refine ax_q (q_move rfl) ?_
        | refine ax_q (q_assign rfl) ?_
        | refine ax_ops_nil ?_
        | refine ax_post_code ?_
        | refine ax_seq ?_
        | refine ax_region rfl ?_
        | refine ax_block ?_
        | refine ax_skip ?_)
      refine ax_q (q_mul rfl rfl (by omega)) ?_
      repeat (first
        | refine ax_q (q_move rfl) ?_
        | refine ax_q (q_assign rfl) ?_
        | refine ax_ops_nil ?_
        | refine ax_post_code ?_
        | refine ax_seq ?_
        | refine ax_region rfl ?_
        | refine ax_q (q_lss rfl rfl) ?_
        | refine ax_q (q_len rfl rfl rfl) ?_)
      refine ax_cond_dec rfl (fun h2 => ?_) (fun h2 => ?_)
      · have hi6 : i < dg.length := by omega
        have hd := hdb i hi6
        rw [if_pos hi6] at hsu
        repeat (first
          | refine ax_q (q_move rfl) ?_
          | refine ax_q (q_assign rfl) ?_
          | refine ax_q (q_loadi_rp rfl rfl rfl) ?_
          | refine ax_ops_nil ?_
          | refine ax_post_code ?_
          | refine ax_region rfl ?_
          | refine ax_post_blk ?_
          | refine ax_q (q_add rfl rfl (by omega)) ?_
          | refine ax_q (q_index_ro' rfl rfl rfl rfl (by first | (simp only [Nat.zero_add, Int.toNat_natCast, Int.toNat_zero]; exact rfl) | exact rfl) (by omega)) ?_)
        exact ax_post_inv ⟨i + 1, by omega, by omega, ⟨rfl, by rw [show valS dg (i + 1) cl = _ from hsu]; rfl, rfl, trivial⟩, rfl⟩
      · rw [if_neg (by omega)] at hsu
        repeat (first
          | refine ax_q (q_move rfl) ?_
          | refine ax_ops_nil ?_
          | refine ax_post_code ?_
          | refine ax_region rfl ?_
          | refine ax_post_blk ?_
          | refine ax_skip ?_
          | refine ax_q (q_add rfl rfl (by omega)) ?_)
        exact ax_post_inv ⟨i + 1, by omega, by omega, ⟨rfl, by rw [show valS dg (i + 1) cl = _ from hsu]; rfl, rfl, trivial⟩, rfl⟩
    · have hi5 : i = 5 := by omega
      subst hi5
      repeat (first
        | refine ax_q (q_move rfl) ?_
        | refine ax_q (q_assign rfl) ?_
        | refine ax_ops_nil ?_
        | refine ax_post_code ?_
        | refine ax_seq ?_
        | refine ax_region rfl ?_
        | refine ax_exit ?_
        | refine ax_exit_here ?_
        | refine ax_exit_code ?_
        | refine ax_exit_inv ?_
        | refine ax_return ?_)
      exact ax_ret hR rfl rfl
  · repeat (first
      | refine ax_q (q_move rfl) ?_
      | refine ax_ops_nil ?_
      | refine ax_post_code ?_
      | refine ax_guard rfl rfl ?_
      | refine ax_q (q_eql rfl rfl) ?_
      | refine ax_q (q_pick rfl rfl) ?_)
    refine ax_cond_dec rfl (fun h4 => ?_) (fun h4 => ?_)
    · repeat (first
        | refine ax_q (q_move rfl) ?_
        | refine ax_region rfl ?_)
      refine ax_callv rfl rfl rfl hst ?_
      rw [if_pos (.inr h4)] at hdg
      repeat (first
        | refine ax_q (q_move rfl) ?_
        | refine ax_q (q_assign rfl) ?_
        | refine ax_ops_nil ?_
        | refine ax_post_code ?_
        | refine ax_seq ?_
        | refine ax_region rfl ?_
        | refine ax_block ?_
        | refine ax_buildSliceRo rfl rfl rfl rfl rfl rfl rfl rfl rfl rfl rfl ?_)
      refine ax_loop (ι := Nat) (fun i => [(3, .ro (.ints .i64 dg) 0 dg.length), (5, .int .i64 (valS dg i cl)), (23, .int .i64 (i : Nat))]) (fun _ => [])
        (fun i => i ≤ 5) (fun i => 5 - i) 0 ⟨⟨by rw [hdg]; rfl, rfl, rfl, trivial⟩, rfl, Nat.zero_le _⟩ ?_
      rintro i hi
      repeat (first
        | refine ax_ops_nil ?_
        | refine ax_post_code ?_
        | refine ax_seq ?_
        | refine ax_region rfl ?_
        | refine ax_q (q_lss rfl rfl) ?_)
      refine ax_cond_dec rfl (fun h1 => ?_) (fun h1 => ?_)
      · have hi5 : i < 5 := by omega
        have hb1 := hvr i (by omega)
        have hb2 := hvr (i + 1) (by omega)
        have hsu : valS dg (i + 1) cl = if i < dg.length then valS dg i cl * 13 + dg.getD i 0 else valS dg i cl * 13 := rfl
        repeat (first
          | refine ax_q (q_move rfl) ?_
          | refine ax_q (q_assign rfl) ?_
          | refine ax_ops_nil ?_
          | refine ax_post_code ?_
          | refine ax_seq ?_
          | refine ax_region rfl ?_
          | refine ax_block ?_
          | refine ax_skip ?_)
        refine ax_q (q_mul rfl rfl (by omega)) ?_
        repeat (first
          | refine ax_q (q_move rfl) ?_
          | refine ax_q (q_assign rfl) ?_
          | refine ax_ops_nil ?_
          | refine ax_post_code ?_
          | refine ax_seq ?_
          | refine ax_region rfl ?_
          | refine ax_q (q_lss rfl rfl) ?_
          | refine ax_q (q_len rfl rfl rfl) ?_)
        refine ax_cond_dec rfl (fun h2 => ?_) (fun h2 => ?_)
        · have hi6 : i < dg.length := by omega
          have hd := hdb i hi6
          rw [if_pos hi6] at hsu
          repeat (first
            | refine ax_q (q_move rfl) ?_
            | refine ax_q (q_assign rfl) ?_
            | refine ax_q (q_loadi_rp rfl rfl rfl) ?_
            | refine ax_ops_nil ?_
            | refine ax_post_code ?_
            | refine ax_region rfl ?_
            | refine ax_post_blk ?_
            | refine ax_q (q_add rfl rfl (by omega)) ?_
            | refine ax_q (q_index_ro' rfl rfl rfl rfl (by first | (simp only [Nat.zero_add, Int.toNat_natCast, Int.toNat_zero]; exact rfl) | exact rfl) (by omega)) ?_)
          exact ax_post_inv ⟨i + 1, by omega, by omega, ⟨rfl, by rw [show valS dg (i + 1) cl = _ from hsu]; rfl, rfl, trivial⟩, rfl⟩
        · rw [if_neg (by omega)] at hsu
          repeat (first
            | refine ax_q (q_move rfl) ?_
            | refine ax_ops_nil ?_
            | refine ax_post_code ?_
            | refine ax_region rfl ?_
            | refine ax_post_blk ?_
            | refine ax_skip ?_
            | refine ax_q (q_add rfl rfl (by omega)) ?_)
          exact ax_post_inv ⟨i + 1, by omega, by omega, ⟨rfl, by rw [show valS dg (i + 1) cl = _ from hsu]; rfl, rfl, trivial⟩, rfl⟩
      · have hi5 : i = 5 := by omega
        subst hi5
        repeat (first
          | refine ax_q (q_move rfl) ?_
          | refine ax_q (q_assign rfl) ?_
          | refine ax_ops_nil ?_
          | refine ax_post_code ?_
          | refine ax_seq ?_
          | refine ax_region rfl ?_
          | refine ax_exit ?_
          | refine ax_exit_here ?_
          | refine ax_exit_code ?_
          | refine ax_exit_inv ?_
          | refine ax_return ?_)
        exact ax_ret hR rfl rfl
    · rw [if_neg (fun h => h.elim h8 h4)] at hdg
      repeat (first
        | refine ax_q (q_move rfl) ?_
        | refine ax_ops_nil ?_
        | refine ax_post_code ?_
        | refine ax_seq ?_
        | refine ax_region rfl ?_
        | refine ax_block ?_
        | refine ax_skip ?_)
      refine ax_loop (ι := Nat) (fun i => [(3, .ro (.ints .i64 dg) 0 dg.length), (5, .int .i64 (valS dg i cl)), (23, .int .i64 (i : Nat))]) (fun _ => [])
        (fun i => i ≤ 5) (fun i => 5 - i) 0 ⟨⟨by rw [hdg]; rfl, rfl, rfl, trivial⟩, rfl, Nat.zero_le _⟩ ?_
      rintro i hi
      repeat (first
        | refine ax_ops_nil ?_
        | refine ax_post_code ?_
        | refine ax_seq ?_
        | refine ax_region rfl ?_
        | refine ax_q (q_lss rfl rfl) ?_)
      refine ax_cond_dec rfl (fun h1 => ?_) (fun h1 => ?_)
      · have hi5 : i < 5 := by omega
        have hb1 := hvr i (by omega)
        have hb2 := hvr (i + 1) (by omega)
        have hsu : valS dg (i + 1) cl = if i < dg.length then valS dg i cl * 13 + dg.getD i 0 else valS dg i cl * 13 := rfl
        repeat (first
          | refine ax_q (q_move rfl) ?_
          | refine ax_q (q_assign rfl) ?_
          | refine ax_ops_nil ?_
          | refine ax_post_code ?_
          | refine ax_seq ?_
          | refine ax_region rfl ?_
          | refine ax_block ?_
          | refine ax_skip ?_)
        refine ax_q (q_mul rfl rfl (by omega)) ?_
        repeat (first
          | refine ax_q (q_move rfl) ?_
          | refine ax_q (q_assign rfl) ?_
          | refine ax_ops_nil ?_
          | refine ax_post_code ?_
          | refine ax_seq ?_
          | refine ax_region rfl ?_
          | refine ax_q (q_lss rfl rfl) ?_
          | refine ax_q (q_len rfl rfl rfl) ?_)
        refine ax_cond_dec rfl (fun h2 => ?_) (fun h2 => ?_)
        · have hi6 : i < dg.length := by omega
          have hd := hdb i hi6
          rw [if_pos hi6] at hsu
          repeat (first
            | refine ax_q (q_move rfl) ?_
            | refine ax_q (q_assign rfl) ?_
            | refine ax_q (q_loadi_rp rfl rfl rfl) ?_
            | refine ax_ops_nil ?_
            | refine ax_post_code ?_
            | refine ax_region rfl ?_
            | refine ax_post_blk ?_
            | refine ax_q (q_add rfl rfl (by omega)) ?_
            | refine ax_q (q_index_ro' rfl rfl rfl rfl (by first | (simp only [Nat.zero_add, Int.toNat_natCast, Int.toNat_zero]; exact rfl) | exact rfl) (by omega)) ?_)
          exact ax_post_inv ⟨i + 1, by omega, by omega, ⟨rfl, by rw [show valS dg (i + 1) cl = _ from hsu]; rfl, rfl, trivial⟩, rfl⟩
        · rw [if_neg (by omega)] at hsu
          repeat (first
            | refine ax_q (q_move rfl) ?_
            | refine ax_ops_nil ?_
            | refine ax_post_code ?_
            | refine ax_region rfl ?_
            | refine ax_post_blk ?_
            | refine ax_skip ?_
            | refine ax_q (q_add rfl rfl (by omega)) ?_)
          exact ax_post_inv ⟨i + 1, by omega, by omega, ⟨rfl, by rw [show valS dg (i + 1) cl = _ from hsu]; rfl, rfl, trivial⟩, rfl⟩
      · have hi5 : i = 5 := by omega
        subst hi5
        repeat (first
          | refine ax_q (q_move rfl) ?_
          | refine ax_q (q_assign rfl) ?_
          | refine ax_ops_nil ?_
          | refine ax_post_code ?_
          | refine ax_seq ?_
          | refine ax_region rfl ?_
          | refine ax_exit ?_
          | refine ax_exit_here ?_
          | refine ax_exit_code ?_
          | refine ax_exit_inv ?_
          | refine ax_return ?_)
        exact ax_ret hR rfl rfl

theorem rcheck (l : List Int) (hl : l.length ≤ 9223372036854775807) : VCall Try.prog 16 [.ro (.ints .i64 l) 0 l.length] (.int .i64 (handE l)) := by
  refine ACall.value0 (acall_of_ax (P := Try.prog) (fn := Try.f16) rfl rfl (by kernel_rfl) rfl (fun c hR hfix => ?_)) (fix := fun _ => False) (fun _ h => h) rfl rfl
  repeat (first
    | refine ax_q (q_move rfl) ?_
    | refine ax_q (q_assign rfl) ?_
    | refine ax_ops_nil ?_
    | refine ax_post_code ?_
    | refine ax_seq ?_
    | refine ax_region rfl ?_)
  refine ax_callv rfl rfl rfl (check l hl) ?_
  repeat (first
    | refine ax_q (q_move rfl) ?_
    | refine ax_q (q_assign rfl) ?_
    | refine ax_ops_nil ?_
    | refine ax_post_code ?_
    | refine ax_seq ?_
    | refine ax_region rfl ?_
    | refine ax_q (q_neq rfl rfl) ?_)
  refine ax_cond_dec rfl (fun h => ?_) (fun h => ?_)
  · repeat (first
      | refine ax_q (q_move rfl) ?_
      | refine ax_q (q_assign rfl) ?_
      | refine ax_ops_nil ?_
      | refine ax_post_code ?_
      | refine ax_seq ?_
      | refine ax_region rfl ?_
      | refine ax_return ?_
      | refine ax_ret_code ?_)
    exact ax_ret hR rfl (by unfold handE; rw [if_pos h]; rfl)
  · repeat (first
      | refine ax_q (q_move rfl) ?_
      | refine ax_ops_nil ?_
      | refine ax_post_code ?_
      | refine ax_seq ?_
      | refine ax_region rfl ?_
      | refine ax_skip ?_
      | refine ax_q (q_neq rfl rfl) ?_
      | refine ax_q (q_len rfl rfl rfl) ?_)
    refine ax_cond_dec rfl (fun h1 => ?_) (fun h1 => ?_)
    · repeat (first
        | refine ax_q (q_assign rfl) ?_
        | refine ax_ops_nil ?_
        | refine ax_post_code ?_
        | refine ax_seq ?_
        | refine ax_region rfl ?_
        | refine ax_return ?_
        | refine ax_ret_code ?_)
      exact ax_ret hR rfl (by unfold handE; rw [if_neg h, if_pos (by omega)]; rfl)
    · repeat (first
        | refine ax_q (q_assign rfl) ?_
        | refine ax_ops_nil ?_
        | refine ax_post_code ?_
        | refine ax_seq ?_
        | refine ax_region rfl ?_
        | refine ax_skip ?_
        | refine ax_return ?_)
      exact ax_ret hR rfl (by unfold handE; rw [if_neg h, if_neg (by omega)]; rfl)

theorem hand_of {l : List Int} (h : handE l = 0) : Hand l := by
  unfold handE at h
  split at h
  · rename_i h1; exact absurd h h1
  · rename_i h1
    split at h
    · omega
    · rename_i h2
      exact ⟨by omega, fun i hi => deckF_mem (by omega) _ (getD_mem 0 hi)⟩

theorem Class_ok (l : List Int) (hl : l.length ≤ 9223372036854775807) : VCall Try.prog 7 [.ro (.ints .i64 l) 0 l.length] (.tup [.int .i64 (if handE l = 0 then clsF l else 0), .int .i64 (handE l)]) := by
  have hh := @hand_of l
  refine ACall.value0 (acall_of_ax (P := Try.prog) (fn := Try.f7) rfl rfl (by kernel_rfl) rfl (fun c hR hfix => ?_)) (fix := fun _ => False) (fun _ h => h) rfl rfl
  have hc := rcheck l hl
  generalize handE l = e at *
  repeat (first
    | refine ax_q (q_move rfl) ?_
    | refine ax_q (q_assign rfl) ?_
    | refine ax_ops_nil ?_
    | refine ax_post_code ?_
    | refine ax_seq ?_
    | refine ax_region rfl ?_)
  refine ax_callv rfl rfl rfl hc ?_
  repeat (first
    | refine ax_q (q_move rfl) ?_
    | refine ax_q (q_assign rfl) ?_
    | refine ax_ops_nil ?_
    | refine ax_post_code ?_
    | refine ax_seq ?_
    | refine ax_region rfl ?_
    | refine ax_q (q_neq rfl rfl) ?_)
  refine ax_cond_dec rfl (fun h => ?_) (fun h => ?_)
  · rw [if_neg h] at hR
    repeat (first
      | refine ax_q (q_move rfl) ?_
      | refine ax_q (q_assign rfl) ?_
      | refine ax_ops_nil ?_
      | refine ax_post_code ?_
      | refine ax_seq ?_
      | refine ax_region rfl ?_
      | refine ax_return ?_
      | refine ax_ret_code ?_)
    exact ax_ret hR rfl rfl
  · have h : e = 0 := by omega
    subst h
    rw [if_pos rfl] at hR
    repeat (first
      | refine ax_q (q_move rfl) ?_
      | refine ax_post_code ?_
      | refine ax_seq ?_
      | refine ax_region rfl ?_
      | refine ax_skip ?_)
    refine ax_callv rfl rfl rfl (classOf l (hh rfl)) ?_
    repeat (first
      | refine ax_q (q_assign rfl) ?_
      | refine ax_ops_nil ?_
      | refine ax_post_code ?_
      | refine ax_return ?_)
    exact ax_ret hR rfl rfl

theorem Value_ok (l : List Int) (hl : l.length ≤ 9223372036854775807) : VCall Try.prog 8 [.ro (.ints .i64 l) 0 l.length] (.tup [.int .i64 (if handE l = 0 then valF l else 0), .int .i64 (handE l)]) := by
  have hh := @hand_of l
  refine ACall.value0 (acall_of_ax (P := Try.prog) (fn := Try.f8) rfl rfl (by kernel_rfl) rfl (fun c hR hfix => ?_)) (fix := fun _ => False) (fun _ h => h) rfl rfl
  have hc := rcheck l hl
  generalize handE l = e at *
  repeat (first
    | refine ax_q (q_move rfl) ?_
    | refine ax_q (q_assign rfl) ?_
    | refine ax_ops_nil ?_
    | refine ax_post_code ?_
    | refine ax_seq ?_
    | refine ax_region rfl ?_)
  refine ax_callv rfl rfl rfl hc ?_
  repeat (first
    | refine ax_q (q_move rfl) ?_
    | refine ax_q (q_assign rfl) ?_
    | refine ax_ops_nil ?_
    | refine ax_post_code ?_
    | refine ax_seq ?_
    | refine ax_region rfl ?_
    | refine ax_q (q_neq rfl rfl) ?_)
  refine ax_cond_dec rfl (fun h => ?_) (fun h => ?_)
  · rw [if_neg h] at hR
    repeat (first
      | refine ax_q (q_move rfl) ?_
      | refine ax_q (q_assign rfl) ?_
      | refine ax_ops_nil ?_
      | refine ax_post_code ?_
      | refine ax_seq ?_
      | refine ax_region rfl ?_
      | refine ax_return ?_
      | refine ax_ret_code ?_)
    exact ax_ret hR rfl rfl
  · have h : e = 0 := by omega
    subst h
    rw [if_pos rfl] at hR
    repeat (first
      | refine ax_q (q_move rfl) ?_
      | refine ax_post_code ?_
      | refine ax_seq ?_
      | refine ax_region rfl ?_
      | refine ax_skip ?_)
    refine ax_callv rfl rfl rfl (valueOf l (hh rfl)) ?_
    repeat (first
      | refine ax_q (q_assign rfl) ?_
      | refine ax_ops_nil ?_
      | refine ax_post_code ?_
      | refine ax_return ?_)
    exact ax_ret hR rfl rfl
end Go.Proofs.Ytmfhdfofmdggaaa
