import Derived.Test.YtbeegiiiochblaaGreatDoorG4
set_option linter.unusedVariables false
set_option linter.unusedSimpArgs false
namespace Go.Proofs.YtbeegiiiochblaaGreatDoor
open Go.Ax Go.Ax.Bg Go.Ax.Rt Go.RowKit
attribute [local irreducible] Ax Post QOp ACall PureOp
set_option maxRecDepth 100000
set_option maxHeartbeats 4000000

theorem sum_zero {l : List (List UInt8)} (h : (sumR l).2 = 0) : l.length ≤ 256 ∧ allE l = 0 := by
  unfold sumR at h
  split at h
  · exact absurd h (by decide)
  · split at h
    · exact ⟨by omega, by assumption⟩
    · exact absurd h (by assumption)
theorem pos_zero {l : List (List UInt8)} (h : posE l = 0) : (sumR l).2 = 0 := by
  unfold posE at h
  split at h
  · exact absurd h (by decide)
  · exact h
theorem sgn_zero {q : Rat} : sgn q.num = 0 ↔ q = 0 := by
  rw [← Rat.num_eq_zero]
  unfold sgn
  split
  · omega
  · split <;> omega
theorem shares_bad (l : List (List UInt8)) (hlen : l.length ≤ 9223372036854775807) (hs : ∀ s ∈ l, s.length ≤ 9223372036854775807) (h : posE l ≠ 0) : VCall Tryz.prog 33 [.ro (.strs l) 0 l.length] (.tup [.nil, .int .i64 (posE l)]) := by
  have h1 := positive_ok l hlen hs
  generalize (sumR l).1 = q at *
  generalize posE l = e at *
  refine ACall.value0 (acall_of_ax (P := Tryz.prog) (fn := Tryz.f33) rfl rfl (by kernel_rfl) rfl (fun c hR hfix => ?_)) (fix := fun _ => False) (fun _ h => h) rfl rfl
  repeat (first
    | refine ax_q (q_move rfl) ?_
    | refine ax_q (q_assign rfl) ?_
    | refine ax_ops_nil ?_
    | refine ax_post_code ?_
    | refine ax_seq ?_
    | refine ax_region rfl ?_)
  refine ax_callv rfl rfl rfl h1 ?_
  unfold qA
  repeat (first
    | refine ax_q (q_move rfl) ?_
    | refine ax_q (q_extract rfl rfl) ?_
    | refine ax_alloc rfl rfl rfl ?_)
  refine ax_storeagg (c' := .box (cellsQ q)) rfl rfl rfl rfl rfl Nat.zero_lt_one rfl rfl (fun i' j' hi' hj' => ?_) ?_
  · rw [if_pos (Nat.lt_one_iff.1 hi')]; rfl
  repeat (first
    | refine ax_q (q_move rfl) ?_
    | refine ax_q (q_assign rfl) ?_
    | refine ax_ops_nil ?_
    | refine ax_post_code ?_
    | refine ax_seq ?_
    | refine ax_region rfl ?_
    | refine ax_q (q_neq rfl rfl) ?_)
  refine ax_cond_dec rfl (fun h0 => ?_) (fun h0 => absurd h h0)
  repeat (first
    | refine ax_q (q_move rfl) ?_
    | refine ax_q (q_assign rfl) ?_
    | refine ax_ops_nil ?_
    | refine ax_post_code ?_
    | refine ax_seq ?_
    | refine ax_region rfl ?_
    | refine ax_return ?_
    | refine ax_ret_code ?_)
  exact ax_ret hR rfl rfl
theorem shares_zero (l : List (List UInt8)) (hlen : l.length ≤ 9223372036854775807) (hs : ∀ s ∈ l, s.length ≤ 9223372036854775807) (h : posE l = 0) (h0 : (sumR l).1 = 0) : VCall Tryz.prog 33 [.ro (.strs l) 0 l.length] (.tup [.nil, .int .i64 18]) := by
  have h1 := positive_ok l hlen hs
  have h2 := qsign_ok (sumR l).1
  rw [sgn_zero.2 h0] at h2
  rw [h] at h1
  generalize (sumR l).1 = q at *
  refine ACall.value0 (acall_of_ax (P := Tryz.prog) (fn := Tryz.f33) rfl rfl (by kernel_rfl) rfl (fun c hR hfix => ?_)) (fix := fun _ => False) (fun _ h => h) rfl rfl
  repeat (first
    | refine ax_q (q_move rfl) ?_
    | refine ax_q (q_assign rfl) ?_
    | refine ax_ops_nil ?_
    | refine ax_post_code ?_
    | refine ax_seq ?_
    | refine ax_region rfl ?_)
  refine ax_callv rfl rfl rfl h1 ?_
  unfold qA
  repeat (first
    | refine ax_q (q_move rfl) ?_
    | refine ax_q (q_extract rfl rfl) ?_
    | refine ax_alloc rfl rfl rfl ?_)
  refine ax_storeagg (c' := .box (cellsQ q)) rfl rfl rfl rfl rfl Nat.zero_lt_one rfl rfl (fun i' j' hi' hj' => ?_) ?_
  · rw [if_pos (Nat.lt_one_iff.1 hi')]; rfl
  repeat (first
    | refine ax_q (q_move rfl) ?_
    | refine ax_q (q_assign rfl) ?_
    | refine ax_ops_nil ?_
    | refine ax_post_code ?_
    | refine ax_seq ?_
    | refine ax_region rfl ?_
    | refine ax_cond_false rfl ?_
    | refine ax_skip ?_
    | refine ax_q (q_neq rfl rfl) ?_
    | refine ax_q (q_loadpart_ptr rfl rfl rfl rfl rfl rfl rfl (by first | exact Nat.zero_lt_one | assumption | omega)) ?_)
  refine ax_callv rfl rfl rfl h2 ?_
  repeat (first
    | refine ax_q (q_assign rfl) ?_
    | refine ax_ops_nil ?_
    | refine ax_post_code ?_
    | refine ax_seq ?_
    | refine ax_region rfl ?_
    | refine ax_cond_true rfl ?_
    | refine ax_return ?_
    | refine ax_ret_code ?_
    | refine ax_q (q_eql rfl rfl) ?_)
  exact ax_ret hR rfl rfl
theorem best_ok (l : List (List UInt8)) (hlen : l.length ≤ 9223372036854775807) (hs : ∀ s ∈ l, s.length ≤ 9223372036854775807) : VCall Tryz.prog 36 [.ro (.strs l) 0 l.length] (.tup [.int .i64 (bestR l).1, .int .i64 (bestR l).2]) := by
  unfold bestR
  have h1 := checkAll_ok l hlen hs
  by_cases hl : 256 < l.length
  · rw [if_pos hl]
    refine ACall.value0 (acall_of_ax (P := Tryz.prog) (fn := Tryz.f36) rfl rfl (by kernel_rfl) rfl (fun c hR hfix => ?_)) (fix := fun _ => False) (fun _ h => h) rfl rfl
    repeat (first
      | refine ax_q (q_move rfl) ?_
      | refine ax_q (q_assign rfl) ?_
      | refine ax_ops_nil ?_
      | refine ax_post_code ?_
      | refine ax_seq ?_
      | refine ax_region rfl ?_
      | refine ax_q (q_gtr rfl rfl) ?_
      | refine ax_q (q_len rfl rfl rfl) ?_)
    refine ax_cond_dec rfl (fun h0 => ?_) (fun h0 => absurd hl (by omega))
    repeat (first
      | refine ax_q (q_assign rfl) ?_
      | refine ax_ops_nil ?_
      | refine ax_post_code ?_
      | refine ax_seq ?_
      | refine ax_region rfl ?_
      | refine ax_return ?_
      | refine ax_ret_code ?_)
    exact ax_ret hR rfl rfl
  rw [if_neg hl]
  by_cases hn : l = []
  · rw [if_pos hn]
    subst hn
    refine ACall.value0 (acall_of_ax (P := Tryz.prog) (fn := Tryz.f36) rfl rfl (by kernel_rfl) rfl (fun c hR hfix => ?_)) (fix := fun _ => False) (fun _ h => h) rfl rfl
    repeat (first
      | refine ax_q (q_move rfl) ?_
      | refine ax_q (q_assign rfl) ?_
      | refine ax_ops_nil ?_
      | refine ax_post_code ?_
      | refine ax_seq ?_
      | refine ax_region rfl ?_
      | refine ax_cond_true rfl ?_
      | refine ax_cond_false rfl ?_
      | refine ax_skip ?_
      | refine ax_return ?_
      | refine ax_ret_code ?_
      | refine ax_q (q_eql rfl rfl) ?_
      | refine ax_q (q_gtr rfl rfl) ?_
      | refine ax_q (q_len rfl rfl rfl) ?_)
    exact ax_ret hR rfl rfl
  rw [if_neg hn]
  have hpos : 0 < l.length := List.length_pos_iff.2 hn
  by_cases hE : allE l = 0
  · rw [if_pos hE]
    rw [hE] at h1
    have h4 := in_ok l (by omega) (fun s hm => ⟨hs s hm, allE_mem hE s hm⟩)
    have hz : ∀ q ∈ l.map ratV, Sz 2000 q := fun q hq => by
      obtain ⟨s, h3, rfl⟩ := List.mem_map.1 hq
      exact sz_v (allE_mem hE s h3)
    have hml : (l.map ratV).length = l.length := List.length_map _
    generalize l.map ratV = qs at *
    refine ACall.value0 (acall_of_ax (P := Tryz.prog) (fn := Tryz.f36) rfl rfl (by kernel_rfl) rfl (fun c hR hfix => ?_)) (fix := fun _ => False) (fun _ h => h) rfl rfl
    repeat (first
      | refine ax_q (q_move rfl) ?_
      | refine ax_q (q_assign rfl) ?_
      | refine ax_ops_nil ?_
      | refine ax_post_code ?_
      | refine ax_seq ?_
      | refine ax_region rfl ?_
      | refine ax_q (q_gtr rfl rfl) ?_
      | refine ax_q (q_len rfl rfl rfl) ?_)
    refine ax_cond_dec rfl (fun h0 => absurd hl (by omega)) (fun h0 => ?_)
    repeat (first
      | refine ax_q (q_move rfl) ?_
      | refine ax_ops_nil ?_
      | refine ax_post_code ?_
      | refine ax_seq ?_
      | refine ax_region rfl ?_
      | refine ax_skip ?_
      | refine ax_q (q_eql rfl rfl) ?_
      | refine ax_q (q_len rfl rfl rfl) ?_)
    refine ax_cond_dec rfl (fun h0 => absurd hpos (by omega)) (fun h0 => ?_)
    repeat (first
      | refine ax_q (q_move rfl) ?_
      | refine ax_post_code ?_
      | refine ax_seq ?_
      | refine ax_region rfl ?_
      | refine ax_skip ?_)
    refine ax_callv rfl rfl rfl h1 ?_
    repeat (first
      | refine ax_q (q_move rfl) ?_
      | refine ax_q (q_assign rfl) ?_
      | refine ax_ops_nil ?_
      | refine ax_post_code ?_
      | refine ax_seq ?_
      | refine ax_region rfl ?_
      | refine ax_cond_false rfl ?_
      | refine ax_skip ?_
      | refine ax_q (q_neq rfl rfl) ?_)
    refine ax_callv rfl rfl rfl h4 ?_
    repeat (first
      | refine ax_q (q_move rfl) ?_
      | refine ax_q (q_assign rfl) ?_
      | refine ax_ops_nil ?_
      | refine ax_post_code ?_
      | refine ax_seq ?_
      | refine ax_region rfl ?_
      | refine ax_block ?_
      | refine ax_q (q_len rfl rfl rfl) ?_)
    refine ax_loop (ι := Nat) (fun k => [(5, .ro (qsC qs) 0 l.length), (6, .int .i64 (bestK qs k : Nat)), (22, .ro (qsC qs) 0 l.length), (23, .int .i64 (l.length : Nat)), (24, .int .i64 (k : Nat))]) (fun _ => [])
      (fun k => k ≤ l.length) (fun k => l.length - k) 0 ⟨⟨rfl, rfl, rfl, rfl, rfl, trivial⟩, rfl, Nat.zero_le _⟩ ?_
    intro k hk
    repeat (first
      | refine ax_ops_nil ?_
      | refine ax_post_code ?_
      | refine ax_seq ?_
      | refine ax_region rfl ?_
      | refine ax_q (q_lss rfl rfl) ?_)
    refine ax_cond_dec rfl (fun h => ?_) (fun h => ?_)
    · have hk' : k < qs.length := by omega
      have hbk := bestK_le qs k
      have hbl : bestK qs k < l.length := by omega
      have hq := hz _ (getD_mem 0 hk')
      have hb := hz _ (getD_mem 0 (show bestK qs k < qs.length by omega))
      have hc := qcmp_ok (qs.getD k 0) (qs.getD (bestK qs k) 0) (hq.mono (by decide)) (hb.mono (by decide))
      have hstep : bestK qs (k + 1) = if 0 < cmpQ (qs.getD k 0) (qs.getD (bestK qs k) 0) then k else bestK qs k := rfl
      generalize bestK qs k = j at *
      generalize cmpQ (qs.getD k 0) (qs.getD j 0) = t at *
      repeat (first
        | refine ax_q (q_move rfl) ?_
        | refine ax_q (q_assign rfl) ?_
        | refine ax_post_code ?_
        | refine ax_seq ?_
        | refine ax_region rfl ?_
        | refine ax_block ?_
        | refine ax_skip ?_
        | refine ax_q (q_index_ro' rfl rfl rfl rfl (by first | (simp only [Nat.zero_add, Int.toNat_natCast, Int.toNat_zero]; exact rfl) | exact rfl) (by omega)) ?_
        | refine ax_q (q_loadagg_rp rfl rfl rfl rfl rfl rfl) ?_
        | refine ax_alloc rfl rfl rfl ?_)
      refine ax_slot_ops 28 (.agg (cellsQ (qs.getD k 0))) rfl (AEq.of_eq rfl) ?_
      refine ax_storeagg (c' := .box (cellsQ (qs.getD k 0))) rfl rfl rfl rfl rfl Nat.zero_lt_one rfl rfl (fun i' j' hi' hj' => ?_) ?_
      · rw [if_pos (Nat.lt_one_iff.1 hi')]; rfl
      repeat (first
        | refine ax_ops_nil ?_
        | refine ax_post_code ?_
        | refine ax_seq ?_)
      refine ax_regiond (by kernel_rfl) ?_
      refine ax_any_run (fuel := 0) [0, 1, 2, 3, 4, 5, 6] [(5, .ro (qsC qs) 0 l.length), (6, .int .i64 (j : Nat)), (7, .int .i64 (k : Nat)), (8, .ptr 0 0 0), (22, .ro (qsC qs) 0 l.length), (23, .int .i64 (l.length : Nat)), (24, .int .i64 (k : Nat))] ⟨rfl, rfl, rfl, rfl, rfl, rfl, rfl, trivial⟩ (by kernel_rfl) (by decide) rfl rfl ?_
      refine px_q rfl rfl (q_loadpart_ptr rfl rfl rfl rfl rfl rfl rfl (by first | exact Nat.zero_lt_one | assumption | omega)) ?_
      refine px_q rfl rfl (q_move rfl) ?_
      refine px_q rfl rfl (q_move rfl) ?_
      refine px_q rfl rfl (q_index_ro' rfl rfl rfl rfl (by first | (simp only [Nat.zero_add, Int.toNat_natCast, Int.toNat_zero]; exact rfl) | exact rfl) (by omega)) ?_
      refine px_q rfl rfl (q_loadagg_rp rfl rfl rfl rfl rfl rfl) ?_
      refine px_v rfl rfl rfl rfl rfl hc ?_
      refine px_q rfl rfl (q_gtr rfl rfl) ?_
      refine px_done ?_
      refine ax_any_done (by kernel_rfl) ?_
      repeat (refine ax_post_code ?_)
      refine ax_cond_dec rfl (fun h5 => ?_) (fun h5 => ?_)
      · rw [if_pos h5] at hstep
        repeat (first
          | refine ax_q (q_move rfl) ?_
          | refine ax_q (q_assign rfl) ?_
          | refine ax_ops_nil ?_
          | refine ax_region rfl ?_
          | refine ax_post_blk ?_)
        refine ax_post_code ?_
        refine ax_heap ([] ++ [none]) ?_ ?_
        · exact HSub.drop HSub.nil
        refine ax_drop (H1 := []) rfl (by rw [hfix]; exact fun h => h) ?_
        repeat (first
          | refine ax_q (q_move rfl) ?_
          | refine ax_ops_nil ?_
          | refine ax_region rfl ?_
          | refine ax_q (q_add rfl rfl (by omega)) ?_)
        exact ax_post_inv ⟨k + 1, by omega, by omega, ⟨rfl, (by show _ = some (AV.int .i64 ((bestK qs (k + 1) : Nat) : Int)); rw [hstep]; rfl), rfl, rfl, rfl, trivial⟩, rfl⟩
      · rw [if_neg h5] at hstep
        repeat (first
          | refine ax_post_blk ?_
          | refine ax_skip ?_)
        refine ax_post_code ?_
        refine ax_heap ([] ++ [none]) ?_ ?_
        · exact HSub.drop HSub.nil
        refine ax_drop (H1 := []) rfl (by rw [hfix]; exact fun h => h) ?_
        repeat (first
          | refine ax_q (q_move rfl) ?_
          | refine ax_ops_nil ?_
          | refine ax_region rfl ?_
          | refine ax_q (q_add rfl rfl (by omega)) ?_)
        exact ax_post_inv ⟨k + 1, by omega, by omega, ⟨rfl, (by show _ = some (AV.int .i64 ((bestK qs (k + 1) : Nat) : Int)); rw [hstep]; rfl), rfl, rfl, rfl, trivial⟩, rfl⟩
    · have hk' : k = l.length := by omega
      subst hk'
      repeat (first
        | refine ax_q (q_move rfl) ?_
        | refine ax_q (q_assign rfl) ?_
        | refine ax_ops_nil ?_
        | refine ax_post_code ?_
        | refine ax_seq ?_
        | refine ax_region rfl ?_
        | refine ax_exit ?_
        | refine ax_exit_here ?_
        | refine ax_exit_code ?_
        | refine ax_exit_inv ?_
        | refine ax_return ?_)
      exact ax_ret hR rfl rfl
  · rw [if_neg hE]
    generalize allE l = e at *
    refine ACall.value0 (acall_of_ax (P := Tryz.prog) (fn := Tryz.f36) rfl rfl (by kernel_rfl) rfl (fun c hR hfix => ?_)) (fix := fun _ => False) (fun _ h => h) rfl rfl
    repeat (first
      | refine ax_q (q_move rfl) ?_
      | refine ax_q (q_assign rfl) ?_
      | refine ax_ops_nil ?_
      | refine ax_post_code ?_
      | refine ax_seq ?_
      | refine ax_region rfl ?_
      | refine ax_q (q_gtr rfl rfl) ?_
      | refine ax_q (q_len rfl rfl rfl) ?_)
    refine ax_cond_dec rfl (fun h0 => absurd hl (by omega)) (fun h0 => ?_)
    repeat (first
      | refine ax_q (q_move rfl) ?_
      | refine ax_ops_nil ?_
      | refine ax_post_code ?_
      | refine ax_seq ?_
      | refine ax_region rfl ?_
      | refine ax_skip ?_
      | refine ax_q (q_eql rfl rfl) ?_
      | refine ax_q (q_len rfl rfl rfl) ?_)
    refine ax_cond_dec rfl (fun h0 => absurd hpos (by omega)) (fun h0 => ?_)
    repeat (first
      | refine ax_q (q_move rfl) ?_
      | refine ax_post_code ?_
      | refine ax_seq ?_
      | refine ax_region rfl ?_
      | refine ax_skip ?_)
    refine ax_callv rfl rfl rfl h1 ?_
    repeat (first
      | refine ax_q (q_move rfl) ?_
      | refine ax_q (q_assign rfl) ?_
      | refine ax_ops_nil ?_
      | refine ax_post_code ?_
      | refine ax_seq ?_
      | refine ax_region rfl ?_
      | refine ax_q (q_neq rfl rfl) ?_)
    refine ax_cond_dec rfl (fun h2 => ?_) (fun h2 => absurd hE h2)
    repeat (first
      | refine ax_q (q_move rfl) ?_
      | refine ax_q (q_assign rfl) ?_
      | refine ax_ops_nil ?_
      | refine ax_post_code ?_
      | refine ax_seq ?_
      | refine ax_region rfl ?_
      | refine ax_return ?_
      | refine ax_ret_code ?_)
    exact ax_ret hR rfl rfl
theorem shares_yes (l : List (List UInt8)) (hlen : l.length ≤ 9223372036854775807) (hs : ∀ s ∈ l, s.length ≤ 9223372036854775807) (h : posE l = 0) (h0 : (sumR l).1 ≠ 0) (hall : ((l.map ratV).map (fun q => q / (sumR l).1)).all fitB = true) : VCall Tryz.prog 33 [.ro (.strs l) 0 l.length] (.tup [.ro (.strs (((l.map ratV).map (fun q => q / (sumR l).1)).map textQ)) 0 l.length, .int .i64 0]) := by
  have h1 := positive_ok l hlen hs
  have h2 := qsign_ok (sumR l).1
  have h3 : ¬ sgn (sumR l).1.num = 0 := fun e => h0 (sgn_zero.1 e)
  obtain ⟨b1, b2⟩ := sum_zero (pos_zero h)
  have h4 := in_ok l (by omega) (fun s hm => ⟨hs s hm, allE_mem b2 s hm⟩)
  have hz : ∀ q ∈ l.map ratV, Sz 2000 q := fun q hq => by
    obtain ⟨s, h3, rfl⟩ := List.mem_map.1 hq
    exact sz_v (allE_mem b2 s h3)
  have hml : (l.map ratV).length = l.length := List.length_map _
  have hsz := sumR_sz l
  rw [h] at h1
  generalize l.map ratV = qs at *
  generalize (sumR l).1 = s at *
  have h5 := outAll_yes (qs.map (fun q => q / s)) (by rw [List.length_map]; omega) (fun q hq => by
    obtain ⟨x, h6, rfl⟩ := List.mem_map.1 hq
    exact (sz_div ((hz x h6).mono (by decide)) hsz h0).mono (by decide)) hall
  rw [List.length_map, hml] at h5
  refine ACall.value0 (acall_of_ax (P := Tryz.prog) (fn := Tryz.f33) rfl rfl (by kernel_rfl) rfl (fun c hR hfix => ?_)) (fix := fun _ => False) (fun _ h => h) rfl rfl
  repeat (first
    | refine ax_q (q_move rfl) ?_
    | refine ax_q (q_assign rfl) ?_
    | refine ax_ops_nil ?_
    | refine ax_post_code ?_
    | refine ax_seq ?_
    | refine ax_region rfl ?_)
  refine ax_callv rfl rfl rfl h1 ?_
  unfold qA
  repeat (first
    | refine ax_q (q_move rfl) ?_
    | refine ax_q (q_extract rfl rfl) ?_
    | refine ax_alloc rfl rfl rfl ?_)
  refine ax_storeagg (c' := .box (cellsQ s)) rfl rfl rfl rfl rfl Nat.zero_lt_one rfl rfl (fun i' j' hi' hj' => ?_) ?_
  · rw [if_pos (Nat.lt_one_iff.1 hi')]; rfl
  repeat (first
    | refine ax_q (q_move rfl) ?_
    | refine ax_q (q_assign rfl) ?_
    | refine ax_ops_nil ?_
    | refine ax_post_code ?_
    | refine ax_seq ?_
    | refine ax_region rfl ?_
    | refine ax_cond_false rfl ?_
    | refine ax_skip ?_
    | refine ax_q (q_neq rfl rfl) ?_
    | refine ax_q (q_loadpart_ptr rfl rfl rfl rfl rfl rfl rfl (by first | exact Nat.zero_lt_one | assumption | omega)) ?_)
  refine ax_callv rfl rfl rfl h2 ?_
  repeat (first
    | refine ax_ops_nil ?_
    | refine ax_post_code ?_
    | refine ax_q (q_eql rfl rfl) ?_)
  refine ax_cond_dec rfl (fun h7 => absurd h7 h3) (fun h7 => ?_)
  repeat (first
    | refine ax_q (q_move rfl) ?_
    | refine ax_q (q_assign rfl) ?_
    | refine ax_ops_nil ?_
    | refine ax_post_code ?_
    | refine ax_seq ?_
    | refine ax_region rfl ?_
    | refine ax_skip ?_)
  refine ax_callv rfl rfl rfl h4 ?_
  repeat (first
    | refine ax_q (q_move rfl) ?_
    | refine ax_ops_nil ?_
    | refine ax_post_code ?_
    | refine ax_q (q_len rfl rfl rfl) ?_)
  refine ax_nilobj 6 ⟨79, qsC []⟩ rfl rfl ?_
  repeat (refine ax_block ?_)
  refine ax_loop (ι := Nat) (fun k => [(4, .ptr 0 0 0), (6, .sl 1 0 k), (21, .ro (qsC qs) 0 l.length), (22, .int .i64 (l.length : Nat)), (23, .int .i64 (k : Nat))]) (fun k => [some ⟨79, .box (cellsQ s)⟩, some ⟨79, qsC ((qs.take k).map (fun q => q / s))⟩])
    (fun k => k ≤ l.length) (fun k => l.length - k) 0 ⟨⟨rfl, rfl, rfl, rfl, rfl, trivial⟩, rfl, Nat.zero_le _⟩ ?_
  intro k hk
  repeat (first
    | refine ax_ops_nil ?_
    | refine ax_post_code ?_
    | refine ax_seq ?_
    | refine ax_region rfl ?_
    | refine ax_q (q_lss rfl rfl) ?_)
  refine ax_cond_dec rfl (fun h => ?_) (fun h => ?_)
  · have hk' : k < qs.length := by omega
    have hq := hz _ (getD_mem 0 hk')
    have htk := map_take_succ (fun q => q / s) qs 0 k hk'
    have hml2 : ((qs.take k).map (fun q => q / s)).length = k := by rw [List.length_map, List.length_take]; omega
    generalize (qs.take k).map (fun q => q / s) = ds at *
    repeat (first
      | refine ax_post_code ?_
      | refine ax_seq ?_
      | refine ax_region rfl ?_
      | refine ax_block ?_
      | refine ax_skip ?_
      | refine ax_q (q_index_ro' rfl rfl rfl rfl (by first | (simp only [Nat.zero_add, Int.toNat_natCast, Int.toNat_zero]; exact rfl) | exact rfl) (by omega)) ?_
      | refine ax_q (q_loadagg_rp rfl rfl rfl rfl rfl rfl) ?_
      | refine ax_alloc rfl rfl rfl ?_)
    refine ax_slot_ops 26 (.agg (cellsQ (qs.getD k 0))) rfl (AEq.of_eq rfl) ?_
    generalize qs.getD k 0 = q at *
    have hc := qdiv_ok q s (hq.mono (by decide)) (hsz.mono (by decide)) h0
    refine ax_storeagg (c' := .box (cellsQ q)) rfl rfl rfl rfl rfl Nat.zero_lt_one rfl rfl (fun i' j' hi' hj' => ?_) ?_
    · rw [if_pos (Nat.lt_one_iff.1 hi')]; rfl
    repeat (first
      | refine ax_q (q_move rfl) ?_
      | refine ax_ops_nil ?_
      | refine ax_post_code ?_
      | refine ax_region rfl ?_
      | refine ax_q (q_loadpart_ptr rfl rfl rfl rfl rfl rfl rfl (by first | exact Nat.zero_lt_one | assumption | omega)) ?_)
    refine ax_callv rfl rfl rfl hc ?_
    unfold qA
    repeat (refine ax_buildSliceRo rfl rfl rfl rfl rfl rfl rfl rfl rfl rfl rfl ?_)
    refine ax_append rfl rfl rfl rfl rfl rfl rfl rfl rfl hml2 rfl rfl (by show 0 + 1 ≤ 1; omega) rfl (by show (k + 1) * 56 ≤ _ ∧ _; omega) ?_ (by rw [hfix]; exact fun h => h) ?_
    · intro i' j hi hj
      exact rowE_noref 0 3 cellsQ cellsQ_noref ds (q / s) _ (rowQ1 _) 1 i' j hi hj
    repeat (first
      | refine ax_q (q_assign rfl) ?_
      | refine ax_ops_nil ?_
      | refine ax_post_blk ?_)
    refine ax_post_code ?_
    refine ax_heap ([some ⟨79, .box (cellsQ s)⟩, some ⟨79, qsC ((qs.take (k + 1)).map (fun q => q / s))⟩] ++ [none]) ?_ ?_
    · rw [htk]
      exact HSub.eqv (CEq.refl _) (HSub.eqv (rowE_snoc 0 3 cellsQ ds (q / s) _ (rowQ1 _)) (HSub.drop HSub.nil))
    refine ax_drop (H1 := [some ⟨79, .box (cellsQ s)⟩, some ⟨79, qsC ((qs.take (k + 1)).map (fun q => q / s))⟩]) rfl (by rw [hfix]; exact fun h => h) ?_
    refine ax_heap [some ⟨79, .box (cellsQ s)⟩, some ⟨79, qsC ((qs.take (k + 1)).map (fun q => q / s))⟩] ?_ ?_
    · exact HSub.eqv (CEq.refl _) (HSub.eqv ⟨rfl, rfl, fun i j _ hj => (cellsQ_noref _ j _ hj).symm⟩ HSub.nil)
    repeat (first
      | refine ax_q (q_move rfl) ?_
      | refine ax_ops_nil ?_
      | refine ax_region rfl ?_
      | refine ax_q (q_add rfl rfl (by omega)) ?_)
    exact ax_post_inv ⟨k + 1, by omega, by omega, ⟨rfl, rfl, rfl, rfl, rfl, trivial⟩, rfl⟩
  · have hk' : k = l.length := by omega
    subst hk'
    rw [List.take_of_length_le (by omega)]
    repeat (first
      | refine ax_post_code ?_
      | refine ax_seq ?_
      | refine ax_exit ?_
      | refine ax_exit_here ?_
      | refine ax_exit_code ?_
      | refine ax_exit_inv ?_)
    refine ax_give_code 1 6 l.length [] rfl (refless_qs _) rfl (by show _ ≤ (qs.map (fun q => q / s)).length; rw [List.length_map]; omega) trivial ?_
    repeat (first
      | refine ax_q (q_move rfl) ?_
      | refine ax_region rfl ?_)
    refine ax_callv rfl rfl rfl h5 ?_
    repeat (first
      | refine ax_q (q_assign rfl) ?_
      | refine ax_ops_nil ?_
      | refine ax_post_code ?_
      | refine ax_return ?_
      | refine ax_q (q_extract rfl rfl) ?_)
    exact ax_ret hR rfl rfl
theorem shares_no (l : List (List UInt8)) (hlen : l.length ≤ 9223372036854775807) (hs : ∀ s ∈ l, s.length ≤ 9223372036854775807) (h : posE l = 0) (h0 : (sumR l).1 ≠ 0) (hall : ((l.map ratV).map (fun q => q / (sumR l).1)).all fitB = false) : VCall Tryz.prog 33 [.ro (.strs l) 0 l.length] (.tup [.nil, .int .i64 2]) := by
  have h1 := positive_ok l hlen hs
  have h2 := qsign_ok (sumR l).1
  have h3 : ¬ sgn (sumR l).1.num = 0 := fun e => h0 (sgn_zero.1 e)
  obtain ⟨b1, b2⟩ := sum_zero (pos_zero h)
  have h4 := in_ok l (by omega) (fun s hm => ⟨hs s hm, allE_mem b2 s hm⟩)
  have hz : ∀ q ∈ l.map ratV, Sz 2000 q := fun q hq => by
    obtain ⟨s, h3, rfl⟩ := List.mem_map.1 hq
    exact sz_v (allE_mem b2 s h3)
  have hml : (l.map ratV).length = l.length := List.length_map _
  have hsz := sumR_sz l
  rw [h] at h1
  generalize l.map ratV = qs at *
  generalize (sumR l).1 = s at *
  have h5 := outAll_no (qs.map (fun q => q / s)) (by rw [List.length_map]; omega) (fun q hq => by
    obtain ⟨x, h6, rfl⟩ := List.mem_map.1 hq
    exact (sz_div ((hz x h6).mono (by decide)) hsz h0).mono (by decide)) hall
  rw [List.length_map, hml] at h5
  refine ACall.value0 (acall_of_ax (P := Tryz.prog) (fn := Tryz.f33) rfl rfl (by kernel_rfl) rfl (fun c hR hfix => ?_)) (fix := fun _ => False) (fun _ h => h) rfl rfl
  repeat (first
    | refine ax_q (q_move rfl) ?_
    | refine ax_q (q_assign rfl) ?_
    | refine ax_ops_nil ?_
    | refine ax_post_code ?_
    | refine ax_seq ?_
    | refine ax_region rfl ?_)
  refine ax_callv rfl rfl rfl h1 ?_
  unfold qA
  repeat (first
    | refine ax_q (q_move rfl) ?_
    | refine ax_q (q_extract rfl rfl) ?_
    | refine ax_alloc rfl rfl rfl ?_)
  refine ax_storeagg (c' := .box (cellsQ s)) rfl rfl rfl rfl rfl Nat.zero_lt_one rfl rfl (fun i' j' hi' hj' => ?_) ?_
  · rw [if_pos (Nat.lt_one_iff.1 hi')]; rfl
  repeat (first
    | refine ax_q (q_move rfl) ?_
    | refine ax_q (q_assign rfl) ?_
    | refine ax_ops_nil ?_
    | refine ax_post_code ?_
    | refine ax_seq ?_
    | refine ax_region rfl ?_
    | refine ax_cond_false rfl ?_
    | refine ax_skip ?_
    | refine ax_q (q_neq rfl rfl) ?_
    | refine ax_q (q_loadpart_ptr rfl rfl rfl rfl rfl rfl rfl (by first | exact Nat.zero_lt_one | assumption | omega)) ?_)
  refine ax_callv rfl rfl rfl h2 ?_
  repeat (first
    | refine ax_ops_nil ?_
    | refine ax_post_code ?_
    | refine ax_q (q_eql rfl rfl) ?_)
  refine ax_cond_dec rfl (fun h7 => absurd h7 h3) (fun h7 => ?_)
  repeat (first
    | refine ax_q (q_move rfl) ?_
    | refine ax_q (q_assign rfl) ?_
    | refine ax_ops_nil ?_
    | refine ax_post_code ?_
    | refine ax_seq ?_
    | refine ax_region rfl ?_
    | refine ax_skip ?_)
  refine ax_callv rfl rfl rfl h4 ?_
  repeat (first
    | refine ax_q (q_move rfl) ?_
    | refine ax_ops_nil ?_
    | refine ax_post_code ?_
    | refine ax_q (q_len rfl rfl rfl) ?_)
  refine ax_nilobj 6 ⟨79, qsC []⟩ rfl rfl ?_
  repeat (refine ax_block ?_)
  refine ax_loop (ι := Nat) (fun k => [(4, .ptr 0 0 0), (6, .sl 1 0 k), (21, .ro (qsC qs) 0 l.length), (22, .int .i64 (l.length : Nat)), (23, .int .i64 (k : Nat))]) (fun k => [some ⟨79, .box (cellsQ s)⟩, some ⟨79, qsC ((qs.take k).map (fun q => q / s))⟩])
    (fun k => k ≤ l.length) (fun k => l.length - k) 0 ⟨⟨rfl, rfl, rfl, rfl, rfl, trivial⟩, rfl, Nat.zero_le _⟩ ?_
  intro k hk
  repeat (first
    | refine ax_ops_nil ?_
    | refine ax_post_code ?_
    | refine ax_seq ?_
    | refine ax_region rfl ?_
    | refine ax_q (q_lss rfl rfl) ?_)
  refine ax_cond_dec rfl (fun h => ?_) (fun h => ?_)
  · have hk' : k < qs.length := by omega
    have hq := hz _ (getD_mem 0 hk')
    have htk := map_take_succ (fun q => q / s) qs 0 k hk'
    have hml2 : ((qs.take k).map (fun q => q / s)).length = k := by rw [List.length_map, List.length_take]; omega
    generalize (qs.take k).map (fun q => q / s) = ds at *
    repeat (first
      | refine ax_post_code ?_
      | refine ax_seq ?_
      | refine ax_region rfl ?_
      | refine ax_block ?_
      | refine ax_skip ?_
      | refine ax_q (q_index_ro' rfl rfl rfl rfl (by first | (simp only [Nat.zero_add, Int.toNat_natCast, Int.toNat_zero]; exact rfl) | exact rfl) (by omega)) ?_
      | refine ax_q (q_loadagg_rp rfl rfl rfl rfl rfl rfl) ?_
      | refine ax_alloc rfl rfl rfl ?_)
    refine ax_slot_ops 26 (.agg (cellsQ (qs.getD k 0))) rfl (AEq.of_eq rfl) ?_
    generalize qs.getD k 0 = q at *
    have hc := qdiv_ok q s (hq.mono (by decide)) (hsz.mono (by decide)) h0
    refine ax_storeagg (c' := .box (cellsQ q)) rfl rfl rfl rfl rfl Nat.zero_lt_one rfl rfl (fun i' j' hi' hj' => ?_) ?_
    · rw [if_pos (Nat.lt_one_iff.1 hi')]; rfl
    repeat (first
      | refine ax_q (q_move rfl) ?_
      | refine ax_ops_nil ?_
      | refine ax_post_code ?_
      | refine ax_region rfl ?_
      | refine ax_q (q_loadpart_ptr rfl rfl rfl rfl rfl rfl rfl (by first | exact Nat.zero_lt_one | assumption | omega)) ?_)
    refine ax_callv rfl rfl rfl hc ?_
    unfold qA
    repeat (refine ax_buildSliceRo rfl rfl rfl rfl rfl rfl rfl rfl rfl rfl rfl ?_)
    refine ax_append rfl rfl rfl rfl rfl rfl rfl rfl rfl hml2 rfl rfl (by show 0 + 1 ≤ 1; omega) rfl (by show (k + 1) * 56 ≤ _ ∧ _; omega) ?_ (by rw [hfix]; exact fun h => h) ?_
    · intro i' j hi hj
      exact rowE_noref 0 3 cellsQ cellsQ_noref ds (q / s) _ (rowQ1 _) 1 i' j hi hj
    repeat (first
      | refine ax_q (q_assign rfl) ?_
      | refine ax_ops_nil ?_
      | refine ax_post_blk ?_)
    refine ax_post_code ?_
    refine ax_heap ([some ⟨79, .box (cellsQ s)⟩, some ⟨79, qsC ((qs.take (k + 1)).map (fun q => q / s))⟩] ++ [none]) ?_ ?_
    · rw [htk]
      exact HSub.eqv (CEq.refl _) (HSub.eqv (rowE_snoc 0 3 cellsQ ds (q / s) _ (rowQ1 _)) (HSub.drop HSub.nil))
    refine ax_drop (H1 := [some ⟨79, .box (cellsQ s)⟩, some ⟨79, qsC ((qs.take (k + 1)).map (fun q => q / s))⟩]) rfl (by rw [hfix]; exact fun h => h) ?_
    refine ax_heap [some ⟨79, .box (cellsQ s)⟩, some ⟨79, qsC ((qs.take (k + 1)).map (fun q => q / s))⟩] ?_ ?_
    · exact HSub.eqv (CEq.refl _) (HSub.eqv ⟨rfl, rfl, fun i j _ hj => (cellsQ_noref _ j _ hj).symm⟩ HSub.nil)
    repeat (first
      | refine ax_q (q_move rfl) ?_
      | refine ax_ops_nil ?_
      | refine ax_region rfl ?_
      | refine ax_q (q_add rfl rfl (by omega)) ?_)
    exact ax_post_inv ⟨k + 1, by omega, by omega, ⟨rfl, rfl, rfl, rfl, rfl, trivial⟩, rfl⟩
  · have hk' : k = l.length := by omega
    subst hk'
    rw [List.take_of_length_le (by omega)]
    repeat (first
      | refine ax_post_code ?_
      | refine ax_seq ?_
      | refine ax_exit ?_
      | refine ax_exit_here ?_
      | refine ax_exit_code ?_
      | refine ax_exit_inv ?_)
    refine ax_give_code 1 6 l.length [] rfl (refless_qs _) rfl (by show _ ≤ (qs.map (fun q => q / s)).length; rw [List.length_map]; omega) trivial ?_
    repeat (first
      | refine ax_q (q_move rfl) ?_
      | refine ax_region rfl ?_)
    refine ax_callv rfl rfl rfl h5 ?_
    repeat (first
      | refine ax_q (q_assign rfl) ?_
      | refine ax_ops_nil ?_
      | refine ax_post_code ?_
      | refine ax_return ?_
      | refine ax_q (q_extract rfl rfl) ?_)
    exact ax_ret hR rfl rfl
end Go.Proofs.YtbeegiiiochblaaGreatDoor

/-
  Texts that spell a rational number. No program in sight.
-/
namespace Go.Ax.Rt
open Go.Ax.Bg

theorem Parts.fit {s : List UInt8} {q : Rat} (h : Parts s q) : fitB q = true := by
  unfold fitB
  rw [Bool.and_eq_true, decide_eq_true_eq, decide_eq_true_eq, h.num, h.den, sgnI_abs, canon_eq h.cn]
  refine ⟨h.ln, ?_⟩
  cases e : hasD s
  · rw [den_one e, Lib.decDigits_one (by decide)]; decide
  · rw [den_some e, canon_eq (h.cd e).1]; exact h.ld
/-- A text that spells q. -/
def IsQ (s : List UInt8) (q : Rat) : Prop := ratE s = 0 ∧ ratV s = q
instance (s : List UInt8) (q : Rat) : Decidable (IsQ s q) := inferInstanceAs (Decidable (_ ∧ _))
theorem IsQ.self {s : List UInt8} (h : ratE s = 0) : IsQ s (ratV s) := ⟨h, rfl⟩
theorem IsQ.text {s : List UInt8} {q : Rat} (h : IsQ s q) : textQ q = s := by
  have := (rat_parts h.1).text
  rwa [h.2] at this
theorem IsQ.fit {s : List UInt8} {q : Rat} (h : IsQ s q) : fitB q = true := by
  have := (rat_parts h.1).fit
  rwa [h.2] at this
theorem isQ_of {q : Rat} (h : fitB q = true) : IsQ (textQ q) q := rat_of h
theorem IsQ.out {s : List UInt8} {q : Rat} (h : IsQ s q) : outF q = (s, 0) := by
  unfold outF
  rw [if_pos h.fit, h.text]
theorem IsQ.inj {a b : List UInt8} {q : Rat} (ha : IsQ a q) (hb : IsQ b q) : a = b := by rw [← ha.text, hb.text]
theorem IsQ.all2 {a b : List UInt8} {x y : Rat} (ha : IsQ a x) (hb : IsQ b y) : allE [a, b] = 0 := by
  refine allE_of (fun s hs => ?_)
  simp at hs
  rcases hs with rfl | rfl
  · exact ha.1
  · exact hb.1
theorem IsQ.two {a b : List UInt8} {x y : Rat} (F : Rat → Rat → Rat) (ha : IsQ a x) (hb : IsQ b y) : twoR F a b = outF (F x y) := by
  unfold twoR
  rw [if_pos (ha.all2 hb), ha.2, hb.2]
theorem IsQ.one {a : List UInt8} {x : Rat} (F : Rat → Rat) (ha : IsQ a x) : oneR F a = outF (F x) := by
  unfold oneR
  rw [if_pos ha.1, ha.2]
theorem IsQ.zero {a : List UInt8} {x : Rat} (ha : IsQ a x) : x = 0 ↔ a = [48] := by rw [← ha.2]; exact Parts.zero ha.1
theorem IsQ.div {a b : List UInt8} {x y : Rat} (ha : IsQ a x) (hb : IsQ b y) : divR a b = if y = 0 then ([], 18) else outF (x / y) := by
  unfold divR
  rw [if_pos (ha.all2 hb), ha.2, hb.2]
  by_cases h : b = [48]
  · rw [if_pos h, if_pos (hb.zero.2 h)]
  · rw [if_neg h, if_neg (fun e => h (hb.zero.1 e))]
theorem IsQ.cmp {a b : List UInt8} {x y : Rat} (ha : IsQ a x) (hb : IsQ b y) : cmpR a b = (cmpQ x y, 0) := by
  unfold cmpR
  rw [if_pos (ha.all2 hb), ha.2, hb.2]
theorem IsQ.sign {a : List UInt8} {x : Rat} (ha : IsQ a x) : signR a = (sgn x.num, 0) := by
  unfold signR
  rw [if_pos ha.1, ha.2]
/-- Numbers of at most so many digits. -/
def D (k : Nat) (q : Rat) : Prop := q.num.natAbs < 10 ^ k ∧ q.den < 10 ^ k
theorem D.mono {j k : Nat} {q : Rat} (h : D j q) (hk : j ≤ k) : D k q :=
  ⟨Nat.lt_of_lt_of_le h.1 (Nat.pow_le_pow_right (by decide) hk), Nat.lt_of_lt_of_le h.2 (Nat.pow_le_pow_right (by decide) hk)⟩
theorem D.fit {k : Nat} {q : Rat} (h : D k q) (hk : k ≤ 2000) : fitB q = true := by
  unfold fitB
  rw [Bool.and_eq_true, decide_eq_true_eq, decide_eq_true_eq]
  exact ⟨TB_len (lt_big h.1 hk), TB_len (lt_big h.2 hk)⟩
theorem D.out {k : Nat} {q : Rat} (h : D k q) (hk : k ≤ 2000) : outF q = (textQ q, 0) ∧ IsQ (textQ q) q := ⟨(isQ_of (h.fit hk)).out, isQ_of (h.fit hk)⟩
theorem IsQ.dig {s : List UInt8} {q : Rat} (h : IsQ s q) {k : Nat} (hk : s.length ≤ k) (h1 : 1 ≤ k) : D k q := by
  have ht := h.text
  have hl : (textQ q).length ≤ k := by rw [ht]; exact hk
  unfold textQ at hl
  rw [List.length_append, List.length_append] at hl
  refine ⟨Nat.lt_of_lt_of_le (digits_lt _) (Nat.pow_le_pow_right (by decide) (by omega)), ?_⟩
  by_cases hd : q.den = 1
  · rw [hd]
    exact Nat.lt_of_lt_of_le (show 1 < 10 ^ 1 by decide) (Nat.pow_le_pow_right (by decide) h1)
  · rw [if_neg hd, List.length_cons] at hl
    exact Nat.lt_of_lt_of_le (digits_lt _) (Nat.pow_le_pow_right (by decide) (by omega))
theorem d_frac {n d : Int} {k : Nat} (hd : d ≠ 0) (h1 : n.natAbs < 10 ^ k) (h2 : d.natAbs < 10 ^ k) : D k (Rat.divInt n d) := by
  obtain ⟨e1, e2, _⟩ := frac_parts n d hd
  refine ⟨?_, ?_⟩
  · rw [e1]; exact Nat.lt_of_le_of_lt (Nat.div_le_self _ _) h1
  · rw [e2]; exact Nat.lt_of_le_of_lt (Nat.div_le_self _ _) h2
theorem D.add {p q : Rat} {j k : Nat} (hp : D j p) (hq : D k q) : D (j + k + 1) (p + q) := by
  rw [← add_frac]
  have a1 := mul_big hp.1 hq.2
  have a2 := mul_big hq.1 hp.2
  rw [Nat.add_comm k j] at a2
  have a3 := mul_big hp.2 hq.2
  refine d_frac (by have := Nat.mul_ne_zero p.den_nz q.den_nz; omega) ?_ ?_
  · have h := Int.natAbs_add_le (p.num * q.den) (q.num * p.den)
    rw [Int.natAbs_mul, Int.natAbs_mul, Int.natAbs_natCast, Int.natAbs_natCast] at h
    exact Nat.lt_of_le_of_lt h (add_big a1 a2)
  · rw [Int.natAbs_natCast]
    exact Nat.lt_of_lt_of_le a3 (Nat.pow_le_pow_right (by decide) (by omega))
theorem D.neg {q : Rat} {k : Nat} (h : D k q) : D k (-q) := by
  refine ⟨?_, h.2⟩
  show (-q.num).natAbs < _
  rw [Int.natAbs_neg]; exact h.1
theorem D.sub {p q : Rat} {j k : Nat} (hp : D j p) (hq : D k q) : D (j + k + 1) (p - q) := by
  rw [Rat.sub_eq_add_neg]; exact hp.add hq.neg
theorem D.mul {p q : Rat} {j k : Nat} (hp : D j p) (hq : D k q) : D (j + k) (p * q) := by
  rw [← mul_frac]
  refine d_frac (by have := Nat.mul_ne_zero p.den_nz q.den_nz; omega) ?_ ?_
  · rw [Int.natAbs_mul]; exact mul_big hp.1 hq.1
  · rw [Int.natAbs_natCast]; exact mul_big hp.2 hq.2
theorem D.div {p q : Rat} {j k : Nat} (hp : D j p) (hq : D k q) (h0 : q ≠ 0) : D (j + k) (p / q) := by
  have hn : q.num ≠ 0 := fun h => h0 (Rat.num_eq_zero.1 h)
  rw [← div_frac p q h0]
  refine d_frac (Int.mul_ne_zero hn (by have := p.den_nz; omega)) ?_ ?_
  · rw [Int.natAbs_mul, Int.natAbs_natCast]; exact mul_big hp.1 hq.2
  · rw [Int.natAbs_mul, Int.natAbs_natCast, Nat.add_comm]; exact mul_big hq.1 hp.2
end Go.Ax.Rt

namespace Go.Proofs.YtbeegiiiochblaaGreatDoor
open Go.Ax Go.Ax.Bg Go.Ax.Rt Go.RowKit
attribute [local irreducible] Ax Post QOp ACall PureOp
set_option maxRecDepth 100000
set_option maxHeartbeats 4000000

open Go.Ax.Idx Go.Ax.Cd
theorem equalR (a b : List (List UInt8)) (hlen : a.length ≤ 9223372036854775807) (hlb : b.length ≤ 9223372036854775807) : VCall Tryz.prog 38 [.ro (.strs a) 0 a.length, .ro (.strs b) 0 b.length] (.bool (decide (a = b))) := by
  refine ACall.value0 (acall_of_ax (P := Tryz.prog) (fn := Tryz.f38) rfl rfl (by kernel_rfl) rfl (fun c hR hfix => ?_)) (fix := fun _ => False) (fun _ h => h) rfl rfl
  repeat (first
    | refine ax_q (q_move rfl) ?_
    | refine ax_q (q_assign rfl) ?_
    | refine ax_ops_nil ?_
    | refine ax_post_code ?_
    | refine ax_seq ?_
    | refine ax_region rfl ?_
    | refine ax_q (q_neq rfl rfl) ?_
    | refine ax_q (q_len rfl rfl rfl) ?_)
  refine ax_cond_dec rfl (fun h => ?_) (fun h => ?_)
  · repeat (first
      | refine ax_q (q_assign rfl) ?_
      | refine ax_ops_nil ?_
      | refine ax_post_code ?_
      | refine ax_seq ?_
      | refine ax_region rfl ?_
      | refine ax_return ?_
      | refine ax_ret_code ?_)
    refine ax_ret hR rfl ?_
    have : ¬ a = b := by rintro rfl; exact h rfl
    simp [tupOf, this]
  have hab : a.length = b.length := by omega
  repeat (first
    | refine ax_q (q_move rfl) ?_
    | refine ax_ops_nil ?_
    | refine ax_post_code ?_
    | refine ax_seq ?_
    | refine ax_region rfl ?_
    | refine ax_block ?_
    | refine ax_skip ?_
    | refine ax_q (q_len rfl rfl rfl) ?_)
  refine ax_loop (ι := Nat) (fun k => [(0, .ro (.strs a) 0 a.length), (1, .ro (.strs b) 0 b.length), (12, .int .i64 (a.length : Nat)), (13, .int .i64 (k : Nat))]) (fun _ => [])
    (fun k => k ≤ a.length ∧ a.take k = b.take k) (fun k => a.length - k) 0 ⟨⟨rfl, rfl, rfl, rfl, trivial⟩, rfl, Nat.zero_le _, rfl⟩ ?_
  intro k ⟨hk, heq⟩
  repeat (first
    | refine ax_ops_nil ?_
    | refine ax_post_code ?_
    | refine ax_seq ?_
    | refine ax_region rfl ?_
    | refine ax_q (q_lss rfl rfl) ?_)
  refine ax_cond_dec rfl (fun h2 => ?_) (fun h2 => ?_)
  · have hk' : k < a.length := by omega
    have ha := take_succ_getD a [] k hk'
    have hb := take_succ_getD b [] k (by omega)
    repeat (first
      | refine ax_q (q_move rfl) ?_
      | refine ax_q (q_assign rfl) ?_
      | refine ax_ops_nil ?_
      | refine ax_post_code ?_
      | refine ax_seq ?_
      | refine ax_region rfl ?_
      | refine ax_block ?_
      | refine ax_skip ?_)
    refine ax_regionq (by kernel_rfl) (by kernel_rfl) rfl ?_
    repeat (first
      | refine ax_q (q_move rfl) ?_
      | refine ax_ops_nil ?_
      | refine ax_post_code ?_
      | refine ax_q (q_loads_rp rfl rfl rfl) ?_
      | refine ax_q (q_index_ro' rfl rfl rfl rfl (by first | (simp only [Nat.zero_add, Int.toNat_natCast, Int.toNat_zero]; exact rfl) | exact rfl) (by omega)) ?_
      | refine ax_q (q_strneq rfl rfl) ?_)
    refine ax_cond_dec rfl (fun h3 => ?_) (fun h3 => ?_)
    · repeat (first
        | refine ax_q (q_assign rfl) ?_
        | refine ax_ops_nil ?_
        | refine ax_post_code ?_
        | refine ax_seq ?_
        | refine ax_region rfl ?_
        | refine ax_return ?_
        | refine ax_ret_code ?_
        | refine ax_ret_blk ?_
        | refine ax_ret_inv ?_)
      refine ax_ret hR rfl ?_
      have : ¬ a = b := by rintro rfl; exact h3 rfl
      simp [tupOf, this]
    · repeat (first
        | refine ax_q (q_move rfl) ?_
        | refine ax_ops_nil ?_
        | refine ax_post_code ?_
        | refine ax_region rfl ?_
        | refine ax_post_blk ?_
        | refine ax_skip ?_
        | refine ax_q (q_add rfl rfl (by omega)) ?_)
      have h4 : a.getD k [] = b.getD k [] := Classical.not_not.1 h3
      exact ax_post_inv ⟨k + 1, ⟨by omega, by rw [ha, hb, heq, h4]⟩, by omega, ⟨rfl, rfl, rfl, rfl, trivial⟩, rfl⟩
  · have hk' : k = a.length := by omega
    subst hk'
    rw [List.take_length, hab, List.take_length] at heq
    repeat (first
      | refine ax_q (q_assign rfl) ?_
      | refine ax_ops_nil ?_
      | refine ax_post_code ?_
      | refine ax_seq ?_
      | refine ax_region rfl ?_
      | refine ax_exit ?_
      | refine ax_exit_here ?_
      | refine ax_exit_code ?_
      | refine ax_exit_inv ?_
      | refine ax_return ?_)
    refine ax_ret hR rfl ?_
    simp [tupOf, heq]

theorem q_1_2 : IsQ [49, 47, 50] (Rat.divInt (1) 2) := by decide +kernel
theorem q_1_3 : IsQ [49, 47, 51] (Rat.divInt (1) 3) := by decide +kernel
theorem q_5_6 : IsQ [53, 47, 54] (Rat.divInt (5) 6) := by decide +kernel
theorem q_1_6 : IsQ [49, 47, 54] (Rat.divInt (1) 6) := by decide +kernel
theorem q_2_3 : IsQ [50, 47, 51] (Rat.divInt (2) 3) := by decide +kernel
theorem q_3_2 : IsQ [51, 47, 50] (Rat.divInt (3) 2) := by decide +kernel
theorem q_1 : IsQ [49] (Rat.divInt (1) 1) := by decide +kernel
theorem q_m3 : IsQ [45, 51] (Rat.divInt (-3) 1) := by decide +kernel
theorem q_m1_3 : IsQ [45, 49, 47, 51] (Rat.divInt (-1) 3) := by decide +kernel
theorem q_m1_2 : IsQ [45, 49, 47, 50] (Rat.divInt (-1) 2) := by decide +kernel
theorem q_m1 : IsQ [45, 49] (Rat.divInt (-1) 1) := by decide +kernel
theorem q_m3_2 : IsQ [45, 51, 47, 50] (Rat.divInt (-3) 2) := by decide +kernel
theorem q_3 : IsQ [51] (Rat.divInt (3) 1) := by decide +kernel
theorem q_1_4 : IsQ [49, 47, 52] (Rat.divInt (1) 4) := by decide +kernel
theorem q_3_4 : IsQ [51, 47, 52] (Rat.divInt (3) 4) := by decide +kernel
theorem q_2 : IsQ [50] (Rat.divInt (2) 1) := by decide +kernel
theorem q_4 : IsQ [52] (Rat.divInt (4) 1) := by decide +kernel
theorem f_add : VCall Tryz.prog 25 [.str [49, 47, 50], .str [49, 47, 51]] (.tup [.str [53, 47, 54], .int .i64 0]) := by
  have h := radd_ok [49, 47, 50] [49, 47, 51] (by decide) (by decide)
  rw [q_1_2.two (fun x y => x + y) q_1_3, show (Rat.divInt (1) 2) + (Rat.divInt (1) 3) = (Rat.divInt (5) 6) by decide +kernel, q_5_6.out] at h
  exact h
theorem f_sub : VCall Tryz.prog 27 [.str [49, 47, 50], .str [49, 47, 51]] (.tup [.str [49, 47, 54], .int .i64 0]) := by
  have h := rsub_ok [49, 47, 50] [49, 47, 51] (by decide) (by decide)
  rw [q_1_2.two (fun x y => x - y) q_1_3, show (Rat.divInt (1) 2) - (Rat.divInt (1) 3) = (Rat.divInt (1) 6) by decide +kernel, q_1_6.out] at h
  exact h
theorem f_mul : VCall Tryz.prog 26 [.str [50, 47, 51], .str [51, 47, 50]] (.tup [.str [49], .int .i64 0]) := by
  have h := rmul_ok [50, 47, 51] [51, 47, 50] (by decide) (by decide)
  rw [q_2_3.two (fun x y => x * y) q_3_2, show (Rat.divInt (2) 3) * (Rat.divInt (3) 2) = (Rat.divInt (1) 1) by decide +kernel, q_1.out] at h
  exact h
theorem f_div : VCall Tryz.prog 28 [.str [49], .str [45, 51]] (.tup [.str [45, 49, 47, 51], .int .i64 0]) := by
  have h := rdiv_ok [49] [45, 51] (by decide) (by decide)
  rw [q_1.div q_m3, if_neg (by decide +kernel), show (Rat.divInt (1) 1) / (Rat.divInt (-3) 1) = (Rat.divInt (-1) 3) by decide +kernel, q_m1_3.out] at h
  exact h
theorem f_neg : VCall Tryz.prog 31 [.str [49, 47, 50]] (.tup [.str [45, 49, 47, 50], .int .i64 0]) := by
  have h := rneg_ok [49, 47, 50] (by decide)
  rw [q_1_2.one (fun x => -x), show -(Rat.divInt (1) 2) = (Rat.divInt (-1) 2) by decide +kernel, q_m1_2.out] at h
  exact h
theorem f_floor : VCall Tryz.prog 32 [.str [45, 49, 47, 50]] (.tup [.str [45, 49], .int .i64 0]) := by
  have h := rfloor_ok [45, 49, 47, 50] (by decide)
  rw [q_m1_2.one (fun x => (x.floor : Rat)), show (((Rat.divInt (-1) 2).floor : Int) : Rat) = (Rat.divInt (-1) 1) by decide +kernel, q_m1.out] at h
  exact h
theorem f_cmp : VCall Tryz.prog 29 [.str [49, 47, 50], .str [49, 47, 51]] (.tup [.int .i64 1, .int .i64 0]) := by
  have h := rcmp_ok [49, 47, 50] [49, 47, 51] (by decide) (by decide)
  rw [q_1_2.cmp q_1_3, show cmpQ (Rat.divInt (1) 2) (Rat.divInt (1) 3) = 1 by decide +kernel] at h
  exact h
theorem f_sign : VCall Tryz.prog 30 [.str [45, 49]] (.tup [.int .i64 (-1), .int .i64 0]) := by
  have h := rsign_ok [45, 49] (by decide)
  rw [q_m1.sign, show sgn ((Rat.divInt (-1) 1)).num = -1 by decide +kernel] at h
  exact h
theorem f_of : VCall Tryz.prog 52 [.int .i64 6, .int .i64 (-4)] (.tup [.str [45, 51, 47, 50], .int .i64 0]) := by
  have h := rof_ok 6 (-4) (by decide) (by decide) (by decide)
  rw [show ofR 6 (-4) = outF (Rat.divInt 6 (-4)) from rfl, show Rat.divInt 6 (-4) = (Rat.divInt (-3) 2) by decide +kernel, q_m3_2.out] at h
  exact h
theorem sumL_step {acc q : Rat} {r : List Rat} {s : List UInt8} {t : Rat} (h : IsQ s t) (e : acc + q = t) : sumL acc (q :: r) = sumL t r := by
  rw [sumL, e, if_pos h.fit]
theorem hlen2 {l : List (List UInt8)} (h : (l.all fun s => decide (s.length ≤ 100)) = true) : ∀ s ∈ l, s.length ≤ 9223372036854775807 := fun s hs => by
  have := List.all_eq_true.1 h s hs
  have := of_decide_eq_true this
  omega
theorem s_sum : sumR [[49, 47, 50], [49, 47, 51], [49, 47, 54]] = ((Rat.divInt (1) 1), 0) := by
  unfold sumR
  rw [if_neg (by decide), if_pos (by decide +kernel)]
  show sumL 0 [ratV [49, 47, 50], ratV [49, 47, 51], ratV [49, 47, 54]] = _
  rw [q_1_2.2]
  rw [q_1_3.2]
  rw [q_1_6.2]
  rw [sumL_step q_1_2 (by decide +kernel)]
  rw [sumL_step q_5_6 (by decide +kernel)]
  rw [sumL_step q_1 (by decide +kernel)]
  rfl
theorem s_sh : sumR [[49], [51]] = ((Rat.divInt (4) 1), 0) := by
  unfold sumR
  rw [if_neg (by decide), if_pos (by decide +kernel)]
  show sumL 0 [ratV [49], ratV [51]] = _
  rw [q_1.2]
  rw [q_3.2]
  rw [sumL_step q_1 (by decide +kernel)]
  rw [sumL_step q_4 (by decide +kernel)]
  rfl
theorem s_od : sumR [[49, 47, 52]] = ((Rat.divInt (1) 4), 0) := by
  unfold sumR
  rw [if_neg (by decide), if_pos (by decide +kernel)]
  show sumL 0 [ratV [49, 47, 52]] = _
  rw [q_1_4.2]
  rw [sumL_step q_1_4 (by decide +kernel)]
  rfl
theorem f_sum : VCall Tryz.prog 53 [.ro (.strs [[49, 47, 50], [49, 47, 51], [49, 47, 54]]) 0 3] (.tup [.str [49], .int .i64 0]) := by
  have h := rsum_ok [[49, 47, 50], [49, 47, 51], [49, 47, 54]] (by decide) (hlen2 (by decide))
  unfold sumT at h
  rw [s_sum, if_pos rfl, q_1.out] at h
  exact h
theorem f_best : VCall Tryz.prog 36 [.ro (.strs [[49], [50], [50]]) 0 3] (.tup [.int .i64 1, .int .i64 0]) := by
  have h := best_ok [[49], [50], [50]] (by decide) (hlen2 (by decide))
  rw [show bestR [[49], [50], [50]] = (1, 0) by decide +kernel] at h
  exact h
theorem f_shares : VCall Tryz.prog 33 [.ro (.strs [[49], [51]]) 0 2] (.tup [.ro (.strs [[49, 47, 52], [51, 47, 52]]) 0 2, .int .i64 0]) := by
  have e : (List.map ratV [[49], [51]]).map (fun q => q / (sumR [[49], [51]]).1) = [(Rat.divInt (1) 4), (Rat.divInt (3) 4)] := by rw [s_sh]; decide +kernel
  have h := shares_yes [[49], [51]] (by decide) (hlen2 (by decide)) (by unfold posE; rw [s_sh, if_neg (by decide)]) (by rw [s_sh]; decide +kernel) (by rw [e]; simp only [List.all_cons, List.all_nil, q_1_4.fit, q_3_4.fit]; rfl)
  rw [e, List.map_cons, List.map_cons, q_1_4.text, q_3_4.text] at h
  exact h
theorem f_odds : VCall Tryz.prog 37 [.ro (.strs [[49, 47, 52]]) 0 1] (.int .i64 3) := by
  have h := odds_ok [[49, 47, 52]] (by decide) (hlen2 (by decide))
  unfold oddsR posE at h
  rw [s_od, if_neg (show ¬ (((Rat.divInt (1) 4), (0 : Int)).2 = 0 ∧ List.any [[49, 47, 52]] negB = true) by decide), if_pos rfl, if_neg (show ¬ cmpQ ((Rat.divInt (1) 4), (0 : Int)).1 1 = 0 by decide +kernel)] at h
  exact h
theorem f_check : VCall Tryz.prog 54 [.str [50, 47, 52]] (.int .i64 3) := by
  have h := rcheck_ok [50, 47, 52] (by decide)
  rw [show ratE [50, 47, 52] = 3 by decide +kernel] at h
  exact h
theorem f_all : VCall Tryz.prog 24 [.ro (.strs [[48], [45, 48]]) 0 2] (.int .i64 5) := by
  have h := checkAll_ok [[48], [45, 48]] (by decide) (hlen2 (by decide))
  rw [show allE [[48], [45, 48]] = 5 by decide +kernel] at h
  exact h
end Go.Proofs.YtbeegiiiochblaaGreatDoor

namespace Go.Proofs.YtbeegiiiochblaaGreatDoor
open Go.Ax Go.Ax.Bg Go.Ax.Rt Go.RowKit
attribute [local irreducible] Ax Post QOp ACall PureOp
set_option maxRecDepth 100000
set_option maxHeartbeats 4000000

theorem f_eq : VCall Tryz.prog 38 [.ro (.strs [[49, 47, 52], [51, 47, 52]]) 0 2, .ro (.strs [[49, 47, 52], [51, 47, 52]]) 0 2] (.bool true) := equalR [[49, 47, 52], [51, 47, 52]] [[49, 47, 52], [51, 47, 52]] (by decide) (by decide)
theorem f_fine : VCall Tryz.prog 16 [.ro (.ints .i64 [0, 0, 0, 0, 0, 0, 0, 0, 0, 0, 0, 0]) 0 12] (.bool true) := fineI [0, 0, 0, 0, 0, 0, 0, 0, 0, 0, 0, 0] (by decide)
theorem eq_row : AEq (.ro (.strs [[49, 47, 52], [51, 47, 52]]) 0 1) (.ro (.strs [[49, 47, 52]]) 0 1) := AEq.ro rfl (fun d j hd hj => by
  have : d = 0 := by omega
  subst this
  rfl)
theorem ratFact : VCall Tryz.prog 23 [] (.bool true) := by
  refine ACall.value0 (acall_of_ax (P := Tryz.prog) (fn := Tryz.f23) rfl rfl (by kernel_rfl) rfl (fun c hR hfix => ?_)) (fix := fun _ => False) (fun _ h => h) rfl rfl
  repeat (first
    | refine ax_q (q_assign rfl) ?_
    | refine ax_ops_nil ?_
    | refine ax_post_code ?_
    | refine ax_seq ?_
    | refine ax_region rfl ?_)
  refine ax_callv rfl rfl rfl f_of ?_
  repeat (first
    | refine ax_q (q_move rfl) ?_
    | refine ax_q (q_assign rfl) ?_
    | refine ax_ops_nil ?_
    | refine ax_post_code ?_
    | refine ax_seq ?_
    | refine ax_region rfl ?_
    | refine ax_q (q_extract rfl rfl) ?_)
  refine ax_callv rfl rfl rfl f_add ?_
  repeat (first
    | refine ax_q (q_move rfl) ?_
    | refine ax_q (q_assign rfl) ?_
    | refine ax_ops_nil ?_
    | refine ax_post_code ?_
    | refine ax_seq ?_
    | refine ax_region rfl ?_
    | refine ax_q (q_extract rfl rfl) ?_)
  refine ax_callv rfl rfl rfl f_sub ?_
  repeat (first
    | refine ax_q (q_move rfl) ?_
    | refine ax_q (q_assign rfl) ?_
    | refine ax_ops_nil ?_
    | refine ax_post_code ?_
    | refine ax_seq ?_
    | refine ax_region rfl ?_
    | refine ax_q (q_extract rfl rfl) ?_)
  refine ax_callv rfl rfl rfl f_mul ?_
  repeat (first
    | refine ax_q (q_move rfl) ?_
    | refine ax_q (q_assign rfl) ?_
    | refine ax_ops_nil ?_
    | refine ax_post_code ?_
    | refine ax_seq ?_
    | refine ax_region rfl ?_
    | refine ax_q (q_extract rfl rfl) ?_)
  refine ax_callv rfl rfl rfl f_div ?_
  repeat (first
    | refine ax_q (q_move rfl) ?_
    | refine ax_q (q_assign rfl) ?_
    | refine ax_ops_nil ?_
    | refine ax_post_code ?_
    | refine ax_seq ?_
    | refine ax_region rfl ?_
    | refine ax_q (q_extract rfl rfl) ?_)
  refine ax_callv rfl rfl rfl f_neg ?_
  repeat (first
    | refine ax_q (q_move rfl) ?_
    | refine ax_q (q_assign rfl) ?_
    | refine ax_ops_nil ?_
    | refine ax_post_code ?_
    | refine ax_seq ?_
    | refine ax_region rfl ?_
    | refine ax_q (q_extract rfl rfl) ?_)
  refine ax_callv rfl rfl rfl f_cmp ?_
  repeat (first
    | refine ax_q (q_move rfl) ?_
    | refine ax_q (q_assign rfl) ?_
    | refine ax_ops_nil ?_
    | refine ax_post_code ?_
    | refine ax_seq ?_
    | refine ax_region rfl ?_
    | refine ax_q (q_extract rfl rfl) ?_)
  refine ax_callv rfl rfl rfl f_sign ?_
  repeat (first
    | refine ax_q (q_move rfl) ?_
    | refine ax_q (q_assign rfl) ?_
    | refine ax_ops_nil ?_
    | refine ax_post_code ?_
    | refine ax_seq ?_
    | refine ax_region rfl ?_
    | refine ax_q (q_extract rfl rfl) ?_)
  refine ax_callv rfl rfl rfl f_floor ?_
  repeat (first
    | refine ax_q (q_move rfl) ?_
    | refine ax_q (q_assign rfl) ?_
    | refine ax_ops_nil ?_
    | refine ax_post_code ?_
    | refine ax_seq ?_
    | refine ax_region rfl ?_
    | refine ax_q (q_extract rfl rfl) ?_
    | refine ax_buildSliceRo rfl rfl rfl rfl rfl rfl rfl rfl rfl rfl rfl ?_)
  refine ax_callv rfl rfl rfl f_sum ?_
  repeat (first
    | refine ax_q (q_move rfl) ?_
    | refine ax_q (q_assign rfl) ?_
    | refine ax_ops_nil ?_
    | refine ax_post_code ?_
    | refine ax_seq ?_
    | refine ax_region rfl ?_
    | refine ax_q (q_extract rfl rfl) ?_
    | refine ax_buildSliceRo rfl rfl rfl rfl rfl rfl rfl rfl rfl rfl rfl ?_)
  refine ax_callv rfl rfl rfl f_best ?_
  repeat (first
    | refine ax_q (q_move rfl) ?_
    | refine ax_q (q_assign rfl) ?_
    | refine ax_ops_nil ?_
    | refine ax_post_code ?_
    | refine ax_seq ?_
    | refine ax_region rfl ?_
    | refine ax_q (q_extract rfl rfl) ?_
    | refine ax_buildSliceRo rfl rfl rfl rfl rfl rfl rfl rfl rfl rfl rfl ?_)
  refine ax_callv rfl rfl rfl f_shares ?_
  repeat (first
    | refine ax_q (q_move rfl) ?_
    | refine ax_q (q_assign rfl) ?_
    | refine ax_ops_nil ?_
    | refine ax_post_code ?_
    | refine ax_seq ?_
    | refine ax_region rfl ?_
    | refine ax_q (q_extract rfl rfl) ?_
    | refine ax_buildSliceRo rfl rfl rfl rfl rfl rfl rfl rfl rfl rfl rfl ?_)
  refine ax_callv rfl rfl rfl f_fine ?_
  repeat (first
    | refine ax_q (q_move rfl) ?_
    | refine ax_guard rfl rfl ?_
    | refine ax_q (q_eql rfl rfl) ?_
    | refine ax_q (q_pick rfl rfl) ?_
    | refine ax_q (q_streql rfl rfl) ?_
    | refine ax_buildSliceRo rfl rfl rfl rfl rfl rfl rfl rfl rfl rfl rfl ?_)
  refine ax_callv rfl rfl rfl f_eq ?_
  repeat (first
    | refine ax_q (q_move rfl) ?_
    | refine ax_guard rfl rfl ?_
    | refine ax_q (q_pick rfl rfl) ?_)
  refine ax_callv rfl rfl rfl f_check ?_
  repeat (first
    | refine ax_q (q_move rfl) ?_
    | refine ax_guard rfl rfl ?_
    | refine ax_q (q_eql rfl rfl) ?_
    | refine ax_q (q_pick rfl rfl) ?_
    | refine ax_buildSliceRo rfl rfl rfl rfl rfl rfl rfl rfl rfl rfl rfl ?_)
  refine ax_callv rfl rfl rfl f_all ?_
  repeat (first
    | refine ax_q (q_move rfl) ?_
    | refine ax_guard rfl rfl ?_
    | refine ax_q (q_eql rfl rfl) ?_
    | refine ax_q (q_pick rfl rfl) ?_
    | refine ax_q (q_slice_ro rfl rfl rfl rfl rfl rfl rfl (by omega)) ?_)
  refine ax_slot_ops 150 (.ro (.strs [[49, 47, 52]]) 0 1) rfl eq_row ?_
  refine ax_callv rfl rfl rfl f_odds ?_
  repeat (first
    | refine ax_q (q_assign rfl) ?_
    | refine ax_ops_nil ?_
    | refine ax_post_code ?_
    | refine ax_guard rfl rfl ?_
    | refine ax_return ?_
    | refine ax_q (q_eql rfl rfl) ?_
    | refine ax_q (q_pick rfl rfl) ?_)
  exact ax_ret hR rfl rfl
end Go.Proofs.YtbeegiiiochblaaGreatDoor

namespace Go.Proofs.YtbeegiiiochblaaGreatDoor
open Go.Ax Go.Ax.Bg Go.Ax.Rt Go.RowKit
attribute [local irreducible] Ax Post QOp ACall PureOp
set_option maxRecDepth 100000
set_option maxHeartbeats 4000000

theorem notOk00 {l : List Int} (h : ∀ x ∈ l, x = 0) : l.any notOk = false := by
  rw [List.any_eq_false]
  intro x hx
  rw [h x hx]; decide
theorem fineZZ (n : Nat) (hn : n ≤ 1000) : VCall Tryz.prog 16 [.ro (.ints .i64 (List.replicate n 0)) 0 n] (.bool true) := by
  have := fineI (List.replicate n 0) (by simpa using hn)
  rw [notOk00 (fun x hx => (List.mem_replicate.1 hx).2), List.length_replicate] at this
  exact this
theorem text_len {q : Rat} (h : fitB q = true) : (textQ q).length ≤ 9223372036854775807 := by
  unfold fitB at h
  rw [Bool.and_eq_true, decide_eq_true_eq, decide_eq_true_eq] at h
  unfold textQ
  rw [List.length_append, List.length_append]
  split <;> split <;> simp <;> omega
theorem len_of {s : List UInt8} (h : ratE s = 0) : s.length ≤ 4002 := by
  have hf := (IsQ.self h).fit
  rw [← (IsQ.self h).text]
  unfold fitB at hf
  rw [Bool.and_eq_true, decide_eq_true_eq, decide_eq_true_eq] at hf
  unfold textQ
  rw [List.length_append, List.length_append]
  split <;> split <;> simp <;> omega
theorem add_sub_self (y z : Rat) : y + z - z = y := by
  rw [Rat.sub_eq_add_neg, Rat.add_assoc, Rat.add_neg_cancel, Rat.add_zero]
theorem RatField_law (a b c' : List UInt8) (ha : a.length ≤ 9223372036854775807) (hb : b.length ≤ 9223372036854775807) (hc : c'.length ≤ 9223372036854775807) : VCall Tryz.prog 7 [.str a, .str b, .str c'] (.bool true) := by
  have hfz : VCall Tryz.prog 16 [.ro (.ints .i64 [0, 0, 0, 0, 0, 0]) 0 6] (.bool true) := fineZZ 6 (by decide)
  have hca := checkAll_ok [a, b, c'] (by show 3 ≤ _; decide) (by intro s hs; simp at hs; rcases hs with rfl | rfl | rfl <;> assumption)
  refine ACall.value0 (acall_of_ax (P := Tryz.prog) (fn := Tryz.f7) rfl rfl (by kernel_rfl) rfl (fun c hR hfix => ?_)) (fix := fun _ => False) (fun _ h => h) rfl rfl
  by_cases hE : allE [a, b, c'] = 0
  case neg =>
    generalize allE [a, b, c'] = e at *
    repeat (first
      | refine ax_q (q_assign rfl) ?_
      | refine ax_ops_nil ?_
      | refine ax_post_code ?_
      | refine ax_seq ?_
      | refine ax_region rfl ?_)
    refine ax_callv rfl rfl rfl ratFact ?_
    repeat (first
      | refine ax_q (q_move rfl) ?_
      | refine ax_ops_nil ?_
      | refine ax_post_code ?_
      | refine ax_seq ?_
      | refine ax_region rfl ?_
      | refine ax_cond_false rfl ?_
      | refine ax_skip ?_
      | refine ax_q (q_not rfl) ?_
      | refine ax_buildSliceRo rfl rfl rfl rfl rfl rfl rfl rfl rfl rfl rfl ?_)
    refine ax_callv rfl rfl rfl hca ?_
    repeat (first
      | refine ax_q (q_move rfl) ?_
      | refine ax_q (q_neq rfl rfl) ?_)
    refine ax_gsplit rfl rfl (fun h1 => ?_) (fun h1 => absurd hE h1)
    repeat (first
      | refine ax_q (q_assign rfl) ?_
      | refine ax_ops_nil ?_
      | refine ax_post_code ?_
      | refine ax_seq ?_
      | refine ax_region rfl ?_
      | refine ax_skip_not rfl rfl rfl ?_
      | refine ax_cond_true rfl ?_
      | refine ax_return ?_
      | refine ax_ret_code ?_
      | refine ax_q (q_pick rfl rfl) ?_)
    exact ax_ret hR rfl rfl
  rw [hE] at hca
  have la := len_of (allE_mem hE a (by simp))
  have lb := len_of (allE_mem hE b (by simp))
  have lc := len_of (allE_mem hE c' (by simp))
  repeat (first
    | refine ax_q (q_assign rfl) ?_
    | refine ax_ops_nil ?_
    | refine ax_post_code ?_
    | refine ax_seq ?_
    | refine ax_region rfl ?_)
  refine ax_callv rfl rfl rfl ratFact ?_
  repeat (first
    | refine ax_q (q_move rfl) ?_
    | refine ax_ops_nil ?_
    | refine ax_post_code ?_
    | refine ax_seq ?_
    | refine ax_region rfl ?_
    | refine ax_cond_false rfl ?_
    | refine ax_skip ?_
    | refine ax_q (q_not rfl) ?_
    | refine ax_buildSliceRo rfl rfl rfl rfl rfl rfl rfl rfl rfl rfl rfl ?_)
  refine ax_callv rfl rfl rfl hca ?_
  repeat (first
    | refine ax_q (q_move rfl) ?_
    | refine ax_ops_nil ?_
    | refine ax_post_code ?_
    | refine ax_guard rfl rfl ?_
    | refine ax_q (q_neq rfl rfl) ?_
    | refine ax_q (q_gtr rfl rfl) ?_
    | refine ax_q (q_pick rfl rfl) ?_
    | refine ax_q (q_lenstr rfl rfl) ?_
    | refine ax_q (q_add rfl rfl (by omega)) ?_)
  refine ax_cond_dec rfl (fun h1 => ?_) (fun h1 => ?_)
  · repeat (first
      | refine ax_q (q_assign rfl) ?_
      | refine ax_ops_nil ?_
      | refine ax_post_code ?_
      | refine ax_seq ?_
      | refine ax_region rfl ?_
      | refine ax_return ?_
      | refine ax_ret_code ?_)
    exact ax_ret hR rfl rfl
  have na := IsQ.self (allE_mem hE a (by simp))
  have nb := IsQ.self (allE_mem hE b (by simp))
  have nc := IsQ.self (allE_mem hE c' (by simp))
  have da := na.dig (k := 400) (by omega) (by decide)
  have db := nb.dig (k := 400) (by omega) (by decide)
  have dc := nc.dig (k := 400) (by omega) (by decide)
  generalize ratV a = x at *
  generalize ratV b = y at *
  generalize ratV c' = z at *
  have dS := db.add dc
  obtain ⟨oS, nS⟩ := dS.out (by decide)
  have p1 := radd_ok b c' hb hc
  rw [nb.two (fun x y => x + y) nc, oS] at p1
  have dX := da.mul dS
  obtain ⟨oX, nX⟩ := dX.out (by decide)
  have p2 := rmul_ok a (textQ (y + z)) ha (text_len nS.fit)
  rw [na.two (fun x y => x * y) nS, oX] at p2
  have dY := da.mul db
  obtain ⟨oY, nY⟩ := dY.out (by decide)
  have p3 := rmul_ok a b ha hb
  rw [na.two (fun x y => x * y) nb, oY] at p3
  have dZ := da.mul dc
  obtain ⟨oZ, nZ⟩ := dZ.out (by decide)
  have p4 := rmul_ok a c' ha hc
  rw [na.two (fun x y => x * y) nc, oZ] at p4
  have p5 := radd_ok _ _ (text_len nY.fit) (text_len nZ.fit)
  rw [nY.two (fun x y => x + y) nZ, ← Rat.mul_add, oX] at p5
  have p6 := rsub_ok _ c' (text_len nS.fit) hc
  rw [nS.two (fun x y => x - y) nc, add_sub_self, nb.out] at p6
  have p7 := rdiv_ok _ b (text_len nY.fit) hb
  rw [nY.div nb] at p7
  have hz := nb.zero
  by_cases h0 : y = 0
  · have hb0 := hz.1 h0
    rw [if_pos h0] at p7
    subst hb0
    clear oS oX oY oZ nS nX nY nZ dS dX dY dZ
    generalize textQ (y + z) = t1 at *
    generalize textQ (x * (y + z)) = t2 at *
    generalize textQ (x * y) = t3 at *
    generalize textQ (x * z) = t4 at *
    unfold pairA at *
    repeat (first
      | refine ax_q (q_move rfl) ?_
      | refine ax_post_code ?_
      | refine ax_seq ?_
      | refine ax_region rfl ?_
      | refine ax_skip ?_)
    refine ax_callv rfl rfl rfl p1 ?_
    repeat (first
      | refine ax_q (q_move rfl) ?_
      | refine ax_q (q_assign rfl) ?_
      | refine ax_ops_nil ?_
      | refine ax_post_code ?_
      | refine ax_seq ?_
      | refine ax_region rfl ?_
      | refine ax_q (q_extract rfl rfl) ?_)
    refine ax_callv rfl rfl rfl p2 ?_
    repeat (first
      | refine ax_q (q_move rfl) ?_
      | refine ax_q (q_assign rfl) ?_
      | refine ax_ops_nil ?_
      | refine ax_post_code ?_
      | refine ax_seq ?_
      | refine ax_region rfl ?_
      | refine ax_q (q_extract rfl rfl) ?_)
    refine ax_callv rfl rfl rfl p3 ?_
    repeat (first
      | refine ax_q (q_move rfl) ?_
      | refine ax_q (q_assign rfl) ?_
      | refine ax_ops_nil ?_
      | refine ax_post_code ?_
      | refine ax_seq ?_
      | refine ax_region rfl ?_
      | refine ax_q (q_extract rfl rfl) ?_)
    refine ax_callv rfl rfl rfl p4 ?_
    repeat (first
      | refine ax_q (q_move rfl) ?_
      | refine ax_q (q_assign rfl) ?_
      | refine ax_ops_nil ?_
      | refine ax_post_code ?_
      | refine ax_seq ?_
      | refine ax_region rfl ?_
      | refine ax_q (q_extract rfl rfl) ?_)
    refine ax_callv rfl rfl rfl p5 ?_
    repeat (first
      | refine ax_q (q_move rfl) ?_
      | refine ax_q (q_assign rfl) ?_
      | refine ax_ops_nil ?_
      | refine ax_post_code ?_
      | refine ax_seq ?_
      | refine ax_region rfl ?_
      | refine ax_q (q_extract rfl rfl) ?_)
    refine ax_callv rfl rfl rfl p6 ?_
    repeat (first
      | refine ax_q (q_move rfl) ?_
      | refine ax_q (q_assign rfl) ?_
      | refine ax_ops_nil ?_
      | refine ax_post_code ?_
      | refine ax_seq ?_
      | refine ax_region rfl ?_
      | refine ax_q (q_extract rfl rfl) ?_)
    refine ax_callv rfl rfl rfl p7 ?_
    repeat (first
      | refine ax_q (q_move rfl) ?_
      | refine ax_q (q_assign rfl) ?_
      | refine ax_ops_nil ?_
      | refine ax_post_code ?_
      | refine ax_seq ?_
      | refine ax_region rfl ?_
      | refine ax_q (q_extract rfl rfl) ?_
      | refine ax_buildSliceRo rfl rfl rfl rfl rfl rfl rfl rfl rfl rfl rfl ?_)
    refine ax_callv rfl rfl rfl hfz ?_
    repeat (first
      | refine ax_q (q_move rfl) ?_
      | refine ax_guard rfl rfl ?_
      | refine ax_q (q_not rfl) ?_
      | refine ax_q (q_pick rfl rfl) ?_
      | refine ax_q (q_strneq rfl rfl) ?_)
    refine ax_gsplit rfl rfl (fun h => absurd rfl h) (fun _ => ?_)
    repeat (first
      | refine ax_q (q_move rfl) ?_
      | refine ax_q (q_assign rfl) ?_
      | refine ax_ops_nil ?_
      | refine ax_post_code ?_
      | refine ax_seq ?_
      | refine ax_region rfl ?_
      | refine ax_guard rfl rfl ?_
      | refine ax_skip_undef rfl rfl ?_
      | refine ax_skip_not rfl rfl rfl ?_
      | refine ax_cond_false rfl ?_
      | refine ax_skip ?_
      | refine ax_return ?_
      | refine ax_q (q_eql rfl rfl) ?_
      | refine ax_q (q_pick rfl rfl) ?_
      | refine ax_q (q_streql rfl rfl) ?_
      | refine ax_q (q_strneq rfl rfl) ?_)
    exact ax_ret hR rfl rfl
  · have hb0 : ¬ b = [48] := fun e => h0 (hz.2 e)
    rw [if_neg h0, Rat.mul_div_cancel h0, na.out] at p7
    clear oS oX oY oZ nS nX nY nZ dS dX dY dZ
    generalize textQ (y + z) = t1 at *
    generalize textQ (x * (y + z)) = t2 at *
    generalize textQ (x * y) = t3 at *
    generalize textQ (x * z) = t4 at *
    unfold pairA at *
    repeat (first
      | refine ax_q (q_move rfl) ?_
      | refine ax_post_code ?_
      | refine ax_seq ?_
      | refine ax_region rfl ?_
      | refine ax_skip ?_)
    refine ax_callv rfl rfl rfl p1 ?_
    repeat (first
      | refine ax_q (q_move rfl) ?_
      | refine ax_q (q_assign rfl) ?_
      | refine ax_ops_nil ?_
      | refine ax_post_code ?_
      | refine ax_seq ?_
      | refine ax_region rfl ?_
      | refine ax_q (q_extract rfl rfl) ?_)
    refine ax_callv rfl rfl rfl p2 ?_
    repeat (first
      | refine ax_q (q_move rfl) ?_
      | refine ax_q (q_assign rfl) ?_
      | refine ax_ops_nil ?_
      | refine ax_post_code ?_
      | refine ax_seq ?_
      | refine ax_region rfl ?_
      | refine ax_q (q_extract rfl rfl) ?_)
    refine ax_callv rfl rfl rfl p3 ?_
    repeat (first
      | refine ax_q (q_move rfl) ?_
      | refine ax_q (q_assign rfl) ?_
      | refine ax_ops_nil ?_
      | refine ax_post_code ?_
      | refine ax_seq ?_
      | refine ax_region rfl ?_
      | refine ax_q (q_extract rfl rfl) ?_)
    refine ax_callv rfl rfl rfl p4 ?_
    repeat (first
      | refine ax_q (q_move rfl) ?_
      | refine ax_q (q_assign rfl) ?_
      | refine ax_ops_nil ?_
      | refine ax_post_code ?_
      | refine ax_seq ?_
      | refine ax_region rfl ?_
      | refine ax_q (q_extract rfl rfl) ?_)
    refine ax_callv rfl rfl rfl p5 ?_
    repeat (first
      | refine ax_q (q_move rfl) ?_
      | refine ax_q (q_assign rfl) ?_
      | refine ax_ops_nil ?_
      | refine ax_post_code ?_
      | refine ax_seq ?_
      | refine ax_region rfl ?_
      | refine ax_q (q_extract rfl rfl) ?_)
    refine ax_callv rfl rfl rfl p6 ?_
    repeat (first
      | refine ax_q (q_move rfl) ?_
      | refine ax_q (q_assign rfl) ?_
      | refine ax_ops_nil ?_
      | refine ax_post_code ?_
      | refine ax_seq ?_
      | refine ax_region rfl ?_
      | refine ax_q (q_extract rfl rfl) ?_)
    refine ax_callv rfl rfl rfl p7 ?_
    repeat (first
      | refine ax_q (q_move rfl) ?_
      | refine ax_q (q_assign rfl) ?_
      | refine ax_ops_nil ?_
      | refine ax_post_code ?_
      | refine ax_seq ?_
      | refine ax_region rfl ?_
      | refine ax_q (q_extract rfl rfl) ?_
      | refine ax_buildSliceRo rfl rfl rfl rfl rfl rfl rfl rfl rfl rfl rfl ?_)
    refine ax_callv rfl rfl rfl hfz ?_
    repeat (first
      | refine ax_q (q_move rfl) ?_
      | refine ax_guard rfl rfl ?_
      | refine ax_q (q_not rfl) ?_
      | refine ax_q (q_pick rfl rfl) ?_
      | refine ax_q (q_strneq rfl rfl) ?_)
    refine ax_gsplit rfl rfl (fun h => absurd rfl h) (fun _ => ?_)
    repeat (first
      | refine ax_q (q_move rfl) ?_
      | refine ax_ops_nil ?_
      | refine ax_post_code ?_
      | refine ax_guard rfl rfl ?_
      | refine ax_q (q_pick rfl rfl) ?_
      | refine ax_q (q_strneq rfl rfl) ?_)
    refine ax_cond_dec rfl (fun h => absurd rfl h) (fun _ => ?_)
    repeat (first
      | refine ax_q (q_move rfl) ?_
      | refine ax_post_code ?_
      | refine ax_seq ?_
      | refine ax_region rfl ?_
      | refine ax_skip ?_
      | refine ax_q (q_streql rfl rfl) ?_)
    refine ax_gsplit rfl rfl (fun h => absurd h hb0) (fun _ => ?_)
    repeat (first
      | refine ax_q (q_move rfl) ?_
      | refine ax_guard rfl rfl ?_
      | refine ax_skip_not rfl rfl rfl ?_
      | refine ax_q (q_pick rfl rfl) ?_
      | refine ax_q (q_strneq rfl rfl) ?_)
    refine ax_gsplit rfl rfl (fun h => ?_) (fun h => absurd hb0 h)
    repeat (first
      | refine ax_q (q_move rfl) ?_
      | refine ax_q (q_assign rfl) ?_
      | refine ax_ops_nil ?_
      | refine ax_post_code ?_
      | refine ax_guard rfl rfl ?_
      | refine ax_return ?_
      | refine ax_q (q_eql rfl rfl) ?_
      | refine ax_q (q_pick rfl rfl) ?_
      | refine ax_q (q_streql rfl rfl) ?_)
    refine ax_ret hR rfl ?_
    simp [tupOf]
end Go.Proofs.YtbeegiiiochblaaGreatDoor

namespace Go.Proofs.YtbeegiiiochblaaGreatDoor
open Go.Ax Go.Ax.Bg Go.Ax.Rt Go.RowKit
attribute [local irreducible] Ax Post QOp ACall PureOp
set_option maxRecDepth 100000
set_option maxHeartbeats 4000000

theorem num_lt {q : Rat} : q.num < 0 ↔ q < 0 := by
  rw [Rat.lt_iff]
  show _ ↔ q.num * 1 < 0 * (q.den : Int)
  omega
theorem sub_lt {x y : Rat} : x - y < 0 ↔ x < y := by
  have h := @Rat.add_lt_add_right (x - y) 0 y
  rw [Rat.sub_add_cancel, Rat.zero_add] at h
  exact h.symm
theorem sub_zero_iff {x y : Rat} : x - y = 0 ↔ x = y :=
  ⟨fun h => by have e := Rat.sub_add_cancel (a := x) (b := y); rw [h, Rat.zero_add] at e; exact e.symm, fun h => by rw [h, Rat.sub_self]⟩
theorem sgn_sub (x y : Rat) : sgn (x - y).num = cmpQ x y := by
  unfold sgn cmpQ
  have h1 : (x - y).num < 0 ↔ x < y := num_lt.trans sub_lt
  have h2 : (x - y).num = 0 ↔ x = y := Rat.num_eq_zero.trans sub_zero_iff
  simp only [h1, h2]
theorem sgn_negq (q : Rat) : sgn (-q).num = -sgn q.num := by
  show sgn (-q.num) = _
  unfold sgn
  generalize q.num = n
  rcases Int.lt_trichotomy n 0 with h | h | h
  · rw [if_neg (by omega), if_neg (by omega), if_pos h]; rfl
  · subst h; rfl
  · rw [if_pos (by omega), if_neg (by omega), if_neg (by omega)]
theorem cmp_addr (x y z : Rat) : cmpQ (x + z) (y + z) = cmpQ x y := by
  unfold cmpQ
  have h1 : x + z < y + z ↔ x < y := Rat.add_lt_add_right
  have h2 : x + z = y + z ↔ x = y := ⟨fun h => by have := congrArg (fun t => t - z) h; simpa [add_sub_self] using this, fun h => by rw [h]⟩
  simp only [h1, h2]
theorem cmp_zero {x y : Rat} : cmpQ x y = 0 ↔ x = y := by
  unfold cmpQ
  split
  · rename_i h; exact ⟨fun e => absurd e (by decide), fun e => absurd (e ▸ h) (Rat.lt_irrefl)⟩
  · split
    · rename_i h; exact ⟨fun _ => h, fun _ => rfl⟩
    · rename_i h; exact ⟨fun e => absurd e (by decide), fun e => absurd e h⟩
theorem RatOrder_law (a b c' : List UInt8) (ha : a.length ≤ 9223372036854775807) (hb : b.length ≤ 9223372036854775807) (hc : c'.length ≤ 9223372036854775807) : VCall Tryz.prog 8 [.str a, .str b, .str c'] (.bool true) := by
  have hfz : VCall Tryz.prog 16 [.ro (.ints .i64 [0, 0, 0, 0, 0, 0, 0, 0]) 0 8] (.bool true) := fineZZ 8 (by decide)
  have hca := checkAll_ok [a, b, c'] (by show 3 ≤ _; decide) (by intro s hs; simp at hs; rcases hs with rfl | rfl | rfl <;> assumption)
  refine ACall.value0 (acall_of_ax (P := Tryz.prog) (fn := Tryz.f8) rfl rfl (by kernel_rfl) rfl (fun c hR hfix => ?_)) (fix := fun _ => False) (fun _ h => h) rfl rfl
  by_cases hE : allE [a, b, c'] = 0
  case neg =>
    generalize allE [a, b, c'] = e at *
    repeat (first
      | refine ax_q (q_assign rfl) ?_
      | refine ax_ops_nil ?_
      | refine ax_post_code ?_
      | refine ax_seq ?_
      | refine ax_region rfl ?_)
    refine ax_callv rfl rfl rfl ratFact ?_
    repeat (first
      | refine ax_q (q_move rfl) ?_
      | refine ax_ops_nil ?_
      | refine ax_post_code ?_
      | refine ax_seq ?_
      | refine ax_region rfl ?_
      | refine ax_cond_false rfl ?_
      | refine ax_skip ?_
      | refine ax_q (q_not rfl) ?_
      | refine ax_buildSliceRo rfl rfl rfl rfl rfl rfl rfl rfl rfl rfl rfl ?_)
    refine ax_callv rfl rfl rfl hca ?_
    repeat (first
      | refine ax_q (q_move rfl) ?_
      | refine ax_q (q_neq rfl rfl) ?_)
    refine ax_gsplit rfl rfl (fun h1 => ?_) (fun h1 => absurd hE h1)
    repeat (first
      | refine ax_q (q_assign rfl) ?_
      | refine ax_ops_nil ?_
      | refine ax_post_code ?_
      | refine ax_seq ?_
      | refine ax_region rfl ?_
      | refine ax_skip_not rfl rfl rfl ?_
      | refine ax_cond_true rfl ?_
      | refine ax_return ?_
      | refine ax_ret_code ?_
      | refine ax_q (q_pick rfl rfl) ?_)
    exact ax_ret hR rfl rfl
  rw [hE] at hca
  have la := len_of (allE_mem hE a (by simp))
  have lb := len_of (allE_mem hE b (by simp))
  have lc := len_of (allE_mem hE c' (by simp))
  repeat (first
    | refine ax_q (q_assign rfl) ?_
    | refine ax_ops_nil ?_
    | refine ax_post_code ?_
    | refine ax_seq ?_
    | refine ax_region rfl ?_)
  refine ax_callv rfl rfl rfl ratFact ?_
  repeat (first
    | refine ax_q (q_move rfl) ?_
    | refine ax_ops_nil ?_
    | refine ax_post_code ?_
    | refine ax_seq ?_
    | refine ax_region rfl ?_
    | refine ax_cond_false rfl ?_
    | refine ax_skip ?_
    | refine ax_q (q_not rfl) ?_
    | refine ax_buildSliceRo rfl rfl rfl rfl rfl rfl rfl rfl rfl rfl rfl ?_)
  refine ax_callv rfl rfl rfl hca ?_
  repeat (first
    | refine ax_q (q_move rfl) ?_
    | refine ax_ops_nil ?_
    | refine ax_post_code ?_
    | refine ax_guard rfl rfl ?_
    | refine ax_q (q_neq rfl rfl) ?_
    | refine ax_q (q_gtr rfl rfl) ?_
    | refine ax_q (q_pick rfl rfl) ?_
    | refine ax_q (q_lenstr rfl rfl) ?_
    | refine ax_q (q_add rfl rfl (by omega)) ?_)
  refine ax_cond_dec rfl (fun h1 => ?_) (fun h1 => ?_)
  · repeat (first
      | refine ax_q (q_assign rfl) ?_
      | refine ax_ops_nil ?_
      | refine ax_post_code ?_
      | refine ax_seq ?_
      | refine ax_region rfl ?_
      | refine ax_return ?_
      | refine ax_ret_code ?_)
    exact ax_ret hR rfl rfl
  have na := IsQ.self (allE_mem hE a (by simp))
  have nb := IsQ.self (allE_mem hE b (by simp))
  have nc := IsQ.self (allE_mem hE c' (by simp))
  have da := na.dig (k := 400) (by omega) (by decide)
  have db := nb.dig (k := 400) (by omega) (by decide)
  have dc := nc.dig (k := 400) (by omega) (by decide)
  generalize ratV a = x at *
  generalize ratV b = y at *
  generalize ratV c' = z at *
  have p1 := rcmp_ok a b ha hb
  rw [na.cmp nb] at p1
  have dS := da.sub db
  obtain ⟨oS, nS⟩ := dS.out (by decide)
  have p2 := rsub_ok a b ha hb
  rw [na.two (fun x y => x - y) nb, oS] at p2
  have p3 := rsign_ok _ (text_len nS.fit)
  rw [nS.sign, sgn_sub] at p3
  have dX := da.add dc
  obtain ⟨oX, nX⟩ := dX.out (by decide)
  have p4 := radd_ok a c' ha hc
  rw [na.two (fun x y => x + y) nc, oX] at p4
  have dY := db.add dc
  obtain ⟨oY, nY⟩ := dY.out (by decide)
  have p5 := radd_ok b c' hb hc
  rw [nb.two (fun x y => x + y) nc, oY] at p5
  have p6 := rcmp_ok _ _ (text_len nX.fit) (text_len nY.fit)
  rw [nX.cmp nY, cmp_addr] at p6
  have dN := dS.neg
  obtain ⟨oN, nN⟩ := dN.out (by decide)
  have p7 := rneg_ok _ (text_len nS.fit)
  rw [nS.one (fun x => -x), oN] at p7
  have p8 := rsign_ok _ (text_len nN.fit)
  rw [nN.sign, sgn_negq, sgn_sub] at p8
  have hk : cmpQ x y = 0 ↔ a = b := cmp_zero.trans ⟨fun e => by subst e; exact na.inj nb, fun e => by subst e; rw [← na.2, ← nb.2]⟩
  have hb1 : -1 ≤ cmpQ x y ∧ cmpQ x y ≤ 1 := by
    unfold cmpQ
    split
    · decide
    · split <;> decide
  clear oS oX oY oN nS nX nY nN dS dX dY dN
  generalize textQ (x - y) = t1 at *
  generalize textQ (x + z) = t2 at *
  generalize textQ (y + z) = t3 at *
  generalize textQ (-(x - y)) = t4 at *
  generalize cmpQ x y = k at *
  unfold pairA at *
  repeat (first
    | refine ax_q (q_move rfl) ?_
    | refine ax_post_code ?_
    | refine ax_seq ?_
    | refine ax_region rfl ?_
    | refine ax_skip ?_)
  refine ax_callv rfl rfl rfl p1 ?_
  repeat (first
    | refine ax_q (q_move rfl) ?_
    | refine ax_q (q_assign rfl) ?_
    | refine ax_ops_nil ?_
    | refine ax_post_code ?_
    | refine ax_seq ?_
    | refine ax_region rfl ?_
    | refine ax_q (q_extract rfl rfl) ?_)
  refine ax_callv rfl rfl rfl p2 ?_
  repeat (first
    | refine ax_q (q_move rfl) ?_
    | refine ax_q (q_assign rfl) ?_
    | refine ax_ops_nil ?_
    | refine ax_post_code ?_
    | refine ax_seq ?_
    | refine ax_region rfl ?_
    | refine ax_q (q_extract rfl rfl) ?_)
  refine ax_callv rfl rfl rfl p3 ?_
  repeat (first
    | refine ax_q (q_move rfl) ?_
    | refine ax_q (q_assign rfl) ?_
    | refine ax_ops_nil ?_
    | refine ax_post_code ?_
    | refine ax_seq ?_
    | refine ax_region rfl ?_
    | refine ax_q (q_extract rfl rfl) ?_)
  refine ax_callv rfl rfl rfl p4 ?_
  repeat (first
    | refine ax_q (q_move rfl) ?_
    | refine ax_q (q_assign rfl) ?_
    | refine ax_ops_nil ?_
    | refine ax_post_code ?_
    | refine ax_seq ?_
    | refine ax_region rfl ?_
    | refine ax_q (q_extract rfl rfl) ?_)
  refine ax_callv rfl rfl rfl p5 ?_
  repeat (first
    | refine ax_q (q_move rfl) ?_
    | refine ax_q (q_assign rfl) ?_
    | refine ax_ops_nil ?_
    | refine ax_post_code ?_
    | refine ax_seq ?_
    | refine ax_region rfl ?_
    | refine ax_q (q_extract rfl rfl) ?_)
  refine ax_callv rfl rfl rfl p6 ?_
  repeat (first
    | refine ax_q (q_move rfl) ?_
    | refine ax_q (q_assign rfl) ?_
    | refine ax_ops_nil ?_
    | refine ax_post_code ?_
    | refine ax_seq ?_
    | refine ax_region rfl ?_
    | refine ax_q (q_extract rfl rfl) ?_)
  refine ax_callv rfl rfl rfl p7 ?_
  repeat (first
    | refine ax_q (q_move rfl) ?_
    | refine ax_q (q_assign rfl) ?_
    | refine ax_ops_nil ?_
    | refine ax_post_code ?_
    | refine ax_seq ?_
    | refine ax_region rfl ?_
    | refine ax_q (q_extract rfl rfl) ?_)
  refine ax_callv rfl rfl rfl p8 ?_
  repeat (first
    | refine ax_q (q_move rfl) ?_
    | refine ax_q (q_assign rfl) ?_
    | refine ax_ops_nil ?_
    | refine ax_post_code ?_
    | refine ax_seq ?_
    | refine ax_region rfl ?_
    | refine ax_q (q_extract rfl rfl) ?_
    | refine ax_buildSliceRo rfl rfl rfl rfl rfl rfl rfl rfl rfl rfl rfl ?_)
  refine ax_callv rfl rfl rfl hfz ?_
  repeat (first
    | refine ax_q (q_move rfl) ?_
    | refine ax_guard rfl rfl ?_
    | refine ax_q (q_eql rfl rfl) ?_
    | refine ax_q (q_pick rfl rfl) ?_)
  refine ax_gsplit rfl rfl (fun _ => ?_) (fun h => absurd rfl h)
  repeat (first
    | refine ax_q (q_move rfl) ?_
    | refine ax_guard rfl rfl ?_
    | refine ax_q (q_eql rfl rfl) ?_
    | refine ax_q (q_pick rfl rfl) ?_)
  refine ax_gsplit rfl rfl (fun _ => ?_) (fun h => absurd rfl h)
  repeat (first
    | refine ax_q (q_move rfl) ?_
    | refine ax_guard rfl rfl ?_)
  refine ax_q (q_neg rfl (by show _ ≤ k ∧ k ≤ _; omega)) ?_
  repeat (first
    | refine ax_q (q_move rfl) ?_
    | refine ax_guard rfl rfl ?_
    | refine ax_q (q_eql rfl rfl) ?_
    | refine ax_q (q_pick rfl rfl) ?_)
  refine ax_gsplit rfl rfl (fun _ => ?_) (fun h => absurd rfl h)
  repeat (first
    | refine ax_q (q_move rfl) ?_
    | refine ax_q (q_assign rfl) ?_
    | refine ax_ops_nil ?_
    | refine ax_post_code ?_
    | refine ax_guard rfl rfl ?_
    | refine ax_return ?_
    | refine ax_q (q_eql rfl rfl) ?_
    | refine ax_q (q_pick rfl rfl) ?_
    | refine ax_q (q_streql rfl rfl) ?_
    | refine ax_q (q_booleq rfl rfl rfl) ?_)
  refine ax_ret hR rfl ?_
  simp [tupOf, hk]

end Go.Proofs.YtbeegiiiochblaaGreatDoor

/-
  Floors and shares. No program in sight.
-/
namespace Go.Ax.Rt
open Go.Ax.Bg

theorem oneR_bad {F : Rat → Rat} {a : List UInt8} (h : (oneR F a).2 ≠ 0) : (oneR F a).1 = [] := by
  unfold oneR outF at *
  split
  · rename_i h1
    rw [if_pos h1] at h
    split
    · rename_i h2; rw [if_pos h2] at h; exact absurd rfl h
    · rfl
  · rfl
theorem oneR_good {F : Rat → Rat} {a : List UInt8} (h : (oneR F a).2 = 0) : ratE a = 0 ∧ fitB (F (ratV a)) = true := by
  unfold oneR outF at h
  split at h
  · rename_i h1
    split at h
    · rename_i h2; exact ⟨h1, h2⟩
    · cases h
  · rename_i h1; exact absurd h h1
theorem floor_div (x : Rat) : x.floor = x.num / (x.den : Int) := by
  unfold Rat.floor
  split
  · rename_i h; rw [h]; simp
  · rfl
theorem fpart (x : Rat) : x - (x.floor : Rat) = Rat.divInt (x.num % x.den) x.den := by
  have hd : (x.den : Int) ≠ 0 := by have := x.den_nz; omega
  have h1 : x - (x.floor : Rat) = Rat.divInt x.num x.den - Rat.divInt x.floor 1 := by rw [Rat.num_divInt_den]; congr 1; rw [← Rat.num_divInt_den (x.floor : Rat)]; rfl
  rw [h1, Rat.divInt_sub_divInt _ _ hd (by decide), Int.mul_one, Int.mul_one, floor_div, Int.emod_def, Int.mul_comm]
theorem fpart_D {k : Nat} {x : Rat} (h : D k x) : D k (x - (x.floor : Rat)) := by
  have hd : (x.den : Int) ≠ 0 := by have := x.den_nz; omega
  have h1 := Int.emod_nonneg x.num hd
  have h2 := Int.emod_lt_of_pos x.num (show (0 : Int) < x.den by omega)
  have h3 := h.2
  rw [fpart]
  refine d_frac hd ?_ (by rw [Int.natAbs_natCast]; exact h3)
  exact Nat.lt_trans (show (x.num % x.den).natAbs < x.den by omega) h3
theorem fpart_sgn (x : Rat) : 0 ≤ sgn (x - (x.floor : Rat)).num := by
  have h : (0 : Rat) ≤ x - (x.floor : Rat) := by
    have := Rat.floor_le x
    have h2 := (Rat.add_le_add_right (c := -(x.floor : Rat))).2 this
    rwa [Rat.add_neg_cancel, ← Rat.sub_eq_add_neg] at h2
  have h2 := Rat.num_nonneg.2 h
  unfold sgn
  rw [if_neg (by omega)]
  split <;> decide
theorem fpart_cmp (x : Rat) : cmpQ (x - (x.floor : Rat)) 1 < 0 := by
  have h : x - (x.floor : Rat) < 1 := by
    have h1 := Rat.lt_floor_add_one x
    have h2 := (Rat.add_lt_add_right (c := -(x.floor : Rat))).2 h1
    rw [Rat.intCast_add, Rat.add_comm (x.floor : Rat), Rat.add_assoc, Rat.add_neg_cancel, Rat.add_zero, ← Rat.sub_eq_add_neg] at h2
    exact h2
  unfold cmpQ
  rw [if_pos h]; decide
theorem floor_fit {x : Rat} {k : Nat} (h : D k x) (hk : 1 ≤ k) : (x.floor : Rat).num.natAbs ≤ x.num.natAbs := by
  show x.floor.natAbs ≤ _
  rw [floor_div]
  exact Int.natAbs_ediv_le_natAbs _ _
end Go.Ax.Rt

namespace Go.Proofs.YtbeegiiiochblaaGreatDoor
open Go.Ax Go.Ax.Bg Go.Ax.Rt Go.RowKit
attribute [local irreducible] Ax Post QOp ACall PureOp
set_option maxRecDepth 100000
set_option maxHeartbeats 4000000

theorem RatFloors_law (a : List UInt8) (ha : a.length ≤ 9223372036854775807) : VCall Tryz.prog 9 [.str a] (.bool true) := by
  have hfz : VCall Tryz.prog 16 [.ro (.ints .i64 [0, 0, 0, 0]) 0 4] (.bool true) := fineZZ 4 (by decide)
  have p0 := rfloor_ok a ha
  refine ACall.value0 (acall_of_ax (P := Tryz.prog) (fn := Tryz.f9) rfl rfl (by kernel_rfl) rfl (fun c hR hfix => ?_)) (fix := fun _ => False) (fun _ h => h) rfl rfl
  by_cases hE : (oneR (fun x => (x.floor : Rat)) a).2 = 0
  case neg =>
    have hb := oneR_bad hE
    generalize oneR (fun x => (x.floor : Rat)) a = e at *
    obtain ⟨e1, e2⟩ := e
    simp only at hE hb
    subst hb
    unfold pairA at *
    repeat (first
      | refine ax_q (q_assign rfl) ?_
      | refine ax_ops_nil ?_
      | refine ax_post_code ?_
      | refine ax_seq ?_
      | refine ax_region rfl ?_)
    refine ax_callv rfl rfl rfl ratFact ?_
    repeat (first
      | refine ax_q (q_move rfl) ?_
      | refine ax_ops_nil ?_
      | refine ax_post_code ?_
      | refine ax_seq ?_
      | refine ax_region rfl ?_
      | refine ax_cond_false rfl ?_
      | refine ax_skip ?_
      | refine ax_q (q_not rfl) ?_)
    refine ax_callv rfl rfl rfl p0 ?_
    repeat (first
      | refine ax_q (q_move rfl) ?_
      | refine ax_q (q_assign rfl) ?_
      | refine ax_ops_nil ?_
      | refine ax_post_code ?_
      | refine ax_seq ?_
      | refine ax_region rfl ?_
      | refine ax_q (q_neq rfl rfl) ?_
      | refine ax_q (q_extract rfl rfl) ?_)
    refine ax_gsplit rfl rfl (fun _ => ?_) (fun h => absurd hE h)
    repeat (first
      | refine ax_q (q_move rfl) ?_
      | refine ax_ops_nil ?_
      | refine ax_post_code ?_
      | refine ax_seq ?_
      | refine ax_region rfl ?_
      | refine ax_skip_not rfl rfl rfl ?_
      | refine ax_cond_true rfl ?_
      | refine ax_q (q_eql rfl rfl) ?_
      | refine ax_q (q_pick rfl rfl) ?_)
    refine ax_gsplit rfl rfl (fun h => absurd h hE) (fun _ => ?_)
    repeat (first
      | refine ax_q (q_move rfl) ?_
      | refine ax_q (q_assign rfl) ?_
      | refine ax_ops_nil ?_
      | refine ax_post_code ?_
      | refine ax_guard rfl rfl ?_
      | refine ax_return ?_
      | refine ax_ret_code ?_
      | refine ax_q (q_pick rfl rfl) ?_
      | refine ax_q (q_streql rfl rfl) ?_)
    exact ax_ret hR rfl rfl
  obtain ⟨hr, hfit⟩ := oneR_good hE
  have na := IsQ.self hr
  have la := len_of hr
  generalize hx : ratV a = x at *
  have nF := isQ_of hfit
  rw [na.one (fun x => (x.floor : Rat)), nF.out] at p0
  clear hE
  by_cases hlen : 1900 < a.length
  · generalize textQ (x.floor : Rat) = t0 at *
    unfold pairA at *
    repeat (first
      | refine ax_q (q_assign rfl) ?_
      | refine ax_ops_nil ?_
      | refine ax_post_code ?_
      | refine ax_seq ?_
      | refine ax_region rfl ?_)
    refine ax_callv rfl rfl rfl ratFact ?_
    repeat (first
      | refine ax_q (q_move rfl) ?_
      | refine ax_ops_nil ?_
      | refine ax_post_code ?_
      | refine ax_seq ?_
      | refine ax_region rfl ?_
      | refine ax_cond_false rfl ?_
      | refine ax_skip ?_
      | refine ax_q (q_not rfl) ?_)
    refine ax_callv rfl rfl rfl p0 ?_
    repeat (first
      | refine ax_q (q_move rfl) ?_
      | refine ax_q (q_assign rfl) ?_
      | refine ax_ops_nil ?_
      | refine ax_post_code ?_
      | refine ax_seq ?_
      | refine ax_region rfl ?_
      | refine ax_guard rfl rfl ?_
      | refine ax_q (q_neq rfl rfl) ?_
      | refine ax_q (q_gtr rfl rfl) ?_
      | refine ax_q (q_pick rfl rfl) ?_
      | refine ax_q (q_extract rfl rfl) ?_
      | refine ax_q (q_lenstr rfl rfl) ?_)
    refine ax_cond_dec rfl (fun _ => ?_) (fun h => absurd (show (1900 : Int) < a.length by omega) h)
    repeat (first
      | refine ax_q (q_move rfl) ?_
      | refine ax_q (q_assign rfl) ?_
      | refine ax_ops_nil ?_
      | refine ax_post_code ?_
      | refine ax_seq ?_
      | refine ax_region rfl ?_
      | refine ax_skip_not rfl rfl rfl ?_
      | refine ax_return ?_
      | refine ax_ret_code ?_
      | refine ax_q (q_eql rfl rfl) ?_
      | refine ax_q (q_pick rfl rfl) ?_)
    exact ax_ret hR rfl rfl
  have da := na.dig (k := 1900) (by omega) (by decide)
  have dS := fpart_D da
  obtain ⟨oS, nS⟩ := dS.out (by decide)
  have p1 := rsub_ok a (textQ (x.floor : Rat)) ha (text_len hfit)
  rw [na.two (fun x y => x - y) nF, oS] at p1
  have p2 := rsign_ok _ (text_len nS.fit)
  rw [nS.sign] at p2
  have h2 := fpart_sgn x
  have p3 := rcmp_ok _ [49] (text_len nS.fit) (by decide)
  rw [nS.cmp q_1] at p3
  have h3 : cmpQ (x - (x.floor : Rat)) (Rat.divInt 1 1) < 0 := fpart_cmp x
  have p4 := rfloor_ok _ (text_len hfit)
  rw [nF.one (fun x => (x.floor : Rat)), Rat.floor_intCast, nF.out] at p4
  clear oS nS dS
  generalize textQ (x.floor : Rat) = t0 at *
  generalize textQ (x - (x.floor : Rat)) = t1 at *
  generalize sgn (x - (x.floor : Rat)).num = s at *
  generalize cmpQ (x - (x.floor : Rat)) (Rat.divInt 1 1) = k at *
  unfold pairA at *
  repeat (first
    | refine ax_q (q_assign rfl) ?_
    | refine ax_ops_nil ?_
    | refine ax_post_code ?_
    | refine ax_seq ?_
    | refine ax_region rfl ?_)
  refine ax_callv rfl rfl rfl ratFact ?_
  repeat (first
    | refine ax_q (q_move rfl) ?_
    | refine ax_ops_nil ?_
    | refine ax_post_code ?_
    | refine ax_seq ?_
    | refine ax_region rfl ?_
    | refine ax_cond_false rfl ?_
    | refine ax_skip ?_
    | refine ax_q (q_not rfl) ?_)
  refine ax_callv rfl rfl rfl p0 ?_
  repeat (first
    | refine ax_q (q_move rfl) ?_
    | refine ax_q (q_assign rfl) ?_
    | refine ax_ops_nil ?_
    | refine ax_post_code ?_
    | refine ax_seq ?_
    | refine ax_region rfl ?_
    | refine ax_guard rfl rfl ?_
    | refine ax_q (q_neq rfl rfl) ?_
    | refine ax_q (q_gtr rfl rfl) ?_
    | refine ax_q (q_pick rfl rfl) ?_
    | refine ax_q (q_extract rfl rfl) ?_
    | refine ax_q (q_lenstr rfl rfl) ?_)
  refine ax_cond_dec rfl (fun h => absurd (show (1900 : Int) < a.length from h) (by omega)) (fun _ => ?_)
  repeat (first
    | refine ax_q (q_move rfl) ?_
    | refine ax_post_code ?_
    | refine ax_seq ?_
    | refine ax_region rfl ?_
    | refine ax_skip ?_)
  refine ax_callv rfl rfl rfl p1 ?_
  repeat (first
    | refine ax_q (q_move rfl) ?_
    | refine ax_q (q_assign rfl) ?_
    | refine ax_ops_nil ?_
    | refine ax_post_code ?_
    | refine ax_seq ?_
    | refine ax_region rfl ?_
    | refine ax_q (q_extract rfl rfl) ?_)
  refine ax_callv rfl rfl rfl p2 ?_
  repeat (first
    | refine ax_q (q_move rfl) ?_
    | refine ax_q (q_assign rfl) ?_
    | refine ax_ops_nil ?_
    | refine ax_post_code ?_
    | refine ax_seq ?_
    | refine ax_region rfl ?_
    | refine ax_q (q_extract rfl rfl) ?_)
  refine ax_callv rfl rfl rfl p3 ?_
  repeat (first
    | refine ax_q (q_move rfl) ?_
    | refine ax_q (q_assign rfl) ?_
    | refine ax_ops_nil ?_
    | refine ax_post_code ?_
    | refine ax_seq ?_
    | refine ax_region rfl ?_
    | refine ax_q (q_extract rfl rfl) ?_)
  refine ax_callv rfl rfl rfl p4 ?_
  repeat (first
    | refine ax_q (q_move rfl) ?_
    | refine ax_q (q_assign rfl) ?_
    | refine ax_ops_nil ?_
    | refine ax_post_code ?_
    | refine ax_seq ?_
    | refine ax_region rfl ?_
    | refine ax_q (q_extract rfl rfl) ?_
    | refine ax_buildSliceRo rfl rfl rfl rfl rfl rfl rfl rfl rfl rfl rfl ?_)
  refine ax_callv rfl rfl rfl hfz ?_
  repeat (first
    | refine ax_q (q_move rfl) ?_
    | refine ax_guard rfl rfl ?_
    | refine ax_q (q_geq rfl rfl) ?_
    | refine ax_q (q_pick rfl rfl) ?_)
  refine ax_gsplit rfl rfl (fun _ => ?_) (fun h => absurd h2 h)
  repeat (first
    | refine ax_q (q_move rfl) ?_
    | refine ax_guard rfl rfl ?_
    | refine ax_q (q_lss rfl rfl) ?_
    | refine ax_q (q_pick rfl rfl) ?_)
  refine ax_gsplit rfl rfl (fun _ => ?_) (fun h => absurd h3 h)
  repeat (first
    | refine ax_q (q_move rfl) ?_
    | refine ax_q (q_assign rfl) ?_
    | refine ax_ops_nil ?_
    | refine ax_post_code ?_
    | refine ax_guard rfl rfl ?_
    | refine ax_return ?_
    | refine ax_q (q_pick rfl rfl) ?_
    | refine ax_q (q_streql rfl rfl) ?_)
  refine ax_ret hR rfl ?_
  simp [tupOf]
end Go.Proofs.YtbeegiiiochblaaGreatDoor

/-
  Shares of shares. No program in sight.
-/
namespace Go.Ax.Rt
open Go.Ax.Bg

theorem add_div (a b s : Rat) : (a + b) / s = a / s + b / s := by rw [Rat.div_def, Rat.div_def, Rat.div_def, Rat.add_mul]
theorem zero_div (s : Rat) : 0 / s = 0 := by rw [Rat.div_def, Rat.zero_mul]
theorem div_one (q : Rat) : q / 1 = q := by
  have := Rat.mul_div_cancel (a := q) (b := 1) (by decide)
  rwa [Rat.mul_one] at this
theorem div_self {s : Rat} (h : s ≠ 0) : s / s = 1 := by rw [Rat.div_def, Rat.mul_inv_cancel _ h]
theorem div_lt_div {a b s : Rat} (h : 0 < s) : a / s < b / s ↔ a < b := by rw [Rat.div_def, Rat.div_def]; exact Rat.mul_lt_mul_right (Rat.inv_pos.2 h)
theorem div_inj {a b s : Rat} (h : s ≠ 0) : a / s = b / s ↔ a = b := ⟨fun e => by have := congrArg (· * s) e; simpa [Rat.div_mul_cancel h] using this, fun e => by rw [e]⟩
theorem cmp_div {a b s : Rat} (h : 0 < s) : cmpQ (a / s) (b / s) = cmpQ a b := by
  have h0 : s ≠ 0 := fun e => by rw [e] at h; exact Rat.lt_irrefl h
  unfold cmpQ
  simp only [div_lt_div h, div_inj h0]
theorem bestK_div {s : Rat} (h : 0 < s) (x : List Rat) : ∀ k, bestK (x.map (fun q => q / s)) k = bestK x k
  | 0 => rfl
  | k + 1 => by
    rw [bestK, bestK, bestK_div h x k]
    have e : ∀ i, (x.map (fun q => q / s)).getD i 0 = x.getD i 0 / s := by
      intro i
      by_cases hi : i < x.length
      · simp [List.getD, hi]
      · simp [List.getD, hi, zero_div]
    rw [e, e, cmp_div h]
theorem sumL_D : ∀ (qs : List Rat) (acc : Rat) (j : Nat), D j acc → (∀ q ∈ qs, D 40 q) → (sumL acc qs).2 = 0 → D (j + 41 * qs.length) (sumL acc qs).1
  | [], acc, j, h, _, _ => h
  | q :: r, acc, j, h, hq, h0 => by
    rw [sumL] at h0 ⊢
    split at h0
    · rename_i hf
      rw [if_pos hf]
      have := sumL_D r (acc + q) (j + 40 + 1) (h.add (hq q (by simp))) (fun x hx => hq x (by simp [hx])) h0
      refine this.mono ?_
      rw [List.length_cons]; omega
    · cases h0
theorem sumL_share {s : Rat} {m : Nat} (hs : s ≠ 0) (ds : D m s) : ∀ (qs : List Rat) (acc : Rat) (j : Nat), D j acc → (∀ q ∈ qs, D 40 q) → j + 41 * qs.length + m ≤ 2000 → (sumL acc qs).2 = 0 →
    sumL (acc / s) (qs.map (fun q => q / s)) = ((sumL acc qs).1 / s, 0)
  | [], acc, j, h, _, _, _ => rfl
  | q :: r, acc, j, h, hq, hb, h0 => by
    rw [sumL] at h0
    rw [List.map_cons, sumL, sumL, ← add_div]
    have h1 := h.add (hq q (by simp))
    rw [List.length_cons] at hb
    rw [if_pos ((h1.div ds hs).fit (by omega))]
    split at h0
    · rename_i hf
      rw [if_pos hf]
      exact sumL_share hs ds r (acc + q) (j + 40 + 1) h1 (fun x hx => hq x (by simp [hx])) (by omega) h0
    · cases h0
theorem sumL_nonneg : ∀ (qs : List Rat) (acc : Rat), 0 ≤ acc → (∀ q ∈ qs, 0 ≤ q) → 0 ≤ (sumL acc qs).1
  | [], acc, h, _ => h
  | q :: r, acc, h, hq => by
    rw [sumL]
    have h1 := Rat.add_nonneg h (hq q (by simp))
    split
    · exact sumL_nonneg r _ h1 (fun x hx => hq x (by simp [hx]))
    · exact h1
theorem nonneg_of {s : List UInt8} (h : ratE s = 0) : negB s = false ↔ 0 ≤ ratV s := by
  have hp := rat_parts h
  have h1 := sgnI_neg (negB s) (decV 0 (numS s))
  rw [← hp.num] at h1
  rw [← Rat.num_nonneg]
  cases e : negB s
  · rw [e] at h1; simp at h1; simpa using h1
  · have h2 : (ratV s).num < 0 := by
      have h3 := hp.ng e
      rw [e] at h1
      simpa [h3] using h1
    exact ⟨fun q => absurd q (by decide), fun q => absurd h2 (by omega)⟩
theorem posE_zero {l : List (List UInt8)} (h : posE l = 0) : l.length ≤ 256 ∧ allE l = 0 ∧ (sumL 0 (l.map ratV)).2 = 0 ∧ sumR l = sumL 0 (l.map ratV) ∧ ∀ s ∈ l, 0 ≤ ratV s := by
  unfold posE at h
  split at h
  · cases h
  · rename_i h1
    rw [h] at h1
    simp only [true_and, Bool.not_eq_true] at h1
    unfold sumR at h ⊢
    split at h
    · cases h
    · rename_i h2
      split at h
      · rename_i h3
        rw [if_neg h2, if_pos h3]
        refine ⟨by omega, h3, h, rfl, fun s hs => ?_⟩
        rw [List.any_eq_false] at h1
        exact (nonneg_of (allE_mem h3 s hs)).1 (by simpa using h1 s hs)
      · rename_i h3; exact absurd h h3
structure Shared (l : List (List UInt8)) (v : List (List UInt8)) : Prop where
  len : v.length = l.length
  pos : posE v = 0
  one : (sumR v).1 = 1
  again : ((v.map ratV).map (fun q => q / (sumR v).1)).map textQ = v
  fits : ((v.map ratV).map (fun q => q / (sumR v).1)).all fitB = true
  odds : oddsR v = 0
  best : bestR v = bestR l ∧ (bestR l).2 = 0
theorem shared {l : List (List UInt8)} (h : posE l = 0) (h0 : (sumR l).1 ≠ 0) (hall : ((l.map ratV).map (fun q => q / (sumR l).1)).all fitB = true) (hl : l.length ≤ 12) (hs : ∀ s ∈ l, s.length ≤ 40) :
    Shared l (((l.map ratV).map (fun q => q / (sumR l).1)).map textQ) := by
  obtain ⟨b1, b2, b3, b4, b5⟩ := posE_zero h
  rw [b4] at h0 hall ⊢
  generalize hS : (sumL 0 (l.map ratV)).1 = S at h0 hall ⊢
  have hD : ∀ q ∈ l.map ratV, D 40 q := fun q hq => by
    obtain ⟨s, h1, rfl⟩ := List.mem_map.1 hq
    exact (IsQ.self (allE_mem b2 s h1)).dig (hs s h1) (by decide)
  have hD0 : D 1 0 := ⟨by decide, by decide⟩
  have dS : D (1 + 41 * (l.map ratV).length) S := by rw [← hS]; exact sumL_D _ 0 1 hD0 hD b3
  have hn : ∀ q ∈ l.map ratV, 0 ≤ q := fun q hq => by
    obtain ⟨s, h1, rfl⟩ := List.mem_map.1 hq
    exact b5 s h1
  have hS0 : 0 < S := by
    have : 0 ≤ S := by rw [← hS]; exact sumL_nonneg _ 0 Rat.le_refl hn
    exact Rat.lt_of_le_of_ne this (Ne.symm h0)
  have hsh := sumL_share (m := 1 + 41 * (l.map ratV).length) h0 dS (l.map ratV) 0 1 hD0 hD (by rw [List.length_map]; omega) b3
  rw [zero_div, hS, div_self h0] at hsh
  generalize hv : ((l.map ratV).map (fun q => q / S)).map textQ = v
  have hf : ∀ q ∈ (l.map ratV).map (fun q => q / S), fitB q = true := by simpa [List.all_eq_true] using hall
  have v1 : v.map ratV = (l.map ratV).map (fun q => q / S) := by
    rw [← hv, List.map_map]
    conv => rhs; rw [← List.map_id ((l.map ratV).map (fun q => q / S))]
    exact List.map_congr_left (fun q hq => (isQ_of (hf q hq)).2)
  have v2 : allE v = 0 := allE_of (fun s hs' => by
    rw [← hv] at hs'
    obtain ⟨q, hq, rfl⟩ := List.mem_map.1 hs'
    exact (isQ_of (hf q hq)).1)
  have vlen : v.length = l.length := by rw [← hv]; simp
  have v3 : sumR v = (1, 0) := by
    unfold sumR
    rw [if_neg (by omega), if_pos v2, v1, hsh]
  have v4 : v.any negB = false := by
    rw [List.any_eq_false]
    intro s hs'
    have h1 := allE_mem v2 s hs'
    have h2 : ratV s ∈ v.map ratV := List.mem_map.2 ⟨s, hs', rfl⟩
    rw [v1] at h2
    obtain ⟨q, hq, h3⟩ := List.mem_map.1 h2
    have : 0 ≤ ratV s := by
      rw [← h3, Rat.div_def]
      exact Rat.mul_nonneg (hn q hq) (Rat.le_of_lt (Rat.inv_pos.2 hS0))
    simpa using (nonneg_of h1).2 this
  have v5 : posE v = 0 := by
    unfold posE
    rw [v3, v4]; simp
  have v6 : (v.map ratV).map (fun q => q / 1) = v.map ratV := by
    conv => rhs; rw [← List.map_id (v.map ratV)]
    exact List.map_congr_left (fun q _ => div_one q)
  have hne : l ≠ [] := by
    rintro rfl
    exact h0 hS.symm
  refine ⟨vlen, v5, by rw [v3], by rw [v3, v6, v1, hv], by rw [v3, v6, v1]; exact hall, ?_, ?_⟩
  · unfold oddsR
    rw [if_pos v5, v3]; rfl
  · have hvne : v ≠ [] := by
      intro e; rw [e] at vlen; exact hne (List.length_eq_zero_iff.1 vlen.symm)
    unfold bestR
    rw [if_neg (show ¬ 256 < v.length by omega), if_neg (show ¬ 256 < l.length by omega), if_neg hvne, if_neg hne, if_pos v2, if_pos b2, v1, vlen, bestK_div hS0]
    exact ⟨rfl, rfl⟩
end Go.Ax.Rt

namespace Go.Proofs.YtbeegiiiochblaaGreatDoor
open Go.Ax Go.Ax.Bg Go.Ax.Rt Go.RowKit
attribute [local irreducible] Ax Post QOp ACall PureOp
set_option maxRecDepth 100000
set_option maxHeartbeats 4000000

theorem longer (s : List UInt8) (hs : s.length ≤ 9223372036854775807) : VCall Tryz.prog 35 [.str s] (.bool (decide (40 < (s.length : Int)))) := by
  refine ACall.value0 (acall_of_ax (P := Tryz.prog) (fn := Tryz.f35) rfl rfl (by kernel_rfl) rfl (fun c hR hfix => ?_)) (fix := fun _ => False) (fun _ h => h) rfl rfl
  repeat (first
    | refine ax_q (q_move rfl) ?_
    | refine ax_q (q_assign rfl) ?_
    | refine ax_ops_nil ?_
    | refine ax_post_code ?_
    | refine ax_seq ?_
    | refine ax_region rfl ?_
    | refine ax_return ?_
    | refine ax_q (q_gtr rfl rfl) ?_
    | refine ax_q (q_lenstr rfl rfl) ?_)
  exact ax_ret hR rfl rfl
theorem equalSame (v : List (List UInt8)) (h : v.length ≤ 9223372036854775807) : VCall Tryz.prog 38 [.ro (.strs v) 0 v.length, .ro (.strs v) 0 v.length] (.bool true) := by
  have := equalR v v h h
  simpa using this
theorem RatShared_law (l : List (List UInt8)) (hlen : l.length ≤ 9223372036854775807) (hs : ∀ s ∈ l, s.length ≤ 9223372036854775807) : VCall Tryz.prog 10 [.ro (.strs l) 0 l.length] (.bool true) := by
  have hfz : VCall Tryz.prog 16 [.ro (.ints .i64 [0, 0, 0]) 0 3] (.bool true) := fineZZ 3 (by decide)
  have bad : ∀ e : Int, e ≠ 0 → VCall Tryz.prog 33 [.ro (.strs l) 0 l.length] (.tup [.nil, .int .i64 e]) → VCall Tryz.prog 10 [.ro (.strs l) 0 l.length] (.bool true) := by
    intro e he p0
    refine ACall.value0 (acall_of_ax (P := Tryz.prog) (fn := Tryz.f10) rfl rfl (by kernel_rfl) rfl (fun c hR hfix => ?_)) (fix := fun _ => False) (fun _ h => h) rfl rfl
    repeat (first
      | refine ax_q (q_assign rfl) ?_
      | refine ax_ops_nil ?_
      | refine ax_post_code ?_
      | refine ax_seq ?_
      | refine ax_region rfl ?_)
    refine ax_callv rfl rfl rfl ratFact ?_
    repeat (first
      | refine ax_q (q_move rfl) ?_
      | refine ax_ops_nil ?_
      | refine ax_post_code ?_
      | refine ax_seq ?_
      | refine ax_region rfl ?_
      | refine ax_cond_false rfl ?_
      | refine ax_skip ?_
      | refine ax_q (q_not rfl) ?_)
    refine ax_callv rfl rfl rfl p0 ?_
    repeat (first
      | refine ax_q (q_move rfl) ?_
      | refine ax_q (q_assign rfl) ?_
      | refine ax_ops_nil ?_
      | refine ax_post_code ?_
      | refine ax_seq ?_
      | refine ax_region rfl ?_
      | refine ax_q (q_neq rfl rfl) ?_
      | refine ax_q (q_extract rfl rfl) ?_)
    refine ax_gsplit rfl rfl (fun _ => ?_) (fun h => absurd he h)
    repeat (first
      | refine ax_q (q_move rfl) ?_
      | refine ax_ops_nil ?_
      | refine ax_post_code ?_
      | refine ax_seq ?_
      | refine ax_region rfl ?_
      | refine ax_skip_not rfl rfl rfl ?_
      | refine ax_cond_true rfl ?_
      | refine ax_q (q_eql rfl rfl) ?_
      | refine ax_q (q_pick rfl rfl) ?_)
    refine ax_gsplit rfl rfl (fun h => absurd h he) (fun _ => ?_)
    repeat (first
      | refine ax_q (q_move rfl) ?_
      | refine ax_q (q_assign rfl) ?_
      | refine ax_ops_nil ?_
      | refine ax_post_code ?_
      | refine ax_guard rfl rfl ?_
      | refine ax_return ?_
      | refine ax_ret_code ?_
      | refine ax_q (q_eql rfl rfl) ?_
      | refine ax_q (q_pick rfl rfl) ?_
      | refine ax_q (q_len rfl rfl rfl) ?_)
    exact ax_ret hR rfl rfl
  by_cases h1 : posE l = 0
  case neg => exact bad _ h1 (shares_bad l hlen hs h1)
  by_cases h2 : (sumR l).1 = 0
  case pos => exact bad _ (by decide) (shares_zero l hlen hs h1 h2)
  by_cases h3 : ((l.map ratV).map (fun q => q / (sumR l).1)).all fitB = true
  case neg => exact bad _ (by decide) (shares_no l hlen hs h1 h2 (by simpa using h3))
  have p0 := shares_yes l hlen hs h1 h2 h3
  have p1 := containsR l 35 [] (fun s => decide (40 < (s.length : Int))) rfl hlen (fun s hm => longer s (hs s hm))
  by_cases hb : l.length ≤ 12
  case neg =>
    generalize ((l.map ratV).map (fun q => q / (sumR l).1)).map textQ = v at *
    refine ACall.value0 (acall_of_ax (P := Tryz.prog) (fn := Tryz.f10) rfl rfl (by kernel_rfl) rfl (fun c hR hfix => ?_)) (fix := fun _ => False) (fun _ h => h) rfl rfl
    repeat (first
      | refine ax_q (q_assign rfl) ?_
      | refine ax_ops_nil ?_
      | refine ax_post_code ?_
      | refine ax_seq ?_
      | refine ax_region rfl ?_)
    refine ax_callv rfl rfl rfl ratFact ?_
    repeat (first
      | refine ax_q (q_move rfl) ?_
      | refine ax_ops_nil ?_
      | refine ax_post_code ?_
      | refine ax_seq ?_
      | refine ax_region rfl ?_
      | refine ax_cond_false rfl ?_
      | refine ax_skip ?_
      | refine ax_q (q_not rfl) ?_)
    refine ax_callv rfl rfl rfl p0 ?_
    repeat (first
      | refine ax_q (q_move rfl) ?_
      | refine ax_q (q_assign rfl) ?_
      | refine ax_ops_nil ?_
      | refine ax_post_code ?_
      | refine ax_seq ?_
      | refine ax_region rfl ?_
      | refine ax_guard rfl rfl ?_
      | refine ax_q (q_neq rfl rfl) ?_
      | refine ax_q (q_gtr rfl rfl) ?_
      | refine ax_q (q_pick rfl rfl) ?_
      | refine ax_q (q_extract rfl rfl) ?_
      | refine ax_q (q_len rfl rfl rfl) ?_)
    refine ax_gsplit rfl rfl (fun _ => ?_) (fun h => absurd (show (12 : Int) < l.length by omega) h)
    repeat (first
      | refine ax_q (q_move rfl) ?_
      | refine ax_q (q_assign rfl) ?_
      | refine ax_ops_nil ?_
      | refine ax_post_code ?_
      | refine ax_seq ?_
      | refine ax_region rfl ?_
      | refine ax_skip_not rfl rfl rfl ?_
      | refine ax_cond_true rfl ?_
      | refine ax_return ?_
      | refine ax_ret_code ?_
      | refine ax_q (q_eql rfl rfl) ?_
      | refine ax_q (q_pick rfl rfl) ?_)
    exact ax_ret hR rfl rfl
  by_cases hc : (l.any (fun s => decide (40 < (s.length : Int)))) = true
  case pos =>
    rw [hc] at p1
    generalize ((l.map ratV).map (fun q => q / (sumR l).1)).map textQ = v at *
    refine ACall.value0 (acall_of_ax (P := Tryz.prog) (fn := Tryz.f10) rfl rfl (by kernel_rfl) rfl (fun c hR hfix => ?_)) (fix := fun _ => False) (fun _ h => h) rfl rfl
    repeat (first
      | refine ax_q (q_assign rfl) ?_
      | refine ax_ops_nil ?_
      | refine ax_post_code ?_
      | refine ax_seq ?_
      | refine ax_region rfl ?_)
    refine ax_callv rfl rfl rfl ratFact ?_
    repeat (first
      | refine ax_q (q_move rfl) ?_
      | refine ax_ops_nil ?_
      | refine ax_post_code ?_
      | refine ax_seq ?_
      | refine ax_region rfl ?_
      | refine ax_cond_false rfl ?_
      | refine ax_skip ?_
      | refine ax_q (q_not rfl) ?_)
    refine ax_callv rfl rfl rfl p0 ?_
    repeat (first
      | refine ax_q (q_move rfl) ?_
      | refine ax_q (q_assign rfl) ?_
      | refine ax_ops_nil ?_
      | refine ax_post_code ?_
      | refine ax_seq ?_
      | refine ax_region rfl ?_
      | refine ax_guard rfl rfl ?_
      | refine ax_q (q_neq rfl rfl) ?_
      | refine ax_q (q_gtr rfl rfl) ?_
      | refine ax_q (q_pick rfl rfl) ?_
      | refine ax_q (q_extract rfl rfl) ?_
      | refine ax_q (q_len rfl rfl rfl) ?_)
    refine ax_gsplit rfl rfl (fun h => absurd (show (12 : Int) < l.length from h) (by omega)) (fun _ => ?_)
    repeat (first
      | refine ax_q (q_move rfl) ?_
      | refine ax_guard rfl rfl ?_)
    refine ax_callv rfl rfl rfl p1 ?_
    repeat (first
      | refine ax_q (q_move rfl) ?_
      | refine ax_q (q_assign rfl) ?_
      | refine ax_ops_nil ?_
      | refine ax_post_code ?_
      | refine ax_seq ?_
      | refine ax_region rfl ?_
      | refine ax_skip_not rfl rfl rfl ?_
      | refine ax_cond_true rfl ?_
      | refine ax_return ?_
      | refine ax_ret_code ?_
      | refine ax_q (q_eql rfl rfl) ?_
      | refine ax_q (q_pick rfl rfl) ?_)
    exact ax_ret hR rfl rfl
  rw [Bool.not_eq_true] at hc
  rw [hc] at p1
  have hsh := shared h1 h2 h3 hb (fun s hm => by
    rw [List.any_eq_false] at hc
    have := hc s hm
    simp at this; omega)
  generalize hv : ((l.map ratV).map (fun q => q / (sumR l).1)).map textQ = v at *
  obtain ⟨g1, g2, g3, g4, g5, g6, g7, g8⟩ := hsh
  have hvs : ∀ s ∈ v, s.length ≤ 9223372036854775807 := fun s hm => by
    have := len_of (allE_mem (posE_zero g2).2.1 s hm)
    omega
  have p2 := shares_yes v (by omega) hvs g2 (by rw [g3]; decide) g5
  rw [g4] at p2
  have p3 := best_ok l hlen hs
  have p4 := best_ok v (by omega) hvs
  rw [g7] at p4
  rw [g8] at p3 p4
  have p5 := odds_ok v (by omega) hvs
  rw [g6] at p5
  have p6 := equalSame v (by omega)
  rw [g1] at p2 p4 p5 p6
  generalize (bestR l).1 = b at *
  refine ACall.value0 (acall_of_ax (P := Tryz.prog) (fn := Tryz.f10) rfl rfl (by kernel_rfl) rfl (fun c hR hfix => ?_)) (fix := fun _ => False) (fun _ h => h) rfl rfl
  repeat (first
    | refine ax_q (q_assign rfl) ?_
    | refine ax_ops_nil ?_
    | refine ax_post_code ?_
    | refine ax_seq ?_
    | refine ax_region rfl ?_)
  refine ax_callv rfl rfl rfl ratFact ?_
  repeat (first
    | refine ax_q (q_move rfl) ?_
    | refine ax_ops_nil ?_
    | refine ax_post_code ?_
    | refine ax_seq ?_
    | refine ax_region rfl ?_
    | refine ax_cond_false rfl ?_
    | refine ax_skip ?_
    | refine ax_q (q_not rfl) ?_)
  refine ax_callv rfl rfl rfl p0 ?_
  repeat (first
    | refine ax_q (q_move rfl) ?_
    | refine ax_q (q_assign rfl) ?_
    | refine ax_ops_nil ?_
    | refine ax_post_code ?_
    | refine ax_seq ?_
    | refine ax_region rfl ?_
    | refine ax_guard rfl rfl ?_
    | refine ax_q (q_neq rfl rfl) ?_
    | refine ax_q (q_gtr rfl rfl) ?_
    | refine ax_q (q_pick rfl rfl) ?_
    | refine ax_q (q_extract rfl rfl) ?_
    | refine ax_q (q_len rfl rfl rfl) ?_)
  refine ax_gsplit rfl rfl (fun h => absurd (show (12 : Int) < l.length from h) (by omega)) (fun _ => ?_)
  repeat (first
    | refine ax_q (q_move rfl) ?_
    | refine ax_guard rfl rfl ?_)
  refine ax_callv rfl rfl rfl p1 ?_
  repeat (first
    | refine ax_q (q_move rfl) ?_
    | refine ax_ops_nil ?_
    | refine ax_post_code ?_
    | refine ax_seq ?_
    | refine ax_region rfl ?_
    | refine ax_cond_false rfl ?_
    | refine ax_skip ?_
    | refine ax_q (q_pick rfl rfl) ?_)
  refine ax_callv rfl rfl rfl p2 ?_
  repeat (first
    | refine ax_q (q_move rfl) ?_
    | refine ax_q (q_assign rfl) ?_
    | refine ax_ops_nil ?_
    | refine ax_post_code ?_
    | refine ax_seq ?_
    | refine ax_region rfl ?_
    | refine ax_q (q_extract rfl rfl) ?_)
  refine ax_callv rfl rfl rfl p3 ?_
  repeat (first
    | refine ax_q (q_move rfl) ?_
    | refine ax_q (q_assign rfl) ?_
    | refine ax_ops_nil ?_
    | refine ax_post_code ?_
    | refine ax_seq ?_
    | refine ax_region rfl ?_
    | refine ax_q (q_extract rfl rfl) ?_)
  refine ax_callv rfl rfl rfl p4 ?_
  repeat (first
    | refine ax_q (q_move rfl) ?_
    | refine ax_q (q_assign rfl) ?_
    | refine ax_ops_nil ?_
    | refine ax_post_code ?_
    | refine ax_seq ?_
    | refine ax_region rfl ?_
    | refine ax_q (q_extract rfl rfl) ?_
    | refine ax_buildSliceRo rfl rfl rfl rfl rfl rfl rfl rfl rfl rfl rfl ?_)
  refine ax_callv rfl rfl rfl hfz ?_
  repeat (first
    | refine ax_q (q_move rfl) ?_
    | refine ax_guard rfl rfl ?_)
  refine ax_callv rfl rfl rfl p5 ?_
  repeat (first
    | refine ax_q (q_move rfl) ?_
    | refine ax_guard rfl rfl ?_
    | refine ax_q (q_eql rfl rfl) ?_
    | refine ax_q (q_pick rfl rfl) ?_)
  refine ax_callv rfl rfl rfl p6 ?_
  repeat (first
    | refine ax_q (q_move rfl) ?_
    | refine ax_q (q_assign rfl) ?_
    | refine ax_ops_nil ?_
    | refine ax_post_code ?_
    | refine ax_guard rfl rfl ?_
    | refine ax_return ?_
    | refine ax_q (q_eql rfl rfl) ?_
    | refine ax_q (q_pick rfl rfl) ?_)
  refine ax_ret hR rfl ?_
  simp [tupOf]
end Go.Proofs.YtbeegiiiochblaaGreatDoor

