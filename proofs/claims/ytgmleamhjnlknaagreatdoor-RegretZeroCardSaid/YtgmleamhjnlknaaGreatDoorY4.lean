import Derived.Test.YtgmleamhjnlknaaGreatDoorY3
set_option linter.unusedVariables false
set_option linter.unusedSimpArgs false
namespace Go.Proofs.YtgmleamhjnlknaaGreatDoor
open Go.Ax Go.Ax.Bg Go.Ax.Rt Go.RowKit
attribute [local irreducible] Ax Post QOp ACall PureOp
set_option maxRecDepth 100000
set_option maxHeartbeats 4000000

open Go.Ax.Idx Go.Ax.Cd
theorem outAll_yes (l : List Rat) (hlen : l.length ≤ 1000000) (hs : ∀ q ∈ l, Sz 100000 q) (hall : l.all fitB = true) : VCall Tryz.prog 75 [.ro (qsC l) 0 l.length] (.tup [.ro (.strs (l.map textQ)) 0 l.length, .int .i64 0]) := by
  refine ACall.value0 (acall_of_ax (P := Tryz.prog) (fn := Tryz.f75) rfl rfl (by kernel_rfl) rfl (fun c hR hfix => ?_)) (fix := fun _ => False) (fun _ h => h) rfl rfl
  repeat (first
    | refine ax_q (q_move rfl) ?_
    | refine ax_q (q_assign rfl) ?_
    | refine ax_ops_nil ?_
    | refine ax_post_code ?_
    | refine ax_seq ?_
    | refine ax_region rfl ?_
    | refine ax_q (q_len rfl rfl rfl) ?_)
  refine ax_nilobj 4 ⟨40, .strs []⟩ rfl rfl ?_
  repeat (refine ax_block ?_)
  refine ax_loop (ι := Nat) (fun k => [(0, .ro (qsC l) 0 l.length), (4, .sl 0 0 k), (9, .ro (qsC l) 0 l.length), (10, .int .i64 (l.length : Nat)), (11, .int .i64 (k : Nat))]) (fun k => [some ⟨40, .strs ((l.take k).map textQ)⟩])
    (fun k => k ≤ l.length ∧ (l.drop k).all fitB = true) (fun k => l.length - k) 0 ⟨⟨rfl, rfl, rfl, rfl, rfl, trivial⟩, rfl, Nat.zero_le _, hall⟩ ?_
  rintro k ⟨hk, hA⟩
  repeat (first
    | refine ax_ops_nil ?_
    | refine ax_post_code ?_
    | refine ax_seq ?_
    | refine ax_region rfl ?_
    | refine ax_q (q_lss rfl rfl) ?_)
  refine ax_cond_dec rfl (fun h => ?_) (fun h => ?_)
  · have hk' : k < l.length := by omega
    have hz := hs _ (getD_mem 0 hk')
    have hd := drop_cons (d := (0 : Rat)) hk'
    rw [hd, List.all_cons] at hA
    have htk := map_take_succ textQ l 0 k hk'
    have hml : ((l.take k).map textQ).length = k := by rw [List.length_map, List.length_take]; omega
    generalize hX : (l.take k).map textQ = ts at *
    repeat (first
      | refine ax_post_code ?_
      | refine ax_seq ?_
      | refine ax_region rfl ?_
      | refine ax_block ?_
      | refine ax_skip ?_
      | refine ax_q (q_index_ro' rfl rfl rfl rfl (by first | (simp only [Nat.zero_add, Int.toNat_natCast, Int.toNat_zero]; exact rfl) | exact rfl) (by omega)) ?_
      | refine ax_q (q_loadagg_rp rfl rfl rfl rfl rfl rfl) ?_
      | refine ax_alloc rfl rfl rfl ?_)
    refine ax_slot_ops 14 (.agg (cellsQ (l.getD k 0))) rfl (AEq.of_eq rfl) ?_
    generalize l.getD k 0 = q at *
    refine ax_storeagg (c' := .box (cellsQ q)) rfl rfl rfl rfl rfl Nat.zero_lt_one rfl rfl (fun i' j' hi' hj' => ?_) ?_
    · rw [if_pos (Nat.lt_one_iff.1 hi')]; rfl
    rw [Bool.and_eq_true] at hA
    have hc := out_yes q hz hA.1
    repeat (first
      | refine ax_ops_nil ?_
      | refine ax_post_code ?_
      | refine ax_seq ?_
      | refine ax_region rfl ?_
      | refine ax_q (q_loadpart_ptr rfl rfl rfl rfl rfl rfl rfl (by first | exact Nat.zero_lt_one | assumption | omega)) ?_)
    refine ax_callv rfl rfl rfl hc ?_
    repeat (first
      | refine ax_q (q_move rfl) ?_
      | refine ax_q (q_assign rfl) ?_
      | refine ax_ops_nil ?_
      | refine ax_post_code ?_
      | refine ax_seq ?_
      | refine ax_region rfl ?_
      | refine ax_cond_false rfl ?_
      | refine ax_skip ?_
      | refine ax_q (q_neq rfl rfl) ?_
      | refine ax_q (q_extract rfl rfl) ?_
      | refine ax_buildSliceRo rfl rfl rfl rfl rfl rfl rfl rfl rfl rfl rfl ?_)
    refine ax_append rfl rfl rfl rfl rfl rfl rfl rfl rfl hml rfl rfl (by show 0 + 1 ≤ 1; omega) rfl (by show (k + 1) * 16 ≤ _ ∧ _; omega) (fun i j _ _ => rfl) (by rw [hfix]; exact fun h => h) ?_
    repeat (first
      | refine ax_q (q_assign rfl) ?_
      | refine ax_ops_nil ?_
      | refine ax_post_blk ?_)
    refine ax_post_code ?_
    refine ax_heap ([some ⟨40, .strs ((l.take (k + 1)).map textQ)⟩] ++ [none]) ?_ ?_
    · rw [htk]
      exact HSub.eqv (CEq.refl _) (HSub.drop HSub.nil)
    refine ax_drop (H1 := [some ⟨40, .strs ((l.take (k + 1)).map textQ)⟩]) rfl (by rw [hfix]; exact fun h => h) ?_
    repeat (first
      | refine ax_q (q_move rfl) ?_
      | refine ax_ops_nil ?_
      | refine ax_region rfl ?_
      | refine ax_q (q_add rfl rfl (by omega)) ?_)
    exact ax_post_inv ⟨k + 1, ⟨by omega, hA.2⟩, by omega, ⟨rfl, rfl, rfl, rfl, rfl, trivial⟩, rfl⟩
  · have hk' : k = l.length := by omega
    subst hk'
    rw [List.take_length]
    repeat (first
      | refine ax_post_code ?_
      | refine ax_seq ?_
      | refine ax_exit ?_
      | refine ax_exit_here ?_
      | refine ax_exit_code ?_
      | refine ax_exit_inv ?_)
    refine ax_give_code 0 4 l.length [] rfl (fun _ _ _ _ => rfl) rfl (by show _ ≤ (l.map textQ).length; rw [List.length_map]; exact Nat.le_refl _) trivial ?_
    repeat (first
      | refine ax_q (q_move rfl) ?_
      | refine ax_q (q_assign rfl) ?_
      | refine ax_ops_nil ?_
      | refine ax_post_code ?_
      | refine ax_region rfl ?_
      | refine ax_return ?_)
    exact ax_ret hR rfl rfl
theorem outAll_no (l : List Rat) (hlen : l.length ≤ 1000000) (hs : ∀ q ∈ l, Sz 100000 q) (hall : l.all fitB = false) : VCall Tryz.prog 75 [.ro (qsC l) 0 l.length] (.tup [.nil, .int .i64 2]) := by
  refine ACall.value0 (acall_of_ax (P := Tryz.prog) (fn := Tryz.f75) rfl rfl (by kernel_rfl) rfl (fun c hR hfix => ?_)) (fix := fun _ => False) (fun _ h => h) rfl rfl
  repeat (first
    | refine ax_q (q_move rfl) ?_
    | refine ax_q (q_assign rfl) ?_
    | refine ax_ops_nil ?_
    | refine ax_post_code ?_
    | refine ax_seq ?_
    | refine ax_region rfl ?_
    | refine ax_q (q_len rfl rfl rfl) ?_)
  refine ax_nilobj 4 ⟨40, .strs []⟩ rfl rfl ?_
  repeat (refine ax_block ?_)
  refine ax_loop (ι := Nat) (fun k => [(0, .ro (qsC l) 0 l.length), (4, .sl 0 0 k), (9, .ro (qsC l) 0 l.length), (10, .int .i64 (l.length : Nat)), (11, .int .i64 (k : Nat))]) (fun k => [some ⟨40, .strs ((l.take k).map textQ)⟩])
    (fun k => k ≤ l.length ∧ (l.drop k).all fitB = false) (fun k => l.length - k) 0 ⟨⟨rfl, rfl, rfl, rfl, rfl, trivial⟩, rfl, Nat.zero_le _, hall⟩ ?_
  rintro k ⟨hk, hA⟩
  repeat (first
    | refine ax_ops_nil ?_
    | refine ax_post_code ?_
    | refine ax_seq ?_
    | refine ax_region rfl ?_
    | refine ax_q (q_lss rfl rfl) ?_)
  refine ax_cond_dec rfl (fun h => ?_) (fun h => ?_)
  · have hk' : k < l.length := by omega
    have hz := hs _ (getD_mem 0 hk')
    have hd := drop_cons (d := (0 : Rat)) hk'
    rw [hd, List.all_cons] at hA
    have htk := map_take_succ textQ l 0 k hk'
    have hml : ((l.take k).map textQ).length = k := by rw [List.length_map, List.length_take]; omega
    generalize hX : (l.take k).map textQ = ts at *
    repeat (first
      | refine ax_post_code ?_
      | refine ax_seq ?_
      | refine ax_region rfl ?_
      | refine ax_block ?_
      | refine ax_skip ?_
      | refine ax_q (q_index_ro' rfl rfl rfl rfl (by first | (simp only [Nat.zero_add, Int.toNat_natCast, Int.toNat_zero]; exact rfl) | exact rfl) (by omega)) ?_
      | refine ax_q (q_loadagg_rp rfl rfl rfl rfl rfl rfl) ?_
      | refine ax_alloc rfl rfl rfl ?_)
    refine ax_slot_ops 14 (.agg (cellsQ (l.getD k 0))) rfl (AEq.of_eq rfl) ?_
    generalize l.getD k 0 = q at *
    refine ax_storeagg (c' := .box (cellsQ q)) rfl rfl rfl rfl rfl Nat.zero_lt_one rfl rfl (fun i' j' hi' hj' => ?_) ?_
    · rw [if_pos (Nat.lt_one_iff.1 hi')]; rfl
    cases hf : fitB q
    · have hc := out_no q hz hf
      repeat (first
        | refine ax_ops_nil ?_
        | refine ax_post_code ?_
        | refine ax_seq ?_
        | refine ax_region rfl ?_
        | refine ax_q (q_loadpart_ptr rfl rfl rfl rfl rfl rfl rfl (by first | exact Nat.zero_lt_one | assumption | omega)) ?_)
      refine ax_callv rfl rfl rfl hc ?_
      repeat (first
        | refine ax_q (q_move rfl) ?_
        | refine ax_q (q_assign rfl) ?_
        | refine ax_ops_nil ?_
        | refine ax_post_code ?_
        | refine ax_seq ?_
        | refine ax_region rfl ?_
        | refine ax_cond_true rfl ?_
        | refine ax_return ?_
        | refine ax_ret_code ?_
        | refine ax_ret_blk ?_
        | refine ax_ret_inv ?_
        | refine ax_q (q_neq rfl rfl) ?_
        | refine ax_q (q_extract rfl rfl) ?_)
      exact ax_ret hR rfl rfl
    · have hc := out_yes q hz hf
      rw [hf, Bool.true_and] at hA
      repeat (first
        | refine ax_ops_nil ?_
        | refine ax_post_code ?_
        | refine ax_seq ?_
        | refine ax_region rfl ?_
        | refine ax_q (q_loadpart_ptr rfl rfl rfl rfl rfl rfl rfl (by first | exact Nat.zero_lt_one | assumption | omega)) ?_)
      refine ax_callv rfl rfl rfl hc ?_
      repeat (first
        | refine ax_q (q_move rfl) ?_
        | refine ax_q (q_assign rfl) ?_
        | refine ax_ops_nil ?_
        | refine ax_post_code ?_
        | refine ax_seq ?_
        | refine ax_region rfl ?_
        | refine ax_cond_false rfl ?_
        | refine ax_skip ?_
        | refine ax_q (q_neq rfl rfl) ?_
        | refine ax_q (q_extract rfl rfl) ?_
        | refine ax_buildSliceRo rfl rfl rfl rfl rfl rfl rfl rfl rfl rfl rfl ?_)
      refine ax_append rfl rfl rfl rfl rfl rfl rfl rfl rfl hml rfl rfl (by show 0 + 1 ≤ 1; omega) rfl (by show (k + 1) * 16 ≤ _ ∧ _; omega) (fun i j _ _ => rfl) (by rw [hfix]; exact fun h => h) ?_
      repeat (first
        | refine ax_q (q_assign rfl) ?_
        | refine ax_ops_nil ?_
        | refine ax_post_blk ?_)
      refine ax_post_code ?_
      refine ax_heap ([some ⟨40, .strs ((l.take (k + 1)).map textQ)⟩] ++ [none]) ?_ ?_
      · rw [htk]
        exact HSub.eqv (CEq.refl _) (HSub.drop HSub.nil)
      refine ax_drop (H1 := [some ⟨40, .strs ((l.take (k + 1)).map textQ)⟩]) rfl (by rw [hfix]; exact fun h => h) ?_
      repeat (first
        | refine ax_q (q_move rfl) ?_
        | refine ax_ops_nil ?_
        | refine ax_region rfl ?_
        | refine ax_q (q_add rfl rfl (by omega)) ?_)
      exact ax_post_inv ⟨k + 1, ⟨by omega, hA⟩, by omega, ⟨rfl, rfl, rfl, rfl, rfl, trivial⟩, rfl⟩
  · have hk' : k = l.length := by omega
    subst hk'
    rw [List.drop_length] at hA
    exact absurd hA (by decide)
end Go.Proofs.YtgmleamhjnlknaaGreatDoor

namespace Go.Proofs.YtgmleamhjnlknaaGreatDoor
open Go.Ax Go.Ax.Bg Go.Ax.Rt Go.RowKit
attribute [local irreducible] Ax Post QOp ACall PureOp
set_option maxRecDepth 100000
set_option maxHeartbeats 4000000

theorem of_zero : VCall Tryz.prog 65 [.int .i64 0] (qA 0) := qof_ok 0 (by decide)
end Go.Proofs.YtgmleamhjnlknaaGreatDoor

namespace Go.Proofs.YtgmleamhjnlknaaGreatDoor
open Go.Ax Go.Ax.Bg Go.Ax.Rt Go.RowKit
attribute [local irreducible] Ax Post QOp ACall PureOp
set_option maxRecDepth 100000
set_option maxHeartbeats 4000000

end Go.Proofs.YtgmleamhjnlknaaGreatDoor

namespace Go.Proofs.YtgmleamhjnlknaaGreatDoor
open Go.Ax Go.Ax.Bg Go.Ax.Rt Go.RowKit
attribute [local irreducible] Ax Post QOp ACall PureOp
set_option maxRecDepth 100000
set_option maxHeartbeats 4000000

theorem sgn_zero {q : Rat} : sgn q.num = 0 ↔ q = 0 := by
  rw [← Rat.num_eq_zero]
  unfold sgn
  split
  · omega
  · split <;> omega
theorem best_ok (l : List (List UInt8)) (hlen : l.length ≤ 9223372036854775807) (hs : ∀ s ∈ l, s.length ≤ 9223372036854775807) : VCall Tryz.prog 28 [.ro (.strs l) 0 l.length] (.tup [.int .i64 (bestR l).1, .int .i64 (bestR l).2]) := by
  unfold bestR
  have h1 := checkAll_ok l hlen hs
  by_cases hl : 256 < l.length
  · rw [if_pos hl]
    refine ACall.value0 (acall_of_ax (P := Tryz.prog) (fn := Tryz.f28) rfl rfl (by kernel_rfl) rfl (fun c hR hfix => ?_)) (fix := fun _ => False) (fun _ h => h) rfl rfl
    repeat (first
      | refine ax_q (q_move rfl) ?_
      | refine ax_q (q_assign rfl) ?_
      | refine ax_ops_nil ?_
      | refine ax_post_code ?_
      | refine ax_seq ?_
      | refine ax_region rfl ?_
      | refine ax_q (q_gtr rfl rfl) ?_
      | refine ax_q (q_len rfl rfl rfl) ?_)
    refine ax_cond_dec rfl (fun h0 => ?_) (fun h0 => absurd hl (by omega))
    repeat (first
      | refine ax_q (q_assign rfl) ?_
      | refine ax_ops_nil ?_
      | refine ax_post_code ?_
      | refine ax_seq ?_
      | refine ax_region rfl ?_
      | refine ax_return ?_
      | refine ax_ret_code ?_)
    exact ax_ret hR rfl rfl
  rw [if_neg hl]
  by_cases hn : l = []
  · rw [if_pos hn]
    subst hn
    refine ACall.value0 (acall_of_ax (P := Tryz.prog) (fn := Tryz.f28) rfl rfl (by kernel_rfl) rfl (fun c hR hfix => ?_)) (fix := fun _ => False) (fun _ h => h) rfl rfl
    repeat (first
      | refine ax_q (q_move rfl) ?_
      | refine ax_q (q_assign rfl) ?_
      | refine ax_ops_nil ?_
      | refine ax_post_code ?_
      | refine ax_seq ?_
      | refine ax_region rfl ?_
      | refine ax_cond_true rfl ?_
      | refine ax_cond_false rfl ?_
      | refine ax_skip ?_
      | refine ax_return ?_
      | refine ax_ret_code ?_
      | refine ax_q (q_eql rfl rfl) ?_
      | refine ax_q (q_gtr rfl rfl) ?_
      | refine ax_q (q_len rfl rfl rfl) ?_)
    exact ax_ret hR rfl rfl
  rw [if_neg hn]
  have hpos : 0 < l.length := List.length_pos_iff.2 hn
  by_cases hE : allE l = 0
  · rw [if_pos hE]
    rw [hE] at h1
    have h4 := in_ok l (by omega) (fun s hm => ⟨hs s hm, allE_mem hE s hm⟩)
    have hz : ∀ q ∈ l.map ratV, Sz 2000 q := fun q hq => by
      obtain ⟨s, h3, rfl⟩ := List.mem_map.1 hq
      exact sz_v (allE_mem hE s h3)
    have hml : (l.map ratV).length = l.length := List.length_map _
    generalize l.map ratV = qs at *
    refine ACall.value0 (acall_of_ax (P := Tryz.prog) (fn := Tryz.f28) rfl rfl (by kernel_rfl) rfl (fun c hR hfix => ?_)) (fix := fun _ => False) (fun _ h => h) rfl rfl
    repeat (first
      | refine ax_q (q_move rfl) ?_
      | refine ax_q (q_assign rfl) ?_
      | refine ax_ops_nil ?_
      | refine ax_post_code ?_
      | refine ax_seq ?_
      | refine ax_region rfl ?_
      | refine ax_q (q_gtr rfl rfl) ?_
      | refine ax_q (q_len rfl rfl rfl) ?_)
    refine ax_cond_dec rfl (fun h0 => absurd hl (by omega)) (fun h0 => ?_)
    repeat (first
      | refine ax_q (q_move rfl) ?_
      | refine ax_ops_nil ?_
      | refine ax_post_code ?_
      | refine ax_seq ?_
      | refine ax_region rfl ?_
      | refine ax_skip ?_
      | refine ax_q (q_eql rfl rfl) ?_
      | refine ax_q (q_len rfl rfl rfl) ?_)
    refine ax_cond_dec rfl (fun h0 => absurd hpos (by omega)) (fun h0 => ?_)
    repeat (first
      | refine ax_q (q_move rfl) ?_
      | refine ax_post_code ?_
      | refine ax_seq ?_
      | refine ax_region rfl ?_
      | refine ax_skip ?_)
    refine ax_callv rfl rfl rfl h1 ?_
    repeat (first
      | refine ax_q (q_move rfl) ?_
      | refine ax_q (q_assign rfl) ?_
      | refine ax_ops_nil ?_
      | refine ax_post_code ?_
      | refine ax_seq ?_
      | refine ax_region rfl ?_
      | refine ax_cond_false rfl ?_
      | refine ax_skip ?_
      | refine ax_q (q_neq rfl rfl) ?_)
    refine ax_callv rfl rfl rfl h4 ?_
    repeat (first
      | refine ax_q (q_move rfl) ?_
      | refine ax_q (q_assign rfl) ?_
      | refine ax_ops_nil ?_
      | refine ax_post_code ?_
      | refine ax_seq ?_
      | refine ax_region rfl ?_
      | refine ax_block ?_
      | refine ax_q (q_len rfl rfl rfl) ?_)
    refine ax_loop (ι := Nat) (fun k => [(5, .ro (qsC qs) 0 l.length), (6, .int .i64 (bestK qs k : Nat)), (22, .ro (qsC qs) 0 l.length), (23, .int .i64 (l.length : Nat)), (24, .int .i64 (k : Nat))]) (fun _ => [])
      (fun k => k ≤ l.length) (fun k => l.length - k) 0 ⟨⟨rfl, rfl, rfl, rfl, rfl, trivial⟩, rfl, Nat.zero_le _⟩ ?_
    intro k hk
    repeat (first
      | refine ax_ops_nil ?_
      | refine ax_post_code ?_
      | refine ax_seq ?_
      | refine ax_region rfl ?_
      | refine ax_q (q_lss rfl rfl) ?_)
    refine ax_cond_dec rfl (fun h => ?_) (fun h => ?_)
    · have hk' : k < qs.length := by omega
      have hbk := bestK_le qs k
      have hbl : bestK qs k < l.length := by omega
      have hq := hz _ (getD_mem 0 hk')
      have hb := hz _ (getD_mem 0 (show bestK qs k < qs.length by omega))
      have hc := qcmp_ok (qs.getD k 0) (qs.getD (bestK qs k) 0) (hq.mono (by decide)) (hb.mono (by decide))
      have hstep : bestK qs (k + 1) = if 0 < cmpQ (qs.getD k 0) (qs.getD (bestK qs k) 0) then k else bestK qs k := rfl
      generalize bestK qs k = j at *
      generalize cmpQ (qs.getD k 0) (qs.getD j 0) = t at *
      repeat (first
        | refine ax_q (q_move rfl) ?_
        | refine ax_q (q_assign rfl) ?_
        | refine ax_post_code ?_
        | refine ax_seq ?_
        | refine ax_region rfl ?_
        | refine ax_block ?_
        | refine ax_skip ?_
        | refine ax_q (q_index_ro' rfl rfl rfl rfl (by first | (simp only [Nat.zero_add, Int.toNat_natCast, Int.toNat_zero]; exact rfl) | exact rfl) (by omega)) ?_
        | refine ax_q (q_loadagg_rp rfl rfl rfl rfl rfl rfl) ?_
        | refine ax_alloc rfl rfl rfl ?_)
      refine ax_slot_ops 28 (.agg (cellsQ (qs.getD k 0))) rfl (AEq.of_eq rfl) ?_
      refine ax_storeagg (c' := .box (cellsQ (qs.getD k 0))) rfl rfl rfl rfl rfl Nat.zero_lt_one rfl rfl (fun i' j' hi' hj' => ?_) ?_
      · rw [if_pos (Nat.lt_one_iff.1 hi')]; rfl
      repeat (first
        | refine ax_ops_nil ?_
        | refine ax_post_code ?_
        | refine ax_seq ?_)
      refine ax_regiond (by kernel_rfl) ?_
      refine ax_any_run (fuel := 0) [0, 1, 2, 3, 4, 5, 6] [(5, .ro (qsC qs) 0 l.length), (6, .int .i64 (j : Nat)), (7, .int .i64 (k : Nat)), (8, .ptr 0 0 0), (22, .ro (qsC qs) 0 l.length), (23, .int .i64 (l.length : Nat)), (24, .int .i64 (k : Nat))] ⟨rfl, rfl, rfl, rfl, rfl, rfl, rfl, trivial⟩ (by kernel_rfl) (by decide) rfl rfl ?_
      refine px_q rfl rfl (q_loadpart_ptr rfl rfl rfl rfl rfl rfl rfl (by first | exact Nat.zero_lt_one | assumption | omega)) ?_
      refine px_q rfl rfl (q_move rfl) ?_
      refine px_q rfl rfl (q_move rfl) ?_
      refine px_q rfl rfl (q_index_ro' rfl rfl rfl rfl (by first | (simp only [Nat.zero_add, Int.toNat_natCast, Int.toNat_zero]; exact rfl) | exact rfl) (by omega)) ?_
      refine px_q rfl rfl (q_loadagg_rp rfl rfl rfl rfl rfl rfl) ?_
      refine px_v rfl rfl rfl rfl rfl hc ?_
      refine px_q rfl rfl (q_gtr rfl rfl) ?_
      refine px_done ?_
      refine ax_any_done (by kernel_rfl) ?_
      repeat (refine ax_post_code ?_)
      refine ax_cond_dec rfl (fun h5 => ?_) (fun h5 => ?_)
      · rw [if_pos h5] at hstep
        repeat (first
          | refine ax_q (q_move rfl) ?_
          | refine ax_q (q_assign rfl) ?_
          | refine ax_ops_nil ?_
          | refine ax_region rfl ?_
          | refine ax_post_blk ?_)
        refine ax_post_code ?_
        refine ax_heap ([] ++ [none]) ?_ ?_
        · exact HSub.drop HSub.nil
        refine ax_drop (H1 := []) rfl (by rw [hfix]; exact fun h => h) ?_
        repeat (first
          | refine ax_q (q_move rfl) ?_
          | refine ax_ops_nil ?_
          | refine ax_region rfl ?_
          | refine ax_q (q_add rfl rfl (by omega)) ?_)
        exact ax_post_inv ⟨k + 1, by omega, by omega, ⟨rfl, (by show _ = some (AV.int .i64 ((bestK qs (k + 1) : Nat) : Int)); rw [hstep]; rfl), rfl, rfl, rfl, trivial⟩, rfl⟩
      · rw [if_neg h5] at hstep
        repeat (first
          | refine ax_post_blk ?_
          | refine ax_skip ?_)
        refine ax_post_code ?_
        refine ax_heap ([] ++ [none]) ?_ ?_
        · exact HSub.drop HSub.nil
        refine ax_drop (H1 := []) rfl (by rw [hfix]; exact fun h => h) ?_
        repeat (first
          | refine ax_q (q_move rfl) ?_
          | refine ax_ops_nil ?_
          | refine ax_region rfl ?_
          | refine ax_q (q_add rfl rfl (by omega)) ?_)
        exact ax_post_inv ⟨k + 1, by omega, by omega, ⟨rfl, (by show _ = some (AV.int .i64 ((bestK qs (k + 1) : Nat) : Int)); rw [hstep]; rfl), rfl, rfl, rfl, trivial⟩, rfl⟩
    · have hk' : k = l.length := by omega
      subst hk'
      repeat (first
        | refine ax_q (q_move rfl) ?_
        | refine ax_q (q_assign rfl) ?_
        | refine ax_ops_nil ?_
        | refine ax_post_code ?_
        | refine ax_seq ?_
        | refine ax_region rfl ?_
        | refine ax_exit ?_
        | refine ax_exit_here ?_
        | refine ax_exit_code ?_
        | refine ax_exit_inv ?_
        | refine ax_return ?_)
      exact ax_ret hR rfl rfl
  · rw [if_neg hE]
    generalize allE l = e at *
    refine ACall.value0 (acall_of_ax (P := Tryz.prog) (fn := Tryz.f28) rfl rfl (by kernel_rfl) rfl (fun c hR hfix => ?_)) (fix := fun _ => False) (fun _ h => h) rfl rfl
    repeat (first
      | refine ax_q (q_move rfl) ?_
      | refine ax_q (q_assign rfl) ?_
      | refine ax_ops_nil ?_
      | refine ax_post_code ?_
      | refine ax_seq ?_
      | refine ax_region rfl ?_
      | refine ax_q (q_gtr rfl rfl) ?_
      | refine ax_q (q_len rfl rfl rfl) ?_)
    refine ax_cond_dec rfl (fun h0 => absurd hl (by omega)) (fun h0 => ?_)
    repeat (first
      | refine ax_q (q_move rfl) ?_
      | refine ax_ops_nil ?_
      | refine ax_post_code ?_
      | refine ax_seq ?_
      | refine ax_region rfl ?_
      | refine ax_skip ?_
      | refine ax_q (q_eql rfl rfl) ?_
      | refine ax_q (q_len rfl rfl rfl) ?_)
    refine ax_cond_dec rfl (fun h0 => absurd hpos (by omega)) (fun h0 => ?_)
    repeat (first
      | refine ax_q (q_move rfl) ?_
      | refine ax_post_code ?_
      | refine ax_seq ?_
      | refine ax_region rfl ?_
      | refine ax_skip ?_)
    refine ax_callv rfl rfl rfl h1 ?_
    repeat (first
      | refine ax_q (q_move rfl) ?_
      | refine ax_q (q_assign rfl) ?_
      | refine ax_ops_nil ?_
      | refine ax_post_code ?_
      | refine ax_seq ?_
      | refine ax_region rfl ?_
      | refine ax_q (q_neq rfl rfl) ?_)
    refine ax_cond_dec rfl (fun h2 => ?_) (fun h2 => absurd hE h2)
    repeat (first
      | refine ax_q (q_move rfl) ?_
      | refine ax_q (q_assign rfl) ?_
      | refine ax_ops_nil ?_
      | refine ax_post_code ?_
      | refine ax_seq ?_
      | refine ax_region rfl ?_
      | refine ax_return ?_
      | refine ax_ret_code ?_)
    exact ax_ret hR rfl rfl
end Go.Proofs.YtgmleamhjnlknaaGreatDoor

/-
  Texts that spell a rational number. No program in sight.
-/
namespace Go.Ax.Rt
open Go.Ax.Bg

theorem Parts.fit {s : List UInt8} {q : Rat} (h : Parts s q) : fitB q = true := by
  unfold fitB
  rw [Bool.and_eq_true, decide_eq_true_eq, decide_eq_true_eq, h.num, h.den, sgnI_abs, canon_eq h.cn]
  refine ⟨h.ln, ?_⟩
  cases e : hasD s
  · rw [den_one e, Lib.decDigits_one (by decide)]; decide
  · rw [den_some e, canon_eq (h.cd e).1]; exact h.ld
/-- A text that spells q. -/
def IsQ (s : List UInt8) (q : Rat) : Prop := ratE s = 0 ∧ ratV s = q
instance (s : List UInt8) (q : Rat) : Decidable (IsQ s q) := inferInstanceAs (Decidable (_ ∧ _))
theorem IsQ.self {s : List UInt8} (h : ratE s = 0) : IsQ s (ratV s) := ⟨h, rfl⟩
theorem IsQ.text {s : List UInt8} {q : Rat} (h : IsQ s q) : textQ q = s := by
  have := (rat_parts h.1).text
  rwa [h.2] at this
theorem IsQ.fit {s : List UInt8} {q : Rat} (h : IsQ s q) : fitB q = true := by
  have := (rat_parts h.1).fit
  rwa [h.2] at this
theorem isQ_of {q : Rat} (h : fitB q = true) : IsQ (textQ q) q := rat_of h
theorem IsQ.out {s : List UInt8} {q : Rat} (h : IsQ s q) : outF q = (s, 0) := by
  unfold outF
  rw [if_pos h.fit, h.text]
theorem IsQ.inj {a b : List UInt8} {q : Rat} (ha : IsQ a q) (hb : IsQ b q) : a = b := by rw [← ha.text, hb.text]
theorem IsQ.all2 {a b : List UInt8} {x y : Rat} (ha : IsQ a x) (hb : IsQ b y) : allE [a, b] = 0 := by
  refine allE_of (fun s hs => ?_)
  simp at hs
  rcases hs with rfl | rfl
  · exact ha.1
  · exact hb.1
theorem IsQ.two {a b : List UInt8} {x y : Rat} (F : Rat → Rat → Rat) (ha : IsQ a x) (hb : IsQ b y) : twoR F a b = outF (F x y) := by
  unfold twoR
  rw [if_pos (ha.all2 hb), ha.2, hb.2]
theorem IsQ.one {a : List UInt8} {x : Rat} (F : Rat → Rat) (ha : IsQ a x) : oneR F a = outF (F x) := by
  unfold oneR
  rw [if_pos ha.1, ha.2]
theorem IsQ.zero {a : List UInt8} {x : Rat} (ha : IsQ a x) : x = 0 ↔ a = [48] := by rw [← ha.2]; exact Parts.zero ha.1
theorem IsQ.div {a b : List UInt8} {x y : Rat} (ha : IsQ a x) (hb : IsQ b y) : divR a b = if y = 0 then ([], 18) else outF (x / y) := by
  unfold divR
  rw [if_pos (ha.all2 hb), ha.2, hb.2]
  by_cases h : b = [48]
  · rw [if_pos h, if_pos (hb.zero.2 h)]
  · rw [if_neg h, if_neg (fun e => h (hb.zero.1 e))]
theorem IsQ.sign {a : List UInt8} {x : Rat} (ha : IsQ a x) : signR a = (sgn x.num, 0) := by
  unfold signR
  rw [if_pos ha.1, ha.2]
/-- Numbers of at most so many digits. -/
def D (k : Nat) (q : Rat) : Prop := q.num.natAbs < 10 ^ k ∧ q.den < 10 ^ k
theorem D.mono {j k : Nat} {q : Rat} (h : D j q) (hk : j ≤ k) : D k q :=
  ⟨Nat.lt_of_lt_of_le h.1 (Nat.pow_le_pow_right (by decide) hk), Nat.lt_of_lt_of_le h.2 (Nat.pow_le_pow_right (by decide) hk)⟩
theorem D.fit {k : Nat} {q : Rat} (h : D k q) (hk : k ≤ 2000) : fitB q = true := by
  unfold fitB
  rw [Bool.and_eq_true, decide_eq_true_eq, decide_eq_true_eq]
  exact ⟨TB_len (lt_big h.1 hk), TB_len (lt_big h.2 hk)⟩
theorem D.out {k : Nat} {q : Rat} (h : D k q) (hk : k ≤ 2000) : outF q = (textQ q, 0) ∧ IsQ (textQ q) q := ⟨(isQ_of (h.fit hk)).out, isQ_of (h.fit hk)⟩
theorem IsQ.dig {s : List UInt8} {q : Rat} (h : IsQ s q) {k : Nat} (hk : s.length ≤ k) (h1 : 1 ≤ k) : D k q := by
  have ht := h.text
  have hl : (textQ q).length ≤ k := by rw [ht]; exact hk
  unfold textQ at hl
  rw [List.length_append, List.length_append] at hl
  refine ⟨Nat.lt_of_lt_of_le (digits_lt _) (Nat.pow_le_pow_right (by decide) (by omega)), ?_⟩
  by_cases hd : q.den = 1
  · rw [hd]
    exact Nat.lt_of_lt_of_le (show 1 < 10 ^ 1 by decide) (Nat.pow_le_pow_right (by decide) h1)
  · rw [if_neg hd, List.length_cons] at hl
    exact Nat.lt_of_lt_of_le (digits_lt _) (Nat.pow_le_pow_right (by decide) (by omega))
theorem d_frac {n d : Int} {k : Nat} (hd : d ≠ 0) (h1 : n.natAbs < 10 ^ k) (h2 : d.natAbs < 10 ^ k) : D k (Rat.divInt n d) := by
  obtain ⟨e1, e2, _⟩ := frac_parts n d hd
  refine ⟨?_, ?_⟩
  · rw [e1]; exact Nat.lt_of_le_of_lt (Nat.div_le_self _ _) h1
  · rw [e2]; exact Nat.lt_of_le_of_lt (Nat.div_le_self _ _) h2
theorem D.add {p q : Rat} {j k : Nat} (hp : D j p) (hq : D k q) : D (j + k + 1) (p + q) := by
  rw [← add_frac]
  have a1 := mul_big hp.1 hq.2
  have a2 := mul_big hq.1 hp.2
  rw [Nat.add_comm k j] at a2
  have a3 := mul_big hp.2 hq.2
  refine d_frac (by have := Nat.mul_ne_zero p.den_nz q.den_nz; omega) ?_ ?_
  · have h := Int.natAbs_add_le (p.num * q.den) (q.num * p.den)
    rw [Int.natAbs_mul, Int.natAbs_mul, Int.natAbs_natCast, Int.natAbs_natCast] at h
    exact Nat.lt_of_le_of_lt h (add_big a1 a2)
  · rw [Int.natAbs_natCast]
    exact Nat.lt_of_lt_of_le a3 (Nat.pow_le_pow_right (by decide) (by omega))
theorem D.neg {q : Rat} {k : Nat} (h : D k q) : D k (-q) := by
  refine ⟨?_, h.2⟩
  show (-q.num).natAbs < _
  rw [Int.natAbs_neg]; exact h.1
theorem D.sub {p q : Rat} {j k : Nat} (hp : D j p) (hq : D k q) : D (j + k + 1) (p - q) := by
  rw [Rat.sub_eq_add_neg]; exact hp.add hq.neg
theorem D.mul {p q : Rat} {j k : Nat} (hp : D j p) (hq : D k q) : D (j + k) (p * q) := by
  rw [← mul_frac]
  refine d_frac (by have := Nat.mul_ne_zero p.den_nz q.den_nz; omega) ?_ ?_
  · rw [Int.natAbs_mul]; exact mul_big hp.1 hq.1
  · rw [Int.natAbs_natCast]; exact mul_big hp.2 hq.2
theorem D.div {p q : Rat} {j k : Nat} (hp : D j p) (hq : D k q) (h0 : q ≠ 0) : D (j + k) (p / q) := by
  have hn : q.num ≠ 0 := fun h => h0 (Rat.num_eq_zero.1 h)
  rw [← div_frac p q h0]
  refine d_frac (Int.mul_ne_zero hn (by have := p.den_nz; omega)) ?_ ?_
  · rw [Int.natAbs_mul, Int.natAbs_natCast]; exact mul_big hp.1 hq.2
  · rw [Int.natAbs_mul, Int.natAbs_natCast, Nat.add_comm]; exact mul_big hq.1 hp.2
end Go.Ax.Rt

/-
  Floors and shares. No program in sight.
-/
namespace Go.Ax.Rt
open Go.Ax.Bg

end Go.Ax.Rt

/-
  Shares of shares. No program in sight.
-/
namespace Go.Ax.Rt
open Go.Ax.Bg

theorem div_one (q : Rat) : q / 1 = q := by
  have := Rat.mul_div_cancel (a := q) (b := 1) (by decide)
  rwa [Rat.mul_one] at this
structure Shared (l : List (List UInt8)) (v : List (List UInt8)) : Prop where
  len : v.length = l.length
  pos : posE v = 0
  one : (sumR v).1 = 1
  again : ((v.map ratV).map (fun q => q / (sumR v).1)).map textQ = v
  fits : ((v.map ratV).map (fun q => q / (sumR v).1)).all fitB = true
  odds : oddsR v = 0
  best : bestR v = bestR l ∧ (bestR l).2 = 0
end Go.Ax.Rt

/-
  Finite sums of rational numbers, products of matrices. No program in sight.
-/
namespace Go.Ax.Rt
open Go.Ax.Bg

def sumN (f : Nat → Rat) : Nat → Rat
  | 0 => 0
  | n + 1 => sumN f n + f n
theorem sumN_D {j : Nat} {f : Nat → Rat} : ∀ {n : Nat}, (∀ i, i < n → D j (f i)) → D (1 + n * (j + 1)) (sumN f n)
  | 0, _ => by
    rw [Nat.zero_mul]
    exact ⟨by show (0 : Rat).num.natAbs < _; decide, by show (0 : Rat).den < _; decide⟩
  | n + 1, h => by
    rw [sumN]
    have := (sumN_D (n := n) (fun i hi => h i (by omega))).add (h n (by omega))
    refine this.mono ?_
    rw [Nat.add_mul]; omega

/-- The sum of the products. -/
def dotQ (a b : List Rat) : Rat := sumN (fun i => a.getD i 0 * b.getD i 0) a.length
def colQ (m : List (List Rat)) (k : Nat) : List Rat := m.map (fun row => row.getD k 0)
def colsQ (m : List (List Rat)) (w : Nat) : List (List Rat) := (List.range w).map (colQ m)
def mulQ (a b : List (List Rat)) (w : Nat) : List (List Rat) := a.map (fun row => (colsQ b w).map (dotQ row))
def applyQ (m : List (List Rat)) (v : List Rat) : List Rat := m.map (fun row => dotQ row v)
theorem colQ_len (m : List (List Rat)) (k : Nat) : (colQ m k).length = m.length := by simp [colQ]
theorem colsQ_len (m : List (List Rat)) (w : Nat) : (colsQ m w).length = w := by simp [colsQ]
theorem map_getD {α β : Type} (f : α → β) (l : List α) (d : α) (e : β) (i : Nat) (hi : i < l.length) : (l.map f).getD i e = f (l.getD i d) := by simp [List.getD, hi]
theorem dotQ_D {a b : List Rat} {j k : Nat} (ha : ∀ x ∈ a, D j x) (hb : ∀ x ∈ b, D k x) (hl : a.length ≤ b.length) : D (1 + a.length * (j + k + 1)) (dotQ a b) := by
  refine sumN_D (fun i hi => (ha _ (by simp [List.getD, hi])).mul (hb _ (by simp [List.getD, show i < b.length by omega])))
end Go.Ax.Rt

/-
  What the package matrix computes, on texts. No program in sight.
-/
namespace Go.Ax.Rt
open Go.Ax.Bg

abbrev Text := List UInt8
def vecE (v : List Text) : Int := if 40 < v.length then 2 else allE v
def rowsE (w : Nat) : List (List Text) → Int
  | [] => 0
  | r :: rs => if r.length = w then (if vecE r = 0 then rowsE w rs else vecE r) else 3
def widM (m : List (List Text)) : Nat := (m.getD 0 []).length
/-- matrix.Check -/
def matE (m : List (List Text)) : Int := if 40 < m.length then 2 else rowsE (widM m) m
def inM (m : List (List Text)) : List (List Rat) := m.map (fun r => r.map ratV)
def outM (q : List (List Rat)) : List (List Text) × Int := if q.all (fun r => r.all fitB) then (q.map (fun r => r.map textQ), 0) else ([], 2)
def dotR (a b : List Text) : Text × Int := if vecE a ≠ 0 then ([], vecE a) else if vecE b ≠ 0 then ([], vecE b) else if a.length = b.length then outF (dotQ (a.map ratV) (b.map ratV)) else ([], 3)
def applyR (m : List (List Text)) (v : List Text) : List Text × Int := if matE m ≠ 0 then ([], matE m) else if vecE v ≠ 0 then ([], vecE v) else if m ≠ [] ∧ widM m ≠ v.length then ([], 3) else outAllF (applyQ (inM m) (v.map ratV))
def mulR (a b : List (List Text)) : List (List Text) × Int := if matE a ≠ 0 then ([], matE a) else if matE b ≠ 0 then ([], matE b) else if widM a = b.length then outM (mulQ (inM a) (inM b) (widM b)) else ([], 3)
def transT (m : List (List Text)) : List (List Text) := (List.range (widM m)).map (fun k => m.map (fun r => r.getD k []))
def transR (m : List (List Text)) : List (List Text) × Int := if matE m ≠ 0 then ([], matE m) else (transT m, 0)
theorem vecE_zero {v : List Text} (h : vecE v = 0) : v.length ≤ 40 ∧ allE v = 0 := by
  unfold vecE at h
  split at h
  · cases h
  · exact ⟨by omega, h⟩
theorem rowsE_zero {w : Nat} : ∀ {m : List (List Text)}, rowsE w m = 0 → ∀ r ∈ m, r.length = w ∧ vecE r = 0
  | [], _, r, hr => by simp at hr
  | a :: m, h, r, hr => by
    rw [rowsE] at h
    split at h
    · rename_i h1
      split at h
      · rename_i h2
        rcases List.mem_cons.1 hr with rfl | hr
        · exact ⟨h1, h2⟩
        · exact rowsE_zero h r hr
      · contradiction
    · cases h
/-- A valid matrix of so many rows and columns. -/
structure IsM (m : List (List Text)) (p q : Nat) : Prop where
  rows : m.length = p
  cols : ∀ r ∈ m, r.length = q
  sp : p ≤ 40
  sq : m ≠ [] → q ≤ 40
  ok : ∀ r ∈ m, ∀ s ∈ r, ratE s = 0
theorem matE_zero {m : List (List Text)} (h : matE m = 0) : IsM m m.length (widM m) := by
  unfold matE at h
  split at h
  · cases h
  · have h1 := rowsE_zero h
    refine ⟨rfl, fun r hr => (h1 r hr).1, by omega, fun hne => ?_, fun r hr s hs => allE_mem (vecE_zero (h1 r hr).2).2 s hs⟩
    obtain ⟨a, m', rfl⟩ := List.exists_cons_of_ne_nil hne
    have h2 := h1 a (by simp)
    have := (vecE_zero h2.2).1
    omega
theorem inM_len (m : List (List Text)) : (inM m).length = m.length := by simp [inM]
theorem inM_cols {m : List (List Text)} {p q : Nat} (h : IsM m p q) : ∀ r ∈ inM m, r.length = q := by
  intro r hr
  obtain ⟨x, hx, rfl⟩ := List.mem_map.1 hr
  rw [List.length_map]; exact h.cols x hx
/-- Short texts. -/
def tiny (n k : Nat) (m : List (List Text)) : Bool := decide (m.length ≤ n) && m.all (fun v => decide (v.length ≤ n) && v.all (fun s => decide (s.length ≤ k)))
theorem tiny_spec {n k : Nat} {m : List (List Text)} (h : tiny n k m = true) : m.length ≤ n ∧ ∀ v ∈ m, v.length ≤ n ∧ ∀ s ∈ v, s.length ≤ k := by
  unfold tiny at h
  simp only [Bool.and_eq_true, decide_eq_true_eq, List.all_eq_true] at h
  exact ⟨h.1, fun v hv => ⟨(h.2 v hv).1, fun s hs => (h.2 v hv).2 s hs⟩⟩
theorem inM_D {m : List (List Text)} {p q k : Nat} (h : IsM m p q) (hk : ∀ v ∈ m, ∀ s ∈ v, s.length ≤ k) (h1 : 1 ≤ k) : ∀ r ∈ inM m, ∀ x ∈ r, D k x := by
  intro r hr x hx
  obtain ⟨y, hy, rfl⟩ := List.mem_map.1 hr
  obtain ⟨s, hs, rfl⟩ := List.mem_map.1 hx
  exact (IsQ.self (h.ok y hy s hs)).dig (hk y hy s hs) h1
end Go.Ax.Rt

/-
  The laws of matrices, on texts. No program in sight.
-/
namespace Go.Ax.Rt
open Go.Ax.Bg

theorem tiny_spec3 {n k : Nat} {m : List (List Text)} (h : tiny n k m = true) : m.length ≤ n ∧ (∀ v ∈ m, v.length ≤ n) ∧ ∀ v ∈ m, ∀ s ∈ v, s.length ≤ k :=
  ⟨(tiny_spec h).1, fun v hv => ((tiny_spec h).2 v hv).1, fun v hv => ((tiny_spec h).2 v hv).2⟩
/-- The product of short valid matrices. -/
structure Prod (a b : List (List Text)) (t : List (List Text)) (p q r K : Nat) : Prop where
  res : mulR a b = (t, 0)
  ok : IsM t p r
  val : inM t = mulQ (inM a) (inM b) r
  dig : ∀ x ∈ inM t, ∀ y ∈ x, D K y
end Go.Ax.Rt

namespace Go.Proofs.YtgmleamhjnlknaaGreatDoor
open Go.Ax Go.Ax.Bg Go.Ax.Rt Go.RowKit
attribute [local irreducible] Ax Post QOp ACall PureOp
set_option maxRecDepth 100000
set_option maxHeartbeats 4000000

def cellS (r : List Text) : List AV := [.ro (.strs r) 0 r.length]
def cellR (r : List Rat) : List AV := [.ro (qsC r) 0 r.length]
abbrev rowsT (m : List (List Text)) : Cells := rowE [] 1 cellS m
abbrev rowsQ (m : List (List Rat)) : Cells := rowE [] 1 cellR m
theorem cellR_noref (r : List Rat) (j h : Nat) (hj : j < 1) : ((cellR r).getD j .any).forget h = (cellR r).getD j .any := by
  obtain rfl : j = 0 := by omega
  rfl
theorem refless_rowsQ (m : List (List Rat)) : refless (rowsQ m) := by
  intro i j _ hj
  obtain rfl : j = 0 := by have hj : j < 1 := hj; omega
  rfl
theorem rowR1 (q : List Rat) (j : Nat) (hj : j < 1) : (rowOf 1 1 [.ro (qsC q) 0 q.length]).at 0 j = (cellR q).getD j .any := by
  obtain rfl : j = 0 := by omega
  rfl
theorem vec_ok (v : List Text) (hlen : v.length ≤ 9223372036854775807) (hs : ∀ s ∈ v, s.length ≤ 9223372036854775807) : VCall Tryz.prog 42 [.ro (.strs v) 0 v.length] (.int .i64 (vecE v)) := by
  have h1 := checkAll_ok v hlen hs
  unfold vecE
  refine ACall.value0 (acall_of_ax (P := Tryz.prog) (fn := Tryz.f42) rfl rfl (by kernel_rfl) rfl (fun c hR hfix => ?_)) (fix := fun _ => False) (fun _ h => h) rfl rfl
  repeat (first
    | refine ax_q (q_move rfl) ?_
    | refine ax_q (q_assign rfl) ?_
    | refine ax_ops_nil ?_
    | refine ax_post_code ?_
    | refine ax_seq ?_
    | refine ax_region rfl ?_
    | refine ax_q (q_gtr rfl rfl) ?_
    | refine ax_q (q_len rfl rfl rfl) ?_)
  refine ax_cond_dec rfl (fun h => ?_) (fun h => ?_)
  · rw [if_pos (by omega)] at hR
    repeat (first
      | refine ax_q (q_assign rfl) ?_
      | refine ax_ops_nil ?_
      | refine ax_post_code ?_
      | refine ax_seq ?_
      | refine ax_region rfl ?_
      | refine ax_return ?_
      | refine ax_ret_code ?_)
    exact ax_ret hR rfl rfl
  · rw [if_neg (by omega)] at hR
    repeat (first
      | refine ax_q (q_move rfl) ?_
      | refine ax_post_code ?_
      | refine ax_seq ?_
      | refine ax_region rfl ?_
      | refine ax_skip ?_)
    refine ax_callv rfl rfl rfl h1 ?_
    repeat (first
      | refine ax_q (q_assign rfl) ?_
      | refine ax_ops_nil ?_
      | refine ax_post_code ?_
      | refine ax_return ?_)
    exact ax_ret hR rfl rfl
theorem width_ok (m : List (List Text)) (hlen : m.length ≤ 9223372036854775807) : VCall Tryz.prog 93 [.ro (rowsT m) 0 m.length] (.int .i64 (widM m : Nat)) := by
  refine ACall.value0 (acall_of_ax (P := Tryz.prog) (fn := Tryz.f93) rfl rfl (by kernel_rfl) rfl (fun c hR hfix => ?_)) (fix := fun _ => False) (fun _ h => h) rfl rfl
  repeat (first
    | refine ax_q (q_move rfl) ?_
    | refine ax_q (q_assign rfl) ?_
    | refine ax_ops_nil ?_
    | refine ax_post_code ?_
    | refine ax_seq ?_
    | refine ax_region rfl ?_
    | refine ax_q (q_eql rfl rfl) ?_
    | refine ax_q (q_len rfl rfl rfl) ?_)
  refine ax_cond_dec rfl (fun h => ?_) (fun h => ?_)
  · obtain rfl : m = [] := List.length_eq_zero_iff.1 (by omega)
    repeat (first
      | refine ax_q (q_assign rfl) ?_
      | refine ax_ops_nil ?_
      | refine ax_post_code ?_
      | refine ax_seq ?_
      | refine ax_region rfl ?_
      | refine ax_return ?_
      | refine ax_ret_code ?_)
    exact ax_ret hR rfl rfl
  · have hm : 0 < m.length := by omega
    repeat (first
      | refine ax_q (q_move rfl) ?_
      | refine ax_q (q_assign rfl) ?_
      | refine ax_ops_nil ?_
      | refine ax_post_code ?_
      | refine ax_seq ?_
      | refine ax_region rfl ?_
      | refine ax_skip ?_
      | refine ax_return ?_
      | refine ax_q (q_loadf_rp rfl rfl rfl rfl) ?_
      | refine ax_q (q_len rfl rfl rfl) ?_
      | refine ax_q (q_index_ro' rfl rfl rfl rfl (by first | (simp only [Nat.zero_add, Int.toNat_natCast, Int.toNat_zero]; exact rfl) | exact rfl) (by omega)) ?_)
    exact ax_ret hR rfl rfl
theorem mcheck_ok (m : List (List Text)) (hlen : m.length ≤ 9223372036854775807) (hr : ∀ r ∈ m, r.length ≤ 9223372036854775807 ∧ ∀ s ∈ r, s.length ≤ 9223372036854775807) : VCall Tryz.prog 92 [.ro (rowsT m) 0 m.length] (.int .i64 (matE m)) := by
  unfold matE
  refine ACall.value0 (acall_of_ax (P := Tryz.prog) (fn := Tryz.f92) rfl rfl (by kernel_rfl) rfl (fun c hR hfix => ?_)) (fix := fun _ => False) (fun _ h => h) rfl rfl
  repeat (first
    | refine ax_q (q_move rfl) ?_
    | refine ax_q (q_assign rfl) ?_
    | refine ax_ops_nil ?_
    | refine ax_post_code ?_
    | refine ax_seq ?_
    | refine ax_region rfl ?_
    | refine ax_q (q_gtr rfl rfl) ?_
    | refine ax_q (q_len rfl rfl rfl) ?_)
  refine ax_cond_dec rfl (fun h => ?_) (fun h => ?_)
  · rw [if_pos (by omega)] at hR
    repeat (first
      | refine ax_q (q_assign rfl) ?_
      | refine ax_ops_nil ?_
      | refine ax_post_code ?_
      | refine ax_seq ?_
      | refine ax_region rfl ?_
      | refine ax_return ?_
      | refine ax_ret_code ?_)
    exact ax_ret hR rfl rfl
  rw [if_neg (by omega)] at hR
  repeat (first
    | refine ax_q (q_move rfl) ?_
    | refine ax_ops_nil ?_
    | refine ax_post_code ?_
    | refine ax_seq ?_
    | refine ax_region rfl ?_
    | refine ax_block ?_
    | refine ax_skip ?_
    | refine ax_q (q_len rfl rfl rfl) ?_)
  refine ax_loop (ι := Nat) (fun k => [(0, .ro (rowsT m) 0 m.length), (9, .ro (rowsT m) 0 m.length), (10, .int .i64 (m.length : Nat)), (11, .int .i64 (k : Nat))]) (fun _ => [])
    (fun k => k ≤ m.length ∧ rowsE (widM m) m = rowsE (widM m) (m.drop k)) (fun k => m.length - k) 0 ⟨⟨rfl, rfl, rfl, rfl, trivial⟩, rfl, Nat.zero_le _, by rw [List.drop_zero]⟩ ?_
  intro k ⟨hk, hE⟩
  repeat (first
    | refine ax_ops_nil ?_
    | refine ax_post_code ?_
    | refine ax_seq ?_
    | refine ax_region rfl ?_
    | refine ax_q (q_lss rfl rfl) ?_)
  refine ax_cond_dec rfl (fun h => ?_) (fun h => ?_)
  · have hk' : k < m.length := by omega
    have hm : 0 < m.length := by omega
    have hd := drop_cons (d := []) hk'
    have hc := vec_ok (m.getD k []) (hr _ (getD_mem [] hk')).1 (hr _ (getD_mem [] hk')).2
    rw [hd, rowsE] at hE
    repeat (first
      | refine ax_q (q_move rfl) ?_
      | refine ax_q (q_assign rfl) ?_
      | refine ax_ops_nil ?_
      | refine ax_post_code ?_
      | refine ax_seq ?_
      | refine ax_region rfl ?_
      | refine ax_block ?_
      | refine ax_skip ?_
      | refine ax_q (q_loadf_rp rfl rfl rfl rfl) ?_
      | refine ax_q (q_neq rfl rfl) ?_
      | refine ax_q (q_len rfl rfl rfl) ?_
      | refine ax_q (q_index_ro' rfl rfl rfl rfl (by first | (simp only [Nat.zero_add, Int.toNat_natCast, Int.toNat_zero]; exact rfl) | exact rfl) (by omega)) ?_)
    refine ax_cond_dec rfl (fun h2 => ?_) (fun h2 => ?_)
    · have h3 : ¬ (m.getD k []).length = widM m := fun e => h2 (by show (((m.getD k []).length : Nat) : Int) = ((widM m : Nat) : Int); omega)
      rw [if_neg h3] at hE
      rw [hE] at hR
      repeat (first
        | refine ax_q (q_assign rfl) ?_
        | refine ax_ops_nil ?_
        | refine ax_post_code ?_
        | refine ax_seq ?_
        | refine ax_region rfl ?_
        | refine ax_return ?_
        | refine ax_ret_code ?_
        | refine ax_ret_blk ?_
        | refine ax_ret_inv ?_)
      exact ax_ret hR rfl rfl
    · have h3 : (m.getD k []).length = widM m := by
        have h4 : (((m.getD k []).length : Nat) : Int) = ((widM m : Nat) : Int) := Classical.not_not.1 h2
        omega
      rw [if_pos h3] at hE
      repeat (first
        | refine ax_q (q_move rfl) ?_
        | refine ax_post_code ?_
        | refine ax_seq ?_
        | refine ax_region rfl ?_
        | refine ax_skip ?_)
      refine ax_callv rfl rfl rfl hc ?_
      repeat (first
        | refine ax_q (q_move rfl) ?_
        | refine ax_q (q_assign rfl) ?_
        | refine ax_ops_nil ?_
        | refine ax_post_code ?_
        | refine ax_seq ?_
        | refine ax_region rfl ?_
        | refine ax_q (q_neq rfl rfl) ?_)
      refine ax_cond_dec rfl (fun h5 => ?_) (fun h5 => ?_)
      · rw [if_neg h5] at hE
        rw [hE] at hR
        repeat (first
          | refine ax_q (q_move rfl) ?_
          | refine ax_q (q_assign rfl) ?_
          | refine ax_ops_nil ?_
          | refine ax_post_code ?_
          | refine ax_seq ?_
          | refine ax_region rfl ?_
          | refine ax_return ?_
          | refine ax_ret_code ?_
          | refine ax_ret_blk ?_
          | refine ax_ret_inv ?_)
        exact ax_ret hR rfl rfl
      · rw [if_pos (Classical.not_not.1 h5)] at hE
        repeat (first
          | refine ax_q (q_move rfl) ?_
          | refine ax_ops_nil ?_
          | refine ax_post_code ?_
          | refine ax_region rfl ?_
          | refine ax_post_blk ?_
          | refine ax_skip ?_
          | refine ax_q (q_add rfl rfl (by omega)) ?_)
        exact ax_post_inv ⟨k + 1, ⟨by omega, hE⟩, by omega, ⟨rfl, rfl, rfl, rfl, trivial⟩, rfl⟩
  · have hk' : k = m.length := by omega
    subst hk'
    rw [List.drop_length] at hE
    rw [hE] at hR
    repeat (first
      | refine ax_q (q_assign rfl) ?_
      | refine ax_ops_nil ?_
      | refine ax_post_code ?_
      | refine ax_seq ?_
      | refine ax_region rfl ?_
      | refine ax_exit ?_
      | refine ax_exit_here ?_
      | refine ax_exit_code ?_
      | refine ax_exit_inv ?_
      | refine ax_return ?_)
    exact ax_ret hR rfl rfl
theorem in_ok' (l : List Text) (hlen : l.length ≤ 1000000) (hs : ∀ s ∈ l, s.length ≤ 9223372036854775807 ∧ ratE s = 0) : VCall Tryz.prog 70 [.ro (.strs l) 0 l.length] (.ro (qsC (l.map ratV)) 0 (l.map ratV).length) := by
  have := in_ok l hlen hs
  rwa [List.length_map]
theorem min_ok (m : List (List Text)) (hlen : m.length ≤ 1000000) (hr : ∀ r ∈ m, r.length ≤ 1000000 ∧ ∀ s ∈ r, s.length ≤ 9223372036854775807 ∧ ratE s = 0) : VCall Tryz.prog 64 [.ro (rowsT m) 0 m.length] (.ro (rowsQ (inM m)) 0 m.length) := by
  refine ACall.value0 (acall_of_ax (P := Tryz.prog) (fn := Tryz.f64) rfl rfl (by kernel_rfl) rfl (fun c hR hfix => ?_)) (fix := fun _ => False) (fun _ h => h) rfl rfl
  repeat (first
    | refine ax_q (q_move rfl) ?_
    | refine ax_q (q_assign rfl) ?_
    | refine ax_ops_nil ?_
    | refine ax_post_code ?_
    | refine ax_seq ?_
    | refine ax_region rfl ?_
    | refine ax_q (q_len rfl rfl rfl) ?_)
  refine ax_nilobj 3 ⟨102, rowsQ []⟩ rfl rfl ?_
  repeat (refine ax_block ?_)
  refine ax_loop (ι := Nat) (fun k => [(0, .ro (rowsT m) 0 m.length), (3, .sl 0 0 k), (6, .ro (rowsT m) 0 m.length), (7, .int .i64 (m.length : Nat)), (8, .int .i64 (k : Nat))]) (fun k => [some ⟨102, rowsQ ((m.take k).map (fun r => r.map ratV))⟩])
    (fun k => k ≤ m.length) (fun k => m.length - k) 0 ⟨⟨rfl, rfl, rfl, rfl, rfl, trivial⟩, rfl, Nat.zero_le _⟩ ?_
  intro k hk
  repeat (first
    | refine ax_ops_nil ?_
    | refine ax_post_code ?_
    | refine ax_seq ?_
    | refine ax_region rfl ?_
    | refine ax_q (q_lss rfl rfl) ?_)
  refine ax_cond_dec rfl (fun h => ?_) (fun h => ?_)
  · have hk' : k < m.length := by omega
    obtain ⟨b1, b2⟩ := hr _ (getD_mem [] hk')
    have hc := in_ok' (m.getD k []) b1 b2
    have htk := map_take_succ (fun r : List Text => r.map ratV) m [] k hk'
    have hml : ((m.take k).map (fun r : List Text => r.map ratV)).length = k := by rw [List.length_map, List.length_take]; omega
    generalize (m.take k).map (fun r : List Text => r.map ratV) = qs at *
    generalize (m.getD k []).map ratV = q at *
    repeat (first
      | refine ax_q (q_move rfl) ?_
      | refine ax_q (q_assign rfl) ?_
      | refine ax_ops_nil ?_
      | refine ax_post_code ?_
      | refine ax_seq ?_
      | refine ax_region rfl ?_
      | refine ax_block ?_
      | refine ax_skip ?_
      | refine ax_q (q_loadf_rp rfl rfl rfl rfl) ?_
      | refine ax_q (q_index_ro' rfl rfl rfl rfl (by first | (simp only [Nat.zero_add, Int.toNat_natCast, Int.toNat_zero]; exact rfl) | exact rfl) (by omega)) ?_)
    refine ax_callv rfl rfl rfl hc ?_
    repeat (refine ax_buildSliceRo rfl rfl rfl rfl rfl rfl rfl rfl rfl rfl rfl ?_)
    refine ax_append rfl rfl rfl rfl rfl rfl rfl rfl rfl hml rfl rfl (by show 0 + 1 ≤ 1; omega) rfl (by show (k + 1) * 24 ≤ _ ∧ _; omega) ?_ (by rw [hfix]; exact fun h => h) ?_
    · intro i' j hi hj
      exact rowE_noref [] 1 cellR cellR_noref qs q _ (rowR1 _) 0 i' j hi hj
    repeat (first
      | refine ax_q (q_assign rfl) ?_
      | refine ax_ops_nil ?_
      | refine ax_post_blk ?_)
    refine ax_post_code ?_
    refine ax_heap [some ⟨102, rowsQ ((m.take (k + 1)).map (fun r => r.map ratV))⟩] ?_ ?_
    · rw [htk]
      exact HSub.eqv (rowE_snoc [] 1 cellR qs q _ (rowR1 _)) HSub.nil
    repeat (first
      | refine ax_q (q_move rfl) ?_
      | refine ax_ops_nil ?_
      | refine ax_region rfl ?_
      | refine ax_q (q_add rfl rfl (by omega)) ?_)
    exact ax_post_inv ⟨k + 1, by omega, by omega, ⟨rfl, rfl, rfl, rfl, rfl, trivial⟩, rfl⟩
  · have hk' : k = m.length := by omega
    subst hk'
    rw [List.take_length]
    repeat (first
      | refine ax_post_code ?_
      | refine ax_seq ?_
      | refine ax_exit ?_
      | refine ax_exit_here ?_
      | refine ax_exit_code ?_
      | refine ax_exit_inv ?_)
    refine ax_give_code 0 3 m.length [] rfl (refless_rowsQ _) rfl (by show _ ≤ (m.map _).length; rw [List.length_map]; exact Nat.le_refl _) trivial ?_
    repeat (first
      | refine ax_q (q_move rfl) ?_
      | refine ax_q (q_assign rfl) ?_
      | refine ax_ops_nil ?_
      | refine ax_post_code ?_
      | refine ax_region rfl ?_
      | refine ax_return ?_)
    exact ax_ret hR rfl rfl
end Go.Proofs.YtgmleamhjnlknaaGreatDoor

namespace Go.Proofs.YtgmleamhjnlknaaGreatDoor
open Go.Ax Go.Ax.Bg Go.Ax.Rt Go.RowKit
attribute [local irreducible] Ax Post QOp ACall PureOp
set_option maxRecDepth 100000
set_option maxHeartbeats 4000000

theorem sz_D {m : Nat} {q : Rat} (h : D (9 * m) q) : Sz m q := by
  have key : ∀ n : Nat, n < 10 ^ (9 * m) → (natL n).length ≤ m := fun n hn => by
    refine natL_len_le (Nat.lt_of_lt_of_le hn ?_)
    rw [Nat.pow_mul]
    exact Nat.pow_le_pow_left (by decide) m
  exact ⟨key _ h.1, key _ h.2⟩
theorem dot_ok (a b : List Rat) (j k : Nat) (ha : ∀ q ∈ a, D j q) (hb : ∀ q ∈ b, D k q) (hl : a.length ≤ b.length) (hal : b.length ≤ 1000000) (hK : 1 + a.length * (j + k + 1) ≤ 900000) : VCall Tryz.prog 95 [.ro (qsC a) 0 a.length, .ro (qsC b) 0 b.length] (qA (dotQ a b)) := by
  refine ACall.value0 (acall_of_ax (P := Tryz.prog) (fn := Tryz.f95) rfl rfl (by kernel_rfl) rfl (fun c hR hfix => ?_)) (fix := fun _ => False) (fun _ h => h) rfl rfl
  repeat (first
    | refine ax_ops_nil ?_
    | refine ax_post_code ?_
    | refine ax_seq ?_
    | refine ax_region rfl ?_
    | refine ax_alloc rfl rfl rfl ?_)
  refine ax_callv rfl rfl rfl of_zero ?_
  repeat (refine ax_alloc rfl rfl rfl ?_)
  refine ax_storeagg (c' := .box (cellsQ 0)) rfl rfl rfl rfl rfl Nat.zero_lt_one rfl rfl (fun i' j' hi' hj' => ?_) ?_
  · rw [if_pos (Nat.lt_one_iff.1 hi')]; rfl
  repeat (first
    | refine ax_q (q_move rfl) ?_
    | refine ax_ops_nil ?_
    | refine ax_post_code ?_
    | refine ax_seq ?_
    | refine ax_region rfl ?_
    | refine ax_block ?_
    | refine ax_q (q_len rfl rfl rfl) ?_)
  refine ax_loop (ι := Nat × Rat) (fun p => [(0, .ro (qsC a) 0 a.length), (1, .ro (qsC b) 0 b.length), (4, .ptr 0 0 0), (5, .ptr 1 0 0), (9, .ro (qsC a) 0 a.length), (10, .int .i64 (a.length : Nat)), (11, .int .i64 (p.1 : Nat))]) (fun p => [some ⟨108, .box [.bool false, .nil, .nil]⟩, some ⟨108, .box (cellsQ p.2)⟩])
    (fun p => p.1 ≤ a.length ∧ p.2 = sumN (fun i => a.getD i 0 * b.getD i 0) p.1) (fun p => a.length - p.1) (0, 0) ⟨⟨rfl, rfl, rfl, rfl, rfl, rfl, rfl, trivial⟩, rfl, Nat.zero_le _, rfl⟩ ?_
  rintro ⟨i, acc⟩ ⟨hi, hA⟩
  simp only at *
  have hterm : ∀ i', i' < a.length → D (j + k) (a.getD i' 0 * b.getD i' 0) := fun i' h' => (ha _ (getD_mem 0 h')).mul (hb _ (getD_mem 0 (by omega)))
  have hDa : D (1 + i * (j + k + 1)) acc := by rw [hA]; exact sumN_D (fun i' h' => hterm i' (by omega))
  have hb1 : i * (j + k + 1) ≤ a.length * (j + k + 1) := Nat.mul_le_mul_right _ hi
  repeat (first
    | refine ax_ops_nil ?_
    | refine ax_post_code ?_
    | refine ax_seq ?_
    | refine ax_region rfl ?_
    | refine ax_q (q_lss rfl rfl) ?_)
  refine ax_cond_dec rfl (fun h => ?_) (fun h => ?_)
  · have hi' : i < a.length := by omega
    have hib : i < b.length := by omega
    have hm := hterm i hi'
    have hx := ha _ (getD_mem 0 hi')
    have hy := hb _ (getD_mem 0 hib)
    have hsz1 : Sz 100000 (a.getD i 0) := sz_D (hx.mono (by have := Nat.le_mul_of_pos_left (j + k + 1) (show 0 < a.length by omega); omega))
    have hsz2 : Sz 100000 (b.getD i 0) := sz_D (hy.mono (by have := Nat.le_mul_of_pos_left (j + k + 1) (show 0 < a.length by omega); omega))
    have hsz3 : Sz 100000 (a.getD i 0 * b.getD i 0) := sz_D (hm.mono (by have := Nat.le_mul_of_pos_left (j + k + 1) (show 0 < a.length by omega); omega))
    have hsz4 : Sz 100000 acc := sz_D (hDa.mono (by omega))
    have hnext : acc + a.getD i 0 * b.getD i 0 = sumN (fun i => a.getD i 0 * b.getD i 0) (i + 1) := by rw [sumN, hA]
    repeat (first
      | refine ax_q (q_move rfl) ?_
      | refine ax_q (q_assign rfl) ?_
      | refine ax_post_code ?_
      | refine ax_seq ?_
      | refine ax_region rfl ?_
      | refine ax_block ?_
      | refine ax_skip ?_
      | refine ax_q (q_index_ro' rfl rfl rfl rfl (by first | (simp only [Nat.zero_add, Int.toNat_natCast, Int.toNat_zero]; exact rfl) | exact rfl) (by omega)) ?_
      | refine ax_q (q_loadagg_rp rfl rfl rfl rfl rfl rfl) ?_
      | refine ax_alloc rfl rfl rfl ?_)
    refine ax_slot_ops 15 (.agg (cellsQ (a.getD i 0))) rfl (AEq.of_eq rfl) ?_
    have e5 : b.getD i 0 = b.getD i 0 := rfl
    generalize hp : a.getD i 0 = p at *
    have g1 := qsign_ok p
    refine ax_storeagg (c' := .box (cellsQ p)) rfl rfl rfl rfl rfl Nat.zero_lt_one rfl rfl (fun i' j' hi' hj' => ?_) ?_
    · rw [if_pos (Nat.lt_one_iff.1 hi')]; rfl
    repeat (first
      | refine ax_ops_nil ?_
      | refine ax_post_code ?_
      | refine ax_seq ?_
      | refine ax_region rfl ?_
      | refine ax_q (q_loadpart_ptr rfl rfl rfl rfl rfl rfl rfl (by first | exact Nat.zero_lt_one | assumption | omega)) ?_)
    refine ax_callv rfl rfl rfl g1 ?_
    repeat (first
      | refine ax_q (q_move rfl) ?_
      | refine ax_q (q_neq rfl rfl) ?_)
    have hz : ∀ x : Rat, sgn x.num = 0 → x = 0 := fun x hx => sgn_zero.1 hx
    generalize hq : b.getD i 0 = q at *
    have g2 := qsign_ok q
    have g3 := qmul_ok p q hsz1 hsz2
    have g4 := qadd_ok acc (p * q) hsz4 hsz3
    have g3' : VCall Tryz.prog 118 [qA p, qA (b.getD i 0)] (qA (p * q)) := by rw [hq]; exact g3
    refine ax_gsplit rfl rfl (fun h1 => ?_) (fun h1 => ?_)
    · repeat (first
        | refine ax_q (q_move rfl) ?_
        | refine ax_guard rfl rfl ?_
        | refine ax_q (q_index_ro' rfl rfl rfl rfl (by first | (simp only [Nat.zero_add, Int.toNat_natCast, Int.toNat_zero]; exact rfl) | exact rfl) (by omega)) ?_
        | refine ax_q (q_loadagg_rp rfl rfl rfl rfl rfl rfl) ?_)
      refine ax_slot_ops 23 (.agg (cellsQ q)) rfl (AEq.of_eq (by rw [← hq]; rfl)) ?_
      refine ax_callv rfl rfl rfl g2 ?_
      repeat (first
        | refine ax_ops_nil ?_
        | refine ax_post_code ?_
        | refine ax_guard rfl rfl ?_
        | refine ax_q (q_neq rfl rfl) ?_
        | refine ax_q (q_pick rfl rfl) ?_)
      refine ax_cond_dec rfl (fun h2 => ?_) (fun h2 => ?_)
      · skip
        refine ax_regiond (by kernel_rfl) ?_
        refine ax_any_run (fuel := 1) [0, 1, 2, 3, 4, 5, 6, 7] [(0, .ro (qsC a) 0 a.length), (1, .ro (qsC b) 0 b.length), (5, .ptr 1 0 0), (7, .ptr 2 0 0), (6, .int .i64 (i : Nat)), (4, .ptr 0 0 0), (9, .ro (qsC a) 0 a.length), (10, .int .i64 (a.length : Nat)), (11, .int .i64 (i : Nat))] ⟨rfl, rfl, rfl, rfl, rfl, rfl, rfl, rfl, rfl, trivial⟩ (by kernel_rfl) (by decide) rfl rfl ?_
        refine px_q rfl rfl (q_loadpart_ptr rfl rfl rfl rfl rfl rfl rfl (by first | exact Nat.zero_lt_one | assumption | omega)) ?_
        refine px_q rfl rfl (q_loadpart_ptr rfl rfl rfl rfl rfl rfl rfl (by first | exact Nat.zero_lt_one | assumption | omega)) ?_
        refine px_q rfl rfl (q_move rfl) ?_
        refine px_q rfl rfl (q_move rfl) ?_
        refine px_q rfl rfl (q_index_ro' rfl rfl rfl rfl (by first | (simp only [Nat.zero_add, Int.toNat_natCast, Int.toNat_zero]; exact rfl) | exact rfl) (by omega)) ?_
        refine px_q rfl rfl (q_loadagg_rp rfl rfl rfl rfl rfl rfl) ?_
        refine px_v rfl rfl rfl rfl rfl g3' ?_
        refine px_v rfl rfl rfl rfl rfl g4 ?_
        refine px_done ?_
        refine ax_any_step (is := [8]) (by kernel_rfl) (by simp) rfl ⟨fun o ho => ?_, trivial⟩
        all_goals (cases ho)
        skip
        unfold qA
        refine ax_storeagg (c' := .box (cellsQ (acc + p * q))) rfl rfl rfl rfl rfl Nat.zero_lt_one rfl rfl (fun i' j' hi' hj' => ?_) ?_
        · rw [if_pos (Nat.lt_one_iff.1 hi')]; rfl
        repeat (first
          | refine ax_ops_nil ?_
          | refine ax_post_any ?_)
        refine ax_any_done (by kernel_rfl) ?_
        repeat (refine ax_post_blk ?_)
        refine ax_post_code ?_
        refine ax_heap ([some ⟨108, .box [.bool false, .nil, .nil]⟩, some ⟨108, .box (cellsQ (acc + p * q))⟩] ++ [none]) ?_ ?_
        · exact HSub.eqv (CEq.refl _) (HSub.eqv (CEq.refl _) (HSub.drop HSub.nil))
        refine ax_drop (H1 := [some ⟨108, .box [.bool false, .nil, .nil]⟩, some ⟨108, .box (cellsQ (acc + p * q))⟩]) rfl (by rw [hfix]; exact fun h => h) ?_
        repeat (first
          | refine ax_q (q_move rfl) ?_
          | refine ax_ops_nil ?_
          | refine ax_region rfl ?_
          | refine ax_q (q_add rfl rfl (by omega)) ?_)
        exact ax_post_inv ⟨(i + 1, (acc + p * q)), ⟨by simp only; omega, hnext⟩, by simp only; omega, ⟨rfl, rfl, rfl, rfl, rfl, rfl, rfl, trivial⟩, rfl⟩
      · have e0 : q = 0 := hz q (Classical.not_not.1 h2)
        rw [e0, Rat.mul_zero, Rat.add_zero] at hnext
        repeat (first
          | refine ax_post_blk ?_
          | refine ax_skip ?_)
        refine ax_post_code ?_
        refine ax_heap ([some ⟨108, .box [.bool false, .nil, .nil]⟩, some ⟨108, .box (cellsQ acc)⟩] ++ [none]) ?_ ?_
        · exact HSub.eqv (CEq.refl _) (HSub.eqv (CEq.refl _) (HSub.drop HSub.nil))
        refine ax_drop (H1 := [some ⟨108, .box [.bool false, .nil, .nil]⟩, some ⟨108, .box (cellsQ acc)⟩]) rfl (by rw [hfix]; exact fun h => h) ?_
        repeat (first
          | refine ax_q (q_move rfl) ?_
          | refine ax_ops_nil ?_
          | refine ax_region rfl ?_
          | refine ax_q (q_add rfl rfl (by omega)) ?_)
        exact ax_post_inv ⟨(i + 1, acc), ⟨by simp only; omega, hnext⟩, by simp only; omega, ⟨rfl, rfl, rfl, rfl, rfl, rfl, rfl, trivial⟩, rfl⟩
    · have e0 : p = 0 := hz p (Classical.not_not.1 h1)
      rw [e0, Rat.zero_mul, Rat.add_zero] at hnext
      repeat (first
        | refine ax_ops_nil ?_
        | refine ax_skip_not rfl rfl rfl ?_
        | refine ax_q (q_pick rfl rfl) ?_)
      refine ax_post_code ?_
      refine ax_heap ([some ⟨108, .box [.bool false, .nil, .nil]⟩, some ⟨108, .box (cellsQ acc)⟩] ++ [none]) ?_ ?_
      · exact HSub.eqv (CEq.refl _) (HSub.eqv (CEq.refl _) (HSub.drop HSub.nil))
      refine ax_drop (H1 := [some ⟨108, .box [.bool false, .nil, .nil]⟩, some ⟨108, .box (cellsQ acc)⟩]) rfl (by rw [hfix]; exact fun h => h) ?_
      repeat (first
        | refine ax_q (q_move rfl) ?_
        | refine ax_ops_nil ?_
        | refine ax_post_code ?_
        | refine ax_region rfl ?_
        | refine ax_cond_false rfl ?_
        | refine ax_post_blk ?_
        | refine ax_skip ?_
        | refine ax_q (q_add rfl rfl (by omega)) ?_)
      exact ax_post_inv ⟨(i + 1, acc), ⟨by simp only; omega, hnext⟩, by simp only; omega, ⟨rfl, rfl, rfl, rfl, rfl, rfl, rfl, trivial⟩, rfl⟩
  · have hi' : i = a.length := by omega
    subst hi'
    have e : dotQ a b = acc := hA.symm
    rw [e] at hR
    repeat (first
      | refine ax_post_code ?_
      | refine ax_seq ?_
      | refine ax_region rfl ?_
      | refine ax_exit ?_
      | refine ax_exit_here ?_
      | refine ax_exit_code ?_
      | refine ax_exit_inv ?_
      | refine ax_q (q_loadpart_ptr rfl rfl rfl rfl rfl rfl rfl (by first | exact Nat.zero_lt_one | assumption | omega)) ?_)
    refine ax_storeagg (c' := .box (cellsQ acc)) rfl rfl rfl rfl rfl Nat.zero_lt_one rfl rfl (fun i' j' hi' hj' => ?_) ?_
    · rw [if_pos (Nat.lt_one_iff.1 hi')]; rfl
    repeat (first
      | refine ax_ops_nil ?_
      | refine ax_post_code ?_
      | refine ax_return ?_)
    exact ax_ret hR rfl rfl
end Go.Proofs.YtgmleamhjnlknaaGreatDoor

namespace Go.Proofs.YtgmleamhjnlknaaGreatDoor
open Go.Ax Go.Ax.Bg Go.Ax.Rt Go.RowKit
attribute [local irreducible] Ax Post QOp ACall PureOp
set_option maxRecDepth 100000
set_option maxHeartbeats 4000000

theorem cols_ok (m : List (List Rat)) (w : Nat) (hlen : m.length ≤ 1000000) (hw : w ≤ 1000000) (hr : ∀ r ∈ m, r.length = w) : VCall Tryz.prog 94 [.ro (rowsQ m) 0 m.length, .int .i64 (w : Nat)] (.ro (rowsQ (colsQ m w)) 0 w) := by
  refine ACall.value0 (acall_of_ax (P := Tryz.prog) (fn := Tryz.f94) rfl rfl (by kernel_rfl) rfl (fun c hR hfix => ?_)) (fix := fun _ => False) (fun _ h => h) rfl rfl
  repeat (first
    | refine ax_q (q_move rfl) ?_
    | refine ax_q (q_assign rfl) ?_
    | refine ax_ops_nil ?_
    | refine ax_post_code ?_
    | refine ax_seq ?_
    | refine ax_region rfl ?_)
  refine ax_nilobj 5 ⟨102, rowsQ []⟩ rfl rfl ?_
  repeat (refine ax_block ?_)
  refine ax_loop (ι := Nat) (fun k => [(0, .ro (rowsQ m) 0 m.length), (5, .sl 0 0 k), (10, .int .i64 (w : Nat)), (11, .int .i64 (k : Nat))]) (fun k => [some ⟨102, rowsQ ((List.range k).map (colQ m))⟩])
    (fun k => k ≤ w) (fun k => w - k) 0 ⟨⟨rfl, rfl, rfl, rfl, trivial⟩, rfl, Nat.zero_le _⟩ ?_
  intro k hk
  repeat (first
    | refine ax_ops_nil ?_
    | refine ax_post_code ?_
    | refine ax_seq ?_
    | refine ax_region rfl ?_
    | refine ax_q (q_lss rfl rfl) ?_)
  refine ax_cond_dec rfl (fun h => ?_) (fun h => ?_)
  · have hk' : k < w := by omega
    repeat (first
      | refine ax_post_code ?_
      | refine ax_seq ?_
      | refine ax_skip ?_)
    refine ax_block ?_
    repeat (first
      | refine ax_q (q_move rfl) ?_
      | refine ax_q (q_assign rfl) ?_
      | refine ax_ops_nil ?_
      | refine ax_post_code ?_
      | refine ax_seq ?_
      | refine ax_region rfl ?_
      | refine ax_q (q_len rfl rfl rfl) ?_)
    refine ax_nilobj 7 ⟨108, qsC []⟩ rfl rfl ?_
    repeat (refine ax_block ?_)
    refine ax_loop (ι := Nat) (fun j => [(0, .ro (rowsQ m) 0 m.length), (5, .sl 0 0 k), (6, .int .i64 (k : Nat)), (7, .sl 1 0 j), (10, .int .i64 (w : Nat)), (11, .int .i64 (k : Nat)), (14, .ro (rowsQ m) 0 m.length), (15, .int .i64 (m.length : Nat)), (16, .int .i64 (j : Nat))]) (fun j => [some ⟨102, rowsQ ((List.range k).map (colQ m))⟩, some ⟨108, qsC (colQ (m.take j) k)⟩])
      (fun j => j ≤ m.length) (fun j => m.length - j) 0 ⟨⟨rfl, rfl, rfl, rfl, rfl, rfl, rfl, rfl, rfl, trivial⟩, rfl, Nat.zero_le _⟩ ?_
    intro j hj
    repeat (first
      | refine ax_ops_nil ?_
      | refine ax_post_code ?_
      | refine ax_seq ?_
      | refine ax_region rfl ?_
      | refine ax_q (q_lss rfl rfl) ?_)
    refine ax_cond_dec rfl (fun h2 => ?_) (fun h2 => ?_)
    · have hj' : j < m.length := by omega
      have hrl := hr _ (getD_mem [] hj')
      have htk : colQ (m.take (j + 1)) k = colQ (m.take j) k ++ [(m.getD j []).getD k 0] := map_take_succ (fun row : List Rat => row.getD k 0) m [] j hj'
      have hml : (colQ (m.take j) k).length = j := by rw [colQ_len, List.length_take]; omega
      generalize colQ (m.take j) k = qs at *
      generalize (List.range k).map (colQ m) = rs at *
      have hkr : k < (m.getD j []).length := by omega
      repeat (first
        | refine ax_q (q_move rfl) ?_
        | refine ax_q (q_assign rfl) ?_
        | refine ax_ops_nil ?_
        | refine ax_post_code ?_
        | refine ax_seq ?_
        | refine ax_region rfl ?_
        | refine ax_block ?_
        | refine ax_skip ?_
        | refine ax_q (q_loadf_rp rfl rfl rfl rfl) ?_
        | refine ax_q (q_index_ro' rfl rfl rfl rfl (by first | (simp only [Nat.zero_add, Int.toNat_natCast, Int.toNat_zero]; exact rfl) | exact rfl) (by omega)) ?_
        | refine ax_q (q_loadagg_rp rfl rfl rfl rfl rfl rfl) ?_)
      refine ax_slot_ops 24 (.agg (cellsQ ((m.getD j []).getD k 0))) rfl (AEq.of_eq rfl) ?_
      generalize (m.getD j []).getD k 0 = q at *
      repeat (refine ax_buildSliceRo rfl rfl rfl rfl rfl rfl rfl rfl rfl rfl rfl ?_)
      refine ax_append rfl rfl rfl rfl rfl rfl rfl rfl rfl hml rfl rfl (by show 0 + 1 ≤ 1; omega) rfl (by show (j + 1) * 56 ≤ _ ∧ _; omega) ?_ (by rw [hfix]; exact fun h => h) ?_
      · intro i' j' hi hj'
        exact rowE_noref 0 3 cellsQ cellsQ_noref qs q _ (rowQ1 _) 1 i' j' hi hj'
      repeat (first
        | refine ax_q (q_assign rfl) ?_
        | refine ax_ops_nil ?_
        | refine ax_post_blk ?_)
      refine ax_post_code ?_
      refine ax_heap [some ⟨102, rowsQ rs⟩, some ⟨108, qsC (colQ (m.take (j + 1)) k)⟩] ?_ ?_
      · rw [htk]
        exact HSub.eqv ⟨rfl, rfl, fun i j _ hj => (cellR_noref _ j _ hj).symm⟩ (HSub.eqv (rowE_snoc 0 3 cellsQ qs q _ (rowQ1 _)) HSub.nil)
      repeat (first
        | refine ax_q (q_move rfl) ?_
        | refine ax_ops_nil ?_
        | refine ax_region rfl ?_
        | refine ax_q (q_add rfl rfl (by omega)) ?_)
      exact ax_post_inv ⟨j + 1, by omega, by omega, ⟨rfl, rfl, rfl, rfl, rfl, rfl, rfl, rfl, rfl, trivial⟩, rfl⟩
    · have hj' : j = m.length := by omega
      subst hj'
      rw [List.take_length]
      have hcl : (colQ m k).length = m.length := colQ_len m k
      have hml : ((List.range k).map (colQ m)).length = k := by simp
      have htk : (List.range (k + 1)).map (colQ m) = (List.range k).map (colQ m) ++ [colQ m k] := by rw [List.range_succ, List.map_append]; rfl
      generalize (List.range k).map (colQ m) = rs at *
      generalize colQ m k = col at *
      repeat (first
        | refine ax_post_code ?_
        | refine ax_exit ?_
        | refine ax_exit_here ?_
        | refine ax_exit_code ?_
        | refine ax_exit_inv ?_)
      refine ax_give_code 1 7 m.length [(0, .ro (rowsQ m) 0 m.length), (5, .sl 0 0 k), (10, .int .i64 (w : Nat)), (11, .int .i64 (k : Nat))] rfl (refless_qs _) rfl (by show _ ≤ col.length; omega) ⟨rfl, rfl, rfl, rfl, trivial⟩ ?_
      refine ax_slot 7 (.ro (qsC col) 0 col.length) rfl (AEq.of_eq (by rw [hcl])) ?_
      repeat (first
        | refine ax_q (q_move rfl) ?_
        | refine ax_region rfl ?_
        | refine ax_buildSliceRo rfl rfl rfl rfl rfl rfl rfl rfl rfl rfl rfl ?_)
      refine ax_append rfl rfl rfl rfl rfl rfl rfl rfl rfl hml rfl rfl (by show 0 + 1 ≤ 1; omega) rfl (by show (k + 1) * 24 ≤ _ ∧ _; omega) ?_ (by rw [hfix]; exact fun h => h) ?_
      · intro i' j hi hj
        exact rowE_noref [] 1 cellR cellR_noref rs col _ (rowR1 _) 0 i' j hi hj
      repeat (first
        | refine ax_q (q_assign rfl) ?_
        | refine ax_ops_nil ?_
        | refine ax_post_blk ?_)
      refine ax_post_code ?_
      refine ax_heap ([some ⟨102, rowsQ ((List.range (k + 1)).map (colQ m))⟩] ++ [none]) ?_ ?_
      · rw [htk]
        exact HSub.eqv (rowE_snoc [] 1 cellR rs col _ (rowR1 _)) (HSub.drop HSub.nil)
      refine ax_drop (H1 := [some ⟨102, rowsQ ((List.range (k + 1)).map (colQ m))⟩]) rfl (by rw [hfix]; exact fun h => h) ?_
      refine ax_heap [some ⟨102, rowsQ ((List.range (k + 1)).map (colQ m))⟩] ?_ ?_
      · exact HSub.eqv ⟨rfl, rfl, fun i j _ hj => (cellR_noref _ j _ hj).symm⟩ HSub.nil
      repeat (first
        | refine ax_q (q_move rfl) ?_
        | refine ax_ops_nil ?_
        | refine ax_region rfl ?_
        | refine ax_q (q_add rfl rfl (by omega)) ?_)
      exact ax_post_inv ⟨k + 1, by omega, by omega, ⟨rfl, rfl, rfl, rfl, trivial⟩, rfl⟩
  · have hk' : k = w := by omega
    subst hk'
    repeat (first
      | refine ax_post_code ?_
      | refine ax_seq ?_
      | refine ax_exit ?_
      | refine ax_exit_here ?_
      | refine ax_exit_code ?_
      | refine ax_exit_inv ?_)
    refine ax_give_code 0 5 k [] rfl (refless_rowsQ _) rfl (by show _ ≤ (List.map _ _).length; simp) trivial ?_
    repeat (first
      | refine ax_q (q_move rfl) ?_
      | refine ax_q (q_assign rfl) ?_
      | refine ax_ops_nil ?_
      | refine ax_post_code ?_
      | refine ax_region rfl ?_
      | refine ax_return ?_)
    exact ax_ret hR rfl rfl
end Go.Proofs.YtgmleamhjnlknaaGreatDoor

namespace Go.Proofs.YtgmleamhjnlknaaGreatDoor
open Go.Ax Go.Ax.Bg Go.Ax.Rt Go.RowKit
attribute [local irreducible] Ax Post QOp ACall PureOp
set_option maxRecDepth 100000
set_option maxHeartbeats 4000000

def matP (p : List (List Text) × Int) : AV := .tup [.ro (rowsT p.1) 0 p.1.length, .int .i64 p.2]
theorem outAll_yes' (l : List Rat) (hlen : l.length ≤ 1000000) (hs : ∀ q ∈ l, Sz 100000 q) (hall : l.all fitB = true) : VCall Tryz.prog 75 [.ro (qsC l) 0 l.length] (.tup [.ro (.strs (l.map textQ)) 0 (l.map textQ).length, .int .i64 0]) := by
  have := outAll_yes l hlen hs hall
  rwa [List.length_map]
end Go.Proofs.YtgmleamhjnlknaaGreatDoor

namespace Go.Proofs.YtgmleamhjnlknaaGreatDoor
open Go.Ax Go.Ax.Bg Go.Ax.Rt Go.RowKit
attribute [local irreducible] Ax Post QOp ACall PureOp
set_option maxRecDepth 100000
set_option maxHeartbeats 4000000

theorem len_D {k : Nat} {q : Rat} (h1 : (Lib.decDigits q.num.natAbs).length ≤ k) (h2 : (Lib.decDigits q.den).length ≤ k) : D k q :=
  ⟨Nat.lt_of_lt_of_le (digits_lt _) (Nat.pow_le_pow_right (by decide) h1), Nat.lt_of_lt_of_le (digits_lt _) (Nat.pow_le_pow_right (by decide) h2)⟩
theorem valid_D {r : List Text} (h : ∀ s ∈ r, ratE s = 0) : ∀ q ∈ r.map ratV, D 2000 q := by
  intro q hq
  obtain ⟨s, hs, rfl⟩ := List.mem_map.1 hq
  have hf := (IsQ.self (h s hs)).fit
  unfold fitB at hf
  rw [Bool.and_eq_true, decide_eq_true_eq, decide_eq_true_eq] at hf
  exact len_D hf.1 hf.2
end Go.Proofs.YtgmleamhjnlknaaGreatDoor

namespace Go.Proofs.YtgmleamhjnlknaaGreatDoor
open Go.Ax Go.Ax.Bg Go.Ax.Rt Go.RowKit
attribute [local irreducible] Ax Post QOp ACall PureOp
set_option maxRecDepth 100000
set_option maxHeartbeats 4000000

def vecP (p : List Text × Int) : AV := .tup [.ro (.strs p.1) 0 p.1.length, .int .i64 p.2]
theorem outAll_ok (l : List Rat) (hlen : l.length ≤ 1000000) (hs : ∀ q ∈ l, Sz 100000 q) : ∃ r : AV, VCall Tryz.prog 75 [.ro (qsC l) 0 l.length] (.tup [r, .int .i64 (outAllF l).2]) ∧ AEq r (.ro (.strs (outAllF l).1) 0 (outAllF l).1.length) := by
  cases h : l.all fitB
  · refine ⟨.nil, ?_, ?_⟩
    · have := outAll_no l hlen hs h
      unfold outAllF; rw [h]; exact this
    · unfold outAllF; rw [h]; exact AEq.nil
  · refine ⟨_, ?_, AEq.rfl'⟩
    have := outAll_yes' l hlen hs h
    unfold outAllF; rw [h]; exact this
end Go.Proofs.YtgmleamhjnlknaaGreatDoor

namespace Go.Proofs.YtgmleamhjnlknaaGreatDoor
open Go.Ax Go.Ax.Bg Go.Ax.Rt Go.RowKit Go.Ax.Idx Go.Ax.Cd
attribute [local irreducible] Ax Post QOp ACall PureOp
set_option maxRecDepth 100000
set_option maxHeartbeats 4000000

theorem indexFuncV (l : List (List UInt8)) (g : FuncId) (caps : List AV) (p : List UInt8 → Bool) (hc : noRef.noRefs caps = true) (hlen : l.length ≤ 9223372036854775807) (hp : ∀ x ∈ l, VCall Tryz.prog g ([.str x] ++ caps) (.bool (p x))) :
    VCall Tryz.prog 76 [.ro (.strs l) 0 l.length, .fn g caps] (.int .i64 (idxF p l)) := by
  refine ACall.value0 (acall_of_ax (P := Tryz.prog) (fn := Tryz.f76) rfl rfl (by kernel_rfl) rfl (fun c hR hfix => ?_)) (fix := fun _ => False) (fun _ h => h) (by simp [noRef.noRefs, noRef, hc]) rfl
  repeat (first
    | refine ax_q (q_move rfl) ?_
    | refine ax_q (q_assign rfl) ?_
    | refine ax_ops_nil ?_
    | refine ax_post_code ?_
    | refine ax_seq ?_
    | refine ax_region rfl ?_
    | refine ax_block ?_
    | refine ax_q (q_len rfl rfl rfl) ?_)
  refine ax_loop (ι := Nat) (fun k => [(0, .ro (.strs l) 0 l.length), (1, .fn g caps), (7, .int .i64 (l.length : Nat)), (8, .int .i64 (k : Nat))]) (fun _ => [])
    (fun k => k ≤ l.length ∧ (l.take k).any p = false) (fun k => l.length - k) 0 ⟨⟨rfl, rfl, rfl, rfl, trivial⟩, rfl, Nat.zero_le _, rfl⟩ ?_
  intro k ⟨hk, hany⟩
  repeat (first
    | refine ax_ops_nil ?_
    | refine ax_post_code ?_
    | refine ax_seq ?_
    | refine ax_region rfl ?_
    | refine ax_q (q_lss rfl rfl) ?_)
  refine ax_cond_dec rfl (fun h => ?_) (fun h => ?_)
  · have hk' : k < l.length := by omega
    have hanys := any_take_succ p l [] k hk'
    repeat (first
      | refine ax_q (q_move rfl) ?_
      | refine ax_q (q_assign rfl) ?_
      | refine ax_ops_nil ?_
      | refine ax_post_code ?_
      | refine ax_seq ?_
      | refine ax_region rfl ?_
      | refine ax_block ?_
      | refine ax_skip ?_
      | refine ax_q (q_loads_rp rfl rfl rfl) ?_
      | refine ax_q (q_index_ro' rfl rfl rfl rfl (by first | (simp only [Nat.zero_add, Int.toNat_natCast, Int.toNat_zero]; exact rfl) | exact rfl) (by omega)) ?_)
    refine ax_callv rfl rfl rfl (hp _ (getD_mem [] hk')) ?_
    repeat (first
      | refine ax_ops_nil ?_
      | refine ax_post_code ?_)
    refine ax_cond rfl (fun h2 => ?_) (fun h2 => ?_)
    · repeat (first
        | refine ax_q (q_move rfl) ?_
        | refine ax_q (q_assign rfl) ?_
        | refine ax_ops_nil ?_
        | refine ax_post_code ?_
        | refine ax_seq ?_
        | refine ax_region rfl ?_
        | refine ax_return ?_
        | refine ax_ret_code ?_
        | refine ax_ret_blk ?_
        | refine ax_ret_inv ?_)
      refine ax_ret hR rfl ?_
      have := idxF_take p l k hany hk
      rw [drop_getD l [] k hk'] at this
      simp only [idxF, h2, if_true] at this
      rw [this]; simp [tupOf]
    · repeat (first
        | refine ax_q (q_move rfl) ?_
        | refine ax_ops_nil ?_
        | refine ax_post_code ?_
        | refine ax_region rfl ?_
        | refine ax_post_blk ?_
        | refine ax_skip ?_
        | refine ax_q (q_add rfl rfl (by omega)) ?_)
      refine ax_post_inv ⟨k + 1, ⟨by omega, by rw [hanys, hany, h2]; rfl⟩, by omega, ⟨rfl, rfl, rfl, rfl, trivial⟩, rfl⟩
  · have hk' : k = l.length := by omega
    subst hk'
    repeat (first
      | refine ax_q (q_assign rfl) ?_
      | refine ax_ops_nil ?_
      | refine ax_post_code ?_
      | refine ax_seq ?_
      | refine ax_region rfl ?_
      | refine ax_exit ?_
      | refine ax_exit_here ?_
      | refine ax_exit_code ?_
      | refine ax_exit_inv ?_
      | refine ax_return ?_)
    refine ax_ret hR rfl ?_
    have := idxF_take p l l.length hany hk
    rw [List.drop_length] at this
    rw [this]; rfl

theorem containsVec (l : List (List UInt8)) (g : FuncId) (caps : List AV) (p : List UInt8 → Bool) (hc : noRef.noRefs caps = true) (hlen : l.length ≤ 9223372036854775807) (hp : ∀ x ∈ l, VCall Tryz.prog g ([.str x] ++ caps) (.bool (p x))) :
    VCall Tryz.prog 22 [.ro (.strs l) 0 l.length, .fn g caps] (.bool (l.any p)) := by
  refine ACall.value0 (acall_of_ax (P := Tryz.prog) (fn := Tryz.f22) rfl rfl (by kernel_rfl) rfl (fun c hR hfix => ?_)) (fix := fun _ => False) (fun _ h => h) (by simp [noRef.noRefs, noRef, hc]) rfl
  repeat (first
    | refine ax_q (q_move rfl) ?_
    | refine ax_q (q_assign rfl) ?_
    | refine ax_ops_nil ?_
    | refine ax_post_code ?_
    | refine ax_seq ?_
    | refine ax_region rfl ?_)
  refine ax_callv rfl rfl rfl (indexFuncV l g caps p hc hlen hp) ?_
  repeat (first
    | refine ax_q (q_assign rfl) ?_
    | refine ax_ops_nil ?_
    | refine ax_post_code ?_
    | refine ax_return ?_
    | refine ax_q (q_geq rfl rfl) ?_)
  refine ax_ret hR rfl ?_
  simp only [tupOf, idxF_any]


theorem equalV (a b : List (List UInt8)) (hlen : a.length ≤ 9223372036854775807) (hlb : b.length ≤ 9223372036854775807) : VCall Tryz.prog 38 [.ro (.strs a) 0 a.length, .ro (.strs b) 0 b.length] (.bool (decide (a = b))) := by
  refine ACall.value0 (acall_of_ax (P := Tryz.prog) (fn := Tryz.f38) rfl rfl (by kernel_rfl) rfl (fun c hR hfix => ?_)) (fix := fun _ => False) (fun _ h => h) rfl rfl
  repeat (first
    | refine ax_q (q_move rfl) ?_
    | refine ax_q (q_assign rfl) ?_
    | refine ax_ops_nil ?_
    | refine ax_post_code ?_
    | refine ax_seq ?_
    | refine ax_region rfl ?_
    | refine ax_q (q_neq rfl rfl) ?_
    | refine ax_q (q_len rfl rfl rfl) ?_)
  refine ax_cond_dec rfl (fun h => ?_) (fun h => ?_)
  · repeat (first
      | refine ax_q (q_assign rfl) ?_
      | refine ax_ops_nil ?_
      | refine ax_post_code ?_
      | refine ax_seq ?_
      | refine ax_region rfl ?_
      | refine ax_return ?_
      | refine ax_ret_code ?_)
    refine ax_ret hR rfl ?_
    have : ¬ a = b := by rintro rfl; exact h rfl
    simp [tupOf, this]
  have hab : a.length = b.length := by omega
  repeat (first
    | refine ax_q (q_move rfl) ?_
    | refine ax_ops_nil ?_
    | refine ax_post_code ?_
    | refine ax_seq ?_
    | refine ax_region rfl ?_
    | refine ax_block ?_
    | refine ax_skip ?_
    | refine ax_q (q_len rfl rfl rfl) ?_)
  refine ax_loop (ι := Nat) (fun k => [(0, .ro (.strs a) 0 a.length), (1, .ro (.strs b) 0 b.length), (12, .int .i64 (a.length : Nat)), (13, .int .i64 (k : Nat))]) (fun _ => [])
    (fun k => k ≤ a.length ∧ a.take k = b.take k) (fun k => a.length - k) 0 ⟨⟨rfl, rfl, rfl, rfl, trivial⟩, rfl, Nat.zero_le _, rfl⟩ ?_
  intro k ⟨hk, heq⟩
  repeat (first
    | refine ax_ops_nil ?_
    | refine ax_post_code ?_
    | refine ax_seq ?_
    | refine ax_region rfl ?_
    | refine ax_q (q_lss rfl rfl) ?_)
  refine ax_cond_dec rfl (fun h2 => ?_) (fun h2 => ?_)
  · have hk' : k < a.length := by omega
    have ha := take_succ_getD a [] k hk'
    have hb := take_succ_getD b [] k (by omega)
    repeat (first
      | refine ax_q (q_move rfl) ?_
      | refine ax_q (q_assign rfl) ?_
      | refine ax_ops_nil ?_
      | refine ax_post_code ?_
      | refine ax_seq ?_
      | refine ax_region rfl ?_
      | refine ax_block ?_
      | refine ax_skip ?_)
    refine ax_regionq (by kernel_rfl) (by kernel_rfl) rfl ?_
    repeat (first
      | refine ax_q (q_move rfl) ?_
      | refine ax_ops_nil ?_
      | refine ax_post_code ?_
      | refine ax_q (q_loads_rp rfl rfl rfl) ?_
      | refine ax_q (q_index_ro' rfl rfl rfl rfl (by first | (simp only [Nat.zero_add, Int.toNat_natCast, Int.toNat_zero]; exact rfl) | exact rfl) (by omega)) ?_
      | refine ax_q (q_strneq rfl rfl) ?_)
    refine ax_cond_dec rfl (fun h3 => ?_) (fun h3 => ?_)
    · repeat (first
        | refine ax_q (q_assign rfl) ?_
        | refine ax_ops_nil ?_
        | refine ax_post_code ?_
        | refine ax_seq ?_
        | refine ax_region rfl ?_
        | refine ax_return ?_
        | refine ax_ret_code ?_
        | refine ax_ret_blk ?_
        | refine ax_ret_inv ?_)
      refine ax_ret hR rfl ?_
      have : ¬ a = b := by rintro rfl; exact h3 rfl
      simp [tupOf, this]
    · repeat (first
        | refine ax_q (q_move rfl) ?_
        | refine ax_ops_nil ?_
        | refine ax_post_code ?_
        | refine ax_region rfl ?_
        | refine ax_post_blk ?_
        | refine ax_skip ?_
        | refine ax_q (q_add rfl rfl (by omega)) ?_)
      have h4 : a.getD k [] = b.getD k [] := Classical.not_not.1 h3
      exact ax_post_inv ⟨k + 1, ⟨by omega, by rw [ha, hb, heq, h4]⟩, by omega, ⟨rfl, rfl, rfl, rfl, trivial⟩, rfl⟩
  · have hk' : k = a.length := by omega
    subst hk'
    rw [List.take_length, hab, List.take_length] at heq
    repeat (first
      | refine ax_q (q_assign rfl) ?_
      | refine ax_ops_nil ?_
      | refine ax_post_code ?_
      | refine ax_seq ?_
      | refine ax_region rfl ?_
      | refine ax_exit ?_
      | refine ax_exit_here ?_
      | refine ax_exit_code ?_
      | refine ax_exit_inv ?_
      | refine ax_return ?_)
    refine ax_ret hR rfl ?_
    simp [tupOf, heq]

theorem indexFuncM (l : List (List Text)) (g : FuncId) (caps : List AV) (p : List Text → Bool) (hc : noRef.noRefs caps = true) (hlen : l.length ≤ 9223372036854775807) (hp : ∀ x ∈ l, VCall Tryz.prog g ([.ro (.strs x) 0 x.length] ++ caps) (.bool (p x))) :
    VCall Tryz.prog 137 [.ro (rowsT l) 0 l.length, .fn g caps] (.int .i64 (idxF p l)) := by
  refine ACall.value0 (acall_of_ax (P := Tryz.prog) (fn := Tryz.f137) rfl rfl (by kernel_rfl) rfl (fun c hR hfix => ?_)) (fix := fun _ => False) (fun _ h => h) (by simp [noRef.noRefs, noRef, hc]) rfl
  repeat (first
    | refine ax_q (q_move rfl) ?_
    | refine ax_q (q_assign rfl) ?_
    | refine ax_ops_nil ?_
    | refine ax_post_code ?_
    | refine ax_seq ?_
    | refine ax_region rfl ?_
    | refine ax_block ?_
    | refine ax_q (q_len rfl rfl rfl) ?_)
  refine ax_loop (ι := Nat) (fun k => [(0, .ro (rowsT l) 0 l.length), (1, .fn g caps), (7, .int .i64 (l.length : Nat)), (8, .int .i64 (k : Nat))]) (fun _ => [])
    (fun k => k ≤ l.length ∧ (l.take k).any p = false) (fun k => l.length - k) 0 ⟨⟨rfl, rfl, rfl, rfl, trivial⟩, rfl, Nat.zero_le _, rfl⟩ ?_
  intro k ⟨hk, hany⟩
  repeat (first
    | refine ax_ops_nil ?_
    | refine ax_post_code ?_
    | refine ax_seq ?_
    | refine ax_region rfl ?_
    | refine ax_q (q_lss rfl rfl) ?_)
  refine ax_cond_dec rfl (fun h => ?_) (fun h => ?_)
  · have hk' : k < l.length := by omega
    have hanys := any_take_succ p l [] k hk'
    repeat (first
      | refine ax_q (q_move rfl) ?_
      | refine ax_q (q_assign rfl) ?_
      | refine ax_ops_nil ?_
      | refine ax_post_code ?_
      | refine ax_seq ?_
      | refine ax_region rfl ?_
      | refine ax_block ?_
      | refine ax_skip ?_
      | refine ax_q (q_loadf_rp rfl rfl rfl rfl) ?_
      | refine ax_q (q_index_ro' rfl rfl rfl rfl (by first | (simp only [Nat.zero_add, Int.toNat_natCast, Int.toNat_zero]; exact rfl) | exact rfl) (by omega)) ?_)
    refine ax_callv rfl rfl rfl (hp _ (getD_mem [] hk')) ?_
    repeat (first
      | refine ax_ops_nil ?_
      | refine ax_post_code ?_)
    refine ax_cond rfl (fun h2 => ?_) (fun h2 => ?_)
    · repeat (first
        | refine ax_q (q_move rfl) ?_
        | refine ax_q (q_assign rfl) ?_
        | refine ax_ops_nil ?_
        | refine ax_post_code ?_
        | refine ax_seq ?_
        | refine ax_region rfl ?_
        | refine ax_return ?_
        | refine ax_ret_code ?_
        | refine ax_ret_blk ?_
        | refine ax_ret_inv ?_)
      refine ax_ret hR rfl ?_
      have := idxF_take p l k hany hk
      rw [drop_getD l [] k hk'] at this
      simp only [idxF, h2, if_true] at this
      rw [this]; simp [tupOf]
    · repeat (first
        | refine ax_q (q_move rfl) ?_
        | refine ax_ops_nil ?_
        | refine ax_post_code ?_
        | refine ax_region rfl ?_
        | refine ax_post_blk ?_
        | refine ax_skip ?_
        | refine ax_q (q_add rfl rfl (by omega)) ?_)
      refine ax_post_inv ⟨k + 1, ⟨by omega, by rw [hanys, hany, h2]; rfl⟩, by omega, ⟨rfl, rfl, rfl, rfl, trivial⟩, rfl⟩
  · have hk' : k = l.length := by omega
    subst hk'
    repeat (first
      | refine ax_q (q_assign rfl) ?_
      | refine ax_ops_nil ?_
      | refine ax_post_code ?_
      | refine ax_seq ?_
      | refine ax_region rfl ?_
      | refine ax_exit ?_
      | refine ax_exit_here ?_
      | refine ax_exit_code ?_
      | refine ax_exit_inv ?_
      | refine ax_return ?_)
    refine ax_ret hR rfl ?_
    have := idxF_take p l l.length hany hk
    rw [List.drop_length] at this
    rw [this]; rfl

theorem containsM (l : List (List Text)) (g : FuncId) (caps : List AV) (p : List Text → Bool) (hc : noRef.noRefs caps = true) (hlen : l.length ≤ 9223372036854775807) (hp : ∀ x ∈ l, VCall Tryz.prog g ([.ro (.strs x) 0 x.length] ++ caps) (.bool (p x))) :
    VCall Tryz.prog 60 [.ro (rowsT l) 0 l.length, .fn g caps] (.bool (l.any p)) := by
  refine ACall.value0 (acall_of_ax (P := Tryz.prog) (fn := Tryz.f60) rfl rfl (by kernel_rfl) rfl (fun c hR hfix => ?_)) (fix := fun _ => False) (fun _ h => h) (by simp [noRef.noRefs, noRef, hc]) rfl
  repeat (first
    | refine ax_q (q_move rfl) ?_
    | refine ax_q (q_assign rfl) ?_
    | refine ax_ops_nil ?_
    | refine ax_post_code ?_
    | refine ax_seq ?_
    | refine ax_region rfl ?_)
  refine ax_callv rfl rfl rfl (indexFuncM l g caps p hc hlen hp) ?_
  repeat (first
    | refine ax_q (q_assign rfl) ?_
    | refine ax_ops_nil ?_
    | refine ax_post_code ?_
    | refine ax_return ?_
    | refine ax_q (q_geq rfl rfl) ?_)
  refine ax_ret hR rfl ?_
  simp only [tupOf, idxF_any]



theorem small11 (s : Text) (hs : s.length ≤ 9223372036854775807) : VCall Tryz.prog 62 [.str s] (.bool (decide (12 < (s.length : Int)))) := by
  refine ACall.value0 (acall_of_ax (P := Tryz.prog) (fn := Tryz.f62) rfl rfl (by kernel_rfl) rfl (fun c hR hfix => ?_)) (fix := fun _ => False) (fun _ h => h) rfl rfl
  repeat (first
    | refine ax_q (q_move rfl) ?_
    | refine ax_q (q_assign rfl) ?_
    | refine ax_ops_nil ?_
    | refine ax_post_code ?_
    | refine ax_seq ?_
    | refine ax_region rfl ?_
    | refine ax_return ?_
    | refine ax_q (q_gtr rfl rfl) ?_
    | refine ax_q (q_lenstr rfl rfl) ?_)
  exact ax_ret hR rfl rfl
def longV (n : Int) (v : List Text) : Bool := decide (n < (v.length : Int)) || v.any (fun s => decide (12 < (s.length : Int)))
theorem small1 (n : Int) (v : List Text) (hl : v.length ≤ 9223372036854775807) (hs : ∀ s ∈ v, s.length ≤ 9223372036854775807) : VCall Tryz.prog 61 [.ro (.strs v) 0 v.length, .rp (.box [.int .i64 n]) 0 0] (.bool (longV n v)) := by
  have hc := containsVec v 62 [] (fun s => decide (12 < (s.length : Int))) rfl hl (fun s hm => small11 s (hs s hm))
  unfold longV
  refine ACall.value0 (acall_of_ax (P := Tryz.prog) (fn := Tryz.f61) rfl rfl (by kernel_rfl) rfl (fun c hR hfix => ?_)) (fix := fun _ => False) (fun _ h => h) rfl rfl
  repeat (first
    | refine ax_q (q_move rfl) ?_
    | refine ax_q (q_assign rfl) ?_
    | refine ax_ops_nil ?_
    | refine ax_post_code ?_
    | refine ax_seq ?_
    | refine ax_region rfl ?_
    | refine ax_q (q_gtr rfl rfl) ?_
    | refine ax_q (q_len rfl rfl rfl) ?_
    | refine ax_q (q_loadb_rp rfl rfl rfl rfl) ?_)
  refine ax_gsplit rfl rfl (fun h => ?_) (fun h => ?_)
  · rw [decide_eq_true h, Bool.true_or] at hR
    repeat (first
      | refine ax_q (q_assign rfl) ?_
      | refine ax_ops_nil ?_
      | refine ax_post_code ?_
      | refine ax_skip_not rfl rfl rfl ?_
      | refine ax_return ?_
      | refine ax_q (q_pick rfl rfl) ?_)
    exact ax_ret hR rfl rfl
  · rw [decide_eq_false h, Bool.false_or] at hR
    repeat (first
      | refine ax_q (q_move rfl) ?_
      | refine ax_guard rfl rfl ?_)
    refine ax_callv rfl rfl rfl hc ?_
    repeat (first
      | refine ax_q (q_assign rfl) ?_
      | refine ax_ops_nil ?_
      | refine ax_post_code ?_
      | refine ax_return ?_
      | refine ax_q (q_pick rfl rfl) ?_)
    exact ax_ret hR rfl rfl
theorem boxI1 (n : Int) : refless (.box [.int .i64 n]) := by
  intro i j _ hj
  obtain rfl : j = 0 := by have hj : j < 1 := hj; omega
  rfl
def cellM (m : List (List Text)) : List AV := [.ro (rowsT m) 0 m.length]
abbrev matsT (l : List (List (List Text))) : Cells := rowE [] 1 cellM l
theorem smallM_ok (n : Nat) (l : List (List (List Text))) (hn : n ≤ 1000) (hl : l.length ≤ 9223372036854775807) (hm : ∀ m ∈ l, m.length ≤ 9223372036854775807 ∧ ∀ r ∈ m, r.length ≤ 9223372036854775807 ∧ ∀ s ∈ r, s.length ≤ 9223372036854775807) : VCall Tryz.prog 16 [.int .i64 (n : Nat), .ro (matsT l) 0 l.length] (.bool (l.all (tiny n 12))) := by
  have hbad : ∀ m : List (List Text), tiny n 12 m = !(decide ((n : Int) < (m.length : Int)) || m.any (longV n)) := by
    intro m
    unfold tiny longV
    rw [Bool.not_or, Bool.eq_iff_iff]
    simp only [Bool.and_eq_true, Bool.not_eq_true', decide_eq_true_eq, decide_eq_false_iff_not, List.all_eq_true, List.any_eq_false, Bool.or_eq_true, not_or, List.any_eq_true, not_exists]
    constructor
    · rintro ⟨h1, h2⟩
      refine ⟨by omega, fun v hv => ?_⟩
      obtain ⟨h3, h4⟩ := h2 v hv
      refine ⟨by omega, fun s hs => ?_⟩
      have := h4 s hs.1
      have := hs.2
      omega
    · rintro ⟨h1, h2⟩
      refine ⟨by omega, fun v hv => ?_⟩
      obtain ⟨h3, h4⟩ := h2 v hv
      refine ⟨by omega, fun s hs => ?_⟩
      have := h4 s
      simp only [hs, true_and] at this
      omega
  refine ACall.value0 (acall_of_ax (P := Tryz.prog) (fn := Tryz.f16) rfl rfl (by kernel_rfl) rfl (fun c hR hfix => ?_)) (fix := fun _ => False) (fun _ h => h) rfl rfl
  repeat (first
    | refine ax_q (q_move rfl) ?_
    | refine ax_q (q_assign rfl) ?_
    | refine ax_ops_nil ?_
    | refine ax_post_code ?_
    | refine ax_seq ?_
    | refine ax_region rfl ?_
    | refine ax_block ?_
    | refine ax_q (q_len rfl rfl rfl) ?_
    | refine ax_box rfl rfl ?_)
  refine ax_loop (ι := Nat) (fun k => [(0, .int .i64 (n : Nat)), (1, .ro (matsT l) 0 l.length), (2, .ptr 0 0 0), (7, .ro (matsT l) 0 l.length), (8, .int .i64 (l.length : Nat)), (9, .int .i64 (k : Nat))]) (fun _ => [some ⟨3, .box [.int .i64 (n : Nat)]⟩])
    (fun k => k ≤ l.length ∧ l.all (tiny n 12) = (l.drop k).all (tiny n 12)) (fun k => l.length - k) 0 ⟨⟨rfl, rfl, rfl, rfl, rfl, rfl, trivial⟩, rfl, Nat.zero_le _, by rw [List.drop_zero]⟩ ?_
  rintro k ⟨hk, hA⟩
  repeat (first
    | refine ax_ops_nil ?_
    | refine ax_post_code ?_
    | refine ax_seq ?_
    | refine ax_region rfl ?_
    | refine ax_q (q_lss rfl rfl) ?_)
  refine ax_cond_dec rfl (fun h => ?_) (fun h => ?_)
  · have hk' : k < l.length := by omega
    have hd := drop_cons (d := []) hk'
    rw [hd, List.all_cons, hbad] at hA
    obtain ⟨g1, g2⟩ := hm _ (getD_mem [] hk')
    have hc := containsM (l.getD k []) 61 [.rp (.box [.int .i64 (n : Nat)]) 0 0] (longV n) rfl g1 (fun v hv => small1 n v (g2 v hv).1 (g2 v hv).2)
    repeat (first
      | refine ax_q (q_move rfl) ?_
      | refine ax_q (q_assign rfl) ?_
      | refine ax_ops_nil ?_
      | refine ax_post_code ?_
      | refine ax_seq ?_
      | refine ax_region rfl ?_
      | refine ax_block ?_
      | refine ax_skip ?_
      | refine ax_q (q_loadf_rp rfl rfl rfl rfl) ?_
      | refine ax_q (q_loadb_ptr rfl rfl rfl rfl rfl) ?_
      | refine ax_q (q_gtr rfl rfl) ?_
      | refine ax_q (q_len rfl rfl rfl) ?_
      | refine ax_q (q_index_ro' rfl rfl rfl rfl (by first | (simp only [Nat.zero_add, Int.toNat_natCast, Int.toNat_zero]; exact rfl) | exact rfl) (by omega)) ?_)
    refine ax_gsplit rfl rfl (fun h2 => ?_) (fun h2 => ?_)
    · rw [decide_eq_true h2, Bool.true_or, Bool.not_true, Bool.false_and] at hA
      rw [hA] at hR
      repeat (first
        | refine ax_q (q_assign rfl) ?_
        | refine ax_ops_nil ?_
        | refine ax_post_code ?_
        | refine ax_seq ?_
        | refine ax_region rfl ?_
        | refine ax_skip_not rfl rfl rfl ?_
        | refine ax_cond_true rfl ?_
        | refine ax_return ?_
        | refine ax_ret_code ?_
        | refine ax_ret_blk ?_
        | refine ax_ret_inv ?_
        | refine ax_q (q_pick rfl rfl) ?_)
      exact ax_ret hR rfl rfl
    · rw [decide_eq_false h2, Bool.false_or] at hA
      cases hb : (l.getD k []).any (longV (n : Nat))
      · rw [hb] at hA hc
        repeat (first
          | refine ax_q (q_move rfl) ?_
          | refine ax_guard rfl rfl ?_
          | refine ax_q (q_makefn rfl) ?_)
        refine ax_calll rfl rfl rfl rfl hc (refl1 (o1 := ⟨3, .box [.int .i64 (n : Nat)]⟩) (boxI1 _)) ⟨trivial, ⟨fun o ho => by simp at ho; subst ho; exact Nat.zero_lt_one, trivial⟩, trivial⟩ rfl rfl rfl ?_
        repeat (first
          | refine ax_q (q_move rfl) ?_
          | refine ax_ops_nil ?_
          | refine ax_post_code ?_
          | refine ax_region rfl ?_
          | refine ax_cond_false rfl ?_
          | refine ax_post_blk ?_
          | refine ax_skip ?_
          | refine ax_q (q_pick rfl rfl) ?_
          | refine ax_q (q_add rfl rfl (by omega)) ?_)
        exact ax_post_inv ⟨k + 1, ⟨by omega, hA⟩, by omega, ⟨rfl, rfl, rfl, rfl, rfl, rfl, trivial⟩, rfl⟩
      · rw [hb] at hA hc
        rw [Bool.not_true, Bool.false_and] at hA
        rw [hA] at hR
        repeat (first
          | refine ax_q (q_move rfl) ?_
          | refine ax_guard rfl rfl ?_
          | refine ax_q (q_makefn rfl) ?_)
        refine ax_calll rfl rfl rfl rfl hc (refl1 (o1 := ⟨3, .box [.int .i64 (n : Nat)]⟩) (boxI1 _)) ⟨trivial, ⟨fun o ho => by simp at ho; subst ho; exact Nat.zero_lt_one, trivial⟩, trivial⟩ rfl rfl rfl ?_
        repeat (first
          | refine ax_q (q_assign rfl) ?_
          | refine ax_ops_nil ?_
          | refine ax_post_code ?_
          | refine ax_seq ?_
          | refine ax_region rfl ?_
          | refine ax_cond_true rfl ?_
          | refine ax_return ?_
          | refine ax_ret_code ?_
          | refine ax_ret_blk ?_
          | refine ax_ret_inv ?_
          | refine ax_q (q_pick rfl rfl) ?_)
        exact ax_ret hR rfl rfl
  · have hk' : k = l.length := by omega
    subst hk'
    rw [List.drop_length] at hA
    rw [hA] at hR
    repeat (first
      | refine ax_q (q_assign rfl) ?_
      | refine ax_ops_nil ?_
      | refine ax_post_code ?_
      | refine ax_seq ?_
      | refine ax_region rfl ?_
      | refine ax_exit ?_
      | refine ax_exit_here ?_
      | refine ax_exit_code ?_
      | refine ax_exit_inv ?_
      | refine ax_return ?_)
    exact ax_ret hR rfl rfl
end Go.Proofs.YtgmleamhjnlknaaGreatDoor

namespace Go.Proofs.YtgmleamhjnlknaaGreatDoor
open Go.Ax Go.Ax.Bg Go.Ax.Rt Go.RowKit Go.Ax.Idx Go.Ax.Cd
attribute [local irreducible] Ax Post QOp ACall PureOp
set_option maxRecDepth 100000
set_option maxHeartbeats 4000000

def colT (m : List (List Text)) (k : Nat) : List Text := m.map (fun r => r.getD k [])
end Go.Proofs.YtgmleamhjnlknaaGreatDoor

namespace Go.Proofs.YtgmleamhjnlknaaGreatDoor
open Go.Ax Go.Ax.Bg Go.Ax.Rt Go.RowKit Go.Ax.Idx Go.Ax.Cd
attribute [local irreducible] Ax Post QOp ACall PureOp
set_option maxRecDepth 100000
set_option maxHeartbeats 4000000

end Go.Proofs.YtgmleamhjnlknaaGreatDoor

/-
  Regrets, on numbers. No program in sight.
-/
namespace Go.Ax.Rt
open Go.Ax.Bg

/-- What is left of a number that may be negative. -/
def posQ (q : Rat) : Rat := if q.num < 0 then 0 else q
def sumQ : Rat → List Rat → Rat
  | acc, [] => acc
  | acc, q :: r => sumQ (acc + q) r
def matchQ (x : List Rat) : List Rat :=
  if sumQ 0 (x.map posQ) = 0 then (x.map posQ).map (fun _ => Rat.divInt 1 x.length) else (x.map posQ).map (fun q => q / sumQ 0 (x.map posQ))
/-- regret.Match -/
def matchR (v : List Text) : List Text × Int :=
  if v = [] then ([], 8) else if 12 < v.length then ([], 2) else if vecE v ≠ 0 then ([], vecE v) else outAllF (matchQ (v.map ratV))
theorem posQ_D {k : Nat} {q : Rat} (h : D k q) (hk : 1 ≤ k) : D k (posQ q) := by
  unfold posQ
  split
  · exact D.mono (j := 1) ⟨by decide, by decide⟩ hk
  · exact h
structure Matched (v p : List Text) : Prop where
  res : matchR v = (p, 0)
  len : p.length = v.length
  odds : oddsR p = 0
  zero : (∃ s ∈ v, 0 < ratV s) → ∀ i, i < v.length → (p.getD i [] ≠ [48] ↔ 0 < ratV (v.getD i []))
  good : ∀ s ∈ v, ratE s = 0
end Go.Ax.Rt

/-
  Histories of rounds. No program in sight.
-/
namespace Go.Ax.Rt
open Go.Ax.Bg

abbrev Hist := List (Int × Int)
/-- matgame.Check -/
def gameE (m : List (List Text)) : Int := if 12 < m.length then 2 else if matE m ≠ 0 then matE m else if widM m = 0 then 8 else if 12 < widM m then 2 else 0
def outside (m : List (List Text)) (x : Int × Int) : Bool := decide (x.1 < 0) || (decide ((m.length : Int) ≤ x.1) || (decide (x.2 < 0) || decide ((widM m : Int) ≤ x.2)))
/-- regret.Check -/
def histE (m : List (List Text)) (l : Hist) : Int := if gameE m ≠ 0 then gameE m else if 200 < l.length then 2 else if l.any (outside m) = true then 4 else 0
theorem gameE_zero {m : List (List Text)} (h : gameE m = 0) : matE m = 0 ∧ m.length ≤ 12 ∧ widM m ≠ 0 ∧ widM m ≤ 12 ∧ m ≠ [] := by
  unfold gameE at h
  split at h
  · cases h
  split at h
  · rename_i h1; exact absurd h h1
  split at h
  · cases h
  split at h
  · cases h
  rename_i h1 h2 h3 h4
  refine ⟨Classical.not_not.1 h2, by omega, h3, by omega, ?_⟩
  rintro rfl
  exact h3 rfl
theorem histE_zero {m : List (List Text)} {l : Hist} (h : histE m l = 0) : gameE m = 0 ∧ l.length ≤ 200 ∧ ∀ x ∈ l, 0 ≤ x.1 ∧ x.1 < m.length ∧ 0 ≤ x.2 ∧ x.2 < widM m := by
  unfold histE at h
  split at h
  · rename_i h1; exact absurd h h1
  split at h
  · cases h
  split at h
  · cases h
  rename_i h1 h2 h3
  refine ⟨Classical.not_not.1 h1, by omega, fun x hx => ?_⟩
  rw [Bool.not_eq_true, List.any_eq_false] at h3
  have := h3 x hx
  unfold outside at this
  simp only [Bool.or_eq_true, decide_eq_true_eq, not_or] at this
  omega
/-- How often a row, a column was played. -/
def cnt (f : Int × Int → Int) (l : Hist) (i : Nat) : Nat := (l.filter (fun x => decide (f x = (i : Int)))).length
def cntQ (f : Int × Int → Int) (l : Hist) (n : Nat) : List Rat := (List.range n).map (fun i => ((cnt f l i : Nat) : Rat))
def rowsS (m : List (List Rat)) (l : Hist) (w : Nat) : List Rat := m.map (fun r => dotQ r (cntQ Prod.snd l w))
def colsS (m : List (List Rat)) (l : Hist) (w : Nat) : List Rat := (colsQ m w).map (fun c => dotQ c (cntQ Prod.fst l m.length))
def elQ (m : List (List Rat)) (x : Int × Int) : Rat := (m.getD x.1.toNat []).getD x.2.toNat 0
def gotQ (m : List (List Rat)) (l : Hist) : Rat := sumQ 0 (l.map (elQ m))
def regA (m : List (List Rat)) (l : Hist) (w : Nat) : List Rat := (rowsS m l w).map (fun q => q - gotQ m l)
def regB (m : List (List Rat)) (l : Hist) (w : Nat) : List Rat := (colsS m l w).map (fun q => gotQ m l - q)
def bothR (a b : List Rat) : (List Text × List Text) × Int := if (outAllF a).2 ≠ 0 then (([], []), 2) else if (outAllF b).2 ≠ 0 then (([], []), 2) else ((a.map textQ, b.map textQ), 0)
/-- regret.Regrets -/
def regretsR (m : List (List Text)) (l : Hist) : (List Text × List Text) × Int := if histE m l ≠ 0 then (([], []), histE m l) else bothR (regA (inM m) l (widM m)) (regB (inM m) l (widM m))
/-- The first greatest number, or the first least one. -/
def bestG (sg : Int) (x : List Rat) : Nat → Nat
  | 0 => 0
  | k + 1 => if 0 < cmpQ (x.getD k 0) (x.getD (bestG sg x k) 0) * sg then k else bestG sg x k
theorem bestG_le (sg : Int) (x : List Rat) : ∀ k, bestG sg x k ≤ k
  | 0 => Nat.le_refl _
  | k + 1 => by
    rw [bestG]
    have := bestG_le sg x k
    split <;> omega
theorem bestG_lt (sg : Int) (x : List Rat) : ∀ k, k ≠ 0 → bestG sg x k < k
  | 0, h => absurd rfl h
  | k + 1, _ => by
    rw [bestG]
    have := bestG_le sg x k
    split <;> omega
def lowQ (m : List (List Rat)) (l : Hist) (w : Nat) : Rat := (colsS m l w).getD (bestG (-1) (colsS m l w) w) 0
def highQ (m : List (List Rat)) (l : Hist) (w : Nat) : Rat := (rowsS m l w).getD (bestG 1 (rowsS m l w) m.length) 0
/-- regret.Bounds -/
def boundsR (m : List (List Text)) (l : Hist) : (Text × Text) × Int :=
  if histE m l ≠ 0 then (([], []), histE m l) else if l = [] then (([], []), 8)
  else if fitB (lowQ (inM m) l (widM m) / (l.length : Nat)) && fitB (highQ (inM m) l (widM m) / (l.length : Nat)) then ((textQ (lowQ (inM m) l (widM m) / (l.length : Nat)), textQ (highQ (inM m) l (widM m) / (l.length : Nat))), 0) else (([], []), 2)
theorem cmp_pos {a b : Rat} : 0 < cmpQ a b ↔ b < a := by
  unfold cmpQ
  split
  · rename_i h
    exact ⟨fun q => absurd q (by decide), fun q => absurd (Rat.le_of_lt q) (Rat.not_le.2 h)⟩
  · split
    · rename_i h1 h2
      exact ⟨fun q => absurd q (by decide), fun q => by rw [h2] at q; exact absurd q Rat.lt_irrefl⟩
    · rename_i h1 h2
      exact ⟨fun _ => Rat.lt_of_le_of_ne (Rat.not_lt.1 h1) (Ne.symm h2), fun _ => by decide⟩
theorem cmp_neg {a b : Rat} : 0 < cmpQ a b * (-1) ↔ a < b := by
  unfold cmpQ
  split
  · rename_i h; exact ⟨fun _ => h, fun _ => by decide⟩
  · rename_i h
    split
    · exact ⟨fun q => absurd q (by decide), fun q => absurd q h⟩
    · exact ⟨fun q => absurd q (by decide), fun q => absurd q h⟩
theorem bestK_max (x : List Rat) : ∀ k j, j < k → x.getD j 0 ≤ x.getD (bestK x k) 0
  | 0, j, h => absurd h (Nat.not_lt_zero _)
  | k + 1, j, h => by
    rw [bestK]
    by_cases hj : j = k
    · subst hj
      split
      · exact Rat.le_refl
      · rename_i h1; exact Rat.not_lt.1 (fun q => h1 (cmp_pos.2 q))
    · have ih := bestK_max x k j (by omega)
      split
      · rename_i h1; exact Rat.le_trans ih (Rat.le_of_lt (cmp_pos.1 h1))
      · exact ih
theorem bestK_lt (x : List Rat) : ∀ k, k ≠ 0 → bestK x k < k
  | 0, h => absurd rfl h
  | k + 1, _ => by
    rw [bestK]
    have := bestK_le x k
    split <;> omega
theorem bestG_max (x : List Rat) : ∀ k j, j < k → x.getD j 0 ≤ x.getD (bestG 1 x k) 0
  | 0, j, h => absurd h (Nat.not_lt_zero _)
  | k + 1, j, h => by
    rw [bestG, Int.mul_one]
    by_cases hj : j = k
    · subst hj
      split
      · exact Rat.le_refl
      · rename_i h1; exact Rat.not_lt.1 (fun q => h1 (cmp_pos.2 q))
    · have ih := bestG_max x k j (by omega)
      split
      · rename_i h1; exact Rat.le_trans ih (Rat.le_of_lt (cmp_pos.1 h1))
      · exact ih
theorem bestG_min (x : List Rat) : ∀ k j, j < k → x.getD (bestG (-1) x k) 0 ≤ x.getD j 0
  | 0, j, h => absurd h (Nat.not_lt_zero _)
  | k + 1, j, h => by
    rw [bestG]
    by_cases hj : j = k
    · subst hj
      split
      · exact Rat.le_refl
      · rename_i h1; exact Rat.not_lt.1 (fun q => h1 (cmp_neg.2 q))
    · have ih := bestG_min x k j (by omega)
      split
      · rename_i h1; exact Rat.le_trans (Rat.le_of_lt (cmp_neg.1 h1)) ih
      · exact ih
theorem rowsS_len (m : List (List Rat)) (l : Hist) (w : Nat) : (rowsS m l w).length = m.length := by simp [rowsS]
theorem colsS_len (m : List (List Rat)) (l : Hist) (w : Nat) : (colsS m l w).length = w := by simp [colsS, colsQ]
/-- The greatest regret of a row is the greatest sum less what was received. -/
theorem best_regA (m : List (List Rat)) (l : Hist) (w : Nat) (h : m.length ≠ 0) : (regA m l w).getD (bestK (regA m l w) m.length) 0 = highQ m l w - gotQ m l := by
  have hg : ∀ i, i < m.length → (regA m l w).getD i 0 = (rowsS m l w).getD i 0 - gotQ m l := fun i hi => by
    unfold regA; rw [map_getD _ _ 0 _ _ (by rw [rowsS_len]; exact hi)]
  have h1 := bestK_lt (regA m l w) m.length h
  have h2 := bestG_lt 1 (rowsS m l w) m.length h
  unfold highQ
  apply Rat.le_antisymm
  · rw [hg _ h1, Rat.sub_eq_add_neg, Rat.sub_eq_add_neg]
    exact (Rat.add_le_add_right).2 (bestG_max _ _ _ h1)
  · have := bestK_max (regA m l w) m.length _ h2
    rwa [hg _ h2] at this
theorem best_regB (m : List (List Rat)) (l : Hist) (w : Nat) (h : w ≠ 0) : (regB m l w).getD (bestK (regB m l w) w) 0 = gotQ m l - lowQ m l w := by
  have hg : ∀ i, i < w → (regB m l w).getD i 0 = gotQ m l - (colsS m l w).getD i 0 := fun i hi => by
    unfold regB; rw [map_getD _ _ 0 _ _ (by rw [colsS_len]; exact hi)]
  have h1 := bestK_lt (regB m l w) w h
  have h2 := bestG_lt (-1) (colsS m l w) w h
  unfold lowQ
  apply Rat.le_antisymm
  · rw [hg _ h1, Rat.sub_eq_add_neg, Rat.sub_eq_add_neg]
    exact (Rat.add_le_add_left).2 (Rat.neg_le_neg (bestG_min _ _ _ h1))
  · have := bestK_max (regB m l w) w _ h2
    rwa [hg _ h2] at this
theorem cnt_le (f : Int × Int → Int) (l : Hist) (i : Nat) : cnt f l i ≤ l.length := List.length_filter_le _ _
theorem cntQ_D (f : Int × Int → Int) (l : Hist) (n : Nat) (hl : l.length ≤ 40) : ∀ q ∈ cntQ f l n, D 2 q := by
  intro q hq
  obtain ⟨i, _, rfl⟩ := List.mem_map.1 hq
  have := cnt_le f l i
  refine ⟨?_, ?_⟩
  · show (((cnt f l i : Nat) : Int)).natAbs < 100
    omega
  · show (1 : Nat) < 100; decide
theorem sumQ_D {k : Nat} : ∀ (qs : List Rat) (acc : Rat) (j : Nat), D j acc → (∀ q ∈ qs, D k q) → D (j + (k + 1) * qs.length) (sumQ acc qs)
  | [], acc, j, h, _ => h
  | q :: r, acc, j, h, hq => by
    rw [sumQ, List.length_cons, Nat.mul_add]
    exact (sumQ_D r _ _ (h.add (hq q (by simp))) (fun x hx => hq x (by simp [hx]))).mono (by omega)
theorem d_zero (k : Nat) (hk : 1 ≤ k) : D k 0 := D.mono (j := 1) ⟨by decide, by decide⟩ hk
theorem elQ_D {m : List (List Rat)} {k : Nat} (hm : ∀ r ∈ m, ∀ q ∈ r, D k q) (hk : 1 ≤ k) (x : Int × Int) : D k (elQ m x) := by
  unfold elQ
  by_cases h1 : x.1.toNat < m.length
  · have e1 : m.getD x.1.toNat [] = m[x.1.toNat] := by simp [List.getD, h1]
    rw [e1]
    by_cases h2 : x.2.toNat < (m[x.1.toNat]).length
    · have e2 : (m[x.1.toNat]).getD x.2.toNat 0 = (m[x.1.toNat])[x.2.toNat] := by simp [List.getD, h2]
      rw [e2]; exact hm _ (List.getElem_mem h1) _ (List.getElem_mem h2)
    · have e2 : (m[x.1.toNat]).getD x.2.toNat 0 = 0 := by simp [List.getD, h2]
      rw [e2]; exact d_zero k hk
  · have e1 : (m.getD x.1.toNat []).getD x.2.toNat 0 = 0 := by simp [List.getD, h1]
    rw [e1]; exact d_zero k hk
/-- The law. -/
structure Zero (m : List (List Text)) (l : Hist) (a b : List Text) (lo hi : Text) : Prop where
  reg : regretsR m l = ((a, b), 0)
  bnd : boundsR m l = ((lo, hi), 0)
  ga : ∀ s ∈ a, ratE s = 0
  gb : ∀ s ∈ b, ratE s = 0
  la : a.length = m.length
  lb : b.length = widM m
  best : ∃ i k s q, bestR a = (((i : Nat) : Int), 0) ∧ bestR b = (((k : Nat) : Int), 0) ∧ i < a.length ∧ k < b.length ∧ twoR (fun x y => x + y) (a.getD i []) (b.getD k []) = (s, 0) ∧ divR s (textQ ((l.length : Nat) : Rat)) = (q, 0) ∧ twoR (fun x y => x - y) hi lo = (q, 0)
theorem zero_law {m : List (List Text)} {l : Hist} (tm : tiny 4 12 m = true) (hl : l.length ≤ 40) (h1 : (regretsR m l).2 = 0) (h2 : (boundsR m l).2 = 0) : ∃ a b lo hi, Zero m l a b lo hi := by
  obtain ⟨a1, a2, a3⟩ := tiny_spec3 tm
  unfold regretsR at h1
  split at h1
  · rename_i h; exact absurd h1 h
  rename_i hh
  have hE := Classical.not_not.1 hh
  obtain ⟨g1, g2, g3⟩ := histE_zero hE
  obtain ⟨k1, k2, k3, k4, k5⟩ := gameE_zero g1
  have im := matE_zero k1
  have dm := inM_D im a3 (by decide)
  have hml : (inM m).length = m.length := inM_len m
  have hm0 : m.length ≠ 0 := fun e => k5 (List.length_eq_zero_iff.1 e)
  have hcols := inM_cols im
  have w4 : widM m ≤ 4 := by
    obtain ⟨r, m', rfl⟩ := List.exists_cons_of_ne_nil k5
    exact a2 r (by simp)
  -- sizes
  have dR : ∀ q ∈ rowsS (inM m) l (widM m), D 61 q := fun q hq => by
    obtain ⟨r, hr, rfl⟩ := List.mem_map.1 hq
    have hrl := hcols r hr
    refine (dotQ_D (j := 12) (k := 2) (dm r hr) (cntQ_D _ l _ hl) (by simp [cntQ, hrl])).mono ?_
    rw [hrl]; have := Nat.mul_le_mul_right 15 w4; omega
  have dC : ∀ q ∈ colsS (inM m) l (widM m), D 61 q := fun q hq => by
    obtain ⟨c, hc, rfl⟩ := List.mem_map.1 hq
    obtain ⟨k, hk, rfl⟩ := List.mem_map.1 hc
    refine (dotQ_D (j := 12) (k := 2) (fun x hx => ?_) (cntQ_D _ l _ hl) (by simp [cntQ, colQ])).mono ?_
    · obtain ⟨r, hr, rfl⟩ := List.mem_map.1 hx
      have hk' : k < r.length := by rw [hcols r hr]; simpa using hk
      have : r.getD k 0 = r[k] := by simp [List.getD, hk']
      rw [this]; exact dm r hr _ (List.getElem_mem hk')
    · rw [colQ_len, hml]; have := Nat.mul_le_mul_right 15 a1; omega
  have dG : D 521 (gotQ (inM m) l) := by
    refine (sumQ_D (k := 12) _ 0 1 (d_zero 1 (by decide)) (fun q hq => ?_)).mono ?_
    · obtain ⟨x, _, rfl⟩ := List.mem_map.1 hq
      exact elQ_D dm (by decide) x
    · rw [List.length_map]; have := Nat.mul_le_mul_left 13 hl; omega
  have dA : ∀ q ∈ regA (inM m) l (widM m), D 583 q := fun q hq => by
    obtain ⟨x, hx, rfl⟩ := List.mem_map.1 hq
    exact ((dR x hx).sub dG).mono (by omega)
  have dB : ∀ q ∈ regB (inM m) l (widM m), D 583 q := fun q hq => by
    obtain ⟨x, hx, rfl⟩ := List.mem_map.1 hq
    exact (dG.sub (dC x hx)).mono (by omega)
  have fA : (regA (inM m) l (widM m)).all fitB = true := by rw [List.all_eq_true]; exact fun q hq => (dA q hq).fit (by decide)
  have fB : (regB (inM m) l (widM m)).all fitB = true := by rw [List.all_eq_true]; exact fun q hq => (dB q hq).fit (by decide)
  have lA : (regA (inM m) l (widM m)).length = m.length := by unfold regA; rw [List.length_map, rowsS_len, hml]
  have lB : (regB (inM m) l (widM m)).length = widM m := by unfold regB; rw [List.length_map, colsS_len]
  have hlo : D 61 (lowQ (inM m) l (widM m)) := by
    refine dC _ ?_
    have := bestG_lt (-1) (colsS (inM m) l (widM m)) (widM m) k3
    simp [lowQ, List.getD, colsS_len, this]
  have hhi : D 61 (highQ (inM m) l (widM m)) := by
    refine dR _ ?_
    have := bestG_lt 1 (rowsS (inM m) l (widM m)) (inM m).length (by omega)
    simp [highQ, List.getD, rowsS_len, this]
  -- the bounds
  unfold boundsR at h2
  rw [if_neg hh] at h2
  split at h2
  · cases h2
  rename_i hne
  have hl0 : l.length ≠ 0 := fun e => hne (List.length_eq_zero_iff.1 e)
  have dn : D 2 ((l.length : Nat) : Rat) := ⟨by show (((l.length : Nat) : Int)).natAbs < 100; omega, by show (1 : Nat) < 100; decide⟩
  have hn0 : ((l.length : Nat) : Rat) ≠ 0 := fun e => hl0 (by exact_mod_cast e)
  have dlo := hlo.div dn hn0
  have dhi := hhi.div dn hn0
  have hbnd : boundsR m l = ((textQ (lowQ (inM m) l (widM m) / (l.length : Nat)), textQ (highQ (inM m) l (widM m) / (l.length : Nat))), 0) := by
    unfold boundsR
    rw [if_neg hh, if_neg hne, dlo.fit (by decide), dhi.fit (by decide)]
    rfl
  have isA : ∀ s ∈ (regA (inM m) l (widM m)).map textQ, ratE s = 0 := fun s hs => by
    obtain ⟨q, hq, rfl⟩ := List.mem_map.1 hs
    exact (isQ_of ((dA q hq).fit (by decide))).1
  have isB : ∀ s ∈ (regB (inM m) l (widM m)).map textQ, ratE s = 0 := fun s hs => by
    obtain ⟨q, hq, rfl⟩ := List.mem_map.1 hs
    exact (isQ_of ((dB q hq).fit (by decide))).1
  have backV : ∀ (qs : List Rat), (∀ q ∈ qs, D 583 q) → (qs.map textQ).map ratV = qs := fun qs hqs => by
    rw [List.map_map]
    conv => rhs; rw [← List.map_id qs]
    exact List.map_congr_left (fun q hq => (isQ_of ((hqs q hq).fit (by decide))).2)
  refine ⟨_, _, _, _, ⟨?_, hbnd, isA, isB, by rw [List.length_map, lA], by rw [List.length_map, lB], ?_⟩⟩
  · unfold regretsR bothR outAllF
    rw [if_neg hh, if_pos fA, if_pos fB]
    simp
  · have bA : bestR ((regA (inM m) l (widM m)).map textQ) = (((bestK (regA (inM m) l (widM m)) m.length : Nat) : Int), 0) := by
      unfold bestR
      rw [if_neg (by rw [List.length_map, lA]; omega), if_neg (fun e => hm0 (by have := congrArg List.length e; simpa [lA] using this)), if_pos (allE_of isA), backV _ dA, List.length_map, lA]
    have bB : bestR ((regB (inM m) l (widM m)).map textQ) = (((bestK (regB (inM m) l (widM m)) (widM m) : Nat) : Int), 0) := by
      unfold bestR
      rw [if_neg (by rw [List.length_map, lB]; omega), if_neg (fun e => k3 (by have := congrArg List.length e; simpa [lB] using this)), if_pos (allE_of isB), backV _ dB, List.length_map, lB]
    have ib := bestK_lt (regA (inM m) l (widM m)) m.length hm0
    have kb := bestK_lt (regB (inM m) l (widM m)) (widM m) k3
    have eA : ((regA (inM m) l (widM m)).map textQ).getD (bestK (regA (inM m) l (widM m)) m.length) [] = textQ (highQ (inM m) l (widM m) - gotQ (inM m) l) := by
      rw [map_getD _ _ 0 _ _ (by rw [lA]; exact ib)]
      have := best_regA (inM m) l (widM m) (by omega)
      rw [hml] at this
      rw [this]
    have eB : ((regB (inM m) l (widM m)).map textQ).getD (bestK (regB (inM m) l (widM m)) (widM m)) [] = textQ (gotQ (inM m) l - lowQ (inM m) l (widM m)) := by
      rw [map_getD _ _ 0 _ _ (by rw [lB]; exact kb), best_regB (inM m) l (widM m) k3]
    have dx : D 583 (highQ (inM m) l (widM m) - gotQ (inM m) l) := (hhi.sub dG).mono (by omega)
    have dy : D 583 (gotQ (inM m) l - lowQ (inM m) l (widM m)) := (dG.sub hlo).mono (by omega)
    have nx := isQ_of (dx.fit (by decide))
    have ny := isQ_of (dy.fit (by decide))
    have ds := dx.add dy
    obtain ⟨os, ns⟩ := ds.out (by decide)
    have dq := ds.div dn hn0
    obtain ⟨oq, nq⟩ := dq.out (by decide)
    have nn := isQ_of (dn.fit (by decide))
    have nlo := isQ_of (dlo.fit (by decide))
    have nhi := isQ_of (dhi.fit (by decide))
    refine ⟨bestK (regA (inM m) l (widM m)) m.length, bestK (regB (inM m) l (widM m)) (widM m), textQ (highQ (inM m) l (widM m) - gotQ (inM m) l + (gotQ (inM m) l - lowQ (inM m) l (widM m))), textQ ((highQ (inM m) l (widM m) - gotQ (inM m) l + (gotQ (inM m) l - lowQ (inM m) l (widM m))) / (l.length : Nat)), bA, bB, by rw [List.length_map, lA]; exact ib, by rw [List.length_map, lB]; exact kb, ?_, ?_, ?_⟩
    · rw [eA, eB, nx.two (fun x y => x + y) ny]; exact os
    · rw [ns.div nn, if_neg hn0]; exact oq
    · rw [nhi.two (fun x y => x - y) nlo]
      have e : highQ (inM m) l (widM m) / (l.length : Nat) - lowQ (inM m) l (widM m) / (l.length : Nat) = (highQ (inM m) l (widM m) - gotQ (inM m) l + (gotQ (inM m) l - lowQ (inM m) l (widM m))) / (l.length : Nat) := by
        rw [Rat.div_def, Rat.div_def, Rat.div_def, Rat.sub_eq_add_neg, ← Rat.neg_mul, ← Rat.add_mul]
        congr 1
        rw [Rat.sub_eq_add_neg, Rat.sub_eq_add_neg, Rat.add_assoc, ← Rat.add_assoc (-gotQ (inM m) l), Rat.neg_add_cancel, Rat.zero_add]
      rw [e]; exact oq
/-- One round more. -/
structure PlaySt where
  rows : List Rat
  cols : List Rat
  out : List (Nat × Nat)
def playStep (m : List (List Rat)) (s : PlaySt) : PlaySt :=
  let i := bestG 1 s.rows s.rows.length
  let k := bestG (-1) s.cols s.cols.length
  ⟨(List.range s.rows.length).map (fun j => s.rows.getD j 0 + (m.getD j []).getD k 0), (List.range s.cols.length).map (fun j => s.cols.getD j 0 + (m.getD i []).getD j 0), s.out ++ [(i, k)]⟩
def playN (m : List (List Rat)) (w : Nat) : Nat → PlaySt
  | 0 => ⟨List.replicate m.length 0, List.replicate w 0, []⟩
  | n + 1 => playStep m (playN m w n)
theorem playN_len (m : List (List Rat)) (w : Nat) : ∀ n, (playN m w n).rows.length = m.length ∧ (playN m w n).cols.length = w ∧ (playN m w n).out.length = n
  | 0 => by simp [playN]
  | n + 1 => by
    obtain ⟨h1, h2, h3⟩ := playN_len m w n
    simp [playN, playStep, h1, h2, h3]
def histOf (l : List (Nat × Nat)) : Hist := l.map (fun x => ((x.1 : Int), (x.2 : Int)))
/-- regret.Play -/
def playR (m : List (List Text)) (n : Int) : Hist × Int := if gameE m ≠ 0 then ([], gameE m) else if n < 0 ∨ 200 < n then ([], 4) else (histOf (playN (inM m) (widM m) n.toNat).out, 0)
end Go.Ax.Rt

namespace Go.Proofs.YtgmleamhjnlknaaGreatDoor
open Go.Ax Go.Ax.Bg Go.Ax.Rt Go.RowKit Go.Ax.Idx Go.Ax.Cd
attribute [local irreducible] Ax Post QOp ACall PureOp
set_option maxRecDepth 100000
set_option maxHeartbeats 4000000

theorem game_ok (m : List (List Text)) (hlen : m.length ≤ 9223372036854775807) (hr : ∀ r ∈ m, r.length ≤ 9223372036854775807 ∧ ∀ s ∈ r, s.length ≤ 9223372036854775807) : VCall Tryz.prog 63 [.ro (rowsT m) 0 m.length] (.int .i64 (gameE m)) := by
  have cm := mcheck_ok m hlen hr
  have wm := width_ok m hlen
  refine ACall.value0 (acall_of_ax (P := Tryz.prog) (fn := Tryz.f63) rfl rfl (by kernel_rfl) rfl (fun c hR hfix => ?_)) (fix := fun _ => False) (fun _ h => h) rfl rfl
  repeat (first
    | refine ax_q (q_move rfl) ?_
    | refine ax_q (q_assign rfl) ?_
    | refine ax_ops_nil ?_
    | refine ax_post_code ?_
    | refine ax_seq ?_
    | refine ax_region rfl ?_
    | refine ax_q (q_gtr rfl rfl) ?_
    | refine ax_q (q_len rfl rfl rfl) ?_)
  refine ax_cond_dec rfl (fun h1 => ?_) (fun h1 => ?_)
  · have e : gameE m = 2 := by unfold gameE; rw [if_pos (by omega)]
    rw [e] at hR
    repeat (first
      | refine ax_q (q_assign rfl) ?_
      | refine ax_ops_nil ?_
      | refine ax_post_code ?_
      | refine ax_seq ?_
      | refine ax_region rfl ?_
      | refine ax_return ?_
      | refine ax_ret_code ?_)
    exact ax_ret hR rfl rfl
  have h1' : ¬ 12 < m.length := by omega
  repeat (first
    | refine ax_q (q_move rfl) ?_
    | refine ax_post_code ?_
    | refine ax_seq ?_
    | refine ax_region rfl ?_
    | refine ax_skip ?_)
  refine ax_callv rfl rfl rfl cm ?_
  repeat (first
    | refine ax_q (q_move rfl) ?_
    | refine ax_q (q_assign rfl) ?_
    | refine ax_ops_nil ?_
    | refine ax_post_code ?_
    | refine ax_seq ?_
    | refine ax_region rfl ?_
    | refine ax_q (q_neq rfl rfl) ?_)
  refine ax_cond_dec rfl (fun h2 => ?_) (fun h2 => ?_)
  · have e : gameE m = matE m := by unfold gameE; rw [if_neg h1', if_pos h2]
    rw [e] at hR
    repeat (first
      | refine ax_q (q_move rfl) ?_
      | refine ax_q (q_assign rfl) ?_
      | refine ax_ops_nil ?_
      | refine ax_post_code ?_
      | refine ax_seq ?_
      | refine ax_region rfl ?_
      | refine ax_return ?_
      | refine ax_ret_code ?_)
    exact ax_ret hR rfl rfl
  repeat (first
    | refine ax_q (q_move rfl) ?_
    | refine ax_post_code ?_
    | refine ax_seq ?_
    | refine ax_region rfl ?_
    | refine ax_skip ?_)
  refine ax_callv rfl rfl rfl wm ?_
  repeat (first
    | refine ax_ops_nil ?_
    | refine ax_post_code ?_
    | refine ax_q (q_eql rfl rfl) ?_)
  refine ax_cond_dec rfl (fun h3 => ?_) (fun h3 => ?_)
  · have e : gameE m = 8 := by unfold gameE; rw [if_neg h1', if_neg h2, if_pos (by omega)]
    rw [e] at hR
    repeat (first
      | refine ax_q (q_assign rfl) ?_
      | refine ax_ops_nil ?_
      | refine ax_post_code ?_
      | refine ax_seq ?_
      | refine ax_region rfl ?_
      | refine ax_return ?_
      | refine ax_ret_code ?_)
    exact ax_ret hR rfl rfl
  repeat (first
    | refine ax_q (q_move rfl) ?_
    | refine ax_post_code ?_
    | refine ax_seq ?_
    | refine ax_region rfl ?_
    | refine ax_skip ?_)
  refine ax_callv rfl rfl rfl wm ?_
  repeat (first
    | refine ax_ops_nil ?_
    | refine ax_post_code ?_
    | refine ax_q (q_gtr rfl rfl) ?_)
  refine ax_cond_dec rfl (fun h4 => ?_) (fun h4 => ?_)
  · have e : gameE m = 2 := by unfold gameE; rw [if_neg h1', if_neg h2, if_neg (by omega), if_pos (by omega)]
    rw [e] at hR
    repeat (first
      | refine ax_q (q_assign rfl) ?_
      | refine ax_ops_nil ?_
      | refine ax_post_code ?_
      | refine ax_seq ?_
      | refine ax_region rfl ?_
      | refine ax_return ?_
      | refine ax_ret_code ?_)
    exact ax_ret hR rfl rfl
  have e : gameE m = 0 := by unfold gameE; rw [if_neg h1', if_neg h2, if_neg (by omega), if_neg (by omega)]
  rw [e] at hR
  repeat (first
    | refine ax_q (q_assign rfl) ?_
    | refine ax_ops_nil ?_
    | refine ax_post_code ?_
    | refine ax_seq ?_
    | refine ax_region rfl ?_
    | refine ax_skip ?_
    | refine ax_return ?_)
  exact ax_ret hR rfl rfl
end Go.Proofs.YtgmleamhjnlknaaGreatDoor

namespace Go.Proofs.YtgmleamhjnlknaaGreatDoor
open Go.Ax Go.Ax.Bg Go.Ax.Rt Go.RowKit Go.Ax.Idx Go.Ax.Cd
attribute [local irreducible] Ax Post QOp ACall PureOp
set_option maxRecDepth 100000
set_option maxHeartbeats 4000000

def cellsP (x : Int × Int) : List AV := [.int .i64 x.1, .int .i64 x.2]
abbrev pairsC (l : Hist) : Cells := rowE (0, 0) 2 cellsP l
theorem indexFuncP (l : Hist) (g : FuncId) (caps : List AV) (p : Int × Int → Bool) (hc : noRef.noRefs caps = true) (hlen : l.length ≤ 9223372036854775807) (hp : ∀ x ∈ l, VCall Tryz.prog g ([.agg (cellsP x)] ++ caps) (.bool (p x))) :
    VCall Tryz.prog 140 [.ro (pairsC l) 0 l.length, .fn g caps] (.int .i64 (idxF p l)) := by
  refine ACall.value0 (acall_of_ax (P := Tryz.prog) (fn := Tryz.f140) rfl rfl (by kernel_rfl) rfl (fun c hR hfix => ?_)) (fix := fun _ => False) (fun _ h => h) (by simp [noRef.noRefs, noRef, hc]) rfl
  repeat (first
    | refine ax_q (q_move rfl) ?_
    | refine ax_q (q_assign rfl) ?_
    | refine ax_ops_nil ?_
    | refine ax_post_code ?_
    | refine ax_seq ?_
    | refine ax_region rfl ?_
    | refine ax_block ?_
    | refine ax_q (q_len rfl rfl rfl) ?_)
  refine ax_loop (ι := Nat) (fun k => [(0, .ro (pairsC l) 0 l.length), (1, .fn g caps), (7, .int .i64 (l.length : Nat)), (8, .int .i64 (k : Nat))]) (fun _ => [])
    (fun k => k ≤ l.length ∧ (l.take k).any p = false) (fun k => l.length - k) 0 ⟨⟨rfl, rfl, rfl, rfl, trivial⟩, rfl, Nat.zero_le _, rfl⟩ ?_
  intro k ⟨hk, hany⟩
  repeat (first
    | refine ax_ops_nil ?_
    | refine ax_post_code ?_
    | refine ax_seq ?_
    | refine ax_region rfl ?_
    | refine ax_q (q_lss rfl rfl) ?_)
  refine ax_cond_dec rfl (fun h => ?_) (fun h => ?_)
  · have hk' : k < l.length := by omega
    have hanys := any_take_succ p l (0, 0) k hk'
    repeat (first
      | refine ax_q (q_move rfl) ?_
      | refine ax_q (q_assign rfl) ?_
      | refine ax_ops_nil ?_
      | refine ax_post_code ?_
      | refine ax_seq ?_
      | refine ax_region rfl ?_
      | refine ax_block ?_
      | refine ax_skip ?_
      | refine ax_q (q_index_ro' rfl rfl rfl rfl (by first | (simp only [Nat.zero_add, Int.toNat_natCast, Int.toNat_zero]; exact rfl) | exact rfl) (by omega)) ?_
      | refine ax_q (q_loadagg_rp rfl rfl rfl rfl rfl rfl) ?_)
    refine ax_slot_ops 15 (.agg (cellsP (l.getD k (0, 0)))) rfl (AEq.of_eq rfl) ?_
    refine ax_callv rfl rfl rfl (hp _ (getD_mem (0, 0) hk')) ?_
    repeat (first
      | refine ax_ops_nil ?_
      | refine ax_post_code ?_)
    refine ax_cond rfl (fun h2 => ?_) (fun h2 => ?_)
    · repeat (first
        | refine ax_q (q_move rfl) ?_
        | refine ax_q (q_assign rfl) ?_
        | refine ax_ops_nil ?_
        | refine ax_post_code ?_
        | refine ax_seq ?_
        | refine ax_region rfl ?_
        | refine ax_return ?_
        | refine ax_ret_code ?_
        | refine ax_ret_blk ?_
        | refine ax_ret_inv ?_)
      refine ax_ret hR rfl ?_
      have := idxF_take p l k hany hk
      rw [drop_getD l (0, 0) k hk'] at this
      simp only [idxF, h2, if_true] at this
      rw [this]; simp [tupOf]
    · repeat (first
        | refine ax_q (q_move rfl) ?_
        | refine ax_ops_nil ?_
        | refine ax_post_code ?_
        | refine ax_region rfl ?_
        | refine ax_post_blk ?_
        | refine ax_skip ?_
        | refine ax_q (q_add rfl rfl (by omega)) ?_)
      refine ax_post_inv ⟨k + 1, ⟨by omega, by rw [hanys, hany, h2]; rfl⟩, by omega, ⟨rfl, rfl, rfl, rfl, trivial⟩, rfl⟩
  · have hk' : k = l.length := by omega
    subst hk'
    repeat (first
      | refine ax_q (q_assign rfl) ?_
      | refine ax_ops_nil ?_
      | refine ax_post_code ?_
      | refine ax_seq ?_
      | refine ax_region rfl ?_
      | refine ax_exit ?_
      | refine ax_exit_here ?_
      | refine ax_exit_code ?_
      | refine ax_exit_inv ?_
      | refine ax_return ?_)
    refine ax_ret hR rfl ?_
    have := idxF_take p l l.length hany hk
    rw [List.drop_length] at this
    rw [this]; rfl
theorem containsP (l : Hist) (g : FuncId) (caps : List AV) (p : Int × Int → Bool) (hc : noRef.noRefs caps = true) (hlen : l.length ≤ 9223372036854775807) (hp : ∀ x ∈ l, VCall Tryz.prog g ([.agg (cellsP x)] ++ caps) (.bool (p x))) :
    VCall Tryz.prog 68 [.ro (pairsC l) 0 l.length, .fn g caps] (.bool (l.any p)) := by
  refine ACall.value0 (acall_of_ax (P := Tryz.prog) (fn := Tryz.f68) rfl rfl (by kernel_rfl) rfl (fun c hR hfix => ?_)) (fix := fun _ => False) (fun _ h => h) (by simp [noRef.noRefs, noRef, hc]) rfl
  repeat (first
    | refine ax_q (q_move rfl) ?_
    | refine ax_q (q_assign rfl) ?_
    | refine ax_ops_nil ?_
    | refine ax_post_code ?_
    | refine ax_seq ?_
    | refine ax_region rfl ?_)
  refine ax_callv rfl rfl rfl (indexFuncP l g caps p hc hlen hp) ?_
  repeat (first
    | refine ax_q (q_assign rfl) ?_
    | refine ax_ops_nil ?_
    | refine ax_post_code ?_
    | refine ax_return ?_
    | refine ax_q (q_geq rfl rfl) ?_)
  refine ax_ret hR rfl ?_
  simp only [tupOf, idxF_any]
theorem out1_ok (m : List (List Text)) (x : Int × Int) (hm : m ≠ []) (hw : widM m ≠ 0) (hlen : m.length ≤ 9223372036854775807) (hr : ∀ r ∈ m, r.length ≤ 9223372036854775807) : VCall Tryz.prog 69 [.agg (cellsP x), .rp (.box [.ro (rowsT m) 0 m.length]) 0 0] (.bool (outside m x)) := by
  have hm0 : 0 < m.length := by cases m with | nil => exact absurd rfl hm | cons _ _ => exact Nat.succ_pos _
  have hw9 : widM m ≤ 9223372036854775807 := by unfold widM; exact hr _ (getD_mem [] hm0)
  refine ACall.value0 (acall_of_ax (P := Tryz.prog) (fn := Tryz.f69) rfl rfl (by kernel_rfl) rfl (fun c hR hfix => ?_)) (fix := fun _ => False) (fun _ h => h) rfl rfl
  by_cases h1 : x.1 < 0
  · rw [show outside m x = true by unfold outside; rw [decide_eq_true h1, Bool.true_or]] at hR
    repeat (first
      | refine ax_q (q_assign rfl) ?_
      | refine ax_ops_nil ?_
      | refine ax_post_code ?_
      | refine ax_seq ?_
      | refine ax_region rfl ?_
      | refine ax_box rfl rfl ?_)
    refine ax_regiond (by kernel_rfl) ?_
    refine ax_any_run (fuel := 0) [0, 1, 2, 3, 4, 5, 6, 7, 8, 9, 10, 11, 12, 13, 14, 15, 16, 17, 18, 19, 20, 21, 22, 23, 24] [(2, .ptr 0 0 0), (1, .rp (.box [.ro (rowsT m) 0 m.length]) 0 0)] ⟨rfl, rfl, trivial⟩ (by kernel_rfl) (by decide) rfl rfl ?_
    refine px_q rfl rfl (q_idxarr_ptr rfl rfl rfl rfl (by first | (simp only [Nat.zero_add, Int.toNat_natCast]; exact rfl) | exact rfl) (by omega)) ?_
    refine px_q rfl rfl (q_loadb_ptr rfl rfl rfl rfl rfl) ?_
    refine px_q rfl rfl (q_lss rfl rfl) ?_
    rw [decide_eq_true h1]
    refine px_q rfl rfl (q_move rfl) ?_
    refine px_gno rfl rfl rfl rfl rfl ?_
    refine px_gno rfl rfl rfl rfl rfl ?_
    refine px_gno rfl rfl rfl rfl rfl ?_
    refine px_gno rfl rfl rfl rfl rfl ?_
    refine px_gno rfl rfl rfl rfl rfl ?_
    refine px_q rfl rfl (q_pick rfl rfl) ?_
    refine px_q rfl rfl (q_move rfl) ?_
    refine px_gno rfl rfl rfl rfl rfl ?_
    refine px_gno rfl rfl rfl rfl rfl ?_
    refine px_gno rfl rfl rfl rfl rfl ?_
    refine px_q rfl rfl (q_pick rfl rfl) ?_
    refine px_q rfl rfl (q_move rfl) ?_
    refine px_gno rfl rfl rfl rfl rfl ?_
    refine px_gno rfl rfl rfl rfl rfl ?_
    refine px_gno rfl rfl rfl rfl rfl ?_
    refine px_gno rfl rfl rfl rfl rfl ?_
    refine px_gno rfl rfl rfl rfl rfl ?_
    refine px_gno rfl rfl rfl rfl rfl ?_
    refine px_gno rfl rfl rfl rfl rfl ?_
    refine px_q rfl rfl (q_pick rfl rfl) ?_
    refine px_q rfl rfl (q_assign rfl) ?_
    refine px_done ?_
    refine ax_any_done (by kernel_rfl) ?_
    repeat (first
      | refine ax_post_code ?_
      | refine ax_return ?_)
    exact ax_ret hR rfl rfl
  by_cases h2 : (m.length : Int) ≤ x.1
  · rw [show outside m x = true by unfold outside; rw [decide_eq_true h2, Bool.true_or, Bool.or_true]] at hR
    repeat (first
      | refine ax_q (q_assign rfl) ?_
      | refine ax_ops_nil ?_
      | refine ax_post_code ?_
      | refine ax_seq ?_
      | refine ax_region rfl ?_
      | refine ax_box rfl rfl ?_)
    refine ax_regiond (by kernel_rfl) ?_
    refine ax_any_run (fuel := 0) [0, 1, 2, 3, 4, 5, 6, 7, 8, 9, 10, 11, 12, 13, 14, 15, 16, 17, 18, 19, 20, 21, 22, 23, 24] [(2, .ptr 0 0 0), (1, .rp (.box [.ro (rowsT m) 0 m.length]) 0 0)] ⟨rfl, rfl, trivial⟩ (by kernel_rfl) (by decide) rfl rfl ?_
    refine px_q rfl rfl (q_idxarr_ptr rfl rfl rfl rfl (by first | (simp only [Nat.zero_add, Int.toNat_natCast]; exact rfl) | exact rfl) (by omega)) ?_
    refine px_q rfl rfl (q_loadb_ptr rfl rfl rfl rfl rfl) ?_
    refine px_q rfl rfl (q_lss rfl rfl) ?_
    rw [decide_eq_false h1]
    refine px_q rfl rfl (q_move rfl) ?_
    refine px_gq rfl rfl rfl rfl (q_idxarr_ptr rfl rfl rfl rfl (by first | (simp only [Nat.zero_add, Int.toNat_natCast]; exact rfl) | exact rfl) (by omega)) ?_
    refine px_gq rfl rfl rfl rfl (q_loadb_ptr rfl rfl rfl rfl rfl) ?_
    refine px_gq rfl rfl rfl rfl (q_loadb_rp rfl rfl rfl rfl) ?_
    refine px_gq rfl rfl rfl rfl (q_len rfl rfl rfl) ?_
    refine px_gq rfl rfl rfl rfl (q_geq rfl rfl) ?_
    rw [decide_eq_true h2]
    refine px_q rfl rfl (q_pick rfl rfl) ?_
    refine px_q rfl rfl (q_move rfl) ?_
    refine px_gno rfl rfl rfl rfl rfl ?_
    refine px_gno rfl rfl rfl rfl rfl ?_
    refine px_gno rfl rfl rfl rfl rfl ?_
    refine px_q rfl rfl (q_pick rfl rfl) ?_
    refine px_q rfl rfl (q_move rfl) ?_
    refine px_gno rfl rfl rfl rfl rfl ?_
    refine px_gno rfl rfl rfl rfl rfl ?_
    refine px_gno rfl rfl rfl rfl rfl ?_
    refine px_gno rfl rfl rfl rfl rfl ?_
    refine px_gno rfl rfl rfl rfl rfl ?_
    refine px_gno rfl rfl rfl rfl rfl ?_
    refine px_gno rfl rfl rfl rfl rfl ?_
    refine px_q rfl rfl (q_pick rfl rfl) ?_
    refine px_q rfl rfl (q_assign rfl) ?_
    refine px_done ?_
    refine ax_any_done (by kernel_rfl) ?_
    repeat (first
      | refine ax_post_code ?_
      | refine ax_return ?_)
    exact ax_ret hR rfl rfl
  by_cases h3 : x.2 < 0
  · rw [show outside m x = true by unfold outside; rw [decide_eq_true h3, Bool.true_or, Bool.or_true, Bool.or_true]] at hR
    repeat (first
      | refine ax_q (q_assign rfl) ?_
      | refine ax_ops_nil ?_
      | refine ax_post_code ?_
      | refine ax_seq ?_
      | refine ax_region rfl ?_
      | refine ax_box rfl rfl ?_)
    refine ax_regiond (by kernel_rfl) ?_
    refine ax_any_run (fuel := 0) [0, 1, 2, 3, 4, 5, 6, 7, 8, 9, 10, 11, 12, 13, 14, 15, 16, 17, 18, 19, 20, 21, 22, 23, 24] [(2, .ptr 0 0 0), (1, .rp (.box [.ro (rowsT m) 0 m.length]) 0 0)] ⟨rfl, rfl, trivial⟩ (by kernel_rfl) (by decide) rfl rfl ?_
    refine px_q rfl rfl (q_idxarr_ptr rfl rfl rfl rfl (by first | (simp only [Nat.zero_add, Int.toNat_natCast]; exact rfl) | exact rfl) (by omega)) ?_
    refine px_q rfl rfl (q_loadb_ptr rfl rfl rfl rfl rfl) ?_
    refine px_q rfl rfl (q_lss rfl rfl) ?_
    rw [decide_eq_false h1]
    refine px_q rfl rfl (q_move rfl) ?_
    refine px_gq rfl rfl rfl rfl (q_idxarr_ptr rfl rfl rfl rfl (by first | (simp only [Nat.zero_add, Int.toNat_natCast]; exact rfl) | exact rfl) (by omega)) ?_
    refine px_gq rfl rfl rfl rfl (q_loadb_ptr rfl rfl rfl rfl rfl) ?_
    refine px_gq rfl rfl rfl rfl (q_loadb_rp rfl rfl rfl rfl) ?_
    refine px_gq rfl rfl rfl rfl (q_len rfl rfl rfl) ?_
    refine px_gq rfl rfl rfl rfl (q_geq rfl rfl) ?_
    rw [decide_eq_false h2]
    refine px_q rfl rfl (q_pick rfl rfl) ?_
    refine px_q rfl rfl (q_move rfl) ?_
    refine px_gq rfl rfl rfl rfl (q_idxarr_ptr rfl rfl rfl rfl (by first | (simp only [Nat.zero_add, Int.toNat_natCast]; exact rfl) | exact rfl) (by omega)) ?_
    refine px_gq rfl rfl rfl rfl (q_loadb_ptr rfl rfl rfl rfl rfl) ?_
    refine px_gq rfl rfl rfl rfl (q_lss rfl rfl) ?_
    rw [decide_eq_true h3]
    refine px_q rfl rfl (q_pick rfl rfl) ?_
    refine px_q rfl rfl (q_move rfl) ?_
    refine px_gno rfl rfl rfl rfl rfl ?_
    refine px_gno rfl rfl rfl rfl rfl ?_
    refine px_gno rfl rfl rfl rfl rfl ?_
    refine px_gno rfl rfl rfl rfl rfl ?_
    refine px_gno rfl rfl rfl rfl rfl ?_
    refine px_gno rfl rfl rfl rfl rfl ?_
    refine px_gno rfl rfl rfl rfl rfl ?_
    refine px_q rfl rfl (q_pick rfl rfl) ?_
    refine px_q rfl rfl (q_assign rfl) ?_
    refine px_done ?_
    refine ax_any_done (by kernel_rfl) ?_
    repeat (first
      | refine ax_post_code ?_
      | refine ax_return ?_)
    exact ax_ret hR rfl rfl
  · rw [show outside m x = decide ((widM m : Int) ≤ x.2) by unfold outside; rw [decide_eq_false h1, decide_eq_false h2, decide_eq_false h3, Bool.false_or, Bool.false_or, Bool.false_or]] at hR
    repeat (first
      | refine ax_q (q_assign rfl) ?_
      | refine ax_ops_nil ?_
      | refine ax_post_code ?_
      | refine ax_seq ?_
      | refine ax_region rfl ?_
      | refine ax_box rfl rfl ?_)
    refine ax_regiond (by kernel_rfl) ?_
    refine ax_any_run (fuel := 0) [0, 1, 2, 3, 4, 5, 6, 7, 8, 9, 10, 11, 12, 13, 14, 15, 16, 17, 18, 19, 20, 21, 22, 23, 24] [(2, .ptr 0 0 0), (1, .rp (.box [.ro (rowsT m) 0 m.length]) 0 0)] ⟨rfl, rfl, trivial⟩ (by kernel_rfl) (by decide) rfl rfl ?_
    refine px_q rfl rfl (q_idxarr_ptr rfl rfl rfl rfl (by first | (simp only [Nat.zero_add, Int.toNat_natCast]; exact rfl) | exact rfl) (by omega)) ?_
    refine px_q rfl rfl (q_loadb_ptr rfl rfl rfl rfl rfl) ?_
    refine px_q rfl rfl (q_lss rfl rfl) ?_
    rw [decide_eq_false h1]
    refine px_q rfl rfl (q_move rfl) ?_
    refine px_gq rfl rfl rfl rfl (q_idxarr_ptr rfl rfl rfl rfl (by first | (simp only [Nat.zero_add, Int.toNat_natCast]; exact rfl) | exact rfl) (by omega)) ?_
    refine px_gq rfl rfl rfl rfl (q_loadb_ptr rfl rfl rfl rfl rfl) ?_
    refine px_gq rfl rfl rfl rfl (q_loadb_rp rfl rfl rfl rfl) ?_
    refine px_gq rfl rfl rfl rfl (q_len rfl rfl rfl) ?_
    refine px_gq rfl rfl rfl rfl (q_geq rfl rfl) ?_
    rw [decide_eq_false h2]
    refine px_q rfl rfl (q_pick rfl rfl) ?_
    refine px_q rfl rfl (q_move rfl) ?_
    refine px_gq rfl rfl rfl rfl (q_idxarr_ptr rfl rfl rfl rfl (by first | (simp only [Nat.zero_add, Int.toNat_natCast]; exact rfl) | exact rfl) (by omega)) ?_
    refine px_gq rfl rfl rfl rfl (q_loadb_ptr rfl rfl rfl rfl rfl) ?_
    refine px_gq rfl rfl rfl rfl (q_lss rfl rfl) ?_
    rw [decide_eq_false h3]
    refine px_q rfl rfl (q_pick rfl rfl) ?_
    refine px_q rfl rfl (q_move rfl) ?_
    refine px_gq rfl rfl rfl rfl (q_idxarr_ptr rfl rfl rfl rfl (by first | (simp only [Nat.zero_add, Int.toNat_natCast]; exact rfl) | exact rfl) (by omega)) ?_
    refine px_gq rfl rfl rfl rfl (q_loadb_ptr rfl rfl rfl rfl rfl) ?_
    refine px_gq rfl rfl rfl rfl (q_loadb_rp rfl rfl rfl rfl) ?_
    refine px_gq rfl rfl rfl rfl (q_index_ro' rfl rfl rfl rfl (by first | (simp only [Nat.zero_add, Int.toNat_natCast, Int.toNat_zero]; exact rfl) | exact rfl) (by omega)) ?_
    refine px_gq rfl rfl rfl rfl (q_loadf_rp rfl rfl rfl rfl) ?_
    refine px_gq rfl rfl rfl rfl (q_len rfl rfl rfl) ?_
    refine px_gq rfl rfl rfl rfl (q_geq rfl rfl) ?_
    refine px_q rfl rfl (q_pick rfl rfl) ?_
    refine px_q rfl rfl (q_assign rfl) ?_
    refine px_done ?_
    refine ax_any_done (by kernel_rfl) ?_
    repeat (first
      | refine ax_post_code ?_
      | refine ax_return ?_)
    exact ax_ret hR rfl rfl
end Go.Proofs.YtgmleamhjnlknaaGreatDoor

namespace Go.Proofs.YtgmleamhjnlknaaGreatDoor
open Go.Ax Go.Ax.Bg Go.Ax.Rt Go.RowKit Go.Ax.Idx Go.Ax.Cd
attribute [local irreducible] Ax Post QOp ACall PureOp
set_option maxRecDepth 100000
set_option maxHeartbeats 4000000

theorem boxM1 (m : List (List Text)) : refless (.box [.ro (rowsT m) 0 m.length]) := by
  intro i j _ hj
  obtain rfl : j = 0 := by have hj : j < 1 := hj; omega
  rfl
theorem hist_ok (m : List (List Text)) (l : Hist) (hll : l.length ≤ 9223372036854775807) (hlen : m.length ≤ 9223372036854775807) (hr : ∀ r ∈ m, r.length ≤ 9223372036854775807 ∧ ∀ s ∈ r, s.length ≤ 9223372036854775807) : VCall Tryz.prog 20 [.ro (rowsT m) 0 m.length, .ro (pairsC l) 0 l.length] (.int .i64 (histE m l)) := by
  have cm := game_ok m hlen hr
  refine ACall.value0 (acall_of_ax (P := Tryz.prog) (fn := Tryz.f20) rfl rfl (by kernel_rfl) rfl (fun c hR hfix => ?_)) (fix := fun _ => False) (fun _ h => h) rfl rfl
  repeat (first
    | refine ax_q (q_assign rfl) ?_
    | refine ax_ops_nil ?_
    | refine ax_post_code ?_
    | refine ax_seq ?_
    | refine ax_region rfl ?_
    | refine ax_q (q_loadb_ptr rfl rfl rfl rfl rfl) ?_
    | refine ax_box rfl rfl ?_)
  refine ax_callv rfl rfl rfl cm ?_
  repeat (first
    | refine ax_q (q_move rfl) ?_
    | refine ax_q (q_assign rfl) ?_
    | refine ax_ops_nil ?_
    | refine ax_post_code ?_
    | refine ax_seq ?_
    | refine ax_region rfl ?_
    | refine ax_q (q_neq rfl rfl) ?_)
  refine ax_cond_dec rfl (fun h1 => ?_) (fun h1 => ?_)
  · have e : histE m l = gameE m := by unfold histE; rw [if_pos h1]
    rw [e] at hR
    repeat (first
      | refine ax_q (q_move rfl) ?_
      | refine ax_q (q_assign rfl) ?_
      | refine ax_ops_nil ?_
      | refine ax_post_code ?_
      | refine ax_seq ?_
      | refine ax_region rfl ?_
      | refine ax_return ?_
      | refine ax_ret_code ?_)
    exact ax_ret hR rfl rfl
  have h1' := Classical.not_not.1 h1
  obtain ⟨g1, g2, g3, g4, g5⟩ := gameE_zero h1'
  repeat (first
    | refine ax_q (q_move rfl) ?_
    | refine ax_ops_nil ?_
    | refine ax_post_code ?_
    | refine ax_seq ?_
    | refine ax_region rfl ?_
    | refine ax_skip ?_
    | refine ax_q (q_gtr rfl rfl) ?_
    | refine ax_q (q_len rfl rfl rfl) ?_)
  refine ax_cond_dec rfl (fun h2 => ?_) (fun h2 => ?_)
  · have e : histE m l = 2 := by unfold histE; rw [if_neg h1, if_pos (by omega)]
    rw [e] at hR
    repeat (first
      | refine ax_q (q_assign rfl) ?_
      | refine ax_ops_nil ?_
      | refine ax_post_code ?_
      | refine ax_seq ?_
      | refine ax_region rfl ?_
      | refine ax_return ?_
      | refine ax_ret_code ?_)
    exact ax_ret hR rfl rfl
  have hc := containsP l 69 [.rp (.box [.ro (rowsT m) 0 m.length]) 0 0] (outside m) rfl hll (fun x _ => out1_ok m x g5 g3 hlen (fun r h => (hr r h).1))
  repeat (first
    | refine ax_q (q_move rfl) ?_
    | refine ax_post_code ?_
    | refine ax_seq ?_
    | refine ax_region rfl ?_
    | refine ax_skip ?_
    | refine ax_q (q_makefn rfl) ?_)
  refine ax_calll rfl rfl rfl rfl hc (refl1 (o1 := ⟨23, .box [.ro (rowsT m) 0 m.length]⟩) (boxM1 _)) ⟨trivial, ⟨fun o ho => by simp at ho; subst ho; exact Nat.zero_lt_one, trivial⟩, trivial⟩ rfl rfl rfl ?_
  repeat (first
    | refine ax_ops_nil ?_
    | refine ax_post_code ?_)
  refine ax_cond rfl (fun h3 => ?_) (fun h3 => ?_)
  · have e : histE m l = 4 := by unfold histE; rw [if_neg h1, if_neg (by omega), if_pos h3]
    rw [e] at hR
    repeat (first
      | refine ax_q (q_assign rfl) ?_
      | refine ax_ops_nil ?_
      | refine ax_post_code ?_
      | refine ax_seq ?_
      | refine ax_region rfl ?_
      | refine ax_return ?_
      | refine ax_ret_code ?_)
    exact ax_ret hR rfl rfl
  · have e : histE m l = 0 := by unfold histE; rw [if_neg h1, if_neg (by omega), if_neg (by rw [h3]; decide)]
    rw [e] at hR
    repeat (first
      | refine ax_q (q_assign rfl) ?_
      | refine ax_ops_nil ?_
      | refine ax_post_code ?_
      | refine ax_seq ?_
      | refine ax_region rfl ?_
      | refine ax_skip ?_
      | refine ax_return ?_)
    exact ax_ret hR rfl rfl
end Go.Proofs.YtgmleamhjnlknaaGreatDoor

/-
  Determinants of integer rows; exact pivots. No program in sight.
-/
namespace Go.Ax.Dt

def sumZ (f : Nat → Int) : Nat → Int
  | 0 => 0
  | n + 1 => sumZ f n + f n
theorem sumZ_congr {f g : Nat → Int} : ∀ {n : Nat}, (∀ i, i < n → f i = g i) → sumZ f n = sumZ g n
  | 0, _ => rfl
  | n + 1, h => by rw [sumZ, sumZ, sumZ_congr (fun i hi => h i (by omega)), h n (by omega)]
theorem sumZ_zero {f : Nat → Int} : ∀ {n : Nat}, (∀ i, i < n → f i = 0) → sumZ f n = 0
  | 0, _ => rfl
  | n + 1, h => by rw [sumZ, sumZ_zero (fun i hi => h i (by omega)), h n (by omega)]; rfl
theorem sumZ_add (f g : Nat → Int) : ∀ n, sumZ (fun i => f i + g i) n = sumZ f n + sumZ g n
  | 0 => rfl
  | n + 1 => by rw [sumZ, sumZ, sumZ, sumZ_add f g n]; omega
theorem sumZ_mul (c : Int) (f : Nat → Int) : ∀ n, sumZ (fun i => c * f i) n = c * sumZ f n
  | 0 => by rw [sumZ, sumZ, Int.mul_zero]
  | n + 1 => by rw [sumZ, sumZ, sumZ_mul c f n, Int.mul_add]
theorem sumZ_one {f : Nat → Int} {n : Nat} (k : Nat) (hk : k < n) (h : ∀ i, i < n → i ≠ k → f i = 0) : sumZ f n = f k := by
  induction n with
  | zero => omega
  | succ n ih =>
    rw [sumZ]
    by_cases hkn : k = n
    · subst hkn
      rw [sumZ_zero (fun i hi => h i (by omega) (by omega))]; omega
    · rw [ih (by omega) (fun i hi hne => h i (by omega) hne), h n (by omega) (fun e => hkn e.symm)]; omega
theorem sumZ_two {f : Nat → Int} {n : Nat} (k l : Nat) (hk : k < n) (hl : l < n) (hkl : k ≠ l) (h : ∀ i, i < n → i ≠ k → i ≠ l → f i = 0) : sumZ f n = f k + f l := by
  have e : sumZ f n = sumZ (fun i => (if i = k then f k else 0) + (if i = k then 0 else f i)) n := by
    refine sumZ_congr (fun i hi => ?_)
    by_cases hik : i = k
    · subst hik; simp
    · simp [hik]
  rw [e, sumZ_add]
  rw [sumZ_one k hk (fun i hi hne => by simp [hne]), sumZ_one l hl (fun i hi hne => by
    by_cases hik : i = k
    · simp [hik]
    · simp [hik]; exact h i hi hik hne)]
  have : ¬ l = k := fun e => hkl e.symm
  simp [this]

abbrev V := Nat → Int
abbrev Mx := Nat → V
def sg : Nat → Int
  | 0 => 1
  | n + 1 => -sg n
def skip (i : Nat) (D : Mx) : Mx := fun a c => D (if a < i then a else a + 1) (c + 1)
def det : Nat → Mx → Int
  | 0, _ => 1
  | n + 1, D => sumZ (fun i => sg i * (D i 0 * det n (skip i D))) (n + 1)
def put (D : Mx) (r : Nat) (v : V) : Mx := fun a => if a = r then v else D a
theorem det_congr : ∀ {n : Nat} {D E : Mx}, (∀ a c, a < n → c < n → D a c = E a c) → det n D = det n E
  | 0, _, _, _ => rfl
  | n + 1, D, E, h => by
    rw [det, det]
    refine sumZ_congr (fun i hi => ?_)
    rw [h i 0 hi (by omega), det_congr (D := skip i D) (E := skip i E) (fun a c ha hc => ?_)]
    unfold skip
    exact h _ _ (by split <;> omega) (by omega)
theorem skip_put_same (D : Mx) (r : Nat) (v : V) : skip r (put D r v) = skip r D := by
  funext a c
  unfold skip put
  have : ¬ (if a < r then a else a + 1) = r := by split <;> omega
  rw [if_neg this]
theorem skip_put {D : Mx} {i r : Nat} {v : V} (h : i ≠ r) : skip i (put D r v) = put (skip i D) (if r < i then r else r - 1) (fun c => v (c + 1)) := by
  funext a c
  unfold skip put
  by_cases hri : r < i
  · rw [if_pos hri]
    by_cases ha : a = r
    · subst ha; rw [if_pos hri]; simp
    · by_cases hai : a < i
      · simp [hai, ha]
      · have : ¬ a + 1 = r := by omega
        simp [hai, ha, this]
  · rw [if_neg hri]
    by_cases ha : a = r - 1
    · subst ha
      have h1 : ¬ r - 1 < i := by omega
      have h2 : r - 1 + 1 = r := by omega
      simp [h1, h2]
    · by_cases hai : a < i
      · have : ¬ a = r := by omega
        simp [hai, ha, this]
      · have : ¬ a + 1 = r := by omega
        simp [hai, ha, this]
/-- The determinant is linear in each row. -/
theorem det_add : ∀ (n : Nat) (D : Mx) (r : Nat) (u v : V), r < n → det n (put D r (fun c => u c + v c)) = det n (put D r u) + det n (put D r v)
  | 0, _, _, _, _, h => absurd h (Nat.not_lt_zero _)
  | n + 1, D, r, u, v, h => by
    rw [det, det, det, ← sumZ_add]
    refine sumZ_congr (fun i hi => ?_)
    by_cases hir : i = r
    · subst hir
      rw [skip_put_same, skip_put_same, skip_put_same]
      have e : ∀ w : V, put D i w i 0 = w 0 := fun w => by simp [put]
      rw [e, e, e, Int.add_mul, Int.mul_add]
    · have e : ∀ w : V, put D r w i 0 = D i 0 := fun w => by simp [put, hir]
      rw [skip_put hir, skip_put hir, skip_put hir, e, e, e, det_add n _ _ _ _ (by split <;> omega), Int.mul_add, Int.mul_add]
theorem det_smul : ∀ (n : Nat) (D : Mx) (r : Nat) (k : Int) (v : V), r < n → det n (put D r (fun c => k * v c)) = k * det n (put D r v)
  | 0, _, _, _, _, h => absurd h (Nat.not_lt_zero _)
  | n + 1, D, r, k, v, h => by
    rw [det, det, ← sumZ_mul]
    refine sumZ_congr (fun i hi => ?_)
    by_cases hir : i = r
    · subst hir
      rw [skip_put_same, skip_put_same]
      have e : ∀ w : V, put D i w i 0 = w 0 := fun w => by simp [put]
      rw [e, e, Int.mul_left_comm k, Int.mul_assoc]
    · have e : ∀ w : V, put D r w i 0 = D i 0 := fun w => by simp [put, hir]
      rw [skip_put hir, skip_put hir, e, e, det_smul n _ _ _ _ (by split <;> omega), Int.mul_left_comm k, Int.mul_left_comm k]
theorem det_zero_row (n : Nat) (D : Mx) (r : Nat) (h : r < n) : det n (put D r (fun _ => 0)) = 0 := by
  have := det_smul n D r 0 (fun _ => 0) h
  simpa using this
/-- Two rows beside each other that are equal. -/
theorem det_adj : ∀ (n : Nat) (D : Mx) (r : Nat), r + 1 < n → (∀ c, c < n → D r c = D (r + 1) c) → det n D = 0
  | 0, _, _, h, _ => absurd h (Nat.not_lt_zero _)
  | n + 1, D, r, h, he => by
    rw [det, sumZ_two r (r + 1) (by omega) h (by omega) (fun i hi h1 h2 => ?_)]
    · have e : det n (skip r D) = det n (skip (r + 1) D) := det_congr (fun a c ha hc => by
        unfold skip
        by_cases h1 : a < r
        · rw [if_pos h1, if_pos (by omega)]
        · rw [if_neg h1]
          by_cases h2 : a < r + 1
          · have : a = r := by omega
            subst this
            rw [if_pos h2]; exact (he _ (by omega)).symm
          · rw [if_neg h2])
      rw [e, he 0 (by omega), sg, Int.neg_mul]
      omega
    · have := det_adj n (skip i D) (if r < i then r else r - 1) (by split <;> omega) (fun c hc => by
        unfold skip
        by_cases hri : r < i
        · rw [if_pos hri, if_pos (show r < i from hri), if_pos (show r + 1 < i by omega)]
          exact he _ (by omega)
        · have e1 : ¬ r - 1 < i := by omega
          have e2 : ¬ r - 1 + 1 < i := by omega
          rw [if_neg hri, if_neg e1, if_neg e2, show r - 1 + 1 = r by omega]
          exact he _ (by omega))
      rw [this, Int.mul_zero, Int.mul_zero]
theorem put_comm (D : Mx) {r s : Nat} (u v : V) (h : r ≠ s) : put (put D r u) s v = put (put D s v) r u := by
  funext a
  unfold put
  by_cases h1 : a = s
  · have : ¬ a = r := fun e => h (e.symm.trans h1)
    simp [h1]
    intro e; exact absurd e.symm h
  · simp [h1]
theorem put_self (D : Mx) (r : Nat) : put D r (D r) = D := by
  funext a; unfold put; split
  · rename_i h; rw [h]
  · rfl
/-- Exchange of two rows beside each other. -/
theorem det_swap (n : Nat) (D : Mx) (r : Nat) (u v : V) (h : r + 1 < n) : det n (put (put D r u) (r + 1) v) = - det n (put (put D r v) (r + 1) u) := by
  have key : ∀ w : V, det n (put (put D r w) (r + 1) w) = 0 := fun w => det_adj n _ r h (fun c _ => by unfold put; simp)
  have h0 := key (fun c => u c + v c)
  have add0 : ∀ w : V, det n (put (put D r (fun c => u c + v c)) (r + 1) w) = det n (put (put D r u) (r + 1) w) + det n (put (put D r v) (r + 1) w) := fun w => by
    rw [put_comm D _ w (by omega), det_add n _ _ _ _ (by omega), put_comm D u w (by omega), put_comm D v w (by omega)]
  rw [det_add n _ _ _ _ h, add0, add0] at h0
  have h1 := key u
  have h2 := key v
  omega
theorem det_eq : ∀ (k : Nat) (n : Nat) (D : Mx) (r : Nat), r + (k + 1) < n → (∀ c, c < n → D r c = D (r + (k + 1)) c) → det n D = 0
  | 0, n, D, r, h, he => det_adj n D r h he
  | k + 1, n, D, r, h, he => by
    have e : D = put (put D (r + (k + 1)) (D (r + (k + 1)))) (r + (k + 1) + 1) (D (r + (k + 1) + 1)) := by
      rw [put_self, put_self]
    rw [e, det_swap n D (r + (k + 1)) _ _ (by omega), det_eq k n _ r (by omega) (fun c hc => ?_)]
    · rfl
    · have h1 : ¬ r = r + (k + 1) + 1 := by omega
      have h2 : ¬ r = r + (k + 1) := by omega
      have h3 : ¬ r + (k + 1) = r + (k + 1) + 1 := by omega
      unfold put
      rw [if_neg h1, if_neg h2, if_neg h3, if_pos rfl]
      exact he c hc
theorem det_rep (n : Nat) (D : Mx) {r s : Nat} (hr : r < n) (hs : s < n) (hne : r ≠ s) : det n (put D r (D s)) = 0 := by
  rcases Nat.lt_or_gt_of_ne hne with h | h
  · refine det_eq (s - r - 1) n _ r (by omega) (fun c _ => ?_)
    rw [show r + (s - r - 1 + 1) = s by omega]
    have : ¬ s = r := fun e => hne e.symm
    simp [put, this]
  · refine det_eq (r - s - 1) n _ s (by omega) (fun c _ => ?_)
    rw [show s + (r - s - 1 + 1) = r by omega]
    have : ¬ s = r := fun e => hne e.symm
    simp [put, this]
/-- A row that is a sum of multiples of the rows. -/
theorem det_comb (n : Nat) (D : Mx) (r : Nat) (hr : r < n) (t : V) : ∀ k, k ≤ n → det n (put D r (fun c => sumZ (fun i => t i * D i c) k)) = if r < k then t r * det n D else 0
  | 0, _ => by
    rw [if_neg (Nat.not_lt_zero _)]
    exact det_zero_row n D r hr
  | k + 1, hk => by
    have ih := det_comb n D r hr t k (by omega)
    have e : (fun c => sumZ (fun i => t i * D i c) (k + 1)) = (fun c => (fun c => sumZ (fun i => t i * D i c) k) c + (fun c => t k * D k c) c) := rfl
    rw [e, det_add n D r _ _ hr, ih, det_smul n D r _ _ hr]
    by_cases hkr : k = r
    · subst hkr
      rw [if_neg (by omega), if_pos (by omega), put_self]; omega
    · rw [det_rep n D hr (by omega) (fun e => hkr e.symm), Int.mul_zero, Int.add_zero]
      by_cases h1 : r < k
      · rw [if_pos h1, if_pos (by omega)]
      · rw [if_neg h1, if_neg (by omega)]
theorem det_put_comb {n : Nat} {D : Mx} {r : Nat} (hr : r < n) {t w : V} (h : ∀ c, c < n → w c = sumZ (fun i => t i * D i c) n) : det n (put D r w) = t r * det n D := by
  have := det_comb n D r hr t n (Nat.le_refl _)
  rw [if_pos hr] at this
  rw [← this]
  refine det_congr (fun a c _ hc => ?_)
  unfold put
  split
  · exact h c hc
  · rfl
def unitM : Mx := fun a c => if a = c then 1 else 0
theorem det_unit : ∀ n : Nat, det n unitM = 1
  | 0 => rfl
  | n + 1 => by
    rw [det, sumZ_one 0 (by omega) (fun i hi hne => by simp [unitM, hne])]
    have : det n (skip 0 unitM) = det n unitM := det_congr (fun a c _ _ => by simp [skip, unitM])
    rw [this, det_unit n]; simp [sg, unitM]
def fct : Nat → Nat
  | 0 => 1
  | n + 1 => (n + 1) * fct n
/-- A column of the table, and the column of the beginning that it stands for. -/
def Sol (n : Nat) (D : Mx) (d : Int) (t0 t : V) : Prop := ∀ c, c < n → sumZ (fun i => t i * D i c) n = d * t0 c
theorem sol_det {n : Nat} {D : Mx} {d s : Int} {t0 t : V} (hd : d ≠ 0) (hs : s * s = 1) (hD : det n D = s * d) (h : Sol n D d t0 t) {i : Nat} (hi : i < n) : t i = s * det n (put D i t0) := by
  have h1 := det_put_comb (w := fun c => d * t0 c) hi (fun c hc => (h c hc).symm)
  rw [det_smul n D i d t0 hi, hD] at h1
  have h2 : d * det n (put D i t0) = d * (s * t i) := by rw [h1, Int.mul_left_comm, Int.mul_comm (t i) d, Int.mul_left_comm]
  have h3 := Int.eq_of_mul_eq_mul_left hd h2
  rw [h3, ← Int.mul_assoc, hs, Int.one_mul]
/-- The pivot: the determinant of the new rows, and exact quotients. -/
theorem pivot_det {n : Nat} {D : Mx} {d s : Int} {t0 t : V} (hd : d ≠ 0) (hs : s * s = 1) (hD : det n D = s * d) (h : Sol n D d t0 t) {r : Nat} (hr : r < n) : det n (put D r t0) = s * t r := by
  rw [sol_det hd hs hD h hr, ← Int.mul_assoc, hs, Int.one_mul]
theorem sumZ_put {n : Nat} {D : Mx} {r : Nat} (hr : r < n) (v : V) (t : V) (c : Nat) : sumZ (fun i => t i * put D r v i c) n = sumZ (fun i => t i * D i c) n - t r * D r c + t r * v c := by
  have e : ∀ i, i < n → t i * put D r v i c = t i * D i c + (if i = r then t r * v c - t r * D r c else 0) := by
    intro i hi
    by_cases hir : i = r
    · subst hir; simp [put]; omega
    · simp [put, hir]
  rw [sumZ_congr e, sumZ_add, sumZ_one (f := fun i => if i = r then t r * v c - t r * D r c else 0) r hr (fun i hi hne => by simp [hne])]
  simp; omega
theorem pivot_sol {n : Nat} {D : Mx} {d s : Int} {tc0 tc tj0 tj : V} (hd : d ≠ 0) (hs : s * s = 1) (hD : det n D = s * d) (hc : Sol n D d tc0 tc) (hj : Sol n D d tj0 tj) {r : Nat} (hr : r < n) (hp : tc r ≠ 0) :
    (∀ i, i < n → i ≠ r → d ∣ tj i * tc r - tc i * tj r) ∧ Sol n (put D r tc0) (tc r) tj0 (fun i => if i = r then tj r else (tj i * tc r - tc i * tj r) / d) := by
  have hD' := pivot_det hd hs hD hc hr
  -- the numerators are a solution of d times the new equation
  let N : V := fun i => if i = r then d * tj r else tj i * tc r - tc i * tj r
  have hN : ∀ c, c < n → sumZ (fun i => N i * put D r tc0 i c) n = d * tc r * tj0 c := by
    intro c hcn
    rw [sumZ_put hr]
    have e : ∀ i, i < n → N i * D i c = (tc r * (tj i * D i c) + (-(tj r)) * (tc i * D i c)) + (if i = r then d * tj r * D r c else 0) := by
      intro i hi
      by_cases hir : i = r
      · subst hir
        simp only [N, if_true]
        have : tc i * (tj i * D i c) + -tj i * (tc i * D i c) = 0 := by
          rw [Int.neg_mul, Int.mul_left_comm]; omega
        omega
      · simp only [N, hir, if_false, Int.add_zero]
        rw [Int.sub_mul, Int.neg_mul, Int.mul_comm (tj i) (tc r), Int.mul_assoc, Int.mul_comm (tc i) (tj r), Int.mul_assoc]; omega
    rw [sumZ_congr e, sumZ_add, sumZ_add, sumZ_mul, sumZ_mul, hj c hcn, hc c hcn, sumZ_one (f := fun i => if i = r then d * tj r * D r c else 0) r hr (fun i hi hne => by simp [hne])]
    simp only [N, if_true]
    have e1 : tc r * (d * tj0 c) = d * tc r * tj0 c := by rw [← Int.mul_assoc, Int.mul_comm (tc r) d]
    have e2 : -tj r * (d * tc0 c) = -(d * tj r * tc0 c) := by rw [Int.neg_mul, ← Int.mul_assoc, Int.mul_comm (tj r) d]
    rw [e1, e2]; omega
  have hex : ∀ i, i < n → N i = d * (s * det n (put (put D r tc0) i tj0)) := by
    intro i hi
    have h1 := det_put_comb (D := put D r tc0) (w := fun c => d * tc r * tj0 c) hi (fun c hcn => (hN c hcn).symm)
    rw [det_smul n _ i (d * tc r) tj0 hi, hD'] at h1
    have h2 : tc r * (d * (s * det n (put (put D r tc0) i tj0))) = tc r * N i := by
      have h3 : s * (d * tc r * det n (put (put D r tc0) i tj0)) = s * (N i * (s * tc r)) := by rw [h1]
      have h4 : s * (N i * (s * tc r)) = tc r * N i := by
        rw [Int.mul_left_comm, ← Int.mul_assoc s s, hs, Int.one_mul, Int.mul_comm]
      rw [h4] at h3
      rw [← h3]
      rw [Int.mul_assoc d, Int.mul_left_comm s d, Int.mul_left_comm s (tc r), Int.mul_left_comm d (tc r)]
    exact (Int.eq_of_mul_eq_mul_left hp h2).symm
  refine ⟨fun i hi hne => ?_, ?_⟩
  · have := hex i hi
    simp only [N, hne, if_false] at this
    exact ⟨_, this⟩
  · intro c hcn
    have h1 := hN c hcn
    have h2 : ∀ i, i < n → N i * put D r tc0 i c = d * ((fun i => if i = r then tj r else (tj i * tc r - tc i * tj r) / d) i * put D r tc0 i c) := by
      intro i hi
      by_cases hir : i = r
      · subst hir; simp only [N, if_true]; rw [Int.mul_assoc]
      · have h3 := hex i hi
        simp only [N, hir, if_false] at h3 ⊢
        have h4 : (tj i * tc r - tc i * tj r) / d = s * det n (put (put D r tc0) i tj0) := by rw [h3, Int.mul_ediv_cancel_left _ hd]
        rw [h4, ← Int.mul_assoc, ← h3]
    rw [sumZ_congr h2, sumZ_mul, Int.mul_assoc d] at h1
    exact Int.eq_of_mul_eq_mul_left hd h1
end Go.Ax.Dt

/-
  Elimination without fractions on rows of integers. No program in sight.
-/
namespace Go.Ax.Dt

/-- The quotient of the absolute values, with the sign of the quotient. -/
def exactZ (x d : Int) : Int := if (decide (x < 0) != decide (d < 0)) = true then -((x.natAbs / d.natAbs : Nat) : Int) else ((x.natAbs / d.natAbs : Nat) : Int)
theorem exact_mul {q d : Int} (hd : d ≠ 0) : exactZ (d * q) d = q := by
  have hn : (d * q).natAbs / d.natAbs = q.natAbs := by rw [Int.natAbs_mul, Nat.mul_div_cancel_left _ (by omega)]
  unfold exactZ
  rw [hn]
  rcases Int.lt_trichotomy q 0 with hq | hq | hq
  · rcases Int.lt_or_gt_of_ne hd with h | h
    · have h1 : ¬ d * q < 0 := Int.not_lt.2 (Int.le_of_lt (Int.mul_pos_of_neg_of_neg h hq))
      simp [h, h1]; omega
    · have h1 : d * q < 0 := Int.mul_neg_of_pos_of_neg h hq
      have h2 : ¬ d < 0 := by omega
      simp [h1, h2]; omega
  · subst hq; simp
  · rcases Int.lt_or_gt_of_ne hd with h | h
    · have h1 : d * q < 0 := Int.mul_neg_of_neg_of_pos h hq
      simp [h, h1]; omega
    · have h1 : ¬ d * q < 0 := Int.not_lt.2 (Int.le_of_lt (Int.mul_pos h hq))
      have h2 : ¬ d < 0 := by omega
      simp [h1, h2]; omega
theorem exact_dvd {x d : Int} (hd : d ≠ 0) (h : d ∣ x) : exactZ x d = x / d := by
  obtain ⟨q, rfl⟩ := h
  rw [exact_mul hd, Int.mul_ediv_cancel_left _ hd]
abbrev Tab := List (List Int)
def at2 (T : Tab) (i j : Nat) : Int := (T.getD i []).getD j 0
/-- The first row at or behind i that has no 0 in a column. -/
def pivI (T : Tab) (c : Nat) : Nat → Nat → Nat
  | 0, i => i
  | f + 1, i => if at2 T i c = 0 then pivI T c f (i + 1) else i
theorem pivI_spec (T : Tab) (c : Nat) : ∀ f i, i ≤ pivI T c f i ∧ pivI T c f i ≤ i + f ∧ (∀ a, i ≤ a → a < pivI T c f i → at2 T a c = 0) ∧ (pivI T c f i < i + f → at2 T (pivI T c f i) c ≠ 0)
  | 0, i => ⟨Nat.le_refl _, Nat.le_refl _, fun a h1 h2 => absurd h2 (by rw [pivI]; omega), fun h => absurd h (by rw [pivI]; omega)⟩
  | f + 1, i => by
    rw [pivI]
    by_cases h : at2 T i c = 0
    · rw [if_pos h]
      obtain ⟨h1, h2, h3, h4⟩ := pivI_spec T c f (i + 1)
      refine ⟨by omega, by omega, fun a ha hb => ?_, fun hb => h4 (by omega)⟩
      by_cases e : a = i
      · rw [e]; exact h
      · exact h3 a (by omega) hb
    · rw [if_neg h]
      exact ⟨Nat.le_refl _, by omega, fun a h1 h2 => absurd h2 (by omega), fun _ => h⟩
def swapR (T : Tab) (i k : Nat) : Tab := (T.set i (T.getD k [])).set k (T.getD i [])
def swp (i k a : Nat) : Nat := if a = k then i else if a = i then k else a
def elimRow (R K : List Int) (p f d : Int) : List Int := (List.range R.length).map (fun j => exactZ (R.getD j 0 * p - f * K.getD j 0) d)
def elimR (T : Tab) (k c : Nat) (d : Int) : Tab := (List.range T.length).map (fun i => if i = k then T.getD k [] else elimRow (T.getD i []) (T.getD k []) (at2 T k c) (at2 T i c) d)
structure Red where
  T : Tab
  piv : List Nat
  last : Int
  neg : Bool
def redCol (r : Red) (c : Nat) : Red :=
  if r.T.length ≤ r.piv.length then r
  else if pivI r.T c (r.T.length - r.piv.length) r.piv.length = r.T.length then r
  else ⟨elimR (swapR r.T (pivI r.T c (r.T.length - r.piv.length) r.piv.length) r.piv.length) r.piv.length c r.last, r.piv ++ [c], at2 (swapR r.T (pivI r.T c (r.T.length - r.piv.length) r.piv.length) r.piv.length) r.piv.length c, if pivI r.T c (r.T.length - r.piv.length) r.piv.length = r.piv.length then r.neg else !r.neg⟩
def redN (M : Tab) : Nat → Red
  | 0 => ⟨M, [], 1, false⟩
  | c + 1 => redCol (redN M c) c

theorem getD_set {α : Type} (l : List α) (d x : α) (i j : Nat) : (l.set i x).getD j d = if j = i ∧ i < l.length then x else l.getD j d := by
  by_cases h : j = i
  · subst h
    by_cases h2 : j < l.length
    · simp [List.getD, h2]
    · have : l.length ≤ j := by omega
      simp [List.getD, h2, this]
  · have : ¬ i = j := fun e => h e.symm
    simp [List.getD, h, List.getElem?_set, this]
theorem swapR_len (T : Tab) (i k : Nat) : (swapR T i k).length = T.length := by simp [swapR]
theorem swapR_get (T : Tab) {i k : Nat} (hi : i < T.length) (hk : k < T.length) (a : Nat) : (swapR T i k).getD a [] = T.getD (swp i k a) [] := by
  unfold swapR swp
  rw [getD_set, List.length_set, getD_set]
  by_cases h1 : a = k
  · simp [h1, hk]
  · by_cases h2 : a = i
    · have h3 : ¬ i = k := fun e => h1 (h2.trans e)
      simp [h1, h2, hi, h3]
    · simp [h1, h2]
theorem swapR_self (T : Tab) {k : Nat} (hk : k < T.length) : swapR T k k = T := by
  refine List.ext_getElem (swapR_len _ _ _) (fun a h1 h2 => ?_)
  have := swapR_get T hk hk a
  have e : swp k k a = a := by unfold swp; split <;> simp_all
  rw [e] at this
  simpa [List.getD, h1, h2] using this
theorem at2_swap (T : Tab) {i k : Nat} (hi : i < T.length) (hk : k < T.length) (a j : Nat) : at2 (swapR T i k) a j = at2 T (swp i k a) j := by
  unfold at2; rw [swapR_get T hi hk]
theorem elimR_len (T : Tab) (k c : Nat) (d : Int) : (elimR T k c d).length = T.length := by simp [elimR]
theorem elimR_get (T : Tab) (k c : Nat) (d : Int) {i : Nat} (hi : i < T.length) : (elimR T k c d).getD i [] = if i = k then T.getD k [] else elimRow (T.getD i []) (T.getD k []) (at2 T k c) (at2 T i c) d := by
  unfold elimR
  simp [List.getD, hi]
theorem at2_elim (T : Tab) (k c : Nat) (d : Int) {L : Nat} (hT : ∀ x ∈ T, x.length = L) {i j : Nat} (hi : i < T.length) (hj : j < L) : at2 (elimR T k c d) i j = if i = k then at2 T k j else exactZ (at2 T i j * at2 T k c - at2 T i c * at2 T k j) d := by
  unfold at2
  rw [elimR_get T k c d hi]
  have hl : (T.getD i []).length = L := hT _ (by simp [List.getD, hi])
  by_cases h : i = k
  · rw [if_pos h, if_pos h]
  · rw [if_neg h, if_neg h]
    unfold elimRow
    rw [hl]
    have : ∀ f : Nat → Int, ((List.range L).map f).getD j 0 = f j := fun f => by simp [List.getD, hj]
    rw [this]; rfl
theorem elimRow_len (R K : List Int) (p f d : Int) : (elimRow R K p f d).length = R.length := by simp [elimRow]
theorem elimR_row (T : Tab) (k c : Nat) (d : Int) {L : Nat} (hk : k < T.length) (hT : ∀ x ∈ T, x.length = L) : ∀ x ∈ elimR T k c d, x.length = L := by
  intro x hx
  obtain ⟨i, hi, rfl⟩ := List.mem_map.1 hx
  have hi : i < T.length := by simpa using hi
  split
  · exact hT _ (by simp [List.getD, hk])
  · rw [elimRow_len]; exact hT _ (by simp [List.getD, hi])
theorem swapR_row (T : Tab) {i k : Nat} (hi : i < T.length) (hk : k < T.length) {L : Nat} (hT : ∀ x ∈ T, x.length = L) : ∀ x ∈ swapR T i k, x.length = L := by
  intro x hx
  obtain ⟨a, ha, rfl⟩ := List.getElem_of_mem hx
  have h1 := swapR_get T hi hk a
  have h2 : swp i k a < T.length := by rw [swapR_len] at ha; unfold swp; split; exact hi; split; exact hk; exact ha
  have h3 : (swapR T i k).getD a [] = (swapR T i k)[a] := by simp [List.getD, ha]
  rw [h3] at h1
  rw [h1]; exact hT _ (by simp [List.getD, h2])

/-- Exchange of two rows. -/
theorem det_exch (n : Nat) (D : Mx) {r s : Nat} (hr : r < n) (hs : s < n) (hne : r ≠ s) (u v : V) : det n (put (put D r u) s v) = - det n (put (put D r v) s u) := by
  have key : ∀ w : V, det n (put (put D r w) s w) = 0 := fun w => by
    have := det_rep n (put D s w) hr hs hne
    rw [show put D s w s = w by simp [put]] at this
    rwa [put_comm D w w hne]
  have h0 := key (fun c => u c + v c)
  have add0 : ∀ w : V, det n (put (put D r (fun c => u c + v c)) s w) = det n (put (put D r u) s w) + det n (put (put D r v) s w) := fun w => by
    rw [put_comm D _ w hne, det_add n _ _ _ _ hr, put_comm D u w hne, put_comm D v w hne]
  rw [det_add n _ _ _ _ hs, add0, add0] at h0
  have h1 := key u
  have h2 := key v
  omega
theorem det_swp (n : Nat) (D : Mx) {i k : Nat} (hi : i < n) (hk : k < n) (hne : i ≠ k) : det n (fun a => D (swp i k a)) = - det n D := by
  have e1 : (fun a => D (swp i k a)) = put (put D i (D k)) k (D i) := by
    funext a
    unfold put swp
    by_cases h1 : a = k
    · rw [if_pos h1, if_pos h1]
    · by_cases h2 : a = i
      · rw [if_neg h1, if_pos h2, if_neg h1, if_pos h2]
      · rw [if_neg h1, if_neg h2, if_neg h1, if_neg h2]
  rw [e1, det_exch n D hi hk hne, put_self, put_self]
theorem sumZ_swp (f : Nat → Int) (n : Nat) {i k : Nat} (hi : i < n) (hk : k < n) : sumZ (fun a => f (swp i k a)) n = sumZ f n := by
  by_cases hne : i = k
  · subst hne
    refine sumZ_congr (fun a _ => ?_)
    unfold swp; split <;> simp_all
  have e : ∀ a, a < n → f (swp i k a) = f a + ((if a = i then f k - f i else 0) + (if a = k then f i - f k else 0)) := by
    intro a _
    unfold swp
    by_cases h1 : a = k
    · have h2 : ¬ a = i := fun e => hne (e.symm.trans h1)
      rw [if_pos h1, if_neg h2, if_pos h1, h1]; omega
    · by_cases h2 : a = i
      · rw [if_neg h1, if_pos h2, if_pos h2, if_neg h1, h2]; omega
      · rw [if_neg h1, if_neg h2, if_neg h2, if_neg h1]; omega
  rw [sumZ_congr e, sumZ_add, sumZ_add, sumZ_one (f := fun a => if a = i then f k - f i else 0) i hi (fun a _ h => by simp [h]), sumZ_one (f := fun a => if a = k then f i - f k else 0) k hk (fun a _ h => by simp [h])]
  simp; omega
/-- The table during the elimination, after so many columns. -/
structure RInv (n L B : Nat) (M : Tab) (c : Nat) (r : Red) : Prop where
  len : r.T.length = n
  row : ∀ x ∈ r.T, x.length = L
  pl : r.piv.length ≤ n
  pc : r.piv.length ≤ c
  full : r.piv.length = c → r.piv = List.range c
  last : r.last ≠ 0
  zero : ∀ i j, r.piv.length ≤ i → i < n → j < c → at2 r.T i j = 0
  base : ∃ (D : Mx) (s : Int), s * s = 1 ∧ det n D = s * r.last ∧ (∀ j, j < L → Sol n D r.last (fun a => at2 M a j) (fun i => at2 r.T i j)) ∧ (∀ a, a < r.piv.length → ∀ e, D a e = at2 M e (r.piv.getD a 0)) ∧ (∀ a e, a < n → e < n → (D a e).natAbs ≤ B)
theorem RInv.init {n L B : Nat} {M : Tab} (h1 : M.length = n) (h2 : ∀ x ∈ M, x.length = L) (hB : 1 ≤ B) : RInv n L B M 0 (redN M 0) where
  len := h1
  row := h2
  pl := Nat.zero_le _
  pc := Nat.zero_le _
  full := fun _ => rfl
  last := by show (1 : Int) ≠ 0; decide
  zero := fun i j _ _ hj => absurd hj (Nat.not_lt_zero _)
  base := by
    refine ⟨unitM, 1, rfl, by rw [det_unit]; rfl, fun j _ e he => ?_, fun a ha => absurd ha (Nat.not_lt_zero _), fun a e _ _ => ?_⟩
    · rw [sumZ_one e he (fun i _ hne => by simp [unitM, hne])]
      simp [unitM, redN]
    · unfold unitM; split <;> simp <;> omega
/-- Rows exchanged. -/
theorem RInv.swap {n L B c : Nat} {M : Tab} {r : Red} (h : RInv n L B M c r) {i : Nat} (hk : r.piv.length < n) (hki : r.piv.length ≤ i) (hi : i < n) : RInv n L B M c { r with T := swapR r.T i r.piv.length } where
  len := by rw [swapR_len]; exact h.len
  row := swapR_row _ (by rw [h.len]; exact hi) (by rw [h.len]; exact hk) h.row
  pl := h.pl
  pc := h.pc
  full := h.full
  last := h.last
  zero := fun a j h1 h2 h3 => by
    show at2 (swapR r.T i r.piv.length) a j = 0
    rw [at2_swap _ (by rw [h.len]; exact hi) (by rw [h.len]; exact hk)]
    have h1 : r.piv.length ≤ a := h1
    refine h.zero _ j ?_ ?_ h3
    · unfold swp; split; exact hki; split; exact Nat.le_refl _; exact h1
    · unfold swp; split; exact hi; split; exact hk; exact h2
  base := by
    obtain ⟨D, s, hs, hD, hS, hp, hB⟩ := h.base
    by_cases e : i = r.piv.length
    · have : swapR r.T i r.piv.length = r.T := by rw [e]; exact swapR_self _ (by rw [h.len]; exact hk)
      show ∃ (D : Mx) (s : Int), s * s = 1 ∧ det n D = s * r.last ∧ (∀ j, j < L → Sol n D r.last (fun a => at2 M a j) (fun a => at2 (swapR r.T i r.piv.length) a j)) ∧ (∀ a, a < r.piv.length → ∀ e, D a e = at2 M e (r.piv.getD a 0)) ∧ (∀ a e, a < n → e < n → (D a e).natAbs ≤ B)
      rw [this]
      exact ⟨D, s, hs, hD, hS, hp, hB⟩
    · refine ⟨fun a => D (swp i r.piv.length a), -s, by rw [Int.neg_mul_neg]; exact hs, by rw [det_swp n D hi hk e, hD, Int.neg_mul], fun j hj e he => ?_, fun a ha e => ?_, fun a e ha he => ?_⟩
      · have := hS j hj e he
        show sumZ (fun a => at2 (swapR r.T i r.piv.length) a j * D (swp i r.piv.length a) e) n = r.last * at2 M e j
        rw [← this, ← sumZ_swp (fun a => at2 r.T a j * D a e) n hi hk]
        refine sumZ_congr (fun a _ => ?_)
        rw [at2_swap _ (by rw [h.len]; exact hi) (by rw [h.len]; exact hk)]
      · have ha : a < r.piv.length := ha
        have : swp i r.piv.length a = a := by unfold swp; rw [if_neg (by omega), if_neg (by omega)]
        show D (swp i r.piv.length a) e = _
        rw [this]; exact hp a ha e
      · refine hB _ e ?_ he
        unfold swp; split; exact hi; split; exact hk; exact ha
/-- One elimination. -/
theorem RInv.elim {n L B c : Nat} {M : Tab} {r : Red} (h : RInv n L B M c r) (hk : r.piv.length < n) (hc : c < L) (hp : at2 r.T r.piv.length c ≠ 0) (hB : ∀ a j, a < n → j < L → (at2 M a j).natAbs ≤ B) (b : Bool) :
    RInv n L B M (c + 1) ⟨elimR r.T r.piv.length c r.last, r.piv ++ [c], at2 r.T r.piv.length c, b⟩ ∧
    ∀ i j, i < n → i ≠ r.piv.length → j < L → at2 (elimR r.T r.piv.length c r.last) i j * r.last = at2 r.T i j * at2 r.T r.piv.length c - at2 r.T i c * at2 r.T r.piv.length j := by
  obtain ⟨D, s, hs, hD, hS, hpv, hBD⟩ := h.base
  have hl := h.len
  have hex : ∀ i j, i < n → i ≠ r.piv.length → j < L → r.last ∣ at2 r.T i j * at2 r.T r.piv.length c - at2 r.T i c * at2 r.T r.piv.length j := fun i j hi hne hj =>
    (pivot_sol h.last hs hD (hS c hc) (hS j hj) hk hp).1 i hi hne
  have hat : ∀ i j, i < n → j < L → at2 (elimR r.T r.piv.length c r.last) i j = if i = r.piv.length then at2 r.T r.piv.length j else (at2 r.T i j * at2 r.T r.piv.length c - at2 r.T i c * at2 r.T r.piv.length j) / r.last := by
    intro i j hi hj
    rw [at2_elim _ _ _ _ h.row (by omega) hj]
    by_cases e : i = r.piv.length
    · rw [if_pos e, if_pos e]
    · rw [if_neg e, if_neg e, exact_dvd h.last (hex i j hi e hj)]
  refine ⟨⟨by rw [elimR_len]; exact hl, elimR_row _ _ _ _ (by omega) h.row, by simp; omega, by have := h.pc; simp; omega, fun hf => ?_, hp, fun i j h1 h2 h3 => ?_, ?_⟩, fun i j hi hne hj => ?_⟩
  · have hf : (r.piv ++ [c]).length = c + 1 := hf
    rw [List.length_append, List.length_singleton] at hf
    show r.piv ++ [c] = _
    rw [h.full (by omega), List.range_succ]
  · have h1 : (r.piv ++ [c]).length ≤ i := h1
    rw [List.length_append, List.length_singleton] at h1
    show at2 (elimR r.T r.piv.length c r.last) i j = 0
    rw [hat i j h2 (by omega), if_neg (by omega)]
    by_cases e : j = c
    · subst e
      rw [Int.sub_self, Int.zero_ediv]
    · rw [h.zero i j (by omega) h2 (by omega), h.zero r.piv.length j (Nat.le_refl _) hk (by omega), Int.zero_mul, Int.mul_zero, Int.sub_self, Int.zero_ediv]
  · refine ⟨put D r.piv.length (fun a => at2 M a c), s, hs, pivot_det h.last hs hD (hS c hc) hk, fun j hj e he => ?_, fun a ha e => ?_, fun a e ha he => ?_⟩
    · have h1 := (pivot_sol h.last hs hD (hS c hc) (hS j hj) hk hp).2 e he
      rw [← h1]
      refine sumZ_congr (fun i hi => ?_)
      show at2 (elimR r.T r.piv.length c r.last) i j * _ = _
      rw [hat i j hi hj]
    · have ha : a < (r.piv ++ [c]).length := ha
      rw [List.length_append, List.length_singleton] at ha
      show put D r.piv.length (fun a => at2 M a c) a e = at2 M e ((r.piv ++ [c]).getD a 0)
      by_cases e1 : a = r.piv.length
      · subst e1
        simp [put, List.getD]
      · have h2 : a < r.piv.length := by omega
        have h3 := hpv a h2 e
        simp only [put, e1, if_false]
        rw [h3]
        simp [List.getD, List.getElem?_append_left h2]
    · unfold put
      split
      · exact hB e c he hc
      · exact hBD a e ha he
  · rw [hat i j hi hj, if_neg hne, Int.ediv_mul_cancel (hex i j hi hne hj)]
/-- A column without a pivot. -/
theorem RInv.none {n L B c : Nat} {M : Tab} {r : Red} (h : RInv n L B M c r) (hz : ∀ i, r.piv.length ≤ i → i < n → at2 r.T i c = 0) : RInv n L B M (c + 1) r where
  len := h.len
  row := h.row
  pl := h.pl
  pc := by have := h.pc; omega
  full := fun e => absurd e (by have := h.pc; omega)
  last := h.last
  zero := fun i j h1 h2 h3 => by
    by_cases e : j = c
    · subst e; exact hz i h1 h2
    · exact h.zero i j h1 h2 (by omega)
  base := h.base
theorem RInv.col {n L B c : Nat} {M : Tab} {r : Red} (h : RInv n L B M c r) (hc : c < L) (hB : ∀ a j, a < n → j < L → (at2 M a j).natAbs ≤ B) : RInv n L B M (c + 1) (redCol r c) := by
  unfold redCol
  by_cases h1 : r.T.length ≤ r.piv.length
  · rw [if_pos h1]
    exact h.none (fun i h2 h3 => absurd h3 (by have := h.len; omega))
  rw [if_neg h1]
  have hl := h.len
  have hk : r.piv.length < n := by omega
  obtain ⟨p1, p2, p3, p4⟩ := pivI_spec r.T c (r.T.length - r.piv.length) r.piv.length
  rw [show r.piv.length + (r.T.length - r.piv.length) = r.T.length by omega] at p2 p4
  by_cases h2 : pivI r.T c (r.T.length - r.piv.length) r.piv.length = r.T.length
  · rw [if_pos h2]
    exact h.none (fun i h3 h4 => p3 i h3 (by omega))
  rw [if_neg h2]
  have hi : pivI r.T c (r.T.length - r.piv.length) r.piv.length < n := by omega
  have hs := h.swap hk p1 hi
  refine (hs.elim hk hc ?_ hB _).1
  show at2 (swapR r.T _ r.piv.length) r.piv.length c ≠ 0
  rw [at2_swap _ (by omega) (by omega)]
  have : ∀ i k, swp i k k = i := fun i k => by unfold swp; rw [if_pos rfl]
  rw [this]
  exact p4 (by omega)
theorem RInv.all {n L B w : Nat} {M : Tab} (h1 : M.length = n) (h2 : ∀ x ∈ M, x.length = L) (h3 : 1 ≤ B) (hw : w ≤ L) (hB : ∀ a j, a < n → j < L → (at2 M a j).natAbs ≤ B) : RInv n L B M w (redN M w) := by
  induction w with
  | zero => exact RInv.init h1 h2 h3
  | succ c ih => exact (ih (by omega)).col (by omega) hB
/-- Rows that are proportional have their pivots in the same places. -/
structure Prop2 (n w : Nat) (r r' : Red) : Prop where
  piv : r'.piv = r.piv
  rows : ∀ i, i < n → ∃ α β : Int, α ≠ 0 ∧ β ≠ 0 ∧ ∀ j, j < w → α * at2 r'.T i j = β * at2 r.T i j
theorem pivI_same {n : Nat} {T T' : Tab} {c : Nat} (h : ∀ i, i < n → (at2 T' i c = 0 ↔ at2 T i c = 0)) : ∀ f i, i + f ≤ n → pivI T' c f i = pivI T c f i
  | 0, i, _ => rfl
  | f + 1, i, hi => by
    rw [pivI, pivI]
    by_cases e : at2 T i c = 0
    · rw [if_pos e, if_pos ((h i (by omega)).2 e)]
      exact pivI_same h f (i + 1) (by omega)
    · rw [if_neg e, if_neg (fun q => e ((h i (by omega)).1 q))]
theorem Prop2.zero {n w : Nat} {r r' : Red} (h : Prop2 n w r r') {i j : Nat} (hi : i < n) (hj : j < w) : at2 r'.T i j = 0 ↔ at2 r.T i j = 0 := by
  obtain ⟨α, β, ha, hb, he⟩ := h.rows i hi
  have := he j hj
  constructor
  · intro e; rw [e, Int.mul_zero] at this
    rcases Int.mul_eq_zero.1 this.symm with q | q
    · exact absurd q hb
    · exact q
  · intro e; rw [e, Int.mul_zero] at this
    rcases Int.mul_eq_zero.1 this with q | q
    · exact absurd q ha
    · exact q
theorem Prop2.col {n w L L' B B' c : Nat} {M M' : Tab} {r r' : Red} (h : Prop2 n w r r') (hr : RInv n L B M c r) (hr' : RInv n L' B' M' c r') (hc : c < w) (hw : w ≤ L) (hw' : w ≤ L')
    (hB : ∀ a j, a < n → j < L → (at2 M a j).natAbs ≤ B) (hB' : ∀ a j, a < n → j < L' → (at2 M' a j).natAbs ≤ B') : Prop2 n w (redCol r c) (redCol r' c) := by
  have hl := hr.len
  have hl' := hr'.len
  have hpp := h.piv
  unfold redCol
  rw [hpp, hl, hl']
  by_cases h1 : n ≤ r.piv.length
  · rw [if_pos h1, if_pos h1]; exact h
  rw [if_neg h1, if_neg h1]
  have hk : r.piv.length < n := by omega
  have hsame := pivI_same (fun i hi => h.zero (j := c) hi hc) (n - r.piv.length) r.piv.length (by omega)
  rw [hsame]
  obtain ⟨p1, p2, p3, p4⟩ := pivI_spec r.T c (n - r.piv.length) r.piv.length
  rw [show r.piv.length + (n - r.piv.length) = n by omega] at p2 p4
  generalize pivI r.T c (n - r.piv.length) r.piv.length = i at *
  by_cases h2 : i = n
  · rw [if_pos h2, if_pos h2]; exact h
  rw [if_neg h2, if_neg h2]
  have hi : i < n := by omega
  have hsw : ∀ i k, swp i k k = i := fun i k => by unfold swp; rw [if_pos rfl]
  have hs := hr.swap hk p1 hi
  have hs' := hr'.swap (by rw [hpp]; exact hk) (by rw [hpp]; exact p1) hi
  have n1 : at2 (swapR r.T i r.piv.length) r.piv.length c ≠ 0 := by
    rw [at2_swap _ (by omega) (by omega), hsw]; exact p4 hi
  have n2 : at2 (swapR r'.T i r'.piv.length) r'.piv.length c ≠ 0 := by
    rw [at2_swap _ (by omega) (by rw [hpp]; omega), hsw]
    exact fun q => p4 hi ((h.zero hi hc).1 q)
  have e1 := (hs.elim hk (by omega) n1 hB true).2
  have e2 := (hs'.elim (by rw [hpp]; exact hk) (by omega) n2 hB' true).2
  simp only [hpp] at e2 n2
  have hsr : ∀ a, a < n → ∃ α β : Int, α ≠ 0 ∧ β ≠ 0 ∧ ∀ j, j < w → α * at2 (swapR r'.T i r.piv.length) a j = β * at2 (swapR r.T i r.piv.length) a j := by
    intro a ha
    have hb : swp i r.piv.length a < n := by unfold swp; split; exact hi; split; exact hk; exact ha
    obtain ⟨α, β, q1, q2, q3⟩ := h.rows _ hb
    refine ⟨α, β, q1, q2, fun j hj => ?_⟩
    rw [at2_swap _ (by omega) (by omega), at2_swap _ (by omega) (by omega)]
    exact q3 j hj
  refine ⟨rfl, fun a ha => ?_⟩
  obtain ⟨α, β, q1, q2, q3⟩ := hsr a ha
  by_cases hak : a = r.piv.length
  · refine ⟨α, β, q1, q2, fun j hj => ?_⟩
    show α * at2 (elimR (swapR r'.T i r.piv.length) r.piv.length c r'.last) a j = β * at2 (elimR (swapR r.T i r.piv.length) r.piv.length c r.last) a j
    rw [at2_elim _ _ _ _ hs.row (by rw [swapR_len]; omega) (by omega), at2_elim (swapR r'.T i r.piv.length) _ _ _ (by have := hs'.row; simp only [hpp] at this; exact this) (by rw [swapR_len]; omega) (by omega : j < L'), if_pos hak, if_pos hak]
    rw [hak] at q3
    exact q3 j hj
  · obtain ⟨γ, δ, k1, k2, k3⟩ := hsr r.piv.length hk
    refine ⟨α * γ * r'.last, β * δ * r.last, Int.mul_ne_zero (Int.mul_ne_zero q1 k1) hr'.last, Int.mul_ne_zero (Int.mul_ne_zero q2 k2) hr.last, fun j hj => ?_⟩
    have z1 := e1 a j ha hak (by omega)
    have z2 := e2 a j ha hak (by omega)
    have aj := q3 j hj
    have ac := q3 c hc
    have kj := k3 j hj
    have kc := k3 c hc
    show α * γ * r'.last * at2 (elimR (swapR r'.T i r.piv.length) r.piv.length c r'.last) a j = β * δ * r.last * at2 (elimR (swapR r.T i r.piv.length) r.piv.length c r.last) a j
    generalize at2 (elimR (swapR r'.T i r.piv.length) r.piv.length c r'.last) a j = X' at *
    generalize at2 (elimR (swapR r.T i r.piv.length) r.piv.length c r.last) a j = X at *
    generalize at2 (swapR r'.T i r.piv.length) a j = A' at *
    generalize at2 (swapR r.T i r.piv.length) a j = A at *
    generalize at2 (swapR r'.T i r.piv.length) a c = C' at *
    generalize at2 (swapR r.T i r.piv.length) a c = C at *
    generalize at2 (swapR r'.T i r.piv.length) r.piv.length j = K' at *
    generalize at2 (swapR r.T i r.piv.length) r.piv.length j = K at *
    generalize at2 (swapR r'.T i r.piv.length) r.piv.length c = P' at *
    generalize at2 (swapR r.T i r.piv.length) r.piv.length c = P at *
    generalize r'.last = l' at *
    generalize r.last = l at *
    have w1 : α * γ * l' * X' = (α * A') * (γ * P') - (α * C') * (γ * K') := by
      rw [show α * γ * l' * X' = α * γ * (X' * l') by grind, z2]; grind
    have w2 : β * δ * l * X = (β * A) * (δ * P) - (β * C) * (δ * K) := by
      rw [show β * δ * l * X = β * δ * (X * l) by grind, z1]; grind
    rw [w1, w2, aj, ac, kj, kc]
theorem Prop2.all {n w L L' B B' : Nat} {M M' : Tab} (h1 : M.length = n) (h2 : ∀ x ∈ M, x.length = L) (h1' : M'.length = n) (h2' : ∀ x ∈ M', x.length = L') (h3 : 1 ≤ B) (h3' : 1 ≤ B') (hw : w ≤ L) (hw' : w ≤ L')
    (hB : ∀ a j, a < n → j < L → (at2 M a j).natAbs ≤ B) (hB' : ∀ a j, a < n → j < L' → (at2 M' a j).natAbs ≤ B') (hs : ∀ i, i < n → ∃ α β : Int, α ≠ 0 ∧ β ≠ 0 ∧ ∀ j, j < w → α * at2 M' i j = β * at2 M i j) :
    ∀ c, c ≤ w → Prop2 n w (redN M c) (redN M' c)
  | 0, _ => ⟨rfl, hs⟩
  | c + 1, hc => (Prop2.all h1 h2 h1' h2' h3 h3' hw hw' hB hB' hs c (by omega)).col (RInv.all h1 h2 h3 (by omega) hB) (RInv.all h1' h2' h3' (by omega) hB') (by omega) hw hw' hB hB'
end Go.Ax.Dt

/-
  Systems of equations on rational rows. No program in sight.
-/
namespace Go.Ax.Rt
open Go.Ax.Bg Go.Ax.Dt

theorem get_el {α : Type} {l : List α} {j : Nat} (d : α) (h : j < l.length) : l.getD j d = l[j] := by simp [List.getD, h]
theorem get_in {α : Type} {l : List α} {j : Nat} (d : α) (h : j < l.length) : l.getD j d ∈ l := by rw [get_el d h]; exact List.getElem_mem h
/-- The factor that makes a row whole. -/
def facF : Nat → List Rat → Nat
  | f, [] => f
  | f, q :: r => facF (f * (q.den / Nat.gcd f q.den)) r
def wholeL (l : List Rat) : List Int := l.map (fun q => q.num * ((facF 1 l / q.den : Nat) : Int))
/-- SolveOf: rows with the right side at their end. -/
def solT (rows : List (List Rat)) (w : Nat) : Red := redN (rows.map wholeL) w
def solveQ (rows : List (List Rat)) (w : Nat) : List Rat × Int :=
  if ((solT rows w).T.drop (solT rows w).piv.length).any (fun r => decide (r.getD w 0 ≠ 0)) then ([], 8)
  else if (solT rows w).piv.length < w then ([], 18)
  else ((List.range w).map (fun k => Rat.divInt (at2 (solT rows w).T k w) (at2 (solT rows w).T k k)), 0)
def augQ (m : List (List Rat)) (b : List Rat) : List (List Rat) := (List.range m.length).map (fun i => m.getD i [] ++ [b.getD i 0])
/-- matrix.Solve -/
def solveR (m : List (List Text)) (b : List Text) : List Text × Int :=
  if matE m ≠ 0 then ([], matE m) else if vecE b ≠ 0 then ([], vecE b) else if b.length ≠ m.length then ([], 3)
  else if (solveQ (augQ (inM m) (b.map ratV)) (widM m)).2 ≠ 0 then ([], (solveQ (augQ (inM m) (b.map ratV)) (widM m)).2) else outAllF (solveQ (augQ (inM m) (b.map ratV)) (widM m)).1
def prodFac : Nat → List (List Rat) → Nat
  | f, [] => f
  | f, r :: rs => prodFac (f * facF 1 r) rs
def detQ (rows : List (List Rat)) : Rat := Rat.divInt (if (solT rows rows.length).neg then -(solT rows rows.length).last else (solT rows rows.length).last) (prodFac 1 rows : Nat)
/-- matrix.Det -/
def detR (m : List (List Text)) : Text × Int :=
  if matE m ≠ 0 then ([], matE m) else if m.length ≠ widM m then ([], 3)
  else if (solT (inM m) m.length).piv.length < m.length then ([48], 0) else outF (detQ (inM m))

theorem intc_ne {x : Int} (h : x ≠ 0) : (x : Rat) ≠ 0 := fun e => h (by
  have := congrArg Rat.num e
  simpa using this)
end Go.Ax.Rt

/-
  Lists that are changed one by one; sums. No program in sight.
-/
namespace Go.Ax.Rt
open Go.Ax.Bg

theorem sumQ_snoc (q : Rat) : ∀ (l : List Rat) (acc : Rat), sumQ acc (l ++ [q]) = sumQ acc l + q
  | [], acc => rfl
  | a :: r, acc => by rw [List.cons_append, sumQ, sumQ, sumQ_snoc q r]
theorem sumQ_Dk {k : Nat} {l : List Rat} (h : ∀ q ∈ l, D k q) : ∀ {acc : Rat} {j : Nat}, D j acc → D (j + l.length * (k + 1)) (sumQ acc l) := by
  induction l with
  | nil => intro acc j ha; rw [List.length_nil, Nat.zero_mul]; exact ha
  | cons a r ih =>
    intro acc j ha
    rw [sumQ, List.length_cons, Nat.add_mul]
    exact (ih (fun q hq => h q (by simp [hq])) (ha.add (h a (by simp)))).mono (by omega)
/-- The first k elements are changed. -/
def mixL {α : Type} (f : α → α) (x : List α) (k : Nat) : List α := (x.take k).map f ++ x.drop k
theorem mixL_len {α : Type} (f : α → α) (x : List α) (k : Nat) : (mixL f x k).length = x.length := by
  simp [mixL]; omega
theorem mixL_get {α : Type} (f : α → α) (x : List α) (d : α) {k : Nat} (hk : k < x.length) : (mixL f x k).getD k d = x.getD k d := by
  have h : ((x.take k).map f).length = k := by simp; omega
  unfold mixL
  simp only [List.getD]
  rw [List.getElem?_append_right (by omega), h, Nat.sub_self, List.getElem?_drop, Nat.add_zero]
theorem mixL_zero {α : Type} (f : α → α) (x : List α) : mixL f x 0 = x := by simp [mixL]
theorem mixL_all {α : Type} (f : α → α) (x : List α) : mixL f x x.length = x.map f := by simp [mixL]
theorem mixL_set {α : Type} (f : α → α) (x : List α) (d : α) {k : Nat} (hk : k < x.length) : (mixL f x k).set k (f (x.getD k d)) = mixL f x (k + 1) := by
  have h : ((x.take k).map f).length = k := by simp; omega
  unfold mixL
  rw [List.set_append_right _ _ (by omega), h, Nat.sub_self, List.take_succ_eq_append_getElem hk, List.map_append, List.append_assoc]
  congr 1
  rw [get_el d hk, List.drop_eq_getElem_cons hk]
  rfl
theorem mixL_same {α : Type} (f : α → α) (x : List α) (d : α) {k : Nat} (hk : k < x.length) (h : f (x.getD k d) = x.getD k d) : mixL f x k = mixL f x (k + 1) := by
  rw [← mixL_set f x d hk, h, ← mixL_get f x d hk]
  apply List.ext_getElem (by simp)
  intro i h1 h2
  rw [List.getElem_set]
  split
  · rename_i e; subst e; rw [get_el d h1]
  · rfl
theorem take_map_snoc {α β : Type} (f : α → β) (l : List α) (d : α) (k : Nat) (hk : k < l.length) : (l.take (k + 1)).map f = (l.take k).map f ++ [f (l.getD k d)] := by
  rw [List.take_succ_eq_append_getElem hk, List.map_append, get_el d hk]; rfl
/-- The counters, as integers. -/
def cntI (f : Int × Int → Int) (l : Hist) (n : Nat) : List Int := (List.range n).map (fun i => ((cnt f l i : Nat) : Int))
theorem cntI_len (f : Int × Int → Int) (l : Hist) (n : Nat) : (cntI f l n).length = n := by simp [cntI]
theorem cntI_cast (f : Int × Int → Int) (l : Hist) (n : Nat) : (cntI f l n).map (fun z : Int => (z : Rat)) = cntQ f l n := by
  unfold cntI cntQ
  rw [List.map_map]
  refine List.map_congr_left (fun i _ => ?_)
  exact Rat.intCast_natCast _
theorem cntI_nil (f : Int × Int → Int) (n : Nat) : cntI f [] n = List.replicate n 0 := by
  apply List.ext_getElem (by simp [cntI])
  intro i h1 h2
  simp [cntI, cnt]
theorem cnt_snoc (f : Int × Int → Int) (l : Hist) (x : Int × Int) (i : Nat) : cnt f (l ++ [x]) i = cnt f l i + (if f x = (i : Int) then 1 else 0) := by
  unfold cnt
  rw [List.filter_append, List.length_append]
  congr 1
  by_cases h : f x = (i : Int)
  · simp [h]
  · simp [h]
theorem cnt_len_le (f : Int × Int → Int) (l : Hist) (i : Nat) : cnt f l i ≤ l.length := List.length_filter_le _ _
theorem cntI_set (f : Int × Int → Int) (l : Hist) (n k : Nat) (hk : k < l.length) (j : Nat) (hj : f (l.getD k (0, 0)) = (j : Int)) (hn : j < n) :
    (cntI f (l.take k) n).set j ((cntI f (l.take k) n).getD j 0 + 1) = cntI f (l.take (k + 1)) n := by
  have e : l.take (k + 1) = l.take k ++ [l.getD k (0, 0)] := by rw [List.take_succ_eq_append_getElem hk, get_el (0, 0) hk]
  apply List.ext_getElem (by simp [cntI])
  intro i h1 h2
  have hi : i < n := by simpa [cntI] using h2
  rw [List.getElem_set]
  have g : ∀ l' : Hist, ∀ a (h : a < (cntI f l' n).length), (cntI f l' n)[a] = ((cnt f l' a : Nat) : Int) := fun l' a h => by simp [cntI]
  rw [g, g]
  rw [show cnt f (l.take (k + 1)) i = _ from by rw [e, cnt_snoc, hj]]
  by_cases hij : j = i
  · subst hij
    rw [if_pos rfl, if_pos rfl, get_el 0 (by rw [cntI_len]; exact hi), g]
    rfl
  · rw [if_neg hij, if_neg (by omega)]
    rfl
theorem cntI_bd (f : Int × Int → Int) (l : Hist) (n : Nat) : ∀ z ∈ cntI f l n, 0 ≤ z ∧ z ≤ l.length := by
  intro z hz
  obtain ⟨i, _, rfl⟩ := List.mem_map.1 hz
  have := cnt_len_le f l i
  omega
theorem cntQ_len (f : Int × Int → Int) (l : Hist) (n : Nat) : (cntQ f l n).length = n := by simp [cntQ]
/-- The first k elements have something added. -/
def updL (g : Nat → Rat) (x : List Rat) (k : Nat) : List Rat := (List.range x.length).map (fun j => if j < k then x.getD j 0 + g j else x.getD j 0)
theorem updL_len (g : Nat → Rat) (x : List Rat) (k : Nat) : (updL g x k).length = x.length := by simp [updL]
theorem updL_zero (g : Nat → Rat) (x : List Rat) : updL g x 0 = x := by
  apply List.ext_getElem (updL_len _ _ _)
  intro i h1 h2
  simp [updL, List.getD, h2]
theorem updL_get (g : Nat → Rat) (x : List Rat) {k i : Nat} (hi : i < x.length) : (updL g x k).getD i 0 = if i < k then x.getD i 0 + g i else x.getD i 0 := by
  unfold updL
  rw [map_getD _ _ 0 _ _ (by simpa using hi)]
  simp [List.getD, hi]
theorem updL_set (g : Nat → Rat) (x : List Rat) {k : Nat} (hk : k < x.length) : (updL g x k).set k (x.getD k 0 + g k) = updL g x (k + 1) := by
  apply List.ext_getElem (by simp [updL])
  intro i h1 h2
  have hi : i < x.length := by simpa [updL] using h2
  have e1 := updL_get g x (k := k + 1) hi
  rw [get_el 0 h2] at e1
  rw [e1, List.getElem_set]
  by_cases hik : k = i
  · subst hik; simp
  · have e2 := updL_get g x (k := k) hi
    rw [get_el 0 (by rw [updL_len]; exact hi)] at e2
    rw [if_neg hik, e2]
    by_cases h3 : i < k
    · rw [if_pos h3, if_pos (by omega)]
    · rw [if_neg h3, if_neg (by omega)]
theorem updL_all (g : Nat → Rat) (x : List Rat) : updL g x x.length = (List.range x.length).map (fun j => x.getD j 0 + g j) := by
  unfold updL
  refine List.map_congr_left (fun j hj => ?_)
  rw [if_pos (by simpa using hj)]
theorem histOf_snoc (l : List (Nat × Nat)) (i k : Nat) : histOf (l ++ [(i, k)]) = histOf l ++ [((i : Int), (k : Int))] := by simp [histOf]
theorem histOf_len (l : List (Nat × Nat)) : (histOf l).length = l.length := by simp [histOf]
end Go.Ax.Rt

namespace Go.Proofs.YtgmleamhjnlknaaGreatDoor
open Go.Ax Go.Ax.Bg Go.Ax.Rt Go.RowKit Go.Ax.Idx Go.Ax.Cd
attribute [local irreducible] Ax Post QOp ACall PureOp
set_option maxRecDepth 100000
set_option maxHeartbeats 4000000

theorem inF_ok (l : List (List UInt8)) (hlen : l.length ≤ 1000000) (hs : ∀ s ∈ l, s.length ≤ 9223372036854775807 ∧ ratE s = 0) : FCall Tryz.prog 70 [.ro (.strs l) 0 l.length] (fun h => .sl h 0 l.length) ⟨108, qsC (l.map ratV)⟩ := by
  refine ACall.fresh (K := fun r H => r = .sl 0 0 l.length ∧ H = [some ⟨108, qsC (l.map ratV)⟩]) (acall_of_ax (P := Tryz.prog) (fn := Tryz.f70) rfl rfl (by kernel_rfl) rfl (fun c hR hfix => ?_)) (fix := fun _ => False) (fun _ h => h) rfl (fun H => ⟨rfl, by simp [inBs, inB]⟩) ?_
  · repeat (first
      | refine ax_q (q_move rfl) ?_
      | refine ax_q (q_assign rfl) ?_
      | refine ax_ops_nil ?_
      | refine ax_post_code ?_
      | refine ax_seq ?_
      | refine ax_region rfl ?_
      | refine ax_q (q_len rfl rfl rfl) ?_)
    refine ax_nilobj 3 ⟨108, qsC []⟩ rfl rfl ?_
    repeat (refine ax_block ?_)
    refine ax_loop (ι := Nat) (fun k => [(0, .ro (.strs l) 0 l.length), (3, .sl 0 0 k), (6, .ro (.strs l) 0 l.length), (7, .int .i64 (l.length : Nat)), (8, .int .i64 (k : Nat))]) (fun k => [some ⟨108, qsC ((l.take k).map ratV)⟩])
      (fun k => k ≤ l.length) (fun k => l.length - k) 0 ⟨⟨rfl, rfl, rfl, rfl, rfl, trivial⟩, rfl, Nat.zero_le _⟩ ?_
    intro k hk
    repeat (first
      | refine ax_ops_nil ?_
      | refine ax_post_code ?_
      | refine ax_seq ?_
      | refine ax_region rfl ?_
      | refine ax_q (q_lss rfl rfl) ?_)
    refine ax_cond_dec rfl (fun h => ?_) (fun h => ?_)
    · have hk' : k < l.length := by omega
      obtain ⟨b1, b2⟩ := hs _ (getD_mem [] hk')
      have hc := parse_ok (l.getD k []) b1 b2
      have htk := map_take_succ ratV l [] k hk'
      have hml : ((l.take k).map ratV).length = k := by rw [List.length_map, List.length_take]; omega
      generalize (l.take k).map ratV = qs at *
      repeat (first
        | refine ax_q (q_move rfl) ?_
        | refine ax_q (q_assign rfl) ?_
        | refine ax_ops_nil ?_
        | refine ax_post_code ?_
        | refine ax_seq ?_
        | refine ax_region rfl ?_
        | refine ax_block ?_
        | refine ax_skip ?_
        | refine ax_q (q_loads_rp rfl rfl rfl) ?_
        | refine ax_q (q_index_ro' rfl rfl rfl rfl (by first | (simp only [Nat.zero_add, Int.toNat_natCast, Int.toNat_zero]; exact rfl) | exact rfl) (by omega)) ?_)
      refine ax_callv rfl rfl rfl hc ?_
      unfold qA
      repeat (refine ax_buildSliceRo rfl rfl rfl rfl rfl rfl rfl rfl rfl rfl rfl ?_)
      refine ax_append rfl rfl rfl rfl rfl rfl rfl rfl rfl hml rfl rfl (by show 0 + 1 ≤ 1; omega) rfl (by show (k + 1) * 56 ≤ _ ∧ _; omega) ?_ (by rw [hfix]; exact fun h => h) ?_
      · intro i' j hi hj
        exact rowE_noref 0 3 cellsQ cellsQ_noref qs (ratV (l.getD k [])) _ (rowQ1 _) 0 i' j hi hj
      repeat (first
        | refine ax_q (q_assign rfl) ?_
        | refine ax_ops_nil ?_
        | refine ax_post_blk ?_)
      refine ax_post_code ?_
      refine ax_heap [some ⟨108, qsC ((l.take (k + 1)).map ratV)⟩] ?_ ?_
      · rw [htk]
        exact HSub.eqv (rowE_snoc 0 3 cellsQ qs (ratV (l.getD k [])) _ (rowQ1 _)) HSub.nil
      repeat (first
        | refine ax_q (q_move rfl) ?_
        | refine ax_ops_nil ?_
        | refine ax_region rfl ?_
        | refine ax_q (q_add rfl rfl (by omega)) ?_)
      exact ax_post_inv ⟨k + 1, by omega, by omega, ⟨rfl, rfl, rfl, rfl, rfl, trivial⟩, rfl⟩
    · have hk' : k = l.length := by omega
      subst hk'
      rw [List.take_length]
      repeat (first
        | refine ax_q (q_move rfl) ?_
        | refine ax_q (q_assign rfl) ?_
        | refine ax_ops_nil ?_
        | refine ax_post_code ?_
        | refine ax_seq ?_
        | refine ax_region rfl ?_
        | refine ax_exit ?_
        | refine ax_exit_here ?_
        | refine ax_exit_code ?_
        | refine ax_exit_inv ?_
        | refine ax_return ?_)
      exact ax_ret hR rfl ⟨rfl, rfl⟩
  · rintro r H ⟨rfl, rfl⟩
    refine ⟨?_, fun h o ho => refl1 (refless_qs _) h o ho, 0, rfl, fun n => rfl⟩
    intro o ho; simp at ho; subst ho
    show 0 + l.length ≤ (l.map ratV).length
    rw [List.length_map, Nat.zero_add]; exact Nat.le_refl _
theorem set_qs (zs : List Rat) (k : Nat) (q : Rat) (hk : k < zs.length) (i' j' : Nat) (hi' : i' < zs.length) (hj' : j' < 3) : (qsC (zs.set k q)).at i' j' = if i' = k then (cellsQ q).getD j' .any else (qsC zs).at i' j' := by
  show (cellsQ ((zs.set k q).getD i' 0)).getD j' .any = if i' = k then (cellsQ q).getD j' .any else (cellsQ (zs.getD i' 0)).getD j' .any
  rw [Go.Ax.Dt.getD_set]
  by_cases h : i' = k
  · rw [if_pos h, if_pos ⟨h, hk⟩]
  · rw [if_neg h, if_neg (fun q => h q.1)]
theorem sgn_lt {z : Int} : sgn z < 0 ↔ z < 0 := by
  unfold sgn
  split
  · rename_i h; simp; omega
  · split
    · rename_i h; simp; omega
    · rename_i h1 h2; simp; omega
theorem match_ok (v : List Text) (hlen : v.length ≤ 9223372036854775807) (hs : ∀ s ∈ v, s.length ≤ 9223372036854775807) : VCall Tryz.prog 21 [.ro (.strs v) 0 v.length] (vecP (matchR v)) := by
  have cv := vec_ok v hlen hs
  refine ACall.value0 (acall_of_ax (P := Tryz.prog) (fn := Tryz.f21) rfl rfl (by kernel_rfl) rfl (fun c hR hfix => ?_)) (fix := fun _ => False) (fun _ h => h) rfl rfl
  repeat (first
    | refine ax_q (q_move rfl) ?_
    | refine ax_q (q_assign rfl) ?_
    | refine ax_ops_nil ?_
    | refine ax_post_code ?_
    | refine ax_seq ?_
    | refine ax_region rfl ?_
    | refine ax_q (q_eql rfl rfl) ?_
    | refine ax_q (q_len rfl rfl rfl) ?_)
  refine ax_cond_dec rfl (fun h1 => ?_) (fun h1 => ?_)
  · have e : matchR v = ([], 8) := by
      obtain rfl : v = [] := List.length_eq_zero_iff.1 (by omega)
      rfl
    rw [e] at hR
    repeat (first
      | refine ax_q (q_assign rfl) ?_
      | refine ax_ops_nil ?_
      | refine ax_post_code ?_
      | refine ax_seq ?_
      | refine ax_region rfl ?_)
    refine ax_slot 2 (.ro (.strs []) 0 0) rfl AEq.nil ?_
    repeat (first
      | refine ax_return ?_
      | refine ax_ret_code ?_)
    exact ax_ret hR rfl rfl
  have n1 : ¬ v = [] := by rintro rfl; exact h1 rfl
  repeat (first
    | refine ax_q (q_move rfl) ?_
    | refine ax_ops_nil ?_
    | refine ax_post_code ?_
    | refine ax_seq ?_
    | refine ax_region rfl ?_
    | refine ax_skip ?_
    | refine ax_q (q_gtr rfl rfl) ?_
    | refine ax_q (q_len rfl rfl rfl) ?_)
  refine ax_cond_dec rfl (fun h2 => ?_) (fun h2 => ?_)
  · have e : matchR v = ([], 2) := by unfold matchR; rw [if_neg n1, if_pos (by omega)]
    rw [e] at hR
    repeat (first
      | refine ax_q (q_assign rfl) ?_
      | refine ax_ops_nil ?_
      | refine ax_post_code ?_
      | refine ax_seq ?_
      | refine ax_region rfl ?_)
    refine ax_slot 2 (.ro (.strs []) 0 0) rfl AEq.nil ?_
    repeat (first
      | refine ax_return ?_
      | refine ax_ret_code ?_)
    exact ax_ret hR rfl rfl
  have hv12 : v.length ≤ 12 := by omega
  repeat (first
    | refine ax_q (q_move rfl) ?_
    | refine ax_post_code ?_
    | refine ax_seq ?_
    | refine ax_region rfl ?_
    | refine ax_skip ?_)
  refine ax_callv rfl rfl rfl cv ?_
  repeat (first
    | refine ax_q (q_move rfl) ?_
    | refine ax_q (q_assign rfl) ?_
    | refine ax_ops_nil ?_
    | refine ax_post_code ?_
    | refine ax_seq ?_
    | refine ax_region rfl ?_
    | refine ax_q (q_neq rfl rfl) ?_)
  refine ax_cond_dec rfl (fun h3 => ?_) (fun h3 => ?_)
  · have e : matchR v = ([], vecE v) := by unfold matchR; rw [if_neg n1, if_neg (by omega), if_pos h3]
    rw [e] at hR
    repeat (first
      | refine ax_q (q_move rfl) ?_
      | refine ax_q (q_assign rfl) ?_
      | refine ax_ops_nil ?_
      | refine ax_post_code ?_
      | refine ax_seq ?_
      | refine ax_region rfl ?_)
    refine ax_slot 2 (.ro (.strs []) 0 0) rfl AEq.nil ?_
    repeat (first
      | refine ax_return ?_
      | refine ax_ret_code ?_)
    exact ax_ret hR rfl rfl
  have h3' := Classical.not_not.1 h3
  have e : matchR v = outAllF (matchQ (v.map ratV)) := by unfold matchR; rw [if_neg n1, if_neg (by omega), if_neg h3]
  rw [e] at hR
  have hok := allE_mem (vecE_zero h3').2
  have nv := inF_ok v (by omega) (fun s h => ⟨hs s h, hok s h⟩)
  have dv : ∀ q ∈ v.map ratV, D 2000 q := valid_D hok
  have hxl : (v.map ratV).length = v.length := List.length_map _
  generalize v.map ratV = x at *
  have hx0 : 0 < x.length := by
    rw [hxl]; exact Nat.pos_of_ne_zero (fun q => n1 (List.length_eq_zero_iff.1 q))
  rw [← hxl] at hv12 nv
  repeat (first
    | refine ax_q (q_move rfl) ?_
    | refine ax_post_code ?_
    | refine ax_seq ?_
    | refine ax_region rfl ?_
    | refine ax_skip ?_)
  refine ax_callf rfl rfl rfl (by rw [← hxl]; exact nv) ?_
  repeat (first
    | refine ax_q (q_assign rfl) ?_
    | refine ax_ops_nil ?_
    | refine ax_post_code ?_
    | refine ax_seq ?_
    | refine ax_region rfl ?_)
  refine ax_callv rfl rfl rfl of_zero ?_
  repeat (refine ax_alloc rfl rfl rfl ?_)
  refine ax_storeagg (c' := .box (cellsQ 0)) rfl rfl rfl rfl rfl Nat.zero_lt_one rfl rfl (fun i' j' hi' hj' => ?_) ?_
  · rw [if_pos (Nat.lt_one_iff.1 hi')]; rfl
  repeat (first
    | refine ax_q (q_move rfl) ?_
    | refine ax_ops_nil ?_
    | refine ax_post_code ?_
    | refine ax_seq ?_
    | refine ax_region rfl ?_
    | refine ax_block ?_
    | refine ax_q (q_len rfl rfl rfl) ?_)
  have hD1 : ∀ k, k ≤ x.length → D (1 + x.length * 2001) (sumQ 0 ((x.take k).map posQ)) := by
    intro k hk
    have hz : D 1 (0 : Rat) := ⟨by decide, by decide⟩
    refine (sumQ_Dk (k := 2000) (l := (x.take k).map posQ) (fun q hq => ?_) hz).mono ?_
    · obtain ⟨y, hy, rfl⟩ := List.mem_map.1 hq
      exact posQ_D (dv y (List.mem_of_mem_take hy)) (by decide)
    · rw [List.length_map, List.length_take]
      have : min k x.length ≤ x.length := Nat.min_le_right _ _
      have := Nat.mul_le_mul_right 2001 this
      omega
  refine ax_loop (ι := Nat) (fun k => [(5, .sl 0 0 x.length), (6, .ptr 1 0 0), (25, .sl 0 0 x.length), (26, .int .i64 (x.length : Nat)), (27, .int .i64 (k : Nat))]) (fun k => [some ⟨108, qsC (mixL posQ x k)⟩, some ⟨108, .box (cellsQ (sumQ 0 ((x.take k).map posQ)))⟩])
    (fun k => k ≤ x.length) (fun k => x.length - k) 0 ⟨⟨rfl, rfl, rfl, rfl, rfl, trivial⟩, by rw [mixL_zero]; rfl, Nat.zero_le _⟩ ?_
  intro k hk
  repeat (first
    | refine ax_ops_nil ?_
    | refine ax_post_code ?_
    | refine ax_seq ?_
    | refine ax_region rfl ?_
    | refine ax_q (q_lss rfl rfl) ?_)
  refine ax_cond_dec rfl (fun h => ?_) (fun h => ?_)
  · have hk' : k < x.length := by omega
    have hq := dv _ (getD_mem 0 hk')
    have hset := mixL_set posQ x 0 hk'
    have hsame := mixL_same posQ x 0 hk'
    have hget := mixL_get posQ x 0 hk'
    have hml := mixL_len posQ x k
    have hsn : sumQ 0 ((x.take (k + 1)).map posQ) = sumQ 0 ((x.take k).map posQ) + posQ (x.getD k 0) := by rw [take_map_snoc posQ x 0 k hk', sumQ_snoc]
    have hDa := hD1 k hk
    have hb : 1 + x.length * 2001 ≤ 25000 := by omega
    generalize mixL posQ x k = zs at *
    generalize sumQ 0 ((x.take k).map posQ) = acc at *
    generalize x.getD k 0 = q at *
    have hkz : k < zs.length := by omega
    have hp : posQ q = if q.num < 0 then 0 else q := rfl
    repeat (first
      | refine ax_q (q_move rfl) ?_
      | refine ax_q (q_assign rfl) ?_
      | refine ax_post_code ?_
      | refine ax_seq ?_
      | refine ax_region rfl ?_
      | refine ax_block ?_
      | refine ax_skip ?_
      | refine ax_q (q_index_sl' rfl rfl rfl rfl rfl (by first | (simp only [Nat.zero_add, Int.toNat_natCast, Int.toNat_zero]; exact rfl) | exact rfl) (by omega)) ?_
      | refine ax_q (q_loadpart_ptr rfl rfl rfl rfl rfl rfl rfl (by first | exact Nat.zero_lt_one | assumption | omega)) ?_
      | refine ax_alloc rfl rfl rfl ?_)
    refine ax_slot_ops 31 (.agg (cellsQ q)) rfl (AEq.of_eq (by rw [← hget]; rfl)) ?_
    refine ax_storeagg (c' := .box (cellsQ q)) rfl rfl rfl rfl rfl Nat.zero_lt_one rfl rfl (fun i' j' hi' hj' => ?_) ?_
    · rw [if_pos (Nat.lt_one_iff.1 hi')]; rfl
    repeat (first
      | refine ax_ops_nil ?_
      | refine ax_post_code ?_
      | refine ax_seq ?_
      | refine ax_region rfl ?_
      | refine ax_q (q_loadpart_ptr rfl rfl rfl rfl rfl rfl rfl (by first | exact Nat.zero_lt_one | assumption | omega)) ?_)
    refine ax_callv rfl rfl rfl (qsign_ok q) ?_
    repeat (first
      | refine ax_ops_nil ?_
      | refine ax_post_code ?_
      | refine ax_q (q_lss rfl rfl) ?_)
    refine ax_cond_dec rfl (fun h1 => ?_) (fun h1 => ?_)
    · have hneg : q.num < 0 := sgn_lt.1 h1
      have hkz2 : k < (zs.set k 0).length := by simpa using hkz
      have hp0 : posQ q = 0 := by rw [hp, if_pos hneg]
      rw [hp0] at hset hsn
      have hnew : mixL posQ x (k + 1) = zs.set k 0 := hset.symm
      have hadd : VCall Tryz.prog 67 [qA acc, qA ((zs.set k 0).getD k 0)] (qA (acc + 0)) := by
        rw [Go.Ax.Dt.getD_set, if_pos ⟨rfl, hkz⟩]
        exact qadd_ok acc 0 (sz_D (hDa.mono (by omega))) (sz_D (D.mono (j := 1) ⟨by decide, by decide⟩ (by decide)))
      repeat (first
        | refine ax_q (q_move rfl) ?_
        | refine ax_region rfl ?_)
      refine ax_callv rfl rfl rfl of_zero ?_
      repeat (refine ax_q (q_index_sl' rfl rfl rfl rfl rfl (by first | (simp only [Nat.zero_add, Int.toNat_natCast, Int.toNat_zero]; exact rfl) | exact rfl) (by omega)) ?_)
      unfold qA
      refine ax_storeagg (c' := qsC (zs.set k 0)) rfl rfl rfl rfl rfl hkz (by show (zs.set k 0).length = zs.length; simp) rfl (fun i' j' hi' hj' => set_qs zs k 0 hkz i' j' hi' hj') ?_
      repeat (first
        | refine ax_ops_nil ?_
        | refine ax_post_code ?_)
      refine ax_regiond (by kernel_rfl) ?_
      refine ax_any_run (fuel := 1) [0, 1, 2, 3, 4, 5] [(5, .sl 0 0 x.length), (6, .ptr 1 0 0), (7, .int .i64 (k : Nat)), (25, .sl 0 0 x.length), (26, .int .i64 (x.length : Nat)), (27, .int .i64 (k : Nat))] ⟨rfl, rfl, rfl, rfl, rfl, rfl, trivial⟩ (by kernel_rfl) (by decide) rfl rfl ?_
      refine px_q rfl rfl (q_loadpart_ptr rfl rfl rfl rfl rfl rfl rfl (by first | exact Nat.zero_lt_one | assumption | omega)) ?_
      refine px_q rfl rfl (q_move rfl) ?_
      refine px_q rfl rfl (q_move rfl) ?_
      refine px_q rfl rfl (q_index_sl' rfl rfl rfl rfl rfl (by first | (simp only [Nat.zero_add, Int.toNat_natCast, Int.toNat_zero]; exact rfl) | exact rfl) (by omega)) ?_
      refine px_q rfl rfl (q_loadpart_ptr rfl rfl rfl rfl rfl rfl rfl (by first | exact Nat.zero_lt_one | assumption | omega)) ?_
      refine px_v rfl rfl rfl rfl rfl hadd ?_
      refine px_done ?_
      refine ax_any_step (is := [6]) (by kernel_rfl) (by simp) rfl ⟨fun o ho => ?_, trivial⟩
      all_goals (cases ho)
      skip
      unfold qA
      refine ax_storeagg (c' := .box (cellsQ (acc + 0))) rfl rfl rfl rfl rfl Nat.zero_lt_one rfl rfl (fun i' j' hi' hj' => ?_) ?_
      · rw [if_pos (Nat.lt_one_iff.1 hi')]; rfl
      repeat (first
        | refine ax_ops_nil ?_
        | refine ax_post_any ?_)
      refine ax_any_done (by kernel_rfl) ?_
      repeat (refine ax_post_blk ?_)
      refine ax_post_code ?_
      refine ax_heap ([some ⟨108, qsC (mixL posQ x (k + 1))⟩, some ⟨108, .box (cellsQ (acc + 0))⟩] ++ [none]) ?_ ?_
      · rw [hnew]
        exact HSub.eqv (CEq.refl _) (HSub.eqv (CEq.refl _) (HSub.drop HSub.nil))
      refine ax_drop (H1 := [some ⟨108, qsC (mixL posQ x (k + 1))⟩, some ⟨108, .box (cellsQ (acc + 0))⟩]) rfl (by rw [hfix]; exact fun h => h) ?_
      refine ax_heap [some ⟨108, qsC (mixL posQ x (k + 1))⟩, some ⟨108, .box (cellsQ (sumQ 0 ((x.take (k + 1)).map posQ)))⟩] ?_ ?_
      · rw [hsn]
        exact HSub.eqv ⟨rfl, rfl, fun i j _ hj => (cellsQ_noref _ j _ hj).symm⟩ (HSub.eqv ⟨rfl, rfl, fun i j _ hj => rfl⟩ HSub.nil)
      repeat (first
        | refine ax_q (q_move rfl) ?_
        | refine ax_ops_nil ?_
        | refine ax_region rfl ?_
        | refine ax_q (q_add rfl rfl (by omega)) ?_)
      exact ax_post_inv ⟨k + 1, by omega, by omega, ⟨rfl, rfl, rfl, rfl, rfl, trivial⟩, rfl⟩
    · have hneg : ¬ q.num < 0 := fun e => h1 (sgn_lt.2 e)
      have hp0 : posQ q = q := by rw [hp, if_neg hneg]
      have hnew : mixL posQ x (k + 1) = zs := (hsame hp0).symm
      rw [hp0] at hsn
      have hadd : VCall Tryz.prog 67 [qA acc, qA (zs.getD k 0)] (qA (acc + q)) := by
        rw [hget]
        exact qadd_ok acc q (sz_D (hDa.mono (by omega))) (sz_D (hq.mono (by omega)))
      repeat (first
        | refine ax_post_code ?_
        | refine ax_skip ?_)
      refine ax_regiond (by kernel_rfl) ?_
      refine ax_any_run (fuel := 1) [0, 1, 2, 3, 4, 5] [(5, .sl 0 0 x.length), (6, .ptr 1 0 0), (7, .int .i64 (k : Nat)), (25, .sl 0 0 x.length), (26, .int .i64 (x.length : Nat)), (27, .int .i64 (k : Nat))] ⟨rfl, rfl, rfl, rfl, rfl, rfl, trivial⟩ (by kernel_rfl) (by decide) rfl rfl ?_
      refine px_q rfl rfl (q_loadpart_ptr rfl rfl rfl rfl rfl rfl rfl (by first | exact Nat.zero_lt_one | assumption | omega)) ?_
      refine px_q rfl rfl (q_move rfl) ?_
      refine px_q rfl rfl (q_move rfl) ?_
      refine px_q rfl rfl (q_index_sl' rfl rfl rfl rfl rfl (by first | (simp only [Nat.zero_add, Int.toNat_natCast, Int.toNat_zero]; exact rfl) | exact rfl) (by omega)) ?_
      refine px_q rfl rfl (q_loadpart_ptr rfl rfl rfl rfl rfl rfl rfl (by first | exact Nat.zero_lt_one | assumption | omega)) ?_
      refine px_v rfl rfl rfl rfl rfl hadd ?_
      refine px_done ?_
      refine ax_any_step (is := [6]) (by kernel_rfl) (by simp) rfl ⟨fun o ho => ?_, trivial⟩
      all_goals (cases ho)
      skip
      unfold qA
      refine ax_storeagg (c' := .box (cellsQ (acc + q))) rfl rfl rfl rfl rfl Nat.zero_lt_one rfl rfl (fun i' j' hi' hj' => ?_) ?_
      · rw [if_pos (Nat.lt_one_iff.1 hi')]; rfl
      repeat (first
        | refine ax_ops_nil ?_
        | refine ax_post_any ?_)
      refine ax_any_done (by kernel_rfl) ?_
      repeat (refine ax_post_blk ?_)
      refine ax_post_code ?_
      refine ax_heap ([some ⟨108, qsC (mixL posQ x (k + 1))⟩, some ⟨108, .box (cellsQ (acc + q))⟩] ++ [none]) ?_ ?_
      · rw [hnew]
        exact HSub.eqv (CEq.refl _) (HSub.eqv (CEq.refl _) (HSub.drop HSub.nil))
      refine ax_drop (H1 := [some ⟨108, qsC (mixL posQ x (k + 1))⟩, some ⟨108, .box (cellsQ (acc + q))⟩]) rfl (by rw [hfix]; exact fun h => h) ?_
      refine ax_heap [some ⟨108, qsC (mixL posQ x (k + 1))⟩, some ⟨108, .box (cellsQ (sumQ 0 ((x.take (k + 1)).map posQ)))⟩] ?_ ?_
      · rw [hsn]
        exact HSub.eqv ⟨rfl, rfl, fun i j _ hj => (cellsQ_noref _ j _ hj).symm⟩ (HSub.eqv ⟨rfl, rfl, fun i j _ hj => rfl⟩ HSub.nil)
      repeat (first
        | refine ax_q (q_move rfl) ?_
        | refine ax_ops_nil ?_
        | refine ax_region rfl ?_
        | refine ax_q (q_add rfl rfl (by omega)) ?_)
      exact ax_post_inv ⟨k + 1, by omega, by omega, ⟨rfl, rfl, rfl, rfl, rfl, trivial⟩, rfl⟩
  · have hke : k = x.length := by omega
    subst hke
    rw [mixL_all, List.take_length]
    have hDs := hD1 _ (Nat.le_refl x.length)
    rw [List.take_length] at hDs
    have hyl : (x.map posQ).length = x.length := List.length_map _
    have hyD : ∀ q ∈ x.map posQ, D 2000 q := fun q hq => by
      obtain ⟨y, hy, rfl⟩ := List.mem_map.1 hq
      exact posQ_D (dv y hy) (by decide)
    have hb : 1 + x.length * 2001 ≤ 25000 := by omega
    have hmm : matchQ x = (x.map posQ).map (fun q => if sumQ 0 (x.map posQ) = 0 then Rat.divInt 1 x.length else q / sumQ 0 (x.map posQ)) := by
      unfold matchQ
      split
      · refine List.map_congr_left (fun q _ => ?_); rfl
      · refine List.map_congr_left (fun q _ => ?_); rfl
    rw [hmm] at hR
    generalize x.map posQ = y at *
    generalize sumQ 0 y = S at *
    have hgq : ∃ gq : Rat → Rat, gq = (fun q => if S = 0 then Rat.divInt 1 x.length else q / S) := ⟨_, rfl⟩
    obtain ⟨gq, hgq⟩ := hgq
    rw [← hgq] at hR
    have hSS := qsign_ok S
    have hSz := sz_D (m := 2778) (hDs.mono (by omega))
    repeat (first
      | refine ax_q (q_move rfl) ?_
      | refine ax_ops_nil ?_
      | refine ax_post_code ?_
      | refine ax_seq ?_
      | refine ax_region rfl ?_
      | refine ax_block ?_
      | refine ax_exit ?_
      | refine ax_exit_here ?_
      | refine ax_exit_code ?_
      | refine ax_exit_inv ?_
      | refine ax_q (q_len rfl rfl rfl) ?_)
    refine ax_loop (ι := Nat) (fun k => [(5, .sl 0 0 x.length), (6, .ptr 1 0 0), (46, .sl 0 0 x.length), (47, .int .i64 (x.length : Nat)), (48, .int .i64 (k : Nat))]) (fun k => [some ⟨108, qsC (mixL gq y k)⟩, some ⟨108, .box (cellsQ S)⟩])
      (fun k => k ≤ y.length) (fun k => y.length - k) 0 ⟨⟨rfl, rfl, rfl, rfl, rfl, trivial⟩, by rw [mixL_zero], Nat.zero_le _⟩ ?_
    intro k hk
    repeat (first
      | refine ax_ops_nil ?_
      | refine ax_post_code ?_
      | refine ax_seq ?_
      | refine ax_region rfl ?_
      | refine ax_q (q_lss rfl rfl) ?_)
    refine ax_cond_dec rfl (fun h => ?_) (fun h => ?_)
    · have hk' : k < y.length := by omega
      have hq := hyD _ (getD_mem 0 hk')
      have hset := mixL_set gq y 0 hk'
      have hget := mixL_get gq y 0 hk'
      have hml := mixL_len gq y k
      generalize mixL gq y k = zs at *
      generalize y.getD k 0 = q at *
      have hkz : k < zs.length := by omega
      have hnew : mixL gq y (k + 1) = zs.set k (gq q) := hset.symm
      repeat (first
        | refine ax_q (q_move rfl) ?_
        | refine ax_q (q_assign rfl) ?_
        | refine ax_post_code ?_
        | refine ax_seq ?_
        | refine ax_region rfl ?_
        | refine ax_block ?_
        | refine ax_skip ?_
        | refine ax_q (q_index_sl' rfl rfl rfl rfl rfl (by first | (simp only [Nat.zero_add, Int.toNat_natCast, Int.toNat_zero]; exact rfl) | exact rfl) (by omega)) ?_
        | refine ax_q (q_loadpart_ptr rfl rfl rfl rfl rfl rfl rfl (by first | exact Nat.zero_lt_one | assumption | omega)) ?_
        | refine ax_alloc rfl rfl rfl ?_)
      refine ax_slot_ops 52 (.agg (cellsQ q)) rfl (AEq.of_eq (by rw [← hget]; rfl)) ?_
      refine ax_storeagg (c' := .box (cellsQ q)) rfl rfl rfl rfl rfl Nat.zero_lt_one rfl rfl (fun i' j' hi' hj' => ?_) ?_
      · rw [if_pos (Nat.lt_one_iff.1 hi')]; rfl
      repeat (first
        | refine ax_ops_nil ?_
        | refine ax_post_code ?_
        | refine ax_seq ?_
        | refine ax_region rfl ?_
        | refine ax_q (q_loadpart_ptr rfl rfl rfl rfl rfl rfl rfl (by first | exact Nat.zero_lt_one | assumption | omega)) ?_)
      refine ax_callv rfl rfl rfl hSS ?_
      repeat (first
        | refine ax_ops_nil ?_
        | refine ax_post_code ?_
        | refine ax_q (q_eql rfl rfl) ?_)
      refine ax_cond_dec rfl (fun h4 => ?_) (fun h4 => ?_)
      · have hS0 : S = 0 := sgn_zero.1 h4
        have hv : gq q = Rat.divInt 1 x.length := by rw [hgq]; show (if S = 0 then _ else _) = _; rw [if_pos hS0]
        rw [hv] at hnew
        have w1 := whole_ok 1 (by decide)
        have w2 := whole_ok (x.length : Nat) (by omega)
        have f1 := frac_ok 1 (x.length : Nat) (by omega) (Nat.le_trans (natL_len_le (k := 1) (by have : Go.Ax.Bg.B ^ 1 = 4294967296 := rfl; show 1 < _; omega)) (by decide)) (by rw [Int.natAbs_natCast]; exact Nat.le_trans (natL_len_le (k := 1) (by have : Go.Ax.Bg.B ^ 1 = 4294967296 := rfl; omega)) (by decide))
        repeat (first
          | refine ax_q (q_move rfl) ?_
          | refine ax_region rfl ?_)
        refine ax_callv rfl rfl rfl w1 ?_
        repeat (first
          | refine ax_q (q_move rfl) ?_
          | refine ax_q (q_len rfl rfl rfl) ?_)
        refine ax_callv rfl rfl rfl w2 ?_
        skip
        refine ax_callv rfl rfl rfl f1 ?_
        repeat (refine ax_q (q_index_sl' rfl rfl rfl rfl rfl (by first | (simp only [Nat.zero_add, Int.toNat_natCast, Int.toNat_zero]; exact rfl) | exact rfl) (by omega)) ?_)
        unfold qA
        refine ax_storeagg (c' := qsC (zs.set k (Rat.divInt 1 x.length))) rfl rfl rfl rfl rfl hkz (by show (zs.set k ((Rat.divInt 1 x.length))).length = zs.length; simp) rfl (fun i' j' hi' hj' => set_qs zs k (Rat.divInt 1 x.length) hkz i' j' hi' hj') ?_
        repeat (first
          | refine ax_ops_nil ?_
          | refine ax_post_blk ?_)
        refine ax_post_code ?_
        refine ax_heap ([some ⟨108, qsC (mixL gq y (k + 1))⟩, some ⟨108, .box (cellsQ S)⟩] ++ [none]) ?_ ?_
        · rw [hnew]
          exact HSub.eqv (CEq.refl _) (HSub.eqv (CEq.refl _) (HSub.drop HSub.nil))
        refine ax_drop (H1 := [some ⟨108, qsC (mixL gq y (k + 1))⟩, some ⟨108, .box (cellsQ S)⟩]) rfl (by rw [hfix]; exact fun h => h) ?_
        refine ax_heap [some ⟨108, qsC (mixL gq y (k + 1))⟩, some ⟨108, .box (cellsQ S)⟩] ?_ ?_
        · exact HSub.eqv ⟨rfl, rfl, fun i j _ hj => (cellsQ_noref _ j _ hj).symm⟩ (HSub.eqv ⟨rfl, rfl, fun i j _ hj => rfl⟩ HSub.nil)
        repeat (first
          | refine ax_q (q_move rfl) ?_
          | refine ax_ops_nil ?_
          | refine ax_region rfl ?_
          | refine ax_q (q_add rfl rfl (by omega)) ?_)
        exact ax_post_inv ⟨k + 1, by omega, by omega, ⟨rfl, rfl, rfl, rfl, rfl, trivial⟩, rfl⟩
      · have hS0 : ¬ S = 0 := fun e => h4 (sgn_zero.2 e)
        have hv : gq q = q / S := by rw [hgq]; show (if S = 0 then _ else _) = _; rw [if_neg hS0]
        rw [hv] at hnew
        have d1 := qdiv_ok q S (sz_D (hq.mono (by omega))) (sz_D (hDs.mono (by omega))) hS0
        repeat (first
          | refine ax_q (q_move rfl) ?_
          | refine ax_region rfl ?_
          | refine ax_q (q_loadpart_ptr rfl rfl rfl rfl rfl rfl rfl (by first | exact Nat.zero_lt_one | assumption | omega)) ?_)
        refine ax_callv rfl rfl rfl d1 ?_
        repeat (refine ax_q (q_index_sl' rfl rfl rfl rfl rfl (by first | (simp only [Nat.zero_add, Int.toNat_natCast, Int.toNat_zero]; exact rfl) | exact rfl) (by omega)) ?_)
        unfold qA
        refine ax_storeagg (c' := qsC (zs.set k (q / S))) rfl rfl rfl rfl rfl hkz (by show (zs.set k ((q / S))).length = zs.length; simp) rfl (fun i' j' hi' hj' => set_qs zs k (q / S) hkz i' j' hi' hj') ?_
        repeat (first
          | refine ax_ops_nil ?_
          | refine ax_post_blk ?_)
        refine ax_post_code ?_
        refine ax_heap ([some ⟨108, qsC (mixL gq y (k + 1))⟩, some ⟨108, .box (cellsQ S)⟩] ++ [none]) ?_ ?_
        · rw [hnew]
          exact HSub.eqv (CEq.refl _) (HSub.eqv (CEq.refl _) (HSub.drop HSub.nil))
        refine ax_drop (H1 := [some ⟨108, qsC (mixL gq y (k + 1))⟩, some ⟨108, .box (cellsQ S)⟩]) rfl (by rw [hfix]; exact fun h => h) ?_
        refine ax_heap [some ⟨108, qsC (mixL gq y (k + 1))⟩, some ⟨108, .box (cellsQ S)⟩] ?_ ?_
        · exact HSub.eqv ⟨rfl, rfl, fun i j _ hj => (cellsQ_noref _ j _ hj).symm⟩ (HSub.eqv ⟨rfl, rfl, fun i j _ hj => rfl⟩ HSub.nil)
        repeat (first
          | refine ax_q (q_move rfl) ?_
          | refine ax_ops_nil ?_
          | refine ax_region rfl ?_
          | refine ax_q (q_add rfl rfl (by omega)) ?_)
        exact ax_post_inv ⟨k + 1, by omega, by omega, ⟨rfl, rfl, rfl, rfl, rfl, trivial⟩, rfl⟩
    · have hke2 : k = y.length := by omega
      subst hke2
      rw [mixL_all]
      have hrl : (y.map gq).length = y.length := List.length_map _
      obtain ⟨r, hfin, hrq⟩ := outAll_ok (y.map gq) (by omega) (fun q hq => by
        obtain ⟨z, hz, rfl⟩ := List.mem_map.1 hq
        rw [hgq]
        show Sz 100000 (if S = 0 then _ else _)
        split
        · refine sz_D (m := 100000) ((d_frac (k := 2) (by omega) (by decide) (by rw [Int.natAbs_natCast]; omega)).mono (by omega))
        · rename_i hS0
          exact sz_D (((hyD z hz).div hDs hS0).mono (by omega)))
      generalize y.map gq = R at *
      repeat (first
        | refine ax_post_code ?_
        | refine ax_seq ?_
        | refine ax_exit ?_
        | refine ax_exit_here ?_
        | refine ax_exit_code ?_
        | refine ax_exit_inv ?_)
      refine ax_give_code 0 5 x.length [] rfl (refless_qs _) rfl (by show _ ≤ R.length; omega) trivial ?_
      refine ax_slot 5 (.ro (qsC R) 0 R.length) rfl (AEq.of_eq (by rw [hrl, hyl])) ?_
      repeat (first
        | refine ax_q (q_move rfl) ?_
        | refine ax_region rfl ?_)
      refine ax_callv rfl rfl rfl hfin ?_
      repeat (first
        | refine ax_q (q_assign rfl) ?_
        | refine ax_ops_nil ?_
        | refine ax_post_code ?_
        | refine ax_q (q_extract rfl rfl) ?_)
      refine ax_slot 2 (.ro (.strs (outAllF R).1) 0 (outAllF R).1.length) rfl hrq ?_
      repeat (refine ax_return ?_)
      exact ax_ret hR rfl rfl
end Go.Proofs.YtgmleamhjnlknaaGreatDoor

namespace Go.Proofs.YtgmleamhjnlknaaGreatDoor
open Go.Ax Go.Ax.Bg Go.Ax.Rt Go.RowKit Go.Ax.Idx Go.Ax.Cd
attribute [local irreducible] Ax Post QOp ACall PureOp
set_option maxRecDepth 100000
set_option maxHeartbeats 4000000

theorem counts1_ok (l : List Int) (hlen : l.length ≤ 1000000) (hb : ∀ z ∈ l, 0 ≤ z ∧ z ≤ 1000000) : VCall Tryz.prog 171 [.ro (.ints .i64 l) 0 l.length] (.ro (qsC (l.map (fun z : Int => (z : Rat)))) 0 l.length) := by
  refine ACall.value0 (acall_of_ax (P := Tryz.prog) (fn := Tryz.f171) rfl rfl (by kernel_rfl) rfl (fun c hR hfix => ?_)) (fix := fun _ => False) (fun _ h => h) rfl rfl
  repeat (first
    | refine ax_q (q_move rfl) ?_
    | refine ax_q (q_assign rfl) ?_
    | refine ax_ops_nil ?_
    | refine ax_post_code ?_
    | refine ax_seq ?_
    | refine ax_region rfl ?_
    | refine ax_q (q_len rfl rfl rfl) ?_)
  refine ax_nilobj 3 ⟨108, qsC []⟩ rfl rfl ?_
  repeat (refine ax_block ?_)
  refine ax_loop (ι := Nat) (fun k => [(0, .ro (.ints .i64 l) 0 l.length), (3, .sl 0 0 k), (6, .ro (.ints .i64 l) 0 l.length), (7, .int .i64 (l.length : Nat)), (8, .int .i64 (k : Nat))]) (fun k => [some ⟨108, qsC ((l.take k).map (fun z : Int => (z : Rat)))⟩])
    (fun k => k ≤ l.length) (fun k => l.length - k) 0 ⟨⟨rfl, rfl, rfl, rfl, rfl, trivial⟩, rfl, Nat.zero_le _⟩ ?_
  intro k hk
  repeat (first
    | refine ax_ops_nil ?_
    | refine ax_post_code ?_
    | refine ax_seq ?_
    | refine ax_region rfl ?_
    | refine ax_q (q_lss rfl rfl) ?_)
  refine ax_cond_dec rfl (fun h => ?_) (fun h => ?_)
  · have hk' : k < l.length := by omega
    have hz := hb _ (getD_mem 0 hk')
    have hc := qof_ok (l.getD k 0) (by omega)
    have htk := map_take_succ (fun z : Int => (z : Rat)) l 0 k hk'
    have hml : ((l.take k).map (fun z : Int => (z : Rat))).length = k := by rw [List.length_map, List.length_take]; omega
    generalize (l.take k).map (fun z : Int => (z : Rat)) = qs at *
    repeat (first
      | refine ax_q (q_move rfl) ?_
      | refine ax_q (q_assign rfl) ?_
      | refine ax_q (q_loadi_rp rfl rfl rfl) ?_
      | refine ax_ops_nil ?_
      | refine ax_post_code ?_
      | refine ax_seq ?_
      | refine ax_region rfl ?_
      | refine ax_block ?_
      | refine ax_skip ?_
      | refine ax_q (q_index_ro' rfl rfl rfl rfl (by first | (simp only [Nat.zero_add, Int.toNat_natCast, Int.toNat_zero]; exact rfl) | exact rfl) (by omega)) ?_)
    refine ax_callv rfl rfl rfl hc ?_
    unfold qA
    repeat (refine ax_buildSliceRo rfl rfl rfl rfl rfl rfl rfl rfl rfl rfl rfl ?_)
    refine ax_append rfl rfl rfl rfl rfl rfl rfl rfl rfl hml rfl rfl (by show 0 + 1 ≤ 1; omega) rfl (by show (k + 1) * 56 ≤ _ ∧ _; omega) ?_ (by rw [hfix]; exact fun h => h) ?_
    · intro i' j hi hj
      exact rowE_noref 0 3 cellsQ cellsQ_noref qs ((l.getD k 0 : Int) : Rat) _ (rowQ1 _) 0 i' j hi hj
    repeat (first
      | refine ax_q (q_assign rfl) ?_
      | refine ax_ops_nil ?_
      | refine ax_post_blk ?_)
    refine ax_post_code ?_
    refine ax_heap [some ⟨108, qsC ((l.take (k + 1)).map (fun z : Int => (z : Rat)))⟩] ?_ ?_
    · rw [htk]
      exact HSub.eqv (rowE_snoc 0 3 cellsQ qs ((l.getD k 0 : Int) : Rat) _ (rowQ1 _)) HSub.nil
    repeat (first
      | refine ax_q (q_move rfl) ?_
      | refine ax_ops_nil ?_
      | refine ax_region rfl ?_
      | refine ax_q (q_add rfl rfl (by omega)) ?_)
    exact ax_post_inv ⟨k + 1, by omega, by omega, ⟨rfl, rfl, rfl, rfl, rfl, trivial⟩, rfl⟩
  · have hk' : k = l.length := by omega
    subst hk'
    rw [List.take_length]
    repeat (first
      | refine ax_post_code ?_
      | refine ax_seq ?_
      | refine ax_exit ?_
      | refine ax_exit_here ?_
      | refine ax_exit_code ?_
      | refine ax_exit_inv ?_)
    refine ax_give_code 0 3 l.length [] rfl (refless_qs _) rfl (by show _ ≤ (l.map _).length; rw [List.length_map]; exact Nat.le_refl _) trivial ?_
    repeat (first
      | refine ax_q (q_move rfl) ?_
      | refine ax_q (q_assign rfl) ?_
      | refine ax_ops_nil ?_
      | refine ax_post_code ?_
      | refine ax_region rfl ?_
      | refine ax_return ?_)
    exact ax_ret hR rfl rfl
theorem counts_ok (m : List (List Text)) (l : Hist) (hm : m.length ≤ 12) (hm0 : m ≠ []) (hw : widM m ≤ 12) (hl : l.length ≤ 200) (hin : ∀ x ∈ l, 0 ≤ x.1 ∧ x.1 < m.length ∧ 0 ≤ x.2 ∧ x.2 < widM m) :
    VCall Tryz.prog 136 [.ro (rowsT m) 0 m.length, .ro (pairsC l) 0 l.length] (.tup [.ro (qsC (cntQ Prod.fst l m.length)) 0 m.length, .ro (qsC (cntQ Prod.snd l (widM m))) 0 (widM m)]) := by
  have hm1 : 0 < m.length := by cases m with | nil => exact absurd rfl hm0 | cons _ _ => exact Nat.succ_pos _
  refine ACall.value0 (acall_of_ax (P := Tryz.prog) (fn := Tryz.f136) rfl rfl (by kernel_rfl) rfl (fun c hR hfix => ?_)) (fix := fun _ => False) (fun _ h => h) rfl rfl
  have hwd : (m.getD 0 []).length = widM m := rfl
  have hwd : (m.getD 0 []).length = widM m := rfl
  have hwd : (m.getD 0 []).length = widM m := rfl
  have hwd : (m.getD 0 []).length = widM m := rfl
  repeat (first
    | refine ax_q (q_assign rfl) ?_
    | refine ax_ops_nil ?_
    | refine ax_post_code ?_
    | refine ax_seq ?_
    | refine ax_region rfl ?_)
  refine ax_regiond (by kernel_rfl) ?_
  refine ax_any_q 0 rfl (by kernel_rfl) (by kernel_rfl) (by kernel_rfl) rfl (q_move rfl) rfl ?_
  refine ax_any_q 1 rfl (by kernel_rfl) (by kernel_rfl) (by kernel_rfl) rfl (q_len rfl rfl rfl) rfl ?_
  refine ax_any_q 3 rfl (by kernel_rfl) (by kernel_rfl) (by kernel_rfl) rfl (q_move rfl) rfl ?_
  refine ax_any_q 4 rfl (by kernel_rfl) (by kernel_rfl) (by kernel_rfl) rfl (q_index_ro' rfl rfl rfl rfl (by first | (simp only [Nat.zero_add, Int.toNat_natCast, Int.toNat_zero]; exact rfl) | exact rfl) (by omega)) rfl ?_
  refine ax_any_step (is := [2, 5]) (by kernel_rfl) (by simp) rfl ⟨fun o ho => ?_, fun o ho => ?_, trivial⟩
  all_goals (cases ho)
  · skip
    refine ax_make rfl rfl rfl rfl rfl rfl rfl rfl (by show (0 : Int) ≤ _ ∧ _ ≤ _ ∧ (8 : Int) * _ ≤ _ ∧ _; omega) ?_
    repeat (first
      | refine ax_ops_nil ?_
      | refine ax_post_any ?_)
    refine ax_any_q 8 rfl (by kernel_rfl) (by kernel_rfl) (by kernel_rfl) rfl (q_assign rfl) rfl ?_
    refine ax_any_step (is := [5]) (by kernel_rfl) (by simp) rfl ⟨fun o ho => ?_, trivial⟩
    all_goals (cases ho)
    repeat (first
      | refine ax_ops_nil ?_
      | refine ax_post_any ?_
      | refine ax_q (q_loadf_rp rfl rfl rfl rfl) ?_)
    refine ax_any_q 6 rfl (by kernel_rfl) (by kernel_rfl) (by kernel_rfl) rfl (q_len rfl rfl rfl) rfl ?_
    refine ax_any_step (is := [7]) (by kernel_rfl) (by simp) rfl ⟨fun o ho => ?_, trivial⟩
    all_goals (cases ho)
    skip
    refine ax_make rfl rfl rfl rfl rfl rfl rfl rfl (by show (0 : Int) ≤ _ ∧ _ ≤ _ ∧ (8 : Int) * _ ≤ _ ∧ _; omega) ?_
    repeat (first
      | refine ax_ops_nil ?_
      | refine ax_post_any ?_)
    refine ax_any_q 9 rfl (by kernel_rfl) (by kernel_rfl) (by kernel_rfl) rfl (q_assign rfl) rfl ?_
    refine ax_any_done (by kernel_rfl) ?_
    repeat (first
      | refine ax_q (q_move rfl) ?_
      | refine ax_ops_nil ?_
      | refine ax_post_code ?_
      | refine ax_seq ?_
      | refine ax_region rfl ?_
      | refine ax_block ?_
      | refine ax_q (q_len rfl rfl rfl) ?_)
    refine ax_loop (ι := Nat) (fun k => [(6, .sl 0 0 m.length), (7, .sl 1 0 (widM m)), (19, .ro (pairsC l) 0 l.length), (20, .int .i64 (l.length : Nat)), (21, .int .i64 (k : Nat))]) (fun k => [some ⟨3, .ints .i64 (cntI Prod.fst (l.take k) m.length)⟩, some ⟨3, .ints .i64 (cntI Prod.snd (l.take k) (widM m))⟩])
      (fun k => k ≤ l.length) (fun k => l.length - k) 0 ⟨⟨rfl, rfl, rfl, rfl, rfl, trivial⟩, by rw [List.take_zero, cntI_nil, cntI_nil]; rfl, Nat.zero_le _⟩ ?_
    intro k hk
    repeat (first
      | refine ax_ops_nil ?_
      | refine ax_post_code ?_
      | refine ax_seq ?_
      | refine ax_region rfl ?_
      | refine ax_q (q_lss rfl rfl) ?_)
    refine ax_cond_dec rfl (fun h => ?_) (fun h => ?_)
    · have hk' : k < l.length := by omega
      have hx := hin _ (getD_mem (0, 0) hk')
      have s1 := cntI_set Prod.fst l m.length k hk'
      have s2 := cntI_set Prod.snd l (widM m) k hk'
      have b1 := cntI_bd Prod.fst (l.take k) m.length
      have b2 := cntI_bd Prod.snd (l.take k) (widM m)
      have l1 := cntI_len Prod.fst (l.take k) m.length
      have l2 := cntI_len Prod.snd (l.take k) (widM m)
      have tl : (l.take k).length ≤ 200 := by rw [List.length_take]; omega
      generalize cntI Prod.fst (l.take k) m.length = A at *
      generalize cntI Prod.snd (l.take k) (widM m) = B at *
      generalize hxe : l.getD k (0, 0) = x at *
      obtain ⟨x1, x2⟩ := x
      simp only at hx s1 s2
      obtain ⟨i, rfl⟩ := Int.eq_ofNat_of_zero_le hx.1
      obtain ⟨j, rfl⟩ := Int.eq_ofNat_of_zero_le hx.2.2.1
      have hi : i < A.length := by omega
      have hj : j < B.length := by omega
      have s1 := s1 i rfl (by omega)
      have s2 := s2 j rfl (by omega)
      have b1 := b1 _ (getD_mem 0 hi)
      have b2 := b2 _ (getD_mem 0 hj)
      repeat (first
        | refine ax_post_code ?_
        | refine ax_seq ?_
        | refine ax_region rfl ?_
        | refine ax_block ?_
        | refine ax_skip ?_
        | refine ax_q (q_index_ro' rfl rfl rfl rfl (by first | (simp only [Nat.zero_add, Int.toNat_natCast, Int.toNat_zero]; exact rfl) | exact rfl) (by omega)) ?_
        | refine ax_q (q_loadagg_rp rfl rfl rfl rfl rfl rfl) ?_
        | refine ax_alloc rfl rfl rfl ?_)
      refine ax_slot_ops 24 (.agg (cellsP ((i : Int), (j : Int)))) rfl (AEq.of_eq (by rw [← hxe]; rfl)) ?_
      refine ax_storeagg (c' := .box (cellsP ((i : Int), (j : Int)))) rfl rfl rfl rfl rfl Nat.zero_lt_one rfl rfl (fun i' j' hi' hj' => ?_) ?_
      · rw [if_pos (Nat.lt_one_iff.1 hi')]; rfl
      repeat (refine ax_ops_nil ?_)
      refine ax_post_code ?_
      repeat (first
        | refine ax_q (q_move rfl) ?_
        | refine ax_ops_nil ?_
        | refine ax_seq ?_
        | refine ax_region rfl ?_
        | refine ax_q (q_loadb_ptr rfl rfl rfl rfl rfl) ?_
        | refine ax_q (q_add rfl rfl (by omega)) ?_
        | refine ax_q (q_index_sl' rfl rfl rfl rfl rfl (by first | (simp only [Nat.zero_add, Int.toNat_natCast, Int.toNat_zero]; exact rfl) | exact rfl) (by omega)) ?_
        | refine ax_q (q_loadi_ptr rfl rfl rfl rfl (by first | assumption | omega)) ?_
        | refine ax_q (q_idxarr_ptr rfl rfl rfl rfl (by first | (simp only [Nat.zero_add, Int.toNat_natCast]; exact rfl) | exact rfl) (by omega)) ?_
        | refine ax_store rfl rfl rfl rfl rfl rfl rfl (by first | assumption | (show _ < List.length _; first | assumption | omega)) ?_)
      refine ax_post_code ?_
      repeat (first
        | refine ax_q (q_move rfl) ?_
        | refine ax_ops_nil ?_
        | refine ax_region rfl ?_
        | refine ax_post_blk ?_
        | refine ax_q (q_loadb_ptr rfl rfl rfl rfl rfl) ?_
        | refine ax_q (q_add rfl rfl (by omega)) ?_
        | refine ax_q (q_index_sl' rfl rfl rfl rfl rfl (by first | (simp only [Nat.zero_add, Int.toNat_natCast, Int.toNat_zero]; exact rfl) | exact rfl) (by omega)) ?_
        | refine ax_q (q_loadi_ptr rfl rfl rfl rfl (by first | assumption | omega)) ?_
        | refine ax_q (q_idxarr_ptr rfl rfl rfl rfl (by first | (simp only [Nat.zero_add, Int.toNat_natCast]; exact rfl) | exact rfl) (by omega)) ?_
        | refine ax_store rfl rfl rfl rfl rfl rfl rfl (by first | assumption | (show _ < List.length _; first | assumption | omega)) ?_)
      refine ax_post_code ?_
      refine ax_heap ([some ⟨3, .ints .i64 (cntI Prod.fst (l.take (k + 1)) m.length)⟩, some ⟨3, .ints .i64 (cntI Prod.snd (l.take (k + 1)) (widM m))⟩] ++ [none]) ?_ ?_
      · rw [← s1, ← s2]
        exact HSub.eqv (CEq.refl _) (HSub.eqv (CEq.refl _) (HSub.drop HSub.nil))
      refine ax_drop (H1 := [some ⟨3, .ints .i64 (cntI Prod.fst (l.take (k + 1)) m.length)⟩, some ⟨3, .ints .i64 (cntI Prod.snd (l.take (k + 1)) (widM m))⟩]) rfl (by rw [hfix]; exact fun h => h) ?_
      repeat (first
        | refine ax_q (q_move rfl) ?_
        | refine ax_ops_nil ?_
        | refine ax_region rfl ?_
        | refine ax_q (q_add rfl rfl (by omega)) ?_)
      exact ax_post_inv ⟨k + 1, by omega, by omega, ⟨rfl, rfl, rfl, rfl, rfl, trivial⟩, rfl⟩
    · have hke : k = l.length := by omega
      subst hke
      rw [List.take_length]
      have c1 := counts1_ok (cntI Prod.fst l m.length) (by rw [cntI_len]; omega) (fun z hz => by have := cntI_bd _ _ _ z hz; omega)
      have c2 := counts1_ok (cntI Prod.snd l (widM m)) (by rw [cntI_len]; omega) (fun z hz => by have := cntI_bd _ _ _ z hz; omega)
      rw [cntI_cast, cntI_len] at c1 c2
      have l1 := cntI_len Prod.fst l m.length
      have l2 := cntI_len Prod.snd l (widM m)
      generalize cntI Prod.fst l m.length = A at *
      generalize cntI Prod.snd l (widM m) = B at *
      repeat (first
        | refine ax_post_code ?_
        | refine ax_seq ?_
        | refine ax_exit ?_
        | refine ax_exit_here ?_
        | refine ax_exit_code ?_
        | refine ax_exit_inv ?_)
      refine ax_give_code 0 6 m.length [(7, .sl 1 0 (widM m))] rfl refless_ints rfl (by show _ ≤ A.length; omega) ⟨rfl, trivial⟩ ?_
      refine ax_give_code 1 7 (widM m) [(6, .ro (.ints .i64 A) 0 m.length)] rfl refless_ints rfl (by show _ ≤ B.length; omega) ⟨rfl, trivial⟩ ?_
      repeat (first
        | refine ax_q (q_move rfl) ?_
        | refine ax_q (q_assign rfl) ?_
        | refine ax_ops_nil ?_
        | refine ax_post_code ?_
        | refine ax_seq ?_
        | refine ax_region rfl ?_)
      refine ax_callv rfl rfl rfl c1 ?_
      repeat (refine ax_q (q_move rfl) ?_)
      refine ax_callv rfl rfl rfl c2 ?_
      repeat (first
        | refine ax_q (q_assign rfl) ?_
        | refine ax_ops_nil ?_
        | refine ax_post_code ?_
        | refine ax_return ?_)
      exact ax_ret hR rfl rfl
  · repeat (first
      | refine ax_ops_nil ?_
      | refine ax_post_any ?_
      | refine ax_q (q_loadf_rp rfl rfl rfl rfl) ?_)
    refine ax_any_q 6 rfl (by kernel_rfl) (by kernel_rfl) (by kernel_rfl) rfl (q_len rfl rfl rfl) rfl ?_
    refine ax_any_step (is := [2, 7]) (by kernel_rfl) (by simp) rfl ⟨fun o ho => ?_, fun o ho => ?_, trivial⟩
    all_goals (cases ho)
    · skip
      refine ax_make rfl rfl rfl rfl rfl rfl rfl rfl (by show (0 : Int) ≤ _ ∧ _ ≤ _ ∧ (8 : Int) * _ ≤ _ ∧ _; omega) ?_
      repeat (first
        | refine ax_ops_nil ?_
        | refine ax_post_any ?_)
      refine ax_any_q 8 rfl (by kernel_rfl) (by kernel_rfl) (by kernel_rfl) rfl (q_assign rfl) rfl ?_
      refine ax_any_step (is := [7]) (by kernel_rfl) (by simp) rfl ⟨fun o ho => ?_, trivial⟩
      all_goals (cases ho)
      skip
      refine ax_make rfl rfl rfl rfl rfl rfl rfl rfl (by show (0 : Int) ≤ _ ∧ _ ≤ _ ∧ (8 : Int) * _ ≤ _ ∧ _; omega) ?_
      repeat (first
        | refine ax_ops_nil ?_
        | refine ax_post_any ?_)
      refine ax_any_q 9 rfl (by kernel_rfl) (by kernel_rfl) (by kernel_rfl) rfl (q_assign rfl) rfl ?_
      refine ax_any_done (by kernel_rfl) ?_
      repeat (first
        | refine ax_q (q_move rfl) ?_
        | refine ax_ops_nil ?_
        | refine ax_post_code ?_
        | refine ax_seq ?_
        | refine ax_region rfl ?_
        | refine ax_block ?_
        | refine ax_q (q_len rfl rfl rfl) ?_)
      refine ax_loop (ι := Nat) (fun k => [(6, .sl 0 0 m.length), (7, .sl 1 0 (widM m)), (19, .ro (pairsC l) 0 l.length), (20, .int .i64 (l.length : Nat)), (21, .int .i64 (k : Nat))]) (fun k => [some ⟨3, .ints .i64 (cntI Prod.fst (l.take k) m.length)⟩, some ⟨3, .ints .i64 (cntI Prod.snd (l.take k) (widM m))⟩])
        (fun k => k ≤ l.length) (fun k => l.length - k) 0 ⟨⟨rfl, rfl, rfl, rfl, rfl, trivial⟩, by rw [List.take_zero, cntI_nil, cntI_nil]; rfl, Nat.zero_le _⟩ ?_
      intro k hk
      repeat (first
        | refine ax_ops_nil ?_
        | refine ax_post_code ?_
        | refine ax_seq ?_
        | refine ax_region rfl ?_
        | refine ax_q (q_lss rfl rfl) ?_)
      refine ax_cond_dec rfl (fun h => ?_) (fun h => ?_)
      · have hk' : k < l.length := by omega
        have hx := hin _ (getD_mem (0, 0) hk')
        have s1 := cntI_set Prod.fst l m.length k hk'
        have s2 := cntI_set Prod.snd l (widM m) k hk'
        have b1 := cntI_bd Prod.fst (l.take k) m.length
        have b2 := cntI_bd Prod.snd (l.take k) (widM m)
        have l1 := cntI_len Prod.fst (l.take k) m.length
        have l2 := cntI_len Prod.snd (l.take k) (widM m)
        have tl : (l.take k).length ≤ 200 := by rw [List.length_take]; omega
        generalize cntI Prod.fst (l.take k) m.length = A at *
        generalize cntI Prod.snd (l.take k) (widM m) = B at *
        generalize hxe : l.getD k (0, 0) = x at *
        obtain ⟨x1, x2⟩ := x
        simp only at hx s1 s2
        obtain ⟨i, rfl⟩ := Int.eq_ofNat_of_zero_le hx.1
        obtain ⟨j, rfl⟩ := Int.eq_ofNat_of_zero_le hx.2.2.1
        have hi : i < A.length := by omega
        have hj : j < B.length := by omega
        have s1 := s1 i rfl (by omega)
        have s2 := s2 j rfl (by omega)
        have b1 := b1 _ (getD_mem 0 hi)
        have b2 := b2 _ (getD_mem 0 hj)
        repeat (first
          | refine ax_post_code ?_
          | refine ax_seq ?_
          | refine ax_region rfl ?_
          | refine ax_block ?_
          | refine ax_skip ?_
          | refine ax_q (q_index_ro' rfl rfl rfl rfl (by first | (simp only [Nat.zero_add, Int.toNat_natCast, Int.toNat_zero]; exact rfl) | exact rfl) (by omega)) ?_
          | refine ax_q (q_loadagg_rp rfl rfl rfl rfl rfl rfl) ?_
          | refine ax_alloc rfl rfl rfl ?_)
        refine ax_slot_ops 24 (.agg (cellsP ((i : Int), (j : Int)))) rfl (AEq.of_eq (by rw [← hxe]; rfl)) ?_
        refine ax_storeagg (c' := .box (cellsP ((i : Int), (j : Int)))) rfl rfl rfl rfl rfl Nat.zero_lt_one rfl rfl (fun i' j' hi' hj' => ?_) ?_
        · rw [if_pos (Nat.lt_one_iff.1 hi')]; rfl
        repeat (refine ax_ops_nil ?_)
        refine ax_post_code ?_
        repeat (first
          | refine ax_q (q_move rfl) ?_
          | refine ax_ops_nil ?_
          | refine ax_seq ?_
          | refine ax_region rfl ?_
          | refine ax_q (q_loadb_ptr rfl rfl rfl rfl rfl) ?_
          | refine ax_q (q_add rfl rfl (by omega)) ?_
          | refine ax_q (q_index_sl' rfl rfl rfl rfl rfl (by first | (simp only [Nat.zero_add, Int.toNat_natCast, Int.toNat_zero]; exact rfl) | exact rfl) (by omega)) ?_
          | refine ax_q (q_loadi_ptr rfl rfl rfl rfl (by first | assumption | omega)) ?_
          | refine ax_q (q_idxarr_ptr rfl rfl rfl rfl (by first | (simp only [Nat.zero_add, Int.toNat_natCast]; exact rfl) | exact rfl) (by omega)) ?_
          | refine ax_store rfl rfl rfl rfl rfl rfl rfl (by first | assumption | (show _ < List.length _; first | assumption | omega)) ?_)
        refine ax_post_code ?_
        repeat (first
          | refine ax_q (q_move rfl) ?_
          | refine ax_ops_nil ?_
          | refine ax_region rfl ?_
          | refine ax_post_blk ?_
          | refine ax_q (q_loadb_ptr rfl rfl rfl rfl rfl) ?_
          | refine ax_q (q_add rfl rfl (by omega)) ?_
          | refine ax_q (q_index_sl' rfl rfl rfl rfl rfl (by first | (simp only [Nat.zero_add, Int.toNat_natCast, Int.toNat_zero]; exact rfl) | exact rfl) (by omega)) ?_
          | refine ax_q (q_loadi_ptr rfl rfl rfl rfl (by first | assumption | omega)) ?_
          | refine ax_q (q_idxarr_ptr rfl rfl rfl rfl (by first | (simp only [Nat.zero_add, Int.toNat_natCast]; exact rfl) | exact rfl) (by omega)) ?_
          | refine ax_store rfl rfl rfl rfl rfl rfl rfl (by first | assumption | (show _ < List.length _; first | assumption | omega)) ?_)
        refine ax_post_code ?_
        refine ax_heap ([some ⟨3, .ints .i64 (cntI Prod.fst (l.take (k + 1)) m.length)⟩, some ⟨3, .ints .i64 (cntI Prod.snd (l.take (k + 1)) (widM m))⟩] ++ [none]) ?_ ?_
        · rw [← s1, ← s2]
          exact HSub.eqv (CEq.refl _) (HSub.eqv (CEq.refl _) (HSub.drop HSub.nil))
        refine ax_drop (H1 := [some ⟨3, .ints .i64 (cntI Prod.fst (l.take (k + 1)) m.length)⟩, some ⟨3, .ints .i64 (cntI Prod.snd (l.take (k + 1)) (widM m))⟩]) rfl (by rw [hfix]; exact fun h => h) ?_
        repeat (first
          | refine ax_q (q_move rfl) ?_
          | refine ax_ops_nil ?_
          | refine ax_region rfl ?_
          | refine ax_q (q_add rfl rfl (by omega)) ?_)
        exact ax_post_inv ⟨k + 1, by omega, by omega, ⟨rfl, rfl, rfl, rfl, rfl, trivial⟩, rfl⟩
      · have hke : k = l.length := by omega
        subst hke
        rw [List.take_length]
        have c1 := counts1_ok (cntI Prod.fst l m.length) (by rw [cntI_len]; omega) (fun z hz => by have := cntI_bd _ _ _ z hz; omega)
        have c2 := counts1_ok (cntI Prod.snd l (widM m)) (by rw [cntI_len]; omega) (fun z hz => by have := cntI_bd _ _ _ z hz; omega)
        rw [cntI_cast, cntI_len] at c1 c2
        have l1 := cntI_len Prod.fst l m.length
        have l2 := cntI_len Prod.snd l (widM m)
        generalize cntI Prod.fst l m.length = A at *
        generalize cntI Prod.snd l (widM m) = B at *
        repeat (first
          | refine ax_post_code ?_
          | refine ax_seq ?_
          | refine ax_exit ?_
          | refine ax_exit_here ?_
          | refine ax_exit_code ?_
          | refine ax_exit_inv ?_)
        refine ax_give_code 0 6 m.length [(7, .sl 1 0 (widM m))] rfl refless_ints rfl (by show _ ≤ A.length; omega) ⟨rfl, trivial⟩ ?_
        refine ax_give_code 1 7 (widM m) [(6, .ro (.ints .i64 A) 0 m.length)] rfl refless_ints rfl (by show _ ≤ B.length; omega) ⟨rfl, trivial⟩ ?_
        repeat (first
          | refine ax_q (q_move rfl) ?_
          | refine ax_q (q_assign rfl) ?_
          | refine ax_ops_nil ?_
          | refine ax_post_code ?_
          | refine ax_seq ?_
          | refine ax_region rfl ?_)
        refine ax_callv rfl rfl rfl c1 ?_
        repeat (refine ax_q (q_move rfl) ?_)
        refine ax_callv rfl rfl rfl c2 ?_
        repeat (first
          | refine ax_q (q_assign rfl) ?_
          | refine ax_ops_nil ?_
          | refine ax_post_code ?_
          | refine ax_return ?_)
        exact ax_ret hR rfl rfl
    · skip
      refine ax_make rfl rfl rfl rfl rfl rfl rfl rfl (by show (0 : Int) ≤ _ ∧ _ ≤ _ ∧ (8 : Int) * _ ≤ _ ∧ _; omega) ?_
      repeat (first
        | refine ax_ops_nil ?_
        | refine ax_post_any ?_)
      refine ax_any_step (is := [2]) (by kernel_rfl) (by simp) rfl ⟨fun o ho => ?_, trivial⟩
      all_goals (cases ho)
      skip
      refine ax_make rfl rfl rfl rfl rfl rfl rfl rfl (by show (0 : Int) ≤ _ ∧ _ ≤ _ ∧ (8 : Int) * _ ≤ _ ∧ _; omega) ?_
      repeat (first
        | refine ax_ops_nil ?_
        | refine ax_post_any ?_)
      refine ax_any_q 8 rfl (by kernel_rfl) (by kernel_rfl) (by kernel_rfl) rfl (q_assign rfl) rfl ?_
      refine ax_any_q 9 rfl (by kernel_rfl) (by kernel_rfl) (by kernel_rfl) rfl (q_assign rfl) rfl ?_
      refine ax_any_done (by kernel_rfl) ?_
      repeat (first
        | refine ax_q (q_move rfl) ?_
        | refine ax_ops_nil ?_
        | refine ax_post_code ?_
        | refine ax_seq ?_
        | refine ax_region rfl ?_
        | refine ax_block ?_
        | refine ax_q (q_len rfl rfl rfl) ?_)
      refine ax_loop (ι := Nat) (fun k => [(6, .sl 1 0 m.length), (7, .sl 0 0 (widM m)), (19, .ro (pairsC l) 0 l.length), (20, .int .i64 (l.length : Nat)), (21, .int .i64 (k : Nat))]) (fun k => [some ⟨3, .ints .i64 (cntI Prod.snd (l.take k) (widM m))⟩, some ⟨3, .ints .i64 (cntI Prod.fst (l.take k) m.length)⟩])
        (fun k => k ≤ l.length) (fun k => l.length - k) 0 ⟨⟨rfl, rfl, rfl, rfl, rfl, trivial⟩, by rw [List.take_zero, cntI_nil, cntI_nil]; rfl, Nat.zero_le _⟩ ?_
      intro k hk
      repeat (first
        | refine ax_ops_nil ?_
        | refine ax_post_code ?_
        | refine ax_seq ?_
        | refine ax_region rfl ?_
        | refine ax_q (q_lss rfl rfl) ?_)
      refine ax_cond_dec rfl (fun h => ?_) (fun h => ?_)
      · have hk' : k < l.length := by omega
        have hx := hin _ (getD_mem (0, 0) hk')
        have s1 := cntI_set Prod.fst l m.length k hk'
        have s2 := cntI_set Prod.snd l (widM m) k hk'
        have b1 := cntI_bd Prod.fst (l.take k) m.length
        have b2 := cntI_bd Prod.snd (l.take k) (widM m)
        have l1 := cntI_len Prod.fst (l.take k) m.length
        have l2 := cntI_len Prod.snd (l.take k) (widM m)
        have tl : (l.take k).length ≤ 200 := by rw [List.length_take]; omega
        generalize cntI Prod.fst (l.take k) m.length = A at *
        generalize cntI Prod.snd (l.take k) (widM m) = B at *
        generalize hxe : l.getD k (0, 0) = x at *
        obtain ⟨x1, x2⟩ := x
        simp only at hx s1 s2
        obtain ⟨i, rfl⟩ := Int.eq_ofNat_of_zero_le hx.1
        obtain ⟨j, rfl⟩ := Int.eq_ofNat_of_zero_le hx.2.2.1
        have hi : i < A.length := by omega
        have hj : j < B.length := by omega
        have s1 := s1 i rfl (by omega)
        have s2 := s2 j rfl (by omega)
        have b1 := b1 _ (getD_mem 0 hi)
        have b2 := b2 _ (getD_mem 0 hj)
        repeat (first
          | refine ax_post_code ?_
          | refine ax_seq ?_
          | refine ax_region rfl ?_
          | refine ax_block ?_
          | refine ax_skip ?_
          | refine ax_q (q_index_ro' rfl rfl rfl rfl (by first | (simp only [Nat.zero_add, Int.toNat_natCast, Int.toNat_zero]; exact rfl) | exact rfl) (by omega)) ?_
          | refine ax_q (q_loadagg_rp rfl rfl rfl rfl rfl rfl) ?_
          | refine ax_alloc rfl rfl rfl ?_)
        refine ax_slot_ops 24 (.agg (cellsP ((i : Int), (j : Int)))) rfl (AEq.of_eq (by rw [← hxe]; rfl)) ?_
        refine ax_storeagg (c' := .box (cellsP ((i : Int), (j : Int)))) rfl rfl rfl rfl rfl Nat.zero_lt_one rfl rfl (fun i' j' hi' hj' => ?_) ?_
        · rw [if_pos (Nat.lt_one_iff.1 hi')]; rfl
        repeat (refine ax_ops_nil ?_)
        refine ax_post_code ?_
        repeat (first
          | refine ax_q (q_move rfl) ?_
          | refine ax_ops_nil ?_
          | refine ax_seq ?_
          | refine ax_region rfl ?_
          | refine ax_q (q_loadb_ptr rfl rfl rfl rfl rfl) ?_
          | refine ax_q (q_add rfl rfl (by omega)) ?_
          | refine ax_q (q_index_sl' rfl rfl rfl rfl rfl (by first | (simp only [Nat.zero_add, Int.toNat_natCast, Int.toNat_zero]; exact rfl) | exact rfl) (by omega)) ?_
          | refine ax_q (q_loadi_ptr rfl rfl rfl rfl (by first | assumption | omega)) ?_
          | refine ax_q (q_idxarr_ptr rfl rfl rfl rfl (by first | (simp only [Nat.zero_add, Int.toNat_natCast]; exact rfl) | exact rfl) (by omega)) ?_
          | refine ax_store rfl rfl rfl rfl rfl rfl rfl (by first | assumption | (show _ < List.length _; first | assumption | omega)) ?_)
        refine ax_post_code ?_
        repeat (first
          | refine ax_q (q_move rfl) ?_
          | refine ax_ops_nil ?_
          | refine ax_region rfl ?_
          | refine ax_post_blk ?_
          | refine ax_q (q_loadb_ptr rfl rfl rfl rfl rfl) ?_
          | refine ax_q (q_add rfl rfl (by omega)) ?_
          | refine ax_q (q_index_sl' rfl rfl rfl rfl rfl (by first | (simp only [Nat.zero_add, Int.toNat_natCast, Int.toNat_zero]; exact rfl) | exact rfl) (by omega)) ?_
          | refine ax_q (q_loadi_ptr rfl rfl rfl rfl (by first | assumption | omega)) ?_
          | refine ax_q (q_idxarr_ptr rfl rfl rfl rfl (by first | (simp only [Nat.zero_add, Int.toNat_natCast]; exact rfl) | exact rfl) (by omega)) ?_
          | refine ax_store rfl rfl rfl rfl rfl rfl rfl (by first | assumption | (show _ < List.length _; first | assumption | omega)) ?_)
        refine ax_post_code ?_
        refine ax_heap ([some ⟨3, .ints .i64 (cntI Prod.snd (l.take (k + 1)) (widM m))⟩, some ⟨3, .ints .i64 (cntI Prod.fst (l.take (k + 1)) m.length)⟩] ++ [none]) ?_ ?_
        · rw [← s1, ← s2]
          exact HSub.eqv (CEq.refl _) (HSub.eqv (CEq.refl _) (HSub.drop HSub.nil))
        refine ax_drop (H1 := [some ⟨3, .ints .i64 (cntI Prod.snd (l.take (k + 1)) (widM m))⟩, some ⟨3, .ints .i64 (cntI Prod.fst (l.take (k + 1)) m.length)⟩]) rfl (by rw [hfix]; exact fun h => h) ?_
        repeat (first
          | refine ax_q (q_move rfl) ?_
          | refine ax_ops_nil ?_
          | refine ax_region rfl ?_
          | refine ax_q (q_add rfl rfl (by omega)) ?_)
        exact ax_post_inv ⟨k + 1, by omega, by omega, ⟨rfl, rfl, rfl, rfl, rfl, trivial⟩, rfl⟩
      · have hke : k = l.length := by omega
        subst hke
        rw [List.take_length]
        have c1 := counts1_ok (cntI Prod.fst l m.length) (by rw [cntI_len]; omega) (fun z hz => by have := cntI_bd _ _ _ z hz; omega)
        have c2 := counts1_ok (cntI Prod.snd l (widM m)) (by rw [cntI_len]; omega) (fun z hz => by have := cntI_bd _ _ _ z hz; omega)
        rw [cntI_cast, cntI_len] at c1 c2
        have l1 := cntI_len Prod.fst l m.length
        have l2 := cntI_len Prod.snd l (widM m)
        generalize cntI Prod.fst l m.length = A at *
        generalize cntI Prod.snd l (widM m) = B at *
        repeat (first
          | refine ax_post_code ?_
          | refine ax_seq ?_
          | refine ax_exit ?_
          | refine ax_exit_here ?_
          | refine ax_exit_code ?_
          | refine ax_exit_inv ?_)
        refine ax_give_code 1 6 m.length [(7, .sl 0 0 (widM m))] rfl refless_ints rfl (by show _ ≤ A.length; omega) ⟨rfl, trivial⟩ ?_
        refine ax_give_code 0 7 (widM m) [(6, .ro (.ints .i64 A) 0 m.length)] rfl refless_ints rfl (by show _ ≤ B.length; omega) ⟨rfl, trivial⟩ ?_
        repeat (first
          | refine ax_q (q_move rfl) ?_
          | refine ax_q (q_assign rfl) ?_
          | refine ax_ops_nil ?_
          | refine ax_post_code ?_
          | refine ax_seq ?_
          | refine ax_region rfl ?_)
        refine ax_callv rfl rfl rfl c1 ?_
        repeat (refine ax_q (q_move rfl) ?_)
        refine ax_callv rfl rfl rfl c2 ?_
        repeat (first
          | refine ax_q (q_assign rfl) ?_
          | refine ax_ops_nil ?_
          | refine ax_post_code ?_
          | refine ax_return ?_)
        exact ax_ret hR rfl rfl
end Go.Proofs.YtgmleamhjnlknaaGreatDoor

namespace Go.Proofs.YtgmleamhjnlknaaGreatDoor
open Go.Ax Go.Ax.Bg Go.Ax.Rt Go.RowKit Go.Ax.Idx Go.Ax.Cd
attribute [local irreducible] Ax Post QOp ACall PureOp
set_option maxRecDepth 100000
set_option maxHeartbeats 4000000

theorem cmpQ_bd (a b : Rat) : -1 ≤ cmpQ a b ∧ cmpQ a b ≤ 1 := by
  unfold cmpQ
  split
  · decide
  · split
    · decide
    · decide
theorem rbest_ok (x : List Rat) (sg : Int) (hsg : sg = 1 ∨ sg = -1) (hlen : x.length ≤ 1000000) (hD : ∀ q ∈ x, Sz 100000 q) : VCall Tryz.prog 66 [.ro (qsC x) 0 x.length, .int .i64 sg] (.int .i64 (bestG sg x x.length : Nat)) := by
  rcases hsg with rfl | rfl
  · refine ACall.value0 (acall_of_ax (P := Tryz.prog) (fn := Tryz.f66) rfl rfl (by kernel_rfl) rfl (fun c hR hfix => ?_)) (fix := fun _ => False) (fun _ h => h) rfl rfl
    repeat (first
      | refine ax_q (q_move rfl) ?_
      | refine ax_q (q_assign rfl) ?_
      | refine ax_ops_nil ?_
      | refine ax_post_code ?_
      | refine ax_seq ?_
      | refine ax_region rfl ?_
      | refine ax_block ?_
      | refine ax_q (q_len rfl rfl rfl) ?_)
    refine ax_loop (ι := Nat) (fun k => [(0, .ro (qsC x) 0 x.length), (1, .int .i64 (1)), (5, .int .i64 (bestG (1) x k : Nat)), (8, .ro (qsC x) 0 x.length), (9, .int .i64 (x.length : Nat)), (10, .int .i64 (k : Nat))]) (fun k => [])
      (fun k => k ≤ x.length) (fun k => x.length - k) 0 ⟨⟨rfl, rfl, rfl, rfl, rfl, rfl, trivial⟩, rfl, Nat.zero_le _⟩ ?_
    intro k hk
    repeat (first
      | refine ax_ops_nil ?_
      | refine ax_post_code ?_
      | refine ax_seq ?_
      | refine ax_region rfl ?_
      | refine ax_q (q_lss rfl rfl) ?_)
    refine ax_cond_dec rfl (fun h => ?_) (fun h => ?_)
    · have hk' : k < x.length := by omega
      have hle := bestG_le (1) x k
      have hbl : bestG (1) x k < x.length := by omega
      have hc := qcmp_ok (x.getD k 0) (x.getD (bestG (1) x k) 0) (hD _ (getD_mem 0 hk')) (hD _ (getD_mem 0 hbl))
      have hcb := cmpQ_bd (x.getD k 0) (x.getD (bestG (1) x k) 0)
      have hs : bestG (1) x (k + 1) = if 0 < cmpQ (x.getD k 0) (x.getD (bestG (1) x k) 0) * (1) then k else bestG (1) x k := rfl
      generalize bestG (1) x k = b at *
      generalize cmpQ (x.getD k 0) (x.getD b 0) = z at *
      repeat (first
        | refine ax_q (q_move rfl) ?_
        | refine ax_q (q_assign rfl) ?_
        | refine ax_post_code ?_
        | refine ax_seq ?_
        | refine ax_region rfl ?_
        | refine ax_block ?_
        | refine ax_skip ?_
        | refine ax_q (q_index_ro' rfl rfl rfl rfl (by first | (simp only [Nat.zero_add, Int.toNat_natCast, Int.toNat_zero]; exact rfl) | exact rfl) (by omega)) ?_
        | refine ax_q (q_loadagg_rp rfl rfl rfl rfl rfl rfl) ?_
        | refine ax_alloc rfl rfl rfl ?_)
      refine ax_slot_ops 14 (.agg (cellsQ (x.getD k 0))) rfl (AEq.of_eq rfl) ?_
      refine ax_storeagg (c' := .box (cellsQ (x.getD k 0))) rfl rfl rfl rfl rfl Nat.zero_lt_one rfl rfl (fun i' j' hi' hj' => ?_) ?_
      · rw [if_pos (Nat.lt_one_iff.1 hi')]; rfl
      repeat (first
        | refine ax_ops_nil ?_
        | refine ax_post_code ?_
        | refine ax_seq ?_)
      refine ax_regiond (by kernel_rfl) ?_
      refine ax_any_run (fuel := 0) [0, 1, 2, 3, 4, 5, 6, 7, 8] [(0, .ro (qsC x) 0 x.length), (1, .int .i64 (1)), (5, .int .i64 (b : Nat)), (7, .ptr 0 0 0), (6, .int .i64 (k : Nat)), (8, .ro (qsC x) 0 x.length), (9, .int .i64 (x.length : Nat)), (10, .int .i64 (k : Nat))] ⟨rfl, rfl, rfl, rfl, rfl, rfl, rfl, rfl, trivial⟩ (by kernel_rfl) (by decide) rfl rfl ?_
      refine px_q rfl rfl (q_loadpart_ptr rfl rfl rfl rfl rfl rfl rfl (by first | exact Nat.zero_lt_one | assumption | omega)) ?_
      refine px_q rfl rfl (q_move rfl) ?_
      refine px_q rfl rfl (q_move rfl) ?_
      refine px_q rfl rfl (q_index_ro' rfl rfl rfl rfl (by first | (simp only [Nat.zero_add, Int.toNat_natCast, Int.toNat_zero]; exact rfl) | exact rfl) (by omega)) ?_
      refine px_q rfl rfl (q_loadagg_rp rfl rfl rfl rfl rfl rfl) ?_
      refine px_v rfl rfl rfl rfl rfl hc ?_
      refine px_q rfl rfl (q_move rfl) ?_
      refine px_q rfl rfl (q_mul rfl rfl (by omega)) ?_
      refine px_q rfl rfl (q_gtr rfl rfl) ?_
      refine px_done ?_
      refine ax_any_done (by kernel_rfl) ?_
      repeat (refine ax_post_code ?_)
      refine ax_cond_dec rfl (fun h1 => ?_) (fun h1 => ?_)
      · rw [if_pos h1] at hs
        repeat (first
          | refine ax_q (q_move rfl) ?_
          | refine ax_q (q_assign rfl) ?_
          | refine ax_ops_nil ?_
          | refine ax_region rfl ?_
          | refine ax_post_blk ?_)
        refine ax_post_code ?_
        refine ax_heap [none] (HSub.drop HSub.nil) ?_
        refine ax_drop (H1 := []) rfl (by rw [hfix]; exact fun h => h) ?_
        repeat (first
          | refine ax_q (q_move rfl) ?_
          | refine ax_ops_nil ?_
          | refine ax_region rfl ?_
          | refine ax_q (q_add rfl rfl (by omega)) ?_)
        exact ax_post_inv ⟨k + 1, by omega, by omega, ⟨rfl, rfl, by show some (AV.int _ _) = some _; rw [hs], rfl, rfl, rfl, trivial⟩, rfl⟩
      · rw [if_neg h1] at hs
        repeat (first
          | refine ax_post_blk ?_
          | refine ax_skip ?_)
        refine ax_post_code ?_
        refine ax_heap [none] (HSub.drop HSub.nil) ?_
        refine ax_drop (H1 := []) rfl (by rw [hfix]; exact fun h => h) ?_
        repeat (first
          | refine ax_q (q_move rfl) ?_
          | refine ax_ops_nil ?_
          | refine ax_region rfl ?_
          | refine ax_q (q_add rfl rfl (by omega)) ?_)
        exact ax_post_inv ⟨k + 1, by omega, by omega, ⟨rfl, rfl, by show some (AV.int _ _) = some _; rw [hs], rfl, rfl, rfl, trivial⟩, rfl⟩
    · have hk' : k = x.length := by omega
      subst hk'
      repeat (first
        | refine ax_q (q_move rfl) ?_
        | refine ax_q (q_assign rfl) ?_
        | refine ax_ops_nil ?_
        | refine ax_post_code ?_
        | refine ax_seq ?_
        | refine ax_region rfl ?_
        | refine ax_exit ?_
        | refine ax_exit_here ?_
        | refine ax_exit_code ?_
        | refine ax_exit_inv ?_
        | refine ax_return ?_)
      exact ax_ret hR rfl rfl
  · refine ACall.value0 (acall_of_ax (P := Tryz.prog) (fn := Tryz.f66) rfl rfl (by kernel_rfl) rfl (fun c hR hfix => ?_)) (fix := fun _ => False) (fun _ h => h) rfl rfl
    repeat (first
      | refine ax_q (q_move rfl) ?_
      | refine ax_q (q_assign rfl) ?_
      | refine ax_ops_nil ?_
      | refine ax_post_code ?_
      | refine ax_seq ?_
      | refine ax_region rfl ?_
      | refine ax_block ?_
      | refine ax_q (q_len rfl rfl rfl) ?_)
    refine ax_loop (ι := Nat) (fun k => [(0, .ro (qsC x) 0 x.length), (1, .int .i64 (-1)), (5, .int .i64 (bestG (-1) x k : Nat)), (8, .ro (qsC x) 0 x.length), (9, .int .i64 (x.length : Nat)), (10, .int .i64 (k : Nat))]) (fun k => [])
      (fun k => k ≤ x.length) (fun k => x.length - k) 0 ⟨⟨rfl, rfl, rfl, rfl, rfl, rfl, trivial⟩, rfl, Nat.zero_le _⟩ ?_
    intro k hk
    repeat (first
      | refine ax_ops_nil ?_
      | refine ax_post_code ?_
      | refine ax_seq ?_
      | refine ax_region rfl ?_
      | refine ax_q (q_lss rfl rfl) ?_)
    refine ax_cond_dec rfl (fun h => ?_) (fun h => ?_)
    · have hk' : k < x.length := by omega
      have hle := bestG_le (-1) x k
      have hbl : bestG (-1) x k < x.length := by omega
      have hc := qcmp_ok (x.getD k 0) (x.getD (bestG (-1) x k) 0) (hD _ (getD_mem 0 hk')) (hD _ (getD_mem 0 hbl))
      have hcb := cmpQ_bd (x.getD k 0) (x.getD (bestG (-1) x k) 0)
      have hs : bestG (-1) x (k + 1) = if 0 < cmpQ (x.getD k 0) (x.getD (bestG (-1) x k) 0) * (-1) then k else bestG (-1) x k := rfl
      generalize bestG (-1) x k = b at *
      generalize cmpQ (x.getD k 0) (x.getD b 0) = z at *
      repeat (first
        | refine ax_q (q_move rfl) ?_
        | refine ax_q (q_assign rfl) ?_
        | refine ax_post_code ?_
        | refine ax_seq ?_
        | refine ax_region rfl ?_
        | refine ax_block ?_
        | refine ax_skip ?_
        | refine ax_q (q_index_ro' rfl rfl rfl rfl (by first | (simp only [Nat.zero_add, Int.toNat_natCast, Int.toNat_zero]; exact rfl) | exact rfl) (by omega)) ?_
        | refine ax_q (q_loadagg_rp rfl rfl rfl rfl rfl rfl) ?_
        | refine ax_alloc rfl rfl rfl ?_)
      refine ax_slot_ops 14 (.agg (cellsQ (x.getD k 0))) rfl (AEq.of_eq rfl) ?_
      refine ax_storeagg (c' := .box (cellsQ (x.getD k 0))) rfl rfl rfl rfl rfl Nat.zero_lt_one rfl rfl (fun i' j' hi' hj' => ?_) ?_
      · rw [if_pos (Nat.lt_one_iff.1 hi')]; rfl
      repeat (first
        | refine ax_ops_nil ?_
        | refine ax_post_code ?_
        | refine ax_seq ?_)
      refine ax_regiond (by kernel_rfl) ?_
      refine ax_any_run (fuel := 0) [0, 1, 2, 3, 4, 5, 6, 7, 8] [(0, .ro (qsC x) 0 x.length), (1, .int .i64 (-1)), (5, .int .i64 (b : Nat)), (7, .ptr 0 0 0), (6, .int .i64 (k : Nat)), (8, .ro (qsC x) 0 x.length), (9, .int .i64 (x.length : Nat)), (10, .int .i64 (k : Nat))] ⟨rfl, rfl, rfl, rfl, rfl, rfl, rfl, rfl, trivial⟩ (by kernel_rfl) (by decide) rfl rfl ?_
      refine px_q rfl rfl (q_loadpart_ptr rfl rfl rfl rfl rfl rfl rfl (by first | exact Nat.zero_lt_one | assumption | omega)) ?_
      refine px_q rfl rfl (q_move rfl) ?_
      refine px_q rfl rfl (q_move rfl) ?_
      refine px_q rfl rfl (q_index_ro' rfl rfl rfl rfl (by first | (simp only [Nat.zero_add, Int.toNat_natCast, Int.toNat_zero]; exact rfl) | exact rfl) (by omega)) ?_
      refine px_q rfl rfl (q_loadagg_rp rfl rfl rfl rfl rfl rfl) ?_
      refine px_v rfl rfl rfl rfl rfl hc ?_
      refine px_q rfl rfl (q_move rfl) ?_
      refine px_q rfl rfl (q_mul rfl rfl (by omega)) ?_
      refine px_q rfl rfl (q_gtr rfl rfl) ?_
      refine px_done ?_
      refine ax_any_done (by kernel_rfl) ?_
      repeat (refine ax_post_code ?_)
      refine ax_cond_dec rfl (fun h1 => ?_) (fun h1 => ?_)
      · rw [if_pos h1] at hs
        repeat (first
          | refine ax_q (q_move rfl) ?_
          | refine ax_q (q_assign rfl) ?_
          | refine ax_ops_nil ?_
          | refine ax_region rfl ?_
          | refine ax_post_blk ?_)
        refine ax_post_code ?_
        refine ax_heap [none] (HSub.drop HSub.nil) ?_
        refine ax_drop (H1 := []) rfl (by rw [hfix]; exact fun h => h) ?_
        repeat (first
          | refine ax_q (q_move rfl) ?_
          | refine ax_ops_nil ?_
          | refine ax_region rfl ?_
          | refine ax_q (q_add rfl rfl (by omega)) ?_)
        exact ax_post_inv ⟨k + 1, by omega, by omega, ⟨rfl, rfl, by show some (AV.int _ _) = some _; rw [hs], rfl, rfl, rfl, trivial⟩, rfl⟩
      · rw [if_neg h1] at hs
        repeat (first
          | refine ax_post_blk ?_
          | refine ax_skip ?_)
        refine ax_post_code ?_
        refine ax_heap [none] (HSub.drop HSub.nil) ?_
        refine ax_drop (H1 := []) rfl (by rw [hfix]; exact fun h => h) ?_
        repeat (first
          | refine ax_q (q_move rfl) ?_
          | refine ax_ops_nil ?_
          | refine ax_region rfl ?_
          | refine ax_q (q_add rfl rfl (by omega)) ?_)
        exact ax_post_inv ⟨k + 1, by omega, by omega, ⟨rfl, rfl, by show some (AV.int _ _) = some _; rw [hs], rfl, rfl, rfl, trivial⟩, rfl⟩
    · have hk' : k = x.length := by omega
      subst hk'
      repeat (first
        | refine ax_q (q_move rfl) ?_
        | refine ax_q (q_assign rfl) ?_
        | refine ax_ops_nil ?_
        | refine ax_post_code ?_
        | refine ax_seq ?_
        | refine ax_region rfl ?_
        | refine ax_exit ?_
        | refine ax_exit_here ?_
        | refine ax_exit_code ?_
        | refine ax_exit_inv ?_
        | refine ax_return ?_)
      exact ax_ret hR rfl rfl
theorem parts_ok (x : List Rat) (n : Nat) (hn : 0 < n ∧ n ≤ 1000000) (hlen : x.length ≤ 1000000) (hD : ∀ q ∈ x, Sz 100000 q) : VCall Tryz.prog 84 [.ro (qsC x) 0 x.length, .int .i64 (n : Nat)] (.ro (qsC (x.map (fun q => q / (n : Rat)))) 0 x.length) := by
  have hof := qof_ok (n : Int) (by omega)
  rw [Rat.intCast_natCast] at hof
  have hn0 : (n : Rat) ≠ 0 := by
    rw [← Rat.intCast_natCast]
    exact intc_ne (by omega)
  have hszn : Sz 100000 (n : Rat) := by
    refine sz_D (m := 100000) (D.mono (j := 7) ⟨?_, ?_⟩ (by omega))
    · show (n : Rat).num.natAbs < _
      rw [← Rat.intCast_natCast]
      show (n : Int).natAbs < _
      rw [Int.natAbs_natCast]; omega
    · rw [← Rat.intCast_natCast]
      show 1 < _
      decide
  refine ACall.value0 (acall_of_ax (P := Tryz.prog) (fn := Tryz.f84) rfl rfl (by kernel_rfl) rfl (fun c hR hfix => ?_)) (fix := fun _ => False) (fun _ h => h) rfl rfl
  repeat (first
    | refine ax_q (q_move rfl) ?_
    | refine ax_q (q_assign rfl) ?_
    | refine ax_ops_nil ?_
    | refine ax_post_code ?_
    | refine ax_seq ?_
    | refine ax_region rfl ?_
    | refine ax_q (q_len rfl rfl rfl) ?_)
  refine ax_nilobj 5 ⟨108, qsC []⟩ rfl rfl ?_
  repeat (refine ax_block ?_)
  refine ax_loop (ι := Nat) (fun k => [(0, .ro (qsC x) 0 x.length), (1, .int .i64 (n : Nat)), (5, .sl 0 0 k), (8, .ro (qsC x) 0 x.length), (9, .int .i64 (x.length : Nat)), (10, .int .i64 (k : Nat))]) (fun k => [some ⟨108, qsC ((x.take k).map (fun q => q / (n : Rat)))⟩])
    (fun k => k ≤ x.length) (fun k => x.length - k) 0 ⟨⟨rfl, rfl, rfl, rfl, rfl, rfl, trivial⟩, rfl, Nat.zero_le _⟩ ?_
  intro k hk
  repeat (first
    | refine ax_ops_nil ?_
    | refine ax_post_code ?_
    | refine ax_seq ?_
    | refine ax_region rfl ?_
    | refine ax_q (q_lss rfl rfl) ?_)
  refine ax_cond_dec rfl (fun h => ?_) (fun h => ?_)
  · have hk' : k < x.length := by omega
    have hc := qdiv_ok (x.getD k 0) (n : Rat) (hD _ (getD_mem 0 hk')) hszn hn0
    have htk := map_take_succ (fun q : Rat => q / (n : Rat)) x 0 k hk'
    have hml : ((x.take k).map (fun q : Rat => q / (n : Rat))).length = k := by rw [List.length_map, List.length_take]; omega
    generalize (x.take k).map (fun q : Rat => q / (n : Rat)) = qs at *
    generalize hqe : x.getD k 0 = q at *
    repeat (first
      | refine ax_post_code ?_
      | refine ax_seq ?_
      | refine ax_region rfl ?_
      | refine ax_block ?_
      | refine ax_skip ?_
      | refine ax_q (q_index_ro' rfl rfl rfl rfl (by first | (simp only [Nat.zero_add, Int.toNat_natCast, Int.toNat_zero]; exact rfl) | exact rfl) (by omega)) ?_
      | refine ax_q (q_loadagg_rp rfl rfl rfl rfl rfl rfl) ?_
      | refine ax_alloc rfl rfl rfl ?_)
    refine ax_slot_ops 13 (.agg (cellsQ q)) rfl (AEq.of_eq (by rw [← hqe]; rfl)) ?_
    refine ax_storeagg (c' := .box (cellsQ q)) rfl rfl rfl rfl rfl Nat.zero_lt_one rfl rfl (fun i' j' hi' hj' => ?_) ?_
    · rw [if_pos (Nat.lt_one_iff.1 hi')]; rfl
    repeat (first
      | refine ax_ops_nil ?_
      | refine ax_post_code ?_)
    refine ax_regiond (by kernel_rfl) ?_
    refine ax_any_q 0 rfl (by kernel_rfl) (by kernel_rfl) (by kernel_rfl) rfl (q_move rfl) rfl ?_
    refine ax_any_q 2 rfl (by kernel_rfl) (by kernel_rfl) (by kernel_rfl) rfl (q_move rfl) rfl ?_
    refine ax_any_step (is := [1, 3]) (by kernel_rfl) (by simp) rfl ⟨fun o ho => ?_, fun o ho => ?_, trivial⟩
    all_goals (cases ho)
    · repeat (first
        | refine ax_ops_nil ?_
        | refine ax_post_any ?_
        | refine ax_q (q_loadpart_ptr rfl rfl rfl rfl rfl rfl rfl (by first | exact Nat.zero_lt_one | assumption | omega)) ?_)
      refine ax_any_step (is := [3]) (by kernel_rfl) (by simp) rfl ⟨fun o ho => ?_, trivial⟩
      all_goals (cases ho)
      skip
      refine ax_callv rfl rfl rfl hof ?_
      repeat (first
        | refine ax_ops_nil ?_
        | refine ax_post_any ?_)
      refine ax_any_step (is := [4]) (by kernel_rfl) (by simp) rfl ⟨fun o ho => ?_, trivial⟩
      all_goals (cases ho)
      skip
      refine ax_callv rfl rfl rfl hc ?_
      repeat (first
        | refine ax_ops_nil ?_
        | refine ax_post_any ?_)
      refine ax_any_step (is := [5]) (by kernel_rfl) (by simp) rfl ⟨fun o ho => ?_, trivial⟩
      all_goals (cases ho)
      repeat (first
        | refine ax_ops_nil ?_
        | refine ax_post_any ?_
        | refine ax_buildSliceRo rfl rfl rfl rfl rfl rfl rfl rfl rfl rfl rfl ?_)
      unfold qA
      skip
      refine ax_any_step (is := [6]) (by kernel_rfl) (by simp) rfl ⟨fun o ho => ?_, trivial⟩
      all_goals (cases ho)
      skip
      refine ax_append rfl rfl rfl rfl rfl rfl rfl rfl rfl hml rfl rfl (by show 0 + 1 ≤ 1; omega) rfl (by show (k + 1) * 56 ≤ _ ∧ _; omega) ?_ (by rw [hfix]; exact fun h => h) ?_
      · intro i' j hi hj
        exact rowE_noref 0 3 cellsQ cellsQ_noref qs (q / (n : Rat)) _ (rowQ1 _) 0 i' j hi hj
      repeat (first
        | refine ax_ops_nil ?_
        | refine ax_post_any ?_)
      refine ax_any_q 7 rfl (by kernel_rfl) (by kernel_rfl) (by kernel_rfl) rfl (q_assign rfl) rfl ?_
      refine ax_any_done (by kernel_rfl) ?_
      repeat (refine ax_post_blk ?_)
      refine ax_post_code ?_
      refine ax_heap ([some ⟨108, qsC ((x.take (k + 1)).map (fun q => q / (n : Rat)))⟩] ++ [none]) ?_ ?_
      · rw [htk]
        exact HSub.eqv (rowE_snoc 0 3 cellsQ qs (q / (n : Rat)) _ (rowQ1 _)) (HSub.drop HSub.nil)
      refine ax_drop (H1 := [some ⟨108, qsC ((x.take (k + 1)).map (fun q => q / (n : Rat)))⟩]) rfl (by rw [hfix]; exact fun h => h) ?_
      refine ax_heap [some ⟨108, qsC ((x.take (k + 1)).map (fun q => q / (n : Rat)))⟩] ?_ ?_
      · exact HSub.eqv ⟨rfl, rfl, fun i j _ hj => (cellsQ_noref _ j _ hj).symm⟩ HSub.nil
      repeat (first
        | refine ax_q (q_move rfl) ?_
        | refine ax_ops_nil ?_
        | refine ax_region rfl ?_
        | refine ax_q (q_add rfl rfl (by omega)) ?_)
      exact ax_post_inv ⟨k + 1, by omega, by omega, ⟨rfl, rfl, rfl, rfl, rfl, rfl, trivial⟩, rfl⟩
    · skip
      refine ax_callv rfl rfl rfl hof ?_
      repeat (first
        | refine ax_ops_nil ?_
        | refine ax_post_any ?_)
      refine ax_any_step (is := [1]) (by kernel_rfl) (by simp) rfl ⟨fun o ho => ?_, trivial⟩
      all_goals (cases ho)
      repeat (first
        | refine ax_ops_nil ?_
        | refine ax_post_any ?_
        | refine ax_q (q_loadpart_ptr rfl rfl rfl rfl rfl rfl rfl (by first | exact Nat.zero_lt_one | assumption | omega)) ?_)
      refine ax_any_step (is := [4]) (by kernel_rfl) (by simp) rfl ⟨fun o ho => ?_, trivial⟩
      all_goals (cases ho)
      skip
      refine ax_callv rfl rfl rfl hc ?_
      repeat (first
        | refine ax_ops_nil ?_
        | refine ax_post_any ?_)
      refine ax_any_step (is := [5]) (by kernel_rfl) (by simp) rfl ⟨fun o ho => ?_, trivial⟩
      all_goals (cases ho)
      repeat (first
        | refine ax_ops_nil ?_
        | refine ax_post_any ?_
        | refine ax_buildSliceRo rfl rfl rfl rfl rfl rfl rfl rfl rfl rfl rfl ?_)
      unfold qA
      skip
      refine ax_any_step (is := [6]) (by kernel_rfl) (by simp) rfl ⟨fun o ho => ?_, trivial⟩
      all_goals (cases ho)
      skip
      refine ax_append rfl rfl rfl rfl rfl rfl rfl rfl rfl hml rfl rfl (by show 0 + 1 ≤ 1; omega) rfl (by show (k + 1) * 56 ≤ _ ∧ _; omega) ?_ (by rw [hfix]; exact fun h => h) ?_
      · intro i' j hi hj
        exact rowE_noref 0 3 cellsQ cellsQ_noref qs (q / (n : Rat)) _ (rowQ1 _) 0 i' j hi hj
      repeat (first
        | refine ax_ops_nil ?_
        | refine ax_post_any ?_)
      refine ax_any_q 7 rfl (by kernel_rfl) (by kernel_rfl) (by kernel_rfl) rfl (q_assign rfl) rfl ?_
      refine ax_any_done (by kernel_rfl) ?_
      repeat (refine ax_post_blk ?_)
      refine ax_post_code ?_
      refine ax_heap ([some ⟨108, qsC ((x.take (k + 1)).map (fun q => q / (n : Rat)))⟩] ++ [none]) ?_ ?_
      · rw [htk]
        exact HSub.eqv (rowE_snoc 0 3 cellsQ qs (q / (n : Rat)) _ (rowQ1 _)) (HSub.drop HSub.nil)
      refine ax_drop (H1 := [some ⟨108, qsC ((x.take (k + 1)).map (fun q => q / (n : Rat)))⟩]) rfl (by rw [hfix]; exact fun h => h) ?_
      refine ax_heap [some ⟨108, qsC ((x.take (k + 1)).map (fun q => q / (n : Rat)))⟩] ?_ ?_
      · exact HSub.eqv ⟨rfl, rfl, fun i j _ hj => (cellsQ_noref _ j _ hj).symm⟩ HSub.nil
      repeat (first
        | refine ax_q (q_move rfl) ?_
        | refine ax_ops_nil ?_
        | refine ax_region rfl ?_
        | refine ax_q (q_add rfl rfl (by omega)) ?_)
      exact ax_post_inv ⟨k + 1, by omega, by omega, ⟨rfl, rfl, rfl, rfl, rfl, rfl, trivial⟩, rfl⟩
  · have hk' : k = x.length := by omega
    subst hk'
    rw [List.take_length]
    repeat (first
      | refine ax_post_code ?_
      | refine ax_seq ?_
      | refine ax_exit ?_
      | refine ax_exit_here ?_
      | refine ax_exit_code ?_
      | refine ax_exit_inv ?_)
    refine ax_give_code 0 5 x.length [] rfl (refless_qs _) rfl (by show _ ≤ (x.map _).length; rw [List.length_map]; exact Nat.le_refl _) trivial ?_
    repeat (first
      | refine ax_q (q_move rfl) ?_
      | refine ax_q (q_assign rfl) ?_
      | refine ax_ops_nil ?_
      | refine ax_post_code ?_
      | refine ax_region rfl ?_
      | refine ax_return ?_)
    exact ax_ret hR rfl rfl
end Go.Proofs.YtgmleamhjnlknaaGreatDoor

/-
  A store of a struct or array into a part of a longer element; lists of own objects.
-/
namespace Go.Ax
variable [Pins]
open Go.RowKit

section
variable {ind : Bool} {P : Program} {fn : Func} {c : Ctx} {fr : Fr} {H : AHeap} {k : List It}
variable {d : Option Nat} {ty : TypeId} {pos : String} {after : Array Edge} {g : Option (Nat × Bool)}

/-- Own objects of one kind, one behind the other. -/
def manyH {α : Type} (t : TypeId) (f : α → Cells) (l : List α) : AHeap := l.map (fun a => some ⟨t, f a⟩)
end
end Go.Ax

