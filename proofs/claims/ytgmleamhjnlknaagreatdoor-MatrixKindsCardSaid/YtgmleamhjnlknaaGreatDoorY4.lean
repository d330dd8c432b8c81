import Derived.Test.YtgmleamhjnlknaaGreatDoorY3
set_option linter.unusedVariables false
set_option linter.unusedSimpArgs false
namespace Go.Proofs.YtgmleamhjnlknaaGreatDoor
open Go.Ax Go.Ax.Bg Go.Ax.Rt Go.RowKit
attribute [local irreducible] Ax Post QOp ACall PureOp
set_option maxRecDepth 100000
set_option maxHeartbeats 4000000

def cellS (r : List Text) : List AV := [.ro (.strs r) 0 r.length]
def cellR (r : List Rat) : List AV := [.ro (qsC r) 0 r.length]
abbrev rowsT (m : List (List Text)) : Cells := rowE [] 1 cellS m
abbrev rowsQ (m : List (List Rat)) : Cells := rowE [] 1 cellR m
theorem cellS_noref (r : List Text) (j h : Nat) (hj : j < 1) : ((cellS r).getD j .any).forget h = (cellS r).getD j .any := by
  obtain rfl : j = 0 := by omega
  rfl
theorem cellR_noref (r : List Rat) (j h : Nat) (hj : j < 1) : ((cellR r).getD j .any).forget h = (cellR r).getD j .any := by
  obtain rfl : j = 0 := by omega
  rfl
theorem refless_rowsT (m : List (List Text)) : refless (rowsT m) := by
  intro i j _ hj
  obtain rfl : j = 0 := by have hj : j < 1 := hj; omega
  rfl
theorem refless_rowsQ (m : List (List Rat)) : refless (rowsQ m) := by
  intro i j _ hj
  obtain rfl : j = 0 := by have hj : j < 1 := hj; omega
  rfl
theorem rowR1 (q : List Rat) (j : Nat) (hj : j < 1) : (rowOf 1 1 [.ro (qsC q) 0 q.length]).at 0 j = (cellR q).getD j .any := by
  obtain rfl : j = 0 := by omega
  rfl
theorem rowS1 (q : List Text) (j : Nat) (hj : j < 1) : (rowOf 1 1 [.ro (.strs q) 0 q.length]).at 0 j = (cellS q).getD j .any := by
  obtain rfl : j = 0 := by omega
  rfl
theorem vec_ok (v : List Text) (hlen : v.length ≤ 9223372036854775807) (hs : ∀ s ∈ v, s.length ≤ 9223372036854775807) : VCall Tryz.prog 42 [.ro (.strs v) 0 v.length] (.int .i64 (vecE v)) := by
  have h1 := checkAll_ok v hlen hs
  unfold vecE
  refine ACall.value0 (acall_of_ax (P := Tryz.prog) (fn := Tryz.f42) rfl rfl (by kernel_rfl) rfl (fun c hR hfix => ?_)) (fix := fun _ => False) (fun _ h => h) rfl rfl
  repeat (first
    | refine ax_q (q_move rfl) ?_
    | refine ax_q (q_assign rfl) ?_
    | refine ax_ops_nil ?_
    | refine ax_post_code ?_
    | refine ax_seq ?_
    | refine ax_region rfl ?_
    | refine ax_q (q_gtr rfl rfl) ?_
    | refine ax_q (q_len rfl rfl rfl) ?_)
  refine ax_cond_dec rfl (fun h => ?_) (fun h => ?_)
  · rw [if_pos (by omega)] at hR
    repeat (first
      | refine ax_q (q_assign rfl) ?_
      | refine ax_ops_nil ?_
      | refine ax_post_code ?_
      | refine ax_seq ?_
      | refine ax_region rfl ?_
      | refine ax_return ?_
      | refine ax_ret_code ?_)
    exact ax_ret hR rfl rfl
  · rw [if_neg (by omega)] at hR
    repeat (first
      | refine ax_q (q_move rfl) ?_
      | refine ax_post_code ?_
      | refine ax_seq ?_
      | refine ax_region rfl ?_
      | refine ax_skip ?_)
    refine ax_callv rfl rfl rfl h1 ?_
    repeat (first
      | refine ax_q (q_assign rfl) ?_
      | refine ax_ops_nil ?_
      | refine ax_post_code ?_
      | refine ax_return ?_)
    exact ax_ret hR rfl rfl
theorem width_ok (m : List (List Text)) (hlen : m.length ≤ 9223372036854775807) : VCall Tryz.prog 93 [.ro (rowsT m) 0 m.length] (.int .i64 (widM m : Nat)) := by
  refine ACall.value0 (acall_of_ax (P := Tryz.prog) (fn := Tryz.f93) rfl rfl (by kernel_rfl) rfl (fun c hR hfix => ?_)) (fix := fun _ => False) (fun _ h => h) rfl rfl
  repeat (first
    | refine ax_q (q_move rfl) ?_
    | refine ax_q (q_assign rfl) ?_
    | refine ax_ops_nil ?_
    | refine ax_post_code ?_
    | refine ax_seq ?_
    | refine ax_region rfl ?_
    | refine ax_q (q_eql rfl rfl) ?_
    | refine ax_q (q_len rfl rfl rfl) ?_)
  refine ax_cond_dec rfl (fun h => ?_) (fun h => ?_)
  · obtain rfl : m = [] := List.length_eq_zero_iff.1 (by omega)
    repeat (first
      | refine ax_q (q_assign rfl) ?_
      | refine ax_ops_nil ?_
      | refine ax_post_code ?_
      | refine ax_seq ?_
      | refine ax_region rfl ?_
      | refine ax_return ?_
      | refine ax_ret_code ?_)
    exact ax_ret hR rfl rfl
  · have hm : 0 < m.length := by omega
    repeat (first
      | refine ax_q (q_move rfl) ?_
      | refine ax_q (q_assign rfl) ?_
      | refine ax_ops_nil ?_
      | refine ax_post_code ?_
      | refine ax_seq ?_
      | refine ax_region rfl ?_
      | refine ax_skip ?_
      | refine ax_return ?_
      | refine ax_q (q_loadf_rp rfl rfl rfl rfl) ?_
      | refine ax_q (q_len rfl rfl rfl) ?_
      | refine ax_q (q_index_ro' rfl rfl rfl rfl (by first | (simp only [Nat.zero_add, Int.toNat_natCast, Int.toNat_zero]; exact rfl) | exact rfl) (by omega)) ?_)
    exact ax_ret hR rfl rfl
theorem mcheck_ok (m : List (List Text)) (hlen : m.length ≤ 9223372036854775807) (hr : ∀ r ∈ m, r.length ≤ 9223372036854775807 ∧ ∀ s ∈ r, s.length ≤ 9223372036854775807) : VCall Tryz.prog 92 [.ro (rowsT m) 0 m.length] (.int .i64 (matE m)) := by
  unfold matE
  refine ACall.value0 (acall_of_ax (P := Tryz.prog) (fn := Tryz.f92) rfl rfl (by kernel_rfl) rfl (fun c hR hfix => ?_)) (fix := fun _ => False) (fun _ h => h) rfl rfl
  repeat (first
    | refine ax_q (q_move rfl) ?_
    | refine ax_q (q_assign rfl) ?_
    | refine ax_ops_nil ?_
    | refine ax_post_code ?_
    | refine ax_seq ?_
    | refine ax_region rfl ?_
    | refine ax_q (q_gtr rfl rfl) ?_
    | refine ax_q (q_len rfl rfl rfl) ?_)
  refine ax_cond_dec rfl (fun h => ?_) (fun h => ?_)
  · rw [if_pos (by omega)] at hR
    repeat (first
      | refine ax_q (q_assign rfl) ?_
      | refine ax_ops_nil ?_
      | refine ax_post_code ?_
      | refine ax_seq ?_
      | refine ax_region rfl ?_
      | refine ax_return ?_
      | refine ax_ret_code ?_)
    exact ax_ret hR rfl rfl
  rw [if_neg (by omega)] at hR
  repeat (first
    | refine ax_q (q_move rfl) ?_
    | refine ax_ops_nil ?_
    | refine ax_post_code ?_
    | refine ax_seq ?_
    | refine ax_region rfl ?_
    | refine ax_block ?_
    | refine ax_skip ?_
    | refine ax_q (q_len rfl rfl rfl) ?_)
  refine ax_loop (ι := Nat) (fun k => [(0, .ro (rowsT m) 0 m.length), (9, .ro (rowsT m) 0 m.length), (10, .int .i64 (m.length : Nat)), (11, .int .i64 (k : Nat))]) (fun _ => [])
    (fun k => k ≤ m.length ∧ rowsE (widM m) m = rowsE (widM m) (m.drop k)) (fun k => m.length - k) 0 ⟨⟨rfl, rfl, rfl, rfl, trivial⟩, rfl, Nat.zero_le _, by rw [List.drop_zero]⟩ ?_
  intro k ⟨hk, hE⟩
  repeat (first
    | refine ax_ops_nil ?_
    | refine ax_post_code ?_
    | refine ax_seq ?_
    | refine ax_region rfl ?_
    | refine ax_q (q_lss rfl rfl) ?_)
  refine ax_cond_dec rfl (fun h => ?_) (fun h => ?_)
  · have hk' : k < m.length := by omega
    have hm : 0 < m.length := by omega
    have hd := drop_cons (d := []) hk'
    have hc := vec_ok (m.getD k []) (hr _ (getD_mem [] hk')).1 (hr _ (getD_mem [] hk')).2
    rw [hd, rowsE] at hE
    repeat (first
      | refine ax_q (q_move rfl) ?_
      | refine ax_q (q_assign rfl) ?_
      | refine ax_ops_nil ?_
      | refine ax_post_code ?_
      | refine ax_seq ?_
      | refine ax_region rfl ?_
      | refine ax_block ?_
      | refine ax_skip ?_
      | refine ax_q (q_loadf_rp rfl rfl rfl rfl) ?_
      | refine ax_q (q_neq rfl rfl) ?_
      | refine ax_q (q_len rfl rfl rfl) ?_
      | refine ax_q (q_index_ro' rfl rfl rfl rfl (by first | (simp only [Nat.zero_add, Int.toNat_natCast, Int.toNat_zero]; exact rfl) | exact rfl) (by omega)) ?_)
    refine ax_cond_dec rfl (fun h2 => ?_) (fun h2 => ?_)
    · have h3 : ¬ (m.getD k []).length = widM m := fun e => h2 (by show (((m.getD k []).length : Nat) : Int) = ((widM m : Nat) : Int); omega)
      rw [if_neg h3] at hE
      rw [hE] at hR
      repeat (first
        | refine ax_q (q_assign rfl) ?_
        | refine ax_ops_nil ?_
        | refine ax_post_code ?_
        | refine ax_seq ?_
        | refine ax_region rfl ?_
        | refine ax_return ?_
        | refine ax_ret_code ?_
        | refine ax_ret_blk ?_
        | refine ax_ret_inv ?_)
      exact ax_ret hR rfl rfl
    · have h3 : (m.getD k []).length = widM m := by
        have h4 : (((m.getD k []).length : Nat) : Int) = ((widM m : Nat) : Int) := Classical.not_not.1 h2
        omega
      rw [if_pos h3] at hE
      repeat (first
        | refine ax_q (q_move rfl) ?_
        | refine ax_post_code ?_
        | refine ax_seq ?_
        | refine ax_region rfl ?_
        | refine ax_skip ?_)
      refine ax_callv rfl rfl rfl hc ?_
      repeat (first
        | refine ax_q (q_move rfl) ?_
        | refine ax_q (q_assign rfl) ?_
        | refine ax_ops_nil ?_
        | refine ax_post_code ?_
        | refine ax_seq ?_
        | refine ax_region rfl ?_
        | refine ax_q (q_neq rfl rfl) ?_)
      refine ax_cond_dec rfl (fun h5 => ?_) (fun h5 => ?_)
      · rw [if_neg h5] at hE
        rw [hE] at hR
        repeat (first
          | refine ax_q (q_move rfl) ?_
          | refine ax_q (q_assign rfl) ?_
          | refine ax_ops_nil ?_
          | refine ax_post_code ?_
          | refine ax_seq ?_
          | refine ax_region rfl ?_
          | refine ax_return ?_
          | refine ax_ret_code ?_
          | refine ax_ret_blk ?_
          | refine ax_ret_inv ?_)
        exact ax_ret hR rfl rfl
      · rw [if_pos (Classical.not_not.1 h5)] at hE
        repeat (first
          | refine ax_q (q_move rfl) ?_
          | refine ax_ops_nil ?_
          | refine ax_post_code ?_
          | refine ax_region rfl ?_
          | refine ax_post_blk ?_
          | refine ax_skip ?_
          | refine ax_q (q_add rfl rfl (by omega)) ?_)
        exact ax_post_inv ⟨k + 1, ⟨by omega, hE⟩, by omega, ⟨rfl, rfl, rfl, rfl, trivial⟩, rfl⟩
  · have hk' : k = m.length := by omega
    subst hk'
    rw [List.drop_length] at hE
    rw [hE] at hR
    repeat (first
      | refine ax_q (q_assign rfl) ?_
      | refine ax_ops_nil ?_
      | refine ax_post_code ?_
      | refine ax_seq ?_
      | refine ax_region rfl ?_
      | refine ax_exit ?_
      | refine ax_exit_here ?_
      | refine ax_exit_code ?_
      | refine ax_exit_inv ?_
      | refine ax_return ?_)
    exact ax_ret hR rfl rfl
theorem in_ok' (l : List Text) (hlen : l.length ≤ 1000000) (hs : ∀ s ∈ l, s.length ≤ 9223372036854775807 ∧ ratE s = 0) : VCall Tryz.prog 70 [.ro (.strs l) 0 l.length] (.ro (qsC (l.map ratV)) 0 (l.map ratV).length) := by
  have := in_ok l hlen hs
  rwa [List.length_map]
theorem min_ok (m : List (List Text)) (hlen : m.length ≤ 1000000) (hr : ∀ r ∈ m, r.length ≤ 1000000 ∧ ∀ s ∈ r, s.length ≤ 9223372036854775807 ∧ ratE s = 0) : VCall Tryz.prog 64 [.ro (rowsT m) 0 m.length] (.ro (rowsQ (inM m)) 0 m.length) := by
  refine ACall.value0 (acall_of_ax (P := Tryz.prog) (fn := Tryz.f64) rfl rfl (by kernel_rfl) rfl (fun c hR hfix => ?_)) (fix := fun _ => False) (fun _ h => h) rfl rfl
  repeat (first
    | refine ax_q (q_move rfl) ?_
    | refine ax_q (q_assign rfl) ?_
    | refine ax_ops_nil ?_
    | refine ax_post_code ?_
    | refine ax_seq ?_
    | refine ax_region rfl ?_
    | refine ax_q (q_len rfl rfl rfl) ?_)
  refine ax_nilobj 3 ⟨102, rowsQ []⟩ rfl rfl ?_
  repeat (refine ax_block ?_)
  refine ax_loop (ι := Nat) (fun k => [(0, .ro (rowsT m) 0 m.length), (3, .sl 0 0 k), (6, .ro (rowsT m) 0 m.length), (7, .int .i64 (m.length : Nat)), (8, .int .i64 (k : Nat))]) (fun k => [some ⟨102, rowsQ ((m.take k).map (fun r => r.map ratV))⟩])
    (fun k => k ≤ m.length) (fun k => m.length - k) 0 ⟨⟨rfl, rfl, rfl, rfl, rfl, trivial⟩, rfl, Nat.zero_le _⟩ ?_
  intro k hk
  repeat (first
    | refine ax_ops_nil ?_
    | refine ax_post_code ?_
    | refine ax_seq ?_
    | refine ax_region rfl ?_
    | refine ax_q (q_lss rfl rfl) ?_)
  refine ax_cond_dec rfl (fun h => ?_) (fun h => ?_)
  · have hk' : k < m.length := by omega
    obtain ⟨b1, b2⟩ := hr _ (getD_mem [] hk')
    have hc := in_ok' (m.getD k []) b1 b2
    have htk := map_take_succ (fun r : List Text => r.map ratV) m [] k hk'
    have hml : ((m.take k).map (fun r : List Text => r.map ratV)).length = k := by rw [List.length_map, List.length_take]; omega
    generalize (m.take k).map (fun r : List Text => r.map ratV) = qs at *
    generalize (m.getD k []).map ratV = q at *
    repeat (first
      | refine ax_q (q_move rfl) ?_
      | refine ax_q (q_assign rfl) ?_
      | refine ax_ops_nil ?_
      | refine ax_post_code ?_
      | refine ax_seq ?_
      | refine ax_region rfl ?_
      | refine ax_block ?_
      | refine ax_skip ?_
      | refine ax_q (q_loadf_rp rfl rfl rfl rfl) ?_
      | refine ax_q (q_index_ro' rfl rfl rfl rfl (by first | (simp only [Nat.zero_add, Int.toNat_natCast, Int.toNat_zero]; exact rfl) | exact rfl) (by omega)) ?_)
    refine ax_callv rfl rfl rfl hc ?_
    repeat (refine ax_buildSliceRo rfl rfl rfl rfl rfl rfl rfl rfl rfl rfl rfl ?_)
    refine ax_append rfl rfl rfl rfl rfl rfl rfl rfl rfl hml rfl rfl (by show 0 + 1 ≤ 1; omega) rfl (by show (k + 1) * 24 ≤ _ ∧ _; omega) ?_ (by rw [hfix]; exact fun h => h) ?_
    · intro i' j hi hj
      exact rowE_noref [] 1 cellR cellR_noref qs q _ (rowR1 _) 0 i' j hi hj
    repeat (first
      | refine ax_q (q_assign rfl) ?_
      | refine ax_ops_nil ?_
      | refine ax_post_blk ?_)
    refine ax_post_code ?_
    refine ax_heap [some ⟨102, rowsQ ((m.take (k + 1)).map (fun r => r.map ratV))⟩] ?_ ?_
    · rw [htk]
      exact HSub.eqv (rowE_snoc [] 1 cellR qs q _ (rowR1 _)) HSub.nil
    repeat (first
      | refine ax_q (q_move rfl) ?_
      | refine ax_ops_nil ?_
      | refine ax_region rfl ?_
      | refine ax_q (q_add rfl rfl (by omega)) ?_)
    exact ax_post_inv ⟨k + 1, by omega, by omega, ⟨rfl, rfl, rfl, rfl, rfl, trivial⟩, rfl⟩
  · have hk' : k = m.length := by omega
    subst hk'
    rw [List.take_length]
    repeat (first
      | refine ax_post_code ?_
      | refine ax_seq ?_
      | refine ax_exit ?_
      | refine ax_exit_here ?_
      | refine ax_exit_code ?_
      | refine ax_exit_inv ?_)
    refine ax_give_code 0 3 m.length [] rfl (refless_rowsQ _) rfl (by show _ ≤ (m.map _).length; rw [List.length_map]; exact Nat.le_refl _) trivial ?_
    repeat (first
      | refine ax_q (q_move rfl) ?_
      | refine ax_q (q_assign rfl) ?_
      | refine ax_ops_nil ?_
      | refine ax_post_code ?_
      | refine ax_region rfl ?_
      | refine ax_return ?_)
    exact ax_ret hR rfl rfl
end Go.Proofs.YtgmleamhjnlknaaGreatDoor

namespace Go.Proofs.YtgmleamhjnlknaaGreatDoor
open Go.Ax Go.Ax.Bg Go.Ax.Rt Go.RowKit
attribute [local irreducible] Ax Post QOp ACall PureOp
set_option maxRecDepth 100000
set_option maxHeartbeats 4000000

theorem sz_D {m : Nat} {q : Rat} (h : D (9 * m) q) : Sz m q := by
  have key : ∀ n : Nat, n < 10 ^ (9 * m) → (natL n).length ≤ m := fun n hn => by
    refine natL_len_le (Nat.lt_of_lt_of_le hn ?_)
    rw [Nat.pow_mul]
    exact Nat.pow_le_pow_left (by decide) m
  exact ⟨key _ h.1, key _ h.2⟩
theorem dot_ok (a b : List Rat) (j k : Nat) (ha : ∀ q ∈ a, D j q) (hb : ∀ q ∈ b, D k q) (hl : a.length ≤ b.length) (hal : b.length ≤ 1000000) (hK : 1 + a.length * (j + k + 1) ≤ 900000) : VCall Tryz.prog 95 [.ro (qsC a) 0 a.length, .ro (qsC b) 0 b.length] (qA (dotQ a b)) := by
  refine ACall.value0 (acall_of_ax (P := Tryz.prog) (fn := Tryz.f95) rfl rfl (by kernel_rfl) rfl (fun c hR hfix => ?_)) (fix := fun _ => False) (fun _ h => h) rfl rfl
  repeat (first
    | refine ax_ops_nil ?_
    | refine ax_post_code ?_
    | refine ax_seq ?_
    | refine ax_region rfl ?_
    | refine ax_alloc rfl rfl rfl ?_)
  refine ax_callv rfl rfl rfl of_zero ?_
  repeat (refine ax_alloc rfl rfl rfl ?_)
  refine ax_storeagg (c' := .box (cellsQ 0)) rfl rfl rfl rfl rfl Nat.zero_lt_one rfl rfl (fun i' j' hi' hj' => ?_) ?_
  · rw [if_pos (Nat.lt_one_iff.1 hi')]; rfl
  repeat (first
    | refine ax_q (q_move rfl) ?_
    | refine ax_ops_nil ?_
    | refine ax_post_code ?_
    | refine ax_seq ?_
    | refine ax_region rfl ?_
    | refine ax_block ?_
    | refine ax_q (q_len rfl rfl rfl) ?_)
  refine ax_loop (ι := Nat × Rat) (fun p => [(0, .ro (qsC a) 0 a.length), (1, .ro (qsC b) 0 b.length), (4, .ptr 0 0 0), (5, .ptr 1 0 0), (9, .ro (qsC a) 0 a.length), (10, .int .i64 (a.length : Nat)), (11, .int .i64 (p.1 : Nat))]) (fun p => [some ⟨108, .box [.bool false, .nil, .nil]⟩, some ⟨108, .box (cellsQ p.2)⟩])
    (fun p => p.1 ≤ a.length ∧ p.2 = sumN (fun i => a.getD i 0 * b.getD i 0) p.1) (fun p => a.length - p.1) (0, 0) ⟨⟨rfl, rfl, rfl, rfl, rfl, rfl, rfl, trivial⟩, rfl, Nat.zero_le _, rfl⟩ ?_
  rintro ⟨i, acc⟩ ⟨hi, hA⟩
  simp only at *
  have hterm : ∀ i', i' < a.length → D (j + k) (a.getD i' 0 * b.getD i' 0) := fun i' h' => (ha _ (getD_mem 0 h')).mul (hb _ (getD_mem 0 (by omega)))
  have hDa : D (1 + i * (j + k + 1)) acc := by rw [hA]; exact sumN_D (fun i' h' => hterm i' (by omega))
  have hb1 : i * (j + k + 1) ≤ a.length * (j + k + 1) := Nat.mul_le_mul_right _ hi
  repeat (first
    | refine ax_ops_nil ?_
    | refine ax_post_code ?_
    | refine ax_seq ?_
    | refine ax_region rfl ?_
    | refine ax_q (q_lss rfl rfl) ?_)
  refine ax_cond_dec rfl (fun h => ?_) (fun h => ?_)
  · have hi' : i < a.length := by omega
    have hib : i < b.length := by omega
    have hm := hterm i hi'
    have hx := ha _ (getD_mem 0 hi')
    have hy := hb _ (getD_mem 0 hib)
    have hsz1 : Sz 100000 (a.getD i 0) := sz_D (hx.mono (by have := Nat.le_mul_of_pos_left (j + k + 1) (show 0 < a.length by omega); omega))
    have hsz2 : Sz 100000 (b.getD i 0) := sz_D (hy.mono (by have := Nat.le_mul_of_pos_left (j + k + 1) (show 0 < a.length by omega); omega))
    have hsz3 : Sz 100000 (a.getD i 0 * b.getD i 0) := sz_D (hm.mono (by have := Nat.le_mul_of_pos_left (j + k + 1) (show 0 < a.length by omega); omega))
    have hsz4 : Sz 100000 acc := sz_D (hDa.mono (by omega))
    have hnext : acc + a.getD i 0 * b.getD i 0 = sumN (fun i => a.getD i 0 * b.getD i 0) (i + 1) := by rw [sumN, hA]
    repeat (first
      | refine ax_q (q_move rfl) ?_
      | refine ax_q (q_assign rfl) ?_
      | refine ax_post_code ?_
      | refine ax_seq ?_
      | refine ax_region rfl ?_
      | refine ax_block ?_
      | refine ax_skip ?_
      | refine ax_q (q_index_ro' rfl rfl rfl rfl (by first | (simp only [Nat.zero_add, Int.toNat_natCast, Int.toNat_zero]; exact rfl) | exact rfl) (by omega)) ?_
      | refine ax_q (q_loadagg_rp rfl rfl rfl rfl rfl rfl) ?_
      | refine ax_alloc rfl rfl rfl ?_)
    refine ax_slot_ops 15 (.agg (cellsQ (a.getD i 0))) rfl (AEq.of_eq rfl) ?_
    have e5 : b.getD i 0 = b.getD i 0 := rfl
    generalize hp : a.getD i 0 = p at *
    have g1 := qsign_ok p
    refine ax_storeagg (c' := .box (cellsQ p)) rfl rfl rfl rfl rfl Nat.zero_lt_one rfl rfl (fun i' j' hi' hj' => ?_) ?_
    · rw [if_pos (Nat.lt_one_iff.1 hi')]; rfl
    repeat (first
      | refine ax_ops_nil ?_
      | refine ax_post_code ?_
      | refine ax_seq ?_
      | refine ax_region rfl ?_
      | refine ax_q (q_loadpart_ptr rfl rfl rfl rfl rfl rfl rfl (by first | exact Nat.zero_lt_one | assumption | omega)) ?_)
    refine ax_callv rfl rfl rfl g1 ?_
    repeat (first
      | refine ax_q (q_move rfl) ?_
      | refine ax_q (q_neq rfl rfl) ?_)
    have hz : ∀ x : Rat, sgn x.num = 0 → x = 0 := fun x hx => sgn_zero.1 hx
    generalize hq : b.getD i 0 = q at *
    have g2 := qsign_ok q
    have g3 := qmul_ok p q hsz1 hsz2
    have g4 := qadd_ok acc (p * q) hsz4 hsz3
    have g3' : VCall Tryz.prog 118 [qA p, qA (b.getD i 0)] (qA (p * q)) := by rw [hq]; exact g3
    refine ax_gsplit rfl rfl (fun h1 => ?_) (fun h1 => ?_)
    · repeat (first
        | refine ax_q (q_move rfl) ?_
        | refine ax_guard rfl rfl ?_
        | refine ax_q (q_index_ro' rfl rfl rfl rfl (by first | (simp only [Nat.zero_add, Int.toNat_natCast, Int.toNat_zero]; exact rfl) | exact rfl) (by omega)) ?_
        | refine ax_q (q_loadagg_rp rfl rfl rfl rfl rfl rfl) ?_)
      refine ax_slot_ops 23 (.agg (cellsQ q)) rfl (AEq.of_eq (by rw [← hq]; rfl)) ?_
      refine ax_callv rfl rfl rfl g2 ?_
      repeat (first
        | refine ax_ops_nil ?_
        | refine ax_post_code ?_
        | refine ax_guard rfl rfl ?_
        | refine ax_q (q_neq rfl rfl) ?_
        | refine ax_q (q_pick rfl rfl) ?_)
      refine ax_cond_dec rfl (fun h2 => ?_) (fun h2 => ?_)
      · skip
        refine ax_regiond (by kernel_rfl) ?_
        refine ax_any_run (fuel := 1) [0, 1, 2, 3, 4, 5, 6, 7] [(0, .ro (qsC a) 0 a.length), (1, .ro (qsC b) 0 b.length), (5, .ptr 1 0 0), (7, .ptr 2 0 0), (6, .int .i64 (i : Nat)), (4, .ptr 0 0 0), (9, .ro (qsC a) 0 a.length), (10, .int .i64 (a.length : Nat)), (11, .int .i64 (i : Nat))] ⟨rfl, rfl, rfl, rfl, rfl, rfl, rfl, rfl, rfl, trivial⟩ (by kernel_rfl) (by decide) rfl rfl ?_
        refine px_q rfl rfl (q_loadpart_ptr rfl rfl rfl rfl rfl rfl rfl (by first | exact Nat.zero_lt_one | assumption | omega)) ?_
        refine px_q rfl rfl (q_loadpart_ptr rfl rfl rfl rfl rfl rfl rfl (by first | exact Nat.zero_lt_one | assumption | omega)) ?_
        refine px_q rfl rfl (q_move rfl) ?_
        refine px_q rfl rfl (q_move rfl) ?_
        refine px_q rfl rfl (q_index_ro' rfl rfl rfl rfl (by first | (simp only [Nat.zero_add, Int.toNat_natCast, Int.toNat_zero]; exact rfl) | exact rfl) (by omega)) ?_
        refine px_q rfl rfl (q_loadagg_rp rfl rfl rfl rfl rfl rfl) ?_
        refine px_v rfl rfl rfl rfl rfl g3' ?_
        refine px_v rfl rfl rfl rfl rfl g4 ?_
        refine px_done ?_
        refine ax_any_step (is := [8]) (by kernel_rfl) (by simp) rfl ⟨fun o ho => ?_, trivial⟩
        all_goals (cases ho)
        skip
        unfold qA
        refine ax_storeagg (c' := .box (cellsQ (acc + p * q))) rfl rfl rfl rfl rfl Nat.zero_lt_one rfl rfl (fun i' j' hi' hj' => ?_) ?_
        · rw [if_pos (Nat.lt_one_iff.1 hi')]; rfl
        repeat (first
          | refine ax_ops_nil ?_
          | refine ax_post_any ?_)
        refine ax_any_done (by kernel_rfl) ?_
        repeat (refine ax_post_blk ?_)
        refine ax_post_code ?_
        refine ax_heap ([some ⟨108, .box [.bool false, .nil, .nil]⟩, some ⟨108, .box (cellsQ (acc + p * q))⟩] ++ [none]) ?_ ?_
        · exact HSub.eqv (CEq.refl _) (HSub.eqv (CEq.refl _) (HSub.drop HSub.nil))
        refine ax_drop (H1 := [some ⟨108, .box [.bool false, .nil, .nil]⟩, some ⟨108, .box (cellsQ (acc + p * q))⟩]) rfl (by rw [hfix]; exact fun h => h) ?_
        repeat (first
          | refine ax_q (q_move rfl) ?_
          | refine ax_ops_nil ?_
          | refine ax_region rfl ?_
          | refine ax_q (q_add rfl rfl (by omega)) ?_)
        exact ax_post_inv ⟨(i + 1, (acc + p * q)), ⟨by simp only; omega, hnext⟩, by simp only; omega, ⟨rfl, rfl, rfl, rfl, rfl, rfl, rfl, trivial⟩, rfl⟩
      · have e0 : q = 0 := hz q (Classical.not_not.1 h2)
        rw [e0, Rat.mul_zero, Rat.add_zero] at hnext
        repeat (first
          | refine ax_post_blk ?_
          | refine ax_skip ?_)
        refine ax_post_code ?_
        refine ax_heap ([some ⟨108, .box [.bool false, .nil, .nil]⟩, some ⟨108, .box (cellsQ acc)⟩] ++ [none]) ?_ ?_
        · exact HSub.eqv (CEq.refl _) (HSub.eqv (CEq.refl _) (HSub.drop HSub.nil))
        refine ax_drop (H1 := [some ⟨108, .box [.bool false, .nil, .nil]⟩, some ⟨108, .box (cellsQ acc)⟩]) rfl (by rw [hfix]; exact fun h => h) ?_
        repeat (first
          | refine ax_q (q_move rfl) ?_
          | refine ax_ops_nil ?_
          | refine ax_region rfl ?_
          | refine ax_q (q_add rfl rfl (by omega)) ?_)
        exact ax_post_inv ⟨(i + 1, acc), ⟨by simp only; omega, hnext⟩, by simp only; omega, ⟨rfl, rfl, rfl, rfl, rfl, rfl, rfl, trivial⟩, rfl⟩
    · have e0 : p = 0 := hz p (Classical.not_not.1 h1)
      rw [e0, Rat.zero_mul, Rat.add_zero] at hnext
      repeat (first
        | refine ax_ops_nil ?_
        | refine ax_skip_not rfl rfl rfl ?_
        | refine ax_q (q_pick rfl rfl) ?_)
      refine ax_post_code ?_
      refine ax_heap ([some ⟨108, .box [.bool false, .nil, .nil]⟩, some ⟨108, .box (cellsQ acc)⟩] ++ [none]) ?_ ?_
      · exact HSub.eqv (CEq.refl _) (HSub.eqv (CEq.refl _) (HSub.drop HSub.nil))
      refine ax_drop (H1 := [some ⟨108, .box [.bool false, .nil, .nil]⟩, some ⟨108, .box (cellsQ acc)⟩]) rfl (by rw [hfix]; exact fun h => h) ?_
      repeat (first
        | refine ax_q (q_move rfl) ?_
        | refine ax_ops_nil ?_
        | refine ax_post_code ?_
        | refine ax_region rfl ?_
        | refine ax_cond_false rfl ?_
        | refine ax_post_blk ?_
        | refine ax_skip ?_
        | refine ax_q (q_add rfl rfl (by omega)) ?_)
      exact ax_post_inv ⟨(i + 1, acc), ⟨by simp only; omega, hnext⟩, by simp only; omega, ⟨rfl, rfl, rfl, rfl, rfl, rfl, rfl, trivial⟩, rfl⟩
  · have hi' : i = a.length := by omega
    subst hi'
    have e : dotQ a b = acc := hA.symm
    rw [e] at hR
    repeat (first
      | refine ax_post_code ?_
      | refine ax_seq ?_
      | refine ax_region rfl ?_
      | refine ax_exit ?_
      | refine ax_exit_here ?_
      | refine ax_exit_code ?_
      | refine ax_exit_inv ?_
      | refine ax_q (q_loadpart_ptr rfl rfl rfl rfl rfl rfl rfl (by first | exact Nat.zero_lt_one | assumption | omega)) ?_)
    refine ax_storeagg (c' := .box (cellsQ acc)) rfl rfl rfl rfl rfl Nat.zero_lt_one rfl rfl (fun i' j' hi' hj' => ?_) ?_
    · rw [if_pos (Nat.lt_one_iff.1 hi')]; rfl
    repeat (first
      | refine ax_ops_nil ?_
      | refine ax_post_code ?_
      | refine ax_return ?_)
    exact ax_ret hR rfl rfl
end Go.Proofs.YtgmleamhjnlknaaGreatDoor

namespace Go.Proofs.YtgmleamhjnlknaaGreatDoor
open Go.Ax Go.Ax.Bg Go.Ax.Rt Go.RowKit
attribute [local irreducible] Ax Post QOp ACall PureOp
set_option maxRecDepth 100000
set_option maxHeartbeats 4000000

theorem cols_ok (m : List (List Rat)) (w : Nat) (hlen : m.length ≤ 1000000) (hw : w ≤ 1000000) (hr : ∀ r ∈ m, r.length = w) : VCall Tryz.prog 94 [.ro (rowsQ m) 0 m.length, .int .i64 (w : Nat)] (.ro (rowsQ (colsQ m w)) 0 w) := by
  refine ACall.value0 (acall_of_ax (P := Tryz.prog) (fn := Tryz.f94) rfl rfl (by kernel_rfl) rfl (fun c hR hfix => ?_)) (fix := fun _ => False) (fun _ h => h) rfl rfl
  repeat (first
    | refine ax_q (q_move rfl) ?_
    | refine ax_q (q_assign rfl) ?_
    | refine ax_ops_nil ?_
    | refine ax_post_code ?_
    | refine ax_seq ?_
    | refine ax_region rfl ?_)
  refine ax_nilobj 5 ⟨102, rowsQ []⟩ rfl rfl ?_
  repeat (refine ax_block ?_)
  refine ax_loop (ι := Nat) (fun k => [(0, .ro (rowsQ m) 0 m.length), (5, .sl 0 0 k), (10, .int .i64 (w : Nat)), (11, .int .i64 (k : Nat))]) (fun k => [some ⟨102, rowsQ ((List.range k).map (colQ m))⟩])
    (fun k => k ≤ w) (fun k => w - k) 0 ⟨⟨rfl, rfl, rfl, rfl, trivial⟩, rfl, Nat.zero_le _⟩ ?_
  intro k hk
  repeat (first
    | refine ax_ops_nil ?_
    | refine ax_post_code ?_
    | refine ax_seq ?_
    | refine ax_region rfl ?_
    | refine ax_q (q_lss rfl rfl) ?_)
  refine ax_cond_dec rfl (fun h => ?_) (fun h => ?_)
  · have hk' : k < w := by omega
    repeat (first
      | refine ax_post_code ?_
      | refine ax_seq ?_
      | refine ax_skip ?_)
    refine ax_block ?_
    repeat (first
      | refine ax_q (q_move rfl) ?_
      | refine ax_q (q_assign rfl) ?_
      | refine ax_ops_nil ?_
      | refine ax_post_code ?_
      | refine ax_seq ?_
      | refine ax_region rfl ?_
      | refine ax_q (q_len rfl rfl rfl) ?_)
    refine ax_nilobj 7 ⟨108, qsC []⟩ rfl rfl ?_
    repeat (refine ax_block ?_)
    refine ax_loop (ι := Nat) (fun j => [(0, .ro (rowsQ m) 0 m.length), (5, .sl 0 0 k), (6, .int .i64 (k : Nat)), (7, .sl 1 0 j), (10, .int .i64 (w : Nat)), (11, .int .i64 (k : Nat)), (14, .ro (rowsQ m) 0 m.length), (15, .int .i64 (m.length : Nat)), (16, .int .i64 (j : Nat))]) (fun j => [some ⟨102, rowsQ ((List.range k).map (colQ m))⟩, some ⟨108, qsC (colQ (m.take j) k)⟩])
      (fun j => j ≤ m.length) (fun j => m.length - j) 0 ⟨⟨rfl, rfl, rfl, rfl, rfl, rfl, rfl, rfl, rfl, trivial⟩, rfl, Nat.zero_le _⟩ ?_
    intro j hj
    repeat (first
      | refine ax_ops_nil ?_
      | refine ax_post_code ?_
      | refine ax_seq ?_
      | refine ax_region rfl ?_
      | refine ax_q (q_lss rfl rfl) ?_)
    refine ax_cond_dec rfl (fun h2 => ?_) (fun h2 => ?_)
    · have hj' : j < m.length := by omega
      have hrl := hr _ (getD_mem [] hj')
      have htk : colQ (m.take (j + 1)) k = colQ (m.take j) k ++ [(m.getD j []).getD k 0] := map_take_succ (fun row : List Rat => row.getD k 0) m [] j hj'
      have hml : (colQ (m.take j) k).length = j := by rw [colQ_len, List.length_take]; omega
      generalize colQ (m.take j) k = qs at *
      generalize (List.range k).map (colQ m) = rs at *
      have hkr : k < (m.getD j []).length := by omega
      repeat (first
        | refine ax_q (q_move rfl) ?_
        | refine ax_q (q_assign rfl) ?_
        | refine ax_ops_nil ?_
        | refine ax_post_code ?_
        | refine ax_seq ?_
        | refine ax_region rfl ?_
        | refine ax_block ?_
        | refine ax_skip ?_
        | refine ax_q (q_loadf_rp rfl rfl rfl rfl) ?_
        | refine ax_q (q_index_ro' rfl rfl rfl rfl (by first | (simp only [Nat.zero_add, Int.toNat_natCast, Int.toNat_zero]; exact rfl) | exact rfl) (by omega)) ?_
        | refine ax_q (q_loadagg_rp rfl rfl rfl rfl rfl rfl) ?_)
      refine ax_slot_ops 24 (.agg (cellsQ ((m.getD j []).getD k 0))) rfl (AEq.of_eq rfl) ?_
      generalize (m.getD j []).getD k 0 = q at *
      repeat (refine ax_buildSliceRo rfl rfl rfl rfl rfl rfl rfl rfl rfl rfl rfl ?_)
      refine ax_append rfl rfl rfl rfl rfl rfl rfl rfl rfl hml rfl rfl (by show 0 + 1 ≤ 1; omega) rfl (by show (j + 1) * 56 ≤ _ ∧ _; omega) ?_ (by rw [hfix]; exact fun h => h) ?_
      · intro i' j' hi hj'
        exact rowE_noref 0 3 cellsQ cellsQ_noref qs q _ (rowQ1 _) 1 i' j' hi hj'
      repeat (first
        | refine ax_q (q_assign rfl) ?_
        | refine ax_ops_nil ?_
        | refine ax_post_blk ?_)
      refine ax_post_code ?_
      refine ax_heap [some ⟨102, rowsQ rs⟩, some ⟨108, qsC (colQ (m.take (j + 1)) k)⟩] ?_ ?_
      · rw [htk]
        exact HSub.eqv ⟨rfl, rfl, fun i j _ hj => (cellR_noref _ j _ hj).symm⟩ (HSub.eqv (rowE_snoc 0 3 cellsQ qs q _ (rowQ1 _)) HSub.nil)
      repeat (first
        | refine ax_q (q_move rfl) ?_
        | refine ax_ops_nil ?_
        | refine ax_region rfl ?_
        | refine ax_q (q_add rfl rfl (by omega)) ?_)
      exact ax_post_inv ⟨j + 1, by omega, by omega, ⟨rfl, rfl, rfl, rfl, rfl, rfl, rfl, rfl, rfl, trivial⟩, rfl⟩
    · have hj' : j = m.length := by omega
      subst hj'
      rw [List.take_length]
      have hcl : (colQ m k).length = m.length := colQ_len m k
      have hml : ((List.range k).map (colQ m)).length = k := by simp
      have htk : (List.range (k + 1)).map (colQ m) = (List.range k).map (colQ m) ++ [colQ m k] := by rw [List.range_succ, List.map_append]; rfl
      generalize (List.range k).map (colQ m) = rs at *
      generalize colQ m k = col at *
      repeat (first
        | refine ax_post_code ?_
        | refine ax_exit ?_
        | refine ax_exit_here ?_
        | refine ax_exit_code ?_
        | refine ax_exit_inv ?_)
      refine ax_give_code 1 7 m.length [(0, .ro (rowsQ m) 0 m.length), (5, .sl 0 0 k), (10, .int .i64 (w : Nat)), (11, .int .i64 (k : Nat))] rfl (refless_qs _) rfl (by show _ ≤ col.length; omega) ⟨rfl, rfl, rfl, rfl, trivial⟩ ?_
      refine ax_slot 7 (.ro (qsC col) 0 col.length) rfl (AEq.of_eq (by rw [hcl])) ?_
      repeat (first
        | refine ax_q (q_move rfl) ?_
        | refine ax_region rfl ?_
        | refine ax_buildSliceRo rfl rfl rfl rfl rfl rfl rfl rfl rfl rfl rfl ?_)
      refine ax_append rfl rfl rfl rfl rfl rfl rfl rfl rfl hml rfl rfl (by show 0 + 1 ≤ 1; omega) rfl (by show (k + 1) * 24 ≤ _ ∧ _; omega) ?_ (by rw [hfix]; exact fun h => h) ?_
      · intro i' j hi hj
        exact rowE_noref [] 1 cellR cellR_noref rs col _ (rowR1 _) 0 i' j hi hj
      repeat (first
        | refine ax_q (q_assign rfl) ?_
        | refine ax_ops_nil ?_
        | refine ax_post_blk ?_)
      refine ax_post_code ?_
      refine ax_heap ([some ⟨102, rowsQ ((List.range (k + 1)).map (colQ m))⟩] ++ [none]) ?_ ?_
      · rw [htk]
        exact HSub.eqv (rowE_snoc [] 1 cellR rs col _ (rowR1 _)) (HSub.drop HSub.nil)
      refine ax_drop (H1 := [some ⟨102, rowsQ ((List.range (k + 1)).map (colQ m))⟩]) rfl (by rw [hfix]; exact fun h => h) ?_
      refine ax_heap [some ⟨102, rowsQ ((List.range (k + 1)).map (colQ m))⟩] ?_ ?_
      · exact HSub.eqv ⟨rfl, rfl, fun i j _ hj => (cellR_noref _ j _ hj).symm⟩ HSub.nil
      repeat (first
        | refine ax_q (q_move rfl) ?_
        | refine ax_ops_nil ?_
        | refine ax_region rfl ?_
        | refine ax_q (q_add rfl rfl (by omega)) ?_)
      exact ax_post_inv ⟨k + 1, by omega, by omega, ⟨rfl, rfl, rfl, rfl, trivial⟩, rfl⟩
  · have hk' : k = w := by omega
    subst hk'
    repeat (first
      | refine ax_post_code ?_
      | refine ax_seq ?_
      | refine ax_exit ?_
      | refine ax_exit_here ?_
      | refine ax_exit_code ?_
      | refine ax_exit_inv ?_)
    refine ax_give_code 0 5 k [] rfl (refless_rowsQ _) rfl (by show _ ≤ (List.map _ _).length; simp) trivial ?_
    repeat (first
      | refine ax_q (q_move rfl) ?_
      | refine ax_q (q_assign rfl) ?_
      | refine ax_ops_nil ?_
      | refine ax_post_code ?_
      | refine ax_region rfl ?_
      | refine ax_return ?_)
    exact ax_ret hR rfl rfl
end Go.Proofs.YtgmleamhjnlknaaGreatDoor

namespace Go.Proofs.YtgmleamhjnlknaaGreatDoor
open Go.Ax Go.Ax.Bg Go.Ax.Rt Go.RowKit
attribute [local irreducible] Ax Post QOp ACall PureOp
set_option maxRecDepth 100000
set_option maxHeartbeats 4000000

def matP (p : List (List Text) × Int) : AV := .tup [.ro (rowsT p.1) 0 p.1.length, .int .i64 p.2]
theorem outAll_yes' (l : List Rat) (hlen : l.length ≤ 1000000) (hs : ∀ q ∈ l, Sz 100000 q) (hall : l.all fitB = true) : VCall Tryz.prog 75 [.ro (qsC l) 0 l.length] (.tup [.ro (.strs (l.map textQ)) 0 (l.map textQ).length, .int .i64 0]) := by
  have := outAll_yes l hlen hs hall
  rwa [List.length_map]
theorem outM_ok (m : List (List Rat)) (hlen : m.length ≤ 1000000) (hr : ∀ r ∈ m, r.length ≤ 1000000 ∧ ∀ q ∈ r, Sz 100000 q) : VCall Tryz.prog 96 [.ro (rowsQ m) 0 m.length] (matP (outM m)) := by
  have hgo : ∀ l : List (List Rat), outM l = if l.all (fun r => r.all fitB) then (l.map (fun r => r.map textQ), 0) else ([], 2) := fun l => rfl
  refine ACall.value0 (acall_of_ax (P := Tryz.prog) (fn := Tryz.f96) rfl rfl (by kernel_rfl) rfl (fun c hR hfix => ?_)) (fix := fun _ => False) (fun _ h => h) rfl rfl
  repeat (first
    | refine ax_q (q_move rfl) ?_
    | refine ax_q (q_assign rfl) ?_
    | refine ax_ops_nil ?_
    | refine ax_post_code ?_
    | refine ax_seq ?_
    | refine ax_region rfl ?_
    | refine ax_q (q_len rfl rfl rfl) ?_)
  refine ax_nilobj 4 ⟨36, rowsT []⟩ rfl rfl ?_
  repeat (refine ax_block ?_)
  refine ax_loop (ι := Nat) (fun k => [(0, .ro (rowsQ m) 0 m.length), (4, .sl 0 0 k), (9, .ro (rowsQ m) 0 m.length), (10, .int .i64 (m.length : Nat)), (11, .int .i64 (k : Nat))]) (fun k => [some ⟨36, rowsT ((m.take k).map (fun r => r.map textQ))⟩])
    (fun k => k ≤ m.length ∧ m.all (fun r => r.all fitB) = (m.drop k).all (fun r => r.all fitB)) (fun k => m.length - k) 0 ⟨⟨rfl, rfl, rfl, rfl, rfl, trivial⟩, rfl, ⟨Nat.zero_le _, rfl⟩⟩ ?_
  rintro k ⟨hk, hA⟩
  repeat (first
    | refine ax_ops_nil ?_
    | refine ax_post_code ?_
    | refine ax_seq ?_
    | refine ax_region rfl ?_
    | refine ax_q (q_lss rfl rfl) ?_)
  refine ax_cond_dec rfl (fun h => ?_) (fun h => ?_)
  · have hk' : k < m.length := by omega
    obtain ⟨b1, b2⟩ := hr _ (getD_mem [] hk')
    have hd := drop_cons (d := []) hk'
    rw [hd, List.all_cons] at hA
    have htk := map_take_succ (fun r : List Rat => r.map textQ) m [] k hk'
    have hml : ((m.take k).map (fun r : List Rat => r.map textQ)).length = k := by rw [List.length_map, List.length_take]; omega
    cases hf : (m.getD k []).all fitB
    · have hc := outAll_no (m.getD k []) b1 b2 hf
      rw [hf, Bool.false_and] at hA
      rw [hgo, hA] at hR
      repeat (first
        | refine ax_q (q_move rfl) ?_
        | refine ax_q (q_assign rfl) ?_
        | refine ax_ops_nil ?_
        | refine ax_post_code ?_
        | refine ax_seq ?_
        | refine ax_region rfl ?_
        | refine ax_block ?_
        | refine ax_skip ?_
        | refine ax_q (q_loadf_rp rfl rfl rfl rfl) ?_
        | refine ax_q (q_index_ro' rfl rfl rfl rfl (by first | (simp only [Nat.zero_add, Int.toNat_natCast, Int.toNat_zero]; exact rfl) | exact rfl) (by omega)) ?_)
      refine ax_callv rfl rfl rfl hc ?_
      repeat (first
        | refine ax_q (q_move rfl) ?_
        | refine ax_q (q_assign rfl) ?_
        | refine ax_ops_nil ?_
        | refine ax_post_code ?_
        | refine ax_seq ?_
        | refine ax_region rfl ?_
        | refine ax_cond_true rfl ?_
        | refine ax_q (q_neq rfl rfl) ?_
        | refine ax_q (q_extract rfl rfl) ?_)
      refine ax_slot 2 (.ro (rowsT []) 0 0) rfl AEq.nil ?_
      repeat (first
        | refine ax_return ?_
        | refine ax_ret_code ?_
        | refine ax_ret_blk ?_
        | refine ax_ret_inv ?_)
      exact ax_ret hR rfl rfl
    · have hc := outAll_yes' (m.getD k []) b1 b2 hf
      rw [hf, Bool.true_and] at hA
      generalize (m.take k).map (fun r : List Rat => r.map textQ) = qs at *
      generalize (m.getD k []).map textQ = q at *
      repeat (first
        | refine ax_q (q_move rfl) ?_
        | refine ax_q (q_assign rfl) ?_
        | refine ax_ops_nil ?_
        | refine ax_post_code ?_
        | refine ax_seq ?_
        | refine ax_region rfl ?_
        | refine ax_block ?_
        | refine ax_skip ?_
        | refine ax_q (q_loadf_rp rfl rfl rfl rfl) ?_
        | refine ax_q (q_index_ro' rfl rfl rfl rfl (by first | (simp only [Nat.zero_add, Int.toNat_natCast, Int.toNat_zero]; exact rfl) | exact rfl) (by omega)) ?_)
      refine ax_callv rfl rfl rfl hc ?_
      repeat (first
        | refine ax_q (q_move rfl) ?_
        | refine ax_q (q_assign rfl) ?_
        | refine ax_ops_nil ?_
        | refine ax_post_code ?_
        | refine ax_seq ?_
        | refine ax_region rfl ?_
        | refine ax_cond_false rfl ?_
        | refine ax_skip ?_
        | refine ax_q (q_neq rfl rfl) ?_
        | refine ax_q (q_extract rfl rfl) ?_
        | refine ax_buildSliceRo rfl rfl rfl rfl rfl rfl rfl rfl rfl rfl rfl ?_)
      refine ax_append rfl rfl rfl rfl rfl rfl rfl rfl rfl hml rfl rfl (by show 0 + 1 ≤ 1; omega) rfl (by show (k + 1) * 24 ≤ _ ∧ _; omega) ?_ (by rw [hfix]; exact fun h => h) ?_
      · intro i' j hi hj
        exact rowE_noref [] 1 cellS cellS_noref qs q _ (rowS1 _) 0 i' j hi hj
      repeat (first
        | refine ax_q (q_assign rfl) ?_
        | refine ax_ops_nil ?_
        | refine ax_post_blk ?_)
      refine ax_post_code ?_
      refine ax_heap [some ⟨36, rowsT ((m.take (k + 1)).map (fun r => r.map textQ))⟩] ?_ ?_
      · rw [htk]
        exact HSub.eqv (rowE_snoc [] 1 cellS qs q _ (rowS1 _)) HSub.nil
      repeat (first
        | refine ax_q (q_move rfl) ?_
        | refine ax_ops_nil ?_
        | refine ax_region rfl ?_
        | refine ax_q (q_add rfl rfl (by omega)) ?_)
      exact ax_post_inv ⟨k + 1, ⟨by omega, hA⟩, by omega, ⟨rfl, rfl, rfl, rfl, rfl, trivial⟩, rfl⟩
  · have hk' : k = m.length := by omega
    subst hk'
    rw [List.drop_length] at hA
    rw [hgo, hA] at hR
    rw [List.take_length]
    have hml : (m.map (fun r : List Rat => r.map textQ)).length = m.length := List.length_map _
    generalize m.map (fun r : List Rat => r.map textQ) = qs at *
    repeat (first
      | refine ax_post_code ?_
      | refine ax_seq ?_
      | refine ax_exit ?_
      | refine ax_exit_here ?_
      | refine ax_exit_code ?_
      | refine ax_exit_inv ?_)
    refine ax_give_code 0 4 m.length [] rfl (refless_rowsT _) rfl (by show _ ≤ qs.length; omega) trivial ?_
    refine ax_slot 4 (.ro (rowsT qs) 0 qs.length) rfl (AEq.of_eq (by rw [hml])) ?_
    repeat (first
      | refine ax_q (q_move rfl) ?_
      | refine ax_q (q_assign rfl) ?_
      | refine ax_ops_nil ?_
      | refine ax_post_code ?_
      | refine ax_region rfl ?_
      | refine ax_return ?_)
    exact ax_ret hR rfl rfl
end Go.Proofs.YtgmleamhjnlknaaGreatDoor

namespace Go.Proofs.YtgmleamhjnlknaaGreatDoor
open Go.Ax Go.Ax.Bg Go.Ax.Rt Go.RowKit
attribute [local irreducible] Ax Post QOp ACall PureOp
set_option maxRecDepth 100000
set_option maxHeartbeats 4000000

theorem len_D {k : Nat} {q : Rat} (h1 : (Lib.decDigits q.num.natAbs).length ≤ k) (h2 : (Lib.decDigits q.den).length ≤ k) : D k q :=
  ⟨Nat.lt_of_lt_of_le (digits_lt _) (Nat.pow_le_pow_right (by decide) h1), Nat.lt_of_lt_of_le (digits_lt _) (Nat.pow_le_pow_right (by decide) h2)⟩
theorem valid_D {r : List Text} (h : ∀ s ∈ r, ratE s = 0) : ∀ q ∈ r.map ratV, D 2000 q := by
  intro q hq
  obtain ⟨s, hs, rfl⟩ := List.mem_map.1 hq
  have hf := (IsQ.self (h s hs)).fit
  unfold fitB at hf
  rw [Bool.and_eq_true, decide_eq_true_eq, decide_eq_true_eq] at hf
  exact len_D hf.1 hf.2
theorem mmul_ok (a b : List (List Text)) (hla : a.length ≤ 9223372036854775807) (hlb : b.length ≤ 9223372036854775807) (hra : ∀ r ∈ a, r.length ≤ 9223372036854775807 ∧ ∀ s ∈ r, s.length ≤ 9223372036854775807) (hrb : ∀ r ∈ b, r.length ≤ 9223372036854775807 ∧ ∀ s ∈ r, s.length ≤ 9223372036854775807) : VCall Tryz.prog 35 [.ro (rowsT a) 0 a.length, .ro (rowsT b) 0 b.length] (matP (mulR a b)) := by
  have ca := mcheck_ok a hla hra
  have cb := mcheck_ok b hlb hrb
  have wa := width_ok a hla
  have wb := width_ok b hlb
  refine ACall.value0 (acall_of_ax (P := Tryz.prog) (fn := Tryz.f35) rfl rfl (by kernel_rfl) rfl (fun c hR hfix => ?_)) (fix := fun _ => False) (fun _ h => h) rfl rfl
  repeat (first
    | refine ax_q (q_move rfl) ?_
    | refine ax_q (q_assign rfl) ?_
    | refine ax_ops_nil ?_
    | refine ax_post_code ?_
    | refine ax_seq ?_
    | refine ax_region rfl ?_
    | refine ax_block ?_
    | refine ax_q (q_build rfl rfl rfl rfl rfl rfl) ?_)
  refine ax_loop (ι := Nat) (fun k => [(0, .ro (rowsT a) 0 a.length), (1, .ro (rowsT b) 0 b.length), (4, .nil), (5, .int .i64 0), (18, .agg [.ro (rowsT a) 0 a.length, .ro (rowsT b) 0 b.length]), (19, .int .i64 (k : Nat))]) (fun _ => [])
    (fun k => k ≤ 2 ∧ (1 ≤ k → matE a = 0) ∧ (2 ≤ k → matE b = 0)) (fun k => 2 - k) 0 ⟨⟨rfl, rfl, rfl, rfl, rfl, rfl, trivial⟩, rfl, Nat.zero_le _, fun h => absurd h (by decide), fun h => absurd h (by decide)⟩ ?_
  rintro k ⟨hk, hA, hB⟩
  repeat (first
    | refine ax_ops_nil ?_
    | refine ax_post_code ?_
    | refine ax_seq ?_
    | refine ax_region rfl ?_
    | refine ax_q (q_lss rfl rfl) ?_)
  refine ax_cond_dec rfl (fun h => ?_) (fun h => ?_)
  · have h01 : k = 0 ∨ k = 1 := by omega
    rcases h01 with rfl | rfl
    · repeat (first
        | refine ax_post_code ?_
        | refine ax_seq ?_
        | refine ax_region rfl ?_
        | refine ax_block ?_
        | refine ax_skip ?_)
      refine ax_q (q_idxagg rfl rfl rfl rfl rfl rfl rfl (by simp)) ?_
      repeat (first
        | refine ax_q (q_move rfl) ?_
        | refine ax_q (q_assign rfl) ?_
        | refine ax_ops_nil ?_
        | refine ax_post_code ?_
        | refine ax_seq ?_
        | refine ax_region rfl ?_)
      refine ax_callv rfl rfl rfl ca ?_
      repeat (first
        | refine ax_q (q_move rfl) ?_
        | refine ax_q (q_assign rfl) ?_
        | refine ax_ops_nil ?_
        | refine ax_post_code ?_
        | refine ax_seq ?_
        | refine ax_region rfl ?_
        | refine ax_q (q_neq rfl rfl) ?_)
      refine ax_cond_dec rfl (fun h2 => ?_) (fun h2 => ?_)
      · have e : mulR a b = ([], matE a) := by unfold mulR; rw [if_pos h2]
        rw [e] at hR
        repeat (first
          | refine ax_q (q_move rfl) ?_
          | refine ax_q (q_assign rfl) ?_
          | refine ax_ops_nil ?_
          | refine ax_post_code ?_
          | refine ax_seq ?_
          | refine ax_region rfl ?_)
        refine ax_slot 4 (.ro (rowsT []) 0 0) rfl AEq.nil ?_
        repeat (first
          | refine ax_return ?_
          | refine ax_ret_code ?_
          | refine ax_ret_blk ?_
          | refine ax_ret_inv ?_)
        exact ax_ret hR rfl rfl
      · repeat (first
          | refine ax_q (q_move rfl) ?_
          | refine ax_ops_nil ?_
          | refine ax_post_code ?_
          | refine ax_region rfl ?_
          | refine ax_post_blk ?_
          | refine ax_skip ?_
          | refine ax_q (q_add rfl rfl (by omega)) ?_)
        exact ax_post_inv ⟨1, ⟨by omega, fun _ => Classical.not_not.1 h2, fun h => absurd h (by decide)⟩, by omega, ⟨rfl, rfl, rfl, rfl, rfl, rfl, trivial⟩, rfl⟩
    · have ea := hA (Nat.le_refl _)
      repeat (first
        | refine ax_post_code ?_
        | refine ax_seq ?_
        | refine ax_region rfl ?_
        | refine ax_block ?_
        | refine ax_skip ?_)
      refine ax_q (q_idxagg rfl rfl rfl rfl rfl rfl rfl (by simp)) ?_
      repeat (first
        | refine ax_q (q_move rfl) ?_
        | refine ax_q (q_assign rfl) ?_
        | refine ax_ops_nil ?_
        | refine ax_post_code ?_
        | refine ax_seq ?_
        | refine ax_region rfl ?_)
      refine ax_callv rfl rfl rfl cb ?_
      repeat (first
        | refine ax_q (q_move rfl) ?_
        | refine ax_q (q_assign rfl) ?_
        | refine ax_ops_nil ?_
        | refine ax_post_code ?_
        | refine ax_seq ?_
        | refine ax_region rfl ?_
        | refine ax_q (q_neq rfl rfl) ?_)
      refine ax_cond_dec rfl (fun h2 => ?_) (fun h2 => ?_)
      · have e : mulR a b = ([], matE b) := by unfold mulR; rw [if_neg (fun q => q ea), if_pos h2]
        rw [e] at hR
        repeat (first
          | refine ax_q (q_move rfl) ?_
          | refine ax_q (q_assign rfl) ?_
          | refine ax_ops_nil ?_
          | refine ax_post_code ?_
          | refine ax_seq ?_
          | refine ax_region rfl ?_)
        refine ax_slot 4 (.ro (rowsT []) 0 0) rfl AEq.nil ?_
        repeat (first
          | refine ax_return ?_
          | refine ax_ret_code ?_
          | refine ax_ret_blk ?_
          | refine ax_ret_inv ?_)
        exact ax_ret hR rfl rfl
      · repeat (first
          | refine ax_q (q_move rfl) ?_
          | refine ax_ops_nil ?_
          | refine ax_post_code ?_
          | refine ax_region rfl ?_
          | refine ax_post_blk ?_
          | refine ax_skip ?_
          | refine ax_q (q_add rfl rfl (by omega)) ?_)
        exact ax_post_inv ⟨2, ⟨by omega, fun _ => ea, fun _ => Classical.not_not.1 h2⟩, by omega, ⟨rfl, rfl, rfl, rfl, rfl, rfl, trivial⟩, rfl⟩
  obtain rfl : k = 2 := by omega
  have ea := hA (by decide)
  have eb := hB (by decide)
  have ia := matE_zero ea
  have ib := matE_zero eb
  repeat (first
    | refine ax_q (q_move rfl) ?_
    | refine ax_post_code ?_
    | refine ax_seq ?_
    | refine ax_region rfl ?_
    | refine ax_exit ?_
    | refine ax_exit_here ?_
    | refine ax_exit_code ?_
    | refine ax_exit_inv ?_)
  refine ax_callv rfl rfl rfl wa ?_
  repeat (first
    | refine ax_q (q_move rfl) ?_
    | refine ax_ops_nil ?_
    | refine ax_post_code ?_
    | refine ax_q (q_neq rfl rfl) ?_
    | refine ax_q (q_len rfl rfl rfl) ?_)
  refine ax_cond_dec rfl (fun h2 => ?_) (fun h2 => ?_)
  · have h3 : ¬ widM a = b.length := fun e => h2 (by rw [e])
    have e : mulR a b = ([], 3) := by unfold mulR; rw [if_neg (fun q => q ea), if_neg (fun q => q eb), if_neg h3]
    rw [e] at hR
    repeat (first
      | refine ax_q (q_assign rfl) ?_
      | refine ax_ops_nil ?_
      | refine ax_post_code ?_
      | refine ax_seq ?_
      | refine ax_region rfl ?_)
    refine ax_slot 4 (.ro (rowsT []) 0 0) rfl AEq.nil ?_
    repeat (first
      | refine ax_return ?_
      | refine ax_ret_code ?_)
    exact ax_ret hR rfl rfl
  have hw : widM a = b.length := by
    have := Classical.not_not.1 h2
    omega
  have e : mulR a b = outM (mulQ (inM a) (inM b) (widM b)) := by unfold mulR; rw [if_neg (fun q => q ea), if_neg (fun q => q eb), if_pos hw]
  rw [e] at hR
  rw [hw] at ia
  have sa := ia.sp
  have sb := ib.sp
  have wle : widM b ≤ 40 := by
    cases b with
    | nil => exact Nat.zero_le _
    | cons r b' => exact ib.sq (by simp)
  have na := min_ok a (by omega) (fun r hr => ⟨by have := ia.cols r hr; omega, fun s hs => ⟨(hra r hr).2 s hs, ia.ok r hr s hs⟩⟩)
  have nb := min_ok b (by omega) (fun r hr => ⟨by have := ib.cols r hr; omega, fun s hs => ⟨(hrb r hr).2 s hs, ib.ok r hr s hs⟩⟩)
  have dA : ∀ r ∈ inM a, r.length = b.length ∧ ∀ q ∈ r, D 2000 q := fun r hr => by
    refine ⟨inM_cols ia r hr, ?_⟩
    obtain ⟨x, hx, rfl⟩ := List.mem_map.1 hr
    exact valid_D (ia.ok x hx)
  have dB : ∀ r ∈ inM b, r.length = widM b ∧ ∀ q ∈ r, D 2000 q := fun r hr => by
    refine ⟨inM_cols ib r hr, ?_⟩
    obtain ⟨x, hx, rfl⟩ := List.mem_map.1 hr
    exact valid_D (ib.ok x hx)
  have hla' : (inM a).length = a.length := inM_len a
  have hlb' : (inM b).length = b.length := inM_len b
  have nc := cols_ok (inM b) (widM b) (by omega) (by omega) (fun r hr => (dB r hr).1)
  rw [hlb'] at nc
  have hclen := colsQ_len (inM b) (widM b)
  have hcd : ∀ c ∈ colsQ (inM b) (widM b), c.length = b.length ∧ ∀ q ∈ c, D 2000 q := fun c hc => by
    obtain ⟨l, hl, rfl⟩ := List.mem_map.1 hc
    refine ⟨by rw [colQ_len, hlb'], fun q hq => ?_⟩
    obtain ⟨r, hr, rfl⟩ := List.mem_map.1 hq
    have hl' : l < r.length := by rw [(dB r hr).1]; simpa using hl
    have : r.getD l 0 = r[l] := by simp [List.getD, hl']
    rw [this]; exact (dB r hr).2 _ (List.getElem_mem hl')
  have hmm : mulQ (inM a) (inM b) (widM b) = (inM a).map (fun row => (colsQ (inM b) (widM b)).map (dotQ row)) := rfl
  rw [hmm] at hR
  generalize inM a = A at *
  generalize inM b = B at *
  generalize colsQ B (widM b) = cs at *
  generalize hwb : widM b = w at *
  repeat (first
    | refine ax_q (q_move rfl) ?_
    | refine ax_post_code ?_
    | refine ax_seq ?_
    | refine ax_region rfl ?_
    | refine ax_skip ?_)
  refine ax_callv rfl rfl rfl nb ?_
  repeat (refine ax_q (q_move rfl) ?_)
  refine ax_callv rfl rfl rfl wb ?_
  skip
  refine ax_callv rfl rfl rfl nc ?_
  repeat (first
    | refine ax_q (q_move rfl) ?_
    | refine ax_q (q_assign rfl) ?_
    | refine ax_ops_nil ?_
    | refine ax_post_code ?_
    | refine ax_seq ?_
    | refine ax_region rfl ?_)
  refine ax_callv rfl rfl rfl na ?_
  repeat (first
    | refine ax_q (q_move rfl) ?_
    | refine ax_ops_nil ?_
    | refine ax_post_code ?_
    | refine ax_q (q_len rfl rfl rfl) ?_)
  refine ax_nilobj 10 ⟨102, rowsQ []⟩ rfl rfl ?_
  repeat (refine ax_block ?_)
  refine ax_loop (ι := Nat) (fun i => [(9, .ro (rowsQ cs) 0 w), (10, .sl 0 0 i), (39, .ro (rowsQ A) 0 a.length), (40, .int .i64 (a.length : Nat)), (41, .int .i64 (i : Nat))]) (fun i => [some ⟨102, rowsQ ((A.take i).map (fun row => cs.map (dotQ row)))⟩])
    (fun i => i ≤ a.length) (fun i => a.length - i) 0 ⟨⟨rfl, rfl, rfl, rfl, rfl, trivial⟩, rfl, Nat.zero_le _⟩ ?_
  intro i hi
  repeat (first
    | refine ax_ops_nil ?_
    | refine ax_post_code ?_
    | refine ax_seq ?_
    | refine ax_region rfl ?_
    | refine ax_q (q_lss rfl rfl) ?_)
  refine ax_cond_dec rfl (fun h3 => ?_) (fun h3 => ?_)
  · have hi' : i < A.length := by omega
    obtain ⟨rl, rd⟩ := dA _ (getD_mem [] hi')
    have htk := map_take_succ (fun row : List Rat => cs.map (dotQ row)) A [] i hi'
    have hml : ((A.take i).map (fun row : List Rat => cs.map (dotQ row))).length = i := by rw [List.length_map, List.length_take]; omega
    generalize (A.take i).map (fun row : List Rat => cs.map (dotQ row)) = rs at *
    repeat (first
      | refine ax_post_code ?_
      | refine ax_seq ?_
      | refine ax_skip ?_)
    refine ax_block ?_
    repeat (first
      | refine ax_q (q_move rfl) ?_
      | refine ax_q (q_assign rfl) ?_
      | refine ax_ops_nil ?_
      | refine ax_post_code ?_
      | refine ax_seq ?_
      | refine ax_region rfl ?_
      | refine ax_q (q_loadf_rp rfl rfl rfl rfl) ?_
      | refine ax_q (q_len rfl rfl rfl) ?_
      | refine ax_q (q_index_ro' rfl rfl rfl rfl (by first | (simp only [Nat.zero_add, Int.toNat_natCast, Int.toNat_zero]; exact rfl) | exact rfl) (by omega)) ?_)
    refine ax_nilobj 13 ⟨108, qsC []⟩ rfl rfl ?_
    repeat (refine ax_block ?_)
    refine ax_loop (ι := Nat) (fun j => [(9, .ro (rowsQ cs) 0 w), (10, .sl 0 0 i), (12, .ro (qsC (A.getD i [])) 0 (A.getD i []).length), (13, .sl 1 0 j), (39, .ro (rowsQ A) 0 a.length), (40, .int .i64 (a.length : Nat)), (41, .int .i64 (i : Nat)), (45, .ro (rowsQ cs) 0 w), (46, .int .i64 (w : Nat)), (47, .int .i64 (j : Nat))]) (fun j => [some ⟨102, rowsQ rs⟩, some ⟨108, qsC ((cs.take j).map (dotQ (A.getD i [])))⟩])
      (fun j => j ≤ w) (fun j => w - j) 0 ⟨⟨rfl, rfl, rfl, rfl, rfl, rfl, rfl, rfl, rfl, rfl, trivial⟩, rfl, Nat.zero_le _⟩ ?_
    intro j hj
    repeat (first
      | refine ax_ops_nil ?_
      | refine ax_post_code ?_
      | refine ax_seq ?_
      | refine ax_region rfl ?_
      | refine ax_q (q_lss rfl rfl) ?_)
    refine ax_cond_dec rfl (fun h4 => ?_) (fun h4 => ?_)
    · have hj' : j < cs.length := by omega
      obtain ⟨cl, cd⟩ := hcd _ (getD_mem [] hj')
      have hdot := dot_ok (A.getD i []) (cs.getD j []) 2000 2000 rd cd (by omega) (by omega) (by rw [rl]; have := Nat.mul_le_mul_right (2000 + 2000 + 1) sb; omega)
      have htj := map_take_succ (dotQ (A.getD i [])) cs [] j hj'
      have hmj : ((cs.take j).map (dotQ (A.getD i []))).length = j := by rw [List.length_map, List.length_take]; omega
      generalize (cs.take j).map (dotQ (A.getD i [])) = qs at *
      generalize dotQ (A.getD i []) (cs.getD j []) = q at *
      repeat (first
        | refine ax_q (q_move rfl) ?_
        | refine ax_q (q_assign rfl) ?_
        | refine ax_ops_nil ?_
        | refine ax_post_code ?_
        | refine ax_seq ?_
        | refine ax_region rfl ?_
        | refine ax_block ?_
        | refine ax_skip ?_
        | refine ax_q (q_loadf_rp rfl rfl rfl rfl) ?_
        | refine ax_q (q_index_ro' rfl rfl rfl rfl (by first | (simp only [Nat.zero_add, Int.toNat_natCast, Int.toNat_zero]; exact rfl) | exact rfl) (by omega)) ?_)
      refine ax_callv rfl rfl rfl hdot ?_
      unfold qA
      repeat (refine ax_buildSliceRo rfl rfl rfl rfl rfl rfl rfl rfl rfl rfl rfl ?_)
      refine ax_append rfl rfl rfl rfl rfl rfl rfl rfl rfl hmj rfl rfl (by show 0 + 1 ≤ 1; omega) rfl (by show (j + 1) * 56 ≤ _ ∧ _; omega) ?_ (by rw [hfix]; exact fun h => h) ?_
      · intro i' j' hi hj'
        exact rowE_noref 0 3 cellsQ cellsQ_noref qs q _ (rowQ1 _) 1 i' j' hi hj'
      repeat (first
        | refine ax_q (q_assign rfl) ?_
        | refine ax_ops_nil ?_
        | refine ax_post_blk ?_)
      refine ax_post_code ?_
      refine ax_heap [some ⟨102, rowsQ rs⟩, some ⟨108, qsC ((cs.take (j + 1)).map (dotQ (A.getD i [])))⟩] ?_ ?_
      · rw [htj]
        exact HSub.eqv ⟨rfl, rfl, fun i j _ hj => (cellR_noref _ j _ hj).symm⟩ (HSub.eqv (rowE_snoc 0 3 cellsQ qs q _ (rowQ1 _)) HSub.nil)
      repeat (first
        | refine ax_q (q_move rfl) ?_
        | refine ax_ops_nil ?_
        | refine ax_region rfl ?_
        | refine ax_q (q_add rfl rfl (by omega)) ?_)
      exact ax_post_inv ⟨j + 1, by omega, by omega, ⟨rfl, rfl, rfl, rfl, rfl, rfl, rfl, rfl, rfl, rfl, trivial⟩, rfl⟩
    · have hj' : j = cs.length := by omega
      subst hj'
      rw [List.take_length]
      have hcl : (cs.map (dotQ (A.getD i []))).length = cs.length := List.length_map _
      generalize cs.map (dotQ (A.getD i [])) = col at *
      repeat (first
        | refine ax_post_code ?_
        | refine ax_exit ?_
        | refine ax_exit_here ?_
        | refine ax_exit_code ?_
        | refine ax_exit_inv ?_)
      refine ax_give_code 1 13 cs.length [(9, .ro (rowsQ cs) 0 w), (10, .sl 0 0 i), (39, .ro (rowsQ A) 0 a.length), (40, .int .i64 (a.length : Nat)), (41, .int .i64 (i : Nat))] rfl (refless_qs _) rfl (by show _ ≤ col.length; omega) ⟨rfl, rfl, rfl, rfl, rfl, trivial⟩ ?_
      refine ax_slot 13 (.ro (qsC col) 0 col.length) rfl (AEq.of_eq (by rw [hcl])) ?_
      repeat (first
        | refine ax_q (q_move rfl) ?_
        | refine ax_region rfl ?_
        | refine ax_buildSliceRo rfl rfl rfl rfl rfl rfl rfl rfl rfl rfl rfl ?_)
      refine ax_append rfl rfl rfl rfl rfl rfl rfl rfl rfl hml rfl rfl (by show 0 + 1 ≤ 1; omega) rfl (by show (i + 1) * 24 ≤ _ ∧ _; omega) ?_ (by rw [hfix]; exact fun h => h) ?_
      · intro i' j hi hj
        exact rowE_noref [] 1 cellR cellR_noref rs col _ (rowR1 _) 0 i' j hi hj
      repeat (first
        | refine ax_q (q_assign rfl) ?_
        | refine ax_ops_nil ?_
        | refine ax_post_blk ?_)
      refine ax_post_code ?_
      refine ax_heap ([some ⟨102, rowsQ ((A.take (i + 1)).map (fun row => cs.map (dotQ row)))⟩] ++ [none]) ?_ ?_
      · rw [htk]
        exact HSub.eqv (rowE_snoc [] 1 cellR rs col _ (rowR1 _)) (HSub.drop HSub.nil)
      refine ax_drop (H1 := [some ⟨102, rowsQ ((A.take (i + 1)).map (fun row => cs.map (dotQ row)))⟩]) rfl (by rw [hfix]; exact fun h => h) ?_
      refine ax_heap [some ⟨102, rowsQ ((A.take (i + 1)).map (fun row => cs.map (dotQ row)))⟩] ?_ ?_
      · exact HSub.eqv ⟨rfl, rfl, fun i j _ hj => (cellR_noref _ j _ hj).symm⟩ HSub.nil
      repeat (first
        | refine ax_q (q_move rfl) ?_
        | refine ax_ops_nil ?_
        | refine ax_region rfl ?_
        | refine ax_q (q_add rfl rfl (by omega)) ?_)
      exact ax_post_inv ⟨i + 1, by omega, by omega, ⟨rfl, rfl, rfl, rfl, rfl, trivial⟩, rfl⟩
  · have hi' : i = A.length := by omega
    subst hi'
    rw [List.take_length]
    have hml : (A.map (fun row : List Rat => cs.map (dotQ row))).length = A.length := List.length_map _
    have hfin := outM_ok (A.map (fun row : List Rat => cs.map (dotQ row))) (by omega) (fun r hr => by
      obtain ⟨x, hx, rfl⟩ := List.mem_map.1 hr
      refine ⟨by rw [List.length_map]; omega, fun q hq => ?_⟩
      obtain ⟨y, hy, rfl⟩ := List.mem_map.1 hq
      have h5 := dotQ_D (dA x hx).2 (hcd y hy).2 (by rw [(dA x hx).1, (hcd y hy).1]; exact Nat.le_refl _)
      refine sz_D (h5.mono ?_)
      rw [(dA x hx).1]
      have := Nat.mul_le_mul_right (2000 + 2000 + 1) sb
      omega)
    generalize A.map (fun row : List Rat => cs.map (dotQ row)) = R at *
    repeat (first
      | refine ax_post_code ?_
      | refine ax_seq ?_
      | refine ax_exit ?_
      | refine ax_exit_here ?_
      | refine ax_exit_code ?_
      | refine ax_exit_inv ?_)
    refine ax_give_code 0 10 A.length [] rfl (refless_rowsQ _) rfl (by show _ ≤ R.length; omega) trivial ?_
    refine ax_slot 10 (.ro (rowsQ R) 0 R.length) rfl (AEq.of_eq (by rw [hml])) ?_
    repeat (first
      | refine ax_q (q_move rfl) ?_
      | refine ax_region rfl ?_)
    refine ax_callv rfl rfl rfl hfin ?_
    unfold matP
    repeat (first
      | refine ax_q (q_assign rfl) ?_
      | refine ax_ops_nil ?_
      | refine ax_post_code ?_
      | refine ax_return ?_
      | refine ax_q (q_extract rfl rfl) ?_)
    exact ax_ret hR rfl rfl
end Go.Proofs.YtgmleamhjnlknaaGreatDoor

namespace Go.Proofs.YtgmleamhjnlknaaGreatDoor
open Go.Ax Go.Ax.Bg Go.Ax.Rt Go.RowKit
attribute [local irreducible] Ax Post QOp ACall PureOp
set_option maxRecDepth 100000
set_option maxHeartbeats 4000000

def vecP (p : List Text × Int) : AV := .tup [.ro (.strs p.1) 0 p.1.length, .int .i64 p.2]
theorem outAll_ok (l : List Rat) (hlen : l.length ≤ 1000000) (hs : ∀ q ∈ l, Sz 100000 q) : ∃ r : AV, VCall Tryz.prog 75 [.ro (qsC l) 0 l.length] (.tup [r, .int .i64 (outAllF l).2]) ∧ AEq r (.ro (.strs (outAllF l).1) 0 (outAllF l).1.length) := by
  cases h : l.all fitB
  · refine ⟨.nil, ?_, ?_⟩
    · have := outAll_no l hlen hs h
      unfold outAllF; rw [h]; exact this
    · unfold outAllF; rw [h]; exact AEq.nil
  · refine ⟨_, ?_, AEq.rfl'⟩
    have := outAll_yes' l hlen hs h
    unfold outAllF; rw [h]; exact this
theorem mapply_ok (m : List (List Text)) (v : List Text) (hlm : m.length ≤ 9223372036854775807) (hlv : v.length ≤ 9223372036854775807) (hrm : ∀ r ∈ m, r.length ≤ 9223372036854775807 ∧ ∀ s ∈ r, s.length ≤ 9223372036854775807) (hrv : ∀ s ∈ v, s.length ≤ 9223372036854775807) : VCall Tryz.prog 37 [.ro (rowsT m) 0 m.length, .ro (.strs v) 0 v.length] (vecP (applyR m v)) := by
  have cm := mcheck_ok m hlm hrm
  have cv := vec_ok v hlv hrv
  refine ACall.value0 (acall_of_ax (P := Tryz.prog) (fn := Tryz.f37) rfl rfl (by kernel_rfl) rfl (fun c hR hfix => ?_)) (fix := fun _ => False) (fun _ h => h) rfl rfl
  repeat (first
    | refine ax_q (q_move rfl) ?_
    | refine ax_q (q_assign rfl) ?_
    | refine ax_ops_nil ?_
    | refine ax_post_code ?_
    | refine ax_seq ?_
    | refine ax_region rfl ?_)
  refine ax_callv rfl rfl rfl cm ?_
  repeat (first
    | refine ax_q (q_move rfl) ?_
    | refine ax_q (q_assign rfl) ?_
    | refine ax_ops_nil ?_
    | refine ax_post_code ?_
    | refine ax_seq ?_
    | refine ax_region rfl ?_
    | refine ax_q (q_neq rfl rfl) ?_)
  refine ax_cond_dec rfl (fun h1 => ?_) (fun h1 => ?_)
  · have e : applyR m v = ([], matE m) := by unfold applyR; rw [if_pos h1]
    rw [e] at hR
    repeat (first
      | refine ax_q (q_move rfl) ?_
      | refine ax_q (q_assign rfl) ?_
      | refine ax_ops_nil ?_
      | refine ax_post_code ?_
      | refine ax_seq ?_
      | refine ax_region rfl ?_)
    refine ax_slot 4 (.ro (.strs []) 0 0) rfl AEq.nil ?_
    repeat (first
      | refine ax_return ?_
      | refine ax_ret_code ?_)
    exact ax_ret hR rfl rfl
  have em := Classical.not_not.1 h1
  repeat (first
    | refine ax_q (q_move rfl) ?_
    | refine ax_post_code ?_
    | refine ax_seq ?_
    | refine ax_region rfl ?_
    | refine ax_skip ?_)
  refine ax_callv rfl rfl rfl cv ?_
  repeat (first
    | refine ax_q (q_move rfl) ?_
    | refine ax_q (q_assign rfl) ?_
    | refine ax_ops_nil ?_
    | refine ax_post_code ?_
    | refine ax_seq ?_
    | refine ax_region rfl ?_
    | refine ax_q (q_neq rfl rfl) ?_)
  refine ax_cond_dec rfl (fun h2 => ?_) (fun h2 => ?_)
  · have e : applyR m v = ([], vecE v) := by unfold applyR; rw [if_neg h1, if_pos h2]
    rw [e] at hR
    repeat (first
      | refine ax_q (q_move rfl) ?_
      | refine ax_q (q_assign rfl) ?_
      | refine ax_ops_nil ?_
      | refine ax_post_code ?_
      | refine ax_seq ?_
      | refine ax_region rfl ?_)
    refine ax_slot 4 (.ro (.strs []) 0 0) rfl AEq.nil ?_
    repeat (first
      | refine ax_return ?_
      | refine ax_ret_code ?_)
    exact ax_ret hR rfl rfl
  have ev := Classical.not_not.1 h2
  obtain ⟨lv, av⟩ := vecE_zero ev
  have im := matE_zero em
  have sm := im.sp
  have bad : (m ≠ [] ∧ widM m ≠ v.length) → applyR m v = ([], 3) := fun h => by unfold applyR; rw [if_neg h1, if_neg h2, if_pos h]
  have good : ¬ (m ≠ [] ∧ widM m ≠ v.length) → applyR m v = outAllF (applyQ (inM m) (v.map ratV)) := fun h => by unfold applyR; rw [if_neg h1, if_neg h2, if_neg h]
  have rest : ∀ (hg : ¬ (m ≠ [] ∧ widM m ≠ v.length)), ∀ r ∈ inM m, r.length = v.length ∧ ∀ q ∈ r, D 2000 q := fun hg r hr => by
    obtain ⟨x, hx, rfl⟩ := List.mem_map.1 hr
    refine ⟨?_, valid_D (im.ok x hx)⟩
    have hne : m ≠ [] := by rintro rfl; simp at hx
    rw [List.length_map, im.cols x hx]
    exact Classical.not_not.1 (fun q => hg ⟨hne, q⟩)
  repeat (first
    | refine ax_q (q_move rfl) ?_
    | refine ax_post_code ?_
    | refine ax_seq ?_
    | refine ax_region rfl ?_
    | refine ax_skip ?_
    | refine ax_q (q_gtr rfl rfl) ?_
    | refine ax_q (q_len rfl rfl rfl) ?_)
  refine ax_gsplit rfl rfl (fun h3 => ?_) (fun h3 => ?_)
  · have hne : m ≠ [] := by rintro rfl; exact absurd h3 (by simp)
    have hm0 : 0 < m.length := by omega
    repeat (first
      | refine ax_q (q_move rfl) ?_
      | refine ax_ops_nil ?_
      | refine ax_post_code ?_
      | refine ax_guard rfl rfl ?_
      | refine ax_q (q_loadf_rp rfl rfl rfl rfl) ?_
      | refine ax_q (q_neq rfl rfl) ?_
      | refine ax_q (q_pick rfl rfl) ?_
      | refine ax_q (q_len rfl rfl rfl) ?_
      | refine ax_q (q_index_ro' rfl rfl rfl rfl (by first | (simp only [Nat.zero_add, Int.toNat_natCast, Int.toNat_zero]; exact rfl) | exact rfl) (by omega)) ?_)
    refine ax_cond_dec rfl (fun h4 => ?_) (fun h4 => ?_)
    · have e := bad ⟨hne, fun q => h4 (by show (((m.getD 0 []).length : Nat) : Int) = _; exact congrArg (fun n : Nat => (n : Int)) q)⟩
      rw [e] at hR
      repeat (first
        | refine ax_q (q_assign rfl) ?_
        | refine ax_ops_nil ?_
        | refine ax_post_code ?_
        | refine ax_seq ?_
        | refine ax_region rfl ?_)
      refine ax_slot 4 (.ro (.strs []) 0 0) rfl AEq.nil ?_
      repeat (first
        | refine ax_return ?_
        | refine ax_ret_code ?_)
      exact ax_ret hR rfl rfl
    have hg : ¬ (m ≠ [] ∧ widM m ≠ v.length) := fun q => q.2 (by
      have : (((m.getD 0 []).length : Nat) : Int) = (v.length : Nat) := Classical.not_not.1 h4
      show (m.getD 0 []).length = _
      omega)
    have eg := good hg
    have hdA := rest hg
    have nm := min_ok m (by omega) (fun r hr => ⟨by have := (hdA (r.map ratV) (List.mem_map.2 ⟨r, hr, rfl⟩)).1; rw [List.length_map] at this; omega, fun s hs => ⟨(hrm r hr).2 s hs, im.ok r hr s hs⟩⟩)
    have nv := in_ok' v (by omega) (fun s hs => ⟨hrv s hs, allE_mem av s hs⟩)
    have dv : ∀ q ∈ v.map ratV, D 2000 q := valid_D (fun s hs => allE_mem av s hs)
    have hvl : (v.map ratV).length = v.length := List.length_map _
    have hml0 : (inM m).length = m.length := inM_len m
    have happ : applyQ (inM m) (v.map ratV) = (inM m).map (fun row => dotQ row (v.map ratV)) := rfl
    rw [happ] at eg
    rw [eg] at hR
    generalize inM m = A at *
    generalize v.map ratV = X at *
    repeat (first
      | refine ax_q (q_move rfl) ?_
      | refine ax_q (q_assign rfl) ?_
      | refine ax_ops_nil ?_
      | refine ax_post_code ?_
      | refine ax_seq ?_
      | refine ax_region rfl ?_
      | refine ax_skip ?_)
    refine ax_callv rfl rfl rfl nv ?_
    repeat (first
      | refine ax_q (q_move rfl) ?_
      | refine ax_q (q_assign rfl) ?_
      | refine ax_ops_nil ?_
      | refine ax_post_code ?_
      | refine ax_seq ?_
      | refine ax_region rfl ?_)
    refine ax_callv rfl rfl rfl nm ?_
    repeat (first
      | refine ax_q (q_move rfl) ?_
      | refine ax_ops_nil ?_
      | refine ax_post_code ?_
      | refine ax_q (q_len rfl rfl rfl) ?_)
    refine ax_nilobj 8 ⟨108, qsC []⟩ rfl rfl ?_
    repeat (refine ax_block ?_)
    refine ax_loop (ι := Nat) (fun i => [(8, .sl 0 0 i), (9, .ro (qsC X) 0 X.length), (37, .ro (rowsQ A) 0 m.length), (38, .int .i64 (m.length : Nat)), (39, .int .i64 (i : Nat))]) (fun i => [some ⟨108, qsC ((A.take i).map (fun row => dotQ row X))⟩])
      (fun i => i ≤ m.length) (fun i => m.length - i) 0 ⟨⟨rfl, rfl, rfl, rfl, rfl, trivial⟩, rfl, Nat.zero_le _⟩ ?_
    intro i hi
    repeat (first
      | refine ax_ops_nil ?_
      | refine ax_post_code ?_
      | refine ax_seq ?_
      | refine ax_region rfl ?_
      | refine ax_q (q_lss rfl rfl) ?_)
    refine ax_cond_dec rfl (fun h4 => ?_) (fun h4 => ?_)
    · have hi' : i < A.length := by omega
      obtain ⟨rl, rd⟩ := hdA _ (getD_mem [] hi')
      have hdot := dot_ok (A.getD i []) X 2000 2000 rd dv (by omega) (by omega) (by rw [rl]; have := Nat.mul_le_mul_right (2000 + 2000 + 1) lv; omega)
      have htk := map_take_succ (fun row : List Rat => dotQ row X) A [] i hi'
      have hml : ((A.take i).map (fun row : List Rat => dotQ row X)).length = i := by rw [List.length_map, List.length_take]; omega
      generalize (A.take i).map (fun row : List Rat => dotQ row X) = qs at *
      generalize dotQ (A.getD i []) X = q at *
      repeat (first
        | refine ax_q (q_move rfl) ?_
        | refine ax_q (q_assign rfl) ?_
        | refine ax_ops_nil ?_
        | refine ax_post_code ?_
        | refine ax_seq ?_
        | refine ax_region rfl ?_
        | refine ax_block ?_
        | refine ax_skip ?_
        | refine ax_q (q_loadf_rp rfl rfl rfl rfl) ?_
        | refine ax_q (q_index_ro' rfl rfl rfl rfl (by first | (simp only [Nat.zero_add, Int.toNat_natCast, Int.toNat_zero]; exact rfl) | exact rfl) (by omega)) ?_)
      refine ax_callv rfl rfl rfl hdot ?_
      unfold qA
      repeat (refine ax_buildSliceRo rfl rfl rfl rfl rfl rfl rfl rfl rfl rfl rfl ?_)
      refine ax_append rfl rfl rfl rfl rfl rfl rfl rfl rfl hml rfl rfl (by show 0 + 1 ≤ 1; omega) rfl (by show (i + 1) * 56 ≤ _ ∧ _; omega) ?_ (by rw [hfix]; exact fun h => h) ?_
      · intro i' j' hi hj'
        exact rowE_noref 0 3 cellsQ cellsQ_noref qs q _ (rowQ1 _) 0 i' j' hi hj'
      repeat (first
        | refine ax_q (q_assign rfl) ?_
        | refine ax_ops_nil ?_
        | refine ax_post_blk ?_)
      refine ax_post_code ?_
      refine ax_heap [some ⟨108, qsC ((A.take (i + 1)).map (fun row => dotQ row X))⟩] ?_ ?_
      · rw [htk]
        exact HSub.eqv (rowE_snoc 0 3 cellsQ qs q _ (rowQ1 _)) HSub.nil
      repeat (first
        | refine ax_q (q_move rfl) ?_
        | refine ax_ops_nil ?_
        | refine ax_region rfl ?_
        | refine ax_q (q_add rfl rfl (by omega)) ?_)
      exact ax_post_inv ⟨i + 1, by omega, by omega, ⟨rfl, rfl, rfl, rfl, rfl, trivial⟩, rfl⟩
    · have hi' : i = A.length := by omega
      subst hi'
      rw [List.take_length]
      have hml : (A.map (fun row : List Rat => dotQ row X)).length = A.length := List.length_map _
      obtain ⟨r, hfin, hrq⟩ := outAll_ok (A.map (fun row : List Rat => dotQ row X)) (by omega) (fun q hq => by
        obtain ⟨x, hx, rfl⟩ := List.mem_map.1 hq
        obtain ⟨rl, rd⟩ := hdA x hx
        have h5 := dotQ_D rd dv (by omega)
        refine sz_D (h5.mono ?_)
        rw [rl]
        have := Nat.mul_le_mul_right (2000 + 2000 + 1) lv
        omega)
      generalize A.map (fun row : List Rat => dotQ row X) = R at *
      repeat (first
        | refine ax_post_code ?_
        | refine ax_seq ?_
        | refine ax_exit ?_
        | refine ax_exit_here ?_
        | refine ax_exit_code ?_
        | refine ax_exit_inv ?_)
      refine ax_give_code 0 8 A.length [] rfl (refless_qs _) rfl (by show _ ≤ R.length; omega) trivial ?_
      refine ax_slot 8 (.ro (qsC R) 0 R.length) rfl (AEq.of_eq (by rw [hml])) ?_
      repeat (first
        | refine ax_q (q_move rfl) ?_
        | refine ax_region rfl ?_)
      refine ax_callv rfl rfl rfl hfin ?_
      repeat (first
        | refine ax_q (q_assign rfl) ?_
        | refine ax_ops_nil ?_
        | refine ax_post_code ?_
        | refine ax_q (q_extract rfl rfl) ?_)
      refine ax_slot 4 (.ro (.strs (outAllF R).1) 0 (outAllF R).1.length) rfl hrq ?_
      repeat (refine ax_return ?_)
      exact ax_ret hR rfl rfl
  · have hg : ¬ (m ≠ [] ∧ widM m ≠ v.length) := fun q => by
      have : m.length = 0 := by omega
      exact q.1 (List.length_eq_zero_iff.1 this)
    have eg := good hg
    have hdA := rest hg
    have nm := min_ok m (by omega) (fun r hr => ⟨by have := (hdA (r.map ratV) (List.mem_map.2 ⟨r, hr, rfl⟩)).1; rw [List.length_map] at this; omega, fun s hs => ⟨(hrm r hr).2 s hs, im.ok r hr s hs⟩⟩)
    have nv := in_ok' v (by omega) (fun s hs => ⟨hrv s hs, allE_mem av s hs⟩)
    have dv : ∀ q ∈ v.map ratV, D 2000 q := valid_D (fun s hs => allE_mem av s hs)
    have hvl : (v.map ratV).length = v.length := List.length_map _
    have hml0 : (inM m).length = m.length := inM_len m
    have happ : applyQ (inM m) (v.map ratV) = (inM m).map (fun row => dotQ row (v.map ratV)) := rfl
    rw [happ] at eg
    rw [eg] at hR
    generalize inM m = A at *
    generalize v.map ratV = X at *
    repeat (first
      | refine ax_q (q_move rfl) ?_
      | refine ax_q (q_assign rfl) ?_
      | refine ax_ops_nil ?_
      | refine ax_post_code ?_
      | refine ax_seq ?_
      | refine ax_region rfl ?_
      | refine ax_skip_not rfl rfl rfl ?_
      | refine ax_cond_false rfl ?_
      | refine ax_skip ?_
      | refine ax_q (q_pick rfl rfl) ?_)
    refine ax_callv rfl rfl rfl nv ?_
    repeat (first
      | refine ax_q (q_move rfl) ?_
      | refine ax_q (q_assign rfl) ?_
      | refine ax_ops_nil ?_
      | refine ax_post_code ?_
      | refine ax_seq ?_
      | refine ax_region rfl ?_)
    refine ax_callv rfl rfl rfl nm ?_
    repeat (first
      | refine ax_q (q_move rfl) ?_
      | refine ax_ops_nil ?_
      | refine ax_post_code ?_
      | refine ax_q (q_len rfl rfl rfl) ?_)
    refine ax_nilobj 8 ⟨108, qsC []⟩ rfl rfl ?_
    repeat (refine ax_block ?_)
    refine ax_loop (ι := Nat) (fun i => [(8, .sl 0 0 i), (9, .ro (qsC X) 0 X.length), (37, .ro (rowsQ A) 0 m.length), (38, .int .i64 (m.length : Nat)), (39, .int .i64 (i : Nat))]) (fun i => [some ⟨108, qsC ((A.take i).map (fun row => dotQ row X))⟩])
      (fun i => i ≤ m.length) (fun i => m.length - i) 0 ⟨⟨rfl, rfl, rfl, rfl, rfl, trivial⟩, rfl, Nat.zero_le _⟩ ?_
    intro i hi
    repeat (first
      | refine ax_ops_nil ?_
      | refine ax_post_code ?_
      | refine ax_seq ?_
      | refine ax_region rfl ?_
      | refine ax_q (q_lss rfl rfl) ?_)
    refine ax_cond_dec rfl (fun h4 => ?_) (fun h4 => ?_)
    · have hi' : i < A.length := by omega
      obtain ⟨rl, rd⟩ := hdA _ (getD_mem [] hi')
      have hdot := dot_ok (A.getD i []) X 2000 2000 rd dv (by omega) (by omega) (by rw [rl]; have := Nat.mul_le_mul_right (2000 + 2000 + 1) lv; omega)
      have htk := map_take_succ (fun row : List Rat => dotQ row X) A [] i hi'
      have hml : ((A.take i).map (fun row : List Rat => dotQ row X)).length = i := by rw [List.length_map, List.length_take]; omega
      generalize (A.take i).map (fun row : List Rat => dotQ row X) = qs at *
      generalize dotQ (A.getD i []) X = q at *
      repeat (first
        | refine ax_q (q_move rfl) ?_
        | refine ax_q (q_assign rfl) ?_
        | refine ax_ops_nil ?_
        | refine ax_post_code ?_
        | refine ax_seq ?_
        | refine ax_region rfl ?_
        | refine ax_block ?_
        | refine ax_skip ?_
        | refine ax_q (q_loadf_rp rfl rfl rfl rfl) ?_
        | refine ax_q (q_index_ro' rfl rfl rfl rfl (by first | (simp only [Nat.zero_add, Int.toNat_natCast, Int.toNat_zero]; exact rfl) | exact rfl) (by omega)) ?_)
      refine ax_callv rfl rfl rfl hdot ?_
      unfold qA
      repeat (refine ax_buildSliceRo rfl rfl rfl rfl rfl rfl rfl rfl rfl rfl rfl ?_)
      refine ax_append rfl rfl rfl rfl rfl rfl rfl rfl rfl hml rfl rfl (by show 0 + 1 ≤ 1; omega) rfl (by show (i + 1) * 56 ≤ _ ∧ _; omega) ?_ (by rw [hfix]; exact fun h => h) ?_
      · intro i' j' hi hj'
        exact rowE_noref 0 3 cellsQ cellsQ_noref qs q _ (rowQ1 _) 0 i' j' hi hj'
      repeat (first
        | refine ax_q (q_assign rfl) ?_
        | refine ax_ops_nil ?_
        | refine ax_post_blk ?_)
      refine ax_post_code ?_
      refine ax_heap [some ⟨108, qsC ((A.take (i + 1)).map (fun row => dotQ row X))⟩] ?_ ?_
      · rw [htk]
        exact HSub.eqv (rowE_snoc 0 3 cellsQ qs q _ (rowQ1 _)) HSub.nil
      repeat (first
        | refine ax_q (q_move rfl) ?_
        | refine ax_ops_nil ?_
        | refine ax_region rfl ?_
        | refine ax_q (q_add rfl rfl (by omega)) ?_)
      exact ax_post_inv ⟨i + 1, by omega, by omega, ⟨rfl, rfl, rfl, rfl, rfl, trivial⟩, rfl⟩
    · have hi' : i = A.length := by omega
      subst hi'
      rw [List.take_length]
      have hml : (A.map (fun row : List Rat => dotQ row X)).length = A.length := List.length_map _
      obtain ⟨r, hfin, hrq⟩ := outAll_ok (A.map (fun row : List Rat => dotQ row X)) (by omega) (fun q hq => by
        obtain ⟨x, hx, rfl⟩ := List.mem_map.1 hq
        obtain ⟨rl, rd⟩ := hdA x hx
        have h5 := dotQ_D rd dv (by omega)
        refine sz_D (h5.mono ?_)
        rw [rl]
        have := Nat.mul_le_mul_right (2000 + 2000 + 1) lv
        omega)
      generalize A.map (fun row : List Rat => dotQ row X) = R at *
      repeat (first
        | refine ax_post_code ?_
        | refine ax_seq ?_
        | refine ax_exit ?_
        | refine ax_exit_here ?_
        | refine ax_exit_code ?_
        | refine ax_exit_inv ?_)
      refine ax_give_code 0 8 A.length [] rfl (refless_qs _) rfl (by show _ ≤ R.length; omega) trivial ?_
      refine ax_slot 8 (.ro (qsC R) 0 R.length) rfl (AEq.of_eq (by rw [hml])) ?_
      repeat (first
        | refine ax_q (q_move rfl) ?_
        | refine ax_region rfl ?_)
      refine ax_callv rfl rfl rfl hfin ?_
      repeat (first
        | refine ax_q (q_assign rfl) ?_
        | refine ax_ops_nil ?_
        | refine ax_post_code ?_
        | refine ax_q (q_extract rfl rfl) ?_)
      refine ax_slot 4 (.ro (.strs (outAllF R).1) 0 (outAllF R).1.length) rfl hrq ?_
      repeat (refine ax_return ?_)
      exact ax_ret hR rfl rfl
end Go.Proofs.YtgmleamhjnlknaaGreatDoor

namespace Go.Proofs.YtgmleamhjnlknaaGreatDoor
open Go.Ax Go.Ax.Bg Go.Ax.Rt Go.RowKit Go.Ax.Idx Go.Ax.Cd
attribute [local irreducible] Ax Post QOp ACall PureOp
set_option maxRecDepth 100000
set_option maxHeartbeats 4000000

theorem indexFuncV (l : List (List UInt8)) (g : FuncId) (caps : List AV) (p : List UInt8 → Bool) (hc : noRef.noRefs caps = true) (hlen : l.length ≤ 9223372036854775807) (hp : ∀ x ∈ l, VCall Tryz.prog g ([.str x] ++ caps) (.bool (p x))) :
    VCall Tryz.prog 76 [.ro (.strs l) 0 l.length, .fn g caps] (.int .i64 (idxF p l)) := by
  refine ACall.value0 (acall_of_ax (P := Tryz.prog) (fn := Tryz.f76) rfl rfl (by kernel_rfl) rfl (fun c hR hfix => ?_)) (fix := fun _ => False) (fun _ h => h) (by simp [noRef.noRefs, noRef, hc]) rfl
  repeat (first
    | refine ax_q (q_move rfl) ?_
    | refine ax_q (q_assign rfl) ?_
    | refine ax_ops_nil ?_
    | refine ax_post_code ?_
    | refine ax_seq ?_
    | refine ax_region rfl ?_
    | refine ax_block ?_
    | refine ax_q (q_len rfl rfl rfl) ?_)
  refine ax_loop (ι := Nat) (fun k => [(0, .ro (.strs l) 0 l.length), (1, .fn g caps), (7, .int .i64 (l.length : Nat)), (8, .int .i64 (k : Nat))]) (fun _ => [])
    (fun k => k ≤ l.length ∧ (l.take k).any p = false) (fun k => l.length - k) 0 ⟨⟨rfl, rfl, rfl, rfl, trivial⟩, rfl, Nat.zero_le _, rfl⟩ ?_
  intro k ⟨hk, hany⟩
  repeat (first
    | refine ax_ops_nil ?_
    | refine ax_post_code ?_
    | refine ax_seq ?_
    | refine ax_region rfl ?_
    | refine ax_q (q_lss rfl rfl) ?_)
  refine ax_cond_dec rfl (fun h => ?_) (fun h => ?_)
  · have hk' : k < l.length := by omega
    have hanys := any_take_succ p l [] k hk'
    repeat (first
      | refine ax_q (q_move rfl) ?_
      | refine ax_q (q_assign rfl) ?_
      | refine ax_ops_nil ?_
      | refine ax_post_code ?_
      | refine ax_seq ?_
      | refine ax_region rfl ?_
      | refine ax_block ?_
      | refine ax_skip ?_
      | refine ax_q (q_loads_rp rfl rfl rfl) ?_
      | refine ax_q (q_index_ro' rfl rfl rfl rfl (by first | (simp only [Nat.zero_add, Int.toNat_natCast, Int.toNat_zero]; exact rfl) | exact rfl) (by omega)) ?_)
    refine ax_callv rfl rfl rfl (hp _ (getD_mem [] hk')) ?_
    repeat (first
      | refine ax_ops_nil ?_
      | refine ax_post_code ?_)
    refine ax_cond rfl (fun h2 => ?_) (fun h2 => ?_)
    · repeat (first
        | refine ax_q (q_move rfl) ?_
        | refine ax_q (q_assign rfl) ?_
        | refine ax_ops_nil ?_
        | refine ax_post_code ?_
        | refine ax_seq ?_
        | refine ax_region rfl ?_
        | refine ax_return ?_
        | refine ax_ret_code ?_
        | refine ax_ret_blk ?_
        | refine ax_ret_inv ?_)
      refine ax_ret hR rfl ?_
      have := idxF_take p l k hany hk
      rw [drop_getD l [] k hk'] at this
      simp only [idxF, h2, if_true] at this
      rw [this]; simp [tupOf]
    · repeat (first
        | refine ax_q (q_move rfl) ?_
        | refine ax_ops_nil ?_
        | refine ax_post_code ?_
        | refine ax_region rfl ?_
        | refine ax_post_blk ?_
        | refine ax_skip ?_
        | refine ax_q (q_add rfl rfl (by omega)) ?_)
      refine ax_post_inv ⟨k + 1, ⟨by omega, by rw [hanys, hany, h2]; rfl⟩, by omega, ⟨rfl, rfl, rfl, rfl, trivial⟩, rfl⟩
  · have hk' : k = l.length := by omega
    subst hk'
    repeat (first
      | refine ax_q (q_assign rfl) ?_
      | refine ax_ops_nil ?_
      | refine ax_post_code ?_
      | refine ax_seq ?_
      | refine ax_region rfl ?_
      | refine ax_exit ?_
      | refine ax_exit_here ?_
      | refine ax_exit_code ?_
      | refine ax_exit_inv ?_
      | refine ax_return ?_)
    refine ax_ret hR rfl ?_
    have := idxF_take p l l.length hany hk
    rw [List.drop_length] at this
    rw [this]; rfl

theorem containsVec (l : List (List UInt8)) (g : FuncId) (caps : List AV) (p : List UInt8 → Bool) (hc : noRef.noRefs caps = true) (hlen : l.length ≤ 9223372036854775807) (hp : ∀ x ∈ l, VCall Tryz.prog g ([.str x] ++ caps) (.bool (p x))) :
    VCall Tryz.prog 22 [.ro (.strs l) 0 l.length, .fn g caps] (.bool (l.any p)) := by
  refine ACall.value0 (acall_of_ax (P := Tryz.prog) (fn := Tryz.f22) rfl rfl (by kernel_rfl) rfl (fun c hR hfix => ?_)) (fix := fun _ => False) (fun _ h => h) (by simp [noRef.noRefs, noRef, hc]) rfl
  repeat (first
    | refine ax_q (q_move rfl) ?_
    | refine ax_q (q_assign rfl) ?_
    | refine ax_ops_nil ?_
    | refine ax_post_code ?_
    | refine ax_seq ?_
    | refine ax_region rfl ?_)
  refine ax_callv rfl rfl rfl (indexFuncV l g caps p hc hlen hp) ?_
  repeat (first
    | refine ax_q (q_assign rfl) ?_
    | refine ax_ops_nil ?_
    | refine ax_post_code ?_
    | refine ax_return ?_
    | refine ax_q (q_geq rfl rfl) ?_)
  refine ax_ret hR rfl ?_
  simp only [tupOf, idxF_any]


theorem equalV (a b : List (List UInt8)) (hlen : a.length ≤ 9223372036854775807) (hlb : b.length ≤ 9223372036854775807) : VCall Tryz.prog 38 [.ro (.strs a) 0 a.length, .ro (.strs b) 0 b.length] (.bool (decide (a = b))) := by
  refine ACall.value0 (acall_of_ax (P := Tryz.prog) (fn := Tryz.f38) rfl rfl (by kernel_rfl) rfl (fun c hR hfix => ?_)) (fix := fun _ => False) (fun _ h => h) rfl rfl
  repeat (first
    | refine ax_q (q_move rfl) ?_
    | refine ax_q (q_assign rfl) ?_
    | refine ax_ops_nil ?_
    | refine ax_post_code ?_
    | refine ax_seq ?_
    | refine ax_region rfl ?_
    | refine ax_q (q_neq rfl rfl) ?_
    | refine ax_q (q_len rfl rfl rfl) ?_)
  refine ax_cond_dec rfl (fun h => ?_) (fun h => ?_)
  · repeat (first
      | refine ax_q (q_assign rfl) ?_
      | refine ax_ops_nil ?_
      | refine ax_post_code ?_
      | refine ax_seq ?_
      | refine ax_region rfl ?_
      | refine ax_return ?_
      | refine ax_ret_code ?_)
    refine ax_ret hR rfl ?_
    have : ¬ a = b := by rintro rfl; exact h rfl
    simp [tupOf, this]
  have hab : a.length = b.length := by omega
  repeat (first
    | refine ax_q (q_move rfl) ?_
    | refine ax_ops_nil ?_
    | refine ax_post_code ?_
    | refine ax_seq ?_
    | refine ax_region rfl ?_
    | refine ax_block ?_
    | refine ax_skip ?_
    | refine ax_q (q_len rfl rfl rfl) ?_)
  refine ax_loop (ι := Nat) (fun k => [(0, .ro (.strs a) 0 a.length), (1, .ro (.strs b) 0 b.length), (12, .int .i64 (a.length : Nat)), (13, .int .i64 (k : Nat))]) (fun _ => [])
    (fun k => k ≤ a.length ∧ a.take k = b.take k) (fun k => a.length - k) 0 ⟨⟨rfl, rfl, rfl, rfl, trivial⟩, rfl, Nat.zero_le _, rfl⟩ ?_
  intro k ⟨hk, heq⟩
  repeat (first
    | refine ax_ops_nil ?_
    | refine ax_post_code ?_
    | refine ax_seq ?_
    | refine ax_region rfl ?_
    | refine ax_q (q_lss rfl rfl) ?_)
  refine ax_cond_dec rfl (fun h2 => ?_) (fun h2 => ?_)
  · have hk' : k < a.length := by omega
    have ha := take_succ_getD a [] k hk'
    have hb := take_succ_getD b [] k (by omega)
    repeat (first
      | refine ax_q (q_move rfl) ?_
      | refine ax_q (q_assign rfl) ?_
      | refine ax_ops_nil ?_
      | refine ax_post_code ?_
      | refine ax_seq ?_
      | refine ax_region rfl ?_
      | refine ax_block ?_
      | refine ax_skip ?_)
    refine ax_regionq (by kernel_rfl) (by kernel_rfl) rfl ?_
    repeat (first
      | refine ax_q (q_move rfl) ?_
      | refine ax_ops_nil ?_
      | refine ax_post_code ?_
      | refine ax_q (q_loads_rp rfl rfl rfl) ?_
      | refine ax_q (q_index_ro' rfl rfl rfl rfl (by first | (simp only [Nat.zero_add, Int.toNat_natCast, Int.toNat_zero]; exact rfl) | exact rfl) (by omega)) ?_
      | refine ax_q (q_strneq rfl rfl) ?_)
    refine ax_cond_dec rfl (fun h3 => ?_) (fun h3 => ?_)
    · repeat (first
        | refine ax_q (q_assign rfl) ?_
        | refine ax_ops_nil ?_
        | refine ax_post_code ?_
        | refine ax_seq ?_
        | refine ax_region rfl ?_
        | refine ax_return ?_
        | refine ax_ret_code ?_
        | refine ax_ret_blk ?_
        | refine ax_ret_inv ?_)
      refine ax_ret hR rfl ?_
      have : ¬ a = b := by rintro rfl; exact h3 rfl
      simp [tupOf, this]
    · repeat (first
        | refine ax_q (q_move rfl) ?_
        | refine ax_ops_nil ?_
        | refine ax_post_code ?_
        | refine ax_region rfl ?_
        | refine ax_post_blk ?_
        | refine ax_skip ?_
        | refine ax_q (q_add rfl rfl (by omega)) ?_)
      have h4 : a.getD k [] = b.getD k [] := Classical.not_not.1 h3
      exact ax_post_inv ⟨k + 1, ⟨by omega, by rw [ha, hb, heq, h4]⟩, by omega, ⟨rfl, rfl, rfl, rfl, trivial⟩, rfl⟩
  · have hk' : k = a.length := by omega
    subst hk'
    rw [List.take_length, hab, List.take_length] at heq
    repeat (first
      | refine ax_q (q_assign rfl) ?_
      | refine ax_ops_nil ?_
      | refine ax_post_code ?_
      | refine ax_seq ?_
      | refine ax_region rfl ?_
      | refine ax_exit ?_
      | refine ax_exit_here ?_
      | refine ax_exit_code ?_
      | refine ax_exit_inv ?_
      | refine ax_return ?_)
    refine ax_ret hR rfl ?_
    simp [tupOf, heq]

theorem indexFuncM (l : List (List Text)) (g : FuncId) (caps : List AV) (p : List Text → Bool) (hc : noRef.noRefs caps = true) (hlen : l.length ≤ 9223372036854775807) (hp : ∀ x ∈ l, VCall Tryz.prog g ([.ro (.strs x) 0 x.length] ++ caps) (.bool (p x))) :
    VCall Tryz.prog 137 [.ro (rowsT l) 0 l.length, .fn g caps] (.int .i64 (idxF p l)) := by
  refine ACall.value0 (acall_of_ax (P := Tryz.prog) (fn := Tryz.f137) rfl rfl (by kernel_rfl) rfl (fun c hR hfix => ?_)) (fix := fun _ => False) (fun _ h => h) (by simp [noRef.noRefs, noRef, hc]) rfl
  repeat (first
    | refine ax_q (q_move rfl) ?_
    | refine ax_q (q_assign rfl) ?_
    | refine ax_ops_nil ?_
    | refine ax_post_code ?_
    | refine ax_seq ?_
    | refine ax_region rfl ?_
    | refine ax_block ?_
    | refine ax_q (q_len rfl rfl rfl) ?_)
  refine ax_loop (ι := Nat) (fun k => [(0, .ro (rowsT l) 0 l.length), (1, .fn g caps), (7, .int .i64 (l.length : Nat)), (8, .int .i64 (k : Nat))]) (fun _ => [])
    (fun k => k ≤ l.length ∧ (l.take k).any p = false) (fun k => l.length - k) 0 ⟨⟨rfl, rfl, rfl, rfl, trivial⟩, rfl, Nat.zero_le _, rfl⟩ ?_
  intro k ⟨hk, hany⟩
  repeat (first
    | refine ax_ops_nil ?_
    | refine ax_post_code ?_
    | refine ax_seq ?_
    | refine ax_region rfl ?_
    | refine ax_q (q_lss rfl rfl) ?_)
  refine ax_cond_dec rfl (fun h => ?_) (fun h => ?_)
  · have hk' : k < l.length := by omega
    have hanys := any_take_succ p l [] k hk'
    repeat (first
      | refine ax_q (q_move rfl) ?_
      | refine ax_q (q_assign rfl) ?_
      | refine ax_ops_nil ?_
      | refine ax_post_code ?_
      | refine ax_seq ?_
      | refine ax_region rfl ?_
      | refine ax_block ?_
      | refine ax_skip ?_
      | refine ax_q (q_loadf_rp rfl rfl rfl rfl) ?_
      | refine ax_q (q_index_ro' rfl rfl rfl rfl (by first | (simp only [Nat.zero_add, Int.toNat_natCast, Int.toNat_zero]; exact rfl) | exact rfl) (by omega)) ?_)
    refine ax_callv rfl rfl rfl (hp _ (getD_mem [] hk')) ?_
    repeat (first
      | refine ax_ops_nil ?_
      | refine ax_post_code ?_)
    refine ax_cond rfl (fun h2 => ?_) (fun h2 => ?_)
    · repeat (first
        | refine ax_q (q_move rfl) ?_
        | refine ax_q (q_assign rfl) ?_
        | refine ax_ops_nil ?_
        | refine ax_post_code ?_
        | refine ax_seq ?_
        | refine ax_region rfl ?_
        | refine ax_return ?_
        | refine ax_ret_code ?_
        | refine ax_ret_blk ?_
        | refine ax_ret_inv ?_)
      refine ax_ret hR rfl ?_
      have := idxF_take p l k hany hk
      rw [drop_getD l [] k hk'] at this
      simp only [idxF, h2, if_true] at this
      rw [this]; simp [tupOf]
    · repeat (first
        | refine ax_q (q_move rfl) ?_
        | refine ax_ops_nil ?_
        | refine ax_post_code ?_
        | refine ax_region rfl ?_
        | refine ax_post_blk ?_
        | refine ax_skip ?_
        | refine ax_q (q_add rfl rfl (by omega)) ?_)
      refine ax_post_inv ⟨k + 1, ⟨by omega, by rw [hanys, hany, h2]; rfl⟩, by omega, ⟨rfl, rfl, rfl, rfl, trivial⟩, rfl⟩
  · have hk' : k = l.length := by omega
    subst hk'
    repeat (first
      | refine ax_q (q_assign rfl) ?_
      | refine ax_ops_nil ?_
      | refine ax_post_code ?_
      | refine ax_seq ?_
      | refine ax_region rfl ?_
      | refine ax_exit ?_
      | refine ax_exit_here ?_
      | refine ax_exit_code ?_
      | refine ax_exit_inv ?_
      | refine ax_return ?_)
    refine ax_ret hR rfl ?_
    have := idxF_take p l l.length hany hk
    rw [List.drop_length] at this
    rw [this]; rfl

theorem containsM (l : List (List Text)) (g : FuncId) (caps : List AV) (p : List Text → Bool) (hc : noRef.noRefs caps = true) (hlen : l.length ≤ 9223372036854775807) (hp : ∀ x ∈ l, VCall Tryz.prog g ([.ro (.strs x) 0 x.length] ++ caps) (.bool (p x))) :
    VCall Tryz.prog 60 [.ro (rowsT l) 0 l.length, .fn g caps] (.bool (l.any p)) := by
  refine ACall.value0 (acall_of_ax (P := Tryz.prog) (fn := Tryz.f60) rfl rfl (by kernel_rfl) rfl (fun c hR hfix => ?_)) (fix := fun _ => False) (fun _ h => h) (by simp [noRef.noRefs, noRef, hc]) rfl
  repeat (first
    | refine ax_q (q_move rfl) ?_
    | refine ax_q (q_assign rfl) ?_
    | refine ax_ops_nil ?_
    | refine ax_post_code ?_
    | refine ax_seq ?_
    | refine ax_region rfl ?_)
  refine ax_callv rfl rfl rfl (indexFuncM l g caps p hc hlen hp) ?_
  repeat (first
    | refine ax_q (q_assign rfl) ?_
    | refine ax_ops_nil ?_
    | refine ax_post_code ?_
    | refine ax_return ?_
    | refine ax_q (q_geq rfl rfl) ?_)
  refine ax_ret hR rfl ?_
  simp only [tupOf, idxF_any]



theorem small11 (s : Text) (hs : s.length ≤ 9223372036854775807) : VCall Tryz.prog 62 [.str s] (.bool (decide (12 < (s.length : Int)))) := by
  refine ACall.value0 (acall_of_ax (P := Tryz.prog) (fn := Tryz.f62) rfl rfl (by kernel_rfl) rfl (fun c hR hfix => ?_)) (fix := fun _ => False) (fun _ h => h) rfl rfl
  repeat (first
    | refine ax_q (q_move rfl) ?_
    | refine ax_q (q_assign rfl) ?_
    | refine ax_ops_nil ?_
    | refine ax_post_code ?_
    | refine ax_seq ?_
    | refine ax_region rfl ?_
    | refine ax_return ?_
    | refine ax_q (q_gtr rfl rfl) ?_
    | refine ax_q (q_lenstr rfl rfl) ?_)
  exact ax_ret hR rfl rfl
def longV (n : Int) (v : List Text) : Bool := decide (n < (v.length : Int)) || v.any (fun s => decide (12 < (s.length : Int)))
theorem small1 (n : Int) (v : List Text) (hl : v.length ≤ 9223372036854775807) (hs : ∀ s ∈ v, s.length ≤ 9223372036854775807) : VCall Tryz.prog 61 [.ro (.strs v) 0 v.length, .rp (.box [.int .i64 n]) 0 0] (.bool (longV n v)) := by
  have hc := containsVec v 62 [] (fun s => decide (12 < (s.length : Int))) rfl hl (fun s hm => small11 s (hs s hm))
  unfold longV
  refine ACall.value0 (acall_of_ax (P := Tryz.prog) (fn := Tryz.f61) rfl rfl (by kernel_rfl) rfl (fun c hR hfix => ?_)) (fix := fun _ => False) (fun _ h => h) rfl rfl
  repeat (first
    | refine ax_q (q_move rfl) ?_
    | refine ax_q (q_assign rfl) ?_
    | refine ax_ops_nil ?_
    | refine ax_post_code ?_
    | refine ax_seq ?_
    | refine ax_region rfl ?_
    | refine ax_q (q_gtr rfl rfl) ?_
    | refine ax_q (q_len rfl rfl rfl) ?_
    | refine ax_q (q_loadb_rp rfl rfl rfl rfl) ?_)
  refine ax_gsplit rfl rfl (fun h => ?_) (fun h => ?_)
  · rw [decide_eq_true h, Bool.true_or] at hR
    repeat (first
      | refine ax_q (q_assign rfl) ?_
      | refine ax_ops_nil ?_
      | refine ax_post_code ?_
      | refine ax_skip_not rfl rfl rfl ?_
      | refine ax_return ?_
      | refine ax_q (q_pick rfl rfl) ?_)
    exact ax_ret hR rfl rfl
  · rw [decide_eq_false h, Bool.false_or] at hR
    repeat (first
      | refine ax_q (q_move rfl) ?_
      | refine ax_guard rfl rfl ?_)
    refine ax_callv rfl rfl rfl hc ?_
    repeat (first
      | refine ax_q (q_assign rfl) ?_
      | refine ax_ops_nil ?_
      | refine ax_post_code ?_
      | refine ax_return ?_
      | refine ax_q (q_pick rfl rfl) ?_)
    exact ax_ret hR rfl rfl
theorem boxI1 (n : Int) : refless (.box [.int .i64 n]) := by
  intro i j _ hj
  obtain rfl : j = 0 := by have hj : j < 1 := hj; omega
  rfl
def cellM (m : List (List Text)) : List AV := [.ro (rowsT m) 0 m.length]
abbrev matsT (l : List (List (List Text))) : Cells := rowE [] 1 cellM l
theorem smallM_ok (n : Nat) (l : List (List (List Text))) (hn : n ≤ 1000) (hl : l.length ≤ 9223372036854775807) (hm : ∀ m ∈ l, m.length ≤ 9223372036854775807 ∧ ∀ r ∈ m, r.length ≤ 9223372036854775807 ∧ ∀ s ∈ r, s.length ≤ 9223372036854775807) : VCall Tryz.prog 16 [.int .i64 (n : Nat), .ro (matsT l) 0 l.length] (.bool (l.all (tiny n 12))) := by
  have hbad : ∀ m : List (List Text), tiny n 12 m = !(decide ((n : Int) < (m.length : Int)) || m.any (longV n)) := by
    intro m
    unfold tiny longV
    rw [Bool.not_or, Bool.eq_iff_iff]
    simp only [Bool.and_eq_true, Bool.not_eq_true', decide_eq_true_eq, decide_eq_false_iff_not, List.all_eq_true, List.any_eq_false, Bool.or_eq_true, not_or, List.any_eq_true, not_exists]
    constructor
    · rintro ⟨h1, h2⟩
      refine ⟨by omega, fun v hv => ?_⟩
      obtain ⟨h3, h4⟩ := h2 v hv
      refine ⟨by omega, fun s hs => ?_⟩
      have := h4 s hs.1
      have := hs.2
      omega
    · rintro ⟨h1, h2⟩
      refine ⟨by omega, fun v hv => ?_⟩
      obtain ⟨h3, h4⟩ := h2 v hv
      refine ⟨by omega, fun s hs => ?_⟩
      have := h4 s
      simp only [hs, true_and] at this
      omega
  refine ACall.value0 (acall_of_ax (P := Tryz.prog) (fn := Tryz.f16) rfl rfl (by kernel_rfl) rfl (fun c hR hfix => ?_)) (fix := fun _ => False) (fun _ h => h) rfl rfl
  repeat (first
    | refine ax_q (q_move rfl) ?_
    | refine ax_q (q_assign rfl) ?_
    | refine ax_ops_nil ?_
    | refine ax_post_code ?_
    | refine ax_seq ?_
    | refine ax_region rfl ?_
    | refine ax_block ?_
    | refine ax_q (q_len rfl rfl rfl) ?_
    | refine ax_box rfl rfl ?_)
  refine ax_loop (ι := Nat) (fun k => [(0, .int .i64 (n : Nat)), (1, .ro (matsT l) 0 l.length), (2, .ptr 0 0 0), (7, .ro (matsT l) 0 l.length), (8, .int .i64 (l.length : Nat)), (9, .int .i64 (k : Nat))]) (fun _ => [some ⟨3, .box [.int .i64 (n : Nat)]⟩])
    (fun k => k ≤ l.length ∧ l.all (tiny n 12) = (l.drop k).all (tiny n 12)) (fun k => l.length - k) 0 ⟨⟨rfl, rfl, rfl, rfl, rfl, rfl, trivial⟩, rfl, Nat.zero_le _, by rw [List.drop_zero]⟩ ?_
  rintro k ⟨hk, hA⟩
  repeat (first
    | refine ax_ops_nil ?_
    | refine ax_post_code ?_
    | refine ax_seq ?_
    | refine ax_region rfl ?_
    | refine ax_q (q_lss rfl rfl) ?_)
  refine ax_cond_dec rfl (fun h => ?_) (fun h => ?_)
  · have hk' : k < l.length := by omega
    have hd := drop_cons (d := []) hk'
    rw [hd, List.all_cons, hbad] at hA
    obtain ⟨g1, g2⟩ := hm _ (getD_mem [] hk')
    have hc := containsM (l.getD k []) 61 [.rp (.box [.int .i64 (n : Nat)]) 0 0] (longV n) rfl g1 (fun v hv => small1 n v (g2 v hv).1 (g2 v hv).2)
    repeat (first
      | refine ax_q (q_move rfl) ?_
      | refine ax_q (q_assign rfl) ?_
      | refine ax_ops_nil ?_
      | refine ax_post_code ?_
      | refine ax_seq ?_
      | refine ax_region rfl ?_
      | refine ax_block ?_
      | refine ax_skip ?_
      | refine ax_q (q_loadf_rp rfl rfl rfl rfl) ?_
      | refine ax_q (q_loadb_ptr rfl rfl rfl rfl rfl) ?_
      | refine ax_q (q_gtr rfl rfl) ?_
      | refine ax_q (q_len rfl rfl rfl) ?_
      | refine ax_q (q_index_ro' rfl rfl rfl rfl (by first | (simp only [Nat.zero_add, Int.toNat_natCast, Int.toNat_zero]; exact rfl) | exact rfl) (by omega)) ?_)
    refine ax_gsplit rfl rfl (fun h2 => ?_) (fun h2 => ?_)
    · rw [decide_eq_true h2, Bool.true_or, Bool.not_true, Bool.false_and] at hA
      rw [hA] at hR
      repeat (first
        | refine ax_q (q_assign rfl) ?_
        | refine ax_ops_nil ?_
        | refine ax_post_code ?_
        | refine ax_seq ?_
        | refine ax_region rfl ?_
        | refine ax_skip_not rfl rfl rfl ?_
        | refine ax_cond_true rfl ?_
        | refine ax_return ?_
        | refine ax_ret_code ?_
        | refine ax_ret_blk ?_
        | refine ax_ret_inv ?_
        | refine ax_q (q_pick rfl rfl) ?_)
      exact ax_ret hR rfl rfl
    · rw [decide_eq_false h2, Bool.false_or] at hA
      cases hb : (l.getD k []).any (longV (n : Nat))
      · rw [hb] at hA hc
        repeat (first
          | refine ax_q (q_move rfl) ?_
          | refine ax_guard rfl rfl ?_
          | refine ax_q (q_makefn rfl) ?_)
        refine ax_calll rfl rfl rfl rfl hc (refl1 (o1 := ⟨3, .box [.int .i64 (n : Nat)]⟩) (boxI1 _)) ⟨trivial, ⟨fun o ho => by simp at ho; subst ho; exact Nat.zero_lt_one, trivial⟩, trivial⟩ rfl rfl rfl ?_
        repeat (first
          | refine ax_q (q_move rfl) ?_
          | refine ax_ops_nil ?_
          | refine ax_post_code ?_
          | refine ax_region rfl ?_
          | refine ax_cond_false rfl ?_
          | refine ax_post_blk ?_
          | refine ax_skip ?_
          | refine ax_q (q_pick rfl rfl) ?_
          | refine ax_q (q_add rfl rfl (by omega)) ?_)
        exact ax_post_inv ⟨k + 1, ⟨by omega, hA⟩, by omega, ⟨rfl, rfl, rfl, rfl, rfl, rfl, trivial⟩, rfl⟩
      · rw [hb] at hA hc
        rw [Bool.not_true, Bool.false_and] at hA
        rw [hA] at hR
        repeat (first
          | refine ax_q (q_move rfl) ?_
          | refine ax_guard rfl rfl ?_
          | refine ax_q (q_makefn rfl) ?_)
        refine ax_calll rfl rfl rfl rfl hc (refl1 (o1 := ⟨3, .box [.int .i64 (n : Nat)]⟩) (boxI1 _)) ⟨trivial, ⟨fun o ho => by simp at ho; subst ho; exact Nat.zero_lt_one, trivial⟩, trivial⟩ rfl rfl rfl ?_
        repeat (first
          | refine ax_q (q_assign rfl) ?_
          | refine ax_ops_nil ?_
          | refine ax_post_code ?_
          | refine ax_seq ?_
          | refine ax_region rfl ?_
          | refine ax_cond_true rfl ?_
          | refine ax_return ?_
          | refine ax_ret_code ?_
          | refine ax_ret_blk ?_
          | refine ax_ret_inv ?_
          | refine ax_q (q_pick rfl rfl) ?_)
        exact ax_ret hR rfl rfl
  · have hk' : k = l.length := by omega
    subst hk'
    rw [List.drop_length] at hA
    rw [hA] at hR
    repeat (first
      | refine ax_q (q_assign rfl) ?_
      | refine ax_ops_nil ?_
      | refine ax_post_code ?_
      | refine ax_seq ?_
      | refine ax_region rfl ?_
      | refine ax_exit ?_
      | refine ax_exit_here ?_
      | refine ax_exit_code ?_
      | refine ax_exit_inv ?_
      | refine ax_return ?_)
    exact ax_ret hR rfl rfl
end Go.Proofs.YtgmleamhjnlknaaGreatDoor

namespace Go.Proofs.YtgmleamhjnlknaaGreatDoor
open Go.Ax Go.Ax.Bg Go.Ax.Rt Go.RowKit Go.Ax.Idx Go.Ax.Cd
attribute [local irreducible] Ax Post QOp ACall PureOp
set_option maxRecDepth 100000
set_option maxHeartbeats 4000000

def colT (m : List (List Text)) (k : Nat) : List Text := m.map (fun r => r.getD k [])
theorem colT_len (m : List (List Text)) (k : Nat) : (colT m k).length = m.length := by simp [colT]
theorem trans_ok (m : List (List Text)) (hlen : m.length ≤ 9223372036854775807) (hr : ∀ r ∈ m, r.length ≤ 9223372036854775807 ∧ ∀ s ∈ r, s.length ≤ 9223372036854775807) : VCall Tryz.prog 39 [.ro (rowsT m) 0 m.length] (matP (transR m)) := by
  have cm := mcheck_ok m hlen hr
  have wm := width_ok m hlen
  refine ACall.value0 (acall_of_ax (P := Tryz.prog) (fn := Tryz.f39) rfl rfl (by kernel_rfl) rfl (fun c hR hfix => ?_)) (fix := fun _ => False) (fun _ h => h) rfl rfl
  repeat (first
    | refine ax_q (q_move rfl) ?_
    | refine ax_q (q_assign rfl) ?_
    | refine ax_ops_nil ?_
    | refine ax_post_code ?_
    | refine ax_seq ?_
    | refine ax_region rfl ?_)
  refine ax_callv rfl rfl rfl cm ?_
  repeat (first
    | refine ax_q (q_move rfl) ?_
    | refine ax_q (q_assign rfl) ?_
    | refine ax_ops_nil ?_
    | refine ax_post_code ?_
    | refine ax_seq ?_
    | refine ax_region rfl ?_
    | refine ax_q (q_neq rfl rfl) ?_)
  refine ax_cond_dec rfl (fun h1 => ?_) (fun h1 => ?_)
  · have e : transR m = ([], matE m) := by unfold transR; rw [if_pos h1]
    rw [e] at hR
    repeat (first
      | refine ax_q (q_move rfl) ?_
      | refine ax_q (q_assign rfl) ?_
      | refine ax_ops_nil ?_
      | refine ax_post_code ?_
      | refine ax_seq ?_
      | refine ax_region rfl ?_)
    refine ax_slot 2 (.ro (rowsT []) 0 0) rfl AEq.nil ?_
    repeat (first
      | refine ax_return ?_
      | refine ax_ret_code ?_)
    exact ax_ret hR rfl rfl
  have em := Classical.not_not.1 h1
  have im := matE_zero em
  have sm := im.sp
  have wle : widM m ≤ 40 := by
    cases m with
    | nil => exact Nat.zero_le _
    | cons r b' => exact im.sq (by simp)
  have e : transR m = ((List.range (widM m)).map (colT m), 0) := by unfold transR transT colT; rw [if_neg h1]
  rw [e] at hR
  generalize hwm : widM m = w at *
  repeat (first
    | refine ax_q (q_move rfl) ?_
    | refine ax_q (q_assign rfl) ?_
    | refine ax_ops_nil ?_
    | refine ax_post_code ?_
    | refine ax_seq ?_
    | refine ax_region rfl ?_
    | refine ax_skip ?_)
  refine ax_callv rfl rfl rfl wm ?_
  repeat (first
    | refine ax_q (q_move rfl) ?_
    | refine ax_ops_nil ?_
    | refine ax_post_code ?_)
  refine ax_nilobj 5 ⟨36, rowsT []⟩ rfl rfl ?_
  repeat (refine ax_block ?_)
  refine ax_loop (ι := Nat) (fun k => [(0, .ro (rowsT m) 0 m.length), (5, .sl 0 0 k), (16, .int .i64 (w : Nat)), (17, .int .i64 (k : Nat))]) (fun k => [some ⟨36, rowsT ((List.range k).map (colT m))⟩])
    (fun k => k ≤ w) (fun k => w - k) 0 ⟨⟨rfl, rfl, rfl, rfl, trivial⟩, rfl, Nat.zero_le _⟩ ?_
  intro k hk
  repeat (first
    | refine ax_ops_nil ?_
    | refine ax_post_code ?_
    | refine ax_seq ?_
    | refine ax_region rfl ?_
    | refine ax_q (q_lss rfl rfl) ?_)
  refine ax_cond_dec rfl (fun h => ?_) (fun h => ?_)
  · have hk' : k < w := by omega
    repeat (first
      | refine ax_post_code ?_
      | refine ax_seq ?_
      | refine ax_skip ?_)
    refine ax_block ?_
    repeat (first
      | refine ax_q (q_move rfl) ?_
      | refine ax_q (q_assign rfl) ?_
      | refine ax_ops_nil ?_
      | refine ax_post_code ?_
      | refine ax_seq ?_
      | refine ax_region rfl ?_
      | refine ax_q (q_len rfl rfl rfl) ?_)
    refine ax_nilobj 7 ⟨40, .strs []⟩ rfl rfl ?_
    repeat (refine ax_block ?_)
    refine ax_loop (ι := Nat) (fun j => [(0, .ro (rowsT m) 0 m.length), (5, .sl 0 0 k), (6, .int .i64 (k : Nat)), (7, .sl 1 0 j), (16, .int .i64 (w : Nat)), (17, .int .i64 (k : Nat)), (20, .ro (rowsT m) 0 m.length), (21, .int .i64 (m.length : Nat)), (22, .int .i64 (j : Nat))]) (fun j => [some ⟨36, rowsT ((List.range k).map (colT m))⟩, some ⟨40, .strs (colT (m.take j) k)⟩])
      (fun j => j ≤ m.length) (fun j => m.length - j) 0 ⟨⟨rfl, rfl, rfl, rfl, rfl, rfl, rfl, rfl, rfl, trivial⟩, rfl, Nat.zero_le _⟩ ?_
    intro j hj
    repeat (first
      | refine ax_ops_nil ?_
      | refine ax_post_code ?_
      | refine ax_seq ?_
      | refine ax_region rfl ?_
      | refine ax_q (q_lss rfl rfl) ?_)
    refine ax_cond_dec rfl (fun h2 => ?_) (fun h2 => ?_)
    · have hj' : j < m.length := by omega
      have hrl := im.cols _ (getD_mem [] hj')
      have htk : colT (m.take (j + 1)) k = colT (m.take j) k ++ [(m.getD j []).getD k []] := map_take_succ (fun row : List Text => row.getD k []) m [] j hj'
      have hml : (colT (m.take j) k).length = j := by rw [colT_len, List.length_take]; omega
      generalize colT (m.take j) k = qs at *
      generalize (List.range k).map (colT m) = rs at *
      have hkr : k < (m.getD j []).length := by omega
      repeat (first
        | refine ax_q (q_move rfl) ?_
        | refine ax_q (q_assign rfl) ?_
        | refine ax_ops_nil ?_
        | refine ax_post_code ?_
        | refine ax_seq ?_
        | refine ax_region rfl ?_
        | refine ax_block ?_
        | refine ax_skip ?_
        | refine ax_q (q_loads_rp rfl rfl rfl) ?_
        | refine ax_q (q_loadf_rp rfl rfl rfl rfl) ?_
        | refine ax_q (q_index_ro' rfl rfl rfl rfl (by first | (simp only [Nat.zero_add, Int.toNat_natCast, Int.toNat_zero]; exact rfl) | exact rfl) (by omega)) ?_
        | refine ax_buildSliceRo rfl rfl rfl rfl rfl rfl rfl rfl rfl rfl rfl ?_)
      refine ax_append rfl rfl rfl rfl rfl rfl rfl rfl rfl hml rfl rfl (by show 0 + 1 ≤ 1; omega) rfl (by show (j + 1) * 16 ≤ _ ∧ _; omega) (fun i j _ _ => rfl) (by rw [hfix]; exact fun h => h) ?_
      repeat (first
        | refine ax_q (q_assign rfl) ?_
        | refine ax_ops_nil ?_
        | refine ax_post_blk ?_)
      refine ax_post_code ?_
      refine ax_heap [some ⟨36, rowsT rs⟩, some ⟨40, .strs (colT (m.take (j + 1)) k)⟩] ?_ ?_
      · rw [htk]
        exact HSub.eqv ⟨rfl, rfl, fun i j _ hj => (cellS_noref _ j _ hj).symm⟩ (HSub.eqv (CEq.refl _) HSub.nil)
      repeat (first
        | refine ax_q (q_move rfl) ?_
        | refine ax_ops_nil ?_
        | refine ax_region rfl ?_
        | refine ax_q (q_add rfl rfl (by omega)) ?_)
      exact ax_post_inv ⟨j + 1, by omega, by omega, ⟨rfl, rfl, rfl, rfl, rfl, rfl, rfl, rfl, rfl, trivial⟩, rfl⟩
    · have hj' : j = m.length := by omega
      subst hj'
      rw [List.take_length]
      have hcl : (colT m k).length = m.length := colT_len m k
      have hml : ((List.range k).map (colT m)).length = k := by simp
      have htk : (List.range (k + 1)).map (colT m) = (List.range k).map (colT m) ++ [colT m k] := by rw [List.range_succ, List.map_append]; rfl
      generalize (List.range k).map (colT m) = rs at *
      generalize colT m k = col at *
      repeat (first
        | refine ax_post_code ?_
        | refine ax_exit ?_
        | refine ax_exit_here ?_
        | refine ax_exit_code ?_
        | refine ax_exit_inv ?_)
      refine ax_give_code 1 7 m.length [(0, .ro (rowsT m) 0 m.length), (5, .sl 0 0 k), (16, .int .i64 (w : Nat)), (17, .int .i64 (k : Nat))] rfl (fun _ _ _ _ => rfl) rfl (by show _ ≤ col.length; omega) ⟨rfl, rfl, rfl, rfl, trivial⟩ ?_
      refine ax_slot 7 (.ro (.strs col) 0 col.length) rfl (AEq.of_eq (by rw [hcl])) ?_
      repeat (first
        | refine ax_q (q_move rfl) ?_
        | refine ax_region rfl ?_
        | refine ax_buildSliceRo rfl rfl rfl rfl rfl rfl rfl rfl rfl rfl rfl ?_)
      refine ax_append rfl rfl rfl rfl rfl rfl rfl rfl rfl hml rfl rfl (by show 0 + 1 ≤ 1; omega) rfl (by show (k + 1) * 24 ≤ _ ∧ _; omega) ?_ (by rw [hfix]; exact fun h => h) ?_
      · intro i' j hi hj
        exact rowE_noref [] 1 cellS cellS_noref rs col _ (rowS1 _) 0 i' j hi hj
      repeat (first
        | refine ax_q (q_assign rfl) ?_
        | refine ax_ops_nil ?_
        | refine ax_post_blk ?_)
      refine ax_post_code ?_
      refine ax_heap ([some ⟨36, rowsT ((List.range (k + 1)).map (colT m))⟩] ++ [none]) ?_ ?_
      · rw [htk]
        exact HSub.eqv (rowE_snoc [] 1 cellS rs col _ (rowS1 _)) (HSub.drop HSub.nil)
      refine ax_drop (H1 := [some ⟨36, rowsT ((List.range (k + 1)).map (colT m))⟩]) rfl (by rw [hfix]; exact fun h => h) ?_
      refine ax_heap [some ⟨36, rowsT ((List.range (k + 1)).map (colT m))⟩] ?_ ?_
      · exact HSub.eqv ⟨rfl, rfl, fun i j _ hj => (cellS_noref _ j _ hj).symm⟩ HSub.nil
      repeat (first
        | refine ax_q (q_move rfl) ?_
        | refine ax_ops_nil ?_
        | refine ax_region rfl ?_
        | refine ax_q (q_add rfl rfl (by omega)) ?_)
      exact ax_post_inv ⟨k + 1, by omega, by omega, ⟨rfl, rfl, rfl, rfl, trivial⟩, rfl⟩
  · have hk' : k = w := by omega
    subst hk'
    have hml : ((List.range k).map (colT m)).length = k := by simp
    generalize (List.range k).map (colT m) = rs at *
    repeat (first
      | refine ax_post_code ?_
      | refine ax_seq ?_
      | refine ax_exit ?_
      | refine ax_exit_here ?_
      | refine ax_exit_code ?_
      | refine ax_exit_inv ?_)
    refine ax_give_code 0 5 k [] rfl (refless_rowsT _) rfl (by show _ ≤ rs.length; omega) trivial ?_
    refine ax_slot 5 (.ro (rowsT rs) 0 rs.length) rfl (AEq.of_eq (by rw [hml])) ?_
    repeat (first
      | refine ax_q (q_move rfl) ?_
      | refine ax_q (q_assign rfl) ?_
      | refine ax_ops_nil ?_
      | refine ax_post_code ?_
      | refine ax_region rfl ?_
      | refine ax_return ?_)
    exact ax_ret hR rfl rfl
theorem eqFuncM (a b : List (List Text)) (hla : a.length ≤ 9223372036854775807) (hlb : b.length ≤ 9223372036854775807) (hra : ∀ r ∈ a, r.length ≤ 9223372036854775807) (hrb : ∀ r ∈ b, r.length ≤ 9223372036854775807) (g : FuncId) (hg : ∀ x ∈ a, ∀ y ∈ b, VCall Tryz.prog g [.ro (.strs x) 0 x.length, .ro (.strs y) 0 y.length] (.bool (decide (x = y)))) : VCall Tryz.prog 97 [.ro (rowsT a) 0 a.length, .ro (rowsT b) 0 b.length, .fn g []] (.bool (decide (a = b))) := by
  refine ACall.value0 (acall_of_ax (P := Tryz.prog) (fn := Tryz.f97) rfl rfl (by kernel_rfl) rfl (fun c hR hfix => ?_)) (fix := fun _ => False) (fun _ h => h) rfl rfl
  repeat (first
    | refine ax_q (q_move rfl) ?_
    | refine ax_q (q_assign rfl) ?_
    | refine ax_ops_nil ?_
    | refine ax_post_code ?_
    | refine ax_seq ?_
    | refine ax_region rfl ?_
    | refine ax_q (q_neq rfl rfl) ?_
    | refine ax_q (q_len rfl rfl rfl) ?_)
  refine ax_cond_dec rfl (fun h => ?_) (fun h => ?_)
  · repeat (first
      | refine ax_q (q_assign rfl) ?_
      | refine ax_ops_nil ?_
      | refine ax_post_code ?_
      | refine ax_seq ?_
      | refine ax_region rfl ?_
      | refine ax_return ?_
      | refine ax_ret_code ?_)
    refine ax_ret hR rfl ?_
    have : ¬ a = b := by rintro rfl; exact h rfl
    simp [tupOf, this]
  have hab : a.length = b.length := by omega
  repeat (first
    | refine ax_q (q_move rfl) ?_
    | refine ax_ops_nil ?_
    | refine ax_post_code ?_
    | refine ax_seq ?_
    | refine ax_region rfl ?_
    | refine ax_block ?_
    | refine ax_skip ?_
    | refine ax_q (q_len rfl rfl rfl) ?_)
  refine ax_loop (ι := Nat) (fun k => [(0, .ro (rowsT a) 0 a.length), (1, .ro (rowsT b) 0 b.length), (2, .fn g []), (15, .ro (rowsT a) 0 a.length), (16, .int .i64 (a.length : Nat)), (17, .int .i64 (k : Nat))]) (fun _ => [])
    (fun k => k ≤ a.length ∧ a.take k = b.take k) (fun k => a.length - k) 0 ⟨⟨rfl, rfl, rfl, rfl, rfl, rfl, trivial⟩, rfl, Nat.zero_le _, rfl⟩ ?_
  intro k ⟨hk, heq⟩
  repeat (first
    | refine ax_ops_nil ?_
    | refine ax_post_code ?_
    | refine ax_seq ?_
    | refine ax_region rfl ?_
    | refine ax_q (q_lss rfl rfl) ?_)
  refine ax_cond_dec rfl (fun h2 => ?_) (fun h2 => ?_)
  · have hk' : k < a.length := by omega
    have ha := take_succ_getD a [] k hk'
    have hb := take_succ_getD b [] k (by omega)
    have hc := hg _ (getD_mem [] hk') _ (getD_mem [] (show k < b.length by omega))
    repeat (first
      | refine ax_q (q_move rfl) ?_
      | refine ax_q (q_assign rfl) ?_
      | refine ax_ops_nil ?_
      | refine ax_post_code ?_
      | refine ax_seq ?_
      | refine ax_region rfl ?_
      | refine ax_block ?_
      | refine ax_skip ?_
      | refine ax_q (q_loadf_rp rfl rfl rfl rfl) ?_
      | refine ax_q (q_index_ro' rfl rfl rfl rfl (by first | (simp only [Nat.zero_add, Int.toNat_natCast, Int.toNat_zero]; exact rfl) | exact rfl) (by omega)) ?_)
    refine ax_callv rfl rfl rfl hc ?_
    repeat (first
      | refine ax_ops_nil ?_
      | refine ax_post_code ?_
      | refine ax_q (q_not rfl) ?_)
    cases h3 : decide (a.getD k [] = b.getD k []) with
    | false =>
      repeat (first
        | refine ax_q (q_assign rfl) ?_
        | refine ax_ops_nil ?_
        | refine ax_post_code ?_
        | refine ax_seq ?_
        | refine ax_region rfl ?_
        | refine ax_cond_true rfl ?_
        | refine ax_return ?_
        | refine ax_ret_code ?_
        | refine ax_ret_blk ?_
        | refine ax_ret_inv ?_)
      refine ax_ret hR rfl ?_
      have h4 := of_decide_eq_false h3
      have : ¬ a = b := by rintro rfl; exact h4 rfl
      simp [tupOf, this]
    | true =>
      repeat (first
        | refine ax_q (q_move rfl) ?_
        | refine ax_ops_nil ?_
        | refine ax_post_code ?_
        | refine ax_region rfl ?_
        | refine ax_cond_false rfl ?_
        | refine ax_post_blk ?_
        | refine ax_skip ?_
        | refine ax_q (q_add rfl rfl (by omega)) ?_)
      have h4 := of_decide_eq_true h3
      exact ax_post_inv ⟨k + 1, ⟨by omega, by rw [ha, hb, heq, h4]⟩, by omega, ⟨rfl, rfl, rfl, rfl, rfl, rfl, trivial⟩, rfl⟩
  · have hk' : k = a.length := by omega
    subst hk'
    rw [List.take_length, hab, List.take_length] at heq
    repeat (first
      | refine ax_q (q_assign rfl) ?_
      | refine ax_ops_nil ?_
      | refine ax_post_code ?_
      | refine ax_seq ?_
      | refine ax_region rfl ?_
      | refine ax_exit ?_
      | refine ax_exit_here ?_
      | refine ax_exit_code ?_
      | refine ax_exit_inv ?_
      | refine ax_return ?_)
    refine ax_ret hR rfl ?_
    simp [tupOf, heq]
end Go.Proofs.YtgmleamhjnlknaaGreatDoor

namespace Go.Proofs.YtgmleamhjnlknaaGreatDoor
open Go.Ax Go.Ax.Bg Go.Ax.Rt Go.RowKit Go.Ax.Idx Go.Ax.Cd
attribute [local irreducible] Ax Post QOp ACall PureOp
set_option maxRecDepth 100000
set_option maxHeartbeats 4000000

theorem same1 (a b : List Text) (hla : a.length ≤ 9223372036854775807) (hlb : b.length ≤ 9223372036854775807) : VCall Tryz.prog 98 [.ro (.strs a) 0 a.length, .ro (.strs b) 0 b.length] (.bool (decide (a = b))) := by
  have he := equalV a b hla hlb
  refine ACall.value0 (acall_of_ax (P := Tryz.prog) (fn := Tryz.f98) rfl rfl (by kernel_rfl) rfl (fun c hR hfix => ?_)) (fix := fun _ => False) (fun _ h => h) rfl rfl
  repeat (first
    | refine ax_q (q_move rfl) ?_
    | refine ax_q (q_assign rfl) ?_
    | refine ax_ops_nil ?_
    | refine ax_post_code ?_
    | refine ax_seq ?_
    | refine ax_region rfl ?_)
  refine ax_callv rfl rfl rfl he ?_
  repeat (first
    | refine ax_q (q_assign rfl) ?_
    | refine ax_ops_nil ?_
    | refine ax_post_code ?_
    | refine ax_return ?_)
  exact ax_ret hR rfl rfl
theorem same_ok (a b : List (List Text)) (hla : a.length ≤ 9223372036854775807) (hlb : b.length ≤ 9223372036854775807) (hra : ∀ r ∈ a, r.length ≤ 9223372036854775807) (hrb : ∀ r ∈ b, r.length ≤ 9223372036854775807) : VCall Tryz.prog 36 [.ro (rowsT a) 0 a.length, .ro (rowsT b) 0 b.length] (.bool (decide (a = b))) := by
  have he := eqFuncM a b hla hlb hra hrb 98 (fun x hx y hy => same1 x y (hra x hx) (hrb y hy))
  refine ACall.value0 (acall_of_ax (P := Tryz.prog) (fn := Tryz.f36) rfl rfl (by kernel_rfl) rfl (fun c hR hfix => ?_)) (fix := fun _ => False) (fun _ h => h) rfl rfl
  repeat (first
    | refine ax_q (q_move rfl) ?_
    | refine ax_q (q_assign rfl) ?_
    | refine ax_ops_nil ?_
    | refine ax_post_code ?_
    | refine ax_seq ?_
    | refine ax_region rfl ?_)
  refine ax_callv rfl rfl rfl he ?_
  repeat (first
    | refine ax_q (q_assign rfl) ?_
    | refine ax_ops_nil ?_
    | refine ax_post_code ?_
    | refine ax_return ?_)
  exact ax_ret hR rfl rfl
theorem dotm_ok (a b : List Text) (hla : a.length ≤ 9223372036854775807) (hlb : b.length ≤ 9223372036854775807) (hra : ∀ s ∈ a, s.length ≤ 9223372036854775807) (hrb : ∀ s ∈ b, s.length ≤ 9223372036854775807) : VCall Tryz.prog 90 [.ro (.strs a) 0 a.length, .ro (.strs b) 0 b.length] (pairA (dotR a b)) := by
  have ca := vec_ok a hla hra
  have cb := vec_ok b hlb hrb
  refine ACall.value0 (acall_of_ax (P := Tryz.prog) (fn := Tryz.f90) rfl rfl (by kernel_rfl) rfl (fun c hR hfix => ?_)) (fix := fun _ => False) (fun _ h => h) rfl rfl
  repeat (first
    | refine ax_q (q_move rfl) ?_
    | refine ax_q (q_assign rfl) ?_
    | refine ax_ops_nil ?_
    | refine ax_post_code ?_
    | refine ax_seq ?_
    | refine ax_region rfl ?_
    | refine ax_block ?_
    | refine ax_q (q_build rfl rfl rfl rfl rfl rfl) ?_)
  refine ax_loop (ι := Nat) (fun k => [(0, .ro (.strs a) 0 a.length), (1, .ro (.strs b) 0 b.length), (4, .str []), (5, .int .i64 0), (11, .agg [.ro (.strs a) 0 a.length, .ro (.strs b) 0 b.length]), (12, .int .i64 (k : Nat))]) (fun _ => [])
    (fun k => k ≤ 2 ∧ (1 ≤ k → vecE a = 0) ∧ (2 ≤ k → vecE b = 0)) (fun k => 2 - k) 0 ⟨⟨rfl, rfl, rfl, rfl, rfl, rfl, trivial⟩, rfl, Nat.zero_le _, fun h => absurd h (by decide), fun h => absurd h (by decide)⟩ ?_
  rintro k ⟨hk, hA, hB⟩
  repeat (first
    | refine ax_ops_nil ?_
    | refine ax_post_code ?_
    | refine ax_seq ?_
    | refine ax_region rfl ?_
    | refine ax_q (q_lss rfl rfl) ?_)
  refine ax_cond_dec rfl (fun h => ?_) (fun h => ?_)
  · have h01 : k = 0 ∨ k = 1 := by omega
    rcases h01 with rfl | rfl
    · repeat (first
        | refine ax_post_code ?_
        | refine ax_seq ?_
        | refine ax_region rfl ?_
        | refine ax_block ?_
        | refine ax_skip ?_)
      refine ax_q (q_idxagg rfl rfl rfl rfl rfl rfl rfl (by simp)) ?_
      repeat (first
        | refine ax_q (q_move rfl) ?_
        | refine ax_q (q_assign rfl) ?_
        | refine ax_ops_nil ?_
        | refine ax_post_code ?_
        | refine ax_seq ?_
        | refine ax_region rfl ?_)
      refine ax_callv rfl rfl rfl ca ?_
      repeat (first
        | refine ax_q (q_move rfl) ?_
        | refine ax_q (q_assign rfl) ?_
        | refine ax_ops_nil ?_
        | refine ax_post_code ?_
        | refine ax_seq ?_
        | refine ax_region rfl ?_
        | refine ax_q (q_neq rfl rfl) ?_)
      refine ax_cond_dec rfl (fun h2 => ?_) (fun h2 => ?_)
      · have e : dotR a b = ([], vecE a) := by unfold dotR; rw [if_pos h2]
        rw [e] at hR
        repeat (first
          | refine ax_q (q_move rfl) ?_
          | refine ax_q (q_assign rfl) ?_
          | refine ax_ops_nil ?_
          | refine ax_post_code ?_
          | refine ax_seq ?_
          | refine ax_region rfl ?_
          | refine ax_return ?_
          | refine ax_ret_code ?_
          | refine ax_ret_blk ?_
          | refine ax_ret_inv ?_)
        exact ax_ret hR rfl rfl
      · repeat (first
          | refine ax_q (q_move rfl) ?_
          | refine ax_ops_nil ?_
          | refine ax_post_code ?_
          | refine ax_region rfl ?_
          | refine ax_post_blk ?_
          | refine ax_skip ?_
          | refine ax_q (q_add rfl rfl (by omega)) ?_)
        exact ax_post_inv ⟨1, ⟨by omega, fun _ => Classical.not_not.1 h2, fun h => absurd h (by decide)⟩, by omega, ⟨rfl, rfl, rfl, rfl, rfl, rfl, trivial⟩, rfl⟩
    · have ea := hA (Nat.le_refl _)
      repeat (first
        | refine ax_post_code ?_
        | refine ax_seq ?_
        | refine ax_region rfl ?_
        | refine ax_block ?_
        | refine ax_skip ?_)
      refine ax_q (q_idxagg rfl rfl rfl rfl rfl rfl rfl (by simp)) ?_
      repeat (first
        | refine ax_q (q_move rfl) ?_
        | refine ax_q (q_assign rfl) ?_
        | refine ax_ops_nil ?_
        | refine ax_post_code ?_
        | refine ax_seq ?_
        | refine ax_region rfl ?_)
      refine ax_callv rfl rfl rfl cb ?_
      repeat (first
        | refine ax_q (q_move rfl) ?_
        | refine ax_q (q_assign rfl) ?_
        | refine ax_ops_nil ?_
        | refine ax_post_code ?_
        | refine ax_seq ?_
        | refine ax_region rfl ?_
        | refine ax_q (q_neq rfl rfl) ?_)
      refine ax_cond_dec rfl (fun h2 => ?_) (fun h2 => ?_)
      · have e : dotR a b = ([], vecE b) := by unfold dotR; rw [if_neg (fun q => q ea), if_pos h2]
        rw [e] at hR
        repeat (first
          | refine ax_q (q_move rfl) ?_
          | refine ax_q (q_assign rfl) ?_
          | refine ax_ops_nil ?_
          | refine ax_post_code ?_
          | refine ax_seq ?_
          | refine ax_region rfl ?_
          | refine ax_return ?_
          | refine ax_ret_code ?_
          | refine ax_ret_blk ?_
          | refine ax_ret_inv ?_)
        exact ax_ret hR rfl rfl
      · repeat (first
          | refine ax_q (q_move rfl) ?_
          | refine ax_ops_nil ?_
          | refine ax_post_code ?_
          | refine ax_region rfl ?_
          | refine ax_post_blk ?_
          | refine ax_skip ?_
          | refine ax_q (q_add rfl rfl (by omega)) ?_)
        exact ax_post_inv ⟨2, ⟨by omega, fun _ => ea, fun _ => Classical.not_not.1 h2⟩, by omega, ⟨rfl, rfl, rfl, rfl, rfl, rfl, trivial⟩, rfl⟩
  obtain rfl : k = 2 := by omega
  have ea := hA (by decide)
  have eb := hB (by decide)
  have va := vecE_zero ea
  have vb := vecE_zero eb
  repeat (first
    | refine ax_q (q_move rfl) ?_
    | refine ax_ops_nil ?_
    | refine ax_post_code ?_
    | refine ax_seq ?_
    | refine ax_region rfl ?_
    | refine ax_exit ?_
    | refine ax_exit_here ?_
    | refine ax_exit_code ?_
    | refine ax_exit_inv ?_
    | refine ax_q (q_neq rfl rfl) ?_
    | refine ax_q (q_len rfl rfl rfl) ?_)
  refine ax_cond_dec rfl (fun h2 => ?_) (fun h2 => ?_)
  · have h3 : ¬ a.length = b.length := fun e => h2 (by rw [e])
    have e : dotR a b = ([], 3) := by unfold dotR; rw [if_neg (fun q => q ea), if_neg (fun q => q eb), if_neg h3]
    rw [e] at hR
    repeat (first
      | refine ax_q (q_assign rfl) ?_
      | refine ax_ops_nil ?_
      | refine ax_post_code ?_
      | refine ax_seq ?_
      | refine ax_region rfl ?_
      | refine ax_return ?_
      | refine ax_ret_code ?_)
    exact ax_ret hR rfl rfl
  have hw : a.length = b.length := by
    have := Classical.not_not.1 h2
    omega
  have oka : ∀ s ∈ a, ratE s = 0 := fun s hs => allE_mem va.2 s hs
  have okb : ∀ s ∈ b, ratE s = 0 := fun s hs => allE_mem vb.2 s hs
  have i1 := in_ok' a (by omega) (fun s hs => ⟨hra s hs, oka s hs⟩)
  have i2 := in_ok' b (by omega) (fun s hs => ⟨hrb s hs, okb s hs⟩)
  have d1 := valid_D oka
  have d2 := valid_D okb
  have la : (a.map ratV).length = a.length := List.length_map _
  have lb : (b.map ratV).length = b.length := List.length_map _
  have hd := dot_ok (a.map ratV) (b.map ratV) 2000 2000 d1 d2 (by omega) (by omega) (by rw [la]; omega)
  have hz : Sz 100000 (dotQ (a.map ratV) (b.map ratV)) := sz_D ((dotQ_D d1 d2 (by omega)).mono (by rw [la]; omega))
  have ho := out_ok _ hz
  have e : dotR a b = outF (dotQ (a.map ratV) (b.map ratV)) := by unfold dotR; rw [if_neg (fun q => q ea), if_neg (fun q => q eb), if_pos hw]
  rw [e] at hR
  repeat (first
    | refine ax_q (q_move rfl) ?_
    | refine ax_post_code ?_
    | refine ax_seq ?_
    | refine ax_region rfl ?_
    | refine ax_skip ?_)
  refine ax_callv rfl rfl rfl i1 ?_
  repeat (refine ax_q (q_move rfl) ?_)
  refine ax_callv rfl rfl rfl i2 ?_
  skip
  refine ax_callv rfl rfl rfl hd ?_
  skip
  refine ax_callv rfl rfl rfl ho ?_
  repeat (first
    | refine ax_q (q_assign rfl) ?_
    | refine ax_ops_nil ?_
    | refine ax_post_code ?_
    | refine ax_return ?_
    | refine ax_q (q_extract rfl rfl) ?_)
  exact ax_ret hR rfl rfl
end Go.Proofs.YtgmleamhjnlknaaGreatDoor

/-
  A store of a struct or array into a part of a longer element; lists of own objects.
-/
namespace Go.Ax
variable [Pins]
open Go.RowKit

section
variable {ind : Bool} {P : Program} {fn : Func} {c : Ctx} {fr : Fr} {H : AHeap} {k : List It}
variable {d : Option Nat} {ty : TypeId} {pos : String} {after : Array Edge} {g : Option (Nat × Bool)}

theorem ax_storepart {all : Array Oper} {t : TypeId} {x y : Operand} {ty : TypeId} {pos : String} {after : Array Edge} {rest : List Oper} {h i j s : Nat} {ob : AObj} {L : List AV} {c' : Cells}
    (hx : ev fr x = some (.ptr h i j)) (hy : ev fr y = some (.agg L)) (hs : (P.info? t).map (·.size) = some s) (hh : H[h]? = some (some ob)) (hl : L.length = s) (hj : j + s ≤ ob.c.sz) (hi : i < ob.c.len)
    (h1 : c'.len = ob.c.len) (h2 : c'.sz = ob.c.sz) (h3 : ∀ i' j', i' < ob.c.len → j' < ob.c.sz → c'.at i' j' = if i' = i ∧ j ≤ j' ∧ j' < j + s then L.getD (j' - j) .any else ob.c.at i' j')
    (hk : Ax P fn c (.ops false all rest k) fr (H.set h (some ⟨ob.ty, c'⟩))) (hz0 : ob.c.sz ≠ 0 := by (intro hh; cases hh)) : Ax P fn c (.ops false all (⟨none, .store t x y, ty, pos, after, none⟩ :: rest) k) fr H := by
  refine ax_w0 (fun w a σ S hr => ?_) hk
  have e1 := hr.evAt hx
  have e2 := hr.evAt hy
  generalize hz : a.eval x = z at e1
  generalize hzy : a.eval y = u at e2
  cases e2 with
  | agg _ _ vs hvl hvv hv1 =>
    cases e1 with
    | ptr _ _ _ _ b s' C hσ =>
      obtain ⟨hs', cur, g1, g2, g3, g4, g5, g6⟩ := hr.obj hh hσ
      subst hs'
      obtain ⟨mk, g1, hmk, hrow⟩ := g1.cells hz0
      have hfit : i * ob.c.sz + ob.c.sz ≤ cur.size := by
        rw [g2]
        have : (i + 1) * ob.c.sz ≤ C * ob.c.sz := Nat.mul_le_mul_right _ (by omega)
        rw [Nat.add_mul] at this; omega
      have hvsz : vs.size = s := by rw [hvl, hl]
      have hst := run_storeCells_mk P b (i * ob.c.sz + j) ob.ty mk vs.toList 0 cur w g1 hmk (by simp [hvsz]; omega) (fun v hv => by
        obtain ⟨j, hj, rfl⟩ := List.getElem_of_mem hv
        have hj' : j < vs.size := by simpa using hj
        have := hv1 j (by rw [← hvl]; exact hj')
        simpa [Array.getD, hj'] using this)
      simp only [Nat.add_zero] at hst
      generalize hcur : (cur.toList.take (i * ob.c.sz + j) ++ vs.toList ++ cur.toList.drop (i * ob.c.sz + j + vs.toList.length)).toArray = cur' at hst
      have hlen' : cur'.size = cur.size := by rw [← hcur]; simp [hvsz]; omega
      have hat : ∀ p, p < cur.size → cur'[p]? = if i * ob.c.sz + j ≤ p ∧ p < i * ob.c.sz + j + s then vs[p - (i * ob.c.sz + j)]? else cur[p]? := by
        intro p hp
        rw [← hcur]
        simp only [List.getElem?_toArray, List.append_assoc]
        by_cases c1 : p < i * ob.c.sz + j
        · rw [List.getElem?_append_left (by simp; omega), List.getElem?_take, if_pos c1, if_neg (by omega)]; simp
        · rw [List.getElem?_append_right (by simp; omega)]
          have ht : (cur.toList.take (i * ob.c.sz + j)).length = i * ob.c.sz + j := by simp; omega
          rw [ht]
          by_cases c2 : p < i * ob.c.sz + j + s
          · rw [List.getElem?_append_left (by simp [hvsz]; omega), if_pos ⟨by omega, c2⟩]; simp
          · rw [List.getElem?_append_right (by simp [hvsz]; omega), if_neg (by omega)]
            simp only [Array.length_toList, hvsz, List.getElem?_drop, Array.getElem?_toList]
            congr 1; omega
      refine ⟨w.setRow b cur', σ, S, ?_, hr.setRow hh hσ hrow h2 (by omega) (by rw [hlen', g2]) (fun i' j' hi' hj' => ?_)⟩
      · simp only [execOp, hz, hzy, Instr.storeAt, Instr.sureAddr, storeVar, Sem.run_bind, Sem.run_pure, Result.andThen_ok, size_of hs, Value.cells, hvsz]
        simp [hst]
      · rw [h1] at hi'
        rw [h2] at hj' ⊢
        rw [h3 i' j' hi' hj']
        have hp : i' * ob.c.sz + j' < cur.size := by
          rw [g2]
          have : (i' + 1) * ob.c.sz ≤ C * ob.c.sz := Nat.mul_le_mul_right _ (by omega)
          rw [Nat.add_mul] at this; omega
        rw [hat _ hp]
        by_cases he : i' = i ∧ j ≤ j' ∧ j' < j + s
        · obtain ⟨he, q1, q2⟩ := he
          subst he
          rw [if_pos (show i' * ob.c.sz + j ≤ i' * ob.c.sz + j' ∧ i' * ob.c.sz + j' < i' * ob.c.sz + j + s from ⟨by omega, by omega⟩), if_pos ⟨rfl, q1, q2⟩]
          have hjv : j' - j < vs.size := by omega
          have e3 : i' * ob.c.sz + j' - (i' * ob.c.sz + j) = j' - j := by omega
          rw [e3]
          refine ⟨vs.getD (j' - j) undef, by simp [Array.getD, hjv], hvv (j' - j) (by omega), hv1 (j' - j) (by omega)⟩
        · rw [if_neg he]
          have hne : ¬ (i * ob.c.sz + j ≤ i' * ob.c.sz + j' ∧ i' * ob.c.sz + j' < i * ob.c.sz + j + s) := by
            rintro ⟨q1, q2⟩
            by_cases hii : i' = i
            · subst hii; exact he ⟨rfl, by omega, by omega⟩
            rcases Nat.lt_or_gt_of_ne hii with hlt | hlt
            · have : (i' + 1) * ob.c.sz ≤ i * ob.c.sz := Nat.mul_le_mul_right _ hlt
              rw [Nat.add_mul] at this; omega
            · have : (i + 1) * ob.c.sz ≤ i' * ob.c.sz := Nat.mul_le_mul_right _ hlt
              rw [Nat.add_mul] at this; omega
          rw [if_neg hne]
          exact g6 i' j' hi' hj'

/-- Own objects of one kind, one behind the other. -/
def manyH {α : Type} (t : TypeId) (f : α → Cells) (l : List α) : AHeap := l.map (fun a => some ⟨t, f a⟩)
theorem manyH_len {α : Type} (t : TypeId) (f : α → Cells) (l : List α) : (manyH t f l).length = l.length := by have _pin := (inferInstance : Pins); simp [manyH]
theorem manyH_get {α : Type} (t : TypeId) (f : α → Cells) (l : List α) (d : α) {i : Nat} (hi : i < l.length) : (manyH t f l)[i]? = some (some ⟨t, f (l.getD i d)⟩) := by
  have _pin := (inferInstance : Pins)
  simp [manyH, List.getD, hi]
theorem manyH_set {α : Type} (t : TypeId) (f : α → Cells) (l : List α) (i : Nat) (x : α) : (manyH t f l).set i (some ⟨t, f x⟩) = manyH t f (l.set i x) := by
  have _pin := (inferInstance : Pins)
  simp [manyH, List.map_set]
theorem manyH_snoc {α : Type} (t : TypeId) (f : α → Cells) (l : List α) (x : α) : manyH t f l ++ [some ⟨t, f x⟩] = manyH t f (l ++ [x]) := by
  have _pin := (inferInstance : Pins)
  simp [manyH]
/-- The heap that stands before the many. -/
theorem at_front {A B : AHeap} {h : Nat} (hh : h < A.length) : (A ++ B)[h]? = A[h]? := by
  have _pin := (inferInstance : Pins)
  exact List.getElem?_append_left hh
theorem at_back {A B : AHeap} {h i : Nat} (hh : h = A.length + i) : (A ++ B)[h]? = B[i]? := by
  have _pin := (inferInstance : Pins)
  subst hh
  rw [List.getElem?_append_right (by omega)]
  congr 1; omega
theorem set_back {A B : AHeap} {h i : Nat} (x : Option AObj) (hh : h = A.length + i) : (A ++ B).set h x = A ++ B.set i x := by
  have _pin := (inferInstance : Pins)
  subst hh
  rw [List.set_append_right _ _ (by omega)]
  congr 2; omega
theorem set_front {A B : AHeap} {h : Nat} (x : Option AObj) (hh : h < A.length) : (A ++ B).set h x = A.set h x ++ B := by
  have _pin := (inferInstance : Pins)
  rw [List.set_append_left _ _ hh]
end
end Go.Ax

/-
  A function proved over an empty memory, called over another one: all that it made is the caller's.
-/
namespace Go.Ax
variable [Pins]
open Go.RowKit

mutual
/-- The objects stand behind N others. -/
def AV.shift (N : Nat) : AV → AV
  | .sl h i n => .sl (h + N) i n
  | .ptr h i j => .ptr (h + N) i j
  | .fn f l => .fn f (AV.shifts N l)
  | .agg l => .agg (AV.shifts N l)
  | .tup l => .tup (AV.shifts N l)
  | .mp h => .mp (h + N)
  | v => v
def AV.shifts (N : Nat) : List AV → List AV
  | [] => []
  | v :: r => v.shift N :: AV.shifts N r
end
theorem length_shifts (N : Nat) (l : List AV) : (AV.shifts N l).length = l.length := by
  have _pin := (inferInstance : Pins)
  induction l with
  | nil => rfl
  | cons v r ih => simp [AV.shifts, ih]
theorem getD_shifts (N : Nat) (l : List AV) (i : Nat) (hi : i < l.length) : (AV.shifts N l).getD i .any = (l.getD i .any).shift N := by
  have _pin := (inferInstance : Pins)
  induction l generalizing i with
  | nil => simp at hi
  | cons v r ih => cases i with
    | zero => rfl
    | succ i => simpa [AV.shifts] using ih i (by simpa using hi)
theorem VR.shift {w : World} {S : Nat → Prop} {σ : Nat → Option Blk} {x : AV} {v : Value} {N : Nat} (hv : VR w S σ x v) : ∀ σ' : Nat → Option Blk, (∀ h B, σ h = some B → σ' (h + N) = some B) → VR w S σ' (x.shift N) v := by
  induction hv with
  | int => intros; constructor
  | bool => intros; constructor
  | str => intros; constructor
  | nil => intros; constructor
  | ro0 => intros; constructor
  | ro σ c i len b o cap val hSb hlen hc hv h1 ih => intro σ' _; exact .ro _ _ _ _ _ _ _ val hSb hlen hc hv h1
  | sl σ h' i len b s C cap hσ hlen hcap => intro σ' hs; exact .sl _ _ _ _ _ _ _ _ (hs _ _ hσ) hlen hcap
  | sl0 σ h' hσ => intro σ' hs; exact .sl0 _ _ (hs _ _ hσ)
  | rp σ c i j b o val hSb hc hv h1 ih => intro σ' _; exact .rp _ _ _ _ _ _ val hSb hc hv h1
  | ptr σ h' i j b s C hσ => intro σ' hs; exact .ptr _ _ _ _ _ _ _ (hs _ _ hσ)
  | nilp => intros; constructor
  | fn σ f cap vs hl hv ih => intro σ' hs; exact .fn _ _ _ _ (by rw [length_shifts]; exact hl) (fun i hi => by rw [length_shifts] at hi; rw [getD_shifts N cap i hi]; exact ih i hi σ' hs)
  | nilfn => intros; constructor
  | iface => intros; constructor
  | nilif => intros; constructor
  | agg σ l vs hl hv h1 ih => intro σ' hs; exact .agg _ _ _ (by rw [length_shifts]; exact hl) (fun i hi => by rw [length_shifts] at hi; rw [getD_shifts N l i hi]; exact ih i hi σ' hs) (fun i hi => h1 i (by rwa [length_shifts] at hi))
  | tup σ l vs hl hv ih => intro σ' hs; exact .tup _ _ _ (by rw [length_shifts]; exact hl) (fun i hi => by rw [length_shifts] at hi; rw [getD_shifts N l i hi]; exact ih i hi σ' hs)
  | mp σ h' b hσ => intro σ' hs; exact .mp _ _ _ (hs _ _ hσ)
  | rom σ ks vs b es clock e hSb hb hn hl hd he hk hv => intro σ' hs; exact .rom _ _ _ b es clock e hSb hb hn hl hd he hk hv
  | any => intros; constructor
def Cells.shift (N : Nat) : Cells → Cells
  | .ints k l => .ints k l
  | .strs l => .strs l
  | .box l => .box (AV.shifts N l)
  | .mp ks vs => .mp (AV.shifts N ks) (AV.shifts N vs)
  | .fn n s f => .fn n s (fun i j => (f i j).shift N)
theorem Cells.shift_len (N : Nat) (c : Cells) : (c.shift N).len = c.len := by have _pin := (inferInstance : Pins); cases c <;> rfl
theorem Cells.shift_sz (N : Nat) (c : Cells) : (c.shift N).sz = c.sz := by
  cases c <;> first | rfl | exact length_shifts _ _
theorem Cells.shift_at (N : Nat) (c : Cells) (i j : Nat) (hj : j < c.sz) : (c.shift N).at i j = (c.at i j).shift N := by
  cases c with
  | box l => exact getD_shifts N l j hj
  | _ => rfl
def shiftO (N : Nat) : Option AObj → Option AObj
  | some o => some ⟨o.ty, o.c.shift N⟩
  | none => none
def shiftH (N : Nat) : AHeap → AHeap
  | [] => []
  | o :: r => shiftO N o :: shiftH N r
theorem shiftH_get (N : Nat) (H : AHeap) (i : Nat) : (shiftH N H)[i]? = (H[i]?).map (shiftO N) := by
  have _pin := (inferInstance : Pins)
  induction H generalizing i with
  | nil => simp [shiftH]
  | cons o r ih => cases i with
    | zero => simp [shiftH]
    | succ i => simpa [shiftH] using ih i
theorem shiftH_length (N : Nat) (H : AHeap) : (shiftH N H).length = H.length := by
  have _pin := (inferInstance : Pins)
  induction H with
  | nil => rfl
  | cons o r ih => simp [shiftH, ih]
theorem Lays.shift {w : World} {S : Nat → Prop} {σ σ' : Nat → Option Blk} {t : TypeId} {c : Cells} {b : Nat} {cur : Array Value} {C : Nat} {N : Nat} (hs : ∀ h B, σ h = some B → σ' (h + N) = some B)
    (hL : Lays w S σ ⟨t, c⟩ b cur C) : Lays w S σ' ⟨t, c.shift N⟩ b cur C := by
  have _pin := (inferInstance : Pins)
  cases hL with
  | row mk h hm hC => exact .row mk h hm hC
  | map ks vs es clock hc hC h hn hl hd he =>
    simp only at hc
    subst hc
    exact .map _ _ es clock rfl hC h (by rw [length_shifts]; exact hn) (by rw [length_shifts, length_shifts]; exact hl) hd (fun i hi => by
      rw [length_shifts] at hi
      obtain ⟨e, e1, e2, e3⟩ := he i hi
      exact ⟨e, e1, by rw [getD_shifts _ _ _ hi]; exact e2.shift σ' hs, by rw [getD_shifts _ _ _ (by omega)]; exact e3.shift σ' hs⟩)
def joinσ (N : Nat) (σ σ0 : Nat → Option Blk) (h : Nat) : Option Blk := if h < N then σ h else σ0 (h - N)
theorem joinσ_back {N : Nat} {σ σ0 : Nat → Option Blk} : ∀ h B, σ0 h = some B → joinσ N σ σ0 (h + N) = some B := by
  have _pin := (inferInstance : Pins)
  intro h B hB
  unfold joinσ
  rw [if_neg (by omega), Nat.add_sub_cancel]; exact hB
theorem HR.join {w : World} {S : Nat → Prop} {σ σ0 : Nat → Option Blk} {H H0 : AHeap} (h : HR w S σ H) (h0 : HR w S σ0 H0)
    (hd : ∀ h h' o o' b s C s' C', H[h]? = some (some o) → H0[h']? = some (some o') → σ h = some (.at b s C) → σ0 h' = some (.at b s' C') → False) :
    HR w S (joinσ H.length σ σ0) (H ++ shiftH H.length H0) := by
  have hfr : ∀ h B, σ h = some B → joinσ H.length σ σ0 h = some B := by
    intro h' B hB
    unfold joinσ
    split
    · exact hB
    · rename_i hl; rw [h.dom h' (by omega)] at hB; cases hB
  have hcase : ∀ h' o', (H ++ shiftH H.length H0)[h']? = some (some o') → (h' < H.length ∧ H[h']? = some (some o')) ∨ (H.length ≤ h' ∧ ∃ o, H0[h' - H.length]? = some (some o) ∧ o' = ⟨o.ty, o.c.shift H.length⟩) := by
    intro h' o' ho
    by_cases he : h' < H.length
    · rw [List.getElem?_append_left he] at ho; exact .inl ⟨he, ho⟩
    · rw [List.getElem?_append_right (by omega), shiftH_get] at ho
      cases e : H0[h' - H.length]? with
      | none => rw [e] at ho; cases ho
      | some x =>
        rw [e] at ho
        cases x with
        | none => simp [shiftO] at ho
        | some o => simp [shiftO] at ho; exact .inr ⟨by omega, o, rfl, ho.symm⟩
  refine ⟨fun h' o' ho => ?_, fun h1 h2 o1 o2 b s C s' C' q1 q2 e1 e2 => ?_, h.small, fun h' hl => ?_⟩
  · rcases hcase h' o' ho with ⟨hl, ho'⟩ | ⟨hl, o, ho', rfl⟩
    · rcases h.live h' o' ho' with ⟨h1, h2⟩ | ⟨b, C, cur, h1, h2, h3, h4, h5, h6, h7⟩
      · exact .inl ⟨hfr _ _ h1, h2⟩
      · refine .inr ⟨b, C, cur, hfr _ _ h1, h2.mono rfl (fun hv => hv.mono (fun _ h => h) (fun _ _ => rfl) _ hfr), h3, h4, h5, h6, fun i j hi hj => ?_⟩
        obtain ⟨v, e1, e2, e3⟩ := h7 i j hi hj
        exact ⟨v, e1, e2.mono (fun _ h => h) (fun _ _ => rfl) _ hfr, e3⟩
    · have hj : joinσ H.length σ σ0 h' = σ0 (h' - H.length) := by unfold joinσ; rw [if_neg (by omega)]
      rw [hj]
      rcases h0.live _ o ho' with ⟨h1, h2⟩ | ⟨b, C, cur, h1, h2, h3, h4, h5, h6, h7⟩
      · exact .inl ⟨h1, by rw [Cells.shift_len]; exact h2⟩
      · refine .inr ⟨b, C, cur, by rw [Cells.shift_sz]; exact h1, Lays.shift joinσ_back h2, by rw [Cells.shift_sz]; exact h3, h4, by rw [Cells.shift_len]; exact h5, h6, fun i j hi hj => ?_⟩
        rw [Cells.shift_len] at hi
        rw [Cells.shift_sz] at hj ⊢
        obtain ⟨v, e1, e2, e3⟩ := h7 i j hi hj
        exact ⟨v, e1, by rw [Cells.shift_at _ _ _ _ hj]; exact e2.shift _ joinσ_back, e3⟩
  · rcases hcase h1 o1 q1 with ⟨l1, r1⟩ | ⟨l1, x1, r1, rfl⟩ <;> rcases hcase h2 o2 q2 with ⟨l2, r2⟩ | ⟨l2, x2, r2, rfl⟩
    · unfold joinσ at e1 e2
      rw [if_pos l1] at e1
      rw [if_pos l2] at e2
      exact h.dist h1 h2 o1 o2 b s C s' C' r1 r2 e1 e2
    · unfold joinσ at e1 e2
      rw [if_pos l1] at e1
      rw [if_neg (by omega)] at e2
      exact (hd _ _ _ _ _ _ _ _ _ r1 r2 e1 e2).elim
    · unfold joinσ at e1 e2
      rw [if_neg (by omega)] at e1
      rw [if_pos l2] at e2
      exact (hd _ _ _ _ _ _ _ _ _ r2 r1 e2 e1).elim
    · unfold joinσ at e1 e2
      rw [if_neg (by omega)] at e1 e2
      have := h0.dist _ _ x1 x2 b s C s' C' r1 r2 e1 e2
      omega
  · rw [List.length_append, shiftH_length] at hl
    unfold joinσ
    rw [if_neg (by omega)]
    exact h0.dom _ (by omega)
/-- All that a function makes belongs to its caller. -/
theorem ACall.lift {P : Program} {f : FuncId} {args : List AV} {fix : Nat → Prop} {K K' : AV → AHeap → Prop} {H : AHeap} (hc : ACall P f args [] fix K) (hfx : ∀ h, ¬ fix h) (hn : noRef.noRefs args = true)
    (hK : ∀ (r0 : AV) (H0 : AHeap), K r0 H0 → K' (r0.shift H.length) (H ++ shiftH H.length H0)) : ACall P f args H (fun h => h < H.length) K' := by
  refine ⟨hc.1, fun w σ S vals hp hr hf hv => ?_⟩
  have hp0 : PinUp w S (fun _ => none) [] := hp.less (fun _ h => h) (fun _ h => h.nil)
  refine (hc.2 w (fun _ => none) S vals hp0 hr.empty (fun h hh => absurd hh (hfx h)) (hv.closed hn _)).mono ?_
  rintro e w' ⟨v, r0, σ', S', H0, rfl, g1, g2, g3, g4⟩
  obtain ⟨a1, a2⟩ := HR.after hr g1 g3
  have a3 := a2 K' hp
  have hno : ∀ b, ¬ Owned (fun _ => none) [] b := by rintro b ⟨h, o, s, C, h1, _⟩; simp at h1
  have hlto : ∀ h o b s C, H[h]? = some (some o) → σ h = some (.at b s C) → b < w.heap.size := by
    intro h o b s C ho hb
    rcases hr.live h o ho with ⟨hn, _⟩ | ⟨b', C', cur, hσ', g, _⟩
    · rw [hb] at hn; cases hn
    · rw [hb] at hσ'
      simp only [Option.some.injEq, Blk.at.injEq] at hσ'
      rw [hσ'.1]
      exact g.lt
  have hnew : ∀ h o b s C, H0[h]? = some (some o) → σ' h = some (.at b s C) → w.heap.size ≤ b := by
    intro h o b s C ho hb
    rcases g3.own h o b s C ho hb with h3 | h3
    · exact absurd h3 (hno b)
    · exact h3
  have hj := a1.join g1 (fun h h' o o' b s C s' C' q1 q2 e1 e2 => by
    have := hlto h o b s C q1 e1
    have := hnew h' o' b s' C' q2 e2
    omega)
  refine ⟨v, _, _, S', _, rfl, hj, g2.shift _ joinσ_back, ⟨a3.os, a3.output, a3.tape, a3.size, a3.block, a3.S1, a3.S2, fun h hl => ?_, fun h hl => ?_, fun h o b s C ho hb => ?_⟩, hK r0 H0 g4⟩
  · have hl : h < H.length := hl
    show joinσ H.length σ σ' h = σ h
    unfold joinσ; rw [if_pos hl]
  · have hl : h < H.length := hl
    rw [List.length_append]; omega
  · by_cases he : h < H.length
    · rw [List.getElem?_append_left he] at ho
      unfold joinσ at hb
      rw [if_pos he] at hb
      exact .inl ⟨h, o, s, C, ho, hb⟩
    · rw [List.getElem?_append_right (by omega), shiftH_get] at ho
      unfold joinσ at hb
      rw [if_neg he] at hb
      cases e : H0[h - H.length]? with
      | none => rw [e] at ho; cases ho
      | some x =>
        rw [e] at ho
        cases x with
        | none => simp [shiftO] at ho
        | some o' => exact .inr (hnew _ o' b s C e hb)
/-- A contract on a function that makes several objects: they are the caller's. -/
def MCall (P : Program) (f : FuncId) (args : List AV) (r : AV) (H0 : AHeap) : Prop := ∀ H, ACall P f args H (fun h => h < H.length) (fun r' H' => r' = r.shift H.length ∧ H' = H ++ shiftH H.length H0)
theorem ACall.many {P : Program} {f : FuncId} {args : List AV} {fix : Nat → Prop} {r : AV} {H0 : AHeap} (hc : ACall P f args [] fix (fun r' H' => r' = r ∧ H' = H0)) (hfx : ∀ h, ¬ fix h) (hn : noRef.noRefs args = true) : MCall P f args r H0 := fun H =>
  hc.lift hfx hn (fun r0 H1 h => by obtain ⟨rfl, rfl⟩ := h; exact ⟨rfl, rfl⟩)
section
variable {P : Program} {fn : Func} {c : Ctx} {fr : Fr} {H : AHeap} {k : List It} {all : Array Oper} {d : Nat} {g : Operand} {args : List Operand} {ats : Array TypeId} {ty : TypeId} {pos : String} {after : Array Edge} {rest : List Oper} {f : FuncId}
/-- A call that makes several objects. -/
theorem ax_calls {caps ags ags' : List AV} {r : AV} {H0 : AHeap} (r' : AV) (H' : AHeap) (hg : ev fr g = some (.fn f caps)) (ha : evs fr args = some ags) (has : ags ++ caps = ags') (hcall : MCall P f ags' r H0) (hr : r.shift H.length = r') (hH : H ++ shiftH H.length H0 = H')
    (hk : Ax P fn c (.ops false all rest k) ((d, r') :: fr) H') : Ax P fn c (.ops false all (⟨some d, .call { callee := .value g, args := args.toArray, argTypes := ats }, ty, pos, after, none⟩ :: rest) k) fr H :=
  ax_call hg ha has (hcall H) (fun _ h => h) (fun _ h => h) (fun r1 H1 h => by obtain ⟨rfl, rfl⟩ := h; subst hr; subst hH; exact hk)
end
mutual
theorem noRef_shift : ∀ (x : AV), noRef x = true → ∀ N, x.shift N = x
  | .int _ _, _, _ => rfl
  | .bool _, _, _ => rfl
  | .str _, _, _ => rfl
  | .nil, _, _ => rfl
  | .ro _ _ _, _, _ => rfl
  | .sl _ _ _, h, _ => by simp [noRef] at h
  | .rp _ _ _, _, _ => rfl
  | .ptr _ _ _, h, _ => by simp [noRef] at h
  | .nilp, _, _ => rfl
  | .fn f l, h, N => by
    have _pin := (inferInstance : Pins)
    simp only [AV.shift]; rw [noRefs_shift l (by simpa [noRef] using h) N]
  | .nilfn, _, _ => rfl
  | .iface, _, _ => rfl
  | .nilif, _, _ => rfl
  | .agg l, h, N => by simp only [AV.shift]; rw [noRefs_shift l (by simpa [noRef] using h) N]
  | .tup l, h, N => by simp only [AV.shift]; rw [noRefs_shift l (by simpa [noRef] using h) N]
  | .mp _, h, _ => by simp [noRef] at h
  | .rom _ _, _, _ => rfl
  | .any, _, _ => rfl
theorem noRefs_shift : ∀ (l : List AV), noRef.noRefs l = true → ∀ N, AV.shifts N l = l
  | [], _, _ => rfl
  | v :: r, h, N => by
    have _pin := (inferInstance : Pins)
    simp only [noRef.noRefs, Bool.and_eq_true] at h
    simp only [AV.shifts]
    rw [noRef_shift v h.1 N, noRefs_shift r h.2 N]
end
end Go.Ax

/-
  A row of rows of one's own: one object for the outer row, one for each inner row.
-/
namespace Go.Ax
variable [Pins]
open Go.RowKit

def nestH {α : Type} (O : AObj) (t : TypeId) (f : α → Cells) (X : List α) (L : AHeap) : AHeap := some O :: (manyH t f X ++ L)
section
variable {α : Type} {O : AObj} {t : TypeId} {f : α → Cells} {X : List α} {L : AHeap}
theorem nest_len : (nestH O t f X L).length = X.length + 1 + L.length := by
  have _pin := (inferInstance : Pins)
  unfold nestH
  rw [List.length_cons, List.length_append, manyH_len]; omega
theorem nest_row (d : α) {a : Nat} (ha : a < X.length) : (nestH O t f X L)[a + 1]? = some (some ⟨t, f (X.getD a d)⟩) := by
  have _pin := (inferInstance : Pins)
  show (manyH t f X ++ L)[a]? = _
  rw [at_front (by rw [manyH_len]; exact ha), manyH_get t f X d ha]
theorem nest_loc {j : Nat} : (nestH O t f X L)[X.length + 1 + j]? = L[j]? := by
  have _pin := (inferInstance : Pins)
  rw [show X.length + 1 + j = (X.length + j) + 1 by omega]
  show (manyH t f X ++ L)[X.length + j]? = _
  exact at_back (by rw [manyH_len])
theorem nest_set_row {a : Nat} (x : α) (ha : a < X.length) : (nestH O t f X L).set (a + 1) (some ⟨t, f x⟩) = nestH O t f (X.set a x) L := by
  have _pin := (inferInstance : Pins)
  show some O :: (manyH t f X ++ L).set a _ = _
  rw [set_front _ (by rw [manyH_len]; exact ha), manyH_set]; rfl
theorem nest_set_loc {j : Nat} (x : Option AObj) : (nestH O t f X L).set (X.length + 1 + j) x = nestH O t f X (L.set j x) := by
  have _pin := (inferInstance : Pins)
  rw [show X.length + 1 + j = (X.length + j) + 1 by omega]
  show some O :: (manyH t f X ++ L).set (X.length + j) x = _
  rw [set_back x (by rw [manyH_len])]; rfl
theorem nest_app (M : AHeap) : nestH O t f X L ++ M = nestH O t f X (L ++ M) := by
  have _pin := (inferInstance : Pins)
  unfold nestH
  rw [List.cons_append, List.append_assoc]
theorem nest_snoc (x : α) : nestH O t f X [] ++ [some ⟨t, f x⟩] = nestH O t f (X ++ [x]) [] := by
  have _pin := (inferInstance : Pins)
  unfold nestH
  rw [List.append_nil, List.append_nil, List.cons_append, manyH_snoc]
/-- The same heap, told by other cells of the outer row and of the objects behind. -/
theorem HSub.append {A A' B B' : AHeap} (h1 : HSub A A') (h2 : HSub B B') : HSub (A ++ B) (A' ++ B') := by
  have _pin := (inferInstance : Pins)
  refine ⟨by rw [List.length_append, List.length_append, h1.1, h2.1], fun h o' ho => ?_⟩
  by_cases hl : h < A'.length
  · rw [List.getElem?_append_left hl] at ho
    rw [List.getElem?_append_left (by rw [← h1.1]; exact hl)]
    exact h1.2 h o' ho
  · rw [List.getElem?_append_right (by omega)] at ho
    rw [List.getElem?_append_right (by have := h1.1; omega), ← h1.1]
    exact h2.2 _ o' ho
theorem nest_sub {O' : AObj} {L' : AHeap} (h0 : O'.ty = O.ty ∧ CEq O.c O'.c) (hL : HSub L L') : HSub (nestH O t f X L) (nestH O' t f X L') := by
  have _pin := (inferInstance : Pins)
  exact HSub.cons (fun o ho => by cases ho; exact ⟨O, rfl, h0.1, h0.2⟩) (HSub.append (HSub.refl _) hL)
/-- Forgetting leaves rows that name nothing as they are. -/
theorem forget_many (h : Nat) (hf : ∀ a, (f a).forget h = f a) : ∀ X : List α, forgetH h (manyH t f X) = manyH t f X
  | [] => have _pin := (inferInstance : Pins); rfl
  | a :: r => by
    have _pin := (inferInstance : Pins)
    show some ⟨t, (f a).forget h⟩ :: forgetH h (manyH t f r) = some ⟨t, f a⟩ :: manyH t f r
    rw [hf a, forget_many h hf r]
theorem forget_app (h : Nat) : ∀ A B : AHeap, forgetH h (A ++ B) = forgetH h A ++ forgetH h B
  | [], B => have _pin := (inferInstance : Pins); rfl
  | a :: r, B => by
    have _pin := (inferInstance : Pins)
    show forgetO h a :: forgetH h (r ++ B) = forgetO h a :: (forgetH h r ++ forgetH h B)
    rw [forget_app h r B]
theorem forget_nest (h : Nat) (hf : ∀ a, (f a).forget h = f a) : forgetH h (nestH O t f X L) = nestH ⟨O.ty, O.c.forget h⟩ t f X (forgetH h L) := by
  have _pin := (inferInstance : Pins)
  show some ⟨O.ty, O.c.forget h⟩ :: forgetH h (manyH t f X ++ L) = _
  rw [forget_app, forget_many h hf]; rfl
end
section
variable {ind : Bool} {P : Program} {fn : Func} {c : Ctx} {fr : Fr} {H : AHeap} {k : List It}
variable {d : Option Nat} {ty : TypeId} {pos : String} {after : Array Edge} {g : Option (Nat × Bool)}
/-- Where the object stands is known by a fact. -/
theorem q_index_sym {x i : Operand} {t e : TypeId} {h o len ix : Nat} {ob : AObj} {k : IntKind} {m : Int} (ht : P.underlying t = some (.slice e)) (hx : ev fr x = some (.sl h o len)) (hi : ev fr i = some (.int k m)) (hh : H[h]? = some (some ob)) (hs : (P.info? e).map (·.size) = some ob.c.sz) (hix : o + m.toNat = ix) (hb : 0 ≤ m ∧ m < len) :
    QOp ind P fn c fr H ⟨d, .indexAddr t x i, ty, pos, after, g⟩ (.ptr h ix 0) := q_index_sl' ht hx hh hs hi hix hb
theorem q_loadagg_sym {x : Operand} {t : TypeId} {u : TypeDesc} {h i : Nat} {ob : AObj} {inf : TypeInfo} {L : List AV} (ht : P.underlying t = some u) (hu : isAggD u = true) (hinf : P.info? t = some inf) (hx : ev fr x = some (.ptr h i 0)) (hh : H[h]? = some (some ob)) (hsz : inf.size = ob.c.sz)
    (hL : (List.range ob.c.sz).map (ob.c.at i) = L) (hi : i < ob.c.len) : QOp false P fn c fr H ⟨d, .load t x, ty, pos, after, g⟩ (.agg L) := q_loadagg_ptr ht hu hinf hsz hx hh hL hi
theorem q_loadpart_sym {x : Operand} {t : TypeId} {u : TypeDesc} {h i j : Nat} {ob : AObj} {inf : TypeInfo} {L : List AV} (ht : P.underlying t = some u) (hu : isAggD u = true) (hinf : P.info? t = some inf) (hx : ev fr x = some (.ptr h i j)) (hh : H[h]? = some (some ob)) (hsz : Nat.ble (j + inf.size) ob.c.sz = true)
    (hL : (List.range inf.size).map (fun e => ob.c.at i (j + e)) = L) (hi : i < ob.c.len) : QOp false P fn c fr H ⟨d, .load t x, ty, pos, after, g⟩ (.agg L) := q_loadpart_ptr ht hu hinf hsz hx hh hL hi
theorem q_loadb_sym {x : Operand} {t : TypeId} {u : TypeDesc} {h j : Nat} {oty : TypeId} {l : List AV} {v : AV} (ht : P.underlying t = some u) (hu : isAggD u = false) (hx : ev fr x = some (.ptr h 0 j)) (hh : H[h]? = some (some ⟨oty, .box l⟩)) (hv : l[j]? = some v) :
    QOp false P fn c fr H ⟨d, .load t x, ty, pos, after, g⟩ v := q_loadb_ptr ht hu hx hh hv
end
end Go.Ax

/-
  Determinants of integer rows; exact pivots. No program in sight.
-/
namespace Go.Ax.Dt

def sumZ (f : Nat → Int) : Nat → Int
  | 0 => 0
  | n + 1 => sumZ f n + f n
theorem sumZ_congr {f g : Nat → Int} : ∀ {n : Nat}, (∀ i, i < n → f i = g i) → sumZ f n = sumZ g n
  | 0, _ => rfl
  | n + 1, h => by rw [sumZ, sumZ, sumZ_congr (fun i hi => h i (by omega)), h n (by omega)]
theorem sumZ_zero {f : Nat → Int} : ∀ {n : Nat}, (∀ i, i < n → f i = 0) → sumZ f n = 0
  | 0, _ => rfl
  | n + 1, h => by rw [sumZ, sumZ_zero (fun i hi => h i (by omega)), h n (by omega)]; rfl
theorem sumZ_add (f g : Nat → Int) : ∀ n, sumZ (fun i => f i + g i) n = sumZ f n + sumZ g n
  | 0 => rfl
  | n + 1 => by rw [sumZ, sumZ, sumZ, sumZ_add f g n]; omega
theorem sumZ_mul (c : Int) (f : Nat → Int) : ∀ n, sumZ (fun i => c * f i) n = c * sumZ f n
  | 0 => by rw [sumZ, sumZ, Int.mul_zero]
  | n + 1 => by rw [sumZ, sumZ, sumZ_mul c f n, Int.mul_add]
theorem sumZ_one {f : Nat → Int} {n : Nat} (k : Nat) (hk : k < n) (h : ∀ i, i < n → i ≠ k → f i = 0) : sumZ f n = f k := by
  induction n with
  | zero => omega
  | succ n ih =>
    rw [sumZ]
    by_cases hkn : k = n
    · subst hkn
      rw [sumZ_zero (fun i hi => h i (by omega) (by omega))]; omega
    · rw [ih (by omega) (fun i hi hne => h i (by omega) hne), h n (by omega) (fun e => hkn e.symm)]; omega
theorem sumZ_two {f : Nat → Int} {n : Nat} (k l : Nat) (hk : k < n) (hl : l < n) (hkl : k ≠ l) (h : ∀ i, i < n → i ≠ k → i ≠ l → f i = 0) : sumZ f n = f k + f l := by
  have e : sumZ f n = sumZ (fun i => (if i = k then f k else 0) + (if i = k then 0 else f i)) n := by
    refine sumZ_congr (fun i hi => ?_)
    by_cases hik : i = k
    · subst hik; simp
    · simp [hik]
  rw [e, sumZ_add]
  rw [sumZ_one k hk (fun i hi hne => by simp [hne]), sumZ_one l hl (fun i hi hne => by
    by_cases hik : i = k
    · simp [hik]
    · simp [hik]; exact h i hi hik hne)]
  have : ¬ l = k := fun e => hkl e.symm
  simp [this]

abbrev V := Nat → Int
abbrev Mx := Nat → V
def sg : Nat → Int
  | 0 => 1
  | n + 1 => -sg n
def skip (i : Nat) (D : Mx) : Mx := fun a c => D (if a < i then a else a + 1) (c + 1)
def det : Nat → Mx → Int
  | 0, _ => 1
  | n + 1, D => sumZ (fun i => sg i * (D i 0 * det n (skip i D))) (n + 1)
def put (D : Mx) (r : Nat) (v : V) : Mx := fun a => if a = r then v else D a
theorem det_congr : ∀ {n : Nat} {D E : Mx}, (∀ a c, a < n → c < n → D a c = E a c) → det n D = det n E
  | 0, _, _, _ => rfl
  | n + 1, D, E, h => by
    rw [det, det]
    refine sumZ_congr (fun i hi => ?_)
    rw [h i 0 hi (by omega), det_congr (D := skip i D) (E := skip i E) (fun a c ha hc => ?_)]
    unfold skip
    exact h _ _ (by split <;> omega) (by omega)
theorem skip_put_same (D : Mx) (r : Nat) (v : V) : skip r (put D r v) = skip r D := by
  funext a c
  unfold skip put
  have : ¬ (if a < r then a else a + 1) = r := by split <;> omega
  rw [if_neg this]
theorem skip_put {D : Mx} {i r : Nat} {v : V} (h : i ≠ r) : skip i (put D r v) = put (skip i D) (if r < i then r else r - 1) (fun c => v (c + 1)) := by
  funext a c
  unfold skip put
  by_cases hri : r < i
  · rw [if_pos hri]
    by_cases ha : a = r
    · subst ha; rw [if_pos hri]; simp
    · by_cases hai : a < i
      · simp [hai, ha]
      · have : ¬ a + 1 = r := by omega
        simp [hai, ha, this]
  · rw [if_neg hri]
    by_cases ha : a = r - 1
    · subst ha
      have h1 : ¬ r - 1 < i := by omega
      have h2 : r - 1 + 1 = r := by omega
      simp [h1, h2]
    · by_cases hai : a < i
      · have : ¬ a = r := by omega
        simp [hai, ha, this]
      · have : ¬ a + 1 = r := by omega
        simp [hai, ha, this]
/-- The determinant is linear in each row. -/
theorem det_add : ∀ (n : Nat) (D : Mx) (r : Nat) (u v : V), r < n → det n (put D r (fun c => u c + v c)) = det n (put D r u) + det n (put D r v)
  | 0, _, _, _, _, h => absurd h (Nat.not_lt_zero _)
  | n + 1, D, r, u, v, h => by
    rw [det, det, det, ← sumZ_add]
    refine sumZ_congr (fun i hi => ?_)
    by_cases hir : i = r
    · subst hir
      rw [skip_put_same, skip_put_same, skip_put_same]
      have e : ∀ w : V, put D i w i 0 = w 0 := fun w => by simp [put]
      rw [e, e, e, Int.add_mul, Int.mul_add]
    · have e : ∀ w : V, put D r w i 0 = D i 0 := fun w => by simp [put, hir]
      rw [skip_put hir, skip_put hir, skip_put hir, e, e, e, det_add n _ _ _ _ (by split <;> omega), Int.mul_add, Int.mul_add]
theorem det_smul : ∀ (n : Nat) (D : Mx) (r : Nat) (k : Int) (v : V), r < n → det n (put D r (fun c => k * v c)) = k * det n (put D r v)
  | 0, _, _, _, _, h => absurd h (Nat.not_lt_zero _)
  | n + 1, D, r, k, v, h => by
    rw [det, det, ← sumZ_mul]
    refine sumZ_congr (fun i hi => ?_)
    by_cases hir : i = r
    · subst hir
      rw [skip_put_same, skip_put_same]
      have e : ∀ w : V, put D i w i 0 = w 0 := fun w => by simp [put]
      rw [e, e, Int.mul_left_comm k, Int.mul_assoc]
    · have e : ∀ w : V, put D r w i 0 = D i 0 := fun w => by simp [put, hir]
      rw [skip_put hir, skip_put hir, e, e, det_smul n _ _ _ _ (by split <;> omega), Int.mul_left_comm k, Int.mul_left_comm k]
theorem det_zero_row (n : Nat) (D : Mx) (r : Nat) (h : r < n) : det n (put D r (fun _ => 0)) = 0 := by
  have := det_smul n D r 0 (fun _ => 0) h
  simpa using this
/-- Two rows beside each other that are equal. -/
theorem det_adj : ∀ (n : Nat) (D : Mx) (r : Nat), r + 1 < n → (∀ c, c < n → D r c = D (r + 1) c) → det n D = 0
  | 0, _, _, h, _ => absurd h (Nat.not_lt_zero _)
  | n + 1, D, r, h, he => by
    rw [det, sumZ_two r (r + 1) (by omega) h (by omega) (fun i hi h1 h2 => ?_)]
    · have e : det n (skip r D) = det n (skip (r + 1) D) := det_congr (fun a c ha hc => by
        unfold skip
        by_cases h1 : a < r
        · rw [if_pos h1, if_pos (by omega)]
        · rw [if_neg h1]
          by_cases h2 : a < r + 1
          · have : a = r := by omega
            subst this
            rw [if_pos h2]; exact (he _ (by omega)).symm
          · rw [if_neg h2])
      rw [e, he 0 (by omega), sg, Int.neg_mul]
      omega
    · have := det_adj n (skip i D) (if r < i then r else r - 1) (by split <;> omega) (fun c hc => by
        unfold skip
        by_cases hri : r < i
        · rw [if_pos hri, if_pos (show r < i from hri), if_pos (show r + 1 < i by omega)]
          exact he _ (by omega)
        · have e1 : ¬ r - 1 < i := by omega
          have e2 : ¬ r - 1 + 1 < i := by omega
          rw [if_neg hri, if_neg e1, if_neg e2, show r - 1 + 1 = r by omega]
          exact he _ (by omega))
      rw [this, Int.mul_zero, Int.mul_zero]
theorem put_comm (D : Mx) {r s : Nat} (u v : V) (h : r ≠ s) : put (put D r u) s v = put (put D s v) r u := by
  funext a
  unfold put
  by_cases h1 : a = s
  · have : ¬ a = r := fun e => h (e.symm.trans h1)
    simp [h1]
    intro e; exact absurd e.symm h
  · simp [h1]
theorem put_self (D : Mx) (r : Nat) : put D r (D r) = D := by
  funext a; unfold put; split
  · rename_i h; rw [h]
  · rfl
/-- Exchange of two rows beside each other. -/
theorem det_swap (n : Nat) (D : Mx) (r : Nat) (u v : V) (h : r + 1 < n) : det n (put (put D r u) (r + 1) v) = - det n (put (put D r v) (r + 1) u) := by
  have key : ∀ w : V, det n (put (put D r w) (r + 1) w) = 0 := fun w => det_adj n _ r h (fun c _ => by unfold put; simp)
  have h0 := key (fun c => u c + v c)
  have add0 : ∀ w : V, det n (put (put D r (fun c => u c + v c)) (r + 1) w) = det n (put (put D r u) (r + 1) w) + det n (put (put D r v) (r + 1) w) := fun w => by
    rw [put_comm D _ w (by omega), det_add n _ _ _ _ (by omega), put_comm D u w (by omega), put_comm D v w (by omega)]
  rw [det_add n _ _ _ _ h, add0, add0] at h0
  have h1 := key u
  have h2 := key v
  omega
theorem det_eq : ∀ (k : Nat) (n : Nat) (D : Mx) (r : Nat), r + (k + 1) < n → (∀ c, c < n → D r c = D (r + (k + 1)) c) → det n D = 0
  | 0, n, D, r, h, he => det_adj n D r h he
  | k + 1, n, D, r, h, he => by
    have e : D = put (put D (r + (k + 1)) (D (r + (k + 1)))) (r + (k + 1) + 1) (D (r + (k + 1) + 1)) := by
      rw [put_self, put_self]
    rw [e, det_swap n D (r + (k + 1)) _ _ (by omega), det_eq k n _ r (by omega) (fun c hc => ?_)]
    · rfl
    · have h1 : ¬ r = r + (k + 1) + 1 := by omega
      have h2 : ¬ r = r + (k + 1) := by omega
      have h3 : ¬ r + (k + 1) = r + (k + 1) + 1 := by omega
      unfold put
      rw [if_neg h1, if_neg h2, if_neg h3, if_pos rfl]
      exact he c hc
theorem det_rep (n : Nat) (D : Mx) {r s : Nat} (hr : r < n) (hs : s < n) (hne : r ≠ s) : det n (put D r (D s)) = 0 := by
  rcases Nat.lt_or_gt_of_ne hne with h | h
  · refine det_eq (s - r - 1) n _ r (by omega) (fun c _ => ?_)
    rw [show r + (s - r - 1 + 1) = s by omega]
    have : ¬ s = r := fun e => hne e.symm
    simp [put, this]
  · refine det_eq (r - s - 1) n _ s (by omega) (fun c _ => ?_)
    rw [show s + (r - s - 1 + 1) = r by omega]
    have : ¬ s = r := fun e => hne e.symm
    simp [put, this]
/-- A row that is a sum of multiples of the rows. -/
theorem det_comb (n : Nat) (D : Mx) (r : Nat) (hr : r < n) (t : V) : ∀ k, k ≤ n → det n (put D r (fun c => sumZ (fun i => t i * D i c) k)) = if r < k then t r * det n D else 0
  | 0, _ => by
    rw [if_neg (Nat.not_lt_zero _)]
    exact det_zero_row n D r hr
  | k + 1, hk => by
    have ih := det_comb n D r hr t k (by omega)
    have e : (fun c => sumZ (fun i => t i * D i c) (k + 1)) = (fun c => (fun c => sumZ (fun i => t i * D i c) k) c + (fun c => t k * D k c) c) := rfl
    rw [e, det_add n D r _ _ hr, ih, det_smul n D r _ _ hr]
    by_cases hkr : k = r
    · subst hkr
      rw [if_neg (by omega), if_pos (by omega), put_self]; omega
    · rw [det_rep n D hr (by omega) (fun e => hkr e.symm), Int.mul_zero, Int.add_zero]
      by_cases h1 : r < k
      · rw [if_pos h1, if_pos (by omega)]
      · rw [if_neg h1, if_neg (by omega)]
theorem det_put_comb {n : Nat} {D : Mx} {r : Nat} (hr : r < n) {t w : V} (h : ∀ c, c < n → w c = sumZ (fun i => t i * D i c) n) : det n (put D r w) = t r * det n D := by
  have := det_comb n D r hr t n (Nat.le_refl _)
  rw [if_pos hr] at this
  rw [← this]
  refine det_congr (fun a c _ hc => ?_)
  unfold put
  split
  · exact h c hc
  · rfl
def unitM : Mx := fun a c => if a = c then 1 else 0
theorem det_unit : ∀ n : Nat, det n unitM = 1
  | 0 => rfl
  | n + 1 => by
    rw [det, sumZ_one 0 (by omega) (fun i hi hne => by simp [unitM, hne])]
    have : det n (skip 0 unitM) = det n unitM := det_congr (fun a c _ _ => by simp [skip, unitM])
    rw [this, det_unit n]; simp [sg, unitM]
/-- How great a determinant is. -/
theorem natAbs_sumZ {f : Nat → Int} {B : Nat} : ∀ {n : Nat}, (∀ i, i < n → (f i).natAbs ≤ B) → (sumZ f n).natAbs ≤ n * B
  | 0, _ => by simp [sumZ]
  | n + 1, h => by
    rw [sumZ]
    have h1 := natAbs_sumZ (n := n) (fun i hi => h i (by omega))
    have h2 := h n (by omega)
    have h3 := Int.natAbs_add_le (sumZ f n) (f n)
    rw [Nat.add_mul]; omega
theorem sg_abs : ∀ n, (sg n).natAbs = 1
  | 0 => rfl
  | n + 1 => by rw [sg, Int.natAbs_neg, sg_abs n]
def fct : Nat → Nat
  | 0 => 1
  | n + 1 => (n + 1) * fct n
theorem det_bound {B : Nat} : ∀ {n : Nat} {D : Mx}, (∀ a c, a < n → c < n → (D a c).natAbs ≤ B) → (det n D).natAbs ≤ fct n * B ^ n
  | 0, _, _ => by simp [det, fct]
  | n + 1, D, h => by
    rw [det]
    have := natAbs_sumZ (f := fun i => sg i * (D i 0 * det n (skip i D))) (B := B * (fct n * B ^ n)) (n := n + 1) (fun i hi => by
      rw [Int.natAbs_mul, Int.natAbs_mul, sg_abs, Nat.one_mul]
      refine Nat.mul_le_mul (h i 0 hi (by omega)) (det_bound (fun a c ha hc => ?_))
      unfold skip
      exact h _ _ (by split <;> omega) (by omega))
    refine Nat.le_trans this ?_
    rw [fct, Nat.pow_succ]
    have e : (n + 1) * (B * (fct n * B ^ n)) = (n + 1) * fct n * (B ^ n * B) := by
      rw [Nat.mul_left_comm B, Nat.mul_comm B, Nat.mul_assoc]
    omega

/-- A column of the table, and the column of the beginning that it stands for. -/
def Sol (n : Nat) (D : Mx) (d : Int) (t0 t : V) : Prop := ∀ c, c < n → sumZ (fun i => t i * D i c) n = d * t0 c
theorem sol_det {n : Nat} {D : Mx} {d s : Int} {t0 t : V} (hd : d ≠ 0) (hs : s * s = 1) (hD : det n D = s * d) (h : Sol n D d t0 t) {i : Nat} (hi : i < n) : t i = s * det n (put D i t0) := by
  have h1 := det_put_comb (w := fun c => d * t0 c) hi (fun c hc => (h c hc).symm)
  rw [det_smul n D i d t0 hi, hD] at h1
  have h2 : d * det n (put D i t0) = d * (s * t i) := by rw [h1, Int.mul_left_comm, Int.mul_comm (t i) d, Int.mul_left_comm]
  have h3 := Int.eq_of_mul_eq_mul_left hd h2
  rw [h3, ← Int.mul_assoc, hs, Int.one_mul]
/-- The pivot: the determinant of the new rows, and exact quotients. -/
theorem pivot_det {n : Nat} {D : Mx} {d s : Int} {t0 t : V} (hd : d ≠ 0) (hs : s * s = 1) (hD : det n D = s * d) (h : Sol n D d t0 t) {r : Nat} (hr : r < n) : det n (put D r t0) = s * t r := by
  rw [sol_det hd hs hD h hr, ← Int.mul_assoc, hs, Int.one_mul]
theorem sumZ_put {n : Nat} {D : Mx} {r : Nat} (hr : r < n) (v : V) (t : V) (c : Nat) : sumZ (fun i => t i * put D r v i c) n = sumZ (fun i => t i * D i c) n - t r * D r c + t r * v c := by
  have e : ∀ i, i < n → t i * put D r v i c = t i * D i c + (if i = r then t r * v c - t r * D r c else 0) := by
    intro i hi
    by_cases hir : i = r
    · subst hir; simp [put]; omega
    · simp [put, hir]
  rw [sumZ_congr e, sumZ_add, sumZ_one (f := fun i => if i = r then t r * v c - t r * D r c else 0) r hr (fun i hi hne => by simp [hne])]
  simp; omega
theorem pivot_sol {n : Nat} {D : Mx} {d s : Int} {tc0 tc tj0 tj : V} (hd : d ≠ 0) (hs : s * s = 1) (hD : det n D = s * d) (hc : Sol n D d tc0 tc) (hj : Sol n D d tj0 tj) {r : Nat} (hr : r < n) (hp : tc r ≠ 0) :
    (∀ i, i < n → i ≠ r → d ∣ tj i * tc r - tc i * tj r) ∧ Sol n (put D r tc0) (tc r) tj0 (fun i => if i = r then tj r else (tj i * tc r - tc i * tj r) / d) := by
  have hD' := pivot_det hd hs hD hc hr
  -- the numerators are a solution of d times the new equation
  let N : V := fun i => if i = r then d * tj r else tj i * tc r - tc i * tj r
  have hN : ∀ c, c < n → sumZ (fun i => N i * put D r tc0 i c) n = d * tc r * tj0 c := by
    intro c hcn
    rw [sumZ_put hr]
    have e : ∀ i, i < n → N i * D i c = (tc r * (tj i * D i c) + (-(tj r)) * (tc i * D i c)) + (if i = r then d * tj r * D r c else 0) := by
      intro i hi
      by_cases hir : i = r
      · subst hir
        simp only [N, if_true]
        have : tc i * (tj i * D i c) + -tj i * (tc i * D i c) = 0 := by
          rw [Int.neg_mul, Int.mul_left_comm]; omega
        omega
      · simp only [N, hir, if_false, Int.add_zero]
        rw [Int.sub_mul, Int.neg_mul, Int.mul_comm (tj i) (tc r), Int.mul_assoc, Int.mul_comm (tc i) (tj r), Int.mul_assoc]; omega
    rw [sumZ_congr e, sumZ_add, sumZ_add, sumZ_mul, sumZ_mul, hj c hcn, hc c hcn, sumZ_one (f := fun i => if i = r then d * tj r * D r c else 0) r hr (fun i hi hne => by simp [hne])]
    simp only [N, if_true]
    have e1 : tc r * (d * tj0 c) = d * tc r * tj0 c := by rw [← Int.mul_assoc, Int.mul_comm (tc r) d]
    have e2 : -tj r * (d * tc0 c) = -(d * tj r * tc0 c) := by rw [Int.neg_mul, ← Int.mul_assoc, Int.mul_comm (tj r) d]
    rw [e1, e2]; omega
  have hex : ∀ i, i < n → N i = d * (s * det n (put (put D r tc0) i tj0)) := by
    intro i hi
    have h1 := det_put_comb (D := put D r tc0) (w := fun c => d * tc r * tj0 c) hi (fun c hcn => (hN c hcn).symm)
    rw [det_smul n _ i (d * tc r) tj0 hi, hD'] at h1
    have h2 : tc r * (d * (s * det n (put (put D r tc0) i tj0))) = tc r * N i := by
      have h3 : s * (d * tc r * det n (put (put D r tc0) i tj0)) = s * (N i * (s * tc r)) := by rw [h1]
      have h4 : s * (N i * (s * tc r)) = tc r * N i := by
        rw [Int.mul_left_comm, ← Int.mul_assoc s s, hs, Int.one_mul, Int.mul_comm]
      rw [h4] at h3
      rw [← h3]
      rw [Int.mul_assoc d, Int.mul_left_comm s d, Int.mul_left_comm s (tc r), Int.mul_left_comm d (tc r)]
    exact (Int.eq_of_mul_eq_mul_left hp h2).symm
  refine ⟨fun i hi hne => ?_, ?_⟩
  · have := hex i hi
    simp only [N, hne, if_false] at this
    exact ⟨_, this⟩
  · intro c hcn
    have h1 := hN c hcn
    have h2 : ∀ i, i < n → N i * put D r tc0 i c = d * ((fun i => if i = r then tj r else (tj i * tc r - tc i * tj r) / d) i * put D r tc0 i c) := by
      intro i hi
      by_cases hir : i = r
      · subst hir; simp only [N, if_true]; rw [Int.mul_assoc]
      · have h3 := hex i hi
        simp only [N, hir, if_false] at h3 ⊢
        have h4 : (tj i * tc r - tc i * tj r) / d = s * det n (put (put D r tc0) i tj0) := by rw [h3, Int.mul_ediv_cancel_left _ hd]
        rw [h4, ← Int.mul_assoc, ← h3]
    rw [sumZ_congr h2, sumZ_mul, Int.mul_assoc d] at h1
    exact Int.eq_of_mul_eq_mul_left hd h1
end Go.Ax.Dt

/-
  Elimination without fractions on rows of integers. No program in sight.
-/
namespace Go.Ax.Dt

/-- The quotient of the absolute values, with the sign of the quotient. -/
def exactZ (x d : Int) : Int := if (decide (x < 0) != decide (d < 0)) = true then -((x.natAbs / d.natAbs : Nat) : Int) else ((x.natAbs / d.natAbs : Nat) : Int)
theorem exact_mul {q d : Int} (hd : d ≠ 0) : exactZ (d * q) d = q := by
  have hn : (d * q).natAbs / d.natAbs = q.natAbs := by rw [Int.natAbs_mul, Nat.mul_div_cancel_left _ (by omega)]
  unfold exactZ
  rw [hn]
  rcases Int.lt_trichotomy q 0 with hq | hq | hq
  · rcases Int.lt_or_gt_of_ne hd with h | h
    · have h1 : ¬ d * q < 0 := Int.not_lt.2 (Int.le_of_lt (Int.mul_pos_of_neg_of_neg h hq))
      simp [h, h1]; omega
    · have h1 : d * q < 0 := Int.mul_neg_of_pos_of_neg h hq
      have h2 : ¬ d < 0 := by omega
      simp [h1, h2]; omega
  · subst hq; simp
  · rcases Int.lt_or_gt_of_ne hd with h | h
    · have h1 : d * q < 0 := Int.mul_neg_of_neg_of_pos h hq
      simp [h, h1]; omega
    · have h1 : ¬ d * q < 0 := Int.not_lt.2 (Int.le_of_lt (Int.mul_pos h hq))
      have h2 : ¬ d < 0 := by omega
      simp [h1, h2]; omega
theorem exact_dvd {x d : Int} (hd : d ≠ 0) (h : d ∣ x) : exactZ x d = x / d := by
  obtain ⟨q, rfl⟩ := h
  rw [exact_mul hd, Int.mul_ediv_cancel_left _ hd]
abbrev Tab := List (List Int)
def at2 (T : Tab) (i j : Nat) : Int := (T.getD i []).getD j 0
/-- The first row at or behind i that has no 0 in a column. -/
def pivI (T : Tab) (c : Nat) : Nat → Nat → Nat
  | 0, i => i
  | f + 1, i => if at2 T i c = 0 then pivI T c f (i + 1) else i
theorem pivI_spec (T : Tab) (c : Nat) : ∀ f i, i ≤ pivI T c f i ∧ pivI T c f i ≤ i + f ∧ (∀ a, i ≤ a → a < pivI T c f i → at2 T a c = 0) ∧ (pivI T c f i < i + f → at2 T (pivI T c f i) c ≠ 0)
  | 0, i => ⟨Nat.le_refl _, Nat.le_refl _, fun a h1 h2 => absurd h2 (by rw [pivI]; omega), fun h => absurd h (by rw [pivI]; omega)⟩
  | f + 1, i => by
    rw [pivI]
    by_cases h : at2 T i c = 0
    · rw [if_pos h]
      obtain ⟨h1, h2, h3, h4⟩ := pivI_spec T c f (i + 1)
      refine ⟨by omega, by omega, fun a ha hb => ?_, fun hb => h4 (by omega)⟩
      by_cases e : a = i
      · rw [e]; exact h
      · exact h3 a (by omega) hb
    · rw [if_neg h]
      exact ⟨Nat.le_refl _, by omega, fun a h1 h2 => absurd h2 (by omega), fun _ => h⟩
def swapR (T : Tab) (i k : Nat) : Tab := (T.set i (T.getD k [])).set k (T.getD i [])
def swp (i k a : Nat) : Nat := if a = k then i else if a = i then k else a
def elimRow (R K : List Int) (p f d : Int) : List Int := (List.range R.length).map (fun j => exactZ (R.getD j 0 * p - f * K.getD j 0) d)
def elimR (T : Tab) (k c : Nat) (d : Int) : Tab := (List.range T.length).map (fun i => if i = k then T.getD k [] else elimRow (T.getD i []) (T.getD k []) (at2 T k c) (at2 T i c) d)
structure Red where
  T : Tab
  piv : List Nat
  last : Int
  neg : Bool
def redCol (r : Red) (c : Nat) : Red :=
  if r.T.length ≤ r.piv.length then r
  else if pivI r.T c (r.T.length - r.piv.length) r.piv.length = r.T.length then r
  else ⟨elimR (swapR r.T (pivI r.T c (r.T.length - r.piv.length) r.piv.length) r.piv.length) r.piv.length c r.last, r.piv ++ [c], at2 (swapR r.T (pivI r.T c (r.T.length - r.piv.length) r.piv.length) r.piv.length) r.piv.length c, if pivI r.T c (r.T.length - r.piv.length) r.piv.length = r.piv.length then r.neg else !r.neg⟩
def redN (M : Tab) : Nat → Red
  | 0 => ⟨M, [], 1, false⟩
  | c + 1 => redCol (redN M c) c

theorem getD_set {α : Type} (l : List α) (d x : α) (i j : Nat) : (l.set i x).getD j d = if j = i ∧ i < l.length then x else l.getD j d := by
  by_cases h : j = i
  · subst h
    by_cases h2 : j < l.length
    · simp [List.getD, h2]
    · have : l.length ≤ j := by omega
      simp [List.getD, h2, this]
  · have : ¬ i = j := fun e => h e.symm
    simp [List.getD, h, List.getElem?_set, this]
theorem swapR_len (T : Tab) (i k : Nat) : (swapR T i k).length = T.length := by simp [swapR]
theorem swapR_get (T : Tab) {i k : Nat} (hi : i < T.length) (hk : k < T.length) (a : Nat) : (swapR T i k).getD a [] = T.getD (swp i k a) [] := by
  unfold swapR swp
  rw [getD_set, List.length_set, getD_set]
  by_cases h1 : a = k
  · simp [h1, hk]
  · by_cases h2 : a = i
    · have h3 : ¬ i = k := fun e => h1 (h2.trans e)
      simp [h1, h2, hi, h3]
    · simp [h1, h2]
theorem swapR_self (T : Tab) {k : Nat} (hk : k < T.length) : swapR T k k = T := by
  refine List.ext_getElem (swapR_len _ _ _) (fun a h1 h2 => ?_)
  have := swapR_get T hk hk a
  have e : swp k k a = a := by unfold swp; split <;> simp_all
  rw [e] at this
  simpa [List.getD, h1, h2] using this
theorem at2_swap (T : Tab) {i k : Nat} (hi : i < T.length) (hk : k < T.length) (a j : Nat) : at2 (swapR T i k) a j = at2 T (swp i k a) j := by
  unfold at2; rw [swapR_get T hi hk]
theorem elimR_len (T : Tab) (k c : Nat) (d : Int) : (elimR T k c d).length = T.length := by simp [elimR]
theorem elimR_get (T : Tab) (k c : Nat) (d : Int) {i : Nat} (hi : i < T.length) : (elimR T k c d).getD i [] = if i = k then T.getD k [] else elimRow (T.getD i []) (T.getD k []) (at2 T k c) (at2 T i c) d := by
  unfold elimR
  simp [List.getD, hi]
theorem at2_elim (T : Tab) (k c : Nat) (d : Int) {L : Nat} (hT : ∀ x ∈ T, x.length = L) {i j : Nat} (hi : i < T.length) (hj : j < L) : at2 (elimR T k c d) i j = if i = k then at2 T k j else exactZ (at2 T i j * at2 T k c - at2 T i c * at2 T k j) d := by
  unfold at2
  rw [elimR_get T k c d hi]
  have hl : (T.getD i []).length = L := hT _ (by simp [List.getD, hi])
  by_cases h : i = k
  · rw [if_pos h, if_pos h]
  · rw [if_neg h, if_neg h]
    unfold elimRow
    rw [hl]
    have : ∀ f : Nat → Int, ((List.range L).map f).getD j 0 = f j := fun f => by simp [List.getD, hj]
    rw [this]; rfl
theorem elimRow_len (R K : List Int) (p f d : Int) : (elimRow R K p f d).length = R.length := by simp [elimRow]
theorem elimR_row (T : Tab) (k c : Nat) (d : Int) {L : Nat} (hk : k < T.length) (hT : ∀ x ∈ T, x.length = L) : ∀ x ∈ elimR T k c d, x.length = L := by
  intro x hx
  obtain ⟨i, hi, rfl⟩ := List.mem_map.1 hx
  have hi : i < T.length := by simpa using hi
  split
  · exact hT _ (by simp [List.getD, hk])
  · rw [elimRow_len]; exact hT _ (by simp [List.getD, hi])
theorem swapR_row (T : Tab) {i k : Nat} (hi : i < T.length) (hk : k < T.length) {L : Nat} (hT : ∀ x ∈ T, x.length = L) : ∀ x ∈ swapR T i k, x.length = L := by
  intro x hx
  obtain ⟨a, ha, rfl⟩ := List.getElem_of_mem hx
  have h1 := swapR_get T hi hk a
  have h2 : swp i k a < T.length := by rw [swapR_len] at ha; unfold swp; split; exact hi; split; exact hk; exact ha
  have h3 : (swapR T i k).getD a [] = (swapR T i k)[a] := by simp [List.getD, ha]
  rw [h3] at h1
  rw [h1]; exact hT _ (by simp [List.getD, h2])

/-- Exchange of two rows. -/
theorem det_exch (n : Nat) (D : Mx) {r s : Nat} (hr : r < n) (hs : s < n) (hne : r ≠ s) (u v : V) : det n (put (put D r u) s v) = - det n (put (put D r v) s u) := by
  have key : ∀ w : V, det n (put (put D r w) s w) = 0 := fun w => by
    have := det_rep n (put D s w) hr hs hne
    rw [show put D s w s = w by simp [put]] at this
    rwa [put_comm D w w hne]
  have h0 := key (fun c => u c + v c)
  have add0 : ∀ w : V, det n (put (put D r (fun c => u c + v c)) s w) = det n (put (put D r u) s w) + det n (put (put D r v) s w) := fun w => by
    rw [put_comm D _ w hne, det_add n _ _ _ _ hr, put_comm D u w hne, put_comm D v w hne]
  rw [det_add n _ _ _ _ hs, add0, add0] at h0
  have h1 := key u
  have h2 := key v
  omega
theorem det_swp (n : Nat) (D : Mx) {i k : Nat} (hi : i < n) (hk : k < n) (hne : i ≠ k) : det n (fun a => D (swp i k a)) = - det n D := by
  have e1 : (fun a => D (swp i k a)) = put (put D i (D k)) k (D i) := by
    funext a
    unfold put swp
    by_cases h1 : a = k
    · rw [if_pos h1, if_pos h1]
    · by_cases h2 : a = i
      · rw [if_neg h1, if_pos h2, if_neg h1, if_pos h2]
      · rw [if_neg h1, if_neg h2, if_neg h1, if_neg h2]
  rw [e1, det_exch n D hi hk hne, put_self, put_self]
theorem sumZ_swp (f : Nat → Int) (n : Nat) {i k : Nat} (hi : i < n) (hk : k < n) : sumZ (fun a => f (swp i k a)) n = sumZ f n := by
  by_cases hne : i = k
  · subst hne
    refine sumZ_congr (fun a _ => ?_)
    unfold swp; split <;> simp_all
  have e : ∀ a, a < n → f (swp i k a) = f a + ((if a = i then f k - f i else 0) + (if a = k then f i - f k else 0)) := by
    intro a _
    unfold swp
    by_cases h1 : a = k
    · have h2 : ¬ a = i := fun e => hne (e.symm.trans h1)
      rw [if_pos h1, if_neg h2, if_pos h1, h1]; omega
    · by_cases h2 : a = i
      · rw [if_neg h1, if_pos h2, if_pos h2, if_neg h1, h2]; omega
      · rw [if_neg h1, if_neg h2, if_neg h2, if_neg h1]; omega
  rw [sumZ_congr e, sumZ_add, sumZ_add, sumZ_one (f := fun a => if a = i then f k - f i else 0) i hi (fun a _ h => by simp [h]), sumZ_one (f := fun a => if a = k then f i - f k else 0) k hk (fun a _ h => by simp [h])]
  simp; omega
theorem sumZ_cut {f : Nat → Int} {w : Nat} : ∀ {n : Nat}, w ≤ n → (∀ i, w ≤ i → i < n → f i = 0) → sumZ f n = sumZ f w
  | 0, h, _ => by obtain rfl : w = 0 := by omega
                  rfl
  | n + 1, h, hz => by
    by_cases e : w = n + 1
    · rw [e]
    · rw [sumZ, hz n (by omega) (by omega), sumZ_cut (by omega) (fun i h1 h2 => hz i h1 (by omega))]; omega

/-- The table during the elimination, after so many columns. -/
structure RInv (n L B : Nat) (M : Tab) (c : Nat) (r : Red) : Prop where
  len : r.T.length = n
  row : ∀ x ∈ r.T, x.length = L
  pl : r.piv.length ≤ n
  pc : r.piv.length ≤ c
  full : r.piv.length = c → r.piv = List.range c
  last : r.last ≠ 0
  zero : ∀ i j, r.piv.length ≤ i → i < n → j < c → at2 r.T i j = 0
  base : ∃ (D : Mx) (s : Int), s * s = 1 ∧ det n D = s * r.last ∧ (∀ j, j < L → Sol n D r.last (fun a => at2 M a j) (fun i => at2 r.T i j)) ∧ (∀ a, a < r.piv.length → ∀ e, D a e = at2 M e (r.piv.getD a 0)) ∧ (∀ a e, a < n → e < n → (D a e).natAbs ≤ B)
theorem RInv.init {n L B : Nat} {M : Tab} (h1 : M.length = n) (h2 : ∀ x ∈ M, x.length = L) (hB : 1 ≤ B) : RInv n L B M 0 (redN M 0) where
  len := h1
  row := h2
  pl := Nat.zero_le _
  pc := Nat.zero_le _
  full := fun _ => rfl
  last := by show (1 : Int) ≠ 0; decide
  zero := fun i j _ _ hj => absurd hj (Nat.not_lt_zero _)
  base := by
    refine ⟨unitM, 1, rfl, by rw [det_unit]; rfl, fun j _ e he => ?_, fun a ha => absurd ha (Nat.not_lt_zero _), fun a e _ _ => ?_⟩
    · rw [sumZ_one e he (fun i _ hne => by simp [unitM, hne])]
      simp [unitM, redN]
    · unfold unitM; split <;> simp <;> omega
/-- Rows exchanged. -/
theorem RInv.swap {n L B c : Nat} {M : Tab} {r : Red} (h : RInv n L B M c r) {i : Nat} (hk : r.piv.length < n) (hki : r.piv.length ≤ i) (hi : i < n) : RInv n L B M c { r with T := swapR r.T i r.piv.length } where
  len := by rw [swapR_len]; exact h.len
  row := swapR_row _ (by rw [h.len]; exact hi) (by rw [h.len]; exact hk) h.row
  pl := h.pl
  pc := h.pc
  full := h.full
  last := h.last
  zero := fun a j h1 h2 h3 => by
    show at2 (swapR r.T i r.piv.length) a j = 0
    rw [at2_swap _ (by rw [h.len]; exact hi) (by rw [h.len]; exact hk)]
    have h1 : r.piv.length ≤ a := h1
    refine h.zero _ j ?_ ?_ h3
    · unfold swp; split; exact hki; split; exact Nat.le_refl _; exact h1
    · unfold swp; split; exact hi; split; exact hk; exact h2
  base := by
    obtain ⟨D, s, hs, hD, hS, hp, hB⟩ := h.base
    by_cases e : i = r.piv.length
    · have : swapR r.T i r.piv.length = r.T := by rw [e]; exact swapR_self _ (by rw [h.len]; exact hk)
      show ∃ (D : Mx) (s : Int), s * s = 1 ∧ det n D = s * r.last ∧ (∀ j, j < L → Sol n D r.last (fun a => at2 M a j) (fun a => at2 (swapR r.T i r.piv.length) a j)) ∧ (∀ a, a < r.piv.length → ∀ e, D a e = at2 M e (r.piv.getD a 0)) ∧ (∀ a e, a < n → e < n → (D a e).natAbs ≤ B)
      rw [this]
      exact ⟨D, s, hs, hD, hS, hp, hB⟩
    · refine ⟨fun a => D (swp i r.piv.length a), -s, by rw [Int.neg_mul_neg]; exact hs, by rw [det_swp n D hi hk e, hD, Int.neg_mul], fun j hj e he => ?_, fun a ha e => ?_, fun a e ha he => ?_⟩
      · have := hS j hj e he
        show sumZ (fun a => at2 (swapR r.T i r.piv.length) a j * D (swp i r.piv.length a) e) n = r.last * at2 M e j
        rw [← this, ← sumZ_swp (fun a => at2 r.T a j * D a e) n hi hk]
        refine sumZ_congr (fun a _ => ?_)
        rw [at2_swap _ (by rw [h.len]; exact hi) (by rw [h.len]; exact hk)]
      · have ha : a < r.piv.length := ha
        have : swp i r.piv.length a = a := by unfold swp; rw [if_neg (by omega), if_neg (by omega)]
        show D (swp i r.piv.length a) e = _
        rw [this]; exact hp a ha e
      · refine hB _ e ?_ he
        unfold swp; split; exact hi; split; exact hk; exact ha
/-- One elimination. -/
theorem RInv.elim {n L B c : Nat} {M : Tab} {r : Red} (h : RInv n L B M c r) (hk : r.piv.length < n) (hc : c < L) (hp : at2 r.T r.piv.length c ≠ 0) (hB : ∀ a j, a < n → j < L → (at2 M a j).natAbs ≤ B) (b : Bool) :
    RInv n L B M (c + 1) ⟨elimR r.T r.piv.length c r.last, r.piv ++ [c], at2 r.T r.piv.length c, b⟩ ∧
    ∀ i j, i < n → i ≠ r.piv.length → j < L → at2 (elimR r.T r.piv.length c r.last) i j * r.last = at2 r.T i j * at2 r.T r.piv.length c - at2 r.T i c * at2 r.T r.piv.length j := by
  obtain ⟨D, s, hs, hD, hS, hpv, hBD⟩ := h.base
  have hl := h.len
  have hex : ∀ i j, i < n → i ≠ r.piv.length → j < L → r.last ∣ at2 r.T i j * at2 r.T r.piv.length c - at2 r.T i c * at2 r.T r.piv.length j := fun i j hi hne hj =>
    (pivot_sol h.last hs hD (hS c hc) (hS j hj) hk hp).1 i hi hne
  have hat : ∀ i j, i < n → j < L → at2 (elimR r.T r.piv.length c r.last) i j = if i = r.piv.length then at2 r.T r.piv.length j else (at2 r.T i j * at2 r.T r.piv.length c - at2 r.T i c * at2 r.T r.piv.length j) / r.last := by
    intro i j hi hj
    rw [at2_elim _ _ _ _ h.row (by omega) hj]
    by_cases e : i = r.piv.length
    · rw [if_pos e, if_pos e]
    · rw [if_neg e, if_neg e, exact_dvd h.last (hex i j hi e hj)]
  refine ⟨⟨by rw [elimR_len]; exact hl, elimR_row _ _ _ _ (by omega) h.row, by simp; omega, by have := h.pc; simp; omega, fun hf => ?_, hp, fun i j h1 h2 h3 => ?_, ?_⟩, fun i j hi hne hj => ?_⟩
  · have hf : (r.piv ++ [c]).length = c + 1 := hf
    rw [List.length_append, List.length_singleton] at hf
    show r.piv ++ [c] = _
    rw [h.full (by omega), List.range_succ]
  · have h1 : (r.piv ++ [c]).length ≤ i := h1
    rw [List.length_append, List.length_singleton] at h1
    show at2 (elimR r.T r.piv.length c r.last) i j = 0
    rw [hat i j h2 (by omega), if_neg (by omega)]
    by_cases e : j = c
    · subst e
      rw [Int.sub_self, Int.zero_ediv]
    · rw [h.zero i j (by omega) h2 (by omega), h.zero r.piv.length j (Nat.le_refl _) hk (by omega), Int.zero_mul, Int.mul_zero, Int.sub_self, Int.zero_ediv]
  · refine ⟨put D r.piv.length (fun a => at2 M a c), s, hs, pivot_det h.last hs hD (hS c hc) hk, fun j hj e he => ?_, fun a ha e => ?_, fun a e ha he => ?_⟩
    · have h1 := (pivot_sol h.last hs hD (hS c hc) (hS j hj) hk hp).2 e he
      rw [← h1]
      refine sumZ_congr (fun i hi => ?_)
      show at2 (elimR r.T r.piv.length c r.last) i j * _ = _
      rw [hat i j hi hj]
    · have ha : a < (r.piv ++ [c]).length := ha
      rw [List.length_append, List.length_singleton] at ha
      show put D r.piv.length (fun a => at2 M a c) a e = at2 M e ((r.piv ++ [c]).getD a 0)
      by_cases e1 : a = r.piv.length
      · subst e1
        simp [put, List.getD]
      · have h2 : a < r.piv.length := by omega
        have h3 := hpv a h2 e
        simp only [put, e1, if_false]
        rw [h3]
        simp [List.getD, List.getElem?_append_left h2]
    · unfold put
      split
      · exact hB e c he hc
      · exact hBD a e ha he
  · rw [hat i j hi hj, if_neg hne, Int.ediv_mul_cancel (hex i j hi hne hj)]
/-- A column without a pivot. -/
theorem RInv.none {n L B c : Nat} {M : Tab} {r : Red} (h : RInv n L B M c r) (hz : ∀ i, r.piv.length ≤ i → i < n → at2 r.T i c = 0) : RInv n L B M (c + 1) r where
  len := h.len
  row := h.row
  pl := h.pl
  pc := by have := h.pc; omega
  full := fun e => absurd e (by have := h.pc; omega)
  last := h.last
  zero := fun i j h1 h2 h3 => by
    by_cases e : j = c
    · subst e; exact hz i h1 h2
    · exact h.zero i j h1 h2 (by omega)
  base := h.base
theorem RInv.col {n L B c : Nat} {M : Tab} {r : Red} (h : RInv n L B M c r) (hc : c < L) (hB : ∀ a j, a < n → j < L → (at2 M a j).natAbs ≤ B) : RInv n L B M (c + 1) (redCol r c) := by
  unfold redCol
  by_cases h1 : r.T.length ≤ r.piv.length
  · rw [if_pos h1]
    exact h.none (fun i h2 h3 => absurd h3 (by have := h.len; omega))
  rw [if_neg h1]
  have hl := h.len
  have hk : r.piv.length < n := by omega
  obtain ⟨p1, p2, p3, p4⟩ := pivI_spec r.T c (r.T.length - r.piv.length) r.piv.length
  rw [show r.piv.length + (r.T.length - r.piv.length) = r.T.length by omega] at p2 p4
  by_cases h2 : pivI r.T c (r.T.length - r.piv.length) r.piv.length = r.T.length
  · rw [if_pos h2]
    exact h.none (fun i h3 h4 => p3 i h3 (by omega))
  rw [if_neg h2]
  have hi : pivI r.T c (r.T.length - r.piv.length) r.piv.length < n := by omega
  have hs := h.swap hk p1 hi
  refine (hs.elim hk hc ?_ hB _).1
  show at2 (swapR r.T _ r.piv.length) r.piv.length c ≠ 0
  rw [at2_swap _ (by omega) (by omega)]
  have : ∀ i k, swp i k k = i := fun i k => by unfold swp; rw [if_pos rfl]
  rw [this]
  exact p4 (by omega)
theorem RInv.all {n L B w : Nat} {M : Tab} (h1 : M.length = n) (h2 : ∀ x ∈ M, x.length = L) (h3 : 1 ≤ B) (hw : w ≤ L) (hB : ∀ a j, a < n → j < L → (at2 M a j).natAbs ≤ B) : RInv n L B M w (redN M w) := by
  induction w with
  | zero => exact RInv.init h1 h2 h3
  | succ c ih => exact (ih (by omega)).col (by omega) hB
/-- How great the elements become. -/
theorem RInv.bound {n L B c : Nat} {M : Tab} {r : Red} (h : RInv n L B M c r) (hB : ∀ a j, a < n → j < L → (at2 M a j).natAbs ≤ B) : (∀ i j, i < n → j < L → (at2 r.T i j).natAbs ≤ fct n * B ^ n) ∧ r.last.natAbs ≤ fct n * B ^ n := by
  obtain ⟨D, s, hs, hD, hS, hpv, hBD⟩ := h.base
  have hs1 : s.natAbs = 1 := by
    have := congrArg Int.natAbs hs
    rw [Int.natAbs_mul] at this
    exact Nat.eq_one_of_mul_eq_one_left this
  refine ⟨fun i j hi hj => ?_, ?_⟩
  · rw [show at2 r.T i j = s * det n (put D i (fun a => at2 M a j)) from sol_det h.last hs hD (hS j hj) hi, Int.natAbs_mul, hs1, Nat.one_mul]
    refine det_bound (fun a e ha he => ?_)
    unfold put
    split
    · exact hB e j he hj
    · exact hBD a e ha he
  · have h1 : r.last = s * det n D := by rw [hD, ← Int.mul_assoc, hs, Int.one_mul]
    rw [h1, Int.natAbs_mul, hs1, Nat.one_mul]
    exact det_bound hBD
/-- With a pivot in each column: the last column is that of a solution. -/
theorem RInv.solve {n L B w : Nat} {M : Tab} {r : Red} (h : RInv n L B M w r) (hw : w < L) (hK : r.piv.length = w) (hz : ∀ i, w ≤ i → i < n → at2 r.T i w = 0) :
    (∀ e, e < n → sumZ (fun a => at2 r.T a w * at2 M e a) w = r.last * at2 M e w) ∧ ∀ a, a < w → at2 r.T a a = r.last := by
  obtain ⟨D, s, hs, hD, hS, hpv, hBD⟩ := h.base
  have hpl := h.pl
  have hp := h.full hK
  have hpa : ∀ a, a < w → r.piv.getD a 0 = a := fun a ha => by rw [hp]; simp [List.getD, ha]
  refine ⟨fun e he => ?_, fun a ha => ?_⟩
  · rw [← hS w hw e he, sumZ_cut (n := n) (w := w) (by omega) (fun i h1 h2 => by
      show at2 r.T i w * D i e = 0
      rw [hz i h1 h2, Int.zero_mul])]
    refine sumZ_congr (fun a ha => ?_)
    show _ = at2 r.T a w * D a e
    rw [hpv a (by omega) e, hpa a ha]
  · have h1 : at2 r.T a a = s * det n (put D a (fun e => at2 M e a)) := sol_det h.last hs hD (hS a (by omega)) (by omega)
    have h2 : (fun e => at2 M e a) = D a := by
      funext e
      rw [hpv a (by omega) e, hpa a ha]
    rw [h1, h2, put_self, hD, ← Int.mul_assoc, hs, Int.one_mul]
theorem redCol_stop {r : Red} (h : r.T.length ≤ r.piv.length) (c : Nat) : redCol r c = r := by unfold redCol; rw [if_pos h]
theorem redN_stop {M : Tab} {c : Nat} (h : (redN M c).T.length ≤ (redN M c).piv.length) : ∀ d, redN M (c + d) = redN M c
  | 0 => rfl
  | d + 1 => by
    show redCol (redN M (c + d)) (c + d) = _
    rw [redN_stop h d]; exact redCol_stop h _

/-- Rows that are proportional have their pivots in the same places. -/
structure Prop2 (n w : Nat) (r r' : Red) : Prop where
  piv : r'.piv = r.piv
  rows : ∀ i, i < n → ∃ α β : Int, α ≠ 0 ∧ β ≠ 0 ∧ ∀ j, j < w → α * at2 r'.T i j = β * at2 r.T i j
theorem pivI_same {n : Nat} {T T' : Tab} {c : Nat} (h : ∀ i, i < n → (at2 T' i c = 0 ↔ at2 T i c = 0)) : ∀ f i, i + f ≤ n → pivI T' c f i = pivI T c f i
  | 0, i, _ => rfl
  | f + 1, i, hi => by
    rw [pivI, pivI]
    by_cases e : at2 T i c = 0
    · rw [if_pos e, if_pos ((h i (by omega)).2 e)]
      exact pivI_same h f (i + 1) (by omega)
    · rw [if_neg e, if_neg (fun q => e ((h i (by omega)).1 q))]
theorem Prop2.zero {n w : Nat} {r r' : Red} (h : Prop2 n w r r') {i j : Nat} (hi : i < n) (hj : j < w) : at2 r'.T i j = 0 ↔ at2 r.T i j = 0 := by
  obtain ⟨α, β, ha, hb, he⟩ := h.rows i hi
  have := he j hj
  constructor
  · intro e; rw [e, Int.mul_zero] at this
    rcases Int.mul_eq_zero.1 this.symm with q | q
    · exact absurd q hb
    · exact q
  · intro e; rw [e, Int.mul_zero] at this
    rcases Int.mul_eq_zero.1 this with q | q
    · exact absurd q ha
    · exact q
theorem Prop2.col {n w L L' B B' c : Nat} {M M' : Tab} {r r' : Red} (h : Prop2 n w r r') (hr : RInv n L B M c r) (hr' : RInv n L' B' M' c r') (hc : c < w) (hw : w ≤ L) (hw' : w ≤ L')
    (hB : ∀ a j, a < n → j < L → (at2 M a j).natAbs ≤ B) (hB' : ∀ a j, a < n → j < L' → (at2 M' a j).natAbs ≤ B') : Prop2 n w (redCol r c) (redCol r' c) := by
  have hl := hr.len
  have hl' := hr'.len
  have hpp := h.piv
  unfold redCol
  rw [hpp, hl, hl']
  by_cases h1 : n ≤ r.piv.length
  · rw [if_pos h1, if_pos h1]; exact h
  rw [if_neg h1, if_neg h1]
  have hk : r.piv.length < n := by omega
  have hsame := pivI_same (fun i hi => h.zero (j := c) hi hc) (n - r.piv.length) r.piv.length (by omega)
  rw [hsame]
  obtain ⟨p1, p2, p3, p4⟩ := pivI_spec r.T c (n - r.piv.length) r.piv.length
  rw [show r.piv.length + (n - r.piv.length) = n by omega] at p2 p4
  generalize pivI r.T c (n - r.piv.length) r.piv.length = i at *
  by_cases h2 : i = n
  · rw [if_pos h2, if_pos h2]; exact h
  rw [if_neg h2, if_neg h2]
  have hi : i < n := by omega
  have hsw : ∀ i k, swp i k k = i := fun i k => by unfold swp; rw [if_pos rfl]
  have hs := hr.swap hk p1 hi
  have hs' := hr'.swap (by rw [hpp]; exact hk) (by rw [hpp]; exact p1) hi
  have n1 : at2 (swapR r.T i r.piv.length) r.piv.length c ≠ 0 := by
    rw [at2_swap _ (by omega) (by omega), hsw]; exact p4 hi
  have n2 : at2 (swapR r'.T i r'.piv.length) r'.piv.length c ≠ 0 := by
    rw [at2_swap _ (by omega) (by rw [hpp]; omega), hsw]
    exact fun q => p4 hi ((h.zero hi hc).1 q)
  have e1 := (hs.elim hk (by omega) n1 hB true).2
  have e2 := (hs'.elim (by rw [hpp]; exact hk) (by omega) n2 hB' true).2
  simp only [hpp] at e2 n2
  have hsr : ∀ a, a < n → ∃ α β : Int, α ≠ 0 ∧ β ≠ 0 ∧ ∀ j, j < w → α * at2 (swapR r'.T i r.piv.length) a j = β * at2 (swapR r.T i r.piv.length) a j := by
    intro a ha
    have hb : swp i r.piv.length a < n := by unfold swp; split; exact hi; split; exact hk; exact ha
    obtain ⟨α, β, q1, q2, q3⟩ := h.rows _ hb
    refine ⟨α, β, q1, q2, fun j hj => ?_⟩
    rw [at2_swap _ (by omega) (by omega), at2_swap _ (by omega) (by omega)]
    exact q3 j hj
  refine ⟨rfl, fun a ha => ?_⟩
  obtain ⟨α, β, q1, q2, q3⟩ := hsr a ha
  by_cases hak : a = r.piv.length
  · refine ⟨α, β, q1, q2, fun j hj => ?_⟩
    show α * at2 (elimR (swapR r'.T i r.piv.length) r.piv.length c r'.last) a j = β * at2 (elimR (swapR r.T i r.piv.length) r.piv.length c r.last) a j
    rw [at2_elim _ _ _ _ hs.row (by rw [swapR_len]; omega) (by omega), at2_elim (swapR r'.T i r.piv.length) _ _ _ (by have := hs'.row; simp only [hpp] at this; exact this) (by rw [swapR_len]; omega) (by omega : j < L'), if_pos hak, if_pos hak]
    rw [hak] at q3
    exact q3 j hj
  · obtain ⟨γ, δ, k1, k2, k3⟩ := hsr r.piv.length hk
    refine ⟨α * γ * r'.last, β * δ * r.last, Int.mul_ne_zero (Int.mul_ne_zero q1 k1) hr'.last, Int.mul_ne_zero (Int.mul_ne_zero q2 k2) hr.last, fun j hj => ?_⟩
    have z1 := e1 a j ha hak (by omega)
    have z2 := e2 a j ha hak (by omega)
    have aj := q3 j hj
    have ac := q3 c hc
    have kj := k3 j hj
    have kc := k3 c hc
    show α * γ * r'.last * at2 (elimR (swapR r'.T i r.piv.length) r.piv.length c r'.last) a j = β * δ * r.last * at2 (elimR (swapR r.T i r.piv.length) r.piv.length c r.last) a j
    generalize at2 (elimR (swapR r'.T i r.piv.length) r.piv.length c r'.last) a j = X' at *
    generalize at2 (elimR (swapR r.T i r.piv.length) r.piv.length c r.last) a j = X at *
    generalize at2 (swapR r'.T i r.piv.length) a j = A' at *
    generalize at2 (swapR r.T i r.piv.length) a j = A at *
    generalize at2 (swapR r'.T i r.piv.length) a c = C' at *
    generalize at2 (swapR r.T i r.piv.length) a c = C at *
    generalize at2 (swapR r'.T i r.piv.length) r.piv.length j = K' at *
    generalize at2 (swapR r.T i r.piv.length) r.piv.length j = K at *
    generalize at2 (swapR r'.T i r.piv.length) r.piv.length c = P' at *
    generalize at2 (swapR r.T i r.piv.length) r.piv.length c = P at *
    generalize r'.last = l' at *
    generalize r.last = l at *
    have w1 : α * γ * l' * X' = (α * A') * (γ * P') - (α * C') * (γ * K') := by
      rw [show α * γ * l' * X' = α * γ * (X' * l') by grind, z2]; grind
    have w2 : β * δ * l * X = (β * A) * (δ * P) - (β * C) * (δ * K) := by
      rw [show β * δ * l * X = β * δ * (X * l) by grind, z1]; grind
    rw [w1, w2, aj, ac, kj, kc]
theorem Prop2.all {n w L L' B B' : Nat} {M M' : Tab} (h1 : M.length = n) (h2 : ∀ x ∈ M, x.length = L) (h1' : M'.length = n) (h2' : ∀ x ∈ M', x.length = L') (h3 : 1 ≤ B) (h3' : 1 ≤ B') (hw : w ≤ L) (hw' : w ≤ L')
    (hB : ∀ a j, a < n → j < L → (at2 M a j).natAbs ≤ B) (hB' : ∀ a j, a < n → j < L' → (at2 M' a j).natAbs ≤ B') (hs : ∀ i, i < n → ∃ α β : Int, α ≠ 0 ∧ β ≠ 0 ∧ ∀ j, j < w → α * at2 M' i j = β * at2 M i j) :
    ∀ c, c ≤ w → Prop2 n w (redN M c) (redN M' c)
  | 0, _ => ⟨rfl, hs⟩
  | c + 1, hc => (Prop2.all h1 h2 h1' h2' h3 h3' hw hw' hB hB' hs c (by omega)).col (RInv.all h1 h2 h3 (by omega) hB) (RInv.all h1' h2' h3' (by omega) hB') (by omega) hw hw' hB hB'
end Go.Ax.Dt

/-
  Systems of equations on rational rows. No program in sight.
-/
namespace Go.Ax.Rt
open Go.Ax.Bg Go.Ax.Dt

theorem get_el {α : Type} {l : List α} {j : Nat} (d : α) (h : j < l.length) : l.getD j d = l[j] := by simp [List.getD, h]
theorem get_in {α : Type} {l : List α} {j : Nat} (d : α) (h : j < l.length) : l.getD j d ∈ l := by rw [get_el d h]; exact List.getElem_mem h
theorem get_app {α : Type} {l r : List α} {j : Nat} (d : α) (h : j < l.length) : (l ++ r).getD j d = l.getD j d := by simp [List.getD, List.getElem?_append_left h]
theorem get_end {α : Type} {l : List α} {x d : α} : (l ++ [x]).getD l.length d = x := by simp [List.getD]
theorem num_den (q : Rat) : q * (q.den : Rat) = (q.num : Rat) := by
  have h : ((q.den : Int) : Rat) ≠ 0 := fun e => q.den_nz (by
    have := congrArg Rat.num e
    simpa using this)
  have h2 := Rat.num_divInt_den q
  rw [Rat.divInt_eq_div] at h2
  conv => lhs; lhs; rw [← h2]
  rw [← Rat.intCast_natCast, Rat.div_mul_cancel h]
/-- The factor that makes a row whole. -/
def facF : Nat → List Rat → Nat
  | f, [] => f
  | f, q :: r => facF (f * (q.den / Nat.gcd f q.den)) r
theorem fac_step (f d : Nat) : f ∣ f * (d / Nat.gcd f d) ∧ d ∣ f * (d / Nat.gcd f d) := by
  refine ⟨Nat.dvd_mul_right _ _, ?_⟩
  obtain ⟨a, ha⟩ := Nat.gcd_dvd_left f d
  have h2 : Nat.gcd f d * (d / Nat.gcd f d) = d := Nat.mul_div_cancel' (Nat.gcd_dvd_right f d)
  refine ⟨a, ?_⟩
  generalize d / Nat.gcd f d = b at *
  generalize Nat.gcd f d = g at *
  rw [ha, ← h2]
  rw [Nat.mul_assoc, Nat.mul_assoc, Nat.mul_comm a b]
theorem facF_dvd : ∀ (l : List Rat) (f : Nat), f ∣ facF f l ∧ ∀ q ∈ l, q.den ∣ facF f l
  | [], f => ⟨Nat.dvd_refl _, fun q hq => by simp at hq⟩
  | a :: r, f => by
    rw [facF]
    obtain ⟨h1, h2⟩ := facF_dvd r (f * (a.den / Nat.gcd f a.den))
    obtain ⟨s1, s2⟩ := fac_step f a.den
    refine ⟨Nat.dvd_trans s1 h1, fun q hq => ?_⟩
    rcases List.mem_cons.1 hq with rfl | hq
    · exact Nat.dvd_trans s2 h1
    · exact h2 q hq
theorem facF_pos : ∀ (l : List Rat) (f : Nat), 0 < f → 0 < facF f l
  | [], f, h => h
  | a :: r, f, h => by
    rw [facF]
    refine facF_pos r _ (Nat.mul_pos h ?_)
    have h2 : Nat.gcd f a.den * (a.den / Nat.gcd f a.den) = a.den := Nat.mul_div_cancel' (Nat.gcd_dvd_right f a.den)
    have := a.den_pos
    rcases Nat.eq_zero_or_pos (a.den / Nat.gcd f a.den) with e | e
    · rw [e, Nat.mul_zero] at h2; omega
    · exact e
theorem facF_le {k : Nat} : ∀ (l : List Rat) (f : Nat), (∀ q ∈ l, q.den < 10 ^ k) → facF f l ≤ f * 10 ^ (k * l.length)
  | [], f, _ => by rw [facF, List.length_nil, Nat.mul_zero, Nat.pow_zero, Nat.mul_one]; exact Nat.le_refl _
  | a :: r, f, h => by
    rw [facF]
    refine Nat.le_trans (facF_le r _ (fun q hq => h q (by simp [hq]))) ?_
    have h1 : a.den / Nat.gcd f a.den ≤ 10 ^ k := Nat.le_trans (Nat.div_le_self _ _) (Nat.le_of_lt (h a (by simp)))
    rw [List.length_cons, Nat.mul_add, Nat.mul_one, Nat.add_comm, Nat.pow_add, ← Nat.mul_assoc]
    exact Nat.mul_le_mul_right _ (Nat.mul_le_mul_left _ h1)
def wholeL (l : List Rat) : List Int := l.map (fun q => q.num * ((facF 1 l / q.den : Nat) : Int))
theorem wholeL_len (l : List Rat) : (wholeL l).length = l.length := by simp [wholeL]
theorem whole_val {l : List Rat} {q : Rat} (h : q ∈ l) : ((q.num * ((facF 1 l / q.den : Nat) : Int) : Int) : Rat) = ((facF 1 l : Nat) : Rat) * q := by
  obtain ⟨k, hk⟩ := (facF_dvd l 1).2 q h
  rw [hk, Nat.mul_div_cancel_left _ q.den_pos, Rat.intCast_mul, Rat.natCast_mul]
  have h1 : q * (q.den : Rat) = (q.num : Rat) := num_den q
  have h2 : ((k : Int) : Rat) = (k : Rat) := Rat.intCast_natCast k
  rw [h2, ← h1]
  grind
theorem whole_at {rows : List (List Rat)} {i j : Nat} (hi : i < rows.length) (hj : j < (rows.getD i []).length) : ((at2 (rows.map wholeL) i j : Int) : Rat) = ((facF 1 (rows.getD i []) : Nat) : Rat) * (rows.getD i []).getD j 0 := by
  unfold at2
  rw [map_getD _ _ [] _ _ hi]
  unfold wholeL
  rw [map_getD _ _ 0 _ _ hj]
  exact whole_val (get_in 0 hj)
theorem whole_abs {l : List Rat} {k : Nat} (h : ∀ q ∈ l, D k q) : ∀ x ∈ wholeL l, x.natAbs ≤ 10 ^ (k + k * l.length) := by
  intro x hx
  obtain ⟨q, hq, rfl⟩ := List.mem_map.1 hx
  rw [Int.natAbs_mul, Int.natAbs_natCast, Nat.pow_add]
  refine Nat.mul_le_mul (Nat.le_of_lt (h q hq).1) ?_
  have := facF_le l 1 (fun q hq => (h q hq).2)
  rw [Nat.one_mul] at this
  exact Nat.le_trans (Nat.div_le_self _ _) this
theorem at2_whole_abs {rows : List (List Rat)} {k L : Nat} (h : ∀ r ∈ rows, r.length = L ∧ ∀ q ∈ r, D k q) : ∀ i j, i < rows.length → j < L → (at2 (rows.map wholeL) i j).natAbs ≤ 10 ^ (k + k * L) := by
  intro i j hi hj
  have hm : rows.getD i [] ∈ rows := by simp [List.getD, hi]
  unfold at2
  rw [map_getD _ _ [] _ _ hi]
  have h1 := whole_abs (h _ hm).2
  rw [(h _ hm).1] at h1
  have hl : j < (wholeL (rows.getD i [])).length := by rw [wholeL_len, (h _ hm).1]; exact hj
  have h2 : (wholeL (rows.getD i [])).getD j 0 = (wholeL (rows.getD i []))[j] := get_el 0 hl
  rw [h2]
  exact h1 _ (List.getElem_mem hl)
theorem fct_le : ∀ {n : Nat}, n ≤ 40 → fct n ≤ 100 ^ n
  | 0, _ => Nat.le_refl _
  | n + 1, h => by
    rw [fct, Nat.pow_succ, Nat.mul_comm]
    exact Nat.mul_le_mul (fct_le (by omega)) (by omega)
theorem det_ten {n k : Nat} (h : n ≤ 40) : fct n * (10 ^ k) ^ n ≤ 10 ^ ((k + 2) * n) := by
  refine Nat.le_trans (Nat.mul_le_mul_right _ (fct_le h)) ?_
  rw [← Nat.mul_pow, Nat.pow_mul, Nat.pow_add]
  refine Nat.pow_le_pow_left ?_ n
  rw [Nat.mul_comm]
  exact Nat.le_refl _

/-- SolveOf: rows with the right side at their end. -/
def solT (rows : List (List Rat)) (w : Nat) : Red := redN (rows.map wholeL) w
def solveQ (rows : List (List Rat)) (w : Nat) : List Rat × Int :=
  if ((solT rows w).T.drop (solT rows w).piv.length).any (fun r => decide (r.getD w 0 ≠ 0)) then ([], 8)
  else if (solT rows w).piv.length < w then ([], 18)
  else ((List.range w).map (fun k => Rat.divInt (at2 (solT rows w).T k w) (at2 (solT rows w).T k k)), 0)
def augQ (m : List (List Rat)) (b : List Rat) : List (List Rat) := (List.range m.length).map (fun i => m.getD i [] ++ [b.getD i 0])
/-- matrix.Solve -/
def solveR (m : List (List Text)) (b : List Text) : List Text × Int :=
  if matE m ≠ 0 then ([], matE m) else if vecE b ≠ 0 then ([], vecE b) else if b.length ≠ m.length then ([], 3)
  else if (solveQ (augQ (inM m) (b.map ratV)) (widM m)).2 ≠ 0 then ([], (solveQ (augQ (inM m) (b.map ratV)) (widM m)).2) else outAllF (solveQ (augQ (inM m) (b.map ratV)) (widM m)).1
def prodFac : Nat → List (List Rat) → Nat
  | f, [] => f
  | f, r :: rs => prodFac (f * facF 1 r) rs
theorem prodFac_pos : ∀ (l : List (List Rat)) (f : Nat), 0 < f → 0 < prodFac f l
  | [], f, h => h
  | a :: r, f, h => by rw [prodFac]; exact prodFac_pos r _ (Nat.mul_pos h (facF_pos a 1 (by decide)))
theorem prodFac_le {k : Nat} : ∀ (l : List (List Rat)) (f : Nat), (∀ r ∈ l, facF 1 r ≤ 10 ^ k) → prodFac f l ≤ f * 10 ^ (k * l.length)
  | [], f, _ => by rw [prodFac, List.length_nil, Nat.mul_zero, Nat.pow_zero, Nat.mul_one]; exact Nat.le_refl _
  | a :: r, f, h => by
    rw [prodFac]
    refine Nat.le_trans (prodFac_le r _ (fun q hq => h q (by simp [hq]))) ?_
    rw [List.length_cons, Nat.mul_add, Nat.mul_one, Nat.add_comm, Nat.pow_add, ← Nat.mul_assoc]
    exact Nat.mul_le_mul_right _ (Nat.mul_le_mul_left _ (h a (by simp)))
def detQ (rows : List (List Rat)) : Rat := Rat.divInt (if (solT rows rows.length).neg then -(solT rows rows.length).last else (solT rows rows.length).last) (prodFac 1 rows : Nat)
/-- matrix.Det -/
def detR (m : List (List Text)) : Text × Int :=
  if matE m ≠ 0 then ([], matE m) else if m.length ≠ widM m then ([], 3)
  else if (solT (inM m) m.length).piv.length < m.length then ([48], 0) else outF (detQ (inM m))

theorem augQ_len (m : List (List Rat)) (b : List Rat) : (augQ m b).length = m.length := by simp [augQ]
theorem augQ_get (m : List (List Rat)) (b : List Rat) {i : Nat} (hi : i < m.length) : (augQ m b).getD i [] = m.getD i [] ++ [b.getD i 0] := by simp [augQ, List.getD, hi]
theorem augQ_row {m : List (List Rat)} {b : List Rat} {w : Nat} (hm : ∀ r ∈ m, r.length = w) : ∀ r ∈ augQ m b, r.length = w + 1 := by
  intro r hr
  obtain ⟨i, hi, rfl⟩ := List.mem_map.1 hr
  have hi : i < m.length := by simpa using hi
  rw [List.length_append, List.length_singleton, hm _ (by simp [List.getD, hi])]
theorem augQ_D {m : List (List Rat)} {b : List Rat} {k w : Nat} (hm : ∀ r ∈ m, r.length = w ∧ ∀ q ∈ r, D k q) (hb : ∀ q ∈ b, D k q) (hl : b.length = m.length) : ∀ r ∈ augQ m b, r.length = w + 1 ∧ ∀ q ∈ r, D k q := by
  intro r hr
  refine ⟨augQ_row (fun r h => (hm r h).1) r hr, ?_⟩
  obtain ⟨i, hi, rfl⟩ := List.mem_map.1 hr
  have hi : i < m.length := by simpa using hi
  intro q hq
  rcases List.mem_append.1 hq with hq | hq
  · exact (hm _ (by simp [List.getD, hi])).2 q hq
  · simp only [List.mem_singleton] at hq
    subst hq
    exact hb _ (by simp [List.getD, show i < b.length by omega])
/-- What the elimination of valid rows keeps. -/
theorem solT_inv {rows : List (List Rat)} {k L w : Nat} (h : ∀ r ∈ rows, r.length = L ∧ ∀ q ∈ r, D k q) (hw : w ≤ L) : RInv rows.length L (10 ^ (k + k * L)) (rows.map wholeL) w (solT rows w) ∧ (∀ i j, i < rows.length → j < L → (at2 (rows.map wholeL) i j).natAbs ≤ 10 ^ (k + k * L)) :=
  ⟨RInv.all (by simp) (fun x hx => by
    obtain ⟨r, hr, rfl⟩ := List.mem_map.1 hx
    rw [wholeL_len]; exact (h r hr).1) (Nat.pow_pos (by decide)) hw (at2_whole_abs h), at2_whole_abs h⟩
theorem rat_cancel {a x y : Rat} (ha : a ≠ 0) (h : a * x = a * y) : x = y := by
  have h1 : a⁻¹ * (a * x) = a⁻¹ * (a * y) := by rw [h]
  rwa [← Rat.mul_assoc, ← Rat.mul_assoc, Rat.inv_mul_cancel a ha, Rat.one_mul, Rat.one_mul] at h1
theorem sumZ_cast (f : Nat → Int) : ∀ n, ((sumZ f n : Int) : Rat) = sumN (fun i => ((f i : Int) : Rat)) n
  | 0 => rfl
  | n + 1 => by rw [sumZ, sumN, Rat.intCast_add, sumZ_cast f n]
theorem intc_ne {x : Int} (h : x ≠ 0) : (x : Rat) ≠ 0 := fun e => h (by
  have := congrArg Rat.num e
  simpa using this)
/-- The solution solves the equations. -/
theorem solve_right {rows : List (List Rat)} {k w : Nat} (h : ∀ r ∈ rows, r.length = w + 1 ∧ ∀ q ∈ r, D k q) (h0 : (solveQ rows w).2 = 0) :
    (solveQ rows w).1.length = w ∧ ∀ e, e < rows.length → sumN (fun j => (rows.getD e []).getD j 0 * (solveQ rows w).1.getD j 0) w = (rows.getD e []).getD w 0 := by
  obtain ⟨hI, hB⟩ := solT_inv (w := w) h (Nat.le_succ w)
  have hle := hI.pc
  unfold solveQ at h0 ⊢
  split at h0
  · cases h0
  split at h0
  · cases h0
  rename_i h1 h2
  rw [if_neg h1, if_neg h2]
  have hK : (solT rows w).piv.length = w := by omega
  rw [Bool.not_eq_true, List.any_eq_false] at h1
  have hlen := hI.len
  have hz : ∀ i, w ≤ i → i < rows.length → at2 (solT rows w).T i w = 0 := by
    intro i hi1 hi2
    have hi3 : i < (solT rows w).T.length := by omega
    have hm : (solT rows w).T.getD i [] ∈ (solT rows w).T.drop (solT rows w).piv.length := by
      rw [hK, List.mem_iff_getElem]
      refine ⟨i - w, by rw [List.length_drop]; omega, ?_⟩
      rw [List.getElem_drop]
      simp [List.getD, show w + (i - w) = i by omega, hi3]
    have := h1 _ hm
    simpa [at2] using this
  obtain ⟨s1, s2⟩ := hI.solve (Nat.lt_succ_self w) hK hz
  refine ⟨by simp, fun e he => ?_⟩
  have hlast := hI.last
  have hre : (rows.getD e []).length = w + 1 := (h _ (by simp [List.getD, he])).1
  have hx : ∀ j, j < w → ((List.range w).map (fun k => Rat.divInt (at2 (solT rows w).T k w) (at2 (solT rows w).T k k))).getD j 0 * ((solT rows w).last : Rat) = ((at2 (solT rows w).T j w : Int) : Rat) := by
    intro j hj
    have : ((List.range w).map (fun k => Rat.divInt (at2 (solT rows w).T k w) (at2 (solT rows w).T k k))).getD j 0 = Rat.divInt (at2 (solT rows w).T j w) (at2 (solT rows w).T j j) := by simp [List.getD, hj]
    rw [this, s2 j hj, Rat.divInt_eq_div, Rat.div_mul_cancel (intc_ne hlast)]
  have hF : ((facF 1 (rows.getD e []) : Nat) : Rat) ≠ 0 := by
    have h9 := facF_pos (rows.getD e []) 1 (by decide)
    rw [← Rat.intCast_natCast]
    exact intc_ne (by omega)
  have hs := congrArg (fun z : Int => (z : Rat)) (s1 e he)
  simp only [sumZ_cast, Rat.intCast_mul] at hs
  rw [whole_at he (by omega)] at hs
  refine rat_cancel (intc_ne hlast) (rat_cancel hF ?_)
  rw [← sumN_mul, ← sumN_mul]
  have e1 : ((facF 1 (rows.getD e []) : Nat) : Rat) * (((solT rows w).last : Rat) * (rows.getD e []).getD w 0) = ((solT rows w).last : Rat) * (((facF 1 (rows.getD e []) : Nat) : Rat) * (rows.getD e []).getD w 0) := by
    rw [← Rat.mul_assoc, ← Rat.mul_assoc, Rat.mul_comm ((facF 1 (rows.getD e []) : Nat) : Rat)]
  rw [e1, ← hs]
  refine sumN_congr (fun j hj => ?_)
  rw [whole_at he (by omega), ← hx j hj]
  generalize ((facF 1 (rows.getD e []) : Nat) : Rat) = F
  generalize ((solT rows w).last : Rat) = l
  generalize (rows.getD e []).getD j 0 = a
  generalize List.getD _ j 0 = x
  grind
theorem solve_D {rows : List (List Rat)} {k w : Nat} (h : ∀ r ∈ rows, r.length = w + 1 ∧ ∀ q ∈ r, D k q) (hn : rows.length ≤ 40) (hwn : w ≤ rows.length ∨ (solT rows w).piv.length = w) : ∀ q ∈ (solveQ rows w).1, D ((k + k * (w + 1) + 2) * rows.length + 1) q := by
  obtain ⟨hI, hB⟩ := solT_inv (w := w) h (Nat.le_succ w)
  intro q hq
  unfold solveQ at hq
  split at hq
  · simp at hq
  split at hq
  · simp at hq
  rename_i h1 h2
  have hle := hI.pc
  have hpl := hI.pl
  obtain ⟨j, hj, rfl⟩ := List.mem_map.1 hq
  have hj : j < w := by simpa using hj
  have hK : (solT rows w).piv.length = w := by omega
  rw [Bool.not_eq_true, List.any_eq_false] at h1
  have hlen := hI.len
  have hz : ∀ i, w ≤ i → i < rows.length → at2 (solT rows w).T i w = 0 := by
    intro i hi1 hi2
    have hi3 : i < (solT rows w).T.length := by omega
    have hm : (solT rows w).T.getD i [] ∈ (solT rows w).T.drop (solT rows w).piv.length := by
      rw [hK, List.mem_iff_getElem]
      refine ⟨i - w, by rw [List.length_drop]; omega, ?_⟩
      rw [List.getElem_drop]
      simp [List.getD, show w + (i - w) = i by omega, hi3]
    have := h1 _ hm
    simpa [at2] using this
  have s2 := (hI.solve (Nat.lt_succ_self w) hK hz).2
  obtain ⟨b1, b2⟩ := hI.bound hB
  have ht := det_ten (k := k + k * (w + 1)) hn
  have hlt : ∀ x : Nat, x ≤ 10 ^ ((k + k * (w + 1) + 2) * rows.length) → x < 10 ^ ((k + k * (w + 1) + 2) * rows.length + 1) := by
    intro x hx
    have : 0 < 10 ^ ((k + k * (w + 1) + 2) * rows.length) := Nat.pow_pos (by decide)
    rw [Nat.pow_succ]
    omega
  rw [s2 j hj]
  exact d_frac hI.last (hlt _ (Nat.le_trans (b1 j w (by omega) (by omega)) ht)) (hlt _ (Nat.le_trans b2 ht))
/-- The pivots are the same, with or without the right side. -/
theorem aug_piv {m : List (List Rat)} {b : List Rat} {k w : Nat} (hm : ∀ r ∈ m, r.length = w ∧ ∀ q ∈ r, D k q) (hb : ∀ q ∈ b, D k q) (hl : b.length = m.length) : (solT (augQ m b) w).piv = (solT m w).piv := by
  have ha := augQ_D hm hb hl
  have hB := at2_whole_abs hm
  have hB' := at2_whole_abs ha
  rw [augQ_len] at hB'
  refine (Prop2.all (n := m.length) (w := w) (L := w) (L' := w + 1) (M := m.map wholeL) (M' := (augQ m b).map wholeL) (by simp) (fun x hx => ?_) (by simp [augQ]) (fun x hx => ?_) (Nat.pow_pos (by decide)) (Nat.pow_pos (by decide)) (Nat.le_refl _) (Nat.le_succ _) hB hB' (fun i hi => ?_) w (Nat.le_refl _)).piv
  · obtain ⟨r, hr, rfl⟩ := List.mem_map.1 hx
    rw [wholeL_len]; exact (hm r hr).1
  · obtain ⟨r, hr, rfl⟩ := List.mem_map.1 hx
    rw [wholeL_len]; exact (ha r hr).1
  · have hr : (m.getD i []).length = w := (hm _ (by simp [List.getD, hi])).1
    have hg := augQ_get m b hi
    have nz : ∀ l : List Rat, ((facF 1 l : Nat) : Int) ≠ 0 := fun l => by have := facF_pos l 1 (by decide); omega
    refine ⟨((facF 1 (m.getD i []) : Nat) : Int), ((facF 1 (m.getD i [] ++ [b.getD i 0]) : Nat) : Int), nz _, nz _, fun j hj => ?_⟩
    have h1 := whole_at (rows := m) hi (j := j) (by omega)
    have h2 := whole_at (rows := augQ m b) (i := i) (j := j) (by rw [augQ_len]; exact hi) (by rw [hg, List.length_append]; omega)
    have h3 : (m.getD i [] ++ [b.getD i 0]).getD j 0 = (m.getD i []).getD j 0 := get_app 0 (by omega)
    rw [hg, h3] at h2
    apply Rat.intCast_inj.1
    rw [Rat.intCast_mul, Rat.intCast_mul, h1, h2, Rat.intCast_natCast, Rat.intCast_natCast, ← Rat.mul_assoc, ← Rat.mul_assoc]
    rw [Rat.mul_comm ((facF 1 (m.getD i []) : Nat) : Rat)]
end Go.Ax.Rt

/-
  Solutions and determinants, on texts. No program in sight.
-/
namespace Go.Ax.Rt
open Go.Ax.Bg Go.Ax.Dt

theorem outAllF_of {l : List Rat} (h : ∀ q ∈ l, fitB q = true) : outAllF l = (l.map textQ, 0) := by
  unfold outAllF
  rw [if_pos (List.all_eq_true.2 h)]
theorem outAllF_fit {l : List Rat} (h : (outAllF l).2 = 0) : ∀ q ∈ l, fitB q = true := by
  unfold outAllF at h
  split at h
  · rename_i h1; exact List.all_eq_true.1 h1
  · cases h
theorem vec_texts {b : List Text} (h : ∀ s ∈ b, ratE s = 0) : (b.map ratV).map textQ = b ∧ ∀ q ∈ b.map ratV, fitB q = true := by
  constructor
  · rw [List.map_map]
    conv => rhs; rw [← List.map_id b]
    exact List.map_congr_left (fun s hs => (IsQ.self (h s hs)).text)
  · intro q hq
    obtain ⟨s, hs, rfl⟩ := List.mem_map.1 hq
    exact (IsQ.self (h s hs)).fit
theorem texts_back {x : List Rat} (h : ∀ q ∈ x, fitB q = true) : (x.map textQ).map ratV = x ∧ ∀ s ∈ x.map textQ, ratE s = 0 := by
  constructor
  · rw [List.map_map]
    conv => rhs; rw [← List.map_id x]
    exact List.map_congr_left (fun q hq => (isQ_of (h q hq)).2)
  · intro s hs
    obtain ⟨q, hq, rfl⟩ := List.mem_map.1 hs
    exact (isQ_of (h q hq)).1
theorem solveR_zero {m : List (List Text)} {b : List Text} (h : (solveR m b).2 = 0) : matE m = 0 ∧ vecE b = 0 ∧ b.length = m.length ∧ (solveQ (augQ (inM m) (b.map ratV)) (widM m)).2 = 0 ∧ solveR m b = outAllF (solveQ (augQ (inM m) (b.map ratV)) (widM m)).1 := by
  unfold solveR at h ⊢
  split at h
  · rename_i h1; exact absurd h h1
  split at h
  · rename_i h1; exact absurd h h1
  split at h
  · cases h
  split at h
  · rename_i h1; exact absurd h h1
  rename_i h1 h2 h3 h4
  rw [if_neg h1, if_neg h2, if_neg h3, if_neg h4]
  exact ⟨Classical.not_not.1 h1, Classical.not_not.1 h2, Classical.not_not.1 h3, Classical.not_not.1 h4, rfl⟩
theorem dig_D {k : Nat} {q : Rat} (h1 : (Lib.decDigits q.num.natAbs).length ≤ k) (h2 : (Lib.decDigits q.den).length ≤ k) : D k q :=
  ⟨Nat.lt_of_lt_of_le (digits_lt _) (Nat.pow_le_pow_right (by decide) h1), Nat.lt_of_lt_of_le (digits_lt _) (Nat.pow_le_pow_right (by decide) h2)⟩
theorem valid_in {m : List (List Text)} (h : matE m = 0) : ∀ r ∈ inM m, r.length = widM m ∧ ∀ q ∈ r, D 2000 q := by
  have hM := matE_zero h
  intro r hr
  refine ⟨inM_cols hM r hr, ?_⟩
  obtain ⟨x, hx, rfl⟩ := List.mem_map.1 hr
  intro q hq
  obtain ⟨s, hs, rfl⟩ := List.mem_map.1 hq
  have hf := (IsQ.self (hM.ok x hx s hs)).fit
  unfold fitB at hf
  rw [Bool.and_eq_true, decide_eq_true_eq, decide_eq_true_eq] at hf
  exact dig_D hf.1 hf.2
theorem valid_vec {b : List Text} (h : vecE b = 0) : ∀ q ∈ b.map ratV, D 2000 q := by
  intro q hq
  obtain ⟨s, hs, rfl⟩ := List.mem_map.1 hq
  have hf := (IsQ.self (allE_mem (vecE_zero h).2 s hs)).fit
  unfold fitB at hf
  rw [Bool.and_eq_true, decide_eq_true_eq, decide_eq_true_eq] at hf
  exact dig_D hf.1 hf.2
theorem widM_le {m : List (List Text)} (h : matE m = 0) : widM m ≤ 40 := by
  have hM := matE_zero h
  cases m with
  | nil => exact Nat.zero_le _
  | cons a m' => exact hM.sq (by simp)
/-- A solution solves its system. -/
theorem kinds1 {m : List (List Text)} {b : List Text} (h : (solveR m b).2 = 0) : applyR m (solveR m b).1 = (b, 0) := by
  obtain ⟨h1, h2, h3, h4, h5⟩ := solveR_zero h
  have hM := matE_zero h1
  have hbo := allE_mem (vecE_zero h2).2
  have hv := valid_in h1
  have haug := augQ_D hv (valid_vec h2) (by rw [List.length_map, inM_len]; exact h3)
  obtain ⟨s1, s2⟩ := solve_right haug h4
  rw [h5] at h
  have hfit := outAllF_fit h
  rw [h5, outAllF_of hfit]
  generalize (solveQ (augQ (inM m) (b.map ratV)) (widM m)).1 = x at *
  obtain ⟨t1, t2⟩ := texts_back hfit
  have hw := widM_le h1
  have hve : vecE (x.map textQ) = 0 := by
    unfold vecE
    rw [if_neg (by rw [List.length_map]; omega)]
    exact allE_of t2
  have hap : applyQ (inM m) x = b.map ratV := by
    apply List.ext_getElem (by simp [applyQ, inM_len, h3])
    intro i i1 i2
    have hi : i < (inM m).length := by simpa [applyQ] using i1
    have q1 : (applyQ (inM m) x).getD i 0 = (applyQ (inM m) x)[i] := get_el 0 i1
    have q2 : (b.map ratV).getD i 0 = (b.map ratV)[i] := get_el 0 i2
    have hr : ((inM m).getD i []).length = widM m := (hv _ (get_in _ hi)).1
    rw [← q1, ← q2, applyQ_get _ _ hi, dotQ_len hr]
    have hs := s2 i (by rw [augQ_len]; exact hi)
    rw [augQ_get _ _ hi] at hs
    have e2 : ((inM m).getD i [] ++ [(b.map ratV).getD i 0]).getD (widM m) 0 = (b.map ratV).getD i 0 := by
      rw [← hr]; exact get_end
    rw [e2] at hs
    rw [← hs]
    refine sumN_congr (fun j hj => ?_)
    have : ((inM m).getD i [] ++ [(b.map ratV).getD i 0]).getD j 0 = ((inM m).getD i []).getD j 0 := get_app 0 (by omega)
    rw [this]
  unfold applyR
  rw [if_neg (fun q => q h1), if_neg (fun q => q hve), if_neg (by rintro ⟨_, q⟩; exact q (by rw [List.length_map]; exact s1.symm)), t1, hap]
  obtain ⟨v1, v2⟩ := vec_texts hbo
  rw [outAllF_of v2, v1]
theorem detR_zero {m : List (List Text)} (h : (detR m).2 = 0) : matE m = 0 ∧ m.length = widM m ∧ ((solT (inM m) m.length).piv.length < m.length ∧ (detR m).1 = [48] ∨ (solT (inM m) m.length).piv.length = m.length ∧ (detR m).1 ≠ [48]) := by
  unfold detR at h
  split at h
  · rename_i h1; exact absurd h h1
  split at h
  · cases h
  rename_i h1 h2
  have h1 := Classical.not_not.1 h1
  have h2 := Classical.not_not.1 h2
  refine ⟨h1, h2, ?_⟩
  have hd : detR m = if (solT (inM m) m.length).piv.length < m.length then ([48], 0) else outF (detQ (inM m)) := by
    unfold detR
    rw [if_neg (fun q => q h1), if_neg (fun q => q h2)]
  have hv := valid_in h1
  obtain ⟨hI, _⟩ := solT_inv (w := m.length) hv (by omega)
  split at h
  · rename_i h3
    left
    rw [hd, if_pos h3]
    exact ⟨h3, rfl⟩
  · rename_i h3
    right
    have hpl := hI.pl
    rw [inM_len] at hpl
    rw [hd, if_neg h3]
    refine ⟨by omega, fun e => ?_⟩
    unfold outF at h e
    split at h
    · rename_i hf
      rw [if_pos hf] at e
      have hz := (isQ_of hf).zero.2 e
      unfold detQ at hz
      rw [inM_len] at hz
      have hl := hI.last
      have hp := prodFac_pos (inM m) 1 (by decide)
      rw [Rat.divInt_eq_div] at hz
      have hp' : (((prodFac 1 (inM m) : Nat) : Int) : Rat) ≠ 0 := intc_ne (by omega)
      have hx := Rat.div_mul_cancel (a := (((if (solT (inM m) m.length).neg then -(solT (inM m) m.length).last else (solT (inM m) m.length).last : Int)) : Rat)) hp'
      rw [hz, Rat.zero_mul] at hx
      refine intc_ne (x := if (solT (inM m) m.length).neg then -(solT (inM m) m.length).last else (solT (inM m) m.length).last) ?_ hx.symm
      split <;> omega
    · cases h
/-- A square system has exactly one solution if the determinant is not 0. -/
theorem kinds2 {m : List (List Text)} {b : List Text} (tm : tiny 5 12 m = true) (tb : tiny 5 12 [b] = true) (hd : (detR m).2 = 0) (hl : b.length = m.length) (hb : vecE b = 0) :
    ((detR m).1 = [48] → ((solveR m b).2 = 8 ∨ (solveR m b).2 = 18) ∧ (solveR m b).1 = []) ∧ ((detR m).1 ≠ [48] → (solveR m b).2 = 0) := by
  obtain ⟨h1, h2, h3⟩ := detR_zero hd
  have hM := matE_zero h1
  obtain ⟨m1, m2, m3⟩ := tiny_spec3 tm
  obtain ⟨_, b2, b3⟩ := tiny_spec3 tb
  have hDm := inM_D hM m3 (by decide)
  have hv : ∀ r ∈ inM m, r.length = widM m ∧ ∀ q ∈ r, D 12 q := fun r hr => ⟨inM_cols hM r hr, hDm r hr⟩
  have hbv : ∀ q ∈ b.map ratV, D 12 q := by
    intro q hq
    obtain ⟨s, hs, rfl⟩ := List.mem_map.1 hq
    exact (IsQ.self (allE_mem (vecE_zero hb).2 s hs)).dig (b3 b (by simp) s hs) (by decide)
  have hlb : (b.map ratV).length = (inM m).length := by rw [List.length_map, inM_len]; exact hl
  have hp := aug_piv hv hbv hlb
  have haug := augQ_D hv hbv hlb
  have hs : solveR m b = if (solveQ (augQ (inM m) (b.map ratV)) (widM m)).2 ≠ 0 then ([], (solveQ (augQ (inM m) (b.map ratV)) (widM m)).2) else outAllF (solveQ (augQ (inM m) (b.map ratV)) (widM m)).1 := by
    unfold solveR
    rw [if_neg (fun q => q h1), if_neg (fun q => q hb), if_neg (fun q => q hl)]
  rw [h2] at h3
  rw [← hp] at h3
  have hwm : widM m = m.length := h2.symm
  constructor
  · intro he
    have hK : (solT (augQ (inM m) (b.map ratV)) (widM m)).piv.length < widM m := by
      rcases h3 with ⟨q, _⟩ | ⟨_, q⟩
      · exact q
      · exact absurd he q
    by_cases hz : ((solT (augQ (inM m) (b.map ratV)) (widM m)).T.drop (solT (augQ (inM m) (b.map ratV)) (widM m)).piv.length).any (fun r => decide (r.getD (widM m) 0 ≠ 0)) = true
    · have e : solveQ (augQ (inM m) (b.map ratV)) (widM m) = ([], 8) := by unfold solveQ; rw [if_pos hz]
      rw [hs, e]
      exact ⟨.inl rfl, rfl⟩
    · have e : solveQ (augQ (inM m) (b.map ratV)) (widM m) = ([], 18) := by unfold solveQ; rw [if_neg hz, if_pos hK]
      rw [hs, e]
      exact ⟨.inr rfl, rfl⟩
  · intro he
    have hK : (solT (augQ (inM m) (b.map ratV)) (widM m)).piv.length = widM m := by
      rcases h3 with ⟨_, q⟩ | ⟨q, _⟩
      · exact absurd q he
      · exact q
    obtain ⟨hI, _⟩ := solT_inv (w := widM m) haug (Nat.le_succ _)
    have hlen := hI.len
    rw [augQ_len, inM_len] at hlen
    have hz : ¬ ((solT (augQ (inM m) (b.map ratV)) (widM m)).T.drop (solT (augQ (inM m) (b.map ratV)) (widM m)).piv.length).any (fun r => decide (r.getD (widM m) 0 ≠ 0)) = true := by
      rw [List.drop_eq_nil_of_le (by omega)]
      simp
    have e : (solveQ (augQ (inM m) (b.map ratV)) (widM m)).2 = 0 := by unfold solveQ; rw [if_neg hz, if_neg (by omega)]
    rw [hs, if_neg (fun q => q e)]
    have hD := solve_D haug (by rw [augQ_len, inM_len]; omega) (.inr hK)
    rw [augQ_len, inM_len] at hD
    rw [outAllF_of (fun q hq => (hD q hq).fit ?_)]
    have := Nat.mul_le_mul_right (12 + 12 * (m.length + 1) + 2) m1
    have h6 : (12 + 12 * (m.length + 1) + 2) * m.length ≤ 86 * 5 := Nat.mul_le_mul (by omega) m1
    rw [hwm]
    omega
end Go.Ax.Rt

namespace Go.Proofs.YtgmleamhjnlknaaGreatDoor
open Go.Ax Go.Ax.Bg Go.Ax.Rt Go.RowKit Go.Ax.Dt
attribute [local irreducible] Ax Post QOp ACall PureOp
set_option maxRecDepth 100000
set_option maxHeartbeats 4000000

theorem len_ten {n m k : Nat} (h : n ≤ 10 ^ k) (hk : k + 1 ≤ 9 * m) : (natL n).length ≤ m := by
  refine natL_len_le (Nat.lt_of_lt_of_le (m := 10 ^ (9 * m)) ?_ ?_)
  · have h1 : 10 ^ (k + 1) ≤ 10 ^ (9 * m) := Nat.pow_le_pow_right (by decide) hk
    have h2 : 0 < 10 ^ k := Nat.pow_pos (by decide)
    rw [Nat.pow_succ] at h1
    omega
  · rw [Nat.pow_mul]
    exact Nat.pow_le_pow_left (by decide) m
theorem iexact_ok (x d : Int) (hd : d ≠ 0) (hx : (natL x.natAbs).length ≤ 1000000) (hdl : (natL d.natAbs).length ≤ 1000000) : VCall Tryz.prog 158 [intA x, intA d] (intA (exactZ x d)) := by
  have c1 := div_ok x.natAbs d.natAbs (by omega) hx hdl
  have c2 := made_ok (!(decide (x < 0) == decide (d < 0))) (x.natAbs / d.natAbs)
  have e : sgnI (!(decide (x < 0) == decide (d < 0))) (x.natAbs / d.natAbs) = exactZ x d := rfl
  rw [e] at c2
  refine ACall.value0 (acall_of_ax (P := Tryz.prog) (fn := Tryz.f158) rfl rfl (by kernel_rfl) rfl (fun c hR hfix => ?_)) (fix := fun _ => False) (fun _ h => h) rfl rfl
  unfold intA at *
  generalize exactZ x d = q at *
  repeat (first
    | refine ax_ops_nil ?_
    | refine ax_post_code ?_
    | refine ax_seq ?_
    | refine ax_region rfl ?_
    | refine ax_q (q_loadb_ptr rfl rfl rfl rfl rfl) ?_
    | refine ax_q (q_field_ptr rfl rfl rfl rfl rfl rfl) ?_
    | refine ax_box rfl rfl ?_
    | refine ax_alloc rfl rfl rfl ?_)
  refine ax_callv rfl rfl rfl c1 ?_
  repeat (first
    | refine ax_q (q_move rfl) ?_
    | refine ax_q (q_assign rfl) ?_
    | refine ax_ops_nil ?_
    | refine ax_post_code ?_
    | refine ax_seq ?_
    | refine ax_region rfl ?_
    | refine ax_q (q_loadb_ptr rfl rfl rfl rfl rfl) ?_
    | refine ax_q (q_extract rfl rfl) ?_
    | refine ax_q (q_field_ptr rfl rfl rfl rfl rfl rfl) ?_
    | refine ax_q (q_boolneq rfl rfl rfl) ?_)
  refine ax_callv rfl rfl rfl c2 ?_
  skip
  refine ax_storeagg (c' := .box [.bool (decide (q < 0)), natA q.natAbs]) rfl rfl rfl rfl rfl Nat.zero_lt_one rfl rfl (fun i' j' hi' hj' => ?_) ?_
  · rw [if_pos (Nat.lt_one_iff.1 hi')]; rfl
  repeat (first
    | refine ax_ops_nil ?_
    | refine ax_post_code ?_
    | refine ax_return ?_)
  exact ax_ret hR rfl rfl
def cellsI (x : Int) : List AV := [.bool (decide (x < 0)), natA x.natAbs]
abbrev zC (l : List Int) : Cells := rowE 0 2 cellsI l
theorem cellsI_noref (x : Int) (j h : Nat) (hj : j < 2) : ((cellsI x).getD j .any).forget h = (cellsI x).getD j .any := by
  match j, hj with
  | 0, _ => rfl
  | 1, _ => rfl
theorem rowI1 (x : Int) (j : Nat) (hj : j < 2) : (rowOf 1 2 [.bool (decide (x < 0)), natA x.natAbs]).at 0 j = (cellsI x).getD j .any := by
  match j, hj with
  | 0, _ => rfl
  | 1, _ => rfl
theorem facF_snoc (q : Rat) : ∀ (l : List Rat) (f : Nat), facF f (l ++ [q]) = facF f l * (q.den / Nat.gcd (facF f l) q.den)
  | [], f => rfl
  | a :: r, f => by rw [List.cons_append, facF, facF, facF_snoc q r]
theorem facF_take {l : List Rat} {K k : Nat} (h : ∀ q ∈ l, D K q) : facF 1 (l.take k) ≤ 10 ^ (K * l.length) := by
  refine Nat.le_trans (facF_le (k := K) (l.take k) 1 (fun q hq => (h q (List.mem_of_mem_take hq)).2)) ?_
  rw [Nat.one_mul]
  refine Nat.pow_le_pow_right (by decide) (Nat.mul_le_mul_left _ ?_)
  rw [List.length_take]; exact Nat.min_le_right _ _
theorem whole_ok' (l : List Rat) (K : Nat) (hD : ∀ q ∈ l, D K q) (hlen : l.length ≤ 1000) (hK : K * l.length + K ≤ 900000) :
    MCall Tryz.prog 101 [.ro (qsC l) 0 l.length] (.tup [.sl 0 0 l.length, natA (facF 1 l)]) [some ⟨106, zC (wholeL l)⟩] := by
  have hsz : ∀ n k : Nat, n ≤ 10 ^ k → k ≤ 900000 → (natL n).length ≤ 100001 := fun n k h hk => len_ten h (by omega)
  have c0 := small_ok 1 (by decide)
  refine ACall.many (acall_of_ax (P := Tryz.prog) (fn := Tryz.f101) rfl rfl (by kernel_rfl) rfl (fun c hR hfix => ?_)) (fix := fun _ => False) (fun _ h => h) rfl
  repeat (first
    | refine ax_q (q_assign rfl) ?_
    | refine ax_ops_nil ?_
    | refine ax_post_code ?_
    | refine ax_seq ?_
    | refine ax_region rfl ?_)
  refine ax_callv rfl rfl rfl c0 ?_
  repeat (first
    | refine ax_q (q_move rfl) ?_
    | refine ax_q (q_assign rfl) ?_
    | refine ax_ops_nil ?_
    | refine ax_post_code ?_
    | refine ax_seq ?_
    | refine ax_region rfl ?_
    | refine ax_block ?_
    | refine ax_q (q_len rfl rfl rfl) ?_)
  refine ax_loop (ι := Nat) (fun k => [(0, .ro (qsC l) 0 l.length), (4, natA (facF 1 (l.take k))), (16, .ro (qsC l) 0 l.length), (17, .int .i64 (l.length : Nat)), (18, .int .i64 (k : Nat))]) (fun _ => [])
    (fun k => k ≤ l.length) (fun k => l.length - k) 0 ⟨⟨rfl, rfl, rfl, rfl, rfl, trivial⟩, rfl, Nat.zero_le _⟩ ?_
  intro k hk
  repeat (first
    | refine ax_ops_nil ?_
    | refine ax_post_code ?_
    | refine ax_seq ?_
    | refine ax_region rfl ?_
    | refine ax_q (q_lss rfl rfl) ?_)
  refine ax_cond_dec rfl (fun h => ?_) (fun h => ?_)
  · have hk' : k < l.length := by omega
    have hq := hD _ (get_in 0 hk')
    have hsn : facF 1 (l.take (k + 1)) = facF 1 (l.take k) * ((l.getD k 0).den / Nat.gcd (facF 1 (l.take k)) (l.getD k 0).den) := by
      rw [List.take_succ_eq_append_getElem hk', facF_snoc, get_el 0 hk']
    have hF := hsz _ _ (facF_take (k := k) hD) (by omega)
    have hp := facF_pos (l.take k) 1 (by decide)
    generalize facF 1 (l.take k) = F at *
    generalize hqe : l.getD k 0 = q at *
    have hden := hsz q.den K (Nat.le_of_lt hq.2) (by omega)
    have hg : 0 < Nat.gcd F q.den := Nat.gcd_pos_of_pos_left _ hp
    have hgl : Nat.gcd F q.den ≤ 10 ^ K := Nat.le_trans (Nat.le_of_dvd q.den_pos (Nat.gcd_dvd_right F q.den)) (Nat.le_of_lt hq.2)
    have c1 := gcd_ok F q.den (by omega) (by omega)
    have c2 := div_ok q.den (Nat.gcd F q.den) hg (by omega) (Nat.le_trans (hsz (Nat.gcd F q.den) K hgl (by omega)) (by decide))
    have c3 := mul_ok F (q.den / Nat.gcd F q.den) (by omega) (Nat.le_trans (hsz (q.den / Nat.gcd F q.den) K (Nat.le_trans (Nat.div_le_self _ _) (Nat.le_of_lt hq.2)) (by omega)) (by decide))
    repeat (first
      | refine ax_post_code ?_
      | refine ax_seq ?_
      | refine ax_region rfl ?_
      | refine ax_block ?_
      | refine ax_skip ?_
      | refine ax_q (q_index_ro' rfl rfl rfl rfl (by first | (simp only [Nat.zero_add, Int.toNat_natCast, Int.toNat_zero]; exact rfl) | exact rfl) (by omega)) ?_
      | refine ax_q (q_loadagg_rp rfl rfl rfl rfl rfl rfl) ?_
      | refine ax_alloc rfl rfl rfl ?_)
    refine ax_slot_ops 21 (.agg (cellsQ q)) rfl (AEq.of_eq (by rw [← hqe]; rfl)) ?_
    refine ax_storeagg (c' := .box (cellsQ q)) rfl rfl rfl rfl rfl Nat.zero_lt_one rfl rfl (fun i' j' hi' hj' => ?_) ?_
    · rw [if_pos (Nat.lt_one_iff.1 hi')]; rfl
    repeat (first
      | refine ax_q (q_move rfl) ?_
      | refine ax_ops_nil ?_
      | refine ax_post_code ?_
      | refine ax_seq ?_
      | refine ax_region rfl ?_
      | refine ax_q (q_loadb_ptr rfl rfl rfl rfl rfl) ?_
      | refine ax_q (q_field_ptr rfl rfl rfl rfl rfl rfl) ?_)
    refine ax_callv rfl rfl rfl c1 ?_
    repeat (first
      | refine ax_q (q_move rfl) ?_
      | refine ax_q (q_assign rfl) ?_
      | refine ax_ops_nil ?_
      | refine ax_post_code ?_
      | refine ax_seq ?_
      | refine ax_region rfl ?_
      | refine ax_q (q_loadb_ptr rfl rfl rfl rfl rfl) ?_
      | refine ax_q (q_field_ptr rfl rfl rfl rfl rfl rfl) ?_)
    refine ax_callv rfl rfl rfl c2 ?_
    repeat (first
      | refine ax_q (q_move rfl) ?_
      | refine ax_q (q_assign rfl) ?_
      | refine ax_ops_nil ?_
      | refine ax_post_code ?_
      | refine ax_region rfl ?_
      | refine ax_q (q_extract rfl rfl) ?_)
    refine ax_callv rfl rfl rfl c3 ?_
    repeat (first
      | refine ax_q (q_assign rfl) ?_
      | refine ax_ops_nil ?_
      | refine ax_post_blk ?_)
    refine ax_post_code ?_
    refine ax_heap [none] (HSub.drop HSub.nil) ?_
    refine ax_drop (H1 := []) rfl (by rw [hfix]; exact fun h => h) ?_
    repeat (first
      | refine ax_q (q_move rfl) ?_
      | refine ax_ops_nil ?_
      | refine ax_region rfl ?_
      | refine ax_q (q_add rfl rfl (by omega)) ?_)
    exact ax_post_inv ⟨k + 1, by omega, by omega, ⟨rfl, by rw [hsn]; rfl, rfl, rfl, rfl, trivial⟩, rfl⟩
  have hke : k = l.length := by omega
  subst hke
  rw [List.take_length]
  have hFb := facF_take (k := l.length) hD
  rw [List.take_length] at hFb
  have hF := hsz _ _ hFb (by omega)
  unfold wholeL at hR
  generalize facF 1 l = F at *
  have eg : ∃ g : Rat → Int, g = (fun q => q.num * ((F / q.den : Nat) : Int)) := ⟨_, rfl⟩
  obtain ⟨g, eg⟩ := eg
  rw [← eg] at hR
  repeat (first
    | refine ax_q (q_move rfl) ?_
    | refine ax_q (q_assign rfl) ?_
    | refine ax_ops_nil ?_
    | refine ax_post_code ?_
    | refine ax_seq ?_
    | refine ax_region rfl ?_
    | refine ax_exit ?_
    | refine ax_exit_here ?_
    | refine ax_exit_code ?_
    | refine ax_exit_inv ?_
    | refine ax_q (q_len rfl rfl rfl) ?_)
  refine ax_nilobj 10 ⟨106, zC []⟩ rfl rfl ?_
  repeat (refine ax_block ?_)
  refine ax_loop (ι := Nat) (fun k => [(4, natA F), (10, .sl 0 0 k), (37, .ro (qsC l) 0 l.length), (38, .int .i64 (l.length : Nat)), (39, .int .i64 (k : Nat))]) (fun k => [some ⟨106, zC ((l.take k).map g)⟩])
    (fun k => k ≤ l.length) (fun k => l.length - k) 0 ⟨⟨rfl, rfl, rfl, rfl, rfl, trivial⟩, rfl, Nat.zero_le _⟩ ?_
  intro k hk
  repeat (first
    | refine ax_ops_nil ?_
    | refine ax_post_code ?_
    | refine ax_seq ?_
    | refine ax_region rfl ?_
    | refine ax_q (q_lss rfl rfl) ?_)
  refine ax_cond_dec rfl (fun h => ?_) (fun h => ?_)
  · have hk' : k < l.length := by omega
    have hq := hD _ (get_in 0 hk')
    have htk := map_take_succ g l 0 k hk'
    have hml : ((l.take k).map g).length = k := by rw [List.length_map, List.length_take]; omega
    generalize (l.take k).map g = zs at *
    generalize hqe : l.getD k 0 = q at *
    have hden := hsz q.den K (Nat.le_of_lt hq.2) (by omega)
    have hnum := hsz q.num.natAbs K (Nat.le_of_lt hq.1) (by omega)
    have hquo := hsz _ _ (Nat.le_trans (Nat.div_le_self F q.den) hFb) (by omega)
    have hgq : g q = q.num * ((F / q.den : Nat) : Int) := by rw [eg]
    have c1 := div_ok F q.den q.den_pos (by omega) (by omega)
    have c2 := imul_ok q.num ((F / q.den : Nat) : Int) (by omega) (by rw [Int.natAbs_natCast]; omega)
    rw [← hgq] at c2
    repeat (first
      | refine ax_post_code ?_
      | refine ax_seq ?_
      | refine ax_region rfl ?_
      | refine ax_block ?_
      | refine ax_skip ?_
      | refine ax_q (q_index_ro' rfl rfl rfl rfl (by first | (simp only [Nat.zero_add, Int.toNat_natCast, Int.toNat_zero]; exact rfl) | exact rfl) (by omega)) ?_
      | refine ax_q (q_loadagg_rp rfl rfl rfl rfl rfl rfl) ?_
      | refine ax_alloc rfl rfl rfl ?_)
    refine ax_slot_ops 42 (.agg (cellsQ q)) rfl (AEq.of_eq (by rw [← hqe]; rfl)) ?_
    refine ax_storeagg (c' := .box (cellsQ q)) rfl rfl rfl rfl rfl Nat.zero_lt_one rfl rfl (fun i' j' hi' hj' => ?_) ?_
    · rw [if_pos (Nat.lt_one_iff.1 hi')]; rfl
    repeat (first
      | refine ax_q (q_move rfl) ?_
      | refine ax_ops_nil ?_
      | refine ax_post_code ?_
      | refine ax_seq ?_
      | refine ax_region rfl ?_
      | refine ax_q (q_loadb_ptr rfl rfl rfl rfl rfl) ?_
      | refine ax_q (q_field_ptr rfl rfl rfl rfl rfl rfl) ?_)
    refine ax_callv rfl rfl rfl c1 ?_
    repeat (first
      | refine ax_q (q_move rfl) ?_
      | refine ax_q (q_assign rfl) ?_
      | refine ax_ops_nil ?_
      | refine ax_post_code ?_
      | refine ax_region rfl ?_
      | refine ax_q (q_extract rfl rfl) ?_
      | refine ax_q (q_build rfl rfl rfl rfl rfl rfl) ?_
      | refine ax_q (q_field_ptr rfl rfl rfl rfl rfl rfl) ?_
      | refine ax_q (q_loadpart_ptr rfl rfl rfl rfl rfl rfl rfl (by first | exact Nat.zero_lt_one | assumption | omega)) ?_)
    refine ax_slot_ops 54 (intA ((F / q.den : Nat) : Int)) rfl (AEq.of_eq (by
      unfold intA
      rw [decide_eq_false (Int.not_lt.2 (Int.natCast_nonneg (F / q.den))), Int.natAbs_natCast]; rfl)) ?_
    refine ax_callv rfl rfl rfl c2 ?_
    unfold intA
    repeat (refine ax_buildSliceRo rfl rfl rfl rfl rfl rfl rfl rfl rfl rfl rfl ?_)
    refine ax_append rfl rfl rfl rfl rfl rfl rfl rfl rfl hml rfl rfl (by show 0 + 1 ≤ 1; omega) rfl (by show (k + 1) * 32 ≤ _ ∧ _; omega) ?_ (by rw [hfix]; exact fun h => h) ?_
    · intro i' j hi hj
      exact rowE_noref 0 2 cellsI cellsI_noref zs (g q) _ (rowI1 _) 0 i' j hi hj
    repeat (first
      | refine ax_q (q_assign rfl) ?_
      | refine ax_ops_nil ?_
      | refine ax_post_blk ?_)
    refine ax_post_code ?_
    refine ax_heap ([some ⟨106, zC ((l.take (k + 1)).map g)⟩] ++ [none]) ?_ ?_
    · rw [htk]
      exact HSub.eqv (rowE_snoc 0 2 cellsI zs (g q) _ (rowI1 _)) (HSub.drop HSub.nil)
    refine ax_drop (H1 := [some ⟨106, zC ((l.take (k + 1)).map g)⟩]) rfl (by rw [hfix]; exact fun h => h) ?_
    refine ax_heap [some ⟨106, zC ((l.take (k + 1)).map g)⟩] ?_ ?_
    · exact HSub.eqv ⟨rfl, rfl, fun i j _ hj => (cellsI_noref _ j _ hj).symm⟩ HSub.nil
    repeat (first
      | refine ax_q (q_move rfl) ?_
      | refine ax_ops_nil ?_
      | refine ax_region rfl ?_
      | refine ax_q (q_add rfl rfl (by omega)) ?_)
    exact ax_post_inv ⟨k + 1, by omega, by omega, ⟨rfl, rfl, rfl, rfl, rfl, trivial⟩, rfl⟩
  · have hke : k = l.length := by omega
    subst hke
    rw [List.take_length]
    repeat (first
      | refine ax_q (q_move rfl) ?_
      | refine ax_q (q_assign rfl) ?_
      | refine ax_ops_nil ?_
      | refine ax_post_code ?_
      | refine ax_seq ?_
      | refine ax_region rfl ?_
      | refine ax_exit ?_
      | refine ax_exit_here ?_
      | refine ax_exit_code ?_
      | refine ax_exit_inv ?_
      | refine ax_return ?_)
    exact ax_ret hR rfl ⟨rfl, rfl⟩
end Go.Proofs.YtgmleamhjnlknaaGreatDoor

/-
  Tables whose rows lie in any order; lists that are changed one by one. No program in sight.
-/
namespace Go.Ax.Rt
open Go.Ax.Bg Go.Ax.Dt

/-- The first k elements are new. -/
def chg {α : Type} (g : Nat → α) (d : α) (x : List α) (k : Nat) : List α := (List.range x.length).map (fun j => if j < k then g j else x.getD j d)
theorem chg_len {α : Type} (g : Nat → α) (d : α) (x : List α) (k : Nat) : (chg g d x k).length = x.length := by simp [chg]
theorem chg_zero {α : Type} (g : Nat → α) (d : α) (x : List α) : chg g d x 0 = x := by
  apply List.ext_getElem (chg_len _ _ _ _)
  intro i h1 h2
  simp [chg, List.getD, h2]
theorem chg_get {α : Type} (g : Nat → α) (d : α) (x : List α) {k i : Nat} (hi : i < x.length) : (chg g d x k).getD i d = if i < k then g i else x.getD i d := by
  unfold chg
  rw [map_getD _ _ 0 _ _ (by simpa using hi)]
  simp [List.getD, hi]
theorem chg_set {α : Type} (g : Nat → α) (d : α) (x : List α) {k : Nat} (hk : k < x.length) : (chg g d x k).set k (g k) = chg g d x (k + 1) := by
  apply List.ext_getElem (by simp [chg])
  intro i h1 h2
  have hi : i < x.length := by simpa [chg] using h2
  have e1 := chg_get g d x (k := k + 1) hi
  rw [get_el d h2] at e1
  rw [e1, List.getElem_set]
  by_cases hik : k = i
  · subst hik; simp
  · have e2 := chg_get g d x (k := k) hi
    rw [get_el d (by rw [chg_len]; exact hi)] at e2
    rw [if_neg hik, e2]
    by_cases h3 : i < k
    · rw [if_pos h3, if_pos (by omega)]
    · rw [if_neg h3, if_neg (by omega)]
theorem chg_all {α : Type} (g : Nat → α) (d : α) (x : List α) : chg g d x x.length = (List.range x.length).map g := by
  unfold chg
  refine List.map_congr_left (fun j hj => ?_)
  rw [if_pos (by simpa using hj)]
theorem chg_same {α : Type} (g : Nat → α) (d : α) (x : List α) {k : Nat} (hk : k < x.length) (h : g k = x.getD k d) : chg g d x (k + 1) = chg g d x k := by
  rw [← chg_set g d x hk, h]
  apply List.ext_getElem (by simp [chg])
  intro i h1 h2
  rw [List.getElem_set]
  split
  · rename_i e; subst e
    have e2 := chg_get g d x (k := k) hk
    rw [if_neg (Nat.lt_irrefl k)] at e2
    rw [← get_el d h2, e2]
  · rfl
/-- The rows X, in the order ρ. -/
def tabOf (ρ : List Nat) (X : Tab) : Tab := ρ.map (fun a => X.getD a [])
structure Perm (n : Nat) (ρ : List Nat) (X : Tab) : Prop where
  len : ρ.length = n
  lenX : X.length = n
  nd : ρ.Nodup
  lt : ∀ a ∈ ρ, a < n
theorem tab_len (ρ : List Nat) (X : Tab) : (tabOf ρ X).length = ρ.length := by simp [tabOf]
theorem tab_get (ρ : List Nat) (X : Tab) {i : Nat} (hi : i < ρ.length) : (tabOf ρ X).getD i [] = X.getD (ρ.getD i 0) [] := by
  unfold tabOf
  rw [map_getD _ _ 0 _ _ hi]
theorem Perm.at {n : Nat} {ρ : List Nat} {X : Tab} (h : Perm n ρ X) {i : Nat} (hi : i < n) : ρ.getD i 0 < n := h.lt _ (get_in 0 (by rw [h.len]; exact hi))
theorem Perm.inj {n : Nat} {ρ : List Nat} {X : Tab} (h : Perm n ρ X) {i j : Nat} (hi : i < n) (hj : j < n) (e : ρ.getD i 0 = ρ.getD j 0) : i = j := by
  rw [get_el 0 (by rw [h.len]; exact hi), get_el 0 (by rw [h.len]; exact hj)] at e
  have hp := List.pairwise_iff_getElem.1 h.nd
  rcases Nat.lt_trichotomy i j with q | q | q
  · exact absurd e (hp i j (by rw [h.len]; exact hi) (by rw [h.len]; exact hj) q)
  · exact q
  · exact absurd e.symm (hp j i (by rw [h.len]; exact hj) (by rw [h.len]; exact hi) q)
theorem Perm.setX {n : Nat} {ρ : List Nat} {X : Tab} (h : Perm n ρ X) (a : Nat) (r : List Int) : Perm n ρ (X.set a r) := ⟨h.len, by rw [List.length_set]; exact h.lenX, h.nd, h.lt⟩
theorem tab_set {n : Nat} {ρ : List Nat} {X : Tab} (h : Perm n ρ X) {i : Nat} (hi : i < n) (r : List Int) : (tabOf ρ X).set i r = tabOf ρ (X.set (ρ.getD i 0) r) := by
  apply List.ext_getElem (by simp [tabOf])
  intro j h1 h2
  have hj : j < n := by rw [tab_len, h.len] at h2; exact h2
  have e1 := tab_get ρ (X.set (ρ.getD i 0) r) (i := j) (by rw [h.len]; exact hj)
  rw [get_el [] h2] at e1
  rw [e1, List.getElem_set, getD_set]
  by_cases hij : i = j
  · subst hij
    rw [if_pos rfl, if_pos ⟨rfl, by rw [h.lenX]; exact h.at hi⟩]
  · have hne : ¬ ρ.getD j 0 = ρ.getD i 0 := fun e => hij (h.inj hi hj e.symm)
    rw [if_neg hij, if_neg (fun q => hne q.1)]
    have e2 := tab_get ρ X (i := j) (by rw [h.len]; exact hj)
    rw [get_el [] (by rw [tab_len, h.len]; exact hj)] at e2
    exact e2
def swapL (ρ : List Nat) (i k : Nat) : List Nat := (ρ.set i (ρ.getD k 0)).set k (ρ.getD i 0)
theorem tab_swap {ρ : List Nat} {X : Tab} {i k : Nat} (hi : i < ρ.length) (hk : k < ρ.length) : swapR (tabOf ρ X) i k = tabOf (swapL ρ i k) X := by
  unfold swapR
  rw [tab_get ρ X hi, tab_get ρ X hk]
  unfold tabOf swapL
  rw [List.map_set, List.map_set]
theorem swapL_len (ρ : List Nat) (i k : Nat) : (swapL ρ i k).length = ρ.length := by simp [swapL]
theorem swapL_get {ρ : List Nat} {i k : Nat} (hi : i < ρ.length) (hk : k < ρ.length) (a : Nat) : (swapL ρ i k).getD a 0 = ρ.getD (swp i k a) 0 := by
  unfold swapL swp
  rw [getD_set, List.length_set, getD_set]
  by_cases h1 : a = k
  · simp [h1, hk]
  · by_cases h2 : a = i
    · have h3 : ¬ i = k := fun e => h1 (h2.trans e)
      simp [h1, h2, hi, h3]
    · simp [h1, h2]
theorem Perm.swap {n : Nat} {ρ : List Nat} {X : Tab} (h : Perm n ρ X) {i k : Nat} (hi : i < n) (hk : k < n) : Perm n (swapL ρ i k) X := by
  have hl := h.len
  have hsw : ∀ a, a < n → swp i k a < n := fun a ha => by unfold swp; split; exact hi; split; exact hk; exact ha
  have hinv : ∀ a, swp i k (swp i k a) = a := by
    intro a
    unfold swp
    by_cases h1 : a = k
    · by_cases h2 : i = k
      · simp [h1, h2]
      · simp [h1, h2]
    · by_cases h2 : a = i
      · simp [h1, h2]
      · simp [h1, h2]
  refine ⟨by rw [swapL_len, hl], h.lenX, ?_, fun a ha => ?_⟩
  · refine List.pairwise_iff_getElem.2 (fun a b g1 g2 hab => ?_)
    have hb : b < n := by rw [swapL_len, hl] at g2; exact g2
    have e1 := swapL_get (by omega) (by omega : k < ρ.length) a (i := i)
    have e2 := swapL_get (by omega) (by omega : k < ρ.length) b (i := i)
    intro e
    rw [← get_el 0 g1, ← get_el 0 g2, e1, e2] at e
    have := h.inj (hsw a (by omega)) (hsw b (by omega)) e
    have h3 := congrArg (swp i k) this
    rw [hinv, hinv] at h3
    omega
  · obtain ⟨j, hj, rfl⟩ := List.getElem_of_mem ha
    rw [← get_el 0 hj, swapL_get (by omega) (by omega)]
    rw [swapL_len, hl] at hj
    exact h.at (hsw j hj)
theorem perm_range (X : Tab) : Perm X.length (List.range X.length) X := ⟨List.length_range, rfl, List.nodup_range, fun a ha => by simpa using ha⟩
theorem tab_range (X : Tab) : tabOf (List.range X.length) X = X := by
  apply List.ext_getElem (by simp [tabOf])
  intro i h1 h2
  simp [tabOf, List.getD, h2]
/-- The rows that are new, one by one. -/
def elimG (T : Tab) (k c : Nat) (d : Int) (i : Nat) : List Int := if i = k then T.getD k [] else elimRow (T.getD i []) (T.getD k []) (at2 T k c) (at2 T i c) d
theorem elim_chg (T : Tab) (k c : Nat) (d : Int) : elimR T k c d = chg (elimG T k c d) [] T T.length := by rw [chg_all]; rfl
def rowG (R K : List Int) (p f d : Int) (j : Nat) : Int := exactZ (R.getD j 0 * p - f * K.getD j 0) d
theorem row_chg (R K : List Int) (p f d : Int) : elimRow R K p f d = chg (rowG R K p f d) 0 R R.length := by rw [chg_all]; rfl
end Go.Ax.Rt

/-
  More on the texts of tables, in plain Lean; a rule: a nil slice in a cell is taken for an object that has nothing yet.
-/
namespace Go.Ax.Tb
open Go.Ax.Bg (digits_len_le)

end Go.Ax.Tb
namespace Go.Ax
variable [Pins]
section
variable {P : Program} {fn : Func} {c : Ctx} {fr : Fr} {H : AHeap} {k : List It}
theorem ax_nilcell {x : Code} (h : Nat) (o : AObj) {ob : AObj} (c' : Cells) (hh : H[h]? = some (some ob)) (ho : o.c.len = 0) (h1 : c'.len = ob.c.len) (h2 : c'.kd = ob.c.kd)
    (h3 : ∀ i j, i < ob.c.len → j < ob.c.sz → c'.at i j = ob.c.at i j ∨ (ob.c.at i j = .nil ∧ c'.at i j = .sl H.length 0 0)) (hk : Ax P fn c (.code x k) fr ((H ++ [some o]).set h (some ⟨ob.ty, c'⟩))) : Ax P fn c (.code x k) fr H := by
  intro w a σ S hr
  have g1 := hr.nowhere1 ho
  have hlt : h < H.length := (List.getElem?_eq_some_iff.1 hh).1
  have hh' : (H ++ [some o])[h]? = some (some ob) := by rw [List.getElem?_append_left hlt]; exact hh
  refine hk w a _ S (g1.recell hh' h1 h2 (fun i j v hi hj hv => ?_))
  rcases h3 i j hi hj with e | ⟨e1, e2⟩
  · rw [e]; exact hv
  · rw [e1] at hv
    rw [e2]
    cases hv
    exact .sl0 _ _ (by simp [upσ])
end
end Go.Ax

namespace Go.Proofs.YtgmleamhjnlknaaGreatDoor
open Go.Ax Go.Ax.Bg Go.Ax.Rt Go.RowKit Go.Ax.Dt
set_option maxRecDepth 100000
set_option maxHeartbeats 4000000

theorem beq_ne {a b : Nat} (h : a ≠ b) : Nat.beq a b = false := by
  cases h' : Nat.beq a b
  · rfl
  · exact absurd (Nat.eq_of_beq_eq_true h') h
theorem knows_forget {h : Nat} {fr : Fr} : ∀ {L : Fr}, knows fr L → (∀ p ∈ L, p.2.forget h = p.2) → knows (forgetF h fr) L
  | [], _, _ => trivial
  | (t, v) :: r, hk, hp => by
    refine ⟨?_, knows_forget hk.2 (fun p hp' => hp p (List.mem_cons_of_mem _ hp'))⟩
    have h1 := hk.1
    have hv : v.forget h = v := hp (t, v) (List.mem_cons_self ..)
    clear hk hp
    induction fr with
    | nil => cases h1
    | cons q s ih =>
      obtain ⟨u, x⟩ := q
      show Go.Ax.look t ((u, x.forget h) :: forgetF h s) = some v
      simp only [Go.Ax.look] at h1 ⊢
      cases hq : Nat.beq t u with
      | true => rw [hq] at h1; simp at h1; subst h1; rw [hv]; rfl
      | false => rw [hq] at h1; exact ih (by simpa using h1)
section
variable {P : Program} {fn : Func} {c : Ctx} {fr : Fr} {H : AHeap} {k : List It}
theorem ax_know_ops {q : Bool} {all : Array Oper} {rest : List Oper} (L : Fr) (hL : knows fr L) (hk : Ax P fn c (.ops q all rest k) L H) : Ax P fn c (.ops q all rest k) fr H := by
  cases q with
  | true => exact fun hd w a σ S hr => hk hd w a σ S (hr.weaken hL)
  | false => exact fun hd w a σ S hr => hk hd w a σ S (hr.weaken hL)
end
abbrev outC (L : Nat) (ρ : List Nat) : Cells := rowE 0 1 (fun a : Nat => [AV.sl (a + 1) 0 L]) ρ
abbrev redB (n K : Nat) (last : Int) (neg : Bool) : Cells := .box [.sl 0 0 n, .sl (n + 2) 0 K, .bool (decide (last < 0)), natA last.natAbs, .bool neg]
abbrev pivC (l : List Nat) : Cells := .ints .i64 (l.map (fun a : Nat => (a : Int)))
abbrev redH (n L : Nat) (ρ : List Nat) (X : Tab) (r : Red) (T : AHeap) : AHeap := nestH ⟨147, outC L ρ⟩ 106 zC X (some ⟨154, redB n r.piv.length r.last r.neg⟩ :: some ⟨3, pivC r.piv⟩ :: T)
theorem sgn_zeroI (x : Int) : (sgn x = 0) = (x = 0) := by
  apply propext
  unfold sgn
  constructor
  · intro h; split at h
    · exact absurd h (by decide)
    · split at h
      · assumption
      · exact absurd h (by decide)
  · intro h; subst h; rfl
theorem swapL_self {ρ : List Nat} {k : Nat} (hk : k < ρ.length) : swapL ρ k k = ρ := by
  apply List.ext_getElem (swapL_len ρ k k)
  intro a h1 h2
  rw [← get_el 0 h1, swapL_get hk hk, ← get_el 0 h2]
  unfold swp
  split
  · rename_i e; rw [e]
  · rfl
theorem red_row {n L : Nat} {ρ : List Nat} {X : Tab} {r : Red} {T : AHeap} (hP : Perm n ρ X) {i : Nat} (hi : i < n) : (redH n L ρ X r T)[ρ.getD i 0 + 1]? = some (some ⟨106, zC (X.getD (ρ.getD i 0) [])⟩) :=
  nest_row [] (by rw [hP.lenX]; exact hP.at hi)
theorem red_box {n L : Nat} {ρ : List Nat} {X : Tab} {r : Red} {T : AHeap} (hP : Perm n ρ X) : (redH n L ρ X r T)[n + 1]? = some (some ⟨154, redB n r.piv.length r.last r.neg⟩) := by
  have := nest_loc (O := ⟨147, outC L ρ⟩) (t := 106) (f := zC) (X := X) (L := some ⟨154, redB n r.piv.length r.last r.neg⟩ :: some ⟨3, pivC r.piv⟩ :: T) (j := 0)
  rw [hP.lenX] at this; exact this
theorem red_piv {n L : Nat} {ρ : List Nat} {X : Tab} {r : Red} {T : AHeap} (hP : Perm n ρ X) : (redH n L ρ X r T)[n + 2]? = some (some ⟨3, pivC r.piv⟩) := by
  have := nest_loc (O := ⟨147, outC L ρ⟩) (t := 106) (f := zC) (X := X) (L := some ⟨154, redB n r.piv.length r.last r.neg⟩ :: some ⟨3, pivC r.piv⟩ :: T) (j := 1)
  rw [hP.lenX] at this; exact this
theorem red_loc {n L : Nat} {ρ : List Nat} {X : Tab} {r : Red} {T : AHeap} (hP : Perm n ρ X) (j : Nat) : (redH n L ρ X r T)[n + 3 + j]? = T[j]? := by
  have := nest_loc (O := ⟨147, outC L ρ⟩) (t := 106) (f := zC) (X := X) (L := some ⟨154, redB n r.piv.length r.last r.neg⟩ :: some ⟨3, pivC r.piv⟩ :: T) (j := j + 2)
  rw [hP.lenX, show n + 1 + (j + 2) = n + 3 + j by omega] at this
  exact this
theorem red_len {n L : Nat} {ρ : List Nat} {X : Tab} {r : Red} {T : AHeap} (hP : Perm n ρ X) : (redH n L ρ X r T).length = n + 3 + T.length := by
  rw [nest_len, hP.lenX, List.length_cons, List.length_cons]; omega
theorem tab_el {n : Nat} {ρ : List Nat} {X : Tab} {R : Tab} (hP : Perm n ρ X) (hT : R = tabOf ρ X) {i : Nat} (hi : i < n) (j : Nat) : at2 R i j = (X.getD (ρ.getD i 0) []).getD j 0 := by
  subst hT
  unfold at2
  rw [tab_get ρ X (by rw [hP.len]; exact hi)]
theorem tab_row {n L : Nat} {ρ : List Nat} {X : Tab} {R : Tab} (hP : Perm n ρ X) (hT : R = tabOf ρ X) (hR : ∀ x ∈ R, x.length = L) {i : Nat} (hi : i < n) : (X.getD (ρ.getD i 0) []).length = L := by
  subst hT
  rw [← tab_get ρ X (by rw [hP.len]; exact hi)]
  exact hR _ (get_in [] (by rw [tab_len, hP.len]; exact hi))
theorem red_set_box {n L : Nat} {ρ : List Nat} {X : Tab} {r r' : Red} {T : AHeap} (hP : Perm n ρ X) (hp : r'.piv = r.piv) : (redH n L ρ X r T).set (n + 1) (some ⟨154, redB n r'.piv.length r'.last r'.neg⟩) = redH n L ρ X r' T := by
  have := nest_set_loc (O := ⟨147, outC L ρ⟩) (t := 106) (f := zC) (X := X) (L := some ⟨154, redB n r.piv.length r.last r.neg⟩ :: some ⟨3, pivC r.piv⟩ :: T) (j := 0) (some ⟨154, redB n r'.piv.length r'.last r'.neg⟩)
  rw [hP.lenX] at this
  rw [Nat.add_zero] at this
  rw [this]
  show nestH _ _ _ _ (_ :: _ :: _) = _
  rw [← hp]
theorem red_set_row {n L : Nat} {ρ : List Nat} {X : Tab} {r : Red} {T : AHeap} (hP : Perm n ρ X) {a : Nat} (ha : a < n) (x : List Int) : (redH n L ρ X r T).set (a + 1) (some ⟨106, zC x⟩) = redH n L ρ (X.set a x) r T :=
  nest_set_row x (by rw [hP.lenX]; exact ha)
theorem red_set_loc {n L : Nat} {ρ : List Nat} {X : Tab} {r : Red} {T : AHeap} (hP : Perm n ρ X) (j : Nat) (x : Option AObj) : (redH n L ρ X r T).set (n + 3 + j) x = redH n L ρ X r (T.set j x) := by
  have := nest_set_loc (O := ⟨147, outC L ρ⟩) (t := 106) (f := zC) (X := X) (L := some ⟨154, redB n r.piv.length r.last r.neg⟩ :: some ⟨3, pivC r.piv⟩ :: T) (j := j + 2) x
  rw [hP.lenX, show n + 1 + (j + 2) = n + 3 + j by omega] at this
  exact this
theorem red_app {n L : Nat} {ρ : List Nat} {X : Tab} {r : Red} {T T' : AHeap} : redH n L ρ X r T ++ T' = redH n L ρ X r (T ++ T') := nest_app _
theorem outC_set {L : Nat} {ρ : List Nat} {i v : Nat} (hi : i < ρ.length) {c' : Cells} (hu : (outC L ρ).upd i 0 (.sl (v + 1) 0 L) = some c') : CEq c' (outC L (ρ.set i v)) := by
  obtain ⟨u1, u2, u3⟩ := Cells.upd_spec hu
  refine ⟨?_, ?_, fun a j ha hj => ?_⟩
  · rw [u1]; show (ρ.set i v).length = ρ.length; rw [List.length_set]
  · cases hu; rfl
  · have ha' : a < (outC L ρ).len := by rw [← u1]; exact ha
    have hj' : j < 1 := by have := u2 ▸ hj; exact this
    obtain rfl := Nat.lt_one_iff.1 hj'
    rw [u3 a 0 ha' Nat.zero_lt_one hi Nat.zero_lt_one]
    show ([AV.sl ((ρ.set i v).getD a 0 + 1) 0 L]).getD 0 .any = _
    rw [getD_set]
    by_cases h : a = i
    · rw [if_pos ⟨h, hi⟩, if_pos ⟨h, rfl⟩]; rfl
    · rw [if_neg (fun q => h q.1), if_neg (fun q => h q.1)]; rfl
theorem zC_forget (h : Nat) (a : List Int) : (zC a).forget h = zC a := by
  show Cells.fn _ _ _ = Cells.fn _ _ _
  congr 1
  funext i j
  match j with
  | 0 => rfl
  | 1 => rfl
  | _ + 2 => rfl
theorem red_append {n L : Nat} {ρ : List Nat} {X : Tab} {r : Red} {T : AHeap} (hP : Perm n ρ X) (hT : forgetH (n + 2) T = T) {c' : Cells} {l : List Nat} (hc : CEq c' (pivC l)) :
    HSub ((forgetH (n + 2) (redH n L ρ X r T)).set (n + 2) (some ⟨3, c'⟩)) (nestH ⟨147, outC L ρ⟩ 106 zC X (some ⟨154, .box [.sl 0 0 n, .any, .bool (decide (r.last < 0)), natA r.last.natAbs, .bool r.neg]⟩ :: some ⟨3, pivC l⟩ :: T)) := by
  rw [forget_nest (n + 2) (zC_forget (n + 2))]
  have e : forgetH (n + 2) (some (⟨154, redB n r.piv.length r.last r.neg⟩ : AObj) :: some ⟨3, pivC r.piv⟩ :: T) = some ⟨154, .box [.sl 0 0 n, .any, .bool (decide (r.last < 0)), natA r.last.natAbs, .bool r.neg]⟩ :: some ⟨3, pivC r.piv⟩ :: T := by
    show some (⟨_, Cells.box (AV.forgets _ _)⟩ : AObj) :: some (⟨_, pivC r.piv⟩ : AObj) :: forgetH (n + 2) T = _
    rw [hT]
    simp [AV.forgets, AV.forget, natA, beq_ne (show 0 ≠ n + 2 by omega)]
  rw [e]
  have := nest_set_loc (O := ⟨147, (outC L ρ).forget (n + 2)⟩) (t := 106) (f := zC) (X := X) (L := some ⟨154, .box [.sl 0 0 n, .any, .bool (decide (r.last < 0)), natA r.last.natAbs, .bool r.neg]⟩ :: some ⟨3, pivC r.piv⟩ :: T) (j := 1) (some ⟨3, c'⟩)
  rw [hP.lenX] at this
  show HSub ((nestH ⟨147, (outC L ρ).forget (n + 2)⟩ 106 zC X _).set (n + 1 + 1) _) _
  rw [this]
  refine nest_sub ⟨rfl, rfl, rfl, fun i j hi hj => ?_⟩ (HSub.same (HSub.eqv hc (HSub.refl _)))
  obtain rfl := Nat.lt_one_iff.1 (show j < 1 from hj)
  have ha := hP.at (i := i) (by have hi : i < ρ.length := hi; rw [hP.len] at hi; exact hi)
  show AV.sl (ρ.getD i 0 + 1) 0 L = AV.forget (n + 2) (AV.sl (ρ.getD i 0 + 1) 0 L)
  unfold AV.forget
  rw [beq_ne (show ρ.getD i 0 + 1 ≠ n + 2 by omega)]; rfl
theorem red_below {n L : Nat} {ρ : List Nat} {X : Tab} {r : Red} {T : AHeap} (hP : Perm n ρ X) (m : Nat) (hm : n + 3 ≤ m) (hT : ∀ o : AObj, some o ∈ T → belowP m o.c) : ∀ (h : Nat) (o : AObj), (redH n L ρ X r T)[h]? = some (some o) → belowP m o.c := by
  intro h o ho
  have hmem := List.mem_of_getElem? ho
  unfold redH nestH at hmem
  rw [List.mem_cons] at hmem
  rcases hmem with e | hmem
  · cases e
    intro i j hi hj
    obtain rfl := Nat.lt_one_iff.1 (show j < 1 from hj)
    have ha := hP.at (i := i) (by have hi : i < ρ.length := hi; rw [hP.len] at hi; exact hi)
    show belowA m (AV.sl (ρ.getD i 0 + 1) 0 L) = true
    exact Nat.ble_eq_true_of_le (show ρ.getD i 0 + 1 + 1 ≤ m by omega)
  · rw [List.mem_append] at hmem
    rcases hmem with hmem | hmem
    · obtain ⟨a, _, e⟩ := List.mem_map.1 hmem
      cases e
      intro i j hi hj
      have hj' : j < 2 := hj
      match j, hj' with
      | 0, _ => rfl
      | 1, _ => rfl
    · rw [List.mem_cons, List.mem_cons] at hmem
      rcases hmem with e | e | e
      · cases e
        intro i j hi hj
        have hj' : j < 5 := hj
        match j, hj' with
        | 0, _ => exact Nat.ble_eq_true_of_le (show 0 + 1 ≤ m by omega)
        | 1, _ => exact Nat.ble_eq_true_of_le (show n + 2 + 1 ≤ m by omega)
        | 2, _ => rfl
        | 3, _ => rfl
        | 4, _ => rfl
      · cases e
        exact fun i j _ _ => rfl
      · exact hT o e
def redS (r : Red) (i : Nat) : Red := ⟨swapR r.T i r.piv.length, r.piv, r.last, if i = r.piv.length then r.neg else !r.neg⟩
def redE (r : Red) (c : Nat) : Red := ⟨elimR r.T r.piv.length c r.last, r.piv ++ [c], at2 r.T r.piv.length c, r.neg⟩
theorem redCol_go {r : Red} {c i : Nat} (h1 : r.piv.length < r.T.length) (h2 : pivI r.T c (r.T.length - r.piv.length) r.piv.length = i) (h3 : i < r.T.length) : redCol r c = redE (redS r i) c := by
  unfold redCol
  rw [if_neg (by omega), h2, if_neg (by omega)]
  rfl
theorem redCol_no {r : Red} {c : Nat} (h1 : r.piv.length < r.T.length) (h2 : pivI r.T c (r.T.length - r.piv.length) r.piv.length = r.T.length) : redCol r c = r := by
  unfold redCol
  rw [if_neg (by omega), if_pos h2]
theorem cellsI_below (m : Nat) (x : Int) : belowP m (.box (cellsI x)) := by
  intro i j hi hj
  have hj' : j < 2 := hj
  match j, hj' with
  | 0, _ => rfl
  | 1, _ => rfl
theorem redB_last (n K : Nat) (x v : Int) (b : Bool) : ∀ i' j', i' < (redB n K x b).len → j' < (redB n K x b).sz → (redB n K v b).at i' j' = if i' = 0 ∧ 2 ≤ j' ∧ j' < 2 + 2 then (cellsI v).getD (j' - 2) .any else (redB n K x b).at i' j' := by
  intro i' j' hi' hj'
  obtain rfl := Nat.lt_one_iff.1 (show i' < 1 from hi')
  have hj2 : j' < 5 := hj'
  match j', hj2 with
  | 0, _ => rfl
  | 1, _ => rfl
  | 2, _ => rfl
  | 3, _ => rfl
  | 4, _ => rfl
abbrev redAny (n L : Nat) (ρ : List Nat) (X : Tab) (r : Red) (l : List Nat) (T : AHeap) : AHeap := nestH ⟨147, outC L ρ⟩ 106 zC X (some ⟨154, .box [.sl 0 0 n, .any, .bool (decide (r.last < 0)), natA r.last.natAbs, .bool r.neg]⟩ :: some ⟨3, pivC l⟩ :: T)
theorem red_any {n L : Nat} {ρ : List Nat} {X : Tab} {r : Red} {l : List Nat} {T : AHeap} (hP : Perm n ρ X) : (redAny n L ρ X r l T)[n + 1]? = some (some ⟨154, .box [.sl 0 0 n, .any, .bool (decide (r.last < 0)), natA r.last.natAbs, .bool r.neg]⟩) := by
  have := nest_loc (O := ⟨147, outC L ρ⟩) (t := 106) (f := zC) (X := X) (L := some ⟨154, .box [.sl 0 0 n, .any, .bool (decide (r.last < 0)), natA r.last.natAbs, .bool r.neg]⟩ :: some ⟨3, pivC l⟩ :: T) (j := 0)
  rw [hP.lenX] at this; exact this
theorem red_set_any {n L : Nat} {ρ : List Nat} {X : Tab} {r r' : Red} {T : AHeap} (hP : Perm n ρ X) : (redAny n L ρ X r r'.piv T).set (n + 1) (some ⟨154, redB n r'.piv.length r'.last r'.neg⟩) = redH n L ρ X r' T := by
  have := nest_set_loc (O := ⟨147, outC L ρ⟩) (t := 106) (f := zC) (X := X) (L := some ⟨154, .box [.sl 0 0 n, .any, .bool (decide (r.last < 0)), natA r.last.natAbs, .bool r.neg]⟩ :: some ⟨3, pivC r'.piv⟩ :: T) (j := 0) (some ⟨154, redB n r'.piv.length r'.last r'.neg⟩)
  rw [hP.lenX] at this
  exact this
theorem pivC_snoc (l : List Nat) (a : Nat) : CEq (.ints .i64 (l.map (fun a : Nat => (a : Int)) ++ [(a : Int)])) (pivC (l ++ [a])) := by
  show CEq _ (.ints .i64 ((l ++ [a]).map (fun a : Nat => (a : Int))))
  rw [List.map_append]
  exact CEq.refl _
theorem zC_store (l : List Int) (j : Nat) (v : Int) : ∀ i' j', i' < (zC l).len → j' < 2 → (zC (l.set j v)).at i' j' = if i' = j then (cellsI v).getD j' .any else (zC l).at i' j' := by
  intro i' j' hi' hj'
  show (cellsI ((l.set j v).getD i' 0)).getD j' .any = if i' = j then _ else (cellsI (l.getD i' 0)).getD j' .any
  rw [getD_set]
  have hl : i' < l.length := hi'
  by_cases h : i' = j
  · rw [if_pos ⟨h, by omega⟩, if_pos h]
  · rw [if_neg (fun q => h q.1), if_neg h]
theorem set_self {α : Type} (l : List α) (d : α) (i : Nat) (hi : i < l.length) : l.set i (l.getD i d) = l := by
  apply List.ext_getElem (by simp)
  intro a h1 h2
  rw [List.getElem_set]
  split
  · rename_i e; subst e; rw [get_el d hi]
  · rfl
theorem elim_sizes {x p f y : Int} {E : Nat} (hx : x.natAbs ≤ 10 ^ E) (hp : p.natAbs ≤ 10 ^ E) (hf : f.natAbs ≤ 10 ^ E) (hy : y.natAbs ≤ 10 ^ E) (hE : E ≤ 3600000) :
    (natL (x * p).natAbs).length ≤ 1000000 ∧ (natL (f * y).natAbs).length ≤ 1000000 ∧ (natL (x * p - f * y).natAbs).length ≤ 1000000 := by
  have e1 : (x * p).natAbs ≤ 10 ^ (E + E) := by rw [Int.natAbs_mul, Nat.pow_add]; exact Nat.mul_le_mul hx hp
  have e2 : (f * y).natAbs ≤ 10 ^ (E + E) := by rw [Int.natAbs_mul, Nat.pow_add]; exact Nat.mul_le_mul hf hy
  have e3 : (x * p - f * y).natAbs ≤ 10 ^ (E + E + 1) := by
    refine Nat.le_trans (Int.natAbs_sub_le _ _) ?_
    rw [Nat.pow_succ]; omega
  exact ⟨len_ten e1 (by omega), len_ten e2 (by omega), len_ten e3 (by omega)⟩
end Go.Proofs.YtgmleamhjnlknaaGreatDoor

