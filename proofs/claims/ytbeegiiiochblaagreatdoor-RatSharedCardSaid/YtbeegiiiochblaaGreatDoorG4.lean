import Derived.Test.YtbeegiiiochblaaGreatDoorG3
set_option linter.unusedVariables false
set_option linter.unusedSimpArgs false
namespace Go.Proofs.YtbeegiiiochblaaGreatDoor
open Go.Ax Go.Ax.Bg Go.RowKit
open Go.Ax.Tb (digit digit_of digits_digit digits_ne)
attribute [local irreducible] Ax Post QOp ACall
set_option maxRecDepth 100000
set_option maxHeartbeats 4000000

theorem two_yes {a b : List UInt8} (h : twoE a b = 0) : VCall Tryz.prog 40 [.str a, .str b] (.tup [natA (decV 0 a), natA (decV 0 b), .int .i64 0]) ∧ a.length ≤ 2000 ∧ b.length ≤ 2000 ∧ (natL (decV 0 a)).length ≤ 2000 ∧ (natL (decV 0 b)).length ≤ 2000 := by
  obtain ⟨ea, eb⟩ := twoE_ok h
  obtain ⟨ca, la⟩ := natE_ok ea
  obtain ⟨cb, lb⟩ := natE_ok eb
  have := two_ok a b (by omega) (by omega)
  unfold twoA at this
  rw [if_neg (by simp [h])] at this
  exact ⟨this, la, lb, val_len ca la, val_len cb lb⟩
theorem two_no {a b : List UInt8} (ha : a.length ≤ 9223372036854775807) (hb : b.length ≤ 9223372036854775807) (h : twoE a b ≠ 0) : VCall Tryz.prog 40 [.str a, .str b] (.tup [.nil, .nil, .int .i64 (twoE a b)]) := by
  have := two_ok a b ha hb
  unfold twoA at this
  rwa [if_pos h] at this
theorem len_mul {a b k : Nat} (ha : (natL a).length ≤ k) (hb : (natL b).length ≤ k) : (natL (a * b)).length ≤ k + k := by
  have h1 := valL_lt (natL_lim a)
  have h2 := valL_lt (natL_lim b)
  rw [valL_natL] at h1 h2
  refine natL_len_le ?_
  rw [Nat.pow_add]
  refine Nat.mul_lt_mul'' (Nat.lt_of_lt_of_le h1 (Nat.pow_le_pow_right (by decide) ha)) (Nat.lt_of_lt_of_le h2 (Nat.pow_le_pow_right (by decide) hb))
theorem len_add {a b k : Nat} (ha : (natL a).length ≤ k) (hb : (natL b).length ≤ k) : (natL (a + b)).length ≤ k + 1 := by
  have h1 := valL_lt (natL_lim a)
  have h2 := valL_lt (natL_lim b)
  rw [valL_natL] at h1 h2
  refine natL_len_le ?_
  have h3 : B ^ (natL a).length ≤ B ^ k := Nat.pow_le_pow_right (by decide) ha
  have h4 : B ^ (natL b).length ≤ B ^ k := Nat.pow_le_pow_right (by decide) hb
  rw [Nat.pow_succ]
  have : B ^ k * 2 ≤ B ^ k * B := Nat.mul_le_mul_left _ (by decide)
  omega
theorem nadd_ok (a b : List UInt8) (ha : a.length ≤ 9223372036854775807) (hb : b.length ≤ 9223372036854775807) : VCall Tryz.prog 13 [.str a, .str b] (pairA (addF a b)) := by
  by_cases hE : twoE a b = 0
  · obtain ⟨h2, la, lb, na, nb⟩ := two_yes hE
    have hF : addF a b = resF (decV 0 a + decV 0 b) := by unfold addF; rw [if_neg (by simp [hE])]
    have hc := add_ok (decV 0 a) (decV 0 b) (by omega) (by omega)
    have hr := result_ok (decV 0 a + decV 0 b) (by have := len_add na nb; omega)
    rw [hF]
    refine ACall.value0 (acall_of_ax (P := Tryz.prog) (fn := Tryz.f13) rfl rfl (by kernel_rfl) rfl (fun c hR hfix => ?_)) (fix := fun _ => False) (fun _ h => h) rfl rfl
    repeat (first
      | refine ax_q (q_move rfl) ?_
      | refine ax_q (q_assign rfl) ?_
      | refine ax_ops_nil ?_
      | refine ax_post_code ?_
      | refine ax_seq ?_
      | refine ax_region rfl ?_)
    refine ax_callv rfl rfl rfl h2 ?_
    repeat (first
      | refine ax_q (q_move rfl) ?_
      | refine ax_q (q_assign rfl) ?_
      | refine ax_ops_nil ?_
      | refine ax_post_code ?_
      | refine ax_seq ?_
      | refine ax_region rfl ?_
      | refine ax_cond_false rfl ?_
      | refine ax_skip ?_
      | refine ax_q (q_neq rfl rfl) ?_
      | refine ax_q (q_extract rfl rfl) ?_)
    refine ax_callv rfl rfl rfl hc ?_
    skip
    refine ax_callv rfl rfl rfl hr ?_
    repeat (first
      | refine ax_q (q_assign rfl) ?_
      | refine ax_ops_nil ?_
      | refine ax_post_code ?_
      | refine ax_return ?_
      | refine ax_q (q_extract rfl rfl) ?_)
    exact ax_ret hR rfl rfl
  · have h2 := two_no ha hb hE
    have hF : addF a b = ([], twoE a b) := by unfold addF; rw [if_pos hE]
    rw [hF]
    refine ACall.value0 (acall_of_ax (P := Tryz.prog) (fn := Tryz.f13) rfl rfl (by kernel_rfl) rfl (fun c hR hfix => ?_)) (fix := fun _ => False) (fun _ h => h) rfl rfl
    generalize twoE a b = t at *
    repeat (first
      | refine ax_q (q_move rfl) ?_
      | refine ax_q (q_assign rfl) ?_
      | refine ax_ops_nil ?_
      | refine ax_post_code ?_
      | refine ax_seq ?_
      | refine ax_region rfl ?_)
    refine ax_callv rfl rfl rfl h2 ?_
    repeat (first
      | refine ax_q (q_move rfl) ?_
      | refine ax_q (q_assign rfl) ?_
      | refine ax_ops_nil ?_
      | refine ax_post_code ?_
      | refine ax_seq ?_
      | refine ax_region rfl ?_
      | refine ax_q (q_neq rfl rfl) ?_
      | refine ax_q (q_extract rfl rfl) ?_)
    refine ax_cond_dec rfl (fun _ => ?_) (fun h => absurd hE h)
    repeat (first
      | refine ax_q (q_move rfl) ?_
      | refine ax_q (q_assign rfl) ?_
      | refine ax_ops_nil ?_
      | refine ax_post_code ?_
      | refine ax_seq ?_
      | refine ax_region rfl ?_
      | refine ax_return ?_
      | refine ax_ret_code ?_)
    exact ax_ret hR rfl rfl
theorem nmul_ok (a b : List UInt8) (ha : a.length ≤ 9223372036854775807) (hb : b.length ≤ 9223372036854775807) : VCall Tryz.prog 14 [.str a, .str b] (pairA (mulF a b)) := by
  by_cases hE : twoE a b = 0
  · obtain ⟨h2, la, lb, na, nb⟩ := two_yes hE
    have hF : mulF a b = resF (decV 0 a * decV 0 b) := by unfold mulF; rw [if_neg (by simp [hE])]
    have hc := mul_ok (decV 0 a) (decV 0 b) (by omega) (by omega)
    have hr := result_ok (decV 0 a * decV 0 b) (by have := len_mul na nb; omega)
    rw [hF]
    refine ACall.value0 (acall_of_ax (P := Tryz.prog) (fn := Tryz.f14) rfl rfl (by kernel_rfl) rfl (fun c hR hfix => ?_)) (fix := fun _ => False) (fun _ h => h) rfl rfl
    repeat (first
      | refine ax_q (q_move rfl) ?_
      | refine ax_q (q_assign rfl) ?_
      | refine ax_ops_nil ?_
      | refine ax_post_code ?_
      | refine ax_seq ?_
      | refine ax_region rfl ?_)
    refine ax_callv rfl rfl rfl h2 ?_
    repeat (first
      | refine ax_q (q_move rfl) ?_
      | refine ax_q (q_assign rfl) ?_
      | refine ax_ops_nil ?_
      | refine ax_post_code ?_
      | refine ax_seq ?_
      | refine ax_region rfl ?_
      | refine ax_cond_false rfl ?_
      | refine ax_skip ?_
      | refine ax_q (q_neq rfl rfl) ?_
      | refine ax_q (q_extract rfl rfl) ?_)
    refine ax_callv rfl rfl rfl hc ?_
    skip
    refine ax_callv rfl rfl rfl hr ?_
    repeat (first
      | refine ax_q (q_assign rfl) ?_
      | refine ax_ops_nil ?_
      | refine ax_post_code ?_
      | refine ax_return ?_
      | refine ax_q (q_extract rfl rfl) ?_)
    exact ax_ret hR rfl rfl
  · have h2 := two_no ha hb hE
    have hF : mulF a b = ([], twoE a b) := by unfold mulF; rw [if_pos hE]
    rw [hF]
    refine ACall.value0 (acall_of_ax (P := Tryz.prog) (fn := Tryz.f14) rfl rfl (by kernel_rfl) rfl (fun c hR hfix => ?_)) (fix := fun _ => False) (fun _ h => h) rfl rfl
    generalize twoE a b = t at *
    repeat (first
      | refine ax_q (q_move rfl) ?_
      | refine ax_q (q_assign rfl) ?_
      | refine ax_ops_nil ?_
      | refine ax_post_code ?_
      | refine ax_seq ?_
      | refine ax_region rfl ?_)
    refine ax_callv rfl rfl rfl h2 ?_
    repeat (first
      | refine ax_q (q_move rfl) ?_
      | refine ax_q (q_assign rfl) ?_
      | refine ax_ops_nil ?_
      | refine ax_post_code ?_
      | refine ax_seq ?_
      | refine ax_region rfl ?_
      | refine ax_q (q_neq rfl rfl) ?_
      | refine ax_q (q_extract rfl rfl) ?_)
    refine ax_cond_dec rfl (fun _ => ?_) (fun h => absurd hE h)
    repeat (first
      | refine ax_q (q_move rfl) ?_
      | refine ax_q (q_assign rfl) ?_
      | refine ax_ops_nil ?_
      | refine ax_post_code ?_
      | refine ax_seq ?_
      | refine ax_region rfl ?_
      | refine ax_return ?_
      | refine ax_ret_code ?_)
    exact ax_ret hR rfl rfl
theorem ngcd_ok (a b : List UInt8) (ha : a.length ≤ 9223372036854775807) (hb : b.length ≤ 9223372036854775807) : VCall Tryz.prog 19 [.str a, .str b] (pairA (gcdF a b)) := by
  by_cases hE : twoE a b = 0
  · obtain ⟨h2, la, lb, na, nb⟩ := two_yes hE
    have hF : gcdF a b = (Lib.decDigits (Nat.gcd (decV 0 a) (decV 0 b)), 0) := by unfold gcdF; rw [if_neg (by simp [hE])]
    have hg : (natL (Nat.gcd (decV 0 a) (decV 0 b))).length ≤ 2000 := by
      rcases Nat.eq_zero_or_pos (decV 0 a) with z | z
      · rw [z, Nat.gcd_zero_left]; exact nb
      · exact natL_le_len (Nat.gcd_le_left _ z) na
    have hc := gcd_ok (decV 0 a) (decV 0 b) (by omega) (by omega)
    have hr := text_ok (Nat.gcd (decV 0 a) (decV 0 b)) (by omega)
    rw [hF]
    refine ACall.value0 (acall_of_ax (P := Tryz.prog) (fn := Tryz.f19) rfl rfl (by kernel_rfl) rfl (fun c hR hfix => ?_)) (fix := fun _ => False) (fun _ h => h) rfl rfl
    repeat (first
      | refine ax_q (q_move rfl) ?_
      | refine ax_q (q_assign rfl) ?_
      | refine ax_ops_nil ?_
      | refine ax_post_code ?_
      | refine ax_seq ?_
      | refine ax_region rfl ?_)
    refine ax_callv rfl rfl rfl h2 ?_
    repeat (first
      | refine ax_q (q_move rfl) ?_
      | refine ax_q (q_assign rfl) ?_
      | refine ax_ops_nil ?_
      | refine ax_post_code ?_
      | refine ax_seq ?_
      | refine ax_region rfl ?_
      | refine ax_cond_false rfl ?_
      | refine ax_skip ?_
      | refine ax_q (q_neq rfl rfl) ?_
      | refine ax_q (q_extract rfl rfl) ?_)
    refine ax_callv rfl rfl rfl hc ?_
    skip
    refine ax_callv rfl rfl rfl hr ?_
    repeat (first
      | refine ax_q (q_assign rfl) ?_
      | refine ax_ops_nil ?_
      | refine ax_post_code ?_
      | refine ax_return ?_)
    exact ax_ret hR rfl rfl
  · have h2 := two_no ha hb hE
    have hF : gcdF a b = ([], twoE a b) := by unfold gcdF; rw [if_pos hE]
    rw [hF]
    refine ACall.value0 (acall_of_ax (P := Tryz.prog) (fn := Tryz.f19) rfl rfl (by kernel_rfl) rfl (fun c hR hfix => ?_)) (fix := fun _ => False) (fun _ h => h) rfl rfl
    generalize twoE a b = t at *
    repeat (first
      | refine ax_q (q_move rfl) ?_
      | refine ax_q (q_assign rfl) ?_
      | refine ax_ops_nil ?_
      | refine ax_post_code ?_
      | refine ax_seq ?_
      | refine ax_region rfl ?_)
    refine ax_callv rfl rfl rfl h2 ?_
    repeat (first
      | refine ax_q (q_move rfl) ?_
      | refine ax_q (q_assign rfl) ?_
      | refine ax_ops_nil ?_
      | refine ax_post_code ?_
      | refine ax_seq ?_
      | refine ax_region rfl ?_
      | refine ax_q (q_neq rfl rfl) ?_
      | refine ax_q (q_extract rfl rfl) ?_)
    refine ax_cond_dec rfl (fun _ => ?_) (fun h => absurd hE h)
    repeat (first
      | refine ax_q (q_move rfl) ?_
      | refine ax_q (q_assign rfl) ?_
      | refine ax_ops_nil ?_
      | refine ax_post_code ?_
      | refine ax_seq ?_
      | refine ax_region rfl ?_
      | refine ax_return ?_
      | refine ax_ret_code ?_)
    exact ax_ret hR rfl rfl
theorem ncmp_ok (a b : List UInt8) (ha : a.length ≤ 9223372036854775807) (hb : b.length ≤ 9223372036854775807) : VCall Tryz.prog 18 [.str a, .str b] (.tup [.int .i64 (ncmpF a b).1, .int .i64 (ncmpF a b).2]) := by
  by_cases hE : twoE a b = 0
  · obtain ⟨h2, la, lb, na, nb⟩ := two_yes hE
    have hF : ncmpF a b = (cmpZ (decV 0 a) (decV 0 b), 0) := by unfold ncmpF; rw [if_neg (by simp [hE])]
    have hc := cmp_ok (decV 0 a) (decV 0 b) (by omega) (by omega)
    rw [hF]
    refine ACall.value0 (acall_of_ax (P := Tryz.prog) (fn := Tryz.f18) rfl rfl (by kernel_rfl) rfl (fun c hR hfix => ?_)) (fix := fun _ => False) (fun _ h => h) rfl rfl
    repeat (first
      | refine ax_q (q_move rfl) ?_
      | refine ax_q (q_assign rfl) ?_
      | refine ax_ops_nil ?_
      | refine ax_post_code ?_
      | refine ax_seq ?_
      | refine ax_region rfl ?_)
    refine ax_callv rfl rfl rfl h2 ?_
    repeat (first
      | refine ax_q (q_move rfl) ?_
      | refine ax_q (q_assign rfl) ?_
      | refine ax_ops_nil ?_
      | refine ax_post_code ?_
      | refine ax_seq ?_
      | refine ax_region rfl ?_
      | refine ax_cond_false rfl ?_
      | refine ax_skip ?_
      | refine ax_q (q_neq rfl rfl) ?_
      | refine ax_q (q_extract rfl rfl) ?_)
    refine ax_callv rfl rfl rfl hc ?_
    repeat (first
      | refine ax_q (q_assign rfl) ?_
      | refine ax_ops_nil ?_
      | refine ax_post_code ?_
      | refine ax_return ?_)
    exact ax_ret hR rfl rfl
  · have h2 := two_no ha hb hE
    have hF : ncmpF a b = (0, twoE a b) := by unfold ncmpF; rw [if_pos hE]
    rw [hF]
    refine ACall.value0 (acall_of_ax (P := Tryz.prog) (fn := Tryz.f18) rfl rfl (by kernel_rfl) rfl (fun c hR hfix => ?_)) (fix := fun _ => False) (fun _ h => h) rfl rfl
    generalize twoE a b = t at *
    repeat (first
      | refine ax_q (q_move rfl) ?_
      | refine ax_q (q_assign rfl) ?_
      | refine ax_ops_nil ?_
      | refine ax_post_code ?_
      | refine ax_seq ?_
      | refine ax_region rfl ?_)
    refine ax_callv rfl rfl rfl h2 ?_
    repeat (first
      | refine ax_q (q_move rfl) ?_
      | refine ax_q (q_assign rfl) ?_
      | refine ax_ops_nil ?_
      | refine ax_post_code ?_
      | refine ax_seq ?_
      | refine ax_region rfl ?_
      | refine ax_q (q_neq rfl rfl) ?_
      | refine ax_q (q_extract rfl rfl) ?_)
    refine ax_cond_dec rfl (fun _ => ?_) (fun h => absurd hE h)
    repeat (first
      | refine ax_q (q_move rfl) ?_
      | refine ax_q (q_assign rfl) ?_
      | refine ax_ops_nil ?_
      | refine ax_post_code ?_
      | refine ax_seq ?_
      | refine ax_region rfl ?_
      | refine ax_return ?_
      | refine ax_ret_code ?_)
    exact ax_ret hR rfl rfl
theorem nsub_ok (a b : List UInt8) (ha : a.length ≤ 9223372036854775807) (hb : b.length ≤ 9223372036854775807) : VCall Tryz.prog 15 [.str a, .str b] (pairA (subF a b)) := by
  by_cases hE : twoE a b = 0
  · obtain ⟨h2, la, lb, na, nb⟩ := two_yes hE
    have hF : subF a b = if decV 0 a < decV 0 b then ([], 4) else resF (decV 0 a - decV 0 b) := by unfold subF; rw [if_neg (by simp [hE])]
    have hc := cmp_ok (decV 0 a) (decV 0 b) (by omega) (by omega)
    have hs := fun h => sub_ok (decV 0 a) (decV 0 b) h (by omega)
    have hr := result_ok (decV 0 a - decV 0 b) (natL_le_len (Nat.sub_le _ _) (by omega))
    have hn := @cmp_not (decV 0 a) (decV 0 b)
    have hl : decV 0 a < decV 0 b → cmpZ (decV 0 a : Nat) (decV 0 b : Nat) = -1 := fun h => cmpZ_lt (Int.ofNat_lt.2 h)
    rw [hF]
    refine ACall.value0 (acall_of_ax (P := Tryz.prog) (fn := Tryz.f15) rfl rfl (by kernel_rfl) rfl (fun c hR hfix => ?_)) (fix := fun _ => False) (fun _ h => h) rfl (by split <;> rfl)
    generalize decV 0 a = x at *
    generalize decV 0 b = y at *
    repeat (first
      | refine ax_q (q_move rfl) ?_
      | refine ax_q (q_assign rfl) ?_
      | refine ax_ops_nil ?_
      | refine ax_post_code ?_
      | refine ax_seq ?_
      | refine ax_region rfl ?_)
    refine ax_callv rfl rfl rfl h2 ?_
    repeat (first
      | refine ax_q (q_move rfl) ?_
      | refine ax_q (q_assign rfl) ?_
      | refine ax_ops_nil ?_
      | refine ax_post_code ?_
      | refine ax_seq ?_
      | refine ax_region rfl ?_
      | refine ax_cond_false rfl ?_
      | refine ax_skip ?_
      | refine ax_q (q_neq rfl rfl) ?_
      | refine ax_q (q_extract rfl rfl) ?_)
    refine ax_callv rfl rfl rfl hc ?_
    repeat (first
      | refine ax_ops_nil ?_
      | refine ax_post_code ?_
      | refine ax_q (q_lss rfl rfl) ?_)
    refine ax_cond_dec rfl (fun h => ?_) (fun h => ?_)
    · rw [if_pos (by rcases Nat.lt_or_ge x y with q | q; exact q; exact absurd h (hn q))] at hR
      repeat (first
        | refine ax_q (q_assign rfl) ?_
        | refine ax_ops_nil ?_
        | refine ax_post_code ?_
        | refine ax_seq ?_
        | refine ax_region rfl ?_
        | refine ax_return ?_
        | refine ax_ret_code ?_)
      exact ax_ret hR rfl rfl
    · have hle : y ≤ x := by
        rcases Nat.lt_or_ge x y with q | q
        · exact absurd (by rw [hl q]; decide) h
        · exact q
      rw [if_neg (by omega)] at hR
      repeat (first
        | refine ax_q (q_move rfl) ?_
        | refine ax_post_code ?_
        | refine ax_seq ?_
        | refine ax_region rfl ?_
        | refine ax_skip ?_)
      refine ax_callv rfl rfl rfl (hs hle) ?_
      skip
      refine ax_callv rfl rfl rfl hr ?_
      repeat (first
        | refine ax_q (q_assign rfl) ?_
        | refine ax_ops_nil ?_
        | refine ax_post_code ?_
        | refine ax_return ?_
        | refine ax_q (q_extract rfl rfl) ?_)
      exact ax_ret hR rfl rfl
  · have h2 := two_no ha hb hE
    have hF : subF a b = ([], twoE a b) := by unfold subF; rw [if_pos hE]
    rw [hF]
    refine ACall.value0 (acall_of_ax (P := Tryz.prog) (fn := Tryz.f15) rfl rfl (by kernel_rfl) rfl (fun c hR hfix => ?_)) (fix := fun _ => False) (fun _ h => h) rfl rfl
    generalize twoE a b = t at *
    repeat (first
      | refine ax_q (q_move rfl) ?_
      | refine ax_q (q_assign rfl) ?_
      | refine ax_ops_nil ?_
      | refine ax_post_code ?_
      | refine ax_seq ?_
      | refine ax_region rfl ?_)
    refine ax_callv rfl rfl rfl h2 ?_
    repeat (first
      | refine ax_q (q_move rfl) ?_
      | refine ax_q (q_assign rfl) ?_
      | refine ax_ops_nil ?_
      | refine ax_post_code ?_
      | refine ax_seq ?_
      | refine ax_region rfl ?_
      | refine ax_q (q_neq rfl rfl) ?_
      | refine ax_q (q_extract rfl rfl) ?_)
    refine ax_cond_dec rfl (fun _ => ?_) (fun h => absurd hE h)
    repeat (first
      | refine ax_q (q_move rfl) ?_
      | refine ax_q (q_assign rfl) ?_
      | refine ax_ops_nil ?_
      | refine ax_post_code ?_
      | refine ax_seq ?_
      | refine ax_region rfl ?_
      | refine ax_return ?_
      | refine ax_ret_code ?_)
    exact ax_ret hR rfl rfl
def tripA (p : List UInt8 × List UInt8 × Int) : AV := .tup [.str p.1, .str p.2.1, .int .i64 p.2.2]
theorem ndiv_ok (a b : List UInt8) (ha : a.length ≤ 9223372036854775807) (hb : b.length ≤ 9223372036854775807) : VCall Tryz.prog 17 [.str a, .str b] (tripA (divF a b)) := by
  by_cases hE : twoE a b = 0
  · obtain ⟨h2, la, lb, na, nb⟩ := two_yes hE
    have hF : divF a b = if decV 0 b = 0 then ([], [], 18) else (Lib.decDigits (decV 0 a / decV 0 b), Lib.decDigits (decV 0 a % decV 0 b), 0) := by unfold divF; rw [if_neg (by simp [hE])]
    have hs := fun h => div_ok (decV 0 a) (decV 0 b) h (by omega) (by omega)
    have hq := text_ok (decV 0 a / decV 0 b) (natL_le_len (Nat.div_le_self _ _) (by omega))
    have hr := text_ok (decV 0 a % decV 0 b) (natL_le_len (Nat.mod_le _ _) (by omega))
    have hpos : 0 < (natL (decV 0 b)).length ↔ decV 0 b ≠ 0 := natL_pos_len
    rw [hF]
    refine ACall.value0 (acall_of_ax (P := Tryz.prog) (fn := Tryz.f17) rfl rfl (by kernel_rfl) rfl (fun c hR hfix => ?_)) (fix := fun _ => False) (fun _ h => h) rfl (by split <;> rfl)
    generalize decV 0 a = x at *
    generalize decV 0 b = y at *
    have en : natA y = .ro (.ints .u32 (natL y)) 0 (natL y).length := rfl
    rw [en] at h2 hs
    repeat (first
      | refine ax_q (q_move rfl) ?_
      | refine ax_q (q_assign rfl) ?_
      | refine ax_ops_nil ?_
      | refine ax_post_code ?_
      | refine ax_seq ?_
      | refine ax_region rfl ?_)
    refine ax_callv rfl rfl rfl h2 ?_
    repeat (first
      | refine ax_q (q_move rfl) ?_
      | refine ax_q (q_assign rfl) ?_
      | refine ax_ops_nil ?_
      | refine ax_post_code ?_
      | refine ax_seq ?_
      | refine ax_region rfl ?_
      | refine ax_cond_false rfl ?_
      | refine ax_skip ?_
      | refine ax_q (q_eql rfl rfl) ?_
      | refine ax_q (q_neq rfl rfl) ?_
      | refine ax_q (q_extract rfl rfl) ?_
      | refine ax_q (q_len rfl rfl rfl) ?_)
    refine ax_cond_dec rfl (fun h => ?_) (fun h => ?_)
    · have hy : y = 0 := by
        rcases Nat.eq_zero_or_pos y with q | q
        · exact q
        · have := hpos.2 (by omega); omega
      rw [if_pos hy] at hR
      repeat (first
        | refine ax_q (q_assign rfl) ?_
        | refine ax_ops_nil ?_
        | refine ax_post_code ?_
        | refine ax_seq ?_
        | refine ax_region rfl ?_
        | refine ax_return ?_
        | refine ax_ret_code ?_)
      exact ax_ret hR rfl rfl
    · have hy : y ≠ 0 := hpos.1 (by omega)
      rw [if_neg hy] at hR
      repeat (first
        | refine ax_q (q_move rfl) ?_
        | refine ax_post_code ?_
        | refine ax_seq ?_
        | refine ax_region rfl ?_
        | refine ax_skip ?_)
      refine ax_callv rfl rfl rfl (hs (by omega)) ?_
      repeat (first
        | refine ax_q (q_move rfl) ?_
        | refine ax_q (q_assign rfl) ?_
        | refine ax_ops_nil ?_
        | refine ax_post_code ?_
        | refine ax_seq ?_
        | refine ax_region rfl ?_
        | refine ax_q (q_extract rfl rfl) ?_)
      refine ax_callv rfl rfl rfl hq ?_
      repeat (refine ax_q (q_move rfl) ?_)
      refine ax_callv rfl rfl rfl hr ?_
      repeat (first
        | refine ax_q (q_assign rfl) ?_
        | refine ax_ops_nil ?_
        | refine ax_post_code ?_
        | refine ax_return ?_)
      exact ax_ret hR rfl rfl
  · have h2 := two_no ha hb hE
    have hF : divF a b = ([], [], twoE a b) := by unfold divF; rw [if_pos hE]
    rw [hF]
    refine ACall.value0 (acall_of_ax (P := Tryz.prog) (fn := Tryz.f17) rfl rfl (by kernel_rfl) rfl (fun c hR hfix => ?_)) (fix := fun _ => False) (fun _ h => h) rfl rfl
    generalize twoE a b = t at *
    repeat (first
      | refine ax_q (q_move rfl) ?_
      | refine ax_q (q_assign rfl) ?_
      | refine ax_ops_nil ?_
      | refine ax_post_code ?_
      | refine ax_seq ?_
      | refine ax_region rfl ?_)
    refine ax_callv rfl rfl rfl h2 ?_
    repeat (first
      | refine ax_q (q_move rfl) ?_
      | refine ax_q (q_assign rfl) ?_
      | refine ax_ops_nil ?_
      | refine ax_post_code ?_
      | refine ax_seq ?_
      | refine ax_region rfl ?_
      | refine ax_q (q_neq rfl rfl) ?_
      | refine ax_q (q_extract rfl rfl) ?_)
    refine ax_cond_dec rfl (fun _ => ?_) (fun h => absurd hE h)
    repeat (first
      | refine ax_q (q_move rfl) ?_
      | refine ax_q (q_assign rfl) ?_
      | refine ax_ops_nil ?_
      | refine ax_post_code ?_
      | refine ax_seq ?_
      | refine ax_region rfl ?_
      | refine ax_return ?_
      | refine ax_ret_code ?_)
    exact ax_ret hR rfl rfl
theorem product_ok (low k : Nat) (hl : 1 ≤ low) (h : low + k ≤ 1001) : VCall Tryz.prog 51 [.int .i64 (low : Nat), .int .i64 ((low : Int) + k - 1)] (natA (prodF low k)) := by
  have h1 : VCall Tryz.prog 79 [.int .u64 1] (natA 1) := small_ok 1 (by decide)
  refine ACall.value0 (acall_of_ax (P := Tryz.prog) (fn := Tryz.f51) rfl rfl (by kernel_rfl) rfl (fun c hR hfix => ?_)) (fix := fun _ => False) (fun _ h => h) rfl rfl
  repeat (first
    | refine ax_q (q_assign rfl) ?_
    | refine ax_ops_nil ?_
    | refine ax_post_code ?_
    | refine ax_seq ?_
    | refine ax_region rfl ?_)
  refine ax_callv rfl rfl rfl h1 ?_
  repeat (first
    | refine ax_q (q_move rfl) ?_
    | refine ax_q (q_assign rfl) ?_
    | refine ax_ops_nil ?_
    | refine ax_post_code ?_
    | refine ax_seq ?_
    | refine ax_region rfl ?_
    | refine ax_block ?_)
  refine ax_loop (ι := Nat) (fun i => [(1, .int .i64 ((low : Int) + k - 1)), (5, natA (prodF low i)), (6, .int .i64 (low + i : Nat))]) (fun _ => []) (fun i => i ≤ k) (fun i => k - i) 0 ⟨⟨rfl, rfl, rfl, trivial⟩, rfl, Nat.zero_le _⟩ ?_
  rintro i hi
  repeat (first
    | refine ax_q (q_move rfl) ?_
    | refine ax_ops_nil ?_
    | refine ax_post_code ?_
    | refine ax_seq ?_
    | refine ax_region rfl ?_
    | refine ax_q (q_leq rfl rfl) ?_)
  refine ax_cond_dec rfl (fun h2 => ?_) (fun h2 => ?_)
  · have hs := small_ok (low + i) (by omega)
    have hm := mul_ok (prodF low i) (low + i) (by have := prodF_len (low := low) (k := i) (by omega) (by omega); omega) (by
      have := natL_len_le (n := low + i) (k := 1) (by rw [Nat.pow_one]; unfold B; omega); omega)
    repeat (first
      | refine ax_q (q_move rfl) ?_
      | refine ax_post_code ?_
      | refine ax_seq ?_
      | refine ax_region rfl ?_
      | refine ax_block ?_
      | refine ax_skip ?_)
    refine ax_q (q_uconv (m := low + i) rfl rfl rfl uk64 (by omega)) ?_
    refine ax_callv rfl rfl rfl hs ?_
    refine ax_callv rfl rfl rfl hm ?_
    repeat (first
      | refine ax_q (q_move rfl) ?_
      | refine ax_q (q_assign rfl) ?_
      | refine ax_ops_nil ?_
      | refine ax_post_code ?_
      | refine ax_region rfl ?_
      | refine ax_post_blk ?_
      | refine ax_q (q_add rfl rfl (by omega)) ?_)
    refine ax_post_inv ⟨i + 1, by omega, by omega, ⟨rfl, rfl, ?_, trivial⟩, rfl⟩
    show some (AV.int .i64 _) = _
    congr 2
  · have : i = k := by omega
    subst this
    repeat (first
      | refine ax_q (q_move rfl) ?_
      | refine ax_q (q_assign rfl) ?_
      | refine ax_ops_nil ?_
      | refine ax_post_code ?_
      | refine ax_seq ?_
      | refine ax_region rfl ?_
      | refine ax_exit ?_
      | refine ax_exit_here ?_
      | refine ax_exit_code ?_
      | refine ax_exit_inv ?_
      | refine ax_return ?_)
    exact ax_ret hR rfl rfl
theorem fact_ok (n : Int) : VCall Tryz.prog 22 [.int .i64 n] (pairA (factF n)) := by
  have hF : factF n = if n < 0 ∨ 1000 < n then ([], 4) else resF (factN n.toNat) := rfl
  refine ACall.value0 (acall_of_ax (P := Tryz.prog) (fn := Tryz.f22) rfl rfl (by kernel_rfl) rfl (fun c hR hfix => ?_)) (fix := fun _ => False) (fun _ h => h) rfl rfl
  by_cases hb : n < 0 ∨ 1000 < n
  · rw [hF, if_pos hb] at hR
    repeat (first
      | refine ax_q (q_move rfl) ?_
      | refine ax_q (q_assign rfl) ?_
      | refine ax_ops_nil ?_
      | refine ax_post_code ?_
      | refine ax_seq ?_
      | refine ax_region rfl ?_
      | refine ax_q (q_lss rfl rfl) ?_)
    refine ax_gsplit rfl rfl (fun h => ?_) (fun h => ?_)
    · repeat (first
        | refine ax_q (q_assign rfl) ?_
        | refine ax_ops_nil ?_
        | refine ax_post_code ?_
        | refine ax_seq ?_
        | refine ax_region rfl ?_
        | refine ax_skip_not rfl rfl rfl ?_
        | refine ax_cond_true rfl ?_
        | refine ax_return ?_
        | refine ax_ret_code ?_
        | refine ax_q (q_pick rfl rfl) ?_)
      exact ax_ret hR rfl rfl
    · repeat (first
        | refine ax_q (q_move rfl) ?_
        | refine ax_ops_nil ?_
        | refine ax_post_code ?_
        | refine ax_guard rfl rfl ?_
        | refine ax_q (q_gtr rfl rfl) ?_
        | refine ax_q (q_pick rfl rfl) ?_)
      refine ax_cond_dec rfl (fun _ => ?_) (fun h2 => absurd hb (by omega))
      repeat (first
        | refine ax_q (q_assign rfl) ?_
        | refine ax_ops_nil ?_
        | refine ax_post_code ?_
        | refine ax_seq ?_
        | refine ax_region rfl ?_
        | refine ax_return ?_
        | refine ax_ret_code ?_)
      exact ax_ret hR rfl rfl
  · rw [hF, if_neg hb] at hR
    obtain ⟨m, rfl⟩ : ∃ m : Nat, n = m := ⟨n.toNat, by omega⟩
    rw [Int.toNat_natCast] at hR
    have hp := product_ok 1 m (by decide) (by omega)
    rw [show ((1 : Nat) : Int) + (m : Int) - 1 = (m : Int) by omega] at hp
    have hr := result_ok (factN m) (by have := prodF_len (low := 1) (k := m) (by omega) (by omega); unfold factN; omega)
    repeat (first
      | refine ax_q (q_move rfl) ?_
      | refine ax_q (q_assign rfl) ?_
      | refine ax_ops_nil ?_
      | refine ax_post_code ?_
      | refine ax_seq ?_
      | refine ax_region rfl ?_
      | refine ax_guard rfl rfl ?_
      | refine ax_q (q_lss rfl rfl) ?_
      | refine ax_q (q_gtr rfl rfl) ?_
      | refine ax_q (q_pick rfl rfl) ?_)
    refine ax_cond_dec rfl (fun h2 => absurd h2 (by omega)) (fun _ => ?_)
    repeat (first
      | refine ax_q (q_move rfl) ?_
      | refine ax_post_code ?_
      | refine ax_seq ?_
      | refine ax_region rfl ?_
      | refine ax_skip ?_)
    refine ax_callv rfl rfl rfl hp ?_
    refine ax_callv rfl rfl rfl hr ?_
    repeat (first
      | refine ax_q (q_assign rfl) ?_
      | refine ax_ops_nil ?_
      | refine ax_post_code ?_
      | refine ax_return ?_
      | refine ax_q (q_extract rfl rfl) ?_)
    exact ax_ret hR rfl rfl
theorem bino_ok (n k : Int) : VCall Tryz.prog 21 [.int .i64 n, .int .i64 k] (pairA (binoF n k)) := by
  have hF : binoF n k = if n < 0 ∨ 1000 < n ∨ k < 0 ∨ n < k then ([], 4) else (Lib.decDigits (prodF (n.toNat - k.toNat + 1) k.toNat / factN k.toNat), 0) := rfl
  refine ACall.value0 (acall_of_ax (P := Tryz.prog) (fn := Tryz.f21) rfl rfl (by kernel_rfl) rfl (fun c hR hfix => ?_)) (fix := fun _ => False) (fun _ h => h) rfl rfl
  apply ax_tail_code (H := []) [(0, .int .i64 n), (1, .int .i64 k), (22, .bool (decide (n < 0 ∨ 1000 < n ∨ k < 0 ∨ n < k)))]
  · intro fin
    repeat (first
      | refine ax_q (q_move rfl) ?_
      | refine ax_q (q_assign rfl) ?_
      | refine ax_ops_nil ?_
      | refine ax_post_code ?_
      | refine ax_seq ?_
      | refine ax_region rfl ?_
      | refine ax_q (q_lss rfl rfl) ?_)
    refine ax_gsplit rfl rfl (fun h => ?_) (fun h => ?_)
    · rw [decide_eq_true (.inl h)] at fin
      repeat (first
        | refine ax_q (q_move rfl) ?_
        | refine ax_ops_nil ?_
        | refine ax_post_code ?_
        | refine ax_skip_not rfl rfl rfl ?_
        | refine ax_q (q_pick rfl rfl) ?_)
      exact fin _ ⟨rfl, rfl, rfl, trivial⟩
    · repeat (first
        | refine ax_q (q_move rfl) ?_
        | refine ax_guard rfl rfl ?_
        | refine ax_q (q_gtr rfl rfl) ?_
        | refine ax_q (q_pick rfl rfl) ?_)
      refine ax_gsplit rfl rfl (fun h2 => ?_) (fun h2 => ?_)
      · rw [decide_eq_true (.inr (.inl h2))] at fin
        repeat (first
          | refine ax_q (q_move rfl) ?_
          | refine ax_ops_nil ?_
          | refine ax_post_code ?_
          | refine ax_skip_not rfl rfl rfl ?_
          | refine ax_q (q_pick rfl rfl) ?_)
        exact fin _ ⟨rfl, rfl, rfl, trivial⟩
      · repeat (first
          | refine ax_q (q_move rfl) ?_
          | refine ax_guard rfl rfl ?_
          | refine ax_q (q_lss rfl rfl) ?_
          | refine ax_q (q_pick rfl rfl) ?_)
        refine ax_gsplit rfl rfl (fun h3 => ?_) (fun h3 => ?_)
        · rw [decide_eq_true (.inr (.inr (.inl h3)))] at fin
          repeat (first
            | refine ax_ops_nil ?_
            | refine ax_post_code ?_
            | refine ax_skip_not rfl rfl rfl ?_
            | refine ax_q (q_pick rfl rfl) ?_)
          exact fin _ ⟨rfl, rfl, rfl, trivial⟩
        · repeat (first
            | refine ax_q (q_move rfl) ?_
            | refine ax_ops_nil ?_
            | refine ax_post_code ?_
            | refine ax_guard rfl rfl ?_
            | refine ax_q (q_gtr rfl rfl) ?_
            | refine ax_q (q_pick rfl rfl) ?_)
          refine fin _ ⟨rfl, rfl, ?_, trivial⟩
          show some (AV.bool (decide (n < k))) = _
          congr 2
          rw [decide_eq_decide]
          omega
  refine ax_cond_dec rfl (fun hb => ?_) (fun hb => ?_)
  · rw [hF, if_pos hb] at hR
    repeat (first
      | refine ax_q (q_assign rfl) ?_
      | refine ax_ops_nil ?_
      | refine ax_post_code ?_
      | refine ax_seq ?_
      | refine ax_region rfl ?_
      | refine ax_return ?_
      | refine ax_ret_code ?_)
    exact ax_ret hR rfl rfl
  · rw [hF, if_neg hb] at hR
    obtain ⟨m, rfl⟩ : ∃ m : Nat, n = m := ⟨n.toNat, by omega⟩
    obtain ⟨j, rfl⟩ : ∃ j : Nat, k = j := ⟨k.toNat, by omega⟩
    rw [Int.toNat_natCast, Int.toNat_natCast] at hR
    have hp := product_ok (m - j + 1) j (by omega) (by omega)
    rw [show ((m - j + 1 : Nat) : Int) + (j : Int) - 1 = (m : Int) by omega, show ((m - j + 1 : Nat) : Int) = (m : Int) - (j : Int) + 1 by omega] at hp
    have hp1 := product_ok 1 j (by decide) (by omega)
    rw [show ((1 : Nat) : Int) + (j : Int) - 1 = (j : Int) by omega] at hp1
    have l1 := prodF_len (low := m - j + 1) (k := j) (by omega) (by omega)
    have l2 := prodF_len (low := 1) (k := j) (by omega) (by omega)
    have hd := div_ok (prodF (m - j + 1) j) (prodF 1 j) (prodF_pos (by decide) j) (by omega) (by omega)
    have ht := text_ok (prodF (m - j + 1) j / prodF 1 j) (natL_le_len (Nat.div_le_self _ _) (by omega))
    repeat (first
      | refine ax_q (q_move rfl) ?_
      | refine ax_post_code ?_
      | refine ax_seq ?_
      | refine ax_region rfl ?_
      | refine ax_skip ?_
      | refine ax_q (q_add rfl rfl (by omega)) ?_
      | refine ax_q (q_sub rfl rfl (by omega)) ?_)
    refine ax_callv rfl rfl rfl hp ?_
    repeat (refine ax_q (q_move rfl) ?_)
    refine ax_callv rfl rfl rfl hp1 ?_
    refine ax_callv rfl rfl rfl hd ?_
    repeat (first
      | refine ax_q (q_move rfl) ?_
      | refine ax_q (q_assign rfl) ?_
      | refine ax_ops_nil ?_
      | refine ax_post_code ?_
      | refine ax_seq ?_
      | refine ax_region rfl ?_
      | refine ax_q (q_extract rfl rfl) ?_)
    refine ax_callv rfl rfl rfl ht ?_
    repeat (first
      | refine ax_q (q_assign rfl) ?_
      | refine ax_ops_nil ?_
      | refine ax_post_code ?_
      | refine ax_return ?_)
    exact ax_ret hR rfl rfl
end Go.Proofs.YtbeegiiiochblaaGreatDoor

/-
  A region whose order is open, all of whose operations but the last ones leave the memory as it is: whatever order, one end.
-/
namespace Go.Ax
variable [Pins]
open Go.RowKit

theorem knows_of {fr : Fr} : ∀ {K : Fr}, (∀ p ∈ K, look p.1 fr = some p.2) → knows fr K
  | [], _ => have _pin := (inferInstance : Pins); trivial
  | (t, v) :: r, h => ⟨h (t, v) (by simp), knows_of (fun p hp => h p (by simp [hp]))⟩
theorem of_knows {fr : Fr} : ∀ {K : Fr}, knows fr K → ∀ p ∈ K, look p.1 fr = some p.2
  | [], _, p, hp => have _pin := (inferInstance : Pins); by simp at hp
  | (t, v) :: r, h, p, hp => by
    rcases List.mem_cons.1 hp with rfl | hp
    · exact h.1
    · exact of_knows h.2 p hp
theorem ev_knows {fr K : Fr} (h : knows fr K) {o : Operand} {v : AV} (he : ev K o = some v) : ev fr o = some v := by
  have _pin := (inferInstance : Pins)
  cases o with
  | tmp t => exact look_knows h he
  | const x => exact he
  | «global» g => cases he
  | func f => exact he
theorem evs_knows {fr K : Fr} (h : knows fr K) : ∀ {xs : List Operand} {l : List AV}, evs K xs = some l → evs fr xs = some l
  | [], l, he => have _pin := (inferInstance : Pins); he
  | x :: r, l, he => by
    simp only [evs] at he ⊢
    split at he
    · rename_i v hv
      split at he
      · rename_i q hq
        rw [ev_knows h hv, evs_knows h hq]
        exact he
      · cases he
    · cases he
section
variable {P : Program} {fn : Func} {c : Ctx} {fr : Fr} {H : AHeap} {k : List It}
/-- An operation that yields v and leaves the memory as it is told. -/
def PureOp (P : Program) (fn : Func) (c : Ctx) (H : AHeap) (K : Fr) (o : Oper) (d : Nat) (v : AV) : Prop :=
  ∀ (all : Array Oper) (k : List It) (fr : Fr), knows fr K → Ax P fn c (.ops false all [] k) ((d, v) :: fr) H → Ax P fn c (.ops false all [o] k) fr H
theorem pure_q {K : Fr} {d : Nat} {op : Op} {ty : TypeId} {pos : String} {after : Array Edge} {v : AV} (h : QOp false P fn c K H ⟨some d, op, ty, pos, after, none⟩ v) : PureOp P fn c H K ⟨some d, op, ty, pos, after, none⟩ d v :=
  fun all k fr hk h2 => ax_q (fun w a σ S hr => h w a σ S (hr.weaken hk)) h2
theorem pure_v {K : Fr} {d : Nat} {g : Operand} {args : List Operand} {ats : Array TypeId} {ty : TypeId} {pos : String} {after : Array Edge} {f : FuncId} {caps ags ags' : List AV} {r : AV} (hg : ev K g = some (.fn f caps)) (ha : evs K args = some ags) (has : ags ++ caps = ags') (hcall : VCall P f ags' r) :
    PureOp P fn c H K ⟨some d, .call { callee := .value g, args := args.toArray, argTypes := ats }, ty, pos, after, none⟩ d r :=
  fun all k fr hk h2 => ax_callv (ev_knows hk hg) (evs_knows hk ha) has hcall h2

abbrev Steps := List (Nat × Nat × AV)
def frmOf (st : Steps) (K0 : Fr) (o : Oper) : Fr := ((st.filter (fun s => o.after.toList.any (fun e => Nat.beq e.on s.1 && Region.binds .any e))).map (fun s => s.2)) ++ K0
/-- One operation after the other, in the order that is given. -/
def PRun (P : Program) (fn : Func) (c : Ctx) (H : AHeap) (all : Array Oper) (K0 : Fr) : List Nat → Steps → (Steps → Prop) → Prop
  | [], st, G => G st
  | i :: r, st, G => ∃ o d v, all[i]? = some o ∧ o.dst = some d ∧ PureOp P fn c H (frmOf st K0 o) o d v ∧ PRun P fn c H all K0 r ((i, d, v) :: st) G
theorem px_step {all : Array Oper} {K0 : Fr} {i : Nat} {r : List Nat} {st : Steps} {G : Steps → Prop} {d : Nat} {op : Op} {ty : TypeId} {pos : String} {after : Array Edge} {v : AV} (hi : all[i]? = some ⟨some d, op, ty, pos, after, none⟩)
    (hop : PureOp P fn c H (frmOf st K0 ⟨some d, op, ty, pos, after, none⟩) ⟨some d, op, ty, pos, after, none⟩ d v) (h : PRun P fn c H all K0 r ((i, d, v) :: st) G) : PRun P fn c H all K0 (i :: r) st G :=
  ⟨_, _, _, hi, rfl, hop, h⟩
theorem px_q {all : Array Oper} {K0 : Fr} {i : Nat} {r : List Nat} {st : Steps} {G : Steps → Prop} {d : Nat} {op : Op} {ty : TypeId} {pos : String} {after : Array Edge} {v : AV} {K : Fr} (hi : all[i]? = some ⟨some d, op, ty, pos, after, none⟩)
    (hK : frmOf st K0 ⟨some d, op, ty, pos, after, none⟩ = K) (hop : QOp false P fn c K H ⟨some d, op, ty, pos, after, none⟩ v) (h : PRun P fn c H all K0 r ((i, d, v) :: st) G) : PRun P fn c H all K0 (i :: r) st G :=
  px_step hi (hK ▸ pure_q hop) h
theorem px_v {all : Array Oper} {K0 : Fr} {i : Nat} {r : List Nat} {st : Steps} {G : Steps → Prop} {d : Nat} {g : Operand} {args : List Operand} {ats : Array TypeId} {ty : TypeId} {pos : String} {after : Array Edge} {f : FuncId} {caps ags ags' : List AV} {v : AV} {K : Fr} (hi : all[i]? = some ⟨some d, .call { callee := .value g, args := args.toArray, argTypes := ats }, ty, pos, after, none⟩)
    (hK : frmOf st K0 ⟨some d, .call { callee := .value g, args := args.toArray, argTypes := ats }, ty, pos, after, none⟩ = K) (hg : ev K g = some (.fn f caps)) (ha : evs K args = some ags) (has : ags ++ caps = ags') (hcall : VCall P f ags' v)
    (h : PRun P fn c H all K0 r ((i, d, v) :: st) G) : PRun P fn c H all K0 (i :: r) st G :=
  px_step hi (hK ▸ pure_v hg ha has hcall) h
theorem px_done {all : Array Oper} {K0 : Fr} {st : Steps} {G : Steps → Prop} (h : G st) : PRun P fn c H all K0 [] st G := h

/-- What the steps tell. -/
def StepOk (P : Program) (fn : Func) (c : Ctx) (H : AHeap) (all : Array Oper) (K0 : Fr) (st : Steps) (s : Nat × Nat × AV) : Prop :=
  ∃ o K, all[s.1]? = some o ∧ o.dst = some s.2.1 ∧ PureOp P fn c H K o s.2.1 s.2.2 ∧ ∀ p ∈ K, p ∈ K0 ∨ ∃ s' ∈ st, (∃ e ∈ o.after, Region.binds .any e = true ∧ e.on = s'.1) ∧ s'.2 = p
theorem StepOk.mono {all : Array Oper} {K0 : Fr} {st st' : Steps} {s : Nat × Nat × AV} (hs : ∀ x ∈ st, x ∈ st') (h : StepOk P fn c H all K0 st s) : StepOk P fn c H all K0 st' s := by
  obtain ⟨o, K, h1, h2, h3, h4⟩ := h
  refine ⟨o, K, h1, h2, h3, fun p hp => ?_⟩
  rcases h4 p hp with q | ⟨s', q1, q2⟩
  · exact .inl q
  · exact .inr ⟨s', hs _ q1, q2⟩
theorem prun_steps {all : Array Oper} {K0 : Fr} {G : Steps → Prop} : ∀ {idx : List Nat} {st : Steps}, PRun P fn c H all K0 idx st G → (∀ s ∈ st, StepOk P fn c H all K0 st s) → ∃ st', G st' ∧ st'.map (·.1) = idx.reverse ++ st.map (·.1) ∧ (∀ s ∈ st', StepOk P fn c H all K0 st' s)
  | [], st, h, hs => ⟨st, h, by simp, hs⟩
  | i :: r, st, h, hs => by
    obtain ⟨o, d, v, h1, h2, h3, h4⟩ := h
    have hsub : ∀ x ∈ st, x ∈ (i, d, v) :: st := fun x hx => List.mem_cons_of_mem _ hx
    have hstep : StepOk P fn c H all K0 ((i, d, v) :: st) (i, d, v) := by
      refine ⟨o, frmOf st K0 o, h1, h2, h3, fun p hp => ?_⟩
      unfold frmOf at hp
      rcases List.mem_append.1 hp with q | q
      · obtain ⟨s, q1, q2⟩ := List.mem_map.1 q
        obtain ⟨q3, q4⟩ := List.mem_filter.1 q1
        obtain ⟨e, q5, q6⟩ := List.any_eq_true.1 q4
        rw [Bool.and_eq_true] at q6
        exact .inr ⟨s, hsub _ q3, ⟨e, Array.mem_toList_iff.1 q5, q6.2, Nat.eq_of_beq_eq_true q6.1⟩, q2⟩
      · exact .inl q
    obtain ⟨st', g1, g2, g3⟩ := prun_steps h4 (fun s hs' => by
      rcases List.mem_cons.1 hs' with rfl | q
      · exact hstep
      · exact (hs s q).mono hsub)
    exact ⟨st', g1, by rw [g2]; simp, g3⟩
theorem allR_of {all : Array Oper} {fuel : Nat} {listed : Array Bool} : ∀ {is : List Nat}, (∀ i ∈ is, ∀ o, all[i]? = some o → Ax P fn c (.ops false all [o] (.any all fuel (listed.setIfInBounds i true) :: k)) fr H) → AllR P fn c all fuel listed k fr H is
  | [], _ => trivial
  | i :: r, h => ⟨h i (by simp), allR_of (fun j hj => h j (by simp [hj]))⟩
/-- May these operations run in any order, ahead of all others? -/
def okRun (all : Array Oper) (listed : Array Bool) (idx : List Nat) (k0 : List Nat) : Bool :=
  (idx.all fun i => !listed.getD i true && (match all[i]? with
    | some o => (match o.dst with | some d => !k0.contains d | none => false) && o.after.toList.all (fun e => !Region.binds .any e || (Nat.blt e.on i && (idx.contains e.on || listed.getD e.on false)))
    | none => false)) &&
  ((List.range all.size).all fun j => idx.contains j || listed.getD j true || (match all[j]? with
    | some o => idx.all (fun i => o.after.toList.any (fun e => Nat.beq e.on i && Region.binds .any e))
    | none => true)) &&
  (idx.all fun i => idx.all fun j => Nat.beq i j || !(match all[i]?, all[j]? with | some o, some o' => o.dst == o'.dst | _, _ => false))
def setAll (listed : Array Bool) (idx : List Nat) : Array Bool := idx.foldl (fun a i => a.setIfInBounds i true) listed
theorem setAll_size : ∀ (idx : List Nat) (listed : Array Bool), (setAll listed idx).size = listed.size
  | [], _ => have _pin := (inferInstance : Pins); rfl
  | i :: r, listed => by
    have := setAll_size r (listed.setIfInBounds i true)
    simpa [setAll] using this
theorem setAll_get : ∀ (idx : List Nat) (listed : Array Bool) (j : Nat), j < listed.size → (setAll listed idx)[j]? = if j ∈ idx then some true else listed[j]?
  | [], _, j, _ => have _pin := (inferInstance : Pins); by simp [setAll]
  | i :: r, listed, j, hj => by
    have h := setAll_get r (listed.setIfInBounds i true) j (by simpa using hj)
    have e : setAll listed (i :: r) = setAll (listed.setIfInBounds i true) r := rfl
    rw [e, h]
    by_cases h1 : j ∈ r
    · simp [h1]
    · by_cases h2 : i = j
      · subst h2; simp [h1, hj]
      · have h3 : ¬ j = i := fun e => h2 e.symm
        simp [h1, h2, h3, Array.getElem?_setIfInBounds]
def unl (cur : Array Bool) (st : Steps) : Nat := (st.filter (fun s => !cur.getD s.1 true)).length
theorem ax_any_run {all : Array Oper} {fuel : Nat} {listed listed' : Array Bool} (idx : List Nat) (K0 : Fr) (hK : knows fr K0) (hok : okRun all listed idx (K0.map (·.1)) = true) (hnd : idx.Nodup) (hd : dstsOK fn.ntmps all.toList = true) (hl : setAll listed idx = listed')
    (h : PRun P fn c H all K0 idx [] (fun st => Ax P fn c (.any all fuel listed' k) (st.map (·.2) ++ K0) H)) : Ax P fn c (.any all (fuel + idx.length) listed k) fr H := by
  obtain ⟨st, hG, hidx, hst⟩ := prun_steps h (fun s hs => by simp at hs)
  rw [List.map_nil, List.append_nil] at hidx
  clear h
  unfold okRun at hok
  simp only [Bool.and_eq_true] at hok
  obtain ⟨⟨ok1, ok2⟩, ok3⟩ := hok
  rw [List.all_eq_true] at ok1 ok2 ok3
  have hmem : ∀ i, i ∈ idx ↔ ∃ s ∈ st, s.1 = i := fun i => by
    have : i ∈ idx.reverse ↔ ∃ s ∈ st, s.1 = i := by rw [← hidx]; simp
    rw [← this, List.mem_reverse]
  have hlen : st.length = idx.length := by
    have := congrArg List.length hidx
    simpa using this
  have hnd' : (st.map (·.1)).Nodup := by rw [hidx]; exact (List.reverse_perm idx).nodup_iff.2 hnd
  have hlt : ∀ i ∈ idx, i < listed.size := fun i hi => by
    have := ok1 i hi
    simp only [Bool.and_eq_true, Bool.not_eq_true'] at this
    rcases Nat.lt_or_ge i listed.size with q | q
    · exact q
    · have h1 := this.1
      simp only [Array.getD, show ¬ i < listed.size by omega, dite_false] at h1
      cases h1
  -- the induction
  have key : ∀ (m : Nat) (cur : Array Bool) (fr : Fr), cur.size = listed.size → (∀ j, j ∉ idx → cur[j]? = listed[j]?) → unl cur st = m → (∀ s ∈ st, cur.getD s.1 true = true → look s.2.1 fr = some s.2.2) → knows fr K0 → Ax P fn c (.any all (fuel + m) cur k) fr H := by
    intro m
    induction m with
    | zero =>
      intro cur fr hcs hco hcm hck hk0
      have hall : ∀ s ∈ st, cur.getD s.1 true = true := fun s hs => by
        cases hq : cur.getD s.1 true with
        | true => rfl
        | false =>
          exfalso
          have h0 : st.filter (fun s => !cur.getD s.1 true) = [] := List.length_eq_zero_iff.1 hcm
          have : s ∈ st.filter (fun s => !cur.getD s.1 true) := List.mem_filter.2 ⟨hs, by rw [hq]; rfl⟩
          rw [h0] at this; simp at this
      have hcur : cur = listed' := by
        rw [← hl]
        apply Array.ext_getElem?
        intro j
        rcases Nat.lt_or_ge j listed.size with q | q
        · rw [setAll_get idx listed j q]
          by_cases hj : j ∈ idx
          · rw [if_pos hj]
            obtain ⟨s, hs1, hs2⟩ := (hmem j).1 hj
            have := hall s hs1
            rw [hs2] at this
            simp only [Array.getD, show j < cur.size by omega, dite_true] at this
            rw [Array.getElem?_eq_getElem (by omega)]
            exact congrArg some this
          · rw [if_neg hj]; exact hco j hj
        · rw [Array.getElem?_eq_none (by omega), Array.getElem?_eq_none (by rw [setAll_size]; omega)]
      subst hcur
      intro w a σ S hr
      refine hG w a σ S (hr.weaken (knows_of fun p hp => ?_))
      rcases List.mem_append.1 hp with q | q
      · obtain ⟨s, q1, q2⟩ := List.mem_map.1 q
        rw [← q2]; exact hck s q1 (hall s q1)
      · exact of_knows hk0 p q
    | succ m ih =>
      intro cur fr hcs hco hcm hck hk0
      -- some step is left
      obtain ⟨s0, hs0, hs0u⟩ : ∃ s ∈ st, cur.getD s.1 true = false := by
        rcases hq : st.filter (fun s => !cur.getD s.1 true) with _ | ⟨s, r⟩
        · unfold unl at hcm; rw [hq] at hcm; simp at hcm
        · have : s ∈ st.filter (fun s => !cur.getD s.1 true) := by rw [hq]; simp
          obtain ⟨h1, h2⟩ := List.mem_filter.1 this
          exact ⟨s, h1, by simpa using h2⟩
      have hsub : ∀ i ∈ Region.ready .any all cur, i ∈ idx ∧ cur.getD i true = false := by
        intro i hi
        obtain ⟨h1, o, ho, hdeps⟩ := mem_ready.1 hi
        refine ⟨?_, h1⟩
        apply Classical.byContradiction
        intro hni
        have hjs : i < all.size := (Array.getElem?_eq_some_iff.1 ho).1
        have := ok2 i (List.mem_range.2 hjs)
        simp only [Bool.or_eq_true, ho] at this
        rcases this with (q | q) | q
        · exact hni (by simpa using q)
        · have hco' := hco i hni
          have h2 : listed.getD i true = cur.getD i true := by
            simp only [Array.getD_eq_getD_getElem?, hco']
          rw [h2, h1] at q; cases q
        · rw [List.all_eq_true] at q
          have := q s0.1 ((hmem s0.1).2 ⟨s0, hs0, rfl⟩)
          obtain ⟨e, he1, he2⟩ := List.any_eq_true.1 this
          rw [Bool.and_eq_true] at he2
          have h3 := hdeps e (Array.mem_toList_iff.1 he1) he2.2
          rw [Nat.eq_of_beq_eq_true he2.1] at h3
          have hsz := hlt s0.1 ((hmem s0.1).2 ⟨s0, hs0, rfl⟩)
          simp only [Array.getD, show s0.1 < cur.size by omega, dite_true] at h3 hs0u
          rw [h3] at hs0u; cases hs0u
      have hne : Region.ready .any all cur ≠ [] := by
        intro h0
        -- the least one that is left
        have hex : ∃ i, i ∈ idx ∧ cur.getD i true = false := ⟨s0.1, (hmem s0.1).2 ⟨s0, hs0, rfl⟩, hs0u⟩
        have least : ∀ n i, i ≤ n → i ∈ idx → cur.getD i true = false → False := by
          intro n
          induction n with
          | zero =>
            intro i hi him hiu
            have h1 := ok1 i him
            simp only [Bool.and_eq_true] at h1
            cases hoo : all[i]? with
            | none => rw [hoo] at h1; exact absurd h1.2 (by simp)
            | some o =>
              rw [hoo] at h1
              simp only [Bool.and_eq_true] at h1
              have h2 := List.all_eq_true.1 h1.2.2
              have : i ∈ Region.ready .any all cur := mem_ready.2 ⟨hiu, o, hoo, fun e he hb => by
                have := h2 e (Array.mem_toList_iff.2 he)
                rw [hb] at this
                simp only [Bool.not_true, Bool.false_or, Bool.and_eq_true] at this
                have := Nat.le_of_ble_eq_true this.1
                omega⟩
              rw [h0] at this; simp at this
          | succ n ihn =>
            intro i hi him hiu
            have h1 := ok1 i him
            simp only [Bool.and_eq_true] at h1
            cases hoo : all[i]? with
            | none => rw [hoo] at h1; exact absurd h1.2 (by simp)
            | some o =>
              rw [hoo] at h1
              simp only [Bool.and_eq_true] at h1
              have h2 := List.all_eq_true.1 h1.2.2
              have : i ∈ Region.ready .any all cur := mem_ready.2 ⟨hiu, o, hoo, fun e he hb => by
                have h3 := h2 e (Array.mem_toList_iff.2 he)
                rw [hb] at h3
                simp only [Bool.not_true, Bool.false_or, Bool.and_eq_true, Bool.or_eq_true] at h3
                have hlt' : e.on < i := Nat.le_of_ble_eq_true h3.1
                by_cases hei : e.on ∈ idx
                · cases hq : cur.getD e.on true with
                  | false => exact (ihn e.on (by omega) hei hq).elim
                  | true =>
                    have hsz := hlt e.on hei
                    simp only [Array.getD, show e.on < cur.size by omega, dite_true] at hq ⊢
                    exact hq
                · rcases h3.2 with q | q
                  · exact absurd (by simpa using q) hei
                  · have h2 : cur.getD e.on false = listed.getD e.on false := by simp only [Array.getD_eq_getD_getElem?, hco e.on hei]
                    rw [h2]; exact q⟩
              rw [h0] at this; simp at this
        obtain ⟨i, hi1, hi2⟩ := hex
        exact least i i (Nat.le_refl _) hi1 hi2
      refine ax_any_step rfl hne hd (allR_of (fun i hi o ho => ?_))
      obtain ⟨him, hiu⟩ := hsub i hi
      obtain ⟨s, hs1, hs2⟩ := (hmem i).1 him
      obtain ⟨o', K, g1, g2, g3, g4⟩ := hst s hs1
      rw [hs2, ho] at g1
      obtain rfl := Option.some.inj g1
      obtain ⟨_, o2, ho2, hdeps⟩ := mem_ready.1 hi
      rw [ho] at ho2
      obtain rfl := Option.some.inj ho2
      refine g3 all _ fr (knows_of fun p hp => ?_) (ax_ops_nil (ax_post_any ?_))
      · rcases g4 p hp with q | ⟨s', q1, ⟨e, q2, q3, q4⟩, q5⟩
        · exact of_knows hk0 p q
        · have h1 := hdeps e q2 q3
          rw [q4] at h1
          rw [← q5]
          refine hck s' q1 ?_
          have hsz := hlt s'.1 ((hmem s'.1).2 ⟨s', q1, rfl⟩)
          simp only [Array.getD, show s'.1 < cur.size by omega, dite_true] at h1 ⊢
          exact h1
      · have hisz := hlt i him
        refine ih (cur.setIfInBounds i true) _ (by simpa using hcs) (fun j hj => ?_) ?_ (fun s' hs' hu => ?_) ?_
        · rw [Array.getElem?_setIfInBounds_ne (show i ≠ j from fun e => hj (e ▸ him))]; exact hco j hj
        · -- one less
          have hf : st.filter (fun s' => !(cur.setIfInBounds i true).getD s'.1 true) = (st.filter (fun s' => !cur.getD s'.1 true)).filter (fun s' => decide (s'.1 ≠ i)) := by
            rw [List.filter_filter]
            congr 1
            funext s'
            by_cases hq : s'.1 = i
            · rw [hq]; simp [Array.getD, show i < cur.size by omega]
            · have hq' : ¬ i = s'.1 := fun e => hq e.symm
              simp [Array.getD_eq_getD_getElem?, Array.getElem?_setIfInBounds, hq, hq']
          unfold unl at hcm ⊢
          rw [hf]
          have hmemf : s ∈ st.filter (fun s' => !cur.getD s'.1 true) := List.mem_filter.2 ⟨hs1, by rw [hs2, hiu]; rfl⟩
          have hndf : ((st.filter (fun s' => !cur.getD s'.1 true)).map (·.1)).Nodup := List.Nodup.sublist (List.Sublist.map _ List.filter_sublist) hnd'
          revert hcm hmemf hndf
          generalize st.filter (fun s' => !cur.getD s'.1 true) = L
          intro hcm hmemf hndf
          have gen : ∀ (L : Steps) (n : Nat), L.length = n + 1 → s ∈ L → (L.map (·.1)).Nodup → (L.filter (fun s' => decide (s'.1 ≠ i))).length = n := by
            intro L
            induction L with
            | nil => intro n h; simp at h
            | cons x r ihL =>
              intro n hn hm hnd
              simp only [List.map_cons, List.nodup_cons] at hnd
              rcases List.mem_cons.1 hm with rfl | hm
              · have hno : ∀ y ∈ r, y.1 ≠ i := fun y hy e => hnd.1 (List.mem_map.2 ⟨y, hy, by rw [e, hs2]⟩)
                have : (r.filter (fun s' => decide (s'.1 ≠ i))) = r := List.filter_eq_self.2 (fun y hy => by simpa using hno y hy)
                rw [List.filter_cons_of_neg (by simp [hs2]), this]
                simpa using hn
              · have hx : x.1 ≠ i := fun e => hnd.1 (List.mem_map.2 ⟨s, hm, by rw [hs2, e]⟩)
                have hr0 : 0 < r.length := List.length_pos_iff.2 (by rintro rfl; simp at hm)
                obtain ⟨n', rfl⟩ : ∃ n', n = n' + 1 := ⟨n - 1, by simp at hn; omega⟩
                rw [List.filter_cons_of_pos (by simpa using hx), List.length_cons, ihL n' (by simpa using hn) hm hnd.2]
          exact gen L m hcm hmemf hndf
        · by_cases hq : s'.1 = i
          · have : s' = s := by
              have h1 : s ∈ st := hs1
              have hinj : ∀ (L : Steps), (L.map (·.1)).Nodup → ∀ x ∈ L, ∀ y ∈ L, x.1 = y.1 → x = y := by
                intro L
                induction L with
                | nil => intro _ x hx; simp at hx
                | cons z r ihL =>
                  intro hnd x hx y hy hxy
                  simp only [List.map_cons, List.nodup_cons] at hnd
                  rcases List.mem_cons.1 hx with hx | hx <;> rcases List.mem_cons.1 hy with hy | hy
                  · rw [hx, hy]
                  · exact absurd (List.mem_map.2 ⟨y, hy, by rw [← hxy, hx]⟩) hnd.1
                  · exact absurd (List.mem_map.2 ⟨x, hx, by rw [hxy, hy]⟩) hnd.1
                  · exact ihL hnd.2 x hx y hy hxy
              exact hinj st hnd' s' hs' s hs1 (by rw [hq, hs2])
            rw [this]
            exact look_it _ _ _
          · have h1 : cur.getD s'.1 true = true := by
              have hq' : ¬ i = s'.1 := fun e => hq e.symm
              simpa [Array.getD_eq_getD_getElem?, Array.getElem?_setIfInBounds, hq'] using hu
            have h2 := hck s' hs' h1
            -- another slot
            have hne2 : s'.2.1 ≠ s.2.1 := by
              intro e
              obtain ⟨o3, _, f1, f2, _, _⟩ := hst s' hs'
              have h3 := List.all_eq_true.1 (ok3 s'.1 ((hmem s'.1).2 ⟨s', hs', rfl⟩)) i him
              rw [f1, ho] at h3
              simp only [Bool.or_eq_true, Bool.not_eq_true', f2, g2] at h3
              rcases h3 with h3 | h3
              · exact hq (Nat.eq_of_beq_eq_true h3)
              · rw [e] at h3; simp at h3
            show (bif Nat.beq s'.2.1 s.2.1 then some s.2.2 else look s'.2.1 fr) = _
            rw [beq_ne hne2]; exact h2
        · refine knows_of fun p hp => ?_
          have h1 := ok1 i him
          simp only [Bool.and_eq_true] at h1
          rw [ho] at h1
          simp only [g2, Bool.and_eq_true, Bool.not_eq_true'] at h1
          have hne3 : p.1 ≠ s.2.1 := by
            intro e
            have : (K0.map (·.1)).contains s.2.1 = true := by
              rw [List.contains_iff_mem]
              exact List.mem_map.2 ⟨p, hp, e⟩
            rw [h1.2.1] at this; cases this
          show (bif Nat.beq p.1 s.2.1 then some s.2.2 else look p.1 fr) = _
          rw [beq_ne hne3]; exact of_knows hk0 p hp
  have hm0 : unl listed st = idx.length := by
    unfold unl
    rw [List.filter_eq_self.2 (fun s hs => ?_), hlen]
    have := ok1 s.1 ((hmem s.1).2 ⟨s, hs, rfl⟩)
    simp only [Bool.and_eq_true] at this
    exact this.1
  have := key idx.length listed fr rfl (fun _ _ => rfl) hm0 (fun s hs hu => by
    have h1 := ok1 s.1 ((hmem s.1).2 ⟨s, hs, rfl⟩)
    simp only [Bool.and_eq_true, Bool.not_eq_true'] at h1
    rw [h1.1] at hu; cases hu) hK
  exact this
variable {ind : Bool} {d : Option Nat} {ty : TypeId} {pos : String} {after : Array Edge} {g : Option (Nat × Bool)}
/-- Reading a part of a variable that is a struct. -/
theorem q_loadpart_ptr {x : Operand} {t : TypeId} {u : TypeDesc} {h i j : Nat} {ob : AObj} {inf : TypeInfo} {L : List AV} (ht : P.underlying t = some u) (hu : isAggD u = true) (hinf : P.info? t = some inf) (hsz : Nat.ble (j + inf.size) ob.c.sz = true) (hx : ev fr x = some (.ptr h i j)) (hh : H[h]? = some (some ob))
    (hL : (List.range inf.size).map (fun e => ob.c.at i (j + e)) = L) (hi : i < ob.c.len) : QOp false P fn c fr H ⟨d, .load t x, ty, pos, after, g⟩ (.agg L) := by
  intro w a σ S hr
  have h1 := hr.evAt hx
  subst hL
  have hsz' := Nat.le_of_ble_eq_true hsz
  generalize hz : a.eval x = z at h1
  cases h1 with
  | ptr _ _ _ _ b s C hσ =>
    obtain ⟨hs', cur, g1, g2, g3, g4, g5, g6⟩ := hr.obj hh hσ
    subst hs'
    have hcell : ∀ w' : World, w'.heap = w.heap → ∀ e, e < inf.size → ∃ y, w'.cell? ⟨b, i * ob.c.sz + j + e, none⟩ = some y ∧ VR w S σ (ob.c.at i (j + e)) y ∧ y.oneCell' = true := by
      intro w' hw e he
      obtain ⟨y, e1, e2, e3⟩ := g6 i (j + e) hi (by omega)
      obtain ⟨mk, g1, _, _⟩ := g1.cells (by omega)
      exact ⟨y, by simp [World.cell?, hw, g1, Nat.add_assoc, e1], e2, e3⟩
    let cs : List Value := (List.range inf.size).map (fun e => (w.cell? ⟨b, i * ob.c.sz + j + e, none⟩).getD undef)
    refine ⟨.agg cs.toArray, .agg _ _ _ (by simp [cs]) (fun e he => ?_) (fun e he => ?_), fun w' hw => ?_⟩
    · have he' : e < inf.size := by simpa using he
      obtain ⟨y, e1, e2, _⟩ := hcell w rfl e he'
      simpa [cs, Array.getD, he', e1, List.getD] using e2
    · have he' : e < inf.size := by simpa using he
      obtain ⟨y, e1, _, e3⟩ := hcell w rfl e he'
      simpa [cs, Array.getD, he', e1] using e3
    · have hw := hw.resolve_left (by decide)
      have hl := run_loadCells_list (P := P) w' ⟨b, i * ob.c.sz + j, none⟩ cs (fun e v hv => by
        have he : e < inf.size := by simpa [cs] using (List.getElem?_eq_some_iff.1 hv).1
        obtain ⟨y, e1, _, _⟩ := hcell w rfl e he
        simp only [cs, List.getElem?_map, List.getElem?_range he, Option.map_some, Option.some.injEq] at hv
        subst hv
        rw [e1, Addr.add_lit]
        have := World.cell?_of_block (w := w) (w' := w') (a := ⟨b, i * ob.c.sz + j + e, none⟩) (by rw [hw])
        rw [this, e1]; rfl)
      have hcl : cs.length = inf.size := by simp [cs]
      rw [hcl] at hl
      have hz' : a.eval x = .pointer (some ⟨b, i * ob.c.sz + j, none⟩) := by rw [hz]
      simp [execOp, hz', Instr.loadAt, Instr.sureAddr, loadVar, run_isAgg ht, hu, sizeOf, typeInfo, hinf, hl]
end
end Go.Ax

/-
  Rational numbers as the program has them: numerator and denominator in lowest terms. No program in sight.
-/
namespace Go.Ax.Rt
open Go.Ax.Bg

/-- The quotient of integers, its parts. -/
theorem frac_nat (n : Int) (d : Nat) (hd : d ≠ 0) : (Rat.divInt n d).num.natAbs = n.natAbs / Nat.gcd n.natAbs d ∧ (Rat.divInt n d).den = d / Nat.gcd n.natAbs d ∧ ((Rat.divInt n d).num < 0 ↔ n < 0) := by
  have e : Rat.divInt n d = Rat.normalize n d hd := by rw [Rat.divInt_ofNat, ← Rat.normalize_eq_mkRat]
  have hg : 0 < Nat.gcd n.natAbs d := Nat.gcd_pos_of_pos_right _ (by omega)
  have hdv : (Nat.gcd n.natAbs d : Int) ∣ n := by
    rw [Int.ofNat_dvd_left]; exact Nat.gcd_dvd_left _ _
  rw [e, Rat.num_normalize, Rat.den_normalize]
  obtain ⟨q, hq⟩ := hdv
  generalize Nat.gcd n.natAbs d = g at *
  refine ⟨?_, rfl, ?_⟩
  · rw [hq, Int.mul_ediv_cancel_left _ (by omega), Int.natAbs_mul, Int.natAbs_natCast, Nat.mul_div_cancel_left _ hg]
  · rw [hq, Int.mul_ediv_cancel_left _ (by omega)]
    constructor
    · intro h; exact Int.mul_neg_of_pos_of_neg (by omega) h
    · intro h
      rcases Int.lt_or_le q 0 with z | z
      · exact z
      · exact absurd h (Int.not_lt.2 (Int.mul_nonneg (by omega) z))
theorem frac_parts (n d : Int) (hd : d ≠ 0) : (Rat.divInt n d).num.natAbs = n.natAbs / Nat.gcd n.natAbs d.natAbs ∧ (Rat.divInt n d).den = d.natAbs / Nat.gcd n.natAbs d.natAbs ∧ ((Rat.divInt n d).num < 0 ↔ n ≠ 0 ∧ ((n < 0 ∧ ¬ d < 0) ∨ (¬ n < 0 ∧ d < 0))) := by
  rcases Int.lt_or_le d 0 with h | h
  · obtain ⟨m, rfl⟩ : ∃ m : Nat, d = -(m : Int) := ⟨d.natAbs, by omega⟩
    have e : Rat.divInt n (-(m : Int)) = Rat.divInt (-n) m := Rat.divInt_neg' n m
    obtain ⟨h1, h2, h3⟩ := frac_nat (-n) m (by omega)
    rw [e]
    rw [Int.natAbs_neg] at h1 h2
    rw [Int.natAbs_neg, Int.natAbs_natCast]
    exact ⟨h1, h2, h3.trans (by omega)⟩
  · obtain ⟨m, rfl⟩ : ∃ m : Nat, d = (m : Int) := ⟨d.natAbs, by omega⟩
    obtain ⟨h1, h2, h3⟩ := frac_nat n m (by omega)
    rw [Int.natAbs_natCast]
    exact ⟨h1, h2, h3.trans (by omega)⟩
theorem add_frac (p q : Rat) : Rat.divInt (p.num * q.den + q.num * p.den) ((p.den * q.den : Nat) : Int) = p + q := by
  rw [Rat.add_def', Rat.divInt_ofNat]
theorem mul_frac (p q : Rat) : Rat.divInt (p.num * q.num) ((p.den * q.den : Nat) : Int) = p * q := by
  rw [Rat.mul_def', Rat.divInt_ofNat]
theorem div_frac (p q : Rat) (hq : q ≠ 0) : Rat.divInt (p.num * q.den) (q.num * p.den) = p / q := by
  have hn : q.num ≠ 0 := fun h => hq (Rat.num_eq_zero.1 h)
  have hp : (p.den : Int) ≠ 0 := by have := p.den_nz; omega
  have hqd : (q.den : Int) ≠ 0 := by have := q.den_nz; omega
  have h1 : Rat.divInt (p.num * q.den) (q.num * p.den) * q = p := by
    conv => lhs; rhs; rw [← Rat.num_divInt_den q]
    rw [Rat.divInt_mul_divInt]
    conv => rhs; rw [← Rat.num_divInt_den p]
    rw [Rat.divInt_eq_divInt_iff (Int.mul_ne_zero (Int.mul_ne_zero hn hp) hqd) hp]
    ac_rfl
  rw [← h1, Rat.mul_div_cancel hq]
  rw [h1]
def sgn (x : Int) : Int := if x < 0 then -1 else if x = 0 then 0 else 1
def cmpQ (p q : Rat) : Int := if p < q then -1 else if p = q then 0 else 1
theorem sgn_cmp (p q : Rat) : sgn (p.num * q.den - q.num * p.den) = cmpQ p q := by
  unfold sgn cmpQ
  have h1 : p < q ↔ p.num * q.den - q.num * p.den < 0 := by rw [Rat.lt_iff]; omega
  have h2 : p = q ↔ p.num * q.den - q.num * p.den = 0 := by rw [Rat.eq_iff_mul_eq_mul]; omega
  simp only [h1, h2]
theorem floor_parts (q : Rat) : q.floor = (if q.num < 0 ∧ 0 < q.num.natAbs % q.den then -((q.num.natAbs / q.den + 1 : Nat) : Int) else if q.num < 0 then -((q.num.natAbs / q.den : Nat) : Int) else ((q.num.natAbs / q.den : Nat) : Int)) := by
  rw [Rat.floor_def]
  have hd : 0 < q.den := Nat.pos_of_ne_zero q.den_nz
  generalize q.den = d at *
  generalize q.num = n at *
  rcases Int.lt_or_le n 0 with h | h
  · obtain ⟨m, rfl⟩ : ∃ m : Nat, n = -(m : Int) := ⟨n.natAbs, by omega⟩
    rw [Int.natAbs_neg, Int.natAbs_natCast]
    have hm := Nat.div_add_mod m d
    have hr := Nat.mod_lt m hd
    have hm' : (d : Int) * (m / d : Nat) + (m % d : Nat) = (m : Int) := by exact_mod_cast hm
    by_cases hz : 0 < m % d
    · rw [if_pos ⟨h, hz⟩, Int.ediv_eq_iff_of_pos (by omega)]
      generalize m / d = q at *
      generalize m % d = r at *
      have e : -((q + 1 : Nat) : Int) * (d : Int) = -((d : Int) * (q : Nat)) - d := by
        rw [Int.neg_mul, Int.natCast_add, Int.add_mul, Int.mul_comm]; omega
      rw [e]
      omega
    · rw [if_neg (by omega), if_pos h, Int.ediv_eq_iff_of_pos (by omega)]
      generalize m / d = q at *
      generalize m % d = r at *
      have e : -((q : Nat) : Int) * (d : Int) = -((d : Int) * (q : Nat)) := by
        rw [Int.neg_mul, Int.mul_comm]
      rw [e]
      omega
  · obtain ⟨m, rfl⟩ : ∃ m : Nat, n = (m : Int) := ⟨n.natAbs, by omega⟩
    rw [if_neg (by omega), if_neg (by omega), Int.natAbs_natCast]
    exact (Int.natCast_ediv m d).symm
def sgnI (b : Bool) (n : Nat) : Int := if b then -(n : Int) else n
theorem sgnI_abs (b : Bool) (n : Nat) : (sgnI b n).natAbs = n := by unfold sgnI; split <;> omega
theorem sgnI_neg (b : Bool) (n : Nat) : decide (sgnI b n < 0) = (b && decide (n ≠ 0)) := by
  unfold sgnI
  cases b
  · simp <;> try omega
  · simp only [if_true, Bool.true_and]
    rw [decide_eq_decide]; omega
theorem sgnI_self (x : Int) : sgnI (decide (x < 0)) x.natAbs = x := by
  unfold sgnI
  by_cases h : x < 0
  · simp [h]; omega
  · simp [h]; omega
end Go.Ax.Rt

namespace Go.Proofs.YtbeegiiiochblaaGreatDoor
open Go.Ax Go.Ax.Bg Go.Ax.Rt Go.RowKit
attribute [local irreducible] Ax Post QOp ACall PureOp
set_option maxRecDepth 100000
set_option maxHeartbeats 4000000

def intA (x : Int) : AV := .agg [.bool (decide (x < 0)), natA x.natAbs]
theorem made_ok (b : Bool) (n : Nat) : VCall Tryz.prog 95 [.bool b, natA n] (intA (sgnI b n)) := by
  have hp : 0 < (natL n).length ↔ n ≠ 0 := natL_pos_len
  have hr : intA (sgnI b n) = .agg [.bool (b && decide (n ≠ 0)), natA n] := by unfold intA; rw [sgnI_abs, sgnI_neg]
  rw [hr]
  refine ACall.value0 (acall_of_ax (P := Tryz.prog) (fn := Tryz.f95) rfl rfl (by kernel_rfl) rfl (fun c hR hfix => ?_)) (fix := fun _ => False) (fun _ h => h) rfl rfl
  unfold natA at hR ⊢
  cases b
  · repeat (first
      | refine ax_q (q_move rfl) ?_
      | refine ax_ops_nil ?_
      | refine ax_post_code ?_
      | refine ax_seq ?_
      | refine ax_region rfl ?_
      | refine ax_skip_not rfl rfl rfl ?_
      | refine ax_q (q_pick rfl rfl) ?_
      | refine ax_q (q_build rfl rfl rfl rfl rfl rfl) ?_
      | refine ax_alloc rfl rfl rfl ?_)
    refine ax_storeagg (c' := .box [.bool false, .ro (.ints .u32 (natL n)) 0 (natL n).length]) rfl rfl rfl rfl rfl Nat.zero_lt_one rfl rfl (fun i' j' hi' hj' => ?_) ?_
    · rw [if_pos (Nat.lt_one_iff.1 hi')]; rfl
    repeat (first
      | refine ax_ops_nil ?_
      | refine ax_post_code ?_
      | refine ax_return ?_)
    exact ax_ret hR rfl rfl
  · repeat (first
      | refine ax_q (q_move rfl) ?_
      | refine ax_ops_nil ?_
      | refine ax_post_code ?_
      | refine ax_seq ?_
      | refine ax_region rfl ?_
      | refine ax_guard rfl rfl ?_
      | refine ax_q (q_gtr rfl rfl) ?_
      | refine ax_q (q_pick rfl rfl) ?_
      | refine ax_q (q_len rfl rfl rfl) ?_
      | refine ax_q (q_build rfl rfl rfl rfl rfl rfl) ?_
      | refine ax_alloc rfl rfl rfl ?_)
    have e : decide (0 < ((natL n).length : Int)) = decide (n ≠ 0) := by rw [decide_eq_decide, ← hp]; omega
    refine ax_storeagg (c' := .box [.bool (decide (n ≠ 0)), .ro (.ints .u32 (natL n)) 0 (natL n).length]) rfl rfl rfl rfl rfl Nat.zero_lt_one rfl rfl (fun i' j' hi' hj' => ?_) ?_
    · rw [if_pos (Nat.lt_one_iff.1 hi'), ← e]; rfl
    repeat (first
      | refine ax_ops_nil ?_
      | refine ax_post_code ?_
      | refine ax_return ?_)
    exact ax_ret hR rfl rfl
theorem mul_sgn (x y : Int) : sgnI (!(decide (x < 0) == decide (y < 0))) (x.natAbs * y.natAbs) = x * y := by
  have h : (x * y).natAbs = x.natAbs * y.natAbs := Int.natAbs_mul x y
  unfold sgnI
  rcases Int.lt_trichotomy x 0 with hx | hx | hx <;> rcases Int.lt_trichotomy y 0 with hy | hy | hy
  · have := Int.mul_pos_of_neg_of_neg hx hy
    simp only [hx, hy]; simp; omega
  · subst hy; simp
  · have := Int.mul_neg_of_neg_of_pos hx hy
    simp only [hx, show ¬ y < 0 by omega]; simp; omega
  · subst hx; simp
  · subst hx; simp
  · subst hx; simp
  · have := Int.mul_neg_of_pos_of_neg hx hy
    simp only [hy, show ¬ x < 0 by omega]; simp; omega
  · subst hy; simp
  · have := Int.mul_pos hx hy
    simp only [show ¬ x < 0 by omega, show ¬ y < 0 by omega]; simp; omega
theorem imul_ok (x y : Int) (hx : (natL x.natAbs).length ≤ 1000000) (hy : (natL y.natAbs).length ≤ 1000000) : VCall Tryz.prog 93 [intA x, intA y] (intA (x * y)) := by
  have h1 := mul_ok x.natAbs y.natAbs (by omega) (by omega)
  have h2 := made_ok (!(decide (x < 0) == decide (y < 0))) (x.natAbs * y.natAbs)
  rw [mul_sgn] at h2
  refine ACall.value0 (acall_of_ax (P := Tryz.prog) (fn := Tryz.f93) rfl rfl (by kernel_rfl) rfl (fun c hR hfix => ?_)) (fix := fun _ => False) (fun _ h => h) rfl rfl
  repeat (first
    | refine ax_ops_nil ?_
    | refine ax_post_code ?_
    | refine ax_seq ?_
    | refine ax_region rfl ?_
    | refine ax_box rfl rfl ?_
    | refine ax_alloc rfl rfl rfl ?_)
  refine ax_regiond (by kernel_rfl) ?_
  refine ax_any_run (fuel := 1) [0, 1, 2, 3, 4, 5, 6, 7, 8, 9, 10] [(2, .ptr 0 0 0), (3, .ptr 1 0 0), (4, .ptr 2 0 0)] ⟨rfl, rfl, rfl, trivial⟩ (by kernel_rfl) (by decide) rfl rfl ?_
  refine px_q rfl rfl (q_field_ptr rfl rfl rfl rfl rfl rfl) ?_
  refine px_q rfl rfl (q_loadb_ptr rfl rfl rfl rfl rfl) ?_
  refine px_q rfl rfl (q_field_ptr rfl rfl rfl rfl rfl rfl) ?_
  refine px_q rfl rfl (q_loadb_ptr rfl rfl rfl rfl rfl) ?_
  refine px_q rfl rfl (q_boolneq rfl rfl rfl) ?_
  refine px_q rfl rfl (q_field_ptr rfl rfl rfl rfl rfl rfl) ?_
  refine px_q rfl rfl (q_loadb_ptr rfl rfl rfl rfl rfl) ?_
  refine px_q rfl rfl (q_field_ptr rfl rfl rfl rfl rfl rfl) ?_
  refine px_q rfl rfl (q_loadb_ptr rfl rfl rfl rfl rfl) ?_
  refine px_v rfl rfl rfl rfl rfl h1 ?_
  refine px_v rfl rfl rfl rfl rfl h2 ?_
  refine px_done ?_
  refine ax_any_step (is := [11]) (by kernel_rfl) (by simp) rfl ⟨fun o ho => ?_, trivial⟩
  all_goals (cases ho)
  skip
  unfold intA natA
  refine ax_storeagg (c' := .box [.bool (decide (x * y < 0)), .ro (.ints .u32 (natL (x * y).natAbs)) 0 (natL (x * y).natAbs).length]) rfl rfl rfl rfl rfl Nat.zero_lt_one rfl rfl (fun i' j' hi' hj' => ?_) ?_
  · rw [if_pos (Nat.lt_one_iff.1 hi')]; rfl
  repeat (first
    | refine ax_ops_nil ?_
    | refine ax_post_any ?_)
  refine ax_any_done (by kernel_rfl) ?_
  repeat (first
    | refine ax_post_code ?_
    | refine ax_return ?_)
  exact ax_ret hR rfl rfl
end Go.Proofs.YtbeegiiiochblaaGreatDoor

namespace Go.Proofs.YtbeegiiiochblaaGreatDoor
open Go.Ax Go.Ax.Bg Go.Ax.Rt Go.RowKit
attribute [local irreducible] Ax Post QOp ACall PureOp
set_option maxRecDepth 100000
set_option maxHeartbeats 4000000

theorem opp_sgn (x : Int) : sgnI (!decide (x < 0)) x.natAbs = -x := by
  unfold sgnI
  by_cases h : x < 0
  · simp [h]; omega
  · simp [h]; omega
theorem iopp_ok (x : Int) : VCall Tryz.prog 98 [intA x] (intA (-x)) := by
  have h2 := made_ok (!decide (x < 0)) x.natAbs
  rw [opp_sgn] at h2
  refine ACall.value0 (acall_of_ax (P := Tryz.prog) (fn := Tryz.f98) rfl rfl (by kernel_rfl) rfl (fun c hR hfix => ?_)) (fix := fun _ => False) (fun _ h => h) rfl rfl
  repeat (first
    | refine ax_ops_nil ?_
    | refine ax_post_code ?_
    | refine ax_seq ?_
    | refine ax_region rfl ?_
    | refine ax_q (q_loadb_ptr rfl rfl rfl rfl rfl) ?_
    | refine ax_q (q_not rfl) ?_
    | refine ax_q (q_field_ptr rfl rfl rfl rfl rfl rfl) ?_
    | refine ax_box rfl rfl ?_
    | refine ax_alloc rfl rfl rfl ?_)
  refine ax_callv rfl rfl rfl h2 ?_
  skip
  unfold intA
  refine ax_storeagg (c' := .box [.bool (decide (-x < 0)), natA (-x).natAbs]) rfl rfl rfl rfl rfl Nat.zero_lt_one rfl rfl (fun i' j' hi' hj' => ?_) ?_
  · rw [if_pos (Nat.lt_one_iff.1 hi')]; rfl
  repeat (first
    | refine ax_ops_nil ?_
    | refine ax_post_code ?_
    | refine ax_return ?_)
  exact ax_ret hR rfl rfl
theorem isign_ok (x : Int) : VCall Tryz.prog 97 [intA x] (.int .i64 (sgn x)) := by
  have hp : 0 < (natL x.natAbs).length ↔ x.natAbs ≠ 0 := natL_pos_len
  unfold sgn
  refine ACall.value0 (acall_of_ax (P := Tryz.prog) (fn := Tryz.f97) rfl rfl (by kernel_rfl) rfl (fun c hR hfix => ?_)) (fix := fun _ => False) (fun _ h => h) rfl rfl
  unfold intA natA
  rcases Int.lt_trichotomy x 0 with h | h | h
  · have e : decide (x < 0) = true := decide_eq_true h
    rw [e]
    rw [if_pos h] at hR
    repeat (first
      | refine ax_q (q_assign rfl) ?_
      | refine ax_ops_nil ?_
      | refine ax_post_code ?_
      | refine ax_seq ?_
      | refine ax_region rfl ?_
      | refine ax_block ?_
      | refine ax_q (q_loadb_ptr rfl rfl rfl rfl rfl) ?_
      | refine ax_q (q_eql rfl rfl) ?_
      | refine ax_q (q_len rfl rfl rfl) ?_
      | refine ax_q (q_field_ptr rfl rfl rfl rfl rfl rfl) ?_
      | refine ax_box rfl rfl ?_)
    refine ax_cond_dec rfl (fun h0 => absurd h0 (by omega)) (fun h0 => ?_)
    repeat (first
      | refine ax_q (q_assign rfl) ?_
      | refine ax_ops_nil ?_
      | refine ax_post_code ?_
      | refine ax_seq ?_
      | refine ax_region rfl ?_
      | refine ax_cond_true rfl ?_
      | refine ax_return ?_
      | refine ax_ret_code ?_
      | refine ax_ret_blk ?_
      | refine ax_q (q_loadb_ptr rfl rfl rfl rfl rfl) ?_
      | refine ax_q (q_field_ptr rfl rfl rfl rfl rfl rfl) ?_)
    exact ax_ret hR rfl rfl
  · subst h
    rw [if_neg (by omega), if_pos rfl] at hR
    have e0 : natL (0 : Int).natAbs = [] := natL_zero
    rw [e0]
    repeat (first
      | refine ax_q (q_assign rfl) ?_
      | refine ax_ops_nil ?_
      | refine ax_post_code ?_
      | refine ax_seq ?_
      | refine ax_region rfl ?_
      | refine ax_cond_true rfl ?_
      | refine ax_block ?_
      | refine ax_return ?_
      | refine ax_ret_code ?_
      | refine ax_ret_blk ?_
      | refine ax_q (q_loadb_ptr rfl rfl rfl rfl rfl) ?_
      | refine ax_q (q_eql rfl rfl) ?_
      | refine ax_q (q_len rfl rfl rfl) ?_
      | refine ax_q (q_field_ptr rfl rfl rfl rfl rfl rfl) ?_
      | refine ax_box rfl rfl ?_)
    exact ax_ret hR rfl rfl
  · have e : decide (x < 0) = false := decide_eq_false (by omega)
    rw [e]
    rw [if_neg (by omega), if_neg (by omega)] at hR
    repeat (first
      | refine ax_q (q_assign rfl) ?_
      | refine ax_ops_nil ?_
      | refine ax_post_code ?_
      | refine ax_seq ?_
      | refine ax_region rfl ?_
      | refine ax_block ?_
      | refine ax_q (q_loadb_ptr rfl rfl rfl rfl rfl) ?_
      | refine ax_q (q_eql rfl rfl) ?_
      | refine ax_q (q_len rfl rfl rfl) ?_
      | refine ax_q (q_field_ptr rfl rfl rfl rfl rfl rfl) ?_
      | refine ax_box rfl rfl ?_)
    refine ax_cond_dec rfl (fun h0 => absurd h0 (by omega)) (fun h0 => ?_)
    repeat (first
      | refine ax_q (q_assign rfl) ?_
      | refine ax_ops_nil ?_
      | refine ax_post_code ?_
      | refine ax_seq ?_
      | refine ax_region rfl ?_
      | refine ax_cond_false rfl ?_
      | refine ax_post_blk ?_
      | refine ax_skip ?_
      | refine ax_return ?_
      | refine ax_q (q_loadb_ptr rfl rfl rfl rfl rfl) ?_
      | refine ax_q (q_field_ptr rfl rfl rfl rfl rfl rfl) ?_)
    exact ax_ret hR rfl rfl
theorem add_sgn1 (x y : Int) (h : decide (x < 0) = decide (y < 0)) : sgnI (decide (x < 0)) (x.natAbs + y.natAbs) = x + y := by
  unfold sgnI
  rw [decide_eq_decide] at h
  by_cases h1 : x < 0
  · simp [h1]; omega
  · simp [h1]; omega
theorem add_sgn2 (x y : Int) (h : ¬ decide (x < 0) = decide (y < 0)) (h2 : y.natAbs ≤ x.natAbs) : sgnI (decide (x < 0)) (x.natAbs - y.natAbs) = x + y := by
  unfold sgnI
  rw [decide_eq_decide] at h
  by_cases h1 : x < 0
  · simp [h1]; omega
  · simp [h1]; omega
theorem add_sgn3 (x y : Int) (h : ¬ decide (x < 0) = decide (y < 0)) (h2 : ¬ y.natAbs ≤ x.natAbs) : sgnI (decide (y < 0)) (y.natAbs - x.natAbs) = x + y := by
  unfold sgnI
  rw [decide_eq_decide] at h
  by_cases h1 : y < 0
  · simp [h1]; omega
  · simp [h1]; omega
theorem cmpZ_le {x y : Int} : 0 ≤ cmpZ x y ↔ y ≤ x := by
  unfold cmpZ
  split
  · omega
  · split <;> omega
theorem iadd_ok (x y : Int) (hx : (natL x.natAbs).length ≤ 1000000) (hy : (natL y.natAbs).length ≤ 1000000) : VCall Tryz.prog 94 [intA x, intA y] (intA (x + y)) := by
  by_cases h : decide (x < 0) = decide (y < 0)
  · have h1 := add_ok x.natAbs y.natAbs (by omega) (by omega)
    have h2 := made_ok (decide (x < 0)) (x.natAbs + y.natAbs)
    rw [add_sgn1 x y h] at h2
    refine ACall.value0 (acall_of_ax (P := Tryz.prog) (fn := Tryz.f94) rfl rfl (by kernel_rfl) rfl (fun c hR hfix => ?_)) (fix := fun _ => False) (fun _ h => h) rfl rfl
    unfold intA at hR ⊢
    repeat (first
      | refine ax_ops_nil ?_
      | refine ax_post_code ?_
      | refine ax_seq ?_
      | refine ax_region rfl ?_
      | refine ax_q (q_loadb_ptr rfl rfl rfl rfl rfl) ?_
      | refine ax_q (q_field_ptr rfl rfl rfl rfl rfl rfl) ?_
      | refine ax_q (q_booleq rfl rfl rfl) ?_
      | refine ax_box rfl rfl ?_
      | refine ax_alloc rfl rfl rfl ?_)
    refine ax_slot 9 (.bool true) rfl (AEq.of_eq (by rw [h]; simp)) ?_
    repeat (first
      | refine ax_seq ?_
      | refine ax_cond_true rfl ?_)
    refine ax_regiond (by kernel_rfl) ?_
    refine ax_any_run (fuel := 1) [0, 1, 2, 3, 4, 5, 6, 7] [(2, .ptr 0 0 0), (3, .ptr 1 0 0), (4, .ptr 2 0 0)] ⟨rfl, rfl, rfl, trivial⟩ (by kernel_rfl) (by decide) rfl rfl ?_
    refine px_q rfl rfl (q_field_ptr rfl rfl rfl rfl rfl rfl) ?_
    refine px_q rfl rfl (q_loadb_ptr rfl rfl rfl rfl rfl) ?_
    refine px_q rfl rfl (q_field_ptr rfl rfl rfl rfl rfl rfl) ?_
    refine px_q rfl rfl (q_loadb_ptr rfl rfl rfl rfl rfl) ?_
    refine px_q rfl rfl (q_field_ptr rfl rfl rfl rfl rfl rfl) ?_
    refine px_q rfl rfl (q_loadb_ptr rfl rfl rfl rfl rfl) ?_
    refine px_v rfl rfl rfl rfl rfl h1 ?_
    refine px_v rfl rfl rfl rfl rfl h2 ?_
    refine px_done ?_
    refine ax_any_step (is := [8]) (by kernel_rfl) (by simp) rfl ⟨fun o ho => ?_, trivial⟩
    all_goals (cases ho)
    skip
    unfold intA
    refine ax_storeagg (c' := .box [.bool (decide (x + y < 0)), natA (x + y).natAbs]) rfl rfl rfl rfl rfl Nat.zero_lt_one rfl rfl (fun i' j' hi' hj' => ?_) ?_
    · rw [if_pos (Nat.lt_one_iff.1 hi')]; rfl
    repeat (first
      | refine ax_ops_nil ?_
      | refine ax_post_any ?_)
    refine ax_any_done (by kernel_rfl) ?_
    repeat (first
      | refine ax_post_code ?_
      | refine ax_return ?_
      | refine ax_ret_code ?_)
    exact ax_ret hR rfl rfl
  · have h0 := cmp_ok x.natAbs y.natAbs (by omega) (by omega)
    by_cases hc : y.natAbs ≤ x.natAbs
    · have h1 := sub_ok x.natAbs y.natAbs hc (by omega)
      have h2 := made_ok (decide (x < 0)) (x.natAbs - y.natAbs)
      rw [add_sgn2 x y h hc] at h2
      refine ACall.value0 (acall_of_ax (P := Tryz.prog) (fn := Tryz.f94) rfl rfl (by kernel_rfl) rfl (fun c hR hfix => ?_)) (fix := fun _ => False) (fun _ h => h) rfl rfl
      unfold intA at hR ⊢
      repeat (first
        | refine ax_ops_nil ?_
        | refine ax_post_code ?_
        | refine ax_seq ?_
        | refine ax_region rfl ?_
        | refine ax_q (q_loadb_ptr rfl rfl rfl rfl rfl) ?_
        | refine ax_q (q_field_ptr rfl rfl rfl rfl rfl rfl) ?_
        | refine ax_q (q_booleq rfl rfl rfl) ?_
        | refine ax_box rfl rfl ?_
        | refine ax_alloc rfl rfl rfl ?_)
      refine ax_slot 9 (.bool false) rfl (AEq.of_eq (by rw [beq_eq_false_iff_ne.2 h])) ?_
      repeat (first
        | refine ax_post_code ?_
        | refine ax_seq ?_
        | refine ax_region rfl ?_
        | refine ax_cond_false rfl ?_
        | refine ax_skip ?_
        | refine ax_q (q_loadb_ptr rfl rfl rfl rfl rfl) ?_
        | refine ax_q (q_field_ptr rfl rfl rfl rfl rfl rfl) ?_)
      refine ax_callv rfl rfl rfl h0 ?_
      repeat (first
        | refine ax_ops_nil ?_
        | refine ax_post_code ?_
        | refine ax_q (q_geq rfl rfl) ?_)
      refine ax_cond_dec rfl (fun h5 => ?_) (fun h5 => absurd (cmpZ_le.2 (Int.ofNat_le.2 hc)) h5)
      repeat (refine ax_seq ?_)
      refine ax_regiond (by kernel_rfl) ?_
      refine ax_any_run (fuel := 1) [0, 1, 2, 3, 4, 5, 6, 7] [(2, .ptr 0 0 0), (3, .ptr 1 0 0), (4, .ptr 2 0 0)] ⟨rfl, rfl, rfl, trivial⟩ (by kernel_rfl) (by decide) rfl rfl ?_
      refine px_q rfl rfl (q_field_ptr rfl rfl rfl rfl rfl rfl) ?_
      refine px_q rfl rfl (q_loadb_ptr rfl rfl rfl rfl rfl) ?_
      refine px_q rfl rfl (q_field_ptr rfl rfl rfl rfl rfl rfl) ?_
      refine px_q rfl rfl (q_loadb_ptr rfl rfl rfl rfl rfl) ?_
      refine px_q rfl rfl (q_field_ptr rfl rfl rfl rfl rfl rfl) ?_
      refine px_q rfl rfl (q_loadb_ptr rfl rfl rfl rfl rfl) ?_
      refine px_v rfl rfl rfl rfl rfl h1 ?_
      refine px_v rfl rfl rfl rfl rfl h2 ?_
      refine px_done ?_
      refine ax_any_step (is := [8]) (by kernel_rfl) (by simp) rfl ⟨fun o ho => ?_, trivial⟩
      all_goals (cases ho)
      skip
      unfold intA
      refine ax_storeagg (c' := .box [.bool (decide (x + y < 0)), natA (x + y).natAbs]) rfl rfl rfl rfl rfl Nat.zero_lt_one rfl rfl (fun i' j' hi' hj' => ?_) ?_
      · rw [if_pos (Nat.lt_one_iff.1 hi')]; rfl
      repeat (first
        | refine ax_ops_nil ?_
        | refine ax_post_any ?_)
      refine ax_any_done (by kernel_rfl) ?_
      repeat (first
        | refine ax_post_code ?_
        | refine ax_return ?_
        | refine ax_ret_code ?_)
      exact ax_ret hR rfl rfl
    · have h1 := sub_ok y.natAbs x.natAbs (by omega) (by omega)
      have h2 := made_ok (decide (y < 0)) (y.natAbs - x.natAbs)
      rw [add_sgn3 x y h hc] at h2
      refine ACall.value0 (acall_of_ax (P := Tryz.prog) (fn := Tryz.f94) rfl rfl (by kernel_rfl) rfl (fun c hR hfix => ?_)) (fix := fun _ => False) (fun _ h => h) rfl rfl
      unfold intA at hR ⊢
      repeat (first
        | refine ax_ops_nil ?_
        | refine ax_post_code ?_
        | refine ax_seq ?_
        | refine ax_region rfl ?_
        | refine ax_q (q_loadb_ptr rfl rfl rfl rfl rfl) ?_
        | refine ax_q (q_field_ptr rfl rfl rfl rfl rfl rfl) ?_
        | refine ax_q (q_booleq rfl rfl rfl) ?_
        | refine ax_box rfl rfl ?_
        | refine ax_alloc rfl rfl rfl ?_)
      refine ax_slot 9 (.bool false) rfl (AEq.of_eq (by rw [beq_eq_false_iff_ne.2 h])) ?_
      repeat (first
        | refine ax_post_code ?_
        | refine ax_seq ?_
        | refine ax_region rfl ?_
        | refine ax_cond_false rfl ?_
        | refine ax_skip ?_
        | refine ax_q (q_loadb_ptr rfl rfl rfl rfl rfl) ?_
        | refine ax_q (q_field_ptr rfl rfl rfl rfl rfl rfl) ?_)
      refine ax_callv rfl rfl rfl h0 ?_
      repeat (first
        | refine ax_ops_nil ?_
        | refine ax_post_code ?_
        | refine ax_q (q_geq rfl rfl) ?_)
      refine ax_cond_dec rfl (fun h5 => absurd (Int.ofNat_le.1 (cmpZ_le.1 h5)) hc) (fun h5 => ?_)
      repeat (first
        | refine ax_post_code ?_
        | refine ax_seq ?_
        | refine ax_skip ?_)
      refine ax_regiond (by kernel_rfl) ?_
      refine ax_any_run (fuel := 1) [0, 1, 2, 3, 4, 5, 6, 7] [(2, .ptr 0 0 0), (3, .ptr 1 0 0), (4, .ptr 2 0 0)] ⟨rfl, rfl, rfl, trivial⟩ (by kernel_rfl) (by decide) rfl rfl ?_
      refine px_q rfl rfl (q_field_ptr rfl rfl rfl rfl rfl rfl) ?_
      refine px_q rfl rfl (q_loadb_ptr rfl rfl rfl rfl rfl) ?_
      refine px_q rfl rfl (q_field_ptr rfl rfl rfl rfl rfl rfl) ?_
      refine px_q rfl rfl (q_loadb_ptr rfl rfl rfl rfl rfl) ?_
      refine px_q rfl rfl (q_field_ptr rfl rfl rfl rfl rfl rfl) ?_
      refine px_q rfl rfl (q_loadb_ptr rfl rfl rfl rfl rfl) ?_
      refine px_v rfl rfl rfl rfl rfl h1 ?_
      refine px_v rfl rfl rfl rfl rfl h2 ?_
      refine px_done ?_
      refine ax_any_step (is := [8]) (by kernel_rfl) (by simp) rfl ⟨fun o ho => ?_, trivial⟩
      all_goals (cases ho)
      skip
      unfold intA
      refine ax_storeagg (c' := .box [.bool (decide (x + y < 0)), natA (x + y).natAbs]) rfl rfl rfl rfl rfl Nat.zero_lt_one rfl rfl (fun i' j' hi' hj' => ?_) ?_
      · rw [if_pos (Nat.lt_one_iff.1 hi')]; rfl
      repeat (first
        | refine ax_ops_nil ?_
        | refine ax_post_any ?_)
      refine ax_any_done (by kernel_rfl) ?_
      repeat (first
        | refine ax_post_code ?_
        | refine ax_return ?_)
      exact ax_ret hR rfl rfl
theorem len_neg {x : Int} {k : Nat} (h : (natL x.natAbs).length ≤ k) : (natL (-x).natAbs).length ≤ k := by rw [Int.natAbs_neg]; exact h
theorem isub_ok (x y : Int) (hx : (natL x.natAbs).length ≤ 1000000) (hy : (natL y.natAbs).length ≤ 1000000) : VCall Tryz.prog 122 [intA x, intA y] (intA (x - y)) := by
  have h1 := iopp_ok y
  have h2 := iadd_ok x (-y) hx (len_neg hy)
  rw [show x + -y = x - y from rfl] at h2
  refine ACall.value0 (acall_of_ax (P := Tryz.prog) (fn := Tryz.f122) rfl rfl (by kernel_rfl) rfl (fun c hR hfix => ?_)) (fix := fun _ => False) (fun _ h => h) rfl rfl
  repeat (first
    | refine ax_ops_nil ?_
    | refine ax_post_code ?_
    | refine ax_seq ?_
    | refine ax_region rfl ?_
    | refine ax_box rfl rfl ?_
    | refine ax_alloc rfl rfl rfl ?_)
  refine ax_regiond (by kernel_rfl) ?_
  refine ax_any_run (fuel := 1) [0, 1, 2, 3] [(2, .ptr 0 0 0), (3, .ptr 1 0 0), (4, .ptr 2 0 0)] ⟨rfl, rfl, rfl, trivial⟩ (by kernel_rfl) (by decide) rfl rfl ?_
  refine px_q rfl rfl (q_loadpart_ptr rfl rfl rfl rfl rfl rfl rfl (by first | exact Nat.zero_lt_one | assumption | omega)) ?_
  refine px_q rfl rfl (q_loadpart_ptr rfl rfl rfl rfl rfl rfl rfl (by first | exact Nat.zero_lt_one | assumption | omega)) ?_
  refine px_v rfl rfl rfl rfl rfl h1 ?_
  refine px_v rfl rfl rfl rfl rfl h2 ?_
  refine px_done ?_
  refine ax_any_step (is := [4]) (by kernel_rfl) (by simp) rfl ⟨fun o ho => ?_, trivial⟩
  all_goals (cases ho)
  skip
  unfold intA
  refine ax_storeagg (c' := .box [.bool (decide (x - y < 0)), natA (x - y).natAbs]) rfl rfl rfl rfl rfl Nat.zero_lt_one rfl rfl (fun i' j' hi' hj' => ?_) ?_
  · rw [if_pos (Nat.lt_one_iff.1 hi')]; rfl
  repeat (first
    | refine ax_ops_nil ?_
    | refine ax_post_any ?_)
  refine ax_any_done (by kernel_rfl) ?_
  repeat (first
    | refine ax_post_code ?_
    | refine ax_return ?_)
  exact ax_ret hR rfl rfl
theorem icmp_ok (x y : Int) (hx : (natL x.natAbs).length ≤ 1000000) (hy : (natL y.natAbs).length ≤ 1000000) : VCall Tryz.prog 96 [intA x, intA y] (.int .i64 (sgn (x - y))) := by
  have h1 := isub_ok x y hx hy
  have h2 := isign_ok (x - y)
  refine ACall.value0 (acall_of_ax (P := Tryz.prog) (fn := Tryz.f96) rfl rfl (by kernel_rfl) rfl (fun c hR hfix => ?_)) (fix := fun _ => False) (fun _ h => h) rfl rfl
  repeat (first
    | refine ax_q (q_assign rfl) ?_
    | refine ax_ops_nil ?_
    | refine ax_post_code ?_
    | refine ax_seq ?_
    | refine ax_region rfl ?_
    | refine ax_q (q_loadpart_ptr rfl rfl rfl rfl rfl rfl rfl (by first | exact Nat.zero_lt_one | assumption | omega)) ?_
    | refine ax_box rfl rfl ?_)
  refine ax_callv rfl rfl rfl h1 ?_
  skip
  refine ax_callv rfl rfl rfl h2 ?_
  repeat (first
    | refine ax_q (q_assign rfl) ?_
    | refine ax_ops_nil ?_
    | refine ax_post_code ?_
    | refine ax_return ?_)
  exact ax_ret hR rfl rfl
theorem whole_ok (n : Int) (h : -9223372036854775808 ≤ n ∧ n < 9223372036854775808) : VCall Tryz.prog 88 [.int .i64 n] (intA n) := by
  refine ACall.value0 (acall_of_ax (P := Tryz.prog) (fn := Tryz.f88) rfl rfl (by kernel_rfl) rfl (fun c hR hfix => ?_)) (fix := fun _ => False) (fun _ h => h) rfl rfl
  rcases Int.lt_or_le n 0 with hn | hn
  · have h1 := small_ok n.natAbs (by omega)
    repeat (first
      | refine ax_q (q_move rfl) ?_
      | refine ax_ops_nil ?_
      | refine ax_post_code ?_
      | refine ax_seq ?_
      | refine ax_region rfl ?_
      | refine ax_q (q_lss rfl rfl) ?_
      | refine ax_alloc rfl rfl rfl ?_)
    refine ax_cond_dec rfl (fun _ => ?_) (fun h0 => absurd hn h0)
    repeat (first
      | refine ax_q (q_move rfl) ?_
      | refine ax_seq ?_
      | refine ax_region rfl ?_
      | refine ax_q (q_add rfl rfl (by omega)) ?_)
    refine ax_q (q_neg rfl (by omega)) ?_
    refine ax_slot_ops 7 (.int .i64 ((n.natAbs - 1 : Nat) : Int)) rfl (AEq.of_eq (congrArg _ (by omega))) ?_
    refine ax_q (q_uconv (m := n.natAbs - 1) rfl rfl rfl uk64 (by omega)) ?_
    refine ax_q (q_uadd (m := n.natAbs - 1) (n := 1) rfl rfl uk64 (by omega)) ?_
    refine ax_slot_ops 9 (.int .u64 ((n.natAbs : Nat) : Int)) rfl (AEq.of_eq (congrArg _ (by omega))) ?_
    skip
    refine ax_callv rfl rfl rfl h1 ?_
    repeat (refine ax_q (q_build rfl rfl rfl rfl rfl rfl) ?_)
    refine ax_storeagg (c' := .box [.bool true, natA n.natAbs]) rfl rfl rfl rfl rfl Nat.zero_lt_one rfl rfl (fun i' j' hi' hj' => ?_) ?_
    · rw [if_pos (Nat.lt_one_iff.1 hi')]; rfl
    repeat (first
      | refine ax_ops_nil ?_
      | refine ax_post_code ?_
      | refine ax_return ?_
      | refine ax_ret_code ?_)
    refine ax_ret hR rfl ?_
    unfold intA
    rw [show decide (n < 0) = true from decide_eq_true hn]
    rfl
  · have h1 := small_ok n.natAbs (by omega)
    repeat (first
      | refine ax_q (q_move rfl) ?_
      | refine ax_ops_nil ?_
      | refine ax_post_code ?_
      | refine ax_seq ?_
      | refine ax_region rfl ?_
      | refine ax_q (q_lss rfl rfl) ?_
      | refine ax_alloc rfl rfl rfl ?_)
    refine ax_cond_dec rfl (fun h0 => absurd h0 (by omega)) (fun h0 => ?_)
    repeat (first
      | refine ax_q (q_move rfl) ?_
      | refine ax_post_code ?_
      | refine ax_seq ?_
      | refine ax_region rfl ?_
      | refine ax_skip ?_)
    refine ax_slot_ops 12 (.int .i64 ((n.natAbs : Nat) : Int)) rfl (AEq.of_eq (congrArg _ (by omega))) ?_
    refine ax_q (q_uconv (m := n.natAbs) rfl rfl rfl uk64 (by omega)) ?_
    skip
    refine ax_callv rfl rfl rfl h1 ?_
    repeat (refine ax_q (q_build rfl rfl rfl rfl rfl rfl) ?_)
    refine ax_storeagg (c' := .box [.bool false, natA n.natAbs]) rfl rfl rfl rfl rfl Nat.zero_lt_one rfl rfl (fun i' j' hi' hj' => ?_) ?_
    · rw [if_pos (Nat.lt_one_iff.1 hi')]; rfl
    repeat (first
      | refine ax_ops_nil ?_
      | refine ax_post_code ?_
      | refine ax_return ?_)
    refine ax_ret hR rfl ?_
    unfold intA
    rw [show decide (n < 0) = false from decide_eq_false (by omega)]
    rfl
end Go.Proofs.YtbeegiiiochblaaGreatDoor

namespace Go.Proofs.YtbeegiiiochblaaGreatDoor
open Go.Ax Go.Ax.Bg Go.Ax.Rt Go.RowKit
attribute [local irreducible] Ax Post QOp ACall PureOp
set_option maxRecDepth 100000
set_option maxHeartbeats 4000000

def qA (q : Rat) : AV := .agg [.bool (decide (q.num < 0)), natA q.num.natAbs, natA q.den]
theorem int_nat (n : Nat) : intA (n : Int) = .agg [.bool false, natA n] := by
  unfold intA
  rw [show decide ((n : Int) < 0) = false from decide_eq_false (by omega), Int.natAbs_natCast]
theorem bne_iff {x y z : Int} (h : z < 0 ↔ x ≠ 0 ∧ ((x < 0 ∧ ¬ y < 0) ∨ (¬ x < 0 ∧ y < 0))) (hz : x = 0 → z = 0) : sgnI (!(decide (x < 0) == decide (y < 0))) z.natAbs = z := by
  unfold sgnI
  by_cases h1 : x < 0 <;> by_cases h2 : y < 0
  · simp [h1, h2]; have : ¬ z < 0 := fun q => by have := h.1 q; omega
    omega
  · simp [h1, h2]; have : z < 0 := h.2 (by omega)
    omega
  · simp [h1, h2]
    rcases Int.lt_or_le z 0 with q | q
    · omega
    · have : x = 0 := by
        rcases Int.lt_trichotomy x 0 with w | w | w
        · exact absurd w h1
        · exact w
        · exact absurd (h.2 ⟨by omega, .inr ⟨h1, h2⟩⟩) (by omega)
      have := hz this
      omega
  · simp [h1, h2]; have : ¬ z < 0 := fun q => by have := h.1 q; omega
    omega
theorem gcd_len {a b k : Nat} (ha : (natL a).length ≤ k) (hb : (natL b).length ≤ k) : (natL (Nat.gcd a b)).length ≤ k := by
  rcases Nat.eq_zero_or_pos a with h | h
  · subst h; rw [Nat.gcd_zero_left]; exact hb
  · exact natL_le_len (Nat.gcd_le_left b h) ha
theorem frac_ok (n d : Int) (hd : d ≠ 0) (hn : (natL n.natAbs).length ≤ 1000000) (hdl : (natL d.natAbs).length ≤ 1000000) : VCall Tryz.prog 87 [intA n, intA d] (qA (Rat.divInt n d)) := by
  obtain ⟨e1, e2, e3⟩ := frac_parts n d hd
  have hg := gcd_ok n.natAbs d.natAbs hn hdl
  have hgl := gcd_len hn hdl
  have hgp : 0 < Nat.gcd n.natAbs d.natAbs := Nat.gcd_pos_of_pos_right _ (by omega)
  have h1 := div_ok n.natAbs _ hgp hn hgl
  have h2 := div_ok d.natAbs _ hgp hdl hgl
  have h3 := made_ok (!(decide (n < 0) == decide (d < 0))) (Rat.divInt n d).num.natAbs
  rw [bne_iff e3 (fun h0 => by rw [h0, Rat.zero_divInt]; rfl)] at h3
  rw [← e1] at h1
  rw [← e2] at h2
  refine ACall.value0 (acall_of_ax (P := Tryz.prog) (fn := Tryz.f87) rfl rfl (by kernel_rfl) rfl (fun c hR hfix => ?_)) (fix := fun _ => False) (fun _ h => h) rfl rfl
  repeat (first
    | refine ax_ops_nil ?_
    | refine ax_post_code ?_
    | refine ax_seq ?_
    | refine ax_region rfl ?_
    | refine ax_q (q_loadb_ptr rfl rfl rfl rfl rfl) ?_
    | refine ax_q (q_field_ptr rfl rfl rfl rfl rfl rfl) ?_
    | refine ax_box rfl rfl ?_
    | refine ax_alloc rfl rfl rfl ?_)
  refine ax_callv rfl rfl rfl hg ?_
  repeat (first
    | refine ax_q (q_move rfl) ?_
    | refine ax_q (q_assign rfl) ?_
    | refine ax_ops_nil ?_
    | refine ax_post_code ?_
    | refine ax_seq ?_
    | refine ax_region rfl ?_
    | refine ax_q (q_loadb_ptr rfl rfl rfl rfl rfl) ?_
    | refine ax_q (q_field_ptr rfl rfl rfl rfl rfl rfl) ?_)
  refine ax_callv rfl rfl rfl h1 ?_
  repeat (first
    | refine ax_q (q_move rfl) ?_
    | refine ax_q (q_assign rfl) ?_
    | refine ax_ops_nil ?_
    | refine ax_post_code ?_
    | refine ax_seq ?_
    | refine ax_region rfl ?_
    | refine ax_q (q_loadb_ptr rfl rfl rfl rfl rfl) ?_
    | refine ax_q (q_extract rfl rfl) ?_
    | refine ax_q (q_field_ptr rfl rfl rfl rfl rfl rfl) ?_)
  refine ax_callv rfl rfl rfl h2 ?_
  repeat (first
    | refine ax_q (q_move rfl) ?_
    | refine ax_q (q_assign rfl) ?_
    | refine ax_ops_nil ?_
    | refine ax_post_code ?_
    | refine ax_seq ?_
    | refine ax_region rfl ?_
    | refine ax_q (q_loadb_ptr rfl rfl rfl rfl rfl) ?_
    | refine ax_q (q_extract rfl rfl) ?_
    | refine ax_q (q_field_ptr rfl rfl rfl rfl rfl rfl) ?_
    | refine ax_q (q_boolneq rfl rfl rfl) ?_)
  refine ax_callv rfl rfl rfl h3 ?_
  repeat (first
    | refine ax_q (q_move rfl) ?_
    | refine ax_q (q_build rfl rfl rfl rfl rfl rfl) ?_)
  refine ax_storeagg (c' := .box [.bool (decide ((Rat.divInt n d).num < 0)), natA (Rat.divInt n d).num.natAbs, natA (Rat.divInt n d).den]) rfl rfl rfl rfl rfl Nat.zero_lt_one rfl rfl (fun i' j' hi' hj' => ?_) ?_
  · rw [if_pos (Nat.lt_one_iff.1 hi')]; rfl
  repeat (first
    | refine ax_ops_nil ?_
    | refine ax_post_code ?_
    | refine ax_return ?_)
  exact ax_ret hR rfl rfl
def Sz (k : Nat) (q : Rat) : Prop := (natL q.num.natAbs).length ≤ k ∧ (natL q.den).length ≤ k
theorem imul_len {x y : Int} {k : Nat} (hx : (natL x.natAbs).length ≤ k) (hy : (natL y.natAbs).length ≤ k) : (natL (x * y).natAbs).length ≤ k + k := by
  rw [Int.natAbs_mul]; exact len_mul hx hy
theorem iadd_len {x y : Int} {k : Nat} (hx : (natL x.natAbs).length ≤ k) (hy : (natL y.natAbs).length ≤ k) : (natL (x + y).natAbs).length ≤ k + 1 :=
  natL_le_len (Int.natAbs_add_le x y) (len_add hx hy)
theorem den_ne (q : Rat) : (q.den : Int) ≠ 0 := by have := q.den_nz; omega
theorem qadd_ok (p q : Rat) (hp : Sz 100000 p) (hq : Sz 100000 q) : VCall Tryz.prog 56 [qA p, qA q] (qA (p + q)) := by
  have l1 : (natL (q.den : Int).natAbs).length ≤ 100000 := hq.2
  have l2 : (natL (p.den : Int).natAbs).length ≤ 100000 := hp.2
  have h1 := imul_ok p.num q.den (by have := hp.1; omega) (by omega)
  have h2 := imul_ok q.num p.den (by have := hq.1; omega) (by omega)
  have m1 := imul_len hp.1 l1
  have m2 := imul_len hq.1 l2
  have h3 := iadd_ok (p.num * q.den) (q.num * p.den) (by omega) (by omega)
  have h4 := mul_ok p.den q.den (by have := hp.2; omega) (by have := hq.2; omega)
  have m3 := iadd_len m1 m2
  have m4 := len_mul hp.2 hq.2
  have h5 := frac_ok (p.num * q.den + q.num * p.den) ((p.den * q.den : Nat) : Int) (by have := Nat.mul_ne_zero p.den_nz q.den_nz; omega) (by omega) (by rw [Int.natAbs_natCast]; omega)
  rw [int_nat, add_frac] at h5
  rw [int_nat] at h1 h2
  refine ACall.value0 (acall_of_ax (P := Tryz.prog) (fn := Tryz.f56) rfl rfl (by kernel_rfl) rfl (fun c hR hfix => ?_)) (fix := fun _ => False) (fun _ h => h) rfl rfl
  repeat (first
    | refine ax_ops_nil ?_
    | refine ax_post_code ?_
    | refine ax_seq ?_
    | refine ax_region rfl ?_
    | refine ax_box rfl rfl ?_
    | refine ax_alloc rfl rfl rfl ?_)
  refine ax_regiond (by kernel_rfl) ?_
  refine ax_any_run (fuel := 1) [0, 1, 2, 3, 4, 5, 6, 7, 8, 9, 10, 11, 12, 13, 14, 15, 16, 17, 18, 19] [(2, .ptr 0 0 0), (3, .ptr 1 0 0), (4, .ptr 2 0 0)] ⟨rfl, rfl, rfl, trivial⟩ (by kernel_rfl) (by decide) rfl rfl ?_
  refine px_q rfl rfl (q_field_ptr rfl rfl rfl rfl rfl rfl) ?_
  refine px_q rfl rfl (q_loadpart_ptr rfl rfl rfl rfl rfl rfl rfl (by first | exact Nat.zero_lt_one | assumption | omega)) ?_
  refine px_q rfl rfl (q_field_ptr rfl rfl rfl rfl rfl rfl) ?_
  refine px_q rfl rfl (q_loadb_ptr rfl rfl rfl rfl rfl) ?_
  refine px_q rfl rfl (q_build rfl rfl rfl rfl rfl rfl) ?_
  refine px_v rfl rfl rfl rfl rfl h1 ?_
  refine px_q rfl rfl (q_field_ptr rfl rfl rfl rfl rfl rfl) ?_
  refine px_q rfl rfl (q_loadpart_ptr rfl rfl rfl rfl rfl rfl rfl (by first | exact Nat.zero_lt_one | assumption | omega)) ?_
  refine px_q rfl rfl (q_field_ptr rfl rfl rfl rfl rfl rfl) ?_
  refine px_q rfl rfl (q_loadb_ptr rfl rfl rfl rfl rfl) ?_
  refine px_q rfl rfl (q_build rfl rfl rfl rfl rfl rfl) ?_
  refine px_v rfl rfl rfl rfl rfl h2 ?_
  refine px_v rfl rfl rfl rfl rfl h3 ?_
  refine px_q rfl rfl (q_field_ptr rfl rfl rfl rfl rfl rfl) ?_
  refine px_q rfl rfl (q_loadb_ptr rfl rfl rfl rfl rfl) ?_
  refine px_q rfl rfl (q_field_ptr rfl rfl rfl rfl rfl rfl) ?_
  refine px_q rfl rfl (q_loadb_ptr rfl rfl rfl rfl rfl) ?_
  refine px_v rfl rfl rfl rfl rfl h4 ?_
  refine px_q rfl rfl (q_build rfl rfl rfl rfl rfl rfl) ?_
  refine px_v rfl rfl rfl rfl rfl h5 ?_
  refine px_done ?_
  refine ax_any_step (is := [20]) (by kernel_rfl) (by simp) rfl ⟨fun o ho => ?_, trivial⟩
  all_goals (cases ho)
  skip
  unfold qA
  refine ax_storeagg (c' := .box [.bool (decide ((p + q).num < 0)), natA (p + q).num.natAbs, natA (p + q).den]) rfl rfl rfl rfl rfl Nat.zero_lt_one rfl rfl (fun i' j' hi' hj' => ?_) ?_
  · rw [if_pos (Nat.lt_one_iff.1 hi')]; rfl
  repeat (first
    | refine ax_ops_nil ?_
    | refine ax_post_any ?_)
  refine ax_any_done (by kernel_rfl) ?_
  repeat (first
    | refine ax_post_code ?_
    | refine ax_return ?_)
  exact ax_ret hR rfl rfl
theorem qmul_ok (p q : Rat) (hp : Sz 100000 p) (hq : Sz 100000 q) : VCall Tryz.prog 57 [qA p, qA q] (qA (p * q)) := by
  have h1 := imul_ok p.num q.num (by have := hp.1; omega) (by have := hq.1; omega)
  have m1 := imul_len hp.1 hq.1
  have h4 := mul_ok p.den q.den (by have := hp.2; omega) (by have := hq.2; omega)
  have m4 := len_mul hp.2 hq.2
  have h5 := frac_ok (p.num * q.num) ((p.den * q.den : Nat) : Int) (by have := Nat.mul_ne_zero p.den_nz q.den_nz; omega) (by omega) (by rw [Int.natAbs_natCast]; omega)
  rw [int_nat, mul_frac] at h5
  refine ACall.value0 (acall_of_ax (P := Tryz.prog) (fn := Tryz.f57) rfl rfl (by kernel_rfl) rfl (fun c hR hfix => ?_)) (fix := fun _ => False) (fun _ h => h) rfl rfl
  repeat (first
    | refine ax_ops_nil ?_
    | refine ax_post_code ?_
    | refine ax_seq ?_
    | refine ax_region rfl ?_
    | refine ax_box rfl rfl ?_
    | refine ax_alloc rfl rfl rfl ?_)
  refine ax_regiond (by kernel_rfl) ?_
  refine ax_any_run (fuel := 1) [0, 1, 2, 3, 4, 5, 6, 7, 8, 9, 10, 11] [(2, .ptr 0 0 0), (3, .ptr 1 0 0), (4, .ptr 2 0 0)] ⟨rfl, rfl, rfl, trivial⟩ (by kernel_rfl) (by decide) rfl rfl ?_
  refine px_q rfl rfl (q_field_ptr rfl rfl rfl rfl rfl rfl) ?_
  refine px_q rfl rfl (q_loadpart_ptr rfl rfl rfl rfl rfl rfl rfl (by first | exact Nat.zero_lt_one | assumption | omega)) ?_
  refine px_q rfl rfl (q_field_ptr rfl rfl rfl rfl rfl rfl) ?_
  refine px_q rfl rfl (q_loadpart_ptr rfl rfl rfl rfl rfl rfl rfl (by first | exact Nat.zero_lt_one | assumption | omega)) ?_
  refine px_v rfl rfl rfl rfl rfl h1 ?_
  refine px_q rfl rfl (q_field_ptr rfl rfl rfl rfl rfl rfl) ?_
  refine px_q rfl rfl (q_loadb_ptr rfl rfl rfl rfl rfl) ?_
  refine px_q rfl rfl (q_field_ptr rfl rfl rfl rfl rfl rfl) ?_
  refine px_q rfl rfl (q_loadb_ptr rfl rfl rfl rfl rfl) ?_
  refine px_v rfl rfl rfl rfl rfl h4 ?_
  refine px_q rfl rfl (q_build rfl rfl rfl rfl rfl rfl) ?_
  refine px_v rfl rfl rfl rfl rfl h5 ?_
  refine px_done ?_
  refine ax_any_step (is := [12]) (by kernel_rfl) (by simp) rfl ⟨fun o ho => ?_, trivial⟩
  all_goals (cases ho)
  skip
  unfold qA
  refine ax_storeagg (c' := .box [.bool (decide ((p * q).num < 0)), natA (p * q).num.natAbs, natA (p * q).den]) rfl rfl rfl rfl rfl Nat.zero_lt_one rfl rfl (fun i' j' hi' hj' => ?_) ?_
  · rw [if_pos (Nat.lt_one_iff.1 hi')]; rfl
  repeat (first
    | refine ax_ops_nil ?_
    | refine ax_post_any ?_)
  refine ax_any_done (by kernel_rfl) ?_
  repeat (first
    | refine ax_post_code ?_
    | refine ax_return ?_)
  exact ax_ret hR rfl rfl
theorem qdiv_ok (p q : Rat) (hp : Sz 100000 p) (hq : Sz 100000 q) (h0 : q ≠ 0) : VCall Tryz.prog 59 [qA p, qA q] (qA (p / q)) := by
  have l1 : (natL (q.den : Int).natAbs).length ≤ 100000 := hq.2
  have l2 : (natL (p.den : Int).natAbs).length ≤ 100000 := hp.2
  have h1 := imul_ok p.num q.den (by have := hp.1; omega) (by omega)
  have h2 := imul_ok q.num p.den (by have := hq.1; omega) (by omega)
  have m1 := imul_len hp.1 l1
  have m2 := imul_len hq.1 l2
  have hn : q.num ≠ 0 := fun h => h0 (Rat.num_eq_zero.1 h)
  have h5 := frac_ok (p.num * q.den) (q.num * p.den) (Int.mul_ne_zero hn (den_ne p)) (by omega) (by omega)
  rw [div_frac p q h0] at h5
  rw [int_nat] at h1 h2
  refine ACall.value0 (acall_of_ax (P := Tryz.prog) (fn := Tryz.f59) rfl rfl (by kernel_rfl) rfl (fun c hR hfix => ?_)) (fix := fun _ => False) (fun _ h => h) rfl rfl
  repeat (first
    | refine ax_ops_nil ?_
    | refine ax_post_code ?_
    | refine ax_seq ?_
    | refine ax_region rfl ?_
    | refine ax_box rfl rfl ?_
    | refine ax_alloc rfl rfl rfl ?_)
  refine ax_regiond (by kernel_rfl) ?_
  refine ax_any_run (fuel := 1) [0, 1, 2, 3, 4, 5, 6, 7, 8, 9, 10, 11, 12] [(2, .ptr 0 0 0), (3, .ptr 1 0 0), (4, .ptr 2 0 0)] ⟨rfl, rfl, rfl, trivial⟩ (by kernel_rfl) (by decide) rfl rfl ?_
  refine px_q rfl rfl (q_field_ptr rfl rfl rfl rfl rfl rfl) ?_
  refine px_q rfl rfl (q_loadpart_ptr rfl rfl rfl rfl rfl rfl rfl (by first | exact Nat.zero_lt_one | assumption | omega)) ?_
  refine px_q rfl rfl (q_field_ptr rfl rfl rfl rfl rfl rfl) ?_
  refine px_q rfl rfl (q_loadb_ptr rfl rfl rfl rfl rfl) ?_
  refine px_q rfl rfl (q_build rfl rfl rfl rfl rfl rfl) ?_
  refine px_v rfl rfl rfl rfl rfl h1 ?_
  refine px_q rfl rfl (q_field_ptr rfl rfl rfl rfl rfl rfl) ?_
  refine px_q rfl rfl (q_loadpart_ptr rfl rfl rfl rfl rfl rfl rfl (by first | exact Nat.zero_lt_one | assumption | omega)) ?_
  refine px_q rfl rfl (q_field_ptr rfl rfl rfl rfl rfl rfl) ?_
  refine px_q rfl rfl (q_loadb_ptr rfl rfl rfl rfl rfl) ?_
  refine px_q rfl rfl (q_build rfl rfl rfl rfl rfl rfl) ?_
  refine px_v rfl rfl rfl rfl rfl h2 ?_
  refine px_v rfl rfl rfl rfl rfl h5 ?_
  refine px_done ?_
  refine ax_any_step (is := [13]) (by kernel_rfl) (by simp) rfl ⟨fun o ho => ?_, trivial⟩
  all_goals (cases ho)
  skip
  unfold qA
  refine ax_storeagg (c' := .box [.bool (decide ((p / q).num < 0)), natA (p / q).num.natAbs, natA (p / q).den]) rfl rfl rfl rfl rfl Nat.zero_lt_one rfl rfl (fun i' j' hi' hj' => ?_) ?_
  · rw [if_pos (Nat.lt_one_iff.1 hi')]; rfl
  repeat (first
    | refine ax_ops_nil ?_
    | refine ax_post_any ?_)
  refine ax_any_done (by kernel_rfl) ?_
  repeat (first
    | refine ax_post_code ?_
    | refine ax_return ?_)
  exact ax_ret hR rfl rfl
theorem qcmp_ok (p q : Rat) (hp : Sz 100000 p) (hq : Sz 100000 q) : VCall Tryz.prog 61 [qA p, qA q] (.int .i64 (cmpQ p q)) := by
  have l1 : (natL (q.den : Int).natAbs).length ≤ 100000 := hq.2
  have l2 : (natL (p.den : Int).natAbs).length ≤ 100000 := hp.2
  have h1 := imul_ok p.num q.den (by have := hp.1; omega) (by omega)
  have h2 := imul_ok q.num p.den (by have := hq.1; omega) (by omega)
  have m1 := imul_len hp.1 l1
  have m2 := imul_len hq.1 l2
  have h5 := icmp_ok (p.num * q.den) (q.num * p.den) (by omega) (by omega)
  rw [sgn_cmp p q] at h5
  rw [int_nat] at h1 h2
  refine ACall.value0 (acall_of_ax (P := Tryz.prog) (fn := Tryz.f61) rfl rfl (by kernel_rfl) rfl (fun c hR hfix => ?_)) (fix := fun _ => False) (fun _ h => h) rfl rfl
  repeat (first
    | refine ax_q (q_assign rfl) ?_
    | refine ax_ops_nil ?_
    | refine ax_post_code ?_
    | refine ax_seq ?_
    | refine ax_region rfl ?_
    | refine ax_box rfl rfl ?_)
  refine ax_regiond (by kernel_rfl) ?_
  refine ax_any_run (fuel := 0) [0, 1, 2, 3, 4, 5, 6, 7, 8, 9, 10, 11, 12, 13] [(2, .ptr 0 0 0), (3, .ptr 1 0 0)] ⟨rfl, rfl, trivial⟩ (by kernel_rfl) (by decide) rfl rfl ?_
  refine px_q rfl rfl (q_field_ptr rfl rfl rfl rfl rfl rfl) ?_
  refine px_q rfl rfl (q_loadpart_ptr rfl rfl rfl rfl rfl rfl rfl (by first | exact Nat.zero_lt_one | assumption | omega)) ?_
  refine px_q rfl rfl (q_field_ptr rfl rfl rfl rfl rfl rfl) ?_
  refine px_q rfl rfl (q_loadb_ptr rfl rfl rfl rfl rfl) ?_
  refine px_q rfl rfl (q_build rfl rfl rfl rfl rfl rfl) ?_
  refine px_v rfl rfl rfl rfl rfl h1 ?_
  refine px_q rfl rfl (q_field_ptr rfl rfl rfl rfl rfl rfl) ?_
  refine px_q rfl rfl (q_loadpart_ptr rfl rfl rfl rfl rfl rfl rfl (by first | exact Nat.zero_lt_one | assumption | omega)) ?_
  refine px_q rfl rfl (q_field_ptr rfl rfl rfl rfl rfl rfl) ?_
  refine px_q rfl rfl (q_loadb_ptr rfl rfl rfl rfl rfl) ?_
  refine px_q rfl rfl (q_build rfl rfl rfl rfl rfl rfl) ?_
  refine px_v rfl rfl rfl rfl rfl h2 ?_
  refine px_v rfl rfl rfl rfl rfl h5 ?_
  refine px_q rfl rfl (q_assign rfl) ?_
  refine px_done ?_
  refine ax_any_done (by kernel_rfl) ?_
  repeat (first
    | refine ax_post_code ?_
    | refine ax_return ?_)
  exact ax_ret hR rfl rfl
theorem qsign_ok (p : Rat) : VCall Tryz.prog 62 [qA p] (.int .i64 (sgn p.num)) := by
  have h1 := isign_ok p.num
  refine ACall.value0 (acall_of_ax (P := Tryz.prog) (fn := Tryz.f62) rfl rfl (by kernel_rfl) rfl (fun c hR hfix => ?_)) (fix := fun _ => False) (fun _ h => h) rfl rfl
  repeat (first
    | refine ax_q (q_assign rfl) ?_
    | refine ax_ops_nil ?_
    | refine ax_post_code ?_
    | refine ax_seq ?_
    | refine ax_region rfl ?_
    | refine ax_q (q_field_ptr rfl rfl rfl rfl rfl rfl) ?_
    | refine ax_q (q_loadpart_ptr rfl rfl rfl rfl rfl rfl rfl (by first | exact Nat.zero_lt_one | assumption | omega)) ?_
    | refine ax_box rfl rfl ?_)
  refine ax_callv rfl rfl rfl h1 ?_
  repeat (first
    | refine ax_q (q_assign rfl) ?_
    | refine ax_ops_nil ?_
    | refine ax_post_code ?_
    | refine ax_return ?_)
  exact ax_ret hR rfl rfl
theorem qopp_ok (p : Rat) : VCall Tryz.prog 64 [qA p] (qA (-p)) := by
  have h1 := iopp_ok p.num
  refine ACall.value0 (acall_of_ax (P := Tryz.prog) (fn := Tryz.f64) rfl rfl (by kernel_rfl) rfl (fun c hR hfix => ?_)) (fix := fun _ => False) (fun _ h => h) rfl rfl
  repeat (first
    | refine ax_ops_nil ?_
    | refine ax_post_code ?_
    | refine ax_seq ?_
    | refine ax_region rfl ?_
    | refine ax_box rfl rfl ?_
    | refine ax_alloc rfl rfl rfl ?_)
  refine ax_regiond (by kernel_rfl) ?_
  refine ax_any_run (fuel := 1) [0, 1, 2, 3, 4, 5] [(1, .ptr 0 0 0), (2, .ptr 1 0 0)] ⟨rfl, rfl, trivial⟩ (by kernel_rfl) (by decide) rfl rfl ?_
  refine px_q rfl rfl (q_field_ptr rfl rfl rfl rfl rfl rfl) ?_
  refine px_q rfl rfl (q_loadpart_ptr rfl rfl rfl rfl rfl rfl rfl (by first | exact Nat.zero_lt_one | assumption | omega)) ?_
  refine px_v rfl rfl rfl rfl rfl h1 ?_
  refine px_q rfl rfl (q_field_ptr rfl rfl rfl rfl rfl rfl) ?_
  refine px_q rfl rfl (q_loadb_ptr rfl rfl rfl rfl rfl) ?_
  refine px_q rfl rfl (q_build rfl rfl rfl rfl rfl rfl) ?_
  refine px_done ?_
  refine ax_any_step (is := [6]) (by kernel_rfl) (by simp) rfl ⟨fun o ho => ?_, trivial⟩
  all_goals (cases ho)
  skip
  refine ax_storeagg (c' := .box [.bool (decide ((-p).num < 0)), natA (-p).num.natAbs, natA (-p).den]) rfl rfl rfl rfl rfl Nat.zero_lt_one rfl rfl (fun i' j' hi' hj' => ?_) ?_
  · rw [if_pos (Nat.lt_one_iff.1 hi')]; rfl
  repeat (first
    | refine ax_ops_nil ?_
    | refine ax_post_any ?_)
  refine ax_any_done (by kernel_rfl) ?_
  repeat (first
    | refine ax_post_code ?_
    | refine ax_return ?_)
  exact ax_ret hR rfl rfl
theorem sz_neg {k : Nat} {q : Rat} (h : Sz k q) : Sz k (-q) := by
  refine ⟨?_, h.2⟩
  show (natL (-q.num).natAbs).length ≤ k
  rw [Int.natAbs_neg]; exact h.1
theorem qsub_ok (p q : Rat) (hp : Sz 100000 p) (hq : Sz 100000 q) : VCall Tryz.prog 58 [qA p, qA q] (qA (p - q)) := by
  have h1 := qopp_ok q
  have h2 := qadd_ok p (-q) hp (sz_neg hq)
  rw [← Rat.sub_eq_add_neg] at h2
  refine ACall.value0 (acall_of_ax (P := Tryz.prog) (fn := Tryz.f58) rfl rfl (by kernel_rfl) rfl (fun c hR hfix => ?_)) (fix := fun _ => False) (fun _ h => h) rfl rfl
  repeat (first
    | refine ax_ops_nil ?_
    | refine ax_post_code ?_
    | refine ax_seq ?_
    | refine ax_region rfl ?_
    | refine ax_box rfl rfl ?_
    | refine ax_alloc rfl rfl rfl ?_)
  refine ax_regiond (by kernel_rfl) ?_
  refine ax_any_run (fuel := 1) [0, 1, 2, 3] [(2, .ptr 0 0 0), (3, .ptr 1 0 0), (4, .ptr 2 0 0)] ⟨rfl, rfl, rfl, trivial⟩ (by kernel_rfl) (by decide) rfl rfl ?_
  refine px_q rfl rfl (q_loadpart_ptr rfl rfl rfl rfl rfl rfl rfl (by first | exact Nat.zero_lt_one | assumption | omega)) ?_
  refine px_q rfl rfl (q_loadpart_ptr rfl rfl rfl rfl rfl rfl rfl (by first | exact Nat.zero_lt_one | assumption | omega)) ?_
  refine px_v rfl rfl rfl rfl rfl h1 ?_
  refine px_v rfl rfl rfl rfl rfl h2 ?_
  refine px_done ?_
  refine ax_any_step (is := [4]) (by kernel_rfl) (by simp) rfl ⟨fun o ho => ?_, trivial⟩
  all_goals (cases ho)
  skip
  unfold qA
  refine ax_storeagg (c' := .box [.bool (decide ((p - q).num < 0)), natA (p - q).num.natAbs, natA (p - q).den]) rfl rfl rfl rfl rfl Nat.zero_lt_one rfl rfl (fun i' j' hi' hj' => ?_) ?_
  · rw [if_pos (Nat.lt_one_iff.1 hi')]; rfl
  repeat (first
    | refine ax_ops_nil ?_
    | refine ax_post_any ?_)
  refine ax_any_done (by kernel_rfl) ?_
  repeat (first
    | refine ax_post_code ?_
    | refine ax_return ?_)
  exact ax_ret hR rfl rfl
end Go.Proofs.YtbeegiiiochblaaGreatDoor

namespace Go.Proofs.YtbeegiiiochblaaGreatDoor
open Go.Ax Go.Ax.Bg Go.Ax.Rt Go.RowKit
attribute [local irreducible] Ax Post QOp ACall PureOp
set_option maxRecDepth 100000
set_option maxHeartbeats 4000000

open Go.Ax.Tb (cutF cutF_idx)
theorem natA_one : natA 1 = .ro (.ints .u32 [1]) 0 1 := by unfold natA; rw [natL_one]; rfl
theorem qA_int (z : Int) : qA (z : Rat) = .agg [.bool (decide (z < 0)), natA z.natAbs, natA 1] := rfl
theorem qof_ok (n : Int) (h : -9223372036854775808 ≤ n ∧ n < 9223372036854775808) : VCall Tryz.prog 70 [.int .i64 n] (qA (n : Rat)) := by
  have h1 := whole_ok n h
  refine ACall.value0 (acall_of_ax (P := Tryz.prog) (fn := Tryz.f70) rfl rfl (by kernel_rfl) rfl (fun c hR hfix => ?_)) (fix := fun _ => False) (fun _ h => h) rfl rfl
  repeat (first
    | refine ax_q (q_move rfl) ?_
    | refine ax_ops_nil ?_
    | refine ax_post_code ?_
    | refine ax_seq ?_
    | refine ax_region rfl ?_
    | refine ax_alloc rfl rfl rfl ?_)
  refine ax_callv rfl rfl rfl h1 ?_
  unfold intA
  repeat (first
    | refine ax_q (q_build rfl rfl rfl rfl rfl rfl) ?_
    | refine ax_buildSliceRo rfl rfl rfl rfl rfl rfl rfl rfl rfl rfl rfl ?_)
  refine ax_storeagg (c' := .box [.bool (decide (n < 0)), natA n.natAbs, .ro (.ints .u32 [1]) 0 1]) rfl rfl rfl rfl rfl Nat.zero_lt_one rfl rfl (fun i' j' hi' hj' => ?_) ?_
  · rw [if_pos (Nat.lt_one_iff.1 hi')]; rfl
  repeat (first
    | refine ax_ops_nil ?_
    | refine ax_post_code ?_
    | refine ax_return ?_)
  refine ax_ret hR rfl ?_
  rw [qA_int, natA_one]
  rfl
theorem floor1 {q : Rat} (h : q.num < 0) (h2 : 0 < q.num.natAbs % q.den) : sgnI true (q.num.natAbs / q.den + 1) = q.floor := by
  rw [floor_parts, if_pos ⟨h, h2⟩]; rfl
theorem floor2 {q : Rat} (h : q.num < 0) (h2 : ¬ 0 < q.num.natAbs % q.den) : sgnI true (q.num.natAbs / q.den) = q.floor := by
  rw [floor_parts, if_neg (fun h3 => h2 h3.2), if_pos h]; rfl
theorem floor3 {q : Rat} (h : ¬ q.num < 0) : sgnI false (q.num.natAbs / q.den) = q.floor := by
  rw [floor_parts, if_neg (fun h3 => h h3.1), if_neg h]; rfl
theorem qfloor_ok (q : Rat) (hq : Sz 100000 q) : VCall Tryz.prog 65 [qA q] (qA (q.floor : Rat)) := by
  have hd : 0 < q.den := Nat.pos_of_ne_zero q.den_nz
  have h1 := div_ok q.num.natAbs q.den hd (by have := hq.1; omega) (by have := hq.2; omega)
  have hl : (natL (q.num.natAbs / q.den)).length ≤ 100000 := natL_le_len (Nat.div_le_self _ _) hq.1
  have hp : 0 < (natL (q.num.natAbs % q.den)).length ↔ q.num.natAbs % q.den ≠ 0 := natL_pos_len
  by_cases hn : q.num < 0
  · by_cases hz : 0 < q.num.natAbs % q.den
    · have h2 := add_ok (q.num.natAbs / q.den) 1 (by omega) (by rw [natL_one]; simp)
      rw [natA_one] at h2
      have h3 := made_ok true (q.num.natAbs / q.den + 1)
      rw [floor1 hn hz] at h3
      refine ACall.value0 (acall_of_ax (P := Tryz.prog) (fn := Tryz.f65) rfl rfl (by kernel_rfl) rfl (fun c hR hfix => ?_)) (fix := fun _ => False) (fun _ h => h) rfl rfl
      rw [qA_int, natA_one] at hR
      unfold qA
      rw [decide_eq_true hn]
      repeat (first
        | refine ax_ops_nil ?_
        | refine ax_post_code ?_
        | refine ax_seq ?_
        | refine ax_region rfl ?_
        | refine ax_q (q_loadb_ptr rfl rfl rfl rfl rfl) ?_
        | refine ax_q (q_field_ptr rfl rfl rfl rfl rfl rfl) ?_
        | refine ax_box rfl rfl ?_
        | refine ax_alloc rfl rfl rfl ?_)
      refine ax_callv rfl rfl rfl h1 ?_
      repeat (first
        | refine ax_q (q_move rfl) ?_
        | refine ax_q (q_assign rfl) ?_
        | refine ax_ops_nil ?_
        | refine ax_post_code ?_
        | refine ax_seq ?_
        | refine ax_region rfl ?_
        | refine ax_guard rfl rfl ?_
        | refine ax_q (q_loadb_ptr rfl rfl rfl rfl rfl) ?_
        | refine ax_q (q_gtr rfl rfl) ?_
        | refine ax_q (q_pick rfl rfl) ?_
        | refine ax_q (q_extract rfl rfl) ?_
        | refine ax_q (q_len rfl rfl rfl) ?_
        | refine ax_q (q_field_ptr rfl rfl rfl rfl rfl rfl) ?_)
      refine ax_cond_dec rfl (fun _ => ?_) (fun h0 => absurd (Int.natCast_pos.2 (hp.2 (by omega))) h0)
      repeat (first
        | refine ax_q (q_move rfl) ?_
        | refine ax_region rfl ?_
        | refine ax_buildSliceRo rfl rfl rfl rfl rfl rfl rfl rfl rfl rfl rfl ?_)
      refine ax_callv rfl rfl rfl h2 ?_
      repeat (first
        | refine ax_q (q_move rfl) ?_
        | refine ax_q (q_assign rfl) ?_
        | refine ax_ops_nil ?_
        | refine ax_post_code ?_
        | refine ax_seq ?_
        | refine ax_region rfl ?_
        | refine ax_q (q_loadb_ptr rfl rfl rfl rfl rfl) ?_
        | refine ax_q (q_field_ptr rfl rfl rfl rfl rfl rfl) ?_)
      refine ax_callv rfl rfl rfl h3 ?_
      unfold intA
      repeat (first
        | refine ax_q (q_build rfl rfl rfl rfl rfl rfl) ?_
        | refine ax_buildSliceRo rfl rfl rfl rfl rfl rfl rfl rfl rfl rfl rfl ?_)
      refine ax_storeagg (c' := .box [.bool (decide (q.floor < 0)), natA q.floor.natAbs, .ro (.ints .u32 [1]) 0 1]) rfl rfl rfl rfl rfl Nat.zero_lt_one rfl rfl (fun i' j' hi' hj' => ?_) ?_
      · rw [if_pos (Nat.lt_one_iff.1 hi')]; rfl
      repeat (first
        | refine ax_ops_nil ?_
        | refine ax_post_code ?_
        | refine ax_return ?_)
      exact ax_ret hR rfl rfl
    · have h3 := made_ok true (q.num.natAbs / q.den)
      rw [floor2 hn hz] at h3
      refine ACall.value0 (acall_of_ax (P := Tryz.prog) (fn := Tryz.f65) rfl rfl (by kernel_rfl) rfl (fun c hR hfix => ?_)) (fix := fun _ => False) (fun _ h => h) rfl rfl
      rw [qA_int, natA_one] at hR
      unfold qA
      rw [decide_eq_true hn]
      repeat (first
        | refine ax_ops_nil ?_
        | refine ax_post_code ?_
        | refine ax_seq ?_
        | refine ax_region rfl ?_
        | refine ax_q (q_loadb_ptr rfl rfl rfl rfl rfl) ?_
        | refine ax_q (q_field_ptr rfl rfl rfl rfl rfl rfl) ?_
        | refine ax_box rfl rfl ?_
        | refine ax_alloc rfl rfl rfl ?_)
      refine ax_callv rfl rfl rfl h1 ?_
      repeat (first
        | refine ax_q (q_move rfl) ?_
        | refine ax_q (q_assign rfl) ?_
        | refine ax_ops_nil ?_
        | refine ax_post_code ?_
        | refine ax_seq ?_
        | refine ax_region rfl ?_
        | refine ax_guard rfl rfl ?_
        | refine ax_q (q_loadb_ptr rfl rfl rfl rfl rfl) ?_
        | refine ax_q (q_gtr rfl rfl) ?_
        | refine ax_q (q_pick rfl rfl) ?_
        | refine ax_q (q_extract rfl rfl) ?_
        | refine ax_q (q_len rfl rfl rfl) ?_
        | refine ax_q (q_field_ptr rfl rfl rfl rfl rfl rfl) ?_)
      refine ax_cond_dec rfl (fun h0 => absurd (Nat.pos_of_ne_zero (hp.1 (Int.natCast_pos.1 h0))) hz) (fun h0 => ?_)
      repeat (first
        | refine ax_q (q_move rfl) ?_
        | refine ax_post_code ?_
        | refine ax_seq ?_
        | refine ax_region rfl ?_
        | refine ax_skip ?_
        | refine ax_q (q_loadb_ptr rfl rfl rfl rfl rfl) ?_
        | refine ax_q (q_field_ptr rfl rfl rfl rfl rfl rfl) ?_)
      refine ax_callv rfl rfl rfl h3 ?_
      unfold intA
      repeat (first
        | refine ax_q (q_build rfl rfl rfl rfl rfl rfl) ?_
        | refine ax_buildSliceRo rfl rfl rfl rfl rfl rfl rfl rfl rfl rfl rfl ?_)
      refine ax_storeagg (c' := .box [.bool (decide (q.floor < 0)), natA q.floor.natAbs, .ro (.ints .u32 [1]) 0 1]) rfl rfl rfl rfl rfl Nat.zero_lt_one rfl rfl (fun i' j' hi' hj' => ?_) ?_
      · rw [if_pos (Nat.lt_one_iff.1 hi')]; rfl
      repeat (first
        | refine ax_ops_nil ?_
        | refine ax_post_code ?_
        | refine ax_return ?_)
      exact ax_ret hR rfl rfl
  · have h3 := made_ok false (q.num.natAbs / q.den)
    rw [floor3 hn] at h3
    refine ACall.value0 (acall_of_ax (P := Tryz.prog) (fn := Tryz.f65) rfl rfl (by kernel_rfl) rfl (fun c hR hfix => ?_)) (fix := fun _ => False) (fun _ h => h) rfl rfl
    rw [qA_int, natA_one] at hR
    unfold qA
    rw [decide_eq_false hn]
    repeat (first
      | refine ax_ops_nil ?_
      | refine ax_post_code ?_
      | refine ax_seq ?_
      | refine ax_region rfl ?_
      | refine ax_q (q_loadb_ptr rfl rfl rfl rfl rfl) ?_
      | refine ax_q (q_field_ptr rfl rfl rfl rfl rfl rfl) ?_
      | refine ax_box rfl rfl ?_
      | refine ax_alloc rfl rfl rfl ?_)
    refine ax_callv rfl rfl rfl h1 ?_
    repeat (first
      | refine ax_q (q_move rfl) ?_
      | refine ax_q (q_assign rfl) ?_
      | refine ax_ops_nil ?_
      | refine ax_post_code ?_
      | refine ax_seq ?_
      | refine ax_region rfl ?_
      | refine ax_skip_not rfl rfl rfl ?_
      | refine ax_cond_false rfl ?_
      | refine ax_skip ?_
      | refine ax_q (q_loadb_ptr rfl rfl rfl rfl rfl) ?_
      | refine ax_q (q_pick rfl rfl) ?_
      | refine ax_q (q_extract rfl rfl) ?_
      | refine ax_q (q_field_ptr rfl rfl rfl rfl rfl rfl) ?_)
    refine ax_callv rfl rfl rfl h3 ?_
    unfold intA
    repeat (first
      | refine ax_q (q_build rfl rfl rfl rfl rfl rfl) ?_
      | refine ax_buildSliceRo rfl rfl rfl rfl rfl rfl rfl rfl rfl rfl rfl ?_)
    refine ax_storeagg (c' := .box [.bool (decide (q.floor < 0)), natA q.floor.natAbs, .ro (.ints .u32 [1]) 0 1]) rfl rfl rfl rfl rfl Nat.zero_lt_one rfl rfl (fun i' j' hi' hj' => ?_) ?_
    · rw [if_pos (Nat.lt_one_iff.1 hi')]; rfl
    repeat (first
      | refine ax_ops_nil ?_
      | refine ax_post_code ?_
      | refine ax_return ?_)
    exact ax_ret hR rfl rfl
theorem indexByteI (s : List UInt8) (b : Int) : VCall Tryz.prog 151 [.str s, .int .u8 b] (.int .i64 (Lib.indexByte s b.toNat.toUInt8)) := by
  refine ACall.value0 (acall_of_ax (P := Tryz.prog) (fn := Tryz.f151) rfl rfl (by kernel_rfl) rfl (fun c hR hfix => ?_)) (fix := fun _ => False) (fun _ h => h) rfl rfl
  repeat (first
    | refine ax_q (q_move rfl) ?_
    | refine ax_q (q_assign rfl) ?_
    | refine ax_ops_nil ?_
    | refine ax_post_code ?_
    | refine ax_seq ?_
    | refine ax_region rfl ?_)
  refine ax_q (q_indexByte rfl rfl rfl rfl (by kernel_rfl) (by kernel_rfl) (by kernel_rfl) (by kernel_rfl)) ?_
  repeat (first
    | refine ax_q (q_assign rfl) ?_
    | refine ax_ops_nil ?_
    | refine ax_post_code ?_
    | refine ax_return ?_)
  exact ax_ret hR rfl rfl
theorem indexI1 (s : List UInt8) (b : UInt8) : VCall Tryz.prog 135 [.str s, .str [b]] (.int .i64 (Lib.indexByte s b)) := by
  refine ACall.value0 (acall_of_ax (P := Tryz.prog) (fn := Tryz.f135) rfl rfl (by kernel_rfl) rfl (fun c hR hfix => ?_)) (fix := fun _ => False) (fun _ h => h) rfl rfl
  repeat (first
    | refine ax_q (q_move rfl) ?_
    | refine ax_q (q_assign rfl) ?_
    | refine ax_ops_nil ?_
    | refine ax_post_code ?_
    | refine ax_seq ?_
    | refine ax_region rfl ?_
    | refine ax_guard rfl rfl ?_
    | refine ax_block ?_
    | refine ax_q (q_eql rfl rfl) ?_
    | refine ax_q (q_pick rfl rfl) ?_
    | refine ax_q (q_lenstr rfl rfl) ?_
    | refine ax_q (q_streql rfl rfl) ?_)
  refine ax_cond_dec rfl (fun h => ?_) (fun h => ?_)
  · repeat (first
      | refine ax_q (q_assign rfl) ?_
      | refine ax_ops_nil ?_
      | refine ax_post_code ?_
      | refine ax_seq ?_
      | refine ax_region rfl ?_
      | refine ax_return ?_
      | refine ax_ret_code ?_
      | refine ax_ret_blk ?_)
    refine ax_ret hR rfl ?_
    subst h
    simp [tupOf, Lib.indexByte]
  repeat (first
    | refine ax_q (q_move rfl) ?_
    | refine ax_q (q_assign rfl) ?_
    | refine ax_ops_nil ?_
    | refine ax_post_code ?_
    | refine ax_seq ?_
    | refine ax_region rfl ?_
    | refine ax_cond_true rfl ?_
    | refine ax_q (q_eql rfl rfl) ?_
    | refine ax_q (q_stridx rfl rfl rfl (by first | assumption | omega | simp)) ?_)
  refine ax_callv rfl rfl rfl (indexByteI s b.toNat) ?_
  repeat (first
    | refine ax_q (q_assign rfl) ?_
    | refine ax_ops_nil ?_
    | refine ax_post_code ?_
    | refine ax_return ?_
    | refine ax_ret_code ?_
    | refine ax_ret_blk ?_)
  refine ax_ret hR rfl ?_
  simp [tupOf]
theorem indexByte_lt (l : List UInt8) (b : UInt8) : Lib.indexByte l b < l.length := by
  induction l with
  | nil => simp [Lib.indexByte]
  | cons c r ih =>
    rw [Lib.indexByte]
    simp only [List.length_cons]
    split
    · omega
    · split
      · omega
      · omega
theorem cutI (s : List UInt8) (b : UInt8) (h : s.length ≤ 9223372036854775807) : VCall Tryz.prog 121 [.str s, .str [b]] (.tup [.str (cutF b s).1, .str (cutF b s).2.1, .bool (cutF b s).2.2]) := by
  have hc := cutF_idx b s
  have hlt := indexByte_lt s b
  have hge := Lib.indexByte_ge s b
  have ci := indexI1 s b
  refine ACall.value0 (acall_of_ax (P := Tryz.prog) (fn := Tryz.f121) rfl rfl (by kernel_rfl) rfl (fun c hR hfix => ?_)) (fix := fun _ => False) (fun _ h => h) rfl rfl
  generalize Lib.indexByte s b = i at *
  repeat (first
    | refine ax_q (q_move rfl) ?_
    | refine ax_q (q_assign rfl) ?_
    | refine ax_ops_nil ?_
    | refine ax_post_code ?_
    | refine ax_seq ?_
    | refine ax_region rfl ?_)
  refine ax_callv rfl rfl rfl ci ?_
  repeat (first
    | refine ax_q (q_move rfl) ?_
    | refine ax_q (q_assign rfl) ?_
    | refine ax_ops_nil ?_
    | refine ax_post_code ?_
    | refine ax_seq ?_
    | refine ax_region rfl ?_
    | refine ax_q (q_geq rfl rfl) ?_)
  refine ax_cond_dec rfl (fun h0 => ?_) (fun h0 => ?_)
  · rw [if_pos h0] at hc
    rw [hc] at hR
    have hb1 : ([b] : List UInt8).length = 1 := rfl
    have hi1 : (i + 1).toNat = i.toNat + 1 := by omega
    repeat (refine ax_seq ?_)
    refine ax_regionq (by kernel_rfl) (by kernel_rfl) rfl ?_
    repeat (first
      | refine ax_q (q_move rfl) ?_
      | refine ax_q (q_assign rfl) ?_
      | refine ax_ops_nil ?_
      | refine ax_post_code ?_
      | refine ax_return ?_
      | refine ax_ret_code ?_
      | refine ax_q (q_lenstr rfl rfl) ?_
      | refine ax_q (q_add rfl rfl (by omega)) ?_
      | refine ax_q (q_strslice rfl rfl rfl rfl rfl rfl (by omega)) ?_)
    refine ax_ret hR rfl ?_
    simp [tupOf, hi1]
    exact List.take_of_length_le (by simp)
  · rw [if_neg h0] at hc
    rw [hc] at hR
    repeat (first
      | refine ax_q (q_move rfl) ?_
      | refine ax_q (q_assign rfl) ?_
      | refine ax_ops_nil ?_
      | refine ax_post_code ?_
      | refine ax_seq ?_
      | refine ax_region rfl ?_
      | refine ax_skip ?_
      | refine ax_return ?_)
    exact ax_ret hR rfl rfl
theorem cutS (s : List UInt8) (b : UInt8) (h : s.length ≤ 9223372036854775807) : VCall Tryz.prog 91 [.str s, .str [b]] (.tup [.str (cutF b s).1, .str (cutF b s).2.1, .bool (cutF b s).2.2]) := by
  have ci := cutI s b h
  refine ACall.value0 (acall_of_ax (P := Tryz.prog) (fn := Tryz.f91) rfl rfl (by kernel_rfl) rfl (fun c hR hfix => ?_)) (fix := fun _ => False) (fun _ h => h) rfl rfl
  generalize cutF b s = q at *
  repeat (first
    | refine ax_q (q_move rfl) ?_
    | refine ax_q (q_assign rfl) ?_
    | refine ax_ops_nil ?_
    | refine ax_post_code ?_
    | refine ax_seq ?_
    | refine ax_region rfl ?_)
  refine ax_callv rfl rfl rfl ci ?_
  repeat (first
    | refine ax_q (q_assign rfl) ?_
    | refine ax_ops_nil ?_
    | refine ax_post_code ?_
    | refine ax_return ?_
    | refine ax_q (q_extract rfl rfl) ?_)
  exact ax_ret hR rfl rfl
theorem cutP1 (s p : List UInt8) (hs : s.length ≤ 9223372036854775807) (hp : p.length ≤ 9223372036854775807) : VCall Tryz.prog 120 [.str s, .str p] (.tup [.str (if preB s p then s.drop p.length else s), .bool (preB s p)]) := by
  have h1 := prefix1 s p hs hp
  refine ACall.value0 (acall_of_ax (P := Tryz.prog) (fn := Tryz.f120) rfl rfl (by kernel_rfl) rfl (fun c hR hfix => ?_)) (fix := fun _ => False) (fun _ h => h) rfl rfl
  by_cases h : preB s p = true
  · have hle : p.length ≤ s.length := by unfold preB at h; exact (of_decide_eq_true h).1
    rw [h] at h1 hR
    repeat (first
      | refine ax_q (q_move rfl) ?_
      | refine ax_q (q_assign rfl) ?_
      | refine ax_ops_nil ?_
      | refine ax_post_code ?_
      | refine ax_seq ?_
      | refine ax_region rfl ?_)
    refine ax_callv rfl rfl rfl h1 ?_
    repeat (first
      | refine ax_q (q_move rfl) ?_
      | refine ax_q (q_assign rfl) ?_
      | refine ax_ops_nil ?_
      | refine ax_post_code ?_
      | refine ax_seq ?_
      | refine ax_region rfl ?_
      | refine ax_cond_false rfl ?_
      | refine ax_skip ?_
      | refine ax_return ?_
      | refine ax_q (q_not rfl) ?_
      | refine ax_q (q_lenstr rfl rfl) ?_
      | refine ax_q (q_strslice rfl rfl rfl rfl rfl rfl (by omega)) ?_)
    refine ax_ret hR rfl ?_
    simp only [tupOf, Int.toNat_natCast]
    rw [List.take_of_length_le (by simp)]
    rfl
  · rw [Bool.not_eq_true] at h
    rw [h] at h1 hR
    repeat (first
      | refine ax_q (q_move rfl) ?_
      | refine ax_q (q_assign rfl) ?_
      | refine ax_ops_nil ?_
      | refine ax_post_code ?_
      | refine ax_seq ?_
      | refine ax_region rfl ?_)
    refine ax_callv rfl rfl rfl h1 ?_
    repeat (first
      | refine ax_q (q_move rfl) ?_
      | refine ax_q (q_assign rfl) ?_
      | refine ax_ops_nil ?_
      | refine ax_post_code ?_
      | refine ax_seq ?_
      | refine ax_region rfl ?_
      | refine ax_cond_true rfl ?_
      | refine ax_return ?_
      | refine ax_ret_code ?_
      | refine ax_q (q_not rfl) ?_)
    exact ax_ret hR rfl rfl
theorem cutP (s p : List UInt8) (hs : s.length ≤ 9223372036854775807) (hp : p.length ≤ 9223372036854775807) : VCall Tryz.prog 90 [.str s, .str p] (.tup [.str (if preB s p then s.drop p.length else s), .bool (preB s p)]) := by
  have h1 := cutP1 s p hs hp
  refine ACall.value0 (acall_of_ax (P := Tryz.prog) (fn := Tryz.f90) rfl rfl (by kernel_rfl) rfl (fun c hR hfix => ?_)) (fix := fun _ => False) (fun _ h => h) rfl rfl
  generalize preB s p = b at *
  repeat (first
    | refine ax_q (q_move rfl) ?_
    | refine ax_q (q_assign rfl) ?_
    | refine ax_ops_nil ?_
    | refine ax_post_code ?_
    | refine ax_seq ?_
    | refine ax_region rfl ?_)
  refine ax_callv rfl rfl rfl h1 ?_
  repeat (first
    | refine ax_q (q_assign rfl) ?_
    | refine ax_ops_nil ?_
    | refine ax_post_code ?_
    | refine ax_return ?_
    | refine ax_q (q_extract rfl rfl) ?_)
  exact ax_ret hR rfl rfl
end Go.Proofs.YtbeegiiiochblaaGreatDoor

/-
  The texts of rational numbers, in plain Lean. No program in sight.
-/
namespace Go.Ax.Rt
open Go.Ax.Bg
open Go.Ax.Tb (digit digits_digit digits_ne cutF cutF_no cutF_at no_in_digits)

def negB : List UInt8 → Bool
  | c :: _ => decide (c = 45)
  | [] => false
def bodyS (s : List UInt8) : List UInt8 := if negB s then s.drop 1 else s
def numS (s : List UInt8) : List UInt8 := (cutF 47 (bodyS s)).1
def denS (s : List UInt8) : List UInt8 := (cutF 47 (bodyS s)).2.1
def hasD (s : List UInt8) : Bool := (cutF 47 (bodyS s)).2.2
/-- rat.Check -/
def ratE (s : List UInt8) : Int :=
  if canonB (numS s) = false ∨ (hasD s = true ∧ canonB (denS s) = false) ∨ (negB s = true ∧ numS s = [48]) then 5
  else if 2000 < (numS s).length ∨ 2000 < (denS s).length then 2
  else if hasD s = true ∧ (denS s = [48] ∨ denS s = [49] ∨ Nat.gcd (decV 0 (numS s)) (decV 0 (denS s)) ≠ 1) then 3 else 0
def denV (s : List UInt8) : Nat := if hasD s then decV 0 (denS s) else 1
def ratV (s : List UInt8) : Rat := Rat.divInt (sgnI (negB s) (decV 0 (numS s))) (denV s : Nat)
def textQ (q : Rat) : List UInt8 := (if q.num < 0 then [45] else []) ++ (Lib.decDigits q.num.natAbs ++ (if q.den = 1 then [] else 47 :: Lib.decDigits q.den))
def fitB (q : Rat) : Bool := decide ((Lib.decDigits q.num.natAbs).length ≤ 2000) && decide ((Lib.decDigits q.den).length ≤ 2000)
def outF (q : Rat) : List UInt8 × Int := if fitB q then (textQ q, 0) else ([], 2)

theorem cutF_join (b : UInt8) : ∀ l : List UInt8, l = (cutF b l).1 ++ (if (cutF b l).2.2 then b :: (cutF b l).2.1 else [])
  | [] => rfl
  | c :: r => by
    rw [cutF]
    split
    · rename_i h; subst h; simp
    · have := cutF_join b r
      simp only [List.cons_append, List.cons.injEq, true_and]
      exact this
theorem cutF_den {b : UInt8} : ∀ {l : List UInt8}, (cutF b l).2.2 = false → (cutF b l).2.1 = []
  | [], _ => rfl
  | c :: r, h => by
    rw [cutF] at h ⊢
    split at h
    · cases h
    · rename_i h1
      rw [if_neg h1]
      exact cutF_den (l := r) h
structure Parts (s : List UInt8) (q : Rat) : Prop where
  num : q.num = sgnI (negB s) (decV 0 (numS s))
  den : q.den = denV s
  cn : Canon (numS s)
  cd : hasD s = true → Canon (denS s) ∧ decV 0 (denS s) ≠ 0 ∧ decV 0 (denS s) ≠ 1
  ln : (numS s).length ≤ 2000
  ld : (denS s).length ≤ 2000
  ng : negB s = true → decV 0 (numS s) ≠ 0
theorem one_dig {s : List UInt8} {n : Nat} (hc : Canon s) (hn : n < 10) (h : decV 0 s = n) : s = [UInt8.ofNat (48 + n)] := by
  rw [← canon_eq hc, h, Lib.decDigits_one hn]
theorem den_one {s : List UInt8} (h : hasD s = false) : denV s = 1 := by unfold denV; rw [h]; rfl
theorem den_some {s : List UInt8} (h : hasD s = true) : denV s = decV 0 (denS s) := by unfold denV; rw [h]; rfl
theorem rat_parts {s : List UInt8} (h : ratE s = 0) : Parts s (ratV s) := by
  unfold ratE at h
  split at h
  · omega
  split at h
  · omega
  split at h
  · omega
  rename_i h1 h2 h3
  simp only [not_or, not_and, Bool.not_eq_false] at h1 h2 h3
  obtain ⟨a1, a2, a3⟩ := h1
  have cn := canonB_iff.1 a1
  have cd : hasD s = true → Canon (denS s) ∧ decV 0 (denS s) ≠ 0 ∧ decV 0 (denS s) ≠ 1 := fun hd => by
    have c := canonB_iff.1 (a2 hd)
    exact ⟨c, fun e => (h3 hd).1 (one_dig c (by decide) e), fun e => (h3 hd).2.1 (one_dig c (by decide) e)⟩
  have hd0 : denV s ≠ 0 := by
    cases e : hasD s
    · rw [den_one e]; decide
    · rw [den_some e]; exact (cd e).2.1
  have hg : Nat.gcd (decV 0 (numS s)) (denV s) = 1 := by
    cases e : hasD s
    · rw [den_one e]; exact Nat.gcd_one_right _
    · rw [den_some e]; exact Classical.not_not.1 (h3 e).2.2
  obtain ⟨e1, e2, e3⟩ := frac_nat (sgnI (negB s) (decV 0 (numS s))) (denV s) hd0
  rw [sgnI_abs, hg, Nat.div_one] at e1
  rw [sgnI_abs, hg, Nat.div_one] at e2
  refine ⟨?_, e2, cn, cd, by omega, by omega, fun hn e => a3 hn (one_dig cn (by decide) e)⟩
  show (Rat.divInt _ _).num = _
  have := sgnI_abs (negB s) (decV 0 (numS s))
  omega
theorem neg_body {s : List UInt8} : s = (if negB s then [45] else []) ++ bodyS s := by
  unfold bodyS
  cases s with
  | nil => rfl
  | cons c r =>
    unfold negB
    by_cases h : c = 45
    · subst h; rfl
    · simp [h]
theorem Parts.text {s : List UInt8} {q : Rat} (h : Parts s q) : textQ q = s := by
  conv => rhs; rw [neg_body (s := s), cutF_join 47 (bodyS s)]
  change textQ q = _ ++ (numS s ++ if hasD s then 47 :: denS s else [])
  unfold textQ
  rw [h.num, h.den, sgnI_abs, canon_eq h.cn]
  congr 1
  · have := sgnI_neg (negB s) (decV 0 (numS s))
    cases e : negB s
    · rw [e] at this; simp at this
      rw [if_neg (by simpa [e] using this)]; rfl
    · rw [e] at this
      have hn := h.ng e
      simp [hn] at this
      rw [if_pos this]; rfl
  · congr 1
    cases e : hasD s
    · rw [den_one e]; rfl
    · obtain ⟨c, c0, c1⟩ := h.cd e
      rw [den_some e, if_neg c1, canon_eq c]; rfl
theorem neg_text (q : Rat) : negB (textQ q) = decide (q.num < 0) ∧ bodyS (textQ q) = Lib.decDigits q.num.natAbs ++ (if q.den = 1 then [] else 47 :: Lib.decDigits q.den) := by
  have hne := digits_ne q.num.natAbs
  have h45 := no_in_digits q.num.natAbs 45 (by decide)
  unfold bodyS textQ
  by_cases h : q.num < 0
  · simp [h, negB]
  · have : negB (Lib.decDigits q.num.natAbs ++ (if q.den = 1 then [] else 47 :: Lib.decDigits q.den)) = false := by
      cases e : Lib.decDigits q.num.natAbs with
      | nil => exact absurd e hne
      | cons c r =>
        rw [e] at h45
        have : c ≠ 45 := fun e => h45 (by simp [e])
        simp [negB, this]
    simp [h, this]
theorem cut_text (q : Rat) : cutF 47 (bodyS (textQ q)) = (Lib.decDigits q.num.natAbs, (if q.den = 1 then [] else Lib.decDigits q.den), decide (q.den ≠ 1)) := by
  rw [(neg_text q).2]
  by_cases h : q.den = 1
  · rw [if_pos h, if_pos h, List.append_nil, cutF_no (no_in_digits _ 47 (by decide))]
    simp [h]
  · rw [if_neg h, if_neg h, cutF_at (no_in_digits _ 47 (by decide))]
    simp [h]
theorem rat_of {q : Rat} (h : fitB q = true) : ratE (textQ q) = 0 ∧ ratV (textQ q) = q := by
  have e1 : numS (textQ q) = Lib.decDigits q.num.natAbs := by unfold numS; rw [cut_text]
  have e2 : denS (textQ q) = if q.den = 1 then [] else Lib.decDigits q.den := by unfold denS; rw [cut_text]
  have e3 : hasD (textQ q) = decide (q.den ≠ 1) := by unfold hasD; rw [cut_text]
  have e4 := (neg_text q).1
  unfold fitB at h
  rw [Bool.and_eq_true, decide_eq_true_eq, decide_eq_true_eq] at h
  constructor
  · unfold ratE
    rw [e1, e2, e3, e4, decV_digits, canonB_iff.2 (canon_digits _)]
    have g1 : ¬ (true = false ∨ (decide (q.den ≠ 1) = true ∧ canonB (if q.den = 1 then [] else Lib.decDigits q.den) = false) ∨ (decide (q.num < 0) = true ∧ Lib.decDigits q.num.natAbs = [48])) := by
      rintro (g | ⟨g1, g2⟩ | ⟨g1, g2⟩)
      · cases g
      · rw [decide_eq_true_eq] at g1
        rw [if_neg g1, canonB_iff.2 (canon_digits _)] at g2
        cases g2
      · rw [decide_eq_true_eq] at g1
        have : q.num.natAbs = 0 := decDigits_inj (by rw [g2, Lib.decDigits_one (by decide)]; rfl)
        omega
    have g2 : ¬ (2000 < (Lib.decDigits q.num.natAbs).length ∨ 2000 < (if q.den = 1 then [] else Lib.decDigits q.den : List UInt8).length) := by
      rintro (g | g)
      · omega
      · split at g
        · simp at g
        · omega
    have g3 : ¬ (decide (q.den ≠ 1) = true ∧ ((if q.den = 1 then [] else Lib.decDigits q.den) = [48] ∨ (if q.den = 1 then [] else Lib.decDigits q.den) = [49] ∨ Nat.gcd q.num.natAbs (decV 0 (if q.den = 1 then [] else Lib.decDigits q.den)) ≠ 1)) := by
      rintro ⟨g, g3⟩
      rw [decide_eq_true_eq] at g
      rw [if_neg g] at g3
      rw [decV_digits] at g3
      rcases g3 with g3 | g3 | g3
      · have : q.den = 0 := decDigits_inj (by rw [g3, Lib.decDigits_one (by decide)]; rfl)
        exact q.den_nz this
      · exact g (decDigits_inj (by rw [g3, Lib.decDigits_one (by decide)]; rfl))
      · exact g3 q.reduced
    rw [if_neg g1, if_neg g2, if_neg g3]
  · unfold ratV
    have e5 : denV (textQ q) = q.den := by
      unfold denV
      rw [e3, e2]
      by_cases g : q.den = 1
      · simp [g]
      · simp [g, decV_digits]
    rw [e1, e4, e5, decV_digits, sgnI_self]
    exact Rat.num_divInt_den q
/-- rat.CheckAll -/
def allE : List (List UInt8) → Int
  | [] => 0
  | s :: r => if ratE s = 0 then allE r else ratE s
theorem allE_mem : ∀ {l : List (List UInt8)}, allE l = 0 → ∀ s ∈ l, ratE s = 0
  | [], _, s, h => by simp at h
  | a :: r, h, s, hs => by
    rw [allE] at h
    split at h
    · rename_i h1
      rcases List.mem_cons.1 hs with e | e
      · rw [e]; exact h1
      · exact allE_mem h s e
    · contradiction
theorem allE_of : ∀ {l : List (List UInt8)}, (∀ s ∈ l, ratE s = 0) → allE l = 0
  | [], _ => rfl
  | a :: r, h => by
    rw [allE, if_pos (h a (by simp))]
    exact allE_of (fun s hs => h s (by simp [hs]))
theorem Parts.zero {s : List UInt8} (h : ratE s = 0) : ratV s = 0 ↔ s = [48] := by
  constructor
  · intro e
    have := (rat_parts h).text
    rw [e] at this
    rw [← this]
    unfold textQ
    rw [if_neg (by decide), if_pos (show (0 : Rat).den = 1 from rfl)]
    show [] ++ (Lib.decDigits 0 ++ []) = _
    rw [Lib.decDigits_one (by decide)]; rfl
  · intro e
    subst e
    decide
/-- Sums, products and so on of two texts. -/
def twoR (F : Rat → Rat → Rat) (a b : List UInt8) : List UInt8 × Int := if allE [a, b] = 0 then outF (F (ratV a) (ratV b)) else ([], allE [a, b])
def oneR (F : Rat → Rat) (a : List UInt8) : List UInt8 × Int := if ratE a = 0 then outF (F (ratV a)) else ([], ratE a)
def divR (a b : List UInt8) : List UInt8 × Int := if allE [a, b] = 0 then (if b = [48] then ([], 18) else outF (ratV a / ratV b)) else ([], allE [a, b])
def cmpR (a b : List UInt8) : Int × Int := if allE [a, b] = 0 then (cmpQ (ratV a) (ratV b), 0) else (0, allE [a, b])
def signR (a : List UInt8) : Int × Int := if ratE a = 0 then (sgn (ratV a).num, 0) else (0, ratE a)
def outAllF (l : List Rat) : List (List UInt8) × Int := if l.all fitB then (l.map textQ, 0) else ([], 2)
def sumL : Rat → List Rat → Rat × Int
  | acc, [] => (acc, 0)
  | acc, q :: r => if fitB (acc + q) then sumL (acc + q) r else (acc + q, 2)
def sumR (l : List (List UInt8)) : Rat × Int := if 256 < l.length then (0, 2) else if allE l = 0 then sumL 0 (l.map ratV) else (0, allE l)
def sumT (l : List (List UInt8)) : List UInt8 × Int := if (sumR l).2 = 0 then outF (sumR l).1 else ([], (sumR l).2)
def posE (l : List (List UInt8)) : Int := if (sumR l).2 = 0 ∧ l.any negB = true then 4 else (sumR l).2
def sharesR (l : List (List UInt8)) : List (List UInt8) × Int :=
  if posE l = 0 then (if (sumR l).1 = 0 then ([], 18) else outAllF ((l.map ratV).map (fun q => q / (sumR l).1))) else ([], posE l)
def oddsR (l : List (List UInt8)) : Int := if posE l = 0 then (if cmpQ (sumR l).1 1 = 0 then 0 else 3) else posE l
def bestK (x : List Rat) : Nat → Nat
  | 0 => 0
  | k + 1 => if 0 < cmpQ (x.getD k 0) (x.getD (bestK x k) 0) then k else bestK x k
def bestR (l : List (List UInt8)) : Int × Int := if 256 < l.length then (0, 2) else if l = [] then (0, 8) else if allE l = 0 then ((bestK (l.map ratV) l.length : Nat), 0) else (0, allE l)
theorem bestK_le (x : List Rat) : ∀ k, bestK x k ≤ k
  | 0 => Nat.le_refl _
  | k + 1 => by
    rw [bestK]
    have := bestK_le x k
    split <;> omega
theorem fit_len {q : Rat} (h : fitB q = true) : (natL q.num.natAbs).length ≤ 2000 ∧ (natL q.den).length ≤ 2000 := by
  unfold fitB at h
  rw [Bool.and_eq_true, decide_eq_true_eq, decide_eq_true_eq] at h
  have key : ∀ (n m : Nat), (Lib.decDigits n).length ≤ m → (natL n).length ≤ m := fun n m hl => by
    refine natL_len_le (Nat.lt_of_lt_of_le (digits_lt n) ?_)
    exact Nat.le_trans (Nat.pow_le_pow_right (by decide) hl) (Nat.pow_le_pow_left (by decide) m)
  exact ⟨key _ _ h.1, key _ _ h.2⟩
def ofR (n d : Int) : List UInt8 × Int := if d = 0 then ([], 18) else outF (Rat.divInt n d)
end Go.Ax.Rt

namespace Go.Proofs.YtbeegiiiochblaaGreatDoor
open Go.Ax Go.Ax.Bg Go.Ax.Rt Go.RowKit
attribute [local irreducible] Ax Post QOp ACall PureOp
set_option maxRecDepth 100000
set_option maxHeartbeats 4000000

open Go.Ax.Tb (cutF cutF_idx cutF_len)
theorem pre_neg (s : List UInt8) : preB s [45] = negB s := by
  unfold preB negB
  cases s with
  | nil => rfl
  | cons c r => simp
theorem body_len (s : List UInt8) : (bodyS s).length ≤ s.length := by
  unfold bodyS; split
  · simp
  · exact Nat.le_refl _
theorem parts_len (s : List UInt8) : (numS s).length ≤ s.length ∧ (denS s).length ≤ s.length := by
  have h := cutF_len 47 (bodyS s)
  have h2 := body_len s
  unfold numS denS
  omega
theorem cutNeg (s : List UInt8) (hs : s.length ≤ 9223372036854775807) : VCall Tryz.prog 90 [.str s, .str [45]] (.tup [.str (bodyS s), .bool (negB s)]) := by
  have h := cutP s [45] hs (by decide)
  rw [pre_neg] at h
  exact h
theorem cutBar (s : List UInt8) (hs : s.length ≤ 9223372036854775807) : VCall Tryz.prog 91 [.str (bodyS s), .str [47]] (.tup [.str (numS s), .str (denS s), .bool (hasD s)]) :=
  cutS (bodyS s) 47 (Nat.le_trans (body_len s) hs)
theorem parse_ok (s : List UInt8) (hs : s.length ≤ 9223372036854775807) (h : ratE s = 0) : VCall Tryz.prog 60 [.str s] (qA (ratV s)) := by
  have hp := rat_parts h
  have h1 := cutNeg s (by omega)
  have h2 := cutBar s hs
  have h3 := read_ok (numS s) hp.cn.2.1 (by have := hp.ln; omega)
  have h4 := made_ok (negB s) (decV 0 (numS s))
  rw [← hp.num] at h4
  unfold qA
  rw [hp.den]
  cases e : hasD s
  · rw [e] at h2
    rw [den_one e, natA_one]
    refine ACall.value0 (acall_of_ax (P := Tryz.prog) (fn := Tryz.f60) rfl rfl (by kernel_rfl) rfl (fun c hR hfix => ?_)) (fix := fun _ => False) (fun _ h => h) rfl rfl
    repeat (first
      | refine ax_q (q_move rfl) ?_
      | refine ax_ops_nil ?_
      | refine ax_post_code ?_
      | refine ax_seq ?_
      | refine ax_region rfl ?_
      | refine ax_alloc rfl rfl rfl ?_)
    refine ax_callv rfl rfl rfl h1 ?_
    repeat (first
      | refine ax_q (q_move rfl) ?_
      | refine ax_q (q_assign rfl) ?_
      | refine ax_ops_nil ?_
      | refine ax_post_code ?_
      | refine ax_seq ?_
      | refine ax_region rfl ?_
      | refine ax_q (q_extract rfl rfl) ?_)
    refine ax_callv rfl rfl rfl h2 ?_
    repeat (first
      | refine ax_q (q_move rfl) ?_
      | refine ax_q (q_assign rfl) ?_
      | refine ax_ops_nil ?_
      | refine ax_post_code ?_
      | refine ax_seq ?_
      | refine ax_region rfl ?_
      | refine ax_q (q_extract rfl rfl) ?_)
    refine ax_callv rfl rfl rfl h3 ?_
    skip
    refine ax_callv rfl rfl rfl h4 ?_
    unfold intA
    repeat (first
      | refine ax_q (q_build rfl rfl rfl rfl rfl rfl) ?_
      | refine ax_buildSliceRo rfl rfl rfl rfl rfl rfl rfl rfl rfl rfl rfl ?_
      | refine ax_alloc rfl rfl rfl ?_)
    refine ax_storeagg (c' := .box [.bool (decide ((ratV s).num < 0)), natA (ratV s).num.natAbs, .ro (.ints .u32 [1]) 0 1]) rfl rfl rfl rfl rfl Nat.zero_lt_one rfl rfl (fun i' j' hi' hj' => ?_) ?_
    · rw [if_pos (Nat.lt_one_iff.1 hi')]; rfl
    repeat (first
      | refine ax_q (q_move rfl) ?_
      | refine ax_ops_nil ?_
      | refine ax_post_code ?_
      | refine ax_seq ?_
      | refine ax_region rfl ?_
      | refine ax_cond_false rfl ?_
      | refine ax_skip ?_
      | refine ax_q (q_loadpart_ptr rfl rfl rfl rfl rfl rfl rfl (by first | exact Nat.zero_lt_one | assumption | omega)) ?_)
    refine ax_storeagg (c' := .box [.bool (decide ((ratV s).num < 0)), natA (ratV s).num.natAbs, .ro (.ints .u32 [1]) 0 1]) rfl rfl rfl rfl rfl Nat.zero_lt_one rfl rfl (fun i' j' hi' hj' => ?_) ?_
    · rw [if_pos (Nat.lt_one_iff.1 hi')]; rfl
    repeat (first
      | refine ax_ops_nil ?_
      | refine ax_post_code ?_
      | refine ax_return ?_)
    exact ax_ret hR rfl rfl
  · rw [e] at h2
    rw [den_some e]
    have h5 := read_ok (denS s) (hp.cd e).1.2.1 (by have := hp.ld; omega)
    refine ACall.value0 (acall_of_ax (P := Tryz.prog) (fn := Tryz.f60) rfl rfl (by kernel_rfl) rfl (fun c hR hfix => ?_)) (fix := fun _ => False) (fun _ h => h) rfl rfl
    repeat (first
      | refine ax_q (q_move rfl) ?_
      | refine ax_ops_nil ?_
      | refine ax_post_code ?_
      | refine ax_seq ?_
      | refine ax_region rfl ?_
      | refine ax_alloc rfl rfl rfl ?_)
    refine ax_callv rfl rfl rfl h1 ?_
    repeat (first
      | refine ax_q (q_move rfl) ?_
      | refine ax_q (q_assign rfl) ?_
      | refine ax_ops_nil ?_
      | refine ax_post_code ?_
      | refine ax_seq ?_
      | refine ax_region rfl ?_
      | refine ax_q (q_extract rfl rfl) ?_)
    refine ax_callv rfl rfl rfl h2 ?_
    repeat (first
      | refine ax_q (q_move rfl) ?_
      | refine ax_q (q_assign rfl) ?_
      | refine ax_ops_nil ?_
      | refine ax_post_code ?_
      | refine ax_seq ?_
      | refine ax_region rfl ?_
      | refine ax_q (q_extract rfl rfl) ?_)
    refine ax_callv rfl rfl rfl h3 ?_
    skip
    refine ax_callv rfl rfl rfl h4 ?_
    unfold intA
    repeat (first
      | refine ax_q (q_build rfl rfl rfl rfl rfl rfl) ?_
      | refine ax_buildSliceRo rfl rfl rfl rfl rfl rfl rfl rfl rfl rfl rfl ?_
      | refine ax_alloc rfl rfl rfl ?_)
    refine ax_storeagg (c' := .box [.bool (decide ((ratV s).num < 0)), natA (ratV s).num.natAbs, .ro (.ints .u32 [1]) 0 1]) rfl rfl rfl rfl rfl Nat.zero_lt_one rfl rfl (fun i' j' hi' hj' => ?_) ?_
    · rw [if_pos (Nat.lt_one_iff.1 hi')]; rfl
    repeat (first
      | refine ax_q (q_move rfl) ?_
      | refine ax_ops_nil ?_
      | refine ax_post_code ?_
      | refine ax_seq ?_
      | refine ax_region rfl ?_
      | refine ax_cond_true rfl ?_)
    refine ax_callv rfl rfl rfl h5 ?_
    repeat (first
      | refine ax_ops_nil ?_
      | refine ax_post_code ?_
      | refine ax_seq ?_
      | refine ax_region rfl ?_
      | refine ax_q (q_field_ptr rfl rfl rfl rfl rfl rfl) ?_
      | refine ax_q (q_loadpart_ptr rfl rfl rfl rfl rfl rfl rfl (by first | exact Nat.zero_lt_one | assumption | omega)) ?_
      | refine ax_store rfl rfl rfl rfl rfl rfl rfl Nat.zero_lt_one ?_)
    refine ax_storeagg (c' := .box [.bool (decide ((ratV s).num < 0)), natA (ratV s).num.natAbs, natA (decV 0 (denS s))]) rfl rfl rfl rfl rfl Nat.zero_lt_one rfl rfl (fun i' j' hi' hj' => ?_) ?_
    · rw [if_pos (Nat.lt_one_iff.1 hi')]; rfl
    repeat (first
      | refine ax_ops_nil ?_
      | refine ax_post_code ?_
      | refine ax_return ?_)
    exact ax_ret hR rfl rfl
theorem qtext_ok (q : Rat) (hq : Sz 100000 q) : VCall Tryz.prog 119 [qA q] (.str (textQ q)) := by
  have h1 := text_ok q.num.natAbs (by have := hq.1; omega)
  have h2 := one_ok q.den
  have h3 := text_ok q.den (by have := hq.2; omega)
  unfold textQ
  have l1 := digits_len_b hq.1 (by decide)
  have l2 := digits_len_b hq.2 (by decide)
  refine ACall.value0 (acall_of_ax (P := Tryz.prog) (fn := Tryz.f119) rfl rfl (by kernel_rfl) rfl (fun c hR hfix => ?_)) (fix := fun _ => False) (fun _ h => h) rfl rfl
  by_cases hn : q.num < 0 <;> by_cases hd : q.den = 1
  · rw [if_pos hn, if_pos hd] at hR
    rw [decide_eq_true hd] at h2
    unfold qA
    rw [decide_eq_true hn]
    repeat (first
      | refine ax_q (q_assign rfl) ?_
      | refine ax_ops_nil ?_
      | refine ax_post_code ?_
      | refine ax_seq ?_
      | refine ax_region rfl ?_
      | refine ax_q (q_loadb_ptr rfl rfl rfl rfl rfl) ?_
      | refine ax_q (q_field_ptr rfl rfl rfl rfl rfl rfl) ?_
      | refine ax_box rfl rfl ?_)
    refine ax_callv rfl rfl rfl h1 ?_
    repeat (first
      | refine ax_q (q_move rfl) ?_
      | refine ax_q (q_assign rfl) ?_
      | refine ax_ops_nil ?_
      | refine ax_post_code ?_
      | refine ax_seq ?_
      | refine ax_region rfl ?_
      | refine ax_cond_true rfl ?_
      | refine ax_q (q_loadb_ptr rfl rfl rfl rfl rfl) ?_
      | refine ax_q (q_field_ptr rfl rfl rfl rfl rfl rfl) ?_)
    refine ax_q (q_concat rfl rfl (by show ([45] : List UInt8).length + _ ≤ _; simp only [List.length_cons, List.length_nil, List.length_append]; omega)) ?_
    repeat (first
      | refine ax_q (q_assign rfl) ?_
      | refine ax_ops_nil ?_
      | refine ax_post_code ?_
      | refine ax_seq ?_
      | refine ax_region rfl ?_
      | refine ax_q (q_loadb_ptr rfl rfl rfl rfl rfl) ?_
      | refine ax_q (q_field_ptr rfl rfl rfl rfl rfl rfl) ?_)
    refine ax_callv rfl rfl rfl h2 ?_
    repeat (first
      | refine ax_q (q_move rfl) ?_
      | refine ax_q (q_assign rfl) ?_
      | refine ax_ops_nil ?_
      | refine ax_post_code ?_
      | refine ax_seq ?_
      | refine ax_region rfl ?_
      | refine ax_cond_false rfl ?_
      | refine ax_skip ?_
      | refine ax_return ?_
      | refine ax_q (q_not rfl) ?_)
    refine ax_ret hR rfl ?_
    simp [tupOf]
  · rw [if_pos hn, if_neg hd] at hR
    rw [decide_eq_false hd] at h2
    unfold qA
    rw [decide_eq_true hn]
    repeat (first
      | refine ax_q (q_assign rfl) ?_
      | refine ax_ops_nil ?_
      | refine ax_post_code ?_
      | refine ax_seq ?_
      | refine ax_region rfl ?_
      | refine ax_q (q_loadb_ptr rfl rfl rfl rfl rfl) ?_
      | refine ax_q (q_field_ptr rfl rfl rfl rfl rfl rfl) ?_
      | refine ax_box rfl rfl ?_)
    refine ax_callv rfl rfl rfl h1 ?_
    repeat (first
      | refine ax_q (q_move rfl) ?_
      | refine ax_q (q_assign rfl) ?_
      | refine ax_ops_nil ?_
      | refine ax_post_code ?_
      | refine ax_seq ?_
      | refine ax_region rfl ?_
      | refine ax_cond_true rfl ?_
      | refine ax_q (q_loadb_ptr rfl rfl rfl rfl rfl) ?_
      | refine ax_q (q_field_ptr rfl rfl rfl rfl rfl rfl) ?_)
    refine ax_q (q_concat rfl rfl (by show ([45] : List UInt8).length + _ ≤ _; simp only [List.length_cons, List.length_nil, List.length_append]; omega)) ?_
    repeat (first
      | refine ax_q (q_assign rfl) ?_
      | refine ax_ops_nil ?_
      | refine ax_post_code ?_
      | refine ax_seq ?_
      | refine ax_region rfl ?_
      | refine ax_q (q_loadb_ptr rfl rfl rfl rfl rfl) ?_
      | refine ax_q (q_field_ptr rfl rfl rfl rfl rfl rfl) ?_)
    refine ax_callv rfl rfl rfl h2 ?_
    repeat (first
      | refine ax_q (q_move rfl) ?_
      | refine ax_ops_nil ?_
      | refine ax_post_code ?_
      | refine ax_region rfl ?_
      | refine ax_cond_true rfl ?_
      | refine ax_q (q_loadb_ptr rfl rfl rfl rfl rfl) ?_
      | refine ax_q (q_not rfl) ?_
      | refine ax_q (q_field_ptr rfl rfl rfl rfl rfl rfl) ?_)
    refine ax_callv rfl rfl rfl h3 ?_
    skip
    refine ax_q (q_concat rfl rfl (by show ([47] : List UInt8).length + _ ≤ _; simp only [List.length_cons, List.length_nil, List.length_append]; omega)) ?_
    refine ax_q (q_concat (b := 47 :: Lib.decDigits q.den) rfl rfl (by simp only [List.length_cons, List.length_nil, List.length_append]; omega)) ?_
    repeat (first
      | refine ax_q (q_move rfl) ?_
      | refine ax_q (q_assign rfl) ?_
      | refine ax_ops_nil ?_
      | refine ax_post_code ?_
      | refine ax_seq ?_
      | refine ax_region rfl ?_
      | refine ax_return ?_)
    refine ax_ret hR rfl ?_
    simp [tupOf]
  · rw [if_neg hn, if_pos hd] at hR
    rw [decide_eq_true hd] at h2
    unfold qA
    rw [decide_eq_false hn]
    repeat (first
      | refine ax_q (q_assign rfl) ?_
      | refine ax_ops_nil ?_
      | refine ax_post_code ?_
      | refine ax_seq ?_
      | refine ax_region rfl ?_
      | refine ax_q (q_loadb_ptr rfl rfl rfl rfl rfl) ?_
      | refine ax_q (q_field_ptr rfl rfl rfl rfl rfl rfl) ?_
      | refine ax_box rfl rfl ?_)
    refine ax_callv rfl rfl rfl h1 ?_
    repeat (first
      | refine ax_q (q_assign rfl) ?_
      | refine ax_ops_nil ?_
      | refine ax_post_code ?_
      | refine ax_seq ?_
      | refine ax_region rfl ?_
      | refine ax_cond_false rfl ?_
      | refine ax_skip ?_
      | refine ax_q (q_loadb_ptr rfl rfl rfl rfl rfl) ?_
      | refine ax_q (q_field_ptr rfl rfl rfl rfl rfl rfl) ?_)
    refine ax_callv rfl rfl rfl h2 ?_
    repeat (first
      | refine ax_q (q_move rfl) ?_
      | refine ax_q (q_assign rfl) ?_
      | refine ax_ops_nil ?_
      | refine ax_post_code ?_
      | refine ax_seq ?_
      | refine ax_region rfl ?_
      | refine ax_cond_false rfl ?_
      | refine ax_skip ?_
      | refine ax_return ?_
      | refine ax_q (q_not rfl) ?_)
    refine ax_ret hR rfl ?_
    simp [tupOf]
  · rw [if_neg hn, if_neg hd] at hR
    rw [decide_eq_false hd] at h2
    unfold qA
    rw [decide_eq_false hn]
    repeat (first
      | refine ax_q (q_assign rfl) ?_
      | refine ax_ops_nil ?_
      | refine ax_post_code ?_
      | refine ax_seq ?_
      | refine ax_region rfl ?_
      | refine ax_q (q_loadb_ptr rfl rfl rfl rfl rfl) ?_
      | refine ax_q (q_field_ptr rfl rfl rfl rfl rfl rfl) ?_
      | refine ax_box rfl rfl ?_)
    refine ax_callv rfl rfl rfl h1 ?_
    repeat (first
      | refine ax_q (q_assign rfl) ?_
      | refine ax_ops_nil ?_
      | refine ax_post_code ?_
      | refine ax_seq ?_
      | refine ax_region rfl ?_
      | refine ax_cond_false rfl ?_
      | refine ax_skip ?_
      | refine ax_q (q_loadb_ptr rfl rfl rfl rfl rfl) ?_
      | refine ax_q (q_field_ptr rfl rfl rfl rfl rfl rfl) ?_)
    refine ax_callv rfl rfl rfl h2 ?_
    repeat (first
      | refine ax_q (q_move rfl) ?_
      | refine ax_ops_nil ?_
      | refine ax_post_code ?_
      | refine ax_region rfl ?_
      | refine ax_cond_true rfl ?_
      | refine ax_q (q_loadb_ptr rfl rfl rfl rfl rfl) ?_
      | refine ax_q (q_not rfl) ?_
      | refine ax_q (q_field_ptr rfl rfl rfl rfl rfl rfl) ?_)
    refine ax_callv rfl rfl rfl h3 ?_
    skip
    refine ax_q (q_concat rfl rfl (by show ([47] : List UInt8).length + _ ≤ _; simp only [List.length_cons, List.length_nil, List.length_append]; omega)) ?_
    refine ax_q (q_concat (b := 47 :: Lib.decDigits q.den) rfl rfl (by simp only [List.length_cons, List.length_nil, List.length_append]; omega)) ?_
    repeat (first
      | refine ax_q (q_move rfl) ?_
      | refine ax_q (q_assign rfl) ?_
      | refine ax_ops_nil ?_
      | refine ax_post_code ?_
      | refine ax_seq ?_
      | refine ax_region rfl ?_
      | refine ax_return ?_)
    refine ax_ret hR rfl ?_
    simp [tupOf]
end Go.Proofs.YtbeegiiiochblaaGreatDoor

namespace Go.Proofs.YtbeegiiiochblaaGreatDoor
open Go.Ax Go.Ax.Bg Go.Ax.Rt Go.RowKit
attribute [local irreducible] Ax Post QOp ACall PureOp
set_option maxRecDepth 100000
set_option maxHeartbeats 4000000

theorem big_len {n k m : Nat} (h : k < (natL n).length) (hm : m ≤ 9 * k) : m < (Lib.decDigits n).length := by
  rcases Nat.lt_or_ge m (Lib.decDigits n).length with q | q
  · exact q
  exfalso
  have h1 := digits_lt n
  have h2 : 10 ^ (Lib.decDigits n).length ≤ 10 ^ (9 * k) := Nat.pow_le_pow_right (by decide) (by omega)
  have h3 : 10 ^ (9 * k) ≤ B ^ k := by rw [Nat.pow_mul]; exact Nat.pow_le_pow_left (by decide) k
  have h4 : ¬ n < B ^ k := fun h5 => by have := natL_len_le h5; omega
  omega
theorem fits_ok (q : Rat) (hq : Sz 100000 q) : VCall Tryz.prog 118 [qA q, .int .i64 2000] (.bool (fitB q)) := by
  have h1 := text_ok q.num.natAbs (by have := hq.1; omega)
  have h3 := text_ok q.den (by have := hq.2; omega)
  have l1 := digits_len_b hq.1 (by decide)
  have l2 := digits_len_b hq.2 (by decide)
  have g1 := hq.1
  have g2 := hq.2
  have b1 := @big_len q.num.natAbs 224 2000
  have b2 := @big_len q.den 224 2000
  unfold fitB
  refine ACall.value0 (acall_of_ax (P := Tryz.prog) (fn := Tryz.f118) rfl rfl (by kernel_rfl) rfl (fun c hR hfix => ?_)) (fix := fun _ => False) (fun _ h => h) rfl rfl
  unfold qA
  unfold natA at h1 h3 ⊢
  repeat (first
    | refine ax_q (q_move rfl) ?_
    | refine ax_q (q_assign rfl) ?_
    | refine ax_ops_nil ?_
    | refine ax_post_code ?_
    | refine ax_seq ?_
    | refine ax_region rfl ?_
    | refine ax_q (q_loadb_ptr rfl rfl rfl rfl rfl) ?_
    | refine ax_q (q_gtr rfl rfl) ?_
    | refine ax_q (q_len rfl rfl rfl) ?_
    | refine ax_q (q_add rfl rfl (by omega)) ?_
    | refine ax_q (q_quo rfl rfl (by omega)) ?_
    | refine ax_q (q_max rfl rfl) ?_
    | refine ax_q (q_field_ptr rfl rfl rfl rfl rfl rfl) ?_
    | refine ax_box rfl rfl ?_)
  refine ax_cond_dec rfl (fun h0 => ?_) (fun h0 => ?_)
  · repeat (first
      | refine ax_q (q_assign rfl) ?_
      | refine ax_ops_nil ?_
      | refine ax_post_code ?_
      | refine ax_seq ?_
      | refine ax_region rfl ?_
      | refine ax_return ?_
      | refine ax_ret_code ?_)
    refine ax_ret hR rfl ?_
    have h5 : 224 < (natL q.num.natAbs).length ∨ 224 < (natL q.den).length := by
      split at h0 <;> omega
    have h6 : ¬ ((Lib.decDigits q.num.natAbs).length ≤ 2000 ∧ (Lib.decDigits q.den).length ≤ 2000) := by
      rcases h5 with h5 | h5
      · have := b1 h5 (by decide); omega
      · have := b2 h5 (by decide); omega
    rw [← Bool.decide_and, decide_eq_false h6]
    rfl
  · repeat (first
      | refine ax_post_code ?_
      | refine ax_seq ?_
      | refine ax_region rfl ?_
      | refine ax_skip ?_
      | refine ax_q (q_loadb_ptr rfl rfl rfl rfl rfl) ?_
      | refine ax_q (q_field_ptr rfl rfl rfl rfl rfl rfl) ?_)
    refine ax_callv rfl rfl rfl h1 ?_
    repeat (first
      | refine ax_q (q_move rfl) ?_
      | refine ax_q (q_leq rfl rfl) ?_
      | refine ax_q (q_lenstr rfl rfl) ?_)
    refine ax_gsplit rfl rfl (fun h5 => ?_) (fun h5 => ?_)
    · repeat (first
        | refine ax_guard rfl rfl ?_
        | refine ax_q (q_loadb_ptr rfl rfl rfl rfl rfl) ?_
        | refine ax_q (q_field_ptr rfl rfl rfl rfl rfl rfl) ?_)
      refine ax_callv rfl rfl rfl h3 ?_
      repeat (first
        | refine ax_q (q_move rfl) ?_
        | refine ax_q (q_assign rfl) ?_
        | refine ax_ops_nil ?_
        | refine ax_post_code ?_
        | refine ax_guard rfl rfl ?_
        | refine ax_return ?_
        | refine ax_q (q_leq rfl rfl) ?_
        | refine ax_q (q_pick rfl rfl) ?_
        | refine ax_q (q_lenstr rfl rfl) ?_)
      refine ax_ret hR rfl ?_
      rw [show decide ((Lib.decDigits q.num.natAbs).length ≤ 2000) = true from decide_eq_true (by omega), Bool.true_and]
      show AV.bool _ = AV.bool _
      rw [show decide (((Lib.decDigits q.den).length : Int) ≤ 2000) = decide ((Lib.decDigits q.den).length ≤ 2000) from by rw [decide_eq_decide]; omega]
    · repeat (first
        | refine ax_q (q_assign rfl) ?_
        | refine ax_ops_nil ?_
        | refine ax_post_code ?_
        | refine ax_skip_not rfl rfl rfl ?_
        | refine ax_return ?_
        | refine ax_q (q_pick rfl rfl) ?_)
      refine ax_ret hR rfl ?_
      rw [show decide ((Lib.decDigits q.num.natAbs).length ≤ 2000) = false from decide_eq_false (by omega), Bool.false_and]
      rfl
theorem out_yes (q : Rat) (hq : Sz 100000 q) (h : fitB q = true) : VCall Tryz.prog 86 [qA q] (.tup [.str (textQ q), .int .i64 0]) := by
  have h1 := fits_ok q hq
  have h2 := qtext_ok q hq
  rw [h] at h1
  refine ACall.value0 (acall_of_ax (P := Tryz.prog) (fn := Tryz.f86) rfl rfl (by kernel_rfl) rfl (fun c hR hfix => ?_)) (fix := fun _ => False) (fun _ h => h) rfl rfl
  repeat (first
    | refine ax_q (q_assign rfl) ?_
    | refine ax_ops_nil ?_
    | refine ax_post_code ?_
    | refine ax_seq ?_
    | refine ax_region rfl ?_
    | refine ax_q (q_loadpart_ptr rfl rfl rfl rfl rfl rfl rfl (by first | exact Nat.zero_lt_one | assumption | omega)) ?_
    | refine ax_box rfl rfl ?_)
  refine ax_callv rfl rfl rfl h1 ?_
  repeat (first
    | refine ax_ops_nil ?_
    | refine ax_post_code ?_
    | refine ax_seq ?_
    | refine ax_region rfl ?_
    | refine ax_cond_false rfl ?_
    | refine ax_skip ?_
    | refine ax_q (q_not rfl) ?_
    | refine ax_q (q_loadpart_ptr rfl rfl rfl rfl rfl rfl rfl (by first | exact Nat.zero_lt_one | assumption | omega)) ?_)
  refine ax_callv rfl rfl rfl h2 ?_
  repeat (first
    | refine ax_q (q_assign rfl) ?_
    | refine ax_ops_nil ?_
    | refine ax_post_code ?_
    | refine ax_return ?_)
  exact ax_ret hR rfl rfl
theorem out_no (q : Rat) (hq : Sz 100000 q) (h : fitB q = false) : VCall Tryz.prog 86 [qA q] (.tup [.str [], .int .i64 2]) := by
  have h1 := fits_ok q hq
  rw [h] at h1
  refine ACall.value0 (acall_of_ax (P := Tryz.prog) (fn := Tryz.f86) rfl rfl (by kernel_rfl) rfl (fun c hR hfix => ?_)) (fix := fun _ => False) (fun _ h => h) rfl rfl
  repeat (first
    | refine ax_q (q_assign rfl) ?_
    | refine ax_ops_nil ?_
    | refine ax_post_code ?_
    | refine ax_seq ?_
    | refine ax_region rfl ?_
    | refine ax_q (q_loadpart_ptr rfl rfl rfl rfl rfl rfl rfl (by first | exact Nat.zero_lt_one | assumption | omega)) ?_
    | refine ax_box rfl rfl ?_)
  refine ax_callv rfl rfl rfl h1 ?_
  repeat (first
    | refine ax_q (q_assign rfl) ?_
    | refine ax_ops_nil ?_
    | refine ax_post_code ?_
    | refine ax_seq ?_
    | refine ax_region rfl ?_
    | refine ax_cond_true rfl ?_
    | refine ax_return ?_
    | refine ax_ret_code ?_
    | refine ax_q (q_not rfl) ?_)
  exact ax_ret hR rfl rfl
theorem out_ok (q : Rat) (hq : Sz 100000 q) : VCall Tryz.prog 86 [qA q] (pairA (outF q)) := by
  unfold outF
  cases h : fitB q
  · exact out_no q hq h
  · exact out_yes q hq h
theorem rcheck_ok (s : List UInt8) (hs : s.length ≤ 9223372036854775807) : VCall Tryz.prog 54 [.str s] (.int .i64 (ratE s)) := by
  have h1 := cutNeg s (by omega)
  have h2 := cutBar s hs
  obtain ⟨ln, ld⟩ := parts_len s
  have h3 := digits_ok (numS s) (by omega)
  have h4 := digits_ok (denS s) (by omega)
  have cn := @canonB_iff (numS s)
  have cd := @canonB_iff (denS s)
  unfold ratE
  generalize numS s = n at *
  generalize denS s = d at *
  generalize hasD s = ok at *
  generalize negB s = ng at *
  generalize bodyS s = b at *
  generalize canonB n = p at *
  generalize canonB d = q at *
  refine ACall.value0 (acall_of_ax (P := Tryz.prog) (fn := Tryz.f54) rfl rfl (by kernel_rfl) rfl (fun c hR hfix => ?_)) (fix := fun _ => False) (fun _ h => h) rfl rfl
  repeat (first
    | refine ax_q (q_move rfl) ?_
    | refine ax_q (q_assign rfl) ?_
    | refine ax_ops_nil ?_
    | refine ax_post_code ?_
    | refine ax_seq ?_
    | refine ax_region rfl ?_)
  refine ax_callv rfl rfl rfl h1 ?_
  repeat (first
    | refine ax_q (q_move rfl) ?_
    | refine ax_q (q_assign rfl) ?_
    | refine ax_ops_nil ?_
    | refine ax_post_code ?_
    | refine ax_seq ?_
    | refine ax_region rfl ?_
    | refine ax_q (q_extract rfl rfl) ?_)
  refine ax_callv rfl rfl rfl h2 ?_
  repeat (first
    | refine ax_q (q_move rfl) ?_
    | refine ax_q (q_assign rfl) ?_
    | refine ax_ops_nil ?_
    | refine ax_post_code ?_
    | refine ax_q (q_extract rfl rfl) ?_)
  by_cases hsyn : p = false ∨ (ok = true ∧ q = false) ∨ (ng = true ∧ n = [48])
  · rw [if_pos hsyn] at hR
    cases p
    · repeat (first
        | refine ax_q (q_move rfl) ?_
        | refine ax_seq ?_
        | refine ax_region rfl ?_)
      refine ax_callv rfl rfl rfl h3 ?_
      repeat (first
        | refine ax_q (q_move rfl) ?_
        | refine ax_q (q_assign rfl) ?_
        | refine ax_ops_nil ?_
        | refine ax_post_code ?_
        | refine ax_seq ?_
        | refine ax_region rfl ?_
        | refine ax_skip_undef rfl rfl ?_
        | refine ax_skip_not rfl rfl rfl ?_
        | refine ax_cond_true rfl ?_
        | refine ax_return ?_
        | refine ax_ret_code ?_
        | refine ax_q (q_not rfl) ?_
        | refine ax_q (q_pick rfl rfl) ?_)
      exact ax_ret hR rfl rfl
    · cases ok
      · obtain ⟨hng, hn⟩ : ng = true ∧ n = [48] := by simpa using hsyn
        subst hng
        subst hn
        repeat (first
          | refine ax_q (q_move rfl) ?_
          | refine ax_seq ?_
          | refine ax_region rfl ?_)
        refine ax_callv rfl rfl rfl h3 ?_
        repeat (first
          | refine ax_q (q_move rfl) ?_
          | refine ax_q (q_assign rfl) ?_
          | refine ax_ops_nil ?_
          | refine ax_post_code ?_
          | refine ax_seq ?_
          | refine ax_region rfl ?_
          | refine ax_guard rfl rfl ?_
          | refine ax_skip_not rfl rfl rfl ?_
          | refine ax_cond_true rfl ?_
          | refine ax_return ?_
          | refine ax_ret_code ?_
          | refine ax_q (q_not rfl) ?_
          | refine ax_q (q_pick rfl rfl) ?_
          | refine ax_q (q_streql rfl rfl) ?_)
        exact ax_ret hR rfl rfl
      · cases q
        · repeat (first
            | refine ax_q (q_move rfl) ?_
            | refine ax_seq ?_
            | refine ax_region rfl ?_)
          refine ax_callv rfl rfl rfl h3 ?_
          repeat (first
            | refine ax_q (q_move rfl) ?_
            | refine ax_guard rfl rfl ?_
            | refine ax_q (q_not rfl) ?_)
          refine ax_callv rfl rfl rfl h4 ?_
          repeat (first
            | refine ax_q (q_move rfl) ?_
            | refine ax_q (q_assign rfl) ?_
            | refine ax_ops_nil ?_
            | refine ax_post_code ?_
            | refine ax_seq ?_
            | refine ax_region rfl ?_
            | refine ax_guard rfl rfl ?_
            | refine ax_skip_undef rfl rfl ?_
            | refine ax_skip_not rfl rfl rfl ?_
            | refine ax_cond_true rfl ?_
            | refine ax_return ?_
            | refine ax_ret_code ?_
            | refine ax_q (q_not rfl) ?_
            | refine ax_q (q_pick rfl rfl) ?_)
          exact ax_ret hR rfl rfl
        · obtain ⟨hng, hn⟩ : ng = true ∧ n = [48] := by simpa using hsyn
          subst hng
          subst hn
          repeat (first
            | refine ax_q (q_move rfl) ?_
            | refine ax_seq ?_
            | refine ax_region rfl ?_)
          refine ax_callv rfl rfl rfl h3 ?_
          repeat (first
            | refine ax_q (q_move rfl) ?_
            | refine ax_guard rfl rfl ?_
            | refine ax_q (q_not rfl) ?_)
          refine ax_callv rfl rfl rfl h4 ?_
          repeat (first
            | refine ax_q (q_move rfl) ?_
            | refine ax_q (q_assign rfl) ?_
            | refine ax_ops_nil ?_
            | refine ax_post_code ?_
            | refine ax_seq ?_
            | refine ax_region rfl ?_
            | refine ax_guard rfl rfl ?_
            | refine ax_cond_true rfl ?_
            | refine ax_return ?_
            | refine ax_ret_code ?_
            | refine ax_q (q_not rfl) ?_
            | refine ax_q (q_pick rfl rfl) ?_
            | refine ax_q (q_streql rfl rfl) ?_)
          exact ax_ret hR rfl rfl
  rw [if_neg hsyn] at hR
  apply ax_tail_code (H := []) [(5, .str n), (6, .str d), (7, .bool ok)]
  · intro fin
    cases p
    · exact absurd (.inl rfl) hsyn
    cases ok
    · cases ng
      · repeat (first
          | refine ax_q (q_move rfl) ?_
          | refine ax_seq ?_
          | refine ax_region rfl ?_)
        refine ax_callv rfl rfl rfl h3 ?_
        repeat (first
          | refine ax_q (q_move rfl) ?_
          | refine ax_ops_nil ?_
          | refine ax_post_code ?_
          | refine ax_guard rfl rfl ?_
          | refine ax_skip_not rfl rfl rfl ?_
          | refine ax_cond_false rfl ?_
          | refine ax_skip ?_
          | refine ax_q (q_not rfl) ?_
          | refine ax_q (q_pick rfl rfl) ?_)
        exact fin _ ⟨rfl, rfl, rfl, trivial⟩
      · repeat (first
          | refine ax_q (q_move rfl) ?_
          | refine ax_seq ?_
          | refine ax_region rfl ?_)
        refine ax_callv rfl rfl rfl h3 ?_
        repeat (first
          | refine ax_q (q_move rfl) ?_
          | refine ax_ops_nil ?_
          | refine ax_post_code ?_
          | refine ax_guard rfl rfl ?_
          | refine ax_skip_not rfl rfl rfl ?_
          | refine ax_q (q_not rfl) ?_
          | refine ax_q (q_pick rfl rfl) ?_
          | refine ax_q (q_streql rfl rfl) ?_)
        refine ax_cond_dec rfl (fun h0 => absurd (.inr (.inr ⟨rfl, h0⟩)) hsyn) (fun h0 => ?_)
        repeat (first
          | refine ax_post_code ?_
          | refine ax_skip ?_)
        exact fin _ ⟨rfl, rfl, rfl, trivial⟩
    · cases q
      · exact absurd (.inr (.inl ⟨rfl, rfl⟩)) hsyn
      cases ng
      · repeat (first
          | refine ax_q (q_move rfl) ?_
          | refine ax_seq ?_
          | refine ax_region rfl ?_)
        refine ax_callv rfl rfl rfl h3 ?_
        repeat (first
          | refine ax_q (q_move rfl) ?_
          | refine ax_guard rfl rfl ?_
          | refine ax_q (q_not rfl) ?_)
        refine ax_callv rfl rfl rfl h4 ?_
        repeat (first
          | refine ax_q (q_move rfl) ?_
          | refine ax_ops_nil ?_
          | refine ax_post_code ?_
          | refine ax_guard rfl rfl ?_
          | refine ax_skip_not rfl rfl rfl ?_
          | refine ax_cond_false rfl ?_
          | refine ax_skip ?_
          | refine ax_q (q_not rfl) ?_
          | refine ax_q (q_pick rfl rfl) ?_)
        exact fin _ ⟨rfl, rfl, rfl, trivial⟩
      · repeat (first
          | refine ax_q (q_move rfl) ?_
          | refine ax_seq ?_
          | refine ax_region rfl ?_)
        refine ax_callv rfl rfl rfl h3 ?_
        repeat (first
          | refine ax_q (q_move rfl) ?_
          | refine ax_guard rfl rfl ?_
          | refine ax_q (q_not rfl) ?_)
        refine ax_callv rfl rfl rfl h4 ?_
        repeat (first
          | refine ax_q (q_move rfl) ?_
          | refine ax_ops_nil ?_
          | refine ax_post_code ?_
          | refine ax_guard rfl rfl ?_
          | refine ax_q (q_not rfl) ?_
          | refine ax_q (q_pick rfl rfl) ?_
          | refine ax_q (q_streql rfl rfl) ?_)
        refine ax_cond_dec rfl (fun h0 => absurd (.inr (.inr ⟨rfl, h0⟩)) hsyn) (fun h0 => ?_)
        repeat (first
          | refine ax_post_code ?_
          | refine ax_skip ?_)
        exact fin _ ⟨rfl, rfl, rfl, trivial⟩
  by_cases hl : 2000 < n.length ∨ 2000 < d.length
  · rw [if_pos hl] at hR
    repeat (first
      | refine ax_q (q_move rfl) ?_
      | refine ax_seq ?_
      | refine ax_region rfl ?_
      | refine ax_q (q_gtr rfl rfl) ?_
      | refine ax_q (q_lenstr rfl rfl) ?_)
    refine ax_gsplit rfl rfl (fun h5 => ?_) (fun h5 => ?_)
    · repeat (first
        | refine ax_q (q_assign rfl) ?_
        | refine ax_ops_nil ?_
        | refine ax_post_code ?_
        | refine ax_seq ?_
        | refine ax_region rfl ?_
        | refine ax_skip_not rfl rfl rfl ?_
        | refine ax_cond_true rfl ?_
        | refine ax_return ?_
        | refine ax_ret_code ?_
        | refine ax_q (q_pick rfl rfl) ?_)
      exact ax_ret hR rfl rfl
    · repeat (first
        | refine ax_q (q_move rfl) ?_
        | refine ax_ops_nil ?_
        | refine ax_post_code ?_
        | refine ax_guard rfl rfl ?_
        | refine ax_q (q_gtr rfl rfl) ?_
        | refine ax_q (q_pick rfl rfl) ?_
        | refine ax_q (q_lenstr rfl rfl) ?_)
      refine ax_cond_dec rfl (fun h0 => ?_) (fun h0 => absurd hl (by omega))
      repeat (first
        | refine ax_q (q_assign rfl) ?_
        | refine ax_ops_nil ?_
        | refine ax_post_code ?_
        | refine ax_seq ?_
        | refine ax_region rfl ?_
        | refine ax_return ?_
        | refine ax_ret_code ?_)
      exact ax_ret hR rfl rfl
  rw [if_neg hl] at hR
  repeat (first
    | refine ax_q (q_move rfl) ?_
    | refine ax_seq ?_
    | refine ax_region rfl ?_
    | refine ax_q (q_gtr rfl rfl) ?_
    | refine ax_q (q_lenstr rfl rfl) ?_)
  refine ax_gsplit rfl rfl (fun h5 => absurd hl (by omega)) (fun h5 => ?_)
  repeat (first
    | refine ax_q (q_move rfl) ?_
    | refine ax_ops_nil ?_
    | refine ax_post_code ?_
    | refine ax_guard rfl rfl ?_
    | refine ax_q (q_gtr rfl rfl) ?_
    | refine ax_q (q_pick rfl rfl) ?_
    | refine ax_q (q_lenstr rfl rfl) ?_)
  refine ax_cond_dec rfl (fun h0 => absurd hl (by omega)) (fun h0 => ?_)
  cases ok
  · rw [if_neg (fun h => Bool.false_ne_true h.1)] at hR
    repeat (first
      | refine ax_q (q_move rfl) ?_
      | refine ax_q (q_assign rfl) ?_
      | refine ax_ops_nil ?_
      | refine ax_post_code ?_
      | refine ax_seq ?_
      | refine ax_region rfl ?_
      | refine ax_skip_undef rfl rfl ?_
      | refine ax_skip_not rfl rfl rfl ?_
      | refine ax_cond_false rfl ?_
      | refine ax_skip ?_
      | refine ax_return ?_
      | refine ax_q (q_pick rfl rfl) ?_)
    exact ax_ret hR rfl rfl
  have hp : p = true := by cases p; exact absurd (.inl rfl) hsyn; rfl
  have hq : q = true := by cases q; exact absurd (.inr (.inl ⟨rfl, rfl⟩)) hsyn; rfl
  have c1 := cn.1 hp
  have c2 := cd.1 hq
  have h6 := read_ok n c1.2.1 (by omega)
  have h7 := read_ok d c2.2.1 (by omega)
  have v1 : (natL (decV 0 n)).length ≤ 2000 := val_len c1 (by omega)
  have v2 : (natL (decV 0 d)).length ≤ 2000 := val_len c2 (by omega)
  have h8 := gcd_ok (decV 0 n) (decV 0 d) (by omega) (by omega)
  have h9 := one_ok (Nat.gcd (decV 0 n) (decV 0 d))
  repeat (first
    | refine ax_q (q_move rfl) ?_
    | refine ax_post_code ?_
    | refine ax_seq ?_
    | refine ax_region rfl ?_
    | refine ax_guard rfl rfl ?_
    | refine ax_skip ?_
    | refine ax_q (q_streql rfl rfl) ?_)
  refine ax_gsplit rfl rfl (fun h10 => ?_) (fun h10 => ?_)
  · rw [if_pos ⟨rfl, .inl h10⟩] at hR
    repeat (first
      | refine ax_q (q_move rfl) ?_
      | refine ax_q (q_assign rfl) ?_
      | refine ax_ops_nil ?_
      | refine ax_post_code ?_
      | refine ax_seq ?_
      | refine ax_region rfl ?_
      | refine ax_guard rfl rfl ?_
      | refine ax_skip_not rfl rfl rfl ?_
      | refine ax_cond_true rfl ?_
      | refine ax_return ?_
      | refine ax_ret_code ?_
      | refine ax_q (q_pick rfl rfl) ?_)
    exact ax_ret hR rfl rfl
  · repeat (first
      | refine ax_q (q_move rfl) ?_
      | refine ax_guard rfl rfl ?_
      | refine ax_q (q_pick rfl rfl) ?_
      | refine ax_q (q_streql rfl rfl) ?_)
    refine ax_gsplit rfl rfl (fun h11 => ?_) (fun h11 => ?_)
    · rw [if_pos ⟨rfl, .inr (.inl h11)⟩] at hR
      repeat (first
        | refine ax_q (q_assign rfl) ?_
        | refine ax_ops_nil ?_
        | refine ax_post_code ?_
        | refine ax_seq ?_
        | refine ax_region rfl ?_
        | refine ax_guard rfl rfl ?_
        | refine ax_skip_not rfl rfl rfl ?_
        | refine ax_cond_true rfl ?_
        | refine ax_return ?_
        | refine ax_ret_code ?_
        | refine ax_q (q_pick rfl rfl) ?_)
      exact ax_ret hR rfl rfl
    · by_cases hg : Nat.gcd (decV 0 n) (decV 0 d) = 1
      · rw [decide_eq_true hg] at h9
        rw [if_neg (fun h => by rcases h.2 with e | e | e; exact h10 e; exact h11 e; exact e hg)] at hR
        repeat (first
          | refine ax_q (q_move rfl) ?_
          | refine ax_guard rfl rfl ?_)
        refine ax_callv rfl rfl rfl h6 ?_
        repeat (first
          | refine ax_q (q_move rfl) ?_
          | refine ax_guard rfl rfl ?_)
        refine ax_callv rfl rfl rfl h7 ?_
        repeat (refine ax_guard rfl rfl ?_)
        refine ax_callv rfl rfl rfl h8 ?_
        repeat (refine ax_guard rfl rfl ?_)
        refine ax_callv rfl rfl rfl h9 ?_
        repeat (first
          | refine ax_q (q_assign rfl) ?_
          | refine ax_ops_nil ?_
          | refine ax_post_code ?_
          | refine ax_seq ?_
          | refine ax_region rfl ?_
          | refine ax_guard rfl rfl ?_
          | refine ax_cond_false rfl ?_
          | refine ax_skip ?_
          | refine ax_return ?_
          | refine ax_q (q_not rfl) ?_
          | refine ax_q (q_pick rfl rfl) ?_)
        exact ax_ret hR rfl rfl
      · rw [decide_eq_false hg] at h9
        rw [if_pos ⟨rfl, .inr (.inr hg)⟩] at hR
        repeat (first
          | refine ax_q (q_move rfl) ?_
          | refine ax_guard rfl rfl ?_)
        refine ax_callv rfl rfl rfl h6 ?_
        repeat (first
          | refine ax_q (q_move rfl) ?_
          | refine ax_guard rfl rfl ?_)
        refine ax_callv rfl rfl rfl h7 ?_
        repeat (refine ax_guard rfl rfl ?_)
        refine ax_callv rfl rfl rfl h8 ?_
        repeat (refine ax_guard rfl rfl ?_)
        refine ax_callv rfl rfl rfl h9 ?_
        repeat (first
          | refine ax_q (q_assign rfl) ?_
          | refine ax_ops_nil ?_
          | refine ax_post_code ?_
          | refine ax_seq ?_
          | refine ax_region rfl ?_
          | refine ax_guard rfl rfl ?_
          | refine ax_cond_true rfl ?_
          | refine ax_return ?_
          | refine ax_ret_code ?_
          | refine ax_q (q_not rfl) ?_
          | refine ax_q (q_pick rfl rfl) ?_)
        exact ax_ret hR rfl rfl
end Go.Proofs.YtbeegiiiochblaaGreatDoor

namespace Go.Proofs.YtbeegiiiochblaaGreatDoor
open Go.Ax Go.Ax.Bg Go.Ax.Rt Go.RowKit
attribute [local irreducible] Ax Post QOp ACall PureOp
set_option maxRecDepth 100000
set_option maxHeartbeats 4000000

theorem drop_cons {α : Type} {l : List α} {d : α} {k : Nat} (h : k < l.length) : l.drop k = l.getD k d :: l.drop (k + 1) := by
  rw [List.drop_eq_getElem_cons h]; simp [List.getD, h]
theorem checkAll_ok (l : List (List UInt8)) (hlen : l.length ≤ 9223372036854775807) (hs : ∀ s ∈ l, s.length ≤ 9223372036854775807) : VCall Tryz.prog 24 [.ro (.strs l) 0 l.length] (.int .i64 (allE l)) := by
  refine ACall.value0 (acall_of_ax (P := Tryz.prog) (fn := Tryz.f24) rfl rfl (by kernel_rfl) rfl (fun c hR hfix => ?_)) (fix := fun _ => False) (fun _ h => h) rfl rfl
  repeat (first
    | refine ax_q (q_move rfl) ?_
    | refine ax_q (q_assign rfl) ?_
    | refine ax_ops_nil ?_
    | refine ax_post_code ?_
    | refine ax_seq ?_
    | refine ax_region rfl ?_
    | refine ax_block ?_
    | refine ax_q (q_len rfl rfl rfl) ?_)
  refine ax_loop (ι := Nat) (fun k => [(0, .ro (.strs l) 0 l.length), (6, .ro (.strs l) 0 l.length), (7, .int .i64 (l.length : Nat)), (8, .int .i64 (k : Nat))]) (fun _ => [])
    (fun k => k ≤ l.length ∧ allE l = allE (l.drop k)) (fun k => l.length - k) 0 ⟨⟨rfl, rfl, rfl, rfl, trivial⟩, rfl, Nat.zero_le _, by rw [List.drop_zero]⟩ ?_
  intro k ⟨hk, hE⟩
  repeat (first
    | refine ax_ops_nil ?_
    | refine ax_post_code ?_
    | refine ax_seq ?_
    | refine ax_region rfl ?_
    | refine ax_q (q_lss rfl rfl) ?_)
  refine ax_cond_dec rfl (fun h => ?_) (fun h => ?_)
  · have hk' : k < l.length := by omega
    have hd := drop_cons (d := []) hk'
    have hc := rcheck_ok (l.getD k []) (hs _ (getD_mem [] hk'))
    rw [hd, allE] at hE
    repeat (first
      | refine ax_q (q_move rfl) ?_
      | refine ax_q (q_assign rfl) ?_
      | refine ax_ops_nil ?_
      | refine ax_post_code ?_
      | refine ax_seq ?_
      | refine ax_region rfl ?_
      | refine ax_block ?_
      | refine ax_skip ?_
      | refine ax_q (q_loads_rp rfl rfl rfl) ?_
      | refine ax_q (q_index_ro' rfl rfl rfl rfl (by first | (simp only [Nat.zero_add, Int.toNat_natCast, Int.toNat_zero]; exact rfl) | exact rfl) (by omega)) ?_)
    refine ax_callv rfl rfl rfl hc ?_
    repeat (first
      | refine ax_q (q_move rfl) ?_
      | refine ax_q (q_assign rfl) ?_
      | refine ax_ops_nil ?_
      | refine ax_post_code ?_
      | refine ax_seq ?_
      | refine ax_region rfl ?_
      | refine ax_q (q_neq rfl rfl) ?_)
    refine ax_cond_dec rfl (fun h2 => ?_) (fun h2 => ?_)
    · rw [if_neg h2] at hE
      repeat (first
        | refine ax_q (q_move rfl) ?_
        | refine ax_q (q_assign rfl) ?_
        | refine ax_ops_nil ?_
        | refine ax_post_code ?_
        | refine ax_seq ?_
        | refine ax_region rfl ?_
        | refine ax_return ?_
        | refine ax_ret_code ?_
        | refine ax_ret_blk ?_
        | refine ax_ret_inv ?_)
      refine ax_ret hR rfl ?_
      rw [hE]; rfl
    · rw [if_pos (Classical.not_not.1 h2)] at hE
      repeat (first
        | refine ax_q (q_move rfl) ?_
        | refine ax_ops_nil ?_
        | refine ax_post_code ?_
        | refine ax_region rfl ?_
        | refine ax_post_blk ?_
        | refine ax_skip ?_
        | refine ax_q (q_add rfl rfl (by omega)) ?_)
      refine ax_post_inv ⟨k + 1, ⟨by omega, hE⟩, by omega, ⟨rfl, rfl, rfl, rfl, trivial⟩, rfl⟩
  · have hk' : k = l.length := by omega
    subst hk'
    rw [List.drop_length] at hE
    repeat (first
      | refine ax_q (q_assign rfl) ?_
      | refine ax_ops_nil ?_
      | refine ax_post_code ?_
      | refine ax_seq ?_
      | refine ax_region rfl ?_
      | refine ax_exit ?_
      | refine ax_exit_here ?_
      | refine ax_exit_code ?_
      | refine ax_exit_inv ?_
      | refine ax_return ?_)
    refine ax_ret hR rfl ?_
    rw [hE]; rfl
theorem sz_v {s : List UInt8} (h : ratE s = 0) : Sz 2000 (ratV s) := by
  have hp := rat_parts h
  refine ⟨?_, ?_⟩
  · rw [hp.num, sgnI_abs]; exact val_len hp.cn hp.ln
  · rw [hp.den]
    cases e : hasD s
    · rw [den_one e, natL_one]; decide
    · rw [den_some e]; exact val_len (hp.cd e).1 hp.ld
theorem Sz.mono {j k : Nat} {q : Rat} (h : Sz j q) (hk : j ≤ k) : Sz k q := ⟨Nat.le_trans h.1 hk, Nat.le_trans h.2 hk⟩
theorem sz_frac {n d : Int} {k : Nat} (hd : d ≠ 0) (h1 : (natL n.natAbs).length ≤ k) (h2 : (natL d.natAbs).length ≤ k) : Sz k (Rat.divInt n d) := by
  obtain ⟨e1, e2, _⟩ := frac_parts n d hd
  refine ⟨?_, ?_⟩
  · rw [e1]; exact natL_le_len (Nat.div_le_self _ _) h1
  · rw [e2]; exact natL_le_len (Nat.div_le_self _ _) h2
theorem sz_add {p q : Rat} {k : Nat} (hp : Sz k p) (hq : Sz k q) : Sz (k + k + 1) (p + q) := by
  have l1 : (natL (q.den : Int).natAbs).length ≤ k := hq.2
  have l2 : (natL (p.den : Int).natAbs).length ≤ k := hp.2
  rw [← add_frac]
  refine sz_frac (by have := Nat.mul_ne_zero p.den_nz q.den_nz; omega) (iadd_len (imul_len hp.1 l1) (imul_len hq.1 l2)) ?_
  rw [Int.natAbs_natCast]
  have := len_mul hp.2 hq.2
  omega
theorem sz_sub {p q : Rat} {k : Nat} (hp : Sz k p) (hq : Sz k q) : Sz (k + k + 1) (p - q) := by
  rw [Rat.sub_eq_add_neg]; exact sz_add hp (sz_neg hq)
theorem sz_mul {p q : Rat} {k : Nat} (hp : Sz k p) (hq : Sz k q) : Sz (k + k + 1) (p * q) := by
  rw [← mul_frac]
  refine sz_frac (by have := Nat.mul_ne_zero p.den_nz q.den_nz; omega) (by have := imul_len hp.1 hq.1; omega) ?_
  rw [Int.natAbs_natCast]
  have := len_mul hp.2 hq.2
  omega
theorem sz_div {p q : Rat} {k : Nat} (hp : Sz k p) (hq : Sz k q) (h0 : q ≠ 0) : Sz (k + k + 1) (p / q) := by
  have l1 : (natL (q.den : Int).natAbs).length ≤ k := hq.2
  have l2 : (natL (p.den : Int).natAbs).length ≤ k := hp.2
  have hn : q.num ≠ 0 := fun h => h0 (Rat.num_eq_zero.1 h)
  rw [← div_frac p q h0]
  refine sz_frac (Int.mul_ne_zero hn (den_ne p)) (by have := imul_len hp.1 l1; omega) (by have := imul_len hq.1 l2; omega)
theorem sz_floor {p : Rat} {k : Nat} (hp : Sz k p) (hk : 1 ≤ k) : Sz (k + 1) (p.floor : Rat) := by
  refine ⟨?_, by show (natL 1).length ≤ _; rw [natL_one]; simp⟩
  show (natL p.floor.natAbs).length ≤ _
  have h : p.floor.natAbs ≤ p.num.natAbs + 1 := by
    rw [floor_parts]
    have := Nat.div_le_self p.num.natAbs p.den
    generalize p.num.natAbs / p.den = w at *
    generalize p.num.natAbs = m at *
    split
    · omega
    · split <;> omega
  exact natL_le_len h (len_add hp.1 (by rw [natL_one]; simpa using hk))
theorem rtwo_ok (a b : List UInt8) (ha : a.length ≤ 9223372036854775807) (hb : b.length ≤ 9223372036854775807) (g : FuncId) (F : Rat → Rat → Rat) (hF : allE [a, b] = 0 → VCall Tryz.prog g [qA (ratV a), qA (ratV b)] (qA (F (ratV a) (ratV b))) ∧ Sz 100000 (F (ratV a) (ratV b))) : VCall Tryz.prog 55 [.str a, .str b, .fn g []] (pairA (twoR F a b)) := by
  have h1 := checkAll_ok [a, b] (by show 2 ≤ _; decide) (by intro s hs; simp at hs; rcases hs with rfl | rfl <;> assumption)
  unfold twoR
  by_cases hE : allE [a, b] = 0
  · obtain ⟨h2, hz⟩ := hF hE
    rw [if_pos hE]
    rw [hE] at h1
    have ea := allE_mem hE a (by simp)
    have eb := allE_mem hE b (by simp)
    have h3 := parse_ok a ha ea
    have h4 := parse_ok b hb eb
    have h5 := out_ok _ hz
    refine ACall.value0 (acall_of_ax (P := Tryz.prog) (fn := Tryz.f55) rfl rfl (by kernel_rfl) rfl (fun c hR hfix => ?_)) (fix := fun _ => False) (fun _ h => h) rfl rfl
    generalize outF (F (ratV a) (ratV b)) = r at *
    unfold pairA at *
    repeat (first
      | refine ax_q (q_move rfl) ?_
      | refine ax_q (q_assign rfl) ?_
      | refine ax_ops_nil ?_
      | refine ax_post_code ?_
      | refine ax_seq ?_
      | refine ax_region rfl ?_
      | refine ax_buildSliceRo rfl rfl rfl rfl rfl rfl rfl rfl rfl rfl rfl ?_)
    refine ax_callv rfl rfl rfl h1 ?_
    repeat (first
      | refine ax_q (q_move rfl) ?_
      | refine ax_q (q_assign rfl) ?_
      | refine ax_ops_nil ?_
      | refine ax_post_code ?_
      | refine ax_seq ?_
      | refine ax_region rfl ?_
      | refine ax_cond_false rfl ?_
      | refine ax_skip ?_
      | refine ax_q (q_neq rfl rfl) ?_)
    refine ax_callv rfl rfl rfl h3 ?_
    repeat (refine ax_q (q_move rfl) ?_)
    refine ax_callv rfl rfl rfl h4 ?_
    skip
    refine ax_callv rfl rfl rfl h2 ?_
    skip
    refine ax_callv rfl rfl rfl h5 ?_
    repeat (first
      | refine ax_q (q_assign rfl) ?_
      | refine ax_ops_nil ?_
      | refine ax_post_code ?_
      | refine ax_return ?_
      | refine ax_q (q_extract rfl rfl) ?_)
    exact ax_ret hR rfl rfl
  · rw [if_neg hE]
    generalize allE [a, b] = e at *
    refine ACall.value0 (acall_of_ax (P := Tryz.prog) (fn := Tryz.f55) rfl rfl (by kernel_rfl) rfl (fun c hR hfix => ?_)) (fix := fun _ => False) (fun _ h => h) rfl rfl
    repeat (first
      | refine ax_q (q_move rfl) ?_
      | refine ax_q (q_assign rfl) ?_
      | refine ax_ops_nil ?_
      | refine ax_post_code ?_
      | refine ax_seq ?_
      | refine ax_region rfl ?_
      | refine ax_buildSliceRo rfl rfl rfl rfl rfl rfl rfl rfl rfl rfl rfl ?_)
    refine ax_callv rfl rfl rfl h1 ?_
    repeat (first
      | refine ax_q (q_move rfl) ?_
      | refine ax_q (q_assign rfl) ?_
      | refine ax_ops_nil ?_
      | refine ax_post_code ?_
      | refine ax_seq ?_
      | refine ax_region rfl ?_
      | refine ax_q (q_neq rfl rfl) ?_)
    refine ax_cond_dec rfl (fun h2 => ?_) (fun h2 => absurd hE h2)
    repeat (first
      | refine ax_q (q_move rfl) ?_
      | refine ax_q (q_assign rfl) ?_
      | refine ax_ops_nil ?_
      | refine ax_post_code ?_
      | refine ax_seq ?_
      | refine ax_region rfl ?_
      | refine ax_return ?_
      | refine ax_ret_code ?_)
    exact ax_ret hR rfl rfl
theorem rone_ok (a : List UInt8) (ha : a.length ≤ 9223372036854775807) (g : FuncId) (F : Rat → Rat) (hF : ratE a = 0 → VCall Tryz.prog g [qA (ratV a)] (qA (F (ratV a))) ∧ Sz 100000 (F (ratV a))) : VCall Tryz.prog 63 [.str a, .fn g []] (pairA (oneR F a)) := by
  have h1 := rcheck_ok a ha
  unfold oneR
  by_cases hE : ratE a = 0
  · obtain ⟨h2, hz⟩ := hF hE
    rw [if_pos hE]
    have h3 := parse_ok a ha hE
    rw [hE] at h1
    have h5 := out_ok _ hz
    refine ACall.value0 (acall_of_ax (P := Tryz.prog) (fn := Tryz.f63) rfl rfl (by kernel_rfl) rfl (fun c hR hfix => ?_)) (fix := fun _ => False) (fun _ h => h) rfl rfl
    generalize outF (F (ratV a)) = r at *
    unfold pairA at *
    repeat (first
      | refine ax_q (q_move rfl) ?_
      | refine ax_q (q_assign rfl) ?_
      | refine ax_ops_nil ?_
      | refine ax_post_code ?_
      | refine ax_seq ?_
      | refine ax_region rfl ?_)
    refine ax_callv rfl rfl rfl h1 ?_
    repeat (first
      | refine ax_q (q_move rfl) ?_
      | refine ax_q (q_assign rfl) ?_
      | refine ax_ops_nil ?_
      | refine ax_post_code ?_
      | refine ax_seq ?_
      | refine ax_region rfl ?_
      | refine ax_cond_false rfl ?_
      | refine ax_skip ?_
      | refine ax_q (q_neq rfl rfl) ?_)
    refine ax_callv rfl rfl rfl h3 ?_
    skip
    refine ax_callv rfl rfl rfl h2 ?_
    skip
    refine ax_callv rfl rfl rfl h5 ?_
    repeat (first
      | refine ax_q (q_assign rfl) ?_
      | refine ax_ops_nil ?_
      | refine ax_post_code ?_
      | refine ax_return ?_
      | refine ax_q (q_extract rfl rfl) ?_)
    exact ax_ret hR rfl rfl
  · rw [if_neg hE]
    generalize ratE a = e at *
    refine ACall.value0 (acall_of_ax (P := Tryz.prog) (fn := Tryz.f63) rfl rfl (by kernel_rfl) rfl (fun c hR hfix => ?_)) (fix := fun _ => False) (fun _ h => h) rfl rfl
    repeat (first
      | refine ax_q (q_move rfl) ?_
      | refine ax_q (q_assign rfl) ?_
      | refine ax_ops_nil ?_
      | refine ax_post_code ?_
      | refine ax_seq ?_
      | refine ax_region rfl ?_)
    refine ax_callv rfl rfl rfl h1 ?_
    repeat (first
      | refine ax_q (q_move rfl) ?_
      | refine ax_q (q_assign rfl) ?_
      | refine ax_ops_nil ?_
      | refine ax_post_code ?_
      | refine ax_seq ?_
      | refine ax_region rfl ?_
      | refine ax_q (q_neq rfl rfl) ?_)
    refine ax_cond_dec rfl (fun h2 => ?_) (fun h2 => absurd hE h2)
    repeat (first
      | refine ax_q (q_move rfl) ?_
      | refine ax_q (q_assign rfl) ?_
      | refine ax_ops_nil ?_
      | refine ax_post_code ?_
      | refine ax_seq ?_
      | refine ax_region rfl ?_
      | refine ax_return ?_
      | refine ax_ret_code ?_)
    exact ax_ret hR rfl rfl
theorem radd_ok (a b : List UInt8) (ha : a.length ≤ 9223372036854775807) (hb : b.length ≤ 9223372036854775807) : VCall Tryz.prog 25 [.str a, .str b] (pairA (twoR (fun x y => x + y) a b)) := by
  have h1 := rtwo_ok a b ha hb 56 (fun x y => x + y) (fun hE => by
    have za := sz_v (allE_mem hE a (by simp))
    have zb := sz_v (allE_mem hE b (by simp))
    exact ⟨qadd_ok _ _ (za.mono (by decide)) (zb.mono (by decide)), (sz_add za zb).mono (by decide)⟩)
  refine ACall.value0 (acall_of_ax (P := Tryz.prog) (fn := Tryz.f25) rfl rfl (by kernel_rfl) rfl (fun c hR hfix => ?_)) (fix := fun _ => False) (fun _ h => h) rfl rfl
  generalize twoR (fun x y => x + y) a b = r at *
  unfold pairA at *
  repeat (first
    | refine ax_q (q_move rfl) ?_
    | refine ax_q (q_assign rfl) ?_
    | refine ax_ops_nil ?_
    | refine ax_post_code ?_
    | refine ax_seq ?_
    | refine ax_region rfl ?_)
  refine ax_callv rfl rfl rfl h1 ?_
  repeat (first
    | refine ax_q (q_assign rfl) ?_
    | refine ax_ops_nil ?_
    | refine ax_post_code ?_
    | refine ax_return ?_
    | refine ax_q (q_extract rfl rfl) ?_)
  exact ax_ret hR rfl rfl
theorem rsub_ok (a b : List UInt8) (ha : a.length ≤ 9223372036854775807) (hb : b.length ≤ 9223372036854775807) : VCall Tryz.prog 27 [.str a, .str b] (pairA (twoR (fun x y => x - y) a b)) := by
  have h1 := rtwo_ok a b ha hb 58 (fun x y => x - y) (fun hE => by
    have za := sz_v (allE_mem hE a (by simp))
    have zb := sz_v (allE_mem hE b (by simp))
    exact ⟨qsub_ok _ _ (za.mono (by decide)) (zb.mono (by decide)), (sz_sub za zb).mono (by decide)⟩)
  refine ACall.value0 (acall_of_ax (P := Tryz.prog) (fn := Tryz.f27) rfl rfl (by kernel_rfl) rfl (fun c hR hfix => ?_)) (fix := fun _ => False) (fun _ h => h) rfl rfl
  generalize twoR (fun x y => x - y) a b = r at *
  unfold pairA at *
  repeat (first
    | refine ax_q (q_move rfl) ?_
    | refine ax_q (q_assign rfl) ?_
    | refine ax_ops_nil ?_
    | refine ax_post_code ?_
    | refine ax_seq ?_
    | refine ax_region rfl ?_)
  refine ax_callv rfl rfl rfl h1 ?_
  repeat (first
    | refine ax_q (q_assign rfl) ?_
    | refine ax_ops_nil ?_
    | refine ax_post_code ?_
    | refine ax_return ?_
    | refine ax_q (q_extract rfl rfl) ?_)
  exact ax_ret hR rfl rfl
theorem rmul_ok (a b : List UInt8) (ha : a.length ≤ 9223372036854775807) (hb : b.length ≤ 9223372036854775807) : VCall Tryz.prog 26 [.str a, .str b] (pairA (twoR (fun x y => x * y) a b)) := by
  have h1 := rtwo_ok a b ha hb 57 (fun x y => x * y) (fun hE => by
    have za := sz_v (allE_mem hE a (by simp))
    have zb := sz_v (allE_mem hE b (by simp))
    exact ⟨qmul_ok _ _ (za.mono (by decide)) (zb.mono (by decide)), (sz_mul za zb).mono (by decide)⟩)
  refine ACall.value0 (acall_of_ax (P := Tryz.prog) (fn := Tryz.f26) rfl rfl (by kernel_rfl) rfl (fun c hR hfix => ?_)) (fix := fun _ => False) (fun _ h => h) rfl rfl
  generalize twoR (fun x y => x * y) a b = r at *
  unfold pairA at *
  repeat (first
    | refine ax_q (q_move rfl) ?_
    | refine ax_q (q_assign rfl) ?_
    | refine ax_ops_nil ?_
    | refine ax_post_code ?_
    | refine ax_seq ?_
    | refine ax_region rfl ?_)
  refine ax_callv rfl rfl rfl h1 ?_
  repeat (first
    | refine ax_q (q_assign rfl) ?_
    | refine ax_ops_nil ?_
    | refine ax_post_code ?_
    | refine ax_return ?_
    | refine ax_q (q_extract rfl rfl) ?_)
  exact ax_ret hR rfl rfl
theorem rneg_ok (a : List UInt8) (ha : a.length ≤ 9223372036854775807) : VCall Tryz.prog 31 [.str a] (pairA (oneR (fun x => -x) a)) := by
  have h1 := rone_ok a ha 64 (fun x => -x) (fun hE => by
    have za := sz_v hE
    exact ⟨qopp_ok _, (sz_neg za).mono (by decide)⟩)
  refine ACall.value0 (acall_of_ax (P := Tryz.prog) (fn := Tryz.f31) rfl rfl (by kernel_rfl) rfl (fun c hR hfix => ?_)) (fix := fun _ => False) (fun _ h => h) rfl rfl
  generalize oneR (fun x => -x) a = r at *
  unfold pairA at *
  repeat (first
    | refine ax_q (q_move rfl) ?_
    | refine ax_q (q_assign rfl) ?_
    | refine ax_ops_nil ?_
    | refine ax_post_code ?_
    | refine ax_seq ?_
    | refine ax_region rfl ?_)
  refine ax_callv rfl rfl rfl h1 ?_
  repeat (first
    | refine ax_q (q_assign rfl) ?_
    | refine ax_ops_nil ?_
    | refine ax_post_code ?_
    | refine ax_return ?_
    | refine ax_q (q_extract rfl rfl) ?_)
  exact ax_ret hR rfl rfl
theorem rfloor_ok (a : List UInt8) (ha : a.length ≤ 9223372036854775807) : VCall Tryz.prog 32 [.str a] (pairA (oneR (fun x => (x.floor : Rat)) a)) := by
  have h1 := rone_ok a ha 65 (fun x => (x.floor : Rat)) (fun hE => by
    have za := sz_v hE
    exact ⟨qfloor_ok _ (za.mono (by decide)), (sz_floor za (by decide)).mono (by decide)⟩)
  refine ACall.value0 (acall_of_ax (P := Tryz.prog) (fn := Tryz.f32) rfl rfl (by kernel_rfl) rfl (fun c hR hfix => ?_)) (fix := fun _ => False) (fun _ h => h) rfl rfl
  generalize oneR (fun x => (x.floor : Rat)) a = r at *
  unfold pairA at *
  repeat (first
    | refine ax_q (q_move rfl) ?_
    | refine ax_q (q_assign rfl) ?_
    | refine ax_ops_nil ?_
    | refine ax_post_code ?_
    | refine ax_seq ?_
    | refine ax_region rfl ?_)
  refine ax_callv rfl rfl rfl h1 ?_
  repeat (first
    | refine ax_q (q_assign rfl) ?_
    | refine ax_ops_nil ?_
    | refine ax_post_code ?_
    | refine ax_return ?_
    | refine ax_q (q_extract rfl rfl) ?_)
  exact ax_ret hR rfl rfl
theorem rdiv_ok (a b : List UInt8) (ha : a.length ≤ 9223372036854775807) (hb : b.length ≤ 9223372036854775807) : VCall Tryz.prog 28 [.str a, .str b] (pairA (divR a b)) := by
  have h1 := checkAll_ok [a, b] (by show 2 ≤ _; decide) (by intro s hs; simp at hs; rcases hs with rfl | rfl <;> assumption)
  unfold divR
  by_cases hE : allE [a, b] = 0
  · rw [if_pos hE]
    rw [hE] at h1
    by_cases h0 : b = [48]
    · rw [if_pos h0]
      subst h0
      refine ACall.value0 (acall_of_ax (P := Tryz.prog) (fn := Tryz.f28) rfl rfl (by kernel_rfl) rfl (fun c hR hfix => ?_)) (fix := fun _ => False) (fun _ h => h) rfl rfl
      repeat (first
        | refine ax_q (q_move rfl) ?_
        | refine ax_q (q_assign rfl) ?_
        | refine ax_ops_nil ?_
        | refine ax_post_code ?_
        | refine ax_seq ?_
        | refine ax_region rfl ?_
        | refine ax_buildSliceRo rfl rfl rfl rfl rfl rfl rfl rfl rfl rfl rfl ?_)
      refine ax_callv rfl rfl rfl h1 ?_
      repeat (first
        | refine ax_q (q_move rfl) ?_
        | refine ax_q (q_assign rfl) ?_
        | refine ax_ops_nil ?_
        | refine ax_post_code ?_
        | refine ax_seq ?_
        | refine ax_region rfl ?_
        | refine ax_cond_true rfl ?_
        | refine ax_cond_false rfl ?_
        | refine ax_skip ?_
        | refine ax_return ?_
        | refine ax_ret_code ?_
        | refine ax_q (q_neq rfl rfl) ?_
        | refine ax_q (q_streql rfl rfl) ?_)
      exact ax_ret hR rfl rfl
    · rw [if_neg h0]
      have h2 := rtwo_ok a b ha hb 59 (fun x y => x / y) (fun hE => by
        have za := sz_v (allE_mem hE a (by simp))
        have zb := sz_v (allE_mem hE b (by simp))
        have hn : ratV b ≠ 0 := fun e => h0 ((Parts.zero (allE_mem hE b (by simp))).1 e)
        exact ⟨qdiv_ok _ _ (za.mono (by decide)) (zb.mono (by decide)) hn, (sz_div za zb hn).mono (by decide)⟩)
      unfold twoR at h2
      rw [if_pos hE] at h2
      refine ACall.value0 (acall_of_ax (P := Tryz.prog) (fn := Tryz.f28) rfl rfl (by kernel_rfl) rfl (fun c hR hfix => ?_)) (fix := fun _ => False) (fun _ h => h) rfl rfl
      generalize outF (ratV a / ratV b) = r at *
      unfold pairA at *
      repeat (first
        | refine ax_q (q_move rfl) ?_
        | refine ax_q (q_assign rfl) ?_
        | refine ax_ops_nil ?_
        | refine ax_post_code ?_
        | refine ax_seq ?_
        | refine ax_region rfl ?_
        | refine ax_buildSliceRo rfl rfl rfl rfl rfl rfl rfl rfl rfl rfl rfl ?_)
      refine ax_callv rfl rfl rfl h1 ?_
      repeat (first
        | refine ax_q (q_move rfl) ?_
        | refine ax_q (q_assign rfl) ?_
        | refine ax_ops_nil ?_
        | refine ax_post_code ?_
        | refine ax_seq ?_
        | refine ax_region rfl ?_
        | refine ax_cond_false rfl ?_
        | refine ax_skip ?_
        | refine ax_q (q_neq rfl rfl) ?_
        | refine ax_q (q_streql rfl rfl) ?_)
      refine ax_cond_dec rfl (fun h3 => absurd h3 h0) (fun h3 => ?_)
      repeat (first
        | refine ax_q (q_move rfl) ?_
        | refine ax_post_code ?_
        | refine ax_seq ?_
        | refine ax_region rfl ?_
        | refine ax_skip ?_)
      refine ax_callv rfl rfl rfl h2 ?_
      repeat (first
        | refine ax_q (q_assign rfl) ?_
        | refine ax_ops_nil ?_
        | refine ax_post_code ?_
        | refine ax_return ?_
        | refine ax_q (q_extract rfl rfl) ?_)
      exact ax_ret hR rfl rfl
  · rw [if_neg hE]
    generalize allE [a, b] = e at *
    refine ACall.value0 (acall_of_ax (P := Tryz.prog) (fn := Tryz.f28) rfl rfl (by kernel_rfl) rfl (fun c hR hfix => ?_)) (fix := fun _ => False) (fun _ h => h) rfl rfl
    repeat (first
      | refine ax_q (q_move rfl) ?_
      | refine ax_q (q_assign rfl) ?_
      | refine ax_ops_nil ?_
      | refine ax_post_code ?_
      | refine ax_seq ?_
      | refine ax_region rfl ?_
      | refine ax_buildSliceRo rfl rfl rfl rfl rfl rfl rfl rfl rfl rfl rfl ?_)
    refine ax_callv rfl rfl rfl h1 ?_
    repeat (first
      | refine ax_q (q_move rfl) ?_
      | refine ax_q (q_assign rfl) ?_
      | refine ax_ops_nil ?_
      | refine ax_post_code ?_
      | refine ax_seq ?_
      | refine ax_region rfl ?_
      | refine ax_q (q_neq rfl rfl) ?_)
    refine ax_cond_dec rfl (fun h2 => ?_) (fun h2 => absurd hE h2)
    repeat (first
      | refine ax_q (q_move rfl) ?_
      | refine ax_q (q_assign rfl) ?_
      | refine ax_ops_nil ?_
      | refine ax_post_code ?_
      | refine ax_seq ?_
      | refine ax_region rfl ?_
      | refine ax_return ?_
      | refine ax_ret_code ?_)
    exact ax_ret hR rfl rfl
theorem rcmp_ok (a b : List UInt8) (ha : a.length ≤ 9223372036854775807) (hb : b.length ≤ 9223372036854775807) : VCall Tryz.prog 29 [.str a, .str b] (.tup [.int .i64 (cmpR a b).1, .int .i64 (cmpR a b).2]) := by
  have h1 := checkAll_ok [a, b] (by show 2 ≤ _; decide) (by intro s hs; simp at hs; rcases hs with rfl | rfl <;> assumption)
  unfold cmpR
  by_cases hE : allE [a, b] = 0
  · rw [if_pos hE]
    rw [hE] at h1
    have ea := allE_mem hE a (by simp)
    have eb := allE_mem hE b (by simp)
    have h3 := parse_ok a ha ea
    have h4 := parse_ok b hb eb
    have h5 := qcmp_ok _ _ ((sz_v ea).mono (by decide)) ((sz_v eb).mono (by decide))
    refine ACall.value0 (acall_of_ax (P := Tryz.prog) (fn := Tryz.f29) rfl rfl (by kernel_rfl) rfl (fun c hR hfix => ?_)) (fix := fun _ => False) (fun _ h => h) rfl rfl
    repeat (first
      | refine ax_q (q_move rfl) ?_
      | refine ax_q (q_assign rfl) ?_
      | refine ax_ops_nil ?_
      | refine ax_post_code ?_
      | refine ax_seq ?_
      | refine ax_region rfl ?_
      | refine ax_buildSliceRo rfl rfl rfl rfl rfl rfl rfl rfl rfl rfl rfl ?_)
    refine ax_callv rfl rfl rfl h1 ?_
    repeat (first
      | refine ax_q (q_move rfl) ?_
      | refine ax_q (q_assign rfl) ?_
      | refine ax_ops_nil ?_
      | refine ax_post_code ?_
      | refine ax_seq ?_
      | refine ax_region rfl ?_
      | refine ax_cond_false rfl ?_
      | refine ax_skip ?_
      | refine ax_q (q_neq rfl rfl) ?_)
    refine ax_callv rfl rfl rfl h3 ?_
    repeat (refine ax_q (q_move rfl) ?_)
    refine ax_callv rfl rfl rfl h4 ?_
    skip
    refine ax_callv rfl rfl rfl h5 ?_
    repeat (first
      | refine ax_q (q_assign rfl) ?_
      | refine ax_ops_nil ?_
      | refine ax_post_code ?_
      | refine ax_return ?_)
    exact ax_ret hR rfl rfl
  · rw [if_neg hE]
    generalize allE [a, b] = e at *
    refine ACall.value0 (acall_of_ax (P := Tryz.prog) (fn := Tryz.f29) rfl rfl (by kernel_rfl) rfl (fun c hR hfix => ?_)) (fix := fun _ => False) (fun _ h => h) rfl rfl
    repeat (first
      | refine ax_q (q_move rfl) ?_
      | refine ax_q (q_assign rfl) ?_
      | refine ax_ops_nil ?_
      | refine ax_post_code ?_
      | refine ax_seq ?_
      | refine ax_region rfl ?_
      | refine ax_buildSliceRo rfl rfl rfl rfl rfl rfl rfl rfl rfl rfl rfl ?_)
    refine ax_callv rfl rfl rfl h1 ?_
    repeat (first
      | refine ax_q (q_move rfl) ?_
      | refine ax_q (q_assign rfl) ?_
      | refine ax_ops_nil ?_
      | refine ax_post_code ?_
      | refine ax_seq ?_
      | refine ax_region rfl ?_
      | refine ax_q (q_neq rfl rfl) ?_)
    refine ax_cond_dec rfl (fun h2 => ?_) (fun h2 => absurd hE h2)
    repeat (first
      | refine ax_q (q_move rfl) ?_
      | refine ax_q (q_assign rfl) ?_
      | refine ax_ops_nil ?_
      | refine ax_post_code ?_
      | refine ax_seq ?_
      | refine ax_region rfl ?_
      | refine ax_return ?_
      | refine ax_ret_code ?_)
    exact ax_ret hR rfl rfl
theorem rsign_ok (a : List UInt8) (ha : a.length ≤ 9223372036854775807) : VCall Tryz.prog 30 [.str a] (.tup [.int .i64 (signR a).1, .int .i64 (signR a).2]) := by
  have h1 := rcheck_ok a ha
  unfold signR
  by_cases hE : ratE a = 0
  · rw [if_pos hE]
    have h3 := parse_ok a ha hE
    rw [hE] at h1
    have h5 := qsign_ok (ratV a)
    refine ACall.value0 (acall_of_ax (P := Tryz.prog) (fn := Tryz.f30) rfl rfl (by kernel_rfl) rfl (fun c hR hfix => ?_)) (fix := fun _ => False) (fun _ h => h) rfl rfl
    repeat (first
      | refine ax_q (q_move rfl) ?_
      | refine ax_q (q_assign rfl) ?_
      | refine ax_ops_nil ?_
      | refine ax_post_code ?_
      | refine ax_seq ?_
      | refine ax_region rfl ?_)
    refine ax_callv rfl rfl rfl h1 ?_
    repeat (first
      | refine ax_q (q_move rfl) ?_
      | refine ax_q (q_assign rfl) ?_
      | refine ax_ops_nil ?_
      | refine ax_post_code ?_
      | refine ax_seq ?_
      | refine ax_region rfl ?_
      | refine ax_cond_false rfl ?_
      | refine ax_skip ?_
      | refine ax_q (q_neq rfl rfl) ?_)
    refine ax_callv rfl rfl rfl h3 ?_
    skip
    refine ax_callv rfl rfl rfl h5 ?_
    repeat (first
      | refine ax_q (q_assign rfl) ?_
      | refine ax_ops_nil ?_
      | refine ax_post_code ?_
      | refine ax_return ?_)
    exact ax_ret hR rfl rfl
  · rw [if_neg hE]
    generalize ratE a = e at *
    refine ACall.value0 (acall_of_ax (P := Tryz.prog) (fn := Tryz.f30) rfl rfl (by kernel_rfl) rfl (fun c hR hfix => ?_)) (fix := fun _ => False) (fun _ h => h) rfl rfl
    repeat (first
      | refine ax_q (q_move rfl) ?_
      | refine ax_q (q_assign rfl) ?_
      | refine ax_ops_nil ?_
      | refine ax_post_code ?_
      | refine ax_seq ?_
      | refine ax_region rfl ?_)
    refine ax_callv rfl rfl rfl h1 ?_
    repeat (first
      | refine ax_q (q_move rfl) ?_
      | refine ax_q (q_assign rfl) ?_
      | refine ax_ops_nil ?_
      | refine ax_post_code ?_
      | refine ax_seq ?_
      | refine ax_region rfl ?_
      | refine ax_q (q_neq rfl rfl) ?_)
    refine ax_cond_dec rfl (fun h2 => ?_) (fun h2 => absurd hE h2)
    repeat (first
      | refine ax_q (q_move rfl) ?_
      | refine ax_q (q_assign rfl) ?_
      | refine ax_ops_nil ?_
      | refine ax_post_code ?_
      | refine ax_seq ?_
      | refine ax_region rfl ?_
      | refine ax_return ?_
      | refine ax_ret_code ?_)
    exact ax_ret hR rfl rfl
theorem len_i64 {n : Int} (h : -9223372036854775808 ≤ n ∧ n < 9223372036854775808) : (natL n.natAbs).length ≤ 2 := natL_len_le (by show n.natAbs < 4294967296 ^ 2; omega)
theorem rof_ok (n d : Int) (hn : -9223372036854775808 ≤ n ∧ n < 9223372036854775808) (hd : -9223372036854775808 ≤ d ∧ d < 9223372036854775808) (h0 : d ≠ 0) : VCall Tryz.prog 52 [.int .i64 n, .int .i64 d] (pairA (ofR n d)) := by
  unfold ofR
  rw [if_neg h0]
  have h1 := whole_ok n hn
  have h2 := whole_ok d hd
  have l1 := len_i64 hn
  have l2 := len_i64 hd
  have h3 := frac_ok n d h0 (by omega) (by omega)
  have h4 := out_ok _ ((sz_frac h0 l1 l2).mono (by decide))
  refine ACall.value0 (acall_of_ax (P := Tryz.prog) (fn := Tryz.f52) rfl rfl (by kernel_rfl) rfl (fun c hR hfix => ?_)) (fix := fun _ => False) (fun _ h => h) rfl rfl
  generalize outF (Rat.divInt n d) = r at *
  unfold pairA at *
  repeat (first
    | refine ax_q (q_move rfl) ?_
    | refine ax_q (q_assign rfl) ?_
    | refine ax_ops_nil ?_
    | refine ax_post_code ?_
    | refine ax_seq ?_
    | refine ax_region rfl ?_
    | refine ax_q (q_eql rfl rfl) ?_)
  refine ax_cond_dec rfl (fun h5 => absurd h5 h0) (fun h5 => ?_)
  repeat (first
    | refine ax_q (q_move rfl) ?_
    | refine ax_post_code ?_
    | refine ax_seq ?_
    | refine ax_region rfl ?_
    | refine ax_skip ?_)
  refine ax_callv rfl rfl rfl h1 ?_
  repeat (refine ax_q (q_move rfl) ?_)
  refine ax_callv rfl rfl rfl h2 ?_
  skip
  refine ax_callv rfl rfl rfl h3 ?_
  skip
  refine ax_callv rfl rfl rfl h4 ?_
  repeat (first
    | refine ax_q (q_assign rfl) ?_
    | refine ax_ops_nil ?_
    | refine ax_post_code ?_
    | refine ax_return ?_
    | refine ax_q (q_extract rfl rfl) ?_)
  exact ax_ret hR rfl rfl
end Go.Proofs.YtbeegiiiochblaaGreatDoor

namespace Go.Proofs.YtbeegiiiochblaaGreatDoor
open Go.Ax Go.Ax.Bg Go.Ax.Rt Go.RowKit
attribute [local irreducible] Ax Post QOp ACall PureOp
set_option maxRecDepth 100000
set_option maxHeartbeats 4000000

section
variable {α : Type}
theorem rowE_app (d : α) (n : Nat) (e : α → List AV) (ls : List α) (s : α) (cx : Cells) (h0 : ∀ j, j < n → cx.at 0 j = (e s).getD j .any) (i j : Nat) (hi : i < ls.length + 1) (hj : j < n) :
    (bif Nat.blt i ls.length then (rowE d n e ls).at i j else cx.at (0 + (i - ls.length)) j) = (rowE d n e (ls ++ [s])).at i j := by
  rcases Nat.lt_or_ge i ls.length with h | h
  · have e1 : Nat.blt i ls.length = true := by rw [Nat.blt_eq]; exact h
    rw [e1]
    simp only [rowE, Cells.at, cond_true, List.getD, List.getElem?_append_left h]
  · have hie : i = ls.length := by omega
    have e1 : Nat.blt i ls.length = false := by rw [← Bool.not_eq_true, Nat.blt_eq]; omega
    subst hie
    rw [e1]
    simp only [cond_false, Nat.sub_self, Nat.zero_add]
    rw [h0 j hj]
    simp [rowE, Cells.at, List.getD]
theorem rowE_snoc (d : α) (n : Nat) (e : α → List AV) (ls : List α) (s : α) (cx : Cells) (h0 : ∀ j, j < n → cx.at 0 j = (e s).getD j .any) :
    CEq (.fn (ls.length + 1) n (fun i j => bif Nat.blt i ls.length then (rowE d n e ls).at i j else cx.at (0 + (i - ls.length)) j)) (rowE d n e (ls ++ [s])) := by
  refine ⟨by simp [rowE, Cells.len], rfl, fun i j hi hj => ?_⟩
  exact (rowE_app d n e ls s cx h0 i j hi hj).symm
theorem rowE_noref (d : α) (n : Nat) (e : α → List AV) (hn : ∀ a j h, j < n → ((e a).getD j .any).forget h = (e a).getD j .any) (ls : List α) (s : α) (cx : Cells) (h0 : ∀ j, j < n → cx.at 0 j = (e s).getD j .any) (h i j : Nat) (hi : i < ls.length + 1) (hj : j < n) :
    (bif Nat.blt i ls.length then (rowE d n e ls).at i j else cx.at (0 + (i - ls.length)) j).forget h = (bif Nat.blt i ls.length then (rowE d n e ls).at i j else cx.at (0 + (i - ls.length)) j) := by
  rw [rowE_app d n e ls s cx h0 i j hi hj]; exact hn _ _ _ hj
theorem map_take_succ {β : Type} (f : α → β) (l : List α) (d : α) (k : Nat) (hk : k < l.length) : (l.take (k + 1)).map f = (l.take k).map f ++ [f (l.getD k d)] := by
  rw [List.take_succ_eq_append_getElem hk, List.map_append]; simp [List.getD, hk]
end
def cellsQ (q : Rat) : List AV := [.bool (decide (q.num < 0)), natA q.num.natAbs, natA q.den]
abbrev qsC (l : List Rat) : Cells := rowE 0 3 cellsQ l
theorem cellsQ_noref (q : Rat) (j h : Nat) (hj : j < 3) : ((cellsQ q).getD j .any).forget h = (cellsQ q).getD j .any := by
  match j, hj with
  | 0, _ => rfl
  | 1, _ => rfl
  | 2, _ => rfl
theorem refless_qs (l : List Rat) : refless (qsC l) := by
  intro i j _ hj
  show noRef ((cellsQ (l.getD i 0)).getD j .any) = true
  have hj : j < 3 := hj
  match j, hj with
  | 0, _ => rfl
  | 1, _ => rfl
  | 2, _ => rfl
theorem rowQ1 (q : Rat) (j : Nat) (hj : j < 3) : (rowOf 1 3 [.bool (decide (q.num < 0)), natA q.num.natAbs, natA q.den]).at 0 j = (cellsQ q).getD j .any := by
  match j, hj with
  | 0, _ => rfl
  | 1, _ => rfl
  | 2, _ => rfl
theorem in_ok (l : List (List UInt8)) (hlen : l.length ≤ 1000000) (hs : ∀ s ∈ l, s.length ≤ 9223372036854775807 ∧ ratE s = 0) : VCall Tryz.prog 67 [.ro (.strs l) 0 l.length] (.ro (qsC (l.map ratV)) 0 l.length) := by
  refine ACall.value0 (acall_of_ax (P := Tryz.prog) (fn := Tryz.f67) rfl rfl (by kernel_rfl) rfl (fun c hR hfix => ?_)) (fix := fun _ => False) (fun _ h => h) rfl rfl
  repeat (first
    | refine ax_q (q_move rfl) ?_
    | refine ax_q (q_assign rfl) ?_
    | refine ax_ops_nil ?_
    | refine ax_post_code ?_
    | refine ax_seq ?_
    | refine ax_region rfl ?_
    | refine ax_q (q_len rfl rfl rfl) ?_)
  refine ax_nilobj 3 ⟨79, qsC []⟩ rfl rfl ?_
  repeat (refine ax_block ?_)
  refine ax_loop (ι := Nat) (fun k => [(0, .ro (.strs l) 0 l.length), (3, .sl 0 0 k), (6, .ro (.strs l) 0 l.length), (7, .int .i64 (l.length : Nat)), (8, .int .i64 (k : Nat))]) (fun k => [some ⟨79, qsC ((l.take k).map ratV)⟩])
    (fun k => k ≤ l.length) (fun k => l.length - k) 0 ⟨⟨rfl, rfl, rfl, rfl, rfl, trivial⟩, rfl, Nat.zero_le _⟩ ?_
  intro k hk
  repeat (first
    | refine ax_ops_nil ?_
    | refine ax_post_code ?_
    | refine ax_seq ?_
    | refine ax_region rfl ?_
    | refine ax_q (q_lss rfl rfl) ?_)
  refine ax_cond_dec rfl (fun h => ?_) (fun h => ?_)
  · have hk' : k < l.length := by omega
    obtain ⟨b1, b2⟩ := hs _ (getD_mem [] hk')
    have hc := parse_ok (l.getD k []) b1 b2
    have htk := map_take_succ ratV l [] k hk'
    have hml : ((l.take k).map ratV).length = k := by rw [List.length_map, List.length_take]; omega
    generalize (l.take k).map ratV = qs at *
    repeat (first
      | refine ax_q (q_move rfl) ?_
      | refine ax_q (q_assign rfl) ?_
      | refine ax_ops_nil ?_
      | refine ax_post_code ?_
      | refine ax_seq ?_
      | refine ax_region rfl ?_
      | refine ax_block ?_
      | refine ax_skip ?_
      | refine ax_q (q_loads_rp rfl rfl rfl) ?_
      | refine ax_q (q_index_ro' rfl rfl rfl rfl (by first | (simp only [Nat.zero_add, Int.toNat_natCast, Int.toNat_zero]; exact rfl) | exact rfl) (by omega)) ?_)
    refine ax_callv rfl rfl rfl hc ?_
    unfold qA
    repeat (refine ax_buildSliceRo rfl rfl rfl rfl rfl rfl rfl rfl rfl rfl rfl ?_)
    refine ax_append rfl rfl rfl rfl rfl rfl rfl rfl rfl hml rfl rfl (by show 0 + 1 ≤ 1; omega) rfl (by show (k + 1) * 56 ≤ _ ∧ _; omega) ?_ (by rw [hfix]; exact fun h => h) ?_
    · intro i' j hi hj
      exact rowE_noref 0 3 cellsQ cellsQ_noref qs (ratV (l.getD k [])) _ (rowQ1 _) 0 i' j hi hj
    repeat (first
      | refine ax_q (q_assign rfl) ?_
      | refine ax_ops_nil ?_
      | refine ax_post_blk ?_)
    refine ax_post_code ?_
    refine ax_heap [some ⟨79, qsC ((l.take (k + 1)).map ratV)⟩] ?_ ?_
    · rw [htk]
      exact HSub.eqv (rowE_snoc 0 3 cellsQ qs (ratV (l.getD k [])) _ (rowQ1 _)) HSub.nil
    repeat (first
      | refine ax_q (q_move rfl) ?_
      | refine ax_ops_nil ?_
      | refine ax_region rfl ?_
      | refine ax_q (q_add rfl rfl (by omega)) ?_)
    exact ax_post_inv ⟨k + 1, by omega, by omega, ⟨rfl, rfl, rfl, rfl, rfl, trivial⟩, rfl⟩
  · have hk' : k = l.length := by omega
    subst hk'
    rw [List.take_length]
    repeat (first
      | refine ax_post_code ?_
      | refine ax_seq ?_
      | refine ax_exit ?_
      | refine ax_exit_here ?_
      | refine ax_exit_code ?_
      | refine ax_exit_inv ?_)
    refine ax_give_code 0 3 l.length [] rfl (refless_qs _) rfl (by show _ ≤ (l.map ratV).length; rw [List.length_map]; exact Nat.le_refl _) trivial ?_
    repeat (first
      | refine ax_q (q_move rfl) ?_
      | refine ax_q (q_assign rfl) ?_
      | refine ax_ops_nil ?_
      | refine ax_post_code ?_
      | refine ax_region rfl ?_
      | refine ax_return ?_)
    exact ax_ret hR rfl rfl
end Go.Proofs.YtbeegiiiochblaaGreatDoor

namespace Go.Proofs.YtbeegiiiochblaaGreatDoor
open Go.Ax Go.Ax.Bg Go.Ax.Rt Go.RowKit
attribute [local irreducible] Ax Post QOp ACall PureOp
set_option maxRecDepth 100000
set_option maxHeartbeats 4000000

open Go.Ax.Idx Go.Ax.Cd
theorem indexFuncR (l : List (List UInt8)) (g : FuncId) (caps : List AV) (p : List UInt8 → Bool) (hc : noRef.noRefs caps = true) (hlen : l.length ≤ 9223372036854775807) (hp : ∀ x ∈ l, VCall Tryz.prog g ([.str x] ++ caps) (.bool (p x))) :
    VCall Tryz.prog 69 [.ro (.strs l) 0 l.length, .fn g caps] (.int .i64 (idxF p l)) := by
  refine ACall.value0 (acall_of_ax (P := Tryz.prog) (fn := Tryz.f69) rfl rfl (by kernel_rfl) rfl (fun c hR hfix => ?_)) (fix := fun _ => False) (fun _ h => h) (by simp [noRef.noRefs, noRef, hc]) rfl
  repeat (first
    | refine ax_q (q_move rfl) ?_
    | refine ax_q (q_assign rfl) ?_
    | refine ax_ops_nil ?_
    | refine ax_post_code ?_
    | refine ax_seq ?_
    | refine ax_region rfl ?_
    | refine ax_block ?_
    | refine ax_q (q_len rfl rfl rfl) ?_)
  refine ax_loop (ι := Nat) (fun k => [(0, .ro (.strs l) 0 l.length), (1, .fn g caps), (7, .int .i64 (l.length : Nat)), (8, .int .i64 (k : Nat))]) (fun _ => [])
    (fun k => k ≤ l.length ∧ (l.take k).any p = false) (fun k => l.length - k) 0 ⟨⟨rfl, rfl, rfl, rfl, trivial⟩, rfl, Nat.zero_le _, rfl⟩ ?_
  intro k ⟨hk, hany⟩
  repeat (first
    | refine ax_ops_nil ?_
    | refine ax_post_code ?_
    | refine ax_seq ?_
    | refine ax_region rfl ?_
    | refine ax_q (q_lss rfl rfl) ?_)
  refine ax_cond_dec rfl (fun h => ?_) (fun h => ?_)
  · have hk' : k < l.length := by omega
    have hanys := any_take_succ p l [] k hk'
    repeat (first
      | refine ax_q (q_move rfl) ?_
      | refine ax_q (q_assign rfl) ?_
      | refine ax_ops_nil ?_
      | refine ax_post_code ?_
      | refine ax_seq ?_
      | refine ax_region rfl ?_
      | refine ax_block ?_
      | refine ax_skip ?_
      | refine ax_q (q_loads_rp rfl rfl rfl) ?_
      | refine ax_q (q_index_ro' rfl rfl rfl rfl (by first | (simp only [Nat.zero_add, Int.toNat_natCast, Int.toNat_zero]; exact rfl) | exact rfl) (by omega)) ?_)
    refine ax_callv rfl rfl rfl (hp _ (getD_mem [] hk')) ?_
    repeat (first
      | refine ax_ops_nil ?_
      | refine ax_post_code ?_)
    refine ax_cond rfl (fun h2 => ?_) (fun h2 => ?_)
    · repeat (first
        | refine ax_q (q_move rfl) ?_
        | refine ax_q (q_assign rfl) ?_
        | refine ax_ops_nil ?_
        | refine ax_post_code ?_
        | refine ax_seq ?_
        | refine ax_region rfl ?_
        | refine ax_return ?_
        | refine ax_ret_code ?_
        | refine ax_ret_blk ?_
        | refine ax_ret_inv ?_)
      refine ax_ret hR rfl ?_
      have := idxF_take p l k hany hk
      rw [drop_getD l [] k hk'] at this
      simp only [idxF, h2, if_true] at this
      rw [this]; simp [tupOf]
    · repeat (first
        | refine ax_q (q_move rfl) ?_
        | refine ax_ops_nil ?_
        | refine ax_post_code ?_
        | refine ax_region rfl ?_
        | refine ax_post_blk ?_
        | refine ax_skip ?_
        | refine ax_q (q_add rfl rfl (by omega)) ?_)
      refine ax_post_inv ⟨k + 1, ⟨by omega, by rw [hanys, hany, h2]; rfl⟩, by omega, ⟨rfl, rfl, rfl, rfl, trivial⟩, rfl⟩
  · have hk' : k = l.length := by omega
    subst hk'
    repeat (first
      | refine ax_q (q_assign rfl) ?_
      | refine ax_ops_nil ?_
      | refine ax_post_code ?_
      | refine ax_seq ?_
      | refine ax_region rfl ?_
      | refine ax_exit ?_
      | refine ax_exit_here ?_
      | refine ax_exit_code ?_
      | refine ax_exit_inv ?_
      | refine ax_return ?_)
    refine ax_ret hR rfl ?_
    have := idxF_take p l l.length hany hk
    rw [List.drop_length] at this
    rw [this]; rfl

theorem containsR (l : List (List UInt8)) (g : FuncId) (caps : List AV) (p : List UInt8 → Bool) (hc : noRef.noRefs caps = true) (hlen : l.length ≤ 9223372036854775807) (hp : ∀ x ∈ l, VCall Tryz.prog g ([.str x] ++ caps) (.bool (p x))) :
    VCall Tryz.prog 34 [.ro (.strs l) 0 l.length, .fn g caps] (.bool (l.any p)) := by
  refine ACall.value0 (acall_of_ax (P := Tryz.prog) (fn := Tryz.f34) rfl rfl (by kernel_rfl) rfl (fun c hR hfix => ?_)) (fix := fun _ => False) (fun _ h => h) (by simp [noRef.noRefs, noRef, hc]) rfl
  repeat (first
    | refine ax_q (q_move rfl) ?_
    | refine ax_q (q_assign rfl) ?_
    | refine ax_ops_nil ?_
    | refine ax_post_code ?_
    | refine ax_seq ?_
    | refine ax_region rfl ?_)
  refine ax_callv rfl rfl rfl (indexFuncR l g caps p hc hlen hp) ?_
  repeat (first
    | refine ax_q (q_assign rfl) ?_
    | refine ax_ops_nil ?_
    | refine ax_post_code ?_
    | refine ax_return ?_
    | refine ax_q (q_geq rfl rfl) ?_)
  refine ax_ret hR rfl ?_
  simp only [tupOf, idxF_any]


theorem ratNeg1 (s : List UInt8) (hs : s.length ≤ 9223372036854775807) : VCall Tryz.prog 99 [.str s] (.bool (negB s)) := by
  have h1 := prefix2 s [45] hs (by decide)
  rw [pre_neg] at h1
  refine ACall.value0 (acall_of_ax (P := Tryz.prog) (fn := Tryz.f99) rfl rfl (by kernel_rfl) rfl (fun c hR hfix => ?_)) (fix := fun _ => False) (fun _ h => h) rfl rfl
  repeat (first
    | refine ax_q (q_move rfl) ?_
    | refine ax_q (q_assign rfl) ?_
    | refine ax_ops_nil ?_
    | refine ax_post_code ?_
    | refine ax_seq ?_
    | refine ax_region rfl ?_)
  refine ax_callv rfl rfl rfl h1 ?_
  repeat (first
    | refine ax_q (q_assign rfl) ?_
    | refine ax_ops_nil ?_
    | refine ax_post_code ?_
    | refine ax_return ?_)
  exact ax_ret hR rfl rfl
theorem outAll_yes (l : List Rat) (hlen : l.length ≤ 1000000) (hs : ∀ q ∈ l, Sz 100000 q) (hall : l.all fitB = true) : VCall Tryz.prog 68 [.ro (qsC l) 0 l.length] (.tup [.ro (.strs (l.map textQ)) 0 l.length, .int .i64 0]) := by
  refine ACall.value0 (acall_of_ax (P := Tryz.prog) (fn := Tryz.f68) rfl rfl (by kernel_rfl) rfl (fun c hR hfix => ?_)) (fix := fun _ => False) (fun _ h => h) rfl rfl
  repeat (first
    | refine ax_q (q_move rfl) ?_
    | refine ax_q (q_assign rfl) ?_
    | refine ax_ops_nil ?_
    | refine ax_post_code ?_
    | refine ax_seq ?_
    | refine ax_region rfl ?_
    | refine ax_q (q_len rfl rfl rfl) ?_)
  refine ax_nilobj 4 ⟨38, .strs []⟩ rfl rfl ?_
  repeat (refine ax_block ?_)
  refine ax_loop (ι := Nat) (fun k => [(0, .ro (qsC l) 0 l.length), (4, .sl 0 0 k), (9, .ro (qsC l) 0 l.length), (10, .int .i64 (l.length : Nat)), (11, .int .i64 (k : Nat))]) (fun k => [some ⟨38, .strs ((l.take k).map textQ)⟩])
    (fun k => k ≤ l.length ∧ (l.drop k).all fitB = true) (fun k => l.length - k) 0 ⟨⟨rfl, rfl, rfl, rfl, rfl, trivial⟩, rfl, Nat.zero_le _, hall⟩ ?_
  rintro k ⟨hk, hA⟩
  repeat (first
    | refine ax_ops_nil ?_
    | refine ax_post_code ?_
    | refine ax_seq ?_
    | refine ax_region rfl ?_
    | refine ax_q (q_lss rfl rfl) ?_)
  refine ax_cond_dec rfl (fun h => ?_) (fun h => ?_)
  · have hk' : k < l.length := by omega
    have hz := hs _ (getD_mem 0 hk')
    have hd := drop_cons (d := (0 : Rat)) hk'
    rw [hd, List.all_cons] at hA
    have htk := map_take_succ textQ l 0 k hk'
    have hml : ((l.take k).map textQ).length = k := by rw [List.length_map, List.length_take]; omega
    generalize hX : (l.take k).map textQ = ts at *
    repeat (first
      | refine ax_post_code ?_
      | refine ax_seq ?_
      | refine ax_region rfl ?_
      | refine ax_block ?_
      | refine ax_skip ?_
      | refine ax_q (q_index_ro' rfl rfl rfl rfl (by first | (simp only [Nat.zero_add, Int.toNat_natCast, Int.toNat_zero]; exact rfl) | exact rfl) (by omega)) ?_
      | refine ax_q (q_loadagg_rp rfl rfl rfl rfl rfl rfl) ?_
      | refine ax_alloc rfl rfl rfl ?_)
    refine ax_slot_ops 14 (.agg (cellsQ (l.getD k 0))) rfl (AEq.of_eq rfl) ?_
    generalize l.getD k 0 = q at *
    refine ax_storeagg (c' := .box (cellsQ q)) rfl rfl rfl rfl rfl Nat.zero_lt_one rfl rfl (fun i' j' hi' hj' => ?_) ?_
    · rw [if_pos (Nat.lt_one_iff.1 hi')]; rfl
    rw [Bool.and_eq_true] at hA
    have hc := out_yes q hz hA.1
    repeat (first
      | refine ax_ops_nil ?_
      | refine ax_post_code ?_
      | refine ax_seq ?_
      | refine ax_region rfl ?_
      | refine ax_q (q_loadpart_ptr rfl rfl rfl rfl rfl rfl rfl (by first | exact Nat.zero_lt_one | assumption | omega)) ?_)
    refine ax_callv rfl rfl rfl hc ?_
    repeat (first
      | refine ax_q (q_move rfl) ?_
      | refine ax_q (q_assign rfl) ?_
      | refine ax_ops_nil ?_
      | refine ax_post_code ?_
      | refine ax_seq ?_
      | refine ax_region rfl ?_
      | refine ax_cond_false rfl ?_
      | refine ax_skip ?_
      | refine ax_q (q_neq rfl rfl) ?_
      | refine ax_q (q_extract rfl rfl) ?_
      | refine ax_buildSliceRo rfl rfl rfl rfl rfl rfl rfl rfl rfl rfl rfl ?_)
    refine ax_append rfl rfl rfl rfl rfl rfl rfl rfl rfl hml rfl rfl (by show 0 + 1 ≤ 1; omega) rfl (by show (k + 1) * 16 ≤ _ ∧ _; omega) (fun i j _ _ => rfl) (by rw [hfix]; exact fun h => h) ?_
    repeat (first
      | refine ax_q (q_assign rfl) ?_
      | refine ax_ops_nil ?_
      | refine ax_post_blk ?_)
    refine ax_post_code ?_
    refine ax_heap ([some ⟨38, .strs ((l.take (k + 1)).map textQ)⟩] ++ [none]) ?_ ?_
    · rw [htk]
      exact HSub.eqv (CEq.refl _) (HSub.drop HSub.nil)
    refine ax_drop (H1 := [some ⟨38, .strs ((l.take (k + 1)).map textQ)⟩]) rfl (by rw [hfix]; exact fun h => h) ?_
    repeat (first
      | refine ax_q (q_move rfl) ?_
      | refine ax_ops_nil ?_
      | refine ax_region rfl ?_
      | refine ax_q (q_add rfl rfl (by omega)) ?_)
    exact ax_post_inv ⟨k + 1, ⟨by omega, hA.2⟩, by omega, ⟨rfl, rfl, rfl, rfl, rfl, trivial⟩, rfl⟩
  · have hk' : k = l.length := by omega
    subst hk'
    rw [List.take_length]
    repeat (first
      | refine ax_post_code ?_
      | refine ax_seq ?_
      | refine ax_exit ?_
      | refine ax_exit_here ?_
      | refine ax_exit_code ?_
      | refine ax_exit_inv ?_)
    refine ax_give_code 0 4 l.length [] rfl (fun _ _ _ _ => rfl) rfl (by show _ ≤ (l.map textQ).length; rw [List.length_map]; exact Nat.le_refl _) trivial ?_
    repeat (first
      | refine ax_q (q_move rfl) ?_
      | refine ax_q (q_assign rfl) ?_
      | refine ax_ops_nil ?_
      | refine ax_post_code ?_
      | refine ax_region rfl ?_
      | refine ax_return ?_)
    exact ax_ret hR rfl rfl
theorem outAll_no (l : List Rat) (hlen : l.length ≤ 1000000) (hs : ∀ q ∈ l, Sz 100000 q) (hall : l.all fitB = false) : VCall Tryz.prog 68 [.ro (qsC l) 0 l.length] (.tup [.nil, .int .i64 2]) := by
  refine ACall.value0 (acall_of_ax (P := Tryz.prog) (fn := Tryz.f68) rfl rfl (by kernel_rfl) rfl (fun c hR hfix => ?_)) (fix := fun _ => False) (fun _ h => h) rfl rfl
  repeat (first
    | refine ax_q (q_move rfl) ?_
    | refine ax_q (q_assign rfl) ?_
    | refine ax_ops_nil ?_
    | refine ax_post_code ?_
    | refine ax_seq ?_
    | refine ax_region rfl ?_
    | refine ax_q (q_len rfl rfl rfl) ?_)
  refine ax_nilobj 4 ⟨38, .strs []⟩ rfl rfl ?_
  repeat (refine ax_block ?_)
  refine ax_loop (ι := Nat) (fun k => [(0, .ro (qsC l) 0 l.length), (4, .sl 0 0 k), (9, .ro (qsC l) 0 l.length), (10, .int .i64 (l.length : Nat)), (11, .int .i64 (k : Nat))]) (fun k => [some ⟨38, .strs ((l.take k).map textQ)⟩])
    (fun k => k ≤ l.length ∧ (l.drop k).all fitB = false) (fun k => l.length - k) 0 ⟨⟨rfl, rfl, rfl, rfl, rfl, trivial⟩, rfl, Nat.zero_le _, hall⟩ ?_
  rintro k ⟨hk, hA⟩
  repeat (first
    | refine ax_ops_nil ?_
    | refine ax_post_code ?_
    | refine ax_seq ?_
    | refine ax_region rfl ?_
    | refine ax_q (q_lss rfl rfl) ?_)
  refine ax_cond_dec rfl (fun h => ?_) (fun h => ?_)
  · have hk' : k < l.length := by omega
    have hz := hs _ (getD_mem 0 hk')
    have hd := drop_cons (d := (0 : Rat)) hk'
    rw [hd, List.all_cons] at hA
    have htk := map_take_succ textQ l 0 k hk'
    have hml : ((l.take k).map textQ).length = k := by rw [List.length_map, List.length_take]; omega
    generalize hX : (l.take k).map textQ = ts at *
    repeat (first
      | refine ax_post_code ?_
      | refine ax_seq ?_
      | refine ax_region rfl ?_
      | refine ax_block ?_
      | refine ax_skip ?_
      | refine ax_q (q_index_ro' rfl rfl rfl rfl (by first | (simp only [Nat.zero_add, Int.toNat_natCast, Int.toNat_zero]; exact rfl) | exact rfl) (by omega)) ?_
      | refine ax_q (q_loadagg_rp rfl rfl rfl rfl rfl rfl) ?_
      | refine ax_alloc rfl rfl rfl ?_)
    refine ax_slot_ops 14 (.agg (cellsQ (l.getD k 0))) rfl (AEq.of_eq rfl) ?_
    generalize l.getD k 0 = q at *
    refine ax_storeagg (c' := .box (cellsQ q)) rfl rfl rfl rfl rfl Nat.zero_lt_one rfl rfl (fun i' j' hi' hj' => ?_) ?_
    · rw [if_pos (Nat.lt_one_iff.1 hi')]; rfl
    cases hf : fitB q
    · have hc := out_no q hz hf
      repeat (first
        | refine ax_ops_nil ?_
        | refine ax_post_code ?_
        | refine ax_seq ?_
        | refine ax_region rfl ?_
        | refine ax_q (q_loadpart_ptr rfl rfl rfl rfl rfl rfl rfl (by first | exact Nat.zero_lt_one | assumption | omega)) ?_)
      refine ax_callv rfl rfl rfl hc ?_
      repeat (first
        | refine ax_q (q_move rfl) ?_
        | refine ax_q (q_assign rfl) ?_
        | refine ax_ops_nil ?_
        | refine ax_post_code ?_
        | refine ax_seq ?_
        | refine ax_region rfl ?_
        | refine ax_cond_true rfl ?_
        | refine ax_return ?_
        | refine ax_ret_code ?_
        | refine ax_ret_blk ?_
        | refine ax_ret_inv ?_
        | refine ax_q (q_neq rfl rfl) ?_
        | refine ax_q (q_extract rfl rfl) ?_)
      exact ax_ret hR rfl rfl
    · have hc := out_yes q hz hf
      rw [hf, Bool.true_and] at hA
      repeat (first
        | refine ax_ops_nil ?_
        | refine ax_post_code ?_
        | refine ax_seq ?_
        | refine ax_region rfl ?_
        | refine ax_q (q_loadpart_ptr rfl rfl rfl rfl rfl rfl rfl (by first | exact Nat.zero_lt_one | assumption | omega)) ?_)
      refine ax_callv rfl rfl rfl hc ?_
      repeat (first
        | refine ax_q (q_move rfl) ?_
        | refine ax_q (q_assign rfl) ?_
        | refine ax_ops_nil ?_
        | refine ax_post_code ?_
        | refine ax_seq ?_
        | refine ax_region rfl ?_
        | refine ax_cond_false rfl ?_
        | refine ax_skip ?_
        | refine ax_q (q_neq rfl rfl) ?_
        | refine ax_q (q_extract rfl rfl) ?_
        | refine ax_buildSliceRo rfl rfl rfl rfl rfl rfl rfl rfl rfl rfl rfl ?_)
      refine ax_append rfl rfl rfl rfl rfl rfl rfl rfl rfl hml rfl rfl (by show 0 + 1 ≤ 1; omega) rfl (by show (k + 1) * 16 ≤ _ ∧ _; omega) (fun i j _ _ => rfl) (by rw [hfix]; exact fun h => h) ?_
      repeat (first
        | refine ax_q (q_assign rfl) ?_
        | refine ax_ops_nil ?_
        | refine ax_post_blk ?_)
      refine ax_post_code ?_
      refine ax_heap ([some ⟨38, .strs ((l.take (k + 1)).map textQ)⟩] ++ [none]) ?_ ?_
      · rw [htk]
        exact HSub.eqv (CEq.refl _) (HSub.drop HSub.nil)
      refine ax_drop (H1 := [some ⟨38, .strs ((l.take (k + 1)).map textQ)⟩]) rfl (by rw [hfix]; exact fun h => h) ?_
      repeat (first
        | refine ax_q (q_move rfl) ?_
        | refine ax_ops_nil ?_
        | refine ax_region rfl ?_
        | refine ax_q (q_add rfl rfl (by omega)) ?_)
      exact ax_post_inv ⟨k + 1, ⟨by omega, hA⟩, by omega, ⟨rfl, rfl, rfl, rfl, rfl, trivial⟩, rfl⟩
  · have hk' : k = l.length := by omega
    subst hk'
    rw [List.drop_length] at hA
    exact absurd hA (by decide)
end Go.Proofs.YtbeegiiiochblaaGreatDoor

namespace Go.Proofs.YtbeegiiiochblaaGreatDoor
open Go.Ax Go.Ax.Bg Go.Ax.Rt Go.RowKit
attribute [local irreducible] Ax Post QOp ACall PureOp
set_option maxRecDepth 100000
set_option maxHeartbeats 4000000

theorem of_zero : VCall Tryz.prog 70 [.int .i64 0] (qA 0) := qof_ok 0 (by decide)
theorem of_one : VCall Tryz.prog 70 [.int .i64 1] (qA 1) := qof_ok 1 (by decide)
theorem sz_zero : Sz 2000 0 := by
  refine ⟨?_, ?_⟩
  · show (natL 0).length ≤ 2000; rw [natL_zero]; decide
  · show (natL 1).length ≤ 2000; rw [natL_one]; decide
theorem sum_ok (l : List (List UInt8)) (hlen : l.length ≤ 9223372036854775807) (hs : ∀ s ∈ l, s.length ≤ 9223372036854775807) : VCall Tryz.prog 89 [.ro (.strs l) 0 l.length] (.tup [qA (sumR l).1, .int .i64 (sumR l).2]) := by
  unfold sumR
  have h1 := checkAll_ok l hlen hs
  by_cases hl : 256 < l.length
  · rw [if_pos hl]
    refine ACall.value0 (acall_of_ax (P := Tryz.prog) (fn := Tryz.f89) rfl rfl (by kernel_rfl) rfl (fun c hR hfix => ?_)) (fix := fun _ => False) (fun _ h => h) rfl rfl
    repeat (first
      | refine ax_q (q_assign rfl) ?_
      | refine ax_ops_nil ?_
      | refine ax_post_code ?_
      | refine ax_seq ?_
      | refine ax_region rfl ?_
      | refine ax_alloc rfl rfl rfl ?_)
    refine ax_callv rfl rfl rfl of_zero ?_
    repeat (refine ax_alloc rfl rfl rfl ?_)
    refine ax_storeagg (c' := .box (cellsQ 0)) rfl rfl rfl rfl rfl Nat.zero_lt_one rfl rfl (fun i' j' hi' hj' => ?_) ?_
    · rw [if_pos (Nat.lt_one_iff.1 hi')]; rfl
    repeat (first
      | refine ax_q (q_move rfl) ?_
      | refine ax_ops_nil ?_
      | refine ax_post_code ?_
      | refine ax_seq ?_
      | refine ax_region rfl ?_
      | refine ax_q (q_gtr rfl rfl) ?_
      | refine ax_q (q_len rfl rfl rfl) ?_)
    refine ax_cond_dec rfl (fun h0 => ?_) (fun h0 => absurd hl (by omega))
    repeat (first
      | refine ax_seq ?_
      | refine ax_region rfl ?_
      | refine ax_q (q_loadpart_ptr rfl rfl rfl rfl rfl rfl rfl (by first | exact Nat.zero_lt_one | assumption | omega)) ?_)
    refine ax_storeagg (c' := .box (cellsQ 0)) rfl rfl rfl rfl rfl Nat.zero_lt_one rfl rfl (fun i' j' hi' hj' => ?_) ?_
    · rw [if_pos (Nat.lt_one_iff.1 hi')]; rfl
    repeat (first
      | refine ax_q (q_assign rfl) ?_
      | refine ax_ops_nil ?_
      | refine ax_post_code ?_
      | refine ax_return ?_
      | refine ax_ret_code ?_)
    exact ax_ret hR rfl rfl
  rw [if_neg hl]
  by_cases hE : allE l = 0
  · rw [if_pos hE]
    rw [hE] at h1
    have h2 := in_ok l (by omega) (fun s hm => ⟨hs s hm, allE_mem hE s hm⟩)
    have hz : ∀ q ∈ l.map ratV, Sz 2000 q := fun q hq => by
      obtain ⟨s, h3, rfl⟩ := List.mem_map.1 hq
      exact sz_v (allE_mem hE s h3)
    have hml : (l.map ratV).length = l.length := List.length_map _
    generalize l.map ratV = qs at *
    refine ACall.value0 (acall_of_ax (P := Tryz.prog) (fn := Tryz.f89) rfl rfl (by kernel_rfl) rfl (fun c hR hfix => ?_)) (fix := fun _ => False) (fun _ h => h) rfl rfl
    repeat (first
      | refine ax_q (q_assign rfl) ?_
      | refine ax_ops_nil ?_
      | refine ax_post_code ?_
      | refine ax_seq ?_
      | refine ax_region rfl ?_
      | refine ax_alloc rfl rfl rfl ?_)
    refine ax_callv rfl rfl rfl of_zero ?_
    repeat (refine ax_alloc rfl rfl rfl ?_)
    refine ax_storeagg (c' := .box (cellsQ 0)) rfl rfl rfl rfl rfl Nat.zero_lt_one rfl rfl (fun i' j' hi' hj' => ?_) ?_
    · rw [if_pos (Nat.lt_one_iff.1 hi')]; rfl
    repeat (first
      | refine ax_q (q_move rfl) ?_
      | refine ax_ops_nil ?_
      | refine ax_post_code ?_
      | refine ax_seq ?_
      | refine ax_region rfl ?_
      | refine ax_q (q_gtr rfl rfl) ?_
      | refine ax_q (q_len rfl rfl rfl) ?_)
    refine ax_cond_dec rfl (fun h0 => absurd hl (by omega)) (fun h0 => ?_)
    repeat (first
      | refine ax_q (q_move rfl) ?_
      | refine ax_post_code ?_
      | refine ax_seq ?_
      | refine ax_region rfl ?_
      | refine ax_skip ?_)
    refine ax_callv rfl rfl rfl h1 ?_
    repeat (first
      | refine ax_q (q_move rfl) ?_
      | refine ax_q (q_assign rfl) ?_
      | refine ax_ops_nil ?_
      | refine ax_post_code ?_
      | refine ax_seq ?_
      | refine ax_region rfl ?_
      | refine ax_cond_false rfl ?_
      | refine ax_skip ?_
      | refine ax_q (q_neq rfl rfl) ?_)
    refine ax_callv rfl rfl rfl h2 ?_
    repeat (first
      | refine ax_q (q_move rfl) ?_
      | refine ax_ops_nil ?_
      | refine ax_post_code ?_
      | refine ax_block ?_
      | refine ax_q (q_len rfl rfl rfl) ?_)
    refine ax_loop (ι := Nat × Rat) (fun p => [(2, .ptr 0 0 0), (4, .ptr 1 0 0), (20, .ro (qsC qs) 0 l.length), (21, .int .i64 (l.length : Nat)), (22, .int .i64 (p.1 : Nat))]) (fun p => [some ⟨79, .box [.bool false, .nil, .nil]⟩, some ⟨79, .box (cellsQ p.2)⟩])
      (fun p => p.1 ≤ l.length ∧ sumL 0 qs = sumL p.2 (qs.drop p.1) ∧ Sz 2000 p.2) (fun p => l.length - p.1) (0, 0) ⟨⟨rfl, rfl, rfl, rfl, rfl, trivial⟩, rfl, Nat.zero_le _, rfl, sz_zero⟩ ?_
    rintro ⟨k, acc⟩ ⟨hk, hS, hA⟩
    simp only at *
    repeat (first
      | refine ax_ops_nil ?_
      | refine ax_post_code ?_
      | refine ax_seq ?_
      | refine ax_region rfl ?_
      | refine ax_q (q_lss rfl rfl) ?_)
    refine ax_cond_dec rfl (fun h => ?_) (fun h => ?_)
    · have hk' : k < qs.length := by omega
      have hq := hz _ (getD_mem 0 hk')
      have hd := drop_cons (d := (0 : Rat)) hk'
      rw [hd, sumL] at hS
      repeat (first
        | refine ax_post_code ?_
        | refine ax_seq ?_
        | refine ax_region rfl ?_
        | refine ax_block ?_
        | refine ax_skip ?_
        | refine ax_q (q_index_ro' rfl rfl rfl rfl (by first | (simp only [Nat.zero_add, Int.toNat_natCast, Int.toNat_zero]; exact rfl) | exact rfl) (by omega)) ?_
        | refine ax_q (q_loadagg_rp rfl rfl rfl rfl rfl rfl) ?_
        | refine ax_alloc rfl rfl rfl ?_)
      refine ax_slot_ops 25 (.agg (cellsQ (qs.getD k 0))) rfl (AEq.of_eq rfl) ?_
      generalize qs.getD k 0 = q at *
      have hc := qadd_ok acc q (hA.mono (by decide)) (hq.mono (by decide))
      have hf := fits_ok (acc + q) ((sz_add hA hq).mono (by decide))
      refine ax_storeagg (c' := .box (cellsQ q)) rfl rfl rfl rfl rfl Nat.zero_lt_one rfl rfl (fun i' j' hi' hj' => ?_) ?_
      · rw [if_pos (Nat.lt_one_iff.1 hi')]; rfl
      repeat (first
        | refine ax_ops_nil ?_
        | refine ax_post_code ?_
        | refine ax_seq ?_
        | refine ax_region rfl ?_
        | refine ax_q (q_loadpart_ptr rfl rfl rfl rfl rfl rfl rfl (by first | exact Nat.zero_lt_one | assumption | omega)) ?_)
      refine ax_callv rfl rfl rfl hc ?_
      skip
      refine ax_storeagg (c' := .box (cellsQ (acc + q))) rfl rfl rfl rfl rfl Nat.zero_lt_one rfl rfl (fun i' j' hi' hj' => ?_) ?_
      · rw [if_pos (Nat.lt_one_iff.1 hi')]; rfl
      repeat (first
        | refine ax_ops_nil ?_
        | refine ax_post_code ?_
        | refine ax_seq ?_
        | refine ax_region rfl ?_
        | refine ax_q (q_loadpart_ptr rfl rfl rfl rfl rfl rfl rfl (by first | exact Nat.zero_lt_one | assumption | omega)) ?_)
      refine ax_callv rfl rfl rfl hf ?_
      cases hb : fitB (acc + q)
      · rw [hb, if_neg Bool.false_ne_true] at hS
        rw [hS] at hR
        repeat (first
          | refine ax_ops_nil ?_
          | refine ax_post_code ?_
          | refine ax_seq ?_
          | refine ax_region rfl ?_
          | refine ax_cond_true rfl ?_
          | refine ax_q (q_not rfl) ?_
          | refine ax_q (q_loadpart_ptr rfl rfl rfl rfl rfl rfl rfl (by first | exact Nat.zero_lt_one | assumption | omega)) ?_)
        refine ax_storeagg (c' := .box (cellsQ (acc + q))) rfl rfl rfl rfl rfl Nat.zero_lt_one rfl rfl (fun i' j' hi' hj' => ?_) ?_
        · rw [if_pos (Nat.lt_one_iff.1 hi')]; rfl
        repeat (first
          | refine ax_q (q_assign rfl) ?_
          | refine ax_ops_nil ?_
          | refine ax_post_code ?_
          | refine ax_return ?_
          | refine ax_ret_code ?_
          | refine ax_ret_blk ?_
          | refine ax_ret_inv ?_)
        exact ax_ret hR rfl rfl
      · rw [hb, if_pos rfl] at hS
        repeat (first
          | refine ax_ops_nil ?_
          | refine ax_q (q_not rfl) ?_)
        refine ax_post_code ?_
        refine ax_heap ([some ⟨79, .box [.bool false, .nil, .nil]⟩, some ⟨79, .box (cellsQ (acc + q))⟩] ++ [none]) ?_ ?_
        · exact HSub.eqv (CEq.refl _) (HSub.eqv (CEq.refl _) (HSub.drop HSub.nil))
        refine ax_drop (H1 := [some ⟨79, .box [.bool false, .nil, .nil]⟩, some ⟨79, .box (cellsQ (acc + q))⟩]) rfl (by rw [hfix]; exact fun h => h) ?_
        repeat (first
          | refine ax_q (q_move rfl) ?_
          | refine ax_ops_nil ?_
          | refine ax_post_code ?_
          | refine ax_region rfl ?_
          | refine ax_cond_false rfl ?_
          | refine ax_post_blk ?_
          | refine ax_skip ?_
          | refine ax_q (q_add rfl rfl (by omega)) ?_)
        exact ax_post_inv ⟨(k + 1, acc + q), ⟨by simp only; omega, hS, fit_len hb⟩, by simp only; omega, ⟨rfl, rfl, rfl, rfl, rfl, trivial⟩, rfl⟩
    · have hk' : k = l.length := by omega
      subst hk'
      rw [← hml, List.drop_length, sumL] at hS
      rw [hS] at hR
      repeat (first
        | refine ax_post_code ?_
        | refine ax_seq ?_
        | refine ax_region rfl ?_
        | refine ax_exit ?_
        | refine ax_exit_here ?_
        | refine ax_exit_code ?_
        | refine ax_exit_inv ?_
        | refine ax_q (q_loadpart_ptr rfl rfl rfl rfl rfl rfl rfl (by first | exact Nat.zero_lt_one | assumption | omega)) ?_)
      refine ax_storeagg (c' := .box (cellsQ acc)) rfl rfl rfl rfl rfl Nat.zero_lt_one rfl rfl (fun i' j' hi' hj' => ?_) ?_
      · rw [if_pos (Nat.lt_one_iff.1 hi')]; rfl
      repeat (first
        | refine ax_q (q_assign rfl) ?_
        | refine ax_ops_nil ?_
        | refine ax_post_code ?_
        | refine ax_return ?_)
      exact ax_ret hR rfl rfl
  · rw [if_neg hE]
    generalize allE l = e at *
    refine ACall.value0 (acall_of_ax (P := Tryz.prog) (fn := Tryz.f89) rfl rfl (by kernel_rfl) rfl (fun c hR hfix => ?_)) (fix := fun _ => False) (fun _ h => h) rfl rfl
    repeat (first
      | refine ax_q (q_assign rfl) ?_
      | refine ax_ops_nil ?_
      | refine ax_post_code ?_
      | refine ax_seq ?_
      | refine ax_region rfl ?_
      | refine ax_alloc rfl rfl rfl ?_)
    refine ax_callv rfl rfl rfl of_zero ?_
    repeat (refine ax_alloc rfl rfl rfl ?_)
    refine ax_storeagg (c' := .box (cellsQ 0)) rfl rfl rfl rfl rfl Nat.zero_lt_one rfl rfl (fun i' j' hi' hj' => ?_) ?_
    · rw [if_pos (Nat.lt_one_iff.1 hi')]; rfl
    repeat (first
      | refine ax_q (q_move rfl) ?_
      | refine ax_ops_nil ?_
      | refine ax_post_code ?_
      | refine ax_seq ?_
      | refine ax_region rfl ?_
      | refine ax_q (q_gtr rfl rfl) ?_
      | refine ax_q (q_len rfl rfl rfl) ?_)
    refine ax_cond_dec rfl (fun h0 => absurd hl (by omega)) (fun h0 => ?_)
    repeat (first
      | refine ax_q (q_move rfl) ?_
      | refine ax_post_code ?_
      | refine ax_seq ?_
      | refine ax_region rfl ?_
      | refine ax_skip ?_)
    refine ax_callv rfl rfl rfl h1 ?_
    repeat (first
      | refine ax_q (q_move rfl) ?_
      | refine ax_q (q_assign rfl) ?_
      | refine ax_ops_nil ?_
      | refine ax_post_code ?_
      | refine ax_seq ?_
      | refine ax_region rfl ?_
      | refine ax_q (q_neq rfl rfl) ?_)
    refine ax_cond_dec rfl (fun h2 => ?_) (fun h2 => absurd hE h2)
    repeat (first
      | refine ax_q (q_move rfl) ?_
      | refine ax_seq ?_
      | refine ax_region rfl ?_
      | refine ax_q (q_loadpart_ptr rfl rfl rfl rfl rfl rfl rfl (by first | exact Nat.zero_lt_one | assumption | omega)) ?_)
    refine ax_storeagg (c' := .box (cellsQ 0)) rfl rfl rfl rfl rfl Nat.zero_lt_one rfl rfl (fun i' j' hi' hj' => ?_) ?_
    · rw [if_pos (Nat.lt_one_iff.1 hi')]; rfl
    repeat (first
      | refine ax_q (q_assign rfl) ?_
      | refine ax_ops_nil ?_
      | refine ax_post_code ?_
      | refine ax_return ?_
      | refine ax_ret_code ?_)
    exact ax_ret hR rfl rfl
end Go.Proofs.YtbeegiiiochblaaGreatDoor

namespace Go.Proofs.YtbeegiiiochblaaGreatDoor
open Go.Ax Go.Ax.Bg Go.Ax.Rt Go.RowKit
attribute [local irreducible] Ax Post QOp ACall PureOp
set_option maxRecDepth 100000
set_option maxHeartbeats 4000000

theorem sumL_sz : ∀ (qs : List Rat) (acc : Rat), Sz 2000 acc → (∀ q ∈ qs, Sz 2000 q) → Sz 4001 (sumL acc qs).1
  | [], acc, h, _ => h.mono (by decide)
  | q :: r, acc, h, hs => by
    rw [sumL]
    split
    · rename_i hb
      exact sumL_sz r _ (fit_len hb) (fun x hx => hs x (by simp [hx]))
    · exact sz_add h (hs q (by simp))
theorem sumR_sz (l : List (List UInt8)) : Sz 4001 (sumR l).1 := by
  unfold sumR
  split
  · exact sz_zero.mono (by decide)
  · split
    · rename_i hE
      refine sumL_sz _ _ sz_zero (fun q hq => ?_)
      obtain ⟨s, h3, rfl⟩ := List.mem_map.1 hq
      exact sz_v (allE_mem hE s h3)
    · exact sz_zero.mono (by decide)
theorem rsum_ok (l : List (List UInt8)) (hlen : l.length ≤ 9223372036854775807) (hs : ∀ s ∈ l, s.length ≤ 9223372036854775807) : VCall Tryz.prog 53 [.ro (.strs l) 0 l.length] (pairA (sumT l)) := by
  have h1 := sum_ok l hlen hs
  have hz := sumR_sz l
  unfold sumT
  generalize (sumR l).1 = q at *
  generalize (sumR l).2 = e at *
  by_cases he : e = 0
  · rw [if_pos he]
    subst he
    have h2 := out_ok q (hz.mono (by decide))
    generalize outF q = r at *
    unfold pairA at *
    refine ACall.value0 (acall_of_ax (P := Tryz.prog) (fn := Tryz.f53) rfl rfl (by kernel_rfl) rfl (fun c hR hfix => ?_)) (fix := fun _ => False) (fun _ h => h) rfl rfl
    repeat (first
      | refine ax_q (q_move rfl) ?_
      | refine ax_q (q_assign rfl) ?_
      | refine ax_ops_nil ?_
      | refine ax_post_code ?_
      | refine ax_seq ?_
      | refine ax_region rfl ?_)
    refine ax_callv rfl rfl rfl h1 ?_
    unfold qA
    repeat (first
      | refine ax_q (q_move rfl) ?_
      | refine ax_q (q_extract rfl rfl) ?_
      | refine ax_alloc rfl rfl rfl ?_)
    refine ax_storeagg (c' := .box (cellsQ q)) rfl rfl rfl rfl rfl Nat.zero_lt_one rfl rfl (fun i' j' hi' hj' => ?_) ?_
    · rw [if_pos (Nat.lt_one_iff.1 hi')]; rfl
    repeat (first
      | refine ax_q (q_move rfl) ?_
      | refine ax_q (q_assign rfl) ?_
      | refine ax_ops_nil ?_
      | refine ax_post_code ?_
      | refine ax_seq ?_
      | refine ax_region rfl ?_
      | refine ax_cond_false rfl ?_
      | refine ax_skip ?_
      | refine ax_q (q_neq rfl rfl) ?_
      | refine ax_q (q_loadpart_ptr rfl rfl rfl rfl rfl rfl rfl (by first | exact Nat.zero_lt_one | assumption | omega)) ?_)
    refine ax_callv rfl rfl rfl h2 ?_
    repeat (first
      | refine ax_q (q_assign rfl) ?_
      | refine ax_ops_nil ?_
      | refine ax_post_code ?_
      | refine ax_return ?_
      | refine ax_q (q_extract rfl rfl) ?_)
    exact ax_ret hR rfl rfl
  · rw [if_neg he]
    unfold pairA
    refine ACall.value0 (acall_of_ax (P := Tryz.prog) (fn := Tryz.f53) rfl rfl (by kernel_rfl) rfl (fun c hR hfix => ?_)) (fix := fun _ => False) (fun _ h => h) rfl rfl
    repeat (first
      | refine ax_q (q_move rfl) ?_
      | refine ax_q (q_assign rfl) ?_
      | refine ax_ops_nil ?_
      | refine ax_post_code ?_
      | refine ax_seq ?_
      | refine ax_region rfl ?_)
    refine ax_callv rfl rfl rfl h1 ?_
    unfold qA
    repeat (first
      | refine ax_q (q_move rfl) ?_
      | refine ax_q (q_extract rfl rfl) ?_
      | refine ax_alloc rfl rfl rfl ?_)
    refine ax_storeagg (c' := .box (cellsQ q)) rfl rfl rfl rfl rfl Nat.zero_lt_one rfl rfl (fun i' j' hi' hj' => ?_) ?_
    · rw [if_pos (Nat.lt_one_iff.1 hi')]; rfl
    repeat (first
      | refine ax_q (q_move rfl) ?_
      | refine ax_q (q_assign rfl) ?_
      | refine ax_ops_nil ?_
      | refine ax_post_code ?_
      | refine ax_seq ?_
      | refine ax_region rfl ?_
      | refine ax_q (q_neq rfl rfl) ?_)
    refine ax_cond_dec rfl (fun h0 => ?_) (fun h0 => absurd he h0)
    repeat (first
      | refine ax_q (q_move rfl) ?_
      | refine ax_q (q_assign rfl) ?_
      | refine ax_ops_nil ?_
      | refine ax_post_code ?_
      | refine ax_seq ?_
      | refine ax_region rfl ?_
      | refine ax_return ?_
      | refine ax_ret_code ?_)
    exact ax_ret hR rfl rfl
theorem positive_ok (l : List (List UInt8)) (hlen : l.length ≤ 9223372036854775807) (hs : ∀ s ∈ l, s.length ≤ 9223372036854775807) : VCall Tryz.prog 66 [.ro (.strs l) 0 l.length] (.tup [qA (sumR l).1, .int .i64 (posE l)]) := by
  have h1 := sum_ok l hlen hs
  have h2 := containsR l 99 [] negB rfl hlen (fun s hm => ratNeg1 s (hs s hm))
  unfold posE
  generalize (sumR l).1 = q at *
  generalize (sumR l).2 = e at *
  generalize l.any negB = b at *
  by_cases he : e = 0
  · subst he
    cases b
    · rw [if_neg (fun h => Bool.false_ne_true h.2)]
      refine ACall.value0 (acall_of_ax (P := Tryz.prog) (fn := Tryz.f66) rfl rfl (by kernel_rfl) rfl (fun c hR hfix => ?_)) (fix := fun _ => False) (fun _ h => h) rfl rfl
      repeat (first
        | refine ax_q (q_move rfl) ?_
        | refine ax_q (q_assign rfl) ?_
        | refine ax_ops_nil ?_
        | refine ax_post_code ?_
        | refine ax_seq ?_
        | refine ax_region rfl ?_
        | refine ax_alloc rfl rfl rfl ?_)
      refine ax_callv rfl rfl rfl h1 ?_
      unfold qA
      repeat (first
        | refine ax_q (q_move rfl) ?_
        | refine ax_q (q_extract rfl rfl) ?_
        | refine ax_alloc rfl rfl rfl ?_)
      refine ax_storeagg (c' := .box (cellsQ q)) rfl rfl rfl rfl rfl Nat.zero_lt_one rfl rfl (fun i' j' hi' hj' => ?_) ?_
      · rw [if_pos (Nat.lt_one_iff.1 hi')]; rfl
      repeat (first
        | refine ax_q (q_move rfl) ?_
        | refine ax_q (q_assign rfl) ?_
        | refine ax_ops_nil ?_
        | refine ax_post_code ?_
        | refine ax_seq ?_
        | refine ax_region rfl ?_
        | refine ax_guard rfl rfl ?_
        | refine ax_q (q_eql rfl rfl) ?_)
      refine ax_callv rfl rfl rfl h2 ?_
      repeat (first
        | refine ax_q (q_move rfl) ?_
        | refine ax_ops_nil ?_
        | refine ax_post_code ?_
        | refine ax_seq ?_
        | refine ax_region rfl ?_
        | refine ax_cond_false rfl ?_
        | refine ax_skip ?_
        | refine ax_q (q_pick rfl rfl) ?_
        | refine ax_q (q_loadpart_ptr rfl rfl rfl rfl rfl rfl rfl (by first | exact Nat.zero_lt_one | assumption | omega)) ?_)
      refine ax_storeagg (c' := .box (cellsQ q)) rfl rfl rfl rfl rfl Nat.zero_lt_one rfl rfl (fun i' j' hi' hj' => ?_) ?_
      · rw [if_pos (Nat.lt_one_iff.1 hi')]; rfl
      repeat (first
        | refine ax_q (q_assign rfl) ?_
        | refine ax_ops_nil ?_
        | refine ax_post_code ?_
        | refine ax_return ?_)
      exact ax_ret hR rfl rfl
    · rw [if_pos ⟨rfl, rfl⟩]
      refine ACall.value0 (acall_of_ax (P := Tryz.prog) (fn := Tryz.f66) rfl rfl (by kernel_rfl) rfl (fun c hR hfix => ?_)) (fix := fun _ => False) (fun _ h => h) rfl rfl
      repeat (first
        | refine ax_q (q_move rfl) ?_
        | refine ax_q (q_assign rfl) ?_
        | refine ax_ops_nil ?_
        | refine ax_post_code ?_
        | refine ax_seq ?_
        | refine ax_region rfl ?_
        | refine ax_alloc rfl rfl rfl ?_)
      refine ax_callv rfl rfl rfl h1 ?_
      unfold qA
      repeat (first
        | refine ax_q (q_move rfl) ?_
        | refine ax_q (q_extract rfl rfl) ?_
        | refine ax_alloc rfl rfl rfl ?_)
      refine ax_storeagg (c' := .box (cellsQ q)) rfl rfl rfl rfl rfl Nat.zero_lt_one rfl rfl (fun i' j' hi' hj' => ?_) ?_
      · rw [if_pos (Nat.lt_one_iff.1 hi')]; rfl
      repeat (first
        | refine ax_q (q_move rfl) ?_
        | refine ax_q (q_assign rfl) ?_
        | refine ax_ops_nil ?_
        | refine ax_post_code ?_
        | refine ax_seq ?_
        | refine ax_region rfl ?_
        | refine ax_guard rfl rfl ?_
        | refine ax_q (q_eql rfl rfl) ?_)
      refine ax_callv rfl rfl rfl h2 ?_
      repeat (first
        | refine ax_q (q_move rfl) ?_
        | refine ax_q (q_assign rfl) ?_
        | refine ax_ops_nil ?_
        | refine ax_post_code ?_
        | refine ax_seq ?_
        | refine ax_region rfl ?_
        | refine ax_cond_true rfl ?_
        | refine ax_q (q_pick rfl rfl) ?_
        | refine ax_q (q_loadpart_ptr rfl rfl rfl rfl rfl rfl rfl (by first | exact Nat.zero_lt_one | assumption | omega)) ?_)
      refine ax_storeagg (c' := .box (cellsQ q)) rfl rfl rfl rfl rfl Nat.zero_lt_one rfl rfl (fun i' j' hi' hj' => ?_) ?_
      · rw [if_pos (Nat.lt_one_iff.1 hi')]; rfl
      repeat (first
        | refine ax_q (q_assign rfl) ?_
        | refine ax_ops_nil ?_
        | refine ax_post_code ?_
        | refine ax_return ?_)
      exact ax_ret hR rfl rfl
  · rw [if_neg (fun h => he h.1)]
    refine ACall.value0 (acall_of_ax (P := Tryz.prog) (fn := Tryz.f66) rfl rfl (by kernel_rfl) rfl (fun c hR hfix => ?_)) (fix := fun _ => False) (fun _ h => h) rfl rfl
    repeat (first
      | refine ax_q (q_move rfl) ?_
      | refine ax_q (q_assign rfl) ?_
      | refine ax_ops_nil ?_
      | refine ax_post_code ?_
      | refine ax_seq ?_
      | refine ax_region rfl ?_
      | refine ax_alloc rfl rfl rfl ?_)
    refine ax_callv rfl rfl rfl h1 ?_
    unfold qA
    repeat (first
      | refine ax_q (q_move rfl) ?_
      | refine ax_q (q_extract rfl rfl) ?_
      | refine ax_alloc rfl rfl rfl ?_)
    refine ax_storeagg (c' := .box (cellsQ q)) rfl rfl rfl rfl rfl Nat.zero_lt_one rfl rfl (fun i' j' hi' hj' => ?_) ?_
    · rw [if_pos (Nat.lt_one_iff.1 hi')]; rfl
    repeat (first
      | refine ax_q (q_move rfl) ?_
      | refine ax_q (q_assign rfl) ?_
      | refine ax_ops_nil ?_
      | refine ax_post_code ?_
      | refine ax_seq ?_
      | refine ax_region rfl ?_
      | refine ax_q (q_eql rfl rfl) ?_)
    refine ax_gsplit rfl rfl (fun h0 => absurd h0 he) (fun h0 => ?_)
    repeat (first
      | refine ax_q (q_move rfl) ?_
      | refine ax_ops_nil ?_
      | refine ax_post_code ?_
      | refine ax_seq ?_
      | refine ax_region rfl ?_
      | refine ax_skip_not rfl rfl rfl ?_
      | refine ax_cond_false rfl ?_
      | refine ax_skip ?_
      | refine ax_q (q_pick rfl rfl) ?_
      | refine ax_q (q_loadpart_ptr rfl rfl rfl rfl rfl rfl rfl (by first | exact Nat.zero_lt_one | assumption | omega)) ?_)
    refine ax_storeagg (c' := .box (cellsQ q)) rfl rfl rfl rfl rfl Nat.zero_lt_one rfl rfl (fun i' j' hi' hj' => ?_) ?_
    · rw [if_pos (Nat.lt_one_iff.1 hi')]; rfl
    repeat (first
      | refine ax_q (q_assign rfl) ?_
      | refine ax_ops_nil ?_
      | refine ax_post_code ?_
      | refine ax_return ?_)
    exact ax_ret hR rfl rfl
theorem odds_ok (l : List (List UInt8)) (hlen : l.length ≤ 9223372036854775807) (hs : ∀ s ∈ l, s.length ≤ 9223372036854775807) : VCall Tryz.prog 37 [.ro (.strs l) 0 l.length] (.int .i64 (oddsR l)) := by
  have h1 := positive_ok l hlen hs
  have hz := sumR_sz l
  unfold oddsR
  generalize (sumR l).1 = q at *
  generalize posE l = e at *
  have h2 := qcmp_ok q 1 (hz.mono (by decide)) (by refine ⟨?_, ?_⟩ <;> (show (natL 1).length ≤ 100000; rw [natL_one]; decide))
  by_cases he : e = 0
  · rw [if_pos he]
    subst he
    generalize cmpQ q 1 = t at *
    by_cases ht : t = 0
    · rw [if_pos ht]
      subst ht
      refine ACall.value0 (acall_of_ax (P := Tryz.prog) (fn := Tryz.f37) rfl rfl (by kernel_rfl) rfl (fun c hR hfix => ?_)) (fix := fun _ => False) (fun _ h => h) rfl rfl
      repeat (first
        | refine ax_q (q_move rfl) ?_
        | refine ax_q (q_assign rfl) ?_
        | refine ax_ops_nil ?_
        | refine ax_post_code ?_
        | refine ax_seq ?_
        | refine ax_region rfl ?_)
      refine ax_callv rfl rfl rfl h1 ?_
      unfold qA
      repeat (first
        | refine ax_q (q_move rfl) ?_
        | refine ax_q (q_extract rfl rfl) ?_
        | refine ax_alloc rfl rfl rfl ?_)
      refine ax_storeagg (c' := .box (cellsQ q)) rfl rfl rfl rfl rfl Nat.zero_lt_one rfl rfl (fun i' j' hi' hj' => ?_) ?_
      · rw [if_pos (Nat.lt_one_iff.1 hi')]; rfl
      repeat (first
        | refine ax_q (q_move rfl) ?_
        | refine ax_q (q_assign rfl) ?_
        | refine ax_ops_nil ?_
        | refine ax_post_code ?_
        | refine ax_seq ?_
        | refine ax_region rfl ?_
        | refine ax_cond_false rfl ?_
        | refine ax_skip ?_
        | refine ax_q (q_neq rfl rfl) ?_)
      refine ax_regiond (by kernel_rfl) ?_
      refine ax_any_run (fuel := 0) [0, 1, 2, 3] [(3, .ptr 0 0 0)] ⟨rfl, trivial⟩ (by kernel_rfl) (by decide) rfl rfl ?_
      refine px_q rfl rfl (q_loadpart_ptr rfl rfl rfl rfl rfl rfl rfl (by first | exact Nat.zero_lt_one | assumption | omega)) ?_
      refine px_v rfl rfl rfl rfl rfl of_one ?_
      refine px_v rfl rfl rfl rfl rfl h2 ?_
      refine px_q rfl rfl (q_neq rfl rfl) ?_
      refine px_done ?_
      refine ax_any_done (by kernel_rfl) ?_
      repeat (first
        | refine ax_q (q_assign rfl) ?_
        | refine ax_ops_nil ?_
        | refine ax_post_code ?_
        | refine ax_seq ?_
        | refine ax_region rfl ?_
        | refine ax_cond_false rfl ?_
        | refine ax_skip ?_
        | refine ax_return ?_)
      exact ax_ret hR rfl rfl
    · rw [if_neg ht]
      refine ACall.value0 (acall_of_ax (P := Tryz.prog) (fn := Tryz.f37) rfl rfl (by kernel_rfl) rfl (fun c hR hfix => ?_)) (fix := fun _ => False) (fun _ h => h) rfl rfl
      repeat (first
        | refine ax_q (q_move rfl) ?_
        | refine ax_q (q_assign rfl) ?_
        | refine ax_ops_nil ?_
        | refine ax_post_code ?_
        | refine ax_seq ?_
        | refine ax_region rfl ?_)
      refine ax_callv rfl rfl rfl h1 ?_
      unfold qA
      repeat (first
        | refine ax_q (q_move rfl) ?_
        | refine ax_q (q_extract rfl rfl) ?_
        | refine ax_alloc rfl rfl rfl ?_)
      refine ax_storeagg (c' := .box (cellsQ q)) rfl rfl rfl rfl rfl Nat.zero_lt_one rfl rfl (fun i' j' hi' hj' => ?_) ?_
      · rw [if_pos (Nat.lt_one_iff.1 hi')]; rfl
      repeat (first
        | refine ax_q (q_move rfl) ?_
        | refine ax_q (q_assign rfl) ?_
        | refine ax_ops_nil ?_
        | refine ax_post_code ?_
        | refine ax_seq ?_
        | refine ax_region rfl ?_
        | refine ax_cond_false rfl ?_
        | refine ax_skip ?_
        | refine ax_q (q_neq rfl rfl) ?_)
      refine ax_regiond (by kernel_rfl) ?_
      refine ax_any_run (fuel := 0) [0, 1, 2, 3] [(3, .ptr 0 0 0)] ⟨rfl, trivial⟩ (by kernel_rfl) (by decide) rfl rfl ?_
      refine px_q rfl rfl (q_loadpart_ptr rfl rfl rfl rfl rfl rfl rfl (by first | exact Nat.zero_lt_one | assumption | omega)) ?_
      refine px_v rfl rfl rfl rfl rfl of_one ?_
      refine px_v rfl rfl rfl rfl rfl h2 ?_
      refine px_q rfl rfl (q_neq rfl rfl) ?_
      refine px_done ?_
      refine ax_any_done (by kernel_rfl) ?_
      repeat (refine ax_post_code ?_)
      refine ax_cond_dec rfl (fun h0 => ?_) (fun h0 => absurd ht h0)
      repeat (first
        | refine ax_q (q_assign rfl) ?_
        | refine ax_ops_nil ?_
        | refine ax_post_code ?_
        | refine ax_seq ?_
        | refine ax_region rfl ?_
        | refine ax_return ?_
        | refine ax_ret_code ?_)
      exact ax_ret hR rfl rfl
  · rw [if_neg he]
    refine ACall.value0 (acall_of_ax (P := Tryz.prog) (fn := Tryz.f37) rfl rfl (by kernel_rfl) rfl (fun c hR hfix => ?_)) (fix := fun _ => False) (fun _ h => h) rfl rfl
    repeat (first
      | refine ax_q (q_move rfl) ?_
      | refine ax_q (q_assign rfl) ?_
      | refine ax_ops_nil ?_
      | refine ax_post_code ?_
      | refine ax_seq ?_
      | refine ax_region rfl ?_)
    refine ax_callv rfl rfl rfl h1 ?_
    unfold qA
    repeat (first
      | refine ax_q (q_move rfl) ?_
      | refine ax_q (q_extract rfl rfl) ?_
      | refine ax_alloc rfl rfl rfl ?_)
    refine ax_storeagg (c' := .box (cellsQ q)) rfl rfl rfl rfl rfl Nat.zero_lt_one rfl rfl (fun i' j' hi' hj' => ?_) ?_
    · rw [if_pos (Nat.lt_one_iff.1 hi')]; rfl
    repeat (first
      | refine ax_q (q_move rfl) ?_
      | refine ax_q (q_assign rfl) ?_
      | refine ax_ops_nil ?_
      | refine ax_post_code ?_
      | refine ax_seq ?_
      | refine ax_region rfl ?_
      | refine ax_q (q_neq rfl rfl) ?_)
    refine ax_cond_dec rfl (fun h0 => ?_) (fun h0 => absurd he h0)
    repeat (first
      | refine ax_q (q_move rfl) ?_
      | refine ax_q (q_assign rfl) ?_
      | refine ax_ops_nil ?_
      | refine ax_post_code ?_
      | refine ax_seq ?_
      | refine ax_region rfl ?_
      | refine ax_return ?_
      | refine ax_ret_code ?_)
    exact ax_ret hR rfl rfl
end Go.Proofs.YtbeegiiiochblaaGreatDoor

