import Derived.Test.YtegaegmkajnibaaW3
set_option linter.unusedVariables false
namespace Go.Proofs.Ytegaegmkajnibaa
open Go.Ax Go.Ax.Idx
attribute [local irreducible] Ax Post QOp ACall
set_option maxRecDepth 100000
set_option linter.unusedSimpArgs false

/-- What holds of the row while it is reversed from 'o' on, i places done at both ends. -/
def revAt (l : List Int) (o n i : Nat) (m : List Int) : Prop :=
  m.length = l.length ∧ ∀ p, p < l.length → m.getD p 0 = if (o ≤ p ∧ p < o + i) ∨ o + n - i ≤ p then l.getD (o + (o + n) - 1 - p) 0 else l.getD p 0
theorem revAt.step {l m : List Int} {o n i : Nat} (h : revAt l o n i m) (hn : o + n = l.length) (hi : i + i + 1 < n) : revAt l o n (i + 1) ((m.set (o + i) (m.getD (o + n - 1 - i) 0)).set (o + n - 1 - i) (m.getD (o + i) 0)) := by
  obtain ⟨h1, h2⟩ := h
  refine ⟨by simp [h1], fun p hp => ?_⟩
  rw [getD_set (by simp; omega), getD_set (by omega)]
  have a := h2 (o + i) (by omega)
  have b := h2 (o + n - 1 - i) (by omega)
  rw [if_neg (by omega)] at a b
  rw [a, b]
  by_cases e1 : p = o + n - 1 - i
  · rw [if_pos e1, if_pos (by omega)]; congr 1; omega
  · rw [if_neg e1]
    by_cases e2 : p = o + i
    · rw [if_pos e2, if_pos (by omega)]; congr 1; omega
    · rw [if_neg e2, h2 p hp]
      by_cases e3 : (o ≤ p ∧ p < o + i) ∨ o + n - i ≤ p
      · rw [if_pos e3, if_pos (by omega)]
      · rw [if_neg e3, if_neg (by omega)]
theorem revAt.done {l m : List Int} {o n i : Nat} (h : revAt l o n i m) (hn : o + n = l.length) (hi : n ≤ i + i + 1) (hi2 : i + i ≤ n) (hn0 : 0 < n) : m.length = l.length ∧ ∀ p, p < l.length → m.getD p 0 = if o ≤ p then l.getD (o + (o + n) - 1 - p) 0 else l.getD p 0 := by
  refine ⟨h.1, fun p hp => ?_⟩
  rw [h.2 p hp]
  by_cases e : o ≤ p
  · rw [if_pos e]
    split
    · rfl
    · congr 1; omega
  · rw [if_neg e, if_neg (by omega)]

theorem reverse (l : List Int) (o n : Nat) (hn : o + n = l.length) (hn0 : 0 < n) (hlen : l.length ≤ 1000) : ACall Try.prog 22 [.sl 0 o n] [some ⟨3, .ints .i64 l⟩] (fun h => h < 1)
    (fun _ H => ∃ m, H = [some ⟨3, .ints .i64 m⟩] ∧ m.length = l.length ∧ ∀ p, p < l.length → m.getD p 0 = if o ≤ p then l.getD (o + (o + n) - 1 - p) 0 else l.getD p 0) := by
  refine acall_of_ax (P := Try.prog) (fn := Try.f22) rfl rfl (by kernel_rfl) rfl (fun c hR hfix => ?_)
  repeat (first
    | refine ax_q (q_move rfl) ?_
    | refine ax_q (q_assign rfl) ?_
    | refine ax_q (q_loadi_rp rfl rfl rfl) ?_
    | refine ax_ops_nil ?_
    | refine ax_post_code ?_
    | refine ax_seq ?_
    | refine ax_region rfl ?_
    | refine ax_guard rfl rfl ?_
    | refine ax_skip_undef rfl rfl ?_
    | refine ax_skip_not rfl rfl rfl ?_
    | refine ax_guard_not rfl rfl rfl ?_
    | refine ax_cond_true rfl ?_
    | refine ax_cond_false rfl ?_
    | refine ax_post_blk ?_
    | refine ax_post_scope ?_
    | refine ax_post_any ?_
    | refine ax_block ?_
    | refine ax_scope ?_
    | refine ax_skip ?_
    | refine ax_label ?_
    | refine ax_exit ?_
    | refine ax_exit_here ?_
    | refine ax_exit_code ?_
    | refine ax_exit_inv ?_
    | refine ax_exit_scope ?_
    | refine ax_exit_on rfl ?_
    | refine ax_return ?_
    | refine ax_ret_code ?_
    | refine ax_ret_blk ?_
    | refine ax_ret_scope ?_
    | refine ax_ret_inv ?_
    | refine ax_q (q_loads_rp rfl rfl rfl) ?_
    | refine ax_q (q_loadf_rp rfl rfl rfl rfl) ?_
    | refine ax_q (q_loadb_ptr rfl rfl rfl rfl rfl) ?_
    | refine ax_q (q_lss rfl rfl) ?_
    | refine ax_q (q_eql rfl rfl) ?_
    | refine ax_q (q_neq rfl rfl) ?_
    | refine ax_q (q_leq rfl rfl) ?_
    | refine ax_q (q_gtr rfl rfl) ?_
    | refine ax_q (q_geq rfl rfl) ?_
    | refine ax_q (q_not rfl) ?_
    | refine ax_q (q_pick rfl rfl) ?_
    | refine ax_q (q_extract rfl rfl) ?_
    | refine ax_q (q_len rfl rfl rfl) ?_
    | refine ax_q (q_lenstr rfl rfl) ?_
    | refine ax_q (q_add rfl rfl (by omega)) ?_
    | refine ax_q (q_sub rfl rfl (by omega)) ?_
    | refine ax_q (q_index_ro' rfl rfl rfl rfl (by first | (simp only [Nat.zero_add, Int.toNat_natCast, Int.toNat_zero]; exact rfl) | exact rfl) (by omega)) ?_
    | refine ax_q (q_index_sl' rfl rfl rfl rfl rfl (by first | (simp only [Nat.zero_add, Int.toNat_natCast, Int.toNat_zero]; exact rfl) | exact rfl) (by omega)) ?_
    | refine ax_q (q_loadi_ptr rfl rfl rfl rfl (by first | assumption | omega)) ?_
    | refine ax_q (q_loads_ptr rfl rfl rfl rfl (by first | assumption | omega)) ?_
    | refine ax_q (q_loadf_ptr rfl rfl rfl rfl rfl (by first | assumption | omega)) ?_
    | refine ax_q (q_quo rfl rfl (by omega)) ?_
    | refine ax_q (q_rem rfl rfl (by omega)) ?_
    | refine ax_q (q_slice_ro rfl rfl rfl rfl rfl rfl rfl (by omega)) ?_
    | refine ax_q (q_slice_sl rfl rfl rfl rfl rfl rfl rfl rfl (by omega)) ?_
    | refine ax_q (q_eqnilnil rfl rfl rfl) ?_
    | refine ax_q (q_build rfl rfl rfl rfl rfl rfl) ?_
    | refine ax_store rfl rfl rfl rfl rfl rfl rfl (by first | assumption | (show _ < List.length _; first | assumption | omega)) ?_
    | refine ax_buildSliceRo rfl rfl rfl rfl rfl rfl rfl rfl rfl rfl rfl ?_)
  refine ax_loop (ι := Nat × List Int) (fun x => [(0, .sl 0 o n), (2, .int .i64 (x.1 : Nat)), (3, .int .i64 ((n : Int) - 1 - x.1))]) (fun x => [some ⟨3, .ints .i64 x.2⟩])
    (fun x => revAt l o n x.1 x.2 ∧ x.1 + x.1 ≤ n) (fun x => n - x.1) (0, l) ⟨⟨rfl, rfl, by show some _ = some _; simp, trivial⟩, rfl, ⟨rfl, fun p hp => by rw [if_neg (by simp; omega)]⟩, Nat.zero_le _⟩ ?_
  rintro ⟨i, m⟩ ⟨hi, hi2⟩
  simp only at *
  repeat (first
    | refine ax_q (q_move rfl) ?_
    | refine ax_q (q_assign rfl) ?_
    | refine ax_q (q_loadi_rp rfl rfl rfl) ?_
    | refine ax_ops_nil ?_
    | refine ax_post_code ?_
    | refine ax_seq ?_
    | refine ax_region rfl ?_
    | refine ax_guard rfl rfl ?_
    | refine ax_skip_undef rfl rfl ?_
    | refine ax_skip_not rfl rfl rfl ?_
    | refine ax_guard_not rfl rfl rfl ?_
    | refine ax_cond_true rfl ?_
    | refine ax_cond_false rfl ?_
    | refine ax_post_blk ?_
    | refine ax_post_scope ?_
    | refine ax_post_any ?_
    | refine ax_block ?_
    | refine ax_scope ?_
    | refine ax_skip ?_
    | refine ax_label ?_
    | refine ax_exit ?_
    | refine ax_exit_here ?_
    | refine ax_exit_code ?_
    | refine ax_exit_inv ?_
    | refine ax_exit_scope ?_
    | refine ax_exit_on rfl ?_
    | refine ax_return ?_
    | refine ax_ret_code ?_
    | refine ax_ret_blk ?_
    | refine ax_ret_scope ?_
    | refine ax_ret_inv ?_
    | refine ax_q (q_loads_rp rfl rfl rfl) ?_
    | refine ax_q (q_loadf_rp rfl rfl rfl rfl) ?_
    | refine ax_q (q_loadb_ptr rfl rfl rfl rfl rfl) ?_
    | refine ax_q (q_lss rfl rfl) ?_
    | refine ax_q (q_eql rfl rfl) ?_
    | refine ax_q (q_neq rfl rfl) ?_
    | refine ax_q (q_leq rfl rfl) ?_
    | refine ax_q (q_gtr rfl rfl) ?_
    | refine ax_q (q_geq rfl rfl) ?_
    | refine ax_q (q_not rfl) ?_
    | refine ax_q (q_pick rfl rfl) ?_
    | refine ax_q (q_extract rfl rfl) ?_
    | refine ax_q (q_len rfl rfl rfl) ?_
    | refine ax_q (q_lenstr rfl rfl) ?_
    | refine ax_q (q_add rfl rfl (by omega)) ?_
    | refine ax_q (q_sub rfl rfl (by omega)) ?_
    | refine ax_q (q_index_ro' rfl rfl rfl rfl (by first | (simp only [Nat.zero_add, Int.toNat_natCast, Int.toNat_zero]; exact rfl) | exact rfl) (by omega)) ?_
    | refine ax_q (q_index_sl' rfl rfl rfl rfl rfl (by first | (simp only [Nat.zero_add, Int.toNat_natCast, Int.toNat_zero]; exact rfl) | exact rfl) (by omega)) ?_
    | refine ax_q (q_loadi_ptr rfl rfl rfl rfl (by first | assumption | omega)) ?_
    | refine ax_q (q_loads_ptr rfl rfl rfl rfl (by first | assumption | omega)) ?_
    | refine ax_q (q_loadf_ptr rfl rfl rfl rfl rfl (by first | assumption | omega)) ?_
    | refine ax_q (q_quo rfl rfl (by omega)) ?_
    | refine ax_q (q_rem rfl rfl (by omega)) ?_
    | refine ax_q (q_slice_ro rfl rfl rfl rfl rfl rfl rfl (by omega)) ?_
    | refine ax_q (q_slice_sl rfl rfl rfl rfl rfl rfl rfl rfl (by omega)) ?_
    | refine ax_q (q_eqnilnil rfl rfl rfl) ?_
    | refine ax_q (q_build rfl rfl rfl rfl rfl rfl) ?_
    | refine ax_store rfl rfl rfl rfl rfl rfl rfl (by first | assumption | (show _ < List.length _; first | assumption | omega)) ?_
    | refine ax_buildSliceRo rfl rfl rfl rfl rfl rfl rfl rfl rfl rfl rfl ?_)
  refine ax_cond_dec rfl (fun h => ?_) (fun h => ?_)
  · have hi3 : i + i + 1 < n := by omega
    have hs := hi.step hn hi3
    have hml := hi.1
    have e : o + ((n : Int) - 1 - i).toNat = o + n - 1 - i := by omega
    rw [← e] at hs
    have hl1 : o + i < m.length := by omega
    have hl2 : o + ((n : Int) - 1 - i).toNat < m.length := by omega
    have hl3 : o + i < (m.set (o + ((n : Int) - 1 - i).toNat) (m.getD (o + i) 0)).length := by simpa using hl1
    have hl4 : o + ((n : Int) - 1 - i).toNat < (m.set (o + i) (m.getD (o + ((n : Int) - 1 - i).toNat) 0)).length := by simpa using hl2
    have hcomm : (m.set (o + ((n : Int) - 1 - i).toNat) (m.getD (o + i) 0)).set (o + i) (m.getD (o + ((n : Int) - 1 - i).toNat) 0) = (m.set (o + i) (m.getD (o + ((n : Int) - 1 - i).toNat) 0)).set (o + ((n : Int) - 1 - i).toNat) (m.getD (o + i) 0) := List.set_comm _ _ (by omega)
    repeat (first
      | refine ax_q (q_move rfl) ?_
      | refine ax_q (q_assign rfl) ?_
      | refine ax_q (q_loadi_rp rfl rfl rfl) ?_
      | refine ax_ops_nil ?_
      | refine ax_post_code ?_
      | refine ax_seq ?_
      | refine ax_region rfl ?_
      | refine ax_guard rfl rfl ?_
      | refine ax_skip_undef rfl rfl ?_
      | refine ax_skip_not rfl rfl rfl ?_
      | refine ax_guard_not rfl rfl rfl ?_
      | refine ax_cond_true rfl ?_
      | refine ax_cond_false rfl ?_
      | refine ax_post_blk ?_
      | refine ax_post_scope ?_
      | refine ax_post_any ?_
      | refine ax_block ?_
      | refine ax_scope ?_
      | refine ax_skip ?_
      | refine ax_label ?_
      | refine ax_exit ?_
      | refine ax_exit_here ?_
      | refine ax_exit_code ?_
      | refine ax_exit_inv ?_
      | refine ax_exit_scope ?_
      | refine ax_exit_on rfl ?_
      | refine ax_return ?_
      | refine ax_ret_code ?_
      | refine ax_ret_blk ?_
      | refine ax_ret_scope ?_
      | refine ax_ret_inv ?_
      | refine ax_q (q_loads_rp rfl rfl rfl) ?_
      | refine ax_q (q_loadf_rp rfl rfl rfl rfl) ?_
      | refine ax_q (q_loadb_ptr rfl rfl rfl rfl rfl) ?_
      | refine ax_q (q_lss rfl rfl) ?_
      | refine ax_q (q_eql rfl rfl) ?_
      | refine ax_q (q_neq rfl rfl) ?_
      | refine ax_q (q_leq rfl rfl) ?_
      | refine ax_q (q_gtr rfl rfl) ?_
      | refine ax_q (q_geq rfl rfl) ?_
      | refine ax_q (q_not rfl) ?_
      | refine ax_q (q_pick rfl rfl) ?_
      | refine ax_q (q_extract rfl rfl) ?_
      | refine ax_q (q_len rfl rfl rfl) ?_
      | refine ax_q (q_lenstr rfl rfl) ?_
      | refine ax_q (q_add rfl rfl (by omega)) ?_
      | refine ax_q (q_sub rfl rfl (by omega)) ?_
      | refine ax_q (q_index_ro' rfl rfl rfl rfl (by first | (simp only [Nat.zero_add, Int.toNat_natCast, Int.toNat_zero]; exact rfl) | exact rfl) (by omega)) ?_
      | refine ax_q (q_index_sl' rfl rfl rfl rfl rfl (by first | (simp only [Nat.zero_add, Int.toNat_natCast, Int.toNat_zero]; exact rfl) | exact rfl) (by omega)) ?_
      | refine ax_q (q_loadi_ptr rfl rfl rfl rfl (by first | assumption | omega)) ?_
      | refine ax_q (q_loads_ptr rfl rfl rfl rfl (by first | assumption | omega)) ?_
      | refine ax_q (q_loadf_ptr rfl rfl rfl rfl rfl (by first | assumption | omega)) ?_
      | refine ax_q (q_quo rfl rfl (by omega)) ?_
      | refine ax_q (q_rem rfl rfl (by omega)) ?_
      | refine ax_q (q_slice_ro rfl rfl rfl rfl rfl rfl rfl (by omega)) ?_
      | refine ax_q (q_slice_sl rfl rfl rfl rfl rfl rfl rfl rfl (by omega)) ?_
      | refine ax_q (q_eqnilnil rfl rfl rfl) ?_
      | refine ax_q (q_build rfl rfl rfl rfl rfl rfl) ?_
      | refine ax_store rfl rfl rfl rfl rfl rfl rfl (by first | assumption | (show _ < List.length _; first | assumption | omega)) ?_
      | refine ax_buildSliceRo rfl rfl rfl rfl rfl rfl rfl rfl rfl rfl rfl ?_)
    refine ax_regiond (by kernel_rfl) ?_
    first
      | refine ax_any_q 0 rfl (by kernel_rfl) (by kernel_rfl) (by kernel_rfl) rfl (q_move rfl) rfl ?_
      | refine ax_any_q 0 rfl (by kernel_rfl) (by kernel_rfl) (by kernel_rfl) rfl (q_assign rfl) rfl ?_
      | refine ax_any_q 0 rfl (by kernel_rfl) (by kernel_rfl) (by kernel_rfl) rfl (q_loadi_rp rfl rfl rfl) rfl ?_
      | refine ax_any_q 0 rfl (by kernel_rfl) (by kernel_rfl) (by kernel_rfl) rfl (q_loads_rp rfl rfl rfl) rfl ?_
      | refine ax_any_q 0 rfl (by kernel_rfl) (by kernel_rfl) (by kernel_rfl) rfl (q_loadf_rp rfl rfl rfl rfl) rfl ?_
      | refine ax_any_q 0 rfl (by kernel_rfl) (by kernel_rfl) (by kernel_rfl) rfl (q_loadb_ptr rfl rfl rfl rfl rfl) rfl ?_
      | refine ax_any_q 0 rfl (by kernel_rfl) (by kernel_rfl) (by kernel_rfl) rfl (q_lss rfl rfl) rfl ?_
      | refine ax_any_q 0 rfl (by kernel_rfl) (by kernel_rfl) (by kernel_rfl) rfl (q_eql rfl rfl) rfl ?_
      | refine ax_any_q 0 rfl (by kernel_rfl) (by kernel_rfl) (by kernel_rfl) rfl (q_neq rfl rfl) rfl ?_
      | refine ax_any_q 0 rfl (by kernel_rfl) (by kernel_rfl) (by kernel_rfl) rfl (q_leq rfl rfl) rfl ?_
      | refine ax_any_q 0 rfl (by kernel_rfl) (by kernel_rfl) (by kernel_rfl) rfl (q_gtr rfl rfl) rfl ?_
      | refine ax_any_q 0 rfl (by kernel_rfl) (by kernel_rfl) (by kernel_rfl) rfl (q_geq rfl rfl) rfl ?_
      | refine ax_any_q 0 rfl (by kernel_rfl) (by kernel_rfl) (by kernel_rfl) rfl (q_not rfl) rfl ?_
      | refine ax_any_q 0 rfl (by kernel_rfl) (by kernel_rfl) (by kernel_rfl) rfl (q_pick rfl rfl) rfl ?_
      | refine ax_any_q 0 rfl (by kernel_rfl) (by kernel_rfl) (by kernel_rfl) rfl (q_extract rfl rfl) rfl ?_
      | refine ax_any_q 0 rfl (by kernel_rfl) (by kernel_rfl) (by kernel_rfl) rfl (q_len rfl rfl rfl) rfl ?_
      | refine ax_any_q 0 rfl (by kernel_rfl) (by kernel_rfl) (by kernel_rfl) rfl (q_lenstr rfl rfl) rfl ?_
      | refine ax_any_q 0 rfl (by kernel_rfl) (by kernel_rfl) (by kernel_rfl) rfl (q_add rfl rfl (by omega)) rfl ?_
      | refine ax_any_q 0 rfl (by kernel_rfl) (by kernel_rfl) (by kernel_rfl) rfl (q_sub rfl rfl (by omega)) rfl ?_
      | refine ax_any_q 0 rfl (by kernel_rfl) (by kernel_rfl) (by kernel_rfl) rfl (q_index_ro' rfl rfl rfl rfl (by first | (simp only [Nat.zero_add, Int.toNat_natCast, Int.toNat_zero]; exact rfl) | exact rfl) (by omega)) rfl ?_
      | refine ax_any_q 0 rfl (by kernel_rfl) (by kernel_rfl) (by kernel_rfl) rfl (q_index_sl' rfl rfl rfl rfl rfl (by first | (simp only [Nat.zero_add, Int.toNat_natCast, Int.toNat_zero]; exact rfl) | exact rfl) (by omega)) rfl ?_
      | refine ax_any_q 0 rfl (by kernel_rfl) (by kernel_rfl) (by kernel_rfl) rfl (q_loadi_ptr rfl rfl rfl rfl (by first | assumption | omega)) rfl ?_
      | refine ax_any_q 0 rfl (by kernel_rfl) (by kernel_rfl) (by kernel_rfl) rfl (q_loads_ptr rfl rfl rfl rfl (by first | assumption | omega)) rfl ?_
      | refine ax_any_q 0 rfl (by kernel_rfl) (by kernel_rfl) (by kernel_rfl) rfl (q_loadf_ptr rfl rfl rfl rfl rfl (by first | assumption | omega)) rfl ?_
      | refine ax_any_q 0 rfl (by kernel_rfl) (by kernel_rfl) (by kernel_rfl) rfl (q_quo rfl rfl (by omega)) rfl ?_
      | refine ax_any_q 0 rfl (by kernel_rfl) (by kernel_rfl) (by kernel_rfl) rfl (q_rem rfl rfl (by omega)) rfl ?_
      | refine ax_any_q 0 rfl (by kernel_rfl) (by kernel_rfl) (by kernel_rfl) rfl (q_slice_ro rfl rfl rfl rfl rfl rfl rfl (by omega)) rfl ?_
      | refine ax_any_q 0 rfl (by kernel_rfl) (by kernel_rfl) (by kernel_rfl) rfl (q_slice_sl rfl rfl rfl rfl rfl rfl rfl rfl (by omega)) rfl ?_
      | refine ax_any_q 0 rfl (by kernel_rfl) (by kernel_rfl) (by kernel_rfl) rfl (q_eqnilnil rfl rfl rfl) rfl ?_
      | refine ax_any_q 0 rfl (by kernel_rfl) (by kernel_rfl) (by kernel_rfl) rfl (q_build rfl rfl rfl rfl rfl rfl) rfl ?_
    first
      | refine ax_any_q 1 rfl (by kernel_rfl) (by kernel_rfl) (by kernel_rfl) rfl (q_move rfl) rfl ?_
      | refine ax_any_q 1 rfl (by kernel_rfl) (by kernel_rfl) (by kernel_rfl) rfl (q_assign rfl) rfl ?_
      | refine ax_any_q 1 rfl (by kernel_rfl) (by kernel_rfl) (by kernel_rfl) rfl (q_loadi_rp rfl rfl rfl) rfl ?_
      | refine ax_any_q 1 rfl (by kernel_rfl) (by kernel_rfl) (by kernel_rfl) rfl (q_loads_rp rfl rfl rfl) rfl ?_
      | refine ax_any_q 1 rfl (by kernel_rfl) (by kernel_rfl) (by kernel_rfl) rfl (q_loadf_rp rfl rfl rfl rfl) rfl ?_
      | refine ax_any_q 1 rfl (by kernel_rfl) (by kernel_rfl) (by kernel_rfl) rfl (q_loadb_ptr rfl rfl rfl rfl rfl) rfl ?_
      | refine ax_any_q 1 rfl (by kernel_rfl) (by kernel_rfl) (by kernel_rfl) rfl (q_lss rfl rfl) rfl ?_
      | refine ax_any_q 1 rfl (by kernel_rfl) (by kernel_rfl) (by kernel_rfl) rfl (q_eql rfl rfl) rfl ?_
      | refine ax_any_q 1 rfl (by kernel_rfl) (by kernel_rfl) (by kernel_rfl) rfl (q_neq rfl rfl) rfl ?_
      | refine ax_any_q 1 rfl (by kernel_rfl) (by kernel_rfl) (by kernel_rfl) rfl (q_leq rfl rfl) rfl ?_
      | refine ax_any_q 1 rfl (by kernel_rfl) (by kernel_rfl) (by kernel_rfl) rfl (q_gtr rfl rfl) rfl ?_
      | refine ax_any_q 1 rfl (by kernel_rfl) (by kernel_rfl) (by kernel_rfl) rfl (q_geq rfl rfl) rfl ?_
      | refine ax_any_q 1 rfl (by kernel_rfl) (by kernel_rfl) (by kernel_rfl) rfl (q_not rfl) rfl ?_
      | refine ax_any_q 1 rfl (by kernel_rfl) (by kernel_rfl) (by kernel_rfl) rfl (q_pick rfl rfl) rfl ?_
      | refine ax_any_q 1 rfl (by kernel_rfl) (by kernel_rfl) (by kernel_rfl) rfl (q_extract rfl rfl) rfl ?_
      | refine ax_any_q 1 rfl (by kernel_rfl) (by kernel_rfl) (by kernel_rfl) rfl (q_len rfl rfl rfl) rfl ?_
      | refine ax_any_q 1 rfl (by kernel_rfl) (by kernel_rfl) (by kernel_rfl) rfl (q_lenstr rfl rfl) rfl ?_
      | refine ax_any_q 1 rfl (by kernel_rfl) (by kernel_rfl) (by kernel_rfl) rfl (q_add rfl rfl (by omega)) rfl ?_
      | refine ax_any_q 1 rfl (by kernel_rfl) (by kernel_rfl) (by kernel_rfl) rfl (q_sub rfl rfl (by omega)) rfl ?_
      | refine ax_any_q 1 rfl (by kernel_rfl) (by kernel_rfl) (by kernel_rfl) rfl (q_index_ro' rfl rfl rfl rfl (by first | (simp only [Nat.zero_add, Int.toNat_natCast, Int.toNat_zero]; exact rfl) | exact rfl) (by omega)) rfl ?_
      | refine ax_any_q 1 rfl (by kernel_rfl) (by kernel_rfl) (by kernel_rfl) rfl (q_index_sl' rfl rfl rfl rfl rfl (by first | (simp only [Nat.zero_add, Int.toNat_natCast, Int.toNat_zero]; exact rfl) | exact rfl) (by omega)) rfl ?_
      | refine ax_any_q 1 rfl (by kernel_rfl) (by kernel_rfl) (by kernel_rfl) rfl (q_loadi_ptr rfl rfl rfl rfl (by first | assumption | omega)) rfl ?_
      | refine ax_any_q 1 rfl (by kernel_rfl) (by kernel_rfl) (by kernel_rfl) rfl (q_loads_ptr rfl rfl rfl rfl (by first | assumption | omega)) rfl ?_
      | refine ax_any_q 1 rfl (by kernel_rfl) (by kernel_rfl) (by kernel_rfl) rfl (q_loadf_ptr rfl rfl rfl rfl rfl (by first | assumption | omega)) rfl ?_
      | refine ax_any_q 1 rfl (by kernel_rfl) (by kernel_rfl) (by kernel_rfl) rfl (q_quo rfl rfl (by omega)) rfl ?_
      | refine ax_any_q 1 rfl (by kernel_rfl) (by kernel_rfl) (by kernel_rfl) rfl (q_rem rfl rfl (by omega)) rfl ?_
      | refine ax_any_q 1 rfl (by kernel_rfl) (by kernel_rfl) (by kernel_rfl) rfl (q_slice_ro rfl rfl rfl rfl rfl rfl rfl (by omega)) rfl ?_
      | refine ax_any_q 1 rfl (by kernel_rfl) (by kernel_rfl) (by kernel_rfl) rfl (q_slice_sl rfl rfl rfl rfl rfl rfl rfl rfl (by omega)) rfl ?_
      | refine ax_any_q 1 rfl (by kernel_rfl) (by kernel_rfl) (by kernel_rfl) rfl (q_eqnilnil rfl rfl rfl) rfl ?_
      | refine ax_any_q 1 rfl (by kernel_rfl) (by kernel_rfl) (by kernel_rfl) rfl (q_build rfl rfl rfl rfl rfl rfl) rfl ?_
    first
      | refine ax_any_q 2 rfl (by kernel_rfl) (by kernel_rfl) (by kernel_rfl) rfl (q_move rfl) rfl ?_
      | refine ax_any_q 2 rfl (by kernel_rfl) (by kernel_rfl) (by kernel_rfl) rfl (q_assign rfl) rfl ?_
      | refine ax_any_q 2 rfl (by kernel_rfl) (by kernel_rfl) (by kernel_rfl) rfl (q_loadi_rp rfl rfl rfl) rfl ?_
      | refine ax_any_q 2 rfl (by kernel_rfl) (by kernel_rfl) (by kernel_rfl) rfl (q_loads_rp rfl rfl rfl) rfl ?_
      | refine ax_any_q 2 rfl (by kernel_rfl) (by kernel_rfl) (by kernel_rfl) rfl (q_loadf_rp rfl rfl rfl rfl) rfl ?_
      | refine ax_any_q 2 rfl (by kernel_rfl) (by kernel_rfl) (by kernel_rfl) rfl (q_loadb_ptr rfl rfl rfl rfl rfl) rfl ?_
      | refine ax_any_q 2 rfl (by kernel_rfl) (by kernel_rfl) (by kernel_rfl) rfl (q_lss rfl rfl) rfl ?_
      | refine ax_any_q 2 rfl (by kernel_rfl) (by kernel_rfl) (by kernel_rfl) rfl (q_eql rfl rfl) rfl ?_
      | refine ax_any_q 2 rfl (by kernel_rfl) (by kernel_rfl) (by kernel_rfl) rfl (q_neq rfl rfl) rfl ?_
      | refine ax_any_q 2 rfl (by kernel_rfl) (by kernel_rfl) (by kernel_rfl) rfl (q_leq rfl rfl) rfl ?_
      | refine ax_any_q 2 rfl (by kernel_rfl) (by kernel_rfl) (by kernel_rfl) rfl (q_gtr rfl rfl) rfl ?_
      | refine ax_any_q 2 rfl (by kernel_rfl) (by kernel_rfl) (by kernel_rfl) rfl (q_geq rfl rfl) rfl ?_
      | refine ax_any_q 2 rfl (by kernel_rfl) (by kernel_rfl) (by kernel_rfl) rfl (q_not rfl) rfl ?_
      | refine ax_any_q 2 rfl (by kernel_rfl) (by kernel_rfl) (by kernel_rfl) rfl (q_pick rfl rfl) rfl ?_
      | refine ax_any_q 2 rfl (by kernel_rfl) (by kernel_rfl) (by kernel_rfl) rfl (q_extract rfl rfl) rfl ?_
      | refine ax_any_q 2 rfl (by kernel_rfl) (by kernel_rfl) (by kernel_rfl) rfl (q_len rfl rfl rfl) rfl ?_
      | refine ax_any_q 2 rfl (by kernel_rfl) (by kernel_rfl) (by kernel_rfl) rfl (q_lenstr rfl rfl) rfl ?_
      | refine ax_any_q 2 rfl (by kernel_rfl) (by kernel_rfl) (by kernel_rfl) rfl (q_add rfl rfl (by omega)) rfl ?_
      | refine ax_any_q 2 rfl (by kernel_rfl) (by kernel_rfl) (by kernel_rfl) rfl (q_sub rfl rfl (by omega)) rfl ?_
      | refine ax_any_q 2 rfl (by kernel_rfl) (by kernel_rfl) (by kernel_rfl) rfl (q_index_ro' rfl rfl rfl rfl (by first | (simp only [Nat.zero_add, Int.toNat_natCast, Int.toNat_zero]; exact rfl) | exact rfl) (by omega)) rfl ?_
      | refine ax_any_q 2 rfl (by kernel_rfl) (by kernel_rfl) (by kernel_rfl) rfl (q_index_sl' rfl rfl rfl rfl rfl (by first | (simp only [Nat.zero_add, Int.toNat_natCast, Int.toNat_zero]; exact rfl) | exact rfl) (by omega)) rfl ?_
      | refine ax_any_q 2 rfl (by kernel_rfl) (by kernel_rfl) (by kernel_rfl) rfl (q_loadi_ptr rfl rfl rfl rfl (by first | assumption | omega)) rfl ?_
      | refine ax_any_q 2 rfl (by kernel_rfl) (by kernel_rfl) (by kernel_rfl) rfl (q_loads_ptr rfl rfl rfl rfl (by first | assumption | omega)) rfl ?_
      | refine ax_any_q 2 rfl (by kernel_rfl) (by kernel_rfl) (by kernel_rfl) rfl (q_loadf_ptr rfl rfl rfl rfl rfl (by first | assumption | omega)) rfl ?_
      | refine ax_any_q 2 rfl (by kernel_rfl) (by kernel_rfl) (by kernel_rfl) rfl (q_quo rfl rfl (by omega)) rfl ?_
      | refine ax_any_q 2 rfl (by kernel_rfl) (by kernel_rfl) (by kernel_rfl) rfl (q_rem rfl rfl (by omega)) rfl ?_
      | refine ax_any_q 2 rfl (by kernel_rfl) (by kernel_rfl) (by kernel_rfl) rfl (q_slice_ro rfl rfl rfl rfl rfl rfl rfl (by omega)) rfl ?_
      | refine ax_any_q 2 rfl (by kernel_rfl) (by kernel_rfl) (by kernel_rfl) rfl (q_slice_sl rfl rfl rfl rfl rfl rfl rfl rfl (by omega)) rfl ?_
      | refine ax_any_q 2 rfl (by kernel_rfl) (by kernel_rfl) (by kernel_rfl) rfl (q_eqnilnil rfl rfl rfl) rfl ?_
      | refine ax_any_q 2 rfl (by kernel_rfl) (by kernel_rfl) (by kernel_rfl) rfl (q_build rfl rfl rfl rfl rfl rfl) rfl ?_
    first
      | refine ax_any_q 3 rfl (by kernel_rfl) (by kernel_rfl) (by kernel_rfl) rfl (q_move rfl) rfl ?_
      | refine ax_any_q 3 rfl (by kernel_rfl) (by kernel_rfl) (by kernel_rfl) rfl (q_assign rfl) rfl ?_
      | refine ax_any_q 3 rfl (by kernel_rfl) (by kernel_rfl) (by kernel_rfl) rfl (q_loadi_rp rfl rfl rfl) rfl ?_
      | refine ax_any_q 3 rfl (by kernel_rfl) (by kernel_rfl) (by kernel_rfl) rfl (q_loads_rp rfl rfl rfl) rfl ?_
      | refine ax_any_q 3 rfl (by kernel_rfl) (by kernel_rfl) (by kernel_rfl) rfl (q_loadf_rp rfl rfl rfl rfl) rfl ?_
      | refine ax_any_q 3 rfl (by kernel_rfl) (by kernel_rfl) (by kernel_rfl) rfl (q_loadb_ptr rfl rfl rfl rfl rfl) rfl ?_
      | refine ax_any_q 3 rfl (by kernel_rfl) (by kernel_rfl) (by kernel_rfl) rfl (q_lss rfl rfl) rfl ?_
      | refine ax_any_q 3 rfl (by kernel_rfl) (by kernel_rfl) (by kernel_rfl) rfl (q_eql rfl rfl) rfl ?_
      | refine ax_any_q 3 rfl (by kernel_rfl) (by kernel_rfl) (by kernel_rfl) rfl (q_neq rfl rfl) rfl ?_
      | refine ax_any_q 3 rfl (by kernel_rfl) (by kernel_rfl) (by kernel_rfl) rfl (q_leq rfl rfl) rfl ?_
      | refine ax_any_q 3 rfl (by kernel_rfl) (by kernel_rfl) (by kernel_rfl) rfl (q_gtr rfl rfl) rfl ?_
      | refine ax_any_q 3 rfl (by kernel_rfl) (by kernel_rfl) (by kernel_rfl) rfl (q_geq rfl rfl) rfl ?_
      | refine ax_any_q 3 rfl (by kernel_rfl) (by kernel_rfl) (by kernel_rfl) rfl (q_not rfl) rfl ?_
      | refine ax_any_q 3 rfl (by kernel_rfl) (by kernel_rfl) (by kernel_rfl) rfl (q_pick rfl rfl) rfl ?_
      | refine ax_any_q 3 rfl (by kernel_rfl) (by kernel_rfl) (by kernel_rfl) rfl (q_extract rfl rfl) rfl ?_
      | refine ax_any_q 3 rfl (by kernel_rfl) (by kernel_rfl) (by kernel_rfl) rfl (q_len rfl rfl rfl) rfl ?_
      | refine ax_any_q 3 rfl (by kernel_rfl) (by kernel_rfl) (by kernel_rfl) rfl (q_lenstr rfl rfl) rfl ?_
      | refine ax_any_q 3 rfl (by kernel_rfl) (by kernel_rfl) (by kernel_rfl) rfl (q_add rfl rfl (by omega)) rfl ?_
      | refine ax_any_q 3 rfl (by kernel_rfl) (by kernel_rfl) (by kernel_rfl) rfl (q_sub rfl rfl (by omega)) rfl ?_
      | refine ax_any_q 3 rfl (by kernel_rfl) (by kernel_rfl) (by kernel_rfl) rfl (q_index_ro' rfl rfl rfl rfl (by first | (simp only [Nat.zero_add, Int.toNat_natCast, Int.toNat_zero]; exact rfl) | exact rfl) (by omega)) rfl ?_
      | refine ax_any_q 3 rfl (by kernel_rfl) (by kernel_rfl) (by kernel_rfl) rfl (q_index_sl' rfl rfl rfl rfl rfl (by first | (simp only [Nat.zero_add, Int.toNat_natCast, Int.toNat_zero]; exact rfl) | exact rfl) (by omega)) rfl ?_
      | refine ax_any_q 3 rfl (by kernel_rfl) (by kernel_rfl) (by kernel_rfl) rfl (q_loadi_ptr rfl rfl rfl rfl (by first | assumption | omega)) rfl ?_
      | refine ax_any_q 3 rfl (by kernel_rfl) (by kernel_rfl) (by kernel_rfl) rfl (q_loads_ptr rfl rfl rfl rfl (by first | assumption | omega)) rfl ?_
      | refine ax_any_q 3 rfl (by kernel_rfl) (by kernel_rfl) (by kernel_rfl) rfl (q_loadf_ptr rfl rfl rfl rfl rfl (by first | assumption | omega)) rfl ?_
      | refine ax_any_q 3 rfl (by kernel_rfl) (by kernel_rfl) (by kernel_rfl) rfl (q_quo rfl rfl (by omega)) rfl ?_
      | refine ax_any_q 3 rfl (by kernel_rfl) (by kernel_rfl) (by kernel_rfl) rfl (q_rem rfl rfl (by omega)) rfl ?_
      | refine ax_any_q 3 rfl (by kernel_rfl) (by kernel_rfl) (by kernel_rfl) rfl (q_slice_ro rfl rfl rfl rfl rfl rfl rfl (by omega)) rfl ?_
      | refine ax_any_q 3 rfl (by kernel_rfl) (by kernel_rfl) (by kernel_rfl) rfl (q_slice_sl rfl rfl rfl rfl rfl rfl rfl rfl (by omega)) rfl ?_
      | refine ax_any_q 3 rfl (by kernel_rfl) (by kernel_rfl) (by kernel_rfl) rfl (q_eqnilnil rfl rfl rfl) rfl ?_
      | refine ax_any_q 3 rfl (by kernel_rfl) (by kernel_rfl) (by kernel_rfl) rfl (q_build rfl rfl rfl rfl rfl rfl) rfl ?_
    first
      | refine ax_any_q 4 rfl (by kernel_rfl) (by kernel_rfl) (by kernel_rfl) rfl (q_move rfl) rfl ?_
      | refine ax_any_q 4 rfl (by kernel_rfl) (by kernel_rfl) (by kernel_rfl) rfl (q_assign rfl) rfl ?_
      | refine ax_any_q 4 rfl (by kernel_rfl) (by kernel_rfl) (by kernel_rfl) rfl (q_loadi_rp rfl rfl rfl) rfl ?_
      | refine ax_any_q 4 rfl (by kernel_rfl) (by kernel_rfl) (by kernel_rfl) rfl (q_loads_rp rfl rfl rfl) rfl ?_
      | refine ax_any_q 4 rfl (by kernel_rfl) (by kernel_rfl) (by kernel_rfl) rfl (q_loadf_rp rfl rfl rfl rfl) rfl ?_
      | refine ax_any_q 4 rfl (by kernel_rfl) (by kernel_rfl) (by kernel_rfl) rfl (q_loadb_ptr rfl rfl rfl rfl rfl) rfl ?_
      | refine ax_any_q 4 rfl (by kernel_rfl) (by kernel_rfl) (by kernel_rfl) rfl (q_lss rfl rfl) rfl ?_
      | refine ax_any_q 4 rfl (by kernel_rfl) (by kernel_rfl) (by kernel_rfl) rfl (q_eql rfl rfl) rfl ?_
      | refine ax_any_q 4 rfl (by kernel_rfl) (by kernel_rfl) (by kernel_rfl) rfl (q_neq rfl rfl) rfl ?_
      | refine ax_any_q 4 rfl (by kernel_rfl) (by kernel_rfl) (by kernel_rfl) rfl (q_leq rfl rfl) rfl ?_
      | refine ax_any_q 4 rfl (by kernel_rfl) (by kernel_rfl) (by kernel_rfl) rfl (q_gtr rfl rfl) rfl ?_
      | refine ax_any_q 4 rfl (by kernel_rfl) (by kernel_rfl) (by kernel_rfl) rfl (q_geq rfl rfl) rfl ?_
      | refine ax_any_q 4 rfl (by kernel_rfl) (by kernel_rfl) (by kernel_rfl) rfl (q_not rfl) rfl ?_
      | refine ax_any_q 4 rfl (by kernel_rfl) (by kernel_rfl) (by kernel_rfl) rfl (q_pick rfl rfl) rfl ?_
      | refine ax_any_q 4 rfl (by kernel_rfl) (by kernel_rfl) (by kernel_rfl) rfl (q_extract rfl rfl) rfl ?_
      | refine ax_any_q 4 rfl (by kernel_rfl) (by kernel_rfl) (by kernel_rfl) rfl (q_len rfl rfl rfl) rfl ?_
      | refine ax_any_q 4 rfl (by kernel_rfl) (by kernel_rfl) (by kernel_rfl) rfl (q_lenstr rfl rfl) rfl ?_
      | refine ax_any_q 4 rfl (by kernel_rfl) (by kernel_rfl) (by kernel_rfl) rfl (q_add rfl rfl (by omega)) rfl ?_
      | refine ax_any_q 4 rfl (by kernel_rfl) (by kernel_rfl) (by kernel_rfl) rfl (q_sub rfl rfl (by omega)) rfl ?_
      | refine ax_any_q 4 rfl (by kernel_rfl) (by kernel_rfl) (by kernel_rfl) rfl (q_index_ro' rfl rfl rfl rfl (by first | (simp only [Nat.zero_add, Int.toNat_natCast, Int.toNat_zero]; exact rfl) | exact rfl) (by omega)) rfl ?_
      | refine ax_any_q 4 rfl (by kernel_rfl) (by kernel_rfl) (by kernel_rfl) rfl (q_index_sl' rfl rfl rfl rfl rfl (by first | (simp only [Nat.zero_add, Int.toNat_natCast, Int.toNat_zero]; exact rfl) | exact rfl) (by omega)) rfl ?_
      | refine ax_any_q 4 rfl (by kernel_rfl) (by kernel_rfl) (by kernel_rfl) rfl (q_loadi_ptr rfl rfl rfl rfl (by first | assumption | omega)) rfl ?_
      | refine ax_any_q 4 rfl (by kernel_rfl) (by kernel_rfl) (by kernel_rfl) rfl (q_loads_ptr rfl rfl rfl rfl (by first | assumption | omega)) rfl ?_
      | refine ax_any_q 4 rfl (by kernel_rfl) (by kernel_rfl) (by kernel_rfl) rfl (q_loadf_ptr rfl rfl rfl rfl rfl (by first | assumption | omega)) rfl ?_
      | refine ax_any_q 4 rfl (by kernel_rfl) (by kernel_rfl) (by kernel_rfl) rfl (q_quo rfl rfl (by omega)) rfl ?_
      | refine ax_any_q 4 rfl (by kernel_rfl) (by kernel_rfl) (by kernel_rfl) rfl (q_rem rfl rfl (by omega)) rfl ?_
      | refine ax_any_q 4 rfl (by kernel_rfl) (by kernel_rfl) (by kernel_rfl) rfl (q_slice_ro rfl rfl rfl rfl rfl rfl rfl (by omega)) rfl ?_
      | refine ax_any_q 4 rfl (by kernel_rfl) (by kernel_rfl) (by kernel_rfl) rfl (q_slice_sl rfl rfl rfl rfl rfl rfl rfl rfl (by omega)) rfl ?_
      | refine ax_any_q 4 rfl (by kernel_rfl) (by kernel_rfl) (by kernel_rfl) rfl (q_eqnilnil rfl rfl rfl) rfl ?_
      | refine ax_any_q 4 rfl (by kernel_rfl) (by kernel_rfl) (by kernel_rfl) rfl (q_build rfl rfl rfl rfl rfl rfl) rfl ?_
    first
      | refine ax_any_q 5 rfl (by kernel_rfl) (by kernel_rfl) (by kernel_rfl) rfl (q_move rfl) rfl ?_
      | refine ax_any_q 5 rfl (by kernel_rfl) (by kernel_rfl) (by kernel_rfl) rfl (q_assign rfl) rfl ?_
      | refine ax_any_q 5 rfl (by kernel_rfl) (by kernel_rfl) (by kernel_rfl) rfl (q_loadi_rp rfl rfl rfl) rfl ?_
      | refine ax_any_q 5 rfl (by kernel_rfl) (by kernel_rfl) (by kernel_rfl) rfl (q_loads_rp rfl rfl rfl) rfl ?_
      | refine ax_any_q 5 rfl (by kernel_rfl) (by kernel_rfl) (by kernel_rfl) rfl (q_loadf_rp rfl rfl rfl rfl) rfl ?_
      | refine ax_any_q 5 rfl (by kernel_rfl) (by kernel_rfl) (by kernel_rfl) rfl (q_loadb_ptr rfl rfl rfl rfl rfl) rfl ?_
      | refine ax_any_q 5 rfl (by kernel_rfl) (by kernel_rfl) (by kernel_rfl) rfl (q_lss rfl rfl) rfl ?_
      | refine ax_any_q 5 rfl (by kernel_rfl) (by kernel_rfl) (by kernel_rfl) rfl (q_eql rfl rfl) rfl ?_
      | refine ax_any_q 5 rfl (by kernel_rfl) (by kernel_rfl) (by kernel_rfl) rfl (q_neq rfl rfl) rfl ?_
      | refine ax_any_q 5 rfl (by kernel_rfl) (by kernel_rfl) (by kernel_rfl) rfl (q_leq rfl rfl) rfl ?_
      | refine ax_any_q 5 rfl (by kernel_rfl) (by kernel_rfl) (by kernel_rfl) rfl (q_gtr rfl rfl) rfl ?_
      | refine ax_any_q 5 rfl (by kernel_rfl) (by kernel_rfl) (by kernel_rfl) rfl (q_geq rfl rfl) rfl ?_
      | refine ax_any_q 5 rfl (by kernel_rfl) (by kernel_rfl) (by kernel_rfl) rfl (q_not rfl) rfl ?_
      | refine ax_any_q 5 rfl (by kernel_rfl) (by kernel_rfl) (by kernel_rfl) rfl (q_pick rfl rfl) rfl ?_
      | refine ax_any_q 5 rfl (by kernel_rfl) (by kernel_rfl) (by kernel_rfl) rfl (q_extract rfl rfl) rfl ?_
      | refine ax_any_q 5 rfl (by kernel_rfl) (by kernel_rfl) (by kernel_rfl) rfl (q_len rfl rfl rfl) rfl ?_
      | refine ax_any_q 5 rfl (by kernel_rfl) (by kernel_rfl) (by kernel_rfl) rfl (q_lenstr rfl rfl) rfl ?_
      | refine ax_any_q 5 rfl (by kernel_rfl) (by kernel_rfl) (by kernel_rfl) rfl (q_add rfl rfl (by omega)) rfl ?_
      | refine ax_any_q 5 rfl (by kernel_rfl) (by kernel_rfl) (by kernel_rfl) rfl (q_sub rfl rfl (by omega)) rfl ?_
      | refine ax_any_q 5 rfl (by kernel_rfl) (by kernel_rfl) (by kernel_rfl) rfl (q_index_ro' rfl rfl rfl rfl (by first | (simp only [Nat.zero_add, Int.toNat_natCast, Int.toNat_zero]; exact rfl) | exact rfl) (by omega)) rfl ?_
      | refine ax_any_q 5 rfl (by kernel_rfl) (by kernel_rfl) (by kernel_rfl) rfl (q_index_sl' rfl rfl rfl rfl rfl (by first | (simp only [Nat.zero_add, Int.toNat_natCast, Int.toNat_zero]; exact rfl) | exact rfl) (by omega)) rfl ?_
      | refine ax_any_q 5 rfl (by kernel_rfl) (by kernel_rfl) (by kernel_rfl) rfl (q_loadi_ptr rfl rfl rfl rfl (by first | assumption | omega)) rfl ?_
      | refine ax_any_q 5 rfl (by kernel_rfl) (by kernel_rfl) (by kernel_rfl) rfl (q_loads_ptr rfl rfl rfl rfl (by first | assumption | omega)) rfl ?_
      | refine ax_any_q 5 rfl (by kernel_rfl) (by kernel_rfl) (by kernel_rfl) rfl (q_loadf_ptr rfl rfl rfl rfl rfl (by first | assumption | omega)) rfl ?_
      | refine ax_any_q 5 rfl (by kernel_rfl) (by kernel_rfl) (by kernel_rfl) rfl (q_quo rfl rfl (by omega)) rfl ?_
      | refine ax_any_q 5 rfl (by kernel_rfl) (by kernel_rfl) (by kernel_rfl) rfl (q_rem rfl rfl (by omega)) rfl ?_
      | refine ax_any_q 5 rfl (by kernel_rfl) (by kernel_rfl) (by kernel_rfl) rfl (q_slice_ro rfl rfl rfl rfl rfl rfl rfl (by omega)) rfl ?_
      | refine ax_any_q 5 rfl (by kernel_rfl) (by kernel_rfl) (by kernel_rfl) rfl (q_slice_sl rfl rfl rfl rfl rfl rfl rfl rfl (by omega)) rfl ?_
      | refine ax_any_q 5 rfl (by kernel_rfl) (by kernel_rfl) (by kernel_rfl) rfl (q_eqnilnil rfl rfl rfl) rfl ?_
      | refine ax_any_q 5 rfl (by kernel_rfl) (by kernel_rfl) (by kernel_rfl) rfl (q_build rfl rfl rfl rfl rfl rfl) rfl ?_
    first
      | refine ax_any_q 8 rfl (by kernel_rfl) (by kernel_rfl) (by kernel_rfl) rfl (q_move rfl) rfl ?_
      | refine ax_any_q 8 rfl (by kernel_rfl) (by kernel_rfl) (by kernel_rfl) rfl (q_assign rfl) rfl ?_
      | refine ax_any_q 8 rfl (by kernel_rfl) (by kernel_rfl) (by kernel_rfl) rfl (q_loadi_rp rfl rfl rfl) rfl ?_
      | refine ax_any_q 8 rfl (by kernel_rfl) (by kernel_rfl) (by kernel_rfl) rfl (q_loads_rp rfl rfl rfl) rfl ?_
      | refine ax_any_q 8 rfl (by kernel_rfl) (by kernel_rfl) (by kernel_rfl) rfl (q_loadf_rp rfl rfl rfl rfl) rfl ?_
      | refine ax_any_q 8 rfl (by kernel_rfl) (by kernel_rfl) (by kernel_rfl) rfl (q_loadb_ptr rfl rfl rfl rfl rfl) rfl ?_
      | refine ax_any_q 8 rfl (by kernel_rfl) (by kernel_rfl) (by kernel_rfl) rfl (q_lss rfl rfl) rfl ?_
      | refine ax_any_q 8 rfl (by kernel_rfl) (by kernel_rfl) (by kernel_rfl) rfl (q_eql rfl rfl) rfl ?_
      | refine ax_any_q 8 rfl (by kernel_rfl) (by kernel_rfl) (by kernel_rfl) rfl (q_neq rfl rfl) rfl ?_
      | refine ax_any_q 8 rfl (by kernel_rfl) (by kernel_rfl) (by kernel_rfl) rfl (q_leq rfl rfl) rfl ?_
      | refine ax_any_q 8 rfl (by kernel_rfl) (by kernel_rfl) (by kernel_rfl) rfl (q_gtr rfl rfl) rfl ?_
      | refine ax_any_q 8 rfl (by kernel_rfl) (by kernel_rfl) (by kernel_rfl) rfl (q_geq rfl rfl) rfl ?_
      | refine ax_any_q 8 rfl (by kernel_rfl) (by kernel_rfl) (by kernel_rfl) rfl (q_not rfl) rfl ?_
      | refine ax_any_q 8 rfl (by kernel_rfl) (by kernel_rfl) (by kernel_rfl) rfl (q_pick rfl rfl) rfl ?_
      | refine ax_any_q 8 rfl (by kernel_rfl) (by kernel_rfl) (by kernel_rfl) rfl (q_extract rfl rfl) rfl ?_
      | refine ax_any_q 8 rfl (by kernel_rfl) (by kernel_rfl) (by kernel_rfl) rfl (q_len rfl rfl rfl) rfl ?_
      | refine ax_any_q 8 rfl (by kernel_rfl) (by kernel_rfl) (by kernel_rfl) rfl (q_lenstr rfl rfl) rfl ?_
      | refine ax_any_q 8 rfl (by kernel_rfl) (by kernel_rfl) (by kernel_rfl) rfl (q_add rfl rfl (by omega)) rfl ?_
      | refine ax_any_q 8 rfl (by kernel_rfl) (by kernel_rfl) (by kernel_rfl) rfl (q_sub rfl rfl (by omega)) rfl ?_
      | refine ax_any_q 8 rfl (by kernel_rfl) (by kernel_rfl) (by kernel_rfl) rfl (q_index_ro' rfl rfl rfl rfl (by first | (simp only [Nat.zero_add, Int.toNat_natCast, Int.toNat_zero]; exact rfl) | exact rfl) (by omega)) rfl ?_
      | refine ax_any_q 8 rfl (by kernel_rfl) (by kernel_rfl) (by kernel_rfl) rfl (q_index_sl' rfl rfl rfl rfl rfl (by first | (simp only [Nat.zero_add, Int.toNat_natCast, Int.toNat_zero]; exact rfl) | exact rfl) (by omega)) rfl ?_
      | refine ax_any_q 8 rfl (by kernel_rfl) (by kernel_rfl) (by kernel_rfl) rfl (q_loadi_ptr rfl rfl rfl rfl (by first | assumption | omega)) rfl ?_
      | refine ax_any_q 8 rfl (by kernel_rfl) (by kernel_rfl) (by kernel_rfl) rfl (q_loads_ptr rfl rfl rfl rfl (by first | assumption | omega)) rfl ?_
      | refine ax_any_q 8 rfl (by kernel_rfl) (by kernel_rfl) (by kernel_rfl) rfl (q_loadf_ptr rfl rfl rfl rfl rfl (by first | assumption | omega)) rfl ?_
      | refine ax_any_q 8 rfl (by kernel_rfl) (by kernel_rfl) (by kernel_rfl) rfl (q_quo rfl rfl (by omega)) rfl ?_
      | refine ax_any_q 8 rfl (by kernel_rfl) (by kernel_rfl) (by kernel_rfl) rfl (q_rem rfl rfl (by omega)) rfl ?_
      | refine ax_any_q 8 rfl (by kernel_rfl) (by kernel_rfl) (by kernel_rfl) rfl (q_slice_ro rfl rfl rfl rfl rfl rfl rfl (by omega)) rfl ?_
      | refine ax_any_q 8 rfl (by kernel_rfl) (by kernel_rfl) (by kernel_rfl) rfl (q_slice_sl rfl rfl rfl rfl rfl rfl rfl rfl (by omega)) rfl ?_
      | refine ax_any_q 8 rfl (by kernel_rfl) (by kernel_rfl) (by kernel_rfl) rfl (q_eqnilnil rfl rfl rfl) rfl ?_
      | refine ax_any_q 8 rfl (by kernel_rfl) (by kernel_rfl) (by kernel_rfl) rfl (q_build rfl rfl rfl rfl rfl rfl) rfl ?_
    first
      | refine ax_any_q 9 rfl (by kernel_rfl) (by kernel_rfl) (by kernel_rfl) rfl (q_move rfl) rfl ?_
      | refine ax_any_q 9 rfl (by kernel_rfl) (by kernel_rfl) (by kernel_rfl) rfl (q_assign rfl) rfl ?_
      | refine ax_any_q 9 rfl (by kernel_rfl) (by kernel_rfl) (by kernel_rfl) rfl (q_loadi_rp rfl rfl rfl) rfl ?_
      | refine ax_any_q 9 rfl (by kernel_rfl) (by kernel_rfl) (by kernel_rfl) rfl (q_loads_rp rfl rfl rfl) rfl ?_
      | refine ax_any_q 9 rfl (by kernel_rfl) (by kernel_rfl) (by kernel_rfl) rfl (q_loadf_rp rfl rfl rfl rfl) rfl ?_
      | refine ax_any_q 9 rfl (by kernel_rfl) (by kernel_rfl) (by kernel_rfl) rfl (q_loadb_ptr rfl rfl rfl rfl rfl) rfl ?_
      | refine ax_any_q 9 rfl (by kernel_rfl) (by kernel_rfl) (by kernel_rfl) rfl (q_lss rfl rfl) rfl ?_
      | refine ax_any_q 9 rfl (by kernel_rfl) (by kernel_rfl) (by kernel_rfl) rfl (q_eql rfl rfl) rfl ?_
      | refine ax_any_q 9 rfl (by kernel_rfl) (by kernel_rfl) (by kernel_rfl) rfl (q_neq rfl rfl) rfl ?_
      | refine ax_any_q 9 rfl (by kernel_rfl) (by kernel_rfl) (by kernel_rfl) rfl (q_leq rfl rfl) rfl ?_
      | refine ax_any_q 9 rfl (by kernel_rfl) (by kernel_rfl) (by kernel_rfl) rfl (q_gtr rfl rfl) rfl ?_
      | refine ax_any_q 9 rfl (by kernel_rfl) (by kernel_rfl) (by kernel_rfl) rfl (q_geq rfl rfl) rfl ?_
      | refine ax_any_q 9 rfl (by kernel_rfl) (by kernel_rfl) (by kernel_rfl) rfl (q_not rfl) rfl ?_
      | refine ax_any_q 9 rfl (by kernel_rfl) (by kernel_rfl) (by kernel_rfl) rfl (q_pick rfl rfl) rfl ?_
      | refine ax_any_q 9 rfl (by kernel_rfl) (by kernel_rfl) (by kernel_rfl) rfl (q_extract rfl rfl) rfl ?_
      | refine ax_any_q 9 rfl (by kernel_rfl) (by kernel_rfl) (by kernel_rfl) rfl (q_len rfl rfl rfl) rfl ?_
      | refine ax_any_q 9 rfl (by kernel_rfl) (by kernel_rfl) (by kernel_rfl) rfl (q_lenstr rfl rfl) rfl ?_
      | refine ax_any_q 9 rfl (by kernel_rfl) (by kernel_rfl) (by kernel_rfl) rfl (q_add rfl rfl (by omega)) rfl ?_
      | refine ax_any_q 9 rfl (by kernel_rfl) (by kernel_rfl) (by kernel_rfl) rfl (q_sub rfl rfl (by omega)) rfl ?_
      | refine ax_any_q 9 rfl (by kernel_rfl) (by kernel_rfl) (by kernel_rfl) rfl (q_index_ro' rfl rfl rfl rfl (by first | (simp only [Nat.zero_add, Int.toNat_natCast, Int.toNat_zero]; exact rfl) | exact rfl) (by omega)) rfl ?_
      | refine ax_any_q 9 rfl (by kernel_rfl) (by kernel_rfl) (by kernel_rfl) rfl (q_index_sl' rfl rfl rfl rfl rfl (by first | (simp only [Nat.zero_add, Int.toNat_natCast, Int.toNat_zero]; exact rfl) | exact rfl) (by omega)) rfl ?_
      | refine ax_any_q 9 rfl (by kernel_rfl) (by kernel_rfl) (by kernel_rfl) rfl (q_loadi_ptr rfl rfl rfl rfl (by first | assumption | omega)) rfl ?_
      | refine ax_any_q 9 rfl (by kernel_rfl) (by kernel_rfl) (by kernel_rfl) rfl (q_loads_ptr rfl rfl rfl rfl (by first | assumption | omega)) rfl ?_
      | refine ax_any_q 9 rfl (by kernel_rfl) (by kernel_rfl) (by kernel_rfl) rfl (q_loadf_ptr rfl rfl rfl rfl rfl (by first | assumption | omega)) rfl ?_
      | refine ax_any_q 9 rfl (by kernel_rfl) (by kernel_rfl) (by kernel_rfl) rfl (q_quo rfl rfl (by omega)) rfl ?_
      | refine ax_any_q 9 rfl (by kernel_rfl) (by kernel_rfl) (by kernel_rfl) rfl (q_rem rfl rfl (by omega)) rfl ?_
      | refine ax_any_q 9 rfl (by kernel_rfl) (by kernel_rfl) (by kernel_rfl) rfl (q_slice_ro rfl rfl rfl rfl rfl rfl rfl (by omega)) rfl ?_
      | refine ax_any_q 9 rfl (by kernel_rfl) (by kernel_rfl) (by kernel_rfl) rfl (q_slice_sl rfl rfl rfl rfl rfl rfl rfl rfl (by omega)) rfl ?_
      | refine ax_any_q 9 rfl (by kernel_rfl) (by kernel_rfl) (by kernel_rfl) rfl (q_eqnilnil rfl rfl rfl) rfl ?_
      | refine ax_any_q 9 rfl (by kernel_rfl) (by kernel_rfl) (by kernel_rfl) rfl (q_build rfl rfl rfl rfl rfl rfl) rfl ?_
    first
      | refine ax_any_q 6 rfl (by kernel_rfl) (by kernel_rfl) (by kernel_rfl) rfl (q_move rfl) rfl ?_
      | refine ax_any_q 6 rfl (by kernel_rfl) (by kernel_rfl) (by kernel_rfl) rfl (q_assign rfl) rfl ?_
      | refine ax_any_q 6 rfl (by kernel_rfl) (by kernel_rfl) (by kernel_rfl) rfl (q_loadi_rp rfl rfl rfl) rfl ?_
      | refine ax_any_q 6 rfl (by kernel_rfl) (by kernel_rfl) (by kernel_rfl) rfl (q_loads_rp rfl rfl rfl) rfl ?_
      | refine ax_any_q 6 rfl (by kernel_rfl) (by kernel_rfl) (by kernel_rfl) rfl (q_loadf_rp rfl rfl rfl rfl) rfl ?_
      | refine ax_any_q 6 rfl (by kernel_rfl) (by kernel_rfl) (by kernel_rfl) rfl (q_loadb_ptr rfl rfl rfl rfl rfl) rfl ?_
      | refine ax_any_q 6 rfl (by kernel_rfl) (by kernel_rfl) (by kernel_rfl) rfl (q_lss rfl rfl) rfl ?_
      | refine ax_any_q 6 rfl (by kernel_rfl) (by kernel_rfl) (by kernel_rfl) rfl (q_eql rfl rfl) rfl ?_
      | refine ax_any_q 6 rfl (by kernel_rfl) (by kernel_rfl) (by kernel_rfl) rfl (q_neq rfl rfl) rfl ?_
      | refine ax_any_q 6 rfl (by kernel_rfl) (by kernel_rfl) (by kernel_rfl) rfl (q_leq rfl rfl) rfl ?_
      | refine ax_any_q 6 rfl (by kernel_rfl) (by kernel_rfl) (by kernel_rfl) rfl (q_gtr rfl rfl) rfl ?_
      | refine ax_any_q 6 rfl (by kernel_rfl) (by kernel_rfl) (by kernel_rfl) rfl (q_geq rfl rfl) rfl ?_
      | refine ax_any_q 6 rfl (by kernel_rfl) (by kernel_rfl) (by kernel_rfl) rfl (q_not rfl) rfl ?_
      | refine ax_any_q 6 rfl (by kernel_rfl) (by kernel_rfl) (by kernel_rfl) rfl (q_pick rfl rfl) rfl ?_
      | refine ax_any_q 6 rfl (by kernel_rfl) (by kernel_rfl) (by kernel_rfl) rfl (q_extract rfl rfl) rfl ?_
      | refine ax_any_q 6 rfl (by kernel_rfl) (by kernel_rfl) (by kernel_rfl) rfl (q_len rfl rfl rfl) rfl ?_
      | refine ax_any_q 6 rfl (by kernel_rfl) (by kernel_rfl) (by kernel_rfl) rfl (q_lenstr rfl rfl) rfl ?_
      | refine ax_any_q 6 rfl (by kernel_rfl) (by kernel_rfl) (by kernel_rfl) rfl (q_add rfl rfl (by omega)) rfl ?_
      | refine ax_any_q 6 rfl (by kernel_rfl) (by kernel_rfl) (by kernel_rfl) rfl (q_sub rfl rfl (by omega)) rfl ?_
      | refine ax_any_q 6 rfl (by kernel_rfl) (by kernel_rfl) (by kernel_rfl) rfl (q_index_ro' rfl rfl rfl rfl (by first | (simp only [Nat.zero_add, Int.toNat_natCast, Int.toNat_zero]; exact rfl) | exact rfl) (by omega)) rfl ?_
      | refine ax_any_q 6 rfl (by kernel_rfl) (by kernel_rfl) (by kernel_rfl) rfl (q_index_sl' rfl rfl rfl rfl rfl (by first | (simp only [Nat.zero_add, Int.toNat_natCast, Int.toNat_zero]; exact rfl) | exact rfl) (by omega)) rfl ?_
      | refine ax_any_q 6 rfl (by kernel_rfl) (by kernel_rfl) (by kernel_rfl) rfl (q_loadi_ptr rfl rfl rfl rfl (by first | assumption | omega)) rfl ?_
      | refine ax_any_q 6 rfl (by kernel_rfl) (by kernel_rfl) (by kernel_rfl) rfl (q_loads_ptr rfl rfl rfl rfl (by first | assumption | omega)) rfl ?_
      | refine ax_any_q 6 rfl (by kernel_rfl) (by kernel_rfl) (by kernel_rfl) rfl (q_loadf_ptr rfl rfl rfl rfl rfl (by first | assumption | omega)) rfl ?_
      | refine ax_any_q 6 rfl (by kernel_rfl) (by kernel_rfl) (by kernel_rfl) rfl (q_quo rfl rfl (by omega)) rfl ?_
      | refine ax_any_q 6 rfl (by kernel_rfl) (by kernel_rfl) (by kernel_rfl) rfl (q_rem rfl rfl (by omega)) rfl ?_
      | refine ax_any_q 6 rfl (by kernel_rfl) (by kernel_rfl) (by kernel_rfl) rfl (q_slice_ro rfl rfl rfl rfl rfl rfl rfl (by omega)) rfl ?_
      | refine ax_any_q 6 rfl (by kernel_rfl) (by kernel_rfl) (by kernel_rfl) rfl (q_slice_sl rfl rfl rfl rfl rfl rfl rfl rfl (by omega)) rfl ?_
      | refine ax_any_q 6 rfl (by kernel_rfl) (by kernel_rfl) (by kernel_rfl) rfl (q_eqnilnil rfl rfl rfl) rfl ?_
      | refine ax_any_q 6 rfl (by kernel_rfl) (by kernel_rfl) (by kernel_rfl) rfl (q_build rfl rfl rfl rfl rfl rfl) rfl ?_
    first
      | refine ax_any_q 10 rfl (by kernel_rfl) (by kernel_rfl) (by kernel_rfl) rfl (q_move rfl) rfl ?_
      | refine ax_any_q 10 rfl (by kernel_rfl) (by kernel_rfl) (by kernel_rfl) rfl (q_assign rfl) rfl ?_
      | refine ax_any_q 10 rfl (by kernel_rfl) (by kernel_rfl) (by kernel_rfl) rfl (q_loadi_rp rfl rfl rfl) rfl ?_
      | refine ax_any_q 10 rfl (by kernel_rfl) (by kernel_rfl) (by kernel_rfl) rfl (q_loads_rp rfl rfl rfl) rfl ?_
      | refine ax_any_q 10 rfl (by kernel_rfl) (by kernel_rfl) (by kernel_rfl) rfl (q_loadf_rp rfl rfl rfl rfl) rfl ?_
      | refine ax_any_q 10 rfl (by kernel_rfl) (by kernel_rfl) (by kernel_rfl) rfl (q_loadb_ptr rfl rfl rfl rfl rfl) rfl ?_
      | refine ax_any_q 10 rfl (by kernel_rfl) (by kernel_rfl) (by kernel_rfl) rfl (q_lss rfl rfl) rfl ?_
      | refine ax_any_q 10 rfl (by kernel_rfl) (by kernel_rfl) (by kernel_rfl) rfl (q_eql rfl rfl) rfl ?_
      | refine ax_any_q 10 rfl (by kernel_rfl) (by kernel_rfl) (by kernel_rfl) rfl (q_neq rfl rfl) rfl ?_
      | refine ax_any_q 10 rfl (by kernel_rfl) (by kernel_rfl) (by kernel_rfl) rfl (q_leq rfl rfl) rfl ?_
      | refine ax_any_q 10 rfl (by kernel_rfl) (by kernel_rfl) (by kernel_rfl) rfl (q_gtr rfl rfl) rfl ?_
      | refine ax_any_q 10 rfl (by kernel_rfl) (by kernel_rfl) (by kernel_rfl) rfl (q_geq rfl rfl) rfl ?_
      | refine ax_any_q 10 rfl (by kernel_rfl) (by kernel_rfl) (by kernel_rfl) rfl (q_not rfl) rfl ?_
      | refine ax_any_q 10 rfl (by kernel_rfl) (by kernel_rfl) (by kernel_rfl) rfl (q_pick rfl rfl) rfl ?_
      | refine ax_any_q 10 rfl (by kernel_rfl) (by kernel_rfl) (by kernel_rfl) rfl (q_extract rfl rfl) rfl ?_
      | refine ax_any_q 10 rfl (by kernel_rfl) (by kernel_rfl) (by kernel_rfl) rfl (q_len rfl rfl rfl) rfl ?_
      | refine ax_any_q 10 rfl (by kernel_rfl) (by kernel_rfl) (by kernel_rfl) rfl (q_lenstr rfl rfl) rfl ?_
      | refine ax_any_q 10 rfl (by kernel_rfl) (by kernel_rfl) (by kernel_rfl) rfl (q_add rfl rfl (by omega)) rfl ?_
      | refine ax_any_q 10 rfl (by kernel_rfl) (by kernel_rfl) (by kernel_rfl) rfl (q_sub rfl rfl (by omega)) rfl ?_
      | refine ax_any_q 10 rfl (by kernel_rfl) (by kernel_rfl) (by kernel_rfl) rfl (q_index_ro' rfl rfl rfl rfl (by first | (simp only [Nat.zero_add, Int.toNat_natCast, Int.toNat_zero]; exact rfl) | exact rfl) (by omega)) rfl ?_
      | refine ax_any_q 10 rfl (by kernel_rfl) (by kernel_rfl) (by kernel_rfl) rfl (q_index_sl' rfl rfl rfl rfl rfl (by first | (simp only [Nat.zero_add, Int.toNat_natCast, Int.toNat_zero]; exact rfl) | exact rfl) (by omega)) rfl ?_
      | refine ax_any_q 10 rfl (by kernel_rfl) (by kernel_rfl) (by kernel_rfl) rfl (q_loadi_ptr rfl rfl rfl rfl (by first | assumption | omega)) rfl ?_
      | refine ax_any_q 10 rfl (by kernel_rfl) (by kernel_rfl) (by kernel_rfl) rfl (q_loads_ptr rfl rfl rfl rfl (by first | assumption | omega)) rfl ?_
      | refine ax_any_q 10 rfl (by kernel_rfl) (by kernel_rfl) (by kernel_rfl) rfl (q_loadf_ptr rfl rfl rfl rfl rfl (by first | assumption | omega)) rfl ?_
      | refine ax_any_q 10 rfl (by kernel_rfl) (by kernel_rfl) (by kernel_rfl) rfl (q_quo rfl rfl (by omega)) rfl ?_
      | refine ax_any_q 10 rfl (by kernel_rfl) (by kernel_rfl) (by kernel_rfl) rfl (q_rem rfl rfl (by omega)) rfl ?_
      | refine ax_any_q 10 rfl (by kernel_rfl) (by kernel_rfl) (by kernel_rfl) rfl (q_slice_ro rfl rfl rfl rfl rfl rfl rfl (by omega)) rfl ?_
      | refine ax_any_q 10 rfl (by kernel_rfl) (by kernel_rfl) (by kernel_rfl) rfl (q_slice_sl rfl rfl rfl rfl rfl rfl rfl rfl (by omega)) rfl ?_
      | refine ax_any_q 10 rfl (by kernel_rfl) (by kernel_rfl) (by kernel_rfl) rfl (q_eqnilnil rfl rfl rfl) rfl ?_
      | refine ax_any_q 10 rfl (by kernel_rfl) (by kernel_rfl) (by kernel_rfl) rfl (q_build rfl rfl rfl rfl rfl rfl) rfl ?_
    refine ax_any_step (is := [7, 11]) (by kernel_rfl) (by simp) rfl ⟨fun o ho => ?_, fun o ho => ?_, trivial⟩
    all_goals (cases ho)
    · repeat (first
        | refine ax_q (q_move rfl) ?_
        | refine ax_q (q_assign rfl) ?_
        | refine ax_q (q_loadi_rp rfl rfl rfl) ?_
        | refine ax_ops_nil ?_
        | refine ax_seq ?_
        | refine ax_region rfl ?_
        | refine ax_guard rfl rfl ?_
        | refine ax_skip_undef rfl rfl ?_
        | refine ax_skip_not rfl rfl rfl ?_
        | refine ax_guard_not rfl rfl rfl ?_
        | refine ax_cond_true rfl ?_
        | refine ax_cond_false rfl ?_
        | refine ax_post_blk ?_
        | refine ax_post_scope ?_
        | refine ax_post_any ?_
        | refine ax_block ?_
        | refine ax_scope ?_
        | refine ax_skip ?_
        | refine ax_label ?_
        | refine ax_exit ?_
        | refine ax_exit_here ?_
        | refine ax_exit_code ?_
        | refine ax_exit_inv ?_
        | refine ax_exit_scope ?_
        | refine ax_exit_on rfl ?_
        | refine ax_return ?_
        | refine ax_ret_code ?_
        | refine ax_ret_blk ?_
        | refine ax_ret_scope ?_
        | refine ax_ret_inv ?_
        | refine ax_q (q_loads_rp rfl rfl rfl) ?_
        | refine ax_q (q_loadf_rp rfl rfl rfl rfl) ?_
        | refine ax_q (q_loadb_ptr rfl rfl rfl rfl rfl) ?_
        | refine ax_q (q_lss rfl rfl) ?_
        | refine ax_q (q_eql rfl rfl) ?_
        | refine ax_q (q_neq rfl rfl) ?_
        | refine ax_q (q_leq rfl rfl) ?_
        | refine ax_q (q_gtr rfl rfl) ?_
        | refine ax_q (q_geq rfl rfl) ?_
        | refine ax_q (q_not rfl) ?_
        | refine ax_q (q_pick rfl rfl) ?_
        | refine ax_q (q_extract rfl rfl) ?_
        | refine ax_q (q_len rfl rfl rfl) ?_
        | refine ax_q (q_lenstr rfl rfl) ?_
        | refine ax_q (q_add rfl rfl (by omega)) ?_
        | refine ax_q (q_sub rfl rfl (by omega)) ?_
        | refine ax_q (q_index_ro' rfl rfl rfl rfl (by first | (simp only [Nat.zero_add, Int.toNat_natCast, Int.toNat_zero]; exact rfl) | exact rfl) (by omega)) ?_
        | refine ax_q (q_index_sl' rfl rfl rfl rfl rfl (by first | (simp only [Nat.zero_add, Int.toNat_natCast, Int.toNat_zero]; exact rfl) | exact rfl) (by omega)) ?_
        | refine ax_q (q_loadi_ptr rfl rfl rfl rfl (by first | assumption | omega)) ?_
        | refine ax_q (q_loads_ptr rfl rfl rfl rfl (by first | assumption | omega)) ?_
        | refine ax_q (q_loadf_ptr rfl rfl rfl rfl rfl (by first | assumption | omega)) ?_
        | refine ax_q (q_quo rfl rfl (by omega)) ?_
        | refine ax_q (q_rem rfl rfl (by omega)) ?_
        | refine ax_q (q_slice_ro rfl rfl rfl rfl rfl rfl rfl (by omega)) ?_
        | refine ax_q (q_slice_sl rfl rfl rfl rfl rfl rfl rfl rfl (by omega)) ?_
        | refine ax_q (q_eqnilnil rfl rfl rfl) ?_
        | refine ax_q (q_build rfl rfl rfl rfl rfl rfl) ?_
        | refine ax_store rfl rfl rfl rfl rfl rfl rfl (by first | assumption | (show _ < List.length _; first | assumption | omega)) ?_
        | refine ax_buildSliceRo rfl rfl rfl rfl rfl rfl rfl rfl rfl rfl rfl ?_)
      refine ax_any_step (is := [11]) (by kernel_rfl) (by simp) rfl ⟨fun o ho => ?_, trivial⟩
      all_goals (cases ho)
      repeat (first
        | refine ax_q (q_move rfl) ?_
        | refine ax_q (q_assign rfl) ?_
        | refine ax_q (q_loadi_rp rfl rfl rfl) ?_
        | refine ax_ops_nil ?_
        | refine ax_seq ?_
        | refine ax_region rfl ?_
        | refine ax_guard rfl rfl ?_
        | refine ax_skip_undef rfl rfl ?_
        | refine ax_skip_not rfl rfl rfl ?_
        | refine ax_guard_not rfl rfl rfl ?_
        | refine ax_cond_true rfl ?_
        | refine ax_cond_false rfl ?_
        | refine ax_post_blk ?_
        | refine ax_post_scope ?_
        | refine ax_post_any ?_
        | refine ax_block ?_
        | refine ax_scope ?_
        | refine ax_skip ?_
        | refine ax_label ?_
        | refine ax_exit ?_
        | refine ax_exit_here ?_
        | refine ax_exit_code ?_
        | refine ax_exit_inv ?_
        | refine ax_exit_scope ?_
        | refine ax_exit_on rfl ?_
        | refine ax_return ?_
        | refine ax_ret_code ?_
        | refine ax_ret_blk ?_
        | refine ax_ret_scope ?_
        | refine ax_ret_inv ?_
        | refine ax_q (q_loads_rp rfl rfl rfl) ?_
        | refine ax_q (q_loadf_rp rfl rfl rfl rfl) ?_
        | refine ax_q (q_loadb_ptr rfl rfl rfl rfl rfl) ?_
        | refine ax_q (q_lss rfl rfl) ?_
        | refine ax_q (q_eql rfl rfl) ?_
        | refine ax_q (q_neq rfl rfl) ?_
        | refine ax_q (q_leq rfl rfl) ?_
        | refine ax_q (q_gtr rfl rfl) ?_
        | refine ax_q (q_geq rfl rfl) ?_
        | refine ax_q (q_not rfl) ?_
        | refine ax_q (q_pick rfl rfl) ?_
        | refine ax_q (q_extract rfl rfl) ?_
        | refine ax_q (q_len rfl rfl rfl) ?_
        | refine ax_q (q_lenstr rfl rfl) ?_
        | refine ax_q (q_add rfl rfl (by omega)) ?_
        | refine ax_q (q_sub rfl rfl (by omega)) ?_
        | refine ax_q (q_index_ro' rfl rfl rfl rfl (by first | (simp only [Nat.zero_add, Int.toNat_natCast, Int.toNat_zero]; exact rfl) | exact rfl) (by omega)) ?_
        | refine ax_q (q_index_sl' rfl rfl rfl rfl rfl (by first | (simp only [Nat.zero_add, Int.toNat_natCast, Int.toNat_zero]; exact rfl) | exact rfl) (by omega)) ?_
        | refine ax_q (q_loadi_ptr rfl rfl rfl rfl (by first | assumption | omega)) ?_
        | refine ax_q (q_loads_ptr rfl rfl rfl rfl (by first | assumption | omega)) ?_
        | refine ax_q (q_loadf_ptr rfl rfl rfl rfl rfl (by first | assumption | omega)) ?_
        | refine ax_q (q_quo rfl rfl (by omega)) ?_
        | refine ax_q (q_rem rfl rfl (by omega)) ?_
        | refine ax_q (q_slice_ro rfl rfl rfl rfl rfl rfl rfl (by omega)) ?_
        | refine ax_q (q_slice_sl rfl rfl rfl rfl rfl rfl rfl rfl (by omega)) ?_
        | refine ax_q (q_eqnilnil rfl rfl rfl) ?_
        | refine ax_q (q_build rfl rfl rfl rfl rfl rfl) ?_
        | refine ax_store rfl rfl rfl rfl rfl rfl rfl (by first | assumption | (show _ < List.length _; first | assumption | omega)) ?_
        | refine ax_buildSliceRo rfl rfl rfl rfl rfl rfl rfl rfl rfl rfl rfl ?_)
      first
        | refine ax_any_q 12 rfl (by kernel_rfl) (by kernel_rfl) (by kernel_rfl) rfl (q_move rfl) rfl ?_
        | refine ax_any_q 12 rfl (by kernel_rfl) (by kernel_rfl) (by kernel_rfl) rfl (q_assign rfl) rfl ?_
        | refine ax_any_q 12 rfl (by kernel_rfl) (by kernel_rfl) (by kernel_rfl) rfl (q_loadi_rp rfl rfl rfl) rfl ?_
        | refine ax_any_q 12 rfl (by kernel_rfl) (by kernel_rfl) (by kernel_rfl) rfl (q_loads_rp rfl rfl rfl) rfl ?_
        | refine ax_any_q 12 rfl (by kernel_rfl) (by kernel_rfl) (by kernel_rfl) rfl (q_loadf_rp rfl rfl rfl rfl) rfl ?_
        | refine ax_any_q 12 rfl (by kernel_rfl) (by kernel_rfl) (by kernel_rfl) rfl (q_loadb_ptr rfl rfl rfl rfl rfl) rfl ?_
        | refine ax_any_q 12 rfl (by kernel_rfl) (by kernel_rfl) (by kernel_rfl) rfl (q_lss rfl rfl) rfl ?_
        | refine ax_any_q 12 rfl (by kernel_rfl) (by kernel_rfl) (by kernel_rfl) rfl (q_eql rfl rfl) rfl ?_
        | refine ax_any_q 12 rfl (by kernel_rfl) (by kernel_rfl) (by kernel_rfl) rfl (q_neq rfl rfl) rfl ?_
        | refine ax_any_q 12 rfl (by kernel_rfl) (by kernel_rfl) (by kernel_rfl) rfl (q_leq rfl rfl) rfl ?_
        | refine ax_any_q 12 rfl (by kernel_rfl) (by kernel_rfl) (by kernel_rfl) rfl (q_gtr rfl rfl) rfl ?_
        | refine ax_any_q 12 rfl (by kernel_rfl) (by kernel_rfl) (by kernel_rfl) rfl (q_geq rfl rfl) rfl ?_
        | refine ax_any_q 12 rfl (by kernel_rfl) (by kernel_rfl) (by kernel_rfl) rfl (q_not rfl) rfl ?_
        | refine ax_any_q 12 rfl (by kernel_rfl) (by kernel_rfl) (by kernel_rfl) rfl (q_pick rfl rfl) rfl ?_
        | refine ax_any_q 12 rfl (by kernel_rfl) (by kernel_rfl) (by kernel_rfl) rfl (q_extract rfl rfl) rfl ?_
        | refine ax_any_q 12 rfl (by kernel_rfl) (by kernel_rfl) (by kernel_rfl) rfl (q_len rfl rfl rfl) rfl ?_
        | refine ax_any_q 12 rfl (by kernel_rfl) (by kernel_rfl) (by kernel_rfl) rfl (q_lenstr rfl rfl) rfl ?_
        | refine ax_any_q 12 rfl (by kernel_rfl) (by kernel_rfl) (by kernel_rfl) rfl (q_add rfl rfl (by omega)) rfl ?_
        | refine ax_any_q 12 rfl (by kernel_rfl) (by kernel_rfl) (by kernel_rfl) rfl (q_sub rfl rfl (by omega)) rfl ?_
        | refine ax_any_q 12 rfl (by kernel_rfl) (by kernel_rfl) (by kernel_rfl) rfl (q_index_ro' rfl rfl rfl rfl (by first | (simp only [Nat.zero_add, Int.toNat_natCast, Int.toNat_zero]; exact rfl) | exact rfl) (by omega)) rfl ?_
        | refine ax_any_q 12 rfl (by kernel_rfl) (by kernel_rfl) (by kernel_rfl) rfl (q_index_sl' rfl rfl rfl rfl rfl (by first | (simp only [Nat.zero_add, Int.toNat_natCast, Int.toNat_zero]; exact rfl) | exact rfl) (by omega)) rfl ?_
        | refine ax_any_q 12 rfl (by kernel_rfl) (by kernel_rfl) (by kernel_rfl) rfl (q_loadi_ptr rfl rfl rfl rfl (by first | assumption | omega)) rfl ?_
        | refine ax_any_q 12 rfl (by kernel_rfl) (by kernel_rfl) (by kernel_rfl) rfl (q_loads_ptr rfl rfl rfl rfl (by first | assumption | omega)) rfl ?_
        | refine ax_any_q 12 rfl (by kernel_rfl) (by kernel_rfl) (by kernel_rfl) rfl (q_loadf_ptr rfl rfl rfl rfl rfl (by first | assumption | omega)) rfl ?_
        | refine ax_any_q 12 rfl (by kernel_rfl) (by kernel_rfl) (by kernel_rfl) rfl (q_quo rfl rfl (by omega)) rfl ?_
        | refine ax_any_q 12 rfl (by kernel_rfl) (by kernel_rfl) (by kernel_rfl) rfl (q_rem rfl rfl (by omega)) rfl ?_
        | refine ax_any_q 12 rfl (by kernel_rfl) (by kernel_rfl) (by kernel_rfl) rfl (q_slice_ro rfl rfl rfl rfl rfl rfl rfl (by omega)) rfl ?_
        | refine ax_any_q 12 rfl (by kernel_rfl) (by kernel_rfl) (by kernel_rfl) rfl (q_slice_sl rfl rfl rfl rfl rfl rfl rfl rfl (by omega)) rfl ?_
        | refine ax_any_q 12 rfl (by kernel_rfl) (by kernel_rfl) (by kernel_rfl) rfl (q_eqnilnil rfl rfl rfl) rfl ?_
        | refine ax_any_q 12 rfl (by kernel_rfl) (by kernel_rfl) (by kernel_rfl) rfl (q_build rfl rfl rfl rfl rfl rfl) rfl ?_
      refine ax_any_step (is := [13]) (by kernel_rfl) (by simp) rfl ⟨fun o ho => ?_, trivial⟩
      all_goals (cases ho)
      repeat (first
        | refine ax_q (q_move rfl) ?_
        | refine ax_q (q_assign rfl) ?_
        | refine ax_q (q_loadi_rp rfl rfl rfl) ?_
        | refine ax_ops_nil ?_
        | refine ax_seq ?_
        | refine ax_region rfl ?_
        | refine ax_guard rfl rfl ?_
        | refine ax_skip_undef rfl rfl ?_
        | refine ax_skip_not rfl rfl rfl ?_
        | refine ax_guard_not rfl rfl rfl ?_
        | refine ax_cond_true rfl ?_
        | refine ax_cond_false rfl ?_
        | refine ax_post_blk ?_
        | refine ax_post_scope ?_
        | refine ax_post_any ?_
        | refine ax_block ?_
        | refine ax_scope ?_
        | refine ax_skip ?_
        | refine ax_label ?_
        | refine ax_exit ?_
        | refine ax_exit_here ?_
        | refine ax_exit_code ?_
        | refine ax_exit_inv ?_
        | refine ax_exit_scope ?_
        | refine ax_exit_on rfl ?_
        | refine ax_return ?_
        | refine ax_ret_code ?_
        | refine ax_ret_blk ?_
        | refine ax_ret_scope ?_
        | refine ax_ret_inv ?_
        | refine ax_q (q_loads_rp rfl rfl rfl) ?_
        | refine ax_q (q_loadf_rp rfl rfl rfl rfl) ?_
        | refine ax_q (q_loadb_ptr rfl rfl rfl rfl rfl) ?_
        | refine ax_q (q_lss rfl rfl) ?_
        | refine ax_q (q_eql rfl rfl) ?_
        | refine ax_q (q_neq rfl rfl) ?_
        | refine ax_q (q_leq rfl rfl) ?_
        | refine ax_q (q_gtr rfl rfl) ?_
        | refine ax_q (q_geq rfl rfl) ?_
        | refine ax_q (q_not rfl) ?_
        | refine ax_q (q_pick rfl rfl) ?_
        | refine ax_q (q_extract rfl rfl) ?_
        | refine ax_q (q_len rfl rfl rfl) ?_
        | refine ax_q (q_lenstr rfl rfl) ?_
        | refine ax_q (q_add rfl rfl (by omega)) ?_
        | refine ax_q (q_sub rfl rfl (by omega)) ?_
        | refine ax_q (q_index_ro' rfl rfl rfl rfl (by first | (simp only [Nat.zero_add, Int.toNat_natCast, Int.toNat_zero]; exact rfl) | exact rfl) (by omega)) ?_
        | refine ax_q (q_index_sl' rfl rfl rfl rfl rfl (by first | (simp only [Nat.zero_add, Int.toNat_natCast, Int.toNat_zero]; exact rfl) | exact rfl) (by omega)) ?_
        | refine ax_q (q_loadi_ptr rfl rfl rfl rfl (by first | assumption | omega)) ?_
        | refine ax_q (q_loads_ptr rfl rfl rfl rfl (by first | assumption | omega)) ?_
        | refine ax_q (q_loadf_ptr rfl rfl rfl rfl rfl (by first | assumption | omega)) ?_
        | refine ax_q (q_quo rfl rfl (by omega)) ?_
        | refine ax_q (q_rem rfl rfl (by omega)) ?_
        | refine ax_q (q_slice_ro rfl rfl rfl rfl rfl rfl rfl (by omega)) ?_
        | refine ax_q (q_slice_sl rfl rfl rfl rfl rfl rfl rfl rfl (by omega)) ?_
        | refine ax_q (q_eqnilnil rfl rfl rfl) ?_
        | refine ax_q (q_build rfl rfl rfl rfl rfl rfl) ?_
        | refine ax_store rfl rfl rfl rfl rfl rfl rfl (by first | assumption | (show _ < List.length _; first | assumption | omega)) ?_
        | refine ax_buildSliceRo rfl rfl rfl rfl rfl rfl rfl rfl rfl rfl rfl ?_)
      first
        | refine ax_any_q 14 rfl (by kernel_rfl) (by kernel_rfl) (by kernel_rfl) rfl (q_move rfl) rfl ?_
        | refine ax_any_q 14 rfl (by kernel_rfl) (by kernel_rfl) (by kernel_rfl) rfl (q_assign rfl) rfl ?_
        | refine ax_any_q 14 rfl (by kernel_rfl) (by kernel_rfl) (by kernel_rfl) rfl (q_loadi_rp rfl rfl rfl) rfl ?_
        | refine ax_any_q 14 rfl (by kernel_rfl) (by kernel_rfl) (by kernel_rfl) rfl (q_loads_rp rfl rfl rfl) rfl ?_
        | refine ax_any_q 14 rfl (by kernel_rfl) (by kernel_rfl) (by kernel_rfl) rfl (q_loadf_rp rfl rfl rfl rfl) rfl ?_
        | refine ax_any_q 14 rfl (by kernel_rfl) (by kernel_rfl) (by kernel_rfl) rfl (q_loadb_ptr rfl rfl rfl rfl rfl) rfl ?_
        | refine ax_any_q 14 rfl (by kernel_rfl) (by kernel_rfl) (by kernel_rfl) rfl (q_lss rfl rfl) rfl ?_
        | refine ax_any_q 14 rfl (by kernel_rfl) (by kernel_rfl) (by kernel_rfl) rfl (q_eql rfl rfl) rfl ?_
        | refine ax_any_q 14 rfl (by kernel_rfl) (by kernel_rfl) (by kernel_rfl) rfl (q_neq rfl rfl) rfl ?_
        | refine ax_any_q 14 rfl (by kernel_rfl) (by kernel_rfl) (by kernel_rfl) rfl (q_leq rfl rfl) rfl ?_
        | refine ax_any_q 14 rfl (by kernel_rfl) (by kernel_rfl) (by kernel_rfl) rfl (q_gtr rfl rfl) rfl ?_
        | refine ax_any_q 14 rfl (by kernel_rfl) (by kernel_rfl) (by kernel_rfl) rfl (q_geq rfl rfl) rfl ?_
        | refine ax_any_q 14 rfl (by kernel_rfl) (by kernel_rfl) (by kernel_rfl) rfl (q_not rfl) rfl ?_
        | refine ax_any_q 14 rfl (by kernel_rfl) (by kernel_rfl) (by kernel_rfl) rfl (q_pick rfl rfl) rfl ?_
        | refine ax_any_q 14 rfl (by kernel_rfl) (by kernel_rfl) (by kernel_rfl) rfl (q_extract rfl rfl) rfl ?_
        | refine ax_any_q 14 rfl (by kernel_rfl) (by kernel_rfl) (by kernel_rfl) rfl (q_len rfl rfl rfl) rfl ?_
        | refine ax_any_q 14 rfl (by kernel_rfl) (by kernel_rfl) (by kernel_rfl) rfl (q_lenstr rfl rfl) rfl ?_
        | refine ax_any_q 14 rfl (by kernel_rfl) (by kernel_rfl) (by kernel_rfl) rfl (q_add rfl rfl (by omega)) rfl ?_
        | refine ax_any_q 14 rfl (by kernel_rfl) (by kernel_rfl) (by kernel_rfl) rfl (q_sub rfl rfl (by omega)) rfl ?_
        | refine ax_any_q 14 rfl (by kernel_rfl) (by kernel_rfl) (by kernel_rfl) rfl (q_index_ro' rfl rfl rfl rfl (by first | (simp only [Nat.zero_add, Int.toNat_natCast, Int.toNat_zero]; exact rfl) | exact rfl) (by omega)) rfl ?_
        | refine ax_any_q 14 rfl (by kernel_rfl) (by kernel_rfl) (by kernel_rfl) rfl (q_index_sl' rfl rfl rfl rfl rfl (by first | (simp only [Nat.zero_add, Int.toNat_natCast, Int.toNat_zero]; exact rfl) | exact rfl) (by omega)) rfl ?_
        | refine ax_any_q 14 rfl (by kernel_rfl) (by kernel_rfl) (by kernel_rfl) rfl (q_loadi_ptr rfl rfl rfl rfl (by first | assumption | omega)) rfl ?_
        | refine ax_any_q 14 rfl (by kernel_rfl) (by kernel_rfl) (by kernel_rfl) rfl (q_loads_ptr rfl rfl rfl rfl (by first | assumption | omega)) rfl ?_
        | refine ax_any_q 14 rfl (by kernel_rfl) (by kernel_rfl) (by kernel_rfl) rfl (q_loadf_ptr rfl rfl rfl rfl rfl (by first | assumption | omega)) rfl ?_
        | refine ax_any_q 14 rfl (by kernel_rfl) (by kernel_rfl) (by kernel_rfl) rfl (q_quo rfl rfl (by omega)) rfl ?_
        | refine ax_any_q 14 rfl (by kernel_rfl) (by kernel_rfl) (by kernel_rfl) rfl (q_rem rfl rfl (by omega)) rfl ?_
        | refine ax_any_q 14 rfl (by kernel_rfl) (by kernel_rfl) (by kernel_rfl) rfl (q_slice_ro rfl rfl rfl rfl rfl rfl rfl (by omega)) rfl ?_
        | refine ax_any_q 14 rfl (by kernel_rfl) (by kernel_rfl) (by kernel_rfl) rfl (q_slice_sl rfl rfl rfl rfl rfl rfl rfl rfl (by omega)) rfl ?_
        | refine ax_any_q 14 rfl (by kernel_rfl) (by kernel_rfl) (by kernel_rfl) rfl (q_eqnilnil rfl rfl rfl) rfl ?_
        | refine ax_any_q 14 rfl (by kernel_rfl) (by kernel_rfl) (by kernel_rfl) rfl (q_build rfl rfl rfl rfl rfl rfl) rfl ?_
      refine ax_any_step (is := [15]) (by kernel_rfl) (by simp) rfl ⟨fun o ho => ?_, trivial⟩
      all_goals (cases ho)
      repeat (first
        | refine ax_q (q_move rfl) ?_
        | refine ax_q (q_assign rfl) ?_
        | refine ax_q (q_loadi_rp rfl rfl rfl) ?_
        | refine ax_ops_nil ?_
        | refine ax_seq ?_
        | refine ax_region rfl ?_
        | refine ax_guard rfl rfl ?_
        | refine ax_skip_undef rfl rfl ?_
        | refine ax_skip_not rfl rfl rfl ?_
        | refine ax_guard_not rfl rfl rfl ?_
        | refine ax_cond_true rfl ?_
        | refine ax_cond_false rfl ?_
        | refine ax_post_blk ?_
        | refine ax_post_scope ?_
        | refine ax_post_any ?_
        | refine ax_block ?_
        | refine ax_scope ?_
        | refine ax_skip ?_
        | refine ax_label ?_
        | refine ax_exit ?_
        | refine ax_exit_here ?_
        | refine ax_exit_code ?_
        | refine ax_exit_inv ?_
        | refine ax_exit_scope ?_
        | refine ax_exit_on rfl ?_
        | refine ax_return ?_
        | refine ax_ret_code ?_
        | refine ax_ret_blk ?_
        | refine ax_ret_scope ?_
        | refine ax_ret_inv ?_
        | refine ax_q (q_loads_rp rfl rfl rfl) ?_
        | refine ax_q (q_loadf_rp rfl rfl rfl rfl) ?_
        | refine ax_q (q_loadb_ptr rfl rfl rfl rfl rfl) ?_
        | refine ax_q (q_lss rfl rfl) ?_
        | refine ax_q (q_eql rfl rfl) ?_
        | refine ax_q (q_neq rfl rfl) ?_
        | refine ax_q (q_leq rfl rfl) ?_
        | refine ax_q (q_gtr rfl rfl) ?_
        | refine ax_q (q_geq rfl rfl) ?_
        | refine ax_q (q_not rfl) ?_
        | refine ax_q (q_pick rfl rfl) ?_
        | refine ax_q (q_extract rfl rfl) ?_
        | refine ax_q (q_len rfl rfl rfl) ?_
        | refine ax_q (q_lenstr rfl rfl) ?_
        | refine ax_q (q_add rfl rfl (by omega)) ?_
        | refine ax_q (q_sub rfl rfl (by omega)) ?_
        | refine ax_q (q_index_ro' rfl rfl rfl rfl (by first | (simp only [Nat.zero_add, Int.toNat_natCast, Int.toNat_zero]; exact rfl) | exact rfl) (by omega)) ?_
        | refine ax_q (q_index_sl' rfl rfl rfl rfl rfl (by first | (simp only [Nat.zero_add, Int.toNat_natCast, Int.toNat_zero]; exact rfl) | exact rfl) (by omega)) ?_
        | refine ax_q (q_loadi_ptr rfl rfl rfl rfl (by first | assumption | omega)) ?_
        | refine ax_q (q_loads_ptr rfl rfl rfl rfl (by first | assumption | omega)) ?_
        | refine ax_q (q_loadf_ptr rfl rfl rfl rfl rfl (by first | assumption | omega)) ?_
        | refine ax_q (q_quo rfl rfl (by omega)) ?_
        | refine ax_q (q_rem rfl rfl (by omega)) ?_
        | refine ax_q (q_slice_ro rfl rfl rfl rfl rfl rfl rfl (by omega)) ?_
        | refine ax_q (q_slice_sl rfl rfl rfl rfl rfl rfl rfl rfl (by omega)) ?_
        | refine ax_q (q_eqnilnil rfl rfl rfl) ?_
        | refine ax_q (q_build rfl rfl rfl rfl rfl rfl) ?_
        | refine ax_store rfl rfl rfl rfl rfl rfl rfl (by first | assumption | (show _ < List.length _; first | assumption | omega)) ?_
        | refine ax_buildSliceRo rfl rfl rfl rfl rfl rfl rfl rfl rfl rfl rfl ?_)
      refine ax_any_done (by kernel_rfl) ?_
      repeat (first
        | refine ax_q (q_move rfl) ?_
        | refine ax_q (q_assign rfl) ?_
        | refine ax_q (q_loadi_rp rfl rfl rfl) ?_
        | refine ax_ops_nil ?_
        | refine ax_post_code ?_
        | refine ax_seq ?_
        | refine ax_region rfl ?_
        | refine ax_guard rfl rfl ?_
        | refine ax_skip_undef rfl rfl ?_
        | refine ax_skip_not rfl rfl rfl ?_
        | refine ax_guard_not rfl rfl rfl ?_
        | refine ax_cond_true rfl ?_
        | refine ax_cond_false rfl ?_
        | refine ax_post_blk ?_
        | refine ax_post_scope ?_
        | refine ax_post_any ?_
        | refine ax_block ?_
        | refine ax_scope ?_
        | refine ax_skip ?_
        | refine ax_label ?_
        | refine ax_exit ?_
        | refine ax_exit_here ?_
        | refine ax_exit_code ?_
        | refine ax_exit_inv ?_
        | refine ax_exit_scope ?_
        | refine ax_exit_on rfl ?_
        | refine ax_return ?_
        | refine ax_ret_code ?_
        | refine ax_ret_blk ?_
        | refine ax_ret_scope ?_
        | refine ax_ret_inv ?_
        | refine ax_q (q_loads_rp rfl rfl rfl) ?_
        | refine ax_q (q_loadf_rp rfl rfl rfl rfl) ?_
        | refine ax_q (q_loadb_ptr rfl rfl rfl rfl rfl) ?_
        | refine ax_q (q_lss rfl rfl) ?_
        | refine ax_q (q_eql rfl rfl) ?_
        | refine ax_q (q_neq rfl rfl) ?_
        | refine ax_q (q_leq rfl rfl) ?_
        | refine ax_q (q_gtr rfl rfl) ?_
        | refine ax_q (q_geq rfl rfl) ?_
        | refine ax_q (q_not rfl) ?_
        | refine ax_q (q_pick rfl rfl) ?_
        | refine ax_q (q_extract rfl rfl) ?_
        | refine ax_q (q_len rfl rfl rfl) ?_
        | refine ax_q (q_lenstr rfl rfl) ?_
        | refine ax_q (q_add rfl rfl (by omega)) ?_
        | refine ax_q (q_sub rfl rfl (by omega)) ?_
        | refine ax_q (q_index_ro' rfl rfl rfl rfl (by first | (simp only [Nat.zero_add, Int.toNat_natCast, Int.toNat_zero]; exact rfl) | exact rfl) (by omega)) ?_
        | refine ax_q (q_index_sl' rfl rfl rfl rfl rfl (by first | (simp only [Nat.zero_add, Int.toNat_natCast, Int.toNat_zero]; exact rfl) | exact rfl) (by omega)) ?_
        | refine ax_q (q_loadi_ptr rfl rfl rfl rfl (by first | assumption | omega)) ?_
        | refine ax_q (q_loads_ptr rfl rfl rfl rfl (by first | assumption | omega)) ?_
        | refine ax_q (q_loadf_ptr rfl rfl rfl rfl rfl (by first | assumption | omega)) ?_
        | refine ax_q (q_quo rfl rfl (by omega)) ?_
        | refine ax_q (q_rem rfl rfl (by omega)) ?_
        | refine ax_q (q_slice_ro rfl rfl rfl rfl rfl rfl rfl (by omega)) ?_
        | refine ax_q (q_slice_sl rfl rfl rfl rfl rfl rfl rfl rfl (by omega)) ?_
        | refine ax_q (q_eqnilnil rfl rfl rfl) ?_
        | refine ax_q (q_build rfl rfl rfl rfl rfl rfl) ?_
        | refine ax_store rfl rfl rfl rfl rfl rfl rfl (by first | assumption | (show _ < List.length _; first | assumption | omega)) ?_
        | refine ax_buildSliceRo rfl rfl rfl rfl rfl rfl rfl rfl rfl rfl rfl ?_)
      refine ax_post_inv ⟨(i + 1, _), ⟨hs, by simp only; omega⟩, by simp only; omega, ⟨rfl, rfl, by show some (AV.int _ _) = _; rw [show ((n : Int) - 1 - i - 1) = (n : Int) - 1 - ((i + 1 : Nat) : Int) by omega], trivial⟩, rfl⟩
    · repeat (first
        | refine ax_q (q_move rfl) ?_
        | refine ax_q (q_assign rfl) ?_
        | refine ax_q (q_loadi_rp rfl rfl rfl) ?_
        | refine ax_ops_nil ?_
        | refine ax_seq ?_
        | refine ax_region rfl ?_
        | refine ax_guard rfl rfl ?_
        | refine ax_skip_undef rfl rfl ?_
        | refine ax_skip_not rfl rfl rfl ?_
        | refine ax_guard_not rfl rfl rfl ?_
        | refine ax_cond_true rfl ?_
        | refine ax_cond_false rfl ?_
        | refine ax_post_blk ?_
        | refine ax_post_scope ?_
        | refine ax_post_any ?_
        | refine ax_block ?_
        | refine ax_scope ?_
        | refine ax_skip ?_
        | refine ax_label ?_
        | refine ax_exit ?_
        | refine ax_exit_here ?_
        | refine ax_exit_code ?_
        | refine ax_exit_inv ?_
        | refine ax_exit_scope ?_
        | refine ax_exit_on rfl ?_
        | refine ax_return ?_
        | refine ax_ret_code ?_
        | refine ax_ret_blk ?_
        | refine ax_ret_scope ?_
        | refine ax_ret_inv ?_
        | refine ax_q (q_loads_rp rfl rfl rfl) ?_
        | refine ax_q (q_loadf_rp rfl rfl rfl rfl) ?_
        | refine ax_q (q_loadb_ptr rfl rfl rfl rfl rfl) ?_
        | refine ax_q (q_lss rfl rfl) ?_
        | refine ax_q (q_eql rfl rfl) ?_
        | refine ax_q (q_neq rfl rfl) ?_
        | refine ax_q (q_leq rfl rfl) ?_
        | refine ax_q (q_gtr rfl rfl) ?_
        | refine ax_q (q_geq rfl rfl) ?_
        | refine ax_q (q_not rfl) ?_
        | refine ax_q (q_pick rfl rfl) ?_
        | refine ax_q (q_extract rfl rfl) ?_
        | refine ax_q (q_len rfl rfl rfl) ?_
        | refine ax_q (q_lenstr rfl rfl) ?_
        | refine ax_q (q_add rfl rfl (by omega)) ?_
        | refine ax_q (q_sub rfl rfl (by omega)) ?_
        | refine ax_q (q_index_ro' rfl rfl rfl rfl (by first | (simp only [Nat.zero_add, Int.toNat_natCast, Int.toNat_zero]; exact rfl) | exact rfl) (by omega)) ?_
        | refine ax_q (q_index_sl' rfl rfl rfl rfl rfl (by first | (simp only [Nat.zero_add, Int.toNat_natCast, Int.toNat_zero]; exact rfl) | exact rfl) (by omega)) ?_
        | refine ax_q (q_loadi_ptr rfl rfl rfl rfl (by first | assumption | omega)) ?_
        | refine ax_q (q_loads_ptr rfl rfl rfl rfl (by first | assumption | omega)) ?_
        | refine ax_q (q_loadf_ptr rfl rfl rfl rfl rfl (by first | assumption | omega)) ?_
        | refine ax_q (q_quo rfl rfl (by omega)) ?_
        | refine ax_q (q_rem rfl rfl (by omega)) ?_
        | refine ax_q (q_slice_ro rfl rfl rfl rfl rfl rfl rfl (by omega)) ?_
        | refine ax_q (q_slice_sl rfl rfl rfl rfl rfl rfl rfl rfl (by omega)) ?_
        | refine ax_q (q_eqnilnil rfl rfl rfl) ?_
        | refine ax_q (q_build rfl rfl rfl rfl rfl rfl) ?_
        | refine ax_store rfl rfl rfl rfl rfl rfl rfl (by first | assumption | (show _ < List.length _; first | assumption | omega)) ?_
        | refine ax_buildSliceRo rfl rfl rfl rfl rfl rfl rfl rfl rfl rfl rfl ?_)
      refine ax_any_step (is := [7]) (by kernel_rfl) (by simp) rfl ⟨fun o ho => ?_, trivial⟩
      all_goals (cases ho)
      repeat (first
        | refine ax_q (q_move rfl) ?_
        | refine ax_q (q_assign rfl) ?_
        | refine ax_q (q_loadi_rp rfl rfl rfl) ?_
        | refine ax_ops_nil ?_
        | refine ax_seq ?_
        | refine ax_region rfl ?_
        | refine ax_guard rfl rfl ?_
        | refine ax_skip_undef rfl rfl ?_
        | refine ax_skip_not rfl rfl rfl ?_
        | refine ax_guard_not rfl rfl rfl ?_
        | refine ax_cond_true rfl ?_
        | refine ax_cond_false rfl ?_
        | refine ax_post_blk ?_
        | refine ax_post_scope ?_
        | refine ax_post_any ?_
        | refine ax_block ?_
        | refine ax_scope ?_
        | refine ax_skip ?_
        | refine ax_label ?_
        | refine ax_exit ?_
        | refine ax_exit_here ?_
        | refine ax_exit_code ?_
        | refine ax_exit_inv ?_
        | refine ax_exit_scope ?_
        | refine ax_exit_on rfl ?_
        | refine ax_return ?_
        | refine ax_ret_code ?_
        | refine ax_ret_blk ?_
        | refine ax_ret_scope ?_
        | refine ax_ret_inv ?_
        | refine ax_q (q_loads_rp rfl rfl rfl) ?_
        | refine ax_q (q_loadf_rp rfl rfl rfl rfl) ?_
        | refine ax_q (q_loadb_ptr rfl rfl rfl rfl rfl) ?_
        | refine ax_q (q_lss rfl rfl) ?_
        | refine ax_q (q_eql rfl rfl) ?_
        | refine ax_q (q_neq rfl rfl) ?_
        | refine ax_q (q_leq rfl rfl) ?_
        | refine ax_q (q_gtr rfl rfl) ?_
        | refine ax_q (q_geq rfl rfl) ?_
        | refine ax_q (q_not rfl) ?_
        | refine ax_q (q_pick rfl rfl) ?_
        | refine ax_q (q_extract rfl rfl) ?_
        | refine ax_q (q_len rfl rfl rfl) ?_
        | refine ax_q (q_lenstr rfl rfl) ?_
        | refine ax_q (q_add rfl rfl (by omega)) ?_
        | refine ax_q (q_sub rfl rfl (by omega)) ?_
        | refine ax_q (q_index_ro' rfl rfl rfl rfl (by first | (simp only [Nat.zero_add, Int.toNat_natCast, Int.toNat_zero]; exact rfl) | exact rfl) (by omega)) ?_
        | refine ax_q (q_index_sl' rfl rfl rfl rfl rfl (by first | (simp only [Nat.zero_add, Int.toNat_natCast, Int.toNat_zero]; exact rfl) | exact rfl) (by omega)) ?_
        | refine ax_q (q_loadi_ptr rfl rfl rfl rfl (by first | assumption | omega)) ?_
        | refine ax_q (q_loads_ptr rfl rfl rfl rfl (by first | assumption | omega)) ?_
        | refine ax_q (q_loadf_ptr rfl rfl rfl rfl rfl (by first | assumption | omega)) ?_
        | refine ax_q (q_quo rfl rfl (by omega)) ?_
        | refine ax_q (q_rem rfl rfl (by omega)) ?_
        | refine ax_q (q_slice_ro rfl rfl rfl rfl rfl rfl rfl (by omega)) ?_
        | refine ax_q (q_slice_sl rfl rfl rfl rfl rfl rfl rfl rfl (by omega)) ?_
        | refine ax_q (q_eqnilnil rfl rfl rfl) ?_
        | refine ax_q (q_build rfl rfl rfl rfl rfl rfl) ?_
        | refine ax_store rfl rfl rfl rfl rfl rfl rfl (by first | assumption | (show _ < List.length _; first | assumption | omega)) ?_
        | refine ax_buildSliceRo rfl rfl rfl rfl rfl rfl rfl rfl rfl rfl rfl ?_)
      first
        | refine ax_any_q 12 rfl (by kernel_rfl) (by kernel_rfl) (by kernel_rfl) rfl (q_move rfl) rfl ?_
        | refine ax_any_q 12 rfl (by kernel_rfl) (by kernel_rfl) (by kernel_rfl) rfl (q_assign rfl) rfl ?_
        | refine ax_any_q 12 rfl (by kernel_rfl) (by kernel_rfl) (by kernel_rfl) rfl (q_loadi_rp rfl rfl rfl) rfl ?_
        | refine ax_any_q 12 rfl (by kernel_rfl) (by kernel_rfl) (by kernel_rfl) rfl (q_loads_rp rfl rfl rfl) rfl ?_
        | refine ax_any_q 12 rfl (by kernel_rfl) (by kernel_rfl) (by kernel_rfl) rfl (q_loadf_rp rfl rfl rfl rfl) rfl ?_
        | refine ax_any_q 12 rfl (by kernel_rfl) (by kernel_rfl) (by kernel_rfl) rfl (q_loadb_ptr rfl rfl rfl rfl rfl) rfl ?_
        | refine ax_any_q 12 rfl (by kernel_rfl) (by kernel_rfl) (by kernel_rfl) rfl (q_lss rfl rfl) rfl ?_
        | refine ax_any_q 12 rfl (by kernel_rfl) (by kernel_rfl) (by kernel_rfl) rfl (q_eql rfl rfl) rfl ?_
        | refine ax_any_q 12 rfl (by kernel_rfl) (by kernel_rfl) (by kernel_rfl) rfl (q_neq rfl rfl) rfl ?_
        | refine ax_any_q 12 rfl (by kernel_rfl) (by kernel_rfl) (by kernel_rfl) rfl (q_leq rfl rfl) rfl ?_
        | refine ax_any_q 12 rfl (by kernel_rfl) (by kernel_rfl) (by kernel_rfl) rfl (q_gtr rfl rfl) rfl ?_
        | refine ax_any_q 12 rfl (by kernel_rfl) (by kernel_rfl) (by kernel_rfl) rfl (q_geq rfl rfl) rfl ?_
        | refine ax_any_q 12 rfl (by kernel_rfl) (by kernel_rfl) (by kernel_rfl) rfl (q_not rfl) rfl ?_
        | refine ax_any_q 12 rfl (by kernel_rfl) (by kernel_rfl) (by kernel_rfl) rfl (q_pick rfl rfl) rfl ?_
        | refine ax_any_q 12 rfl (by kernel_rfl) (by kernel_rfl) (by kernel_rfl) rfl (q_extract rfl rfl) rfl ?_
        | refine ax_any_q 12 rfl (by kernel_rfl) (by kernel_rfl) (by kernel_rfl) rfl (q_len rfl rfl rfl) rfl ?_
        | refine ax_any_q 12 rfl (by kernel_rfl) (by kernel_rfl) (by kernel_rfl) rfl (q_lenstr rfl rfl) rfl ?_
        | refine ax_any_q 12 rfl (by kernel_rfl) (by kernel_rfl) (by kernel_rfl) rfl (q_add rfl rfl (by omega)) rfl ?_
        | refine ax_any_q 12 rfl (by kernel_rfl) (by kernel_rfl) (by kernel_rfl) rfl (q_sub rfl rfl (by omega)) rfl ?_
        | refine ax_any_q 12 rfl (by kernel_rfl) (by kernel_rfl) (by kernel_rfl) rfl (q_index_ro' rfl rfl rfl rfl (by first | (simp only [Nat.zero_add, Int.toNat_natCast, Int.toNat_zero]; exact rfl) | exact rfl) (by omega)) rfl ?_
        | refine ax_any_q 12 rfl (by kernel_rfl) (by kernel_rfl) (by kernel_rfl) rfl (q_index_sl' rfl rfl rfl rfl rfl (by first | (simp only [Nat.zero_add, Int.toNat_natCast, Int.toNat_zero]; exact rfl) | exact rfl) (by omega)) rfl ?_
        | refine ax_any_q 12 rfl (by kernel_rfl) (by kernel_rfl) (by kernel_rfl) rfl (q_loadi_ptr rfl rfl rfl rfl (by first | assumption | omega)) rfl ?_
        | refine ax_any_q 12 rfl (by kernel_rfl) (by kernel_rfl) (by kernel_rfl) rfl (q_loads_ptr rfl rfl rfl rfl (by first | assumption | omega)) rfl ?_
        | refine ax_any_q 12 rfl (by kernel_rfl) (by kernel_rfl) (by kernel_rfl) rfl (q_loadf_ptr rfl rfl rfl rfl rfl (by first | assumption | omega)) rfl ?_
        | refine ax_any_q 12 rfl (by kernel_rfl) (by kernel_rfl) (by kernel_rfl) rfl (q_quo rfl rfl (by omega)) rfl ?_
        | refine ax_any_q 12 rfl (by kernel_rfl) (by kernel_rfl) (by kernel_rfl) rfl (q_rem rfl rfl (by omega)) rfl ?_
        | refine ax_any_q 12 rfl (by kernel_rfl) (by kernel_rfl) (by kernel_rfl) rfl (q_slice_ro rfl rfl rfl rfl rfl rfl rfl (by omega)) rfl ?_
        | refine ax_any_q 12 rfl (by kernel_rfl) (by kernel_rfl) (by kernel_rfl) rfl (q_slice_sl rfl rfl rfl rfl rfl rfl rfl rfl (by omega)) rfl ?_
        | refine ax_any_q 12 rfl (by kernel_rfl) (by kernel_rfl) (by kernel_rfl) rfl (q_eqnilnil rfl rfl rfl) rfl ?_
        | refine ax_any_q 12 rfl (by kernel_rfl) (by kernel_rfl) (by kernel_rfl) rfl (q_build rfl rfl rfl rfl rfl rfl) rfl ?_
      refine ax_any_step (is := [13]) (by kernel_rfl) (by simp) rfl ⟨fun o ho => ?_, trivial⟩
      all_goals (cases ho)
      repeat (first
        | refine ax_q (q_move rfl) ?_
        | refine ax_q (q_assign rfl) ?_
        | refine ax_q (q_loadi_rp rfl rfl rfl) ?_
        | refine ax_ops_nil ?_
        | refine ax_seq ?_
        | refine ax_region rfl ?_
        | refine ax_guard rfl rfl ?_
        | refine ax_skip_undef rfl rfl ?_
        | refine ax_skip_not rfl rfl rfl ?_
        | refine ax_guard_not rfl rfl rfl ?_
        | refine ax_cond_true rfl ?_
        | refine ax_cond_false rfl ?_
        | refine ax_post_blk ?_
        | refine ax_post_scope ?_
        | refine ax_post_any ?_
        | refine ax_block ?_
        | refine ax_scope ?_
        | refine ax_skip ?_
        | refine ax_label ?_
        | refine ax_exit ?_
        | refine ax_exit_here ?_
        | refine ax_exit_code ?_
        | refine ax_exit_inv ?_
        | refine ax_exit_scope ?_
        | refine ax_exit_on rfl ?_
        | refine ax_return ?_
        | refine ax_ret_code ?_
        | refine ax_ret_blk ?_
        | refine ax_ret_scope ?_
        | refine ax_ret_inv ?_
        | refine ax_q (q_loads_rp rfl rfl rfl) ?_
        | refine ax_q (q_loadf_rp rfl rfl rfl rfl) ?_
        | refine ax_q (q_loadb_ptr rfl rfl rfl rfl rfl) ?_
        | refine ax_q (q_lss rfl rfl) ?_
        | refine ax_q (q_eql rfl rfl) ?_
        | refine ax_q (q_neq rfl rfl) ?_
        | refine ax_q (q_leq rfl rfl) ?_
        | refine ax_q (q_gtr rfl rfl) ?_
        | refine ax_q (q_geq rfl rfl) ?_
        | refine ax_q (q_not rfl) ?_
        | refine ax_q (q_pick rfl rfl) ?_
        | refine ax_q (q_extract rfl rfl) ?_
        | refine ax_q (q_len rfl rfl rfl) ?_
        | refine ax_q (q_lenstr rfl rfl) ?_
        | refine ax_q (q_add rfl rfl (by omega)) ?_
        | refine ax_q (q_sub rfl rfl (by omega)) ?_
        | refine ax_q (q_index_ro' rfl rfl rfl rfl (by first | (simp only [Nat.zero_add, Int.toNat_natCast, Int.toNat_zero]; exact rfl) | exact rfl) (by omega)) ?_
        | refine ax_q (q_index_sl' rfl rfl rfl rfl rfl (by first | (simp only [Nat.zero_add, Int.toNat_natCast, Int.toNat_zero]; exact rfl) | exact rfl) (by omega)) ?_
        | refine ax_q (q_loadi_ptr rfl rfl rfl rfl (by first | assumption | omega)) ?_
        | refine ax_q (q_loads_ptr rfl rfl rfl rfl (by first | assumption | omega)) ?_
        | refine ax_q (q_loadf_ptr rfl rfl rfl rfl rfl (by first | assumption | omega)) ?_
        | refine ax_q (q_quo rfl rfl (by omega)) ?_
        | refine ax_q (q_rem rfl rfl (by omega)) ?_
        | refine ax_q (q_slice_ro rfl rfl rfl rfl rfl rfl rfl (by omega)) ?_
        | refine ax_q (q_slice_sl rfl rfl rfl rfl rfl rfl rfl rfl (by omega)) ?_
        | refine ax_q (q_eqnilnil rfl rfl rfl) ?_
        | refine ax_q (q_build rfl rfl rfl rfl rfl rfl) ?_
        | refine ax_store rfl rfl rfl rfl rfl rfl rfl (by first | assumption | (show _ < List.length _; first | assumption | omega)) ?_
        | refine ax_buildSliceRo rfl rfl rfl rfl rfl rfl rfl rfl rfl rfl rfl ?_)
      first
        | refine ax_any_q 14 rfl (by kernel_rfl) (by kernel_rfl) (by kernel_rfl) rfl (q_move rfl) rfl ?_
        | refine ax_any_q 14 rfl (by kernel_rfl) (by kernel_rfl) (by kernel_rfl) rfl (q_assign rfl) rfl ?_
        | refine ax_any_q 14 rfl (by kernel_rfl) (by kernel_rfl) (by kernel_rfl) rfl (q_loadi_rp rfl rfl rfl) rfl ?_
        | refine ax_any_q 14 rfl (by kernel_rfl) (by kernel_rfl) (by kernel_rfl) rfl (q_loads_rp rfl rfl rfl) rfl ?_
        | refine ax_any_q 14 rfl (by kernel_rfl) (by kernel_rfl) (by kernel_rfl) rfl (q_loadf_rp rfl rfl rfl rfl) rfl ?_
        | refine ax_any_q 14 rfl (by kernel_rfl) (by kernel_rfl) (by kernel_rfl) rfl (q_loadb_ptr rfl rfl rfl rfl rfl) rfl ?_
        | refine ax_any_q 14 rfl (by kernel_rfl) (by kernel_rfl) (by kernel_rfl) rfl (q_lss rfl rfl) rfl ?_
        | refine ax_any_q 14 rfl (by kernel_rfl) (by kernel_rfl) (by kernel_rfl) rfl (q_eql rfl rfl) rfl ?_
        | refine ax_any_q 14 rfl (by kernel_rfl) (by kernel_rfl) (by kernel_rfl) rfl (q_neq rfl rfl) rfl ?_
        | refine ax_any_q 14 rfl (by kernel_rfl) (by kernel_rfl) (by kernel_rfl) rfl (q_leq rfl rfl) rfl ?_
        | refine ax_any_q 14 rfl (by kernel_rfl) (by kernel_rfl) (by kernel_rfl) rfl (q_gtr rfl rfl) rfl ?_
        | refine ax_any_q 14 rfl (by kernel_rfl) (by kernel_rfl) (by kernel_rfl) rfl (q_geq rfl rfl) rfl ?_
        | refine ax_any_q 14 rfl (by kernel_rfl) (by kernel_rfl) (by kernel_rfl) rfl (q_not rfl) rfl ?_
        | refine ax_any_q 14 rfl (by kernel_rfl) (by kernel_rfl) (by kernel_rfl) rfl (q_pick rfl rfl) rfl ?_
        | refine ax_any_q 14 rfl (by kernel_rfl) (by kernel_rfl) (by kernel_rfl) rfl (q_extract rfl rfl) rfl ?_
        | refine ax_any_q 14 rfl (by kernel_rfl) (by kernel_rfl) (by kernel_rfl) rfl (q_len rfl rfl rfl) rfl ?_
        | refine ax_any_q 14 rfl (by kernel_rfl) (by kernel_rfl) (by kernel_rfl) rfl (q_lenstr rfl rfl) rfl ?_
        | refine ax_any_q 14 rfl (by kernel_rfl) (by kernel_rfl) (by kernel_rfl) rfl (q_add rfl rfl (by omega)) rfl ?_
        | refine ax_any_q 14 rfl (by kernel_rfl) (by kernel_rfl) (by kernel_rfl) rfl (q_sub rfl rfl (by omega)) rfl ?_
        | refine ax_any_q 14 rfl (by kernel_rfl) (by kernel_rfl) (by kernel_rfl) rfl (q_index_ro' rfl rfl rfl rfl (by first | (simp only [Nat.zero_add, Int.toNat_natCast, Int.toNat_zero]; exact rfl) | exact rfl) (by omega)) rfl ?_
        | refine ax_any_q 14 rfl (by kernel_rfl) (by kernel_rfl) (by kernel_rfl) rfl (q_index_sl' rfl rfl rfl rfl rfl (by first | (simp only [Nat.zero_add, Int.toNat_natCast, Int.toNat_zero]; exact rfl) | exact rfl) (by omega)) rfl ?_
        | refine ax_any_q 14 rfl (by kernel_rfl) (by kernel_rfl) (by kernel_rfl) rfl (q_loadi_ptr rfl rfl rfl rfl (by first | assumption | omega)) rfl ?_
        | refine ax_any_q 14 rfl (by kernel_rfl) (by kernel_rfl) (by kernel_rfl) rfl (q_loads_ptr rfl rfl rfl rfl (by first | assumption | omega)) rfl ?_
        | refine ax_any_q 14 rfl (by kernel_rfl) (by kernel_rfl) (by kernel_rfl) rfl (q_loadf_ptr rfl rfl rfl rfl rfl (by first | assumption | omega)) rfl ?_
        | refine ax_any_q 14 rfl (by kernel_rfl) (by kernel_rfl) (by kernel_rfl) rfl (q_quo rfl rfl (by omega)) rfl ?_
        | refine ax_any_q 14 rfl (by kernel_rfl) (by kernel_rfl) (by kernel_rfl) rfl (q_rem rfl rfl (by omega)) rfl ?_
        | refine ax_any_q 14 rfl (by kernel_rfl) (by kernel_rfl) (by kernel_rfl) rfl (q_slice_ro rfl rfl rfl rfl rfl rfl rfl (by omega)) rfl ?_
        | refine ax_any_q 14 rfl (by kernel_rfl) (by kernel_rfl) (by kernel_rfl) rfl (q_slice_sl rfl rfl rfl rfl rfl rfl rfl rfl (by omega)) rfl ?_
        | refine ax_any_q 14 rfl (by kernel_rfl) (by kernel_rfl) (by kernel_rfl) rfl (q_eqnilnil rfl rfl rfl) rfl ?_
        | refine ax_any_q 14 rfl (by kernel_rfl) (by kernel_rfl) (by kernel_rfl) rfl (q_build rfl rfl rfl rfl rfl rfl) rfl ?_
      refine ax_any_step (is := [15]) (by kernel_rfl) (by simp) rfl ⟨fun o ho => ?_, trivial⟩
      all_goals (cases ho)
      repeat (first
        | refine ax_q (q_move rfl) ?_
        | refine ax_q (q_assign rfl) ?_
        | refine ax_q (q_loadi_rp rfl rfl rfl) ?_
        | refine ax_ops_nil ?_
        | refine ax_seq ?_
        | refine ax_region rfl ?_
        | refine ax_guard rfl rfl ?_
        | refine ax_skip_undef rfl rfl ?_
        | refine ax_skip_not rfl rfl rfl ?_
        | refine ax_guard_not rfl rfl rfl ?_
        | refine ax_cond_true rfl ?_
        | refine ax_cond_false rfl ?_
        | refine ax_post_blk ?_
        | refine ax_post_scope ?_
        | refine ax_post_any ?_
        | refine ax_block ?_
        | refine ax_scope ?_
        | refine ax_skip ?_
        | refine ax_label ?_
        | refine ax_exit ?_
        | refine ax_exit_here ?_
        | refine ax_exit_code ?_
        | refine ax_exit_inv ?_
        | refine ax_exit_scope ?_
        | refine ax_exit_on rfl ?_
        | refine ax_return ?_
        | refine ax_ret_code ?_
        | refine ax_ret_blk ?_
        | refine ax_ret_scope ?_
        | refine ax_ret_inv ?_
        | refine ax_q (q_loads_rp rfl rfl rfl) ?_
        | refine ax_q (q_loadf_rp rfl rfl rfl rfl) ?_
        | refine ax_q (q_loadb_ptr rfl rfl rfl rfl rfl) ?_
        | refine ax_q (q_lss rfl rfl) ?_
        | refine ax_q (q_eql rfl rfl) ?_
        | refine ax_q (q_neq rfl rfl) ?_
        | refine ax_q (q_leq rfl rfl) ?_
        | refine ax_q (q_gtr rfl rfl) ?_
        | refine ax_q (q_geq rfl rfl) ?_
        | refine ax_q (q_not rfl) ?_
        | refine ax_q (q_pick rfl rfl) ?_
        | refine ax_q (q_extract rfl rfl) ?_
        | refine ax_q (q_len rfl rfl rfl) ?_
        | refine ax_q (q_lenstr rfl rfl) ?_
        | refine ax_q (q_add rfl rfl (by omega)) ?_
        | refine ax_q (q_sub rfl rfl (by omega)) ?_
        | refine ax_q (q_index_ro' rfl rfl rfl rfl (by first | (simp only [Nat.zero_add, Int.toNat_natCast, Int.toNat_zero]; exact rfl) | exact rfl) (by omega)) ?_
        | refine ax_q (q_index_sl' rfl rfl rfl rfl rfl (by first | (simp only [Nat.zero_add, Int.toNat_natCast, Int.toNat_zero]; exact rfl) | exact rfl) (by omega)) ?_
        | refine ax_q (q_loadi_ptr rfl rfl rfl rfl (by first | assumption | omega)) ?_
        | refine ax_q (q_loads_ptr rfl rfl rfl rfl (by first | assumption | omega)) ?_
        | refine ax_q (q_loadf_ptr rfl rfl rfl rfl rfl (by first | assumption | omega)) ?_
        | refine ax_q (q_quo rfl rfl (by omega)) ?_
        | refine ax_q (q_rem rfl rfl (by omega)) ?_
        | refine ax_q (q_slice_ro rfl rfl rfl rfl rfl rfl rfl (by omega)) ?_
        | refine ax_q (q_slice_sl rfl rfl rfl rfl rfl rfl rfl rfl (by omega)) ?_
        | refine ax_q (q_eqnilnil rfl rfl rfl) ?_
        | refine ax_q (q_build rfl rfl rfl rfl rfl rfl) ?_
        | refine ax_store rfl rfl rfl rfl rfl rfl rfl (by first | assumption | (show _ < List.length _; first | assumption | omega)) ?_
        | refine ax_buildSliceRo rfl rfl rfl rfl rfl rfl rfl rfl rfl rfl rfl ?_)
      refine ax_any_done (by kernel_rfl) ?_
      repeat (first
        | refine ax_q (q_move rfl) ?_
        | refine ax_q (q_assign rfl) ?_
        | refine ax_q (q_loadi_rp rfl rfl rfl) ?_
        | refine ax_ops_nil ?_
        | refine ax_post_code ?_
        | refine ax_seq ?_
        | refine ax_region rfl ?_
        | refine ax_guard rfl rfl ?_
        | refine ax_skip_undef rfl rfl ?_
        | refine ax_skip_not rfl rfl rfl ?_
        | refine ax_guard_not rfl rfl rfl ?_
        | refine ax_cond_true rfl ?_
        | refine ax_cond_false rfl ?_
        | refine ax_post_blk ?_
        | refine ax_post_scope ?_
        | refine ax_post_any ?_
        | refine ax_block ?_
        | refine ax_scope ?_
        | refine ax_skip ?_
        | refine ax_label ?_
        | refine ax_exit ?_
        | refine ax_exit_here ?_
        | refine ax_exit_code ?_
        | refine ax_exit_inv ?_
        | refine ax_exit_scope ?_
        | refine ax_exit_on rfl ?_
        | refine ax_return ?_
        | refine ax_ret_code ?_
        | refine ax_ret_blk ?_
        | refine ax_ret_scope ?_
        | refine ax_ret_inv ?_
        | refine ax_q (q_loads_rp rfl rfl rfl) ?_
        | refine ax_q (q_loadf_rp rfl rfl rfl rfl) ?_
        | refine ax_q (q_loadb_ptr rfl rfl rfl rfl rfl) ?_
        | refine ax_q (q_lss rfl rfl) ?_
        | refine ax_q (q_eql rfl rfl) ?_
        | refine ax_q (q_neq rfl rfl) ?_
        | refine ax_q (q_leq rfl rfl) ?_
        | refine ax_q (q_gtr rfl rfl) ?_
        | refine ax_q (q_geq rfl rfl) ?_
        | refine ax_q (q_not rfl) ?_
        | refine ax_q (q_pick rfl rfl) ?_
        | refine ax_q (q_extract rfl rfl) ?_
        | refine ax_q (q_len rfl rfl rfl) ?_
        | refine ax_q (q_lenstr rfl rfl) ?_
        | refine ax_q (q_add rfl rfl (by omega)) ?_
        | refine ax_q (q_sub rfl rfl (by omega)) ?_
        | refine ax_q (q_index_ro' rfl rfl rfl rfl (by first | (simp only [Nat.zero_add, Int.toNat_natCast, Int.toNat_zero]; exact rfl) | exact rfl) (by omega)) ?_
        | refine ax_q (q_index_sl' rfl rfl rfl rfl rfl (by first | (simp only [Nat.zero_add, Int.toNat_natCast, Int.toNat_zero]; exact rfl) | exact rfl) (by omega)) ?_
        | refine ax_q (q_loadi_ptr rfl rfl rfl rfl (by first | assumption | omega)) ?_
        | refine ax_q (q_loads_ptr rfl rfl rfl rfl (by first | assumption | omega)) ?_
        | refine ax_q (q_loadf_ptr rfl rfl rfl rfl rfl (by first | assumption | omega)) ?_
        | refine ax_q (q_quo rfl rfl (by omega)) ?_
        | refine ax_q (q_rem rfl rfl (by omega)) ?_
        | refine ax_q (q_slice_ro rfl rfl rfl rfl rfl rfl rfl (by omega)) ?_
        | refine ax_q (q_slice_sl rfl rfl rfl rfl rfl rfl rfl rfl (by omega)) ?_
        | refine ax_q (q_eqnilnil rfl rfl rfl) ?_
        | refine ax_q (q_build rfl rfl rfl rfl rfl rfl) ?_
        | refine ax_store rfl rfl rfl rfl rfl rfl rfl (by first | assumption | (show _ < List.length _; first | assumption | omega)) ?_
        | refine ax_buildSliceRo rfl rfl rfl rfl rfl rfl rfl rfl rfl rfl rfl ?_)
      refine ax_post_inv ⟨(i + 1, _), ⟨hs, by simp only; omega⟩, by simp only; omega, ⟨rfl, rfl, by show some (AV.int _ _) = _; rw [show ((n : Int) - 1 - i - 1) = (n : Int) - 1 - ((i + 1 : Nat) : Int) by omega], trivial⟩, rfl⟩
  · repeat (first
      | refine ax_q (q_move rfl) ?_
      | refine ax_q (q_assign rfl) ?_
      | refine ax_q (q_loadi_rp rfl rfl rfl) ?_
      | refine ax_ops_nil ?_
      | refine ax_post_code ?_
      | refine ax_seq ?_
      | refine ax_region rfl ?_
      | refine ax_guard rfl rfl ?_
      | refine ax_skip_undef rfl rfl ?_
      | refine ax_skip_not rfl rfl rfl ?_
      | refine ax_guard_not rfl rfl rfl ?_
      | refine ax_cond_true rfl ?_
      | refine ax_cond_false rfl ?_
      | refine ax_post_blk ?_
      | refine ax_post_scope ?_
      | refine ax_post_any ?_
      | refine ax_block ?_
      | refine ax_scope ?_
      | refine ax_skip ?_
      | refine ax_label ?_
      | refine ax_exit ?_
      | refine ax_exit_here ?_
      | refine ax_exit_code ?_
      | refine ax_exit_inv ?_
      | refine ax_exit_scope ?_
      | refine ax_exit_on rfl ?_
      | refine ax_return ?_
      | refine ax_ret_code ?_
      | refine ax_ret_blk ?_
      | refine ax_ret_scope ?_
      | refine ax_ret_inv ?_
      | refine ax_q (q_loads_rp rfl rfl rfl) ?_
      | refine ax_q (q_loadf_rp rfl rfl rfl rfl) ?_
      | refine ax_q (q_loadb_ptr rfl rfl rfl rfl rfl) ?_
      | refine ax_q (q_lss rfl rfl) ?_
      | refine ax_q (q_eql rfl rfl) ?_
      | refine ax_q (q_neq rfl rfl) ?_
      | refine ax_q (q_leq rfl rfl) ?_
      | refine ax_q (q_gtr rfl rfl) ?_
      | refine ax_q (q_geq rfl rfl) ?_
      | refine ax_q (q_not rfl) ?_
      | refine ax_q (q_pick rfl rfl) ?_
      | refine ax_q (q_extract rfl rfl) ?_
      | refine ax_q (q_len rfl rfl rfl) ?_
      | refine ax_q (q_lenstr rfl rfl) ?_
      | refine ax_q (q_add rfl rfl (by omega)) ?_
      | refine ax_q (q_sub rfl rfl (by omega)) ?_
      | refine ax_q (q_index_ro' rfl rfl rfl rfl (by first | (simp only [Nat.zero_add, Int.toNat_natCast, Int.toNat_zero]; exact rfl) | exact rfl) (by omega)) ?_
      | refine ax_q (q_index_sl' rfl rfl rfl rfl rfl (by first | (simp only [Nat.zero_add, Int.toNat_natCast, Int.toNat_zero]; exact rfl) | exact rfl) (by omega)) ?_
      | refine ax_q (q_loadi_ptr rfl rfl rfl rfl (by first | assumption | omega)) ?_
      | refine ax_q (q_loads_ptr rfl rfl rfl rfl (by first | assumption | omega)) ?_
      | refine ax_q (q_loadf_ptr rfl rfl rfl rfl rfl (by first | assumption | omega)) ?_
      | refine ax_q (q_quo rfl rfl (by omega)) ?_
      | refine ax_q (q_rem rfl rfl (by omega)) ?_
      | refine ax_q (q_slice_ro rfl rfl rfl rfl rfl rfl rfl (by omega)) ?_
      | refine ax_q (q_slice_sl rfl rfl rfl rfl rfl rfl rfl rfl (by omega)) ?_
      | refine ax_q (q_eqnilnil rfl rfl rfl) ?_
      | refine ax_q (q_build rfl rfl rfl rfl rfl rfl) ?_
      | refine ax_store rfl rfl rfl rfl rfl rfl rfl (by first | assumption | (show _ < List.length _; first | assumption | omega)) ?_
      | refine ax_buildSliceRo rfl rfl rfl rfl rfl rfl rfl rfl rfl rfl rfl ?_)
    have hd := hi.done hn (by omega) hi2 hn0
    exact ax_end hR rfl ⟨m, rfl, hd⟩
end Go.Proofs.Ytegaegmkajnibaa
