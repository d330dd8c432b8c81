import Derived.Shelf.Strconv.Itoa3
import Derived.Shelf.Pu.ParseUintPublic10
import Derived.Shelf.Bits.Mul64
import Derived.Shelf.Strings.OnBuilder
import Derived.Test.YtbeegiiiochblaaGreatDoorProg
import Derived.Lib.ParseIntB
import Derived.Lib.Join
import Derived.Test.YtbeegiiiochblaaGreatDoorG2
set_option linter.unusedVariables false
set_option linter.unusedSimpArgs false
namespace Go.Proofs.YtbeegiiiochblaaGreatDoor
open Go.Ax Go.Ax.Bg Go.RowKit
attribute [local irreducible] Ax Post QOp ACall
set_option maxRecDepth 100000
set_option maxHeartbeats 4000000

theorem sub_ok (a b : Nat) (hab : b ≤ a) (ha : (natL a).length ≤ 100000000) : VCall Tryz.prog 45 [natA a, natA b] (natA (a - b)) := by
  refine ACall.value0 (acall_of_ax (P := Tryz.prog) (fn := Tryz.f45) rfl rfl (by kernel_rfl) rfl (fun c hR hfix => ?_)) (fix := fun _ => False) (fun _ h => h) rfl rfl
  have hx := natL_lim a
  have hy := natL_lim b
  have hlen : (natL b).length ≤ (natL a).length := natL_len_le (by have := valL_lt hx; rw [valL_natL] at this; omega)
  have hva : valL (natL a) = a := valL_natL a
  have hvb : valL (natL b) = b := valL_natL b
  have haB : a < B ^ (natL a).length := by have := valL_lt hx; rwa [valL_natL] at this
  unfold natA
  generalize natL a = x at *
  generalize natL b = y at *
  repeat (first
    | refine ax_q (q_move rfl) ?_
    | refine ax_q (q_assign rfl) ?_
    | refine ax_ops_nil ?_
    | refine ax_post_code ?_
    | refine ax_seq ?_
    | refine ax_region rfl ?_
    | refine ax_q (q_len rfl rfl rfl) ?_)
  refine ax_make rfl rfl rfl rfl rfl rfl rfl rfl (by show (0 : Int) ≤ 0 ∧ _ ≤ _ ∧ (4 : Int) * _ ≤ _ ∧ _; omega) ?_
  repeat (first
    | refine ax_q (q_move rfl) ?_
    | refine ax_q (q_assign rfl) ?_
    | refine ax_ops_nil ?_
    | refine ax_post_code ?_
    | refine ax_seq ?_
    | refine ax_region rfl ?_
    | refine ax_block ?_
    | refine ax_q (q_len rfl rfl rfl) ?_)
  refine ax_trunc 0 (.ints .u32 []) rfl ⟨Nat.zero_le _, rfl, fun i j hi _ => absurd hi (Nat.not_lt_zero _)⟩ ?_
  refine ax_loop (ι := Nat × List Int × Nat) (fun p => [(1, .ro (.ints .u32 y) 0 y.length), (5, .sl 0 0 p.1), (6, .int .i64 (p.2.2 : Nat)), (13, .ro (.ints .u32 x) 0 x.length), (14, .int .i64 (x.length : Nat)), (15, .int .i64 (p.1 : Nat))]) (fun p => [some ⟨95, .ints .u32 p.2.1⟩])
    (fun p => p.1 ≤ x.length ∧ p.2.1.length = p.1 ∧ Lim p.2.1 ∧ p.2.2 ≤ 1 ∧ valL p.2.1 + valL (y.take p.1) = valL (x.take p.1) + B ^ p.1 * p.2.2) (fun p => x.length - p.1) (0, [], 0) ⟨⟨rfl, rfl, rfl, rfl, rfl, rfl, trivial⟩, rfl, Nat.zero_le _, rfl, Lim.nil, by decide, by simp [valL]⟩ ?_
  rintro ⟨i, out, br⟩ ⟨h1, h2, h3, h4, h5⟩
  simp only at *
  repeat (first
    | refine ax_ops_nil ?_
    | refine ax_post_code ?_
    | refine ax_seq ?_
    | refine ax_region rfl ?_
    | refine ax_q (q_lss rfl rfl) ?_)
  refine ax_cond_dec rfl (fun h6 => ?_) (fun h6 => ?_)
  · have hil : i < x.length := by omega
    obtain ⟨d, hd, hdB⟩ := hx.nat i
    obtain ⟨e, he, heB⟩ := hy.nat i
    repeat (first
      | refine ax_q (q_move rfl) ?_
      | refine ax_q (q_assign rfl) ?_
      | refine ax_q (q_loadi_rp rfl rfl rfl) ?_
      | refine ax_ops_nil ?_
      | refine ax_post_code ?_
      | refine ax_seq ?_
      | refine ax_region rfl ?_
      | refine ax_block ?_
      | refine ax_skip ?_
      | refine ax_q (q_index_ro' rfl rfl rfl rfl (by first | (simp only [Nat.zero_add, Int.toNat_natCast, Int.toNat_zero]; exact rfl) | exact rfl) (by omega)) ?_)
    refine ax_slot_ops 20 (.int .u32 (d : Nat)) rfl (AEq.of_eq (by rw [hd])) ?_
    refine ax_q (q_conv64 (m := d) rfl rfl rfl (by omega)) ?_
    repeat (first
      | refine ax_q (q_move rfl) ?_
      | refine ax_q (q_assign rfl) ?_
      | refine ax_ops_nil ?_
      | refine ax_post_code ?_
      | refine ax_seq ?_
      | refine ax_region rfl ?_
      | refine ax_q (q_lss rfl rfl) ?_
      | refine ax_q (q_len rfl rfl rfl) ?_
      | refine ax_q (q_sub rfl rfl (by omega)) ?_)
    apply ax_tail_code (H := [some ⟨95, .ints .u32 out⟩]) [(1, .ro (.ints .u32 y) 0 y.length), (5, .sl 0 0 i), (9, .int .i64 ((d : Int) - (br : Int) - (e : Int))), (13, .ro (.ints .u32 x) 0 x.length), (14, .int .i64 (x.length : Nat)), (15, .int .i64 (i : Nat))]
    · intro fin
      refine ax_cond_dec rfl (fun h7 => ?_) (fun h7 => ?_)
      · repeat (first
          | refine ax_q (q_move rfl) ?_
          | refine ax_q (q_loadi_rp rfl rfl rfl) ?_
          | refine ax_region rfl ?_
          | refine ax_q (q_index_ro' rfl rfl rfl rfl (by first | (simp only [Nat.zero_add, Int.toNat_natCast, Int.toNat_zero]; exact rfl) | exact rfl) (by omega)) ?_)
        refine ax_slot_ops 32 (.int .u32 (e : Nat)) rfl (AEq.of_eq (by rw [he])) ?_
        refine ax_q (q_conv64 (m := e) rfl rfl rfl (by omega)) ?_
        repeat (first
          | refine ax_q (q_assign rfl) ?_
          | refine ax_ops_nil ?_
          | refine ax_post_code ?_
          | refine ax_q (q_sub rfl rfl (by omega)) ?_)
        exact fin _ ⟨rfl, rfl, rfl, rfl, rfl, rfl, trivial⟩
      · have he0 : e = 0 := by
          have : y.getD i 0 = 0 := by simp [List.getD, List.getElem?_eq_none (show y.length ≤ i by omega)]
          omega
        subst he0
        repeat (first
          | refine ax_post_code ?_
          | refine ax_skip ?_)
        exact fin _ ⟨rfl, rfl, by show some (AV.int .i64 ((d : Int) - (br : Int))) = _; simp, rfl, rfl, rfl, trivial⟩
    obtain ⟨yv, br', hyv, hbr, hyB⟩ : ∃ yv br' : Nat, yv + br + e = d + 4294967296 * br' ∧ br' ≤ 1 ∧ yv < 4294967296 := by
      rcases Nat.lt_or_ge d (br + e) with q | q
      · exact ⟨d + 4294967296 - br - e, 1, by omega, by omega, by omega⟩
      · exact ⟨d - br - e, 0, by omega, by omega, by omega⟩
    repeat (first
      | refine ax_q (q_move rfl) ?_
      | refine ax_q (q_assign rfl) ?_
      | refine ax_ops_nil ?_
      | refine ax_post_code ?_
      | refine ax_seq ?_
      | refine ax_region rfl ?_
      | refine ax_q (q_lss rfl rfl) ?_)
    apply ax_tail_code (H := [some ⟨95, .ints .u32 out⟩]) [(1, .ro (.ints .u32 y) 0 y.length), (5, .sl 0 0 i), (6, .int .i64 (br' : Nat)), (9, .int .i64 (yv : Nat)), (13, .ro (.ints .u32 x) 0 x.length), (14, .int .i64 (x.length : Nat)), (15, .int .i64 (i : Nat))]
    · intro fin
      refine ax_cond_dec rfl (fun h7 => ?_) (fun h7 => ?_)
      · have : br' = 1 := by omega
        skip
        refine ax_region rfl ?_
        repeat (first
          | refine ax_q (q_move rfl) ?_
          | refine ax_q (q_assign rfl) ?_
          | refine ax_ops_nil ?_
          | refine ax_post_code ?_
          | refine ax_q (q_add rfl rfl (by omega)) ?_)
        subst this
        exact fin _ ⟨rfl, rfl, rfl, by show some (AV.int .i64 ((d : Int) - (br : Int) - (e : Int) + 4294967296)) = _; congr 2; omega, rfl, rfl, rfl, trivial⟩
      · have : br' = 0 := by omega
        subst this
        repeat (first
          | refine ax_post_code ?_
          | refine ax_skip ?_)
        exact fin _ ⟨rfl, rfl, rfl, by show some (AV.int .i64 ((d : Int) - (br : Int) - (e : Int))) = _; congr 2; omega, rfl, rfl, rfl, trivial⟩
    repeat (first
      | refine ax_q (q_move rfl) ?_
      | refine ax_region rfl ?_)
    refine ax_q (q_uconv (m := yv) rfl rfl rfl uk32 hyB) ?_
    repeat (refine ax_buildSliceRo rfl rfl rfl rfl rfl rfl rfl rfl rfl rfl rfl ?_)
    refine ax_append rfl rfl rfl rfl rfl rfl rfl rfl rfl h2 rfl rfl (Nat.le_refl 1) rfl (by show (i + 1) * 4 ≤ _ ∧ _; omega) (fun i j _ _ => rfl) (by rw [hfix]; exact fun h => h) ?_
    repeat (first
      | refine ax_q (q_move rfl) ?_
      | refine ax_q (q_assign rfl) ?_
      | refine ax_ops_nil ?_
      | refine ax_post_code ?_
      | refine ax_region rfl ?_
      | refine ax_post_blk ?_
      | refine ax_q (q_add rfl rfl (by omega)) ?_)
    exact ax_post_inv ⟨(i + 1, out ++ [(yv : Int)], br'), ⟨by simp only; omega, by simp [h2], Lim.append.2 ⟨h3, Lim.one (by omega)⟩, hbr, sub1_step h2 h5 hd he hyv⟩, by simp only; omega, ⟨rfl, rfl, rfl, rfl, rfl, rfl, trivial⟩, rfl⟩
  · have hie : i = x.length := by omega
    subst hie
    rw [List.take_length, List.take_of_length_le hlen, hva, hvb] at h5
    have hc := norm_ok _ h3 (by omega)
    have hv : valL out = a - b := by
      have hob := valL_lt h3
      rw [h2] at hob
      have : br = 0 ∨ br = 1 := by omega
      rcases this with rfl | rfl
      · rw [Nat.mul_zero] at h5; omega
      · rw [Nat.mul_one] at h5; omega
    rw [hv] at hc
    repeat (first
      | refine ax_q (q_move rfl) ?_
      | refine ax_post_code ?_
      | refine ax_seq ?_
      | refine ax_region rfl ?_
      | refine ax_exit ?_
      | refine ax_exit_here ?_
      | refine ax_exit_code ?_
      | refine ax_exit_inv ?_)
    refine ax_give 0 45 x.length [] rfl refless_ints rfl (by show _ ≤ out.length; omega) trivial ?_
    refine ax_callv rfl rfl (give_call h2) hc ?_
    repeat (first
      | refine ax_q (q_assign rfl) ?_
      | refine ax_ops_nil ?_
      | refine ax_post_code ?_
      | refine ax_return ?_)
    exact ax_ret hR rfl rfl

theorem divSmall_ok (n : List Int) (x : Nat) (hn : Lim n) (hlen : n.length ≤ 100000000) (hx : 0 < x ∧ x < 4294967296) :
    VCall Tryz.prog 78 [limA n, .int .u32 (x : Nat)] (.tup [natA (valL n / x), .int .u32 (valL n % x : Nat)]) := by
  refine ACall.value0 (acall_of_ax (P := Tryz.prog) (fn := Tryz.f78) rfl rfl (by kernel_rfl) rfl (fun c hR hfix => ?_)) (fix := fun _ => False) (fun _ h => h) rfl rfl
  unfold limA
  repeat (first
    | refine ax_q (q_move rfl) ?_
    | refine ax_q (q_assign rfl) ?_
    | refine ax_ops_nil ?_
    | refine ax_post_code ?_
    | refine ax_seq ?_
    | refine ax_region rfl ?_
    | refine ax_q (q_len rfl rfl rfl) ?_)
  refine ax_make rfl rfl rfl rfl rfl rfl rfl rfl (by show (0 : Int) ≤ _ ∧ _ ≤ _ ∧ (4 : Int) * _ ≤ _ ∧ _; omega) ?_
  repeat (first
    | refine ax_q (q_move rfl) ?_
    | refine ax_q (q_assign rfl) ?_
    | refine ax_ops_nil ?_
    | refine ax_post_code ?_
    | refine ax_seq ?_
    | refine ax_region rfl ?_
    | refine ax_block ?_
    | refine ax_q (q_len rfl rfl rfl) ?_
    | refine ax_q (q_sub rfl rfl (by omega)) ?_)
  refine ax_loop (ι := Nat × List Int × Nat) (fun p => [(0, .ro (.ints .u32 n) 0 n.length), (1, .int .u32 (x : Nat)), (6, .sl 0 0 n.length), (7, .int .u64 (p.2.2 : Nat)), (8, .int .i64 ((p.1 : Int) - 1))]) (fun p => [some ⟨95, .ints .u32 p.2.1⟩])
    (fun p => p.1 ≤ n.length ∧ p.2.1.length = n.length ∧ Lim p.2.1 ∧ p.2.2 < x ∧ valL (n.drop p.1) = x * valL (p.2.1.drop p.1) + p.2.2) (fun p => p.1) (n.length, List.replicate n.length 0, 0) ⟨⟨rfl, rfl, rfl, rfl, rfl, trivial⟩, rfl, Nat.le_refl _, by simp, Lim.zeros _, hx.1, by simp [valL]⟩ ?_
  rintro ⟨i, out, rs⟩ ⟨h1, h2, h3, h4, h5⟩
  simp only at *
  repeat (first
    | refine ax_q (q_move rfl) ?_
    | refine ax_ops_nil ?_
    | refine ax_post_code ?_
    | refine ax_seq ?_
    | refine ax_region rfl ?_
    | refine ax_q (q_geq rfl rfl) ?_)
  refine ax_cond_dec rfl (fun h6 => ?_) (fun h6 => ?_)
  · obtain ⟨j, rfl⟩ : ∃ j, i = j + 1 := ⟨i - 1, by omega⟩
    obtain ⟨d, hd, hdB⟩ := hn.nat j
    have ej : (((j + 1 : Nat) : Int) - 1) = (j : Nat) := by omega
    have ejt : (((j + 1 : Nat) : Int) - 1).toNat = j := by omega
    have htop : rs * 4294967296 + d < x * 4294967296 := by
      have : (rs + 1) * 4294967296 ≤ x * 4294967296 := Nat.mul_le_mul_right _ h4
      omega
    have hq : (rs * 4294967296 + d) / x < 4294967296 := Nat.div_lt_of_lt_mul htop
    have hm : (rs * 4294967296 + d) % x < x := Nat.mod_lt _ hx.1
    have hdm := Nat.div_add_mod (rs * 4294967296 + d) x
    generalize hqe : (rs * 4294967296 + d) / x = q at *
    generalize hme : (rs * 4294967296 + d) % x = r at *
    repeat (first
      | refine ax_q (q_move rfl) ?_
      | refine ax_post_code ?_
      | refine ax_seq ?_
      | refine ax_region rfl ?_
      | refine ax_block ?_
      | refine ax_skip ?_)
    refine ax_q (q_ushl (m := rs) (s := 32) rfl rfl (by decide) uk64 (shl_lt (by omega))) ?_
    repeat (first
      | refine ax_q (q_move rfl) ?_
      | refine ax_q (q_loadi_rp rfl rfl rfl) ?_
      | refine ax_q (q_index_ro' rfl rfl rfl rfl (by first | (simp only [Nat.zero_add, Int.toNat_natCast, Int.toNat_zero]; exact rfl) | exact rfl) (by omega)) ?_)
    refine ax_slot_ops 24 (.int .u32 (d : Nat)) rfl (AEq.of_eq (by rw [ejt, hd])) ?_
    refine ax_q (q_uconv (m := d) rfl rfl rfl uk64 (by omega)) ?_
    refine ax_q (QOp.res (q_uor rfl rfl uk64 rfl (shl_lt (by omega)) (by omega)) (by rw [or_shl hdB])) ?_
    repeat (first
      | refine ax_q (q_move rfl) ?_
      | refine ax_q (q_assign rfl) ?_
      | refine ax_ops_nil ?_
      | refine ax_post_code ?_
      | refine ax_seq ?_
      | refine ax_region rfl ?_)
    refine ax_q (q_uconv (m := x) rfl rfl rfl uk64 (by omega)) ?_
    refine ax_q (QOp.res (q_uquo rfl rfl uk64 (by omega) hx.1) (by rw [hqe])) ?_
    refine ax_q (q_uconv (m := q) rfl rfl rfl uk32 hq) ?_
    refine ax_slot_ops 28 (.int .i64 (j : Nat)) rfl (AEq.of_eq (by rw [ej])) ?_
    repeat (first
      | refine ax_q (q_move rfl) ?_
      | refine ax_ops_nil ?_
      | refine ax_post_code ?_
      | refine ax_region rfl ?_
      | refine ax_q (q_index_sl' rfl rfl rfl rfl rfl (by first | (simp only [Nat.zero_add, Int.toNat_natCast, Int.toNat_zero]; exact rfl) | exact rfl) (by omega)) ?_
      | refine ax_store rfl rfl rfl rfl rfl rfl rfl (by first | assumption | (show _ < List.length _; first | assumption | omega)) ?_)
    refine ax_q (q_uconv (m := x) rfl rfl rfl uk64 (by omega)) ?_
    refine ax_q (QOp.res (q_urem rfl rfl hx.1) (by rw [hme])) ?_
    repeat (first
      | refine ax_q (q_move rfl) ?_
      | refine ax_q (q_assign rfl) ?_
      | refine ax_ops_nil ?_
      | refine ax_post_code ?_
      | refine ax_region rfl ?_
      | refine ax_post_blk ?_
      | refine ax_q (q_sub rfl rfl (by omega)) ?_)
    refine ax_post_inv ⟨(j, out.set j (q : Int), r), ⟨by simp only; omega, by simp [h2], h3.set (by omega), hm, ?_⟩, by simp only; omega, ⟨rfl, rfl, rfl, rfl, ?_, trivial⟩, rfl⟩
    rotate_left
    · show some (AV.int .i64 _) = _
      congr 2
      omega
    simp only
    rw [drop_set_one (by omega), valL_drop_succ, hd, Int.toNat_natCast, h5]
    simp only [valL, Int.toNat_natCast]
    have e1 : x * (q + B * valL (out.drop (j + 1))) = x * q + B * (x * valL (out.drop (j + 1))) := by rw [Nat.mul_add, Nat.mul_left_comm]
    rw [e1, Nat.mul_add]
    generalize x * valL (out.drop (j + 1)) = w at *
    generalize x * q = w2 at *
    show d + (4294967296 * w + 4294967296 * rs) = w2 + 4294967296 * w + r
    omega
  · have hie : i = 0 := by omega
    subst hie
    rw [List.drop_zero, List.drop_zero] at h5
    have hv : valL out = valL n / x ∧ rs = valL n % x := by
      rw [h5, Nat.mul_comm]
      constructor
      · rw [Nat.add_comm, Nat.add_mul_div_right _ _ hx.1, Nat.div_eq_of_lt h4, Nat.zero_add]
      · rw [Nat.add_comm, Nat.add_mul_mod_self_right, Nat.mod_eq_of_lt h4]
    have hc := norm_ok _ h3 (by omega)
    rw [hv.1] at hc
    obtain ⟨_, hv2⟩ := hv
    repeat (first
      | refine ax_q (q_move rfl) ?_
      | refine ax_post_code ?_
      | refine ax_seq ?_
      | refine ax_region rfl ?_
      | refine ax_exit ?_
      | refine ax_exit_here ?_
      | refine ax_exit_code ?_
      | refine ax_exit_inv ?_)
    refine ax_give 0 39 n.length [(7, .int .u64 (rs : Nat))] rfl refless_ints rfl (by show _ ≤ out.length; omega) ⟨rfl, trivial⟩ ?_
    refine ax_callv rfl rfl (give_call h2) hc ?_
    repeat (refine ax_q (q_move rfl) ?_)
    refine ax_q (q_uconv (m := rs) rfl rfl rfl uk32 (by omega)) ?_
    repeat (first
      | refine ax_q (q_assign rfl) ?_
      | refine ax_ops_nil ?_
      | refine ax_post_code ?_
      | refine ax_return ?_)
    refine ax_ret hR rfl ?_
    rw [hv2]; rfl
end Go.Proofs.YtbeegiiiochblaaGreatDoor

/-
  Limbs of a given number, and one digit of a quotient: the plain facts for the walk. No program in sight.
-/
namespace Go.Ax.Bg

/-- So many limbs of a number. -/
def fixL : Nat → Nat → List Int
  | 0, _ => []
  | k + 1, v => ((v % 4294967296 : Nat) : Int) :: fixL k (v / 4294967296)
theorem fixL_len : ∀ (k v : Nat), (fixL k v).length = k
  | 0, _ => rfl
  | k + 1, v => by rw [fixL, List.length_cons, fixL_len]
theorem fixL_lim : ∀ (k v : Nat), Lim (fixL k v)
  | 0, _ => Lim.nil
  | k + 1, v => by rw [fixL, Lim.cons]; exact ⟨mod_lim v, fixL_lim k _⟩
theorem fixL_val : ∀ (k v : Nat), v < B ^ k → valL (fixL k v) = v
  | 0, v, h => by simp at h; subst h; rfl
  | k + 1, v, h => by
    rw [fixL, valL, Int.toNat_natCast, fixL_val k]
    · unfold B; omega
    · rw [Nat.pow_succ, Nat.mul_comm] at h
      exact Nat.div_lt_of_lt_mul h
theorem fixL_of : ∀ {l : List Int} {k v : Nat}, Lim l → l.length = k → valL l = v → l = fixL k v
  | [], k, v, _, hk, _ => by simp at hk; subst hk; rfl
  | x :: r, k, v, h, hk, hv => by
    rw [Lim.cons] at h
    obtain ⟨m, rfl⟩ : ∃ m, k = m + 1 := ⟨r.length, by simpa using hk.symm⟩
    rw [valL] at hv
    subst hv
    have hx : x.toNat < 4294967296 := by omega
    rw [fixL, Nat.add_mul_mod_self_left, Nat.mod_eq_of_lt hx, Nat.add_mul_div_left _ _ (by decide), Nat.div_eq_of_lt hx, Nat.zero_add]
    rw [← fixL_of h.2 (by simpa using hk) rfl]
    congr 1
    omega
theorem getD_mid {A U C : List Int} {j i : Nat} (hj : A.length = j) (h : i < U.length) : (A ++ (U ++ C)).getD (j + i) 0 = U.getD i 0 := by
  subst hj
  simp only [List.getD]
  rw [List.getElem?_append_right (by omega), Nat.add_sub_cancel_left, List.getElem?_append_left h]
theorem set_mid {A U C : List Int} {j i : Nat} {x : Int} (hj : A.length = j) (h : i < U.length) : (A ++ (U ++ C)).set (j + i) x = A ++ (U.set i x ++ C) := by
  subst hj
  rw [List.set_append_right _ _ (by omega), Nat.add_sub_cancel_left, List.set_append_left _ _ h]
theorem take_set_succ {l : List Int} {i : Nat} {x : Int} (h : i < l.length) : (l.set i x).take (i + 1) = l.take i ++ [x] := by
  have h2 : i < (l.set i x).length := by simpa using h
  rw [take_succ_getD (l.set i x) 0 i h2]
  congr 1
  · rw [List.take_set_of_le (Nat.le_refl _)]
  · simp [List.getD, h]
/-- The three limbs on top. -/
theorem top3 {U : List Int} {s u0 u1 u2 : Nat} (hs : 2 ≤ s) (hl : U.length = s + 1) (h : Lim U) (h0 : U.getD s 0 = (u0 : Int)) (h1 : U.getD (s - 1) 0 = (u1 : Int)) (h2 : U.getD (s - 2) 0 = (u2 : Int)) :
    ∃ low, low < B ^ (s - 2) ∧ valL U = low + ((u0 * 4294967296 + u1) * 4294967296 + u2) * B ^ (s - 2) := by
  refine ⟨valL (U.take (s - 2)), ?_, ?_⟩
  · have := valL_lt (h.take (s - 2))
    rwa [List.length_take, Nat.min_eq_left (by omega)] at this
  · have e : valL U = valL (U.take (s - 2 + 1 + 1 + 1)) := by rw [List.take_of_length_le (by omega)]
    rw [e, valL_take_succ', valL_take_succ', valL_take_succ', show s - 2 + 1 + 1 = s by omega, show s - 2 + 1 = s - 1 by omega, h0, h1, h2]
    simp only [Int.toNat_natCast]
    have p1 : B ^ (s - 1) = B ^ (s - 2) * 4294967296 := by rw [show s - 1 = s - 2 + 1 by omega, Nat.pow_succ]
    have p0 : B ^ s = B ^ (s - 2) * 4294967296 * 4294967296 := by rw [show s = s - 2 + 1 + 1 by omega, Nat.pow_succ, Nat.pow_succ]; rfl
    rw [p1, p0]
    generalize B ^ (s - 2) = p
    rw [Nat.add_mul, Nat.add_mul, Nat.add_mul]
    rw [show p * 4294967296 * 4294967296 * u0 = u0 * 4294967296 * 4294967296 * p by ac_rfl, show p * 4294967296 * u1 = u1 * 4294967296 * p by ac_rfl, Nat.mul_comm p u2]
    omega
theorem top2 {V : List Int} {s v1 v2 : Nat} (hs : 2 ≤ s) (hl : V.length = s) (h : Lim V) (h1 : V.getD (s - 1) 0 = (v1 : Int)) (h2 : V.getD (s - 2) 0 = (v2 : Int)) :
    ∃ low, low < B ^ (s - 2) ∧ valL V = low + (v1 * 4294967296 + v2) * B ^ (s - 2) := by
  refine ⟨valL (V.take (s - 2)), ?_, ?_⟩
  · have := valL_lt (h.take (s - 2))
    rwa [List.length_take, Nat.min_eq_left (by omega)] at this
  · have e : valL V = valL (V.take (s - 2 + 1 + 1)) := by rw [List.take_of_length_le (by omega)]
    rw [e, valL_take_succ', valL_take_succ', show s - 2 + 1 = s - 1 by omega, h1, h2]
    simp only [Int.toNat_natCast]
    have p1 : B ^ (s - 1) = B ^ (s - 2) * 4294967296 := by rw [show s - 1 = s - 2 + 1 by omega, Nat.pow_succ]
    rw [p1]
    generalize B ^ (s - 2) = p
    rw [Nat.add_mul, show p * 4294967296 * v1 = v1 * 4294967296 * p by ac_rfl, Nat.mul_comm p v2]
    omega
theorem est0 {u v U3 V2 P g lu lv : Nat} (hP : 0 < P) (hlu : lu < P) (eu : u = lu + U3 * P) (hlv : lv < P) (ev : v = lv + V2 * P) (hV2 : 4294967296 ≤ V2) (hlt : u < 4294967296 * v) (hg : g ≤ 4294967295) (hgV : g * V2 ≤ U3)
    (hmax : ∀ g', g' ≤ 4294967295 → g' * V2 ≤ U3 → g' ≤ g) : u / v ≤ g ∧ g ≤ u / v + 1 := by
  have hv0 : 0 < v := by
    have : 1 * P ≤ V2 * P := Nat.mul_le_mul_right _ (by omega)
    omega
  have hq : u / v ≤ 4294967295 := by
    have := Nat.div_lt_of_lt_mul (n := v) (k := 4294967296) (m := u) (by rw [Nat.mul_comm]; exact hlt)
    omega
  constructor
  · refine hmax _ hq (est_ge (u := u) (v := v) hP ?_ ?_ (Nat.div_mul_le_self u v))
    · rw [Nat.add_mul]; omega
    · omega
  · rcases Nat.eq_zero_or_pos g with q | q
    · rw [q]; exact Nat.zero_le _
    · have := est_le (u := u) (v := v) (P := P) hP (by omega) (by rw [Nat.add_mul]; omega) hgV (by omega) q
      have h3 : g - 1 ≤ u / v := by rw [Nat.le_div_iff_mul_le hv0]; exact this
      omega
/-- The estimate is the digit or one more. -/
theorem est {U V : List Int} {s u0 u1 u2 v1 v2 g : Nat} (hs : 2 ≤ s) (hl : U.length = s + 1) (hlv : V.length = s) (h : Lim U) (hv : Lim V) (h0 : U.getD s 0 = (u0 : Int)) (h1 : U.getD (s - 1) 0 = (u1 : Int)) (h2 : U.getD (s - 2) 0 = (u2 : Int))
    (k1 : V.getD (s - 1) 0 = (v1 : Int)) (k2 : V.getD (s - 2) 0 = (v2 : Int)) (htop : 2147483648 ≤ v1) (hlt : valL U < 4294967296 * valL V) (hg : g ≤ 4294967295) (hgV : g * (v1 * 4294967296 + v2) ≤ (u0 * 4294967296 + u1) * 4294967296 + u2)
    (hmax : ∀ g', g' ≤ 4294967295 → g' * (v1 * 4294967296 + v2) ≤ (u0 * 4294967296 + u1) * 4294967296 + u2 → g' ≤ g) : valL U / valL V ≤ g ∧ g ≤ valL U / valL V + 1 := by
  obtain ⟨lu, hlu, eu⟩ := top3 hs hl h h0 h1 h2
  obtain ⟨lv, hlv', ev⟩ := top2 hs hlv hv k1 k2
  exact est0 (bpos _) hlu eu hlv' ev (by omega) hlt hg hgV hmax
theorem and_low (m : Nat) : m &&& 4294967295 = m % 4294967296 := by
  have := Nat.and_two_pow_sub_one_eq_mod m 32
  have e : 2 ^ 32 - 1 = 4294967295 := by decide
  rw [e, p32] at this
  exact this
/-- One limb of the subtraction. -/
theorem digit_step {Uc U V : List Int} {i g cr br ui vi yv b' : Nat} (hi : i < Uc.length) (h : valL (Uc.take i) + g * valL (V.take i) = valL (U.take i) + B ^ i * (cr + br)) (hu : U.getD i 0 = (ui : Int)) (hv : V.getD i 0 = (vi : Int))
    (hy : yv + ((cr + g * vi) % 4294967296 + br) = ui + 4294967296 * b') :
    valL ((Uc.set i (yv : Int)).take (i + 1)) + g * valL (V.take (i + 1)) = valL (U.take (i + 1)) + B ^ (i + 1) * ((cr + g * vi) / 4294967296 + b') := by
  rw [take_set_succ hi, valL_snoc, List.length_take, Nat.min_eq_left (by omega), valL_take_succ', valL_take_succ', hu, hv, Int.toNat_natCast, Int.toNat_natCast, Int.toNat_natCast, Nat.pow_succ]
  have := sub_step (P := B ^ i) h b' (t := g * vi) (y := yv) (ui := ui) (by unfold B; omega)
  rw [Nat.mul_add, Nat.mul_left_comm g (B ^ i) vi]
  exact this
theorem borrow_of {a br e : Nat} (ha : a < 4294967296) (he : e < 4294967296) (hb : br ≤ 1) : ∃ yv b' : Nat, yv + (e + br) = a + 4294967296 * b' ∧ b' ≤ 1 ∧ yv < 4294967296 ∧ ((a : Int) - e - br < 0 → b' = 1 ∧ (yv : Int) = a - e - br + 4294967296) ∧ (¬ (a : Int) - e - br < 0 → b' = 0 ∧ (yv : Int) = a - e - br) := by
  rcases Nat.lt_or_ge a (e + br) with q | q
  · exact ⟨a + 4294967296 - (e + br), 1, by omega, by omega, by omega, fun h => ⟨rfl, by omega⟩, fun h => by omega⟩
  · exact ⟨a - (e + br), 0, by omega, by omega, by omega, fun h => by omega, fun h => ⟨rfl, by omega⟩⟩
/-- One limb of the sum in place. -/
theorem back_step {Uc U V : List Int} {i sm ui vi : Nat} (hi : i < Uc.length) (h : valL (Uc.take i) + B ^ i * sm = valL (U.take i) + valL (V.take i)) (hu : U.getD i 0 = (ui : Int)) (hv : V.getD i 0 = (vi : Int)) :
    valL ((Uc.set i (((sm + ui + vi) % 4294967296 : Nat) : Int)).take (i + 1)) + B ^ (i + 1) * ((sm + ui + vi) / 4294967296) = valL (U.take (i + 1)) + valL (V.take (i + 1)) := by
  rw [take_set_succ hi]
  exact add_step (by simp; omega) h hu hv
end Go.Ax.Bg

namespace Go.Proofs.YtbeegiiiochblaaGreatDoor
open Go.Ax Go.Ax.Bg Go.RowKit
attribute [local irreducible] Ax Post QOp ACall
set_option maxRecDepth 100000
set_option maxHeartbeats 4000000

theorem mul_ok (a b : Nat) (ha : (natL a).length ≤ 100000000) (hb : (natL b).length ≤ 100000000) : VCall Tryz.prog 43 [natA a, natA b] (natA (a * b)) := by
  refine ACall.value0 (acall_of_ax (P := Tryz.prog) (fn := Tryz.f43) rfl rfl (by kernel_rfl) rfl (fun c hR hfix => ?_)) (fix := fun _ => False) (fun _ h => h) rfl rfl
  have hx := natL_lim a
  have hy := natL_lim b
  have hv : valL (natL a) * valL (natL b) = a * b := by rw [valL_natL, valL_natL]
  unfold natA
  rw [← hv] at hR
  generalize natL a = x at *
  generalize natL b = y at *
  repeat (first
    | refine ax_q (q_move rfl) ?_
    | refine ax_q (q_assign rfl) ?_
    | refine ax_ops_nil ?_
    | refine ax_post_code ?_
    | refine ax_seq ?_
    | refine ax_region rfl ?_
    | refine ax_q (q_len rfl rfl rfl) ?_
    | refine ax_q (q_add rfl rfl (by omega)) ?_)
  refine ax_make rfl rfl rfl rfl rfl rfl rfl rfl (by show (0 : Int) ≤ _ ∧ _ ≤ _ ∧ (4 : Int) * _ ≤ _ ∧ _; omega) ?_
  rw [show ((x.length : Int) + (y.length : Int)).toNat = x.length + y.length by omega]
  repeat (first
    | refine ax_q (q_move rfl) ?_
    | refine ax_q (q_assign rfl) ?_
    | refine ax_ops_nil ?_
    | refine ax_post_code ?_
    | refine ax_seq ?_
    | refine ax_region rfl ?_
    | refine ax_block ?_
    | refine ax_q (q_len rfl rfl rfl) ?_)
  refine ax_loop (ι := Nat × List Int) (fun p => [(1, .ro (.ints .u32 y) 0 y.length), (5, .sl 0 0 (x.length + y.length)), (17, .ro (.ints .u32 x) 0 x.length), (18, .int .i64 (x.length : Nat)), (19, .int .i64 (p.1 : Nat))]) (fun p => [some ⟨95, .ints .u32 p.2⟩])
    (fun p => p.1 ≤ x.length ∧ p.2.length = x.length + y.length ∧ Lim p.2 ∧ valL p.2 = valL (x.take p.1) * valL y ∧ ∀ q, p.1 + y.length ≤ q → p.2.getD q 0 = 0) (fun p => x.length - p.1) (0, List.replicate (x.length + y.length) 0) ⟨⟨rfl, rfl, rfl, rfl, rfl, trivial⟩, rfl, Nat.zero_le _, by simp, Lim.zeros _, by simp [valL, valL_zeros], fun q _ => zeros_at _ _⟩ ?_
  rintro ⟨i, out⟩ ⟨h1, h2, h3, h4, h5⟩
  simp only at *
  repeat (first
    | refine ax_ops_nil ?_
    | refine ax_post_code ?_
    | refine ax_seq ?_
    | refine ax_region rfl ?_
    | refine ax_q (q_lss rfl rfl) ?_)
  refine ax_cond_dec rfl (fun h6 => ?_) (fun h6 => ?_)
  · have hil : i < x.length := by omega
    obtain ⟨d, hd, hdB⟩ := hx.nat i
    repeat (first
      | refine ax_q (q_move rfl) ?_
      | refine ax_q (q_assign rfl) ?_
      | refine ax_q (q_loadi_rp rfl rfl rfl) ?_
      | refine ax_ops_nil ?_
      | refine ax_post_code ?_
      | refine ax_seq ?_
      | refine ax_region rfl ?_
      | refine ax_block ?_
      | refine ax_skip ?_
      | refine ax_q (q_len rfl rfl rfl) ?_
      | refine ax_q (q_index_ro' rfl rfl rfl rfl (by first | (simp only [Nat.zero_add, Int.toNat_natCast, Int.toNat_zero]; exact rfl) | exact rfl) (by omega)) ?_)
    refine ax_slot 7 (.int .u32 (d : Nat)) rfl (AEq.of_eq (by rw [hd])) ?_
    refine ax_loop (ι := Nat × List Int × Nat) (fun p => [(1, .ro (.ints .u32 y) 0 y.length), (5, .sl 0 0 (x.length + y.length)), (6, .int .i64 (i : Nat)), (7, .int .u32 (d : Nat)), (8, .int .u64 (p.2.2 : Nat)), (17, .ro (.ints .u32 x) 0 x.length), (18, .int .i64 (x.length : Nat)), (19, .int .i64 (i : Nat)), (24, .ro (.ints .u32 y) 0 y.length), (25, .int .i64 (y.length : Nat)), (26, .int .i64 (p.1 : Nat))]) (fun p => [some ⟨95, .ints .u32 p.2.1⟩])
      (fun p => p.1 ≤ y.length ∧ p.2.1.length = x.length + y.length ∧ Lim p.2.1 ∧ p.2.2 < 4294967296 ∧ valL p.2.1 + B ^ (i + p.1) * p.2.2 = valL (x.take i) * valL y + B ^ i * (d * valL (y.take p.1)) ∧ ∀ q, i + y.length ≤ q → p.2.1.getD q 0 = 0) (fun p => y.length - p.1) (0, out, 0) ⟨⟨rfl, rfl, rfl, rfl, rfl, rfl, rfl, rfl, rfl, rfl, rfl, trivial⟩, rfl, Nat.zero_le _, h2, h3, Nat.zero_lt_succ _, by simp [valL, h4], h5⟩ ?_
    rintro ⟨j, o2, cr⟩ ⟨k1, k2, k3, k4, k5, k6⟩
    simp only at *
    repeat (first
      | refine ax_ops_nil ?_
      | refine ax_post_code ?_
      | refine ax_seq ?_
      | refine ax_region rfl ?_
      | refine ax_q (q_lss rfl rfl) ?_)
    refine ax_cond_dec rfl (fun k7 => ?_) (fun k7 => ?_)
    · have hjl : j < y.length := by omega
      obtain ⟨e, he, heB⟩ := hy.nat j
      obtain ⟨f, hf, hfB⟩ := k3.nat (i + j)
      have hb1 : d * e ≤ 4294967295 * 4294967295 := Nat.mul_le_mul (by omega) (by omega)
      repeat (first
        | refine ax_q (q_move rfl) ?_
        | refine ax_q (q_assign rfl) ?_
        | refine ax_q (q_loadi_rp rfl rfl rfl) ?_
        | refine ax_ops_nil ?_
        | refine ax_post_code ?_
        | refine ax_seq ?_
        | refine ax_region rfl ?_
        | refine ax_block ?_
        | refine ax_skip ?_
        | refine ax_q (q_index_ro' rfl rfl rfl rfl (by first | (simp only [Nat.zero_add, Int.toNat_natCast, Int.toNat_zero]; exact rfl) | exact rfl) (by omega)) ?_)
      refine ax_q (q_uconv (m := d) rfl rfl rfl uk64 (by omega)) ?_
      repeat (refine ax_q (q_move rfl) ?_)
      refine ax_slot_ops 34 (.int .u32 (e : Nat)) rfl (AEq.of_eq (by rw [he])) ?_
      refine ax_q (q_uconv (m := e) rfl rfl rfl uk64 (by omega)) ?_
      refine ax_q (q_umul rfl rfl uk64 (by omega)) ?_
      repeat (first
        | refine ax_q (q_move rfl) ?_
        | refine ax_q (q_add rfl rfl (by omega)) ?_)
      refine ax_slot_ops 40 (.int .i64 (i + j : Nat)) rfl (AEq.of_eq (by rw [Int.natCast_add])) ?_
      repeat (first
        | refine ax_q (q_index_sl' rfl rfl rfl rfl rfl (by first | (simp only [Nat.zero_add, Int.toNat_natCast, Int.toNat_zero]; exact rfl) | exact rfl) (by omega)) ?_
        | refine ax_q (q_loadi_ptr rfl rfl rfl rfl (by first | assumption | omega)) ?_)
      refine ax_slot_ops 42 (.int .u32 (f : Nat)) rfl (AEq.of_eq (by rw [hf])) ?_
      refine ax_q (q_uconv (m := f) rfl rfl rfl uk64 (by omega)) ?_
      refine ax_q (q_uadd rfl rfl uk64 (by omega)) ?_
      refine ax_q (q_uadd rfl rfl uk64 (by omega)) ?_
      repeat (first
        | refine ax_q (q_move rfl) ?_
        | refine ax_q (q_assign rfl) ?_
        | refine ax_ops_nil ?_
        | refine ax_post_code ?_
        | refine ax_seq ?_
        | refine ax_region rfl ?_
        | refine ax_q (q_add rfl rfl (by omega)) ?_)
      refine ax_q (q_ulow rfl rfl rfl uk32) ?_
      refine ax_slot_ops 49 (.int .i64 (i + j : Nat)) rfl (AEq.of_eq (by rw [Int.natCast_add])) ?_
      repeat (first
        | refine ax_q (q_move rfl) ?_
        | refine ax_ops_nil ?_
        | refine ax_post_code ?_
        | refine ax_region rfl ?_
        | refine ax_q (q_index_sl' rfl rfl rfl rfl rfl (by first | (simp only [Nat.zero_add, Int.toNat_natCast, Int.toNat_zero]; exact rfl) | exact rfl) (by omega)) ?_
        | refine ax_store rfl rfl rfl rfl rfl rfl rfl (by first | assumption | (show _ < List.length _; first | assumption | omega)) ?_)
      refine ax_q (q_ushr (s := 32) rfl rfl rfl) ?_
      repeat (first
        | refine ax_q (q_move rfl) ?_
        | refine ax_q (q_assign rfl) ?_
        | refine ax_ops_nil ?_
        | refine ax_post_code ?_
        | refine ax_region rfl ?_
        | refine ax_post_blk ?_
        | refine ax_q (q_add rfl rfl (by omega)) ?_)
      refine ax_post_inv ⟨(j + 1, o2.set (i + j) (((cr + (d * e + f)) % 4294967296 : Nat) : Int), (cr + (d * e + f)) / 4294967296), ⟨by simp only; omega, by simp [k2], k3.set (mod_lim _), by simp only; omega, ?_, fun q hq => ?_⟩, by simp only; omega, ⟨rfl, rfl, rfl, rfl, rfl, rfl, rfl, rfl, rfl, rfl, rfl, trivial⟩, rfl⟩
      · have := mul_step (cr := cr) (a := d) (b := e) (p := i + j) (by omega) k5 hf
        simp only
        rw [show i + (j + 1) = i + j + 1 from rfl, this, valL_take_succ' y j, he, Int.toNat_natCast, Nat.add_assoc]
        congr 1
        rw [Nat.mul_add, Nat.mul_add, Nat.pow_add]
        congr 1
        ac_rfl
      · simp only
        rw [lgetD_set_ne (by omega)]; exact k6 q hq
    · have hje : j = y.length := by omega
      subst hje
      rw [List.take_length] at k5
      have hz := k6 (i + y.length) (Nat.le_refl _)
      have hset := valL_set (x := (cr : Int)) (show i + y.length < o2.length by omega)
      rw [hz, Int.toNat_natCast] at hset
      repeat (first
        | refine ax_q (q_move rfl) ?_
        | refine ax_post_code ?_
        | refine ax_region rfl ?_
        | refine ax_exit ?_
        | refine ax_exit_here ?_
        | refine ax_exit_code ?_
        | refine ax_exit_inv ?_
        | refine ax_q (q_len rfl rfl rfl) ?_
        | refine ax_q (q_add rfl rfl (by omega)) ?_)
      refine ax_q (q_uconv (m := cr) rfl rfl rfl uk32 k4) ?_
      refine ax_slot_ops 60 (.int .i64 (i + y.length : Nat)) rfl (AEq.of_eq (by rw [Int.natCast_add])) ?_
      repeat (first
        | refine ax_q (q_move rfl) ?_
        | refine ax_ops_nil ?_
        | refine ax_post_code ?_
        | refine ax_region rfl ?_
        | refine ax_post_blk ?_
        | refine ax_q (q_add rfl rfl (by omega)) ?_
        | refine ax_q (q_index_sl' rfl rfl rfl rfl rfl (by first | (simp only [Nat.zero_add, Int.toNat_natCast, Int.toNat_zero]; exact rfl) | exact rfl) (by omega)) ?_
        | refine ax_store rfl rfl rfl rfl rfl rfl rfl (by first | assumption | (show _ < List.length _; first | assumption | omega)) ?_)
      refine ax_post_inv ⟨(i + 1, o2.set (i + y.length) (cr : Int)), ⟨by simp only; omega, by simp [k2], k3.set (by omega), ?_, fun q hq => ?_⟩, by simp only; omega, ⟨rfl, rfl, rfl, rfl, rfl, trivial⟩, rfl⟩
      · simp only
        rw [valL_take_succ' x i, hd, Int.toNat_natCast, Nat.add_mul, Nat.mul_assoc, ← k5]
        have : (0 : Int).toNat = 0 := rfl
        rw [this] at hset
        omega
      · simp only at hq ⊢
        rw [lgetD_set_ne (by omega)]; exact k6 q (by omega)
  · have hie : i = x.length := by omega
    subst hie
    rw [List.take_length] at h4
    have hc := norm_ok _ h3 (by omega)
    rw [h4] at hc
    repeat (first
      | refine ax_q (q_move rfl) ?_
      | refine ax_post_code ?_
      | refine ax_seq ?_
      | refine ax_region rfl ?_
      | refine ax_exit ?_
      | refine ax_exit_here ?_
      | refine ax_exit_code ?_
      | refine ax_exit_inv ?_)
    refine ax_give 0 65 (x.length + y.length) [] rfl refless_ints rfl (by show _ ≤ out.length; omega) trivial ?_
    refine ax_callv rfl rfl (give_call h2) hc ?_
    repeat (first
      | refine ax_q (q_assign rfl) ?_
      | refine ax_ops_nil ?_
      | refine ax_post_code ?_
      | refine ax_return ?_)
    exact ax_ret hR rfl rfl

/-- shift: limbs of one's own. -/
theorem shift_ok (n : List Int) (s : Nat) (hn : Lim n) (hlen : n.length ≤ 100000000) (hs : s < 32) :
    FCall Tryz.prog 80 [limA n, .int .i64 (s : Nat)] (fun h => .sl h 0 (n.length + 1)) ⟨95, .ints .u32 (fixL (n.length + 1) (valL n * 2 ^ s))⟩ := by
  refine ACall.fresh (K := fun r H => r = .sl 0 0 (n.length + 1) ∧ H = [some ⟨95, .ints .u32 (fixL (n.length + 1) (valL n * 2 ^ s))⟩]) (acall_of_ax (P := Tryz.prog) (fn := Tryz.f80) rfl rfl (by kernel_rfl) rfl (fun c hR hfix => ?_)) (fix := fun _ => False) (fun _ h => h) rfl (fun H => ⟨rfl, trivial, trivial, trivial⟩) ?_
  · have hp : 2 ^ s ≤ 2147483648 := by
      have := Nat.pow_le_pow_right (show 0 < 2 by decide) (show s ≤ 31 by omega)
      exact Nat.le_trans this (by decide)
    have hp1 : 0 < 2 ^ s := Nat.pow_pos (by decide)
    unfold limA
    repeat (first
      | refine ax_q (q_move rfl) ?_
      | refine ax_q (q_assign rfl) ?_
      | refine ax_ops_nil ?_
      | refine ax_post_code ?_
      | refine ax_seq ?_
      | refine ax_region rfl ?_
      | refine ax_q (q_len rfl rfl rfl) ?_
      | refine ax_q (q_add rfl rfl (by omega)) ?_)
    refine ax_make rfl rfl rfl rfl rfl rfl rfl rfl (by show (0 : Int) ≤ 0 ∧ _ ≤ _ ∧ (4 : Int) * _ ≤ _ ∧ _; omega) ?_
    repeat (first
      | refine ax_q (q_move rfl) ?_
      | refine ax_q (q_assign rfl) ?_
      | refine ax_ops_nil ?_
      | refine ax_post_code ?_
      | refine ax_seq ?_
      | refine ax_region rfl ?_
      | refine ax_block ?_
      | refine ax_q (q_len rfl rfl rfl) ?_)
    refine ax_trunc 0 (.ints .u32 []) rfl ⟨Nat.zero_le _, rfl, fun i j hi _ => absurd hi (Nat.not_lt_zero _)⟩ ?_
    refine ax_loop (ι := Nat × List Int × Nat) (fun p => [(1, .int .i64 (s : Nat)), (5, .sl 0 0 p.1), (6, .int .u64 (p.2.2 : Nat)), (13, .ro (.ints .u32 n) 0 n.length), (14, .int .i64 (n.length : Nat)), (15, .int .i64 (p.1 : Nat))]) (fun p => [some ⟨95, .ints .u32 p.2.1⟩])
      (fun p => p.1 ≤ n.length ∧ p.2.1.length = p.1 ∧ Lim p.2.1 ∧ p.2.2 < 2 ^ s ∧ valL p.2.1 + B ^ p.1 * p.2.2 = valL (n.take p.1) * 2 ^ s) (fun p => n.length - p.1) (0, [], 0) ⟨⟨rfl, rfl, rfl, rfl, rfl, rfl, trivial⟩, rfl, Nat.zero_le _, rfl, Lim.nil, hp1, by simp [valL]⟩ ?_
    rintro ⟨i, out, cr⟩ ⟨h1, h2, h3, h4, h5⟩
    simp only at *
    repeat (first
      | refine ax_ops_nil ?_
      | refine ax_post_code ?_
      | refine ax_seq ?_
      | refine ax_region rfl ?_
      | refine ax_q (q_lss rfl rfl) ?_)
    refine ax_cond_dec rfl (fun h6 => ?_) (fun h6 => ?_)
    · have hil : i < n.length := by omega
      obtain ⟨d, hd, hdB⟩ := hn.nat i
      have hor : cr ||| d * 2 ^ s = cr + d * 2 ^ s := by
        have := Nat.two_pow_add_eq_or_of_lt h4 d
        rw [Nat.or_comm, Nat.mul_comm d, ← this, Nat.add_comm]
      have hdm : d * 2 ^ s ≤ 4294967295 * 2147483648 := Nat.mul_le_mul (by omega) hp
      have hq : (cr + d * 2 ^ s) / 4294967296 < 2 ^ s := by
        refine Nat.div_lt_of_lt_mul ?_
        have : (d + 1) * 2 ^ s ≤ 4294967296 * 2 ^ s := Nat.mul_le_mul_right _ (by omega)
        rw [Nat.add_mul] at this
        omega
      repeat (first
        | refine ax_q (q_move rfl) ?_
        | refine ax_q (q_assign rfl) ?_
        | refine ax_q (q_loadi_rp rfl rfl rfl) ?_
        | refine ax_ops_nil ?_
        | refine ax_post_code ?_
        | refine ax_seq ?_
        | refine ax_region rfl ?_
        | refine ax_block ?_
        | refine ax_skip ?_
        | refine ax_q (q_index_ro' rfl rfl rfl rfl (by first | (simp only [Nat.zero_add, Int.toNat_natCast, Int.toNat_zero]; exact rfl) | exact rfl) (by omega)) ?_)
      refine ax_slot_ops 20 (.int .u32 (d : Nat)) rfl (AEq.of_eq (by rw [hd])) ?_
      refine ax_q (q_uconv (m := d) rfl rfl rfl uk64 (by omega)) ?_
      repeat (refine ax_q (q_move rfl) ?_)
      refine ax_q (q_ushl (m := d) (s := s) rfl rfl (by show s ≤ 64; omega) uk64 (by omega)) ?_
      refine ax_q (QOp.res (q_uor rfl rfl uk64 rfl (by omega) (by omega)) (by rw [hor])) ?_
      repeat (first
        | refine ax_q (q_move rfl) ?_
        | refine ax_q (q_assign rfl) ?_
        | refine ax_ops_nil ?_
        | refine ax_post_code ?_
        | refine ax_seq ?_
        | refine ax_region rfl ?_)
      refine ax_q (q_ulow rfl rfl rfl uk32) ?_
      repeat (refine ax_buildSliceRo rfl rfl rfl rfl rfl rfl rfl rfl rfl rfl rfl ?_)
      refine ax_append rfl rfl rfl rfl rfl rfl rfl rfl rfl h2 rfl rfl (Nat.le_refl 1) rfl (by show (i + 1) * 4 ≤ _ ∧ _; omega) (fun i j _ _ => rfl) (by rw [hfix]; exact fun h => h) ?_
      repeat (first
        | refine ax_q (q_move rfl) ?_
        | refine ax_q (q_assign rfl) ?_
        | refine ax_ops_nil ?_
        | refine ax_post_code ?_
        | refine ax_region rfl ?_)
      refine ax_q (q_ushr (s := 32) rfl rfl rfl) ?_
      repeat (first
        | refine ax_q (q_move rfl) ?_
        | refine ax_q (q_assign rfl) ?_
        | refine ax_ops_nil ?_
        | refine ax_post_code ?_
        | refine ax_region rfl ?_
        | refine ax_post_blk ?_
        | refine ax_q (q_add rfl rfl (by omega)) ?_)
      refine ax_post_inv ⟨(i + 1, out ++ [(((cr + d * 2 ^ s) % 4294967296 : Nat) : Int)], (cr + d * 2 ^ s) / 4294967296), ⟨by simp only; omega, by simp [h2], Lim.append.2 ⟨h3, Lim.one (mod_lim _)⟩, hq, ?_⟩, by simp only; omega, ⟨rfl, rfl, rfl, rfl, rfl, rfl, trivial⟩, rfl⟩
      have := snoc_carry h2 h5 (c := cr + d * 2 ^ s) (d := d * 2 ^ s) rfl
      simp only at this ⊢
      rw [this, valL_take_succ' n i, hd, Int.toNat_natCast, Nat.add_mul, Nat.mul_assoc]
    · have hie : i = n.length := by omega
      subst hie
      rw [List.take_length] at h5
      repeat (first
        | refine ax_q (q_move rfl) ?_
        | refine ax_post_code ?_
        | refine ax_seq ?_
        | refine ax_region rfl ?_
        | refine ax_exit ?_
        | refine ax_exit_here ?_
        | refine ax_exit_code ?_
        | refine ax_exit_inv ?_)
      refine ax_q (q_uconv (m := cr) rfl rfl rfl uk32 (by omega)) ?_
      repeat (refine ax_buildSliceRo rfl rfl rfl rfl rfl rfl rfl rfl rfl rfl rfl ?_)
      refine ax_append rfl rfl rfl rfl rfl rfl rfl rfl rfl h2 rfl rfl (Nat.le_refl 1) rfl (by show (n.length + 1) * 4 ≤ _ ∧ _; omega) (fun i j _ _ => rfl) (by rw [hfix]; exact fun h => h) ?_
      have hl : Lim (out ++ [(cr : Int)]) := Lim.append.2 ⟨h3, Lim.one (by omega)⟩
      have hv : valL (out ++ [(cr : Int)]) = valL n * 2 ^ s := by
        rw [valL_snoc, h2, Int.toNat_natCast]; exact h5
      have hfx := fixL_of hl (k := n.length + 1) (by simp [h2]) hv
      repeat (first
        | refine ax_q (q_assign rfl) ?_
        | refine ax_ops_nil ?_
        | refine ax_post_code ?_
        | refine ax_return ?_)
      refine ax_ret hR rfl ⟨rfl, ?_⟩
      show ([some ⟨95, .ints .u32 (out ++ [(cr : Int)])⟩] : AHeap) = _
      rw [hfx]
  · rintro r H ⟨rfl, rfl⟩
    refine ⟨fun o ho => by simp at ho; subst ho; show 0 + (n.length + 1) ≤ (fixL _ _).length; rw [fixL_len]; omega, refl1 refless_ints, 0, rfl, fun k => rfl⟩
end Go.Proofs.YtbeegiiiochblaaGreatDoor

namespace Go.Proofs.YtbeegiiiochblaaGreatDoor
open Go.Ax Go.Ax.Bg Go.RowKit
attribute [local irreducible] Ax Post QOp ACall
set_option maxRecDepth 100000
set_option maxHeartbeats 4000000

theorem digit_ok (A U C V : List Int) (j s : Nat) (Hr : AHeap) (hj : A.length = j) (hs : 2 ≤ s) (hl : U.length = s + 1) (hlv : V.length = s) (hU : Lim U) (hV : Lim V) (htop : 2147483648 ≤ V.getD (s - 1) 0) (hlt : valL U < 4294967296 * valL V)
    (hsz : (A ++ (U ++ C)).length ≤ 1000000000) :
    ACall Tryz.prog 81 [.sl 0 j (s + 1), limA V] (some ⟨95, .ints .u32 (A ++ (U ++ C))⟩ :: Hr) (fun h => h < Hr.length + 1)
      (fun r H => r = .int .u32 (valL U / valL V : Nat) ∧ H = some ⟨95, .ints .u32 (A ++ (fixL (s + 1) (valL U % valL V) ++ C))⟩ :: Hr) := by
  refine acall_of_ax (P := Tryz.prog) (fn := Tryz.f81) rfl rfl (by kernel_rfl) rfl (fun c hR hfix => ?_)
  have hsd := hlv
  obtain ⟨u0, h0, b0⟩ := hU.nat s
  obtain ⟨u1, h1, b1⟩ := hU.nat (s - 1)
  obtain ⟨u2, h2, b2⟩ := hU.nat (s - 2)
  obtain ⟨v1, k1, c1⟩ := hV.nat (s - 1)
  obtain ⟨v2, k2, c2⟩ := hV.nat (s - 2)
  have htop' : 2147483648 ≤ v1 := by omega
  have hest := fun g => est (g := g) hs hl hsd hU hV h0 h1 h2 k1 k2 htop' hlt
  have g0 := getD_mid (C := C) hj (show s < U.length by omega)
  have g1 := getD_mid (C := C) hj (show s - 1 < U.length by omega)
  have g2 := getD_mid (C := C) hj (show s - 2 < U.length by omega)
  rw [h0] at g0; rw [h1] at g1; rw [h2] at g2
  have hlen : (A ++ (U ++ C)).length = j + (s + 1) + C.length := by simp [hj, hl]; omega
  have hv0 : 0 < valL V := by
    have := valL_take_succ' V (s - 1)
    rw [show s - 1 + 1 = V.length by omega, List.take_length, k1, Int.toNat_natCast] at this
    have h3 : B ^ (s - 1) * 1 ≤ B ^ (s - 1) * v1 := Nat.mul_le_mul_left _ (by omega)
    have := bpos (s - 1)
    omega
  unfold limA
  rw [hsd]
  repeat (first
    | refine ax_q (q_move rfl) ?_
    | refine ax_q (q_assign rfl) ?_
    | refine ax_ops_nil ?_
    | refine ax_post_code ?_
    | refine ax_seq ?_
    | refine ax_region rfl ?_
    | refine ax_q (q_len rfl rfl rfl) ?_)
  refine ax_regionq (by kernel_rfl) (by kernel_rfl) rfl ?_
  repeat (first
    | refine ax_q (q_move rfl) ?_
    | refine ax_q (q_index_sl' rfl rfl rfl rfl rfl (by first | (simp only [Nat.zero_add, Int.toNat_natCast, Int.toNat_zero]; exact rfl) | exact rfl) (by omega)) ?_
    | refine ax_q (q_loadi_ptr rfl rfl rfl rfl (by first | assumption | omega)) ?_)
  refine ax_slot_ops 20 (.int .u32 (u0 : Nat)) rfl (AEq.of_eq (by rw [g0])) ?_
  refine ax_q (q_uconv (m := u0) rfl rfl rfl uk64 (by omega)) ?_
  refine ax_q (q_ushl (m := u0) (s := 32) rfl rfl (by decide) uk64 (shl_lt b0)) ?_
  repeat (first
    | refine ax_q (q_move rfl) ?_
    | refine ax_q (q_sub rfl rfl (by omega)) ?_)
  refine ax_slot_ops 25 (.int .i64 (s - 1 : Nat)) rfl (AEq.of_eq (by congr 1; omega)) ?_
  repeat (first
    | refine ax_q (q_index_sl' rfl rfl rfl rfl rfl (by first | (simp only [Nat.zero_add, Int.toNat_natCast, Int.toNat_zero]; exact rfl) | exact rfl) (by omega)) ?_
    | refine ax_q (q_loadi_ptr rfl rfl rfl rfl (by first | assumption | omega)) ?_)
  refine ax_slot_ops 27 (.int .u32 (u1 : Nat)) rfl (AEq.of_eq (by rw [g1])) ?_
  refine ax_q (q_uconv (m := u1) rfl rfl rfl uk64 (by omega)) ?_
  refine ax_q (QOp.res (q_uor rfl rfl uk64 rfl (shl_lt b0) (by omega)) (by rw [or_shl b1])) ?_
  have htb : u0 * 4294967296 + u1 < 18446744073709551616 := by omega
  obtain ⟨top, htp⟩ : ∃ top, u0 * 4294967296 + u1 = top := ⟨_, rfl⟩
  rw [htp] at hest htb ⊢
  repeat (first
    | refine ax_q (q_move rfl) ?_
    | refine ax_q (q_assign rfl) ?_
    | refine ax_ops_nil ?_
    | refine ax_post_code ?_
    | refine ax_seq ?_
    | refine ax_region rfl ?_
    | refine ax_q (q_sub rfl rfl (by omega)) ?_)
  refine ax_slot_ops 33 (.int .i64 (s - 1 : Nat)) rfl (AEq.of_eq (by congr 1; omega)) ?_
  repeat (first
    | refine ax_q (q_loadi_rp rfl rfl rfl) ?_
    | refine ax_q (q_index_ro' rfl rfl rfl rfl (by first | (simp only [Nat.zero_add, Int.toNat_natCast, Int.toNat_zero]; exact rfl) | exact rfl) (by omega)) ?_)
  refine ax_slot_ops 35 (.int .u32 (v1 : Nat)) rfl (AEq.of_eq (by rw [k1])) ?_
  refine ax_q (q_uconv (m := v1) rfl rfl rfl uk64 (by omega)) ?_
  refine ax_q (q_uquo rfl rfl uk64 htb (by omega)) ?_
  obtain ⟨gs, hgs, hg1, hg2⟩ : ∃ gs : Nat, (if ((4294967295 : Int) < ((top / v1 : Nat) : Int)) then (4294967295 : Int) else ((top / v1 : Nat) : Int)) = (gs : Int) ∧ gs ≤ 4294967295 ∧ (gs = 4294967295 ∨ gs = top / v1) ∧ gs ≤ top / v1 := by
    generalize top / v1 = z
    by_cases hz : (4294967295 : Int) < (z : Int)
    · exact ⟨4294967295, by rw [if_pos hz]; rfl, by omega, by omega, by omega⟩
    · exact ⟨z, by rw [if_neg hz], by omega, by omega, by omega⟩
  obtain ⟨hg2, hg3⟩ := hg2
  have hgm : gs * v1 ≤ top := Nat.le_trans (Nat.mul_le_mul_right _ hg3) (Nat.div_mul_le_self top v1)
  have hb0 := mul_bd (a := gs) (b := v1) (c := 0) (by omega) c1 (by decide)
  refine ax_q (q_min rfl rfl) ?_
  refine ax_slot_ops 38 (.int .u64 (gs : Nat)) rfl (AEq.of_eq (by rw [← hgs])) ?_
  repeat (first
    | refine ax_q (q_move rfl) ?_
    | refine ax_q (q_assign rfl) ?_
    | refine ax_ops_nil ?_
    | refine ax_post_code ?_
    | refine ax_seq ?_
    | refine ax_region rfl ?_
    | refine ax_q (q_sub rfl rfl (by omega)) ?_)
  refine ax_slot_ops 43 (.int .i64 (s - 1 : Nat)) rfl (AEq.of_eq (by congr 1; omega)) ?_
  repeat (first
    | refine ax_q (q_loadi_rp rfl rfl rfl) ?_
    | refine ax_q (q_index_ro' rfl rfl rfl rfl (by first | (simp only [Nat.zero_add, Int.toNat_natCast, Int.toNat_zero]; exact rfl) | exact rfl) (by omega)) ?_)
  refine ax_slot_ops 45 (.int .u32 (v1 : Nat)) rfl (AEq.of_eq (by rw [k1])) ?_
  refine ax_q (q_uconv (m := v1) rfl rfl rfl uk64 (by omega)) ?_
  refine ax_q (q_umul rfl rfl uk64 hb0.1) ?_
  refine ax_q (q_usub rfl rfl uk64 htb hgm) ?_
  repeat (first
    | refine ax_q (q_assign rfl) ?_
    | refine ax_ops_nil ?_
    | refine ax_post_code ?_
    | refine ax_block ?_)
  refine ax_loop (ι := Nat × Nat) (fun p => [(0, .sl 0 j (s + 1)), (1, .ro (.ints .u32 V) 0 s), (5, .int .i64 (s : Nat)), (7, .int .u64 (p.1 : Nat)), (8, .int .u64 (p.2 : Nat))]) (fun _ => some ⟨95, .ints .u32 (A ++ (U ++ C))⟩ :: Hr)
    (fun p => p.1 ≤ 4294967295 ∧ p.2 + p.1 * v1 = top ∧ ∀ g', g' ≤ 4294967295 → g' * (v1 * 4294967296 + v2) ≤ top * 4294967296 + u2 → g' ≤ p.1) (fun p => p.1) (gs, top - gs * v1) ⟨⟨rfl, rfl, rfl, rfl, rfl, trivial⟩, rfl, hg1, by simp only; omega, fun g' q1 q2 => ?_⟩ ?_
  · have := guess_ge (by omega) b2 q2
    rcases hg2 with h | h
    · show g' ≤ gs; omega
    · show g' ≤ gs; rw [h]; exact this
  rintro ⟨g, r⟩ ⟨i1, i2, i3⟩
  simp only at *
  have htest := guess_test (B := 4294967296) (u2 := u2) (v2 := v2) i2 (by omega) c2
  have hbg := mul_bd (a := g) (b := v2) (c := 0) (by omega) c2 (by decide)
  apply ax_tail_code (H := some ⟨95, .ints .u32 (A ++ (U ++ C))⟩ :: Hr) [(0, .sl 0 j (s + 1)), (1, .ro (.ints .u32 V) 0 s), (5, .int .i64 (s : Nat)), (7, .int .u64 (g : Nat)), (8, .int .u64 (r : Nat)), (70, .bool (decide (r < 4294967296 ∧ r * 4294967296 + u2 < g * v2)))]
  · intro fin
    repeat (refine ax_seq ?_)
    refine ax_regionq (by kernel_rfl) (by kernel_rfl) rfl ?_
    repeat (first
      | refine ax_q (q_move rfl) ?_
      | refine ax_q (q_lss rfl rfl) ?_)
    refine ax_gsplit rfl rfl (fun q0 => ?_) (fun q0 => ?_)
    · have q0' : r < 4294967296 := by omega
      repeat (first
        | refine ax_q (q_move rfl) ?_
        | refine ax_guard rfl rfl ?_
        | refine ax_q (q_sub rfl rfl (by omega)) ?_)
      refine ax_slot_ops 55 (.int .i64 (s - 2 : Nat)) rfl (AEq.of_eq (by congr 1; omega)) ?_
      repeat (first
        | refine ax_q (q_loadi_rp rfl rfl rfl) ?_
        | refine ax_guard rfl rfl ?_
        | refine ax_q (q_index_ro' rfl rfl rfl rfl (by first | (simp only [Nat.zero_add, Int.toNat_natCast, Int.toNat_zero]; exact rfl) | exact rfl) (by omega)) ?_)
      refine ax_slot_ops 57 (.int .u32 (v2 : Nat)) rfl (AEq.of_eq (by rw [k2])) ?_
      refine ax_q (q_uconv (m := v2) rfl rfl rfl uk64 (by omega)) ?_
      refine ax_guard rfl rfl ?_
      refine ax_q (q_umul rfl rfl uk64 hbg.1) ?_
      repeat (first
        | refine ax_q (q_move rfl) ?_
        | refine ax_guard rfl rfl ?_)
      refine ax_q (q_ushl (m := r) (s := 32) rfl rfl (by decide) uk64 (shl_lt q0')) ?_
      repeat (first
        | refine ax_q (q_move rfl) ?_
        | refine ax_guard rfl rfl ?_
        | refine ax_q (q_sub rfl rfl (by omega)) ?_)
      refine ax_slot_ops 64 (.int .i64 (s - 2 : Nat)) rfl (AEq.of_eq (by congr 1; omega)) ?_
      repeat (first
        | refine ax_guard rfl rfl ?_
        | refine ax_q (q_index_sl' rfl rfl rfl rfl rfl (by first | (simp only [Nat.zero_add, Int.toNat_natCast, Int.toNat_zero]; exact rfl) | exact rfl) (by omega)) ?_
        | refine ax_q (q_loadi_ptr rfl rfl rfl rfl (by first | assumption | omega)) ?_)
      refine ax_slot_ops 66 (.int .u32 (u2 : Nat)) rfl (AEq.of_eq (by rw [g2])) ?_
      refine ax_q (q_uconv (m := u2) rfl rfl rfl uk64 (by omega)) ?_
      refine ax_guard rfl rfl ?_
      refine ax_q (QOp.res (q_uor rfl rfl uk64 rfl (shl_lt q0') (by omega)) (by rw [or_shl b2])) ?_
      repeat (first
        | refine ax_ops_nil ?_
        | refine ax_post_code ?_
        | refine ax_guard rfl rfl ?_
        | refine ax_q (q_gtr rfl rfl) ?_
        | refine ax_q (q_pick rfl rfl) ?_)
      refine fin _ ⟨rfl, rfl, rfl, rfl, rfl, ?_, trivial⟩
      show some (AV.bool (decide (((r * 4294967296 + u2 : Nat) : Int) < ((g * v2 : Nat) : Int)))) = _
      congr 2
      rw [decide_eq_decide]
      constructor
      · intro h; exact ⟨q0', by omega⟩
      · intro h; exact Int.ofNat_lt.2 h.2
    · repeat (first
        | refine ax_ops_nil ?_
        | refine ax_post_code ?_
        | refine ax_skip_not rfl rfl rfl ?_
        | refine ax_q (q_pick rfl rfl) ?_)
      refine fin _ ⟨rfl, rfl, rfl, rfl, rfl, ?_, trivial⟩
      show some (AV.bool false) = _
      rw [decide_eq_false]
      intro h
      exact q0 (by omega)
  refine ax_cond_dec rfl (fun q0 => ?_) (fun q0 => ?_)
  · have q1 := htest.1 q0
    have hg0 : 0 < g := by
      rcases Nat.eq_zero_or_pos g with z | z
      · subst z; rw [Nat.zero_mul] at q1; omega
      · exact z
    obtain ⟨g, rfl⟩ : ∃ m, g = m + 1 := ⟨g - 1, by omega⟩
    rw [Nat.add_mul, Nat.one_mul] at i2
    repeat (first
      | refine ax_q (q_move rfl) ?_
      | refine ax_post_code ?_
      | refine ax_seq ?_
      | refine ax_region rfl ?_
      | refine ax_block ?_
      | refine ax_skip ?_)
    refine ax_q (q_usub (m := g + 1) (n := 1) rfl rfl uk64 (by omega) (by omega)) ?_
    repeat (first
      | refine ax_q (q_move rfl) ?_
      | refine ax_q (q_assign rfl) ?_
      | refine ax_ops_nil ?_
      | refine ax_post_code ?_
      | refine ax_region rfl ?_
      | refine ax_post_blk ?_
      | refine ax_q (q_sub rfl rfl (by omega)) ?_)
    refine ax_slot_ops 74 (.int .i64 (s - 1 : Nat)) rfl (AEq.of_eq (by congr 1; omega)) ?_
    repeat (first
      | refine ax_q (q_loadi_rp rfl rfl rfl) ?_
      | refine ax_q (q_index_ro' rfl rfl rfl rfl (by first | (simp only [Nat.zero_add, Int.toNat_natCast, Int.toNat_zero]; exact rfl) | exact rfl) (by omega)) ?_)
    refine ax_slot_ops 76 (.int .u32 (v1 : Nat)) rfl (AEq.of_eq (by rw [k1])) ?_
    refine ax_q (q_uconv (m := v1) rfl rfl rfl uk64 (by omega)) ?_
    refine ax_q (q_uadd rfl rfl uk64 (by omega)) ?_
    repeat (first
      | refine ax_q (q_assign rfl) ?_
      | refine ax_ops_nil ?_)
    refine ax_post_inv ⟨(g, r + v1), ⟨by simp only; omega, by simp only; omega, fun g' z1 z2 => ?_⟩, by simp only; omega, ⟨rfl, rfl, rfl, rfl, rfl, trivial⟩, rfl⟩
    have z3 := i3 g' z1 z2
    show g' ≤ g
    rcases Nat.lt_or_ge g g' with z | z
    · exfalso
      have : g' = g + 1 := by omega
      subst this
      omega
    · exact z
  · have q1 : g * (v1 * 4294967296 + v2) ≤ top * 4294967296 + u2 := by
      rcases Nat.lt_or_ge (top * 4294967296 + u2) (g * (v1 * 4294967296 + v2)) with z | z
      · exact absurd (htest.2 z) q0
      · exact z
    obtain ⟨e1, e2⟩ := hest g i1 q1 i3
    clear hest htest i3 q0
    have hmB : valL U % valL V < B ^ (s + 1) := Nat.lt_of_le_of_lt (Nat.mod_le _ _) (by have := valL_lt hU; rwa [hl] at this)
    have hdone := fun (w b : Nat) (hw : w < B ^ (s + 1)) => digit_done (u := valL U) (v := valL V) (g := g) (w := w) (n := s + 1) (b := b) hw (by have := valL_lt hV; rw [hsd] at this; exact Nat.lt_of_lt_of_le this (Nat.pow_le_pow_right (by decide) (by omega))) (by have := valL_lt hU; rwa [hl] at this)
    generalize valL U / valL V = q at *
    generalize hme : valL U % valL V = m at *
    repeat (first
      | refine ax_q (q_move rfl) ?_
      | refine ax_q (q_assign rfl) ?_
      | refine ax_ops_nil ?_
      | refine ax_post_code ?_
      | refine ax_seq ?_
      | refine ax_region rfl ?_
      | refine ax_block ?_
      | refine ax_exit ?_
      | refine ax_exit_here ?_
      | refine ax_exit_code ?_
      | refine ax_exit_inv ?_
      | refine ax_q (q_len rfl rfl rfl) ?_)
    have hAl : ∀ W : List Int, W.length = s + 1 → ∀ i, i < s + 1 → i + j < (A ++ (W ++ C)).length := fun W hW i hi => by simp [hj, hW]; omega
    refine ax_loop (ι := Nat × List Int × Nat × Nat) (fun p => [(0, .sl 0 j (s + 1)), (1, .ro (.ints .u32 V) 0 s), (5, .int .i64 (s : Nat)), (7, .int .u64 (g : Nat)), (9, .int .u64 (p.2.2.1 : Nat)), (10, .int .i64 (p.2.2.2 : Nat)), (82, .int .i64 (s + 1 : Nat)), (83, .int .i64 (p.1 : Nat))]) (fun p => some ⟨95, .ints .u32 (A ++ (p.2.1 ++ C))⟩ :: Hr)
      (fun p => p.1 ≤ s + 1 ∧ p.2.1.length = s + 1 ∧ Lim p.2.1 ∧ (∀ x, p.1 ≤ x → p.2.1.getD x 0 = U.getD x 0) ∧ p.2.2.1 < 4294967296 ∧ p.2.2.2 ≤ 1 ∧ (p.1 = s + 1 → p.2.2.1 = 0) ∧ valL (p.2.1.take p.1) + g * valL (V.take p.1) = valL (U.take p.1) + B ^ p.1 * (p.2.2.1 + p.2.2.2)) (fun p => s + 1 - p.1) (0, U, 0, 0)
      ⟨⟨rfl, rfl, rfl, rfl, rfl, rfl, rfl, rfl, trivial⟩, rfl, Nat.zero_le _, hl, hU, fun _ _ => rfl, Nat.zero_lt_succ _, Nat.zero_le _, fun _ => rfl, by simp [valL]⟩ ?_
    rintro ⟨i, Uc, cr, br⟩ ⟨w1, w2, w3, w4, w5, w6, w7, w8⟩
    simp only at *
    repeat (first
      | refine ax_ops_nil ?_
      | refine ax_post_code ?_
      | refine ax_seq ?_
      | refine ax_region rfl ?_
      | refine ax_q (q_lss rfl rfl) ?_)
    refine ax_cond_dec rfl (fun w9 => ?_) (fun w9 => ?_)
    · have his : i < s + 1 := by omega
      obtain ⟨ui, hui, hub⟩ := hU.nat i
      obtain ⟨vi, hvi, hvb⟩ := hV.nat i
      have hmb := mul_bd (a := g) (b := vi) (c := cr) (by omega) hvb w5
      have hsl := hAl Uc w2 i his
      have hcur := getD_mid (C := C) hj (show i < Uc.length by omega)
      rw [w4 i (Nat.le_refl _), hui] at hcur
      have hlm : (cr + g * vi) % 4294967296 < 4294967296 := Nat.mod_lt _ (by decide)
      have hdb : (cr + g * vi) / 4294967296 < 4294967296 := by omega
      obtain ⟨yv, b', y1, y2, y3, y4, y5⟩ := borrow_of hub hlm w6
      have hstep := digit_step (g := g) (cr := cr) (yv := yv) (b' := b') (show i < Uc.length by omega) w8 hui hvi y1
      have hlast : i + 1 = s + 1 → (cr + g * vi) / 4294967296 = 0 := fun h => by
        have : V.getD i 0 = 0 := by simp [List.getD, List.getElem?_eq_none (show V.length ≤ i by omega)]
        have : vi = 0 := by omega
        subst this
        rw [Nat.mul_zero, Nat.add_zero]
        exact Nat.div_eq_of_lt w5
      repeat (first
        | refine ax_q (q_move rfl) ?_
        | refine ax_q (q_assign rfl) ?_
        | refine ax_ops_nil ?_
        | refine ax_post_code ?_
        | refine ax_seq ?_
        | refine ax_region rfl ?_
        | refine ax_block ?_
        | refine ax_skip ?_
        | refine ax_q (q_lss rfl rfl) ?_)
      apply ax_tail_code (H := some ⟨95, .ints .u32 (A ++ (Uc ++ C))⟩ :: Hr) [(0, .sl 0 j (s + 1)), (1, .ro (.ints .u32 V) 0 s), (5, .int .i64 (s : Nat)), (7, .int .u64 (g : Nat)), (9, .int .u64 (cr + g * vi : Nat)), (10, .int .i64 (br : Nat)), (11, .int .i64 (i : Nat)), (82, .int .i64 (s + 1 : Nat)), (83, .int .i64 (i : Nat))]
      · intro fin
        refine ax_cond_dec rfl (fun q0 => ?_) (fun q0 => ?_)
        · repeat (first
            | refine ax_q (q_move rfl) ?_
            | refine ax_q (q_loadi_rp rfl rfl rfl) ?_
            | refine ax_region rfl ?_
            | refine ax_q (q_index_ro' rfl rfl rfl rfl (by first | (simp only [Nat.zero_add, Int.toNat_natCast, Int.toNat_zero]; exact rfl) | exact rfl) (by omega)) ?_)
          refine ax_slot_ops 94 (.int .u32 (vi : Nat)) rfl (AEq.of_eq (by rw [hvi])) ?_
          refine ax_q (q_uconv (m := vi) rfl rfl rfl uk64 (by omega)) ?_
          refine ax_q (q_umul rfl rfl uk64 hmb.1) ?_
          refine ax_q (q_uadd rfl rfl uk64 hmb.2) ?_
          repeat (first
            | refine ax_q (q_assign rfl) ?_
            | refine ax_ops_nil ?_
            | refine ax_post_code ?_)
          exact fin _ ⟨rfl, rfl, rfl, rfl, rfl, rfl, rfl, rfl, rfl, trivial⟩
        · have hv0 : vi = 0 := by
            have : V.getD i 0 = 0 := by simp [List.getD, List.getElem?_eq_none (show V.length ≤ i by omega)]
            omega
          subst hv0
          repeat (first
            | refine ax_post_code ?_
            | refine ax_skip ?_)
          exact fin _ ⟨rfl, rfl, rfl, rfl, rfl, rfl, rfl, rfl, rfl, trivial⟩
      repeat (first
        | refine ax_q (q_move rfl) ?_
        | refine ax_seq ?_
        | refine ax_region rfl ?_
        | refine ax_q (q_index_sl' rfl rfl rfl rfl rfl (by first | (simp only [Nat.zero_add, Int.toNat_natCast, Int.toNat_zero]; exact rfl) | exact rfl) (by omega)) ?_
        | refine ax_q (q_loadi_ptr rfl rfl rfl rfl (by first | assumption | omega)) ?_)
      refine ax_slot_ops 101 (.int .u32 (ui : Nat)) rfl (AEq.of_eq (by rw [hcur])) ?_
      refine ax_q (q_conv64 (m := ui) rfl rfl rfl (by omega)) ?_
      repeat (refine ax_q (q_move rfl) ?_)
      refine ax_q (QOp.res (q_uand (n := 4294967295) rfl rfl uk64 rfl hmb.2 (by decide)) (by rw [and_low])) ?_
      obtain ⟨lo, hlo⟩ : ∃ lo, (cr + g * vi) % 4294967296 = lo := ⟨_, rfl⟩
      rw [hlo] at hlm y1 y4 y5 ⊢
      refine ax_q (q_conv64 (m := lo) rfl rfl rfl (by omega)) ?_
      repeat (first
        | refine ax_q (q_move rfl) ?_
        | refine ax_q (q_assign rfl) ?_
        | refine ax_ops_nil ?_
        | refine ax_post_code ?_
        | refine ax_seq ?_
        | refine ax_region rfl ?_
        | refine ax_q (q_sub rfl rfl (by omega)) ?_)
      refine ax_q (q_ushr (s := 32) rfl rfl rfl) ?_
      repeat (first
        | refine ax_q (q_move rfl) ?_
        | refine ax_q (q_assign rfl) ?_
        | refine ax_ops_nil ?_
        | refine ax_post_code ?_
        | refine ax_seq ?_
        | refine ax_region rfl ?_
        | refine ax_q (q_lss rfl rfl) ?_)
      apply ax_tail_code (H := some ⟨95, .ints .u32 (A ++ (Uc ++ C))⟩ :: Hr) [(0, .sl 0 j (s + 1)), (1, .ro (.ints .u32 V) 0 s), (5, .int .i64 (s : Nat)), (7, .int .u64 (g : Nat)), (9, .int .u64 ((cr + g * vi) / 4294967296 : Nat)), (10, .int .i64 (b' : Nat)), (11, .int .i64 (i : Nat)), (12, .int .i64 (yv : Nat)), (82, .int .i64 (s + 1 : Nat)), (83, .int .i64 (i : Nat))]
      · intro fin
        refine ax_cond_dec rfl (fun q0 => ?_) (fun q0 => ?_)
        · obtain ⟨z1, z2⟩ := y4 q0
          subst z1
          skip
          refine ax_region rfl ?_
          repeat (first
            | refine ax_q (q_move rfl) ?_
            | refine ax_q (q_assign rfl) ?_
            | refine ax_ops_nil ?_
            | refine ax_post_code ?_
            | refine ax_q (q_add rfl rfl (by omega)) ?_)
          exact fin _ ⟨rfl, rfl, rfl, rfl, rfl, rfl, rfl, by rw [z2]; rfl, rfl, rfl, trivial⟩
        · obtain ⟨z1, z2⟩ := y5 q0
          subst z1
          repeat (first
            | refine ax_post_code ?_
            | refine ax_skip ?_)
          exact fin _ ⟨rfl, rfl, rfl, rfl, rfl, rfl, rfl, by rw [z2]; rfl, rfl, rfl, trivial⟩
      repeat (first
        | refine ax_q (q_move rfl) ?_
        | refine ax_region rfl ?_)
      refine ax_q (q_uconv (m := yv) rfl rfl rfl uk32 y3) ?_
      have hset := set_mid (x := (yv : Int)) (C := C) hj (show i < Uc.length by omega)
      repeat (first
        | refine ax_q (q_move rfl) ?_
        | refine ax_ops_nil ?_
        | refine ax_post_code ?_
        | refine ax_region rfl ?_
        | refine ax_post_blk ?_
        | refine ax_q (q_add rfl rfl (by omega)) ?_
        | refine ax_q (q_index_sl' rfl rfl rfl rfl rfl (by first | (simp only [Nat.zero_add, Int.toNat_natCast, Int.toNat_zero]; exact rfl) | exact rfl) (by omega)) ?_
        | refine ax_store rfl rfl rfl rfl rfl rfl rfl (by first | assumption | (show _ < List.length _; first | assumption | omega)) ?_)
      refine ax_post_inv ⟨(i + 1, Uc.set i (yv : Int), (cr + g * vi) / 4294967296, b'), ⟨by simp only; omega, by simp [w2], w3.set (by omega), fun x hx => ?_, hdb, y2, hlast, hstep⟩, by simp only; omega, ⟨rfl, rfl, rfl, rfl, rfl, rfl, rfl, rfl, trivial⟩, ?_⟩
      · simp only at hx ⊢
        rw [lgetD_set_ne (by omega)]; exact w4 x (by omega)
      · show some (⟨_, .ints .u32 ((A ++ (Uc ++ C)).set (j + i) (yv : Int))⟩ : AObj) :: Hr = _
        rw [hset]
    · have hie : i = s + 1 := by omega
      subst hie
      have hcr := w7 rfl
      subst hcr
      rw [List.take_of_length_le (by omega), List.take_of_length_le (by omega), List.take_of_length_le (by omega), Nat.zero_add] at w8
      have hUcb := valL_lt w3
      rw [w2] at hUcb
      obtain ⟨d0, d1⟩ := hdone (valL Uc) br hUcb w6 w8 e1 e2 hv0
      repeat (first
        | refine ax_q (q_move rfl) ?_
        | refine ax_ops_nil ?_
        | refine ax_post_code ?_
        | refine ax_seq ?_
        | refine ax_region rfl ?_
        | refine ax_exit ?_
        | refine ax_exit_here ?_
        | refine ax_exit_code ?_
        | refine ax_exit_inv ?_
        | refine ax_q (q_eql rfl rfl) ?_)
      refine ax_cond_dec rfl (fun q0 => ?_) (fun q0 => ?_)
      · obtain ⟨z1, z2⟩ := d0 (by omega)
        subst z1
        have hfx := fixL_of w3 w2 z2
        repeat (first
          | refine ax_q (q_move rfl) ?_
          | refine ax_seq ?_
          | refine ax_region rfl ?_)
        refine ax_q (q_uconv (m := g) rfl rfl rfl uk32 (by omega)) ?_
        repeat (first
          | refine ax_q (q_assign rfl) ?_
          | refine ax_ops_nil ?_
          | refine ax_post_code ?_
          | refine ax_return ?_
          | refine ax_ret_code ?_)
        refine ax_ret hR rfl ⟨rfl, ?_⟩
        rw [hfx]
      · obtain ⟨z1, z2⟩ := d1 (by omega)
        repeat (first
          | refine ax_q (q_move rfl) ?_
          | refine ax_q (q_assign rfl) ?_
          | refine ax_ops_nil ?_
          | refine ax_post_code ?_
          | refine ax_seq ?_
          | refine ax_region rfl ?_
          | refine ax_block ?_
          | refine ax_skip ?_
          | refine ax_q (q_len rfl rfl rfl) ?_)
        refine ax_loop (ι := Nat × List Int × Nat) (fun p => [(0, .sl 0 j (s + 1)), (1, .ro (.ints .u32 V) 0 s), (5, .int .i64 (s : Nat)), (7, .int .u64 (g : Nat)), (13, .int .u64 (p.2.2 : Nat)), (126, .int .i64 (s + 1 : Nat)), (127, .int .i64 (p.1 : Nat))]) (fun p => some ⟨95, .ints .u32 (A ++ (p.2.1 ++ C))⟩ :: Hr)
          (fun p => p.1 ≤ s + 1 ∧ p.2.1.length = s + 1 ∧ Lim p.2.1 ∧ (∀ x, p.1 ≤ x → p.2.1.getD x 0 = Uc.getD x 0) ∧ p.2.2 < 4294967296 ∧ valL (p.2.1.take p.1) + B ^ p.1 * p.2.2 = valL (Uc.take p.1) + valL (V.take p.1)) (fun p => s + 1 - p.1) (0, Uc, 0)
          ⟨⟨rfl, rfl, rfl, rfl, rfl, rfl, rfl, trivial⟩, rfl, Nat.zero_le _, w2, w3, fun _ _ => rfl, Nat.zero_lt_succ _, by simp [valL]⟩ ?_
        rintro ⟨i, Ud, sm⟩ ⟨x1, x2, x3, x4, x5, x6⟩
        simp only at *
        repeat (first
          | refine ax_ops_nil ?_
          | refine ax_post_code ?_
          | refine ax_seq ?_
          | refine ax_region rfl ?_
          | refine ax_q (q_lss rfl rfl) ?_)
        refine ax_cond_dec rfl (fun x9 => ?_) (fun x9 => ?_)
        · have his : i < s + 1 := by omega
          obtain ⟨ui, hui, hub⟩ := w3.nat i
          obtain ⟨vi, hvi, hvb⟩ := hV.nat i
          have hcur := getD_mid (C := C) hj (show i < Ud.length by omega)
          rw [x4 i (Nat.le_refl _), hui] at hcur
          have hsl := hAl Ud x2 i his
          have hstep := back_step (sm := sm) (show i < Ud.length by omega) x6 hui hvi
          repeat (first
            | refine ax_q (q_move rfl) ?_
            | refine ax_q (q_assign rfl) ?_
            | refine ax_ops_nil ?_
            | refine ax_post_code ?_
            | refine ax_seq ?_
            | refine ax_region rfl ?_
            | refine ax_block ?_
            | refine ax_skip ?_
            | refine ax_q (q_index_sl' rfl rfl rfl rfl rfl (by first | (simp only [Nat.zero_add, Int.toNat_natCast, Int.toNat_zero]; exact rfl) | exact rfl) (by omega)) ?_
            | refine ax_q (q_loadi_ptr rfl rfl rfl rfl (by first | assumption | omega)) ?_)
          refine ax_slot_ops 134 (.int .u32 (ui : Nat)) rfl (AEq.of_eq (by rw [hcur])) ?_
          refine ax_q (q_uconv (m := ui) rfl rfl rfl uk64 (by omega)) ?_
          refine ax_q (q_uadd rfl rfl uk64 (by omega)) ?_
          repeat (first
            | refine ax_q (q_move rfl) ?_
            | refine ax_q (q_assign rfl) ?_
            | refine ax_ops_nil ?_
            | refine ax_post_code ?_
            | refine ax_seq ?_
            | refine ax_region rfl ?_
            | refine ax_q (q_lss rfl rfl) ?_)
          apply ax_tail_code (H := some ⟨95, .ints .u32 (A ++ (Ud ++ C))⟩ :: Hr) [(0, .sl 0 j (s + 1)), (1, .ro (.ints .u32 V) 0 s), (5, .int .i64 (s : Nat)), (7, .int .u64 (g : Nat)), (13, .int .u64 (sm + ui + vi : Nat)), (14, .int .i64 (i : Nat)), (126, .int .i64 (s + 1 : Nat)), (127, .int .i64 (i : Nat))]
          · intro fin
            refine ax_cond_dec rfl (fun q1 => ?_) (fun q1 => ?_)
            · repeat (first
                | refine ax_q (q_move rfl) ?_
                | refine ax_q (q_loadi_rp rfl rfl rfl) ?_
                | refine ax_region rfl ?_
                | refine ax_q (q_index_ro' rfl rfl rfl rfl (by first | (simp only [Nat.zero_add, Int.toNat_natCast, Int.toNat_zero]; exact rfl) | exact rfl) (by omega)) ?_)
              refine ax_slot_ops 144 (.int .u32 (vi : Nat)) rfl (AEq.of_eq (by rw [hvi])) ?_
              refine ax_q (q_uconv (m := vi) rfl rfl rfl uk64 (by omega)) ?_
              refine ax_q (q_uadd rfl rfl uk64 (by omega)) ?_
              repeat (first
                | refine ax_q (q_assign rfl) ?_
                | refine ax_ops_nil ?_
                | refine ax_post_code ?_)
              exact fin _ ⟨rfl, rfl, rfl, rfl, rfl, rfl, rfl, rfl, trivial⟩
            · have hv0 : vi = 0 := by
                have : V.getD i 0 = 0 := by simp [List.getD, List.getElem?_eq_none (show V.length ≤ i by omega)]
                omega
              subst hv0
              repeat (first
                | refine ax_post_code ?_
                | refine ax_skip ?_)
              exact fin _ ⟨rfl, rfl, rfl, rfl, rfl, rfl, rfl, rfl, trivial⟩
          repeat (first
            | refine ax_q (q_move rfl) ?_
            | refine ax_seq ?_
            | refine ax_region rfl ?_)
          refine ax_q (q_ulow rfl rfl rfl uk32) ?_
          have hset := set_mid (x := (((sm + ui + vi) % 4294967296 : Nat) : Int)) (C := C) hj (show i < Ud.length by omega)
          repeat (first
            | refine ax_q (q_move rfl) ?_
            | refine ax_ops_nil ?_
            | refine ax_post_code ?_
            | refine ax_region rfl ?_
            | refine ax_q (q_index_sl' rfl rfl rfl rfl rfl (by first | (simp only [Nat.zero_add, Int.toNat_natCast, Int.toNat_zero]; exact rfl) | exact rfl) (by omega)) ?_
            | refine ax_store rfl rfl rfl rfl rfl rfl rfl (by first | assumption | (show _ < List.length _; first | assumption | omega)) ?_)
          refine ax_q (q_ushr (s := 32) rfl rfl rfl) ?_
          repeat (first
            | refine ax_q (q_move rfl) ?_
            | refine ax_q (q_assign rfl) ?_
            | refine ax_ops_nil ?_
            | refine ax_post_code ?_
            | refine ax_region rfl ?_
            | refine ax_post_blk ?_
            | refine ax_q (q_add rfl rfl (by omega)) ?_)
          refine ax_post_inv ⟨(i + 1, Ud.set i (((sm + ui + vi) % 4294967296 : Nat) : Int), (sm + ui + vi) / 4294967296), ⟨by simp only; omega, by simp [x2], x3.set (mod_lim _), fun x hx => ?_, by simp only; omega, hstep⟩, by simp only; omega, ⟨rfl, rfl, rfl, rfl, rfl, rfl, rfl, trivial⟩, ?_⟩
          · simp only at hx ⊢
            rw [lgetD_set_ne (by omega)]; exact x4 x (by omega)
          · show some (⟨_, .ints .u32 ((A ++ (Ud ++ C)).set (j + i) (((sm + ui + vi) % 4294967296 : Nat) : Int))⟩ : AObj) :: Hr = _
            rw [hset]
        · have hie : i = s + 1 := by omega
          subst hie
          rw [List.take_of_length_le (by omega), List.take_of_length_le (by omega), List.take_of_length_le (by omega), z2] at x6
          have hUdb := valL_lt x3
          rw [x2] at hUdb
          have hv : valL Ud = m := by
            rcases Nat.lt_trichotomy sm 1 with z | z | z
            · have : sm = 0 := by omega
              subst this
              omega
            · subst z; omega
            · have : B ^ (s + 1) * 2 ≤ B ^ (s + 1) * sm := Nat.mul_le_mul_left _ z
              omega
          have hfx := fixL_of x3 x2 hv
          repeat (first
            | refine ax_q (q_move rfl) ?_
            | refine ax_post_code ?_
            | refine ax_seq ?_
            | refine ax_region rfl ?_
            | refine ax_exit ?_
            | refine ax_exit_here ?_
            | refine ax_exit_code ?_
            | refine ax_exit_inv ?_)
          refine ax_q (q_usub (m := g) (n := 1) rfl rfl uk64 (by omega) (by omega)) ?_
          refine ax_q (q_uconv (m := g - 1) rfl rfl rfl uk32 (by omega)) ?_
          repeat (first
            | refine ax_q (q_assign rfl) ?_
            | refine ax_ops_nil ?_
            | refine ax_post_code ?_
            | refine ax_return ?_)
          refine ax_ret hR rfl ⟨?_, ?_⟩
          · rw [show g - 1 = q by omega]; rfl
          · rw [hfx]
end Go.Proofs.YtbeegiiiochblaaGreatDoor

/-
  The division of limbs by limbs: the plain facts for its walk. No program in sight.
-/
namespace Go.Ax.Bg

theorem fixL_add : ∀ (a b v : Nat), fixL (a + b) v = fixL a v ++ fixL b (v / B ^ a)
  | 0, b, v => by simp [fixL]
  | a + 1, b, v => by
    rw [show a + 1 + b = a + b + 1 by omega, fixL, fixL, fixL_add a b, List.cons_append, Nat.pow_succ, Nat.mul_comm (B ^ a), ← Nat.div_div_eq_div_mul]
theorem fixL_val_mod : ∀ (k v : Nat), valL (fixL k v) = v % B ^ k
  | 0, v => by simp [fixL, valL, Nat.mod_one]
  | k + 1, v => by
    rw [fixL, valL, Int.toNat_natCast, fixL_val_mod k, Nat.pow_succ, Nat.mul_comm (B ^ k), Nat.mod_mul]
theorem fixL_congr {k v w : Nat} (h : v % B ^ k = w % B ^ k) : fixL k v = fixL k w := by
  have h1 := fixL_of (fixL_lim k v) (fixL_len k v) (fixL_val_mod k v)
  have h2 := fixL_of (fixL_lim k w) (fixL_len k w) (fixL_val_mod k w)
  rw [h1, h2, h]
/-- The top limb. -/
theorem top_limb {v s : Nat} (hs : 1 ≤ s) (h : (natL v).length = s) : ∃ t low : Nat, (natL v).getD (s - 1) 0 = (t : Int) ∧ t < 4294967296 ∧ 0 < t ∧ v = low + B ^ (s - 1) * t ∧ low < B ^ (s - 1) := by
  obtain ⟨t, ht, hb⟩ := (natL_lim v).nat (s - 1)
  refine ⟨t, valL ((natL v).take (s - 1)), ht, hb, ?_, ?_, ?_⟩
  · rcases natL_last (n := v) with q | q
    · rw [q] at h; simp at h; omega
    · rw [h, ht] at q; omega
  · have := valL_take_succ' (natL v) (s - 1)
    rw [show s - 1 + 1 = (natL v).length by omega, List.take_length, valL_natL, ht, Int.toNat_natCast] at this
    exact this
  · have := valL_lt ((natL_lim v).take (s - 1))
    rwa [List.length_take, Nat.min_eq_left (by omega)] at this
theorem bexp {s : Nat} (hs : 1 ≤ s) : B ^ s = B ^ (s - 1) * 4294967296 := by
  rw [show s = s - 1 + 1 by omega, Nat.pow_succ]; rfl
/-- The divisor, shifted to the top. -/
theorem norm_top {m k s t : Nat} (hs : 1 ≤ s) (h : (natL m).length = s) (ht : (natL m).getD (s - 1) 0 = (t : Int)) (h1 : 2147483648 ≤ t * 2 ^ k) (h2 : t * 2 ^ k < 4294967296) (hk : k ≤ 31) :
    (natL (m * 2 ^ k)).length = s ∧ 2147483648 ≤ (natL (m * 2 ^ k)).getD (s - 1) 0 := by
  obtain ⟨t', low, e, hb, hp, hv, hlow⟩ := top_limb hs h
  have : t' = t := by omega
  subst this
  have hP := bpos (s - 1)
  have hpk : 0 < 2 ^ k := Nat.pow_pos (by decide)
  have hd : ∃ q, 4294967296 = q * 2 ^ k := ⟨2 ^ (32 - k), by rw [← Nat.pow_add, show 32 - k + k = 32 by omega]⟩
  obtain ⟨q, hq⟩ := hd
  have h3 : t' + 1 ≤ q := by
    have : t' * 2 ^ k < q * 2 ^ k := by omega
    exact Nat.lt_of_mul_lt_mul_right this
  have h4 : (t' + 1) * 2 ^ k ≤ 4294967296 := by rw [hq]; exact Nat.mul_le_mul_right _ h3
  have hup : m * 2 ^ k < B ^ s := by
    rw [bexp hs]
    have h5 : m < B ^ (s - 1) * (t' + 1) := by rw [Nat.mul_add]; omega
    have h6 : m * 2 ^ k < B ^ (s - 1) * (t' + 1) * 2 ^ k := Nat.mul_lt_mul_of_pos_right h5 hpk
    have h7 : B ^ (s - 1) * ((t' + 1) * 2 ^ k) ≤ B ^ (s - 1) * 4294967296 := Nat.mul_le_mul_left _ h4
    rw [Nat.mul_assoc] at h6
    omega
  have hlo : B ^ (s - 1) * 2147483648 ≤ m * 2 ^ k := by
    have h5 : B ^ (s - 1) * (t' * 2 ^ k) ≤ m * 2 ^ k := by
      rw [← Nat.mul_assoc]; exact Nat.mul_le_mul_right _ (by omega)
    exact Nat.le_trans (Nat.mul_le_mul_left _ h1) h5
  have hlen : (natL (m * 2 ^ k)).length = s := by
    have a := natL_len_le hup
    have b : B ^ (s - 1) ≤ m * 2 ^ k := by
      have : B ^ (s - 1) * 1 ≤ B ^ (s - 1) * 2147483648 := Nat.mul_le_mul_left _ (by decide)
      omega
    have c := natL_len_ge b
    omega
  refine ⟨hlen, ?_⟩
  obtain ⟨t2, low2, e2, _, _, hv2, hlow2⟩ := top_limb hs hlen
  rw [e2]
  rcases Nat.lt_or_ge t2 2147483648 with z | z
  · exfalso
    have : B ^ (s - 1) * (t2 + 1) ≤ B ^ (s - 1) * 2147483648 := Nat.mul_le_mul_left _ (by omega)
    rw [Nat.mul_add] at this
    omega
  · omega
theorem k_more {t k : Nat} (ht : 0 < t) (h : t * 2 ^ k < 4294967296) (hk : k ≤ 31) (h0 : t * 2 ^ k / 2 ^ 31 = 0) : t * 2 ^ (k + 1) < 4294967296 ∧ k + 1 ≤ 31 := by
  have h1 : t * 2 ^ k < 2147483648 := by
    rcases Nat.lt_or_ge (t * 2 ^ k) 2147483648 with q | q
    · exact q
    · have := Nat.div_le_div_right (c := 2 ^ 31) q
      rw [h0] at this
      exact absurd this (by decide)
  refine ⟨by rw [Nat.pow_succ, ← Nat.mul_assoc]; omega, ?_⟩
  rcases Nat.lt_or_ge k 31 with q | q
  · exact q
  · exfalso
    have : k = 31 := by omega
    subst this
    have : 1 * 2 ^ 31 ≤ t * 2 ^ 31 := Nat.mul_le_mul_right _ ht
    have e : (2 : Nat) ^ 31 = 2147483648 := by decide
    rw [e] at this h1
    omega
theorem k_stop {t k : Nat} (h0 : ¬ t * 2 ^ k / 2 ^ 31 = 0) : 2147483648 ≤ t * 2 ^ k := by
  rcases Nat.lt_or_ge (t * 2 ^ k) 2147483648 with q | q
  · exact absurd (Nat.div_eq_of_lt (by have e : (2 : Nat) ^ 31 = 2147483648 := by decide
                                       rw [e]; exact q)) h0
  · exact q
/-- Where the quotient's digits begin. -/
theorem quo_start {n ln v s k : Nat} (hn : n < B ^ ln) (hk : k ≤ 31) (hs : 1 ≤ s) (hsl : s ≤ ln) (hv : B ^ (s - 1) * 2147483648 ≤ v) : n * 2 ^ k < v * B ^ (ln + 1 - s) := by
  have hp : 2 ^ k ≤ 2147483648 := Nat.le_trans (Nat.pow_le_pow_right (show 0 < 2 by decide) hk) (by decide)
  have h1 : n * 2 ^ k ≤ n * 2147483648 := Nat.mul_le_mul_left _ hp
  have h2 : B ^ (s - 1) * 2147483648 * B ^ (ln + 1 - s) ≤ v * B ^ (ln + 1 - s) := Nat.mul_le_mul_right _ hv
  have h3 : B ^ (s - 1) * 2147483648 * B ^ (ln + 1 - s) = B ^ ln * 2147483648 := by
    have e : B ^ ln = B ^ (s - 1) * B ^ (ln + 1 - s) := by rw [← Nat.pow_add]; congr 1; omega
    rw [e]; ac_rfl
  omega
theorem top_ge {v s : Nat} (hs : 1 ≤ s) (hl : (natL v).length = s) (h : 2147483648 ≤ (natL v).getD (s - 1) 0) : B ^ (s - 1) * 2147483648 ≤ v := by
  obtain ⟨t, low, e, _, _, hv, _⟩ := top_limb hs hl
  have : B ^ (s - 1) * 2147483648 ≤ B ^ (s - 1) * t := Nat.mul_le_mul_left _ (by omega)
  omega
/-- One digit: the rest. -/
theorem quo_step {W v s j N : Nat} (hv0 : 0 < v) (hv : v < B ^ s) (hW : W < v * B ^ (j + 1)) (hN : j + (s + 1) ≤ N) :
    fixL N W = fixL j W ++ (fixL (s + 1) (W / B ^ j) ++ fixL (N - (j + (s + 1))) (W / B ^ j / B ^ (s + 1))) ∧ valL (fixL (s + 1) (W / B ^ j)) = W / B ^ j ∧ W / B ^ j < 4294967296 * v ∧
      ∃ W', fixL j W ++ (fixL (s + 1) (W / B ^ j % v) ++ fixL (N - (j + (s + 1))) (W / B ^ j / B ^ (s + 1))) = fixL N W' ∧ W' < v * B ^ j ∧ W' + B ^ j * (v * (W / B ^ j / v)) = W := by
  have hP := bpos j
  have h1 : W / B ^ j < 4294967296 * v := by
    refine Nat.div_lt_of_lt_mul ?_
    have : v * B ^ (j + 1) = B ^ j * (4294967296 * v) := by rw [Nat.pow_succ]; unfold B; ac_rfl
    rw [← this]; exact hW
  have h2 : W / B ^ j < B ^ (s + 1) := by
    have : 4294967296 * v ≤ 4294967296 * B ^ s := Nat.mul_le_mul_left _ (by omega)
    rw [Nat.pow_succ, Nat.mul_comm (B ^ s)]
    exact Nat.lt_of_lt_of_le h1 this
  have h3 : W / B ^ j / B ^ (s + 1) = 0 := Nat.div_eq_of_lt h2
  have hr : W / B ^ j % v < v := Nat.mod_lt _ hv0
  have hvs : v < B ^ (s + 1) := Nat.lt_of_lt_of_le hv (Nat.pow_le_pow_right (by decide) (by omega))
  refine ⟨?_, fixL_val _ _ h2, h1, W % B ^ j + B ^ j * (W / B ^ j % v), ?_, ?_, ?_⟩
  · rw [← fixL_add, ← fixL_add]
    congr 1; omega
  · have e1 : (W % B ^ j + B ^ j * (W / B ^ j % v)) / B ^ j = W / B ^ j % v := by
      rw [Nat.add_mul_div_left _ _ hP, Nat.div_eq_of_lt (Nat.mod_lt _ hP), Nat.zero_add]
    have e2 : (W % B ^ j + B ^ j * (W / B ^ j % v)) % B ^ j = W % B ^ j := by
      rw [Nat.add_mul_mod_self_left, Nat.mod_mod]
    rw [show N = j + ((s + 1) + (N - (j + (s + 1)))) by omega, fixL_add j, fixL_add (s + 1), e1, h3, fixL_congr e2.symm]
    rw [show j + (s + 1 + (N - (j + (s + 1)))) - (j + (s + 1)) = N - (j + (s + 1)) by omega, Nat.div_eq_of_lt (Nat.lt_trans hr hvs)]
  · have h5 : B ^ j * (W / B ^ j % v + 1) ≤ B ^ j * v := Nat.mul_le_mul_left _ hr
    have h6 := Nat.mod_lt W hP
    rw [Nat.mul_add] at h5
    rw [Nat.mul_comm v]
    omega
  · have a := Nat.div_add_mod W (B ^ j)
    have b := Nat.div_add_mod (W / B ^ j) v
    have c : B ^ j * (v * (W / B ^ j / v)) + B ^ j * (W / B ^ j % v) = B ^ j * (W / B ^ j) := by rw [← Nat.mul_add, b]
    omega
theorem quo_end {n m k W Q : Nat} (hm : 0 < m) (h : Q * (m * 2 ^ k) + W = n * 2 ^ k) (hW : W < m * 2 ^ k) : Q = n / m ∧ W = n % m * 2 ^ k := by
  have hk : 0 < 2 ^ k := Nat.pow_pos (by decide)
  have h0 : 0 < m * 2 ^ k := Nat.mul_pos hm hk
  have e1 : n * 2 ^ k / (m * 2 ^ k) = n / m := Nat.mul_div_mul_right _ _ hk
  have e2 : n * 2 ^ k % (m * 2 ^ k) = n % m * 2 ^ k := Nat.mul_mod_mul_right ..
  rw [← h] at e1 e2
  rw [Nat.add_comm, Nat.add_mul_div_right _ _ h0, Nat.div_eq_of_lt hW, Nat.zero_add] at e1
  rw [Nat.add_comm, Nat.add_mul_mod_self_right, Nat.mod_eq_of_lt hW] at e2
  exact ⟨e1, e2⟩
/-- A limb shifted back by k bits. -/
theorem back_limb {d e k : Nat} (hd : d < 4294967296) (hk : k ≤ 31) : d / 2 ^ k ||| e * 2 ^ (32 - k) % 4294967296 = d / 2 ^ k + e % 2 ^ k * 2 ^ (32 - k) := by
  have hp : 0 < 2 ^ (32 - k) := Nat.pow_pos (by decide)
  have e1 : (4294967296 : Nat) = 2 ^ k * 2 ^ (32 - k) := by rw [← Nat.pow_add, show k + (32 - k) = 32 by omega]
  have e2 : e * 2 ^ (32 - k) % 4294967296 = e % 2 ^ k * 2 ^ (32 - k) := by
    rw [e1]; exact Nat.mul_mod_mul_right ..
  have h1 : d / 2 ^ k < 2 ^ (32 - k) := by
    refine Nat.div_lt_of_lt_mul ?_
    rw [← e1]; exact hd
  rw [e2]
  have := Nat.two_pow_add_eq_or_of_lt h1 (e % 2 ^ k)
  rw [Nat.or_comm, Nat.mul_comm (e % 2 ^ k), ← this, Nat.add_comm]
theorem back_lim {d e k : Nat} (hd : d < 4294967296) (hk : k ≤ 31) : d / 2 ^ k + e % 2 ^ k * 2 ^ (32 - k) < 4294967296 := by
  have e1 : (4294967296 : Nat) = 2 ^ k * 2 ^ (32 - k) := by rw [← Nat.pow_add, show k + (32 - k) = 32 by omega]
  have h1 : d / 2 ^ k < 2 ^ (32 - k) := by
    refine Nat.div_lt_of_lt_mul ?_
    rw [← e1]; exact hd
  have h2 : (e % 2 ^ k + 1) * 2 ^ (32 - k) ≤ 2 ^ k * 2 ^ (32 - k) := Nat.mul_le_mul_right _ (Nat.mod_lt _ (Nat.pow_pos (by decide)))
  rw [Nat.add_mul, ← e1] at h2
  omega
theorem back_val {out r : List Int} {i k d e : Nat} (hk : k ≤ 31) (hl : out.length = i) (hd : r.getD i 0 = (d : Int)) {d0 : Nat} (h : valL out * 2 ^ k + d0 = valL (r.take i) + (d % 2 ^ k) * B ^ i) :
    valL (out ++ [((d / 2 ^ k + e % 2 ^ k * 2 ^ (32 - k) : Nat) : Int)]) * 2 ^ k + d0 = valL (r.take (i + 1)) + (e % 2 ^ k) * B ^ (i + 1) := by
  rw [valL_snoc, hl, Int.toNat_natCast, valL_take_succ', hd, Int.toNat_natCast, Nat.pow_succ]
  have e1 : (4294967296 : Nat) = 2 ^ (32 - k) * 2 ^ k := by rw [← Nat.pow_add, show 32 - k + k = 32 by omega]
  have e2 := Nat.div_add_mod d (2 ^ k)
  have e3 : B ^ i * (d / 2 ^ k + e % 2 ^ k * 2 ^ (32 - k)) * 2 ^ k = B ^ i * (2 ^ k * (d / 2 ^ k)) + e % 2 ^ k * (B ^ i * B) := by
    rw [show B = 2 ^ (32 - k) * 2 ^ k from e1]
    generalize (2 ^ (32 - k) * 2 ^ k) ^ i = p
    rw [Nat.mul_add, Nat.add_mul]
    congr 1 <;> ac_rfl
  have e4 : B ^ i * (2 ^ k * (d / 2 ^ k)) + (d % 2 ^ k) * B ^ i = B ^ i * d := by
    rw [Nat.mul_comm (d % 2 ^ k), ← Nat.mul_add, e2]
  rw [Nat.add_mul, e3]
  omega
end Go.Ax.Bg

namespace Go.Proofs.YtbeegiiiochblaaGreatDoor
open Go.Ax Go.Ax.Bg Go.RowKit
attribute [local irreducible] Ax Post QOp ACall
set_option maxRecDepth 100000
set_option maxHeartbeats 4000000

theorem clone_ok (n : Nat) (h : (natL n).length ≤ 1000000) : VCall Tryz.prog 77 [natA n] (natA n) := by
  unfold natA
  generalize natL n = l at *
  refine ACall.value (K := fun r H => r = .sl 0 0 l.length ∧ H = [some ⟨95, .ints .u32 l⟩]) (acall_of_ax (P := Tryz.prog) (fn := Tryz.f77) rfl rfl (by kernel_rfl) rfl (fun c hR hfix => ?_)) (fix := fun _ => False) (fun _ h => h) rfl ?_
  · repeat (first
      | refine ax_q (q_move rfl) ?_
      | refine ax_q (q_assign rfl) ?_
      | refine ax_ops_nil ?_
      | refine ax_post_code ?_
      | refine ax_seq ?_
      | refine ax_region rfl ?_)
    refine ax_eqnil rfl rfl rfl (fun b hb => ?_)
    repeat (first
      | refine ax_ops_nil ?_
      | refine ax_post_code ?_)
    refine ax_cond rfl (fun h => ?_) (fun h => ?_)
    · have := hb h
      have hn : l = [] := List.length_eq_zero_iff.mp this
      subst hn
      repeat (first
        | refine ax_q (q_assign rfl) ?_
        | refine ax_ops_nil ?_
        | refine ax_post_code ?_
        | refine ax_seq ?_
        | refine ax_region rfl ?_)
      refine ax_nilobj 2 ⟨95, .ints .u32 []⟩ rfl rfl ?_
      repeat (first
        | refine ax_return ?_
        | refine ax_ret_code ?_)
      exact ax_ret hR rfl ⟨rfl, rfl⟩
    · repeat (first
        | refine ax_post_code ?_
        | refine ax_seq ?_
        | refine ax_region rfl ?_
        | refine ax_skip ?_)
      refine ax_buildSlice rfl rfl rfl rfl rfl rfl rfl rfl rfl rfl ?_
      refine ax_heap_ops [some ⟨95, .ints .u32 []⟩] (HSub.eqv ⟨rfl, rfl, fun i j hi => absurd hi (Nat.not_lt_zero _)⟩ HSub.nil) ?_
      repeat (refine ax_q (q_move rfl) ?_)
      refine ax_append rfl rfl rfl rfl rfl rfl rfl rfl rfl rfl rfl rfl (by show 0 + l.length ≤ l.length; omega) rfl (by show (0 + l.length) * 4 ≤ _ ∧ _; omega) (fun i j _ _ => rfl) (by rw [hfix]; exact fun h => h) ?_
      repeat (first
        | refine ax_q (q_assign rfl) ?_
        | refine ax_ops_nil ?_
        | refine ax_post_code ?_
        | refine ax_return ?_)
      refine ax_ret hR rfl ⟨?_, ?_⟩
      · show AV.sl 0 0 (0 + l.length) = _; rw [Nat.zero_add]
      · show ([some ⟨95, .ints .u32 ([] ++ List.take l.length (List.drop 0 l))⟩] : AHeap) = _
        simp
  · rintro r H ⟨rfl, rfl⟩
    exact ⟨rfl, fun o ho => by simp at ho; subst ho; exact Nat.le_of_eq (by simp [Cells.len]), refl1 refless_ints⟩
theorem div_less (n m : Nat) (h : n < m) (hn : (natL n).length ≤ 1000000) (hm : (natL m).length ≤ 1000000) : VCall Tryz.prog 48 [natA n, natA m] (.tup [.nil, natA n]) := by
  have hc := cmp_ok n m (by omega) (by omega)
  rw [cmpZ_lt (Int.ofNat_lt.2 h)] at hc
  have hcl := clone_ok n hn
  refine ACall.value0 (acall_of_ax (P := Tryz.prog) (fn := Tryz.f48) rfl rfl (by kernel_rfl) rfl (fun c hR hfix => ?_)) (fix := fun _ => False) (fun _ h => h) rfl rfl
  repeat (first
    | refine ax_q (q_move rfl) ?_
    | refine ax_q (q_assign rfl) ?_
    | refine ax_ops_nil ?_
    | refine ax_post_code ?_
    | refine ax_seq ?_
    | refine ax_region rfl ?_)
  refine ax_callv rfl rfl rfl hc ?_
  repeat (first
    | refine ax_q (q_move rfl) ?_
    | refine ax_ops_nil ?_
    | refine ax_post_code ?_
    | refine ax_seq ?_
    | refine ax_region rfl ?_
    | refine ax_cond_true rfl ?_
    | refine ax_q (q_lss rfl rfl) ?_)
  refine ax_callv rfl rfl rfl hcl ?_
  repeat (first
    | refine ax_q (q_assign rfl) ?_
    | refine ax_ops_nil ?_
    | refine ax_post_code ?_
    | refine ax_return ?_
    | refine ax_ret_code ?_)
  exact ax_ret hR rfl rfl
theorem cmp_not {n m : Nat} (h : m ≤ n) : ¬ cmpZ n m < 0 := by
  rcases Nat.lt_or_ge m n with q | q
  · rw [cmpZ_gt (Int.ofNat_lt.2 q)]; decide
  · rw [cmpZ_eq (by omega)]; decide
theorem div_one (n m : Nat) (h : m ≤ n) (hn : (natL n).length ≤ 1000000) (hm : (natL m).length = 1) : VCall Tryz.prog 48 [natA n, natA m] (.tup [natA (n / m), natA (n % m)]) := by
  have hc := cmp_ok n m (by omega) (by omega)
  have hcn := cmp_not h
  obtain ⟨t, low, ht, htb, htp, hv, hlow⟩ := top_limb (Nat.le_refl 1) hm
  have hmt : m = t := by
    simp at hv hlow
    subst hlow
    rw [hv]; simp
  subst hmt
  have hds := divSmall_ok (natL n) m (natL_lim n) (by omega) ⟨htp, htb⟩
  rw [valL_natL] at hds
  have hr : n % m < 4294967296 := Nat.lt_trans (Nat.mod_lt _ htp) htb
  have hsm := small_ok (n % m) (by omega)
  refine ACall.value0 (acall_of_ax (P := Tryz.prog) (fn := Tryz.f48) rfl rfl (by kernel_rfl) rfl (fun c hR hfix => ?_)) (fix := fun _ => False) (fun _ h => h) rfl rfl
  repeat (first
    | refine ax_q (q_move rfl) ?_
    | refine ax_q (q_assign rfl) ?_
    | refine ax_ops_nil ?_
    | refine ax_post_code ?_
    | refine ax_seq ?_
    | refine ax_region rfl ?_)
  refine ax_callv rfl rfl rfl hc ?_
  repeat (first
    | refine ax_ops_nil ?_
    | refine ax_post_code ?_
    | refine ax_q (q_lss rfl rfl) ?_)
  refine ax_cond_dec rfl (fun q => absurd q hcn) (fun q => ?_)
  unfold natA
  repeat (first
    | refine ax_q (q_move rfl) ?_
    | refine ax_ops_nil ?_
    | refine ax_post_code ?_
    | refine ax_seq ?_
    | refine ax_region rfl ?_
    | refine ax_skip ?_
    | refine ax_q (q_eql rfl rfl) ?_
    | refine ax_q (q_len rfl rfl rfl) ?_)
  rw [hm]
  repeat (first
    | refine ax_q (q_move rfl) ?_
    | refine ax_q (q_loadi_rp rfl rfl rfl) ?_
    | refine ax_seq ?_
    | refine ax_region rfl ?_
    | refine ax_cond_true rfl ?_
    | refine ax_q (q_index_ro' rfl rfl rfl rfl (by first | (simp only [Nat.zero_add, Int.toNat_natCast, Int.toNat_zero]; exact rfl) | exact rfl) (by omega)) ?_)
  refine ax_slot_ops 31 (.int .u32 (m : Nat)) rfl (AEq.of_eq (by congr 1)) ?_
  refine ax_callv rfl rfl rfl hds ?_
  repeat (first
    | refine ax_q (q_move rfl) ?_
    | refine ax_q (q_assign rfl) ?_
    | refine ax_ops_nil ?_
    | refine ax_post_code ?_
    | refine ax_seq ?_
    | refine ax_region rfl ?_
    | refine ax_q (q_extract rfl rfl) ?_)
  refine ax_q (q_uconv (m := n % m) rfl rfl rfl uk64 (by omega)) ?_
  refine ax_callv rfl rfl rfl hsm ?_
  repeat (first
    | refine ax_q (q_assign rfl) ?_
    | refine ax_ops_nil ?_
    | refine ax_post_code ?_
    | refine ax_return ?_
    | refine ax_ret_code ?_)
  exact ax_ret hR rfl rfl
end Go.Proofs.YtbeegiiiochblaaGreatDoor

namespace Go.Proofs.YtbeegiiiochblaaGreatDoor
open Go.Ax Go.Ax.Bg Go.RowKit
attribute [local irreducible] Ax Post QOp ACall
set_option maxRecDepth 100000
set_option maxHeartbeats 4000000

theorem div_many (n m : Nat) (h : m ≤ n) (hn : (natL n).length ≤ 1000000) (hm2 : 2 ≤ (natL m).length) : VCall Tryz.prog 48 [natA n, natA m] (.tup [natA (n / m), natA (n % m)]) := by
  have hlm : (natL m).length ≤ (natL n).length := natL_len_le (by have := valL_lt (natL_lim n); rw [valL_natL] at this; omega)
  have hc := cmp_ok n m (by omega) (by omega)
  have hcn := cmp_not h
  have hm0 : 0 < m := by
    rcases Nat.eq_zero_or_pos m with q | q
    · subst q; rw [natL_zero] at hm2; simp at hm2
    · exact q
  have hnB : n < B ^ (natL n).length := by have := valL_lt (natL_lim n); rwa [valL_natL] at this
  obtain ⟨s, hs⟩ : ∃ s, (natL m).length = s := ⟨_, rfl⟩
  obtain ⟨ln, hln⟩ : ∃ ln, (natL n).length = ln := ⟨_, rfl⟩
  rw [hs] at hm2 hlm
  rw [hln] at hn hnB hlm
  obtain ⟨t, low, ht, htb, htp, hv, hlow⟩ := top_limb (show 1 ≤ s by omega) hs
  refine ACall.value0 (acall_of_ax (P := Tryz.prog) (fn := Tryz.f48) rfl rfl (by kernel_rfl) rfl (fun c hR hfix => ?_)) (fix := fun _ => False) (fun _ h => h) rfl rfl
  repeat (first
    | refine ax_q (q_move rfl) ?_
    | refine ax_q (q_assign rfl) ?_
    | refine ax_ops_nil ?_
    | refine ax_post_code ?_
    | refine ax_seq ?_
    | refine ax_region rfl ?_)
  refine ax_callv rfl rfl rfl hc ?_
  repeat (first
    | refine ax_ops_nil ?_
    | refine ax_post_code ?_
    | refine ax_q (q_lss rfl rfl) ?_)
  refine ax_cond_dec rfl (fun q => absurd q hcn) (fun q => ?_)
  have en : natA n = .ro (.ints .u32 (natL n)) 0 ln := by unfold natA; rw [hln]
  have em : natA m = .ro (.ints .u32 (natL m)) 0 s := by unfold natA; rw [hs]
  rw [en, em]
  repeat (first
    | refine ax_q (q_move rfl) ?_
    | refine ax_ops_nil ?_
    | refine ax_post_code ?_
    | refine ax_seq ?_
    | refine ax_region rfl ?_
    | refine ax_skip ?_
    | refine ax_q (q_eql rfl rfl) ?_
    | refine ax_q (q_len rfl rfl rfl) ?_)
  refine ax_cond_dec rfl (fun q => absurd q (by omega)) (fun q => ?_)
  repeat (first
    | refine ax_q (q_assign rfl) ?_
    | refine ax_ops_nil ?_
    | refine ax_post_code ?_
    | refine ax_seq ?_
    | refine ax_region rfl ?_
    | refine ax_block ?_
    | refine ax_skip ?_)
  refine ax_loop (ι := Nat) (fun k => [(0, .ro (.ints .u32 (natL n)) 0 ln), (1, .ro (.ints .u32 (natL m)) 0 s), (8, .int .i64 (k : Nat))]) (fun _ => []) (fun k => k ≤ 31 ∧ t * 2 ^ k < 4294967296) (fun k => 32 - k) 0 ⟨⟨rfl, rfl, rfl, trivial⟩, rfl, by omega, by rw [Nat.pow_zero, Nat.mul_one]; exact htb⟩ ?_
  rintro k ⟨hk1, hk2⟩
  repeat (first
    | refine ax_q (q_move rfl) ?_
    | refine ax_seq ?_
    | refine ax_region rfl ?_
    | refine ax_q (q_len rfl rfl rfl) ?_
    | refine ax_q (q_sub rfl rfl (by omega)) ?_)
  refine ax_slot_ops 42 (.int .i64 (s - 1 : Nat)) rfl (AEq.of_eq (by congr 1; omega)) ?_
  repeat (first
    | refine ax_q (q_move rfl) ?_
    | refine ax_q (q_loadi_rp rfl rfl rfl) ?_
    | refine ax_q (q_index_ro' rfl rfl rfl rfl (by first | (simp only [Nat.zero_add, Int.toNat_natCast, Int.toNat_zero]; exact rfl) | exact rfl) (by omega)) ?_)
  refine ax_slot_ops 44 (.int .u32 (t : Nat)) rfl (AEq.of_eq (by rw [ht])) ?_
  skip
  refine ax_q (q_ushl (m := t) (s := k) rfl rfl (by show k ≤ 32; omega) uk32 hk2) ?_
  refine ax_q (q_ushr (s := 31) rfl rfl rfl) ?_
  repeat (first
    | refine ax_ops_nil ?_
    | refine ax_post_code ?_
    | refine ax_q (q_eql rfl rfl) ?_)
  refine ax_cond_dec rfl (fun q1 => ?_) (fun q1 => ?_)
  · have hmore := k_more htp hk2 hk1 (by omega)
    repeat (first
      | refine ax_q (q_move rfl) ?_
      | refine ax_q (q_assign rfl) ?_
      | refine ax_ops_nil ?_
      | refine ax_post_code ?_
      | refine ax_region rfl ?_
      | refine ax_post_blk ?_
      | refine ax_block ?_
      | refine ax_skip ?_
      | refine ax_q (q_add rfl rfl (by omega)) ?_)
    exact ax_post_inv ⟨k + 1, ⟨hmore.2, hmore.1⟩, by omega, ⟨rfl, rfl, rfl, trivial⟩, rfl⟩
  have hstop := k_stop (t := t) (k := k) (by omega)
  obtain ⟨hnl, hnt⟩ := norm_top (show 1 ≤ s by omega) hs ht hstop hk2 hk1
  have hsn := shift_ok (natL n) k (natL_lim n) (by omega) (by omega)
  have hsm := shift_ok (natL m) k (natL_lim m) (by omega) (by omega)
  rw [valL_natL, hln] at hsn
  rw [valL_natL, hs] at hsm
  have hvB : m * 2 ^ k < B ^ s := by have := valL_lt (natL_lim (m * 2 ^ k)); rwa [valL_natL, hnl] at this
  have hvB1 : m * 2 ^ k < B ^ (s + 1) := Nat.lt_of_lt_of_le hvB (Nat.pow_le_pow_right (by decide) (by omega))
  have hnorm := norm_ok (fixL (s + 1) (m * 2 ^ k)) (fixL_lim _ _) (by rw [fixL_len]; omega)
  rw [fixL_val _ _ hvB1] at hnorm
  have hstart := quo_start hnB hk1 (show 1 ≤ s by omega) hlm (top_ge (show 1 ≤ s by omega) hnl hnt)
  have hv0 : 0 < m * 2 ^ k := Nat.mul_pos hm0 (Nat.pow_pos (by decide))
  have ev : natA (m * 2 ^ k) = .ro (.ints .u32 (natL (m * 2 ^ k))) 0 s := by unfold natA; rw [hnl]
  have hdig := fun (A U C : List Int) (j : Nat) (Hr : AHeap) (hj : A.length = j) (hl : U.length = s + 1) (hU : Lim U) => digit_ok A U C (natL (m * 2 ^ k)) j s Hr hj hm2 hl hnl hU (natL_lim _) hnt
  rw [valL_natL] at hdig
  have hend := fun Q W => quo_end (n := n) (m := m) (k := k) (W := W) (Q := Q) hm0
  obtain ⟨v, hve⟩ : ∃ v, m * 2 ^ k = v := ⟨_, rfl⟩
  rw [hve] at hsm hvB hvB1 hnorm hstart hv0 ev hdig hend hnl
  repeat (first
    | refine ax_q (q_move rfl) ?_
    | refine ax_post_code ?_
    | refine ax_seq ?_
    | refine ax_region rfl ?_
    | refine ax_exit ?_
    | refine ax_exit_here ?_
    | refine ax_exit_code ?_
    | refine ax_exit_inv ?_)
  have c1 : [AV.ro (.ints .u32 (natL n)) 0 ln, .int .i64 (k : Nat)] ++ [] = [limA (natL n), .int .i64 (k : Nat)] := by unfold limA; rw [hln]; rfl
  have c2 : [AV.ro (.ints .u32 (natL m)) 0 s, .int .i64 (k : Nat)] ++ [] = [limA (natL m), .int .i64 (k : Nat)] := by unfold limA; rw [hs]; rfl
  refine ax_callf rfl rfl c1 hsn ?_
  repeat (refine ax_q (q_move rfl) ?_)
  refine ax_callf rfl rfl c2 hsm ?_
  refine ax_give 1 56 (s + 1) [(0, .ro (.ints .u32 (natL n)) 0 ln), (8, .int .i64 (k : Nat)), (53, .sl 0 0 (ln + 1))] rfl refless_ints rfl (by show _ ≤ (fixL _ _).length; rw [fixL_len]; omega) ⟨rfl, rfl, rfl, trivial⟩ ?_
  refine ax_callv rfl rfl (give_call (fixL_len _ _)) hnorm ?_
  rw [ev]
  repeat (first
    | refine ax_q (q_move rfl) ?_
    | refine ax_q (q_assign rfl) ?_
    | refine ax_ops_nil ?_
    | refine ax_post_code ?_
    | refine ax_seq ?_
    | refine ax_region rfl ?_
    | refine ax_q (q_len rfl rfl rfl) ?_
    | refine ax_q (q_sub rfl rfl (by omega)) ?_)
  refine ax_make rfl rfl rfl rfl rfl rfl rfl rfl (by show (0 : Int) ≤ _ ∧ _ ≤ _ ∧ (4 : Int) * _ ≤ _ ∧ _; omega) ?_
  obtain ⟨J, hJ⟩ : ∃ J, J + s = ln + 1 := ⟨ln + 1 - s, by omega⟩
  rw [show (((ln + 1 : Nat) : Int) - (s : Nat)).toNat = J by omega]
  rw [show ln + 1 - s = J by omega] at hstart
  repeat (first
    | refine ax_q (q_move rfl) ?_
    | refine ax_q (q_assign rfl) ?_
    | refine ax_ops_nil ?_
    | refine ax_post_code ?_
    | refine ax_seq ?_
    | refine ax_region rfl ?_
    | refine ax_block ?_
    | refine ax_q (q_len rfl rfl rfl) ?_
    | refine ax_q (q_sub rfl rfl (by omega)) ?_)
  refine ax_loop (ι := Nat × Nat × List Int) (fun p => [(8, .int .i64 (k : Nat)), (9, .sl 0 0 (ln + 1)), (10, .ro (.ints .u32 (natL v)) 0 s), (11, .int .i64 (s : Nat)), (12, .sl 2 0 J), (13, .int .i64 ((p.1 : Int) - 1))]) (fun p => [some ⟨95, .ints .u32 (fixL (ln + 1) p.2.1)⟩, none, some ⟨95, .ints .u32 p.2.2⟩])
    (fun p => p.1 ≤ J ∧ p.2.1 < v * B ^ p.1 ∧ p.2.2.length = J ∧ Lim p.2.2 ∧ (∀ x, x < p.1 → p.2.2.getD x 0 = 0) ∧ valL p.2.2 * v + p.2.1 = n * 2 ^ k) (fun p => p.1) (J, n * 2 ^ k, List.replicate J 0)
    ⟨⟨rfl, rfl, rfl, rfl, rfl, ?_, trivial⟩, rfl, Nat.le_refl _, hstart, by simp, Lim.zeros _, fun x _ => zeros_at _ _, by simp [valL_zeros]⟩ ?_
  · show some (AV.int .i64 _) = _
    congr 2
    omega
  rintro ⟨j1, W, Q⟩ ⟨w1, w2, w3, w4, w5, w6⟩
  simp only at *
  repeat (first
    | refine ax_q (q_move rfl) ?_
    | refine ax_ops_nil ?_
    | refine ax_post_code ?_
    | refine ax_seq ?_
    | refine ax_region rfl ?_
    | refine ax_q (q_geq rfl rfl) ?_)
  refine ax_cond_dec rfl (fun q2 => ?_) (fun q2 => ?_)
  · obtain ⟨j, rfl⟩ : ∃ j, j1 = j + 1 := ⟨j1 - 1, by omega⟩
    obtain ⟨p1, p2, p3, W', p4, p5, p6⟩ := quo_step (N := ln + 1) hv0 hvB w2 (show j + (s + 1) ≤ ln + 1 by omega)
    have hd := hdig (fixL j W) (fixL (s + 1) (W / B ^ j)) (fixL (ln + 1 - (j + (s + 1))) (W / B ^ j / B ^ (s + 1))) j [none, some ⟨95, .ints .u32 Q⟩] (fixL_len _ _) (fixL_len _ _) (fixL_lim _ _) (by rw [p2]; exact p3) (by rw [← p1, fixL_len]; omega)
    rw [p2, p4, ← p1] at hd
    have hq : W / B ^ j / v < 4294967296 := Nat.div_lt_of_lt_mul (by rw [Nat.mul_comm]; exact p3)
    obtain ⟨dg, hdg⟩ : ∃ dg, W / B ^ j / v = dg := ⟨_, rfl⟩
    rw [hdg] at hd hq p6
    repeat (first
      | refine ax_q (q_move rfl) ?_
      | refine ax_post_code ?_
      | refine ax_seq ?_
      | refine ax_region rfl ?_
      | refine ax_block ?_
      | refine ax_skip ?_
      | refine ax_q (q_add rfl rfl (by omega)) ?_
      | refine ax_q (q_slice_sl rfl rfl rfl rfl rfl rfl rfl rfl (by omega)) ?_)
    refine ax_slot_ops 82 (.sl 0 j (s + 1)) rfl (AEq.of_eq (by congr 1 <;> omega)) ?_
    skip
    have c3 : [AV.sl 0 j (s + 1), .ro (.ints .u32 (natL v)) 0 s] ++ [] = [.sl 0 j (s + 1), limA (natL v)] := by unfold limA; rw [hnl]; rfl
    refine ax_callc rfl rfl c3 hd (fun h hh => hh) (fun h hh => hh) ?_
    rintro r H ⟨rfl, rfl⟩
    refine ax_slot_ops 75 (.int .i64 (j : Nat)) rfl (AEq.of_eq (by congr 1; omega)) ?_
    repeat (first
      | refine ax_q (q_move rfl) ?_
      | refine ax_q (q_assign rfl) ?_
      | refine ax_ops_nil ?_
      | refine ax_post_code ?_
      | refine ax_region rfl ?_
      | refine ax_post_blk ?_
      | refine ax_q (q_sub rfl rfl (by omega)) ?_
      | refine ax_q (q_index_sl' rfl rfl rfl rfl rfl (by first | (simp only [Nat.zero_add, Int.toNat_natCast, Int.toNat_zero]; exact rfl) | exact rfl) (by omega)) ?_
      | refine ax_store rfl rfl rfl rfl rfl rfl rfl (by first | assumption | (show _ < List.length _; first | assumption | omega)) ?_)
    have hz := w5 j (by omega)
    have hset := valL_set (x := (dg : Int)) (show j < Q.length by omega)
    rw [hz, Int.toNat_natCast] at hset
    have z0 : (0 : Int).toNat = 0 := rfl
    rw [z0, Nat.mul_zero, Nat.add_zero] at hset
    refine ax_post_inv ⟨(j, W', Q.set j (dg : Int)), ⟨by simp only; omega, p5, by simp [w3], w4.set (by omega), fun x hx => ?_, ?_⟩, by simp only; omega, ⟨rfl, rfl, rfl, rfl, rfl, ?_, trivial⟩, rfl⟩
    · simp only at hx ⊢
      rw [lgetD_set_ne (by omega)]; exact w5 x (by omega)
    · simp only
      rw [hset, Nat.add_mul, Nat.mul_assoc, Nat.mul_comm dg v]
      omega
    · show some (AV.int .i64 _) = _
      congr 2
      omega
  · have hj0 : j1 = 0 := by omega
    subst hj0
    rw [Nat.pow_zero, Nat.mul_one] at w2
    have he := hend (valL Q) W
    obtain ⟨hq, hW⟩ := he w6 w2
    clear he hend
    have hWB : W < B ^ s := Nat.lt_trans w2 hvB
    have htk : (fixL (ln + 1) W).take s = fixL s W := by
      rw [show ln + 1 = s + J by omega, fixL_add, List.take_left' (fixL_len _ _)]
    have hn1 := norm_ok (fixL s W) (fixL_lim _ _) (by rw [fixL_len]; omega)
    rw [fixL_val _ _ hWB] at hn1
    repeat (first
      | refine ax_q (q_move rfl) ?_
      | refine ax_post_code ?_
      | refine ax_seq ?_
      | refine ax_region rfl ?_
      | refine ax_exit ?_
      | refine ax_exit_here ?_
      | refine ax_exit_code ?_
      | refine ax_exit_inv ?_)
    refine ax_q (q_slice_sl0 rfl rfl rfl rfl rfl rfl rfl rfl ⟨rfl, by omega, by omega⟩) ?_
    refine ax_slot_ops 88 (.sl 0 0 s) rfl (AEq.of_eq (by rw [Int.toNat_natCast])) ?_
    refine ax_give 0 88 s [(8, .int .i64 (k : Nat)), (12, .sl 2 0 J)] rfl refless_ints rfl (by show _ ≤ (fixL _ _).length; rw [fixL_len]; omega) ⟨rfl, rfl, trivial⟩ ?_
    refine ax_slot_ops 88 (.ro (.ints .u32 (fixL s W)) 0 s) rfl (AEq.trans AEq.take (AEq.of_eq (by rw [htk]))) ?_
    refine ax_callv rfl rfl (give_call (fixL_len _ _)) hn1 ?_
    have hlW := natL_lim W
    have hWv := valL_natL W
    have hlWl : (natL W).length ≤ s := natL_len_le hWB
    unfold natA
    obtain ⟨r, hr⟩ : ∃ r, natL W = r := ⟨_, rfl⟩
    rw [hr] at hlW hWv hlWl ⊢
    repeat (first
      | refine ax_q (q_move rfl) ?_
      | refine ax_q (q_assign rfl) ?_
      | refine ax_ops_nil ?_
      | refine ax_post_code ?_
      | refine ax_seq ?_
      | refine ax_region rfl ?_
      | refine ax_q (q_len rfl rfl rfl) ?_)
    refine ax_make rfl rfl rfl rfl rfl rfl rfl rfl (by show (0 : Int) ≤ _ ∧ _ ≤ _ ∧ (4 : Int) * _ ≤ _ ∧ _; omega) ?_
    repeat (first
      | refine ax_q (q_move rfl) ?_
      | refine ax_q (q_assign rfl) ?_
      | refine ax_ops_nil ?_
      | refine ax_post_code ?_
      | refine ax_seq ?_
      | refine ax_region rfl ?_
      | refine ax_block ?_
      | refine ax_q (q_len rfl rfl rfl) ?_)
    have hd0 : ∃ d0 : Nat, r.getD 0 0 = (d0 : Int) ∧ d0 < 4294967296 := hlW.nat 0
    obtain ⟨d0, hd0, hd0b⟩ := hd0
    refine ax_loop (ι := Nat × List Int) (fun p => [(8, .int .i64 (k : Nat)), (12, .sl 2 0 J), (14, .ro (.ints .u32 r) 0 r.length), (15, .sl 3 0 r.length), (93, .ro (.ints .u32 r) 0 r.length), (94, .int .i64 (r.length : Nat)), (95, .int .i64 (p.1 : Nat))]) (fun p => [none, none, some ⟨95, .ints .u32 Q⟩, some ⟨95, .ints .u32 p.2⟩])
      (fun p => p.1 ≤ r.length ∧ p.2.length = r.length ∧ Lim p.2 ∧ valL (p.2.take p.1) * 2 ^ k + d0 % 2 ^ k = valL (r.take p.1) + (r.getD p.1 0).toNat % 2 ^ k * B ^ p.1) (fun p => r.length - p.1) (0, List.replicate r.length 0)
      ⟨⟨rfl, rfl, rfl, rfl, rfl, rfl, rfl, trivial⟩, rfl, Nat.zero_le _, by simp, Lim.zeros _, by simp [valL]; rw [show r[0]?.getD 0 = (d0 : Int) from hd0]; simp⟩ ?_
    rintro ⟨i, O⟩ ⟨x1, x2, x3, x4⟩
    simp only at *
    repeat (first
      | refine ax_ops_nil ?_
      | refine ax_post_code ?_
      | refine ax_seq ?_
      | refine ax_region rfl ?_
      | refine ax_q (q_lss rfl rfl) ?_)
    refine ax_cond_dec rfl (fun x5 => ?_) (fun x5 => ?_)
    · have hil : i < r.length := by omega
      obtain ⟨d, hd, hdb⟩ := hlW.nat i
      obtain ⟨e, he, heb⟩ := hlW.nat (i + 1)
      have hbl := back_limb (e := e) hdb hk1
      have hbm := back_lim (e := e) hdb hk1
      have hdk : d / 2 ^ k < 4294967296 := Nat.lt_of_le_of_lt (Nat.div_le_self _ _) hdb
      rw [hd, Int.toNat_natCast] at x4
      have hstep := back_val (e := e) (out := O.take i) (i := i) hk1 (by simp; omega) hd x4
      repeat (first
        | refine ax_q (q_move rfl) ?_
        | refine ax_q (q_assign rfl) ?_
        | refine ax_q (q_loadi_rp rfl rfl rfl) ?_
        | refine ax_ops_nil ?_
        | refine ax_post_code ?_
        | refine ax_seq ?_
        | refine ax_region rfl ?_
        | refine ax_block ?_
        | refine ax_skip ?_
        | refine ax_q (q_index_ro' rfl rfl rfl rfl (by first | (simp only [Nat.zero_add, Int.toNat_natCast, Int.toNat_zero]; exact rfl) | exact rfl) (by omega)) ?_)
      refine ax_slot_ops 102 (.int .u32 (d : Nat)) rfl (AEq.of_eq (by rw [hd])) ?_
      skip
      refine ax_q (q_ushr (m := d) (s := k) rfl rfl (by rw [Nat.ble_eq]; show k ≤ 32; omega)) ?_
      repeat (first
        | refine ax_q (q_move rfl) ?_
        | refine ax_ops_nil ?_
        | refine ax_post_code ?_
        | refine ax_seq ?_
        | refine ax_region rfl ?_
        | refine ax_q (q_lss rfl rfl) ?_
        | refine ax_q (q_len rfl rfl rfl) ?_
        | refine ax_q (q_add rfl rfl (by omega)) ?_
        | refine ax_q (q_index_sl' rfl rfl rfl rfl rfl (by first | (simp only [Nat.zero_add, Int.toNat_natCast, Int.toNat_zero]; exact rfl) | exact rfl) (by omega)) ?_
        | refine ax_store rfl rfl rfl rfl rfl rfl rfl (by first | assumption | (show _ < List.length _; first | assumption | omega)) ?_)
      apply ax_tail_code (H := [none, none, some ⟨95, .ints .u32 Q⟩, some ⟨95, .ints .u32 (O.set i ((d / 2 ^ k + e % 2 ^ k * 2 ^ (32 - k) : Nat) : Int))⟩]) [(8, .int .i64 (k : Nat)), (12, .sl 2 0 J), (14, .ro (.ints .u32 r) 0 r.length), (15, .sl 3 0 r.length), (93, .ro (.ints .u32 r) 0 r.length), (94, .int .i64 (r.length : Nat)), (95, .int .i64 (i : Nat))]
      · intro fin
        have noFin : (i + 1 = r.length ∨ k = 0) → e % 2 ^ k * 2 ^ (32 - k) = 0 := by
          rintro (h | h)
          · have : r.getD (i + 1) 0 = 0 := by simp [List.getD, List.getElem?_eq_none (show r.length ≤ i + 1 by omega)]
            have : e = 0 := by omega
            subst this; simp
          · subst h; rw [Nat.pow_zero, Nat.mod_one]; try simp
        refine ax_gsplit rfl rfl (fun y1 => ?_) (fun y1 => ?_)
        · repeat (first
            | refine ax_q (q_move rfl) ?_
            | refine ax_ops_nil ?_
            | refine ax_post_code ?_
            | refine ax_guard rfl rfl ?_
            | refine ax_q (q_gtr rfl rfl) ?_
            | refine ax_q (q_pick rfl rfl) ?_)
          refine ax_cond_dec rfl (fun y2 => ?_) (fun y2 => ?_)
          · skip
            refine ax_regiond (by kernel_rfl) ?_
            refine ax_any_q 0 rfl (by kernel_rfl) (by kernel_rfl) (by kernel_rfl) rfl (q_move rfl) rfl ?_
            refine ax_any_q 1 rfl (by kernel_rfl) (by kernel_rfl) (by kernel_rfl) rfl (q_move rfl) rfl ?_
            refine ax_any_q 2 rfl (by kernel_rfl) (by kernel_rfl) (by kernel_rfl) rfl (q_index_sl' rfl rfl rfl rfl rfl (by first | (simp only [Nat.zero_add, Int.toNat_natCast, Int.toNat_zero]; exact rfl) | exact rfl) (by omega)) rfl ?_
            refine ax_any_q 4 rfl (by kernel_rfl) (by kernel_rfl) (by kernel_rfl) rfl (q_move rfl) rfl ?_
            refine ax_any_q 5 rfl (by kernel_rfl) (by kernel_rfl) (by kernel_rfl) rfl (q_move rfl) rfl ?_
            refine ax_any_q 6 rfl (by kernel_rfl) (by kernel_rfl) (by kernel_rfl) rfl (q_add rfl rfl (by omega)) rfl ?_
            refine ax_any_q 7 rfl (by kernel_rfl) (by kernel_rfl) (by kernel_rfl) rfl (q_index_ro' rfl rfl rfl rfl (by first | (simp only [Nat.zero_add, Int.toNat_natCast, Int.toNat_zero]; exact rfl) | exact rfl) (by omega)) rfl ?_
            refine ax_any_q 9 rfl (by kernel_rfl) (by kernel_rfl) (by kernel_rfl) rfl (q_move rfl) rfl ?_
            refine ax_any_q 10 rfl (by kernel_rfl) (by kernel_rfl) (by kernel_rfl) rfl (q_sub rfl rfl (by omega)) rfl ?_
            apply ax_tail_any [(8, .int .i64 (k : Nat)), (12, .sl 2 0 J), (14, .ro (.ints .u32 r) 0 r.length), (15, .sl 3 0 r.length), (93, .ro (.ints .u32 r) 0 r.length), (94, .int .i64 (r.length : Nat)), (95, .int .i64 (i : Nat)), (118, .int .u32 (d / 2 ^ k : Nat)), (126, .int .u32 (e * 2 ^ (32 - k) % 4294967296 : Nat)), (115, .sl 3 0 r.length), (116, .int .i64 (i : Nat))]
            · intro fin2
              have hsl : (O.set i ((d / 2 ^ k : Nat) : Int)).getD i 0 = ((d / 2 ^ k : Nat) : Int) := by simp [List.getD, show i < O.length by omega]
              have hil2 : i < (O.set i ((d / 2 ^ k : Nat) : Int)).length := by simp; omega
              refine ax_any_step (is := [3, 8]) (by kernel_rfl) (by simp) rfl ⟨fun o ho => ?_, fun o ho => ?_, trivial⟩
              all_goals (cases ho)
              · repeat (first
                  | refine ax_ops_nil ?_
                  | refine ax_post_any ?_
                  | refine ax_q (q_loadi_ptr rfl rfl rfl rfl (by first | assumption | omega)) ?_)
                refine ax_any_step (is := [8]) (by kernel_rfl) (by simp) rfl ⟨fun o ho => ?_, trivial⟩
                all_goals (cases ho)
                repeat (first
                  | refine ax_q (q_loadi_rp rfl rfl rfl) ?_
                  | refine ax_ops_nil ?_
                  | refine ax_post_any ?_)
                refine ax_slot_any 123 (.int .u32 (e : Nat)) rfl (AEq.of_eq (by rw [show ((i : Int) + 1).toNat = i + 1 by omega, he])) ?_
                refine ax_slot_any 125 (.int .i64 (32 - k : Nat)) rfl (AEq.of_eq (by congr 1; omega)) ?_
                refine ax_any_q 11 rfl (by kernel_rfl) (by kernel_rfl) (by kernel_rfl) rfl (q_ushlw (m := e) (s := 32 - k) rfl rfl (by show 32 - k ≤ 32; omega) uk32) rfl ?_
                refine fin2 _ ⟨rfl, rfl, rfl, rfl, rfl, rfl, rfl, ?_, rfl, rfl, rfl, trivial⟩
                show some (AV.int .u32 ((O.set i ((d / 2 ^ k : Nat) : Int)).getD i 0)) = _
                rw [hsl]
              · repeat (first
                  | refine ax_q (q_loadi_rp rfl rfl rfl) ?_
                  | refine ax_ops_nil ?_
                  | refine ax_post_any ?_)
                refine ax_slot_any 123 (.int .u32 (e : Nat)) rfl (AEq.of_eq (by rw [show ((i : Int) + 1).toNat = i + 1 by omega, he])) ?_
                refine ax_slot_any 125 (.int .i64 (32 - k : Nat)) rfl (AEq.of_eq (by congr 1; omega)) ?_
                refine ax_any_q 11 rfl (by kernel_rfl) (by kernel_rfl) (by kernel_rfl) rfl (q_ushlw (m := e) (s := 32 - k) rfl rfl (by show 32 - k ≤ 32; omega) uk32) rfl ?_
                refine ax_any_step (is := [3]) (by kernel_rfl) (by simp) rfl ⟨fun o ho => ?_, trivial⟩
                all_goals (cases ho)
                repeat (first
                  | refine ax_ops_nil ?_
                  | refine ax_post_any ?_
                  | refine ax_q (q_loadi_ptr rfl rfl rfl rfl (by first | assumption | omega)) ?_)
                refine fin2 _ ⟨rfl, rfl, rfl, rfl, rfl, rfl, rfl, ?_, rfl, rfl, rfl, trivial⟩
                show some (AV.int .u32 ((O.set i ((d / 2 ^ k : Nat) : Int)).getD i 0)) = _
                rw [hsl]
            refine ax_any_q 12 rfl (by kernel_rfl) (by kernel_rfl) (by kernel_rfl) rfl (QOp.res (q_uor rfl rfl uk32 rfl hdk (Nat.mod_lt _ (by decide))) (by rw [hbl])) rfl ?_
            have hil2 : i < (O.set i ((d / 2 ^ k : Nat) : Int)).length := by simp; omega
            refine ax_any_q 13 rfl (by kernel_rfl) (by kernel_rfl) (by kernel_rfl) rfl (q_index_sl' rfl rfl rfl rfl rfl (by first | (simp only [Nat.zero_add, Int.toNat_natCast, Int.toNat_zero]; exact rfl) | exact rfl) (by omega)) rfl ?_
            refine ax_any_step (is := [14]) (by kernel_rfl) (by simp) rfl ⟨fun o ho => ?_, trivial⟩
            all_goals (cases ho)
            repeat (first
              | refine ax_ops_nil ?_
              | refine ax_post_any ?_
              | refine ax_store rfl rfl rfl rfl rfl rfl rfl (by first | assumption | (show _ < List.length _; first | assumption | omega)) ?_)
            refine ax_any_done (by kernel_rfl) ?_
            repeat (first
              | refine ax_post_code ?_
              | refine ax_post_blk ?_)
            refine ax_heap_eq _ (by show [none, none, _, some (⟨_, .ints .u32 ((O.set i _).set i _)⟩ : AObj)] = _; rw [List.set_set]) ?_
            exact fin _ ⟨rfl, rfl, rfl, rfl, rfl, rfl, rfl, trivial⟩
          · have hz := noFin (.inr (by omega))
            rw [hz, Nat.add_zero] at fin
            repeat (first
              | refine ax_post_code ?_
              | refine ax_post_blk ?_
              | refine ax_skip ?_)
            exact fin _ ⟨rfl, rfl, rfl, rfl, rfl, rfl, rfl, trivial⟩
        · have hz := noFin (.inl (by omega))
          rw [hz, Nat.add_zero] at fin
          repeat (first
            | refine ax_ops_nil ?_
            | refine ax_post_code ?_
            | refine ax_skip_not rfl rfl rfl ?_
            | refine ax_cond_false rfl ?_
            | refine ax_post_blk ?_
            | refine ax_skip ?_
            | refine ax_q (q_pick rfl rfl) ?_)
          exact fin _ ⟨rfl, rfl, rfl, rfl, rfl, rfl, rfl, trivial⟩
      repeat (first
        | refine ax_q (q_move rfl) ?_
        | refine ax_ops_nil ?_
        | refine ax_region rfl ?_
        | refine ax_q (q_add rfl rfl (by omega)) ?_)
      refine ax_post_inv ⟨(i + 1, O.set i ((d / 2 ^ k + e % 2 ^ k * 2 ^ (32 - k) : Nat) : Int)), ⟨by simp only; omega, by simp [x2], x3.set (by omega), ?_⟩, by simp only; omega, ⟨rfl, rfl, rfl, rfl, rfl, rfl, rfl, trivial⟩, rfl⟩
      simp only
      rw [take_set_succ (by omega), he, Int.toNat_natCast]
      exact hstep
    · have hie : i = r.length := by omega
      subst hie
      have hz : r.getD r.length 0 = 0 := by simp [List.getD]
      have z0 : (0 : Int).toNat = 0 := rfl
      rw [hz, z0, Nat.zero_mod, Nat.zero_mul, Nat.add_zero, List.take_of_length_le (by omega), List.take_length, hWv, hW] at x4
      have hpk : 0 < 2 ^ k := Nat.pow_pos (by decide)
      have hOv : valL O = n % m := by
        have h1 : d0 % 2 ^ k < 2 ^ k := Nat.mod_lt _ hpk
        have h2 : (valL O * 2 ^ k + d0 % 2 ^ k) / 2 ^ k = valL O := by rw [Nat.add_comm, Nat.add_mul_div_right _ _ hpk, Nat.div_eq_of_lt h1, Nat.zero_add]
        rw [x4, Nat.mul_div_cancel _ hpk] at h2
        exact h2.symm
      have nq := norm_ok Q w4 (by omega)
      have no := norm_ok O x3 (by omega)
      rw [hq] at nq
      rw [hOv] at no
      repeat (first
        | refine ax_q (q_move rfl) ?_
        | refine ax_post_code ?_
        | refine ax_seq ?_
        | refine ax_region rfl ?_
        | refine ax_exit ?_
        | refine ax_exit_here ?_
        | refine ax_exit_code ?_
        | refine ax_exit_inv ?_)
      refine ax_give 2 130 J [(15, .sl 3 0 r.length)] rfl refless_ints rfl (by show _ ≤ Q.length; omega) ⟨rfl, trivial⟩ ?_
      refine ax_callv rfl rfl (give_call w3) nq ?_
      repeat (refine ax_q (q_move rfl) ?_)
      refine ax_give 3 132 r.length [(131, natA (n / m))] rfl refless_ints rfl (by show _ ≤ O.length; omega) ⟨rfl, trivial⟩ ?_
      refine ax_callv rfl rfl (give_call x2) no ?_
      repeat (first
        | refine ax_q (q_assign rfl) ?_
        | refine ax_ops_nil ?_
        | refine ax_post_code ?_
        | refine ax_return ?_)
      exact ax_ret hR rfl rfl
end Go.Proofs.YtbeegiiiochblaaGreatDoor

/-
  Rows turned round, and what else the texts of numbers need. No program in sight.
-/
namespace Go.Ax.Bg

theorem natL_mono_len {a b k : Nat} (h : a < b) (hb : (natL b).length ≤ k) : (natL a).length ≤ k := by
  have h1 := valL_lt (natL_lim b)
  rw [valL_natL] at h1
  have := natL_len_le (Nat.lt_trans h h1)
  omega
theorem natL_le_len {a b k : Nat} (h : a ≤ b) (hb : (natL b).length ≤ k) : (natL a).length ≤ k := by
  rcases Nat.lt_or_ge a b with q | q
  · exact natL_mono_len q hb
  · have : a = b := by omega
    subst this; exact hb
theorem natL_one : natL 1 = [1] := by
  rw [natL_pos (by decide)]
  have : 1 / B = 0 := by decide
  rw [this, natL_zero]; rfl
theorem one_limbs {n : Nat} : n = 1 ↔ (natL n).length = 1 ∧ (natL n).getD 0 0 = 1 := by
  constructor
  · rintro rfl; rw [natL_one]; exact ⟨rfl, rfl⟩
  · rintro ⟨h1, h2⟩
    have h3 := valL_take_succ' (natL n) 0
    rw [List.take_of_length_le (by omega), valL_natL, h2] at h3
    simpa [valL] using h3
/-- A row of which k elements on each side have changed places. -/
def revK (l : List (List UInt8)) (k : Nat) : List (List UInt8) := (List.range l.length).map fun i => if i < k ∨ l.length - k ≤ i then l.getD (l.length - 1 - i) [] else l.getD i []
theorem revK_len (l : List (List UInt8)) (k : Nat) : (revK l k).length = l.length := by unfold revK; simp
theorem revK_at (l : List (List UInt8)) (k i : Nat) (hi : i < l.length) : (revK l k).getD i [] = if i < k ∨ l.length - k ≤ i then l.getD (l.length - 1 - i) [] else l.getD i [] := by
  unfold revK
  simp only [List.getD, List.getElem?_map, List.getElem?_range hi, Option.map_some, Option.getD_some]
theorem ext_getD {l m : List (List UInt8)} (h : l.length = m.length) (he : ∀ i, i < l.length → l.getD i [] = m.getD i []) : l = m := by
  apply List.ext_getElem h
  intro i h1 h2
  have := he i h1
  rw [getD_lt [] h1, getD_lt [] h2] at this
  exact this
theorem revK_zero (l : List (List UInt8)) : revK l 0 = l := by
  refine ext_getD (revK_len l 0) (fun i hi => ?_)
  rw [revK_len] at hi
  rw [revK_at l 0 i hi, if_neg (by omega)]
theorem revK_full (l : List (List UInt8)) {k : Nat} (h : l.length ≤ 2 * k + 1) : revK l k = l.reverse := by
  refine ext_getD (by rw [revK_len, List.length_reverse]) (fun i hi => ?_)
  rw [revK_len] at hi
  have hr : l.reverse.getD i [] = l.getD (l.length - 1 - i) [] := by
    simp only [List.getD]
    rw [List.getElem?_reverse hi]
  rw [revK_at l k i hi, hr]
  split
  · rfl
  · congr 1; omega
theorem revK_step (l : List (List UInt8)) {k : Nat} (h : k + 1 + k < l.length) : ((revK l k).set k ((revK l k).getD (l.length - 1 - k) [])).set (l.length - 1 - k) ((revK l k).getD k []) = revK l (k + 1) := by
  refine ext_getD (by simp [revK_len]) (fun i hi => ?_)
  simp only [List.length_set, revK_len] at hi
  rw [revK_at l (k + 1) i hi, revK_at l k (l.length - 1 - k) (by omega), if_neg (by omega), revK_at l k k (by omega), if_neg (by omega)]
  simp only [List.getD]
  by_cases h1 : i = l.length - 1 - k
  · subst h1
    rw [List.getElem?_set_self (by simp [revK_len]; omega), if_pos (by omega)]
    simp only [Option.getD_some]
    congr 2; omega
  · rw [List.getElem?_set_ne (Ne.symm h1)]
    by_cases h2 : i = k
    · subst h2
      rw [List.getElem?_set_self (by rw [revK_len]; omega), if_pos (by omega)]
      simp only [Option.getD_some]
    · rw [List.getElem?_set_ne (Ne.symm h2)]
      have := revK_at l k i hi
      simp only [List.getD] at this
      rw [this]
      by_cases h3 : i < k ∨ l.length - k ≤ i
      · rw [if_pos h3, if_pos (by omega)]
      · rw [if_neg h3, if_neg (by omega)]
end Go.Ax.Bg

namespace Go.Proofs.YtbeegiiiochblaaGreatDoor
open Go.Ax Go.Ax.Bg Go.RowKit
attribute [local irreducible] Ax Post QOp ACall
set_option maxRecDepth 100000
set_option maxHeartbeats 4000000

theorem div_ok (n m : Nat) (hm : 0 < m) (hn : (natL n).length ≤ 1000000) (hml : (natL m).length ≤ 1000000) : VCall Tryz.prog 48 [natA n, natA m] (.tup [natA (n / m), natA (n % m)]) := by
  rcases Nat.lt_or_ge n m with h | h
  · rw [Nat.div_eq_of_lt h, Nat.mod_eq_of_lt h]
    exact VCall.res (div_less n m h hn hml) (AEq.tup2 AEq.natNil)
  · have h1 : (natL m).length ≠ 0 := by
      have := natL_pos_len.2 (show m ≠ 0 by omega)
      omega
    rcases Nat.lt_or_ge (natL m).length 2 with q | q
    · exact div_one n m h hn (by omega)
    · exact div_many n m h hn q
theorem gcd_ok (n m : Nat) (hn : (natL n).length ≤ 1000000) (hm : (natL m).length ≤ 1000000) : VCall Tryz.prog 50 [natA n, natA m] (natA (Nat.gcd n m)) := by
  refine ACall.value0 (acall_of_ax (P := Tryz.prog) (fn := Tryz.f50) rfl rfl (by kernel_rfl) rfl (fun c hR hfix => ?_)) (fix := fun _ => False) (fun _ h => h) rfl rfl
  repeat (first
    | refine ax_q (q_assign rfl) ?_
    | refine ax_ops_nil ?_
    | refine ax_post_code ?_
    | refine ax_seq ?_
    | refine ax_region rfl ?_
    | refine ax_block ?_)
  refine ax_loop (ι := Nat × Nat) (fun p => [(0, natA p.1), (1, natA p.2)]) (fun _ => []) (fun p => (natL p.1).length ≤ 1000000 ∧ (natL p.2).length ≤ 1000000 ∧ Nat.gcd p.1 p.2 = Nat.gcd n m) (fun p => p.2) (n, m) ⟨⟨rfl, rfl, trivial⟩, rfl, hn, hm, rfl⟩ ?_
  rintro ⟨a, b⟩ ⟨h1, h2, h3⟩
  simp only at *
  have hd := fun h => div_ok a b h h1 h2
  have hpos : 0 < (natL b).length ↔ b ≠ 0 := natL_pos_len
  have en : natA b = .ro (.ints .u32 (natL b)) 0 (natL b).length := rfl
  rw [en] at hd ⊢
  repeat (first
    | refine ax_q (q_move rfl) ?_
    | refine ax_ops_nil ?_
    | refine ax_post_code ?_
    | refine ax_seq ?_
    | refine ax_region rfl ?_
    | refine ax_q (q_gtr rfl rfl) ?_
    | refine ax_q (q_len rfl rfl rfl) ?_)
  refine ax_cond_dec rfl (fun h4 => ?_) (fun h4 => ?_)
  · have hb : b ≠ 0 := hpos.1 (by omega)
    repeat (first
      | refine ax_q (q_move rfl) ?_
      | refine ax_post_code ?_
      | refine ax_seq ?_
      | refine ax_region rfl ?_
      | refine ax_block ?_
      | refine ax_skip ?_)
    refine ax_callv rfl rfl rfl (hd (by omega)) ?_
    repeat (first
      | refine ax_q (q_move rfl) ?_
      | refine ax_q (q_assign rfl) ?_
      | refine ax_ops_nil ?_
      | refine ax_post_code ?_
      | refine ax_region rfl ?_
      | refine ax_post_blk ?_
      | refine ax_q (q_extract rfl rfl) ?_)
    refine ax_post_inv ⟨(b, a % b), ⟨h2, natL_mono_len (Nat.mod_lt a (by omega)) h2, ?_⟩, Nat.mod_lt a (by omega), ⟨rfl, rfl, trivial⟩, rfl⟩
    show Nat.gcd b (a % b) = Nat.gcd n m
    rw [← h3, Nat.gcd_comm a b, Nat.gcd_rec b a, Nat.gcd_comm]
  · have hb : b = 0 := by
      rcases Nat.eq_zero_or_pos b with q | q
      · exact q
      · have := hpos.2 (by omega); omega
    rw [hb, Nat.gcd_zero_right] at h3
    repeat (first
      | refine ax_q (q_move rfl) ?_
      | refine ax_q (q_assign rfl) ?_
      | refine ax_ops_nil ?_
      | refine ax_post_code ?_
      | refine ax_seq ?_
      | refine ax_region rfl ?_
      | refine ax_exit ?_
      | refine ax_exit_here ?_
      | refine ax_exit_code ?_
      | refine ax_exit_inv ?_
      | refine ax_return ?_)
    refine ax_ret hR rfl ?_
    rw [← h3]; rfl
theorem one_ok (n : Nat) : VCall Tryz.prog 92 [natA n] (.bool (decide (n = 1))) := by
  refine ACall.value0 (acall_of_ax (P := Tryz.prog) (fn := Tryz.f92) rfl rfl (by kernel_rfl) rfl (fun c hR hfix => ?_)) (fix := fun _ => False) (fun _ h => h) rfl rfl
  have h1 : n = 1 ↔ (natL n).length = 1 ∧ (natL n).getD 0 0 = 1 := one_limbs
  unfold natA
  repeat (first
    | refine ax_q (q_move rfl) ?_
    | refine ax_q (q_assign rfl) ?_
    | refine ax_ops_nil ?_
    | refine ax_post_code ?_
    | refine ax_seq ?_
    | refine ax_region rfl ?_
    | refine ax_q (q_eql rfl rfl) ?_
    | refine ax_q (q_len rfl rfl rfl) ?_)
  refine ax_gsplit rfl rfl (fun h2 => ?_) (fun h2 => ?_)
  · repeat (first
      | refine ax_q (q_move rfl) ?_
      | refine ax_q (q_assign rfl) ?_
      | refine ax_q (q_loadi_rp rfl rfl rfl) ?_
      | refine ax_ops_nil ?_
      | refine ax_post_code ?_
      | refine ax_guard rfl rfl ?_
      | refine ax_return ?_
      | refine ax_q (q_eql rfl rfl) ?_
      | refine ax_q (q_pick rfl rfl) ?_
      | refine ax_q (q_index_ro' rfl rfl rfl rfl (by first | (simp only [Nat.zero_add, Int.toNat_natCast, Int.toNat_zero]; exact rfl) | exact rfl) (by omega)) ?_)
    refine ax_ret hR rfl ?_
    show AV.bool (decide ((natL n).getD _ 0 = 1)) = _
    congr 1
    rw [decide_eq_decide, h1]
    exact ⟨fun h => ⟨by omega, h⟩, fun h => h.2⟩
  · repeat (first
      | refine ax_q (q_assign rfl) ?_
      | refine ax_ops_nil ?_
      | refine ax_post_code ?_
      | refine ax_skip_not rfl rfl rfl ?_
      | refine ax_return ?_
      | refine ax_q (q_pick rfl rfl) ?_)
    refine ax_ret hR rfl ?_
    show AV.bool false = _
    rw [decide_eq_false]
    intro h
    exact h2 (by have := (h1.1 h).1; omega)

theorem reverse_ok (l : List (List UInt8)) (hl : l.length ≤ 1000000000) :
    ACall Tryz.prog 84 [.sl 0 0 l.length] [some ⟨9, .strs l⟩] (fun h => h < 1) (fun _ H => H = [some ⟨9, .strs l.reverse⟩]) := by
  refine acall_of_ax (P := Tryz.prog) (fn := Tryz.f84) rfl rfl (by kernel_rfl) rfl (fun c hR hfix => ?_)
  repeat (first
    | refine ax_q (q_move rfl) ?_
    | refine ax_q (q_assign rfl) ?_
    | refine ax_ops_nil ?_
    | refine ax_post_code ?_
    | refine ax_seq ?_
    | refine ax_region rfl ?_
    | refine ax_block ?_
    | refine ax_q (q_len rfl rfl rfl) ?_
    | refine ax_q (q_sub rfl rfl (by omega)) ?_)
  refine ax_loop (ι := Nat) (fun k => [(0, .sl 0 0 l.length), (2, .int .i64 (k : Nat)), (3, .int .i64 ((l.length : Int) - 1 - k))]) (fun k => [some ⟨9, .strs (revK l k)⟩]) (fun k => 2 * k ≤ l.length + 1) (fun k => l.length + 1 - k) 0 ⟨⟨rfl, rfl, ?_, trivial⟩, by rw [revK_zero], by omega⟩ ?_
  · show some (AV.int .i64 _) = _
    congr 2; omega
  rintro k hk
  have hrl := revK_len l k
  repeat (first
    | refine ax_q (q_move rfl) ?_
    | refine ax_ops_nil ?_
    | refine ax_post_code ?_
    | refine ax_seq ?_
    | refine ax_region rfl ?_
    | refine ax_q (q_lss rfl rfl) ?_)
  refine ax_cond_dec rfl (fun h1 => ?_) (fun h1 => ?_)
  · have hk2 : k + 1 + k < l.length := by omega
    have e1 : ((l.length : Int) - 1 - (k : Nat)).toNat = l.length - 1 - k := by omega
    repeat (first
      | refine ax_post_code ?_
      | refine ax_seq ?_
      | refine ax_block ?_
      | refine ax_skip ?_)
    refine ax_regiond (by kernel_rfl) ?_
    refine ax_any_q 0 rfl (by kernel_rfl) (by kernel_rfl) (by kernel_rfl) rfl (q_move rfl) rfl ?_
    refine ax_any_q 1 rfl (by kernel_rfl) (by kernel_rfl) (by kernel_rfl) rfl (q_move rfl) rfl ?_
    refine ax_any_q 2 rfl (by kernel_rfl) (by kernel_rfl) (by kernel_rfl) rfl (q_move rfl) rfl ?_
    refine ax_any_q 3 rfl (by kernel_rfl) (by kernel_rfl) (by kernel_rfl) rfl (q_move rfl) rfl ?_
    refine ax_any_q 4 rfl (by kernel_rfl) (by kernel_rfl) (by kernel_rfl) rfl (q_move rfl) rfl ?_
    refine ax_any_q 5 rfl (by kernel_rfl) (by kernel_rfl) (by kernel_rfl) rfl (q_move rfl) rfl ?_
    refine ax_any_q 6 rfl (by kernel_rfl) (by kernel_rfl) (by kernel_rfl) rfl (q_index_sl' rfl rfl rfl rfl rfl (by first | (simp only [Nat.zero_add, Int.toNat_natCast, Int.toNat_zero]; exact rfl) | exact rfl) (by omega)) rfl ?_
    refine ax_any_q 8 rfl (by kernel_rfl) (by kernel_rfl) (by kernel_rfl) rfl (q_move rfl) rfl ?_
    refine ax_any_q 9 rfl (by kernel_rfl) (by kernel_rfl) (by kernel_rfl) rfl (q_move rfl) rfl ?_
    refine ax_any_q 10 rfl (by kernel_rfl) (by kernel_rfl) (by kernel_rfl) rfl (q_index_sl' rfl rfl rfl rfl rfl (by first | (simp only [Nat.zero_add, Int.toNat_natCast, Int.toNat_zero]; exact rfl) | exact rfl) (by omega)) rfl ?_
    refine ax_slot_any 20 (.ptr 0 (l.length - 1 - k) 0) rfl (AEq.of_eq (by rw [e1])) ?_
    have b1 : l.length - 1 - k < (revK l k).length := by omega
    have b2 : k < (revK l k).length := by omega
    apply ax_tail_any [(0, .sl 0 0 l.length), (2, .int .i64 (k : Nat)), (3, .int .i64 ((l.length : Int) - 1 - k)), (14, .sl 0 0 l.length), (15, .int .i64 (k : Nat)), (16, .sl 0 0 l.length), (17, .int .i64 ((l.length : Int) - 1 - k)), (21, .str ((revK l k).getD (l.length - 1 - k) [])), (25, .str ((revK l k).getD k []))]
    · intro fin
      refine ax_any_step (is := [7, 11]) (by kernel_rfl) (by simp) rfl ⟨fun o ho => ?_, fun o ho => ?_, trivial⟩
      all_goals (cases ho)
      · repeat (first
          | refine ax_ops_nil ?_
          | refine ax_post_any ?_
          | refine ax_q (q_loads_ptr rfl rfl rfl rfl (by first | assumption | omega)) ?_)
        refine ax_any_step (is := [11]) (by kernel_rfl) (by simp) rfl ⟨fun o ho => ?_, trivial⟩
        all_goals (cases ho)
        repeat (first
          | refine ax_ops_nil ?_
          | refine ax_post_any ?_
          | refine ax_q (q_loads_ptr rfl rfl rfl rfl (by first | assumption | omega)) ?_)
        exact fin _ ⟨rfl, rfl, rfl, rfl, rfl, rfl, rfl, rfl, rfl, trivial⟩
      · repeat (first
          | refine ax_ops_nil ?_
          | refine ax_post_any ?_
          | refine ax_q (q_loads_ptr rfl rfl rfl rfl (by first | assumption | omega)) ?_)
        refine ax_any_step (is := [7]) (by kernel_rfl) (by simp) rfl ⟨fun o ho => ?_, trivial⟩
        all_goals (cases ho)
        repeat (first
          | refine ax_ops_nil ?_
          | refine ax_post_any ?_
          | refine ax_q (q_loads_ptr rfl rfl rfl rfl (by first | assumption | omega)) ?_)
        exact fin _ ⟨rfl, rfl, rfl, rfl, rfl, rfl, rfl, rfl, rfl, trivial⟩
    refine ax_any_q 12 rfl (by kernel_rfl) (by kernel_rfl) (by kernel_rfl) rfl (q_index_sl' rfl rfl rfl rfl rfl (by first | (simp only [Nat.zero_add, Int.toNat_natCast, Int.toNat_zero]; exact rfl) | exact rfl) (by omega)) rfl ?_
    refine ax_any_step (is := [13]) (by kernel_rfl) (by simp) rfl ⟨fun o ho => ?_, trivial⟩
    all_goals (cases ho)
    repeat (first
      | refine ax_ops_nil ?_
      | refine ax_post_any ?_
      | refine ax_store rfl rfl rfl rfl rfl rfl rfl (by first | assumption | (show _ < List.length _; first | assumption | omega)) ?_)
    refine ax_any_q 14 rfl (by kernel_rfl) (by kernel_rfl) (by kernel_rfl) rfl (q_index_sl' rfl rfl rfl rfl rfl (by first | (simp only [Nat.zero_add, Int.toNat_natCast, Int.toNat_zero]; exact rfl) | exact rfl) (by omega)) rfl ?_
    refine ax_slot_any 27 (.ptr 0 (l.length - 1 - k) 0) rfl (AEq.of_eq (by rw [e1])) ?_
    have b3 : l.length - 1 - k < ((revK l k).set k ((revK l k).getD (l.length - 1 - k) [])).length := by simp; omega
    refine ax_any_step (is := [15]) (by kernel_rfl) (by simp) rfl ⟨fun o ho => ?_, trivial⟩
    all_goals (cases ho)
    repeat (first
      | refine ax_ops_nil ?_
      | refine ax_post_any ?_
      | refine ax_store rfl rfl rfl rfl rfl rfl rfl (by first | assumption | (show _ < List.length _; first | assumption | omega)) ?_)
    refine ax_any_done (by kernel_rfl) ?_
    repeat (first
      | refine ax_q (q_move rfl) ?_
      | refine ax_q (q_assign rfl) ?_
      | refine ax_ops_nil ?_
      | refine ax_post_code ?_
      | refine ax_region rfl ?_
      | refine ax_post_blk ?_
      | refine ax_q (q_add rfl rfl (by omega)) ?_
      | refine ax_q (q_sub rfl rfl (by omega)) ?_)
    refine ax_post_inv ⟨k + 1, by omega, by omega, ⟨rfl, rfl, ?_, trivial⟩, ?_⟩
    · show some (AV.int .i64 _) = _
      congr 2; omega
    · show ([some ⟨_, .strs (((revK l k).set k _).set (l.length - 1 - k) _)⟩] : AHeap) = _
      rw [revK_step l hk2]
  · repeat (first
      | refine ax_exit ?_
      | refine ax_exit_here ?_
      | refine ax_exit_code ?_
      | refine ax_exit_inv ?_)
    refine ax_end hR rfl ?_
    rw [revK_full l (by omega)]
end Go.Proofs.YtbeegiiiochblaaGreatDoor

/-
  DERIVED: THE SHELF's CONTRACTS AT THIS DUMP, IN PLAIN WORDS (tools/lay-plain.mjs out of 'TryzShelf.lean', which tools/lay-shelf.mjs wrote): THE SAME DECLARATIONS UNDER THE SAME NAMES: 'import', 'namespace', 'open', 'def', 'theorem' AND NOTHING ELSE: no command of the shelf's: FOR A HAND-IN. Each laying: the table of numbers ('.._ren') and one theorem, a field a fact of the dump's own or the kernel's comparison; each contract: ONE APPLICATION.
-/
namespace Go.Proofs
open Go.Shelf
def Tryz.lays156_ren : Go.Shelf.Ren := ⟨fun | 156 => 85 | 165 => 114 | 166 => 115 | 169 => 117 | 240 => 133 | 241 => 134 | 276 => 149 | 277 => 150 | n => n, fun | 31 => 103 | 9 => 9 | 3 => 3 | 4 => 4 | 0 => 0 | 20 => 20 | 72 => 138 | 76 => 140 | 70 => 135 | 37 => 136 | 75 => 127 | 127 => 152 | 164 => 165 | 5 => 5 | 80 => 67 | n => n, fun | n => n⟩
theorem Tryz.lays156 : Go.Proofs.Lays.n156 Tryz.prog Tryz.lays156_ren := {
  mixed := by kernel_rfl
  f156 := Tryz.func85.trans (congrArg some (by kernel_rfl))
  f165 := Tryz.func114.trans (congrArg some (by kernel_rfl))
  f166 := Tryz.func115.trans (congrArg some (by kernel_rfl))
  f169 := Tryz.func117.trans (congrArg some (by kernel_rfl))
  f240 := Tryz.func133.trans (congrArg some (by kernel_rfl))
  f241 := Tryz.func134.trans (congrArg some (by kernel_rfl))
  f276 := Tryz.func149.trans (congrArg some (by kernel_rfl))
  f277 := Tryz.func150.trans (congrArg some (by kernel_rfl))
  t0 := Tryz.underlying0
  a0 := Tryz.isAgg0
  z0 := Tryz.sizeOf0
  v0 := Tryz.zeroValue0
  t3 := Tryz.underlying3
  a3 := Tryz.isAgg3
  z3 := Tryz.sizeOf3
  v3 := Tryz.zeroValue3
  t4 := Tryz.underlying4
  a4 := Tryz.isAgg4
  z4 := Tryz.sizeOf4
  v4 := Tryz.zeroValue4
  t9 := Tryz.underlying9
  a9 := Tryz.isAgg9
  z9 := Tryz.sizeOf9
  v9 := Tryz.zeroValue9
  t20 := Tryz.underlying20
  a20 := Tryz.isAgg20
  z20 := Tryz.sizeOf20
  v20 := Tryz.zeroValue20
  t31 := Tryz.underlying103
  a31 := Tryz.isAgg103
  z31 := Tryz.sizeOf103
  v31 := Tryz.zeroValue103
  t37 := Tryz.underlying136
  a37 := Tryz.isAgg136
  z37 := Tryz.sizeOf136
  v37 := Tryz.zeroValue136
  t70 := Tryz.underlying135
  a70 := Tryz.isAgg135
  z70 := Tryz.sizeOf135
  v70 := Tryz.zeroValue135
  t72 := Tryz.underlying138
  a72 := Tryz.isAgg138
  z72 := Tryz.sizeOf138
  v72 := Tryz.zeroValue138
  t75 := Tryz.underlying127
  a75 := Tryz.isAgg127
  z75 := Tryz.sizeOf127
  v75 := Tryz.zeroValue127
  t76 := Tryz.underlying140
  a76 := Tryz.isAgg140
  z76 := Tryz.sizeOf140
  v76 := Tryz.zeroValue140
  t127 := Tryz.underlying152
  a127 := Tryz.isAgg152
  z127 := Tryz.sizeOf152
  v127 := Tryz.zeroValue152
  t164 := Tryz.underlying165
  a164 := Tryz.isAgg165
  z164 := Tryz.sizeOf165
  v164 := Tryz.zeroValue165 }
theorem Tryz.Builder_Extra_156 : Builder.Extra Tryz.prog Tryz.lays156_ren := {
  sizeBuilder := by kernel_rfl
  liesBuilder := by kernel_rfl
  t5 := Tryz.underlying5
  a5 := Tryz.isAgg5
  z5 := Tryz.sizeOf5
  v5 := Tryz.zeroValue5
  infoByte := by kernel_rfl
  cellsByte := by kernel_rfl
  sizeByte := by kernel_rfl
  neB5 := by decide }
open Go.RowKit in
/-- No element: the empty string; the world is as it was. (Whatever the slice's address and capacity: a nil slice too.) (LAID: no walk: one application.) -/
theorem Tryz.strings_Join_none (a : Option Addr) (c : Nat) (sep : ByteArray) (w : World) :
    Calls Tryz.prog 85 #[.slice a 0 c, .string sep] w fun e w' => e = .returned (.string ⟨#[]⟩) ∧ w' = w := Any.strings_Join_none Tryz.lays156 Tryz.Builder_Extra_156 a c sep w
open Go.RowKit in
/-- strings.Join: "Join concatenates the elements of its first argument to create a single string. The separator string sep is placed between elements in the resulting string.": HOWEVER MANY ELEMENTS. Below the heap's end the world is as it was. (LAID: no walk: one application.) -/
theorem Tryz.strings_Join (bk o c : Nat) (xs : List ByteArray) (sep : ByteArray) (w : World) (hcells : ∀ (j : Nat) x, xs[j]? = some x → w.cell? ⟨bk, o + j, none⟩ = some (.string x)) (hbk : bk < w.heap.size) (hN : xs.length ≤ 140737488355328) (hcap : xs.length ≤ c) (hlen : (Lib.join (xs.map (·.data.toList)) sep.data.toList).length ≤ 140737488355328) :
    Calls Tryz.prog 85 #[.slice (some ⟨bk, o, none⟩) xs.length c, .string sep] w fun e w' => e = .returned (.string ⟨(Lib.join (xs.map (·.data.toList)) sep.data.toList).toArray⟩) ∧ Below w.heap.size w w' := Any.strings_Join Tryz.lays156 Tryz.Builder_Extra_156 bk o c xs sep w hcells hbk hN hcap hlen
def Tryz.laysM171_ren : Go.Shelf.Ren := ⟨fun | 171 => 82 | 243 => 112 | 246 => 130 | 283 => 145 | 284 => 146 | 285 => 147 | 286 => 148 | 129 => 160 | 317 => 159 | 318 => 161 | 319 => 162 | 320 => 163 | 337 => 166 | 338 => 167 | n => n, fun | 3 => 3 | 9 => 9 | 2 => 2 | 4 => 4 | 171 => 160 | 0 => 0 | 53 => 94 | 37 => 136 | 5 => 5 | 173 => 163 | 212 => 180 | 51 => 95 | 20 => 20 | 213 => 181 | 46 => 68 | 232 => 188 | 233 => 189 | n => n, fun | 17 => 5 | 18 => 6 | 19 => 7 | n => n⟩
theorem Tryz.laysM171 : Go.Proofs.LaysM.n171 Tryz.prog Tryz.laysM171_ren := {
  mixed := by kernel_rfl
  f129 := Tryz.func160.trans (congrArg some (by kernel_rfl))
  f171 := Tryz.func82.trans (congrArg some (by kernel_rfl))
  f243 := Tryz.func112.trans (congrArg some (by kernel_rfl))
  f246 := Tryz.func130.trans (congrArg some (by kernel_rfl))
  f283 := Tryz.func145.trans (congrArg some (by kernel_rfl))
  f284 := Tryz.func146.trans (congrArg some (by kernel_rfl))
  f285 := Tryz.func147.trans (congrArg some (by kernel_rfl))
  f286 := Tryz.func148.trans (congrArg some (by kernel_rfl))
  f317 := Tryz.func159.trans (congrArg some (by kernel_rfl))
  f318 := Tryz.func161.trans (congrArg some (by kernel_rfl))
  f319 := Tryz.func162.trans (congrArg some (by kernel_rfl))
  f320 := Tryz.func163.trans (congrArg some (by kernel_rfl))
  f337 := Tryz.func166.trans (congrArg some (by kernel_rfl))
  f338 := Tryz.func167.trans (congrArg some (by kernel_rfl))
  t0 := Tryz.underlying0
  a0 := Tryz.isAgg0
  z0 := Tryz.sizeOf0
  v0 := Tryz.zeroValue0
  t2 := Tryz.underlying2
  a2 := Tryz.isAgg2
  z2 := Tryz.sizeOf2
  v2 := Tryz.zeroValue2
  t3 := Tryz.underlying3
  a3 := Tryz.isAgg3
  z3 := Tryz.sizeOf3
  v3 := Tryz.zeroValue3
  t4 := Tryz.underlying4
  a4 := Tryz.isAgg4
  z4 := Tryz.sizeOf4
  v4 := Tryz.zeroValue4
  t5 := Tryz.underlying5
  a5 := Tryz.isAgg5
  z5 := Tryz.sizeOf5
  v5 := Tryz.zeroValue5
  t9 := Tryz.underlying9
  a9 := Tryz.isAgg9
  z9 := Tryz.sizeOf9
  v9 := Tryz.zeroValue9
  t20 := Tryz.underlying20
  a20 := Tryz.isAgg20
  z20 := Tryz.sizeOf20
  v20 := Tryz.zeroValue20
  t37 := Tryz.underlying136
  a37 := Tryz.isAgg136
  z37 := Tryz.sizeOf136
  v37 := Tryz.zeroValue136
  t46 := Tryz.underlying68
  a46 := Tryz.isAgg68
  z46 := Tryz.sizeOf68
  v46 := Tryz.zeroValue68
  t51 := Tryz.underlying95
  a51 := Tryz.isAgg95
  z51 := Tryz.sizeOf95
  v51 := Tryz.zeroValue95
  t53 := Tryz.underlying94
  a53 := Tryz.isAgg94
  z53 := Tryz.sizeOf94
  v53 := Tryz.zeroValue94
  t171 := Tryz.underlying160
  a171 := Tryz.isAgg160
  z171 := Tryz.sizeOf160
  v171 := Tryz.zeroValue160
  t173 := Tryz.underlying163
  a173 := Tryz.isAgg163
  z173 := Tryz.sizeOf163
  v173 := Tryz.zeroValue163
  t212 := Tryz.underlying180
  a212 := Tryz.isAgg180
  z212 := Tryz.sizeOf180
  v212 := Tryz.zeroValue180
  t213 := Tryz.underlying181
  a213 := Tryz.isAgg181
  z213 := Tryz.sizeOf181
  t232 := Tryz.underlying188
  a232 := Tryz.isAgg188
  z232 := Tryz.sizeOf188
  v232 := Tryz.zeroValue188
  t233 := Tryz.underlying189
  a233 := Tryz.isAgg189
  z233 := Tryz.sizeOf189
  v233 := Tryz.zeroValue189
  g17 := by kernel_rfl
  g18 := by kernel_rfl
  g19 := by kernel_rfl
  i0 := by kernel_rfl
  i2 := by kernel_rfl
  i3 := by kernel_rfl
  i4 := by kernel_rfl
  i5 := by kernel_rfl
  i9 := by kernel_rfl
  i20 := by kernel_rfl
  i37 := by kernel_rfl
  i46 := by kernel_rfl
  i51 := by kernel_rfl
  i53 := by kernel_rfl
  i171 := by kernel_rfl
  i173 := by kernel_rfl
  i212 := by kernel_rfl
  i232 := by kernel_rfl
  i233 := by kernel_rfl
  m17 := by kernel_rfl
  m18 := by kernel_rfl
  m19 := by kernel_rfl }
open Go.RowKit Go.Sort Go.Lib in
/-- strconv.Itoa: "Itoa is equivalent to FormatInt(int64(i), 10).": i's DECIMAL NUMERAL ('Lib.itoa': a '-' where i is negative, then the digits), FOR EVERY int. The world behind the call: the world before it, new blocks behind the heap (the library's 'var a [24]byte'), draws. (LAID: no walk: one application.) -/
theorem Tryz.strconv_Itoa (n : Int) (h0 : -9223372036854775808 ≤ n) (h1 : n ≤ 9223372036854775807) (w : World) (htab : Lib.TabIs Tryz.prog w "internal/strconv.uint64pow10" .u64 Lib.pow10Tab) :
    Calls Tryz.prog 82 #[.int .i64 n] w fun e w' => e = .returned (.string ⟨(Lib.itoa n).toArray⟩) ∧ ∃ k os, w' = grow (w.drewN k) os := Any.strconv_Itoa Tryz.laysM171 n h0 h1 w htab
def Tryz.laysPu14_ren : Go.Shelf.Ren := ⟨fun | 14 => 108 | 16 => 128 | 17 => 129 | 19 => 139 | 20 => 140 | 21 => 141 | 22 => 142 | 23 => 143 | 24 => 144 | 25 => 157 | 27 => 82 | 26 => 158 | 28 => 112 | 29 => 130 | 30 => 145 | 31 => 146 | 32 => 147 | 33 => 148 | 35 => 160 | 34 => 159 | 36 => 161 | 37 => 162 | 38 => 163 | 39 => 166 | 40 => 167 | n => n, fun | 9 => 9 | 3 => 3 | 22 => 94 | 24 => 127 | 25 => 128 | 4 => 4 | 34 => 155 | 5 => 5 | 36 => 68 | 37 => 136 | 0 => 0 | 39 => 157 | 21 => 21 | 44 => 177 | 47 => 152 | 50 => 186 | 48 => 184 | 2 => 2 | 52 => 160 | 55 => 163 | 59 => 180 | 60 => 95 | 20 => 20 | 61 => 181 | 65 => 188 | 66 => 189 | 67 => 67 | n => n, fun | 0 => 3 | 1 => 4 | 2 => 5 | 3 => 6 | 4 => 7 | n => n⟩
theorem Tryz.laysPu14 : Go.Proofs.LaysPu.n14 Tryz.prog Tryz.laysPu14_ren := {
  mixed := by kernel_rfl
  f14 := Tryz.func108.trans (congrArg some (by kernel_rfl))
  f16 := Tryz.func128.trans (congrArg some (by kernel_rfl))
  f17 := Tryz.func129.trans (congrArg some (by kernel_rfl))
  f19 := Tryz.func139.trans (congrArg some (by kernel_rfl))
  f20 := Tryz.func140.trans (congrArg some (by kernel_rfl))
  f21 := Tryz.func141.trans (congrArg some (by kernel_rfl))
  f22 := Tryz.func142.trans (congrArg some (by kernel_rfl))
  f23 := Tryz.func143.trans (congrArg some (by kernel_rfl))
  f24 := Tryz.func144.trans (congrArg some (by kernel_rfl))
  f25 := Tryz.func157.trans (congrArg some (by kernel_rfl))
  f26 := Tryz.func158.trans (congrArg some (by kernel_rfl))
  f27 := Tryz.func82.trans (congrArg some (by kernel_rfl))
  f28 := Tryz.func112.trans (congrArg some (by kernel_rfl))
  f29 := Tryz.func130.trans (congrArg some (by kernel_rfl))
  f30 := Tryz.func145.trans (congrArg some (by kernel_rfl))
  f31 := Tryz.func146.trans (congrArg some (by kernel_rfl))
  f32 := Tryz.func147.trans (congrArg some (by kernel_rfl))
  f33 := Tryz.func148.trans (congrArg some (by kernel_rfl))
  f34 := Tryz.func159.trans (congrArg some (by kernel_rfl))
  f35 := Tryz.func160.trans (congrArg some (by kernel_rfl))
  f36 := Tryz.func161.trans (congrArg some (by kernel_rfl))
  f37 := Tryz.func162.trans (congrArg some (by kernel_rfl))
  f38 := Tryz.func163.trans (congrArg some (by kernel_rfl))
  f39 := Tryz.func166.trans (congrArg some (by kernel_rfl))
  f40 := Tryz.func167.trans (congrArg some (by kernel_rfl))
  t0 := Tryz.underlying0
  a0 := Tryz.isAgg0
  z0 := Tryz.sizeOf0
  v0 := Tryz.zeroValue0
  i0 := by kernel_rfl
  t2 := Tryz.underlying2
  a2 := Tryz.isAgg2
  z2 := Tryz.sizeOf2
  v2 := Tryz.zeroValue2
  i2 := by kernel_rfl
  t3 := Tryz.underlying3
  a3 := Tryz.isAgg3
  z3 := Tryz.sizeOf3
  v3 := Tryz.zeroValue3
  i3 := by kernel_rfl
  t4 := Tryz.underlying4
  a4 := Tryz.isAgg4
  z4 := Tryz.sizeOf4
  v4 := Tryz.zeroValue4
  i4 := by kernel_rfl
  t5 := Tryz.underlying5
  a5 := Tryz.isAgg5
  z5 := Tryz.sizeOf5
  v5 := Tryz.zeroValue5
  i5 := by kernel_rfl
  t9 := Tryz.underlying9
  a9 := Tryz.isAgg9
  z9 := Tryz.sizeOf9
  v9 := Tryz.zeroValue9
  i9 := by kernel_rfl
  t20 := Tryz.underlying20
  a20 := Tryz.isAgg20
  z20 := Tryz.sizeOf20
  v20 := Tryz.zeroValue20
  i20 := by kernel_rfl
  t21 := Tryz.underlying21
  a21 := Tryz.isAgg21
  z21 := Tryz.sizeOf21
  v21 := Tryz.zeroValue21
  i21 := by kernel_rfl
  t22 := Tryz.underlying94
  a22 := Tryz.isAgg94
  z22 := Tryz.sizeOf94
  v22 := Tryz.zeroValue94
  i22 := by kernel_rfl
  t24 := Tryz.underlying127
  a24 := Tryz.isAgg127
  z24 := Tryz.sizeOf127
  v24 := Tryz.zeroValue127
  i24 := by kernel_rfl
  t25 := Tryz.underlying128
  a25 := Tryz.isAgg128
  z25 := Tryz.sizeOf128
  v25 := Tryz.zeroValue128
  i25 := by kernel_rfl
  t34 := Tryz.underlying155
  a34 := Tryz.isAgg155
  z34 := Tryz.sizeOf155
  v34 := Tryz.zeroValue155
  i34 := by kernel_rfl
  c34 := by kernel_rfl
  t36 := Tryz.underlying68
  a36 := Tryz.isAgg68
  z36 := Tryz.sizeOf68
  v36 := Tryz.zeroValue68
  i36 := by kernel_rfl
  t37 := Tryz.underlying136
  a37 := Tryz.isAgg136
  z37 := Tryz.sizeOf136
  v37 := Tryz.zeroValue136
  i37 := by kernel_rfl
  t39 := Tryz.underlying157
  a39 := Tryz.isAgg157
  z39 := Tryz.sizeOf157
  v39 := Tryz.zeroValue157
  i39 := by kernel_rfl
  t44 := Tryz.underlying177
  a44 := Tryz.isAgg177
  z44 := Tryz.sizeOf177
  v44 := Tryz.zeroValue177
  i44 := by kernel_rfl
  t47 := Tryz.underlying152
  a47 := Tryz.isAgg152
  z47 := Tryz.sizeOf152
  v47 := Tryz.zeroValue152
  i47 := by kernel_rfl
  t48 := Tryz.underlying184
  a48 := Tryz.isAgg184
  z48 := Tryz.sizeOf184
  v48 := Tryz.zeroValue184
  i48 := by kernel_rfl
  t50 := Tryz.underlying186
  a50 := Tryz.isAgg186
  z50 := Tryz.sizeOf186
  v50 := Tryz.zeroValue186
  i50 := by kernel_rfl
  t52 := Tryz.underlying160
  a52 := Tryz.isAgg160
  z52 := Tryz.sizeOf160
  v52 := Tryz.zeroValue160
  i52 := by kernel_rfl
  t55 := Tryz.underlying163
  a55 := Tryz.isAgg163
  z55 := Tryz.sizeOf163
  v55 := Tryz.zeroValue163
  i55 := by kernel_rfl
  t59 := Tryz.underlying180
  a59 := Tryz.isAgg180
  z59 := Tryz.sizeOf180
  v59 := Tryz.zeroValue180
  i59 := by kernel_rfl
  t60 := Tryz.underlying95
  a60 := Tryz.isAgg95
  z60 := Tryz.sizeOf95
  v60 := Tryz.zeroValue95
  i60 := by kernel_rfl
  t61 := Tryz.underlying181
  a61 := Tryz.isAgg181
  z61 := Tryz.sizeOf181
  t65 := Tryz.underlying188
  a65 := Tryz.isAgg188
  z65 := Tryz.sizeOf188
  v65 := Tryz.zeroValue188
  i65 := by kernel_rfl
  t66 := Tryz.underlying189
  a66 := Tryz.isAgg189
  z66 := Tryz.sizeOf189
  v66 := Tryz.zeroValue189
  i66 := by kernel_rfl
  t67 := Tryz.underlying67
  a67 := Tryz.isAgg67
  z67 := Tryz.sizeOf67
  v67 := Tryz.zeroValue67
  i67 := by kernel_rfl
  g0 := by kernel_rfl
  m0 := by kernel_rfl
  g1 := by kernel_rfl
  m1 := by kernel_rfl
  g2 := by kernel_rfl
  m2 := by kernel_rfl
  g3 := by kernel_rfl
  m3 := by kernel_rfl
  g4 := by kernel_rfl
  m4 := by kernel_rfl }
open Go.RowKit in
/-- strconv.ParseUint(s, 10, 32), AT EVERY STRING THAT SPELLS A uint32 ('Lib.parseUintB 32 s.data.toList = .ok u'): u, AND NO ERROR. (LAID: no walk: one application.) -/
theorem Tryz.strconv_ParseUint_10_at32_ok (s : ByteArray) (hmax : s.size ≤ 9223372036854775806) (u : Nat) (h : Lib.parseUintB 32 s.data.toList = .ok u) (w : World) :
    Calls Tryz.prog 108 #[.string s, .int .i64 10, .int .i64 32] w fun e w' => e = .returned (.tuple #[.int .u64 u, .nilIface]) ∧ (w' = w ∨ w' = Lib.bytesWorld w 5 s) := Any.strconv_ParseUint_10_at32_ok Tryz.laysPu14 s hmax u h w
def Tryz.lays212_ren : Go.Shelf.Ren := ⟨fun | 212 => 113 | 263 => 131 | 264 => 132 | n => n, fun | 46 => 68 | 51 => 95 | 146 => 148 | 53 => 94 | 148 => 150 | n => n, fun | n => n⟩
theorem Tryz.lays212 : Go.Proofs.Lays.n212 Tryz.prog Tryz.lays212_ren := {
  mixed := by kernel_rfl
  f212 := Tryz.func113.trans (congrArg some (by kernel_rfl))
  f263 := Tryz.func131.trans (congrArg some (by kernel_rfl))
  f264 := Tryz.func132.trans (congrArg some (by kernel_rfl))
  t46 := Tryz.underlying68
  a46 := Tryz.isAgg68
  z46 := Tryz.sizeOf68
  v46 := Tryz.zeroValue68
  t51 := Tryz.underlying95
  a51 := Tryz.isAgg95
  z51 := Tryz.sizeOf95
  v51 := Tryz.zeroValue95
  t53 := Tryz.underlying94
  a53 := Tryz.isAgg94
  z53 := Tryz.sizeOf94
  v53 := Tryz.zeroValue94
  t146 := Tryz.underlying148
  a146 := Tryz.isAgg148
  z146 := Tryz.sizeOf148
  v146 := Tryz.zeroValue148
  t148 := Tryz.underlying150
  a148 := Tryz.isAgg150
  z148 := Tryz.sizeOf150
  v148 := Tryz.zeroValue150 }
open Go.RowKit Go.Lib in
/-- math/bits.Mul: "Mul returns the full-width product of x and y": on a machine of 64 bits: Mul64's. (LAID: no walk: one application.) -/
theorem Tryz.bits_Mul (x y : Nat) (hx : x < 18446744073709551616) (hy : y < 18446744073709551616) (w : World) :
    Calls Tryz.prog 113 #[.int .u64 x, .int .u64 y] w fun e w' => e = .returned (.tuple #[.int .u64 ((x * y / 18446744073709551616 : Nat) : Int), .int .u64 ((x * y % 18446744073709551616 : Nat) : Int)]) ∧ w' = w := Any.bits_Mul Tryz.lays212 x y hx hy w
end Go.Proofs

/-
  Digits at the ends of a text, cut off. No program in sight.
-/
namespace Go.Ax.Bg
open Go.Ax.Tb (digit)

def dg (c : UInt8) : Bool := decide (48 ≤ c.toNat ∧ c.toNat < 58)
theorem dg_iff {c : UInt8} : dg c = true ↔ digit c := by
  unfold dg digit
  simp only [decide_eq_true_eq]
  constructor <;> intro h <;> exact ⟨by omega, by omega⟩
def trR (s : List UInt8) : List UInt8 := (s.reverse.dropWhile dg).reverse
def trL (s : List UInt8) : List UInt8 := s.dropWhile dg
theorem dropWhile_skip {l m : List UInt8} (h : l.all dg = true) : (l ++ m).dropWhile dg = m.dropWhile dg := by
  induction l with
  | nil => rfl
  | cons x r ih =>
    simp only [List.all_cons, Bool.and_eq_true] at h
    rw [List.cons_append, List.dropWhile_cons_of_pos h.1, ih h.2]
theorem trR_of {s : List UInt8} {k : Nat} (hk : k ≤ s.length) (h : (s.drop k).all dg = true) (h2 : k = 0 ∨ dg (s.getD (k - 1) 0) = false) : trR s = s.take k := by
  unfold trR
  conv => lhs; rw [← List.take_append_drop k s]
  rw [List.reverse_append, dropWhile_skip (by rw [List.all_reverse]; exact h)]
  rcases h2 with h2 | h2
  · subst h2; rfl
  · rcases Nat.eq_zero_or_pos k with q | q
    · subst q; rfl
    · have e : s.take k = s.take (k - 1) ++ [s.getD (k - 1) 0] := by
        have := take_succ_getD s 0 (k - 1) (by omega)
        rwa [show k - 1 + 1 = k by omega] at this
      rw [e, List.reverse_append, List.reverse_singleton, List.singleton_append, List.dropWhile_cons_of_neg (by rw [h2]; decide)]
      simp
theorem trL_of {s : List UInt8} {k : Nat} (h : (s.take k).all dg = true) (h2 : s.length ≤ k ∨ dg (s.getD k 0) = false) : trL s = s.drop k := by
  unfold trL
  conv => lhs; rw [← List.take_append_drop k s]
  rw [dropWhile_skip h]
  rcases h2 with h2 | h2
  · rw [List.drop_of_length_le h2]; rfl
  · rcases Nat.lt_or_ge k s.length with q | q
    · rw [drop_getD s 0 k q, List.dropWhile_cons_of_neg (by rw [h2]; decide)]
    · rw [List.drop_of_length_le q]; rfl
theorem dw_nil {l : List UInt8} : l.dropWhile dg = [] ↔ l.all dg = true := by
  induction l with
  | nil => simp
  | cons x r ih =>
    cases h : dg x with
    | true => rw [List.dropWhile_cons_of_pos h, ih]; simp [h]
    | false => rw [List.dropWhile_cons_of_neg (by rw [h]; decide)]; simp [h]
theorem dw_head {l : List UInt8} {x : UInt8} {r : List UInt8} (h : l.dropWhile dg = x :: r) : dg x = false := by
  induction l with
  | nil => cases h
  | cons y q ih =>
    cases hy : dg y with
    | true => rw [List.dropWhile_cons_of_pos hy] at h; exact ih h
    | false =>
      rw [List.dropWhile_cons_of_neg (by rw [hy]; decide)] at h
      cases h; exact hy
theorem trR_nil {s : List UInt8} : trL (trR s) = [] ↔ s.all dg = true := by
  unfold trL trR
  rw [dw_nil, List.all_reverse]
  constructor
  · intro h
    cases hq : s.reverse.dropWhile dg with
    | nil => rw [dw_nil, List.all_reverse] at hq; exact hq
    | cons x r =>
      rw [hq] at h
      have := dw_head hq
      simp [this] at h
  · intro h
    have : s.reverse.dropWhile dg = [] := by rw [dw_nil, List.all_reverse]; exact h
    rw [this]; rfl
/-- Up to nine digits as a number. -/
theorem parse_go {l : List UInt8} (hd : ∀ c ∈ l, digit c) : ∀ (a : Nat), decV a l ≤ 4294967295 → Lib.parseUintM 4294967295 a l = .ok (decV a l) := by
  induction l with
  | nil => intro a _; rfl
  | cons c r ih =>
    intro a h
    have hc := hd c (by simp)
    unfold digit at hc
    rw [decV_cons] at h ⊢
    have h1 : a * 10 + (c.toNat - 48) ≤ 4294967295 := by
      refine Nat.le_trans ?_ h
      rw [decV_acc r]
      have : (a * 10 + (c.toNat - 48)) * 1 ≤ (a * 10 + (c.toNat - 48)) * 10 ^ r.length := Nat.mul_le_mul_left _ (Nat.one_le_pow _ _ (by decide))
      omega
    have i := ih (fun x hx => hd x (by simp [hx])) _ h
    unfold Lib.parseUintM
    rw [if_pos (by omega), if_neg (by omega), if_neg (by omega)]
    exact i
theorem parse_ok {l : List UInt8} (h0 : l ≠ []) (hd : ∀ c ∈ l, digit c) (h9 : l.length ≤ 9) : Lib.parseUintB 32 l = .ok (decV 0 l) ∧ decV 0 l < 1000000000 := by
  have hlt := decV_lt hd
  have hp : 10 ^ l.length ≤ 10 ^ 9 := Nat.pow_le_pow_right (by decide) h9
  have e9 : (10 : Nat) ^ 9 = 1000000000 := by decide
  rw [e9] at hp
  unfold Lib.parseUintB
  rw [if_neg h0]
  have e32 : (2 : Nat) ^ 32 - 1 = 4294967295 := by decide
  rw [e32]
  exact ⟨parse_go hd 0 (by omega), by omega⟩
theorem join_flat : ∀ (ls : List (List UInt8)), Lib.join ls [] = ls.flatten
  | [] => rfl
  | x :: r => by
    rw [Lib.join_cons, List.flatten_cons]
    congr 1
    unfold Lib.joinTail
    congr 1
    simp
end Go.Ax.Bg

namespace Go.Proofs.YtbeegiiiochblaaGreatDoor
open Go.Ax Go.Ax.Bg Go.RowKit
set_option maxRecDepth 100000
set_option maxHeartbeats 4000000

theorem below_grow' (w : World) (q : Nat) (os : Array Obj) : Below w.heap.size w (Go.Sort.grow (w.drewN q) os) := by
  refine ⟨rfl, rfl, rfl, ?_, fun k hk => ?_⟩
  · show w.heap.size ≤ (w.heap ++ os).size
    simp
  · show (w.heap ++ os)[k]? = w.heap[k]?
    rw [Array.getElem?_append_left hk]
theorem vals1 {w : World} {S : Nat → Prop} {σ : Nat → Option Blk} {a : AV} {vals : Array Value} (hv : VRs w S σ [a] vals) : ∃ x, vals = #[x] ∧ VR w S σ a x := by
  obtain ⟨h1, h2⟩ := hv
  have q := h2 0 (by simp)
  have hl : vals.toList.length = 1 := by simpa using h1
  match hq : vals.toList, hl with
  | [x], _ =>
    have e : vals = #[x] := by rw [← Array.toArray_toList (xs := vals), hq]
    subst e
    exact ⟨x, rfl, by simpa using q⟩
theorem vals2 {w : World} {S : Nat → Prop} {σ : Nat → Option Blk} {a b : AV} {vals : Array Value} (hv : VRs w S σ [a, b] vals) : ∃ x y, vals = #[x, y] ∧ VR w S σ a x ∧ VR w S σ b y := by
  obtain ⟨h1, h2⟩ := hv
  have q := h2 0 (by simp)
  have q1 := h2 1 (by simp)
  have hl : vals.toList.length = 2 := by simpa using h1
  match hq : vals.toList, hl with
  | [x, y], _ =>
    have e : vals = #[x, y] := by rw [← Array.toArray_toList (xs := vals), hq]
    subst e
    exact ⟨x, y, rfl, by simpa using q, by simpa using q1⟩
theorem vals3 {w : World} {S : Nat → Prop} {σ : Nat → Option Blk} {a b c : AV} {vals : Array Value} (hv : VRs w S σ [a, b, c] vals) : ∃ x y z, vals = #[x, y, z] ∧ VR w S σ a x ∧ VR w S σ b y ∧ VR w S σ c z := by
  obtain ⟨h1, h2⟩ := hv
  have q := h2 0 (by simp)
  have q1 := h2 1 (by simp)
  have q2 := h2 2 (by simp)
  have hl : vals.toList.length = 3 := by simpa using h1
  match hq : vals.toList, hl with
  | [x, y, z], _ =>
    have e : vals = #[x, y, z] := by rw [← Array.toArray_toList (xs := vals), hq]
    subst e
    exact ⟨x, y, z, rfl, by simpa using q, by simpa using q1, by simpa using q2⟩
theorem itoa (n : Int) (h : -9223372036854775808 ≤ n ∧ n ≤ 9223372036854775807) : VCall Tryz.prog 82 [.int .i64 n] (.str (Lib.itoa n)) := by
  refine VCall.of_below ⟨Tryz.f82, rfl, by kernel_rfl, rfl⟩ rfl rfl (fun w S vals hG hS hv => ?_)
  obtain ⟨x, rfl, a⟩ := vals1 hv
  have hx : x = .int .i64 n := by cases a; rfl
  subst hx
  have hp : pinG w := hG
  refine (Tryz.strconv_Itoa n h.1 h.2 w hp.2.1).mono ?_
  rintro e w' ⟨rfl, k, os, rfl⟩
  exact ⟨_, rfl, below_grow' w k os, .str _ _⟩
theorem itoaN (n : Nat) (h : n ≤ 9223372036854775807) : VCall Tryz.prog 82 [.int .i64 (n : Nat)] (.str (Lib.decDigits n)) := by
  have := itoa n ⟨by omega, by omega⟩
  rwa [Go.Ax.Tb.itoa_nat] at this
theorem mulB (a b : Nat) (ha : a < 18446744073709551616) (hb : b < 18446744073709551616) : VCall Tryz.prog 113 [.int .u64 (a : Nat), .int .u64 (b : Nat)] (.tup [.int .u64 (a * b / 18446744073709551616 : Nat), .int .u64 (a * b % 18446744073709551616 : Nat)]) := by
  refine VCall.of_below ⟨Tryz.f113, rfl, by kernel_rfl, rfl⟩ rfl rfl (fun w S vals hG hS hv => ?_)
  obtain ⟨x, y, rfl, p, q⟩ := vals2 hv
  have hx : x = .int .u64 (a : Nat) := by cases p; rfl
  have hy : y = .int .u64 (b : Nat) := by cases q; rfl
  subst hx hy
  refine (Tryz.bits_Mul a b ha hb w).mono ?_
  rintro e w' ⟨rfl, rfl⟩
  refine ⟨_, rfl, Below.refl _ _, .tup _ _ _ rfl (fun i hi => ?_)⟩
  match i, hi with
  | 0, _ => exact .int _ _ _
  | 1, _ => exact .int _ _ _
theorem parse32 (s : List UInt8) (u : Nat) (hl : s.length ≤ 1000) (h : Lib.parseUintB 32 s = .ok u) : VCall Tryz.prog 108 [.str s, .int .i64 10, .int .i64 32] (.tup [.int .u64 (u : Nat), .nilif]) := by
  refine VCall.of_below ⟨Tryz.f108, rfl, by kernel_rfl, rfl⟩ rfl rfl (fun w S vals hG hS hv => ?_)
  obtain ⟨x, y, z, rfl, p, q, r⟩ := vals3 hv
  have hx : x = strV s := by cases p; rfl
  have hy : y = .int .i64 10 := by cases q; rfl
  have hz : z = .int .i64 32 := by cases r; rfl
  subst hx hy hz
  have hd : (⟨s.toArray⟩ : ByteArray).data.toList = s := by simp
  have hsz : (⟨s.toArray⟩ : ByteArray).size = s.length := by simp [ByteArray.size]
  refine (Tryz.strconv_ParseUint_10_at32_ok ⟨s.toArray⟩ (by rw [hsz]; omega) u (by rw [hd]; exact h) w).mono ?_
  rintro e w' ⟨rfl, hw⟩
  refine ⟨_, rfl, ?_, .tup _ _ _ rfl (fun i hi => ?_)⟩
  · rcases hw with rfl | rfl
    · exact Below.refl _ _
    · exact Lib.bytesWorld_below _ _ _
  · match i, hi with
    | 0, _ => exact .int _ _ _
    | 1, _ => exact .nilif _
theorem join (ls : List (List UInt8)) (sep : List UInt8) (hN : ls.length ≤ 140737488355328) (hj : (Lib.join ls sep).length ≤ 140737488355328) : VCall Tryz.prog 85 [.ro (.strs ls) 0 ls.length, .str sep] (.str (Lib.join ls sep)) := by
  refine VCall.of_below ⟨Tryz.f85, rfl, by kernel_rfl, rfl⟩ rfl rfl (fun w S vals hG hS hv => ?_)
  obtain ⟨x, y, rfl, a, b⟩ := vals2 hv
  have hy : y = strV sep := by cases b; rfl
  subst hy
  have hsep : (⟨sep.toArray⟩ : ByteArray).data.toList = sep := by simp
  have hbyte : ∀ l : List UInt8, (⟨l.toArray⟩ : ByteArray).data.toList = l := fun l => by simp
  generalize hn : ls.length = n at a
  cases a with
  | ro0 _ _ _ ad cap =>
    have : ls = [] := List.length_eq_zero_iff.mp hn
    subst this
    refine (Tryz.strings_Join_none ad cap ⟨sep.toArray⟩ w).mono ?_
    rintro e w' ⟨rfl, rfl⟩
    exact ⟨_, rfl, Below.refl _ _, .str _ []⟩
  | ro _ _ _ _ bk o cap val hSb hlen hc hvv h1' =>
    subst hn
    have hxs : (ls.map (fun l => (⟨l.toArray⟩ : ByteArray))).length = ls.length := by simp
    have c := Tryz.strings_Join bk o cap (ls.map (fun l => (⟨l.toArray⟩ : ByteArray))) ⟨sep.toArray⟩ w (fun j x hx => ?_) (hS _ hSb) (by simpa using hN) (by simpa using hlen) ?_
    · rw [hxs] at c
      refine c.mono ?_
      rintro e w' ⟨rfl, hb⟩
      have e2 : ((ls.map (fun l => (⟨l.toArray⟩ : ByteArray))).map (fun x => x.data.toList)) = ls := by rw [List.map_map]; exact (List.map_congr_left (fun x _ => rfl)).trans (List.map_id _)
      rw [e2, hsep]
      exact ⟨_, rfl, hb, .str _ _⟩
    · simp only [List.getElem?_map, Option.map_eq_some_iff] at hx
      obtain ⟨l, hl, rfl⟩ := hx
      have hlt : j < ls.length := (List.getElem?_eq_some_iff.1 hl).1
      have q := hc j 0 hlt (by simp [Cells.sz])
      have v := hvv j 0 hlt (by simp [Cells.sz])
      simp only [Cells.sz, Nat.mul_one, Nat.add_zero] at q
      simp only [Cells.at, Nat.zero_add, List.getD, hl, Option.getD_some] at v
      rw [q]
      generalize val j 0 = z at v
      cases v; rfl
    · have e2 : ((ls.map (fun l => (⟨l.toArray⟩ : ByteArray))).map (fun x => x.data.toList)) = ls := by rw [List.map_map]; exact (List.map_congr_left (fun x _ => rfl)).trans (List.map_id _)
      rw [e2, hsep]; exact hj
end Go.Proofs.YtbeegiiiochblaaGreatDoor

namespace Go.Proofs.YtbeegiiiochblaaGreatDoor
open Go.Ax Go.Ax.Bg Go.RowKit
attribute [local irreducible] Ax Post QOp ACall
set_option maxRecDepth 100000
set_option maxHeartbeats 4000000

def preB (s p : List UInt8) : Bool := decide (p.length ≤ s.length ∧ s.take p.length = p)
theorem prefix1 (s p : List UInt8) (hs : s.length ≤ 9223372036854775807) (hp : p.length ≤ 9223372036854775807) : VCall Tryz.prog 123 [.str s, .str p] (.bool (preB s p)) := by
  refine ACall.value0 (acall_of_ax (P := Tryz.prog) (fn := Tryz.f123) rfl rfl (by kernel_rfl) rfl (fun c hR hfix => ?_)) (fix := fun _ => False) (fun _ h => h) rfl rfl
  repeat (first
    | refine ax_q (q_move rfl) ?_
    | refine ax_q (q_assign rfl) ?_
    | refine ax_ops_nil ?_
    | refine ax_post_code ?_
    | refine ax_seq ?_
    | refine ax_region rfl ?_
    | refine ax_q (q_geq rfl rfl) ?_
    | refine ax_q (q_lenstr rfl rfl) ?_)
  refine ax_gsplit rfl rfl (fun h0 => ?_) (fun h0 => ?_)
  · repeat (first
      | refine ax_q (q_move rfl) ?_
      | refine ax_q (q_assign rfl) ?_
      | refine ax_ops_nil ?_
      | refine ax_post_code ?_
      | refine ax_guard rfl rfl ?_
      | refine ax_return ?_
      | refine ax_q (q_pick rfl rfl) ?_
      | refine ax_q (q_lenstr rfl rfl) ?_
      | refine ax_q (q_streql rfl rfl) ?_
      | refine ax_q (q_strslice rfl rfl rfl rfl rfl rfl (by omega)) ?_)
    refine ax_ret hR rfl ?_
    show AV.bool (decide ((List.drop _ s).take _ = p)) = _
    unfold preB
    congr 1
    rw [decide_eq_decide]
    simp only [Int.toNat_zero, List.drop_zero, Int.toNat_natCast, Nat.sub_zero]
    exact ⟨fun h => ⟨by omega, h⟩, fun h => h.2⟩
  · repeat (first
      | refine ax_q (q_assign rfl) ?_
      | refine ax_ops_nil ?_
      | refine ax_post_code ?_
      | refine ax_skip_not rfl rfl rfl ?_
      | refine ax_return ?_
      | refine ax_q (q_pick rfl rfl) ?_)
    refine ax_ret hR rfl ?_
    show AV.bool false = _
    unfold preB
    rw [decide_eq_false]
    exact fun h => h0 (by omega)
theorem prefix2 (s p : List UInt8) (hs : s.length ≤ 9223372036854775807) (hp : p.length ≤ 9223372036854775807) : VCall Tryz.prog 100 [.str s, .str p] (.bool (preB s p)) := by
  have hc := prefix1 s p hs hp
  refine ACall.value0 (acall_of_ax (P := Tryz.prog) (fn := Tryz.f100) rfl rfl (by kernel_rfl) rfl (fun c hR hfix => ?_)) (fix := fun _ => False) (fun _ h => h) rfl rfl
  generalize preB s p = b at *
  repeat (first
    | refine ax_q (q_move rfl) ?_
    | refine ax_q (q_assign rfl) ?_
    | refine ax_ops_nil ?_
    | refine ax_post_code ?_
    | refine ax_seq ?_
    | refine ax_region rfl ?_)
  refine ax_callv rfl rfl rfl hc ?_
  repeat (first
    | refine ax_q (q_assign rfl) ?_
    | refine ax_ops_nil ?_
    | refine ax_post_code ?_
    | refine ax_return ?_)
  exact ax_ret hR rfl rfl
/-- strings.Repeat("0", n), n small. -/
theorem repeat0 (n : Nat) (hn : n ≤ 60) : VCall Tryz.prog 83 [.str [48], .int .i64 (n : Nat)] (.str (List.replicate n 48)) := by
  refine ACall.value0 (acall_of_ax (P := Tryz.prog) (fn := Tryz.f83) rfl rfl (by kernel_rfl) rfl (fun c hR hfix => ?_)) (fix := fun _ => False) (fun _ h => h) rfl rfl
  repeat (first
    | refine ax_q (q_move rfl) ?_
    | refine ax_q (q_assign rfl) ?_
    | refine ax_ops_nil ?_
    | refine ax_post_code ?_
    | refine ax_seq ?_
    | refine ax_region rfl ?_
    | refine ax_block ?_
    | refine ax_q (q_eql rfl rfl) ?_)
  refine ax_cond_dec rfl (fun h0 => ?_) (fun h0 => ?_)
  · have : n = 0 := by omega
    subst this
    repeat (first
      | refine ax_q (q_assign rfl) ?_
      | refine ax_ops_nil ?_
      | refine ax_post_code ?_
      | refine ax_seq ?_
      | refine ax_region rfl ?_
      | refine ax_return ?_
      | refine ax_ret_code ?_
      | refine ax_ret_blk ?_)
    exact ax_ret hR rfl rfl
  repeat (first
    | refine ax_q (q_assign rfl) ?_
    | refine ax_ops_nil ?_
    | refine ax_post_code ?_
    | refine ax_seq ?_
    | refine ax_region rfl ?_
    | refine ax_q (q_eql rfl rfl) ?_)
  refine ax_cond_dec rfl (fun h1 => ?_) (fun h1 => ?_)
  · have : n = 1 := by omega
    subst this
    repeat (first
      | refine ax_q (q_move rfl) ?_
      | refine ax_q (q_assign rfl) ?_
      | refine ax_ops_nil ?_
      | refine ax_post_code ?_
      | refine ax_seq ?_
      | refine ax_region rfl ?_
      | refine ax_return ?_
      | refine ax_ret_code ?_
      | refine ax_ret_blk ?_)
    exact ax_ret hR rfl rfl
  repeat (first
    | refine ax_q (q_move rfl) ?_
    | refine ax_ops_nil ?_
    | refine ax_post_code ?_
    | refine ax_seq ?_
    | refine ax_region rfl ?_
    | refine ax_cond_false rfl ?_
    | refine ax_post_blk ?_
    | refine ax_skip ?_
    | refine ax_q (q_lss rfl rfl) ?_
    | refine ax_q (q_lenstr rfl rfl) ?_)
  have hm := mulB 1 n (by omega) (by omega)
  rw [Nat.one_mul, Nat.div_eq_of_lt (by omega), Nat.mod_eq_of_lt (by omega)] at hm
  have p1 : VCall Tryz.prog 100 [.str (List.replicate 128 32), .str [48]] (.bool false) := prefix2 _ _ (by decide) (by decide)
  have p2 : VCall Tryz.prog 100 [.str (List.replicate 128 45), .str [48]] (.bool false) := prefix2 _ _ (by decide) (by decide)
  have p3 : VCall Tryz.prog 100 [.str (List.replicate 64 48), .str [48]] (.bool true) := prefix2 _ _ (by decide) (by decide)
  refine ax_q (q_uconv (m := 1) rfl rfl rfl uk64 (by decide)) ?_
  repeat (refine ax_q (q_move rfl) ?_)
  refine ax_q (q_uconv (m := n) rfl rfl rfl uk64 (by omega)) ?_
  refine ax_callv rfl rfl rfl hm ?_
  repeat (first
    | refine ax_q (q_move rfl) ?_
    | refine ax_q (q_assign rfl) ?_
    | refine ax_ops_nil ?_
    | refine ax_post_code ?_
    | refine ax_seq ?_
    | refine ax_region rfl ?_
    | refine ax_guard rfl rfl ?_
    | refine ax_q (q_gtr rfl rfl) ?_
    | refine ax_q (q_pick rfl rfl) ?_
    | refine ax_q (q_extract rfl rfl) ?_)
  refine ax_cond_dec rfl (fun h => absurd h (by omega)) (fun h => ?_)
  repeat (first
    | refine ax_q (q_move rfl) ?_
    | refine ax_post_code ?_
    | refine ax_seq ?_
    | refine ax_region rfl ?_
    | refine ax_skip ?_)
  refine ax_q (q_conv64 (m := n) rfl rfl rfl (by omega)) ?_
  repeat (first
    | refine ax_q (q_move rfl) ?_
    | refine ax_q (q_assign rfl) ?_
    | refine ax_ops_nil ?_
    | refine ax_post_code ?_
    | refine ax_seq ?_
    | refine ax_region rfl ?_
    | refine ax_cond_true rfl ?_
    | refine ax_cond_false rfl ?_
    | refine ax_block ?_
    | refine ax_skip ?_
    | refine ax_q (q_eql rfl rfl) ?_
    | refine ax_q (q_leq rfl rfl) ?_
    | refine ax_q (q_lenstr rfl rfl) ?_
    | refine ax_q (q_stridx rfl rfl rfl (by first | assumption | omega | simp)) ?_)
  refine ax_gsplit rfl rfl (fun h3 => ?_) (fun h3 => absurd (show (n : Int) ≤ 128 by omega) h3)
  repeat (first
    | refine ax_q (q_move rfl) ?_
    | refine ax_guard rfl rfl ?_)
  refine ax_callv rfl rfl rfl p1 ?_
  repeat (first
    | refine ax_q (q_move rfl) ?_
    | refine ax_q (q_assign rfl) ?_
    | refine ax_ops_nil ?_
    | refine ax_post_code ?_
    | refine ax_seq ?_
    | refine ax_region rfl ?_
    | refine ax_cond_false rfl ?_
    | refine ax_q (q_leq rfl rfl) ?_
    | refine ax_q (q_pick rfl rfl) ?_)
  refine ax_gsplit rfl rfl (fun h4 => ?_) (fun h4 => absurd (show (n : Int) ≤ 128 by omega) h4)
  repeat (first
    | refine ax_q (q_move rfl) ?_
    | refine ax_guard rfl rfl ?_)
  refine ax_callv rfl rfl rfl p2 ?_
  repeat (first
    | refine ax_q (q_move rfl) ?_
    | refine ax_q (q_assign rfl) ?_
    | refine ax_ops_nil ?_
    | refine ax_post_code ?_
    | refine ax_seq ?_
    | refine ax_region rfl ?_
    | refine ax_cond_false rfl ?_
    | refine ax_q (q_leq rfl rfl) ?_
    | refine ax_q (q_pick rfl rfl) ?_)
  refine ax_gsplit rfl rfl (fun h5 => ?_) (fun h5 => absurd (show (n : Int) ≤ 64 by omega) h5)
  repeat (first
    | refine ax_q (q_move rfl) ?_
    | refine ax_guard rfl rfl ?_)
  refine ax_callv rfl rfl rfl p3 ?_
  repeat (first
    | refine ax_q (q_move rfl) ?_
    | refine ax_q (q_assign rfl) ?_
    | refine ax_ops_nil ?_
    | refine ax_post_code ?_
    | refine ax_seq ?_
    | refine ax_region rfl ?_
    | refine ax_cond_true rfl ?_
    | refine ax_q (q_pick rfl rfl) ?_)
  refine ax_q (q_strslice rfl rfl rfl rfl rfl rfl (by show (0 : Int) ≤ 0 ∧ (0 : Int) ≤ (n : Nat) ∧ ((n : Nat) : Int) ≤ ((64 : Nat) : Int); omega)) ?_
  repeat (first
    | refine ax_q (q_assign rfl) ?_
    | refine ax_ops_nil ?_
    | refine ax_post_code ?_
    | refine ax_return ?_
    | refine ax_ret_code ?_
    | refine ax_ret_blk ?_)
  refine ax_ret hR rfl ?_
  show AV.str ((List.drop 0 (List.replicate 64 48)).take (n - 0)) = _
  rw [List.drop_zero, Nat.sub_zero, List.take_replicate, Nat.min_eq_left (by omega)]

/-- strings.asciiSet: the digits. -/
def setL (k : Nat) : List AV := (List.range 256).map fun j => AV.bool (decide (48 ≤ j ∧ j < 48 + k))
theorem setL_len (k : Nat) : (setL k).length = 256 := by unfold setL; simp
theorem setL_at (k j : Nat) (hj : j < 256) : (setL k)[j]? = some (AV.bool (decide (48 ≤ j ∧ j < 48 + k))) := by
  unfold setL
  rw [List.getElem?_map, List.getElem?_range hj]; rfl
theorem setL_set (k : Nat) (hk : k < 10) : (setL k).set (48 + k) (.bool true) = setL (k + 1) := by
  apply List.ext_getElem?
  intro i
  rcases Nat.lt_or_ge i 256 with hi | hi
  · rw [setL_at (k + 1) i hi]
    by_cases h : i = 48 + k
    · subst h
      rw [List.getElem?_set_self (by rw [setL_len]; exact hi)]
      congr 2
      exact (decide_eq_true (by omega)).symm
    · rw [List.getElem?_set_ne (Ne.symm h), setL_at k i hi]
      congr 2
      rw [decide_eq_decide]; omega
  · rw [List.getElem?_eq_none (by rw [List.length_set, setL_len]; exact hi), List.getElem?_eq_none (by rw [setL_len]; exact hi)]
def digS : List UInt8 := [48, 49, 50, 51, 52, 53, 54, 55, 56, 57]
theorem digS_at (k : Nat) (hk : k < 10) : (digS.getD k 0).toNat = 48 + k := by
  have : k = 0 ∨ k = 1 ∨ k = 2 ∨ k = 3 ∨ k = 4 ∨ k = 5 ∨ k = 6 ∨ k = 7 ∨ k = 8 ∨ k = 9 := by omega
  rcases this with rfl | rfl | rfl | rfl | rfl | rfl | rfl | rfl | rfl | rfl <;> rfl
theorem box_all (l : List AV) : (List.range (Cells.box l).sz).map ((Cells.box l).at 0) = l := by
  apply List.ext_getElem?
  intro i
  rcases Nat.lt_or_ge i l.length with h | h
  · rw [List.getElem?_map, List.getElem?_range (by exact h)]
    show some (l.getD i .any) = _
    rw [List.getD, List.getElem?_eq_getElem h]; rfl
  · rw [List.getElem?_eq_none (by simpa [Cells.sz] using h), List.getElem?_eq_none h]
theorem set_ok : VCall Tryz.prog 103 [.str digS] (.tup [.agg (setL 10), .bool true]) := by
  refine ACall.value0 (acall_of_ax (P := Tryz.prog) (fn := Tryz.f103) rfl rfl (by kernel_rfl) rfl (fun c hR hfix => ?_)) (fix := fun _ => False) (fun _ h => h) rfl (by kernel_rfl)
  repeat (first
    | refine ax_q (q_assign rfl) ?_
    | refine ax_ops_nil ?_
    | refine ax_post_code ?_
    | refine ax_seq ?_
    | refine ax_region rfl ?_
    | refine ax_block ?_
    | refine ax_alloc rfl rfl rfl ?_)
  refine ax_heap_eq [some ⟨121, .box (setL 0)⟩] (by kernel_rfl) ?_
  refine ax_loop (ι := Nat) (fun k => [(0, .str digS), (2, .ptr 0 0 0), (4, .int .i64 (k : Nat))]) (fun k => [some ⟨121, .box (setL k)⟩]) (fun k => k ≤ 10) (fun k => 10 - k) 0 ⟨⟨rfl, rfl, rfl, trivial⟩, rfl, by omega⟩ ?_
  rintro k hk
  have hdl : digS.length = 10 := rfl
  repeat (first
    | refine ax_q (q_move rfl) ?_
    | refine ax_ops_nil ?_
    | refine ax_post_code ?_
    | refine ax_seq ?_
    | refine ax_region rfl ?_
    | refine ax_q (q_lss rfl rfl) ?_
    | refine ax_q (q_lenstr rfl rfl) ?_)
  refine ax_cond_dec rfl (fun h1 => ?_) (fun h1 => ?_)
  · have hk2 : k < 10 := by omega
    repeat (first
      | refine ax_q (q_move rfl) ?_
      | refine ax_q (q_assign rfl) ?_
      | refine ax_ops_nil ?_
      | refine ax_post_code ?_
      | refine ax_seq ?_
      | refine ax_region rfl ?_
      | refine ax_block ?_
      | refine ax_skip ?_
      | refine ax_q (q_geq rfl rfl) ?_
      | refine ax_q (q_stridx rfl rfl rfl (by first | assumption | omega | simp)) ?_)
    refine ax_cond_dec rfl (fun h2 => absurd h2 (by rw [Int.toNat_natCast, digS_at k hk2]; omega)) (fun h2 => ?_)
    repeat (first
      | refine ax_q (q_move rfl) ?_
      | refine ax_post_code ?_
      | refine ax_region rfl ?_
      | refine ax_skip ?_)
    refine ax_slot_ops 18 (.int .u8 (48 + k : Nat)) rfl (AEq.of_eq (by rw [Int.toNat_natCast, digS_at k hk2])) ?_
    refine ax_q (q_idxarr_ptr (m := ((48 + k : Nat) : Int)) (jx := 48 + k) rfl rfl rfl rfl (by rw [Int.toNat_natCast, Nat.zero_add]) (by omega)) ?_
    refine ax_store rfl rfl rfl rfl rfl (by rw [show (Cells.box (setL k)).sz = 256 from setL_len k]; exact Nat.ble_eq.symm ▸ (by omega : 48 + k + 1 ≤ 256)) rfl Nat.zero_lt_one ?_
    repeat (first
      | refine ax_q (q_move rfl) ?_
      | refine ax_q (q_assign rfl) ?_
      | refine ax_ops_nil ?_
      | refine ax_post_code ?_
      | refine ax_region rfl ?_
      | refine ax_post_blk ?_
      | refine ax_q (q_add rfl rfl (by omega)) ?_)
    refine ax_post_inv ⟨k + 1, by omega, by omega, ⟨rfl, rfl, rfl, trivial⟩, ?_⟩
    show ([some ⟨_, .box ((setL k).set (48 + k) (.bool true))⟩] : AHeap) = _
    rw [setL_set k hk2]
  · have hke : k = 10 := by omega
    subst hke
    repeat (first
      | refine ax_post_code ?_
      | refine ax_seq ?_
      | refine ax_region rfl ?_
      | refine ax_exit ?_
      | refine ax_exit_here ?_
      | refine ax_exit_code ?_
      | refine ax_exit_inv ?_)
    refine ax_q (q_loadagg_ptr (ob := ⟨121, .box (setL 10)⟩) rfl rfl rfl (setL_len 10).symm rfl rfl (box_all _) Nat.zero_lt_one) ?_
    refine ax_storeagg (c' := .box (setL 10)) rfl rfl (by rw [show (Cells.box (setL 10)).sz = 256 from setL_len 10]; rfl) rfl (by rw [show (Cells.box (setL 10)).sz = 256 from setL_len 10]; exact setL_len 10) Nat.zero_lt_one rfl rfl (fun i' j' hi' hj' => ?_) ?_
    · rw [if_pos (Nat.lt_one_iff.1 hi')]; rfl
    repeat (first
      | refine ax_q (q_assign rfl) ?_
      | refine ax_ops_nil ?_
      | refine ax_post_code ?_
      | refine ax_return ?_)
    exact ax_ret hR rfl rfl
theorem contains_ok (ch : UInt8) : VCall Tryz.prog 124 [.rp (.box (setL 10)) 0 0, .int .u8 (ch.toNat : Nat)] (.bool (dg ch)) := by
  have hlt := ch.toNat_lt
  have hat := setL_at 10 ch.toNat (by simpa using hlt)
  refine ACall.value0 (acall_of_ax (P := Tryz.prog) (fn := Tryz.f124) rfl rfl (by kernel_rfl) rfl (fun c hR hfix => ?_)) (fix := fun _ => False) (fun _ h => h) rfl rfl
  repeat (first
    | refine ax_q (q_move rfl) ?_
    | refine ax_q (q_assign rfl) ?_
    | refine ax_ops_nil ?_
    | refine ax_post_code ?_
    | refine ax_seq ?_
    | refine ax_region rfl ?_
    | refine ax_q (q_nilcheck_rp rfl) ?_)
  refine ax_q (q_idxarr_rp (m := ((ch.toNat : Nat) : Int)) (jx := ch.toNat) rfl rfl rfl rfl (by rw [Int.toNat_natCast, Nat.zero_add]) (by omega)) ?_
  refine ax_q (q_loadb_rp rfl rfl rfl hat) ?_
  repeat (first
    | refine ax_q (q_assign rfl) ?_
    | refine ax_ops_nil ?_
    | refine ax_post_code ?_
    | refine ax_return ?_)
  exact ax_ret hR rfl rfl
theorem right_ok (s : List UInt8) (hs : s.length ≤ 9223372036854775807) : VCall Tryz.prog 105 [.str s, .rp (.box (setL 10)) 0 0] (.str (trR s)) := by
  refine ACall.value0 (acall_of_ax (P := Tryz.prog) (fn := Tryz.f105) rfl rfl (by kernel_rfl) rfl (fun c hR hfix => ?_)) (fix := fun _ => False) (fun _ h => h) rfl rfl
  repeat (first
    | refine ax_q (q_assign rfl) ?_
    | refine ax_ops_nil ?_
    | refine ax_post_code ?_
    | refine ax_seq ?_
    | refine ax_region rfl ?_
    | refine ax_block ?_)
  refine ax_loop (ι := Nat) (fun k => [(0, .str (s.take k)), (1, .rp (.box (setL 10)) 0 0)]) (fun _ => []) (fun k => k ≤ s.length ∧ (s.drop k).all dg = true) (fun k => k) s.length ⟨⟨by rw [List.take_length]; rfl, rfl, trivial⟩, rfl, Nat.le_refl _, by simp⟩ ?_
  rintro k ⟨hk, hd⟩
  have hlen : (s.take k).length = k := by simp; omega
  have hof := trR_of hk hd
  repeat (first
    | refine ax_q (q_move rfl) ?_
    | refine ax_ops_nil ?_
    | refine ax_post_code ?_
    | refine ax_seq ?_
    | refine ax_region rfl ?_
    | refine ax_q (q_gtr rfl rfl) ?_
    | refine ax_q (q_lenstr rfl rfl) ?_)
  refine ax_cond_dec rfl (fun h1 => ?_) (fun h1 => ?_)
  · have hk1 : 0 < k := by omega
    have hg : (s.take k).getD (k - 1) 0 = s.getD (k - 1) 0 := by
      simp only [List.getD, List.getElem?_take, show k - 1 < k by omega, if_true]
    have e1 : ((k : Int) - 1).toNat = k - 1 := by omega
    have hc := contains_ok (s.getD (k - 1) 0)
    repeat (first
      | refine ax_q (q_move rfl) ?_
      | refine ax_post_code ?_
      | refine ax_seq ?_
      | refine ax_region rfl ?_
      | refine ax_block ?_
      | refine ax_skip ?_
      | refine ax_q (q_lenstr rfl rfl) ?_
      | refine ax_q (q_sub rfl rfl (by omega)) ?_
      | refine ax_q (q_stridx rfl rfl rfl (by first | assumption | omega | simp)) ?_)
    refine ax_slot_ops 13 (.int .u8 ((s.getD (k - 1) 0).toNat : Nat)) rfl (AEq.of_eq (by rw [hlen, e1, hg])) ?_
    refine ax_callv rfl rfl rfl hc ?_
    repeat (first
      | refine ax_ops_nil ?_
      | refine ax_post_code ?_
      | refine ax_q (q_not rfl) ?_)
    refine ax_cond rfl (fun h2 => ?_) (fun h2 => ?_)
    · have h3 : dg (s.getD (k - 1) 0) = false := by simpa using h2
      repeat (first
        | refine ax_q (q_move rfl) ?_
        | refine ax_q (q_assign rfl) ?_
        | refine ax_ops_nil ?_
        | refine ax_post_code ?_
        | refine ax_seq ?_
        | refine ax_region rfl ?_
        | refine ax_exit ?_
        | refine ax_exit_here ?_
        | refine ax_exit_code ?_
        | refine ax_exit_inv ?_
        | refine ax_exit_on rfl ?_
        | refine ax_return ?_)
      refine ax_ret hR rfl ?_
      rw [hof (.inr h3)]; rfl
    · have h3 : dg (s.getD (k - 1) 0) = true := by simpa using h2
      repeat (first
        | refine ax_q (q_move rfl) ?_
        | refine ax_post_code ?_
        | refine ax_region rfl ?_
        | refine ax_skip ?_
        | refine ax_q (q_lenstr rfl rfl) ?_
        | refine ax_q (q_sub rfl rfl (by omega)) ?_)
      refine ax_q (q_strslice rfl rfl rfl rfl rfl rfl (by omega)) ?_
      repeat (first
        | refine ax_q (q_assign rfl) ?_
        | refine ax_ops_nil ?_
        | refine ax_post_blk ?_)
      refine ax_post_inv ⟨k - 1, ⟨by omega, ?_⟩, by omega, ⟨?_, rfl, trivial⟩, rfl⟩
      · rw [drop_getD s 0 (k - 1) (by omega), show k - 1 + 1 = k by omega, List.all_cons, h3, hd]; rfl
      · show some (AV.str ((List.drop 0 (s.take k)).take ((((s.take k).length : Int) - 1).toNat - 0))) = _
        rw [List.drop_zero, hlen, e1, Nat.sub_zero, List.take_take, Nat.min_eq_left (by omega)]
  · have hk0 : k = 0 := by omega
    subst hk0
    repeat (first
      | refine ax_q (q_move rfl) ?_
      | refine ax_q (q_assign rfl) ?_
      | refine ax_ops_nil ?_
      | refine ax_post_code ?_
      | refine ax_seq ?_
      | refine ax_region rfl ?_
      | refine ax_exit ?_
      | refine ax_exit_here ?_
      | refine ax_exit_code ?_
      | refine ax_exit_inv ?_
      | refine ax_return ?_)
    refine ax_ret hR rfl ?_
    rw [hof (.inl rfl)]; rfl
theorem left_ok (s : List UInt8) (hs : s.length ≤ 9223372036854775807) : VCall Tryz.prog 104 [.str s, .rp (.box (setL 10)) 0 0] (.str (trL s)) := by
  refine ACall.value0 (acall_of_ax (P := Tryz.prog) (fn := Tryz.f104) rfl rfl (by kernel_rfl) rfl (fun c hR hfix => ?_)) (fix := fun _ => False) (fun _ h => h) rfl rfl
  repeat (first
    | refine ax_q (q_assign rfl) ?_
    | refine ax_ops_nil ?_
    | refine ax_post_code ?_
    | refine ax_seq ?_
    | refine ax_region rfl ?_
    | refine ax_block ?_)
  refine ax_loop (ι := Nat) (fun k => [(0, .str (s.drop k)), (1, .rp (.box (setL 10)) 0 0)]) (fun _ => []) (fun k => k ≤ s.length ∧ (s.take k).all dg = true) (fun k => s.length - k) 0 ⟨⟨by rw [List.drop_zero]; rfl, rfl, trivial⟩, rfl, Nat.zero_le _, by simp⟩ ?_
  rintro k ⟨hk, hd⟩
  have hlen : (s.drop k).length = s.length - k := by simp
  have hof := trL_of hd
  repeat (first
    | refine ax_q (q_move rfl) ?_
    | refine ax_ops_nil ?_
    | refine ax_post_code ?_
    | refine ax_seq ?_
    | refine ax_region rfl ?_
    | refine ax_q (q_gtr rfl rfl) ?_
    | refine ax_q (q_lenstr rfl rfl) ?_)
  refine ax_cond_dec rfl (fun h1 => ?_) (fun h1 => ?_)
  · have hk1 : k < s.length := by omega
    have hg : (s.drop k).getD 0 0 = s.getD k 0 := by simp [List.getD]
    have hc := contains_ok (s.getD k 0)
    repeat (first
      | refine ax_q (q_move rfl) ?_
      | refine ax_post_code ?_
      | refine ax_seq ?_
      | refine ax_region rfl ?_
      | refine ax_block ?_
      | refine ax_skip ?_
      | refine ax_q (q_stridx rfl rfl rfl (by first | assumption | omega | simp)) ?_)
    refine ax_slot_ops 10 (.int .u8 ((s.getD k 0).toNat : Nat)) rfl (AEq.of_eq (by rw [Int.toNat_zero, hg])) ?_
    refine ax_callv rfl rfl rfl hc ?_
    repeat (first
      | refine ax_ops_nil ?_
      | refine ax_post_code ?_
      | refine ax_q (q_not rfl) ?_)
    refine ax_cond rfl (fun h2 => ?_) (fun h2 => ?_)
    · have h3 : dg (s.getD k 0) = false := by simpa using h2
      repeat (first
        | refine ax_q (q_move rfl) ?_
        | refine ax_q (q_assign rfl) ?_
        | refine ax_ops_nil ?_
        | refine ax_post_code ?_
        | refine ax_seq ?_
        | refine ax_region rfl ?_
        | refine ax_exit ?_
        | refine ax_exit_here ?_
        | refine ax_exit_code ?_
        | refine ax_exit_inv ?_
        | refine ax_exit_on rfl ?_
        | refine ax_return ?_)
      refine ax_ret hR rfl ?_
      rw [hof (.inr h3)]; rfl
    · have h3 : dg (s.getD k 0) = true := by simpa using h2
      repeat (first
        | refine ax_q (q_move rfl) ?_
        | refine ax_post_code ?_
        | refine ax_region rfl ?_
        | refine ax_skip ?_)
      refine ax_q (q_strslice rfl rfl rfl rfl rfl rfl (by omega)) ?_
      repeat (first
        | refine ax_q (q_assign rfl) ?_
        | refine ax_ops_nil ?_
        | refine ax_post_blk ?_)
      refine ax_post_inv ⟨k + 1, ⟨by omega, ?_⟩, by omega, ⟨?_, rfl, trivial⟩, rfl⟩
      · rw [take_succ_getD s 0 k hk1, List.all_append, hd]; simp only [List.all_cons, List.all_nil, h3, Bool.and_true]
      · show some (AV.str ((List.drop 1 (s.drop k)).take ((s.drop k).length - 1))) = _
        rw [List.drop_drop, List.take_of_length_le (by simp; omega)]
  · have hk0 : s.length ≤ k := by omega
    repeat (first
      | refine ax_q (q_move rfl) ?_
      | refine ax_q (q_assign rfl) ?_
      | refine ax_ops_nil ?_
      | refine ax_post_code ?_
      | refine ax_seq ?_
      | refine ax_region rfl ?_
      | refine ax_exit ?_
      | refine ax_exit_here ?_
      | refine ax_exit_code ?_
      | refine ax_exit_inv ?_
      | refine ax_return ?_)
    refine ax_ret hR rfl ?_
    rw [hof (.inl hk0)]; rfl
theorem trim_ok (s : List UInt8) (hs : s.length ≤ 9223372036854775807) : VCall Tryz.prog 71 [.str s, .str digS] (.str (trL (trR s))) := by
  have h1 := set_ok
  have h2 := right_ok s hs
  have hle : (trR s).length ≤ s.length := by
    unfold trR
    rw [List.length_reverse]
    have := (List.dropWhile_sublist (p := dg) (l := s.reverse)).length_le
    simpa using this
  have h3 := left_ok (trR s) (by omega)
  refine ACall.value0 (acall_of_ax (P := Tryz.prog) (fn := Tryz.f71) rfl rfl (by kernel_rfl) rfl (fun c hR hfix => ?_)) (fix := fun _ => False) (fun _ h => h) rfl rfl
  have hl := setL_len 10
  repeat (first
    | refine ax_q (q_move rfl) ?_
    | refine ax_q (q_assign rfl) ?_
    | refine ax_ops_nil ?_
    | refine ax_post_code ?_
    | refine ax_seq ?_
    | refine ax_region rfl ?_
    | refine ax_q (q_streql rfl rfl) ?_)
  by_cases h0 : s = []
  · subst h0
    repeat (first
      | refine ax_q (q_move rfl) ?_
      | refine ax_q (q_assign rfl) ?_
      | refine ax_ops_nil ?_
      | refine ax_post_code ?_
      | refine ax_seq ?_
      | refine ax_region rfl ?_
      | refine ax_skip_not rfl rfl rfl ?_
      | refine ax_cond_true rfl ?_
      | refine ax_return ?_
      | refine ax_ret_code ?_
      | refine ax_q (q_pick rfl rfl) ?_)
    exact ax_ret hR rfl rfl
  rw [show decide (s = _) = false from decide_eq_false h0]
  repeat (first
    | refine ax_q (q_move rfl) ?_
    | refine ax_ops_nil ?_
    | refine ax_post_code ?_
    | refine ax_seq ?_
    | refine ax_region rfl ?_
    | refine ax_guard rfl rfl ?_
    | refine ax_skip_not rfl rfl rfl ?_
    | refine ax_cond_false rfl ?_
    | refine ax_skip ?_
    | refine ax_q (q_eql rfl rfl) ?_
    | refine ax_q (q_pick rfl rfl) ?_
    | refine ax_q (q_lenstr rfl rfl) ?_
    | refine ax_q (q_streql rfl rfl) ?_)
  refine ax_callv rfl rfl rfl h1 ?_
  repeat (first
    | refine ax_q (q_move rfl) ?_
    | refine ax_q (q_extract rfl rfl) ?_
    | refine ax_alloc rfl rfl rfl ?_)
  refine ax_storeagg (c' := .box (setL 10)) rfl rfl rfl rfl (setL_len 10) Nat.zero_lt_one rfl (setL_len 10) (fun i' j' hi' hj' => ?_) ?_
  · rw [if_pos (Nat.lt_one_iff.1 hi')]; rfl
  repeat (first
    | refine ax_q (q_move rfl) ?_
    | refine ax_q (q_assign rfl) ?_
    | refine ax_ops_nil ?_
    | refine ax_post_code ?_
    | refine ax_seq ?_
    | refine ax_region rfl ?_
    | refine ax_cond_true rfl ?_)
  have hrl : ∀ (h : Nat) (o : AObj), ([some ⟨121, .box (setL 10)⟩] : AHeap)[h]? = some (some o) → refless o.c := refl1 (fun i j hi hj => by
    show noRef ((setL 10).getD j .any) = true
    rw [List.getD, setL_at 10 j (by have : j < (setL 10).length := hj; rwa [setL_len] at this)]; rfl)
  refine ax_heap_eq_ops [some ⟨121, .box (setL 10)⟩] rfl ?_
  refine ax_calll rfl rfl rfl rfl h2 hrl ⟨trivial, fun o ho => by simp at ho; subst ho; exact Nat.zero_lt_one, trivial⟩ rfl rfl rfl ?_
  skip
  refine ax_calll rfl rfl rfl rfl h3 hrl ⟨trivial, fun o ho => by simp at ho; subst ho; exact Nat.zero_lt_one, trivial⟩ rfl rfl rfl ?_
  repeat (first
    | refine ax_q (q_assign rfl) ?_
    | refine ax_ops_nil ?_
    | refine ax_post_code ?_
    | refine ax_return ?_
    | refine ax_ret_code ?_)
  exact ax_ret hR rfl rfl
end Go.Proofs.YtbeegiiiochblaaGreatDoor

namespace Go.Proofs.YtbeegiiiochblaaGreatDoor
open Go.Ax Go.Ax.Bg Go.RowKit
open Go.Ax.Tb (digit digit_of digits_digit digits_ne)
attribute [local irreducible] Ax Post QOp ACall
set_option maxRecDepth 100000
set_option maxHeartbeats 4000000

theorem pow_le9 {i : Nat} (h : i ≤ 9) : 10 ^ i ≤ 1000000000 := by
  have := Nat.pow_le_pow_right (show 0 < 10 by decide) h
  exact Nat.le_trans this (by decide)
theorem read_ok (S : List UInt8) (hd : ∀ c ∈ S, digit c) (hl : S.length ≤ 1000000) : VCall Tryz.prog 72 [.str S] (natA (decV 0 S)) := by
  refine ACall.value0 (acall_of_ax (P := Tryz.prog) (fn := Tryz.f72) rfl rfl (by kernel_rfl) rfl (fun c hR hfix => ?_)) (fix := fun _ => False) (fun _ h => h) rfl rfl
  repeat (first
    | refine ax_q (q_assign rfl) ?_
    | refine ax_ops_nil ?_
    | refine ax_post_code ?_
    | refine ax_seq ?_
    | refine ax_region rfl ?_)
  refine ax_slot 3 (natA 0) rfl AEq.natNil ?_
  refine ax_block ?_
  refine ax_loop (ι := Nat × List UInt8) (fun p => [(0, .str p.2), (3, natA p.1)]) (fun _ => []) (fun p => p.2.length ≤ S.length ∧ (∀ c ∈ p.2, digit c) ∧ decV p.1 p.2 = decV 0 S ∧ p.1 < 10 ^ (S.length - p.2.length)) (fun p => p.2.length) (0, S) ⟨⟨rfl, rfl, trivial⟩, rfl, Nat.le_refl _, hd, rfl, by simp⟩ ?_
  rintro ⟨v, s⟩ ⟨h1, h2, h3, h4⟩
  simp only at *
  repeat (first
    | refine ax_q (q_move rfl) ?_
    | refine ax_ops_nil ?_
    | refine ax_post_code ?_
    | refine ax_seq ?_
    | refine ax_region rfl ?_
    | refine ax_q (q_gtr rfl rfl) ?_
    | refine ax_q (q_lenstr rfl rfl) ?_)
  refine ax_cond_dec rfl (fun h5 => ?_) (fun h5 => ?_)
  · have hs0 : s ≠ [] := by rintro rfl; simp at h5
    obtain ⟨k, hk, hk1, hk9, hks⟩ : ∃ k : Nat, (if (9 : Int) < (s.length : Nat) then (9 : Int) else (s.length : Nat)) = (k : Int) ∧ 1 ≤ k ∧ k ≤ 9 ∧ k ≤ s.length := by
      have : 0 < s.length := List.length_pos_iff.2 hs0
      by_cases hz : (9 : Int) < (s.length : Nat)
      · exact ⟨9, by rw [if_pos hz]; rfl, by omega, by omega, by omega⟩
      · exact ⟨s.length, by rw [if_neg hz], by omega, by omega, Nat.le_refl _⟩
    have ht0 : s.take k ≠ [] := by
      intro e
      have := congrArg List.length e
      rw [List.length_take, Nat.min_eq_left hks] at this
      simp at this; omega
    have htl : (s.take k).length = k := by rw [List.length_take, Nat.min_eq_left hks]
    obtain ⟨hp, hplt⟩ := parse_ok ht0 (fun c hc => h2 c (List.mem_of_mem_take hc)) (by omega)
    have hp32 := parse32 (s.take k) _ (by omega) hp
    have hdv : decV (v * 10 ^ k + decV 0 (s.take k)) (s.drop k) = decV 0 S := by
      rw [← h3]
      conv => rhs; rw [← List.take_append_drop k s]
      rw [decV_append, decV_acc (s.take k) v, htl]
    have hxlt := decV_lt (l := s.take k) (fun c hc => h2 c (List.mem_of_mem_take hc))
    rw [htl] at hxlt
    have hvn : v * 10 ^ k + decV 0 (s.take k) < 10 ^ (S.length - (s.drop k).length) := by
      rw [List.length_drop, show S.length - (s.length - k) = (S.length - s.length) + k by omega, Nat.pow_add]
      have : (v + 1) * 10 ^ k ≤ 10 ^ (S.length - s.length) * 10 ^ k := Nat.mul_le_mul_right _ h4
      rw [Nat.add_mul] at this
      omega
    obtain ⟨x, hx⟩ : ∃ x, decV 0 (s.take k) = x := ⟨_, rfl⟩
    rw [hx] at hplt hp32 hdv hvn
    have hvl : (natL v).length ≤ S.length - s.length := natL_len_le (Nat.lt_of_lt_of_le h4 (Nat.pow_le_pow_left (by decide) _))
    have hma := mulAdd_ok (natL v) (10 ^ k) x (natL_lim v) (by omega) (by have := pow_le9 hk9; omega) (by omega)
    rw [valL_natL] at hma
    repeat (first
      | refine ax_q (q_move rfl) ?_
      | refine ax_q (q_assign rfl) ?_
      | refine ax_ops_nil ?_
      | refine ax_post_code ?_
      | refine ax_seq ?_
      | refine ax_region rfl ?_
      | refine ax_block ?_
      | refine ax_skip ?_
      | refine ax_q (q_lenstr rfl rfl) ?_
      | refine ax_q (q_min rfl rfl) ?_
      | refine ax_q (q_strslice rfl rfl rfl rfl rfl rfl (by omega)) ?_)
    rw [hk]
    refine ax_slot_ops 17 (.str (s.take k)) rfl (AEq.of_eq (by
      show AV.str ((List.drop 0 s).take (k - 0)) = _
      rw [List.drop_zero, Nat.sub_zero])) ?_
    refine ax_callv rfl rfl rfl hp32 ?_
    repeat (first
      | refine ax_q (q_move rfl) ?_
      | refine ax_q (q_assign rfl) ?_
      | refine ax_ops_nil ?_
      | refine ax_post_code ?_
      | refine ax_seq ?_
      | refine ax_region rfl ?_
      | refine ax_block ?_
      | refine ax_q (q_extract rfl rfl) ?_)
    refine ax_loop (ι := Nat) (fun i => [(0, .str s), (3, natA v), (4, .int .i64 (k : Nat)), (5, .int .u64 (x : Nat)), (7, .int .u32 (10 ^ i : Nat)), (21, .int .i64 (k : Nat)), (22, .int .i64 (i : Nat))]) (fun _ => []) (fun i => i ≤ k) (fun i => k - i) 0 ⟨⟨rfl, rfl, rfl, rfl, rfl, rfl, rfl, trivial⟩, rfl, Nat.zero_le _⟩ ?_
    rintro i hi
    repeat (first
      | refine ax_ops_nil ?_
      | refine ax_post_code ?_
      | refine ax_seq ?_
      | refine ax_region rfl ?_
      | refine ax_q (q_lss rfl rfl) ?_)
    refine ax_cond_dec rfl (fun h6 => ?_) (fun h6 => ?_)
    · have hpw := pow_le9 (show i + 1 ≤ 9 by omega)
      rw [Nat.pow_succ] at hpw
      repeat (first
        | refine ax_q (q_move rfl) ?_
        | refine ax_post_code ?_
        | refine ax_seq ?_
        | refine ax_region rfl ?_
        | refine ax_block ?_
        | refine ax_skip ?_)
      refine ax_q (q_umul (m := 10 ^ i) (n := 10) rfl rfl uk32 (by omega)) ?_
      repeat (first
        | refine ax_q (q_move rfl) ?_
        | refine ax_q (q_assign rfl) ?_
        | refine ax_ops_nil ?_
        | refine ax_post_code ?_
        | refine ax_region rfl ?_
        | refine ax_post_blk ?_
        | refine ax_q (q_add rfl rfl (by omega)) ?_)
      exact ax_post_inv ⟨i + 1, by omega, by omega, ⟨rfl, rfl, rfl, rfl, rfl, rfl, rfl, trivial⟩, rfl⟩
    · have hie : i = k := by omega
      subst hie
      repeat (first
        | refine ax_q (q_move rfl) ?_
        | refine ax_post_code ?_
        | refine ax_seq ?_
        | refine ax_region rfl ?_
        | refine ax_exit ?_
        | refine ax_exit_here ?_
        | refine ax_exit_code ?_
        | refine ax_exit_inv ?_)
      refine ax_q (q_uconv (m := x) rfl rfl rfl uk32 (by omega)) ?_
      refine ax_callv rfl rfl rfl hma ?_
      repeat (first
        | refine ax_q (q_move rfl) ?_
        | refine ax_q (q_assign rfl) ?_
        | refine ax_ops_nil ?_
        | refine ax_post_code ?_
        | refine ax_region rfl ?_
        | refine ax_post_blk ?_
        | refine ax_q (q_strslice rfl rfl rfl rfl rfl rfl (by omega)) ?_)
      refine ax_post_inv ⟨(v * 10 ^ i + x, s.drop i), ⟨by simp only [List.length_drop]; omega, fun c hc => h2 c (List.mem_of_mem_drop hc), hdv, hvn⟩, by simp only [List.length_drop]; omega, ⟨?_, rfl, trivial⟩, rfl⟩
      show some (AV.str ((List.drop i s).take (s.length - i))) = _
      rw [List.take_of_length_le (by simp)]
  · have hs0 : s = [] := by
      rcases s with _ | ⟨x, r⟩
      · rfl
      · exact absurd (by simp) h5
    subst hs0
    repeat (first
      | refine ax_q (q_move rfl) ?_
      | refine ax_q (q_assign rfl) ?_
      | refine ax_ops_nil ?_
      | refine ax_post_code ?_
      | refine ax_seq ?_
      | refine ax_region rfl ?_
      | refine ax_exit ?_
      | refine ax_exit_here ?_
      | refine ax_exit_code ?_
      | refine ax_exit_inv ?_
      | refine ax_return ?_)
    refine ax_ret hR rfl ?_
    rw [← h3]; rfl
theorem text_zero : VCall Tryz.prog 49 [natA 0] (.str (Lib.decDigits 0)) := by
  refine ACall.value0 (acall_of_ax (P := Tryz.prog) (fn := Tryz.f49) rfl rfl (by kernel_rfl) rfl (fun c hR hfix => ?_)) (fix := fun _ => False) (fun _ h => h) rfl rfl
  have en : natA 0 = .ro (.ints .u32 []) 0 0 := by unfold natA; rw [natL_zero]; rfl
  rw [en]
  repeat (first
    | refine ax_q (q_move rfl) ?_
    | refine ax_q (q_assign rfl) ?_
    | refine ax_ops_nil ?_
    | refine ax_post_code ?_
    | refine ax_seq ?_
    | refine ax_region rfl ?_
    | refine ax_cond_true rfl ?_
    | refine ax_return ?_
    | refine ax_ret_code ?_
    | refine ax_q (q_eql rfl rfl) ?_
    | refine ax_q (q_len rfl rfl rfl) ?_)
  refine ax_ret hR rfl ?_
  rw [Lib.decDigits_one (by decide)]; rfl
theorem digits_len_b {n L : Nat} (h : (natL n).length ≤ L) (hL : 1 ≤ L) : (Lib.decDigits n).length ≤ 10 * L := by
  have h1 := valL_lt (natL_lim n)
  rw [valL_natL] at h1
  have h2 : B ^ (natL n).length ≤ B ^ L := Nat.pow_le_pow_right (by decide) h
  have h3 : B ^ L ≤ (10 ^ 10) ^ L := Nat.pow_le_pow_left (by decide) L
  rw [← Nat.pow_mul] at h3
  exact digits_len_le (by omega) (by omega)
theorem text_ok (n : Nat) (h : (natL n).length ≤ 1000000) : VCall Tryz.prog 49 [natA n] (.str (Lib.decDigits n)) := by
  rcases Nat.eq_zero_or_pos n with h0 | h0
  · subst h0; exact text_zero
  have hdl := digits_len_b h (by decide)
  have hn0 : 0 < (natL n).length := natL_pos_len.2 (by omega)
  refine ACall.value0 (acall_of_ax (P := Tryz.prog) (fn := Tryz.f49) rfl rfl (by kernel_rfl) rfl (fun c hR hfix => ?_)) (fix := fun _ => False) (fun _ h => h) rfl rfl
  unfold natA
  repeat (first
    | refine ax_q (q_move rfl) ?_
    | refine ax_q (q_assign rfl) ?_
    | refine ax_ops_nil ?_
    | refine ax_post_code ?_
    | refine ax_seq ?_
    | refine ax_region rfl ?_
    | refine ax_q (q_eql rfl rfl) ?_
    | refine ax_q (q_len rfl rfl rfl) ?_)
  refine ax_cond_dec rfl (fun q => absurd q (by omega)) (fun q => ?_)
  repeat (first
    | refine ax_q (q_assign rfl) ?_
    | refine ax_ops_nil ?_
    | refine ax_post_code ?_
    | refine ax_seq ?_
    | refine ax_region rfl ?_
    | refine ax_skip ?_)
  refine ax_nilobj 3 ⟨9, .strs []⟩ rfl rfl ?_
  refine ax_block ?_
  refine ax_loop (ι := Nat × List (List UInt8)) (fun p => [(0, natA p.1), (3, .sl 0 0 p.2.length)]) (fun p => [some ⟨9, .strs p.2⟩]) (fun p => (natL p.1).length ≤ 1000000 ∧ p.2.length ≤ p.2.reverse.flatten.length ∧ (if p.1 = 0 then Lib.decDigits n = p.2.reverse.flatten else Lib.decDigits n = Lib.decDigits p.1 ++ p.2.reverse.flatten)) (fun p => p.1) (n, [])
    ⟨⟨rfl, rfl, trivial⟩, rfl, h, by simp, by rw [if_neg (by simp only; omega)]; simp⟩ ?_
  rintro ⟨m, ps⟩ ⟨h1, h2, h3⟩
  simp only at *
  have hpos : 0 < (natL m).length ↔ m ≠ 0 := natL_pos_len
  have hds := divSmall_ok (natL m) 1000000000 (natL_lim m) (by omega) (by decide)
  rw [valL_natL] at hds
  have hflen : ps.reverse.flatten.length ≤ 10000000 := by
    have e : ps.reverse.flatten.length ≤ (Lib.decDigits n).length := by
      split at h3
      · rw [h3]; exact Nat.le_refl _
      · rw [h3, List.length_append]; omega
    omega
  have en : natA m = .ro (.ints .u32 (natL m)) 0 (natL m).length := rfl
  rw [en]
  repeat (first
    | refine ax_q (q_move rfl) ?_
    | refine ax_ops_nil ?_
    | refine ax_post_code ?_
    | refine ax_seq ?_
    | refine ax_region rfl ?_
    | refine ax_q (q_gtr rfl rfl) ?_
    | refine ax_q (q_len rfl rfl rfl) ?_)
  refine ax_cond_dec rfl (fun h4 => ?_) (fun h4 => ?_)
  · have hm0 : m ≠ 0 := hpos.1 (by omega)
    rw [if_neg hm0] at h3
    have hr : m % 1000000000 < 1000000000 := Nat.mod_lt _ (by decide)
    have hlt : m / 1000000000 < m := Nat.div_lt_self (by omega) (by decide)
    have hit := itoaN (m % 1000000000) (by omega)
    have hpos2 : 0 < (natL (m / 1000000000)).length ↔ m / 1000000000 ≠ 0 := natL_pos_len
    have hlen2 := natL_mono_len hlt h1
    have hrl : (Lib.decDigits (m % 1000000000)).length ≤ 9 := digits_len_le (by decide) (by have e9 : (10 : Nat) ^ 9 = 1000000000 := by decide
                                                                                            rw [e9]; exact hr)
    have hrp := repeat0 (9 - (Lib.decDigits (m % 1000000000)).length) (by omega)
    obtain ⟨t, ht0, htl, htp, htn⟩ : ∃ t : List UInt8, t ≠ [] ∧ t.length ≤ 9 ∧ (m / 1000000000 ≠ 0 → t = List.replicate (9 - (Lib.decDigits (m % 1000000000)).length) 48 ++ Lib.decDigits (m % 1000000000)) ∧ (m / 1000000000 = 0 → t = Lib.decDigits (m % 1000000000)) := by
      by_cases z : m / 1000000000 = 0
      · exact ⟨_, digits_ne _, hrl, fun h => absurd z h, fun _ => rfl⟩
      · refine ⟨_, ?_, ?_, fun _ => rfl, fun h => absurd h z⟩
        · simp [digits_ne]
        · simp; omega
    have hsplit : m / 1000000000 ≠ 0 → Lib.decDigits m = Lib.decDigits (m / 1000000000) ++ t := fun z => by
      have e9 : (10 : Nat) ^ 9 = 1000000000 := by decide
      have hs := digits_split (n := m) (k := 9) (by decide) (by rw [e9]; omega)
      rw [e9] at hs
      rw [hs, htp z]; rfl
    have hone : m / 1000000000 = 0 → Lib.decDigits m = t := fun z => by
      rw [htn z]
      congr 1
      have := Nat.div_add_mod m 1000000000
      omega
    have hnew : (if m / 1000000000 = 0 then Lib.decDigits n = (ps ++ [t]).reverse.flatten else Lib.decDigits n = Lib.decDigits (m / 1000000000) ++ (ps ++ [t]).reverse.flatten) := by
      rw [List.reverse_append, List.reverse_singleton, List.singleton_append, List.flatten_cons]
      split
      · rename_i z; rw [h3, hone z]
      · rename_i z; rw [h3, hsplit z, List.append_assoc]
    obtain ⟨r, hrr⟩ : ∃ r, m % 1000000000 = r := ⟨_, rfl⟩
    obtain ⟨d, hdd⟩ : ∃ d, m / 1000000000 = d := ⟨_, rfl⟩
    simp only [hrr, hdd] at *
    repeat (first
      | refine ax_q (q_move rfl) ?_
      | refine ax_q (q_assign rfl) ?_
      | refine ax_ops_nil ?_
      | refine ax_post_code ?_
      | refine ax_seq ?_
      | refine ax_region rfl ?_
      | refine ax_block ?_
      | refine ax_skip ?_)
    refine ax_callv rfl rfl rfl hds ?_
    repeat (first
      | refine ax_q (q_move rfl) ?_
      | refine ax_q (q_assign rfl) ?_
      | refine ax_ops_nil ?_
      | refine ax_post_code ?_
      | refine ax_seq ?_
      | refine ax_region rfl ?_
      | refine ax_q (q_extract rfl rfl) ?_)
    refine ax_q (q_conv64 (m := r) rfl rfl rfl (by omega)) ?_
    refine ax_callv rfl rfl rfl hit ?_
    have en2 : natA d = .ro (.ints .u32 (natL d)) 0 (natL d).length := rfl
    rw [en2]
    repeat (first
      | refine ax_q (q_move rfl) ?_
      | refine ax_q (q_assign rfl) ?_
      | refine ax_ops_nil ?_
      | refine ax_post_code ?_
      | refine ax_seq ?_
      | refine ax_region rfl ?_
      | refine ax_q (q_gtr rfl rfl) ?_
      | refine ax_q (q_len rfl rfl rfl) ?_)
    apply ax_tail_code (H := [some ⟨9, .strs ps⟩]) [(0, natA d), (3, .sl 0 0 ps.length), (5, .str t)]
    · intro fin
      refine ax_cond_dec rfl (fun q2 => ?_) (fun q2 => ?_)
      · have hd0 : d ≠ 0 := hpos2.1 (by omega)
        repeat (first
          | refine ax_q (q_move rfl) ?_
          | refine ax_region rfl ?_
          | refine ax_q (q_lenstr rfl rfl) ?_
          | refine ax_q (q_sub rfl rfl (by omega)) ?_)
        refine ax_slot_ops 25 (.int .i64 (9 - (Lib.decDigits r).length : Nat)) rfl (AEq.of_eq (by congr 1; omega)) ?_
        refine ax_callv rfl rfl rfl hrp ?_
        repeat (refine ax_q (q_move rfl) ?_)
        refine ax_q (q_concat rfl rfl (by simp; omega)) ?_
        repeat (first
          | refine ax_q (q_assign rfl) ?_
          | refine ax_ops_nil ?_
          | refine ax_post_code ?_)
        exact fin _ ⟨rfl, rfl, by rw [htp hd0]; rfl, trivial⟩
      · have hd0 : d = 0 := by
          rcases Nat.eq_zero_or_pos d with z | z
          · exact z
          · exact absurd (by have := hpos2.2 (by omega); omega) q2
        repeat (first
          | refine ax_post_code ?_
          | refine ax_skip ?_)
        exact fin _ ⟨rfl, rfl, by rw [htn hd0]; rfl, trivial⟩
    repeat (first
      | refine ax_q (q_move rfl) ?_
      | refine ax_region rfl ?_
      | refine ax_buildSliceRo rfl rfl rfl rfl rfl rfl rfl rfl rfl rfl rfl ?_)
    refine ax_append rfl rfl rfl rfl rfl rfl rfl rfl rfl rfl rfl rfl (Nat.le_refl 1) rfl (by show (ps.length + 1) * 16 ≤ _ ∧ _; omega) (fun i j _ _ => rfl) (by rw [hfix]; exact fun h => h) ?_
    repeat (first
      | refine ax_q (q_assign rfl) ?_
      | refine ax_ops_nil ?_
      | refine ax_post_blk ?_)
    refine ax_post_inv ⟨(d, ps ++ [t]), ⟨hlen2, ?_, hnew⟩, hlt, ⟨rfl, ?_, trivial⟩, rfl⟩
    · simp only [List.reverse_append, List.reverse_singleton, List.singleton_append, List.flatten_cons, List.length_append, List.length_singleton]
      have := List.length_pos_iff.2 ht0
      omega
    · show some (AV.sl 0 0 (ps.length + 1)) = _
      simp
  · have hm0 : m = 0 := by
      rcases Nat.eq_zero_or_pos m with q | q
      · exact q
      · exact absurd (by have := hpos.2 (by omega); omega) h4
    rw [if_pos hm0] at h3
    have hrv := reverse_ok ps (by omega)
    have hjl : (Lib.join ps.reverse []).length ≤ 140737488355328 := by rw [join_flat]; omega
    have hjn := join ps.reverse [] (by rw [List.length_reverse]; omega) hjl
    rw [join_flat, ← h3, List.length_reverse] at hjn
    repeat (first
      | refine ax_q (q_move rfl) ?_
      | refine ax_post_code ?_
      | refine ax_seq ?_
      | refine ax_region rfl ?_
      | refine ax_exit ?_
      | refine ax_exit_here ?_
      | refine ax_exit_code ?_
      | refine ax_exit_inv ?_)
    refine ax_callc (fix := fun h => h < 1) rfl rfl rfl hrv (fun h hh => hh) (fun h hh => hh) ?_
    rintro r H rfl
    repeat (first
      | refine ax_q (q_move rfl) ?_
      | refine ax_ops_nil ?_
      | refine ax_post_code ?_
      | refine ax_seq ?_
      | refine ax_region rfl ?_)
    refine ax_give 0 35 ps.length [] rfl refless_strs rfl (by show _ ≤ ps.reverse.length; simp) trivial ?_
    refine ax_callv rfl rfl rfl hjn ?_
    repeat (first
      | refine ax_q (q_assign rfl) ?_
      | refine ax_ops_nil ?_
      | refine ax_post_code ?_
      | refine ax_return ?_)
    exact ax_ret hR rfl rfl
end Go.Proofs.YtbeegiiiochblaaGreatDoor

/-
  Placements in plain Lean: counts, numbers of placements, ranks. No program in sight.
-/
namespace Go.Ax.Idx

def outC (n : Int) : Bool := decide (n < 0 ∨ 16 < n)
def outK (n : Int) : Bool := decide (n < 0 ∨ 6 < n)
/-- index.CheckCounts -/
def checkCountsF (l : List Int) : Int :=
  if l.length ≠ 7 then 3 else if l.any outC then 4 else if 16 < l.sum then 2 else 0
/-- index.Check -/
def checkF (l : List Int) : Int := if 16 < l.length then 2 else if l.any outK then 4 else 0

def wstep (s : Int × Int) (k : Nat) : Int × Int := (s.1 * (s.2 + 1) / (k + 1), s.2 + 1)
def wrow (s : Int × Int) (c : Int) : Int × Int := (List.range c.toNat).foldl wstep s
def waysS (l : List Int) : Int × Int := l.foldl wrow (1, 0)
def waysF (l : List Int) : Int := (waysS l).1

def fct : Nat → Int
  | 0 => 1
  | n + 1 => (n + 1) * fct n
theorem fct_pos : ∀ n, 1 ≤ fct n
  | 0 => by simp [fct]
  | n + 1 => by
    have := fct_pos n
    simp only [fct]
    have h : (1 : Int) * 1 ≤ (n + 1) * fct n := Int.mul_le_mul (by omega) this (by omega) (by omega)
    omega
theorem fct_mono : ∀ d m, fct m ≤ fct (m + d) := by
  intro d
  induction d with
  | zero => intro m; exact Int.le_refl _
  | succ d ih =>
    intro m
    have h := ih m
    have p := fct_pos (m + d)
    have : fct (m + d + 1) = (m + d + 1) * fct (m + d) := by simp only [fct]; congr 1
    rw [← Nat.add_assoc, this]
    have h5 : (1 : Int) * fct (m + d) ≤ (m + d + 1) * fct (m + d) := Int.mul_le_mul_of_nonneg_right (by omega) (by omega)
    omega
/-- What holds of the two numbers while 'ways' counts. -/
structure WOk (s : Int × Int) (n : Nat) : Prop where
  num : s.2 = n
  lo : 0 ≤ s.1
  hi : s.1 ≤ fct n
theorem WOk.step {s : Int × Int} {n : Nat} (h : WOk s n) (k : Nat) : WOk (wstep s k) (n + 1) := by
  obtain ⟨h1, h2, h3⟩ := h
  have hm : 0 ≤ s.1 * (s.2 + 1) := Int.mul_nonneg h2 (by omega)
  refine ⟨by simp only [wstep]; omega, Int.ediv_nonneg hm (by omega), ?_⟩
  simp only [wstep, fct]
  refine Int.le_trans (Int.ediv_le_self _ hm) ?_
  rw [h1, Int.mul_comm]
  exact Int.mul_le_mul_of_nonneg_left h3 (by omega)
theorem WOk.range {s : Int × Int} {n : Nat} (h : WOk s n) (j : Nat) : WOk ((List.range j).foldl wstep s) (n + j) := by
  induction j with
  | zero => exact h
  | succ j ih => rw [List.range_succ, List.foldl_append]; exact ih.step j
theorem WOk.mul {s : Int × Int} {n : Nat} (h : WOk s n) (hn : n ≤ 15) : 0 ≤ s.1 * (s.2 + 1) ∧ s.1 * (s.2 + 1) ≤ 9223372036854775807 := by
  obtain ⟨h1, h2, h3⟩ := h
  have h4 : fct n ≤ fct 15 := by
    have := fct_mono (15 - n) n
    rwa [show n + (15 - n) = 15 by omega] at this
  have h5 : fct 15 = 1307674368000 := by decide
  refine ⟨Int.mul_nonneg h2 (by omega), ?_⟩
  have : s.1 * (s.2 + 1) ≤ 1307674368000 * 16 := Int.mul_le_mul (by omega) (by omega) (by omega) (by omega)
  omega
theorem waysS_ok (l : List Int) (h0 : ∀ x ∈ l, 0 ≤ x) : ∀ k, k ≤ l.length → ∃ n : Nat, (n : Int) = (l.take k).sum ∧ WOk (waysS (l.take k)) n := by
  intro k
  induction k with
  | zero => intro _; exact ⟨0, by simp, ⟨by simp [waysS], by simp [waysS], by simp [waysS, fct]⟩⟩
  | succ k ih =>
    intro hk
    obtain ⟨n, hn, hw⟩ := ih (by omega)
    have hx := h0 _ (getD_mem 0 (by omega : k < l.length))
    refine ⟨n + (l.getD k 0).toNat, ?_, ?_⟩
    · rw [sum_take_succ l k (by omega)]; omega
    · unfold waysS
      rw [take_succ_getD l 0 k (by omega), List.foldl_append]
      exact hw.range _
theorem sum_nonneg : ∀ m : List Int, (∀ x ∈ m, 0 ≤ x) → 0 ≤ m.sum := by
  intro m
  induction m with
  | nil => intro _; simp
  | cons x r ih => intro hm; simp only [List.sum_cons]; have := hm x (by simp); have := ih (fun y hy => hm y (by simp [hy])); omega
theorem sum_take_le (l : List Int) (h0 : ∀ x ∈ l, 0 ≤ x) (k : Nat) : (l.take k).sum ≤ l.sum := by
  have h : l.sum = (l.take k).sum + (l.drop k).sum := by rw [← List.sum_append, List.take_append_drop]
  have := sum_nonneg (l.drop k) (fun x hx => h0 x (List.mem_of_mem_drop hx))
  omega
theorem waysF_bd (l : List Int) (h0 : ∀ x ∈ l, 0 ≤ x) (hs : l.sum ≤ 16) : 0 ≤ waysF l ∧ waysF l ≤ 20922789888000 := by
  obtain ⟨n, hn, hw⟩ := waysS_ok l h0 l.length (Nat.le_refl _)
  rw [List.take_length] at hn hw
  have h4 : fct n ≤ fct 16 := by
    have := fct_mono (16 - n) n
    rwa [show n + (16 - n) = 16 by omega] at this
  have h5 : fct 16 = 20922789888000 := by decide
  exact ⟨hw.lo, by have := hw.hi; unfold waysF; omega⟩

/-- The place of the first element with a property, or -1. -/
def idxF {α : Type} (p : α → Bool) : List α → Int
  | [] => -1
  | x :: r => if p x then 0 else if idxF p r < 0 then -1 else idxF p r + 1
theorem idxF_neg {α : Type} (p : α → Bool) (l : List α) (h : idxF p l < 0) : idxF p l = -1 := by
  cases l with
  | nil => rfl
  | cons x r =>
    simp only [idxF] at h ⊢
    by_cases h1 : p x = true
    · simp [h1] at h
    · by_cases h2 : idxF p r < 0
      · simp [h1, h2]
      · simp only [h1, h2, if_false, Bool.false_eq_true] at h
        omega
theorem idxF_take {α : Type} (p : α → Bool) (l : List α) (k : Nat) (h : (l.take k).any p = false) (hk : k ≤ l.length) : idxF p l = if idxF p (l.drop k) < 0 then -1 else idxF p (l.drop k) + k := by
  induction k generalizing l with
  | zero =>
    simp only [List.drop_zero]
    split
    · exact idxF_neg p l (by assumption)
    · omega
  | succ k ih => cases l with
    | nil => simp at hk
    | cons x r =>
      simp only [List.take_succ_cons, List.any_cons, Bool.or_eq_false_iff] at h
      have := ih r h.2 (by simpa using hk)
      simp only [idxF, h.1, List.drop_succ_cons, Bool.false_eq_true, if_false]
      rw [this]
      split <;> split <;> omega
theorem idxF_any {α : Type} (p : α → Bool) (l : List α) : decide (0 ≤ idxF p l) = l.any p := by
  induction l with
  | nil => rfl
  | cons x r ih =>
    simp only [idxF, List.any_cons]
    by_cases h1 : p x = true
    · simp [h1]
    · simp only [Bool.not_eq_true] at h1
      simp only [h1, Bool.false_eq_true, if_false, Bool.false_or]
      rw [← ih]
      by_cases h2 : idxF p r < 0
      · rw [if_pos h2]; simp; omega
      · rw [if_neg h2]; congr 1; simp; omega

/-- How often each kind occurs. -/
def cnt (m : List Int) : List Int := (List.range 7).map fun (i : Nat) => ((m.count (i : Int) : Nat) : Int)
theorem cnt_length (m : List Int) : (cnt m).length = 7 := by simp [cnt]
theorem cnt_getD (m : List Int) (i : Nat) (hi : i < 7) : (cnt m).getD i 0 = ((m.count (i : Int) : Nat) : Int) := by
  simp [cnt, List.getD, hi]
theorem cnt_nonneg (m : List Int) : ∀ x ∈ cnt m, 0 ≤ x := by
  intro x hx
  simp only [cnt, List.mem_map] at hx
  obtain ⟨i, _, rfl⟩ := hx
  omega
theorem cnt_le (m : List Int) (i : Nat) : 0 ≤ (cnt m).getD i 0 ∧ (cnt m).getD i 0 ≤ m.length := by
  by_cases hi : i < 7
  · rw [cnt_getD m i hi]
    have := List.count_le_length (a := (i : Int)) (l := m)
    omega
  · have : (cnt m).getD i 0 = 0 := by simp [List.getD, List.getElem?_eq_none (show (cnt m).length ≤ i by rw [cnt_length]; omega)]
    omega
theorem list_ext7 {l m : List Int} (hl : l.length = 7) (hm : m.length = 7) (h : ∀ i, i < 7 → l.getD i 0 = m.getD i 0) : l = m := by
  apply List.ext_getElem?
  intro i
  by_cases hi : i < 7
  · have := h i hi
    rw [getD_lt 0 (by omega), getD_lt 0 (by omega)] at this
    rw [List.getElem?_eq_getElem (by omega), List.getElem?_eq_getElem (by omega), this]
  · rw [List.getElem?_eq_none (by omega), List.getElem?_eq_none (by omega)]
theorem getD_set {l : List Int} {i j : Nat} {v : Int} (hi : i < l.length) : (l.set i v).getD j 0 = if j = i then v else l.getD j 0 := by
  by_cases h : j = i
  · subst h; simp [List.getD, hi]
  · simp only [List.getD, h, if_false]
    rw [List.getElem?_set_ne (fun e => h e.symm)]
theorem cnt_snoc (m : List Int) (x : Int) (h0 : 0 ≤ x) (h6 : x ≤ 6) : cnt (m ++ [x]) = (cnt m).set x.toNat ((cnt m).getD x.toNat 0 + 1) := by
  refine list_ext7 (cnt_length _) (by simp [cnt_length]) (fun i hi => ?_)
  rw [getD_set (by rw [cnt_length]; omega), cnt_getD _ i hi, List.count_append]
  split
  · rename_i h
    subst h
    rw [cnt_getD _ _ hi]
    have : ((x.toNat : Nat) : Int) = x := by omega
    rw [this]; simp
  · rename_i h
    rw [cnt_getD _ i hi]
    have : List.count (i : Int) [x] = 0 := by
      rw [List.count_eq_zero]; simp; omega
    rw [this]; rfl
theorem cnt_cons (m : List Int) (x : Int) (h0 : 0 ≤ x) (h6 : x ≤ 6) : cnt m = (cnt (x :: m)).set x.toNat ((cnt (x :: m)).getD x.toNat 0 - 1) := by
  refine list_ext7 (cnt_length _) (by simp [cnt_length]) (fun i hi => ?_)
  rw [getD_set (by rw [cnt_length]; omega), cnt_getD _ i hi]
  split
  · rename_i h
    subst h
    rw [cnt_getD _ _ hi]
    have : ((x.toNat : Nat) : Int) = x := by omega
    rw [this]; simp
  · rename_i h
    rw [cnt_getD _ i hi]
    have : ¬ x = (i : Int) := by omega
    simp [List.count_cons, this]
theorem sum_set (l : List Int) (i : Nat) (v : Int) (hi : i < l.length) : (l.set i v).sum = l.sum - l.getD i 0 + v := by
  induction l generalizing i with
  | nil => simp at hi
  | cons x r ih =>
    cases i with
    | zero => simp only [List.set_cons_zero, List.sum_cons, List.getD_cons_zero]; omega
    | succ i =>
      simp only [List.set_cons_succ, List.sum_cons, List.getD_cons_succ]
      rw [ih i (by simpa using hi)]; omega
theorem cnt_nil : cnt [] = List.replicate 7 0 := by simp [cnt, List.range, List.range.loop, List.replicate]
theorem cnt_sum (m : List Int) (h : ∀ x ∈ m, 0 ≤ x ∧ x ≤ 6) : (cnt m).sum = m.length := by
  induction m with
  | nil => rw [cnt_nil]; rfl
  | cons x r ih =>
    have hx := h x (by simp)
    have h1 := ih (fun y hy => h y (by simp [hy]))
    rw [cnt_cons r x hx.1 hx.2, sum_set _ _ _ (by rw [cnt_length]; omega)] at h1
    simp only [List.length_cons]
    omega
/-- One less of kind i. -/
def less (l : List Int) (i : Nat) : List Int := l.set i (l.getD i 0 - 1)
/-- The numbers of placements that begin with a smaller kind. -/
def rrow (l : List Int) (c : Nat) : Int := ((List.range c).map fun i => if 0 < l.getD i 0 then waysF (less l i) else 0).sum
def rankF : List Int → Int
  | [] => 0
  | c :: r => rrow (cnt (c :: r)) c.toNat + rankF r
theorem less_ok {l : List Int} (h0 : ∀ x ∈ l, 0 ≤ x) {i : Nat} (hi : 0 < l.getD i 0) : (∀ x ∈ less l i, 0 ≤ x) ∧ (less l i).sum = l.sum - 1 ∧ (less l i).length = l.length ∧ i < l.length := by
  have hlt : i < l.length := by
    rcases Nat.lt_or_ge i l.length with h | h
    · exact h
    · simp [List.getD, List.getElem?_eq_none h] at hi
  refine ⟨fun x hx => ?_, by unfold less; rw [sum_set _ _ _ hlt]; omega, by simp [less], hlt⟩
  rcases List.mem_or_eq_of_mem_set hx with h | h
  · exact h0 x h
  · omega
theorem set_back {l : List Int} {i : Nat} (hi : i < l.length) : (less l i).set i ((less l i).getD i 0 + 1) = l := by
  unfold less
  rw [getD_set hi, if_pos rfl, List.set_set]
  have : l.getD i 0 - 1 + 1 = l[i] := by rw [getD_lt 0 hi]; omega
  rw [this, List.set_getElem_self]
theorem rrow_succ (l : List Int) (c : Nat) : rrow l (c + 1) = rrow l c + if 0 < l.getD c 0 then waysF (less l c) else 0 := by
  unfold rrow
  rw [List.range_succ, List.map_append, List.sum_append]
  simp
theorem rrow_bd (l : List Int) (h0 : ∀ x ∈ l, 0 ≤ x) (hs : l.sum ≤ 17) (c : Nat) : 0 ≤ rrow l c ∧ rrow l c ≤ c * 20922789888000 := by
  induction c with
  | zero => simp [rrow]
  | succ c ih =>
    rw [rrow_succ]
    split
    · rename_i h
      obtain ⟨a, b, _, _⟩ := less_ok h0 h
      have := waysF_bd (less l c) a (by omega)
      omega
    · omega
theorem rankF_bd (l : List Int) (h : ∀ x ∈ l, 0 ≤ x ∧ x ≤ 6) (hs : l.length ≤ 16) : 0 ≤ rankF l ∧ rankF l ≤ l.length * 125536739328000 := by
  induction l with
  | nil => simp [rankF]
  | cons x r ih =>
    have hx := h x (by simp)
    have h1 := ih (fun y hy => h y (by simp [hy])) (by simp at hs; omega)
    have h2 := rrow_bd (cnt (x :: r)) (cnt_nonneg _) (by rw [cnt_sum _ h]; omega) x.toNat
    simp only [rankF, List.length_cons]
    have : (x.toNat : Int) * 20922789888000 ≤ 125536739328000 := by omega
    omega
end Go.Ax.Idx

/-
  Decks of cards in plain Lean. No program in sight.
-/
namespace Go.Ax.Cd
open Go.Ax.Idx

def eqp (v y : Int) : Bool := decide (v = y)
/-- cards.Check, from some card on -/
def deckGo (seen : List Int) : List Int → Int
  | [] => 0
  | c :: r => if c < 0 ∨ 52 ≤ c then 4 else if seen.any (eqp c) then 7 else deckGo (seen ++ [c]) r
def deckF (l : List Int) : Int := if 52 < l.length then 2 else deckGo [] l
/-- cards.Fits -/
def fitsGo (n : Int) (j : Nat) : List Int → Int
  | [] => 0
  | d :: r => if d < 0 ∨ n - 1 - j < d then 4 else fitsGo n (j + 1) r
def fitsF (n : Int) (l : List Int) : Int := if (l.length : Int) ≠ (if 1 > n then 1 else n) - 1 then 3 else fitsGo n 0 l
/-- The first numbers. -/
def iota (n : Nat) : List Int := (List.range n).map fun (i : Nat) => (i : Int)
theorem iota_length (n : Nat) : (iota n).length = n := by simp [iota]
theorem iota_succ (n : Nat) : iota (n + 1) = iota n ++ [(n : Int)] := by simp [iota, List.range_succ]
def swapF (l : List Int) (i k : Nat) : List Int := (l.set i (l.getD k 0)).set k (l.getD i 0)
theorem swapF_length (l : List Int) (i k : Nat) : (swapF l i k).length = l.length := by simp [swapF]
/-- cards.Shuffle, from some draw on -/
def shufGo (l : List Int) (j : Nat) : List Int → List Int
  | [] => l
  | d :: r => shufGo (swapF l (l.length - 1 - j) d.toNat) (j + 1) r
def shufF (l draws : List Int) : List Int := shufGo l 0 draws
theorem shufGo_append (l : List Int) (j : Nat) (a b : List Int) : shufGo l j (a ++ b) = shufGo (shufGo l j a) (j + a.length) b := by
  induction a generalizing l j with
  | nil => simp [shufGo]
  | cons d r ih => simp only [List.cons_append, shufGo, List.length_cons, ih]; rw [show j + 1 + r.length = j + (r.length + 1) by omega]
theorem shufGo_length (l : List Int) (j : Nat) (a : List Int) : (shufGo l j a).length = l.length := by
  induction a generalizing l j with
  | nil => rfl
  | cons d r ih => simp only [shufGo, ih, swapF_length]
theorem fitsGo_take {n : Int} {l : List Int} {k : Nat} (hk : k ≤ l.length) (h : ∀ j, j < k → 0 ≤ l.getD j 0 ∧ l.getD j 0 ≤ n - 1 - j) : fitsGo n 0 l = fitsGo n k (l.drop k) := by
  induction k with
  | zero => rfl
  | succ k ih =>
    rw [ih (by omega) (fun j hj => h j (by omega)), drop_getD l 0 k (by omega), fitsGo]
    have := h k (by omega)
    rw [if_neg (by omega)]
theorem fitsGo_zero {n : Int} {l : List Int} (j : Nat) (h : fitsGo n j l = 0) : ∀ i, i < l.length → 0 ≤ l.getD i 0 ∧ l.getD i 0 ≤ n - 1 - (j + i : Nat) := by
  induction l generalizing j with
  | nil => intro i hi; simp at hi
  | cons d r ih =>
    intro i hi
    rw [fitsGo] at h
    split at h
    · omega
    · cases i with
      | zero => simp; omega
      | succ i =>
        have := ih (j + 1) h i (by simpa using hi)
        simp only [List.getD_cons_succ]
        rw [show j + (i + 1) = j + 1 + i by omega]; exact this
theorem deckGo_take {l : List Int} {k : Nat} (hk : k ≤ l.length) (h : ∀ j, j < k → (0 ≤ l.getD j 0 ∧ l.getD j 0 < 52) ∧ (l.take j).any (eqp (l.getD j 0)) = false) : deckGo [] l = deckGo (l.take k) (l.drop k) := by
  induction k with
  | zero => rfl
  | succ k ih =>
    rw [ih (by omega) (fun j hj => h j (by omega)), drop_getD l 0 k (by omega), deckGo]
    have := h k (by omega)
    rw [if_neg (by omega), if_neg (by rw [this.2]; decide), take_succ_getD l 0 k (by omega)]
/-- The draws between two decks, from place i on downwards: what is still to be placed is 'now'. -/
def drawsGo (to : List Int) : Nat → List Int → List Int
  | 0, _ => []
  | i + 1, now => idxF (eqp (to.getD (i + 1) 0)) now :: drawsGo to i (swapF now (i + 1) (idxF (eqp (to.getD (i + 1) 0)) now).toNat)
def drawsF (l to : List Int) : List Int := drawsGo to (l.length - 1) l
def drawsE (l to : List Int) : Int := if l.length ≠ to.length then 3 else if to.any (fun c => !(l.any (eqp c))) then 3 else 0
end Go.Ax.Cd
namespace Go.Ax.Cd
open Go.Ax.Idx
theorem mem_swapF {l : List Int} {i k : Nat} (hi : i < l.length) (hk : k < l.length) (c : Int) : c ∈ swapF l i k ↔ c ∈ l := by
  have key : ∀ {l : List Int} {i k : Nat}, i < l.length → k < l.length → ∀ c, c ∈ swapF l i k → c ∈ l := by
    intro l i k hi hk c h
    unfold swapF at h
    rcases List.mem_or_eq_of_mem_set h with h | h
    · rcases List.mem_or_eq_of_mem_set h with h | h
      · exact h
      · rw [h]; exact getD_mem 0 hk
    · rw [h]; exact getD_mem 0 hi
  refine ⟨key hi hk c, fun h => ?_⟩
  have hb : swapF (swapF l i k) i k = l := by
    apply List.ext_getElem?
    intro j
    unfold swapF
    simp only [List.getElem?_set, List.length_set, List.getD]
    by_cases h1 : k = j
    · subst h1
      by_cases h2 : i = k
      · subst h2; simp [hi]
      · have h3 : ¬ k = i := fun e => h2 e.symm
        simp [hk, hi, h3]
    · by_cases h2 : i = j
      · subst h2; simp [h1, hi, hk]
      · simp [h1, h2]
  have := key (l := swapF l i k) (i := i) (k := k) (by rw [swapF_length]; exact hi) (by rw [swapF_length]; exact hk) c (by rw [hb]; exact h)
  exact this
theorem idxF_lt {l : List Int} {v : Int} (h : v ∈ l) : 0 ≤ idxF (eqp v) l ∧ idxF (eqp v) l < l.length := by
  induction l with
  | nil => simp at h
  | cons x r ih =>
    simp only [idxF]
    split
    · simp
    · rename_i hx
      have : v ∈ r := by
        rcases List.mem_cons.1 h with h | h
        · exact absurd (by simp [eqp, h]) hx
        · exact h
      have := ih this
      rw [if_neg (by omega)]
      simp; omega
theorem any_eqp {l : List Int} {v : Int} : l.any (eqp v) = true ↔ v ∈ l := by
  rw [List.any_eq_true]
  constructor
  · rintro ⟨x, hx, h⟩; simp [eqp] at h; rw [h]; exact hx
  · intro h; exact ⟨v, h, by simp [eqp]⟩
end Go.Ax.Cd
namespace Go.Ax.Cd
open Go.Ax.Idx
/-- The hands behind so many cards. -/
def dealGo (P : Nat) (l : List Int) : Nat → List (List Int)
  | 0 => List.replicate P []
  | m + 1 => (dealGo P l m).set (m % P) ((dealGo P l m).getD (m % P) [] ++ [l.getD m 0])
theorem dealGo_length (P : Nat) (l : List Int) (m : Nat) : (dealGo P l m).length = P := by
  induction m with
  | zero => simp [dealGo]
  | succ m ih => simp [dealGo, ih]
theorem dealGo_small (P : Nat) (l : List Int) (m k : Nat) : ((dealGo P l m).getD k []).length ≤ m := by
  induction m generalizing k with
  | zero => simp [dealGo, List.getD, List.getElem?_replicate]; split <;> simp
  | succ m ih =>
    simp only [dealGo, List.getD, List.getElem?_set]
    split
    · split
      · have := ih (m % P); simp only [List.getD] at this; simp; omega
      · simp
    · have := ih k; simp only [List.getD] at this; omega
end Go.Ax.Cd

namespace Go.Proofs.YtbeegiiiochblaaGreatDoor
open Go.Ax Go.Ax.Idx Go.Ax.Cd
attribute [local irreducible] Ax Post QOp ACall
set_option maxRecDepth 100000
set_option maxHeartbeats 4000000

theorem indexFuncE (l : List Int) (g : FuncId) (caps : List AV) (p : Int → Bool) (hc : noRef.noRefs caps = true) (hlen : l.length ≤ 9223372036854775807) (hp : ∀ x ∈ l, VCall Tryz.prog g ([.int .i64 x] ++ caps) (.bool (p x))) :
    VCall Tryz.prog 76 [.ro (.ints .i64 l) 0 l.length, .fn g caps] (.int .i64 (idxF p l)) := by
  refine ACall.value0 (acall_of_ax (P := Tryz.prog) (fn := Tryz.f76) rfl rfl (by kernel_rfl) rfl (fun c hR hfix => ?_)) (fix := fun _ => False) (fun _ h => h) (by simp [noRef.noRefs, noRef, hc]) rfl
  repeat (first
    | refine ax_q (q_move rfl) ?_
    | refine ax_q (q_assign rfl) ?_
    | refine ax_ops_nil ?_
    | refine ax_post_code ?_
    | refine ax_seq ?_
    | refine ax_region rfl ?_
    | refine ax_block ?_
    | refine ax_q (q_len rfl rfl rfl) ?_)
  refine ax_loop (ι := Nat) (fun k => [(0, .ro (.ints .i64 l) 0 l.length), (1, .fn g caps), (7, .int .i64 (l.length : Nat)), (8, .int .i64 (k : Nat))]) (fun _ => [])
    (fun k => k ≤ l.length ∧ (l.take k).any p = false) (fun k => l.length - k) 0 ⟨⟨rfl, rfl, rfl, rfl, trivial⟩, rfl, Nat.zero_le _, rfl⟩ ?_
  intro k ⟨hk, hany⟩
  repeat (first
    | refine ax_ops_nil ?_
    | refine ax_post_code ?_
    | refine ax_seq ?_
    | refine ax_region rfl ?_
    | refine ax_q (q_lss rfl rfl) ?_)
  refine ax_cond_dec rfl (fun h => ?_) (fun h => ?_)
  · have hk' : k < l.length := by omega
    have hanys := any_take_succ p l 0 k hk'
    repeat (first
      | refine ax_q (q_move rfl) ?_
      | refine ax_q (q_assign rfl) ?_
      | refine ax_q (q_loadi_rp rfl rfl rfl) ?_
      | refine ax_ops_nil ?_
      | refine ax_post_code ?_
      | refine ax_seq ?_
      | refine ax_region rfl ?_
      | refine ax_block ?_
      | refine ax_skip ?_
      | refine ax_q (q_index_ro' rfl rfl rfl rfl (by first | (simp only [Nat.zero_add, Int.toNat_natCast, Int.toNat_zero]; exact rfl) | exact rfl) (by omega)) ?_)
    refine ax_callv rfl rfl rfl (hp _ (getD_mem 0 hk')) ?_
    repeat (first
      | refine ax_ops_nil ?_
      | refine ax_post_code ?_)
    refine ax_cond rfl (fun h2 => ?_) (fun h2 => ?_)
    · repeat (first
        | refine ax_q (q_move rfl) ?_
        | refine ax_q (q_assign rfl) ?_
        | refine ax_ops_nil ?_
        | refine ax_post_code ?_
        | refine ax_seq ?_
        | refine ax_region rfl ?_
        | refine ax_return ?_
        | refine ax_ret_code ?_
        | refine ax_ret_blk ?_
        | refine ax_ret_inv ?_)
      refine ax_ret hR rfl ?_
      have := idxF_take p l k hany hk
      rw [drop_getD l 0 k hk'] at this
      simp only [idxF, h2, if_true] at this
      rw [this]; simp [tupOf]
    · repeat (first
        | refine ax_q (q_move rfl) ?_
        | refine ax_ops_nil ?_
        | refine ax_post_code ?_
        | refine ax_region rfl ?_
        | refine ax_post_blk ?_
        | refine ax_skip ?_
        | refine ax_q (q_add rfl rfl (by omega)) ?_)
      refine ax_post_inv ⟨k + 1, ⟨by omega, by rw [hanys, hany, h2]; rfl⟩, by omega, ⟨rfl, rfl, rfl, rfl, trivial⟩, rfl⟩
  · have hk' : k = l.length := by omega
    subst hk'
    repeat (first
      | refine ax_q (q_assign rfl) ?_
      | refine ax_ops_nil ?_
      | refine ax_post_code ?_
      | refine ax_seq ?_
      | refine ax_region rfl ?_
      | refine ax_exit ?_
      | refine ax_exit_here ?_
      | refine ax_exit_code ?_
      | refine ax_exit_inv ?_
      | refine ax_return ?_)
    refine ax_ret hR rfl ?_
    have := idxF_take p l l.length hany hk
    rw [List.drop_length] at this
    rw [this]; rfl

theorem containsE (l : List Int) (g : FuncId) (caps : List AV) (p : Int → Bool) (hc : noRef.noRefs caps = true) (hlen : l.length ≤ 9223372036854775807) (hp : ∀ x ∈ l, VCall Tryz.prog g ([.int .i64 x] ++ caps) (.bool (p x))) :
    VCall Tryz.prog 46 [.ro (.ints .i64 l) 0 l.length, .fn g caps] (.bool (l.any p)) := by
  refine ACall.value0 (acall_of_ax (P := Tryz.prog) (fn := Tryz.f46) rfl rfl (by kernel_rfl) rfl (fun c hR hfix => ?_)) (fix := fun _ => False) (fun _ h => h) (by simp [noRef.noRefs, noRef, hc]) rfl
  repeat (first
    | refine ax_q (q_move rfl) ?_
    | refine ax_q (q_assign rfl) ?_
    | refine ax_ops_nil ?_
    | refine ax_post_code ?_
    | refine ax_seq ?_
    | refine ax_region rfl ?_)
  refine ax_callv rfl rfl rfl (indexFuncE l g caps p hc hlen hp) ?_
  repeat (first
    | refine ax_q (q_assign rfl) ?_
    | refine ax_ops_nil ?_
    | refine ax_post_code ?_
    | refine ax_return ?_
    | refine ax_q (q_geq rfl rfl) ?_)
  refine ax_ret hR rfl ?_
  simp only [tupOf, idxF_any]

def notOk (e : Int) : Bool := decide (e ≠ 0)
theorem fine1 (n : Int) : VCall Tryz.prog 47 [.int .i64 n] (.bool (notOk n)) := by
  refine ACall.value0 (acall_of_ax (P := Tryz.prog) (fn := Tryz.f47) rfl rfl (by kernel_rfl) rfl (fun c hR hfix => ?_)) (fix := fun _ => False) (fun _ h => h) rfl rfl
  repeat (first
    | refine ax_q (q_move rfl) ?_
    | refine ax_q (q_assign rfl) ?_
    | refine ax_ops_nil ?_
    | refine ax_post_code ?_
    | refine ax_seq ?_
    | refine ax_region rfl ?_
    | refine ax_return ?_
    | refine ax_q (q_neq rfl rfl) ?_)
  refine ax_ret hR rfl ?_
  simp [tupOf, notOk]
theorem fineI (l : List Int) (hlen : l.length ≤ 1000) : VCall Tryz.prog 16 [.ro (.ints .i64 l) 0 l.length] (.bool (!(l.any notOk))) := by
  refine ACall.value0 (acall_of_ax (P := Tryz.prog) (fn := Tryz.f16) rfl rfl (by kernel_rfl) rfl (fun c hR hfix => ?_)) (fix := fun _ => False) (fun _ h => h) rfl rfl
  repeat (first
    | refine ax_q (q_move rfl) ?_
    | refine ax_q (q_assign rfl) ?_
    | refine ax_ops_nil ?_
    | refine ax_post_code ?_
    | refine ax_seq ?_
    | refine ax_region rfl ?_)
  refine ax_callv rfl rfl rfl (containsE l 47 [] notOk rfl (by omega) (fun x _ => fine1 x)) ?_
  repeat (first
    | refine ax_q (q_assign rfl) ?_
    | refine ax_ops_nil ?_
    | refine ax_post_code ?_
    | refine ax_return ?_
    | refine ax_q (q_not rfl) ?_)
  exact ax_ret hR rfl rfl

end Go.Proofs.YtbeegiiiochblaaGreatDoor

/-
  The functions of package nat, told on texts, in plain Lean. No program in sight.
-/
namespace Go.Ax.Bg
open Go.Ax.Tb (digit)

def canonB (s : List UInt8) : Bool := decide (s ≠ []) && s.all dg && (decide (s.getD 0 0 ≠ 48) || decide (s.length = 1))
theorem canonB_iff {s : List UInt8} : canonB s = true ↔ Canon s := by
  unfold canonB Canon
  simp only [Bool.and_eq_true, Bool.or_eq_true, decide_eq_true_eq, List.all_eq_true, dg_iff]
  constructor
  · rintro ⟨⟨h1, h2⟩, h3⟩; exact ⟨h1, h2, h3⟩
  · rintro ⟨h1, h2, h3⟩; exact ⟨⟨h1, h2⟩, h3⟩
def natE (s : List UInt8) : Int := if canonB s = false then 5 else if 2000 < s.length then 2 else 0
theorem natE_ok {s : List UInt8} (h : natE s = 0) : Canon s ∧ s.length ≤ 2000 := by
  unfold natE at h
  split at h
  · omega
  · split at h
    · omega
    · rename_i h1 h2
      exact ⟨canonB_iff.1 (by simpa using h1), by omega⟩
theorem natE_of {s : List UInt8} (h : Canon s) (hl : s.length ≤ 2000) : natE s = 0 := by
  unfold natE
  rw [if_neg (by rw [canonB_iff.2 h]; decide), if_neg (by omega)]
def twoE (a b : List UInt8) : Int := if natE a ≠ 0 then natE a else natE b
theorem twoE_ok {a b : List UInt8} (h : twoE a b = 0) : natE a = 0 ∧ natE b = 0 := by
  unfold twoE at h
  split at h
  · contradiction
  · rename_i h1; exact ⟨Classical.not_not.1 h1, h⟩
theorem val_len {s : List UInt8} (h : Canon s) {k : Nat} (hl : s.length ≤ k) : (natL (decV 0 s)).length ≤ k := by
  refine natL_len_le (Nat.lt_of_lt_of_le (decV_lt h.2.1) ?_)
  exact Nat.le_trans (Nat.pow_le_pow_right (by decide) hl) (Nat.pow_le_pow_left (by decide) k)
/-- A result, if it is not too long. -/
def resF (n : Nat) : List UInt8 × Int := if 2000 < (Lib.decDigits n).length then ([], 2) else (Lib.decDigits n, 0)
/-- Texts that are not too long spell numbers below this one. -/
def powT : Nat → Nat
  | 0 => 1
  | k + 1 => 10 * powT k
theorem powT_eq : ∀ k, powT k = 10 ^ k
  | 0 => rfl
  | k + 1 => by rw [powT, powT_eq k, Nat.pow_succ, Nat.mul_comm]
def TB : Nat := powT 2000
theorem TB_eq : TB = 10 ^ 2000 := powT_eq 2000
theorem TB_len {n : Nat} (h : n < TB) : (Lib.decDigits n).length ≤ 2000 := by
  rw [TB_eq] at h
  revert h
  generalize hk : 2000 = k
  intro h
  exact digits_len_le (by omega) h
theorem resF_ok {n : Nat} (h : n < TB) : resF n = (Lib.decDigits n, 0) := by
  unfold resF
  rw [if_neg (by have := TB_len h; omega)]
def addF (a b : List UInt8) : List UInt8 × Int := if twoE a b ≠ 0 then ([], twoE a b) else resF (decV 0 a + decV 0 b)
def mulF (a b : List UInt8) : List UInt8 × Int := if twoE a b ≠ 0 then ([], twoE a b) else resF (decV 0 a * decV 0 b)
def subF (a b : List UInt8) : List UInt8 × Int := if twoE a b ≠ 0 then ([], twoE a b) else if decV 0 a < decV 0 b then ([], 4) else resF (decV 0 a - decV 0 b)
def divF (a b : List UInt8) : List UInt8 × List UInt8 × Int := if twoE a b ≠ 0 then ([], [], twoE a b) else if decV 0 b = 0 then ([], [], 18) else (Lib.decDigits (decV 0 a / decV 0 b), Lib.decDigits (decV 0 a % decV 0 b), 0)
def gcdF (a b : List UInt8) : List UInt8 × Int := if twoE a b ≠ 0 then ([], twoE a b) else (Lib.decDigits (Nat.gcd (decV 0 a) (decV 0 b)), 0)
def ncmpF (a b : List UInt8) : Int × Int := if twoE a b ≠ 0 then (0, twoE a b) else (cmpZ (decV 0 a) (decV 0 b), 0)
/-- Products of numbers from one to another. -/
def prodF (low : Nat) : Nat → Nat
  | 0 => 1
  | k + 1 => prodF low k * (low + k)
def factN (n : Nat) : Nat := prodF 1 n
def factF (n : Int) : List UInt8 × Int := if n < 0 ∨ 1000 < n then ([], 4) else resF (factN n.toNat)
def binoF (n k : Int) : List UInt8 × Int := if n < 0 ∨ 1000 < n ∨ k < 0 ∨ n < k then ([], 4) else (Lib.decDigits (prodF (n.toNat - k.toNat + 1) k.toNat / factN k.toNat), 0)
theorem prodF_le {low : Nat} : ∀ (k M : Nat), low + k ≤ M + 1 → prodF low k ≤ M ^ k
  | 0, _, _ => by simp [prodF]
  | k + 1, M, h => by
    rw [prodF, Nat.pow_succ]
    exact Nat.mul_le_mul (prodF_le k M (by omega)) (by omega)
theorem prodF_pos {low : Nat} (h : 0 < low) : ∀ k, 0 < prodF low k
  | 0 => by simp [prodF]
  | k + 1 => by rw [prodF]; exact Nat.mul_pos (prodF_pos h k) (by omega)
theorem prodF_len {low k : Nat} (h : low + k ≤ 1001) (hk : k ≤ 1000) : (natL (prodF low k)).length ≤ k + 1 := by
  refine natL_len_le ?_
  have h1 := prodF_le k 1000 (by omega : low + k ≤ 1000 + 1)
  have h2 : 1000 ^ k ≤ B ^ k := Nat.pow_le_pow_left (by decide) k
  have h3 : B ^ k < B ^ (k + 1) := Nat.pow_lt_pow_right (by decide) (by omega)
  omega
/-- A text that spells n. -/
def IsN (s : List UInt8) (n : Nat) : Prop := natE s = 0 ∧ decV 0 s = n
theorem IsN.self {s : List UInt8} (h : natE s = 0) : IsN s (decV 0 s) := ⟨h, rfl⟩
theorem IsN.dig {s : List UInt8} {n : Nat} (h : IsN s n) : s = Lib.decDigits n := by
  rw [← h.2, canon_eq (natE_ok h.1).1]
theorem isN_dig {n : Nat} (h : n < TB) : IsN (Lib.decDigits n) n := by
  exact ⟨natE_of (canon_digits n) (TB_len h), decV_digits n⟩
theorem IsN.two {a b : List UInt8} {m n : Nat} (ha : IsN a m) (hb : IsN b n) : twoE a b = 0 := by
  unfold twoE; rw [if_neg (by simp [ha.1])]; exact hb.1
theorem IsN.lt {a : List UInt8} {m k : Nat} (ha : IsN a m) (h : a.length ≤ k) : m < 10 ^ k := by
  rw [← ha.2]
  exact Nat.lt_of_lt_of_le (decV_lt (natE_ok ha.1).1.2.1) (Nat.pow_le_pow_right (by decide) h)
theorem IsN.lt2 {a : List UInt8} {m : Nat} (ha : IsN a m) : m < TB := by
  have h := (natE_ok ha.1).2
  rw [TB_eq]
  revert h
  generalize 2000 = j
  intro h
  exact ha.lt h
theorem IsN.add {a b : List UInt8} {m n : Nat} (ha : IsN a m) (hb : IsN b n) (h : m + n < TB) : addF a b = (Lib.decDigits (m + n), 0) := by
  unfold addF; rw [if_neg (by simp [ha.two hb]), ha.2, hb.2, resF_ok h]
theorem IsN.mul {a b : List UInt8} {m n : Nat} (ha : IsN a m) (hb : IsN b n) (h : m * n < TB) : mulF a b = (Lib.decDigits (m * n), 0) := by
  unfold mulF; rw [if_neg (by simp [ha.two hb]), ha.2, hb.2, resF_ok h]
theorem IsN.sub {a b : List UInt8} {m n : Nat} (ha : IsN a m) (hb : IsN b n) : subF a b = if m < n then ([], 4) else (Lib.decDigits (m - n), 0) := by
  unfold subF; rw [if_neg (by simp [ha.two hb]), ha.2, hb.2, resF_ok (by have := ha.lt2; omega)]
theorem IsN.div {a b : List UInt8} {m n : Nat} (ha : IsN a m) (hb : IsN b n) (h : n ≠ 0) : divF a b = (Lib.decDigits (m / n), Lib.decDigits (m % n), 0) := by
  unfold divF; rw [if_neg (by simp [ha.two hb]), hb.2, if_neg h, ha.2]
theorem IsN.gcd {a b : List UInt8} {m n : Nat} (ha : IsN a m) (hb : IsN b n) : gcdF a b = (Lib.decDigits (Nat.gcd m n), 0) := by
  unfold gcdF; rw [if_neg (by simp [ha.two hb]), ha.2, hb.2]
theorem IsN.cmp {a b : List UInt8} {m n : Nat} (ha : IsN a m) (hb : IsN b n) : ncmpF a b = (cmpZ m n, 0) := by
  unfold ncmpF; rw [if_neg (by simp [ha.two hb]), ha.2, hb.2]
theorem isN_of {s : List UInt8} {n : Nat} (hc : canonB s = true) (hl : s.length ≤ 2000) (hv : decV 0 s = n) : IsN s n := ⟨natE_of (canonB_iff.1 hc) hl, hv⟩
theorem IsN.inj {a b : List UInt8} {n : Nat} (ha : IsN a n) (hb : IsN b n) : a = b := by rw [ha.dig, hb.dig]
theorem lt_big {n k : Nat} (h : n < 10 ^ k) (hk : k ≤ 2000) : n < TB := by
  rw [TB_eq]
  revert hk
  generalize 2000 = j
  intro hk
  exact Nat.lt_of_lt_of_le h (Nat.pow_le_pow_right (by decide) hk)
theorem mul_big {m n j k : Nat} (hm : m < 10 ^ j) (hn : n < 10 ^ k) : m * n < 10 ^ (j + k) := by
  rw [Nat.pow_add]; exact Nat.mul_lt_mul'' hm hn
theorem add_big {m n k : Nat} (hm : m < 10 ^ k) (hn : n < 10 ^ k) : m + n < 10 ^ (k + 1) := by
  rw [Nat.pow_succ]; omega
theorem prodF_add (low a : Nat) : ∀ b, prodF low (a + b) = prodF low a * prodF (low + a) b
  | 0 => by simp [prodF]
  | b + 1 => by rw [← Nat.add_assoc, prodF, prodF_add low a b, prodF, Nat.mul_assoc, Nat.add_assoc]
theorem factN_pos (n : Nat) : 0 < factN n := prodF_pos (by decide) n
theorem factN_succ (n : Nat) : factN (n + 1) = factN n * (n + 1) := by unfold factN; rw [prodF, Nat.add_comm 1 n]
/-- Choices. -/
def ch : Nat → Nat → Nat
  | _, 0 => 1
  | 0, _ + 1 => 0
  | n + 1, k + 1 => ch n k + ch n (k + 1)
theorem ch_none : ∀ (n k : Nat), n < k → ch n k = 0
  | 0, k + 1, _ => rfl
  | n + 1, k + 1, h => by rw [ch, ch_none n k (by omega), ch_none n (k + 1) (by omega)]
theorem ch_fact : ∀ (n k : Nat), k ≤ n → ch n k * (factN k * factN (n - k)) = factN n
  | n, 0, _ => by
    cases n <;> simp [ch, factN, prodF]
  | n + 1, k + 1, h => by
    have h1 := ch_fact n k (by omega)
    rw [ch, Nat.add_mul, show n + 1 - (k + 1) = n - k by omega]
    rcases Nat.lt_or_ge k n with q | q
    · have h2 := ch_fact n (k + 1) (by omega)
      have e : factN (n - k) = factN (n - (k + 1)) * (n - k) := by
        conv => lhs; rw [show n - k = n - (k + 1) + 1 by omega, factN_succ, show n - (k + 1) + 1 = n - k by omega]
      have a1 : ch n k * (factN (k + 1) * factN (n - k)) = factN n * (k + 1) := by
        rw [factN_succ, ← h1]; ac_rfl
      have a2 : ch n (k + 1) * (factN (k + 1) * factN (n - k)) = factN n * (n - k) := by
        rw [e, ← h2]; ac_rfl
      rw [a1, a2, factN_succ, ← Nat.mul_add]
      congr 1; omega
    · have : k = n := by omega
      subst this
      rw [ch_none k (k + 1) (by omega), Nat.zero_mul, Nat.add_zero, factN_succ]
      conv => rhs; rw [← h1]
      ac_rfl
theorem bino_ch {n k : Nat} (h : k ≤ n) : prodF (n - k + 1) k / factN k = ch n k := by
  have h1 := ch_fact n k h
  have h2 := prodF_add 1 (n - k) k
  rw [show n - k + k = n by omega, Nat.add_comm 1 (n - k)] at h2
  have h3 : prodF (n - k + 1) k = ch n k * factN k := by
    apply Nat.eq_of_mul_eq_mul_left (factN_pos (n - k))
    show prodF 1 (n - k) * _ = factN (n - k) * _
    rw [← h2]
    show factN n = _
    rw [← h1]; ac_rfl
  rw [h3, Nat.mul_div_cancel _ (factN_pos k)]
theorem ch_div {n k : Nat} (h : k ≤ n) : factN n / (factN k * factN (n - k)) = ch n k ∧ factN n % (factN k * factN (n - k)) = 0 := by
  have h1 := ch_fact n k h
  have hp : 0 < factN k * factN (n - k) := Nat.mul_pos (factN_pos _) (factN_pos _)
  rw [← h1]
  exact ⟨Nat.mul_div_cancel _ hp, Nat.mul_mod_left _ _⟩
theorem ch_le : ∀ (n k : Nat), ch n k ≤ 2 ^ n
  | n, 0 => by
    have : ch n 0 = 1 := by cases n <;> rfl
    rw [this]; exact Nat.one_le_pow _ _ (by decide)
  | 0, k + 1 => by simp [ch]
  | n + 1, k + 1 => by
    rw [ch, Nat.pow_succ]
    have := ch_le n k
    have := ch_le n (k + 1)
    omega
theorem ch_big {n k : Nat} (h : n ≤ 200) : ch n k < 10 ^ 201 := by
  have h1 := ch_le n k
  have h2 : 2 ^ n ≤ 2 ^ 200 := Nat.pow_le_pow_right (by decide) h
  have h3 : 2 ^ 200 ≤ 10 ^ 200 := Nat.pow_le_pow_left (by decide) 200
  have h4 : 10 ^ 200 < 10 ^ 201 := Nat.pow_lt_pow_right (by decide) (by decide)
  exact Nat.lt_of_le_of_lt (Nat.le_trans h1 (Nat.le_trans h2 h3)) h4
theorem pow_k (k : Nat) : 1000 ^ k = 10 ^ (3 * k) := by
  rw [Nat.pow_mul]
theorem fact_big {n k : Nat} (h : n ≤ 1000) (hk : 3 * n < k) : factN n < 10 ^ k := by
  have h1 := prodF_le (low := 1) n 1000 (by omega)
  rw [pow_k] at h1
  exact Nat.lt_of_le_of_lt h1 (Nat.pow_lt_pow_right (by decide) hk)
theorem fact_TB {n : Nat} (h : n ≤ 200) : factN n < TB := by
  obtain ⟨k, h1, h2⟩ : ∃ k, 3 * n < k ∧ k ≤ 2000 := ⟨601, by omega, by omega⟩
  exact lt_big (fact_big (by omega) h1) h2
theorem ch_TB {n k : Nat} (h : n ≤ 200) : ch n k < TB := lt_big (ch_big h) (by decide)
end Go.Ax.Bg

namespace Go.Proofs.YtbeegiiiochblaaGreatDoor
open Go.Ax Go.Ax.Bg Go.RowKit
open Go.Ax.Tb (digit digit_of digits_digit digits_ne)
attribute [local irreducible] Ax Post QOp ACall
set_option maxRecDepth 100000
set_option maxHeartbeats 4000000

theorem digits_ok (s : List UInt8) (hs : s.length ≤ 9223372036854775807) : VCall Tryz.prog 39 [.str s] (.bool (canonB s)) := by
  have ht := trim_ok s hs
  have hn := trR_nil (s := s)
  have hc : canonB s = (decide (s ≠ []) && s.all dg && (decide (s.getD 0 0 ≠ 48) || decide (s.length = 1))) := rfl
  refine ACall.value0 (acall_of_ax (P := Tryz.prog) (fn := Tryz.f39) rfl rfl (by kernel_rfl) rfl (fun c hR hfix => ?_)) (fix := fun _ => False) (fun _ h => h) rfl rfl
  generalize trL (trR s) = u at *
  generalize canonB s = b at *
  by_cases h0 : s = []
  · subst h0
    repeat (first
      | refine ax_q (q_move rfl) ?_
      | refine ax_q (q_assign rfl) ?_
      | refine ax_ops_nil ?_
      | refine ax_post_code ?_
      | refine ax_seq ?_
      | refine ax_region rfl ?_
      | refine ax_skip_undef rfl rfl ?_
      | refine ax_skip_not rfl rfl rfl ?_
      | refine ax_return ?_
      | refine ax_q (q_pick rfl rfl) ?_
      | refine ax_q (q_strneq rfl rfl) ?_)
    refine ax_ret hR rfl ?_
    rw [hc]; rfl
  have hlen : 0 < s.length := List.length_pos_iff.2 h0
  repeat (first
    | refine ax_q (q_move rfl) ?_
    | refine ax_q (q_assign rfl) ?_
    | refine ax_ops_nil ?_
    | refine ax_post_code ?_
    | refine ax_seq ?_
    | refine ax_region rfl ?_
    | refine ax_q (q_strneq rfl rfl) ?_)
  refine ax_gsplit rfl rfl (fun h1 => ?_) (fun h1 => absurd h0 h1)
  repeat (first
    | refine ax_q (q_move rfl) ?_
    | refine ax_guard rfl rfl ?_)
  refine ax_callv rfl rfl rfl ht ?_
  repeat (first
    | refine ax_q (q_move rfl) ?_
    | refine ax_guard rfl rfl ?_
    | refine ax_q (q_pick rfl rfl) ?_
    | refine ax_q (q_streql rfl rfl) ?_)
  refine ax_gsplit rfl rfl (fun h2 => ?_) (fun h2 => ?_)
  · have ha : s.all dg = true := hn.1 h2
    rw [decide_eq_true h0, ha, Bool.true_and, Bool.true_and] at hc
    repeat (first
      | refine ax_q (q_move rfl) ?_
      | refine ax_guard rfl rfl ?_
      | refine ax_q (q_neq rfl rfl) ?_
      | refine ax_q (q_stridx rfl rfl rfl (by first | assumption | omega | simp)) ?_)
    refine ax_gsplit rfl rfl (fun h3 => ?_) (fun h3 => ?_)
    · have h4 : decide (s.getD 0 0 ≠ 48) = true := decide_eq_true (fun e => h3 (by simp only [Int.toNat_zero]; rw [e]; rfl))
      rw [h4, Bool.true_or] at hc
      repeat (first
        | refine ax_q (q_assign rfl) ?_
        | refine ax_ops_nil ?_
        | refine ax_post_code ?_
        | refine ax_guard rfl rfl ?_
        | refine ax_skip_not rfl rfl rfl ?_
        | refine ax_return ?_
        | refine ax_q (q_pick rfl rfl) ?_)
      refine ax_ret hR rfl ?_
      rw [hc]; rfl
    · have h5 : s.getD 0 0 = 48 := by
        simp only [Int.toNat_zero] at h3
        apply UInt8.toNat_inj.1
        have : ((s.getD 0 0).toNat : Int) = 48 := by omega
        show (s.getD 0 0).toNat = 48
        omega
      have h4 : decide (s.getD 0 0 ≠ 48) = false := decide_eq_false (fun e => e h5)
      rw [h4, Bool.false_or] at hc
      repeat (first
        | refine ax_q (q_move rfl) ?_
        | refine ax_q (q_assign rfl) ?_
        | refine ax_ops_nil ?_
        | refine ax_post_code ?_
        | refine ax_guard rfl rfl ?_
        | refine ax_return ?_
        | refine ax_q (q_eql rfl rfl) ?_
        | refine ax_q (q_pick rfl rfl) ?_
        | refine ax_q (q_lenstr rfl rfl) ?_)
      refine ax_ret hR rfl ?_
      rw [hc]
      show AV.bool (decide ((s.length : Int) = 1)) = _
      congr 1
      rw [decide_eq_decide]; omega
  · have ha : s.all dg = false := by
      cases hq : s.all dg with
      | false => rfl
      | true => exact absurd (hn.2 hq) h2
    rw [ha, Bool.and_false, Bool.false_and] at hc
    repeat (first
      | refine ax_q (q_assign rfl) ?_
      | refine ax_ops_nil ?_
      | refine ax_post_code ?_
      | refine ax_skip_undef rfl rfl ?_
      | refine ax_skip_not rfl rfl rfl ?_
      | refine ax_return ?_
      | refine ax_q (q_pick rfl rfl) ?_)
    refine ax_ret hR rfl ?_
    rw [hc]; rfl
theorem check_ok (s : List UInt8) (hs : s.length ≤ 9223372036854775807) : VCall Tryz.prog 12 [.str s] (.int .i64 (natE s)) := by
  have hd := digits_ok s hs
  have he : natE s = if canonB s = false then 5 else if 2000 < s.length then 2 else 0 := rfl
  refine ACall.value0 (acall_of_ax (P := Tryz.prog) (fn := Tryz.f12) rfl rfl (by kernel_rfl) rfl (fun c hR hfix => ?_)) (fix := fun _ => False) (fun _ h => h) rfl rfl
  generalize natE s = e at *
  generalize canonB s = b at *
  repeat (first
    | refine ax_q (q_move rfl) ?_
    | refine ax_q (q_assign rfl) ?_
    | refine ax_ops_nil ?_
    | refine ax_post_code ?_
    | refine ax_seq ?_
    | refine ax_region rfl ?_)
  refine ax_callv rfl rfl rfl hd ?_
  repeat (first
    | refine ax_ops_nil ?_
    | refine ax_post_code ?_
    | refine ax_q (q_not rfl) ?_)
  cases b with
  | false =>
    rw [if_pos rfl] at he
    repeat (first
      | refine ax_q (q_assign rfl) ?_
      | refine ax_ops_nil ?_
      | refine ax_post_code ?_
      | refine ax_seq ?_
      | refine ax_region rfl ?_
      | refine ax_cond_true rfl ?_
      | refine ax_return ?_
      | refine ax_ret_code ?_)
    exact ax_ret hR rfl (by rw [he]; rfl)
  | true =>
    rw [if_neg (by decide)] at he
    repeat (first
      | refine ax_q (q_move rfl) ?_
      | refine ax_ops_nil ?_
      | refine ax_post_code ?_
      | refine ax_seq ?_
      | refine ax_region rfl ?_
      | refine ax_cond_false rfl ?_
      | refine ax_skip ?_
      | refine ax_q (q_gtr rfl rfl) ?_
      | refine ax_q (q_lenstr rfl rfl) ?_)
    refine ax_cond_dec rfl (fun h => ?_) (fun h => ?_)
    · rw [if_pos (by omega)] at he
      repeat (first
        | refine ax_q (q_assign rfl) ?_
        | refine ax_ops_nil ?_
        | refine ax_post_code ?_
        | refine ax_seq ?_
        | refine ax_region rfl ?_
        | refine ax_return ?_
        | refine ax_ret_code ?_)
      exact ax_ret hR rfl (by rw [he]; rfl)
    · rw [if_neg (by omega)] at he
      repeat (first
        | refine ax_q (q_assign rfl) ?_
        | refine ax_ops_nil ?_
        | refine ax_post_code ?_
        | refine ax_seq ?_
        | refine ax_region rfl ?_
        | refine ax_skip ?_
        | refine ax_return ?_)
      exact ax_ret hR rfl (by rw [he]; rfl)
def twoA (a b : List UInt8) : AV := .tup (if twoE a b ≠ 0 then [.nil, .nil, .int .i64 (twoE a b)] else [natA (decV 0 a), natA (decV 0 b), .int .i64 0])
theorem two_ok (a b : List UInt8) (ha : a.length ≤ 9223372036854775807) (hb : b.length ≤ 9223372036854775807) : VCall Tryz.prog 40 [.str a, .str b] (twoA a b) := by
  have ca := check_ok a ha
  have cb := check_ok b hb
  have ra := fun h : natE a = 0 => read_ok a (natE_ok h).1.2.1 (by have := (natE_ok h).2; omega)
  have rb := fun h : natE b = 0 => read_ok b (natE_ok h).1.2.1 (by have := (natE_ok h).2; omega)
  have ht : twoE a b = if natE a ≠ 0 then natE a else natE b := rfl
  have hr : noRef (twoA a b) = true := by unfold twoA; split <;> rfl
  unfold twoA at hr ⊢
  refine ACall.value0 (acall_of_ax (P := Tryz.prog) (fn := Tryz.f40) rfl rfl (by kernel_rfl) rfl (fun c hR hfix => ?_)) (fix := fun _ => False) (fun _ h => h) rfl hr
  generalize twoE a b = t at *
  generalize natE a = ea at *
  generalize natE b = eb at *
  repeat (first
    | refine ax_q (q_move rfl) ?_
    | refine ax_q (q_assign rfl) ?_
    | refine ax_ops_nil ?_
    | refine ax_post_code ?_
    | refine ax_seq ?_
    | refine ax_region rfl ?_)
  refine ax_callv rfl rfl rfl ca ?_
  repeat (first
    | refine ax_q (q_move rfl) ?_
    | refine ax_q (q_assign rfl) ?_
    | refine ax_ops_nil ?_
    | refine ax_post_code ?_
    | refine ax_seq ?_
    | refine ax_region rfl ?_
    | refine ax_q (q_neq rfl rfl) ?_)
  refine ax_cond_dec rfl (fun h => ?_) (fun h => ?_)
  · rw [if_pos h] at ht
    subst ht
    rw [if_pos h] at hR
    repeat (first
      | refine ax_q (q_move rfl) ?_
      | refine ax_q (q_assign rfl) ?_
      | refine ax_ops_nil ?_
      | refine ax_post_code ?_
      | refine ax_seq ?_
      | refine ax_region rfl ?_
      | refine ax_return ?_
      | refine ax_ret_code ?_)
    exact ax_ret hR rfl rfl
  have h0 : ea = 0 := Classical.not_not.1 h
  rw [if_neg h] at ht
  repeat (first
    | refine ax_q (q_move rfl) ?_
    | refine ax_post_code ?_
    | refine ax_seq ?_
    | refine ax_region rfl ?_
    | refine ax_skip ?_)
  refine ax_callv rfl rfl rfl cb ?_
  repeat (first
    | refine ax_q (q_move rfl) ?_
    | refine ax_q (q_assign rfl) ?_
    | refine ax_ops_nil ?_
    | refine ax_post_code ?_
    | refine ax_seq ?_
    | refine ax_region rfl ?_
    | refine ax_q (q_neq rfl rfl) ?_)
  refine ax_cond_dec rfl (fun h2 => ?_) (fun h2 => ?_)
  · subst ht
    rw [if_pos h2] at hR
    repeat (first
      | refine ax_q (q_move rfl) ?_
      | refine ax_q (q_assign rfl) ?_
      | refine ax_ops_nil ?_
      | refine ax_post_code ?_
      | refine ax_seq ?_
      | refine ax_region rfl ?_
      | refine ax_return ?_
      | refine ax_ret_code ?_)
    exact ax_ret hR rfl rfl
  have h3 : eb = 0 := Classical.not_not.1 h2
  subst ht
  rw [if_neg h2] at hR
  repeat (first
    | refine ax_q (q_move rfl) ?_
    | refine ax_post_code ?_
    | refine ax_seq ?_
    | refine ax_region rfl ?_
    | refine ax_skip ?_)
  refine ax_callv rfl rfl rfl (ra h0) ?_
  repeat (refine ax_q (q_move rfl) ?_)
  refine ax_callv rfl rfl rfl (rb h3) ?_
  repeat (first
    | refine ax_q (q_assign rfl) ?_
    | refine ax_ops_nil ?_
    | refine ax_post_code ?_
    | refine ax_return ?_)
  exact ax_ret hR rfl rfl
def pairA (p : List UInt8 × Int) : AV := .tup [.str p.1, .int .i64 p.2]
theorem result_ok (n : Nat) (h : (natL n).length ≤ 1000000) : VCall Tryz.prog 41 [natA n] (pairA (resF n)) := by
  have ht := text_ok n h
  have hr : resF n = if 2000 < (Lib.decDigits n).length then ([], 2) else (Lib.decDigits n, 0) := rfl
  have hdl := digits_len_b h (by decide)
  refine ACall.value0 (acall_of_ax (P := Tryz.prog) (fn := Tryz.f41) rfl rfl (by kernel_rfl) rfl (fun c hR hfix => ?_)) (fix := fun _ => False) (fun _ h => h) rfl rfl
  generalize resF n = r at *
  generalize Lib.decDigits n = d at *
  repeat (first
    | refine ax_q (q_move rfl) ?_
    | refine ax_q (q_assign rfl) ?_
    | refine ax_ops_nil ?_
    | refine ax_post_code ?_
    | refine ax_seq ?_
    | refine ax_region rfl ?_)
  refine ax_callv rfl rfl rfl ht ?_
  repeat (first
    | refine ax_q (q_move rfl) ?_
    | refine ax_q (q_assign rfl) ?_
    | refine ax_ops_nil ?_
    | refine ax_post_code ?_
    | refine ax_seq ?_
    | refine ax_region rfl ?_
    | refine ax_q (q_gtr rfl rfl) ?_
    | refine ax_q (q_lenstr rfl rfl) ?_)
  refine ax_cond_dec rfl (fun h => ?_) (fun h => ?_)
  · rw [if_pos (by omega)] at hr
    repeat (first
      | refine ax_q (q_assign rfl) ?_
      | refine ax_ops_nil ?_
      | refine ax_post_code ?_
      | refine ax_seq ?_
      | refine ax_region rfl ?_
      | refine ax_return ?_
      | refine ax_ret_code ?_)
    exact ax_ret hR rfl (by rw [hr]; rfl)
  · rw [if_neg (by omega)] at hr
    repeat (first
      | refine ax_q (q_move rfl) ?_
      | refine ax_q (q_assign rfl) ?_
      | refine ax_ops_nil ?_
      | refine ax_post_code ?_
      | refine ax_seq ?_
      | refine ax_region rfl ?_
      | refine ax_skip ?_
      | refine ax_return ?_)
    exact ax_ret hR rfl (by rw [hr]; rfl)
end Go.Proofs.YtbeegiiiochblaaGreatDoor

