import Derived.Test.YtmfhdfofmdggaaaRC
import Derived.Test.YtmfhdfofmdggaaaRkLaw
namespace Go.Proofs.Ytmfhdfofmdggaaa
open Go.Ax Go.Ax.Idx Go.Ax.Cd Go.Ax.Rk Go.RowKit
attribute [local irreducible] Ax Post QOp ACall
set_option maxRecDepth 100000
set_option maxHeartbeats 4000000
set_option linter.unusedSimpArgs false
set_option linter.unusedVariables false

theorem fine3 : VCall Try.prog 9 [.ro (.ints .i64 [0, 0, 0]) 0 3] (.bool true) := fineI [0, 0, 0] (by decide)

theorem ranksTurns (l ds : List Int) (n : Int) (hl : l.length ≤ 9223372036854775807) (hds : ds.length ≤ 9223372036854775807) : VCall Try.prog 5 [.ro (.ints .i64 l) 0 l.length, .ro (.ints .i64 ds) 0 ds.length, .int .i64 n] (.bool true) := by
  refine ACall.value0 (acall_of_ax (P := Try.prog) (fn := Try.f5) rfl rfl (by kernel_rfl) rfl (fun c hR hfix => ?_)) (fix := fun _ => False) (fun _ h => h) rfl rfl
  repeat (first
    | refine ax_q (q_assign rfl) ?_
    | refine ax_ops_nil ?_
    | refine ax_post_code ?_
    | refine ax_seq ?_
    | refine ax_region rfl ?_)
  refine ax_callv rfl rfl rfl ranksFact ?_
  repeat (first
    | refine ax_q (q_move rfl) ?_
    | refine ax_ops_nil ?_
    | refine ax_post_code ?_
    | refine ax_seq ?_
    | refine ax_region rfl ?_
    | refine ax_cond_false rfl ?_
    | refine ax_skip ?_
    | refine ax_q (q_not rfl) ?_)
  by_cases he : handE l = 0
  · have v1 := Value_ok l hl
    have c1 := Class_ok l hl
    rw [he, if_pos rfl] at v1 c1
    obtain ⟨h5, hb⟩ := hand_of he
    have hs := pickF_bd n 4 (by decide)
    have hpk := pick n 4 (by decide)
    generalize pickF n 4 = s at *
    obtain ⟨s1, s2, s3⟩ := shiftF_hand hs he
    have hsl : (shiftF s l).length = l.length := by simp [shiftF]
    have hsg : ∀ i, i < l.length → (shiftF s l).getD i 0 = (l.getD i 0 + 13 * s) % 52 := fun i hi => by simp [shiftF, List.getD, hi]
    have v2 := Value_ok (shiftF s l) (by omega)
    have c2 := Class_ok (shiftF s l) (by omega)
    rw [s1, if_pos rfl, hsl, s3] at v2
    rw [s1, if_pos rfl, hsl, s2] at c2
    have hsh : shufE l ds = 0 → VCall Try.prog 8 [.ro (.ints .i64 (shufF l ds)) 0 l.length] (.tup [.int .i64 (valF l), .int .i64 0]) := by
      intro hq
      have hq2 := hq
      unfold shufE at hq2
      rw [if_neg (by have := (handE_zero.1 he).1; omega)] at hq2
      obtain ⟨w1, w2⟩ := shuf_hand he hq2
      have hsl2 : (shufF l ds).length = l.length := shufGo_length _ _ _
      have := Value_ok (shufF l ds) (by omega)
      rwa [w1, if_pos rfl, hsl2, w2] at this
    generalize shiftF s l = m at *
    generalize valF l = v at *
    generalize clsF l = k at *
    refine ax_callv rfl rfl rfl v1 ?_
    repeat (first
      | refine ax_q (q_move rfl) ?_
      | refine ax_q (q_assign rfl) ?_
      | refine ax_ops_nil ?_
      | refine ax_post_code ?_
      | refine ax_seq ?_
      | refine ax_region rfl ?_
      | refine ax_cond_false rfl ?_
      | refine ax_skip ?_
      | refine ax_q (q_neq rfl rfl) ?_
      | refine ax_q (q_extract rfl rfl) ?_)
    refine ax_callv rfl rfl rfl hpk ?_
    repeat (first
      | refine ax_q (q_move rfl) ?_
      | refine ax_q (q_assign rfl) ?_
      | refine ax_ops_nil ?_
      | refine ax_post_code ?_
      | refine ax_seq ?_
      | refine ax_region rfl ?_
      | refine ax_q (q_len rfl rfl rfl) ?_)
    refine ax_nilobj 9 ⟨3, .ints .i64 []⟩ rfl rfl ?_
    repeat (refine ax_block ?_)
    refine ax_loop (ι := Nat) (fun i => [(0, .ro (.ints .i64 l) 0 l.length), (1, .ro (.ints .i64 ds) 0 ds.length), (2, .int .i64 s), (7, .int .i64 v), (9, .sl 0 0 i), (35, .ro (.ints .i64 l) 0 l.length), (36, .int .i64 (l.length : Nat)), (37, .int .i64 (i : Nat))])
      (fun i => [some ⟨3, .ints .i64 (m.take i)⟩]) (fun i => i ≤ l.length) (fun i => l.length - i) 0 ⟨⟨rfl, rfl, rfl, rfl, rfl, rfl, rfl, rfl, trivial⟩, rfl, Nat.zero_le _⟩ ?_
    rintro i hi
    repeat (first
      | refine ax_ops_nil ?_
      | refine ax_post_code ?_
      | refine ax_seq ?_
      | refine ax_region rfl ?_
      | refine ax_q (q_lss rfl rfl) ?_)
    refine ax_cond_dec rfl (fun h1 => ?_) (fun h1 => ?_)
    · have hil : i < l.length := by omega
      have hx := hb i hil
      have htk := take_succ_getD m 0 i (by omega)
      have htl : (m.take i).length = i := by rw [List.length_take]; omega
      rw [hsg i hil] at htk
      generalize m.take i = mi at *
      repeat (first
        | refine ax_q (q_move rfl) ?_
        | refine ax_q (q_assign rfl) ?_
        | refine ax_q (q_loadi_rp rfl rfl rfl) ?_
        | refine ax_ops_nil ?_
        | refine ax_post_code ?_
        | refine ax_seq ?_
        | refine ax_region rfl ?_
        | refine ax_block ?_
        | refine ax_skip ?_
        | refine ax_q (q_index_ro' rfl rfl rfl rfl (by first | (simp only [Nat.zero_add, Int.toNat_natCast, Int.toNat_zero]; exact rfl) | exact rfl) (by omega)) ?_)
      refine ax_q (q_mul rfl rfl (by omega)) ?_
      repeat (first
        | refine ax_q (q_add rfl rfl (by omega)) ?_
        | refine ax_q (q_rem rfl rfl (by omega)) ?_
        | refine ax_buildSliceRo rfl rfl rfl rfl rfl rfl rfl rfl rfl rfl rfl ?_)
      refine ax_append rfl rfl rfl rfl rfl rfl rfl rfl rfl htl rfl rfl (by show 0 + 1 ≤ 1; omega) rfl (by show (i + 1) * 8 ≤ _ ∧ _; omega) (fun i j _ _ => rfl) (by rw [hfix]; exact fun h => h) ?_
      repeat (first
        | refine ax_q (q_move rfl) ?_
        | refine ax_q (q_assign rfl) ?_
        | refine ax_ops_nil ?_
        | refine ax_post_code ?_
        | refine ax_region rfl ?_
        | refine ax_post_blk ?_
        | refine ax_q (q_add rfl rfl (by omega)) ?_)
      exact ax_post_inv ⟨i + 1, by omega, by omega, ⟨rfl, rfl, rfl, rfl, rfl, rfl, rfl, rfl, trivial⟩, by rw [htk]; rfl⟩
    · have hil : i = l.length := by omega
      subst hil
      rw [List.take_of_length_le (by omega)]
      repeat (first
        | refine ax_q (q_move rfl) ?_
        | refine ax_post_code ?_
        | refine ax_seq ?_
        | refine ax_region rfl ?_
        | refine ax_exit ?_
        | refine ax_exit_here ?_
        | refine ax_exit_code ?_
        | refine ax_exit_inv ?_)
      refine ax_calll rfl rfl rfl rfl v2 (refl1 refless_ints) ⟨fun o ho => by simp at ho; subst ho; exact Nat.le_of_eq (by show 0 + l.length = m.length; omega), trivial⟩ rfl rfl rfl ?_
      repeat (first
        | refine ax_q (q_move rfl) ?_
        | refine ax_q (q_assign rfl) ?_
        | refine ax_ops_nil ?_
        | refine ax_post_code ?_
        | refine ax_seq ?_
        | refine ax_region rfl ?_
        | refine ax_q (q_extract rfl rfl) ?_)
      refine ax_callv rfl rfl rfl c1 ?_
      repeat (first
        | refine ax_q (q_move rfl) ?_
        | refine ax_q (q_assign rfl) ?_
        | refine ax_ops_nil ?_
        | refine ax_post_code ?_
        | refine ax_seq ?_
        | refine ax_region rfl ?_
        | refine ax_q (q_extract rfl rfl) ?_)
      refine ax_calll rfl rfl rfl rfl c2 (refl1 refless_ints) ⟨fun o ho => by simp at ho; subst ho; exact Nat.le_of_eq (by show 0 + l.length = m.length; omega), trivial⟩ rfl rfl rfl ?_
      repeat (first
        | refine ax_q (q_move rfl) ?_
        | refine ax_q (q_assign rfl) ?_
        | refine ax_ops_nil ?_
        | refine ax_post_code ?_
        | refine ax_seq ?_
        | refine ax_region rfl ?_
        | refine ax_q (q_extract rfl rfl) ?_
        | refine ax_buildSliceRo rfl rfl rfl rfl rfl rfl rfl rfl rfl rfl rfl ?_)
      refine ax_callv rfl rfl rfl fine3 ?_
      repeat (first
        | refine ax_q (q_move rfl) ?_
        | refine ax_guard rfl rfl ?_
        | refine ax_q (q_neq rfl rfl) ?_
        | refine ax_q (q_not rfl) ?_
        | refine ax_q (q_pick rfl rfl) ?_)
      refine ax_gsplit rfl rfl (fun h4 => absurd rfl h4) (fun h4 => ?_)
      repeat (first
        | refine ax_q (q_move rfl) ?_
        | refine ax_ops_nil ?_
        | refine ax_post_code ?_
        | refine ax_guard rfl rfl ?_
        | refine ax_q (q_neq rfl rfl) ?_
        | refine ax_q (q_pick rfl rfl) ?_)
      refine ax_cond_dec rfl (fun h5 => absurd rfl h5) (fun h5 => ?_)
      repeat (first
        | refine ax_q (q_move rfl) ?_
        | refine ax_post_code ?_
        | refine ax_seq ?_
        | refine ax_region rfl ?_
        | refine ax_skip ?_)
      by_cases hq : shufE l ds = 0
      · refine ax_callv rfl rfl rfl (Shuffle_ok l ds hl hq) ?_
        repeat (first
          | refine ax_q (q_move rfl) ?_
          | refine ax_q (q_assign rfl) ?_
          | refine ax_ops_nil ?_
          | refine ax_post_code ?_
          | refine ax_seq ?_
          | refine ax_region rfl ?_
          | refine ax_cond_false rfl ?_
          | refine ax_skip ?_
          | refine ax_q (q_neq rfl rfl) ?_
          | refine ax_q (q_extract rfl rfl) ?_)
        refine ax_callv rfl rfl rfl (hsh hq) ?_
        repeat (first
          | refine ax_q (q_move rfl) ?_
          | refine ax_q (q_assign rfl) ?_
          | refine ax_ops_nil ?_
          | refine ax_post_code ?_
          | refine ax_seq ?_
          | refine ax_region rfl ?_
          | refine ax_guard rfl rfl ?_
          | refine ax_return ?_
          | refine ax_q (q_eql rfl rfl) ?_
          | refine ax_q (q_pick rfl rfl) ?_
          | refine ax_q (q_extract rfl rfl) ?_)
        refine ax_ret hR rfl ?_
        show AV.bool (decide (v = v)) = _
        rw [decide_eq_true rfl]
      · have c3 := Shuffle_no l ds hl rfl hq
        generalize shufE l ds = e at *
        refine ax_callv rfl rfl rfl c3 ?_
        repeat (first
          | refine ax_q (q_move rfl) ?_
          | refine ax_q (q_assign rfl) ?_
          | refine ax_ops_nil ?_
          | refine ax_post_code ?_
          | refine ax_seq ?_
          | refine ax_region rfl ?_
          | refine ax_q (q_neq rfl rfl) ?_
          | refine ax_q (q_extract rfl rfl) ?_)
        refine ax_cond_dec rfl (fun h6 => ?_) (fun h6 => absurd hq h6)
        repeat (first
          | refine ax_q (q_assign rfl) ?_
          | refine ax_ops_nil ?_
          | refine ax_post_code ?_
          | refine ax_seq ?_
          | refine ax_region rfl ?_
          | refine ax_return ?_
          | refine ax_ret_code ?_)
        exact ax_ret hR rfl rfl
  · have v1 := Value_ok l hl
    rw [if_neg he] at v1
    generalize handE l = e at *
    refine ax_callv rfl rfl rfl v1 ?_
    repeat (first
      | refine ax_q (q_move rfl) ?_
      | refine ax_q (q_assign rfl) ?_
      | refine ax_ops_nil ?_
      | refine ax_post_code ?_
      | refine ax_seq ?_
      | refine ax_region rfl ?_
      | refine ax_q (q_neq rfl rfl) ?_
      | refine ax_q (q_extract rfl rfl) ?_)
    refine ax_cond_dec rfl (fun h2 => ?_) (fun h2 => absurd he h2)
    repeat (first
      | refine ax_q (q_move rfl) ?_
      | refine ax_q (q_assign rfl) ?_
      | refine ax_ops_nil ?_
      | refine ax_post_code ?_
      | refine ax_seq ?_
      | refine ax_region rfl ?_
      | refine ax_return ?_
      | refine ax_ret_code ?_
      | refine ax_q (q_eql rfl rfl) ?_)
    exact ax_ret hR rfl rfl
end Go.Proofs.Ytmfhdfofmdggaaa
