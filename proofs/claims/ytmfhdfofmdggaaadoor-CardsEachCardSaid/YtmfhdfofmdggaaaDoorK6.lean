import Derived.Test.YtmfhdfofmdggaaaDoorK5
import Derived.Test.YtmfhdfofmdggaaaDoorAxMore6
import Derived.Test.YtmfhdfofmdggaaaDoorCdStr
namespace Go.Proofs.YtmfhdfofmdggaaaDoor
open Go.Ax Go.Ax.Idx Go.Ax.Cd
attribute [local irreducible] Ax Post QOp ACall
set_option maxRecDepth 100000
set_option maxHeartbeats 4000000
set_option linter.unusedSimpArgs false
set_option linter.unusedVariables false

theorem indexByteI (s : List UInt8) (b : Int) : VCall Tryd.prog 62 [.str s, .int .u8 b] (.int .i64 (Lib.indexByte s b.toNat.toUInt8)) := by
  refine ACall.value0 (acall_of_ax (P := Tryd.prog) (fn := Tryd.f62) rfl rfl (by kernel_rfl) rfl (fun c hR hfix => ?_)) (fix := fun _ => False) (fun _ h => h) rfl rfl
  repeat (first
    | refine ax_q (q_move rfl) ?_
    | refine ax_q (q_assign rfl) ?_
    | refine ax_ops_nil ?_
    | refine ax_post_code ?_
    | refine ax_seq ?_
    | refine ax_region rfl ?_)
  refine ax_q (q_indexByte rfl rfl rfl rfl (by kernel_rfl) (by kernel_rfl) (by kernel_rfl) (by kernel_rfl)) ?_
  repeat (first
    | refine ax_q (q_assign rfl) ?_
    | refine ax_ops_nil ?_
    | refine ax_post_code ?_
    | refine ax_return ?_)
  exact ax_ret hR rfl rfl
theorem indexByteS (s : List UInt8) (b : Int) : VCall Tryd.prog 50 [.str s, .int .u8 b] (.int .i64 (Lib.indexByte s b.toNat.toUInt8)) := by
  refine ACall.value0 (acall_of_ax (P := Tryd.prog) (fn := Tryd.f50) rfl rfl (by kernel_rfl) rfl (fun c hR hfix => ?_)) (fix := fun _ => False) (fun _ h => h) rfl rfl
  repeat (first
    | refine ax_q (q_move rfl) ?_
    | refine ax_q (q_assign rfl) ?_
    | refine ax_ops_nil ?_
    | refine ax_post_code ?_
    | refine ax_seq ?_
    | refine ax_region rfl ?_)
  refine ax_callv rfl rfl rfl (indexByteI s b) ?_
  repeat (first
    | refine ax_q (q_assign rfl) ?_
    | refine ax_ops_nil ?_
    | refine ax_post_code ?_
    | refine ax_return ?_)
  exact ax_ret hR rfl rfl
theorem indexI1 (s : List UInt8) (b : UInt8) : VCall Tryd.prog 75 [.str s, .str [b]] (.int .i64 (Lib.indexByte s b)) := by
  refine ACall.value0 (acall_of_ax (P := Tryd.prog) (fn := Tryd.f75) rfl rfl (by kernel_rfl) rfl (fun c hR hfix => ?_)) (fix := fun _ => False) (fun _ h => h) rfl rfl
  repeat (first
    | refine ax_q (q_move rfl) ?_
    | refine ax_q (q_assign rfl) ?_
    | refine ax_ops_nil ?_
    | refine ax_post_code ?_
    | refine ax_seq ?_
    | refine ax_region rfl ?_
    | refine ax_guard rfl rfl ?_
    | refine ax_block ?_
    | refine ax_q (q_eql rfl rfl) ?_
    | refine ax_q (q_pick rfl rfl) ?_
    | refine ax_q (q_lenstr rfl rfl) ?_
    | refine ax_q (q_streql rfl rfl) ?_)
  refine ax_cond_dec rfl (fun h => ?_) (fun h => ?_)
  · repeat (first
      | refine ax_q (q_assign rfl) ?_
      | refine ax_ops_nil ?_
      | refine ax_post_code ?_
      | refine ax_seq ?_
      | refine ax_region rfl ?_
      | refine ax_return ?_
      | refine ax_ret_code ?_
      | refine ax_ret_blk ?_)
    refine ax_ret hR rfl ?_
    subst h
    simp [tupOf, Lib.indexByte]
  repeat (first
    | refine ax_q (q_move rfl) ?_
    | refine ax_q (q_assign rfl) ?_
    | refine ax_ops_nil ?_
    | refine ax_post_code ?_
    | refine ax_seq ?_
    | refine ax_region rfl ?_
    | refine ax_cond_true rfl ?_
    | refine ax_q (q_eql rfl rfl) ?_
    | refine ax_q (q_stridx rfl rfl rfl (by first | assumption | omega | simp)) ?_)
  refine ax_callv rfl rfl rfl (indexByteI s b.toNat) ?_
  repeat (first
    | refine ax_q (q_assign rfl) ?_
    | refine ax_ops_nil ?_
    | refine ax_post_code ?_
    | refine ax_return ?_
    | refine ax_ret_code ?_
    | refine ax_ret_blk ?_)
  refine ax_ret hR rfl ?_
  simp [tupOf]
theorem indexS1 (s : List UInt8) (b : UInt8) : VCall Tryd.prog 68 [.str s, .str [b]] (.int .i64 (Lib.indexByte s b)) := by
  refine ACall.value0 (acall_of_ax (P := Tryd.prog) (fn := Tryd.f68) rfl rfl (by kernel_rfl) rfl (fun c hR hfix => ?_)) (fix := fun _ => False) (fun _ h => h) rfl rfl
  repeat (first
    | refine ax_q (q_move rfl) ?_
    | refine ax_q (q_assign rfl) ?_
    | refine ax_ops_nil ?_
    | refine ax_post_code ?_
    | refine ax_seq ?_
    | refine ax_region rfl ?_)
  refine ax_callv rfl rfl rfl (indexI1 s b) ?_
  repeat (first
    | refine ax_q (q_assign rfl) ?_
    | refine ax_ops_nil ?_
    | refine ax_post_code ?_
    | refine ax_return ?_)
  exact ax_ret hR rfl rfl
theorem countS1 (s : List UInt8) (b : UInt8) : VCall Tryd.prog 67 [.str s, .str [b]] (.int .i64 (s.count b : Nat)) := by
  refine ACall.value0 (acall_of_ax (P := Tryd.prog) (fn := Tryd.f67) rfl rfl (by kernel_rfl) rfl (fun c hR hfix => ?_)) (fix := fun _ => False) (fun _ h => h) rfl rfl
  repeat (first
    | refine ax_q (q_move rfl) ?_
    | refine ax_q (q_assign rfl) ?_
    | refine ax_ops_nil ?_
    | refine ax_post_code ?_
    | refine ax_seq ?_
    | refine ax_region rfl ?_
    | refine ax_cond_true rfl ?_
    | refine ax_cond_false rfl ?_
    | refine ax_skip ?_
    | refine ax_q (q_eql rfl rfl) ?_
    | refine ax_q (q_lenstr rfl rfl) ?_
    | refine ax_q (q_stridx rfl rfl rfl (by first | assumption | omega | simp)) ?_)
  refine ax_q (q_countByte rfl rfl rfl rfl (by kernel_rfl) (by kernel_rfl) (by kernel_rfl) (by kernel_rfl)) ?_
  repeat (first
    | refine ax_q (q_assign rfl) ?_
    | refine ax_ops_nil ?_
    | refine ax_post_code ?_
    | refine ax_return ?_
    | refine ax_ret_code ?_)
  refine ax_ret hR rfl ?_
  simp [tupOf]

/-- The memory that genSplit writes. -/
theorem genSplit1 (s : List UInt8) (b : UInt8) (hs : s.length ≤ 1000000) :
    VCall Tryd.prog 61 [.str s, .str [b], .int .i64 0, .int .i64 (-1)] (.ro (.strs (splitF b s)) 0 (splitF b s).length) := by
  have hc := List.count_le_length (a := b) (l := s)
  refine ACall.value (K := fun r H => r = .sl 0 0 (splitF b s).length ∧ H = [some ⟨9, .strs (splitF b s)⟩]) (acall_of_ax (P := Tryd.prog) (fn := Tryd.f61) rfl rfl (by kernel_rfl) rfl (fun c hR hfix => ?_)) (fix := fun _ => False) (fun _ h => h) rfl ?_
  · repeat (first
      | refine ax_q (q_move rfl) ?_
      | refine ax_q (q_assign rfl) ?_
      | refine ax_ops_nil ?_
      | refine ax_post_code ?_
      | refine ax_seq ?_
      | refine ax_region rfl ?_
      | refine ax_cond_true rfl ?_
      | refine ax_cond_false rfl ?_
      | refine ax_skip ?_
      | refine ax_q (q_lss rfl rfl) ?_
      | refine ax_q (q_eql rfl rfl) ?_
      | refine ax_q (q_streql rfl rfl) ?_)
    refine ax_callv rfl rfl rfl (countS1 s b) ?_
    repeat (first
      | refine ax_q (q_move rfl) ?_
      | refine ax_q (q_assign rfl) ?_
      | refine ax_ops_nil ?_
      | refine ax_post_code ?_
      | refine ax_seq ?_
      | refine ax_region rfl ?_
      | refine ax_q (q_lenstr rfl rfl) ?_
      | refine ax_q (q_add rfl rfl (by omega)) ?_
      | refine ax_q (q_min rfl rfl) ?_)
    have hmin : (if (s.length : Int) + 1 < (s.count b : Nat) + 1 then (s.length : Int) + 1 else (s.count b : Nat) + 1) = ((s.count b + 1 : Nat) : Int) := by rw [if_neg (by omega)]; simp
    rw [hmin]
    refine ax_make rfl rfl rfl rfl rfl rfl rfl rfl (by show 0 ≤ _ ∧ _ ≤ _ ∧ (16 : Int) * _ ≤ _ ∧ _; omega) ?_
    repeat (first
      | refine ax_q (q_move rfl) ?_
      | refine ax_q (q_assign rfl) ?_
      | refine ax_ops_nil ?_
      | refine ax_post_code ?_
      | refine ax_seq ?_
      | refine ax_region rfl ?_
      | refine ax_q (q_sub rfl rfl (by omega)) ?_)
    have hsl := splitF_length b s
    refine ax_block ?_
    refine ax_loop (ι := Nat × List UInt8 × List (List UInt8)) (fun x => [(0, .str x.2.1), (1, .str [b]), (2, .int .i64 0), (3, .int .i64 (s.count b : Nat)), (9, .sl 0 0 (s.count b + 1)), (10, .int .i64 x.1)]) (fun x => [some ⟨9, .strs x.2.2⟩])
      (fun x => x.2.2.length = s.count b + 1 ∧ x.1 + (splitF b x.2.1).length = s.count b + 1 ∧ x.2.2.take x.1 ++ splitF b x.2.1 = splitF b s ∧ x.2.1.length ≤ 1000000) (fun x => s.count b + 1 - x.1) (0, s, List.replicate (s.count b + 1) [])
      ⟨⟨rfl, rfl, rfl, by show some (AV.int _ _) = _; congr 2; simp, rfl, rfl, trivial⟩, rfl, by simp, by simp only; omega, by simp, hs⟩ ?_
    rintro ⟨i, r, out⟩ ⟨ho, hi, hsp, hrl⟩
    simp only at *
    have hrs := splitF_length b r
    have hge := Lib.indexByte_ge r b
    repeat (first
      | refine ax_q (q_move rfl) ?_
      | refine ax_ops_nil ?_
      | refine ax_post_code ?_
      | refine ax_seq ?_
      | refine ax_region rfl ?_
      | refine ax_q (q_lss rfl rfl) ?_)
    refine ax_cond_dec rfl (fun h1 => ?_) (fun h1 => ?_)
    · repeat (first
        | refine ax_q (q_move rfl) ?_
        | refine ax_post_code ?_
        | refine ax_seq ?_
        | refine ax_region rfl ?_
        | refine ax_block ?_
        | refine ax_skip ?_)
      refine ax_callv rfl rfl rfl (indexS1 r b) ?_
      repeat (first
        | refine ax_q (q_move rfl) ?_
        | refine ax_q (q_assign rfl) ?_
        | refine ax_ops_nil ?_
        | refine ax_post_code ?_
        | refine ax_seq ?_
        | refine ax_region rfl ?_
        | refine ax_q (q_lss rfl rfl) ?_)
      refine ax_cond_dec rfl (fun h2 => ?_) (fun h2 => ?_)
      · exfalso
        have := splitF_no b r h2
        rw [this] at hi
        simp at hi; omega
      · obtain ⟨g1, g2⟩ := splitF_yes b r (by omega)
        rw [g2] at hi hsp
        simp only [List.length_cons] at hi
        generalize Lib.indexByte r b = m at *
        have hio : i < out.length := by omega
        repeat (first
          | refine ax_q (q_move rfl) ?_
          | refine ax_ops_nil ?_
          | refine ax_post_code ?_
          | refine ax_seq ?_
          | refine ax_region rfl ?_
          | refine ax_skip ?_
          | refine ax_q (q_lenstr rfl rfl) ?_
          | refine ax_q (q_add rfl rfl (by omega)) ?_
          | refine ax_q (q_index_sl' rfl rfl rfl rfl rfl (by first | (simp only [Nat.zero_add, Int.toNat_natCast, Int.toNat_zero]; exact rfl) | exact rfl) (by omega)) ?_
          | refine ax_q (q_strslice rfl rfl rfl rfl rfl rfl (by omega)) ?_
          | refine ax_store rfl rfl rfl rfl rfl rfl rfl (by first | assumption | (show _ < List.length _; first | assumption | omega)) ?_)
        refine ax_q (q_add rfl rfl (by simp only [List.length_cons, List.length_nil]; omega)) ?_
        refine ax_slot_ops 54 (.int .i64 (m + 1)) rfl AEq.rfl' ?_
        repeat (first
          | refine ax_q (q_move rfl) ?_
          | refine ax_q (q_assign rfl) ?_
          | refine ax_ops_nil ?_
          | refine ax_post_code ?_
          | refine ax_region rfl ?_
          | refine ax_post_blk ?_
          | refine ax_q (q_add rfl rfl (by omega)) ?_
          | refine ax_q (q_strslice rfl rfl rfl rfl rfl rfl (by omega)) ?_)
        have e1 : (m + 0).toNat - (0 : Int).toNat = m.toNat := by omega
        refine ax_post_inv ⟨(i + 1, r.drop (m.toNat + 1), out.set i (r.take m.toNat)), ⟨by simp only [List.length_set]; exact ho, by simp only; omega, ?_, by simp only [List.length_drop]; omega⟩, by simp only; omega, ⟨?_, rfl, rfl, rfl, rfl, rfl, trivial⟩, ?_⟩
        · simp only
          rw [← hsp, List.take_succ_eq_append_getElem (by simpa using hio)]
          simp [List.take_set_of_le (Nat.le_refl i)]
        · show some (AV.str (List.take (r.length - (m + 1).toNat) (List.drop (m + 1).toNat r))) = _
          rw [show (m + 1).toNat = m.toNat + 1 by omega, List.take_of_length_le (by simp)]
        · show ([some ⟨9, .strs (out.set i (List.take ((m + 0).toNat - (0 : Int).toNat) r))⟩] : AHeap) = _
          rw [e1]
    · have hi1 : i = s.count b := by omega
      subst hi1
      have h0 : splitF b r = [r] := by
        rcases Int.lt_or_le (Lib.indexByte r b) 0 with hq | hq
        · exact splitF_no b r hq
        · obtain ⟨_, g2⟩ := splitF_yes b r hq
          have := splitF_ne b (r.drop ((Lib.indexByte r b).toNat + 1))
          rw [g2] at hi
          cases hz : splitF b (r.drop ((Lib.indexByte r b).toNat + 1)) with
          | nil => exact absurd hz this
          | cons y q => rw [hz] at hi; simp at hi
      rw [h0] at hsp
      have hio : s.count b < out.length := by omega
      have hset : out.set (s.count b) r = splitF b s := by
        rw [← hsp, List.set_eq_take_append_cons_drop, if_pos hio, List.drop_eq_nil_of_le (by omega)]
      repeat (first
        | refine ax_q (q_move rfl) ?_
        | refine ax_q (q_assign rfl) ?_
        | refine ax_ops_nil ?_
        | refine ax_post_code ?_
        | refine ax_seq ?_
        | refine ax_region rfl ?_
        | refine ax_exit ?_
        | refine ax_exit_here ?_
        | refine ax_exit_code ?_
        | refine ax_exit_inv ?_
        | refine ax_return ?_
        | refine ax_q (q_add rfl rfl (by omega)) ?_
        | refine ax_q (q_index_sl' rfl rfl rfl rfl rfl (by first | (simp only [Nat.zero_add, Int.toNat_natCast, Int.toNat_zero]; exact rfl) | exact rfl) (by omega)) ?_
        | refine ax_q (q_slice_sl rfl rfl rfl rfl rfl rfl rfl rfl (by omega)) ?_
        | refine ax_store rfl rfl rfl rfl rfl rfl rfl (by first | assumption | (show _ < List.length _; first | assumption | omega)) ?_)
      refine ax_ret hR rfl ⟨?_, ?_⟩
      · show AV.sl 0 0 ((s.count b : Int) + 1 - (0 : Nat)).toNat = _
        rw [hsl]; congr 1
      · show ([some ⟨9, .strs (out.set (s.count b) r)⟩] : AHeap) = _
        rw [hset]
  · rintro r H ⟨rfl, rfl⟩
    refine ⟨rfl, ?_, fun h o ho => refl1 refless_strs h o ho⟩
    intro o ho; simp at ho; subst ho
    show 0 + (splitF b s).length ≤ (splitF b s).length
    omega
theorem split1 (s : List UInt8) (b : UInt8) (hs : s.length ≤ 1000000) : VCall Tryd.prog 49 [.str s, .str [b]] (.ro (.strs (splitF b s)) 0 (splitF b s).length) := by
  intro H
  refine acall_of_ax (P := Tryd.prog) (fn := Tryd.f49) rfl rfl (by kernel_rfl) rfl (fun c hR hfix => ?_)
  repeat (first
    | refine ax_q (q_move rfl) ?_
    | refine ax_q (q_assign rfl) ?_
    | refine ax_ops_nil ?_
    | refine ax_post_code ?_
    | refine ax_seq ?_
    | refine ax_region rfl ?_)
  refine ax_callv rfl rfl rfl (genSplit1 s b hs) ?_
  repeat (first
    | refine ax_q (q_assign rfl) ?_
    | refine ax_ops_nil ?_
    | refine ax_post_code ?_
    | refine ax_return ?_)
  exact ax_ret hR rfl ⟨rfl, rfl⟩
end Go.Proofs.YtmfhdfofmdggaaaDoor
