import Derived.Test.YtmfhdfofmdggaaaR2
import Derived.Test.YtmfhdfofmdggaaaAxMore8
namespace Go.Proofs.Ytmfhdfofmdggaaa
open Go.Ax Go.Ax.Idx Go.Ax.Cd Go.Ax.Rk
attribute [local irreducible] Ax Post QOp ACall
set_option maxRecDepth 100000
set_option maxHeartbeats 4000000
set_option linter.unusedSimpArgs false
set_option linter.unusedVariables false

theorem insSort (l : List Int) (hl : l.length ≤ 12) (g : FuncId) (caps : List AV) (cf : Int → Int → Int) (hc : noRef.noRefs caps = true)
    (hcmp : ∀ a b, a ∈ l → b ∈ l → VCall Try.prog g ([.int .i64 a, .int .i64 b] ++ caps) (.int .i64 (cf a b))) :
    ACall Try.prog 43 [.sl 1 0 l.length, .int .i64 0, .int .i64 (l.length : Nat), .fn g caps] [none, some ⟨3, .ints .i64 l⟩] (fun h => h < 2)
      (fun r H => r = .tup [] ∧ H = [none, some ⟨3, .ints .i64 (sortF (fun a b => decide (cf a b < 0)) l)⟩]) := by
  refine acall_of_ax (P := Try.prog) (fn := Try.f43) rfl rfl (by kernel_rfl) rfl (fun c hR hfix => ?_)
  repeat (first
    | refine ax_q (q_move rfl) ?_
    | refine ax_q (q_assign rfl) ?_
    | refine ax_ops_nil ?_
    | refine ax_post_code ?_
    | refine ax_seq ?_
    | refine ax_region rfl ?_
    | refine ax_block ?_
    | refine ax_q (q_add rfl rfl (by omega)) ?_)
  refine ax_loop (ι := Nat × List Int) (fun x => [(0, .sl 1 0 l.length), (1, .int .i64 0), (2, .int .i64 (l.length : Nat)), (3, .fn g caps), (8, .int .i64 (x.1 : Nat))]) (fun x => [none, some ⟨3, .ints .i64 x.2⟩])
    (fun x => x.2.length = l.length ∧ 1 ≤ x.1 ∧ (∀ c ∈ x.2, c ∈ l) ∧ isort (fun a b => decide (cf a b < 0)) (l.length - x.1) x.1 x.2 = sortF (fun a b => decide (cf a b < 0)) l) (fun x => l.length - x.1) (1, l) ⟨⟨rfl, rfl, rfl, rfl, rfl, trivial⟩, rfl, rfl, Nat.le_refl _, fun _ h => h, rfl⟩ ?_
  rintro ⟨i, d⟩ ⟨hdl, hi1, hdm, hs⟩
  simp only at *
  repeat (first
    | refine ax_q (q_move rfl) ?_
    | refine ax_ops_nil ?_
    | refine ax_post_code ?_
    | refine ax_seq ?_
    | refine ax_region rfl ?_
    | refine ax_q (q_lss rfl rfl) ?_)
  refine ax_cond_dec rfl (fun h => ?_) (fun h => ?_)
  · have hi : i < l.length := by omega
    obtain ⟨q, hq⟩ : ∃ q, l.length - i = q + 1 := ⟨l.length - i - 1, by omega⟩
    rw [hq, isort] at hs
    repeat (first
      | refine ax_q (q_move rfl) ?_
      | refine ax_q (q_assign rfl) ?_
      | refine ax_ops_nil ?_
      | refine ax_post_code ?_
      | refine ax_seq ?_
      | refine ax_region rfl ?_
      | refine ax_block ?_
      | refine ax_skip ?_)
    refine ax_loop (ι := Nat × List Int) (fun x => [(0, .sl 1 0 l.length), (1, .int .i64 0), (2, .int .i64 (l.length : Nat)), (3, .fn g caps), (8, .int .i64 (i : Nat)), (9, .int .i64 (x.1 : Nat))]) (fun x => [none, some ⟨3, .ints .i64 x.2⟩])
      (fun x => x.2.length = l.length ∧ x.1 ≤ i ∧ (∀ c ∈ x.2, c ∈ l) ∧ down (fun a b => decide (cf a b < 0)) x.1 x.2 = down (fun a b => decide (cf a b < 0)) i d) (fun x => x.1) (i, d) ⟨⟨rfl, rfl, rfl, rfl, rfl, rfl, trivial⟩, rfl, hdl, Nat.le_refl _, hdm, rfl⟩ ?_
    rintro ⟨j, e⟩ ⟨hel, hji, hem, hd⟩
    simp only at *
    repeat (refine ax_seq ?_)
    refine ax_regiond (by kernel_rfl) ?_
    refine ax_any_q 0 rfl (by kernel_rfl) (by kernel_rfl) (by kernel_rfl) rfl (q_move rfl) rfl ?_
    refine ax_any_q 1 rfl (by kernel_rfl) (by kernel_rfl) (by kernel_rfl) rfl (q_move rfl) rfl ?_
    refine ax_any_q 2 rfl (by kernel_rfl) (by kernel_rfl) (by kernel_rfl) rfl (q_gtr rfl rfl) rfl ?_
    refine ax_any_q 3 rfl (by kernel_rfl) (by kernel_rfl) (by kernel_rfl) rfl (q_move rfl) rfl ?_
    refine ax_split_any 21 rfl (fun h1 => ?_) (fun h1 => ?_)
    · obtain ⟨p, rfl⟩ : ∃ p, j = p + 1 := ⟨j - 1, by omega⟩
      have hp1 : p + 1 < e.length := by omega
      have hp2 : p < e.length := by omega
      have hcm := hcmp _ _ (hem _ (getD_mem 0 hp1)) (hem _ (getD_mem 0 hp2))
      refine ax_any_qg 4 rfl (by kernel_rfl) (by kernel_rfl) (by kernel_rfl) rfl rfl rfl (q_move rfl) rfl ?_
      refine ax_any_qg 5 rfl (by kernel_rfl) (by kernel_rfl) (by kernel_rfl) rfl rfl rfl (q_move rfl) rfl ?_
      refine ax_any_qg 6 rfl (by kernel_rfl) (by kernel_rfl) (by kernel_rfl) rfl rfl rfl (q_move rfl) rfl ?_
      refine ax_any_qg 9 rfl (by kernel_rfl) (by kernel_rfl) (by kernel_rfl) rfl rfl rfl (q_move rfl) rfl ?_
      refine ax_any_qg 10 rfl (by kernel_rfl) (by kernel_rfl) (by kernel_rfl) rfl rfl rfl (q_move rfl) rfl ?_
      refine ax_any_qg 7 rfl (by kernel_rfl) (by kernel_rfl) (by kernel_rfl) rfl rfl rfl (q_index_sl' rfl rfl rfl rfl rfl (by first | (simp only [Nat.zero_add, Int.toNat_natCast, Int.toNat_zero]; exact rfl) | exact rfl) (by omega)) rfl ?_
      refine ax_any_qg 11 rfl (by kernel_rfl) (by kernel_rfl) (by kernel_rfl) rfl rfl rfl (q_sub rfl rfl (by omega)) rfl ?_
      refine ax_slot_any 29 (.int .i64 (p : Nat)) rfl (AEq.of_eq (by congr 1; omega)) ?_
      refine ax_any_qg 12 rfl (by kernel_rfl) (by kernel_rfl) (by kernel_rfl) rfl rfl rfl (q_index_sl' rfl rfl rfl rfl rfl (by first | (simp only [Nat.zero_add, Int.toNat_natCast, Int.toNat_zero]; exact rfl) | exact rfl) (by omega)) rfl ?_
      refine ax_any_step (is := [8, 13]) (by kernel_rfl) (by simp) rfl ⟨fun o ho => ?_, fun o ho => ?_, trivial⟩
      all_goals (cases ho)
      · repeat (first
          | refine ax_ops_nil ?_
          | refine ax_guard rfl rfl ?_
          | refine ax_post_any ?_
          | refine ax_q (q_loadi_ptr rfl rfl rfl rfl (by first | assumption | omega)) ?_)
        refine ax_any_step (is := [13]) (by kernel_rfl) (by simp) rfl ⟨fun o ho => ?_, trivial⟩
        all_goals (cases ho)
        repeat (first
          | refine ax_ops_nil ?_
          | refine ax_guard rfl rfl ?_
          | refine ax_post_any ?_
          | refine ax_q (q_loadi_ptr rfl rfl rfl rfl (by first | assumption | omega)) ?_)
        refine ax_any_step (is := [14]) (by kernel_rfl) (by simp) rfl ⟨fun o ho => ?_, trivial⟩
        all_goals (cases ho)
        repeat (refine ax_guard rfl rfl ?_)
        refine ax_callv rfl rfl rfl hcm ?_
        repeat (first
          | refine ax_ops_nil ?_
          | refine ax_post_any ?_)
        refine ax_any_qg 15 rfl (by kernel_rfl) (by kernel_rfl) (by kernel_rfl) rfl rfl rfl (q_lss rfl rfl) rfl ?_
        refine ax_any_q 16 rfl (by kernel_rfl) (by kernel_rfl) (by kernel_rfl) rfl (q_pick rfl rfl) rfl ?_
        refine ax_any_done (by kernel_rfl) ?_
        repeat (refine ax_post_code ?_)
        refine ax_cond_dec rfl (fun h2 => ?_) (fun h2 => ?_)
        · rw [down, if_pos (decide_eq_true h2)] at hd
          have hp3 : p < (e.set (p + 1) (e.getD p 0)).length := by simpa using hp2
          repeat (first
            | refine ax_post_code ?_
            | refine ax_seq ?_
            | refine ax_block ?_
            | refine ax_skip ?_)
          refine ax_regiond (by kernel_rfl) ?_
          refine ax_any_q 0 rfl (by kernel_rfl) (by kernel_rfl) (by kernel_rfl) rfl (q_move rfl) rfl ?_
          refine ax_any_q 1 rfl (by kernel_rfl) (by kernel_rfl) (by kernel_rfl) rfl (q_move rfl) rfl ?_
          refine ax_any_q 2 rfl (by kernel_rfl) (by kernel_rfl) (by kernel_rfl) rfl (q_move rfl) rfl ?_
          refine ax_any_q 3 rfl (by kernel_rfl) (by kernel_rfl) (by kernel_rfl) rfl (q_move rfl) rfl ?_
          refine ax_any_q 4 rfl (by kernel_rfl) (by kernel_rfl) (by kernel_rfl) rfl (q_sub rfl rfl (by omega)) rfl ?_
          refine ax_slot_any 41 (.int .i64 (p : Nat)) rfl (AEq.of_eq (by congr 1; omega)) ?_
          refine ax_any_q 5 rfl (by kernel_rfl) (by kernel_rfl) (by kernel_rfl) rfl (q_move rfl) rfl ?_
          refine ax_any_q 6 rfl (by kernel_rfl) (by kernel_rfl) (by kernel_rfl) rfl (q_move rfl) rfl ?_
          refine ax_any_q 7 rfl (by kernel_rfl) (by kernel_rfl) (by kernel_rfl) rfl (q_sub rfl rfl (by omega)) rfl ?_
          refine ax_slot_any 44 (.int .i64 (p : Nat)) rfl (AEq.of_eq (by congr 1; omega)) ?_
          refine ax_any_q 8 rfl (by kernel_rfl) (by kernel_rfl) (by kernel_rfl) rfl (q_index_sl' rfl rfl rfl rfl rfl (by first | (simp only [Nat.zero_add, Int.toNat_natCast, Int.toNat_zero]; exact rfl) | exact rfl) (by omega)) rfl ?_
          refine ax_any_q 10 rfl (by kernel_rfl) (by kernel_rfl) (by kernel_rfl) rfl (q_move rfl) rfl ?_
          refine ax_any_q 11 rfl (by kernel_rfl) (by kernel_rfl) (by kernel_rfl) rfl (q_move rfl) rfl ?_
          refine ax_any_q 12 rfl (by kernel_rfl) (by kernel_rfl) (by kernel_rfl) rfl (q_index_sl' rfl rfl rfl rfl rfl (by first | (simp only [Nat.zero_add, Int.toNat_natCast, Int.toNat_zero]; exact rfl) | exact rfl) (by omega)) rfl ?_
          refine ax_any_step (is := [9, 13]) (by kernel_rfl) (by simp) rfl ⟨fun o ho => ?_, fun o ho => ?_, trivial⟩
          all_goals (cases ho)
          · repeat (first
              | refine ax_ops_nil ?_
              | refine ax_post_any ?_
              | refine ax_q (q_loadi_ptr rfl rfl rfl rfl (by first | assumption | omega)) ?_)
            refine ax_any_step (is := [13]) (by kernel_rfl) (by simp) rfl ⟨fun o ho => ?_, trivial⟩
            all_goals (cases ho)
            repeat (first
              | refine ax_ops_nil ?_
              | refine ax_post_any ?_
              | refine ax_q (q_loadi_ptr rfl rfl rfl rfl (by first | assumption | omega)) ?_)
            refine ax_any_q 14 rfl (by kernel_rfl) (by kernel_rfl) (by kernel_rfl) rfl (q_index_sl' rfl rfl rfl rfl rfl (by first | (simp only [Nat.zero_add, Int.toNat_natCast, Int.toNat_zero]; exact rfl) | exact rfl) (by omega)) rfl ?_
            refine ax_any_step (is := [15]) (by kernel_rfl) (by simp) rfl ⟨fun o ho => ?_, trivial⟩
            all_goals (cases ho)
            repeat (first
              | refine ax_ops_nil ?_
              | refine ax_post_any ?_
              | refine ax_store rfl rfl rfl rfl rfl rfl rfl (by first | assumption | (show _ < List.length _; first | assumption | omega)) ?_)
            refine ax_any_q 16 rfl (by kernel_rfl) (by kernel_rfl) (by kernel_rfl) rfl (q_index_sl' rfl rfl rfl rfl rfl (by first | (simp only [Nat.zero_add, Int.toNat_natCast, Int.toNat_zero]; exact rfl) | exact rfl) (by omega)) rfl ?_
            refine ax_any_step (is := [17]) (by kernel_rfl) (by simp) rfl ⟨fun o ho => ?_, trivial⟩
            all_goals (cases ho)
            repeat (first
              | refine ax_ops_nil ?_
              | refine ax_post_any ?_
              | refine ax_store rfl rfl rfl rfl rfl rfl rfl (by first | assumption | (show _ < List.length _; first | assumption | omega)) ?_)
            refine ax_any_done (by kernel_rfl) ?_
            repeat (first
              | refine ax_q (q_move rfl) ?_
              | refine ax_q (q_assign rfl) ?_
              | refine ax_ops_nil ?_
              | refine ax_post_code ?_
              | refine ax_region rfl ?_
              | refine ax_post_blk ?_
              | refine ax_q (q_sub rfl rfl (by omega)) ?_)
            exact ax_post_inv ⟨(p, swapF e (p + 1) p), ⟨by simp only [swapF_length]; exact hel, by simp only; omega, fun c hc => hem c ((mem_swapF hp1 hp2 c).1 hc), hd⟩, by simp only; omega, ⟨rfl, rfl, rfl, rfl, rfl, by show some (AV.int .i64 (((p + 1 : Nat) : Int) - 1)) = _; congr 2; simp, trivial⟩, rfl⟩
          · repeat (first
              | refine ax_ops_nil ?_
              | refine ax_post_any ?_
              | refine ax_q (q_loadi_ptr rfl rfl rfl rfl (by first | assumption | omega)) ?_)
            refine ax_any_step (is := [9]) (by kernel_rfl) (by simp) rfl ⟨fun o ho => ?_, trivial⟩
            all_goals (cases ho)
            repeat (first
              | refine ax_ops_nil ?_
              | refine ax_post_any ?_
              | refine ax_q (q_loadi_ptr rfl rfl rfl rfl (by first | assumption | omega)) ?_)
            refine ax_any_q 14 rfl (by kernel_rfl) (by kernel_rfl) (by kernel_rfl) rfl (q_index_sl' rfl rfl rfl rfl rfl (by first | (simp only [Nat.zero_add, Int.toNat_natCast, Int.toNat_zero]; exact rfl) | exact rfl) (by omega)) rfl ?_
            refine ax_any_step (is := [15]) (by kernel_rfl) (by simp) rfl ⟨fun o ho => ?_, trivial⟩
            all_goals (cases ho)
            repeat (first
              | refine ax_ops_nil ?_
              | refine ax_post_any ?_
              | refine ax_store rfl rfl rfl rfl rfl rfl rfl (by first | assumption | (show _ < List.length _; first | assumption | omega)) ?_)
            refine ax_any_q 16 rfl (by kernel_rfl) (by kernel_rfl) (by kernel_rfl) rfl (q_index_sl' rfl rfl rfl rfl rfl (by first | (simp only [Nat.zero_add, Int.toNat_natCast, Int.toNat_zero]; exact rfl) | exact rfl) (by omega)) rfl ?_
            refine ax_any_step (is := [17]) (by kernel_rfl) (by simp) rfl ⟨fun o ho => ?_, trivial⟩
            all_goals (cases ho)
            repeat (first
              | refine ax_ops_nil ?_
              | refine ax_post_any ?_
              | refine ax_store rfl rfl rfl rfl rfl rfl rfl (by first | assumption | (show _ < List.length _; first | assumption | omega)) ?_)
            refine ax_any_done (by kernel_rfl) ?_
            repeat (first
              | refine ax_q (q_move rfl) ?_
              | refine ax_q (q_assign rfl) ?_
              | refine ax_ops_nil ?_
              | refine ax_post_code ?_
              | refine ax_region rfl ?_
              | refine ax_post_blk ?_
              | refine ax_q (q_sub rfl rfl (by omega)) ?_)
            exact ax_post_inv ⟨(p, swapF e (p + 1) p), ⟨by simp only [swapF_length]; exact hel, by simp only; omega, fun c hc => hem c ((mem_swapF hp1 hp2 c).1 hc), hd⟩, by simp only; omega, ⟨rfl, rfl, rfl, rfl, rfl, by show some (AV.int .i64 (((p + 1 : Nat) : Int) - 1)) = _; congr 2; simp, trivial⟩, rfl⟩
        · rw [down, if_neg (by simpa using h2)] at hd
          rw [← hd] at hs
          repeat (first
            | refine ax_q (q_move rfl) ?_
            | refine ax_q (q_assign rfl) ?_
            | refine ax_ops_nil ?_
            | refine ax_post_code ?_
            | refine ax_region rfl ?_
            | refine ax_post_blk ?_
            | refine ax_exit ?_
            | refine ax_exit_here ?_
            | refine ax_exit_code ?_
            | refine ax_exit_inv ?_
            | refine ax_q (q_add rfl rfl (by omega)) ?_)
          exact ax_post_inv ⟨(i + 1, e), ⟨hel, by simp only; omega, hem, by simp only; rw [show l.length - (i + 1) = q by omega]; exact hs⟩, by simp only; omega, ⟨rfl, rfl, rfl, rfl, rfl, trivial⟩, rfl⟩
      · repeat (first
          | refine ax_ops_nil ?_
          | refine ax_guard rfl rfl ?_
          | refine ax_post_any ?_
          | refine ax_q (q_loadi_ptr rfl rfl rfl rfl (by first | assumption | omega)) ?_)
        refine ax_any_step (is := [8]) (by kernel_rfl) (by simp) rfl ⟨fun o ho => ?_, trivial⟩
        all_goals (cases ho)
        repeat (first
          | refine ax_ops_nil ?_
          | refine ax_guard rfl rfl ?_
          | refine ax_post_any ?_
          | refine ax_q (q_loadi_ptr rfl rfl rfl rfl (by first | assumption | omega)) ?_)
        refine ax_any_step (is := [14]) (by kernel_rfl) (by simp) rfl ⟨fun o ho => ?_, trivial⟩
        all_goals (cases ho)
        repeat (refine ax_guard rfl rfl ?_)
        refine ax_callv rfl rfl rfl hcm ?_
        repeat (first
          | refine ax_ops_nil ?_
          | refine ax_post_any ?_)
        refine ax_any_qg 15 rfl (by kernel_rfl) (by kernel_rfl) (by kernel_rfl) rfl rfl rfl (q_lss rfl rfl) rfl ?_
        refine ax_any_q 16 rfl (by kernel_rfl) (by kernel_rfl) (by kernel_rfl) rfl (q_pick rfl rfl) rfl ?_
        refine ax_any_done (by kernel_rfl) ?_
        repeat (refine ax_post_code ?_)
        refine ax_cond_dec rfl (fun h2 => ?_) (fun h2 => ?_)
        · rw [down, if_pos (decide_eq_true h2)] at hd
          have hp3 : p < (e.set (p + 1) (e.getD p 0)).length := by simpa using hp2
          repeat (first
            | refine ax_post_code ?_
            | refine ax_seq ?_
            | refine ax_block ?_
            | refine ax_skip ?_)
          refine ax_regiond (by kernel_rfl) ?_
          refine ax_any_q 0 rfl (by kernel_rfl) (by kernel_rfl) (by kernel_rfl) rfl (q_move rfl) rfl ?_
          refine ax_any_q 1 rfl (by kernel_rfl) (by kernel_rfl) (by kernel_rfl) rfl (q_move rfl) rfl ?_
          refine ax_any_q 2 rfl (by kernel_rfl) (by kernel_rfl) (by kernel_rfl) rfl (q_move rfl) rfl ?_
          refine ax_any_q 3 rfl (by kernel_rfl) (by kernel_rfl) (by kernel_rfl) rfl (q_move rfl) rfl ?_
          refine ax_any_q 4 rfl (by kernel_rfl) (by kernel_rfl) (by kernel_rfl) rfl (q_sub rfl rfl (by omega)) rfl ?_
          refine ax_slot_any 41 (.int .i64 (p : Nat)) rfl (AEq.of_eq (by congr 1; omega)) ?_
          refine ax_any_q 5 rfl (by kernel_rfl) (by kernel_rfl) (by kernel_rfl) rfl (q_move rfl) rfl ?_
          refine ax_any_q 6 rfl (by kernel_rfl) (by kernel_rfl) (by kernel_rfl) rfl (q_move rfl) rfl ?_
          refine ax_any_q 7 rfl (by kernel_rfl) (by kernel_rfl) (by kernel_rfl) rfl (q_sub rfl rfl (by omega)) rfl ?_
          refine ax_slot_any 44 (.int .i64 (p : Nat)) rfl (AEq.of_eq (by congr 1; omega)) ?_
          refine ax_any_q 8 rfl (by kernel_rfl) (by kernel_rfl) (by kernel_rfl) rfl (q_index_sl' rfl rfl rfl rfl rfl (by first | (simp only [Nat.zero_add, Int.toNat_natCast, Int.toNat_zero]; exact rfl) | exact rfl) (by omega)) rfl ?_
          refine ax_any_q 10 rfl (by kernel_rfl) (by kernel_rfl) (by kernel_rfl) rfl (q_move rfl) rfl ?_
          refine ax_any_q 11 rfl (by kernel_rfl) (by kernel_rfl) (by kernel_rfl) rfl (q_move rfl) rfl ?_
          refine ax_any_q 12 rfl (by kernel_rfl) (by kernel_rfl) (by kernel_rfl) rfl (q_index_sl' rfl rfl rfl rfl rfl (by first | (simp only [Nat.zero_add, Int.toNat_natCast, Int.toNat_zero]; exact rfl) | exact rfl) (by omega)) rfl ?_
          refine ax_any_step (is := [9, 13]) (by kernel_rfl) (by simp) rfl ⟨fun o ho => ?_, fun o ho => ?_, trivial⟩
          all_goals (cases ho)
          · repeat (first
              | refine ax_ops_nil ?_
              | refine ax_post_any ?_
              | refine ax_q (q_loadi_ptr rfl rfl rfl rfl (by first | assumption | omega)) ?_)
            refine ax_any_step (is := [13]) (by kernel_rfl) (by simp) rfl ⟨fun o ho => ?_, trivial⟩
            all_goals (cases ho)
            repeat (first
              | refine ax_ops_nil ?_
              | refine ax_post_any ?_
              | refine ax_q (q_loadi_ptr rfl rfl rfl rfl (by first | assumption | omega)) ?_)
            refine ax_any_q 14 rfl (by kernel_rfl) (by kernel_rfl) (by kernel_rfl) rfl (q_index_sl' rfl rfl rfl rfl rfl (by first | (simp only [Nat.zero_add, Int.toNat_natCast, Int.toNat_zero]; exact rfl) | exact rfl) (by omega)) rfl ?_
            refine ax_any_step (is := [15]) (by kernel_rfl) (by simp) rfl ⟨fun o ho => ?_, trivial⟩
            all_goals (cases ho)
            repeat (first
              | refine ax_ops_nil ?_
              | refine ax_post_any ?_
              | refine ax_store rfl rfl rfl rfl rfl rfl rfl (by first | assumption | (show _ < List.length _; first | assumption | omega)) ?_)
            refine ax_any_q 16 rfl (by kernel_rfl) (by kernel_rfl) (by kernel_rfl) rfl (q_index_sl' rfl rfl rfl rfl rfl (by first | (simp only [Nat.zero_add, Int.toNat_natCast, Int.toNat_zero]; exact rfl) | exact rfl) (by omega)) rfl ?_
            refine ax_any_step (is := [17]) (by kernel_rfl) (by simp) rfl ⟨fun o ho => ?_, trivial⟩
            all_goals (cases ho)
            repeat (first
              | refine ax_ops_nil ?_
              | refine ax_post_any ?_
              | refine ax_store rfl rfl rfl rfl rfl rfl rfl (by first | assumption | (show _ < List.length _; first | assumption | omega)) ?_)
            refine ax_any_done (by kernel_rfl) ?_
            repeat (first
              | refine ax_q (q_move rfl) ?_
              | refine ax_q (q_assign rfl) ?_
              | refine ax_ops_nil ?_
              | refine ax_post_code ?_
              | refine ax_region rfl ?_
              | refine ax_post_blk ?_
              | refine ax_q (q_sub rfl rfl (by omega)) ?_)
            exact ax_post_inv ⟨(p, swapF e (p + 1) p), ⟨by simp only [swapF_length]; exact hel, by simp only; omega, fun c hc => hem c ((mem_swapF hp1 hp2 c).1 hc), hd⟩, by simp only; omega, ⟨rfl, rfl, rfl, rfl, rfl, by show some (AV.int .i64 (((p + 1 : Nat) : Int) - 1)) = _; congr 2; simp, trivial⟩, rfl⟩
          · repeat (first
              | refine ax_ops_nil ?_
              | refine ax_post_any ?_
              | refine ax_q (q_loadi_ptr rfl rfl rfl rfl (by first | assumption | omega)) ?_)
            refine ax_any_step (is := [9]) (by kernel_rfl) (by simp) rfl ⟨fun o ho => ?_, trivial⟩
            all_goals (cases ho)
            repeat (first
              | refine ax_ops_nil ?_
              | refine ax_post_any ?_
              | refine ax_q (q_loadi_ptr rfl rfl rfl rfl (by first | assumption | omega)) ?_)
            refine ax_any_q 14 rfl (by kernel_rfl) (by kernel_rfl) (by kernel_rfl) rfl (q_index_sl' rfl rfl rfl rfl rfl (by first | (simp only [Nat.zero_add, Int.toNat_natCast, Int.toNat_zero]; exact rfl) | exact rfl) (by omega)) rfl ?_
            refine ax_any_step (is := [15]) (by kernel_rfl) (by simp) rfl ⟨fun o ho => ?_, trivial⟩
            all_goals (cases ho)
            repeat (first
              | refine ax_ops_nil ?_
              | refine ax_post_any ?_
              | refine ax_store rfl rfl rfl rfl rfl rfl rfl (by first | assumption | (show _ < List.length _; first | assumption | omega)) ?_)
            refine ax_any_q 16 rfl (by kernel_rfl) (by kernel_rfl) (by kernel_rfl) rfl (q_index_sl' rfl rfl rfl rfl rfl (by first | (simp only [Nat.zero_add, Int.toNat_natCast, Int.toNat_zero]; exact rfl) | exact rfl) (by omega)) rfl ?_
            refine ax_any_step (is := [17]) (by kernel_rfl) (by simp) rfl ⟨fun o ho => ?_, trivial⟩
            all_goals (cases ho)
            repeat (first
              | refine ax_ops_nil ?_
              | refine ax_post_any ?_
              | refine ax_store rfl rfl rfl rfl rfl rfl rfl (by first | assumption | (show _ < List.length _; first | assumption | omega)) ?_)
            refine ax_any_done (by kernel_rfl) ?_
            repeat (first
              | refine ax_q (q_move rfl) ?_
              | refine ax_q (q_assign rfl) ?_
              | refine ax_ops_nil ?_
              | refine ax_post_code ?_
              | refine ax_region rfl ?_
              | refine ax_post_blk ?_
              | refine ax_q (q_sub rfl rfl (by omega)) ?_)
            exact ax_post_inv ⟨(p, swapF e (p + 1) p), ⟨by simp only [swapF_length]; exact hel, by simp only; omega, fun c hc => hem c ((mem_swapF hp1 hp2 c).1 hc), hd⟩, by simp only; omega, ⟨rfl, rfl, rfl, rfl, rfl, by show some (AV.int .i64 (((p + 1 : Nat) : Int) - 1)) = _; congr 2; simp, trivial⟩, rfl⟩
        · rw [down, if_neg (by simpa using h2)] at hd
          rw [← hd] at hs
          repeat (first
            | refine ax_q (q_move rfl) ?_
            | refine ax_q (q_assign rfl) ?_
            | refine ax_ops_nil ?_
            | refine ax_post_code ?_
            | refine ax_region rfl ?_
            | refine ax_post_blk ?_
            | refine ax_exit ?_
            | refine ax_exit_here ?_
            | refine ax_exit_code ?_
            | refine ax_exit_inv ?_
            | refine ax_q (q_add rfl rfl (by omega)) ?_)
          exact ax_post_inv ⟨(i + 1, e), ⟨hel, by simp only; omega, hem, by simp only; rw [show l.length - (i + 1) = q by omega]; exact hs⟩, by simp only; omega, ⟨rfl, rfl, rfl, rfl, rfl, trivial⟩, rfl⟩
    · refine ax_any_qn 4 rfl (by kernel_rfl) (by kernel_rfl) (by kernel_rfl) rfl rfl rfl rfl rfl ?_
      refine ax_any_qn 5 rfl (by kernel_rfl) (by kernel_rfl) (by kernel_rfl) rfl rfl rfl rfl rfl ?_
      refine ax_any_qn 6 rfl (by kernel_rfl) (by kernel_rfl) (by kernel_rfl) rfl rfl rfl rfl rfl ?_
      refine ax_any_qn 9 rfl (by kernel_rfl) (by kernel_rfl) (by kernel_rfl) rfl rfl rfl rfl rfl ?_
      refine ax_any_qn 10 rfl (by kernel_rfl) (by kernel_rfl) (by kernel_rfl) rfl rfl rfl rfl rfl ?_
      refine ax_any_qn 7 rfl (by kernel_rfl) (by kernel_rfl) (by kernel_rfl) rfl rfl rfl rfl rfl ?_
      refine ax_any_qn 8 rfl (by kernel_rfl) (by kernel_rfl) (by kernel_rfl) rfl rfl rfl rfl rfl ?_
      refine ax_any_qn 11 rfl (by kernel_rfl) (by kernel_rfl) (by kernel_rfl) rfl rfl rfl rfl rfl ?_
      refine ax_any_qn 12 rfl (by kernel_rfl) (by kernel_rfl) (by kernel_rfl) rfl rfl rfl rfl rfl ?_
      refine ax_any_qn 13 rfl (by kernel_rfl) (by kernel_rfl) (by kernel_rfl) rfl rfl rfl rfl rfl ?_
      refine ax_any_qn 14 rfl (by kernel_rfl) (by kernel_rfl) (by kernel_rfl) rfl rfl rfl rfl rfl ?_
      refine ax_any_qn 15 rfl (by kernel_rfl) (by kernel_rfl) (by kernel_rfl) rfl rfl rfl rfl rfl ?_
      have hj0 : j = 0 := by omega
      subst hj0
      rw [down] at hd
      rw [← hd] at hs
      refine ax_any_q 16 rfl (by kernel_rfl) (by kernel_rfl) (by kernel_rfl) rfl (q_pick rfl rfl) rfl ?_
      refine ax_any_done (by kernel_rfl) ?_
      repeat (first
        | refine ax_q (q_move rfl) ?_
        | refine ax_q (q_assign rfl) ?_
        | refine ax_ops_nil ?_
        | refine ax_post_code ?_
        | refine ax_region rfl ?_
        | refine ax_cond_false rfl ?_
        | refine ax_post_blk ?_
        | refine ax_exit ?_
        | refine ax_exit_here ?_
        | refine ax_exit_code ?_
        | refine ax_exit_inv ?_
        | refine ax_q (q_add rfl rfl (by omega)) ?_)
      exact ax_post_inv ⟨(i + 1, e), ⟨hel, by simp only; omega, hem, by simp only; rw [show l.length - (i + 1) = q by omega]; exact hs⟩, by simp only; omega, ⟨rfl, rfl, rfl, rfl, rfl, trivial⟩, rfl⟩
  · have h0 : l.length - i = 0 := by omega
    rw [h0, isort] at hs
    subst hs
    repeat (first
      | refine ax_exit ?_
      | refine ax_exit_here ?_
      | refine ax_exit_code ?_
      | refine ax_exit_inv ?_)
    exact ax_end hR rfl ⟨rfl, rfl⟩
end Go.Proofs.Ytmfhdfofmdggaaa
