import Derived.Test.YtmfhdfofmdggaaaDoorK4
import Derived.Test.YtmfhdfofmdggaaaDoorAxMore5
namespace Go.Proofs.YtmfhdfofmdggaaaDoor
open Go.Ax Go.Ax.Idx Go.Ax.Cd
attribute [local irreducible] Ax Post QOp ACall
set_option maxRecDepth 100000
set_option maxHeartbeats 4000000
set_option linter.unusedSimpArgs false
set_option linter.unusedVariables false

/-- The memory that Deal writes. -/
def handsH (hs : List (List Int)) : AHeap := some ⟨22, .fn hs.length 1 (fun k _ => .sl (k + 1) 0 (hs.getD k []).length)⟩ :: hs.map (fun l => some ⟨3, .ints .i64 l⟩)
theorem handsH_get (hs : List (List Int)) (p : Nat) (hp : p < hs.length) : (handsH hs)[p + 1]? = some (some ⟨3, .ints .i64 (hs.getD p [])⟩) := by
  simp [handsH, List.getD, hp]
theorem handsH_len (hs : List (List Int)) : (handsH hs).length = hs.length + 1 := by simp [handsH]
theorem forgetH_ints (h : Nat) (ls : List (List Int)) : forgetH h (ls.map (fun l => some ⟨3, .ints .i64 l⟩)) = ls.map (fun l => some ⟨3, .ints .i64 l⟩) := by
  induction ls with
  | nil => rfl
  | cons l r ih => simp only [List.map_cons, forgetH, ih]; rfl

theorem handsH_step (hs : List (List Int)) (p : Nat) (c : Int) (hp : p < hs.length) :
    HSub (some ⟨22, .fn hs.length 1 (fun i' j' => bif Nat.beq i' p && Nat.beq j' 0 then AV.sl (p + 1) 0 ((hs.getD p []).length + 1) else (AV.sl (i' + 1) 0 (hs.getD i' []).length).forget (p + 1))⟩ :: (hs.map (fun l => some ⟨3, .ints .i64 l⟩)).set p (some ⟨3, .ints .i64 (hs.getD p [] ++ [c])⟩))
      (handsH (hs.set p (hs.getD p [] ++ [c]))) := by
  have e : (hs.map (fun l => (some ⟨3, .ints .i64 l⟩ : Option AObj))).set p (some ⟨3, .ints .i64 (hs.getD p [] ++ [c])⟩) = (hs.set p (hs.getD p [] ++ [c])).map (fun l => some ⟨3, .ints .i64 l⟩) := by rw [List.map_set]
  rw [e]
  refine HSub.eqv ⟨by simp [Cells.len], rfl, fun i j hi hj => ?_⟩ (HSub.refl _)
  simp only [Cells.len, Cells.sz] at hi hj
  obtain rfl : j = 0 := by omega
  simp only [Cells.at]
  by_cases h : i = p
  · subst h; simp [List.getD, hp]
  · have h2 : ¬ p = i := fun e => h e.symm
    have h3 : ¬ i + 1 = p + 1 := by omega
    simp only [beq_ne h, Bool.false_and, cond_false, AV.forget, beq_ne h3]
    simp [List.getD, List.getElem?_set_ne h2]
def dealE (l : List Int) (P each : Int) : Int := if deckF l ≠ 0 then deckF l else if (P < 1 ∨ 52 < P) ∨ each < 0 ∨ 52 < each then 4 else if (l.length : Int) < P * each then 8 else 0

theorem Deal_ok (l : List Int) (P each : Nat) (hl : l.length ≤ 9223372036854775807) (hd : deckF l = 0) (hP : 1 ≤ P ∧ P ≤ 52) (he : each ≤ 52) (hn : P * each ≤ l.length) :
    VCall Tryd.prog 21 [.ro (.ints .i64 l) 0 l.length, .int .i64 P, .int .i64 each]
      (.tup [.ro (rowsI (dealGo P l (P * each))) 0 P, .ro (.ints .i64 (l.drop (P * each))) 0 (l.length - P * each), .int .i64 0]) := by
  have hlen := deckF_len hd
  refine ACall.value (K := fun r H => r = .tup [.sl 0 0 P, .sl (P + 1) 0 (l.length - P * each), .int .i64 0] ∧ H = some ⟨22, rowsI (dealGo P l (P * each))⟩ :: (List.replicate P none ++ [some ⟨3, .ints .i64 (l.drop (P * each))⟩])) (acall_of_ax0 (P := Tryd.prog) (fn := Tryd.f21) rfl rfl (by kernel_rfl) rfl (fun c hR hfix hO => ?_)) (fix := fun _ => False) (fun _ h => h) rfl ?_
  · repeat (first
      | refine ax_q (q_move rfl) ?_
      | refine ax_q (q_assign rfl) ?_
      | refine ax_ops_nil ?_
      | refine ax_post_code ?_
      | refine ax_seq ?_
      | refine ax_region rfl ?_)
    refine ax_callv rfl rfl rfl (check l hl) ?_
    rw [hd]
    repeat (first
      | refine ax_q (q_move rfl) ?_
      | refine ax_q (q_assign rfl) ?_
      | refine ax_ops_nil ?_
      | refine ax_post_code ?_
      | refine ax_seq ?_
      | refine ax_region rfl ?_
      | refine ax_cond_false rfl ?_
      | refine ax_skip ?_
      | refine ax_q (q_lss rfl rfl) ?_
      | refine ax_q (q_neq rfl rfl) ?_)
    have hpe : (P : Int) * each = ((P * each : Nat) : Int) := by simp
    refine ax_gsplit rfl rfl (fun h => absurd h (by omega)) (fun h => ?_)
    repeat (first
      | refine ax_q (q_move rfl) ?_
      | refine ax_guard rfl rfl ?_
      | refine ax_q (q_gtr rfl rfl) ?_
      | refine ax_q (q_pick rfl rfl) ?_)
    refine ax_gsplit rfl rfl (fun h => absurd h (by omega)) (fun h => ?_)
    repeat (first
      | refine ax_q (q_move rfl) ?_
      | refine ax_ops_nil ?_
      | refine ax_post_code ?_
      | refine ax_guard rfl rfl ?_
      | refine ax_q (q_lss rfl rfl) ?_
      | refine ax_q (q_gtr rfl rfl) ?_
      | refine ax_q (q_pick rfl rfl) ?_)
    refine ax_cond_dec rfl (fun h => absurd h (by omega)) (fun h => ?_)
    repeat (first
      | refine ax_q (q_move rfl) ?_
      | refine ax_post_code ?_
      | refine ax_seq ?_
      | refine ax_region rfl ?_
      | refine ax_skip ?_)
    refine ax_q (q_mul rfl rfl (by rw [hpe]; omega)) ?_
    repeat (first
      | refine ax_q (q_move rfl) ?_
      | refine ax_q (q_assign rfl) ?_
      | refine ax_ops_nil ?_
      | refine ax_post_code ?_
      | refine ax_seq ?_
      | refine ax_region rfl ?_
      | refine ax_q (q_gtr rfl rfl) ?_
      | refine ax_q (q_len rfl rfl rfl) ?_)
    refine ax_slot 10 (.int .i64 ((P * each : Nat) : Int)) rfl (AEq.of_eq (by rw [hpe])) ?_
    skip
    refine ax_cond_dec rfl (fun h => absurd h (by omega)) (fun h => ?_)
    repeat (first
      | refine ax_q (q_move rfl) ?_
      | refine ax_post_code ?_
      | refine ax_seq ?_
      | refine ax_region rfl ?_
      | refine ax_skip ?_)
    refine ax_make rfl rfl rfl rfl rfl rfl rfl rfl (by show 0 ≤ _ ∧ _ ≤ _ ∧ (24 : Int) * _ ≤ _ ∧ _; omega) ?_
    repeat (first
      | refine ax_q (q_assign rfl) ?_
      | refine ax_ops_nil ?_
      | refine ax_post_code ?_)
    refine ax_nilrow 0 P ⟨3, .ints .i64 []⟩ rfl (fun k _ => rfl) rfl ?_
    refine ax_heap_eq (handsH (List.replicate P [])) ?_ ?_
    · simp [handsH]
      funext k j
      have : ((List.replicate P ([] : List Int))[k]?.getD []) = [] := by rw [List.getElem?_replicate]; split <;> rfl
      rw [this, Nat.add_comm]; rfl
    repeat (first
      | refine ax_q (q_move rfl) ?_
      | refine ax_ops_nil ?_
      | refine ax_post_code ?_
      | refine ax_seq ?_
      | refine ax_region rfl ?_
      | refine ax_block ?_
      | refine ax_q (q_len rfl rfl rfl) ?_
      | refine ax_q (q_slice_ro rfl rfl rfl rfl rfl rfl rfl (by omega)) ?_)
    refine ax_loop (ι := Nat) (fun m => [(0, .ro (.ints .i64 l) 0 l.length), (1, .int .i64 P), (10, .int .i64 ((P * each : Nat) : Int)), (11, .sl 0 0 P), (44, .ro (.ints .i64 l) 0 (P * each)), (45, .int .i64 ((P * each : Nat) : Int)), (46, .int .i64 (m : Nat))]) (fun m => handsH (dealGo P l m))
      (fun m => m ≤ P * each) (fun m => P * each - m) 0 ⟨⟨rfl, rfl, rfl, rfl, rfl, rfl, rfl, trivial⟩, rfl, Nat.zero_le _⟩ ?_
    intro m hm
    have hpl0 := dealGo_length P l m
    have hsm := dealGo_small P l m (m % P)
    repeat (first
      | refine ax_ops_nil ?_
      | refine ax_post_code ?_
      | refine ax_seq ?_
      | refine ax_region rfl ?_
      | refine ax_q (q_lss rfl rfl) ?_)
    refine ax_cond_dec rfl (fun h1 => ?_) (fun h1 => ?_)
    · have hm' : m < P * each := by omega
      have hpl : m % P < (dealGo P l m).length := by rw [hpl0]; exact Nat.mod_lt _ (by omega)
      have hstep : dealGo P l (m + 1) = (dealGo P l m).set (m % P) ((dealGo P l m).getD (m % P) [] ++ [l.getD m 0]) := rfl
      have hmod : (m : Int) % (P : Int) = ((m % P : Nat) : Int) := by simp
      generalize dealGo P l m = hs at *
      generalize hpe : m % P = p at *
      have hpP : p < P := by omega
      repeat (first
        | refine ax_q (q_move rfl) ?_
        | refine ax_q (q_assign rfl) ?_
        | refine ax_q (q_loadi_rp rfl rfl rfl) ?_
        | refine ax_ops_nil ?_
        | refine ax_post_code ?_
        | refine ax_seq ?_
        | refine ax_region rfl ?_
        | refine ax_block ?_
        | refine ax_skip ?_
        | refine ax_q (q_index_ro' rfl rfl rfl rfl (by first | (simp only [Nat.zero_add, Int.toNat_natCast, Int.toNat_zero]; exact rfl) | exact rfl) (by omega)) ?_)
      refine ax_regiond (by kernel_rfl) ?_
      refine ax_any_q 0 rfl (by kernel_rfl) (by kernel_rfl) (by kernel_rfl) rfl (q_move rfl) rfl ?_
      refine ax_any_q 1 rfl (by kernel_rfl) (by kernel_rfl) (by kernel_rfl) rfl (q_move rfl) rfl ?_
      refine ax_any_q 2 rfl (by kernel_rfl) (by kernel_rfl) (by kernel_rfl) rfl (q_move rfl) rfl ?_
      refine ax_any_q 3 rfl (by kernel_rfl) (by kernel_rfl) (by kernel_rfl) rfl (q_rem rfl rfl (by omega)) rfl ?_
      refine ax_slot_any 54 (.int .i64 p) rfl (AEq.of_eq (by rw [hmod])) ?_
      refine ax_any_q 4 rfl (by kernel_rfl) (by kernel_rfl) (by kernel_rfl) rfl (q_move rfl) rfl ?_
      refine ax_any_q 5 rfl (by kernel_rfl) (by kernel_rfl) (by kernel_rfl) rfl (q_move rfl) rfl ?_
      refine ax_any_q 6 rfl (by kernel_rfl) (by kernel_rfl) (by kernel_rfl) rfl (q_move rfl) rfl ?_
      refine ax_any_q 7 rfl (by kernel_rfl) (by kernel_rfl) (by kernel_rfl) rfl (q_rem rfl rfl (by omega)) rfl ?_
      refine ax_slot_any 58 (.int .i64 p) rfl (AEq.of_eq (by rw [hmod])) ?_
      refine ax_any_q 8 rfl (by kernel_rfl) (by kernel_rfl) (by kernel_rfl) rfl (q_index_sl' rfl rfl rfl rfl rfl (by first | (simp only [Nat.zero_add, Int.toNat_natCast, Int.toNat_zero]; exact rfl) | exact rfl) (by omega)) rfl ?_
      refine ax_any_q 10 rfl (by kernel_rfl) (by kernel_rfl) (by kernel_rfl) rfl (q_move rfl) rfl ?_
      refine ax_any_step (is := [9, 11]) (by kernel_rfl) (by simp) rfl ⟨fun o ho => ?_, fun o ho => ?_, trivial⟩
      all_goals (cases ho)
      · repeat (first
          | refine ax_ops_nil ?_
          | refine ax_post_any ?_
          | refine ax_q (q_loadf_ptr rfl rfl rfl rfl rfl (by first | assumption | omega)) ?_)
        refine ax_any_step (is := [11]) (by kernel_rfl) (by simp) rfl ⟨fun o ho => ?_, trivial⟩
        all_goals (cases ho)
        repeat (first
          | refine ax_ops_nil ?_
          | refine ax_post_any ?_
          | refine ax_buildSliceRo rfl rfl rfl rfl rfl rfl rfl rfl rfl rfl rfl ?_)
        refine ax_any_step (is := [12]) (by kernel_rfl) (by simp) rfl ⟨fun o ho => ?_, trivial⟩
        all_goals (cases ho)
        refine ax_append rfl rfl rfl rfl rfl rfl rfl (handsH_get hs p hpl) rfl rfl rfl rfl (by show 0 + 1 ≤ 1; omega) rfl (by show ((hs.getD p []).length + 1) * 8 ≤ _ ∧ _; omega) (fun i j _ _ => rfl) (by rw [hfix]; exact fun h => h) ?_
        repeat (first
          | refine ax_ops_nil ?_
          | refine ax_post_any ?_)
        refine ax_any_q 13 rfl (by kernel_rfl) (by kernel_rfl) (by kernel_rfl) rfl (q_index_sl' rfl rfl rfl rfl rfl (by first | (simp only [Nat.zero_add, Int.toNat_natCast, Int.toNat_zero]; exact rfl) | exact rfl) (by omega)) rfl ?_
        refine ax_any_step (is := [14]) (by kernel_rfl) (by simp) rfl ⟨fun o ho => ?_, trivial⟩
        all_goals (cases ho)
        refine ax_store rfl rfl rfl rfl rfl rfl rfl (by show p < hs.length; exact hpl) ?_
        repeat (first
          | refine ax_ops_nil ?_
          | refine ax_post_any ?_)
        refine ax_heap_any (handsH (hs.set p (hs.getD p [] ++ [l.getD m 0]))) ?_ ?_
        · have := handsH_step hs p (l.getD m 0) hpl
          rw [← forgetH_ints (p + 1) hs] at this
          exact this
        refine ax_any_done (by kernel_rfl) ?_
        repeat (first
          | refine ax_q (q_move rfl) ?_
          | refine ax_ops_nil ?_
          | refine ax_post_code ?_
          | refine ax_region rfl ?_
          | refine ax_post_blk ?_
          | refine ax_q (q_add rfl rfl (by omega)) ?_)
        exact ax_post_inv ⟨m + 1, by omega, by omega, ⟨rfl, rfl, rfl, rfl, rfl, rfl, rfl, trivial⟩, by rw [hstep]⟩
      · repeat (first
          | refine ax_ops_nil ?_
          | refine ax_post_any ?_
          | refine ax_buildSliceRo rfl rfl rfl rfl rfl rfl rfl rfl rfl rfl rfl ?_)
        refine ax_any_step (is := [9]) (by kernel_rfl) (by simp) rfl ⟨fun o ho => ?_, trivial⟩
        all_goals (cases ho)
        repeat (first
          | refine ax_ops_nil ?_
          | refine ax_post_any ?_
          | refine ax_q (q_loadf_ptr rfl rfl rfl rfl rfl (by first | assumption | omega)) ?_)
        refine ax_any_step (is := [12]) (by kernel_rfl) (by simp) rfl ⟨fun o ho => ?_, trivial⟩
        all_goals (cases ho)
        refine ax_append rfl rfl rfl rfl rfl rfl rfl (handsH_get hs p hpl) rfl rfl rfl rfl (by show 0 + 1 ≤ 1; omega) rfl (by show ((hs.getD p []).length + 1) * 8 ≤ _ ∧ _; omega) (fun i j _ _ => rfl) (by rw [hfix]; exact fun h => h) ?_
        repeat (first
          | refine ax_ops_nil ?_
          | refine ax_post_any ?_)
        refine ax_any_q 13 rfl (by kernel_rfl) (by kernel_rfl) (by kernel_rfl) rfl (q_index_sl' rfl rfl rfl rfl rfl (by first | (simp only [Nat.zero_add, Int.toNat_natCast, Int.toNat_zero]; exact rfl) | exact rfl) (by omega)) rfl ?_
        refine ax_any_step (is := [14]) (by kernel_rfl) (by simp) rfl ⟨fun o ho => ?_, trivial⟩
        all_goals (cases ho)
        refine ax_store rfl rfl rfl rfl rfl rfl rfl (by show p < hs.length; exact hpl) ?_
        repeat (first
          | refine ax_ops_nil ?_
          | refine ax_post_any ?_)
        refine ax_heap_any (handsH (hs.set p (hs.getD p [] ++ [l.getD m 0]))) ?_ ?_
        · have := handsH_step hs p (l.getD m 0) hpl
          rw [← forgetH_ints (p + 1) hs] at this
          exact this
        refine ax_any_done (by kernel_rfl) ?_
        repeat (first
          | refine ax_q (q_move rfl) ?_
          | refine ax_ops_nil ?_
          | refine ax_post_code ?_
          | refine ax_region rfl ?_
          | refine ax_post_blk ?_
          | refine ax_q (q_add rfl rfl (by omega)) ?_)
        exact ax_post_inv ⟨m + 1, by omega, by omega, ⟨rfl, rfl, rfl, rfl, rfl, rfl, rfl, trivial⟩, by rw [hstep]⟩
    · have hm' : m = P * each := by omega
      subst hm'
      have hdl : (l.drop (P * each)).length = l.length - P * each := by simp
      generalize hhs : dealGo P l (P * each) = hs at *
      have hhl : hs.length = P := hpl0
      refine ax_freeze (none :: hs.map (fun l => some ⟨3, .ints .i64 l⟩)) (some ⟨22, rowsI hs⟩ :: List.replicate P none) [(0, .ro (.ints .i64 l) 0 l.length), (10, .int .i64 ((P * each : Nat) : Int)), (11, .sl 0 0 P)] ?_ ?_ ?_ ?_ ⟨⟨_, rfl, .inl rfl⟩, ⟨_, rfl, .inl rfl⟩, ⟨_, rfl, .inl rfl⟩, trivial⟩ ?_
      · intro h o ho
        cases h with
        | zero => simp at ho
        | succ h => exact ho
      · intro h o ho
        cases h with
        | zero => simp at ho
        | succ h =>
          simp only [List.getElem?_cons_succ, List.getElem?_map, Option.map_eq_some_iff] at ho
          obtain ⟨x, _, h2⟩ := ho
          cases h2
          exact refless_ints
      · simp [handsH, hhl]
      · intro h o' ho'
        cases h with
        | succ h =>
          simp only [List.getElem?_cons_succ, List.getElem?_replicate] at ho'
          split at ho' <;> cases ho'
        | zero =>
          simp only [List.getElem?_cons_zero, Option.some.injEq] at ho'
          subst ho'
          refine ⟨fun o h => by simp at h, _, rfl, rfl, rfl, rfl, fun i j hi hj => .inr (.inr ⟨?_, ?_⟩)⟩
          · simp only [Cells.len] at hi
            simp [rowsI, Cells.at, AV.frz, List.getD, hi]
          · intro o ho
            simp only [Cells.len] at hi
            simp [List.getD, hi] at ho
            subst ho
            simp [Cells.len, List.getD, hi]
      repeat (first
        | refine ax_q (q_move rfl) ?_
        | refine ax_post_code ?_
        | refine ax_seq ?_
        | refine ax_region rfl ?_
        | refine ax_exit ?_
        | refine ax_exit_here ?_
        | refine ax_exit_code ?_
        | refine ax_exit_inv ?_
        | refine ax_q (q_slice_ro rfl rfl rfl rfl rfl rfl rfl (by omega)) ?_)
      refine ax_slot_ops 69 (.ro (.ints .i64 (l.drop (P * each))) 0 (l.drop (P * each)).length) rfl ?_ ?_
      · rw [show 0 + ((P * each : Nat) : Int).toNat = P * each by omega, show ((l.length : Int) - ((P * each : Nat) : Int)).toNat = (l.drop (P * each)).length by omega]
        exact AEq.drop
      refine ax_callf rfl rfl rfl (clone (l.drop (P * each)) (by omega)) ?_
      repeat (first
        | refine ax_q (q_assign rfl) ?_
        | refine ax_ops_nil ?_
        | refine ax_post_code ?_
        | refine ax_return ?_)
      refine ax_ret hR rfl ⟨?_, rfl⟩
      show AV.tup [.sl 0 0 P, .sl (some (⟨22, rowsI hs⟩ : AObj) :: List.replicate P none).length 0 (l.drop (P * each)).length, .int .i64 0] = _
      rw [hdl]; simp
  · rintro r H ⟨rfl, rfl⟩
    have hg : (some ⟨22, rowsI (dealGo P l (P * each))⟩ :: (List.replicate P none ++ [some ⟨3, .ints .i64 (l.drop (P * each))⟩]) : AHeap)[P + 1]? = some (some ⟨3, .ints .i64 (l.drop (P * each))⟩) := by
      simp
    refine ⟨?_, ⟨?_, ?_, trivial, trivial⟩, fun h o ho => ?_⟩
    · show AV.tup [_, _, _] = _
      simp only [AV.frz, hg]
      rfl
    · intro o ho
      simp at ho; subst ho
      show 0 + P ≤ (dealGo P l (P * each)).length
      rw [dealGo_length]; omega
    · intro o ho
      rw [hg] at ho
      simp at ho; subst ho
      show 0 + (l.length - P * each) ≤ (l.drop (P * each)).length
      simp
    · cases h with
      | zero => simp at ho; subst ho; intro i j _ _; rfl
      | succ h =>
        simp only [List.getElem?_cons_succ, List.getElem?_append, List.length_replicate, List.getElem?_replicate] at ho
        split at ho
        · simp at ho
        · have : h - P = 0 := by
            rcases Nat.eq_zero_or_pos (h - P) with h0 | h0
            · exact h0
            · rw [List.getElem?_eq_none (by simp; omega)] at ho; cases ho
          rw [this] at ho
          simp at ho; subst ho
          exact refless_ints
end Go.Proofs.YtmfhdfofmdggaaaDoor
