import Derived.Test.YtmfhdfofmdggaaaDoorK7
namespace Go.Proofs.YtmfhdfofmdggaaaDoor
open Go.Ax Go.Ax.Idx Go.Ax.Cd
attribute [local irreducible] Ax Post QOp ACall
set_option maxRecDepth 100000
set_option maxHeartbeats 4000000
set_option linter.unusedSimpArgs false
set_option linter.unusedVariables false

theorem Text_no (l : List Int) (hl : l.length ≤ 9223372036854775807) {e : Int} (he : deckF l = e) (h : e ≠ 0) : VCall Tryd.prog 22 [.ro (.ints .i64 l) 0 l.length] (.tup [.str [], .int .i64 e]) := by
  refine ACall.value0 (acall_of_ax (P := Tryd.prog) (fn := Tryd.f22) rfl rfl (by kernel_rfl) rfl (fun c hR hfix => ?_)) (fix := fun _ => False) (fun _ h => h) rfl rfl
  repeat (first
    | refine ax_q (q_move rfl) ?_
    | refine ax_q (q_assign rfl) ?_
    | refine ax_ops_nil ?_
    | refine ax_post_code ?_
    | refine ax_seq ?_
    | refine ax_region rfl ?_)
  refine ax_callv rfl rfl rfl (check l hl) ?_
  rw [he]
  repeat (first
    | refine ax_q (q_move rfl) ?_
    | refine ax_q (q_assign rfl) ?_
    | refine ax_ops_nil ?_
    | refine ax_post_code ?_
    | refine ax_seq ?_
    | refine ax_region rfl ?_
    | refine ax_q (q_neq rfl rfl) ?_)
  refine ax_cond_dec rfl (fun h2 => ?_) (fun h2 => absurd h h2)
  repeat (first
    | refine ax_q (q_move rfl) ?_
    | refine ax_q (q_assign rfl) ?_
    | refine ax_ops_nil ?_
    | refine ax_post_code ?_
    | refine ax_seq ?_
    | refine ax_region rfl ?_
    | refine ax_return ?_
    | refine ax_ret_code ?_)
  exact ax_ret hR rfl rfl
theorem Text_ok (l : List Int) (hd : deckF l = 0) : VCall Tryd.prog 22 [.ro (.ints .i64 l) 0 l.length] (.tup [.str (textF l), .int .i64 0]) := by
  have hlen := deckF_len hd
  have hmem := deckF_mem hd
  refine ACall.value (K := fun r H => r = .tup [.str (textF l), .int .i64 0] ∧ H = [some ⟨9, .strs (l.map cardT)⟩]) (acall_of_ax (P := Tryd.prog) (fn := Tryd.f22) rfl rfl (by kernel_rfl) rfl (fun c hR hfix => ?_)) (fix := fun _ => False) (fun _ h => h) rfl ?_
  · repeat (first
      | refine ax_q (q_move rfl) ?_
      | refine ax_q (q_assign rfl) ?_
      | refine ax_ops_nil ?_
      | refine ax_post_code ?_
      | refine ax_seq ?_
      | refine ax_region rfl ?_)
    refine ax_callv rfl rfl rfl (check l (by omega)) ?_
    rw [hd]
    repeat (first
      | refine ax_q (q_move rfl) ?_
      | refine ax_q (q_assign rfl) ?_
      | refine ax_ops_nil ?_
      | refine ax_post_code ?_
      | refine ax_seq ?_
      | refine ax_region rfl ?_
      | refine ax_cond_false rfl ?_
      | refine ax_skip ?_
      | refine ax_q (q_neq rfl rfl) ?_
      | refine ax_q (q_len rfl rfl rfl) ?_)
    refine ax_nilobj 5 ⟨9, .strs []⟩ rfl rfl ?_
    repeat (refine ax_block ?_)
    refine ax_loop (ι := Nat) (fun k => [(5, .sl 0 0 k), (13, .ro (.ints .i64 l) 0 l.length), (14, .int .i64 (l.length : Nat)), (15, .int .i64 (k : Nat))]) (fun k => [some ⟨9, .strs ((l.take k).map cardT)⟩])
      (fun k => k ≤ l.length) (fun k => l.length - k) 0 ⟨⟨rfl, rfl, rfl, rfl, trivial⟩, rfl, Nat.zero_le _⟩ ?_
    intro k hk
    repeat (first
      | refine ax_ops_nil ?_
      | refine ax_post_code ?_
      | refine ax_seq ?_
      | refine ax_region rfl ?_
      | refine ax_q (q_lss rfl rfl) ?_)
    refine ax_cond_dec rfl (fun h1 => ?_) (fun h1 => ?_)
    · have hk' : k < l.length := by omega
      have hx := hmem _ (getD_mem 0 hk')
      have hts := take_succ_getD l 0 k hk'
      have htl : ((l.take k).map cardT).length = k := by simp; omega
      have hc1 := drop_take1 rankL (l.getD k 0 % 13).toNat (l.getD k 0 % 13 + 1).toNat (by show _ < 13; omega) (by omega)
      have hc2 := drop_take1 suitL (l.getD k 0 / 13).toNat (l.getD k 0 / 13 + 1).toNat (by show _ < 4; omega) (by omega)
      repeat (first
        | refine ax_q (q_assign rfl) ?_
        | refine ax_q (q_loadi_rp rfl rfl rfl) ?_
        | refine ax_ops_nil ?_
        | refine ax_post_code ?_
        | refine ax_seq ?_
        | refine ax_region rfl ?_
        | refine ax_block ?_
        | refine ax_skip ?_
        | refine ax_q (q_index_ro' rfl rfl rfl rfl (by first | (simp only [Nat.zero_add, Int.toNat_natCast, Int.toNat_zero]; exact rfl) | exact rfl) (by omega)) ?_)
      generalize hcc : l.getD k 0 = x at *
      refine ax_regiond (by kernel_rfl) ?_
      refine ax_any_q 0 rfl (by kernel_rfl) (by kernel_rfl) (by kernel_rfl) rfl (q_move rfl) rfl ?_
      refine ax_any_q 1 rfl (by kernel_rfl) (by kernel_rfl) (by kernel_rfl) rfl (q_move rfl) rfl ?_
      refine ax_any_q 2 rfl (by kernel_rfl) (by kernel_rfl) (by kernel_rfl) rfl (q_rem rfl rfl (by omega)) rfl ?_
      refine ax_any_q 3 rfl (by kernel_rfl) (by kernel_rfl) (by kernel_rfl) rfl (q_move rfl) rfl ?_
      refine ax_any_q 4 rfl (by kernel_rfl) (by kernel_rfl) (by kernel_rfl) rfl (q_rem rfl rfl (by omega)) rfl ?_
      refine ax_any_q 5 rfl (by kernel_rfl) (by kernel_rfl) (by kernel_rfl) rfl (q_add rfl rfl (by omega)) rfl ?_
      refine ax_any_q 6 rfl (by kernel_rfl) (by kernel_rfl) (by kernel_rfl) rfl (q_strslice rfl rfl rfl rfl rfl rfl (by show 0 ≤ _ ∧ _ ≤ _ ∧ _ ≤ (13 : Int); omega)) rfl ?_
      refine ax_slot_any 25 (.str [rankL.getD (x % 13).toNat 0]) rfl (AEq.of_eq (congrArg AV.str hc1)) ?_
      refine ax_any_q 7 rfl (by kernel_rfl) (by kernel_rfl) (by kernel_rfl) rfl (q_move rfl) rfl ?_
      refine ax_any_q 8 rfl (by kernel_rfl) (by kernel_rfl) (by kernel_rfl) rfl (q_quo rfl rfl (by omega)) rfl ?_
      refine ax_any_q 9 rfl (by kernel_rfl) (by kernel_rfl) (by kernel_rfl) rfl (q_move rfl) rfl ?_
      refine ax_any_q 10 rfl (by kernel_rfl) (by kernel_rfl) (by kernel_rfl) rfl (q_quo rfl rfl (by omega)) rfl ?_
      refine ax_any_q 11 rfl (by kernel_rfl) (by kernel_rfl) (by kernel_rfl) rfl (q_add rfl rfl (by omega)) rfl ?_
      refine ax_any_q 12 rfl (by kernel_rfl) (by kernel_rfl) (by kernel_rfl) rfl (q_strslice rfl rfl rfl rfl rfl rfl (by show 0 ≤ _ ∧ _ ≤ _ ∧ _ ≤ (4 : Int); omega)) rfl ?_
      refine ax_slot_any 31 (.str [suitL.getD (x / 13).toNat 0]) rfl (AEq.of_eq (congrArg AV.str hc2)) ?_
      refine ax_any_q 13 rfl (by kernel_rfl) (by kernel_rfl) (by kernel_rfl) rfl (q_concat rfl rfl (by simp)) rfl ?_
      refine ax_any_step (is := [14]) (by kernel_rfl) (by simp) rfl ⟨fun o ho => ?_, trivial⟩
      all_goals (cases ho)
      repeat (first
        | refine ax_ops_nil ?_
        | refine ax_post_any ?_
        | refine ax_buildSliceRo rfl rfl rfl rfl rfl rfl rfl rfl rfl rfl rfl ?_)
      refine ax_any_step (is := [15]) (by kernel_rfl) (by simp) rfl ⟨fun o ho => ?_, trivial⟩
      all_goals (cases ho)
      refine ax_append rfl rfl rfl rfl rfl rfl rfl rfl rfl htl rfl rfl (by show 0 + 1 ≤ 1; omega) rfl (by show (k + 1) * 16 ≤ _ ∧ _; omega) (fun i j _ _ => rfl) (by rw [hfix]; exact fun h => h) ?_
      repeat (first
        | refine ax_ops_nil ?_
        | refine ax_post_any ?_)
      refine ax_any_q 16 rfl (by kernel_rfl) (by kernel_rfl) (by kernel_rfl) rfl (q_assign rfl) rfl ?_
      refine ax_any_done (by kernel_rfl) ?_
      repeat (first
        | refine ax_q (q_move rfl) ?_
        | refine ax_ops_nil ?_
        | refine ax_post_code ?_
        | refine ax_region rfl ?_
        | refine ax_post_blk ?_
        | refine ax_q (q_add rfl rfl (by omega)) ?_)
      refine ax_post_inv ⟨k + 1, by omega, by omega, ⟨rfl, rfl, rfl, rfl, trivial⟩, ?_⟩
      rw [hts, List.map_append]
      rfl
    · have hk' : k = l.length := by omega
      subst hk'
      simp only [List.take_length] at *
      repeat (first
        | refine ax_q (q_move rfl) ?_
        | refine ax_post_code ?_
        | refine ax_seq ?_
        | refine ax_region rfl ?_
        | refine ax_exit ?_
        | refine ax_exit_here ?_
        | refine ax_exit_code ?_
        | refine ax_exit_inv ?_)
      have hj := join (l.map cardT) [32] (by simp; omega) (by have := textF_len l; unfold textF at this; omega)
      rw [List.length_map] at hj
      refine ax_calll rfl rfl rfl rfl hj (fun h o ho => refl1 refless_strs h o ho) (by simp [inBs, inB, Cells.len]) rfl rfl rfl ?_
      repeat (first
        | refine ax_q (q_assign rfl) ?_
        | refine ax_ops_nil ?_
        | refine ax_post_code ?_
        | refine ax_return ?_)
      exact ax_ret hR rfl ⟨rfl, rfl⟩
  · rintro r H ⟨rfl, rfl⟩
    exact ⟨rfl, ⟨trivial, trivial, trivial⟩, fun h o ho => refl1 refless_strs h o ho⟩

/-- What Read hands back. -/
def ReadR (s : List UInt8) (r : AV) (H : AHeap) : Prop :=
  (readE s ≠ 0 ∧ r = .tup [.nil, .int .i64 (readE s)] ∧ ∀ (h : Nat) (o : AObj), H[h]? = some (some o) → refless o.c) ∨
  (readE s = 0 ∧ ∃ out, readO s = some out ∧ ((s ≠ [] ∧ r = .tup [.sl 0 0 out.length, .int .i64 0] ∧ H = [some ⟨3, .ints .i64 out⟩]) ∨ (s = [] ∧ r = .tup [.nil, .int .i64 0] ∧ H = [])))
theorem Read_walk (s : List UInt8) (hs : s.length ≤ 9223372036854775807) : ACall Tryd.prog 23 [.str s] [] (fun _ => False) (ReadR s) := by
  refine acall_of_ax (P := Tryd.prog) (fn := Tryd.f23) rfl rfl (by kernel_rfl) rfl (fun c hR hfix => ?_)
  have hnone : ∀ (h : Nat) (o : AObj), ([] : AHeap)[h]? = some (some o) → refless o.c := fun h o ho => by simp at ho
  repeat (first
    | refine ax_q (q_move rfl) ?_
    | refine ax_q (q_assign rfl) ?_
    | refine ax_ops_nil ?_
    | refine ax_post_code ?_
    | refine ax_seq ?_
    | refine ax_region rfl ?_
    | refine ax_q (q_gtr rfl rfl) ?_
    | refine ax_q (q_lenstr rfl rfl) ?_)
  refine ax_cond_dec rfl (fun h => ?_) (fun h => ?_)
  · repeat (first
      | refine ax_q (q_assign rfl) ?_
      | refine ax_ops_nil ?_
      | refine ax_post_code ?_
      | refine ax_seq ?_
      | refine ax_region rfl ?_
      | refine ax_return ?_
      | refine ax_ret_code ?_)
    have h' : 8192 < s.length := by omega
    have he : readE s = 2 := if_pos h'
    refine ax_ret hR rfl (.inl ⟨by omega, ?_, hnone⟩)
    rw [he]; rfl
  have hs2 : ¬ 8192 < s.length := by omega
  have hE : readE s = match readO s with
    | none => 5
    | some out => deckF out := by unfold readE; rw [if_neg hs2]; cases readO s <;> rfl
  repeat (first
    | refine ax_q (q_move rfl) ?_
    | refine ax_q (q_assign rfl) ?_
    | refine ax_ops_nil ?_
    | refine ax_post_code ?_
    | refine ax_seq ?_
    | refine ax_region rfl ?_
    | refine ax_skip ?_
    | refine ax_q (q_strneq rfl rfl) ?_)
  refine ax_cond_dec rfl (fun h0 => ?_) (fun h0 => ?_)
  rotate_left
  · have hs0 : s = [] := by
      by_cases hq : s = []
      · exact hq
      · exact absurd hq h0
    subst hs0
    have h5 : readE [] = 0 := by rw [hE]; rfl
    repeat (first
      | refine ax_q (q_move rfl) ?_
      | refine ax_post_code ?_
      | refine ax_seq ?_
      | refine ax_region rfl ?_
      | refine ax_skip ?_)
    refine ax_slot_ops 45 (.ro (.ints .i64 []) 0 0) rfl AEq.nil ?_
    refine ax_callv rfl rfl rfl (check [] (by simp)) ?_
    repeat (first
      | refine ax_q (q_move rfl) ?_
      | refine ax_q (q_assign rfl) ?_
      | refine ax_ops_nil ?_
      | refine ax_post_code ?_
      | refine ax_seq ?_
      | refine ax_region rfl ?_
      | refine ax_cond_false rfl ?_
      | refine ax_skip ?_
      | refine ax_return ?_
      | refine ax_q (q_neq rfl rfl) ?_)
    exact ax_ret hR rfl (.inr ⟨h5, [], rfl, .inr ⟨rfl, rfl, rfl⟩⟩)
  have hs0 : s ≠ [] := h0
  have hO : readO s = readGo [] (splitF 32 s) := by unfold readO; rw [if_neg hs0]
  refine ax_nilobj 4 ⟨3, .ints .i64 []⟩ rfl rfl ?_
  repeat (first
    | refine ax_q (q_move rfl) ?_
    | refine ax_seq ?_
    | refine ax_region rfl ?_)
  refine ax_callv rfl rfl rfl (split1 s 32 (by omega)) ?_
  have hwl := splitF_length 32 s
  have hcl := List.count_le_length (a := 32) (l := s)
  generalize splitF 32 s = ws at *
  repeat (first
    | refine ax_q (q_move rfl) ?_
    | refine ax_ops_nil ?_
    | refine ax_post_code ?_
    | refine ax_block ?_
    | refine ax_q (q_len rfl rfl rfl) ?_)
  refine ax_loop (ι := Nat × List Int) (fun x => [(4, .sl 0 0 x.2.length), (16, .ro (.strs ws) 0 ws.length), (17, .int .i64 (ws.length : Nat)), (18, .int .i64 (x.1 : Nat))]) (fun x => [some ⟨3, .ints .i64 x.2⟩])
    (fun x => x.1 ≤ ws.length ∧ x.2.length = x.1 ∧ readGo [] ws = readGo x.2 (ws.drop x.1)) (fun x => ws.length - x.1) (0, []) ⟨⟨rfl, rfl, rfl, rfl, trivial⟩, rfl, Nat.zero_le _, rfl, rfl⟩ ?_
  rintro ⟨k, out⟩ ⟨hk, hol, hgo⟩
  simp only at *
  have href : ∀ (h : Nat) (o : AObj), ([some ⟨3, .ints .i64 out⟩] : AHeap)[h]? = some (some o) → refless o.c := fun h o ho => refl1 refless_ints h o ho
  repeat (first
    | refine ax_ops_nil ?_
    | refine ax_post_code ?_
    | refine ax_seq ?_
    | refine ax_region rfl ?_
    | refine ax_q (q_lss rfl rfl) ?_)
  refine ax_cond_dec rfl (fun h1 => ?_) (fun h1 => ?_)
  · have hk' : k < ws.length := by omega
    rw [drop_getD ws [] k hk'] at hgo
    generalize hw : ws.getD k [] = x at *
    repeat (first
      | refine ax_q (q_move rfl) ?_
      | refine ax_q (q_assign rfl) ?_
      | refine ax_ops_nil ?_
      | refine ax_post_code ?_
      | refine ax_seq ?_
      | refine ax_region rfl ?_
      | refine ax_block ?_
      | refine ax_skip ?_
      | refine ax_q (q_loads_rp rfl rfl rfl) ?_
      | refine ax_q (q_neq rfl rfl) ?_
      | refine ax_q (q_lenstr rfl rfl) ?_
      | refine ax_q (q_index_ro' rfl rfl rfl rfl (by first | (simp only [Nat.zero_add, Int.toNat_natCast, Int.toNat_zero]; exact rfl) | exact rfl) (by omega)) ?_)
    rw [hw]
    refine ax_cond_dec rfl (fun h2 => ?_) (fun h2 => ?_)
    · have h3 : wordF x = none := by unfold wordF; rw [if_pos (by omega)]
      have he : readE s = 5 := by rw [hE, hO, hgo, readGo, h3]
      repeat (first
        | refine ax_q (q_assign rfl) ?_
        | refine ax_ops_nil ?_
        | refine ax_post_code ?_
        | refine ax_seq ?_
        | refine ax_region rfl ?_
        | refine ax_return ?_
        | refine ax_ret_code ?_
        | refine ax_ret_blk ?_
        | refine ax_ret_inv ?_)
      refine ax_ret hR rfl (.inl ⟨by omega, by rw [he]; rfl, href⟩)
    · have hx2 : x.length = 2 := by omega
      have hrl := Lib.indexByte_ge rankL (x.getD 0 0)
      have hsl := Lib.indexByte_ge suitL (x.getD 1 0)
      have hrl2 : Lib.indexByte rankL (x.getD 0 0) < 13 := indexByte_lt rankL _
      have hsl2 : Lib.indexByte suitL (x.getD 1 0) < 4 := indexByte_lt suitL _
      repeat (first
        | refine ax_post_code ?_
        | refine ax_seq ?_
        | refine ax_skip ?_)
      have hi1 := indexByteS rankL (x.getD 0 0).toNat
      rw [show (((x.getD 0 0).toNat : Nat) : Int).toNat.toUInt8 = x.getD 0 0 by simp] at hi1
      have hi2 := indexByteS suitL (x.getD 1 0).toNat
      rw [show (((x.getD 1 0).toNat : Nat) : Int).toNat.toUInt8 = x.getD 1 0 by simp] at hi2
      have hwf : wordF x = if Lib.indexByte rankL (x.getD 0 0) < 0 ∨ Lib.indexByte suitL (x.getD 1 0) < 0 then none else some (13 * Lib.indexByte suitL (x.getD 1 0) + Lib.indexByte rankL (x.getD 0 0)) := by unfold wordF; rw [if_neg (by omega)]
      refine ax_regiond (by kernel_rfl) ?_
      refine ax_any_q 0 rfl (by kernel_rfl) (by kernel_rfl) (by kernel_rfl) rfl (q_move rfl) rfl ?_
      refine ax_any_q 1 rfl (by kernel_rfl) (by kernel_rfl) (by kernel_rfl) rfl (q_stridx rfl rfl rfl (by first | assumption | omega | simp)) rfl ?_
      refine ax_any_q 3 rfl (by kernel_rfl) (by kernel_rfl) (by kernel_rfl) rfl (q_move rfl) rfl ?_
      refine ax_any_q 4 rfl (by kernel_rfl) (by kernel_rfl) (by kernel_rfl) rfl (q_stridx rfl rfl rfl (by first | assumption | omega | simp)) rfl ?_
      refine ax_any_step (is := [2]) (by kernel_rfl) (by simp) rfl ⟨fun o ho => ?_, trivial⟩
      all_goals (cases ho)
      refine ax_callv rfl rfl rfl hi1 ?_
      repeat (first
        | refine ax_ops_nil ?_
        | refine ax_post_any ?_)
      refine ax_any_step (is := [5]) (by kernel_rfl) (by simp) rfl ⟨fun o ho => ?_, trivial⟩
      all_goals (cases ho)
      refine ax_callv rfl rfl rfl hi2 ?_
      repeat (first
        | refine ax_ops_nil ?_
        | refine ax_post_any ?_)
      refine ax_any_q 6 rfl (by kernel_rfl) (by kernel_rfl) (by kernel_rfl) rfl (q_assign rfl) rfl ?_
      refine ax_any_q 7 rfl (by kernel_rfl) (by kernel_rfl) (by kernel_rfl) rfl (q_assign rfl) rfl ?_
      refine ax_any_done (by kernel_rfl) ?_
      generalize Lib.indexByte rankL (x.getD 0 0) = a at *
      generalize Lib.indexByte suitL (x.getD 1 0) = b at *
      repeat (first
        | refine ax_q (q_move rfl) ?_
        | refine ax_post_code ?_
        | refine ax_seq ?_
        | refine ax_region rfl ?_
        | refine ax_q (q_lss rfl rfl) ?_)
      refine ax_gsplit rfl rfl (fun h3 => ?_) (fun h3 => ?_)
      · have h3 : wordF x = none := by rw [hwf, if_pos (.inl h3)]
        have he : readE s = 5 := by rw [hE, hO, hgo, readGo, h3]
        repeat (first
          | refine ax_q (q_assign rfl) ?_
          | refine ax_ops_nil ?_
          | refine ax_post_code ?_
          | refine ax_seq ?_
          | refine ax_region rfl ?_
          | refine ax_guard_not rfl rfl rfl ?_
          | refine ax_cond_true rfl ?_
          | refine ax_return ?_
          | refine ax_ret_code ?_
          | refine ax_ret_blk ?_
          | refine ax_ret_inv ?_
          | refine ax_q (q_pick rfl rfl) ?_)
        refine ax_ret hR rfl (.inl ⟨by omega, by rw [he]; rfl, href⟩)
      · repeat (first
          | refine ax_q (q_move rfl) ?_
          | refine ax_ops_nil ?_
          | refine ax_post_code ?_
          | refine ax_guard rfl rfl ?_
          | refine ax_q (q_lss rfl rfl) ?_
          | refine ax_q (q_pick rfl rfl) ?_)
        refine ax_cond_dec rfl (fun h4 => ?_) (fun h4 => ?_)
        · have h3 : wordF x = none := by rw [hwf, if_pos (.inr h4)]
          have he : readE s = 5 := by rw [hE, hO, hgo, readGo, h3]
          repeat (first
            | refine ax_q (q_assign rfl) ?_
            | refine ax_ops_nil ?_
            | refine ax_post_code ?_
            | refine ax_seq ?_
            | refine ax_region rfl ?_
            | refine ax_return ?_
            | refine ax_ret_code ?_
            | refine ax_ret_blk ?_
            | refine ax_ret_inv ?_)
          refine ax_ret hR rfl (.inl ⟨by omega, by rw [he]; rfl, href⟩)
        · have h5 : wordF x = some (13 * b + a) := by rw [hwf, if_neg (by omega)]
          rw [readGo, h5] at hgo
          simp only at hgo
          repeat (first
            | refine ax_q (q_move rfl) ?_
            | refine ax_post_code ?_
            | refine ax_region rfl ?_
            | refine ax_skip ?_)
          refine ax_q (q_mul rfl rfl (by omega)) ?_
          repeat (first
            | refine ax_q (q_move rfl) ?_
            | refine ax_q (q_add rfl rfl (by omega)) ?_
            | refine ax_buildSliceRo rfl rfl rfl rfl rfl rfl rfl rfl rfl rfl rfl ?_)
          refine ax_append rfl rfl rfl rfl rfl rfl rfl rfl rfl rfl rfl rfl (by show 0 + 1 ≤ 1; omega) rfl (by show (out.length + 1) * 8 ≤ _ ∧ _; omega) (fun i j _ _ => rfl) (by rw [hfix]; exact fun h => h) ?_
          repeat (first
            | refine ax_q (q_move rfl) ?_
            | refine ax_q (q_assign rfl) ?_
            | refine ax_ops_nil ?_
            | refine ax_post_code ?_
            | refine ax_region rfl ?_
            | refine ax_post_blk ?_
            | refine ax_q (q_add rfl rfl (by omega)) ?_)
          exact ax_post_inv ⟨(k + 1, out ++ [13 * b + a]), ⟨by simp only; omega, by simp [hol], hgo⟩, by simp only; omega, ⟨by simp only [List.length_append, List.length_cons, List.length_nil]; rfl, rfl, rfl, rfl, trivial⟩, rfl⟩
  · have hk' : k = ws.length := by omega
    subst hk'
    rw [List.drop_length, readGo] at hgo
    have hE2 : readE s = deckF out := by rw [hE, hO, hgo]
    repeat (first
      | refine ax_q (q_move rfl) ?_
      | refine ax_post_code ?_
      | refine ax_seq ?_
      | refine ax_region rfl ?_
      | refine ax_exit ?_
      | refine ax_exit_here ?_
      | refine ax_exit_code ?_
      | refine ax_exit_inv ?_)
    refine ax_calll rfl rfl rfl rfl (check out (by omega)) href (by simp [inBs, inB, Cells.len]) rfl rfl rfl ?_
    repeat (first
      | refine ax_q (q_move rfl) ?_
      | refine ax_q (q_assign rfl) ?_
      | refine ax_ops_nil ?_
      | refine ax_post_code ?_
      | refine ax_seq ?_
      | refine ax_region rfl ?_
      | refine ax_q (q_neq rfl rfl) ?_)
    refine ax_cond_dec rfl (fun h3 => ?_) (fun h3 => ?_)
    · repeat (first
        | refine ax_q (q_move rfl) ?_
        | refine ax_q (q_assign rfl) ?_
        | refine ax_ops_nil ?_
        | refine ax_post_code ?_
        | refine ax_seq ?_
        | refine ax_region rfl ?_
        | refine ax_return ?_
        | refine ax_ret_code ?_)
      exact ax_ret hR rfl (.inl ⟨by omega, by rw [hE2]; rfl, href⟩)
    · repeat (first
        | refine ax_q (q_move rfl) ?_
        | refine ax_q (q_assign rfl) ?_
        | refine ax_ops_nil ?_
        | refine ax_post_code ?_
        | refine ax_seq ?_
        | refine ax_region rfl ?_
        | refine ax_skip ?_
        | refine ax_return ?_)
      exact ax_ret hR rfl (.inr ⟨by omega, out, by rw [hO, hgo], .inl ⟨hs0, rfl, rfl⟩⟩)
theorem Read_no (s : List UInt8) (hs : s.length ≤ 9223372036854775807) {e : Int} (he : readE s = e) (h : e ≠ 0) : VCall Tryd.prog 23 [.str s] (.tup [.nil, .int .i64 e]) := by
  refine ACall.value (Read_walk s hs) (fun _ h => h) rfl ?_
  rintro r H (⟨h1, rfl, h3⟩ | ⟨h1, _⟩)
  · rw [he]
    exact ⟨rfl, ⟨trivial, trivial, trivial⟩, h3⟩
  · omega
theorem Read_ok (s : List UInt8) (hs : s.length ≤ 9223372036854775807) (he : readE s = 0) {out : List Int} (ho : readO s = some out) : VCall Tryd.prog 23 [.str s] (.tup [.ro (.ints .i64 out) 0 out.length, .int .i64 0]) := by
  by_cases h0 : s = []
  · subst h0
    cases ho
    refine VCall.res (r := .tup [.nil, .int .i64 0]) ?_ (AEq.tup2 AEq.nil)
    refine ACall.value (Read_walk [] hs) (fun _ h => h) rfl ?_
    rintro r H (⟨h1, _⟩ | ⟨h1, out', h2, h3 | h3⟩)
    · exact absurd he h1
    · exact absurd rfl h3.1
    · obtain ⟨_, rfl, rfl⟩ := h3
      exact ⟨rfl, ⟨trivial, trivial, trivial⟩, fun h o ho => by simp at ho⟩
  · refine ACall.value (Read_walk s hs) (fun _ h => h) rfl ?_
    rintro r H (⟨h1, _⟩ | ⟨h1, out', h2, h3 | h3⟩)
    · exact absurd he h1
    · obtain ⟨_, rfl, rfl⟩ := h3
      rw [ho] at h2
      cases h2
      refine ⟨rfl, ⟨?_, trivial, trivial⟩, fun h o ho => refl1 refless_ints h o ho⟩
      intro o ho; simp at ho; subst ho; show 0 + out.length ≤ out.length; omega
    · exact absurd h3.1 h0
end Go.Proofs.YtmfhdfofmdggaaaDoor
