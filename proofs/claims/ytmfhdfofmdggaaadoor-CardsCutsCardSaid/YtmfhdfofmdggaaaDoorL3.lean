import Derived.Test.YtmfhdfofmdggaaaDoorK9
import Derived.Test.YtmfhdfofmdggaaaDoorCdCut
namespace Go.Proofs.YtmfhdfofmdggaaaDoor
open Go.Ax Go.Ax.Idx Go.Ax.Cd
attribute [local irreducible] Ax Post QOp ACall
set_option maxRecDepth 100000
set_option maxHeartbeats 4000000
set_option linter.unusedSimpArgs false
set_option linter.unusedVariables false

theorem pickN (a : Int) (n : Nat) (h : n ≤ 100000) : ∃ x : Nat, x ≤ n ∧ VCall Tryd.prog 15 [.int .i64 a, .int .i64 ((n : Int) + 1)] (.int .i64 (x : Nat)) := by
  have hb := pickF_bd a ((n : Int) + 1) (by omega)
  refine ⟨(pickF a ((n : Int) + 1)).toNat, by omega, ?_⟩
  have := pick a ((n : Int) + 1) (by omega)
  rwa [show ((pickF a ((n : Int) + 1)).toNat : Int) = pickF a ((n : Int) + 1) by omega]

theorem cardsCuts (l : List Int) (a b p : Int) (hl : l.length ≤ 9223372036854775807) : VCall Tryd.prog 5 [.ro (.ints .i64 l) 0 l.length, .int .i64 a, .int .i64 b, .int .i64 p] (.bool true) := by
  refine ACall.value (K := fun r H => r = .bool true ∧ ∀ (h : Nat) (o : AObj), H[h]? = some (some o) → refless o.c) (acall_of_ax (P := Tryd.prog) (fn := Tryd.f5) rfl rfl (by kernel_rfl) rfl (fun c hR hfix => ?_)) (fix := fun _ => False) (fun _ h => h) rfl ?_
  · have hnone : ∀ (h : Nat) (o : AObj), ([] : AHeap)[h]? = some (some o) → refless o.c := fun h o ho => by simp at ho
    repeat (first
      | refine ax_q (q_assign rfl) ?_
      | refine ax_ops_nil ?_
      | refine ax_post_code ?_
      | refine ax_seq ?_
      | refine ax_region rfl ?_)
    refine ax_callv rfl rfl rfl cardsFact ?_
    repeat (first
      | refine ax_q (q_move rfl) ?_
      | refine ax_ops_nil ?_
      | refine ax_post_code ?_
      | refine ax_seq ?_
      | refine ax_region rfl ?_
      | refine ax_cond_false rfl ?_
      | refine ax_skip ?_
      | refine ax_q (q_not rfl) ?_)
    refine ax_callv rfl rfl rfl (check l hl) ?_
    repeat (first
      | refine ax_q (q_move rfl) ?_
      | refine ax_q (q_neq rfl rfl) ?_)
    refine ax_gsplit rfl rfl (fun h => ?_) (fun h => ?_)
    · repeat (first
        | refine ax_q (q_assign rfl) ?_
        | refine ax_ops_nil ?_
        | refine ax_post_code ?_
        | refine ax_seq ?_
        | refine ax_region rfl ?_
        | refine ax_guard_not rfl rfl rfl ?_
        | refine ax_cond_true rfl ?_
        | refine ax_return ?_
        | refine ax_ret_code ?_
        | refine ax_q (q_pick rfl rfl) ?_)
      exact ax_ret hR rfl ⟨rfl, hnone⟩
    have hd : deckF l = 0 := by omega
    have hlen := deckF_len hd
    rw [hd]
    repeat (first
      | refine ax_q (q_move rfl) ?_
      | refine ax_ops_nil ?_
      | refine ax_post_code ?_
      | refine ax_guard rfl rfl ?_
      | refine ax_q (q_eql rfl rfl) ?_
      | refine ax_q (q_pick rfl rfl) ?_
      | refine ax_q (q_len rfl rfl rfl) ?_)
    refine ax_cond_dec rfl (fun h1 => ?_) (fun h1 => ?_)
    · repeat (first
        | refine ax_q (q_assign rfl) ?_
        | refine ax_ops_nil ?_
        | refine ax_post_code ?_
        | refine ax_seq ?_
        | refine ax_region rfl ?_
        | refine ax_return ?_
        | refine ax_ret_code ?_)
      exact ax_ret hR rfl ⟨rfl, hnone⟩
    have hpos : 0 < l.length := by omega
    obtain ⟨x, hx, cx⟩ := pickN a l.length (by omega)
    obtain ⟨y, hy, cy⟩ := pickN b l.length (by omega)
    obtain ⟨z, hz, cz⟩ := pickN p 5 (by omega)
    repeat (first
      | refine ax_q (q_move rfl) ?_
      | refine ax_post_code ?_
      | refine ax_seq ?_
      | refine ax_region rfl ?_
      | refine ax_skip ?_
      | refine ax_q (q_len rfl rfl rfl) ?_
      | refine ax_q (q_add rfl rfl (by omega)) ?_)
    refine ax_callv rfl rfl rfl cx ?_
    repeat (first
      | refine ax_q (q_move rfl) ?_
      | refine ax_q (q_len rfl rfl rfl) ?_
      | refine ax_q (q_add rfl rfl (by omega)) ?_)
    refine ax_callv rfl rfl rfl cy ?_
    repeat (refine ax_q (q_move rfl) ?_)
    refine ax_callv rfl rfl rfl cz ?_
    repeat (first
      | refine ax_q (q_move rfl) ?_
      | refine ax_q (q_assign rfl) ?_
      | refine ax_ops_nil ?_
      | refine ax_post_code ?_
      | refine ax_seq ?_
      | refine ax_region rfl ?_
      | refine ax_q (q_add rfl rfl (by omega)) ?_)
    have c1 := Cut_ok l x hl hd hx
    have hcl : (cutF l x).length = l.length := cutG_length l x
    have c2 := Cut_ok (cutF l x) y (by omega) (cut_deck hx hd) (by omega)
    have hm : (x + y) % l.length < l.length := Nat.mod_lt _ hpos
    have c3 := Cut_ok l ((x + y) % l.length) hl hd (by omega)
    have hcc : cutF (cutF l x) y = cutF l ((x + y) % l.length) := cut_cut hpos hx hy
    rw [hcc, hcl] at c2
    rw [hcl] at *
    generalize cutF l x = l1 at *
    generalize hc3 : cutF l ((x + y) % l.length) = l2 at *
    have hl2 : l2.length = l.length := by rw [← hc3]; exact cutG_length _ _
    refine ax_slot_ops 3 (.int .i64 ((z + 1 : Nat) : Int)) rfl (AEq.of_eq (by rw [show (1 : Int) + z = ((z + 1 : Nat) : Int) by omega])) ?_
    refine ax_callv rfl rfl rfl c1 ?_
    repeat (first
      | refine ax_q (q_move rfl) ?_
      | refine ax_q (q_assign rfl) ?_
      | refine ax_ops_nil ?_
      | refine ax_post_code ?_
      | refine ax_seq ?_
      | refine ax_region rfl ?_
      | refine ax_q (q_extract rfl rfl) ?_)
    refine ax_callv rfl rfl rfl c2 ?_
    repeat (first
      | refine ax_q (q_move rfl) ?_
      | refine ax_q (q_assign rfl) ?_
      | refine ax_ops_nil ?_
      | refine ax_post_code ?_
      | refine ax_seq ?_
      | refine ax_region rfl ?_
      | refine ax_q (q_extract rfl rfl) ?_
      | refine ax_q (q_len rfl rfl rfl) ?_
      | refine ax_q (q_add rfl rfl (by omega)) ?_
      | refine ax_q (q_rem rfl rfl (by omega)) ?_)
    refine ax_slot_ops 65 (.int .i64 (((x + y) % l.length : Nat) : Int)) rfl (AEq.of_eq (by simp)) ?_
    skip
    refine ax_callv rfl rfl rfl c3 ?_
    repeat (first
      | refine ax_q (q_move rfl) ?_
      | refine ax_q (q_assign rfl) ?_
      | refine ax_ops_nil ?_
      | refine ax_post_code ?_
      | refine ax_seq ?_
      | refine ax_region rfl ?_
      | refine ax_q (q_extract rfl rfl) ?_
      | refine ax_q (q_len rfl rfl rfl) ?_
      | refine ax_q (q_quo rfl rfl (by omega)) ?_)
    have hdiv : (l.length : Int) / ((z + 1 : Nat) : Int) = ((l.length / (z + 1) : Nat) : Int) := by simp
    refine ax_slot_ops 15 (.int .i64 ((l.length / (z + 1) : Nat) : Int)) rfl (AEq.of_eq (by rw [hdiv])) ?_
    refine ax_slot_ops 76 (.int .i64 ((l.length / (z + 1) : Nat) : Int)) rfl (AEq.of_eq (by rw [hdiv])) ?_
    have hmd := Nat.div_add_mod l.length (z + 1)
    have hed : l.length / (z + 1) ≤ l.length := Nat.div_le_self _ _
    have hgl := dealGo_length (z + 1) l ((z + 1) * (l.length / (z + 1)))
    have hgf := fun k (hk : k < z + 1) => dealGo_full (P := z + 1) (each := l.length / (z + 1)) (l := l) (by omega) hk
    have hpe : (z + 1) * (l.length / (z + 1)) ≤ l.length := by omega
    generalize l.length / (z + 1) = e at *
    generalize hP : z + 1 = P at *
    have c4 := Deal_ok l P e hl hd (by omega) (by omega) hpe
    generalize dealGo P l (P * e) = hs at *
    refine ax_callv rfl rfl rfl c4 ?_
    repeat (first
      | refine ax_q (q_move rfl) ?_
      | refine ax_q (q_assign rfl) ?_
      | refine ax_ops_nil ?_
      | refine ax_post_code ?_
      | refine ax_seq ?_
      | refine ax_region rfl ?_
      | refine ax_q (q_extract rfl rfl) ?_
      | refine ax_buildSliceRo rfl rfl rfl rfl rfl rfl rfl rfl rfl rfl rfl ?_)
    refine ax_callv rfl rfl rfl (fineI [0, 0, 0, 0] (by decide)) ?_
    repeat (first
      | refine ax_q (q_move rfl) ?_
      | refine ax_guard rfl rfl ?_
      | refine ax_q (q_not rfl) ?_)
    refine ax_slot_ops 89 (.ro (.ints .i64 l2) 0 l2.length) rfl (AEq.of_eq (by rw [hl2])) ?_
    refine ax_slot_ops 90 (.ro (.ints .i64 l2) 0 l2.length) rfl (AEq.of_eq (by rw [hl2])) ?_
    refine ax_callv rfl rfl rfl (equalI l2 l2 (by omega) (by omega)) ?_
    rw [decide_eq_true (rfl : l2 = l2)]
    repeat (first
      | refine ax_q (q_move rfl) ?_
      | refine ax_ops_nil ?_
      | refine ax_post_code ?_
      | refine ax_guard rfl rfl ?_
      | refine ax_q (q_neq rfl rfl) ?_
      | refine ax_q (q_not rfl) ?_
      | refine ax_q (q_pick rfl rfl) ?_
      | refine ax_q (q_len rfl rfl rfl) ?_)
    refine ax_cond_dec rfl (fun h => absurd rfl h) (fun h => ?_)
    repeat (first
      | refine ax_q (q_move rfl) ?_
      | refine ax_q (q_assign rfl) ?_
      | refine ax_ops_nil ?_
      | refine ax_post_code ?_
      | refine ax_seq ?_
      | refine ax_region rfl ?_
      | refine ax_skip ?_)
    refine ax_nilobj 19 ⟨3, .ints .i64 []⟩ rfl rfl ?_
    repeat (refine ax_block ?_)
    refine ax_loop (ι := Nat) (fun i => [(0, .ro (.ints .i64 l) 0 l.length), (15, .int .i64 (e : Nat)), (16, .ro (rowsI hs) 0 P), (17, .ro (.ints .i64 (l.drop (P * e))) 0 (l.length - P * e)), (19, .sl 0 0 (i * P)), (100, .int .i64 (e : Nat)), (101, .int .i64 (i : Nat))]) (fun i => [some ⟨3, .ints .i64 (l.take (i * P))⟩])
      (fun i => i ≤ e) (fun i => e - i) 0 ⟨⟨rfl, rfl, rfl, rfl, by show some (AV.sl 0 0 0) = _; rw [Nat.zero_mul], rfl, rfl, trivial⟩, by rw [Nat.zero_mul]; rfl, Nat.zero_le _⟩ ?_
    intro i hi
    repeat (first
      | refine ax_ops_nil ?_
      | refine ax_post_code ?_
      | refine ax_seq ?_
      | refine ax_region rfl ?_
      | refine ax_q (q_lss rfl rfl) ?_)
    refine ax_cond_dec rfl (fun h2 => ?_) (fun h2 => ?_)
    · have hi' : i < e := by omega
      have hiP : (i + 1) * P ≤ P * e := by rw [Nat.mul_comm P e]; exact Nat.mul_le_mul_right _ hi'
      have hsucc : (i + 1) * P = i * P + P := Nat.succ_mul _ _
      repeat (first
        | refine ax_q (q_move rfl) ?_
        | refine ax_q (q_assign rfl) ?_
        | refine ax_ops_nil ?_
        | refine ax_post_code ?_
        | refine ax_seq ?_
        | refine ax_region rfl ?_
        | refine ax_block ?_
        | refine ax_skip ?_
        | refine ax_q (q_len rfl rfl rfl) ?_)
      refine ax_loop (ι := Nat) (fun j => [(0, .ro (.ints .i64 l) 0 l.length), (15, .int .i64 (e : Nat)), (16, .ro (rowsI hs) 0 P), (17, .ro (.ints .i64 (l.drop (P * e))) 0 (l.length - P * e)), (19, .sl 0 0 (i * P + j)), (20, .int .i64 (i : Nat)), (100, .int .i64 (e : Nat)), (101, .int .i64 (i : Nat)), (104, .ro (rowsI hs) 0 P), (105, .int .i64 (P : Nat)), (106, .int .i64 (j : Nat))]) (fun j => [some ⟨3, .ints .i64 (l.take (i * P + j))⟩])
        (fun j => j ≤ P) (fun j => P - j) 0 ⟨⟨rfl, rfl, rfl, rfl, rfl, rfl, rfl, rfl, rfl, rfl, rfl, trivial⟩, rfl, Nat.zero_le _⟩ ?_
      intro j hj
      repeat (first
        | refine ax_ops_nil ?_
        | refine ax_post_code ?_
        | refine ax_seq ?_
        | refine ax_region rfl ?_
        | refine ax_q (q_lss rfl rfl) ?_)
      refine ax_cond_dec rfl (fun h3 => ?_) (fun h3 => ?_)
      · have hj' : j < P := by omega
        obtain ⟨q1, q2⟩ := hgf j hj'
        have q3 := q2 i hi'
        have htl : (l.take (i * P + j)).length = i * P + j := by simp; omega
        have hts := take_succ_getD l 0 (i * P + j) (by omega)
        repeat (first
          | refine ax_q (q_move rfl) ?_
          | refine ax_q (q_assign rfl) ?_
          | refine ax_ops_nil ?_
          | refine ax_post_code ?_
          | refine ax_seq ?_
          | refine ax_region rfl ?_
          | refine ax_block ?_
          | refine ax_skip ?_
          | refine ax_q (q_loadf_rp rfl rfl rfl rfl) ?_
          | refine ax_q (q_neq rfl rfl) ?_
          | refine ax_q (q_len rfl rfl rfl) ?_
          | refine ax_q (q_index_ro' rfl rfl rfl rfl (by first | (simp only [Nat.zero_add, Int.toNat_natCast, Int.toNat_zero]; exact rfl) | exact rfl) (by omega)) ?_)
        refine ax_cond_dec rfl (fun h4 => absurd q1 (by omega)) (fun h4 => ?_)
        repeat (first
          | refine ax_q (q_move rfl) ?_
          | refine ax_q (q_loadi_rp rfl rfl rfl) ?_
          | refine ax_post_code ?_
          | refine ax_region rfl ?_
          | refine ax_skip ?_
          | refine ax_q (q_index_ro' rfl rfl rfl rfl (by first | (simp only [Nat.zero_add, Int.toNat_natCast, Int.toNat_zero]; exact rfl) | exact rfl) (by omega)) ?_
          | refine ax_buildSliceRo rfl rfl rfl rfl rfl rfl rfl rfl rfl rfl rfl ?_)
        refine ax_append rfl rfl rfl rfl rfl rfl rfl rfl rfl htl rfl rfl (by show 0 + 1 ≤ 1; omega) rfl (by show (i * P + j + 1) * 8 ≤ _ ∧ _; omega) (fun i j _ _ => rfl) (by rw [hfix]; exact fun h => h) ?_
        repeat (first
          | refine ax_q (q_move rfl) ?_
          | refine ax_q (q_assign rfl) ?_
          | refine ax_ops_nil ?_
          | refine ax_post_code ?_
          | refine ax_region rfl ?_
          | refine ax_post_blk ?_
          | refine ax_q (q_add rfl rfl (by omega)) ?_)
        refine ax_post_inv ⟨j + 1, by omega, by omega, ⟨rfl, rfl, rfl, rfl, rfl, rfl, rfl, rfl, rfl, rfl, rfl, trivial⟩, ?_⟩
        show ([some ⟨3, .ints .i64 (l.take (i * P + j) ++ [(hs.getD j []).getD i 0])⟩] : AHeap) = [some ⟨3, .ints .i64 (l.take (i * P + (j + 1)))⟩]
        rw [q3, ← hts]; rfl
      · have hj' : j = P := by omega
        subst hj'
        repeat (first
          | refine ax_q (q_move rfl) ?_
          | refine ax_ops_nil ?_
          | refine ax_post_code ?_
          | refine ax_region rfl ?_
          | refine ax_post_blk ?_
          | refine ax_exit ?_
          | refine ax_exit_here ?_
          | refine ax_exit_code ?_
          | refine ax_exit_inv ?_
          | refine ax_q (q_add rfl rfl (by omega)) ?_)
        exact ax_post_inv ⟨i + 1, by omega, by omega, ⟨rfl, rfl, rfl, rfl, by rw [hsucc]; rfl, rfl, rfl, trivial⟩, by rw [hsucc]⟩
    · have hi' : i = e := by omega
      subst hi'
      repeat (first
        | refine ax_q (q_move rfl) ?_
        | refine ax_post_code ?_
        | refine ax_seq ?_
        | refine ax_region rfl ?_
        | refine ax_exit ?_
        | refine ax_exit_here ?_
        | refine ax_exit_code ?_
        | refine ax_exit_inv ?_)
      have htl : (l.take (i * P)).length = i * P := by rw [List.length_take, Nat.mul_comm i P]; omega
      have hdl : (l.drop (P * i)).length = l.length - P * i := by simp
      refine ax_append rfl rfl rfl rfl rfl rfl rfl rfl rfl htl rfl rfl (by show 0 + (l.length - P * i) ≤ (l.drop (P * i)).length; omega) rfl (by show (i * P + (l.length - P * i)) * 8 ≤ _ ∧ _; rw [Nat.mul_comm i P]; omega) (fun i j _ _ => rfl) (by rw [hfix]; exact fun h => h) ?_
      have hcat : l.take (i * P) ++ List.take (l.length - P * i) (List.drop 0 (l.drop (P * i))) = l := by
        rw [List.drop_zero, ← hdl, List.take_length, Nat.mul_comm i P, List.take_append_drop]
      refine ax_heap_ops [some ⟨3, .ints .i64 l⟩] ?_ ?_
      · show HSub [some ⟨3, .ints .i64 (l.take (i * P) ++ List.take (l.length - P * i) (List.drop 0 (l.drop (P * i))))⟩] _
        rw [hcat]; exact HSub.refl _
      refine ax_slot_ops 125 (.sl 0 0 l.length) rfl (AEq.of_eq (by rw [show i * P + (l.length - P * i) = l.length by rw [Nat.mul_comm i P]; omega])) ?_
      repeat (refine ax_q (q_move rfl) ?_)
      refine ax_calll rfl rfl rfl rfl (equalI l l hl hl) (fun h o ho => refl1 refless_ints h o ho) ⟨fun o ho => by simp at ho; subst ho; exact Nat.le_of_eq (Nat.zero_add _), trivial, trivial⟩ rfl rfl rfl ?_
      rw [decide_eq_true (rfl : l = l)]
      repeat (first
        | refine ax_q (q_assign rfl) ?_
        | refine ax_ops_nil ?_
        | refine ax_post_code ?_
        | refine ax_return ?_)
      exact ax_ret hR rfl ⟨rfl, fun h o ho => refl1 refless_ints h o ho⟩
  · rintro r H ⟨rfl, h⟩
    exact ⟨rfl, trivial, h⟩
end Go.Proofs.YtmfhdfofmdggaaaDoor
