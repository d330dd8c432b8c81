import Derived.Test.YtmfhdfofmdggaaaDoorG2
set_option linter.unusedVariables false
set_option linter.unusedSimpArgs false
namespace Go.Proofs.YtmfhdfofmdggaaaDoor
open Go.Ax Go.Ax.Idx Go.Ax.Cd Go.Ax.Dl
attribute [local irreducible] Ax Post QOp ACall
set_option maxRecDepth 100000
set_option maxHeartbeats 4000000

theorem Combine_ok (n : Int) (hn : 0 ≤ n ∧ n ≤ 52) (ls : List (List Int)) (h6 : ls.length ≤ 6) (hf : ∀ k, k < ls.length → fitsF n (ls.getD k []) = 0) :
    VCall Tryd.prog 28 [.int .i64 n, .ro (rowsI ls) 0 ls.length] (.tup [.ro (.ints .i64 (combF n ls)) 0 (combF n ls).length, .int .i64 0]) := by
  refine ACall.value (K := fun r H => r = .tup [.sl 0 0 (combF n ls).length, .int .i64 0] ∧ H = [some ⟨3, .ints .i64 (combF n ls)⟩]) (acall_of_ax (P := Tryd.prog) (fn := Tryd.f28) rfl rfl (by kernel_rfl) rfl (fun c hR hfix => ?_)) (fix := fun _ => False) (fun _ h => h) rfl ?_
  · repeat (first
      | refine ax_q (q_move rfl) ?_
      | refine ax_q (q_assign rfl) ?_
      | refine ax_ops_nil ?_
      | refine ax_post_code ?_
      | refine ax_seq ?_
      | refine ax_region rfl ?_
      | refine ax_q (q_lss rfl rfl) ?_)
    refine ax_gsplit rfl rfl (fun h => absurd h (by omega)) (fun h => ?_)
    repeat (first
      | refine ax_q (q_move rfl) ?_
      | refine ax_ops_nil ?_
      | refine ax_post_code ?_
      | refine ax_guard rfl rfl ?_
      | refine ax_q (q_gtr rfl rfl) ?_
      | refine ax_q (q_pick rfl rfl) ?_)
    refine ax_cond_dec rfl (fun h => absurd h (by omega)) (fun h => ?_)
    repeat (first
      | refine ax_q (q_move rfl) ?_
      | refine ax_ops_nil ?_
      | refine ax_post_code ?_
      | refine ax_seq ?_
      | refine ax_region rfl ?_
      | refine ax_skip ?_
      | refine ax_q (q_gtr rfl rfl) ?_
      | refine ax_q (q_len rfl rfl rfl) ?_)
    refine ax_cond_dec rfl (fun h => absurd h (by omega)) (fun h => ?_)
    repeat (first
      | refine ax_q (q_move rfl) ?_
      | refine ax_ops_nil ?_
      | refine ax_post_code ?_
      | refine ax_seq ?_
      | refine ax_region rfl ?_
      | refine ax_block ?_
      | refine ax_skip ?_
      | refine ax_q (q_len rfl rfl rfl) ?_)
    refine ax_loop (ι := Nat) (fun k => [(0, .int .i64 n), (1, .ro (rowsI ls) 0 ls.length), (23, .ro (rowsI ls) 0 ls.length), (24, .int .i64 (ls.length : Nat)), (25, .int .i64 (k : Nat))]) (fun _ => [])
      (fun k => k ≤ ls.length) (fun k => ls.length - k) 0 ⟨⟨rfl, rfl, rfl, rfl, rfl, trivial⟩, rfl, Nat.zero_le _⟩ ?_
    rintro k hk
    repeat (first
      | refine ax_ops_nil ?_
      | refine ax_post_code ?_
      | refine ax_seq ?_
      | refine ax_region rfl ?_
      | refine ax_q (q_lss rfl rfl) ?_)
    refine ax_cond_dec rfl (fun h1 => ?_) (fun h1 => ?_)
    · have hkl : k < ls.length := by omega
      have hfc := fits n (ls.getD k []) (by omega)
      rw [hf k hkl] at hfc
      repeat (first
        | refine ax_q (q_move rfl) ?_
        | refine ax_q (q_assign rfl) ?_
        | refine ax_ops_nil ?_
        | refine ax_post_code ?_
        | refine ax_seq ?_
        | refine ax_region rfl ?_
        | refine ax_block ?_
        | refine ax_skip ?_
        | refine ax_q (q_loadf_rp rfl rfl rfl rfl) ?_
        | refine ax_q (q_index_ro' rfl rfl rfl rfl (by first | (simp only [Nat.zero_add, Int.toNat_natCast, Int.toNat_zero]; exact rfl) | exact rfl) (by omega)) ?_)
      refine ax_callv rfl rfl rfl hfc ?_
      repeat (first
        | refine ax_q (q_move rfl) ?_
        | refine ax_q (q_assign rfl) ?_
        | refine ax_ops_nil ?_
        | refine ax_post_code ?_
        | refine ax_seq ?_
        | refine ax_region rfl ?_
        | refine ax_cond_false rfl ?_
        | refine ax_post_blk ?_
        | refine ax_skip ?_
        | refine ax_q (q_neq rfl rfl) ?_
        | refine ax_q (q_add rfl rfl (by omega)) ?_)
      exact ax_post_inv ⟨k + 1, by omega, by omega, ⟨rfl, rfl, rfl, rfl, rfl, trivial⟩, rfl⟩
    · repeat (first
        | refine ax_q (q_move rfl) ?_
        | refine ax_post_code ?_
        | refine ax_seq ?_
        | refine ax_region rfl ?_
        | refine ax_exit ?_
        | refine ax_exit_here ?_
        | refine ax_exit_code ?_
        | refine ax_exit_inv ?_
        | refine ax_q (q_sub rfl rfl (by omega)) ?_
        | refine ax_q (q_max rfl rfl) ?_)
      have hcf : combF n ls = ls.foldl (addF n 0) (List.replicate ((if 1 > n then 1 else n) - 1).toNat 0) := rfl
      have hN : 0 ≤ (if 1 > n then 1 else n) - 1 ∧ (if 1 > n then 1 else n) - 1 ≤ 51 ∧ (0 < (if 1 > n then 1 else n) - 1 → (if 1 > n then 1 else n) = n) := by
        split
        · omega
        · exact ⟨by omega, by omega, fun _ => rfl⟩
      have hfo := fun k (hk : k < ls.length) => fitsF_ok hn.1 (hf k hk)
      generalize (if 1 > n then 1 else n) = mx at *
      have hol : ∀ k, ((ls.take k).foldl (addF n 0) (List.replicate (mx - 1).toNat 0)).length = (mx - 1).toNat := fun k => by rw [foldl_addF_length, List.length_replicate]
      refine ax_make rfl rfl rfl rfl rfl rfl rfl rfl (by show 0 ≤ _ ∧ _ ≤ _ ∧ (8 : Int) * _ ≤ _ ∧ _; omega) ?_
      repeat (first
        | refine ax_q (q_move rfl) ?_
        | refine ax_q (q_assign rfl) ?_
        | refine ax_ops_nil ?_
        | refine ax_post_code ?_
        | refine ax_seq ?_
        | refine ax_region rfl ?_
        | refine ax_block ?_
        | refine ax_q (q_len rfl rfl rfl) ?_)
      refine ax_loop (ι := Nat) (fun k => [(0, .int .i64 n), (9, .sl 0 0 (mx - 1).toNat), (40, .ro (rowsI ls) 0 ls.length), (41, .int .i64 (ls.length : Nat)), (42, .int .i64 (k : Nat))])
        (fun k => [some ⟨3, .ints .i64 ((ls.take k).foldl (addF n 0) (List.replicate (mx - 1).toNat 0))⟩]) (fun k => k ≤ ls.length ∧ InR n ((ls.take k).foldl (addF n 0) (List.replicate (mx - 1).toNat 0))) (fun k => ls.length - k) 0
        ⟨⟨rfl, rfl, rfl, rfl, rfl, trivial⟩, rfl, Nat.zero_le _, fun i hi => by
          simp only [List.take_zero, List.foldl_nil, List.length_replicate] at hi ⊢
          rw [show (List.replicate (mx - 1).toNat (0 : Int)).getD i 0 = 0 by simp only [List.getD, List.getElem?_replicate]; split <;> rfl]
          omega⟩ ?_
      rintro k ⟨hk, hin⟩
      repeat (first
        | refine ax_ops_nil ?_
        | refine ax_post_code ?_
        | refine ax_seq ?_
        | refine ax_region rfl ?_
        | refine ax_q (q_lss rfl rfl) ?_)
      refine ax_cond_dec rfl (fun h1 => ?_) (fun h1 => ?_)
      · have hkl : k < ls.length := by omega
        obtain ⟨e1, e2⟩ := hfo k hkl
        have htk := take_succ_getD ls [] k hkl
        have hst : (ls.take (k + 1)).foldl (addF n 0) (List.replicate (mx - 1).toNat 0) = addF n 0 ((ls.take k).foldl (addF n 0) (List.replicate (mx - 1).toNat 0)) (ls.getD k []) := by rw [htk, List.foldl_append]; rfl
        have hok := hol k
        generalize (ls.take k).foldl (addF n 0) (List.replicate (mx - 1).toNat 0) = out at *
        repeat (first
          | refine ax_q (q_move rfl) ?_
          | refine ax_q (q_assign rfl) ?_
          | refine ax_ops_nil ?_
          | refine ax_post_code ?_
          | refine ax_seq ?_
          | refine ax_region rfl ?_
          | refine ax_block ?_
          | refine ax_skip ?_
          | refine ax_q (q_loadf_rp rfl rfl rfl rfl) ?_
          | refine ax_q (q_len rfl rfl rfl) ?_
          | refine ax_q (q_index_ro' rfl rfl rfl rfl (by first | (simp only [Nat.zero_add, Int.toNat_natCast, Int.toNat_zero]; exact rfl) | exact rfl) (by omega)) ?_)
        refine ax_loop (ι := Nat) (fun j => [(0, .int .i64 n), (9, .sl 0 0 (mx - 1).toNat), (40, .ro (rowsI ls) 0 ls.length), (41, .int .i64 (ls.length : Nat)), (42, .int .i64 (k : Nat)), (46, .ro (.ints .i64 (ls.getD k [])) 0 (ls.getD k []).length), (47, .int .i64 ((ls.getD k []).length : Nat)), (48, .int .i64 (j : Nat))])
          (fun j => [some ⟨3, .ints .i64 (addF n 0 out ((ls.getD k []).take j))⟩]) (fun j => j ≤ (ls.getD k []).length ∧ InR n (addF n 0 out ((ls.getD k []).take j))) (fun j => (ls.getD k []).length - j) 0
          ⟨⟨rfl, rfl, rfl, rfl, rfl, rfl, rfl, rfl, trivial⟩, rfl, Nat.zero_le _, hin⟩ ?_
        rintro j ⟨hj, hjn⟩
        repeat (first
          | refine ax_ops_nil ?_
          | refine ax_post_code ?_
          | refine ax_seq ?_
          | refine ax_region rfl ?_
          | refine ax_q (q_lss rfl rfl) ?_)
        refine ax_cond_dec rfl (fun h2 => ?_) (fun h2 => ?_)
        · have hjl : j < (ls.getD k []).length := by omega
          have hx := e2 j hjl
          have hj1 := take_succ_getD (ls.getD k []) 0 j hjl
          have hjt : ((ls.getD k []).take j).length = j := by rw [List.length_take]; omega
          have hol2 : (addF n 0 out ((ls.getD k []).take j)).length = (mx - 1).toNat := by rw [addF_length]; exact hok
          have hs1 : addF n 0 out ((ls.getD k []).take (j + 1)) = (addF n 0 out ((ls.getD k []).take j)).set j (((addF n 0 out ((ls.getD k []).take j)).getD j 0 + (ls.getD k []).getD j 0) % (n - j)) := by
            rw [hj1, addF_append, hjt, Nat.zero_add]; rfl
          have hin2 : InR n (addF n 0 out ((ls.getD k []).take (j + 1))) := addF_in hin (by omega) (by rw [List.length_take]; omega)
          have ho := hjn j (by omega)
          have hol3 : j < (addF n 0 out ((ls.getD k []).take j)).length := by omega
          generalize addF n 0 out ((ls.getD k []).take j) = oj at *
          generalize ls.getD k [] = l at *
          repeat (first
            | refine ax_q (q_move rfl) ?_
            | refine ax_q (q_assign rfl) ?_
            | refine ax_q (q_loadi_rp rfl rfl rfl) ?_
            | refine ax_ops_nil ?_
            | refine ax_post_code ?_
            | refine ax_seq ?_
            | refine ax_region rfl ?_
            | refine ax_post_blk ?_
            | refine ax_block ?_
            | refine ax_skip ?_
            | refine ax_q (q_add rfl rfl (by omega)) ?_
            | refine ax_q (q_sub rfl rfl (by omega)) ?_
            | refine ax_q (q_index_ro' rfl rfl rfl rfl (by first | (simp only [Nat.zero_add, Int.toNat_natCast, Int.toNat_zero]; exact rfl) | exact rfl) (by omega)) ?_
            | refine ax_q (q_index_sl' rfl rfl rfl rfl rfl (by first | (simp only [Nat.zero_add, Int.toNat_natCast, Int.toNat_zero]; exact rfl) | exact rfl) (by omega)) ?_
            | refine ax_q (q_loadi_ptr rfl rfl rfl rfl (by first | assumption | omega)) ?_
            | refine ax_q (q_rem rfl rfl (by omega)) ?_
            | refine ax_store rfl rfl rfl rfl rfl rfl rfl (by first | assumption | (show _ < List.length _; first | assumption | omega)) ?_)
          exact ax_post_inv ⟨j + 1, ⟨by omega, hin2⟩, by omega, ⟨rfl, rfl, rfl, rfl, rfl, rfl, rfl, rfl, trivial⟩, by rw [hs1]; rfl⟩
        · have hjl : j = (ls.getD k []).length := by omega
          subst hjl
          rw [List.take_length, ← hst] at hjn ⊢
          repeat (first
            | refine ax_q (q_move rfl) ?_
            | refine ax_ops_nil ?_
            | refine ax_post_code ?_
            | refine ax_region rfl ?_
            | refine ax_post_blk ?_
            | refine ax_exit ?_
            | refine ax_exit_here ?_
            | refine ax_exit_code ?_
            | refine ax_exit_inv ?_
            | refine ax_q (q_add rfl rfl (by omega)) ?_)
          exact ax_post_inv ⟨k + 1, ⟨by omega, hjn⟩, by omega, ⟨rfl, rfl, rfl, rfl, rfl, trivial⟩, rfl⟩
      · have hkl : k = ls.length := by omega
        subst hkl
        have hoc := hol ls.length
        rw [List.take_length, ← hcf] at hoc
        rw [List.take_length, ← hcf]
        repeat (first
          | refine ax_q (q_move rfl) ?_
          | refine ax_q (q_assign rfl) ?_
          | refine ax_ops_nil ?_
          | refine ax_post_code ?_
          | refine ax_seq ?_
          | refine ax_region rfl ?_
          | refine ax_exit ?_
          | refine ax_exit_here ?_
          | refine ax_exit_code ?_
          | refine ax_exit_inv ?_
          | refine ax_return ?_)
        exact ax_ret hR rfl ⟨by rw [hoc]; rfl, rfl⟩
  · rintro r H ⟨rfl, rfl⟩
    exact ⟨rfl, ⟨fun o ho => by simp at ho; subst ho; exact Nat.le_of_eq (Nat.zero_add _), trivial, trivial⟩, refl1 refless_ints⟩
end Go.Proofs.YtmfhdfofmdggaaaDoor

namespace Go.Proofs.YtmfhdfofmdggaaaDoor
open Go.Ax Go.Ax.Idx Go.Ax.Cd Go.Ax.Dl
attribute [local irreducible] Ax Post QOp ACall
set_option maxRecDepth 100000
set_option maxHeartbeats 4000000

theorem stage1 (p : Pl) : VCall Tryd.prog 52 [.agg (plA p)] (.bool (!p.com)) := by
  refine ACall.value (K := fun r H => r = .bool (!p.com) ∧ H = [some ⟨82, .box (plA p)⟩]) (acall_of_ax (P := Tryd.prog) (fn := Tryd.f52) rfl rfl (by kernel_rfl) rfl (fun c hR hfix => ?_)) (fix := fun _ => False) (fun _ h => h) rfl ?_
  · repeat (first
      | refine ax_q (q_assign rfl) ?_
      | refine ax_ops_nil ?_
      | refine ax_post_code ?_
      | refine ax_seq ?_
      | refine ax_region rfl ?_
      | refine ax_return ?_
      | refine ax_q (q_loadb_ptr rfl rfl rfl rfl rfl) ?_
      | refine ax_q (q_not rfl) ?_
      | refine ax_q (q_field_ptr rfl rfl rfl rfl rfl rfl) ?_
      | refine ax_box rfl rfl ?_)
    exact ax_ret hR rfl ⟨rfl, rfl⟩
  · rintro r H ⟨rfl, rfl⟩
    exact ⟨rfl, trivial, refl1 (refless_box rfl)⟩
theorem stage2 (p : Pl) : VCall Tryd.prog 53 [.agg (plA p)] (.bool (!p.op)) := by
  refine ACall.value (K := fun r H => r = .bool (!p.op) ∧ H = [some ⟨82, .box (plA p)⟩]) (acall_of_ax (P := Tryd.prog) (fn := Tryd.f53) rfl rfl (by kernel_rfl) rfl (fun c hR hfix => ?_)) (fix := fun _ => False) (fun _ h => h) rfl ?_
  · repeat (first
      | refine ax_q (q_assign rfl) ?_
      | refine ax_ops_nil ?_
      | refine ax_post_code ?_
      | refine ax_seq ?_
      | refine ax_region rfl ?_
      | refine ax_return ?_
      | refine ax_q (q_loadb_ptr rfl rfl rfl rfl rfl) ?_
      | refine ax_q (q_not rfl) ?_
      | refine ax_q (q_field_ptr rfl rfl rfl rfl rfl rfl) ?_
      | refine ax_box rfl rfl ?_)
    exact ax_ret hR rfl ⟨rfl, rfl⟩
  · rintro r H ⟨rfl, rfl⟩
    exact ⟨rfl, trivial, refl1 (refless_box rfl)⟩

theorem indexP (ps : List Pl) (g : FuncId) (q : Pl → Bool) (hlen : ps.length ≤ 1000) (hp : ∀ p, VCall Tryd.prog g [.agg (plA p)] (.bool (q p))) :
    VCall Tryd.prog 63 [.ro (plsC ps) 0 ps.length, .fn g []] (.int .i64 (idxP q ps 0)) := by
  refine ACall.value0 (acall_of_ax (P := Tryd.prog) (fn := Tryd.f63) rfl rfl (by kernel_rfl) rfl (fun c hR hfix => ?_)) (fix := fun _ => False) (fun _ h => h) rfl rfl
  repeat (first
    | refine ax_q (q_move rfl) ?_
    | refine ax_q (q_assign rfl) ?_
    | refine ax_ops_nil ?_
    | refine ax_post_code ?_
    | refine ax_seq ?_
    | refine ax_region rfl ?_
    | refine ax_block ?_
    | refine ax_q (q_len rfl rfl rfl) ?_)
  refine ax_loop (ι := Nat) (fun i => [(0, .ro (plsC ps) 0 ps.length), (1, .fn g []), (7, .int .i64 (ps.length : Nat)), (8, .int .i64 (i : Nat))]) (fun _ => [])
    (fun i => i ≤ ps.length ∧ idxP q (ps.drop i) i = idxP q ps 0) (fun i => ps.length - i) 0 ⟨⟨rfl, rfl, rfl, rfl, trivial⟩, rfl, Nat.zero_le _, rfl⟩ ?_
  rintro i ⟨hi, hq⟩
  repeat (first
    | refine ax_ops_nil ?_
    | refine ax_post_code ?_
    | refine ax_seq ?_
    | refine ax_region rfl ?_
    | refine ax_q (q_lss rfl rfl) ?_)
  refine ax_cond_dec rfl (fun h1 => ?_) (fun h1 => ?_)
  · have hil : i < ps.length := by omega
    rw [idxP_drop q ps i hil] at hq
    have hv := hp (ps.getD i pl0)
    repeat (first
      | refine ax_q (q_move rfl) ?_
      | refine ax_q (q_assign rfl) ?_
      | refine ax_ops_nil ?_
      | refine ax_post_code ?_
      | refine ax_seq ?_
      | refine ax_region rfl ?_
      | refine ax_block ?_
      | refine ax_skip ?_
      | refine ax_q (q_index_ro' rfl rfl rfl rfl (by first | (simp only [Nat.zero_add, Int.toNat_natCast, Int.toNat_zero]; exact rfl) | exact rfl) (by omega)) ?_
      | refine ax_q (q_loadagg_rp rfl rfl rfl rfl rfl rfl) ?_)
    refine ax_slot_ops 15 (.agg (plA (ps.getD i pl0))) rfl (AEq.of_eq rfl) ?_
    refine ax_callv rfl rfl rfl hv ?_
    repeat (first
      | refine ax_ops_nil ?_
      | refine ax_post_code ?_)
    refine ax_cond rfl (fun h2 => ?_) (fun h2 => ?_)
    · rw [if_pos h2] at hq
      rw [← hq] at hR
      repeat (first
        | refine ax_q (q_move rfl) ?_
        | refine ax_q (q_assign rfl) ?_
        | refine ax_ops_nil ?_
        | refine ax_post_code ?_
        | refine ax_seq ?_
        | refine ax_region rfl ?_
        | refine ax_return ?_
        | refine ax_ret_code ?_
        | refine ax_ret_blk ?_
        | refine ax_ret_inv ?_)
      exact ax_ret hR rfl rfl
    · rw [if_neg (by rw [h2]; decide)] at hq
      repeat (first
        | refine ax_q (q_move rfl) ?_
        | refine ax_ops_nil ?_
        | refine ax_post_code ?_
        | refine ax_region rfl ?_
        | refine ax_post_blk ?_
        | refine ax_skip ?_
        | refine ax_q (q_add rfl rfl (by omega)) ?_)
      exact ax_post_inv ⟨i + 1, ⟨by omega, hq⟩, by omega, ⟨rfl, rfl, rfl, rfl, trivial⟩, rfl⟩
  · rw [List.drop_of_length_le (by omega), idxP] at hq
    rw [← hq] at hR
    repeat (first
      | refine ax_q (q_assign rfl) ?_
      | refine ax_ops_nil ?_
      | refine ax_post_code ?_
      | refine ax_seq ?_
      | refine ax_region rfl ?_
      | refine ax_exit ?_
      | refine ax_exit_here ?_
      | refine ax_exit_code ?_
      | refine ax_exit_inv ?_
      | refine ax_return ?_)
    exact ax_ret hR rfl rfl
theorem containsP (ps : List Pl) (g : FuncId) (q : Pl → Bool) (hlen : ps.length ≤ 1000) (hp : ∀ p, VCall Tryd.prog g [.agg (plA p)] (.bool (q p))) :
    VCall Tryd.prog 51 [.ro (plsC ps) 0 ps.length, .fn g []] (.bool (ps.any q)) := by
  refine ACall.value0 (acall_of_ax (P := Tryd.prog) (fn := Tryd.f51) rfl rfl (by kernel_rfl) rfl (fun c hR hfix => ?_)) (fix := fun _ => False) (fun _ h => h) rfl rfl
  rw [← idxP_ge q ps 0] at hR
  repeat (first
    | refine ax_q (q_move rfl) ?_
    | refine ax_q (q_assign rfl) ?_
    | refine ax_ops_nil ?_
    | refine ax_post_code ?_
    | refine ax_seq ?_
    | refine ax_region rfl ?_)
  refine ax_callv rfl rfl rfl (indexP ps g q hlen hp) ?_
  repeat (first
    | refine ax_q (q_assign rfl) ?_
    | refine ax_ops_nil ?_
    | refine ax_post_code ?_
    | refine ax_return ?_
    | refine ax_q (q_geq rfl rfl) ?_)
  exact ax_ret hR rfl rfl

/-- The table, while it is played at, and when it is only read. -/
abbrev tabH (n : Int) (ps : List Pl) (ch : Int) : AHeap := [some ⟨82, plsC ps⟩, some ⟨80, .box [.int .i64 n, .sl 0 0 ps.length, .int .i64 ch]⟩]
def tabC (n : Int) (ps : List Pl) (ch : Int) : Cells := .box [.int .i64 n, .ro (plsC ps) 0 ps.length, .int .i64 ch]
def stageF (ps : List Pl) (ch : Int) : Int := if 0 ≤ ch then 3 else if ps.any (fun p => !p.com) then 0 else if ps.any (fun p => !p.op) then 1 else 2

theorem Stage_r (n : Int) (ps : List Pl) (ch : Int) (hlen : ps.length ≤ 1000) : VCall Tryd.prog 30 [.rp (tabC n ps ch) 0 0] (.int .i64 (stageF ps ch)) := by
  refine ACall.value0 (acall_of_ax (P := Tryd.prog) (fn := Tryd.f30) rfl rfl (by kernel_rfl) rfl (fun c hR hfix => ?_)) (fix := fun _ => False) (fun _ h => h) rfl rfl
  have c1 := containsP ps 52 (fun p => !p.com) hlen stage1
  have c2 := containsP ps 53 (fun p => !p.op) hlen stage2
  have hs : stageF ps ch = if 0 ≤ ch then 3 else if ps.any (fun p => !p.com) then 0 else if ps.any (fun p => !p.op) then 1 else 2 := rfl
  generalize stageF ps ch = r at *
  generalize ps.any (fun p => !p.com) = b1 at *
  generalize ps.any (fun p => !p.op) = b2 at *
  repeat (first
    | refine ax_q (q_move rfl) ?_
    | refine ax_q (q_assign rfl) ?_
    | refine ax_ops_nil ?_
    | refine ax_post_code ?_
    | refine ax_seq ?_
    | refine ax_region rfl ?_
    | refine ax_block ?_
    | refine ax_q (q_geq rfl rfl) ?_
    | refine ax_q (q_loadb_rp rfl rfl rfl rfl) ?_
    | refine ax_q (q_nilcheck_rp rfl) ?_
    | refine ax_q (q_field_rp rfl rfl rfl rfl rfl rfl) ?_)
  refine ax_cond_dec rfl (fun h1 => ?_) (fun h1 => ?_)
  · rw [if_pos h1] at hs
    subst hs
    repeat (first
      | refine ax_q (q_assign rfl) ?_
      | refine ax_ops_nil ?_
      | refine ax_post_code ?_
      | refine ax_seq ?_
      | refine ax_region rfl ?_
      | refine ax_return ?_
      | refine ax_ret_code ?_
      | refine ax_ret_blk ?_)
    exact ax_ret hR rfl rfl
  · rw [if_neg h1] at hs
    repeat (first
      | refine ax_q (q_move rfl) ?_
      | refine ax_seq ?_
      | refine ax_region rfl ?_
      | refine ax_q (q_loadb_rp rfl rfl rfl rfl) ?_
      | refine ax_q (q_nilcheck_rp rfl) ?_
      | refine ax_q (q_field_rp rfl rfl rfl rfl rfl rfl) ?_)
    refine ax_callv rfl rfl rfl c1 ?_
    repeat (first
      | refine ax_q (q_assign rfl) ?_
      | refine ax_ops_nil ?_
      | refine ax_post_code ?_)
    refine ax_cond rfl (fun h2 => ?_) (fun h2 => ?_)
    · subst h2
      rw [if_pos rfl] at hs
      subst hs
      repeat (first
        | refine ax_q (q_assign rfl) ?_
        | refine ax_ops_nil ?_
        | refine ax_post_code ?_
        | refine ax_seq ?_
        | refine ax_region rfl ?_
        | refine ax_return ?_
        | refine ax_ret_code ?_
        | refine ax_ret_blk ?_)
      exact ax_ret hR rfl rfl
    · subst h2
      rw [if_neg (by decide)] at hs
      repeat (first
        | refine ax_q (q_move rfl) ?_
        | refine ax_seq ?_
        | refine ax_region rfl ?_
        | refine ax_q (q_loadb_rp rfl rfl rfl rfl) ?_
        | refine ax_q (q_nilcheck_rp rfl) ?_
        | refine ax_q (q_field_rp rfl rfl rfl rfl rfl rfl) ?_)
      refine ax_callv rfl rfl rfl c2 ?_
      repeat (first
        | refine ax_q (q_assign rfl) ?_
        | refine ax_ops_nil ?_
        | refine ax_post_code ?_)
      refine ax_cond rfl (fun h3 => ?_) (fun h3 => ?_)
      · subst h3
        rw [if_pos rfl] at hs
        subst hs
        repeat (first
          | refine ax_q (q_assign rfl) ?_
          | refine ax_ops_nil ?_
          | refine ax_post_code ?_
          | refine ax_seq ?_
          | refine ax_region rfl ?_
          | refine ax_return ?_
          | refine ax_ret_code ?_
          | refine ax_ret_blk ?_)
        exact ax_ret hR rfl rfl
      · subst h3
        rw [if_neg (by decide)] at hs
        subst hs
        repeat (first
          | refine ax_q (q_assign rfl) ?_
          | refine ax_ops_nil ?_
          | refine ax_post_code ?_
          | refine ax_seq ?_
          | refine ax_region rfl ?_
          | refine ax_post_blk ?_
          | refine ax_skip ?_
          | refine ax_return ?_)
        exact ax_ret hR rfl rfl

theorem refless_plsC (ps : List Pl) : refless (plsC ps) := by
  intro i j _ hj
  match j, hj with
  | 0, _ => rfl
  | 1, _ => rfl
  | 2, _ => rfl
  | 3, _ => rfl
theorem reflP (ps : List Pl) : ∀ (h : Nat) (o : AObj), ([some ⟨82, plsC ps⟩, none] : AHeap)[h]? = some (some o) → refless o.c := by
  intro h o ho
  match h, ho with
  | 0, ho => simp at ho; subst ho; exact refless_plsC ps
  | 1, ho => simp at ho
  | _ + 2, ho => simp at ho
theorem subP {a b : AObj} : subH [some a, none] [some a, some b] := by
  intro h o ho
  match h, ho with
  | 0, ho => exact ho
  | 1, ho => simp at ho
  | _ + 2, ho => simp at ho
theorem Stage_o (n : Int) (ps : List Pl) (ch : Int) (hlen : ps.length ≤ 1000) : ACall Tryd.prog 30 [.ptr 1 0 0] (tabH n ps ch) (fun h => h < 2) (fun r H => r = .int .i64 (stageF ps ch) ∧ H = tabH n ps ch) := by
  refine acall_of_ax (P := Tryd.prog) (fn := Tryd.f30) rfl rfl (by kernel_rfl) rfl (fun c hR hfix => ?_)
  have c1 := containsP ps 52 (fun p => !p.com) hlen stage1
  have c2 := containsP ps 53 (fun p => !p.op) hlen stage2
  have hs : stageF ps ch = if 0 ≤ ch then 3 else if ps.any (fun p => !p.com) then 0 else if ps.any (fun p => !p.op) then 1 else 2 := rfl
  generalize stageF ps ch = r at *
  generalize ps.any (fun p => !p.com) = b1 at *
  generalize ps.any (fun p => !p.op) = b2 at *
  repeat (first
    | refine ax_q (q_move rfl) ?_
    | refine ax_q (q_assign rfl) ?_
    | refine ax_ops_nil ?_
    | refine ax_post_code ?_
    | refine ax_seq ?_
    | refine ax_region rfl ?_
    | refine ax_block ?_
    | refine ax_q (q_loadb_ptr rfl rfl rfl rfl rfl) ?_
    | refine ax_q (q_geq rfl rfl) ?_
    | refine ax_q (q_nilcheck_ptr rfl) ?_
    | refine ax_q (q_field_ptr rfl rfl rfl rfl rfl rfl) ?_)
  refine ax_cond_dec rfl (fun h1 => ?_) (fun h1 => ?_)
  · rw [if_pos h1] at hs
    subst hs
    repeat (first
      | refine ax_q (q_assign rfl) ?_
      | refine ax_ops_nil ?_
      | refine ax_post_code ?_
      | refine ax_seq ?_
      | refine ax_region rfl ?_
      | refine ax_return ?_
      | refine ax_ret_code ?_
      | refine ax_ret_blk ?_)
    exact ax_ret hR rfl ⟨rfl, rfl⟩
  · rw [if_neg h1] at hs
    repeat (first
      | refine ax_q (q_move rfl) ?_
      | refine ax_seq ?_
      | refine ax_region rfl ?_
      | refine ax_q (q_loadb_ptr rfl rfl rfl rfl rfl) ?_
      | refine ax_q (q_nilcheck_ptr rfl) ?_
      | refine ax_q (q_field_ptr rfl rfl rfl rfl rfl rfl) ?_)
    refine ax_callls [some ⟨82, plsC ps⟩, none] rfl rfl rfl rfl c1 subP (reflP ps) ⟨fun o ho => by simp at ho; subst ho; exact Nat.le_of_eq (Nat.zero_add _), trivial, trivial⟩ rfl rfl rfl ?_
    repeat (first
      | refine ax_q (q_assign rfl) ?_
      | refine ax_ops_nil ?_
      | refine ax_post_code ?_)
    refine ax_cond rfl (fun h2 => ?_) (fun h2 => ?_)
    · subst h2
      rw [if_pos rfl] at hs
      subst hs
      repeat (first
        | refine ax_q (q_assign rfl) ?_
        | refine ax_ops_nil ?_
        | refine ax_post_code ?_
        | refine ax_seq ?_
        | refine ax_region rfl ?_
        | refine ax_return ?_
        | refine ax_ret_code ?_
        | refine ax_ret_blk ?_)
      exact ax_ret hR rfl ⟨rfl, rfl⟩
    · subst h2
      rw [if_neg (by decide)] at hs
      repeat (first
        | refine ax_q (q_move rfl) ?_
        | refine ax_seq ?_
        | refine ax_region rfl ?_
        | refine ax_q (q_loadb_ptr rfl rfl rfl rfl rfl) ?_
        | refine ax_q (q_nilcheck_ptr rfl) ?_
        | refine ax_q (q_field_ptr rfl rfl rfl rfl rfl rfl) ?_)
      refine ax_callls [some ⟨82, plsC ps⟩, none] rfl rfl rfl rfl c2 subP (reflP ps) ⟨fun o ho => by simp at ho; subst ho; exact Nat.le_of_eq (Nat.zero_add _), trivial, trivial⟩ rfl rfl rfl ?_
      repeat (first
        | refine ax_q (q_assign rfl) ?_
        | refine ax_ops_nil ?_
        | refine ax_post_code ?_)
      refine ax_cond rfl (fun h3 => ?_) (fun h3 => ?_)
      · subst h3
        rw [if_pos rfl] at hs
        subst hs
        repeat (first
          | refine ax_q (q_assign rfl) ?_
          | refine ax_ops_nil ?_
          | refine ax_post_code ?_
          | refine ax_seq ?_
          | refine ax_region rfl ?_
          | refine ax_return ?_
          | refine ax_ret_code ?_
          | refine ax_ret_blk ?_)
        exact ax_ret hR rfl ⟨rfl, rfl⟩
      · subst h3
        rw [if_neg (by decide)] at hs
        subst hs
        repeat (first
          | refine ax_q (q_assign rfl) ?_
          | refine ax_ops_nil ?_
          | refine ax_post_code ?_
          | refine ax_seq ?_
          | refine ax_region rfl ?_
          | refine ax_post_blk ?_
          | refine ax_skip ?_
          | refine ax_return ?_)
        exact ax_ret hR rfl ⟨rfl, rfl⟩

end Go.Proofs.YtmfhdfofmdggaaaDoor

namespace Go.Proofs.YtmfhdfofmdggaaaDoor
open Go.Ax Go.Ax.Idx Go.Ax.Cd Go.Ax.Dl
attribute [local irreducible] Ax Post QOp ACall
set_option maxRecDepth 100000
set_option maxHeartbeats 4000000

theorem New_ok (k : Nat) (n : Int) (hk : 1 ≤ k ∧ k ≤ 6) (hn : 0 ≤ n ∧ n ≤ 52) : ACall Tryd.prog 34 [.int .i64 (k : Nat), .int .i64 n] [] (fun _ => False) (fun r H => r = .tup [.ptr 1 0 0, .int .i64 0] ∧ H = tabH n (List.replicate k pl0) (-1)) := by
  refine acall_of_ax (P := Tryd.prog) (fn := Tryd.f34) rfl rfl (by kernel_rfl) rfl (fun c hR hfix => ?_)
  repeat (first
    | refine ax_q (q_move rfl) ?_
    | refine ax_q (q_assign rfl) ?_
    | refine ax_ops_nil ?_
    | refine ax_post_code ?_
    | refine ax_seq ?_
    | refine ax_region rfl ?_
    | refine ax_q (q_lss rfl rfl) ?_)
  refine ax_gsplit rfl rfl (fun h => absurd h (by omega)) (fun h => ?_)
  repeat (first
    | refine ax_q (q_move rfl) ?_
    | refine ax_guard rfl rfl ?_
    | refine ax_q (q_gtr rfl rfl) ?_
    | refine ax_q (q_pick rfl rfl) ?_)
  refine ax_gsplit rfl rfl (fun h => absurd h (by omega)) (fun h => ?_)
  repeat (first
    | refine ax_q (q_move rfl) ?_
    | refine ax_guard rfl rfl ?_
    | refine ax_q (q_lss rfl rfl) ?_
    | refine ax_q (q_pick rfl rfl) ?_)
  refine ax_gsplit rfl rfl (fun h => absurd h (by omega)) (fun h => ?_)
  repeat (first
    | refine ax_q (q_move rfl) ?_
    | refine ax_ops_nil ?_
    | refine ax_post_code ?_
    | refine ax_guard rfl rfl ?_
    | refine ax_q (q_gtr rfl rfl) ?_
    | refine ax_q (q_pick rfl rfl) ?_)
  refine ax_cond_dec rfl (fun h => absurd h (by omega)) (fun h => ?_)
  repeat (first
    | refine ax_q (q_move rfl) ?_
    | refine ax_post_code ?_
    | refine ax_seq ?_
    | refine ax_region rfl ?_
    | refine ax_skip ?_)
  refine ax_make rfl rfl rfl rfl rfl rfl rfl rfl (by show 0 ≤ _ ∧ _ ≤ _ ∧ (40 : Int) * _ ≤ _ ∧ _; omega) ?_
  repeat (first
    | refine ax_q (q_assign rfl) ?_
    | refine ax_ops_nil ?_
    | refine ax_post_code ?_
    | refine ax_q (q_build rfl rfl rfl rfl rfl rfl) ?_
    | refine ax_box rfl rfl ?_)
  refine ax_heapA (tabH n (List.replicate k pl0) (-1)) rfl ?_ ?_
  · intro h o' ho'
    match h, ho' with
    | 0, ho' =>
      simp at ho'; subst ho'
      refine ⟨_, rfl, rfl, by show (List.replicate k pl0).length = ((k : Int)).toNat; simp, rfl, fun i j hi hj => ?_⟩
      have hi' : i < k := by
        have : i < (k : Int).toNat := hi
        omega
      show AEq _ ((plA ((List.replicate k pl0).getD i pl0)).getD j .any)
      rw [show (List.replicate k pl0).getD i pl0 = pl0 by simp [List.getD, List.getElem?_replicate, hi']]
      match j, hj with
      | 0, _ => exact AEq.rfl'
      | 1, _ => exact AEq.rfl'
      | 2, _ => exact AEq.rfl'
      | 3, _ => exact AEq.nil
    | 1, ho' =>
      simp at ho'; subst ho'
      refine ⟨_, rfl, rfl, rfl, rfl, fun i j hi hj => ?_⟩
      match j, hj with
      | 0, _ => exact AEq.rfl'
      | 1, _ => exact AEq.of_eq (by show AV.sl 0 0 ((k : Int)).toNat = AV.sl 0 0 k; simp)
      | 2, _ => exact AEq.rfl'
    | _ + 2, ho' => simp at ho'
  repeat (refine ax_return ?_)
  exact ax_ret hR rfl ⟨rfl, rfl⟩

theorem check_o (n : Int) (ps : List Pl) (ch i st : Int) (hlen : ps.length ≤ 1000) (hi : 0 ≤ i ∧ i < ps.length) (hst : stageF ps ch = st) : ACall Tryd.prog 54 [.ptr 1 0 0, .int .i64 i, .int .i64 st] (tabH n ps ch) (fun h => h < 2) (fun r H => r = .int .i64 0 ∧ H = tabH n ps ch) := by
  have hs := Stage_o n ps ch hlen
  rw [hst] at hs
  refine acall_of_ax (P := Tryd.prog) (fn := Tryd.f54) rfl rfl (by kernel_rfl) rfl (fun c hR hfix => ?_)
  repeat (first
    | refine ax_q (q_move rfl) ?_
    | refine ax_q (q_assign rfl) ?_
    | refine ax_ops_nil ?_
    | refine ax_post_code ?_
    | refine ax_seq ?_
    | refine ax_region rfl ?_
    | refine ax_q (q_lss rfl rfl) ?_)
  refine ax_gsplit rfl rfl (fun h => absurd h (by omega)) (fun h => ?_)
  repeat (first
    | refine ax_q (q_move rfl) ?_
    | refine ax_ops_nil ?_
    | refine ax_post_code ?_
    | refine ax_guard rfl rfl ?_
    | refine ax_q (q_loadb_ptr rfl rfl rfl rfl rfl) ?_
    | refine ax_q (q_geq rfl rfl) ?_
    | refine ax_q (q_pick rfl rfl) ?_
    | refine ax_q (q_len rfl rfl rfl) ?_
    | refine ax_q (q_nilcheck_ptr rfl) ?_
    | refine ax_q (q_field_ptr rfl rfl rfl rfl rfl rfl) ?_)
  refine ax_cond_dec rfl (fun h => absurd h (by omega)) (fun h => ?_)
  repeat (first
    | refine ax_q (q_move rfl) ?_
    | refine ax_post_code ?_
    | refine ax_seq ?_
    | refine ax_region rfl ?_
    | refine ax_skip ?_)
  refine ax_callc rfl rfl rfl hs (fun _ h => h) (fun _ h => h) ?_
  rintro r H ⟨rfl, rfl⟩
  repeat (first
    | refine ax_q (q_move rfl) ?_
    | refine ax_ops_nil ?_
    | refine ax_post_code ?_
    | refine ax_q (q_neq rfl rfl) ?_)
  refine ax_cond_dec rfl (fun h => absurd rfl h) (fun h => ?_)
  repeat (first
    | refine ax_q (q_assign rfl) ?_
    | refine ax_ops_nil ?_
    | refine ax_post_code ?_
    | refine ax_seq ?_
    | refine ax_region rfl ?_
    | refine ax_skip ?_
    | refine ax_return ?_)
  exact ax_ret hR rfl ⟨rfl, rfl⟩

theorem Commit_ok (n : Int) (ps : List Pl) (ch i s : Int) (hlen : ps.length ≤ 1000) (hi : 0 ≤ i ∧ i < ps.length) (hst : stageF ps ch = 0) (hc : (ps.getD i.toNat pl0).com = false) :
    ACall Tryd.prog 36 [.ptr 1 0 0, .int .i64 i, .int .u64 s] (tabH n ps ch) (fun h => h < 2)
      (fun r H => r = .int .i64 0 ∧ H = tabH n (ps.set i.toNat ⟨true, (ps.getD i.toNat pl0).op, s, (ps.getD i.toNat pl0).dr⟩) ch) := by
  have hck := check_o n ps ch i 0 hlen hi hst
  refine acall_of_ax (P := Tryd.prog) (fn := Tryd.f36) rfl rfl (by kernel_rfl) rfl (fun c hR hfix => ?_)
  repeat (first
    | refine ax_q (q_move rfl) ?_
    | refine ax_q (q_assign rfl) ?_
    | refine ax_ops_nil ?_
    | refine ax_post_code ?_
    | refine ax_seq ?_
    | refine ax_region rfl ?_)
  refine ax_callc rfl rfl rfl hck (fun _ h => h) (fun _ h => h) ?_
  rintro r H ⟨rfl, rfl⟩
  have hi2 : i.toNat < ps.length := by omega
  repeat (first
    | refine ax_q (q_move rfl) ?_
    | refine ax_q (q_assign rfl) ?_
    | refine ax_ops_nil ?_
    | refine ax_post_code ?_
    | refine ax_seq ?_
    | refine ax_region rfl ?_
    | refine ax_cond_false rfl ?_
    | refine ax_skip ?_
    | refine ax_q (q_loadb_ptr rfl rfl rfl rfl rfl) ?_
    | refine ax_q (q_neq rfl rfl) ?_
    | refine ax_q (q_index_sl' rfl rfl rfl rfl rfl (by first | (simp only [Nat.zero_add, Int.toNat_natCast, Int.toNat_zero]; exact rfl) | exact rfl) (by omega)) ?_
    | refine ax_q (q_loadf_ptr rfl rfl rfl rfl rfl (by first | assumption | omega)) ?_
    | refine ax_q (q_nilcheck_ptr rfl) ?_
    | refine ax_q (q_field_ptr rfl rfl rfl rfl rfl rfl) ?_)
  refine ax_slot 24 (.bool false) rfl (AEq.of_eq (by show AV.bool (ps.getD i.toNat pl0).com = _; rw [hc])) ?_
  repeat (first
    | refine ax_q (q_move rfl) ?_
    | refine ax_q (q_assign rfl) ?_
    | refine ax_ops_nil ?_
    | refine ax_post_code ?_
    | refine ax_seq ?_
    | refine ax_region rfl ?_
    | refine ax_cond_false rfl ?_
    | refine ax_skip ?_
    | refine ax_q (q_nilcheck_ptr rfl) ?_
    | refine ax_q (q_field_ptr rfl rfl rfl rfl rfl rfl) ?_
    | refine ax_store rfl rfl rfl rfl rfl rfl rfl (by first | assumption | (show _ < List.length _; first | assumption | omega)) ?_)
  refine ax_heapA (tabH n (ps.set i.toNat ⟨true, (ps.getD i.toNat pl0).op, s, (ps.getD i.toNat pl0).dr⟩) ch) rfl ?_ ?_
  · intro h o' ho'
    match h, ho' with
    | 0, ho' =>
      simp at ho'; subst ho'
      refine ⟨_, rfl, rfl, by show (ps.set i.toNat _).length = ps.length; simp, rfl, fun i' j hi' hj => AEq.of_eq ?_⟩
      refine Eq.trans ?_ (pls_set ps i.toNat _ hi2 i' j).symm
      by_cases hii : i' = i.toNat
      · subst hii
        rw [if_pos rfl]
        have hb : Nat.beq i.toNat i.toNat = true := Nat.beq_refl _
        match j, hj with
        | 0, _ => show (bif Nat.beq i.toNat i.toNat && false then _ else bif Nat.beq i.toNat i.toNat && true then AV.bool true else _) = _; rw [hb]; rfl
        | 1, _ => show (bif Nat.beq i.toNat i.toNat && false then _ else bif Nat.beq i.toNat i.toNat && false then _ else _) = _; rw [hb]; rfl
        | 2, _ => show (bif Nat.beq i.toNat i.toNat && true then AV.int .u64 s else _) = _; rw [hb]; rfl
        | 3, _ => show (bif Nat.beq i.toNat i.toNat && false then _ else bif Nat.beq i.toNat i.toNat && false then _ else _) = _; rw [hb]; rfl
      · rw [if_neg hii]
        have hb : Nat.beq i' i.toNat = false := beq_ne hii
        show (bif Nat.beq i' i.toNat && _ then _ else bif Nat.beq i' i.toNat && _ then _ else _) = _
        rw [hb]; rfl
    | 1, ho' =>
      simp at ho'; subst ho'
      exact ⟨_, rfl, rfl, rfl, rfl, fun i j hi hj => AEq.rfl'⟩
    | _ + 2, ho' => simp at ho'
  repeat (refine ax_return ?_)
  exact ax_ret hR rfl ⟨rfl, rfl⟩
end Go.Proofs.YtmfhdfofmdggaaaDoor

namespace Go.Proofs.YtmfhdfofmdggaaaDoor
open Go.Ax Go.Ax.Idx Go.Ax.Cd Go.Ax.Dl
attribute [local irreducible] Ax Post QOp ACall
set_option maxRecDepth 100000
set_option maxHeartbeats 4000000

theorem below_tab (n : Int) (ps : List Pl) (ch : Int) : ∀ (h : Nat) (o : AObj), (tabH n ps ch)[h]? = some (some o) → ∀ i j, i < o.c.len → j < o.c.sz → belowA (tabH n ps ch).length (o.c.at i j) = true := by
  intro h o ho i j hi hj
  match h, ho with
  | 0, ho =>
    simp at ho; subst ho
    match j, hj with
    | 0, _ => rfl
    | 1, _ => rfl
    | 2, _ => rfl
    | 3, _ => rfl
  | 1, ho =>
    simp at ho; subst ho
    match j, hj with
    | 0, _ => rfl
    | 1, _ => rfl
    | 2, _ => rfl
  | _ + 2, ho => simp at ho
theorem sub3 {a b d : AObj} : subH [none, none, some d] [some a, some b, some d] := by
  intro h o ho
  match h, ho with
  | 0, ho => simp at ho
  | 1, ho => simp at ho
  | 2, ho => exact ho
  | _ + 3, ho => simp at ho
theorem refl3n {d : AObj} (hd : refless d.c) : ∀ (h : Nat) (o : AObj), ([none, none, some d] : AHeap)[h]? = some (some o) → refless o.c := by
  intro h o ho
  match h, ho with
  | 0, ho => simp at ho
  | 1, ho => simp at ho
  | 2, ho => simp at ho; subst ho; exact hd
  | _ + 3, ho => simp at ho
theorem noFz3 {a b d : AObj} : ∀ (h : Nat) (o' : AObj), ([some a, some b, none] : AHeap)[h]? = some (some o') → (∀ o : AObj, ([none, none, some d] : AHeap)[h]? ≠ some (some o)) ∧ ∃ o : AObj, ([some a, some b, some d] : AHeap)[h]? = some (some o) ∧ o'.ty = o.ty ∧ o'.c.len = o.c.len ∧ o'.c.sz = o.c.sz ∧ ∀ i j, i < o.c.len → j < o.c.sz → FzTo [none, none, some d] (o.c.at i j) (o'.c.at i j) := by
  intro h o' ho'
  match h, ho' with
  | 0, ho' => exact ⟨fun o h => by simp at h, o', ho', rfl, rfl, rfl, fun _ _ _ _ => .inl rfl⟩
  | 1, ho' => exact ⟨fun o h => by simp at h, o', ho', rfl, rfl, rfl, fun _ _ _ _ => .inl rfl⟩
  | 2, ho' => simp at ho'
  | _ + 3, ho' => simp at ho'

theorem Open_ok (n : Int) (ps : List Pl) (ch i salt : Int) (l : List Int) (hn : 0 ≤ n ∧ n ≤ 52) (hl : l.length ≤ 100000) (hlen : ps.length ≤ 1000) (hi : 0 ≤ i ∧ i < ps.length) (hst : stageF ps ch = 1) (ho : (ps.getD i.toNat pl0).op = false)
    (hf : fitsF n l = 0) (hs : sealF l salt = (ps.getD i.toNat pl0).sl) :
    ACall Tryd.prog 37 [.ptr 1 0 0, .int .i64 i, .ro (.ints .i64 l) 0 l.length, .int .i64 salt] (tabH n ps ch) (fun h => h < 2)
      (fun r H => r = .tup [.bool true, .int .i64 0] ∧ H = tabH n (ps.set i.toNat ⟨(ps.getD i.toNat pl0).com, true, (ps.getD i.toNat pl0).sl, l⟩) ch) := by
  have hck := check_o n ps ch i 1 hlen hi hst
  have hfit := fits n l (by omega)
  rw [hf] at hfit
  have hse := seal_ l salt hl
  rw [hs] at hse
  refine acall_of_ax (P := Tryd.prog) (fn := Tryd.f37) rfl rfl (by kernel_rfl) rfl (fun c hR hfix => ?_)
  repeat (first
    | refine ax_q (q_move rfl) ?_
    | refine ax_q (q_assign rfl) ?_
    | refine ax_ops_nil ?_
    | refine ax_post_code ?_
    | refine ax_seq ?_
    | refine ax_region rfl ?_)
  refine ax_callc rfl rfl rfl hck (fun _ h => h) (fun _ h => h) ?_
  rintro r H ⟨rfl, rfl⟩
  have hi2 : i.toNat < ps.length := by omega
  repeat (first
    | refine ax_q (q_move rfl) ?_
    | refine ax_q (q_assign rfl) ?_
    | refine ax_ops_nil ?_
    | refine ax_post_code ?_
    | refine ax_seq ?_
    | refine ax_region rfl ?_
    | refine ax_cond_false rfl ?_
    | refine ax_skip ?_
    | refine ax_q (q_loadb_ptr rfl rfl rfl rfl rfl) ?_
    | refine ax_q (q_neq rfl rfl) ?_
    | refine ax_q (q_index_sl' rfl rfl rfl rfl rfl (by first | (simp only [Nat.zero_add, Int.toNat_natCast, Int.toNat_zero]; exact rfl) | exact rfl) (by omega)) ?_
    | refine ax_q (q_loadf_ptr rfl rfl rfl rfl rfl (by first | assumption | omega)) ?_
    | refine ax_q (q_nilcheck_ptr rfl) ?_
    | refine ax_q (q_field_ptr rfl rfl rfl rfl rfl rfl) ?_)
  refine ax_slot 27 (.bool false) rfl (AEq.of_eq (by show AV.bool (ps.getD i.toNat pl0).op = _; rw [ho])) ?_
  repeat (first
    | refine ax_post_code ?_
    | refine ax_seq ?_
    | refine ax_cond_false rfl ?_
    | refine ax_skip ?_)
  refine ax_regiond (by kernel_rfl) ?_
  refine ax_any_q 0 rfl (by kernel_rfl) (by kernel_rfl) (by kernel_rfl) rfl (q_move rfl) rfl ?_
  refine ax_any_q 1 rfl (by kernel_rfl) (by kernel_rfl) (by kernel_rfl) rfl (q_nilcheck_ptr rfl) rfl ?_
  refine ax_any_q 2 rfl (by kernel_rfl) (by kernel_rfl) (by kernel_rfl) rfl (q_field_ptr rfl rfl rfl rfl rfl rfl) rfl ?_
  refine ax_any_q 4 rfl (by kernel_rfl) (by kernel_rfl) (by kernel_rfl) rfl (q_move rfl) rfl ?_
  refine ax_any_step (is := [3]) (by kernel_rfl) (by simp) rfl ⟨fun o ho => ?_, trivial⟩
  all_goals (cases ho)
  repeat (first
    | refine ax_ops_nil ?_
    | refine ax_post_any ?_
    | refine ax_q (q_loadb_ptr rfl rfl rfl rfl rfl) ?_)
  refine ax_any_step (is := [5]) (by kernel_rfl) (by simp) rfl ⟨fun o ho => ?_, trivial⟩
  all_goals (cases ho)
  skip
  refine ax_callv rfl rfl rfl hfit ?_
  repeat (first
    | refine ax_ops_nil ?_
    | refine ax_post_any ?_)
  refine ax_any_q 6 rfl (by kernel_rfl) (by kernel_rfl) (by kernel_rfl) rfl (q_neq rfl rfl) rfl ?_
  refine ax_any_q 7 rfl (by kernel_rfl) (by kernel_rfl) (by kernel_rfl) rfl (q_move rfl) rfl ?_
  refine ax_any_qg 8 rfl (by kernel_rfl) (by kernel_rfl) (by kernel_rfl) rfl rfl rfl (q_move rfl) rfl ?_
  refine ax_any_qg 9 rfl (by kernel_rfl) (by kernel_rfl) (by kernel_rfl) rfl rfl rfl (q_move rfl) rfl ?_
  refine ax_any_qg 11 rfl (by kernel_rfl) (by kernel_rfl) (by kernel_rfl) rfl rfl rfl (q_move rfl) rfl ?_
  refine ax_any_qg 12 rfl (by kernel_rfl) (by kernel_rfl) (by kernel_rfl) rfl rfl rfl (q_nilcheck_ptr rfl) rfl ?_
  refine ax_any_qg 13 rfl (by kernel_rfl) (by kernel_rfl) (by kernel_rfl) rfl rfl rfl (q_field_ptr rfl rfl rfl rfl rfl rfl) rfl ?_
  refine ax_any_step (is := [10, 14]) (by kernel_rfl) (by simp) rfl ⟨fun o ho => ?_, fun o ho => ?_, trivial⟩
  all_goals (cases ho)
  · repeat (refine ax_guard rfl rfl ?_)
    refine ax_callv rfl rfl rfl hse ?_
    repeat (first
      | refine ax_ops_nil ?_
      | refine ax_post_any ?_)
    refine ax_any_step (is := [14]) (by kernel_rfl) (by simp) rfl ⟨fun o ho => ?_, trivial⟩
    all_goals (cases ho)
    repeat (first
      | refine ax_ops_nil ?_
      | refine ax_guard rfl rfl ?_
      | refine ax_post_any ?_
      | refine ax_q (q_loadf_ptr rfl rfl rfl rfl rfl (by first | assumption | omega)) ?_)
    refine ax_slot_any 42 (.int .u64 (ps.getD i.toNat pl0).sl) rfl (AEq.of_eq rfl) ?_
    refine ax_any_qg 15 rfl (by kernel_rfl) (by kernel_rfl) (by kernel_rfl) rfl rfl rfl (q_neq rfl rfl) rfl ?_
    refine ax_any_q 16 rfl (by kernel_rfl) (by kernel_rfl) (by kernel_rfl) rfl (q_pick rfl rfl) rfl ?_
    refine ax_any_done (by kernel_rfl) ?_
    repeat (refine ax_post_code ?_)
    refine ax_cond_dec rfl (fun h => absurd rfl h) (fun h => ?_)
    repeat (first
      | refine ax_q (q_move rfl) ?_
      | refine ax_post_code ?_
      | refine ax_seq ?_
      | refine ax_region rfl ?_
      | refine ax_skip ?_)
    refine ax_callf rfl rfl rfl (clone l (by omega)) ?_
    repeat (first
      | refine ax_q (q_nilcheck_ptr rfl) ?_
      | refine ax_q (q_field_ptr rfl rfl rfl rfl rfl rfl) ?_)
    refine ax_freeze_ops [none, none, some ⟨3, .ints .i64 l⟩] [some ⟨82, plsC ps⟩, some ⟨80, .box [.int .i64 n, .sl 0 0 ps.length, .int .i64 ch]⟩, none] [(54, .ptr 0 i.toNat 1), (50, .ptr 0 i.toNat 0), (52, .ro (.ints .i64 l) 0 l.length)] sub3 (refl3n refless_ints) rfl noFz3
      ⟨⟨_, rfl, .inl rfl⟩, ⟨_, rfl, .inl rfl⟩, ⟨_, rfl, .inr (.inr ⟨rfl, fun o ho => by simp at ho; subst ho; exact Nat.le_of_eq (Nat.zero_add _)⟩)⟩, trivial⟩ ?_
    refine ax_cutP_ops (tabH n ps ch) [none] [(54, .ptr 0 i.toNat 1), (50, .ptr 0 i.toNat 0), (52, .ro (.ints .i64 l) 0 l.length)] rfl ⟨rfl, rfl, rfl, trivial⟩ (by rw [hfix]; exact fun h hh => hh) (below_tab n ps ch) rfl ?_
    repeat (first
      | refine ax_q (q_assign rfl) ?_
      | refine ax_ops_nil ?_
      | refine ax_post_code ?_
      | refine ax_seq ?_
      | refine ax_region rfl ?_
      | refine ax_q (q_nilcheck_ptr rfl) ?_
      | refine ax_q (q_field_ptr rfl rfl rfl rfl rfl rfl) ?_
      | refine ax_store rfl rfl rfl rfl rfl rfl rfl (by first | assumption | (show _ < List.length _; first | assumption | omega)) ?_)
    refine ax_heapA (tabH n (ps.set i.toNat ⟨(ps.getD i.toNat pl0).com, true, (ps.getD i.toNat pl0).sl, l⟩) ch) rfl ?_ ?_
    · intro h o' ho'
      match h, ho' with
      | 0, ho' =>
        simp at ho'; subst ho'
        refine ⟨_, rfl, rfl, by show (ps.set i.toNat _).length = ps.length; simp, rfl, fun i' j hi' hj => AEq.of_eq ?_⟩
        refine Eq.trans ?_ (pls_set ps i.toNat _ hi2 i' j).symm
        by_cases hii : i' = i.toNat
        · subst hii
          rw [if_pos rfl]
          have hb : Nat.beq i.toNat i.toNat = true := Nat.beq_refl _
          match j, hj with
          | 0, _ => show (bif Nat.beq i.toNat i.toNat && false then _ else bif Nat.beq i.toNat i.toNat && false then _ else _) = _; rw [hb]; rfl
          | 1, _ => show (bif Nat.beq i.toNat i.toNat && false then _ else bif Nat.beq i.toNat i.toNat && true then AV.bool true else _) = _; rw [hb]; rfl
          | 2, _ => show (bif Nat.beq i.toNat i.toNat && false then _ else bif Nat.beq i.toNat i.toNat && false then _ else _) = _; rw [hb]; rfl
          | 3, _ => show (bif Nat.beq i.toNat i.toNat && true then AV.ro (.ints .i64 l) 0 l.length else _) = _; rw [hb]; rfl
        · rw [if_neg hii]
          have hb : Nat.beq i' i.toNat = false := beq_ne hii
          show (bif Nat.beq i' i.toNat && _ then _ else bif Nat.beq i' i.toNat && _ then _ else _) = _
          rw [hb]; rfl
      | 1, ho' =>
        simp at ho'; subst ho'
        exact ⟨_, rfl, rfl, rfl, rfl, fun i j hi hj => AEq.rfl'⟩
      | _ + 2, ho' => simp at ho'
    repeat (refine ax_return ?_)
    exact ax_ret hR rfl ⟨rfl, rfl⟩
  · repeat (first
      | refine ax_ops_nil ?_
      | refine ax_guard rfl rfl ?_
      | refine ax_post_any ?_
      | refine ax_q (q_loadf_ptr rfl rfl rfl rfl rfl (by first | assumption | omega)) ?_)
    refine ax_any_step (is := [10]) (by kernel_rfl) (by simp) rfl ⟨fun o ho => ?_, trivial⟩
    all_goals (cases ho)
    repeat (refine ax_guard rfl rfl ?_)
    refine ax_callv rfl rfl rfl hse ?_
    repeat (first
      | refine ax_ops_nil ?_
      | refine ax_post_any ?_)
    refine ax_slot_any 42 (.int .u64 (ps.getD i.toNat pl0).sl) rfl (AEq.of_eq rfl) ?_
    refine ax_any_qg 15 rfl (by kernel_rfl) (by kernel_rfl) (by kernel_rfl) rfl rfl rfl (q_neq rfl rfl) rfl ?_
    refine ax_any_q 16 rfl (by kernel_rfl) (by kernel_rfl) (by kernel_rfl) rfl (q_pick rfl rfl) rfl ?_
    refine ax_any_done (by kernel_rfl) ?_
    repeat (refine ax_post_code ?_)
    refine ax_cond_dec rfl (fun h => absurd rfl h) (fun h => ?_)
    repeat (first
      | refine ax_q (q_move rfl) ?_
      | refine ax_post_code ?_
      | refine ax_seq ?_
      | refine ax_region rfl ?_
      | refine ax_skip ?_)
    refine ax_callf rfl rfl rfl (clone l (by omega)) ?_
    repeat (first
      | refine ax_q (q_nilcheck_ptr rfl) ?_
      | refine ax_q (q_field_ptr rfl rfl rfl rfl rfl rfl) ?_)
    refine ax_freeze_ops [none, none, some ⟨3, .ints .i64 l⟩] [some ⟨82, plsC ps⟩, some ⟨80, .box [.int .i64 n, .sl 0 0 ps.length, .int .i64 ch]⟩, none] [(54, .ptr 0 i.toNat 1), (50, .ptr 0 i.toNat 0), (52, .ro (.ints .i64 l) 0 l.length)] sub3 (refl3n refless_ints) rfl noFz3
      ⟨⟨_, rfl, .inl rfl⟩, ⟨_, rfl, .inl rfl⟩, ⟨_, rfl, .inr (.inr ⟨rfl, fun o ho => by simp at ho; subst ho; exact Nat.le_of_eq (Nat.zero_add _)⟩)⟩, trivial⟩ ?_
    refine ax_cutP_ops (tabH n ps ch) [none] [(54, .ptr 0 i.toNat 1), (50, .ptr 0 i.toNat 0), (52, .ro (.ints .i64 l) 0 l.length)] rfl ⟨rfl, rfl, rfl, trivial⟩ (by rw [hfix]; exact fun h hh => hh) (below_tab n ps ch) rfl ?_
    repeat (first
      | refine ax_q (q_assign rfl) ?_
      | refine ax_ops_nil ?_
      | refine ax_post_code ?_
      | refine ax_seq ?_
      | refine ax_region rfl ?_
      | refine ax_q (q_nilcheck_ptr rfl) ?_
      | refine ax_q (q_field_ptr rfl rfl rfl rfl rfl rfl) ?_
      | refine ax_store rfl rfl rfl rfl rfl rfl rfl (by first | assumption | (show _ < List.length _; first | assumption | omega)) ?_)
    refine ax_heapA (tabH n (ps.set i.toNat ⟨(ps.getD i.toNat pl0).com, true, (ps.getD i.toNat pl0).sl, l⟩) ch) rfl ?_ ?_
    · intro h o' ho'
      match h, ho' with
      | 0, ho' =>
        simp at ho'; subst ho'
        refine ⟨_, rfl, rfl, by show (ps.set i.toNat _).length = ps.length; simp, rfl, fun i' j hi' hj => AEq.of_eq ?_⟩
        refine Eq.trans ?_ (pls_set ps i.toNat _ hi2 i' j).symm
        by_cases hii : i' = i.toNat
        · subst hii
          rw [if_pos rfl]
          have hb : Nat.beq i.toNat i.toNat = true := Nat.beq_refl _
          match j, hj with
          | 0, _ => show (bif Nat.beq i.toNat i.toNat && false then _ else bif Nat.beq i.toNat i.toNat && false then _ else _) = _; rw [hb]; rfl
          | 1, _ => show (bif Nat.beq i.toNat i.toNat && false then _ else bif Nat.beq i.toNat i.toNat && true then AV.bool true else _) = _; rw [hb]; rfl
          | 2, _ => show (bif Nat.beq i.toNat i.toNat && false then _ else bif Nat.beq i.toNat i.toNat && false then _ else _) = _; rw [hb]; rfl
          | 3, _ => show (bif Nat.beq i.toNat i.toNat && true then AV.ro (.ints .i64 l) 0 l.length else _) = _; rw [hb]; rfl
        · rw [if_neg hii]
          have hb : Nat.beq i' i.toNat = false := beq_ne hii
          show (bif Nat.beq i' i.toNat && _ then _ else bif Nat.beq i' i.toNat && _ then _ else _) = _
          rw [hb]; rfl
      | 1, ho' =>
        simp at ho'; subst ho'
        exact ⟨_, rfl, rfl, rfl, rfl, fun i j hi hj => AEq.rfl'⟩
      | _ + 2, ho' => simp at ho'
    repeat (refine ax_return ?_)
    exact ax_ret hR rfl ⟨rfl, rfl⟩
end Go.Proofs.YtmfhdfofmdggaaaDoor

namespace Go.Proofs.YtmfhdfofmdggaaaDoor
open Go.Ax Go.Ax.Idx Go.Ax.Cd Go.Ax.Dl
attribute [local irreducible] Ax Post QOp ACall
set_option maxRecDepth 100000
set_option maxHeartbeats 4000000

theorem Open_false (n : Int) (ps : List Pl) (ch i salt : Int) (l : List Int) (hn : 0 ≤ n ∧ n ≤ 52) (hl : l.length ≤ 100000) (hlen : ps.length ≤ 1000) (hi : 0 ≤ i ∧ i < ps.length) (hst : stageF ps ch = 1) (ho : (ps.getD i.toNat pl0).op = false)
    (hf : fitsF n l = 0) (hs : ¬ sealF l salt = (ps.getD i.toNat pl0).sl) :
    ACall Tryd.prog 37 [.ptr 1 0 0, .int .i64 i, .ro (.ints .i64 l) 0 l.length, .int .i64 salt] (tabH n ps ch) (fun h => h < 2)
      (fun r H => r = .tup [.bool false, .int .i64 0] ∧ H = tabH n ps i) := by
  have hck := check_o n ps ch i 1 hlen hi hst
  have hfit := fits n l (by omega)
  rw [hf] at hfit
  have hse := seal_ l salt hl
  generalize sealF l salt = sv at *
  refine acall_of_ax (P := Tryd.prog) (fn := Tryd.f37) rfl rfl (by kernel_rfl) rfl (fun c hR hfix => ?_)
  repeat (first
    | refine ax_q (q_move rfl) ?_
    | refine ax_q (q_assign rfl) ?_
    | refine ax_ops_nil ?_
    | refine ax_post_code ?_
    | refine ax_seq ?_
    | refine ax_region rfl ?_)
  refine ax_callc rfl rfl rfl hck (fun _ h => h) (fun _ h => h) ?_
  rintro r H ⟨rfl, rfl⟩
  have hi2 : i.toNat < ps.length := by omega
  repeat (first
    | refine ax_q (q_move rfl) ?_
    | refine ax_q (q_assign rfl) ?_
    | refine ax_ops_nil ?_
    | refine ax_post_code ?_
    | refine ax_seq ?_
    | refine ax_region rfl ?_
    | refine ax_cond_false rfl ?_
    | refine ax_skip ?_
    | refine ax_q (q_loadb_ptr rfl rfl rfl rfl rfl) ?_
    | refine ax_q (q_neq rfl rfl) ?_
    | refine ax_q (q_index_sl' rfl rfl rfl rfl rfl (by first | (simp only [Nat.zero_add, Int.toNat_natCast, Int.toNat_zero]; exact rfl) | exact rfl) (by omega)) ?_
    | refine ax_q (q_loadf_ptr rfl rfl rfl rfl rfl (by first | assumption | omega)) ?_
    | refine ax_q (q_nilcheck_ptr rfl) ?_
    | refine ax_q (q_field_ptr rfl rfl rfl rfl rfl rfl) ?_)
  refine ax_slot 27 (.bool false) rfl (AEq.of_eq (by show AV.bool (ps.getD i.toNat pl0).op = _; rw [ho])) ?_
  repeat (first
    | refine ax_post_code ?_
    | refine ax_seq ?_
    | refine ax_cond_false rfl ?_
    | refine ax_skip ?_)
  refine ax_regiond (by kernel_rfl) ?_
  refine ax_any_q 0 rfl (by kernel_rfl) (by kernel_rfl) (by kernel_rfl) rfl (q_move rfl) rfl ?_
  refine ax_any_q 1 rfl (by kernel_rfl) (by kernel_rfl) (by kernel_rfl) rfl (q_nilcheck_ptr rfl) rfl ?_
  refine ax_any_q 2 rfl (by kernel_rfl) (by kernel_rfl) (by kernel_rfl) rfl (q_field_ptr rfl rfl rfl rfl rfl rfl) rfl ?_
  refine ax_any_q 4 rfl (by kernel_rfl) (by kernel_rfl) (by kernel_rfl) rfl (q_move rfl) rfl ?_
  refine ax_any_step (is := [3]) (by kernel_rfl) (by simp) rfl ⟨fun o ho => ?_, trivial⟩
  all_goals (cases ho)
  repeat (first
    | refine ax_ops_nil ?_
    | refine ax_post_any ?_
    | refine ax_q (q_loadb_ptr rfl rfl rfl rfl rfl) ?_)
  refine ax_any_step (is := [5]) (by kernel_rfl) (by simp) rfl ⟨fun o ho => ?_, trivial⟩
  all_goals (cases ho)
  skip
  refine ax_callv rfl rfl rfl hfit ?_
  repeat (first
    | refine ax_ops_nil ?_
    | refine ax_post_any ?_)
  refine ax_any_q 6 rfl (by kernel_rfl) (by kernel_rfl) (by kernel_rfl) rfl (q_neq rfl rfl) rfl ?_
  refine ax_any_q 7 rfl (by kernel_rfl) (by kernel_rfl) (by kernel_rfl) rfl (q_move rfl) rfl ?_
  refine ax_any_qg 8 rfl (by kernel_rfl) (by kernel_rfl) (by kernel_rfl) rfl rfl rfl (q_move rfl) rfl ?_
  refine ax_any_qg 9 rfl (by kernel_rfl) (by kernel_rfl) (by kernel_rfl) rfl rfl rfl (q_move rfl) rfl ?_
  refine ax_any_qg 11 rfl (by kernel_rfl) (by kernel_rfl) (by kernel_rfl) rfl rfl rfl (q_move rfl) rfl ?_
  refine ax_any_qg 12 rfl (by kernel_rfl) (by kernel_rfl) (by kernel_rfl) rfl rfl rfl (q_nilcheck_ptr rfl) rfl ?_
  refine ax_any_qg 13 rfl (by kernel_rfl) (by kernel_rfl) (by kernel_rfl) rfl rfl rfl (q_field_ptr rfl rfl rfl rfl rfl rfl) rfl ?_
  refine ax_any_step (is := [10, 14]) (by kernel_rfl) (by simp) rfl ⟨fun o ho => ?_, fun o ho => ?_, trivial⟩
  all_goals (cases ho)
  · repeat (refine ax_guard rfl rfl ?_)
    refine ax_callv rfl rfl rfl hse ?_
    repeat (first
      | refine ax_ops_nil ?_
      | refine ax_post_any ?_)
    refine ax_any_step (is := [14]) (by kernel_rfl) (by simp) rfl ⟨fun o ho => ?_, trivial⟩
    all_goals (cases ho)
    repeat (first
      | refine ax_ops_nil ?_
      | refine ax_guard rfl rfl ?_
      | refine ax_post_any ?_
      | refine ax_q (q_loadf_ptr rfl rfl rfl rfl rfl (by first | assumption | omega)) ?_)
    refine ax_slot_any 42 (.int .u64 (ps.getD i.toNat pl0).sl) rfl (AEq.of_eq rfl) ?_
    refine ax_any_qg 15 rfl (by kernel_rfl) (by kernel_rfl) (by kernel_rfl) rfl rfl rfl (q_neq rfl rfl) rfl ?_
    refine ax_any_q 16 rfl (by kernel_rfl) (by kernel_rfl) (by kernel_rfl) rfl (q_pick rfl rfl) rfl ?_
    refine ax_any_done (by kernel_rfl) ?_
    repeat (refine ax_post_code ?_)
    refine ax_cond_dec rfl (fun h => ?_) (fun h => absurd hs h)
    repeat (first
      | refine ax_q (q_move rfl) ?_
      | refine ax_q (q_assign rfl) ?_
      | refine ax_ops_nil ?_
      | refine ax_post_code ?_
      | refine ax_seq ?_
      | refine ax_region rfl ?_
      | refine ax_return ?_
      | refine ax_ret_code ?_
      | refine ax_q (q_nilcheck_ptr rfl) ?_
      | refine ax_q (q_field_ptr rfl rfl rfl rfl rfl rfl) ?_
      | refine ax_store rfl rfl rfl rfl rfl rfl rfl Nat.zero_lt_one ?_)
    exact ax_ret hR rfl ⟨rfl, rfl⟩
  · repeat (first
      | refine ax_ops_nil ?_
      | refine ax_guard rfl rfl ?_
      | refine ax_post_any ?_
      | refine ax_q (q_loadf_ptr rfl rfl rfl rfl rfl (by first | assumption | omega)) ?_)
    refine ax_any_step (is := [10]) (by kernel_rfl) (by simp) rfl ⟨fun o ho => ?_, trivial⟩
    all_goals (cases ho)
    repeat (refine ax_guard rfl rfl ?_)
    refine ax_callv rfl rfl rfl hse ?_
    repeat (first
      | refine ax_ops_nil ?_
      | refine ax_post_any ?_)
    refine ax_slot_any 42 (.int .u64 (ps.getD i.toNat pl0).sl) rfl (AEq.of_eq rfl) ?_
    refine ax_any_qg 15 rfl (by kernel_rfl) (by kernel_rfl) (by kernel_rfl) rfl rfl rfl (q_neq rfl rfl) rfl ?_
    refine ax_any_q 16 rfl (by kernel_rfl) (by kernel_rfl) (by kernel_rfl) rfl (q_pick rfl rfl) rfl ?_
    refine ax_any_done (by kernel_rfl) ?_
    repeat (refine ax_post_code ?_)
    refine ax_cond_dec rfl (fun h => ?_) (fun h => absurd hs h)
    repeat (first
      | refine ax_q (q_move rfl) ?_
      | refine ax_q (q_assign rfl) ?_
      | refine ax_ops_nil ?_
      | refine ax_post_code ?_
      | refine ax_seq ?_
      | refine ax_region rfl ?_
      | refine ax_return ?_
      | refine ax_ret_code ?_
      | refine ax_q (q_nilcheck_ptr rfl) ?_
      | refine ax_q (q_field_ptr rfl rfl rfl rfl rfl rfl) ?_
      | refine ax_store rfl rfl rfl rfl rfl rfl rfl Nat.zero_lt_one ?_)
    exact ax_ret hR rfl ⟨rfl, rfl⟩
end Go.Proofs.YtmfhdfofmdggaaaDoor

namespace Go.Proofs.YtmfhdfofmdggaaaDoor
open Go.Ax Go.Ax.Idx Go.Ax.Cd Go.Ax.Dl
attribute [local irreducible] Ax Post QOp ACall
set_option maxRecDepth 100000
set_option maxHeartbeats 4000000

theorem Cheat_r (n : Int) (ps : List Pl) (ch : Int) : VCall Tryd.prog 38 [.rp (tabC n ps ch) 0 0] (.tup [.int .i64 (if ch < 0 then 0 else ch), .int .i64 (if ch < 0 then 8 else 0)]) := by
  refine ACall.value0 (acall_of_ax (P := Tryd.prog) (fn := Tryd.f38) rfl rfl (by kernel_rfl) rfl (fun c hR hfix => ?_)) (fix := fun _ => False) (fun _ h => h) rfl rfl
  repeat (first
    | refine ax_q (q_move rfl) ?_
    | refine ax_q (q_assign rfl) ?_
    | refine ax_ops_nil ?_
    | refine ax_post_code ?_
    | refine ax_seq ?_
    | refine ax_region rfl ?_
    | refine ax_q (q_lss rfl rfl) ?_
    | refine ax_q (q_loadb_rp rfl rfl rfl rfl) ?_
    | refine ax_q (q_nilcheck_rp rfl) ?_
    | refine ax_q (q_field_rp rfl rfl rfl rfl rfl rfl) ?_)
  refine ax_cond_dec rfl (fun h => ?_) (fun h => ?_)
  · rw [if_pos h, if_pos h] at hR
    repeat (first
      | refine ax_q (q_assign rfl) ?_
      | refine ax_ops_nil ?_
      | refine ax_post_code ?_
      | refine ax_seq ?_
      | refine ax_region rfl ?_
      | refine ax_return ?_
      | refine ax_ret_code ?_)
    exact ax_ret hR rfl rfl
  · rw [if_neg h, if_neg h] at hR
    repeat (first
      | refine ax_q (q_move rfl) ?_
      | refine ax_q (q_assign rfl) ?_
      | refine ax_ops_nil ?_
      | refine ax_post_code ?_
      | refine ax_seq ?_
      | refine ax_region rfl ?_
      | refine ax_skip ?_
      | refine ax_return ?_
      | refine ax_q (q_loadb_rp rfl rfl rfl rfl) ?_
      | refine ax_q (q_nilcheck_rp rfl) ?_
      | refine ax_q (q_field_rp rfl rfl rfl rfl rfl rfl) ?_)
    exact ax_ret hR rfl rfl

theorem Missing_r (n : Int) (ps : List Pl) (ch : Int) (hlen : ps.length ≤ 1000) (hst : 2 ≤ stageF ps ch) : VCall Tryd.prog 31 [.rp (tabC n ps ch) 0 0] .nil := by
  have hs := Stage_r n ps ch hlen
  refine ACall.value0 (acall_of_ax (P := Tryd.prog) (fn := Tryd.f31) rfl rfl (by kernel_rfl) rfl (fun c hR hfix => ?_)) (fix := fun _ => False) (fun _ h => h) rfl rfl
  generalize stageF ps ch = st at *
  repeat (first
    | refine ax_q (q_move rfl) ?_
    | refine ax_q (q_assign rfl) ?_
    | refine ax_ops_nil ?_
    | refine ax_post_code ?_
    | refine ax_seq ?_
    | refine ax_region rfl ?_)
  refine ax_callv rfl rfl rfl hs ?_
  repeat (first
    | refine ax_q (q_move rfl) ?_
    | refine ax_q (q_assign rfl) ?_
    | refine ax_ops_nil ?_
    | refine ax_post_code ?_
    | refine ax_seq ?_
    | refine ax_region rfl ?_
    | refine ax_block ?_
    | refine ax_q (q_len rfl rfl rfl) ?_
    | refine ax_q (q_loadb_rp rfl rfl rfl rfl) ?_
    | refine ax_q (q_nilcheck_rp rfl) ?_
    | refine ax_q (q_field_rp rfl rfl rfl rfl rfl rfl) ?_)
  refine ax_loop (ι := Nat) (fun i => [(3, .int .i64 st), (4, .nil), (12, .ro (plsC ps) 0 ps.length), (13, .int .i64 (ps.length : Nat)), (14, .int .i64 (i : Nat))]) (fun _ => []) (fun i => i ≤ ps.length) (fun i => ps.length - i) 0 ⟨⟨rfl, rfl, rfl, rfl, rfl, trivial⟩, rfl, Nat.zero_le _⟩ ?_
  rintro i hi
  repeat (first
    | refine ax_ops_nil ?_
    | refine ax_post_code ?_
    | refine ax_seq ?_
    | refine ax_region rfl ?_
    | refine ax_q (q_lss rfl rfl) ?_)
  refine ax_cond_dec rfl (fun h1 => ?_) (fun h1 => ?_)
  · have hil : i < ps.length := by omega
    repeat (first
      | refine ax_q (q_move rfl) ?_
      | refine ax_q (q_assign rfl) ?_
      | refine ax_post_code ?_
      | refine ax_seq ?_
      | refine ax_region rfl ?_
      | refine ax_block ?_
      | refine ax_skip ?_
      | refine ax_q (q_index_ro' rfl rfl rfl rfl (by first | (simp only [Nat.zero_add, Int.toNat_natCast, Int.toNat_zero]; exact rfl) | exact rfl) (by omega)) ?_
      | refine ax_q (q_loadagg_rp rfl rfl rfl rfl rfl rfl) ?_
      | refine ax_alloc rfl rfl rfl ?_)
    refine ax_slot_ops 18 (.agg (plA (ps.getD i pl0))) rfl (AEq.of_eq rfl) ?_
    refine ax_storeagg (c' := .box (plA (ps.getD i pl0))) rfl rfl rfl rfl rfl Nat.zero_lt_one rfl rfl (fun i' j' hi' hj' => ?_) ?_
    · rw [if_pos (Nat.lt_one_iff.1 hi')]; rfl
    repeat (first
      | refine ax_q (q_move rfl) ?_
      | refine ax_ops_nil ?_
      | refine ax_post_code ?_
      | refine ax_seq ?_
      | refine ax_region rfl ?_
      | refine ax_q (q_eql rfl rfl) ?_)
    refine ax_gsplit rfl rfl (fun h2 => absurd h2 (by omega)) (fun h2 => ?_)
    repeat (first
      | refine ax_q (q_move rfl) ?_
      | refine ax_guard rfl rfl ?_
      | refine ax_skip_not rfl rfl rfl ?_
      | refine ax_q (q_eql rfl rfl) ?_
      | refine ax_q (q_pick rfl rfl) ?_)
    refine ax_gsplit rfl rfl (fun h3 => absurd h3 (by omega)) (fun h3 => ?_)
    repeat (first
      | refine ax_ops_nil ?_
      | refine ax_post_code ?_
      | refine ax_guard rfl rfl ?_
      | refine ax_skip_not rfl rfl rfl ?_
      | refine ax_cond_false rfl ?_
      | refine ax_post_blk ?_
      | refine ax_skip ?_
      | refine ax_q (q_pick rfl rfl) ?_)
    refine ax_cut [] [some ⟨82, .box (plA (ps.getD i pl0))⟩] [(3, .int .i64 st), (4, .nil), (12, .ro (plsC ps) 0 ps.length), (13, .int .i64 (ps.length : Nat)), (14, .int .i64 (i : Nat))] rfl ⟨rfl, rfl, rfl, rfl, rfl, trivial⟩ (by rw [hfix]; exact fun h hh => hh.elim) rfl rfl ?_
    repeat (first
      | refine ax_q (q_move rfl) ?_
      | refine ax_ops_nil ?_
      | refine ax_region rfl ?_
      | refine ax_q (q_add rfl rfl (by omega)) ?_)
    exact ax_post_inv ⟨i + 1, by omega, by omega, ⟨rfl, rfl, rfl, rfl, rfl, trivial⟩, rfl⟩
  · repeat (first
      | refine ax_q (q_move rfl) ?_
      | refine ax_q (q_assign rfl) ?_
      | refine ax_ops_nil ?_
      | refine ax_post_code ?_
      | refine ax_seq ?_
      | refine ax_region rfl ?_
      | refine ax_exit ?_
      | refine ax_exit_here ?_
      | refine ax_exit_code ?_
      | refine ax_exit_inv ?_
      | refine ax_return ?_)
    exact ax_ret hR rfl rfl
end Go.Proofs.YtmfhdfofmdggaaaDoor

/-
  All draws make different decks, in plain Lean. No program in sight.
-/
namespace Go.Ax.Cd
open Go.Ax.Idx

def fac : Nat → Nat
  | 0 => 1
  | n + 1 => fac n * (n + 1)
theorem fac_pos : ∀ n, 0 < fac n
  | 0 => Nat.one_pos
  | n + 1 => Nat.mul_pos (fac_pos n) (Nat.succ_pos _)
theorem fac_le {k : Nat} (h : k ≤ 5) : fac k ≤ 120 := by
  match k, h with
  | 0, _ => decide
  | 1, _ => decide
  | 2, _ => decide
  | 3, _ => decide
  | 4, _ => decide
  | 5, _ => decide
/-- The draws with number x. -/
def dX : Nat → Nat → List Int
  | 0, _ => []
  | 1, _ => []
  | i + 2, x => ((x % (i + 2) : Nat) : Int) :: dX (i + 1) (x / (i + 2))
theorem dX_step {i x : Nat} (h : 1 < i) : dX i x = ((x % i : Nat) : Int) :: dX (i - 1) (x / i) := by
  obtain ⟨j, rfl⟩ : ∃ j, i = j + 2 := ⟨i - 2, by omega⟩
  rfl
theorem dX_end {i x : Nat} (h : ¬ 1 < i) : dX i x = [] := by
  match i, h with
  | 0, _ => rfl
  | 1, _ => rfl
  | _ + 2, h => exact absurd (by omega) h
theorem dX_length (i x : Nat) : (dX i x).length = i - 1 := by
  induction i generalizing x with
  | zero => rfl
  | succ i ih => cases i with
    | zero => rfl
    | succ i => simp only [dX, List.length_cons, ih]; omega
theorem dX_bd (i x : Nat) : ∀ p, p < (dX i x).length → 0 ≤ (dX i x).getD p 0 ∧ (dX i x).getD p 0 ≤ (i : Int) - 1 - p := by
  induction i generalizing x with
  | zero => intro p hp; simp [dX] at hp
  | succ i ih => cases i with
    | zero => intro p hp; simp [dX] at hp
    | succ i =>
      intro p hp
      cases p with
      | zero =>
        have := Nat.mod_lt x (show 0 < i + 2 by omega)
        simp only [dX, List.getD_cons_zero]
        omega
      | succ p =>
        have := ih (x / (i + 2)) p (by simpa [dX] using hp)
        simp only [dX, List.getD_cons_succ]
        omega
theorem dX_inj : ∀ (i x y : Nat), x < fac i → y < fac i → dX i x = dX i y → x = y
  | 0, x, y, hx, hy, _ => by simp [fac] at hx hy; omega
  | 1, x, y, hx, hy, _ => by simp [fac] at hx hy; omega
  | i + 2, x, y, hx, hy, h => by
    simp only [dX, List.cons.injEq] at h
    have hx' : x / (i + 2) < fac (i + 1) := (Nat.div_lt_iff_lt_mul (by omega)).2 hx
    have hy' : y / (i + 2) < fac (i + 1) := (Nat.div_lt_iff_lt_mul (by omega)).2 hy
    have h2 := dX_inj (i + 1) _ _ hx' hy' h.2
    have h1 : x % (i + 2) = y % (i + 2) := by omega
    rw [← Nat.div_add_mod x (i + 2), ← Nat.div_add_mod y (i + 2), h1, h2]
def permX (n x : Nat) : List Int := shufF (iota n) (dX n x)
theorem iota_getD {n i : Nat} (h : i < n) : (iota n).getD i 0 = i := by simp [iota, List.getD, h]
theorem iota_deck {n : Nat} (h : n ≤ 52) : deckF (iota n) = 0 := by
  refine deckF_iff.2 ⟨by rw [iota_length]; exact h, fun c hc => ?_, fun i j hi hj e => ?_⟩
  · obtain ⟨i, hi, rfl⟩ := List.getElem_of_mem hc
    rw [iota_length] at hi
    rw [← getD_lt 0, iota_getD hi]; omega
  · rw [iota_length] at hi hj
    rw [iota_getD hi, iota_getD hj] at e; omega
theorem dX_fits (n x : Nat) : fitsF n (dX n x) = 0 := by
  rcases Nat.eq_zero_or_pos n with h | h
  · subst h; exact fits0.2 rfl
  · refine (fitsF_iff h).2 ⟨by rw [dX_length]; omega, fun i hi => ?_⟩
    have := dX_bd n x i hi
    rw [Nat.zero_add]; exact this
theorem permX_length (n x : Nat) : (permX n x).length = n := by unfold permX shufF; rw [shufGo_length, iota_length]
theorem permX_inj {n x y : Nat} (hn : n ≤ 52) (hx : x < fac n) (hy : y < fac n) (h : permX n x = permX n y) : x = y := by
  have h1 := (cardsBack_plain (l := iota n) (ds := dX n x) (iota_deck hn) (by rw [iota_length]; exact dX_fits n x)).2.2.2.1
  have h2 := (cardsBack_plain (l := iota n) (ds := dX n y) (iota_deck hn) (by rw [iota_length]; exact dX_fits n y)).2.2.2.1
  unfold permX at h
  rw [h] at h1
  exact dX_inj n x y hx hy (h1.symm.trans h2)
end Go.Ax.Cd

namespace Go.Proofs.YtmfhdfofmdggaaaDoor
open Go.Ax Go.Ax.Idx Go.Ax.Cd Go.Ax.Dl
attribute [local irreducible] Ax Post QOp ACall
set_option maxRecDepth 100000
set_option maxHeartbeats 4000000

theorem refless_rowsD (ls : List (List Int)) : refless (rowsI ls) := fun _ _ _ _ => rfl
theorem comb_len (n : Nat) (ls : List (List Int)) : (combF n ls).length = n - 1 := by
  unfold combF
  rw [foldl_addF_length, List.length_replicate]
  split <;> omega
theorem comb_in {n : Nat} (ls : List (List Int)) : ∀ out : List Int, (∀ l ∈ ls, fitsF n l = 0) → InR n out → out.length + 1 = n → InR n (ls.foldl (addF n 0) out) := by
  induction ls with
  | nil => intro out _ h _; exact h
  | cons l r ih =>
    intro out hf h hl
    obtain ⟨e1, e2⟩ := fitsF_ok (by omega) (hf l (by simp))
    have hl2 : l.length = n - 1 := by
      split at e1 <;> omega
    exact ih _ (fun x hx => hf x (by simp [hx])) (addF_in h (by omega) (by omega)) (by rw [addF_length]; exact hl)
theorem comb_fits {n : Nat} (ls : List (List Int)) (hf : ∀ l ∈ ls, fitsF n l = 0) : fitsF n (combF n ls) = 0 := by
  have hl := comb_len n ls
  rcases Nat.eq_zero_or_pos n with h0 | hpos
  · subst h0
    rw [List.length_eq_zero_iff.mp (by omega : (combF (0 : Nat) ls).length = 0)]
    rfl
  · have hin : InR n (combF n ls) := by
      unfold combF
      refine comb_in ls _ hf (fun i hi => ?_) (by rw [List.length_replicate]; split <;> omega)
      rw [List.length_replicate] at hi
      have hrep : ∀ m : Nat, (List.replicate m (0 : Int)).getD i 0 = 0 := fun m => by simp only [List.getD, List.getElem?_replicate]; split <;> rfl
      rw [hrep]
      split at hi <;> omega
    refine (fitsF_iff hpos).2 ⟨by omega, fun i hi => ?_⟩
    have := hin i hi
    omega

/-- No deck before the end. -/
theorem Deck_no (n : Int) (ps : List Pl) (ch : Int) (hlen : ps.length ≤ 1000) (hst : ¬ stageF ps ch = 2) : VCall Tryd.prog 29 [.rp (tabC n ps ch) 0 0] (.tup [.nil, .int .i64 10]) := by
  have hs := Stage_r n ps ch hlen
  refine ACall.value0 (acall_of_ax (P := Tryd.prog) (fn := Tryd.f29) rfl rfl (by kernel_rfl) rfl (fun c hR hfix => ?_)) (fix := fun _ => False) (fun _ h => h) rfl rfl
  generalize stageF ps ch = st at *
  repeat (first
    | refine ax_q (q_move rfl) ?_
    | refine ax_q (q_assign rfl) ?_
    | refine ax_ops_nil ?_
    | refine ax_post_code ?_
    | refine ax_seq ?_
    | refine ax_region rfl ?_)
  refine ax_callv rfl rfl rfl hs ?_
  repeat (first
    | refine ax_ops_nil ?_
    | refine ax_post_code ?_
    | refine ax_q (q_neq rfl rfl) ?_)
  refine ax_cond_dec rfl (fun h1 => ?_) (fun h1 => absurd hst h1)
  repeat (first
    | refine ax_q (q_assign rfl) ?_
    | refine ax_ops_nil ?_
    | refine ax_post_code ?_
    | refine ax_seq ?_
    | refine ax_region rfl ?_
    | refine ax_return ?_
    | refine ax_ret_code ?_)
  exact ax_ret hR rfl rfl

theorem Deck_r (n : Nat) (ps : List Pl) (ch : Int) (hn : n ≤ 52) (h6 : 1 ≤ ps.length ∧ ps.length ≤ 6) (hst : stageF ps ch = 2) (hf : ∀ k, k < ps.length → fitsF n (ps.getD k pl0).dr = 0) :
    VCall Tryd.prog 29 [.rp (tabC n ps ch) 0 0] (.tup [.ro (.ints .i64 (shufF (iota n) (combF n (ps.map Pl.dr)))) 0 n, .int .i64 0]) := by
  have hs := Stage_r n ps ch (by omega)
  rw [hst] at hs
  refine ACall.value0 (acall_of_ax (P := Tryd.prog) (fn := Tryd.f29) rfl rfl (by kernel_rfl) rfl (fun c hR hfix => ?_)) (fix := fun _ => False) (fun _ h => h) rfl rfl
  repeat (first
    | refine ax_q (q_move rfl) ?_
    | refine ax_q (q_assign rfl) ?_
    | refine ax_ops_nil ?_
    | refine ax_post_code ?_
    | refine ax_seq ?_
    | refine ax_region rfl ?_)
  refine ax_callv rfl rfl rfl hs ?_
  repeat (first
    | refine ax_q (q_move rfl) ?_
    | refine ax_q (q_assign rfl) ?_
    | refine ax_ops_nil ?_
    | refine ax_post_code ?_
    | refine ax_seq ?_
    | refine ax_region rfl ?_
    | refine ax_cond_false rfl ?_
    | refine ax_skip ?_
    | refine ax_q (q_neq rfl rfl) ?_
    | refine ax_q (q_len rfl rfl rfl) ?_
    | refine ax_q (q_loadb_rp rfl rfl rfl rfl) ?_
    | refine ax_q (q_nilcheck_rp rfl) ?_
    | refine ax_q (q_field_rp rfl rfl rfl rfl rfl rfl) ?_)
  refine ax_nilobj 4 ⟨22, rowsI []⟩ rfl rfl ?_
  repeat (refine ax_block ?_)
  refine ax_loop (ι := Nat) (fun i => [(0, .rp (tabC n ps ch) 0 0), (4, .sl 0 0 i), (17, .ro (plsC ps) 0 ps.length), (18, .int .i64 (ps.length : Nat)), (19, .int .i64 (i : Nat))]) (fun i => [some ⟨22, rowsI ((ps.map Pl.dr).take i)⟩])
    (fun i => i ≤ ps.length) (fun i => ps.length - i) 0 ⟨⟨rfl, rfl, rfl, rfl, rfl, trivial⟩, rfl, Nat.zero_le _⟩ ?_
  rintro i hi
  repeat (first
    | refine ax_ops_nil ?_
    | refine ax_post_code ?_
    | refine ax_seq ?_
    | refine ax_region rfl ?_
    | refine ax_q (q_lss rfl rfl) ?_)
  refine ax_cond_dec rfl (fun h1 => ?_) (fun h1 => ?_)
  · have hil : i < ps.length := by omega
    have htk := take_succ_getD (ps.map Pl.dr) [] i (by simpa using hil)
    have hml : ((ps.map Pl.dr).take i).length = i := by rw [List.length_take, List.length_map]; omega
    have hdr : (ps.map Pl.dr).getD i [] = (ps.getD i pl0).dr := by simp [List.getD, hil]
    rw [hdr] at htk
    generalize (ps.map Pl.dr).take i = ds at *
    repeat (first
      | refine ax_post_code ?_
      | refine ax_seq ?_
      | refine ax_region rfl ?_
      | refine ax_block ?_
      | refine ax_skip ?_
      | refine ax_q (q_index_ro' rfl rfl rfl rfl (by first | (simp only [Nat.zero_add, Int.toNat_natCast, Int.toNat_zero]; exact rfl) | exact rfl) (by omega)) ?_
      | refine ax_q (q_loadagg_rp rfl rfl rfl rfl rfl rfl) ?_
      | refine ax_alloc rfl rfl rfl ?_)
    refine ax_slot_ops 22 (.agg (plA (ps.getD i pl0))) rfl (AEq.of_eq rfl) ?_
    refine ax_storeagg (c' := .box (plA (ps.getD i pl0))) rfl rfl rfl rfl rfl Nat.zero_lt_one rfl rfl (fun i' j' hi' hj' => ?_) ?_
    · rw [if_pos (Nat.lt_one_iff.1 hi')]; rfl
    repeat (first
      | refine ax_q (q_move rfl) ?_
      | refine ax_ops_nil ?_
      | refine ax_post_code ?_
      | refine ax_region rfl ?_
      | refine ax_q (q_loadb_ptr rfl rfl rfl rfl rfl) ?_
      | refine ax_q (q_field_ptr rfl rfl rfl rfl rfl rfl) ?_
      | refine ax_buildSliceRo rfl rfl rfl rfl rfl rfl rfl rfl rfl rfl rfl ?_)
    refine ax_append rfl rfl rfl rfl rfl rfl rfl rfl rfl hml rfl rfl (by show 0 + 1 ≤ 1; omega) rfl (by show (i + 1) * 24 ≤ _ ∧ _; omega) ?_ (by rw [hfix]; exact fun h => h) ?_
    · intro i' j hi hj
      exact rowsI_noref ds (ps.getD i pl0).dr _ rfl 0 i' j hi hj
    repeat (first
      | refine ax_q (q_assign rfl) ?_
      | refine ax_ops_nil ?_
      | refine ax_post_blk ?_)
    refine ax_post_code ?_
    refine ax_heap ([some ⟨22, rowsI ((ps.map Pl.dr).take (i + 1))⟩] ++ [none]) ?_ ?_
    · rw [htk]
      exact HSub.eqv (rowsI_snoc ds (ps.getD i pl0).dr _ rfl) (HSub.drop HSub.nil)
    refine ax_drop (H1 := [some ⟨22, rowsI ((ps.map Pl.dr).take (i + 1))⟩]) rfl (by rw [hfix]; exact fun h => h) ?_
    repeat (first
      | refine ax_q (q_move rfl) ?_
      | refine ax_ops_nil ?_
      | refine ax_region rfl ?_
      | refine ax_q (q_add rfl rfl (by omega)) ?_)
    exact ax_post_inv ⟨i + 1, by omega, by omega, ⟨rfl, rfl, rfl, rfl, rfl, trivial⟩, rfl⟩
  · have hil : i = ps.length := by omega
    subst hil
    rw [List.take_of_length_le (by rw [List.length_map]; omega)]
    have hml : (ps.map Pl.dr).length = ps.length := List.length_map _
    have hco := Combine_ok n (by omega) (ps.map Pl.dr) (by omega) (fun k hk => by
      rw [hml] at hk
      rw [show (ps.map Pl.dr).getD k [] = (ps.getD k pl0).dr by simp [List.getD, hk]]
      exact hf k hk)
    rw [hml] at hco
    repeat (first
      | refine ax_q (q_move rfl) ?_
      | refine ax_post_code ?_
      | refine ax_seq ?_
      | refine ax_region rfl ?_
      | refine ax_exit ?_
      | refine ax_exit_here ?_
      | refine ax_exit_code ?_
      | refine ax_exit_inv ?_
      | refine ax_q (q_loadb_rp rfl rfl rfl rfl) ?_
      | refine ax_q (q_nilcheck_rp rfl) ?_
      | refine ax_q (q_field_rp rfl rfl rfl rfl rfl rfl) ?_)
    refine ax_freeze_ops [some ⟨22, rowsI (ps.map Pl.dr)⟩] [none] [(34, .ro (rowsI (ps.map Pl.dr)) 0 ps.length), (33, .int .i64 (n : Nat)), (0, .rp (tabC n ps ch) 0 0)] (fun _ _ h => h) (refl1 (refless_rowsD _)) rfl ?_
      ⟨⟨_, rfl, .inr (.inr ⟨rfl, fun o ho => by simp at ho; subst ho; exact Nat.le_of_eq (by show 0 + ps.length = (ps.map Pl.dr).length; omega)⟩)⟩, ⟨_, rfl, .inl rfl⟩, ⟨_, rfl, .inl rfl⟩, trivial⟩ ?_
    · intro h o' ho'
      match h, ho' with
      | 0, ho' => simp at ho'
      | _ + 1, ho' => simp at ho'
    have hcb := comb_fits (ps.map Pl.dr) (fun l hl => by
      obtain ⟨k, hk, rfl⟩ := List.getElem_of_mem hl
      have := hf k (by rw [hml] at hk; exact hk)
      simpa [List.getD, show k < ps.length by rw [hml] at hk; exact hk] using this)
    generalize combF n (ps.map Pl.dr) = cb at *
    refine ax_callv rfl rfl rfl hco ?_
    repeat (first
      | refine ax_q (q_move rfl) ?_
      | refine ax_q (q_assign rfl) ?_
      | refine ax_ops_nil ?_
      | refine ax_post_code ?_
      | refine ax_seq ?_
      | refine ax_region rfl ?_
      | refine ax_cond_false rfl ?_
      | refine ax_skip ?_
      | refine ax_q (q_neq rfl rfl) ?_
      | refine ax_q (q_extract rfl rfl) ?_
      | refine ax_q (q_loadb_rp rfl rfl rfl rfl) ?_
      | refine ax_q (q_nilcheck_rp rfl) ?_
      | refine ax_q (q_field_rp rfl rfl rfl rfl rfl rfl) ?_)
    refine ax_callv rfl rfl rfl (Fresh_ok n hn) ?_
    repeat (first
      | refine ax_q (q_move rfl) ?_
      | refine ax_q (q_assign rfl) ?_
      | refine ax_ops_nil ?_
      | refine ax_post_code ?_
      | refine ax_seq ?_
      | refine ax_region rfl ?_
      | refine ax_q (q_extract rfl rfl) ?_)
    have hsh := Shuffle_ok (iota n) cb (by rw [iota_length]; omega) (by unfold shufE; rw [if_neg (by have := iota_deck hn; omega), iota_length]; exact hcb)
    rw [iota_length] at hsh
    refine ax_callv rfl rfl rfl hsh ?_
    repeat (first
      | refine ax_q (q_assign rfl) ?_
      | refine ax_ops_nil ?_
      | refine ax_post_code ?_
      | refine ax_return ?_
      | refine ax_q (q_extract rfl rfl) ?_)
    exact ax_ret hR rfl rfl
end Go.Proofs.YtmfhdfofmdggaaaDoor

/-
  A deal that all players open honestly, in plain Lean. No program in sight.
-/
namespace Go.Ax.Dl
open Go.Ax.Idx Go.Ax.Cd

def comPl (ls : List (List Int)) (i j : Nat) : Pl := if j < i then ⟨true, false, sealF (ls.getD j []) j, []⟩ else pl0
def opPl (ls : List (List Int)) (i j : Nat) : Pl := ⟨true, decide (j < i), sealF (ls.getD j []) j, if j < i then ls.getD j [] else []⟩
/-- The players behind i commitments; behind i openings. -/
def comPs (ls : List (List Int)) (i : Nat) : List Pl := (List.range ls.length).map (comPl ls i)
def opPs (ls : List (List Int)) (i : Nat) : List Pl := (List.range ls.length).map (opPl ls i)
theorem comPs_length (ls : List (List Int)) (i : Nat) : (comPs ls i).length = ls.length := by simp [comPs]
theorem opPs_length (ls : List (List Int)) (i : Nat) : (opPs ls i).length = ls.length := by simp [opPs]
theorem rangeMap_getD {f : Nat → Pl} {n k : Nat} (h : k < n) : ((List.range n).map f).getD k pl0 = f k := by simp [List.getD, h]
theorem rangeMap_set {f g : Nat → Pl} {n k : Nat} (h : ∀ j, j ≠ k → f j = g j) : ((List.range n).map f).set k (g k) = (List.range n).map g := by
  apply List.ext_getElem
  · simp
  · intro i h1 h2
    simp only [List.length_map, List.length_range] at h2
    rw [List.getElem_set]
    split
    · rename_i e; subst e; simp
    · rename_i e; simp [h i (fun q => e q.symm)]
theorem comPs_zero (ls : List (List Int)) : comPs ls 0 = List.replicate ls.length pl0 := by
  apply List.ext_getElem
  · simp [comPs]
  · intro i h1 h2; simp [comPs, comPl]
theorem comPs_getD {ls : List (List Int)} {i : Nat} (h : i < ls.length) : (comPs ls i).getD i pl0 = pl0 := by
  unfold comPs; rw [rangeMap_getD h]; unfold comPl; rw [if_neg (Nat.lt_irrefl _)]
theorem comPs_set {ls : List (List Int)} {i : Nat} (h : i < ls.length) : (comPs ls i).set i ⟨true, false, sealF (ls.getD i []) i, []⟩ = comPs ls (i + 1) := by
  have e : comPl ls (i + 1) i = ⟨true, false, sealF (ls.getD i []) i, []⟩ := by unfold comPl; rw [if_pos (Nat.lt_succ_self _)]
  rw [← e]
  refine rangeMap_set (fun j hj => ?_)
  unfold comPl
  by_cases hlt : j < i
  · rw [if_pos hlt, if_pos (by omega)]
  · rw [if_neg hlt, if_neg (by omega)]
theorem comPs_full (ls : List (List Int)) : comPs ls ls.length = opPs ls 0 := by
  unfold comPs opPs
  refine List.map_congr_left (fun j hj => ?_)
  have := List.mem_range.1 hj
  unfold comPl opPl
  rw [if_pos this, if_neg (Nat.not_lt_zero _)]
  simp
theorem opPs_getD {ls : List (List Int)} {i k : Nat} (h : k < ls.length) : (opPs ls i).getD k pl0 = opPl ls i k := by
  unfold opPs; rw [rangeMap_getD h]
theorem opPs_set {ls : List (List Int)} {i : Nat} (h : i < ls.length) : (opPs ls i).set i ⟨true, true, sealF (ls.getD i []) i, ls.getD i []⟩ = opPs ls (i + 1) := by
  have e : opPl ls (i + 1) i = ⟨true, true, sealF (ls.getD i []) i, ls.getD i []⟩ := by unfold opPl; rw [if_pos (Nat.lt_succ_self _)]; simp
  rw [← e]
  refine rangeMap_set (fun j hj => ?_)
  unfold opPl
  by_cases hlt : j < i
  · rw [if_pos hlt, if_pos (by omega)]; simp [hlt, show j < i + 1 by omega]
  · rw [if_neg hlt, if_neg (by omega)]; simp [hlt, show ¬ j < i + 1 by omega]
theorem stageN (ps : List Pl) : (if (0 : Int) ≤ -1 then 3 else if ps.any (fun p => !p.com) then 0 else if ps.any (fun p => !p.op) then 1 else 2) = (if ps.any (fun p => !p.com) then 0 else if ps.any (fun p => !p.op) then 1 else 2 : Int) := by rw [if_neg (by decide)]
theorem anyCom {ls : List (List Int)} {i : Nat} (h : i < ls.length) : (comPs ls i).any (fun p => !p.com) = true := by
  rw [List.any_eq_true]
  refine ⟨comPl ls i i, List.mem_map.2 ⟨i, List.mem_range.2 h, rfl⟩, ?_⟩
  unfold comPl; rw [if_neg (Nat.lt_irrefl _)]; rfl
theorem noCom (ls : List (List Int)) (i : Nat) : (opPs ls i).any (fun p => !p.com) = false := by
  rw [List.any_eq_false]
  intro p hp
  obtain ⟨j, _, rfl⟩ := List.mem_map.1 hp
  simp [opPl]
theorem anyOp {ls : List (List Int)} {i : Nat} (h : i < ls.length) : (opPs ls i).any (fun p => !p.op) = true := by
  rw [List.any_eq_true]
  refine ⟨opPl ls i i, List.mem_map.2 ⟨i, List.mem_range.2 h, rfl⟩, ?_⟩
  simp [opPl]
theorem noOp (ls : List (List Int)) : (opPs ls ls.length).any (fun p => !p.op) = false := by
  rw [List.any_eq_false]
  intro p hp
  obtain ⟨j, hj, rfl⟩ := List.mem_map.1 hp
  have := List.mem_range.1 hj
  simp [opPl, this]
theorem opPs_dr (ls : List (List Int)) : (opPs ls ls.length).map Pl.dr = ls := by
  apply List.ext_getElem
  · simp [opPs]
  · intro i h1 h2
    simp [opPs, opPl, h2, List.getD]

/-- Different draws, different sums. -/
theorem addF_getD (n : Int) (i : Nat) (out d : List Int) (hl : i + d.length ≤ out.length) : ∀ j, j < out.length → (addF n i out d).getD j 0 = if i ≤ j ∧ j < i + d.length then (out.getD j 0 + d.getD (j - i) 0) % (n - j) else out.getD j 0 := by
  induction d generalizing i out with
  | nil => intro j hj; rw [addF, if_neg (by simp)]
  | cons x r ih =>
    intro j hj
    simp only [List.length_cons] at hl ⊢
    rw [addF, ih (i + 1) _ (by simp; omega) j (by simpa using hj)]
    rw [getD_set (by omega)]
    by_cases h1 : j = i
    · subst h1
      rw [if_neg (by omega), if_pos rfl, if_pos (by omega), Nat.sub_self, List.getD_cons_zero]
    · rw [if_neg h1]
      by_cases h2 : i ≤ j ∧ j < i + (r.length + 1)
      · rw [if_pos (by omega), if_pos h2]
        rw [show j - i = (j - (i + 1)) + 1 by omega, List.getD_cons_succ]
      · rw [if_neg (by omega), if_neg h2]
theorem emod_inj {a x y m : Int} (hx : 0 ≤ x ∧ x < m) (hy : 0 ≤ y ∧ y < m) (h : (a + x) % m = (a + y) % m) : x = y := by
  have h1 : m ∣ (a + x) - (a + y) := Int.dvd_of_emod_eq_zero (by rw [Int.sub_emod, h, Int.sub_self, Int.zero_emod])
  obtain ⟨k, hk⟩ := h1
  have h2 : x - y = m * k := by omega
  have hm : 0 < m := by omega
  rcases Int.lt_trichotomy k 0 with hk0 | hk0 | hk0
  · have : m * k ≤ m * (-1) := Int.mul_le_mul_of_nonneg_left (by omega) (by omega)
    omega
  · subst hk0; omega
  · have : m * 1 ≤ m * k := Int.mul_le_mul_of_nonneg_left (by omega) (by omega)
    omega
theorem comb_inj {n : Nat} {o d e : List Int} (ho : fitsF n o = 0) (hd : fitsF n d = 0) (he : fitsF n e = 0) (h : combF n [o, d] = combF n [o, e]) : d = e := by
  rcases Nat.eq_zero_or_pos n with h0 | hpos
  · subst h0
    rw [fits0.1 hd, fits0.1 he]
  · obtain ⟨ol, _⟩ := (fitsF_iff hpos).1 ho
    obtain ⟨dl, db⟩ := (fitsF_iff hpos).1 hd
    obtain ⟨el, eb⟩ := (fitsF_iff hpos).1 he
    unfold combF at h
    simp only [List.foldl_cons, List.foldl_nil] at h
    have hrl : (addF n 0 (List.replicate ((if 1 > (n : Int) then 1 else (n : Int)) - 1).toNat 0) o).length = n - 1 := by
      rw [addF_length, List.length_replicate]; split <;> omega
    generalize addF n 0 (List.replicate ((if 1 > (n : Int) then 1 else (n : Int)) - 1).toNat 0) o = A at *
    apply List.ext_getElem (by omega)
    intro j h1 h2
    have g1 := addF_getD n 0 A d (by omega) j (by omega)
    have g2 := addF_getD n 0 A e (by omega) j (by omega)
    rw [h] at g1
    rw [if_pos (by omega)] at g1 g2
    rw [g1] at g2
    simp only [Nat.sub_zero] at g2
    have b1 := db j h1
    have b2 := eb j h2
    have := emod_inj (by omega) (by omega) g2
    rw [getD_lt 0 h1, getD_lt 0 h2] at this
    exact this
/-- The deck of two players. -/
def permD (n : Nat) (o : List Int) (x : Nat) : List Int := shufF (iota n) (combF n [o, dX n x])
theorem permD_length (n : Nat) (o : List Int) (x : Nat) : (permD n o x).length = n := by unfold permD shufF; rw [shufGo_length, iota_length]
theorem shuf_inj {n : Nat} (hn : n ≤ 52) {d e : List Int} (hd : fitsF n d = 0) (he : fitsF n e = 0) (h : shufF (iota n) d = shufF (iota n) e) : d = e := by
  have h1 := (cardsBack_plain (l := iota n) (ds := d) (iota_deck hn) (by rw [iota_length]; exact hd)).2.2.2.1
  have h2 := (cardsBack_plain (l := iota n) (ds := e) (iota_deck hn) (by rw [iota_length]; exact he)).2.2.2.1
  rw [h] at h1
  exact h1.symm.trans h2
theorem permD_inj {n x y : Nat} {o : List Int} (hn : n ≤ 52) (ho : fitsF n o = 0) (hx : x < fac n) (hy : y < fac n) (hcf : ∀ ls : List (List Int), (∀ l ∈ ls, fitsF n l = 0) → fitsF n (combF n ls) = 0) (h : permD n o x = permD n o y) : x = y := by
  have f1 : ∀ z, fitsF n (combF n [o, dX n z]) = 0 := fun z => hcf _ (fun l hl => by
    rcases List.mem_cons.1 hl with rfl | hl
    · exact ho
    · rcases List.mem_cons.1 hl with rfl | hl
      · exact dX_fits n z
      · simp at hl)
  exact dX_inj n x y hx hy (comb_inj ho (dX_fits n x) (dX_fits n y) (shuf_inj hn (f1 x) (f1 y) h))
end Go.Ax.Dl

namespace Go.Proofs.YtmfhdfofmdggaaaDoor
open Go.Ax Go.Ax.Idx Go.Ax.Cd Go.Ax.Dl
attribute [local irreducible] Ax Post QOp ACall
set_option maxRecDepth 100000
set_option maxHeartbeats 4000000

theorem fits_small {n : Nat} (hn : n ≤ 52) {l : List Int} (h : fitsF n l = 0) : l.length ≤ 51 := by
  rcases Nat.eq_zero_or_pos n with h0 | h0
  · subst h0; rw [fits0.1 h]; simp
  · have := ((fitsF_iff h0).1 h).1; omega
theorem stage_com {ls : List (List Int)} {i : Nat} (h : i < ls.length) : stageF (comPs ls i) (-1) = 0 := by unfold stageF; rw [stageN, anyCom h]; rfl
theorem stage_op {ls : List (List Int)} {i : Nat} (h : i < ls.length) : stageF (opPs ls i) (-1) = 1 := by unfold stageF; rw [stageN, noCom, anyOp h]; rfl
theorem stage_done (ls : List (List Int)) : stageF (opPs ls ls.length) (-1) = 2 := by unfold stageF; rw [stageN, noCom, noOp]; rfl

theorem played_ok (n : Nat) (ls : List (List Int)) (hn : n ≤ 52) (h6 : 1 ≤ ls.length ∧ ls.length ≤ 6) (hf : ∀ k, k < ls.length → fitsF n (ls.getD k []) = 0) :
    VCall Tryd.prog 27 [.int .i64 (n : Nat), .ro (rowsI ls) 0 ls.length] (.tup [.rp (tabC n (opPs ls ls.length) (-1)) 0 0, .bool true]) := by
  refine ACall.value (K := fun r H => r = .tup [.ptr 1 0 0, .bool true] ∧ H = [none, some ⟨80, tabC n (opPs ls ls.length) (-1)⟩]) (acall_of_ax (P := Tryd.prog) (fn := Tryd.f27) rfl rfl (by kernel_rfl) rfl (fun c hR hfix => ?_)) (fix := fun _ => False) (fun _ h => h) rfl ?_
  · have hnew := New_ok ls.length n h6 (by omega)
    rw [← comPs_zero] at hnew
    repeat (first
      | refine ax_q (q_move rfl) ?_
      | refine ax_q (q_assign rfl) ?_
      | refine ax_ops_nil ?_
      | refine ax_post_code ?_
      | refine ax_seq ?_
      | refine ax_region rfl ?_
      | refine ax_q (q_len rfl rfl rfl) ?_)
    refine ax_callc rfl rfl rfl hnew (fun _ h => absurd h (Nat.not_lt_zero _)) (fun _ h => h.elim) ?_
    rintro r H ⟨rfl, rfl⟩
    repeat (first
      | refine ax_q (q_move rfl) ?_
      | refine ax_q (q_assign rfl) ?_
      | refine ax_ops_nil ?_
      | refine ax_post_code ?_
      | refine ax_seq ?_
      | refine ax_region rfl ?_
      | refine ax_guard rfl rfl ?_
      | refine ax_cond_false rfl ?_
      | refine ax_block ?_
      | refine ax_skip ?_
      | refine ax_q (q_neq rfl rfl) ?_
      | refine ax_q (q_pick rfl rfl) ?_
      | refine ax_q (q_extract rfl rfl) ?_
      | refine ax_q (q_len rfl rfl rfl) ?_
      | refine ax_q (q_ptreq rfl rfl rfl rfl) ?_)
    refine ax_loop (ι := Nat) (fun i => [(1, .ro (rowsI ls) 0 ls.length), (6, .ptr 1 0 0), (27, .ro (rowsI ls) 0 ls.length), (28, .int .i64 (ls.length : Nat)), (29, .int .i64 (i : Nat))]) (fun i => tabH n (comPs ls i) (-1))
      (fun i => i ≤ ls.length) (fun i => ls.length - i) 0 ⟨⟨rfl, rfl, rfl, rfl, rfl, trivial⟩, rfl, Nat.zero_le _⟩ ?_
    rintro i hi
    have hcl := comPs_length ls i
    repeat (first
      | refine ax_ops_nil ?_
      | refine ax_post_code ?_
      | refine ax_seq ?_
      | refine ax_region rfl ?_
      | refine ax_q (q_lss rfl rfl) ?_)
    refine ax_cond_dec rfl (fun h1 => ?_) (fun h1 => ?_)
    · have hil : i < ls.length := by omega
      have hfi := fits_small hn (hf i hil)
      have hse := seal_ (ls.getD i []) i (by omega)
      have hco := Commit_ok n (comPs ls i) (-1) i (sealF (ls.getD i []) i) (by omega) (by omega) (stage_com hil) (by rw [Int.toNat_natCast, comPs_getD hil]; rfl)
      rw [Int.toNat_natCast, comPs_getD hil] at hco
      have hset := comPs_set hil
      have e0 : pl0.op = false := rfl
      have e1 : pl0.dr = [] := rfl
      rw [e0, e1, hset] at hco
      repeat (first
        | refine ax_q (q_move rfl) ?_
        | refine ax_q (q_assign rfl) ?_
        | refine ax_ops_nil ?_
        | refine ax_post_code ?_
        | refine ax_seq ?_
        | refine ax_region rfl ?_
        | refine ax_block ?_
        | refine ax_skip ?_
        | refine ax_q (q_loadf_rp rfl rfl rfl rfl) ?_
        | refine ax_q (q_index_ro' rfl rfl rfl rfl (by first | (simp only [Nat.zero_add, Int.toNat_natCast, Int.toNat_zero]; exact rfl) | exact rfl) (by omega)) ?_)
      refine ax_callc rfl rfl rfl (hse (tabH n (comPs ls i) (-1))) (fun _ h => h) (fun _ h => h) ?_
      rintro r H ⟨rfl, rfl⟩
      skip
      refine ax_callc rfl rfl rfl hco (fun _ h => h) (fun _ h => h) ?_
      rintro r H ⟨rfl, rfl⟩
      repeat (first
        | refine ax_q (q_move rfl) ?_
        | refine ax_ops_nil ?_
        | refine ax_post_code ?_
        | refine ax_region rfl ?_
        | refine ax_cond_false rfl ?_
        | refine ax_post_blk ?_
        | refine ax_skip ?_
        | refine ax_q (q_neq rfl rfl) ?_
        | refine ax_q (q_add rfl rfl (by omega)) ?_)
      exact ax_post_inv ⟨i + 1, by omega, by omega, ⟨rfl, rfl, rfl, rfl, rfl, trivial⟩, rfl⟩
    · have hil : i = ls.length := by omega
      subst hil
      rw [comPs_full]
      repeat (first
        | refine ax_q (q_move rfl) ?_
        | refine ax_ops_nil ?_
        | refine ax_post_code ?_
        | refine ax_seq ?_
        | refine ax_region rfl ?_
        | refine ax_block ?_
        | refine ax_exit ?_
        | refine ax_exit_here ?_
        | refine ax_exit_code ?_
        | refine ax_exit_inv ?_
        | refine ax_q (q_len rfl rfl rfl) ?_)
      refine ax_loop (ι := Nat) (fun i => [(6, .ptr 1 0 0), (42, .ro (rowsI ls) 0 ls.length), (43, .int .i64 (ls.length : Nat)), (44, .int .i64 (i : Nat))]) (fun i => tabH n (opPs ls i) (-1))
        (fun i => i ≤ ls.length) (fun i => ls.length - i) 0 ⟨⟨rfl, rfl, rfl, rfl, trivial⟩, rfl, Nat.zero_le _⟩ ?_
      rintro i hi
      have hcl := opPs_length ls i
      repeat (first
        | refine ax_ops_nil ?_
        | refine ax_post_code ?_
        | refine ax_seq ?_
        | refine ax_region rfl ?_
        | refine ax_q (q_lss rfl rfl) ?_)
      refine ax_cond_dec rfl (fun h1 => ?_) (fun h1 => ?_)
      · have hil : i < ls.length := by omega
        have hfi := fits_small hn (hf i hil)
        have hop := Open_ok n (opPs ls i) (-1) i i (ls.getD i []) (by omega) (by omega) (by omega) (by omega) (stage_op hil) (by rw [Int.toNat_natCast, opPs_getD hil]; simp [opPl]) (hf i hil) (by rw [Int.toNat_natCast, opPs_getD hil]; rfl)
        rw [Int.toNat_natCast, opPs_getD hil] at hop
        have hset := opPs_set hil
        have e0 : (opPl ls i i).com = true := rfl
        have e1 : (opPl ls i i).sl = sealF (ls.getD i []) i := rfl
        rw [e0, e1, hset] at hop
        repeat (first
          | refine ax_q (q_move rfl) ?_
          | refine ax_q (q_assign rfl) ?_
          | refine ax_ops_nil ?_
          | refine ax_post_code ?_
          | refine ax_seq ?_
          | refine ax_region rfl ?_
          | refine ax_block ?_
          | refine ax_skip ?_
          | refine ax_q (q_loadf_rp rfl rfl rfl rfl) ?_
          | refine ax_q (q_index_ro' rfl rfl rfl rfl (by first | (simp only [Nat.zero_add, Int.toNat_natCast, Int.toNat_zero]; exact rfl) | exact rfl) (by omega)) ?_)
        refine ax_callc rfl rfl rfl hop (fun _ h => h) (fun _ h => h) ?_
        rintro r H ⟨rfl, rfl⟩
        repeat (first
          | refine ax_q (q_move rfl) ?_
          | refine ax_q (q_assign rfl) ?_
          | refine ax_ops_nil ?_
          | refine ax_post_code ?_
          | refine ax_seq ?_
          | refine ax_region rfl ?_
          | refine ax_guard rfl rfl ?_
          | refine ax_cond_false rfl ?_
          | refine ax_post_blk ?_
          | refine ax_skip ?_
          | refine ax_q (q_neq rfl rfl) ?_
          | refine ax_q (q_not rfl) ?_
          | refine ax_q (q_pick rfl rfl) ?_
          | refine ax_q (q_extract rfl rfl) ?_
          | refine ax_q (q_add rfl rfl (by omega)) ?_)
        exact ax_post_inv ⟨i + 1, by omega, by omega, ⟨rfl, rfl, rfl, rfl, trivial⟩, rfl⟩
      · have hil : i = ls.length := by omega
        subst hil
        refine ax_freeze [some ⟨82, plsC (opPs ls ls.length)⟩, none] [none, some ⟨80, tabC n (opPs ls ls.length) (-1)⟩] [(6, .ptr 1 0 0), (45, .bool false)] subP (reflP _) rfl ?_ ⟨⟨_, rfl, .inl rfl⟩, ⟨_, rfl, .inl (by rw [decide_eq_false h1])⟩, trivial⟩ ?_
        · intro h o' ho'
          match h, ho' with
          | 0, ho' => simp at ho'
          | 1, ho' =>
            simp at ho'; subst ho'
            refine ⟨fun o h => by simp at h, _, rfl, rfl, rfl, rfl, fun i j hi hj => ?_⟩
            match j, hj with
            | 0, _ => exact .inl rfl
            | 1, _ => exact .inr (.inr ⟨rfl, fun o ho => by simp at ho; subst ho; exact Nat.le_of_eq (Nat.zero_add _)⟩)
            | 2, _ => exact .inl rfl
          | _ + 2, ho' => simp at ho'
        repeat (first
          | refine ax_q (q_move rfl) ?_
          | refine ax_q (q_assign rfl) ?_
          | refine ax_ops_nil ?_
          | refine ax_post_code ?_
          | refine ax_seq ?_
          | refine ax_region rfl ?_
          | refine ax_exit ?_
          | refine ax_exit_here ?_
          | refine ax_exit_code ?_
          | refine ax_exit_inv ?_
          | refine ax_return ?_)
        exact ax_ret hR rfl ⟨rfl, rfl⟩
  · rintro r H ⟨rfl, rfl⟩
    refine ⟨rfl, ⟨fun o ho => by simp at ho; subst ho; exact Nat.zero_lt_one, trivial, trivial⟩, ?_⟩
    intro h o ho
    match h, ho with
    | 0, ho => simp at ho
    | 1, ho => simp at ho; subst ho; exact refless_box rfl
    | _ + 2, ho => simp at ho
end Go.Proofs.YtmfhdfofmdggaaaDoor

namespace Go.Proofs.YtmfhdfofmdggaaaDoor
open Go.Ax Go.Ax.Idx Go.Ax.Cd Go.Ax.Dl
attribute [local irreducible] Ax Post QOp ACall
set_option maxRecDepth 100000
set_option maxHeartbeats 4000000

theorem below_one : ∀ (h : Nat) (o : AObj), (tabH 2 [pl0] (-1) ++ [some ⟨3, .ints .i64 [0]⟩])[h]? = some (some o) → ∀ i j, i < o.c.len → j < o.c.sz → belowA 3 (o.c.at i j) = true := by
  intro h o ho i j hi hj
  match h, ho with
  | 0, ho =>
    simp at ho; subst ho
    match j, hj with
    | 0, _ => rfl
    | 1, _ => rfl
    | 2, _ => rfl
    | 3, _ => rfl
  | 1, ho =>
    simp at ho; subst ho
    match j, hj with
    | 0, _ => rfl
    | 1, _ => rfl
    | 2, _ => rfl
  | 2, ho => simp at ho; subst ho; rfl
  | _ + 3, ho => simp at ho
theorem Missing_one : ACall Tryd.prog 31 [.ptr 1 0 0] (tabH 2 [pl0] (-1)) (fun h => h < 2) (fun r H => r = .sl 2 0 1 ∧ H = tabH 2 [pl0] (-1) ++ [some ⟨3, .ints .i64 [0]⟩]) := by
  have hs := Stage_o 2 [pl0] (-1) (by decide)
  rw [show stageF [pl0] (-1) = 0 by decide] at hs
  refine acall_of_ax (P := Tryd.prog) (fn := Tryd.f31) rfl rfl (by kernel_rfl) rfl (fun c hR hfix => ?_)
  repeat (first
    | refine ax_q (q_move rfl) ?_
    | refine ax_q (q_assign rfl) ?_
    | refine ax_ops_nil ?_
    | refine ax_post_code ?_
    | refine ax_seq ?_
    | refine ax_region rfl ?_)
  refine ax_callc rfl rfl rfl hs (fun _ h => h) (fun _ h => h) ?_
  rintro r H ⟨rfl, rfl⟩
  repeat (first
    | refine ax_q (q_move rfl) ?_
    | refine ax_q (q_assign rfl) ?_
    | refine ax_ops_nil ?_
    | refine ax_post_code ?_
    | refine ax_seq ?_
    | refine ax_region rfl ?_
    | refine ax_q (q_loadb_ptr rfl rfl rfl rfl rfl) ?_
    | refine ax_q (q_len rfl rfl rfl) ?_
    | refine ax_q (q_nilcheck_ptr rfl) ?_
    | refine ax_q (q_field_ptr rfl rfl rfl rfl rfl rfl) ?_)
  refine ax_nilobj 4 ⟨3, .ints .i64 []⟩ rfl rfl ?_
  repeat (refine ax_block ?_)
  refine ax_loop (ι := Nat) (fun i => [(3, .int .i64 0), (4, .sl 2 0 i), (12, .sl 0 0 1), (13, .int .i64 1), (14, .int .i64 (i : Nat))]) (fun i => tabH 2 [pl0] (-1) ++ [some ⟨3, .ints .i64 (([0] : List Int).take i)⟩]) (fun i => i ≤ 1) (fun i => 1 - i) 0 ⟨⟨rfl, rfl, rfl, rfl, rfl, trivial⟩, rfl, Nat.zero_le _⟩ ?_
  rintro i hi
  repeat (first
    | refine ax_ops_nil ?_
    | refine ax_post_code ?_
    | refine ax_seq ?_
    | refine ax_region rfl ?_
    | refine ax_q (q_lss rfl rfl) ?_)
  refine ax_cond_dec rfl (fun h1 => ?_) (fun h1 => ?_)
  · have hi0 : i = 0 := by omega
    subst hi0
    repeat (first
      | refine ax_q (q_move rfl) ?_
      | refine ax_q (q_assign rfl) ?_
      | refine ax_post_code ?_
      | refine ax_seq ?_
      | refine ax_region rfl ?_
      | refine ax_block ?_
      | refine ax_skip ?_
      | refine ax_q (q_index_sl' rfl rfl rfl rfl rfl (by first | (simp only [Nat.zero_add, Int.toNat_natCast, Int.toNat_zero]; exact rfl) | exact rfl) (by omega)) ?_
      | refine ax_q (q_loadagg_ptr rfl rfl rfl rfl rfl rfl rfl (by first | exact Nat.zero_lt_one | assumption | omega)) ?_
      | refine ax_alloc rfl rfl rfl ?_)
    refine ax_slot_ops 18 (.agg (plA pl0)) rfl (AEq.of_eq rfl) ?_
    refine ax_storeagg (c' := .box (plA pl0)) rfl rfl rfl rfl rfl Nat.zero_lt_one rfl rfl (fun i' j' hi' hj' => ?_) ?_
    · rw [if_pos (Nat.lt_one_iff.1 hi')]; rfl
    repeat (first
      | refine ax_q (q_move rfl) ?_
      | refine ax_ops_nil ?_
      | refine ax_post_code ?_
      | refine ax_seq ?_
      | refine ax_region rfl ?_
      | refine ax_guard rfl rfl ?_
      | refine ax_skip_undef rfl rfl ?_
      | refine ax_skip_not rfl rfl rfl ?_
      | refine ax_cond_true rfl ?_
      | refine ax_q (q_loadb_ptr rfl rfl rfl rfl rfl) ?_
      | refine ax_q (q_eql rfl rfl) ?_
      | refine ax_q (q_not rfl) ?_
      | refine ax_q (q_pick rfl rfl) ?_
      | refine ax_q (q_field_ptr rfl rfl rfl rfl rfl rfl) ?_
      | refine ax_buildSliceRo rfl rfl rfl rfl rfl rfl rfl rfl rfl rfl rfl ?_)
    refine ax_append rfl rfl rfl rfl rfl rfl rfl rfl rfl rfl rfl rfl (by show 0 + 1 ≤ 1; omega) rfl (by show (0 + 1) * 8 ≤ _ ∧ _; omega) (fun i j _ _ => rfl) (by rw [hfix]; exact Nat.lt_irrefl 2) ?_
    repeat (first
      | refine ax_q (q_assign rfl) ?_
      | refine ax_ops_nil ?_
      | refine ax_post_blk ?_)
    refine ax_post_code ?_
    refine ax_heapA (tabH 2 [pl0] (-1) ++ [some ⟨3, .ints .i64 [0]⟩] ++ [some ⟨82, .box (plA pl0)⟩]) rfl ?_ ?_
    · intro h o' ho'
      match h, ho' with
      | 0, ho' =>
        simp at ho'; subst ho'
        refine ⟨_, rfl, rfl, rfl, rfl, fun i j hi hj => ?_⟩
        match i, j, hi, hj with
        | 0, 0, _, _ => exact AEq.rfl'
        | 0, 1, _, _ => exact AEq.rfl'
        | 0, 2, _, _ => exact AEq.rfl'
        | 0, 3, _, _ => exact AEq.rfl'
      | 1, ho' =>
        simp at ho'; subst ho'
        exact ⟨_, rfl, rfl, rfl, rfl, fun i j hi hj => AEq.rfl'⟩
      | 2, ho' =>
        simp at ho'; subst ho'
        exact ⟨_, rfl, rfl, rfl, rfl, fun i j hi hj => AEq.rfl'⟩
      | 3, ho' =>
        simp at ho'; subst ho'
        exact ⟨_, rfl, rfl, rfl, rfl, fun i j hi hj => AEq.rfl'⟩
      | _ + 4, ho' => simp at ho'
    refine ax_cutP (tabH 2 [pl0] (-1) ++ [some ⟨3, .ints .i64 [0]⟩]) [some ⟨82, .box (plA pl0)⟩] [(3, .int .i64 0), (4, .sl 2 0 1), (12, .sl 0 0 1), (13, .int .i64 1), (14, .int .i64 ((0 : Nat) : Int))] rfl ⟨rfl, rfl, rfl, rfl, rfl, trivial⟩ (by rw [hfix]; exact fun h hh => Nat.lt_trans hh (by decide)) below_one rfl ?_
    repeat (first
      | refine ax_q (q_move rfl) ?_
      | refine ax_ops_nil ?_
      | refine ax_region rfl ?_
      | refine ax_q (q_add rfl rfl (by omega)) ?_)
    exact ax_post_inv ⟨1, by omega, by omega, ⟨rfl, rfl, rfl, rfl, rfl, trivial⟩, rfl⟩
  · have hi0 : i = 1 := by omega
    subst hi0
    repeat (first
      | refine ax_q (q_move rfl) ?_
      | refine ax_q (q_assign rfl) ?_
      | refine ax_ops_nil ?_
      | refine ax_post_code ?_
      | refine ax_seq ?_
      | refine ax_region rfl ?_
      | refine ax_exit ?_
      | refine ax_exit_here ?_
      | refine ax_exit_code ?_
      | refine ax_exit_inv ?_
      | refine ax_return ?_)
    exact ax_ret hR rfl ⟨rfl, rfl⟩
end Go.Proofs.YtmfhdfofmdggaaaDoor

namespace Go.Proofs.YtmfhdfofmdggaaaDoor
open Go.Ax Go.Ax.Idx Go.Ax.Cd Go.Ax.Dl
attribute [local irreducible] Ax Post QOp ACall
set_option maxRecDepth 100000
set_option maxHeartbeats 4000000

theorem fzk_knows {HF : AHeap} {fr : Fr} : ∀ {L : Fr}, knows fr L → fzk HF fr L
  | [], _ => trivial
  | (t, v) :: r, h => ⟨⟨v, h.1, .inl rfl⟩, fzk_knows h.2⟩
theorem look_self (t : Nat) (v : AV) (L : Fr) : Go.Ax.look t ((t, v) :: L) = some v := by
  show (bif Nat.beq t t then some v else _) = _
  rw [Nat.beq_refl]; rfl
/-- From now on the table is only read. -/
theorem ax_fzTab {P : Program} {fn : Func} {c : Ctx} {fr : Fr} {k : List It} {x : Code} {n : Int} {ps : List Pl} {ch : Int} (t : Nat) (L : Fr) (hk1 : knows fr ((t, .ptr 1 0 0) :: L)) (hk2 : knows ((t, .ptr 1 0 0) :: L) L) (hb : belowF 0 L = true) (hfx : ∀ h, ¬ c.fix h)
    (h : Ax P fn c (.code x k) ((t, .rp (tabC n ps ch) 0 0) :: L) []) : Ax P fn c (.code x k) fr (tabH n ps ch) := by
  refine ax_freeze [some ⟨82, plsC ps⟩, none] [none, some ⟨80, tabC n ps ch⟩] ((t, .ptr 1 0 0) :: L) subP (reflP _) rfl ?_ (fzk_knows hk1) ?_
  · intro h o' ho'
    match h, ho' with
    | 0, ho' => simp at ho'
    | 1, ho' =>
      simp at ho'; subst ho'
      refine ⟨fun o h => by simp at h, _, rfl, rfl, rfl, rfl, fun i j hi hj => ?_⟩
      match j, hj with
      | 0, _ => exact .inl rfl
      | 1, _ => exact .inr (.inr ⟨rfl, fun o ho => by simp at ho; subst ho; exact Nat.le_of_eq (Nat.zero_add _)⟩)
      | 2, _ => exact .inl rfl
    | _ + 2, ho' => simp at ho'
  refine ax_freeze [none, some ⟨80, tabC n ps ch⟩] [none, none] ((t, .rp (tabC n ps ch) 0 0) :: L) (fun _ _ h => h) ?_ rfl ?_ ⟨⟨.ptr 1 0 0, look_self _ _ _, .inr (.inr ⟨rfl, fun o ho => by simp at ho; subst ho; exact Nat.zero_lt_one⟩)⟩, fzk_knows hk2⟩ ?_
  · intro h o ho
    match h, ho with
    | 0, ho => simp at ho
    | 1, ho => simp at ho; subst ho; exact refless_box rfl
    | _ + 2, ho => simp at ho
  · intro h o' ho'
    match h, ho' with
    | 0, ho' => simp at ho'
    | 1, ho' => simp at ho'
    | _ + 2, ho' => simp at ho'
  refine ax_cut [] [none, none] ((t, .rp (tabC n ps ch) 0 0) :: L) rfl ?_ (fun h hh => (hfx h hh).elim) rfl (by simp only [belowF, Bool.and_eq_true]; exact ⟨rfl, hb⟩) h
  refine ⟨look_self _ _ _, ?_⟩
  clear hk1 h
  have key : ∀ (M : Fr), knows ((t, .ptr 1 0 0) :: L) M → belowF 0 M = true → knows ((t, .rp (tabC n ps ch) 0 0) :: L) M := by
    intro M
    induction M with
    | nil => intro _ _; trivial
    | cons p r ih =>
      obtain ⟨u, v⟩ := p
      intro h hb
      simp only [belowF, Bool.and_eq_true] at hb
      refine ⟨?_, ih h.2 hb.2⟩
      have h1 : (bif Nat.beq u t then some (AV.ptr 1 0 0) else Go.Ax.look u L) = some v := h.1
      show (bif Nat.beq u t then _ else Go.Ax.look u L) = some v
      cases hq : Nat.beq u t with
      | true => rw [hq] at h1; simp at h1; subst h1; exact absurd hb.1 (by simp [belowA, Nat.blt])
      | false => rw [hq] at h1; simpa using h1
  exact key L hk2 hb

theorem seal_ne : ¬ sealF [] 0 = sealF [] 1 := by
  intro h
  have : (sealF [] 0 == sealF [] 1) = false := by kernel_rfl
  rw [h] at this
  simp at this
theorem dealFact : VCall Tryd.prog 24 [] (.bool true) := by
  have c1 := Combine_ok 3 (by decide) [[2, 1], [2, 1]] (by decide) (by decide)
  rw [show combF 3 [[2, 1], [2, 1]] = [1, 0] by decide] at c1
  have c2 : ACall Tryd.prog 34 [.int .i64 1, .int .i64 2] [] (fun _ => False) (fun r H => r = .tup [.ptr 1 0 0, .int .i64 0] ∧ H = tabH 2 [pl0] (-1)) := New_ok 1 2 (by decide) (by decide)
  have s1 := seal_ [0] 7 (by decide)
  have hs : sealF [0] 7 = sealF [0] 7 := rfl
  generalize hsv : sealF [0] 7 = s at s1
  have c3 : ACall Tryd.prog 36 [.ptr 1 0 0, .int .i64 0, .int .u64 s] (tabH 2 [pl0] (-1)) (fun h => h < 2) (fun r H => r = .int .i64 0 ∧ H = tabH 2 [⟨true, false, s, []⟩] (-1)) := Commit_ok 2 [pl0] (-1) 0 s (by decide) (by decide) (by decide) rfl
  have c4 : ACall Tryd.prog 30 [.ptr 1 0 0] (tabH 2 [⟨true, false, s, []⟩] (-1)) (fun h => h < 2) (fun r H => r = .int .i64 1 ∧ H = tabH 2 [⟨true, false, s, []⟩] (-1)) := Stage_o 2 [⟨true, false, s, []⟩] (-1) (by simp)
  have c5 : ACall Tryd.prog 37 [.ptr 1 0 0, .int .i64 0, .ro (.ints .i64 [0]) 0 1, .int .i64 7] (tabH 2 [⟨true, false, s, []⟩] (-1)) (fun h => h < 2) (fun r H => r = .tup [.bool true, .int .i64 0] ∧ H = tabH 2 [⟨true, true, s, [0]⟩] (-1)) :=
    Open_ok 2 [⟨true, false, s, []⟩] (-1) 0 7 [0] (by decide) (by decide) (by simp) (by simp) rfl rfl (by decide) hsv
  have c6 := Deck_r 2 [⟨true, true, s, [0]⟩] (-1) (by decide) (by simp) rfl (fun k hk => by
    obtain rfl : k = 0 := by simpa using hk
    show fitsF 2 [0] = 0
    decide)
  rw [show shufF (iota 2) (combF (2 : Nat) (List.map Pl.dr [⟨true, true, s, [0]⟩])) = [1, 0] from (show shufF (iota 2) (combF (2 : Nat) [[0]]) = [1, 0] by decide)] at c6
  have c7 := Cheat_r 2 [⟨true, true, s, [0]⟩] (-1)
  rw [if_pos (by decide), if_pos (by decide)] at c7
  have c8 : VCall Tryd.prog 30 [.rp (tabC 2 [⟨true, true, s, [0]⟩] (-1)) 0 0] (.int .i64 2) := Stage_r 2 [⟨true, true, s, [0]⟩] (-1) (by simp)
  have s2 : VCall Tryd.prog 35 [.nil, .int .i64 0] (.int .u64 (sealF [] 0)) := VCall.args (seal_ [] 0 (by decide)) ⟨AEq.nil, AEq.rfl', trivial⟩
  have s3 : VCall Tryd.prog 35 [.nil, .int .i64 1] (.int .u64 (sealF [] 1)) := VCall.args (seal_ [] 1 (by decide)) ⟨AEq.nil, AEq.rfl', trivial⟩
  have hne := seal_ne
  generalize sealF [] 0 = z0 at *
  generalize sealF [] 1 = z1 at *
  refine ACall.value0 (acall_of_ax (P := Tryd.prog) (fn := Tryd.f24) rfl rfl (by kernel_rfl) rfl (fun c hR hfix => ?_)) (fix := fun _ => False) (fun _ h => h) rfl rfl
  repeat (first
    | refine ax_q (q_assign rfl) ?_
    | refine ax_ops_nil ?_
    | refine ax_post_code ?_
    | refine ax_seq ?_
    | refine ax_region rfl ?_
    | refine ax_buildSliceRo rfl rfl rfl rfl rfl rfl rfl rfl rfl rfl rfl ?_)
  refine ax_slot_ops 16 (.ro (rowsI [[2, 1], [2, 1]]) 0 2) rfl (AEq.ro rfl (fun d j hd hj => ?_)) ?_
  · have hj0 : j = 0 := Nat.lt_one_iff.1 hj
    subst hj0
    match d, hd with
    | 0, _ => rfl
    | 1, _ => rfl
  refine ax_callv rfl rfl rfl c1 ?_
  repeat (first
    | refine ax_q (q_move rfl) ?_
    | refine ax_q (q_assign rfl) ?_
    | refine ax_ops_nil ?_
    | refine ax_post_code ?_
    | refine ax_seq ?_
    | refine ax_region rfl ?_
    | refine ax_q (q_extract rfl rfl) ?_)
  refine ax_callc rfl rfl rfl c2 (fun _ h => absurd h (Nat.not_lt_zero _)) (fun _ h => h.elim) ?_
  rintro r H ⟨rfl, rfl⟩
  repeat (first
    | refine ax_q (q_move rfl) ?_
    | refine ax_q (q_assign rfl) ?_
    | refine ax_ops_nil ?_
    | refine ax_post_code ?_
    | refine ax_seq ?_
    | refine ax_region rfl ?_
    | refine ax_q (q_extract rfl rfl) ?_
    | refine ax_buildSliceRo rfl rfl rfl rfl rfl rfl rfl rfl rfl rfl rfl ?_)
  refine ax_callv rfl rfl rfl (fineI [0, 0] (by decide)) ?_
  repeat (first
    | refine ax_q (q_move rfl) ?_
    | refine ax_guard rfl rfl ?_
    | refine ax_q (q_not rfl) ?_
    | refine ax_q (q_pick rfl rfl) ?_
    | refine ax_q (q_ptreq rfl rfl rfl rfl) ?_)
  refine ax_callc rfl rfl rfl Missing_one (fun _ h => h) (fun _ h => h) ?_
  rintro r H ⟨rfl, rfl⟩
  repeat (first
    | refine ax_ops_nil ?_
    | refine ax_post_code ?_
    | refine ax_seq ?_
    | refine ax_guard rfl rfl ?_
    | refine ax_cond_false rfl ?_
    | refine ax_skip ?_
    | refine ax_q (q_neq rfl rfl) ?_
    | refine ax_q (q_pick rfl rfl) ?_
    | refine ax_q (q_len rfl rfl rfl) ?_)
  refine ax_cutP (tabH 2 [pl0] (-1)) [some ⟨3, .ints .i64 [0]⟩] [(1, .ro (.ints .i64 [1, 0]) 0 2), (3, .ptr 1 0 0)] rfl ⟨rfl, rfl, trivial⟩ (by rw [hfix]; exact fun h hh => hh.elim) (below_tab _ _ _) rfl ?_
  repeat (first
    | refine ax_q (q_move rfl) ?_
    | refine ax_region rfl ?_
    | refine ax_buildSliceRo rfl rfl rfl rfl rfl rfl rfl rfl rfl rfl rfl ?_)
  refine ax_callv rfl rfl rfl s1 ?_
  skip
  refine ax_callc rfl rfl rfl c3 (fun _ h => h) (fun _ h => h) ?_
  rintro r H ⟨rfl, rfl⟩
  repeat (first
    | refine ax_q (q_move rfl) ?_
    | refine ax_q (q_assign rfl) ?_
    | refine ax_ops_nil ?_
    | refine ax_post_code ?_
    | refine ax_seq ?_
    | refine ax_region rfl ?_)
  refine ax_callc rfl rfl rfl c4 (fun _ h => h) (fun _ h => h) ?_
  rintro r H ⟨rfl, rfl⟩
  repeat (first
    | refine ax_q (q_move rfl) ?_
    | refine ax_q (q_assign rfl) ?_
    | refine ax_ops_nil ?_
    | refine ax_post_code ?_
    | refine ax_seq ?_
    | refine ax_region rfl ?_
    | refine ax_buildSliceRo rfl rfl rfl rfl rfl rfl rfl rfl rfl rfl rfl ?_)
  refine ax_callc rfl rfl rfl c5 (fun _ h => h) (fun _ h => h) ?_
  rintro r H ⟨rfl, rfl⟩
  repeat (first
    | refine ax_q (q_move rfl) ?_
    | refine ax_q (q_assign rfl) ?_
    | refine ax_ops_nil ?_
    | refine ax_post_code ?_
    | refine ax_seq ?_
    | refine ax_q (q_extract rfl rfl) ?_)
  refine ax_fzTab 3 [(1, .ro (.ints .i64 [1, 0]) 0 2), (5, .int .i64 0), (6, .int .i64 1), (7, .bool true), (8, .int .i64 0)] ⟨rfl, rfl, rfl, rfl, rfl, rfl, trivial⟩ ⟨rfl, rfl, rfl, rfl, rfl, trivial⟩ rfl (by rw [hfix]; exact fun h hh => hh) ?_
  repeat (first
    | refine ax_q (q_move rfl) ?_
    | refine ax_region rfl ?_)
  refine ax_callv rfl rfl rfl c6 ?_
  repeat (first
    | refine ax_q (q_move rfl) ?_
    | refine ax_q (q_assign rfl) ?_
    | refine ax_ops_nil ?_
    | refine ax_post_code ?_
    | refine ax_seq ?_
    | refine ax_region rfl ?_
    | refine ax_q (q_extract rfl rfl) ?_)
  refine ax_callv rfl rfl rfl c7 ?_
  repeat (first
    | refine ax_q (q_move rfl) ?_
    | refine ax_q (q_assign rfl) ?_
    | refine ax_ops_nil ?_
    | refine ax_post_code ?_
    | refine ax_seq ?_
    | refine ax_region rfl ?_
    | refine ax_q (q_extract rfl rfl) ?_
    | refine ax_buildSliceRo rfl rfl rfl rfl rfl rfl rfl rfl rfl rfl rfl ?_)
  refine ax_callv rfl rfl rfl (fineI [0, 0, 0] (by decide)) ?_
  repeat (first
    | refine ax_q (q_move rfl) ?_
    | refine ax_guard rfl rfl ?_
    | refine ax_buildSliceRo rfl rfl rfl rfl rfl rfl rfl rfl rfl rfl rfl ?_)
  refine ax_callv rfl rfl rfl (f_eq [1, 0] (by decide)) ?_
  repeat (first
    | refine ax_q (q_move rfl) ?_
    | refine ax_guard rfl rfl ?_
    | refine ax_q (q_eql rfl rfl) ?_
    | refine ax_q (q_pick rfl rfl) ?_)
  refine ax_callv rfl rfl rfl c8 ?_
  repeat (first
    | refine ax_q (q_move rfl) ?_
    | refine ax_guard rfl rfl ?_
    | refine ax_q (q_eql rfl rfl) ?_
    | refine ax_q (q_pick rfl rfl) ?_
    | refine ax_buildSliceRo rfl rfl rfl rfl rfl rfl rfl rfl rfl rfl rfl ?_)
  refine ax_callv rfl rfl rfl (f_eq [1, 0] (by decide)) ?_
  repeat (first
    | refine ax_q (q_move rfl) ?_
    | refine ax_guard rfl rfl ?_
    | refine ax_q (q_eql rfl rfl) ?_
    | refine ax_q (q_pick rfl rfl) ?_)
  refine ax_callv rfl rfl rfl s2 ?_
  repeat (refine ax_guard rfl rfl ?_)
  refine ax_callv rfl rfl rfl s3 ?_
  repeat (first
    | refine ax_q (q_assign rfl) ?_
    | refine ax_ops_nil ?_
    | refine ax_post_code ?_
    | refine ax_guard rfl rfl ?_
    | refine ax_return ?_
    | refine ax_q (q_neq rfl rfl) ?_
    | refine ax_q (q_pick rfl rfl) ?_)
  exact ax_ret hR rfl (congrArg AV.bool (decide_eq_true hne))
end Go.Proofs.YtmfhdfofmdggaaaDoor

namespace Go.Proofs.YtmfhdfofmdggaaaDoor
open Go.Ax Go.Ax.Idx Go.Ax.Cd
attribute [local irreducible] Ax Post QOp ACall
set_option maxRecDepth 100000
set_option maxHeartbeats 4000000

theorem indexFuncS (ls : List (List Int)) (g : FuncId) (caps : List AV) (p : List Int → Bool) (hc : noRef.noRefs caps = true) (hlen : ls.length ≤ 9223372036854775807) (hp : ∀ x ∈ ls, VCall Tryd.prog g ([.ro (.ints .i64 x) 0 x.length] ++ caps) (.bool (p x))) :
    VCall Tryd.prog 46 [.ro (rowsI ls) 0 ls.length, .fn g caps] (.int .i64 (idxF p ls)) := by
  refine ACall.value0 (acall_of_ax (P := Tryd.prog) (fn := Tryd.f46) rfl rfl (by kernel_rfl) rfl (fun c hR hfix => ?_)) (fix := fun _ => False) (fun _ h => h) (by simp [noRef.noRefs, noRef, hc]) rfl
  repeat (first
    | refine ax_q (q_move rfl) ?_
    | refine ax_q (q_assign rfl) ?_
    | refine ax_ops_nil ?_
    | refine ax_post_code ?_
    | refine ax_seq ?_
    | refine ax_region rfl ?_
    | refine ax_block ?_
    | refine ax_q (q_len rfl rfl rfl) ?_)
  refine ax_loop (ι := Nat) (fun k => [(0, .ro (rowsI ls) 0 ls.length), (1, .fn g caps), (7, .int .i64 (ls.length : Nat)), (8, .int .i64 (k : Nat))]) (fun _ => [])
    (fun k => k ≤ ls.length ∧ (ls.take k).any p = false) (fun k => ls.length - k) 0 ⟨⟨rfl, rfl, rfl, rfl, trivial⟩, rfl, Nat.zero_le _, rfl⟩ ?_
  intro k ⟨hk, hany⟩
  repeat (first
    | refine ax_ops_nil ?_
    | refine ax_post_code ?_
    | refine ax_seq ?_
    | refine ax_region rfl ?_
    | refine ax_q (q_lss rfl rfl) ?_)
  refine ax_cond_dec rfl (fun h => ?_) (fun h => ?_)
  · have hk' : k < ls.length := by omega
    have hanys := any_take_succ p ls [] k hk'
    repeat (first
      | refine ax_q (q_move rfl) ?_
      | refine ax_q (q_assign rfl) ?_
      | refine ax_ops_nil ?_
      | refine ax_post_code ?_
      | refine ax_seq ?_
      | refine ax_region rfl ?_
      | refine ax_block ?_
      | refine ax_skip ?_
      | refine ax_q (q_loadf_rp rfl rfl rfl rfl) ?_
      | refine ax_q (q_index_ro' rfl rfl rfl rfl (by first | (simp only [Nat.zero_add, Int.toNat_natCast, Int.toNat_zero]; exact rfl) | exact rfl) (by omega)) ?_)
    refine ax_callv rfl rfl rfl (hp _ (getD_mem [] hk')) ?_
    repeat (first
      | refine ax_ops_nil ?_
      | refine ax_post_code ?_)
    refine ax_cond rfl (fun h2 => ?_) (fun h2 => ?_)
    · repeat (first
        | refine ax_q (q_move rfl) ?_
        | refine ax_q (q_assign rfl) ?_
        | refine ax_ops_nil ?_
        | refine ax_post_code ?_
        | refine ax_seq ?_
        | refine ax_region rfl ?_
        | refine ax_return ?_
        | refine ax_ret_code ?_
        | refine ax_ret_blk ?_
        | refine ax_ret_inv ?_)
      refine ax_ret hR rfl ?_
      have := idxF_take p ls k hany hk
      rw [drop_getD ls [] k hk'] at this
      simp only [idxF, h2, if_true] at this
      rw [this]; simp [tupOf]
    · repeat (first
        | refine ax_q (q_move rfl) ?_
        | refine ax_ops_nil ?_
        | refine ax_post_code ?_
        | refine ax_region rfl ?_
        | refine ax_post_blk ?_
        | refine ax_skip ?_
        | refine ax_q (q_add rfl rfl (by omega)) ?_)
      refine ax_post_inv ⟨k + 1, ⟨by omega, by rw [hanys, hany, h2]; rfl⟩, by omega, ⟨rfl, rfl, rfl, rfl, trivial⟩, rfl⟩
  · have hk' : k = ls.length := by omega
    subst hk'
    repeat (first
      | refine ax_q (q_assign rfl) ?_
      | refine ax_ops_nil ?_
      | refine ax_post_code ?_
      | refine ax_seq ?_
      | refine ax_region rfl ?_
      | refine ax_exit ?_
      | refine ax_exit_here ?_
      | refine ax_exit_code ?_
      | refine ax_exit_inv ?_
      | refine ax_return ?_)
    refine ax_ret hR rfl ?_
    have := idxF_take p ls ls.length hany hk
    rw [List.drop_length] at this
    rw [this]; rfl
theorem containsS (ls : List (List Int)) (g : FuncId) (caps : List AV) (p : List Int → Bool) (hc : noRef.noRefs caps = true) (hlen : ls.length ≤ 9223372036854775807) (hp : ∀ x ∈ ls, VCall Tryd.prog g ([.ro (.ints .i64 x) 0 x.length] ++ caps) (.bool (p x))) :
    VCall Tryd.prog 17 [.ro (rowsI ls) 0 ls.length, .fn g caps] (.bool (ls.any p)) := by
  refine ACall.value0 (acall_of_ax (P := Tryd.prog) (fn := Tryd.f17) rfl rfl (by kernel_rfl) rfl (fun c hR hfix => ?_)) (fix := fun _ => False) (fun _ h => h) (by simp [noRef.noRefs, noRef, hc]) rfl
  repeat (first
    | refine ax_q (q_move rfl) ?_
    | refine ax_q (q_assign rfl) ?_
    | refine ax_ops_nil ?_
    | refine ax_post_code ?_
    | refine ax_seq ?_
    | refine ax_region rfl ?_)
  refine ax_callv rfl rfl rfl (indexFuncS ls g caps p hc hlen hp) ?_
  repeat (first
    | refine ax_q (q_assign rfl) ?_
    | refine ax_ops_nil ?_
    | refine ax_post_code ?_
    | refine ax_return ?_
    | refine ax_q (q_geq rfl rfl) ?_)
  refine ax_ret hR rfl ?_
  simp only [tupOf, idxF_any]
theorem each1 (s m : List Int) (h1 : m.length ≤ 9223372036854775807) (h2 : s.length ≤ 9223372036854775807) : VCall Tryd.prog 18 ([.ro (.ints .i64 m) 0 m.length] ++ [.rp (.box [.ro (.ints .i64 s) 0 s.length]) 0 0]) (.bool (decide (m = s))) := by
  refine ACall.value0 (acall_of_ax (P := Tryd.prog) (fn := Tryd.f18) rfl rfl (by kernel_rfl) rfl (fun c hR hfix => ?_)) (fix := fun _ => False) (fun _ h => h) rfl rfl
  repeat (first
    | refine ax_q (q_move rfl) ?_
    | refine ax_q (q_assign rfl) ?_
    | refine ax_ops_nil ?_
    | refine ax_post_code ?_
    | refine ax_seq ?_
    | refine ax_region rfl ?_
    | refine ax_q (q_loadb_rp rfl rfl rfl rfl) ?_)
  refine ax_callv rfl rfl rfl (equalI m s h1 h2) ?_
  repeat (first
    | refine ax_q (q_assign rfl) ?_
    | refine ax_ops_nil ?_
    | refine ax_post_code ?_
    | refine ax_return ?_)
  exact ax_ret hR rfl rfl

/-- The decks met behind x rounds. -/
def metX (n x : Nat) : List (List Int) := (List.range x).map (permX n)
theorem metX_length (n x : Nat) : (metX n x).length = x := by simp [metX]
theorem metX_succ (n x : Nat) : metX n (x + 1) = metX n x ++ [permX n x] := by simp [metX, List.range_succ]
theorem metX_new {n x : Nat} (hn : n ≤ 52) (hx : x < fac n) : (metX n x).any (fun m => decide (m = permX n x)) = false := by
  rw [List.any_eq_false]
  intro m hm
  simp only [metX, List.mem_map, List.mem_range] at hm
  obtain ⟨y, hy, rfl⟩ := hm
  simp only [decide_eq_true_eq]
  intro e
  have := permX_inj hn (by omega) hx e
  omega
theorem refless_rowsI (ls : List (List Int)) : refless (rowsI ls) := fun _ _ _ _ => rfl

theorem cardsEach (a : Int) : VCall Tryd.prog 4 [.int .i64 a] (.bool true) := by
  obtain ⟨n, hn, cn⟩ : ∃ n : Nat, n ≤ 5 ∧ VCall Tryd.prog 15 [.int .i64 a, .int .i64 6] (.int .i64 (n : Nat)) := by
    have hb := pickF_bd a 6 (by omega)
    refine ⟨(pickF a 6).toNat, by omega, ?_⟩
    have := pick a 6 (by omega)
    rwa [show ((pickF a 6).toNat : Int) = pickF a 6 by omega]
  have hfac := fac_le hn
  refine ACall.value (K := fun r H => r = .bool true ∧ ∀ (h : Nat) (o : AObj), H[h]? = some (some o) → refless o.c) (acall_of_ax (P := Tryd.prog) (fn := Tryd.f4) rfl rfl (by kernel_rfl) rfl (fun c hR hfix => ?_)) (fix := fun _ => False) (fun _ h => h) rfl ?_
  · repeat (first
      | refine ax_q (q_assign rfl) ?_
      | refine ax_ops_nil ?_
      | refine ax_post_code ?_
      | refine ax_seq ?_
      | refine ax_region rfl ?_)
    refine ax_callv rfl rfl rfl cardsFact ?_
    repeat (first
      | refine ax_q (q_move rfl) ?_
      | refine ax_ops_nil ?_
      | refine ax_post_code ?_
      | refine ax_seq ?_
      | refine ax_region rfl ?_
      | refine ax_cond_false rfl ?_
      | refine ax_skip ?_
      | refine ax_q (q_not rfl) ?_)
    refine ax_callv rfl rfl rfl cn ?_
    repeat (first
      | refine ax_q (q_move rfl) ?_
      | refine ax_q (q_assign rfl) ?_
      | refine ax_ops_nil ?_
      | refine ax_post_code ?_
      | refine ax_seq ?_
      | refine ax_region rfl ?_)
    refine ax_callv rfl rfl rfl (Fresh_ok n (by omega)) ?_
    repeat (first
      | refine ax_q (q_move rfl) ?_
      | refine ax_q (q_assign rfl) ?_
      | refine ax_ops_nil ?_
      | refine ax_post_code ?_
      | refine ax_seq ?_
      | refine ax_region rfl ?_
      | refine ax_cond_false rfl ?_
      | refine ax_block ?_
      | refine ax_skip ?_
      | refine ax_q (q_neq rfl rfl) ?_
      | refine ax_q (q_extract rfl rfl) ?_)
    refine ax_loop (ι := Nat) (fun k => [(0, .int .i64 (n : Nat)), (3, .ro (.ints .i64 (iota n)) 0 n), (5, .int .i64 (fac k : Nat)), (24, .int .i64 (n : Nat)), (25, .int .i64 (k : Nat))]) (fun _ => [])
      (fun k => k ≤ n) (fun k => n - k) 0 ⟨⟨rfl, rfl, rfl, rfl, rfl, trivial⟩, rfl, Nat.zero_le _⟩ ?_
    intro k hk
    repeat (first
      | refine ax_ops_nil ?_
      | refine ax_post_code ?_
      | refine ax_seq ?_
      | refine ax_region rfl ?_
      | refine ax_q (q_lss rfl rfl) ?_)
    refine ax_cond_dec rfl (fun h1 => ?_) (fun h1 => ?_)
    · have hk' : k < n := by omega
      have hf := fac_le (show k + 1 ≤ 5 by omega)
      have hm : (fac k : Int) * ((k : Int) + 1) = ((fac (k + 1) : Nat) : Int) := by simp [fac]
      repeat (first
        | refine ax_q (q_move rfl) ?_
        | refine ax_q (q_assign rfl) ?_
        | refine ax_ops_nil ?_
        | refine ax_post_code ?_
        | refine ax_seq ?_
        | refine ax_region rfl ?_
        | refine ax_block ?_
        | refine ax_skip ?_
        | refine ax_q (q_add rfl rfl (by omega)) ?_)
      refine ax_q (q_mul rfl rfl (by rw [hm]; omega)) ?_
      repeat (first
        | refine ax_q (q_move rfl) ?_
        | refine ax_q (q_assign rfl) ?_
        | refine ax_ops_nil ?_
        | refine ax_post_code ?_
        | refine ax_region rfl ?_
        | refine ax_post_blk ?_
        | refine ax_q (q_add rfl rfl (by omega)) ?_)
      exact ax_post_inv ⟨k + 1, by omega, by omega, ⟨rfl, rfl, by rw [← hm]; rfl, rfl, rfl, trivial⟩, rfl⟩
    · have hk' : k = n := by omega
      subst hk'
      repeat (first
        | refine ax_q (q_move rfl) ?_
        | refine ax_q (q_assign rfl) ?_
        | refine ax_ops_nil ?_
        | refine ax_post_code ?_
        | refine ax_seq ?_
        | refine ax_region rfl ?_
        | refine ax_exit ?_
        | refine ax_exit_here ?_
        | refine ax_exit_code ?_
        | refine ax_exit_inv ?_)
      refine ax_nilobj 7 ⟨22, rowsI []⟩ rfl rfl ?_
      repeat (refine ax_block ?_)
      refine ax_loop (ι := Nat) (fun x => [(0, .int .i64 (k : Nat)), (3, .ro (.ints .i64 (iota k)) 0 k), (7, .sl 0 0 x), (33, .int .i64 (fac k : Nat)), (34, .int .i64 (x : Nat))]) (fun x => [some ⟨22, rowsI (metX k x)⟩])
        (fun x => x ≤ fac k) (fun x => fac k - x) 0 ⟨⟨rfl, rfl, rfl, rfl, rfl, trivial⟩, rfl, Nat.zero_le _⟩ ?_
      intro x hx
      repeat (first
        | refine ax_ops_nil ?_
        | refine ax_post_code ?_
        | refine ax_seq ?_
        | refine ax_region rfl ?_
        | refine ax_q (q_lss rfl rfl) ?_)
      refine ax_cond_dec rfl (fun h2 => ?_) (fun h2 => ?_)
      · have hx' : x < fac k := by omega
        repeat (first
          | refine ax_post_code ?_
          | refine ax_seq ?_
          | refine ax_skip ?_)
        refine ax_block ?_
        repeat (first
          | refine ax_q (q_move rfl) ?_
          | refine ax_q (q_assign rfl) ?_
          | refine ax_ops_nil ?_
          | refine ax_post_code ?_
          | refine ax_seq ?_
          | refine ax_region rfl ?_)
        refine ax_nilobj 9 ⟨3, .ints .i64 []⟩ rfl rfl ?_
        repeat (refine ax_block ?_)
        refine ax_loop (ι := Nat × Nat × List Int) (fun s => [(0, .int .i64 (k : Nat)), (3, .ro (.ints .i64 (iota k)) 0 k), (7, .sl 0 0 x), (33, .int .i64 (fac k : Nat)), (34, .int .i64 (x : Nat)), (8, .int .i64 (s.2.1 : Nat)), (9, .sl 1 0 s.2.2.length), (10, .int .i64 (s.1 : Nat))]) (fun s => [some ⟨22, rowsI (metX k x)⟩, some ⟨3, .ints .i64 s.2.2⟩])
          (fun s => s.1 ≤ k ∧ s.2.1 ≤ 120 ∧ s.2.2.length ≤ 5 - s.1 ∧ s.2.2 ++ dX s.1 s.2.1 = dX k x) (fun s => s.1) (k, x, []) ⟨⟨rfl, rfl, rfl, rfl, rfl, rfl, rfl, rfl, trivial⟩, rfl, Nat.le_refl _, by simp only; omega, Nat.zero_le _, rfl⟩ ?_
        rintro ⟨i, z, out⟩ ⟨hi, hz, hol, hgo⟩
        simp only at *
        repeat (first
          | refine ax_q (q_move rfl) ?_
          | refine ax_ops_nil ?_
          | refine ax_post_code ?_
          | refine ax_seq ?_
          | refine ax_region rfl ?_
          | refine ax_q (q_gtr rfl rfl) ?_)
        refine ax_cond_dec rfl (fun h3 => ?_) (fun h3 => ?_)
        · have hi1 : 1 < i := by omega
          rw [dX_step hi1] at hgo
          have hzd : z / i ≤ z := Nat.div_le_self _ _
          have hm : (z : Int) % (i : Int) = ((z % i : Nat) : Int) := by simp
          have hd : (z : Int) / (i : Int) = ((z / i : Nat) : Int) := by simp
          repeat (first
            | refine ax_q (q_move rfl) ?_
            | refine ax_post_code ?_
            | refine ax_seq ?_
            | refine ax_region rfl ?_
            | refine ax_block ?_
            | refine ax_skip ?_
            | refine ax_q (q_rem rfl rfl (by omega)) ?_
            | refine ax_buildSliceRo rfl rfl rfl rfl rfl rfl rfl rfl rfl rfl rfl ?_)
          refine ax_append rfl rfl rfl rfl rfl rfl rfl rfl rfl rfl rfl rfl (by show 0 + 1 ≤ 1; omega) rfl (by show (out.length + 1) * 8 ≤ _ ∧ _; omega) (fun i j _ _ => rfl) (by rw [hfix]; exact fun h => h) ?_
          repeat (first
            | refine ax_q (q_move rfl) ?_
            | refine ax_q (q_assign rfl) ?_
            | refine ax_ops_nil ?_
            | refine ax_post_code ?_
            | refine ax_region rfl ?_
            | refine ax_post_blk ?_
            | refine ax_q (q_sub rfl rfl (by omega)) ?_
            | refine ax_q (q_quo rfl rfl (by omega)) ?_)
          refine ax_post_inv ⟨(i - 1, z / i, out ++ [((z % i : Nat) : Int)]), ⟨by simp only; omega, by simp only; omega, by simp only [List.length_append, List.length_cons, List.length_nil]; omega, by simp only; rw [List.append_assoc]; exact hgo⟩, by simp only; omega, ⟨rfl, rfl, rfl, rfl, rfl, ?_, ?_, ?_, trivial⟩, ?_⟩
          · show some (AV.int .i64 ((z : Int) / (i : Int))) = _
            rw [hd]
          · show some (AV.sl 1 0 (out.length + 1)) = _
            simp
          · show some (AV.int .i64 ((i : Int) - 1)) = _
            congr 2; simp only; omega
          · show ([some ⟨22, rowsI (metX k x)⟩, some ⟨3, .ints .i64 (out ++ [(z : Int) % (i : Int)])⟩] : AHeap) = _
            rw [hm]
        · have hi1 : ¬ 1 < i := by omega
          rw [dX_end hi1, List.append_nil] at hgo
          subst hgo
          have hil := iota_length k
          have hpl := permX_length k x
          have hsh : shufE (iota k) (dX k x) = 0 := by
            unfold shufE
            rw [if_neg (by rw [iota_deck (by omega)]; decide), hil]
            exact dX_fits k x
          have c1 := Shuffle_ok (iota k) (dX k x) (by omega) hsh
          rw [hil] at c1
          have hnew := metX_new (show k ≤ 52 by omega) hx'
          have hml := metX_length k x
          have hc : VCall Tryd.prog 17 [.ro (rowsI (metX k x)) 0 x, .fn 18 [.rp (.box [.ro (.ints .i64 (permX k x)) 0 k]) 0 0]] (.bool false) := by
            have := containsS (metX k x) 18 [.rp (.box [.ro (.ints .i64 (permX k x)) 0 (permX k x).length]) 0 0] (fun m => decide (m = permX k x)) rfl (by omega) (fun m hm => each1 (permX k x) m (by
              simp only [metX, List.mem_map] at hm
              obtain ⟨y, _, rfl⟩ := hm
              rw [permX_length]; omega) (by omega))
            rwa [hnew, hml, hpl] at this
          repeat (first
            | refine ax_q (q_move rfl) ?_
            | refine ax_post_code ?_
            | refine ax_seq ?_
            | refine ax_region rfl ?_
            | refine ax_exit ?_
            | refine ax_exit_here ?_
            | refine ax_exit_code ?_
            | refine ax_exit_inv ?_)
          refine ax_freeze_ops [none, some ⟨3, .ints .i64 (dX k x)⟩] [some ⟨22, rowsI (metX k x)⟩, none]
            [(52, .ro (.ints .i64 (iota k)) 0 k), (53, .ro (.ints .i64 (dX k x)) 0 (dX k x).length), (0, .int .i64 (k : Nat)), (3, .ro (.ints .i64 (iota k)) 0 k), (7, .sl 0 0 x), (33, .int .i64 (fac k : Nat)), (34, .int .i64 (x : Nat))] ?_ ?_ rfl ?_
            ⟨⟨_, rfl, .inl rfl⟩, ⟨_, rfl, .inr (.inr ⟨rfl, fun o ho => by simp at ho; subst ho; exact Nat.le_of_eq (Nat.zero_add _)⟩)⟩, ⟨_, rfl, .inl rfl⟩, ⟨_, rfl, .inl rfl⟩, ⟨_, rfl, .inl rfl⟩, ⟨_, rfl, .inl rfl⟩, ⟨_, rfl, .inl rfl⟩, trivial⟩ ?_
          · intro h o ho
            match h, ho with
            | 0, ho => simp at ho
            | 1, ho => exact ho
            | _ + 2, ho => simp at ho
          · intro h o ho
            match h, ho with
            | 0, ho => simp at ho
            | 1, ho => simp at ho; subst ho; exact refless_ints
            | _ + 2, ho => simp at ho
          · intro h o' ho'
            match h, ho' with
            | 0, ho' => exact ⟨fun o h => by simp at h, o', ho', rfl, rfl, rfl, fun _ _ _ _ => .inl rfl⟩
            | 1, ho' => simp at ho'
            | _ + 2, ho' => simp at ho'
          refine ax_callv rfl rfl rfl c1 ?_
          repeat (first
            | refine ax_q (q_move rfl) ?_
            | refine ax_q (q_assign rfl) ?_
            | refine ax_ops_nil ?_
            | refine ax_post_code ?_
            | refine ax_seq ?_
            | refine ax_region rfl ?_
            | refine ax_guard rfl rfl ?_
            | refine ax_q (q_neq rfl rfl) ?_
            | refine ax_q (q_extract rfl rfl) ?_
            | refine ax_q (q_makefn rfl) ?_
            | refine ax_store rfl rfl rfl rfl rfl rfl rfl Nat.zero_lt_one ?_
            | refine ax_alloc rfl rfl rfl ?_)
          refine ax_calll rfl rfl rfl rfl hc (fun h o ho => ?_) ⟨fun o ho => ?_, ⟨fun o ho => ?_, trivial⟩, trivial⟩ rfl rfl rfl ?_
          · match h, ho with
            | 0, ho => simp at ho; subst ho; exact refless_rowsI _
            | 1, ho => simp at ho
            | 2, ho => simp at ho; subst ho; exact refless_box rfl
            | _ + 3, ho => simp at ho
          · simp at ho; subst ho
            show 0 + x ≤ (metX k x).length
            omega
          · simp at ho; subst ho
            exact Nat.zero_lt_one
          repeat (first
            | refine ax_q (q_move rfl) ?_
            | refine ax_ops_nil ?_
            | refine ax_post_code ?_
            | refine ax_region rfl ?_
            | refine ax_cond_false rfl ?_
            | refine ax_skip ?_
            | refine ax_q (q_loadb_ptr rfl rfl rfl rfl rfl) ?_
            | refine ax_q (q_pick rfl rfl) ?_
            | refine ax_buildSliceRo rfl rfl rfl rfl rfl rfl rfl rfl rfl rfl rfl ?_)
          refine ax_append rfl rfl rfl rfl rfl rfl rfl rfl rfl hml rfl rfl (by show 0 + 1 ≤ 1; omega) rfl (by show (x + 1) * 24 ≤ _ ∧ _; omega) ?_ (by rw [hfix]; exact fun h => h) ?_
          · intro i j hi hj
            exact rowsI_noref (metX k x) (permX k x) _ (by rw [hpl]; rfl) 0 i j hi hj
          repeat (first
            | refine ax_q (q_assign rfl) ?_
            | refine ax_ops_nil ?_
            | refine ax_post_blk ?_)
          refine ax_post_code ?_
          refine ax_heap ([some ⟨22, rowsI (metX k (x + 1))⟩, none] ++ [none]) ?_ ?_
          · rw [metX_succ]
            exact HSub.eqv (rowsI_snoc (metX k x) (permX k x) _ (by rw [hpl]; rfl)) (HSub.same (HSub.drop HSub.nil))
          refine ax_drop (H1 := [some ⟨22, rowsI (metX k (x + 1))⟩, none]) rfl (by rw [hfix]; exact fun h => h) ?_
          refine ax_drop (H1 := [some ⟨22, rowsI (metX k (x + 1))⟩]) rfl (by rw [hfix]; exact fun h => h) ?_
          repeat (first
            | refine ax_q (q_move rfl) ?_
            | refine ax_ops_nil ?_
            | refine ax_region rfl ?_
            | refine ax_q (q_add rfl rfl (by omega)) ?_)
          refine ax_post_inv ⟨x + 1, by omega, by omega, ⟨rfl, rfl, rfl, rfl, rfl, trivial⟩, rfl⟩
      · repeat (first
          | refine ax_q (q_assign rfl) ?_
          | refine ax_ops_nil ?_
          | refine ax_post_code ?_
          | refine ax_seq ?_
          | refine ax_region rfl ?_
          | refine ax_exit ?_
          | refine ax_exit_here ?_
          | refine ax_exit_code ?_
          | refine ax_exit_inv ?_
          | refine ax_return ?_)
        refine ax_ret hR rfl ⟨rfl, fun h o ho => refl1 (refless_rowsI _) h o ho⟩
  · rintro r H ⟨rfl, h⟩
    exact ⟨rfl, trivial, h⟩
end Go.Proofs.YtmfhdfofmdggaaaDoor

namespace Go.Proofs.YtmfhdfofmdggaaaDoor
open Go.Ax Go.Ax.Idx Go.Ax.Cd Go.Ax.Dl
attribute [local irreducible] Ax Post QOp ACall
set_option maxRecDepth 100000
set_option maxHeartbeats 4000000

def badD (n : Int) (d : List Int) : Bool := decide (¬ fitsF n d = 0)
theorem honest1 (n : Nat) (hn : n ≤ 52) (d : List Int) : VCall Tryd.prog 25 ([.ro (.ints .i64 d) 0 d.length] ++ [.rp (.box [.int .i64 (n : Nat)]) 0 0]) (.bool (badD n d)) := by
  refine ACall.value0 (acall_of_ax (P := Tryd.prog) (fn := Tryd.f25) rfl rfl (by kernel_rfl) rfl (fun c hR hfix => ?_)) (fix := fun _ => False) (fun _ h => h) rfl rfl
  repeat (first
    | refine ax_q (q_move rfl) ?_
    | refine ax_q (q_assign rfl) ?_
    | refine ax_ops_nil ?_
    | refine ax_post_code ?_
    | refine ax_seq ?_
    | refine ax_region rfl ?_
    | refine ax_q (q_loadb_rp rfl rfl rfl rfl) ?_)
  refine ax_callv rfl rfl rfl (fits n d (by omega)) ?_
  repeat (first
    | refine ax_q (q_assign rfl) ?_
    | refine ax_ops_nil ?_
    | refine ax_post_code ?_
    | refine ax_return ?_
    | refine ax_q (q_neq rfl rfl) ?_)
  exact ax_ret hR rfl rfl
theorem bad_none {n : Nat} {ls : List (List Int)} (h : ls.any (badD n) = false) : (∀ l ∈ ls, fitsF n l = 0) ∧ ∀ k, k < ls.length → fitsF n (ls.getD k []) = 0 := by
  rw [List.any_eq_false] at h
  have h1 : ∀ l ∈ ls, fitsF n l = 0 := fun l hl => by
    have := h l hl
    unfold badD at this
    simpa using this
  exact ⟨h1, fun k hk => h1 _ (getD_mem [] hk)⟩
theorem pick9 (a : Int) : ∃ n : Nat, n ≤ 8 ∧ VCall Tryd.prog 15 [.int .i64 a, .int .i64 9] (.int .i64 (n : Nat)) := by
  have hb := pickF_bd a 9 (by omega)
  refine ⟨(pickF a 9).toNat, by omega, ?_⟩
  have := pick a 9 (by omega)
  rwa [show ((pickF a 9).toNat : Int) = pickF a 9 by omega]
theorem take6 (ls : List (List Int)) : (if (6 : Int) < ((ls.length : Nat) : Int) then 6 else ((ls.length : Nat) : Int)) = (((ls.take 6).length : Nat) : Int) := by
  rw [List.length_take]; split <;> omega
theorem take6_ro (ls : List (List Int)) : AEq (.ro (rowsI ls) 0 (ls.take 6).length) (.ro (rowsI (ls.take 6)) 0 (ls.take 6).length) := by
  refine AEq.ro rfl (fun d j hd hj => ?_)
  have hd6 : d < 6 := by rw [List.length_take] at hd; omega
  show AV.ro (.ints .i64 ((ls.take 6).getD (0 + d) [])) 0 _ = AV.ro (.ints .i64 (ls.getD (0 + d) [])) 0 _
  rw [Nat.zero_add, show (ls.take 6).getD d [] = ls.getD d [] by simp only [List.getD, List.getElem?_take, hd6, if_true]]
theorem bNot (b : Bool) : (!b) = true ↔ b = false := by cases b <;> simp

theorem knows_swap {t : Nat} {p q : AV} {L : Fr} (hp : belowA 0 p = false) : ∀ (M : Fr), knows ((t, p) :: L) M → belowF 0 M = true → knows ((t, q) :: L) M
  | [], _, _ => trivial
  | (u, v) :: r, h, hb => by
    simp only [belowF, Bool.and_eq_true] at hb
    refine ⟨?_, knows_swap hp r h.2 hb.2⟩
    have h1 : (bif Nat.beq u t then some p else Go.Ax.look u L) = some v := h.1
    show (bif Nat.beq u t then _ else Go.Ax.look u L) = some v
    cases hq : Nat.beq u t with
    | true => rw [hq] at h1; simp at h1; subst h1; rw [hp] at hb; exact absurd hb.1 (by decide)
    | false => rw [hq] at h1; simpa using h1
/-- From now on the only object, a box, is only read. -/
theorem ax_fzBox {P : Program} {fn : Func} {c : Ctx} {fr : Fr} {k : List It} {x : Code} {ty : TypeId} {l : List AV} (t : Nat) (L : Fr) (hn : noRef.noRefs l = true) (hk1 : knows fr ((t, .ptr 0 0 0) :: L)) (hk2 : knows ((t, .ptr 0 0 0) :: L) L) (hb : belowF 0 L = true) (hfx : ∀ h, ¬ c.fix h)
    (h : Ax P fn c (.code x k) ((t, .rp (.box l) 0 0) :: L) []) : Ax P fn c (.code x k) fr [some ⟨ty, .box l⟩] := by
  refine ax_freeze [some ⟨ty, .box l⟩] [none] ((t, .rp (.box l) 0 0) :: L) (fun _ _ h => h) (refl1 (refless_box hn)) rfl ?_ ⟨⟨.ptr 0 0 0, hk1.1, .inr (.inr ⟨rfl, fun o ho => by simp at ho; subst ho; exact Nat.zero_lt_one⟩)⟩, fzk_knows hk1.2⟩ ?_
  · intro h o' ho'
    match h, ho' with
    | 0, ho' => simp at ho'
    | _ + 1, ho' => simp at ho'
  exact ax_cut [] [none] ((t, .rp (.box l) 0 0) :: L) rfl ⟨look_self _ _ _, knows_swap (p := .ptr 0 0 0) rfl L hk2 hb⟩ (fun h hh => (hfx h hh).elim) rfl (by simp only [belowF, Bool.and_eq_true]; exact ⟨rfl, hb⟩) h

theorem dealHonest (a : Int) (ls : List (List Int)) (hl : ls.length ≤ 9223372036854775807) (hx : ∀ l ∈ ls, l.length ≤ 9223372036854775807) : VCall Tryd.prog 7 [.int .i64 a, .ro (rowsI ls) 0 ls.length] (.bool true) := by
  obtain ⟨n, hn, cn⟩ := pick9 a
  refine ACall.value0 (acall_of_ax (P := Tryd.prog) (fn := Tryd.f7) rfl rfl (by kernel_rfl) rfl (fun c hR hfix => ?_)) (fix := fun _ => False) (fun _ h => h) rfl rfl
  repeat (first
    | refine ax_q (q_assign rfl) ?_
    | refine ax_ops_nil ?_
    | refine ax_post_code ?_
    | refine ax_seq ?_
    | refine ax_region rfl ?_
    | refine ax_box rfl rfl ?_)
  refine ax_callv rfl rfl rfl dealFact ?_
  repeat (first
    | refine ax_q (q_move rfl) ?_
    | refine ax_guard rfl rfl ?_
    | refine ax_q (q_not rfl) ?_)
  refine ax_callv rfl rfl rfl cardsFact ?_
  repeat (first
    | refine ax_ops_nil ?_
    | refine ax_post_code ?_
    | refine ax_seq ?_
    | refine ax_region rfl ?_
    | refine ax_guard rfl rfl ?_
    | refine ax_cond_false rfl ?_
    | refine ax_skip ?_
    | refine ax_q (q_loadb_ptr rfl rfl rfl rfl rfl) ?_
    | refine ax_q (q_not rfl) ?_
    | refine ax_q (q_pick rfl rfl) ?_)
  refine ax_callv rfl rfl rfl cn ?_
  repeat (first
    | refine ax_ops_nil ?_
    | refine ax_post_code ?_
    | refine ax_seq ?_
    | refine ax_store rfl rfl rfl rfl rfl rfl rfl Nat.zero_lt_one ?_)
  refine ax_fzBox (l := [.int .i64 (n : Nat)]) 2 [(1, .ro (rowsI ls) 0 ls.length)] rfl ⟨rfl, rfl, trivial⟩ ⟨rfl, trivial⟩ rfl (by rw [hfix]; exact fun h hh => hh) ?_
  have h6 := take6 ls
  have hr6 := take6_ro ls
  have hx6 : ∀ l ∈ ls.take 6, l.length ≤ 9223372036854775807 := fun l hl => hx l (List.mem_of_mem_take hl)
  have hl6 : (ls.take 6).length ≤ 6 := by rw [List.length_take]; omega
  have hm6 : (ls.take 6).length ≤ ls.length := by rw [List.length_take]; omega
  generalize ls.take 6 = ms at *
  repeat (first
    | refine ax_q (q_move rfl) ?_
    | refine ax_region rfl ?_
    | refine ax_q (q_len rfl rfl rfl) ?_
    | refine ax_q (q_min rfl rfl) ?_)
  refine ax_slot_ops 26 (.int .i64 (ms.length : Nat)) rfl (AEq.of_eq (by rw [h6])) ?_
  repeat (first
    | refine ax_q (q_assign rfl) ?_
    | refine ax_ops_nil ?_
    | refine ax_post_code ?_
    | refine ax_seq ?_
    | refine ax_q (q_slice_ro rfl rfl rfl rfl rfl rfl rfl (by omega)) ?_)
  refine ax_slot 1 (.ro (rowsI ms) 0 ms.length) rfl (by simpa using hr6) ?_
  have hcont := containsS ms 25 [.rp (.box [.int .i64 (n : Nat)]) 0 0] (badD n) rfl (by omega) (fun d _ => honest1 n (by omega) d)
  repeat (first
    | refine ax_q (q_move rfl) ?_
    | refine ax_region rfl ?_
    | refine ax_q (q_eql rfl rfl) ?_
    | refine ax_q (q_len rfl rfl rfl) ?_)
  refine ax_gsplit rfl rfl (fun h0 => ?_) (fun h0 => ?_)
  · repeat (first
      | refine ax_q (q_assign rfl) ?_
      | refine ax_ops_nil ?_
      | refine ax_post_code ?_
      | refine ax_seq ?_
      | refine ax_region rfl ?_
      | refine ax_skip_not rfl rfl rfl ?_
      | refine ax_cond_true rfl ?_
      | refine ax_return ?_
      | refine ax_ret_code ?_
      | refine ax_q (q_pick rfl rfl) ?_)
    exact ax_ret hR rfl rfl
  repeat (first
    | refine ax_q (q_move rfl) ?_
    | refine ax_guard rfl rfl ?_
    | refine ax_q (q_makefn rfl) ?_)
  refine ax_callv rfl rfl rfl hcont ?_
  repeat (first
    | refine ax_ops_nil ?_
    | refine ax_post_code ?_
    | refine ax_q (q_pick rfl rfl) ?_)
  refine ax_cond rfl (fun h1 => ?_) (fun h1 => ?_)
  · repeat (first
      | refine ax_q (q_assign rfl) ?_
      | refine ax_ops_nil ?_
      | refine ax_post_code ?_
      | refine ax_seq ?_
      | refine ax_region rfl ?_
      | refine ax_return ?_
      | refine ax_ret_code ?_)
    exact ax_ret hR rfl rfl
  obtain ⟨hf1, hf2⟩ := bad_none h1
  have hpos : 1 ≤ ms.length := by omega
  have hpl := played_ok n ms (by omega) ⟨hpos, hl6⟩ hf2
  have hco := Combine_ok n (by omega) ms hl6 hf2
  have hfr := Fresh_ok n (by omega)
  have hcf := comb_fits ms hf1
  have hsh := Shuffle_ok (iota n) (combF n ms) (by rw [iota_length]; omega) (by unfold shufE; rw [if_neg (by have := iota_deck (show n ≤ 52 by omega); omega), iota_length]; exact hcf)
  have hsl : (shufF (iota n) (combF n ms)).length = n := by unfold shufF; rw [shufGo_length, iota_length]
  rw [iota_length] at hsh
  have hol := opPs_length ms ms.length
  have hde := Deck_r n (opPs ms ms.length) (-1) (by omega) (by omega) (stage_done ms) (fun k hk => by
    rw [hol] at hk
    rw [opPs_getD hk]
    unfold opPl
    rw [if_pos hk]
    exact hf2 k hk)
  rw [opPs_dr] at hde
  have hst := Stage_r n (opPs ms ms.length) (-1) (by omega)
  have hmi := Missing_r n (opPs ms ms.length) (-1) (by omega) (by rw [stage_done]; decide)
  rw [stage_done] at hst
  have heq := f_eq (shufF (iota n) (combF n ms)) (by omega)
  rw [hsl] at heq
  generalize shufF (iota n) (combF n ms) = sh at *
  generalize opPs ms ms.length = os at *
  generalize combF n ms = cb at *
  repeat (first
    | refine ax_q (q_move rfl) ?_
    | refine ax_post_code ?_
    | refine ax_seq ?_
    | refine ax_region rfl ?_
    | refine ax_skip ?_
    | refine ax_q (q_loadb_rp rfl rfl rfl rfl) ?_)
  refine ax_callv rfl rfl rfl hpl ?_
  repeat (first
    | refine ax_q (q_move rfl) ?_
    | refine ax_q (q_assign rfl) ?_
    | refine ax_ops_nil ?_
    | refine ax_post_code ?_
    | refine ax_seq ?_
    | refine ax_region rfl ?_
    | refine ax_q (q_extract rfl rfl) ?_
    | refine ax_q (q_loadb_rp rfl rfl rfl rfl) ?_)
  refine ax_callv rfl rfl rfl hco ?_
  repeat (first
    | refine ax_q (q_move rfl) ?_
    | refine ax_q (q_assign rfl) ?_
    | refine ax_ops_nil ?_
    | refine ax_post_code ?_
    | refine ax_seq ?_
    | refine ax_region rfl ?_
    | refine ax_q (q_extract rfl rfl) ?_
    | refine ax_q (q_loadb_rp rfl rfl rfl rfl) ?_)
  refine ax_callv rfl rfl rfl hfr ?_
  repeat (first
    | refine ax_q (q_move rfl) ?_
    | refine ax_q (q_assign rfl) ?_
    | refine ax_ops_nil ?_
    | refine ax_post_code ?_
    | refine ax_seq ?_
    | refine ax_region rfl ?_
    | refine ax_q (q_extract rfl rfl) ?_)
  refine ax_callv rfl rfl rfl hsh ?_
  repeat (first
    | refine ax_q (q_move rfl) ?_
    | refine ax_q (q_assign rfl) ?_
    | refine ax_ops_nil ?_
    | refine ax_post_code ?_
    | refine ax_seq ?_
    | refine ax_region rfl ?_
    | refine ax_guard rfl rfl ?_
    | refine ax_q (q_not rfl) ?_
    | refine ax_q (q_extract rfl rfl) ?_
    | refine ax_buildSliceRo rfl rfl rfl rfl rfl rfl rfl rfl rfl rfl rfl ?_)
  refine ax_callv rfl rfl rfl (fineI [0, 0, 0] (by decide)) ?_
  repeat (first
    | refine ax_q (q_move rfl) ?_
    | refine ax_ops_nil ?_
    | refine ax_post_code ?_
    | refine ax_seq ?_
    | refine ax_region rfl ?_
    | refine ax_guard rfl rfl ?_
    | refine ax_cond_false rfl ?_
    | refine ax_skip ?_
    | refine ax_q (q_not rfl) ?_
    | refine ax_q (q_pick rfl rfl) ?_)
  refine ax_callv rfl rfl rfl hde ?_
  repeat (first
    | refine ax_q (q_move rfl) ?_
    | refine ax_q (q_assign rfl) ?_
    | refine ax_ops_nil ?_
    | refine ax_post_code ?_
    | refine ax_seq ?_
    | refine ax_region rfl ?_
    | refine ax_guard rfl rfl ?_
    | refine ax_q (q_eql rfl rfl) ?_
    | refine ax_q (q_extract rfl rfl) ?_)
  refine ax_callv rfl rfl rfl heq ?_
  repeat (first
    | refine ax_q (q_move rfl) ?_
    | refine ax_guard rfl rfl ?_
    | refine ax_q (q_pick rfl rfl) ?_)
  refine ax_callv rfl rfl rfl hst ?_
  repeat (first
    | refine ax_q (q_move rfl) ?_
    | refine ax_guard rfl rfl ?_
    | refine ax_q (q_eql rfl rfl) ?_
    | refine ax_q (q_pick rfl rfl) ?_)
  refine ax_callv rfl rfl rfl hmi ?_
  repeat (first
    | refine ax_q (q_assign rfl) ?_
    | refine ax_ops_nil ?_
    | refine ax_post_code ?_
    | refine ax_guard rfl rfl ?_
    | refine ax_return ?_
    | refine ax_q (q_eql rfl rfl) ?_
    | refine ax_q (q_pick rfl rfl) ?_
    | refine ax_q (q_len rfl rfl rfl) ?_)
  exact ax_ret hR rfl rfl
end Go.Proofs.YtmfhdfofmdggaaaDoor

