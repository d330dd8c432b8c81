import Derived.Test.YtmfhdfofmdggaaaDoorK9
import Derived.Test.YtmfhdfofmdggaaaDoorCdEach
namespace Go.Proofs.YtmfhdfofmdggaaaDoor
open Go.Ax Go.Ax.Idx Go.Ax.Cd
attribute [local irreducible] Ax Post QOp ACall
set_option maxRecDepth 100000
set_option maxHeartbeats 4000000
set_option linter.unusedSimpArgs false
set_option linter.unusedVariables false

theorem indexFuncS (ls : List (List Int)) (g : FuncId) (caps : List AV) (p : List Int → Bool) (hc : noRef.noRefs caps = true) (hlen : ls.length ≤ 9223372036854775807) (hp : ∀ x ∈ ls, VCall Tryd.prog g ([.ro (.ints .i64 x) 0 x.length] ++ caps) (.bool (p x))) :
    VCall Tryd.prog 46 [.ro (rowsI ls) 0 ls.length, .fn g caps] (.int .i64 (idxF p ls)) := by
  refine ACall.value0 (acall_of_ax (P := Tryd.prog) (fn := Tryd.f46) rfl rfl (by kernel_rfl) rfl (fun c hR hfix => ?_)) (fix := fun _ => False) (fun _ h => h) (by simp [noRef.noRefs, noRef, hc]) rfl
  repeat (first
    | refine ax_q (q_move rfl) ?_
    | refine ax_q (q_assign rfl) ?_
    | refine ax_ops_nil ?_
    | refine ax_post_code ?_
    | refine ax_seq ?_
    | refine ax_region rfl ?_
    | refine ax_block ?_
    | refine ax_q (q_len rfl rfl rfl) ?_)
  refine ax_loop (ι := Nat) (fun k => [(0, .ro (rowsI ls) 0 ls.length), (1, .fn g caps), (7, .int .i64 (ls.length : Nat)), (8, .int .i64 (k : Nat))]) (fun _ => [])
    (fun k => k ≤ ls.length ∧ (ls.take k).any p = false) (fun k => ls.length - k) 0 ⟨⟨rfl, rfl, rfl, rfl, trivial⟩, rfl, Nat.zero_le _, rfl⟩ ?_
  intro k ⟨hk, hany⟩
  repeat (first
    | refine ax_ops_nil ?_
    | refine ax_post_code ?_
    | refine ax_seq ?_
    | refine ax_region rfl ?_
    | refine ax_q (q_lss rfl rfl) ?_)
  refine ax_cond_dec rfl (fun h => ?_) (fun h => ?_)
  · have hk' : k < ls.length := by omega
    have hanys := any_take_succ p ls [] k hk'
    repeat (first
      | refine ax_q (q_move rfl) ?_
      | refine ax_q (q_assign rfl) ?_
      | refine ax_ops_nil ?_
      | refine ax_post_code ?_
      | refine ax_seq ?_
      | refine ax_region rfl ?_
      | refine ax_block ?_
      | refine ax_skip ?_
      | refine ax_q (q_loadf_rp rfl rfl rfl rfl) ?_
      | refine ax_q (q_index_ro' rfl rfl rfl rfl (by first | (simp only [Nat.zero_add, Int.toNat_natCast, Int.toNat_zero]; exact rfl) | exact rfl) (by omega)) ?_)
    refine ax_callv rfl rfl rfl (hp _ (getD_mem [] hk')) ?_
    repeat (first
      | refine ax_ops_nil ?_
      | refine ax_post_code ?_)
    refine ax_cond rfl (fun h2 => ?_) (fun h2 => ?_)
    · repeat (first
        | refine ax_q (q_move rfl) ?_
        | refine ax_q (q_assign rfl) ?_
        | refine ax_ops_nil ?_
        | refine ax_post_code ?_
        | refine ax_seq ?_
        | refine ax_region rfl ?_
        | refine ax_return ?_
        | refine ax_ret_code ?_
        | refine ax_ret_blk ?_
        | refine ax_ret_inv ?_)
      refine ax_ret hR rfl ?_
      have := idxF_take p ls k hany hk
      rw [drop_getD ls [] k hk'] at this
      simp only [idxF, h2, if_true] at this
      rw [this]; simp [tupOf]
    · repeat (first
        | refine ax_q (q_move rfl) ?_
        | refine ax_ops_nil ?_
        | refine ax_post_code ?_
        | refine ax_region rfl ?_
        | refine ax_post_blk ?_
        | refine ax_skip ?_
        | refine ax_q (q_add rfl rfl (by omega)) ?_)
      refine ax_post_inv ⟨k + 1, ⟨by omega, by rw [hanys, hany, h2]; rfl⟩, by omega, ⟨rfl, rfl, rfl, rfl, trivial⟩, rfl⟩
  · have hk' : k = ls.length := by omega
    subst hk'
    repeat (first
      | refine ax_q (q_assign rfl) ?_
      | refine ax_ops_nil ?_
      | refine ax_post_code ?_
      | refine ax_seq ?_
      | refine ax_region rfl ?_
      | refine ax_exit ?_
      | refine ax_exit_here ?_
      | refine ax_exit_code ?_
      | refine ax_exit_inv ?_
      | refine ax_return ?_)
    refine ax_ret hR rfl ?_
    have := idxF_take p ls ls.length hany hk
    rw [List.drop_length] at this
    rw [this]; rfl
theorem containsS (ls : List (List Int)) (g : FuncId) (caps : List AV) (p : List Int → Bool) (hc : noRef.noRefs caps = true) (hlen : ls.length ≤ 9223372036854775807) (hp : ∀ x ∈ ls, VCall Tryd.prog g ([.ro (.ints .i64 x) 0 x.length] ++ caps) (.bool (p x))) :
    VCall Tryd.prog 17 [.ro (rowsI ls) 0 ls.length, .fn g caps] (.bool (ls.any p)) := by
  refine ACall.value0 (acall_of_ax (P := Tryd.prog) (fn := Tryd.f17) rfl rfl (by kernel_rfl) rfl (fun c hR hfix => ?_)) (fix := fun _ => False) (fun _ h => h) (by simp [noRef.noRefs, noRef, hc]) rfl
  repeat (first
    | refine ax_q (q_move rfl) ?_
    | refine ax_q (q_assign rfl) ?_
    | refine ax_ops_nil ?_
    | refine ax_post_code ?_
    | refine ax_seq ?_
    | refine ax_region rfl ?_)
  refine ax_callv rfl rfl rfl (indexFuncS ls g caps p hc hlen hp) ?_
  repeat (first
    | refine ax_q (q_assign rfl) ?_
    | refine ax_ops_nil ?_
    | refine ax_post_code ?_
    | refine ax_return ?_
    | refine ax_q (q_geq rfl rfl) ?_)
  refine ax_ret hR rfl ?_
  simp only [tupOf, idxF_any]
theorem each1 (s m : List Int) (h1 : m.length ≤ 9223372036854775807) (h2 : s.length ≤ 9223372036854775807) : VCall Tryd.prog 18 ([.ro (.ints .i64 m) 0 m.length] ++ [.rp (.box [.ro (.ints .i64 s) 0 s.length]) 0 0]) (.bool (decide (m = s))) := by
  refine ACall.value0 (acall_of_ax (P := Tryd.prog) (fn := Tryd.f18) rfl rfl (by kernel_rfl) rfl (fun c hR hfix => ?_)) (fix := fun _ => False) (fun _ h => h) rfl rfl
  repeat (first
    | refine ax_q (q_move rfl) ?_
    | refine ax_q (q_assign rfl) ?_
    | refine ax_ops_nil ?_
    | refine ax_post_code ?_
    | refine ax_seq ?_
    | refine ax_region rfl ?_
    | refine ax_q (q_loadb_rp rfl rfl rfl rfl) ?_)
  refine ax_callv rfl rfl rfl (equalI m s h1 h2) ?_
  repeat (first
    | refine ax_q (q_assign rfl) ?_
    | refine ax_ops_nil ?_
    | refine ax_post_code ?_
    | refine ax_return ?_)
  exact ax_ret hR rfl rfl

/-- The decks met behind x rounds. -/
def metX (n x : Nat) : List (List Int) := (List.range x).map (permX n)
theorem metX_length (n x : Nat) : (metX n x).length = x := by simp [metX]
theorem metX_succ (n x : Nat) : metX n (x + 1) = metX n x ++ [permX n x] := by simp [metX, List.range_succ]
theorem metX_new {n x : Nat} (hn : n ≤ 52) (hx : x < fac n) : (metX n x).any (fun m => decide (m = permX n x)) = false := by
  rw [List.any_eq_false]
  intro m hm
  simp only [metX, List.mem_map, List.mem_range] at hm
  obtain ⟨y, hy, rfl⟩ := hm
  simp only [decide_eq_true_eq]
  intro e
  have := permX_inj hn (by omega) hx e
  omega
theorem refless_rowsI (ls : List (List Int)) : refless (rowsI ls) := fun _ _ _ _ => rfl

theorem cardsEach (a : Int) : VCall Tryd.prog 4 [.int .i64 a] (.bool true) := by
  obtain ⟨n, hn, cn⟩ : ∃ n : Nat, n ≤ 5 ∧ VCall Tryd.prog 15 [.int .i64 a, .int .i64 6] (.int .i64 (n : Nat)) := by
    have hb := pickF_bd a 6 (by omega)
    refine ⟨(pickF a 6).toNat, by omega, ?_⟩
    have := pick a 6 (by omega)
    rwa [show ((pickF a 6).toNat : Int) = pickF a 6 by omega]
  have hfac := fac_le hn
  refine ACall.value (K := fun r H => r = .bool true ∧ ∀ (h : Nat) (o : AObj), H[h]? = some (some o) → refless o.c) (acall_of_ax (P := Tryd.prog) (fn := Tryd.f4) rfl rfl (by kernel_rfl) rfl (fun c hR hfix => ?_)) (fix := fun _ => False) (fun _ h => h) rfl ?_
  · repeat (first
      | refine ax_q (q_assign rfl) ?_
      | refine ax_ops_nil ?_
      | refine ax_post_code ?_
      | refine ax_seq ?_
      | refine ax_region rfl ?_)
    refine ax_callv rfl rfl rfl cardsFact ?_
    repeat (first
      | refine ax_q (q_move rfl) ?_
      | refine ax_ops_nil ?_
      | refine ax_post_code ?_
      | refine ax_seq ?_
      | refine ax_region rfl ?_
      | refine ax_cond_false rfl ?_
      | refine ax_skip ?_
      | refine ax_q (q_not rfl) ?_)
    refine ax_callv rfl rfl rfl cn ?_
    repeat (first
      | refine ax_q (q_move rfl) ?_
      | refine ax_q (q_assign rfl) ?_
      | refine ax_ops_nil ?_
      | refine ax_post_code ?_
      | refine ax_seq ?_
      | refine ax_region rfl ?_)
    refine ax_callv rfl rfl rfl (Fresh_ok n (by omega)) ?_
    repeat (first
      | refine ax_q (q_move rfl) ?_
      | refine ax_q (q_assign rfl) ?_
      | refine ax_ops_nil ?_
      | refine ax_post_code ?_
      | refine ax_seq ?_
      | refine ax_region rfl ?_
      | refine ax_cond_false rfl ?_
      | refine ax_block ?_
      | refine ax_skip ?_
      | refine ax_q (q_neq rfl rfl) ?_
      | refine ax_q (q_extract rfl rfl) ?_)
    refine ax_loop (ι := Nat) (fun k => [(0, .int .i64 (n : Nat)), (3, .ro (.ints .i64 (iota n)) 0 n), (5, .int .i64 (fac k : Nat)), (24, .int .i64 (n : Nat)), (25, .int .i64 (k : Nat))]) (fun _ => [])
      (fun k => k ≤ n) (fun k => n - k) 0 ⟨⟨rfl, rfl, rfl, rfl, rfl, trivial⟩, rfl, Nat.zero_le _⟩ ?_
    intro k hk
    repeat (first
      | refine ax_ops_nil ?_
      | refine ax_post_code ?_
      | refine ax_seq ?_
      | refine ax_region rfl ?_
      | refine ax_q (q_lss rfl rfl) ?_)
    refine ax_cond_dec rfl (fun h1 => ?_) (fun h1 => ?_)
    · have hk' : k < n := by omega
      have hf := fac_le (show k + 1 ≤ 5 by omega)
      have hm : (fac k : Int) * ((k : Int) + 1) = ((fac (k + 1) : Nat) : Int) := by simp [fac]
      repeat (first
        | refine ax_q (q_move rfl) ?_
        | refine ax_q (q_assign rfl) ?_
        | refine ax_ops_nil ?_
        | refine ax_post_code ?_
        | refine ax_seq ?_
        | refine ax_region rfl ?_
        | refine ax_block ?_
        | refine ax_skip ?_
        | refine ax_q (q_add rfl rfl (by omega)) ?_)
      refine ax_q (q_mul rfl rfl (by rw [hm]; omega)) ?_
      repeat (first
        | refine ax_q (q_move rfl) ?_
        | refine ax_q (q_assign rfl) ?_
        | refine ax_ops_nil ?_
        | refine ax_post_code ?_
        | refine ax_region rfl ?_
        | refine ax_post_blk ?_
        | refine ax_q (q_add rfl rfl (by omega)) ?_)
      exact ax_post_inv ⟨k + 1, by omega, by omega, ⟨rfl, rfl, by rw [← hm]; rfl, rfl, rfl, trivial⟩, rfl⟩
    · have hk' : k = n := by omega
      subst hk'
      repeat (first
        | refine ax_q (q_move rfl) ?_
        | refine ax_q (q_assign rfl) ?_
        | refine ax_ops_nil ?_
        | refine ax_post_code ?_
        | refine ax_seq ?_
        | refine ax_region rfl ?_
        | refine ax_exit ?_
        | refine ax_exit_here ?_
        | refine ax_exit_code ?_
        | refine ax_exit_inv ?_)
      refine ax_nilobj 7 ⟨22, rowsI []⟩ rfl rfl ?_
      repeat (refine ax_block ?_)
      refine ax_loop (ι := Nat) (fun x => [(0, .int .i64 (k : Nat)), (3, .ro (.ints .i64 (iota k)) 0 k), (7, .sl 0 0 x), (33, .int .i64 (fac k : Nat)), (34, .int .i64 (x : Nat))]) (fun x => [some ⟨22, rowsI (metX k x)⟩])
        (fun x => x ≤ fac k) (fun x => fac k - x) 0 ⟨⟨rfl, rfl, rfl, rfl, rfl, trivial⟩, rfl, Nat.zero_le _⟩ ?_
      intro x hx
      repeat (first
        | refine ax_ops_nil ?_
        | refine ax_post_code ?_
        | refine ax_seq ?_
        | refine ax_region rfl ?_
        | refine ax_q (q_lss rfl rfl) ?_)
      refine ax_cond_dec rfl (fun h2 => ?_) (fun h2 => ?_)
      · have hx' : x < fac k := by omega
        repeat (first
          | refine ax_post_code ?_
          | refine ax_seq ?_
          | refine ax_skip ?_)
        refine ax_block ?_
        repeat (first
          | refine ax_q (q_move rfl) ?_
          | refine ax_q (q_assign rfl) ?_
          | refine ax_ops_nil ?_
          | refine ax_post_code ?_
          | refine ax_seq ?_
          | refine ax_region rfl ?_)
        refine ax_nilobj 9 ⟨3, .ints .i64 []⟩ rfl rfl ?_
        repeat (refine ax_block ?_)
        refine ax_loop (ι := Nat × Nat × List Int) (fun s => [(0, .int .i64 (k : Nat)), (3, .ro (.ints .i64 (iota k)) 0 k), (7, .sl 0 0 x), (33, .int .i64 (fac k : Nat)), (34, .int .i64 (x : Nat)), (8, .int .i64 (s.2.1 : Nat)), (9, .sl 1 0 s.2.2.length), (10, .int .i64 (s.1 : Nat))]) (fun s => [some ⟨22, rowsI (metX k x)⟩, some ⟨3, .ints .i64 s.2.2⟩])
          (fun s => s.1 ≤ k ∧ s.2.1 ≤ 120 ∧ s.2.2.length ≤ 5 - s.1 ∧ s.2.2 ++ dX s.1 s.2.1 = dX k x) (fun s => s.1) (k, x, []) ⟨⟨rfl, rfl, rfl, rfl, rfl, rfl, rfl, rfl, trivial⟩, rfl, Nat.le_refl _, by simp only; omega, Nat.zero_le _, rfl⟩ ?_
        rintro ⟨i, z, out⟩ ⟨hi, hz, hol, hgo⟩
        simp only at *
        repeat (first
          | refine ax_q (q_move rfl) ?_
          | refine ax_ops_nil ?_
          | refine ax_post_code ?_
          | refine ax_seq ?_
          | refine ax_region rfl ?_
          | refine ax_q (q_gtr rfl rfl) ?_)
        refine ax_cond_dec rfl (fun h3 => ?_) (fun h3 => ?_)
        · have hi1 : 1 < i := by omega
          rw [dX_step hi1] at hgo
          have hzd : z / i ≤ z := Nat.div_le_self _ _
          have hm : (z : Int) % (i : Int) = ((z % i : Nat) : Int) := by simp
          have hd : (z : Int) / (i : Int) = ((z / i : Nat) : Int) := by simp
          repeat (first
            | refine ax_q (q_move rfl) ?_
            | refine ax_post_code ?_
            | refine ax_seq ?_
            | refine ax_region rfl ?_
            | refine ax_block ?_
            | refine ax_skip ?_
            | refine ax_q (q_rem rfl rfl (by omega)) ?_
            | refine ax_buildSliceRo rfl rfl rfl rfl rfl rfl rfl rfl rfl rfl rfl ?_)
          refine ax_append rfl rfl rfl rfl rfl rfl rfl rfl rfl rfl rfl rfl (by show 0 + 1 ≤ 1; omega) rfl (by show (out.length + 1) * 8 ≤ _ ∧ _; omega) (fun i j _ _ => rfl) (by rw [hfix]; exact fun h => h) ?_
          repeat (first
            | refine ax_q (q_move rfl) ?_
            | refine ax_q (q_assign rfl) ?_
            | refine ax_ops_nil ?_
            | refine ax_post_code ?_
            | refine ax_region rfl ?_
            | refine ax_post_blk ?_
            | refine ax_q (q_sub rfl rfl (by omega)) ?_
            | refine ax_q (q_quo rfl rfl (by omega)) ?_)
          refine ax_post_inv ⟨(i - 1, z / i, out ++ [((z % i : Nat) : Int)]), ⟨by simp only; omega, by simp only; omega, by simp only [List.length_append, List.length_cons, List.length_nil]; omega, by simp only; rw [List.append_assoc]; exact hgo⟩, by simp only; omega, ⟨rfl, rfl, rfl, rfl, rfl, ?_, ?_, ?_, trivial⟩, ?_⟩
          · show some (AV.int .i64 ((z : Int) / (i : Int))) = _
            rw [hd]
          · show some (AV.sl 1 0 (out.length + 1)) = _
            simp
          · show some (AV.int .i64 ((i : Int) - 1)) = _
            congr 2; simp only; omega
          · show ([some ⟨22, rowsI (metX k x)⟩, some ⟨3, .ints .i64 (out ++ [(z : Int) % (i : Int)])⟩] : AHeap) = _
            rw [hm]
        · have hi1 : ¬ 1 < i := by omega
          rw [dX_end hi1, List.append_nil] at hgo
          subst hgo
          have hil := iota_length k
          have hpl := permX_length k x
          have hsh : shufE (iota k) (dX k x) = 0 := by
            unfold shufE
            rw [if_neg (by rw [iota_deck (by omega)]; decide), hil]
            exact dX_fits k x
          have c1 := Shuffle_ok (iota k) (dX k x) (by omega) hsh
          rw [hil] at c1
          have hnew := metX_new (show k ≤ 52 by omega) hx'
          have hml := metX_length k x
          have hc : VCall Tryd.prog 17 [.ro (rowsI (metX k x)) 0 x, .fn 18 [.rp (.box [.ro (.ints .i64 (permX k x)) 0 k]) 0 0]] (.bool false) := by
            have := containsS (metX k x) 18 [.rp (.box [.ro (.ints .i64 (permX k x)) 0 (permX k x).length]) 0 0] (fun m => decide (m = permX k x)) rfl (by omega) (fun m hm => each1 (permX k x) m (by
              simp only [metX, List.mem_map] at hm
              obtain ⟨y, _, rfl⟩ := hm
              rw [permX_length]; omega) (by omega))
            rwa [hnew, hml, hpl] at this
          repeat (first
            | refine ax_q (q_move rfl) ?_
            | refine ax_post_code ?_
            | refine ax_seq ?_
            | refine ax_region rfl ?_
            | refine ax_exit ?_
            | refine ax_exit_here ?_
            | refine ax_exit_code ?_
            | refine ax_exit_inv ?_)
          refine ax_freeze_ops [none, some ⟨3, .ints .i64 (dX k x)⟩] [some ⟨22, rowsI (metX k x)⟩, none]
            [(52, .ro (.ints .i64 (iota k)) 0 k), (53, .ro (.ints .i64 (dX k x)) 0 (dX k x).length), (0, .int .i64 (k : Nat)), (3, .ro (.ints .i64 (iota k)) 0 k), (7, .sl 0 0 x), (33, .int .i64 (fac k : Nat)), (34, .int .i64 (x : Nat))] ?_ ?_ rfl ?_
            ⟨⟨_, rfl, .inl rfl⟩, ⟨_, rfl, .inr (.inr ⟨rfl, fun o ho => by simp at ho; subst ho; exact Nat.le_of_eq (Nat.zero_add _)⟩)⟩, ⟨_, rfl, .inl rfl⟩, ⟨_, rfl, .inl rfl⟩, ⟨_, rfl, .inl rfl⟩, ⟨_, rfl, .inl rfl⟩, ⟨_, rfl, .inl rfl⟩, trivial⟩ ?_
          · intro h o ho
            match h, ho with
            | 0, ho => simp at ho
            | 1, ho => exact ho
            | _ + 2, ho => simp at ho
          · intro h o ho
            match h, ho with
            | 0, ho => simp at ho
            | 1, ho => simp at ho; subst ho; exact refless_ints
            | _ + 2, ho => simp at ho
          · intro h o' ho'
            match h, ho' with
            | 0, ho' => exact ⟨fun o h => by simp at h, o', ho', rfl, rfl, rfl, fun _ _ _ _ => .inl rfl⟩
            | 1, ho' => simp at ho'
            | _ + 2, ho' => simp at ho'
          refine ax_callv rfl rfl rfl c1 ?_
          repeat (first
            | refine ax_q (q_move rfl) ?_
            | refine ax_q (q_assign rfl) ?_
            | refine ax_ops_nil ?_
            | refine ax_post_code ?_
            | refine ax_seq ?_
            | refine ax_region rfl ?_
            | refine ax_guard rfl rfl ?_
            | refine ax_q (q_neq rfl rfl) ?_
            | refine ax_q (q_extract rfl rfl) ?_
            | refine ax_q (q_makefn rfl) ?_
            | refine ax_store rfl rfl rfl rfl rfl rfl rfl Nat.zero_lt_one ?_
            | refine ax_alloc rfl rfl rfl ?_)
          refine ax_calll rfl rfl rfl rfl hc (fun h o ho => ?_) ⟨fun o ho => ?_, ⟨fun o ho => ?_, trivial⟩, trivial⟩ rfl rfl rfl ?_
          · match h, ho with
            | 0, ho => simp at ho; subst ho; exact refless_rowsI _
            | 1, ho => simp at ho
            | 2, ho => simp at ho; subst ho; exact refless_box rfl
            | _ + 3, ho => simp at ho
          · simp at ho; subst ho
            show 0 + x ≤ (metX k x).length
            omega
          · simp at ho; subst ho
            exact Nat.zero_lt_one
          repeat (first
            | refine ax_q (q_move rfl) ?_
            | refine ax_ops_nil ?_
            | refine ax_post_code ?_
            | refine ax_region rfl ?_
            | refine ax_cond_false rfl ?_
            | refine ax_skip ?_
            | refine ax_q (q_loadb_ptr rfl rfl rfl rfl rfl) ?_
            | refine ax_q (q_pick rfl rfl) ?_
            | refine ax_buildSliceRo rfl rfl rfl rfl rfl rfl rfl rfl rfl rfl rfl ?_)
          refine ax_append rfl rfl rfl rfl rfl rfl rfl rfl rfl hml rfl rfl (by show 0 + 1 ≤ 1; omega) rfl (by show (x + 1) * 24 ≤ _ ∧ _; omega) ?_ (by rw [hfix]; exact fun h => h) ?_
          · intro i j hi hj
            exact rowsI_noref (metX k x) (permX k x) _ (by rw [hpl]; rfl) 0 i j hi hj
          repeat (first
            | refine ax_q (q_assign rfl) ?_
            | refine ax_ops_nil ?_
            | refine ax_post_blk ?_)
          refine ax_post_code ?_
          refine ax_heap ([some ⟨22, rowsI (metX k (x + 1))⟩, none] ++ [none]) ?_ ?_
          · rw [metX_succ]
            exact HSub.eqv (rowsI_snoc (metX k x) (permX k x) _ (by rw [hpl]; rfl)) (HSub.same (HSub.drop HSub.nil))
          refine ax_drop (H1 := [some ⟨22, rowsI (metX k (x + 1))⟩, none]) rfl (by rw [hfix]; exact fun h => h) ?_
          refine ax_drop (H1 := [some ⟨22, rowsI (metX k (x + 1))⟩]) rfl (by rw [hfix]; exact fun h => h) ?_
          repeat (first
            | refine ax_q (q_move rfl) ?_
            | refine ax_ops_nil ?_
            | refine ax_region rfl ?_
            | refine ax_q (q_add rfl rfl (by omega)) ?_)
          refine ax_post_inv ⟨x + 1, by omega, by omega, ⟨rfl, rfl, rfl, rfl, rfl, trivial⟩, rfl⟩
      · repeat (first
          | refine ax_q (q_assign rfl) ?_
          | refine ax_ops_nil ?_
          | refine ax_post_code ?_
          | refine ax_seq ?_
          | refine ax_region rfl ?_
          | refine ax_exit ?_
          | refine ax_exit_here ?_
          | refine ax_exit_code ?_
          | refine ax_exit_inv ?_
          | refine ax_return ?_)
        refine ax_ret hR rfl ⟨rfl, fun h o ho => refl1 (refless_rowsI _) h o ho⟩
  · rintro r H ⟨rfl, h⟩
    exact ⟨rfl, trivial, h⟩
end Go.Proofs.YtmfhdfofmdggaaaDoor
