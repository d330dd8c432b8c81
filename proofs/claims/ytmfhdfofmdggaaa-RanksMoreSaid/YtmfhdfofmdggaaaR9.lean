import Derived.Test.YtmfhdfofmdggaaaR8
namespace Go.Proofs.Ytmfhdfofmdggaaa
open Go.Ax Go.Ax.Idx Go.Ax.Cd Go.Ax.Rk Go.RowKit
attribute [local irreducible] Ax Post QOp ACall
set_option maxRecDepth 100000
set_option maxHeartbeats 4000000
set_option linter.unusedSimpArgs false
set_option linter.unusedVariables false

theorem none1 : ∀ (h : Nat) (o : AObj), ([none] : AHeap)[h]? = some (some o) → refless o.c := by
  intro h o ho
  match h, ho with
  | 0, ho => simp at ho
  | _ + 1, ho => simp at ho
theorem Best_no (l : List Int) (hl : l.length ≤ 9223372036854775807) {e : Int} (he : bestE l = e) (h : e ≠ 0) : VCall Try.prog 10 [.ro (.ints .i64 l) 0 l.length] (.tup [.nil, .int .i64 0, .int .i64 e]) := by
  refine ACall.value (K := fun r H => r = .tup [.nil, .int .i64 0, .int .i64 e] ∧ H = [none]) (acall_of_ax (P := Try.prog) (fn := Try.f10) rfl rfl (by kernel_rfl) rfl (fun c hR hfix => ?_)) (fix := fun _ => False) (fun _ h => h) rfl ?_
  · unfold bestE at he
    repeat (first
      | refine ax_q (q_assign rfl) ?_
      | refine ax_ops_nil ?_
      | refine ax_post_code ?_
      | refine ax_seq ?_
      | refine ax_region rfl ?_
      | refine ax_q (q_loadb_ptr rfl rfl rfl rfl rfl) ?_
      | refine ax_box rfl rfl ?_)
    refine ax_freeze_ops [some ⟨22, .box [.ro (.ints .i64 l) 0 l.length]⟩] [none] [(1, .rp (.box [.ro (.ints .i64 l) 0 l.length]) 0 0), (9, .ro (.ints .i64 l) 0 l.length), (2, .nil), (3, .int .i64 0), (4, .int .i64 0)] (fun _ _ h => h) (refl1 (refless_box rfl)) rfl ?_
      ⟨⟨_, rfl, .inr (.inr ⟨rfl, fun o ho => by simp at ho; subst ho; exact Nat.zero_lt_one⟩)⟩, ⟨_, rfl, .inl rfl⟩, ⟨_, rfl, .inl rfl⟩, ⟨_, rfl, .inl rfl⟩, ⟨_, rfl, .inl rfl⟩, trivial⟩ ?_
    · intro h o' ho'
      match h, ho' with
      | 0, ho' => simp at ho'
      | _ + 1, ho' => simp at ho'
    refine ax_callv rfl rfl rfl (check l hl) ?_
    repeat (first
      | refine ax_q (q_move rfl) ?_
      | refine ax_q (q_assign rfl) ?_
      | refine ax_ops_nil ?_
      | refine ax_post_code ?_
      | refine ax_seq ?_
      | refine ax_region rfl ?_
      | refine ax_q (q_neq rfl rfl) ?_)
    refine ax_cond_dec rfl (fun h2 => ?_) (fun h2 => ?_)
    · rw [if_pos h2] at he
      subst he
      repeat (first
        | refine ax_q (q_move rfl) ?_
        | refine ax_q (q_assign rfl) ?_
        | refine ax_ops_nil ?_
        | refine ax_post_code ?_
        | refine ax_seq ?_
        | refine ax_region rfl ?_
        | refine ax_return ?_
        | refine ax_ret_code ?_)
      exact ax_ret hR rfl ⟨rfl, rfl⟩
    · rw [if_neg h2] at he
      repeat (first
        | refine ax_ops_nil ?_
        | refine ax_post_code ?_
        | refine ax_seq ?_
        | refine ax_region rfl ?_
        | refine ax_skip ?_
        | refine ax_q (q_lss rfl rfl) ?_
        | refine ax_q (q_len rfl rfl rfl) ?_
        | refine ax_q (q_loadb_rp rfl rfl rfl rfl) ?_)
      refine ax_cond_dec rfl (fun h3 => ?_) (fun h3 => ?_)
      · rw [if_pos (by omega)] at he
        subst he
        repeat (first
          | refine ax_q (q_assign rfl) ?_
          | refine ax_ops_nil ?_
          | refine ax_post_code ?_
          | refine ax_seq ?_
          | refine ax_region rfl ?_
          | refine ax_return ?_
          | refine ax_ret_code ?_)
        exact ax_ret hR rfl ⟨rfl, rfl⟩
      · rw [if_neg (by omega)] at he
        repeat (first
          | refine ax_ops_nil ?_
          | refine ax_post_code ?_
          | refine ax_seq ?_
          | refine ax_region rfl ?_
          | refine ax_skip ?_
          | refine ax_q (q_gtr rfl rfl) ?_
          | refine ax_q (q_len rfl rfl rfl) ?_
          | refine ax_q (q_loadb_rp rfl rfl rfl rfl) ?_)
        refine ax_cond_dec rfl (fun h4 => ?_) (fun h4 => ?_)
        · rw [if_pos (by omega)] at he
          subst he
          repeat (first
            | refine ax_q (q_assign rfl) ?_
            | refine ax_ops_nil ?_
            | refine ax_post_code ?_
            | refine ax_seq ?_
            | refine ax_region rfl ?_
            | refine ax_return ?_
            | refine ax_ret_code ?_)
          exact ax_ret hR rfl ⟨rfl, rfl⟩
        · rw [if_neg (by omega)] at he
          exact absurd he.symm h
  · rintro r H ⟨rfl, rfl⟩
    exact ⟨rfl, ⟨trivial, trivial, trivial, trivial⟩, none1⟩

theorem bestE_ok {l : List Int} (h : bestE l = 0) : deckF l = 0 ∧ 5 ≤ l.length ∧ l.length ≤ 9 := by
  unfold bestE at h
  split at h
  · rename_i h1; exact absurd h h1
  · rename_i h1
    split at h
    · omega
    · split at h <;> omega

theorem Best_ok (l : List Int) (he : bestE l = 0) : VCall Try.prog 10 [.ro (.ints .i64 l) 0 l.length] (.tup [.ro (.ints .i64 (bestF l).2) 0 (bestF l).2.length, .int .i64 (bestF l).1, .int .i64 0]) := by
  obtain ⟨hd, h5, h9⟩ := bestE_ok he
  have hwk := walkC l h9 (fun i hi => deckF_mem hd _ (getD_mem 0 hi)) l.length (Nat.le_refl _) [] (-1, []) (fun x hx => by simp at hx) (by decide)
  rw [show l.length - l.length = 0 by omega] at hwk
  have hbf : walkF l l.length [] (-1, []) = bestF l := rfl
  rw [hbf] at hwk
  generalize bestF l = b at *
  have hwk2 : ACall Try.prog 22 [.int .i64 0, .nil, .rp (.box [.ro (.ints .i64 l) 0 l.length]) 0 0, .ptr 2 0 0, .ptr 1 0 0, .ptr 3 0 0] (bestH l (-1, [])) (fun h => h < 4) (fun r H => r = .tup [] ∧ H = bestH l b) := hwk.args ⟨AEq.rfl', AEq.nil, AEq.rfl', AEq.rfl', AEq.rfl', AEq.rfl', trivial⟩
  refine ACall.value (K := fun r H => r = .tup [.ro (.ints .i64 b.2) 0 b.2.length, .int .i64 b.1, .int .i64 0] ∧ H = [none]) (acall_of_ax (P := Try.prog) (fn := Try.f10) rfl rfl (by kernel_rfl) rfl (fun c hR hfix => ?_)) (fix := fun _ => False) (fun _ h => h) rfl ?_
  · repeat (first
      | refine ax_q (q_assign rfl) ?_
      | refine ax_ops_nil ?_
      | refine ax_post_code ?_
      | refine ax_seq ?_
      | refine ax_region rfl ?_
      | refine ax_q (q_loadb_ptr rfl rfl rfl rfl rfl) ?_
      | refine ax_box rfl rfl ?_)
    refine ax_freeze_ops [some ⟨22, .box [.ro (.ints .i64 l) 0 l.length]⟩] [none] [(1, .rp (.box [.ro (.ints .i64 l) 0 l.length]) 0 0), (9, .ro (.ints .i64 l) 0 l.length), (2, .nil), (3, .int .i64 0), (4, .int .i64 0)] (fun _ _ h => h) (refl1 (refless_box rfl)) rfl ?_
      ⟨⟨_, rfl, .inr (.inr ⟨rfl, fun o ho => by simp at ho; subst ho; exact Nat.zero_lt_one⟩)⟩, ⟨_, rfl, .inl rfl⟩, ⟨_, rfl, .inl rfl⟩, ⟨_, rfl, .inl rfl⟩, ⟨_, rfl, .inl rfl⟩, trivial⟩ ?_
    · intro h o' ho'
      match h, ho' with
      | 0, ho' => simp at ho'
      | _ + 1, ho' => simp at ho'
    refine ax_callv rfl rfl rfl (check l (by omega)) ?_
    rw [hd]
    repeat (first
      | refine ax_q (q_move rfl) ?_
      | refine ax_q (q_assign rfl) ?_
      | refine ax_ops_nil ?_
      | refine ax_post_code ?_
      | refine ax_seq ?_
      | refine ax_region rfl ?_
      | refine ax_cond_false rfl ?_
      | refine ax_skip ?_
      | refine ax_q (q_lss rfl rfl) ?_
      | refine ax_q (q_neq rfl rfl) ?_
      | refine ax_q (q_len rfl rfl rfl) ?_
      | refine ax_q (q_loadb_rp rfl rfl rfl rfl) ?_)
    refine ax_cond_dec rfl (fun h3 => absurd h3 (by omega)) (fun h3 => ?_)
    repeat (first
      | refine ax_ops_nil ?_
      | refine ax_post_code ?_
      | refine ax_seq ?_
      | refine ax_region rfl ?_
      | refine ax_skip ?_
      | refine ax_q (q_gtr rfl rfl) ?_
      | refine ax_q (q_len rfl rfl rfl) ?_
      | refine ax_q (q_loadb_rp rfl rfl rfl rfl) ?_)
    refine ax_cond_dec rfl (fun h4 => absurd h4 (by omega)) (fun h4 => ?_)
    repeat (first
      | refine ax_ops_nil ?_
      | refine ax_post_code ?_
      | refine ax_seq ?_
      | refine ax_region rfl ?_
      | refine ax_skip ?_
      | refine ax_q (q_loadb_ptr rfl rfl rfl rfl rfl) ?_
      | refine ax_q (q_makefn rfl) ?_
      | refine ax_store rfl rfl rfl rfl rfl rfl rfl Nat.zero_lt_one ?_
      | refine ax_alloc rfl rfl rfl ?_)
    refine ax_heapA_ops (bestH l (-1, [])) rfl ?_ ?_
    · intro h o' ho'
      match h, ho' with
      | 0, ho' => simp at ho'
      | 1, ho' =>
        simp at ho'; subst ho'
        refine ⟨_, rfl, rfl, rfl, rfl, fun i j hi hj => ?_⟩
        have hj0 : j = 0 := Nat.lt_one_iff.1 hj
        subst hj0
        exact AEq.nil
      | 2, ho' => simp at ho'; subst ho'; exact ⟨_, rfl, rfl, rfl, rfl, fun i j hi hj => AEq.rfl'⟩
      | 3, ho' => simp at ho'; subst ho'; exact ⟨_, rfl, rfl, rfl, rfl, fun i j hi hj => AEq.rfl'⟩
      | _ + 4, ho' => simp at ho'
    refine ax_callc rfl rfl rfl hwk2 (fun _ h => h) (fun _ h => h) ?_
    rintro r H ⟨rfl, rfl⟩
    repeat (first
      | refine ax_ops_nil ?_
      | refine ax_post_code ?_
      | refine ax_seq ?_)
    refine ax_regionq (by kernel_rfl) (by kernel_rfl) rfl ?_
    repeat (first
      | refine ax_q (q_assign rfl) ?_
      | refine ax_ops_nil ?_
      | refine ax_post_code ?_
      | refine ax_q (q_loadb_ptr rfl rfl rfl rfl rfl) ?_)
    refine ax_cut [none] [some ⟨22, .box [.ro (.ints .i64 b.2) 0 b.2.length]⟩, some ⟨3, .box [.int .i64 b.1]⟩, some ⟨43, .box [.fn 22 [.rp (.box [.ro (.ints .i64 l) 0 l.length]) 0 0, .ptr 2 0 0, .ptr 1 0 0, .ptr 3 0 0]]⟩] [(2, .ro (.ints .i64 b.2) 0 b.2.length), (3, .int .i64 b.1), (4, .int .i64 0)] rfl ⟨rfl, rfl, rfl, trivial⟩ (by rw [hfix]; exact fun h hh => hh.elim) rfl rfl ?_
    repeat (refine ax_return ?_)
    exact ax_ret hR rfl ⟨rfl, rfl⟩
  · rintro r H ⟨rfl, rfl⟩
    exact ⟨rfl, ⟨trivial, trivial, trivial, trivial⟩, none1⟩
end Go.Proofs.Ytmfhdfofmdggaaa
