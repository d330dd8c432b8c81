import Derived.Test.YtmfhdfofmdggaaaR7
import Derived.Test.YtmfhdfofmdggaaaAxMore9
import Derived.Test.YtmfhdfofmdggaaaRkBest
namespace Go.Proofs.Ytmfhdfofmdggaaa
open Go.Ax Go.Ax.Idx Go.Ax.Cd Go.Ax.Rk Go.RowKit
attribute [local irreducible] Ax Post QOp ACall
set_option maxRecDepth 100000
set_option maxHeartbeats 4000000
set_option linter.unusedSimpArgs false
set_option linter.unusedVariables false

def capsB (l : List Int) : List AV := [.rp (.box [.ro (.ints .i64 l) 0 l.length]) 0 0, .ptr 2 0 0, .ptr 1 0 0, .ptr 3 0 0]
abbrev bestH (l : List Int) (st : Int × List Int) : AHeap := [none, some ⟨22, .box [.ro (.ints .i64 st.2) 0 st.2.length]⟩, some ⟨3, .box [.int .i64 st.1]⟩, some ⟨43, .box [.fn 22 [.rp (.box [.ro (.ints .i64 l) 0 l.length]) 0 0, .ptr 2 0 0, .ptr 1 0 0, .ptr 3 0 0]]⟩]

theorem noFz {o1 o2 o3 o4 : AObj} : ∀ (h : Nat) (o' : AObj), ([none, some o1, some o2, some o3, none] : AHeap)[h]? = some (some o') → (∀ o : AObj, ([none, none, none, none, some o4] : AHeap)[h]? ≠ some (some o)) ∧ ∃ o : AObj, ([none, some o1, some o2, some o3, some o4] : AHeap)[h]? = some (some o) ∧ o'.ty = o.ty ∧ o'.c.len = o.c.len ∧ o'.c.sz = o.c.sz ∧ ∀ i j, i < o.c.len → j < o.c.sz → FzTo [none, none, none, none, some o4] (o.c.at i j) (o'.c.at i j) := by
  intro h o' ho'
  match h, ho' with
  | 0, ho' => simp at ho'
  | 1, ho' => exact ⟨fun o h => by simp at h, o', ho', rfl, rfl, rfl, fun _ _ _ _ => .inl rfl⟩
  | 2, ho' => exact ⟨fun o h => by simp at h, o', ho', rfl, rfl, rfl, fun _ _ _ _ => .inl rfl⟩
  | 3, ho' => exact ⟨fun o h => by simp at h, o', ho', rfl, rfl, rfl, fun _ _ _ _ => .inl rfl⟩
  | 4, ho' => simp at ho'
  | _ + 5, ho' => simp at ho'
theorem in4 {c : Cells} {t : TypeId} {n : Nat} (h : c.len = n) : inB [none, none, none, none, some ⟨t, c⟩] (.sl 4 0 n) := by
  intro o ho; simp at ho; subst ho; show 0 + n ≤ c.len; omega
theorem sub4 {o1 o2 o3 o4 : AObj} : subH [none, none, none, none, some o4] [none, some o1, some o2, some o3, some o4] := by
  intro h o ho
  match h, ho with
  | 0, ho => simp at ho
  | 1, ho => simp at ho
  | 2, ho => simp at ho
  | 3, ho => simp at ho
  | 4, ho => exact ho
  | _ + 5, ho => simp at ho
theorem refl4 {o4 : AObj} (hr : refless o4.c) : ∀ (h : Nat) (o : AObj), ([none, none, none, none, some o4] : AHeap)[h]? = some (some o) → refless o.c := by
  intro h o ho
  match h, ho with
  | 0, ho => simp at ho
  | 1, ho => simp at ho
  | 2, ho => simp at ho
  | 3, ho => simp at ho
  | 4, ho => simp at ho; subst ho; exact hr
  | _ + 5, ho => simp at ho

theorem walkC (l : List Int) (h9 : l.length ≤ 9) (hb : ∀ i, i < l.length → 0 ≤ l.getD i 0 ∧ l.getD i 0 < 52) (d : Nat) : d ≤ l.length → ∀ (pl : List Int) (st : Int × List Int), (∀ x ∈ pl, 0 ≤ x ∧ x < l.length) → pl.length ≤ 5 →
    ACall Try.prog 22 ([.int .i64 ((l.length - d : Nat) : Int), .ro (.ints .i64 pl) 0 pl.length] ++ [.rp (.box [.ro (.ints .i64 l) 0 l.length]) 0 0, .ptr 2 0 0, .ptr 1 0 0, .ptr 3 0 0]) (bestH l st) (fun h => h < 4)
      (fun r H => r = .tup [] ∧ H = bestH l (walkF l d pl st)) := by
  induction d using Nat.strongRecOn with
  | ind d ih =>
    intro hd pl st hpl hp5
    refine acall_of_ax (P := Try.prog) (fn := Try.f22) rfl rfl (by kernel_rfl) rfl (fun c hR hfix => ?_)
    repeat (first
      | refine ax_q (q_move rfl) ?_
      | refine ax_ops_nil ?_
      | refine ax_post_code ?_
      | refine ax_seq ?_
      | refine ax_region rfl ?_
      | refine ax_q (q_eql rfl rfl) ?_
      | refine ax_q (q_len rfl rfl rfl) ?_)
    refine ax_cond_dec rfl (fun h5 => ?_) (fun h5 => ?_)
    · have hw : walkF l d pl st = updF l pl st := by unfold walkF; rw [if_pos (by omega)]
      rw [hw] at hR
      repeat (first
        | refine ax_q (q_move rfl) ?_
        | refine ax_q (q_assign rfl) ?_
        | refine ax_ops_nil ?_
        | refine ax_post_code ?_
        | refine ax_seq ?_
        | refine ax_region rfl ?_
        | refine ax_q (q_len rfl rfl rfl) ?_)
      refine ax_nilobj 8 ⟨3, .ints .i64 []⟩ rfl rfl ?_
      repeat (refine ax_block ?_)
      refine ax_loop (ι := Nat) (fun i => [(1, .ro (.ints .i64 pl) 0 pl.length), (2, .rp (.box [.ro (.ints .i64 l) 0 l.length]) 0 0), (3, .ptr 2 0 0), (4, .ptr 1 0 0), (8, .sl 4 0 i), (16, .ro (.ints .i64 pl) 0 pl.length), (17, .int .i64 (pl.length : Nat)), (18, .int .i64 (i : Nat))])
        (fun i => bestH l st ++ [some ⟨3, .ints .i64 ((handOf l pl).take i)⟩]) (fun i => i ≤ pl.length) (fun i => pl.length - i) 0 ⟨⟨rfl, rfl, rfl, rfl, rfl, rfl, rfl, rfl, trivial⟩, rfl, Nat.zero_le _⟩ ?_
      rintro i hi
      have hhl := handOf_length l pl
      repeat (first
        | refine ax_ops_nil ?_
        | refine ax_post_code ?_
        | refine ax_seq ?_
        | refine ax_region rfl ?_
        | refine ax_q (q_lss rfl rfl) ?_)
      refine ax_cond_dec rfl (fun h1 => ?_) (fun h1 => ?_)
      · have hip : i < pl.length := by omega
        have hx := hpl _ (getD_mem 0 hip)
        have htk := take_succ_getD (handOf l pl) 0 i (by omega)
        have hhg : (handOf l pl).getD i 0 = l.getD (pl.getD i 0).toNat 0 := by simp [handOf, List.getD, hip]
        have htl : ((handOf l pl).take i).length = i := by rw [List.length_take]; omega
        rw [hhg] at htk
        generalize (handOf l pl).take i = hd at *
        repeat (first
          | refine ax_q (q_move rfl) ?_
          | refine ax_q (q_assign rfl) ?_
          | refine ax_q (q_loadi_rp rfl rfl rfl) ?_
          | refine ax_ops_nil ?_
          | refine ax_post_code ?_
          | refine ax_seq ?_
          | refine ax_region rfl ?_
          | refine ax_block ?_
          | refine ax_skip ?_
          | refine ax_q (q_index_ro' rfl rfl rfl rfl (by first | (simp only [Nat.zero_add, Int.toNat_natCast, Int.toNat_zero]; exact rfl) | exact rfl) (by omega)) ?_
          | refine ax_q (q_loadb_rp rfl rfl rfl rfl) ?_
          | refine ax_buildSliceRo rfl rfl rfl rfl rfl rfl rfl rfl rfl rfl rfl ?_)
        refine ax_append rfl rfl rfl rfl rfl rfl rfl rfl rfl htl rfl rfl (by show 0 + 1 ≤ 1; omega) rfl (by show (i + 1) * 8 ≤ _ ∧ _; omega) (fun i j _ _ => rfl) (by rw [hfix]; exact Nat.lt_irrefl 4) ?_
        repeat (first
          | refine ax_q (q_move rfl) ?_
          | refine ax_q (q_assign rfl) ?_
          | refine ax_ops_nil ?_
          | refine ax_post_code ?_
          | refine ax_region rfl ?_
          | refine ax_post_blk ?_
          | refine ax_q (q_add rfl rfl (by omega)) ?_)
        exact ax_post_inv ⟨i + 1, by omega, by omega, ⟨rfl, rfl, rfl, rfl, rfl, rfl, rfl, rfl, trivial⟩, by rw [htk]; rfl⟩
      · have hil : i = pl.length := by omega
        subst hil
        rw [List.take_of_length_le (by omega)]
        have hHand : Hand (handOf l pl) := ⟨by omega, fun j hj => by
          have hj' : j < pl.length := by omega
          have hx := hpl _ (getD_mem 0 hj')
          have e : (handOf l pl).getD j 0 = l.getD (pl.getD j 0).toNat 0 := by simp [handOf, List.getD, hj']
          rw [e]
          exact hb _ (by omega)⟩
        have hvo := valueOf (handOf l pl) hHand
        have hup : updF l pl st = if st.1 < valF (handOf l pl) then (valF (handOf l pl), pl) else st := rfl
        generalize handOf l pl = hd at *
        rw [hhl] at hvo
        repeat (first
          | refine ax_q (q_move rfl) ?_
          | refine ax_post_code ?_
          | refine ax_seq ?_
          | refine ax_region rfl ?_
          | refine ax_exit ?_
          | refine ax_exit_here ?_
          | refine ax_exit_code ?_
          | refine ax_exit_inv ?_)
        refine ax_freeze_ops [none, none, none, none, some ⟨3, .ints .i64 hd⟩] [none, some ⟨22, .box [.ro (.ints .i64 st.2) 0 st.2.length]⟩, some ⟨3, .box [.int .i64 st.1]⟩, some ⟨43, .box [.fn 22 [.rp (.box [.ro (.ints .i64 l) 0 l.length]) 0 0, .ptr 2 0 0, .ptr 1 0 0, .ptr 3 0 0]]⟩, none] [(1, .ro (.ints .i64 pl) 0 pl.length), (2, .rp (.box [.ro (.ints .i64 l) 0 l.length]) 0 0), (3, .ptr 2 0 0), (4, .ptr 1 0 0), (30, .ro (.ints .i64 hd) 0 pl.length)] sub4 (refl4 refless_ints) rfl noFz
          ⟨⟨_, rfl, .inl rfl⟩, ⟨_, rfl, .inl rfl⟩, ⟨_, rfl, .inl rfl⟩, ⟨_, rfl, .inl rfl⟩, ⟨_, rfl, .inr (.inr ⟨rfl, in4 hhl⟩)⟩, trivial⟩ ?_
        refine ax_cut_ops (bestH l st) [none] [(1, .ro (.ints .i64 pl) 0 pl.length), (2, .rp (.box [.ro (.ints .i64 l) 0 l.length]) 0 0), (3, .ptr 2 0 0), (4, .ptr 1 0 0), (30, .ro (.ints .i64 hd) 0 pl.length)] rfl (by refine ⟨rfl, rfl, rfl, rfl, rfl, trivial⟩) (by rw [hfix]; exact fun h hh => hh) rfl rfl ?_
        refine ax_callv rfl rfl rfl hvo ?_
        repeat (first
          | refine ax_q (q_move rfl) ?_
          | refine ax_q (q_assign rfl) ?_
          | refine ax_ops_nil ?_
          | refine ax_post_code ?_
          | refine ax_seq ?_
          | refine ax_region rfl ?_
          | refine ax_q (q_loadb_ptr rfl rfl rfl rfl rfl) ?_
          | refine ax_q (q_gtr rfl rfl) ?_)
        refine ax_cond_dec rfl (fun h2 => ?_) (fun h2 => ?_)
        · rw [if_pos h2] at hup
          repeat (first
            | refine ax_q (q_move rfl) ?_
            | refine ax_region rfl ?_)
          refine ax_callf rfl rfl rfl (clone pl (by omega)) ?_
          repeat (refine ax_q (q_move rfl) ?_)
          refine ax_freeze_ops [none, none, none, none, some ⟨3, .ints .i64 pl⟩] [none, some ⟨22, .box [.ro (.ints .i64 st.2) 0 st.2.length]⟩, some ⟨3, .box [.int .i64 st.1]⟩, some ⟨43, .box [.fn 22 [.rp (.box [.ro (.ints .i64 l) 0 l.length]) 0 0, .ptr 2 0 0, .ptr 1 0 0, .ptr 3 0 0]]⟩, none] [(36, .ro (.ints .i64 pl) 0 pl.length), (37, .int .i64 (valF hd)), (3, .ptr 2 0 0), (4, .ptr 1 0 0)] sub4 (refl4 refless_ints) rfl noFz
            ⟨⟨_, rfl, .inr (.inr ⟨rfl, in4 rfl⟩)⟩, ⟨_, rfl, .inl rfl⟩, ⟨_, rfl, .inl rfl⟩, ⟨_, rfl, .inl rfl⟩, trivial⟩ ?_
          refine ax_cut_ops (bestH l st) [none] [(36, .ro (.ints .i64 pl) 0 pl.length), (37, .int .i64 (valF hd)), (3, .ptr 2 0 0), (4, .ptr 1 0 0)] rfl (by refine ⟨rfl, rfl, rfl, rfl, trivial⟩) (by rw [hfix]; exact fun h hh => hh) rfl rfl ?_
          repeat (first
            | refine ax_ops_nil ?_
            | refine ax_post_code ?_
            | refine ax_return ?_
            | refine ax_ret_code ?_
            | refine ax_store rfl rfl rfl rfl rfl rfl rfl Nat.zero_lt_one ?_)
          rw [hup] at hR
          exact ax_ret hR rfl ⟨rfl, rfl⟩
        · rw [if_neg h2] at hup
          repeat (first
            | refine ax_post_code ?_
            | refine ax_skip ?_
            | refine ax_return ?_
            | refine ax_ret_code ?_)
          rw [hup] at hR
          exact ax_ret hR rfl ⟨rfl, rfl⟩
    · have hw : walkF l d pl st = goF l d pl st := by unfold walkF; rw [if_neg (by omega)]
      rw [hw] at hR
      repeat (first
        | refine ax_q (q_move rfl) ?_
        | refine ax_q (q_assign rfl) ?_
        | refine ax_ops_nil ?_
        | refine ax_post_code ?_
        | refine ax_seq ?_
        | refine ax_region rfl ?_
        | refine ax_block ?_
        | refine ax_skip ?_)
      refine ax_loop (ι := Nat × (Int × List Int)) (fun x => [(1, .ro (.ints .i64 pl) 0 pl.length), (2, .rp (.box [.ro (.ints .i64 l) 0 l.length]) 0 0), (3, .ptr 2 0 0), (4, .ptr 1 0 0), (5, .ptr 3 0 0), (12, .int .i64 ((l.length - x.1 : Nat) : Int))])
        (fun x => bestH l x.2) (fun x => x.1 ≤ d ∧ goF l x.1 pl x.2 = goF l d pl st) (fun x => x.1) (d, st) ⟨⟨rfl, rfl, rfl, rfl, rfl, rfl, trivial⟩, rfl, Nat.le_refl _, rfl⟩ ?_
      rintro ⟨e, st1⟩ ⟨he, hgo⟩
      simp only at *
      repeat (first
        | refine ax_q (q_move rfl) ?_
        | refine ax_ops_nil ?_
        | refine ax_post_code ?_
        | refine ax_seq ?_
        | refine ax_region rfl ?_
        | refine ax_q (q_lss rfl rfl) ?_
        | refine ax_q (q_len rfl rfl rfl) ?_
        | refine ax_q (q_loadb_rp rfl rfl rfl rfl) ?_)
      refine ax_cond_dec rfl (fun h1 => ?_) (fun h1 => ?_)
      · obtain ⟨e', rfl⟩ : ∃ e', e = e' + 1 := ⟨e - 1, by omega⟩
        rw [goF_succ] at hgo
        have hne : ((l.length - (e' + 1) : Nat) : Int) + 1 = ((l.length - e' : Nat) : Int) := by omega
        have hih := ih e' (by omega) (by omega) (pl ++ [((l.length - (e' + 1) : Nat) : Int)]) st1 (fun x hx => by
          rcases List.mem_append.1 hx with h | h
          · exact hpl x h
          · simp at h; subst h; omega) (by simp; omega)
        rw [List.length_append] at hih
        rw [← hne] at hih
        generalize hi0 : l.length - (e' + 1) = i at *
        repeat (first
          | refine ax_post_code ?_
          | refine ax_seq ?_
          | refine ax_block ?_
          | refine ax_skip ?_)
        refine ax_regiond (by kernel_rfl) ?_
        refine ax_any_q 1 rfl (by kernel_rfl) (by kernel_rfl) (by kernel_rfl) rfl (q_move rfl) rfl ?_
        refine ax_any_q 2 rfl (by kernel_rfl) (by kernel_rfl) (by kernel_rfl) rfl (q_add rfl rfl (by omega)) rfl ?_
        refine ax_any_q 3 rfl (by kernel_rfl) (by kernel_rfl) (by kernel_rfl) rfl (q_move rfl) rfl ?_
        refine ax_any_q 5 rfl (by kernel_rfl) (by kernel_rfl) (by kernel_rfl) rfl (q_move rfl) rfl ?_
        refine ax_any_step (is := [0, 4, 6]) (by kernel_rfl) (by simp) rfl ⟨fun o ho => ?_, fun o ho => ?_, fun o ho => ?_, trivial⟩
        all_goals (cases ho)
        · repeat (first
            | refine ax_ops_nil ?_
            | refine ax_post_any ?_
            | refine ax_q (q_loadb_ptr rfl rfl rfl rfl rfl) ?_)
          refine ax_any_step (is := [4, 6]) (by kernel_rfl) (by simp) rfl ⟨fun o ho => ?_, fun o ho => ?_, trivial⟩
          all_goals (cases ho)
          · skip
            refine ax_callf rfl rfl rfl (clone pl (by omega)) ?_
            repeat (first
              | refine ax_ops_nil ?_
              | refine ax_post_any ?_)
            refine ax_any_step (is := [6]) (by kernel_rfl) (by simp) rfl ⟨fun o ho => ?_, trivial⟩
            all_goals (cases ho)
            repeat (first
              | refine ax_ops_nil ?_
              | refine ax_post_any ?_
              | refine ax_buildSliceRo rfl rfl rfl rfl rfl rfl rfl rfl rfl rfl rfl ?_)
            refine ax_any_step (is := [7]) (by kernel_rfl) (by simp) rfl ⟨fun o ho => ?_, trivial⟩
            all_goals (cases ho)
            skip
            refine ax_append rfl rfl rfl rfl rfl rfl rfl rfl rfl rfl rfl rfl (by show 0 + 1 ≤ 1; omega) rfl (by show (pl.length + 1) * 8 ≤ _ ∧ _; omega) (fun i j _ _ => rfl) (by rw [hfix]; exact Nat.lt_irrefl 4) ?_
            repeat (first
              | refine ax_ops_nil ?_
              | refine ax_post_any ?_)
            refine ax_any_step (is := [8]) (by kernel_rfl) (by simp) rfl ⟨fun o ho => ?_, trivial⟩
            all_goals (cases ho)
            skip
            refine ax_freeze_ops [none, none, none, none, some ⟨3, .ints .i64 (pl ++ [(i : Int)])⟩] [none, some ⟨22, .box [.ro (.ints .i64 st1.2) 0 st1.2.length]⟩, some ⟨3, .box [.int .i64 st1.1]⟩, some ⟨43, .box [.fn 22 [.rp (.box [.ro (.ints .i64 l) 0 l.length]) 0 0, .ptr 2 0 0, .ptr 1 0 0, .ptr 3 0 0]]⟩, none] [(1, .ro (.ints .i64 pl) 0 pl.length), (2, .rp (.box [.ro (.ints .i64 l) 0 l.length]) 0 0), (3, .ptr 2 0 0), (4, .ptr 1 0 0), (5, .ptr 3 0 0), (12, .int .i64 (i : Nat)), (45, .fn 22 [.rp (.box [.ro (.ints .i64 l) 0 l.length]) 0 0, .ptr 2 0 0, .ptr 1 0 0, .ptr 3 0 0]), (47, .int .i64 ((i : Nat) + 1)), (52, .ro (.ints .i64 (pl ++ [(i : Int)])) 0 (pl.length + 1))] sub4 (refl4 refless_ints) rfl noFz
              ⟨⟨_, rfl, .inl rfl⟩, ⟨_, rfl, .inl rfl⟩, ⟨_, rfl, .inl rfl⟩, ⟨_, rfl, .inl rfl⟩, ⟨_, rfl, .inl rfl⟩, ⟨_, rfl, .inl rfl⟩, ⟨_, rfl, .inl rfl⟩, ⟨_, rfl, .inl rfl⟩, ⟨_, rfl, .inr (.inr ⟨rfl, in4 (by simp [Cells.len])⟩)⟩, trivial⟩ ?_
            refine ax_cut_ops (bestH l st1) [none] [(1, .ro (.ints .i64 pl) 0 pl.length), (2, .rp (.box [.ro (.ints .i64 l) 0 l.length]) 0 0), (3, .ptr 2 0 0), (4, .ptr 1 0 0), (5, .ptr 3 0 0), (12, .int .i64 (i : Nat)), (45, .fn 22 [.rp (.box [.ro (.ints .i64 l) 0 l.length]) 0 0, .ptr 2 0 0, .ptr 1 0 0, .ptr 3 0 0]), (47, .int .i64 ((i : Nat) + 1)), (52, .ro (.ints .i64 (pl ++ [(i : Int)])) 0 (pl.length + 1))] rfl (by refine ⟨rfl, rfl, rfl, rfl, rfl, rfl, rfl, rfl, rfl, trivial⟩) (by rw [hfix]; exact fun h hh => hh) rfl rfl ?_
            refine ax_callc rfl rfl rfl hih (fun _ h => h) (fun _ h => h) ?_
            rintro r H ⟨rfl, rfl⟩
            repeat (first
              | refine ax_ops_nil ?_
              | refine ax_post_any ?_)
            refine ax_any_done (by kernel_rfl) ?_
            repeat (first
              | refine ax_q (q_move rfl) ?_
              | refine ax_q (q_assign rfl) ?_
              | refine ax_ops_nil ?_
              | refine ax_post_code ?_
              | refine ax_region rfl ?_
              | refine ax_post_blk ?_
              | refine ax_q (q_add rfl rfl (by omega)) ?_)
            exact ax_post_inv ⟨(e', walkF l e' (pl ++ [(i : Int)]) st1), ⟨by simp only; omega, hgo⟩, by simp only; omega, ⟨rfl, rfl, rfl, rfl, rfl, by rw [← hne]; rfl, trivial⟩, rfl⟩
          · repeat (first
              | refine ax_ops_nil ?_
              | refine ax_post_any ?_
              | refine ax_buildSliceRo rfl rfl rfl rfl rfl rfl rfl rfl rfl rfl rfl ?_)
            refine ax_any_step (is := [4]) (by kernel_rfl) (by simp) rfl ⟨fun o ho => ?_, trivial⟩
            all_goals (cases ho)
            skip
            refine ax_callf rfl rfl rfl (clone pl (by omega)) ?_
            repeat (first
              | refine ax_ops_nil ?_
              | refine ax_post_any ?_)
            refine ax_any_step (is := [7]) (by kernel_rfl) (by simp) rfl ⟨fun o ho => ?_, trivial⟩
            all_goals (cases ho)
            skip
            refine ax_append rfl rfl rfl rfl rfl rfl rfl rfl rfl rfl rfl rfl (by show 0 + 1 ≤ 1; omega) rfl (by show (pl.length + 1) * 8 ≤ _ ∧ _; omega) (fun i j _ _ => rfl) (by rw [hfix]; exact Nat.lt_irrefl 4) ?_
            repeat (first
              | refine ax_ops_nil ?_
              | refine ax_post_any ?_)
            refine ax_any_step (is := [8]) (by kernel_rfl) (by simp) rfl ⟨fun o ho => ?_, trivial⟩
            all_goals (cases ho)
            skip
            refine ax_freeze_ops [none, none, none, none, some ⟨3, .ints .i64 (pl ++ [(i : Int)])⟩] [none, some ⟨22, .box [.ro (.ints .i64 st1.2) 0 st1.2.length]⟩, some ⟨3, .box [.int .i64 st1.1]⟩, some ⟨43, .box [.fn 22 [.rp (.box [.ro (.ints .i64 l) 0 l.length]) 0 0, .ptr 2 0 0, .ptr 1 0 0, .ptr 3 0 0]]⟩, none] [(1, .ro (.ints .i64 pl) 0 pl.length), (2, .rp (.box [.ro (.ints .i64 l) 0 l.length]) 0 0), (3, .ptr 2 0 0), (4, .ptr 1 0 0), (5, .ptr 3 0 0), (12, .int .i64 (i : Nat)), (45, .fn 22 [.rp (.box [.ro (.ints .i64 l) 0 l.length]) 0 0, .ptr 2 0 0, .ptr 1 0 0, .ptr 3 0 0]), (47, .int .i64 ((i : Nat) + 1)), (52, .ro (.ints .i64 (pl ++ [(i : Int)])) 0 (pl.length + 1))] sub4 (refl4 refless_ints) rfl noFz
              ⟨⟨_, rfl, .inl rfl⟩, ⟨_, rfl, .inl rfl⟩, ⟨_, rfl, .inl rfl⟩, ⟨_, rfl, .inl rfl⟩, ⟨_, rfl, .inl rfl⟩, ⟨_, rfl, .inl rfl⟩, ⟨_, rfl, .inl rfl⟩, ⟨_, rfl, .inl rfl⟩, ⟨_, rfl, .inr (.inr ⟨rfl, in4 (by simp [Cells.len])⟩)⟩, trivial⟩ ?_
            refine ax_cut_ops (bestH l st1) [none] [(1, .ro (.ints .i64 pl) 0 pl.length), (2, .rp (.box [.ro (.ints .i64 l) 0 l.length]) 0 0), (3, .ptr 2 0 0), (4, .ptr 1 0 0), (5, .ptr 3 0 0), (12, .int .i64 (i : Nat)), (45, .fn 22 [.rp (.box [.ro (.ints .i64 l) 0 l.length]) 0 0, .ptr 2 0 0, .ptr 1 0 0, .ptr 3 0 0]), (47, .int .i64 ((i : Nat) + 1)), (52, .ro (.ints .i64 (pl ++ [(i : Int)])) 0 (pl.length + 1))] rfl (by refine ⟨rfl, rfl, rfl, rfl, rfl, rfl, rfl, rfl, rfl, trivial⟩) (by rw [hfix]; exact fun h hh => hh) rfl rfl ?_
            refine ax_callc rfl rfl rfl hih (fun _ h => h) (fun _ h => h) ?_
            rintro r H ⟨rfl, rfl⟩
            repeat (first
              | refine ax_ops_nil ?_
              | refine ax_post_any ?_)
            refine ax_any_done (by kernel_rfl) ?_
            repeat (first
              | refine ax_q (q_move rfl) ?_
              | refine ax_q (q_assign rfl) ?_
              | refine ax_ops_nil ?_
              | refine ax_post_code ?_
              | refine ax_region rfl ?_
              | refine ax_post_blk ?_
              | refine ax_q (q_add rfl rfl (by omega)) ?_)
            exact ax_post_inv ⟨(e', walkF l e' (pl ++ [(i : Int)]) st1), ⟨by simp only; omega, hgo⟩, by simp only; omega, ⟨rfl, rfl, rfl, rfl, rfl, by rw [← hne]; rfl, trivial⟩, rfl⟩
        · skip
          refine ax_callf rfl rfl rfl (clone pl (by omega)) ?_
          repeat (first
            | refine ax_ops_nil ?_
            | refine ax_post_any ?_)
          refine ax_any_step (is := [0, 6]) (by kernel_rfl) (by simp) rfl ⟨fun o ho => ?_, fun o ho => ?_, trivial⟩
          all_goals (cases ho)
          · repeat (first
              | refine ax_ops_nil ?_
              | refine ax_post_any ?_
              | refine ax_q (q_loadb_ptr rfl rfl rfl rfl rfl) ?_)
            refine ax_any_step (is := [6]) (by kernel_rfl) (by simp) rfl ⟨fun o ho => ?_, trivial⟩
            all_goals (cases ho)
            repeat (first
              | refine ax_ops_nil ?_
              | refine ax_post_any ?_
              | refine ax_buildSliceRo rfl rfl rfl rfl rfl rfl rfl rfl rfl rfl rfl ?_)
            refine ax_any_step (is := [7]) (by kernel_rfl) (by simp) rfl ⟨fun o ho => ?_, trivial⟩
            all_goals (cases ho)
            skip
            refine ax_append rfl rfl rfl rfl rfl rfl rfl rfl rfl rfl rfl rfl (by show 0 + 1 ≤ 1; omega) rfl (by show (pl.length + 1) * 8 ≤ _ ∧ _; omega) (fun i j _ _ => rfl) (by rw [hfix]; exact Nat.lt_irrefl 4) ?_
            repeat (first
              | refine ax_ops_nil ?_
              | refine ax_post_any ?_)
            refine ax_any_step (is := [8]) (by kernel_rfl) (by simp) rfl ⟨fun o ho => ?_, trivial⟩
            all_goals (cases ho)
            skip
            refine ax_freeze_ops [none, none, none, none, some ⟨3, .ints .i64 (pl ++ [(i : Int)])⟩] [none, some ⟨22, .box [.ro (.ints .i64 st1.2) 0 st1.2.length]⟩, some ⟨3, .box [.int .i64 st1.1]⟩, some ⟨43, .box [.fn 22 [.rp (.box [.ro (.ints .i64 l) 0 l.length]) 0 0, .ptr 2 0 0, .ptr 1 0 0, .ptr 3 0 0]]⟩, none] [(1, .ro (.ints .i64 pl) 0 pl.length), (2, .rp (.box [.ro (.ints .i64 l) 0 l.length]) 0 0), (3, .ptr 2 0 0), (4, .ptr 1 0 0), (5, .ptr 3 0 0), (12, .int .i64 (i : Nat)), (45, .fn 22 [.rp (.box [.ro (.ints .i64 l) 0 l.length]) 0 0, .ptr 2 0 0, .ptr 1 0 0, .ptr 3 0 0]), (47, .int .i64 ((i : Nat) + 1)), (52, .ro (.ints .i64 (pl ++ [(i : Int)])) 0 (pl.length + 1))] sub4 (refl4 refless_ints) rfl noFz
              ⟨⟨_, rfl, .inl rfl⟩, ⟨_, rfl, .inl rfl⟩, ⟨_, rfl, .inl rfl⟩, ⟨_, rfl, .inl rfl⟩, ⟨_, rfl, .inl rfl⟩, ⟨_, rfl, .inl rfl⟩, ⟨_, rfl, .inl rfl⟩, ⟨_, rfl, .inl rfl⟩, ⟨_, rfl, .inr (.inr ⟨rfl, in4 (by simp [Cells.len])⟩)⟩, trivial⟩ ?_
            refine ax_cut_ops (bestH l st1) [none] [(1, .ro (.ints .i64 pl) 0 pl.length), (2, .rp (.box [.ro (.ints .i64 l) 0 l.length]) 0 0), (3, .ptr 2 0 0), (4, .ptr 1 0 0), (5, .ptr 3 0 0), (12, .int .i64 (i : Nat)), (45, .fn 22 [.rp (.box [.ro (.ints .i64 l) 0 l.length]) 0 0, .ptr 2 0 0, .ptr 1 0 0, .ptr 3 0 0]), (47, .int .i64 ((i : Nat) + 1)), (52, .ro (.ints .i64 (pl ++ [(i : Int)])) 0 (pl.length + 1))] rfl (by refine ⟨rfl, rfl, rfl, rfl, rfl, rfl, rfl, rfl, rfl, trivial⟩) (by rw [hfix]; exact fun h hh => hh) rfl rfl ?_
            refine ax_callc rfl rfl rfl hih (fun _ h => h) (fun _ h => h) ?_
            rintro r H ⟨rfl, rfl⟩
            repeat (first
              | refine ax_ops_nil ?_
              | refine ax_post_any ?_)
            refine ax_any_done (by kernel_rfl) ?_
            repeat (first
              | refine ax_q (q_move rfl) ?_
              | refine ax_q (q_assign rfl) ?_
              | refine ax_ops_nil ?_
              | refine ax_post_code ?_
              | refine ax_region rfl ?_
              | refine ax_post_blk ?_
              | refine ax_q (q_add rfl rfl (by omega)) ?_)
            exact ax_post_inv ⟨(e', walkF l e' (pl ++ [(i : Int)]) st1), ⟨by simp only; omega, hgo⟩, by simp only; omega, ⟨rfl, rfl, rfl, rfl, rfl, by rw [← hne]; rfl, trivial⟩, rfl⟩
          · repeat (first
              | refine ax_ops_nil ?_
              | refine ax_post_any ?_
              | refine ax_buildSliceRo rfl rfl rfl rfl rfl rfl rfl rfl rfl rfl rfl ?_)
            refine ax_any_step (is := [0, 7]) (by kernel_rfl) (by simp) rfl ⟨fun o ho => ?_, fun o ho => ?_, trivial⟩
            all_goals (cases ho)
            · repeat (first
                | refine ax_ops_nil ?_
                | refine ax_post_any ?_
                | refine ax_q (q_loadb_ptr rfl rfl rfl rfl rfl) ?_)
              refine ax_any_step (is := [7]) (by kernel_rfl) (by simp) rfl ⟨fun o ho => ?_, trivial⟩
              all_goals (cases ho)
              skip
              refine ax_append rfl rfl rfl rfl rfl rfl rfl rfl rfl rfl rfl rfl (by show 0 + 1 ≤ 1; omega) rfl (by show (pl.length + 1) * 8 ≤ _ ∧ _; omega) (fun i j _ _ => rfl) (by rw [hfix]; exact Nat.lt_irrefl 4) ?_
              repeat (first
                | refine ax_ops_nil ?_
                | refine ax_post_any ?_)
              refine ax_any_step (is := [8]) (by kernel_rfl) (by simp) rfl ⟨fun o ho => ?_, trivial⟩
              all_goals (cases ho)
              skip
              refine ax_freeze_ops [none, none, none, none, some ⟨3, .ints .i64 (pl ++ [(i : Int)])⟩] [none, some ⟨22, .box [.ro (.ints .i64 st1.2) 0 st1.2.length]⟩, some ⟨3, .box [.int .i64 st1.1]⟩, some ⟨43, .box [.fn 22 [.rp (.box [.ro (.ints .i64 l) 0 l.length]) 0 0, .ptr 2 0 0, .ptr 1 0 0, .ptr 3 0 0]]⟩, none] [(1, .ro (.ints .i64 pl) 0 pl.length), (2, .rp (.box [.ro (.ints .i64 l) 0 l.length]) 0 0), (3, .ptr 2 0 0), (4, .ptr 1 0 0), (5, .ptr 3 0 0), (12, .int .i64 (i : Nat)), (45, .fn 22 [.rp (.box [.ro (.ints .i64 l) 0 l.length]) 0 0, .ptr 2 0 0, .ptr 1 0 0, .ptr 3 0 0]), (47, .int .i64 ((i : Nat) + 1)), (52, .ro (.ints .i64 (pl ++ [(i : Int)])) 0 (pl.length + 1))] sub4 (refl4 refless_ints) rfl noFz
                ⟨⟨_, rfl, .inl rfl⟩, ⟨_, rfl, .inl rfl⟩, ⟨_, rfl, .inl rfl⟩, ⟨_, rfl, .inl rfl⟩, ⟨_, rfl, .inl rfl⟩, ⟨_, rfl, .inl rfl⟩, ⟨_, rfl, .inl rfl⟩, ⟨_, rfl, .inl rfl⟩, ⟨_, rfl, .inr (.inr ⟨rfl, in4 (by simp [Cells.len])⟩)⟩, trivial⟩ ?_
              refine ax_cut_ops (bestH l st1) [none] [(1, .ro (.ints .i64 pl) 0 pl.length), (2, .rp (.box [.ro (.ints .i64 l) 0 l.length]) 0 0), (3, .ptr 2 0 0), (4, .ptr 1 0 0), (5, .ptr 3 0 0), (12, .int .i64 (i : Nat)), (45, .fn 22 [.rp (.box [.ro (.ints .i64 l) 0 l.length]) 0 0, .ptr 2 0 0, .ptr 1 0 0, .ptr 3 0 0]), (47, .int .i64 ((i : Nat) + 1)), (52, .ro (.ints .i64 (pl ++ [(i : Int)])) 0 (pl.length + 1))] rfl (by refine ⟨rfl, rfl, rfl, rfl, rfl, rfl, rfl, rfl, rfl, trivial⟩) (by rw [hfix]; exact fun h hh => hh) rfl rfl ?_
              refine ax_callc rfl rfl rfl hih (fun _ h => h) (fun _ h => h) ?_
              rintro r H ⟨rfl, rfl⟩
              repeat (first
                | refine ax_ops_nil ?_
                | refine ax_post_any ?_)
              refine ax_any_done (by kernel_rfl) ?_
              repeat (first
                | refine ax_q (q_move rfl) ?_
                | refine ax_q (q_assign rfl) ?_
                | refine ax_ops_nil ?_
                | refine ax_post_code ?_
                | refine ax_region rfl ?_
                | refine ax_post_blk ?_
                | refine ax_q (q_add rfl rfl (by omega)) ?_)
              exact ax_post_inv ⟨(e', walkF l e' (pl ++ [(i : Int)]) st1), ⟨by simp only; omega, hgo⟩, by simp only; omega, ⟨rfl, rfl, rfl, rfl, rfl, by rw [← hne]; rfl, trivial⟩, rfl⟩
            · skip
              refine ax_append rfl rfl rfl rfl rfl rfl rfl rfl rfl rfl rfl rfl (by show 0 + 1 ≤ 1; omega) rfl (by show (pl.length + 1) * 8 ≤ _ ∧ _; omega) (fun i j _ _ => rfl) (by rw [hfix]; exact Nat.lt_irrefl 4) ?_
              repeat (first
                | refine ax_ops_nil ?_
                | refine ax_post_any ?_)
              refine ax_any_step (is := [0]) (by kernel_rfl) (by simp) rfl ⟨fun o ho => ?_, trivial⟩
              all_goals (cases ho)
              repeat (first
                | refine ax_ops_nil ?_
                | refine ax_post_any ?_
                | refine ax_q (q_loadb_ptr rfl rfl rfl rfl rfl) ?_)
              refine ax_any_step (is := [8]) (by kernel_rfl) (by simp) rfl ⟨fun o ho => ?_, trivial⟩
              all_goals (cases ho)
              skip
              refine ax_freeze_ops [none, none, none, none, some ⟨3, .ints .i64 (pl ++ [(i : Int)])⟩] [none, some ⟨22, .box [.ro (.ints .i64 st1.2) 0 st1.2.length]⟩, some ⟨3, .box [.int .i64 st1.1]⟩, some ⟨43, .box [.fn 22 [.rp (.box [.ro (.ints .i64 l) 0 l.length]) 0 0, .ptr 2 0 0, .ptr 1 0 0, .ptr 3 0 0]]⟩, none] [(1, .ro (.ints .i64 pl) 0 pl.length), (2, .rp (.box [.ro (.ints .i64 l) 0 l.length]) 0 0), (3, .ptr 2 0 0), (4, .ptr 1 0 0), (5, .ptr 3 0 0), (12, .int .i64 (i : Nat)), (45, .fn 22 [.rp (.box [.ro (.ints .i64 l) 0 l.length]) 0 0, .ptr 2 0 0, .ptr 1 0 0, .ptr 3 0 0]), (47, .int .i64 ((i : Nat) + 1)), (52, .ro (.ints .i64 (pl ++ [(i : Int)])) 0 (pl.length + 1))] sub4 (refl4 refless_ints) rfl noFz
                ⟨⟨_, rfl, .inl rfl⟩, ⟨_, rfl, .inl rfl⟩, ⟨_, rfl, .inl rfl⟩, ⟨_, rfl, .inl rfl⟩, ⟨_, rfl, .inl rfl⟩, ⟨_, rfl, .inl rfl⟩, ⟨_, rfl, .inl rfl⟩, ⟨_, rfl, .inl rfl⟩, ⟨_, rfl, .inr (.inr ⟨rfl, in4 (by simp [Cells.len])⟩)⟩, trivial⟩ ?_
              refine ax_cut_ops (bestH l st1) [none] [(1, .ro (.ints .i64 pl) 0 pl.length), (2, .rp (.box [.ro (.ints .i64 l) 0 l.length]) 0 0), (3, .ptr 2 0 0), (4, .ptr 1 0 0), (5, .ptr 3 0 0), (12, .int .i64 (i : Nat)), (45, .fn 22 [.rp (.box [.ro (.ints .i64 l) 0 l.length]) 0 0, .ptr 2 0 0, .ptr 1 0 0, .ptr 3 0 0]), (47, .int .i64 ((i : Nat) + 1)), (52, .ro (.ints .i64 (pl ++ [(i : Int)])) 0 (pl.length + 1))] rfl (by refine ⟨rfl, rfl, rfl, rfl, rfl, rfl, rfl, rfl, rfl, trivial⟩) (by rw [hfix]; exact fun h hh => hh) rfl rfl ?_
              refine ax_callc rfl rfl rfl hih (fun _ h => h) (fun _ h => h) ?_
              rintro r H ⟨rfl, rfl⟩
              repeat (first
                | refine ax_ops_nil ?_
                | refine ax_post_any ?_)
              refine ax_any_done (by kernel_rfl) ?_
              repeat (first
                | refine ax_q (q_move rfl) ?_
                | refine ax_q (q_assign rfl) ?_
                | refine ax_ops_nil ?_
                | refine ax_post_code ?_
                | refine ax_region rfl ?_
                | refine ax_post_blk ?_
                | refine ax_q (q_add rfl rfl (by omega)) ?_)
              exact ax_post_inv ⟨(e', walkF l e' (pl ++ [(i : Int)]) st1), ⟨by simp only; omega, hgo⟩, by simp only; omega, ⟨rfl, rfl, rfl, rfl, rfl, by rw [← hne]; rfl, trivial⟩, rfl⟩
        · repeat (first
            | refine ax_ops_nil ?_
            | refine ax_post_any ?_
            | refine ax_buildSliceRo rfl rfl rfl rfl rfl rfl rfl rfl rfl rfl rfl ?_)
          refine ax_any_step (is := [0, 4]) (by kernel_rfl) (by simp) rfl ⟨fun o ho => ?_, fun o ho => ?_, trivial⟩
          all_goals (cases ho)
          · repeat (first
              | refine ax_ops_nil ?_
              | refine ax_post_any ?_
              | refine ax_q (q_loadb_ptr rfl rfl rfl rfl rfl) ?_)
            refine ax_any_step (is := [4]) (by kernel_rfl) (by simp) rfl ⟨fun o ho => ?_, trivial⟩
            all_goals (cases ho)
            skip
            refine ax_callf rfl rfl rfl (clone pl (by omega)) ?_
            repeat (first
              | refine ax_ops_nil ?_
              | refine ax_post_any ?_)
            refine ax_any_step (is := [7]) (by kernel_rfl) (by simp) rfl ⟨fun o ho => ?_, trivial⟩
            all_goals (cases ho)
            skip
            refine ax_append rfl rfl rfl rfl rfl rfl rfl rfl rfl rfl rfl rfl (by show 0 + 1 ≤ 1; omega) rfl (by show (pl.length + 1) * 8 ≤ _ ∧ _; omega) (fun i j _ _ => rfl) (by rw [hfix]; exact Nat.lt_irrefl 4) ?_
            repeat (first
              | refine ax_ops_nil ?_
              | refine ax_post_any ?_)
            refine ax_any_step (is := [8]) (by kernel_rfl) (by simp) rfl ⟨fun o ho => ?_, trivial⟩
            all_goals (cases ho)
            skip
            refine ax_freeze_ops [none, none, none, none, some ⟨3, .ints .i64 (pl ++ [(i : Int)])⟩] [none, some ⟨22, .box [.ro (.ints .i64 st1.2) 0 st1.2.length]⟩, some ⟨3, .box [.int .i64 st1.1]⟩, some ⟨43, .box [.fn 22 [.rp (.box [.ro (.ints .i64 l) 0 l.length]) 0 0, .ptr 2 0 0, .ptr 1 0 0, .ptr 3 0 0]]⟩, none] [(1, .ro (.ints .i64 pl) 0 pl.length), (2, .rp (.box [.ro (.ints .i64 l) 0 l.length]) 0 0), (3, .ptr 2 0 0), (4, .ptr 1 0 0), (5, .ptr 3 0 0), (12, .int .i64 (i : Nat)), (45, .fn 22 [.rp (.box [.ro (.ints .i64 l) 0 l.length]) 0 0, .ptr 2 0 0, .ptr 1 0 0, .ptr 3 0 0]), (47, .int .i64 ((i : Nat) + 1)), (52, .ro (.ints .i64 (pl ++ [(i : Int)])) 0 (pl.length + 1))] sub4 (refl4 refless_ints) rfl noFz
              ⟨⟨_, rfl, .inl rfl⟩, ⟨_, rfl, .inl rfl⟩, ⟨_, rfl, .inl rfl⟩, ⟨_, rfl, .inl rfl⟩, ⟨_, rfl, .inl rfl⟩, ⟨_, rfl, .inl rfl⟩, ⟨_, rfl, .inl rfl⟩, ⟨_, rfl, .inl rfl⟩, ⟨_, rfl, .inr (.inr ⟨rfl, in4 (by simp [Cells.len])⟩)⟩, trivial⟩ ?_
            refine ax_cut_ops (bestH l st1) [none] [(1, .ro (.ints .i64 pl) 0 pl.length), (2, .rp (.box [.ro (.ints .i64 l) 0 l.length]) 0 0), (3, .ptr 2 0 0), (4, .ptr 1 0 0), (5, .ptr 3 0 0), (12, .int .i64 (i : Nat)), (45, .fn 22 [.rp (.box [.ro (.ints .i64 l) 0 l.length]) 0 0, .ptr 2 0 0, .ptr 1 0 0, .ptr 3 0 0]), (47, .int .i64 ((i : Nat) + 1)), (52, .ro (.ints .i64 (pl ++ [(i : Int)])) 0 (pl.length + 1))] rfl (by refine ⟨rfl, rfl, rfl, rfl, rfl, rfl, rfl, rfl, rfl, trivial⟩) (by rw [hfix]; exact fun h hh => hh) rfl rfl ?_
            refine ax_callc rfl rfl rfl hih (fun _ h => h) (fun _ h => h) ?_
            rintro r H ⟨rfl, rfl⟩
            repeat (first
              | refine ax_ops_nil ?_
              | refine ax_post_any ?_)
            refine ax_any_done (by kernel_rfl) ?_
            repeat (first
              | refine ax_q (q_move rfl) ?_
              | refine ax_q (q_assign rfl) ?_
              | refine ax_ops_nil ?_
              | refine ax_post_code ?_
              | refine ax_region rfl ?_
              | refine ax_post_blk ?_
              | refine ax_q (q_add rfl rfl (by omega)) ?_)
            exact ax_post_inv ⟨(e', walkF l e' (pl ++ [(i : Int)]) st1), ⟨by simp only; omega, hgo⟩, by simp only; omega, ⟨rfl, rfl, rfl, rfl, rfl, by rw [← hne]; rfl, trivial⟩, rfl⟩
          · skip
            refine ax_callf rfl rfl rfl (clone pl (by omega)) ?_
            repeat (first
              | refine ax_ops_nil ?_
              | refine ax_post_any ?_)
            refine ax_any_step (is := [0, 7]) (by kernel_rfl) (by simp) rfl ⟨fun o ho => ?_, fun o ho => ?_, trivial⟩
            all_goals (cases ho)
            · repeat (first
                | refine ax_ops_nil ?_
                | refine ax_post_any ?_
                | refine ax_q (q_loadb_ptr rfl rfl rfl rfl rfl) ?_)
              refine ax_any_step (is := [7]) (by kernel_rfl) (by simp) rfl ⟨fun o ho => ?_, trivial⟩
              all_goals (cases ho)
              skip
              refine ax_append rfl rfl rfl rfl rfl rfl rfl rfl rfl rfl rfl rfl (by show 0 + 1 ≤ 1; omega) rfl (by show (pl.length + 1) * 8 ≤ _ ∧ _; omega) (fun i j _ _ => rfl) (by rw [hfix]; exact Nat.lt_irrefl 4) ?_
              repeat (first
                | refine ax_ops_nil ?_
                | refine ax_post_any ?_)
              refine ax_any_step (is := [8]) (by kernel_rfl) (by simp) rfl ⟨fun o ho => ?_, trivial⟩
              all_goals (cases ho)
              skip
              refine ax_freeze_ops [none, none, none, none, some ⟨3, .ints .i64 (pl ++ [(i : Int)])⟩] [none, some ⟨22, .box [.ro (.ints .i64 st1.2) 0 st1.2.length]⟩, some ⟨3, .box [.int .i64 st1.1]⟩, some ⟨43, .box [.fn 22 [.rp (.box [.ro (.ints .i64 l) 0 l.length]) 0 0, .ptr 2 0 0, .ptr 1 0 0, .ptr 3 0 0]]⟩, none] [(1, .ro (.ints .i64 pl) 0 pl.length), (2, .rp (.box [.ro (.ints .i64 l) 0 l.length]) 0 0), (3, .ptr 2 0 0), (4, .ptr 1 0 0), (5, .ptr 3 0 0), (12, .int .i64 (i : Nat)), (45, .fn 22 [.rp (.box [.ro (.ints .i64 l) 0 l.length]) 0 0, .ptr 2 0 0, .ptr 1 0 0, .ptr 3 0 0]), (47, .int .i64 ((i : Nat) + 1)), (52, .ro (.ints .i64 (pl ++ [(i : Int)])) 0 (pl.length + 1))] sub4 (refl4 refless_ints) rfl noFz
                ⟨⟨_, rfl, .inl rfl⟩, ⟨_, rfl, .inl rfl⟩, ⟨_, rfl, .inl rfl⟩, ⟨_, rfl, .inl rfl⟩, ⟨_, rfl, .inl rfl⟩, ⟨_, rfl, .inl rfl⟩, ⟨_, rfl, .inl rfl⟩, ⟨_, rfl, .inl rfl⟩, ⟨_, rfl, .inr (.inr ⟨rfl, in4 (by simp [Cells.len])⟩)⟩, trivial⟩ ?_
              refine ax_cut_ops (bestH l st1) [none] [(1, .ro (.ints .i64 pl) 0 pl.length), (2, .rp (.box [.ro (.ints .i64 l) 0 l.length]) 0 0), (3, .ptr 2 0 0), (4, .ptr 1 0 0), (5, .ptr 3 0 0), (12, .int .i64 (i : Nat)), (45, .fn 22 [.rp (.box [.ro (.ints .i64 l) 0 l.length]) 0 0, .ptr 2 0 0, .ptr 1 0 0, .ptr 3 0 0]), (47, .int .i64 ((i : Nat) + 1)), (52, .ro (.ints .i64 (pl ++ [(i : Int)])) 0 (pl.length + 1))] rfl (by refine ⟨rfl, rfl, rfl, rfl, rfl, rfl, rfl, rfl, rfl, trivial⟩) (by rw [hfix]; exact fun h hh => hh) rfl rfl ?_
              refine ax_callc rfl rfl rfl hih (fun _ h => h) (fun _ h => h) ?_
              rintro r H ⟨rfl, rfl⟩
              repeat (first
                | refine ax_ops_nil ?_
                | refine ax_post_any ?_)
              refine ax_any_done (by kernel_rfl) ?_
              repeat (first
                | refine ax_q (q_move rfl) ?_
                | refine ax_q (q_assign rfl) ?_
                | refine ax_ops_nil ?_
                | refine ax_post_code ?_
                | refine ax_region rfl ?_
                | refine ax_post_blk ?_
                | refine ax_q (q_add rfl rfl (by omega)) ?_)
              exact ax_post_inv ⟨(e', walkF l e' (pl ++ [(i : Int)]) st1), ⟨by simp only; omega, hgo⟩, by simp only; omega, ⟨rfl, rfl, rfl, rfl, rfl, by rw [← hne]; rfl, trivial⟩, rfl⟩
            · skip
              refine ax_append rfl rfl rfl rfl rfl rfl rfl rfl rfl rfl rfl rfl (by show 0 + 1 ≤ 1; omega) rfl (by show (pl.length + 1) * 8 ≤ _ ∧ _; omega) (fun i j _ _ => rfl) (by rw [hfix]; exact Nat.lt_irrefl 4) ?_
              repeat (first
                | refine ax_ops_nil ?_
                | refine ax_post_any ?_)
              refine ax_any_step (is := [0]) (by kernel_rfl) (by simp) rfl ⟨fun o ho => ?_, trivial⟩
              all_goals (cases ho)
              repeat (first
                | refine ax_ops_nil ?_
                | refine ax_post_any ?_
                | refine ax_q (q_loadb_ptr rfl rfl rfl rfl rfl) ?_)
              refine ax_any_step (is := [8]) (by kernel_rfl) (by simp) rfl ⟨fun o ho => ?_, trivial⟩
              all_goals (cases ho)
              skip
              refine ax_freeze_ops [none, none, none, none, some ⟨3, .ints .i64 (pl ++ [(i : Int)])⟩] [none, some ⟨22, .box [.ro (.ints .i64 st1.2) 0 st1.2.length]⟩, some ⟨3, .box [.int .i64 st1.1]⟩, some ⟨43, .box [.fn 22 [.rp (.box [.ro (.ints .i64 l) 0 l.length]) 0 0, .ptr 2 0 0, .ptr 1 0 0, .ptr 3 0 0]]⟩, none] [(1, .ro (.ints .i64 pl) 0 pl.length), (2, .rp (.box [.ro (.ints .i64 l) 0 l.length]) 0 0), (3, .ptr 2 0 0), (4, .ptr 1 0 0), (5, .ptr 3 0 0), (12, .int .i64 (i : Nat)), (45, .fn 22 [.rp (.box [.ro (.ints .i64 l) 0 l.length]) 0 0, .ptr 2 0 0, .ptr 1 0 0, .ptr 3 0 0]), (47, .int .i64 ((i : Nat) + 1)), (52, .ro (.ints .i64 (pl ++ [(i : Int)])) 0 (pl.length + 1))] sub4 (refl4 refless_ints) rfl noFz
                ⟨⟨_, rfl, .inl rfl⟩, ⟨_, rfl, .inl rfl⟩, ⟨_, rfl, .inl rfl⟩, ⟨_, rfl, .inl rfl⟩, ⟨_, rfl, .inl rfl⟩, ⟨_, rfl, .inl rfl⟩, ⟨_, rfl, .inl rfl⟩, ⟨_, rfl, .inl rfl⟩, ⟨_, rfl, .inr (.inr ⟨rfl, in4 (by simp [Cells.len])⟩)⟩, trivial⟩ ?_
              refine ax_cut_ops (bestH l st1) [none] [(1, .ro (.ints .i64 pl) 0 pl.length), (2, .rp (.box [.ro (.ints .i64 l) 0 l.length]) 0 0), (3, .ptr 2 0 0), (4, .ptr 1 0 0), (5, .ptr 3 0 0), (12, .int .i64 (i : Nat)), (45, .fn 22 [.rp (.box [.ro (.ints .i64 l) 0 l.length]) 0 0, .ptr 2 0 0, .ptr 1 0 0, .ptr 3 0 0]), (47, .int .i64 ((i : Nat) + 1)), (52, .ro (.ints .i64 (pl ++ [(i : Int)])) 0 (pl.length + 1))] rfl (by refine ⟨rfl, rfl, rfl, rfl, rfl, rfl, rfl, rfl, rfl, trivial⟩) (by rw [hfix]; exact fun h hh => hh) rfl rfl ?_
              refine ax_callc rfl rfl rfl hih (fun _ h => h) (fun _ h => h) ?_
              rintro r H ⟨rfl, rfl⟩
              repeat (first
                | refine ax_ops_nil ?_
                | refine ax_post_any ?_)
              refine ax_any_done (by kernel_rfl) ?_
              repeat (first
                | refine ax_q (q_move rfl) ?_
                | refine ax_q (q_assign rfl) ?_
                | refine ax_ops_nil ?_
                | refine ax_post_code ?_
                | refine ax_region rfl ?_
                | refine ax_post_blk ?_
                | refine ax_q (q_add rfl rfl (by omega)) ?_)
              exact ax_post_inv ⟨(e', walkF l e' (pl ++ [(i : Int)]) st1), ⟨by simp only; omega, hgo⟩, by simp only; omega, ⟨rfl, rfl, rfl, rfl, rfl, by rw [← hne]; rfl, trivial⟩, rfl⟩
      · have h0 : e = 0 := by omega
        subst h0
        rw [show goF l 0 pl st1 = st1 from rfl] at hgo
        subst hgo
        repeat (first
          | refine ax_exit ?_
          | refine ax_exit_here ?_
          | refine ax_exit_code ?_
          | refine ax_exit_inv ?_)
        exact ax_end hR rfl ⟨rfl, rfl⟩
end Go.Proofs.Ytmfhdfofmdggaaa
