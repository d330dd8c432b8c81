import Derived.Test.YtmfhdfofmdggaaaR4
namespace Go.Proofs.Ytmfhdfofmdggaaa
open Go.Ax Go.Ax.Idx Go.Ax.Cd Go.Ax.Rk Go.RowKit
attribute [local irreducible] Ax Post QOp ACall
set_option maxRecDepth 100000
set_option maxHeartbeats 4000000
set_option linter.unusedSimpArgs false
set_option linter.unusedVariables false

theorem cntB_blt {c : List Int} {i : Nat} (h : i < c.length) : Nat.blt i (cntB c).sz = true := by
  simpa [cntB, Cells.sz] using h
theorem cntB_set (c : List Int) (i : Nat) (v : Int) : cntB (c.set i v) = .box ((c.map (AV.int .i64)).set i (.int .i64 v)) := by
  rw [cntB, List.map_set]
theorem cntB_range (c : List Int) : (List.range (cntB c).sz).map ((cntB c).at 0) = c.map (AV.int .i64) := by
  apply List.ext_getElem
  · simp [cntB, Cells.sz]
  · intro i h1 h2
    simp only [List.length_map] at h2
    simp [cntB, Cells.at, List.getD, h2]
theorem refless_cntB (c : List Int) : refless (cntB c) := by
  intro i j _ hj
  simp only [cntB, Cells.sz, List.length_map] at hj
  simp [cntB, Cells.at, List.getD, hj, noRef]
theorem forgets_ints (h : Nat) (c : List Int) : AV.forgets h (c.map (AV.int .i64)) = c.map (AV.int .i64) := by
  induction c with
  | nil => rfl
  | cons x r ih => simp only [List.map_cons, AV.forgets, AV.forget, ih]
theorem forget_cntB (h : Nat) (c : List Int) : (cntB c).forget h = cntB c := congrArg Cells.box (forgets_ints h c)
theorem order (l : List Int) (h5 : l.length = 5) (hl : ∀ i, i < l.length → 0 ≤ l.getD i 0 ∧ l.getD i 0 < 52) :
    VCall Try.prog 27 [.ro (.ints .i64 l) 0 l.length] (.tup [.ro (.ints .i64 (ordF l)) 0 (ordF l).length, .ro (.ints .i64 (oftF l)) 0 (oftF l).length]) := by
  refine ACall.value (K := fun r H => r = .tup [.sl 1 0 (ordF l).length, .sl 2 0 (oftF l).length] ∧ H = [none, some ⟨3, .ints .i64 (ordF l)⟩, some ⟨3, .ints .i64 (oftF l)⟩]) (acall_of_ax (P := Try.prog) (fn := Try.f27) rfl rfl (by kernel_rfl) rfl (fun c hR hfix => ?_)) (fix := fun _ => False) (fun _ h => h) rfl ?_
  · repeat (first
      | refine ax_q (q_move rfl) ?_
      | refine ax_q (q_assign rfl) ?_
      | refine ax_ops_nil ?_
      | refine ax_post_code ?_
      | refine ax_seq ?_
      | refine ax_region rfl ?_
      | refine ax_block ?_
      | refine ax_q (q_len rfl rfl rfl) ?_
      | refine ax_alloc rfl rfl rfl ?_)
    refine ax_heap_eq [some ⟨56, cntB cnt0⟩] rfl ?_
    skip
    refine ax_loop (ι := Nat) (fun i => [(4, .ptr 0 0 0), (13, .ro (.ints .i64 l) 0 l.length), (14, .int .i64 (l.length : Nat)), (15, .int .i64 (i : Nat))]) (fun i => [some ⟨56, cntB (cntR cnt0 (l.take i))⟩])
      (fun i => i ≤ l.length) (fun i => l.length - i) 0 ⟨⟨rfl, rfl, rfl, rfl, trivial⟩, rfl, Nat.zero_le _⟩ ?_
    rintro i hi
    have hcl : (cntR cnt0 (l.take i)).length = 13 := by rw [cntR_length]; rfl
    repeat (first
      | refine ax_ops_nil ?_
      | refine ax_post_code ?_
      | refine ax_seq ?_
      | refine ax_region rfl ?_
      | refine ax_q (q_lss rfl rfl) ?_)
    refine ax_cond_dec rfl (fun h => ?_) (fun h => ?_)
    · have hi2 : i < l.length := by omega
      have hb := hl i hi2
      have hst : cntR cnt0 (l.take (i + 1)) = (cntR cnt0 (l.take i)).set (l.getD i 0 % 13).toNat ((cntR cnt0 (l.take i)).getD (l.getD i 0 % 13).toNat 0 + 1) := by
        rw [List.take_succ_eq_append_getElem hi2, cntR_snoc]; simp [List.getD, hi2]
      have hm : (l.getD i 0 % 13).toNat < (cntR cnt0 (l.take i)).length := by omega
      have hg := cntB_at hm
      have hcb := cntR_le cnt0 (l.take i) rfl (l.getD i 0 % 13).toNat
      have hcn := cntR_nonneg cnt0 (l.take i) rfl (fun i => by rw [cnt0_getD]; omega) (l.getD i 0 % 13).toNat
      rw [cnt0_getD, List.length_take] at hcb
      generalize cntR cnt0 (l.take i) = cc at *
      repeat (first
        | refine ax_q (q_move rfl) ?_
        | refine ax_q (q_assign rfl) ?_
        | refine ax_q (q_loadi_rp rfl rfl rfl) ?_
        | refine ax_ops_nil ?_
        | refine ax_post_code ?_
        | refine ax_seq ?_
        | refine ax_region rfl ?_
        | refine ax_block ?_
        | refine ax_skip ?_
        | refine ax_q (q_index_ro' rfl rfl rfl rfl (by first | (simp only [Nat.zero_add, Int.toNat_natCast, Int.toNat_zero]; exact rfl) | exact rfl) (by omega)) ?_
        | refine ax_q (q_rem rfl rfl (by omega)) ?_
        | refine ax_q (q_idxarr_ptr rfl rfl rfl rfl (by first | (simp only [Nat.zero_add, Int.toNat_natCast]; exact rfl) | exact rfl) (by omega)) ?_)
      refine ax_q (q_loadb_ptr rfl rfl rfl rfl hg) ?_
      repeat (first
        | refine ax_q (q_add rfl rfl (by omega)) ?_
        | refine ax_q (q_idxarr_ptr rfl rfl rfl rfl (by first | (simp only [Nat.zero_add, Int.toNat_natCast]; exact rfl) | exact rfl) (by omega)) ?_)
      refine ax_store rfl rfl rfl rfl rfl (cntB_blt hm) rfl Nat.zero_lt_one ?_
      repeat (first
        | refine ax_q (q_move rfl) ?_
        | refine ax_ops_nil ?_
        | refine ax_post_code ?_
        | refine ax_region rfl ?_
        | refine ax_post_blk ?_
        | refine ax_q (q_add rfl rfl (by omega)) ?_)
      exact ax_post_inv ⟨i + 1, by omega, by omega, ⟨rfl, rfl, rfl, rfl, trivial⟩, by rw [hst, cntB_set]; rfl⟩
    · have hi2 : i = l.length := by omega
      subst hi2
      rw [List.take_length] at hcl ⊢
      have hcb := cntR_le cnt0 l rfl
      have hcn := cntR_nonneg cnt0 l rfl (fun i => by rw [cnt0_getD]; omega)
      have hpl := presentR_5 l h5
      have hso : sortF (fun a b => decide (cmpR (cntR cnt0 l) a b < 0)) (presentR (cntR cnt0 l) 13) = ordF l := rfl
      have hof : (ordF l).map (fun r => (cntR cnt0 l).getD r.toNat 0) = oftF l := rfl
      have hom := fun x (h : x ∈ ordF l) => ordF_mem h
      have hol : (ordF l).length = (presentR (cntR cnt0 l) 13).length := (sortF_keeps _ id _).2.2
      generalize ordF l = od at *
      generalize oftF l = ot at *
      generalize cntR cnt0 l = cc at *
      repeat (first
        | refine ax_q (q_assign rfl) ?_
        | refine ax_ops_nil ?_
        | refine ax_post_code ?_
        | refine ax_seq ?_
        | refine ax_region rfl ?_
        | refine ax_exit ?_
        | refine ax_exit_here ?_
        | refine ax_exit_code ?_
        | refine ax_exit_inv ?_)
      refine ax_nilobj_ops 7 ⟨3, .ints .i64 []⟩ rfl rfl ?_
      refine ax_q (q_loadagg_ptr (L := cc.map (AV.int .i64)) rfl rfl rfl (by show 13 = _; simp [cntB, Cells.sz, hcl]) rfl rfl (cntB_range cc) Nat.zero_lt_one) ?_
      repeat (first
        | refine ax_q (q_move rfl) ?_
        | refine ax_ops_nil ?_
        | refine ax_post_code ?_
        | refine ax_block ?_)
      refine ax_loop (ι := Nat) (fun i => [(4, .ptr 0 0 0), (7, .sl 1 0 (presentR cc i).length), (8, .nil), (26, .agg (cc.map (AV.int .i64))), (27, .int .i64 (i : Nat))]) (fun i => [some ⟨56, cntB cc⟩, some ⟨3, .ints .i64 (presentR cc i)⟩])
        (fun i => i ≤ 13) (fun i => 13 - i) 0 ⟨⟨rfl, rfl, rfl, rfl, rfl, trivial⟩, rfl, Nat.zero_le _⟩ ?_
      rintro i hi
      have hpi := presentR_len cc i
      repeat (first
        | refine ax_ops_nil ?_
        | refine ax_post_code ?_
        | refine ax_seq ?_
        | refine ax_region rfl ?_
        | refine ax_q (q_lss rfl rfl) ?_)
      refine ax_cond_dec rfl (fun h2 => ?_) (fun h2 => ?_)
      · have hps := presentR_succ cc i
        have hic : i < cc.length := by omega
        repeat (first
          | refine ax_q (q_move rfl) ?_
          | refine ax_post_code ?_
          | refine ax_seq ?_
          | refine ax_region rfl ?_
          | refine ax_block ?_
          | refine ax_skip ?_)
        refine ax_q (q_idxagg (v := .int .i64 (cc.getD i 0)) rfl rfl rfl rfl rfl rfl (by simp [List.getD, hic]) ⟨by omega, by omega, by simp [hic]⟩) ?_
        repeat (first
          | refine ax_q (q_move rfl) ?_
          | refine ax_q (q_assign rfl) ?_
          | refine ax_ops_nil ?_
          | refine ax_post_code ?_
          | refine ax_seq ?_
          | refine ax_region rfl ?_
          | refine ax_q (q_gtr rfl rfl) ?_)
        refine ax_cond_dec rfl (fun h3 => ?_) (fun h3 => ?_)
        · rw [if_pos h3] at hps
          generalize presentR cc i = pr at *
          repeat (first
            | refine ax_q (q_move rfl) ?_
            | refine ax_region rfl ?_
            | refine ax_buildSliceRo rfl rfl rfl rfl rfl rfl rfl rfl rfl rfl rfl ?_)
          refine ax_append rfl rfl rfl rfl rfl rfl rfl rfl rfl rfl rfl rfl (by show 0 + 1 ≤ 1; omega) rfl (by show (pr.length + 1) * 8 ≤ _ ∧ _; omega) (fun i j _ _ => rfl) (by rw [hfix]; exact fun h => h) ?_
          repeat (first
            | refine ax_q (q_move rfl) ?_
            | refine ax_q (q_assign rfl) ?_
            | refine ax_ops_nil ?_
            | refine ax_post_code ?_
            | refine ax_region rfl ?_
            | refine ax_post_blk ?_
            | refine ax_q (q_add rfl rfl (by omega)) ?_)
          exact ax_post_inv ⟨i + 1, by omega, by omega, ⟨rfl, by rw [hps, List.length_append]; rfl, rfl, by show some (AV.agg (AV.forgets 1 _)) = _; rw [forgets_ints], rfl, trivial⟩, by rw [hps]; show ([some (⟨56, (cntB cc).forget 1⟩ : AObj), _] : AHeap) = _; rw [forget_cntB]; rfl⟩
        · rw [if_neg h3] at hps
          repeat (first
            | refine ax_q (q_move rfl) ?_
            | refine ax_ops_nil ?_
            | refine ax_post_code ?_
            | refine ax_region rfl ?_
            | refine ax_post_blk ?_
            | refine ax_skip ?_
            | refine ax_q (q_add rfl rfl (by omega)) ?_)
          exact ax_post_inv ⟨i + 1, by omega, by omega, ⟨rfl, by rw [hps]; rfl, rfl, rfl, rfl, trivial⟩, by rw [hps]⟩
      · have hi3 : i = 13 := by omega
        subst hi3
        have hpm := fun x (h : x ∈ presentR cc 13) => presentR_mem h
        generalize presentR cc 13 = pr at *
        repeat (first
          | refine ax_q (q_move rfl) ?_
          | refine ax_post_code ?_
          | refine ax_seq ?_
          | refine ax_region rfl ?_
          | refine ax_exit ?_
          | refine ax_exit_here ?_
          | refine ax_exit_code ?_
          | refine ax_exit_inv ?_
          | refine ax_q (q_makefn rfl) ?_)
        refine ax_freeze_ops [some ⟨56, cntB cc⟩, none] [none, some ⟨3, .ints .i64 pr⟩]
          [(4, .rp (cntB cc) 0 0), (7, .sl 1 0 pr.length), (38, .sl 1 0 pr.length), (39, .fn 36 [.rp (cntB cc) 0 0]), (8, .nil)] ?_ ?_ rfl ?_
          ⟨⟨_, rfl, .inr (.inr ⟨rfl, fun o ho => by simp at ho; subst ho; exact Nat.zero_lt_one⟩)⟩, ⟨_, rfl, .inl rfl⟩, ⟨_, rfl, .inl rfl⟩, ⟨_, rfl, .inr (.inr ⟨rfl, ⟨fun o ho => by simp at ho; subst ho; exact Nat.zero_lt_one, trivial⟩⟩)⟩, ⟨_, rfl, .inl rfl⟩, trivial⟩ ?_
        · intro h o ho
          match h, ho with
          | 0, ho => exact ho
          | 1, ho => simp at ho
          | _ + 2, ho => simp at ho
        · intro h o ho
          match h, ho with
          | 0, ho => simp at ho; subst ho; exact refless_cntB cc
          | 1, ho => simp at ho
          | _ + 2, ho => simp at ho
        · intro h o' ho'
          match h, ho' with
          | 0, ho' => simp at ho'
          | 1, ho' => exact ⟨fun o h => by simp at h, o', ho', rfl, rfl, rfl, fun _ _ _ _ => .inl rfl⟩
          | _ + 2, ho' => simp at ho'
        skip
        refine ax_callc rfl rfl rfl (sortFunc pr (by omega) 36 [.rp (cntB cc) 0 0] (cmpR cc) rfl (fun a b ha hb => order1 cc hcl a b (by have := hpm a ha; omega) (by have := hpm b hb; omega))) (fun _ h => h) (fun _ h => h) ?_
        rintro r H ⟨rfl, rfl⟩
        rw [hso, ← hol]
        repeat (first
          | refine ax_q (q_move rfl) ?_
          | refine ax_ops_nil ?_
          | refine ax_post_code ?_
          | refine ax_seq ?_
          | refine ax_region rfl ?_
          | refine ax_q (q_len rfl rfl rfl) ?_)
        refine ax_nilobj 8 ⟨3, .ints .i64 []⟩ rfl rfl ?_
        repeat (refine ax_block ?_)
        refine ax_loop (ι := Nat) (fun i => [(4, .rp (cntB cc) 0 0), (7, .sl 1 0 od.length), (8, .sl 2 0 i), (41, .sl 1 0 od.length), (42, .int .i64 (od.length : Nat)), (43, .int .i64 (i : Nat))]) (fun i => [none, some ⟨3, .ints .i64 od⟩, some ⟨3, .ints .i64 (ot.take i)⟩])
          (fun i => i ≤ od.length) (fun i => od.length - i) 0 ⟨⟨rfl, rfl, rfl, rfl, rfl, rfl, trivial⟩, rfl, Nat.zero_le _⟩ ?_
        rintro i hi
        have hotl : ot.length = od.length := by rw [← hof, List.length_map]
        repeat (first
          | refine ax_ops_nil ?_
          | refine ax_post_code ?_
          | refine ax_seq ?_
          | refine ax_region rfl ?_
          | refine ax_q (q_lss rfl rfl) ?_)
        refine ax_cond_dec rfl (fun h4 => ?_) (fun h4 => ?_)
        · have hio : i < od.length := by omega
          have hb := hom _ (getD_mem 0 hio)
          have htk := take_succ_getD ot 0 i (by omega)
          have hog : ot.getD i 0 = cc.getD (od.getD i 0).toNat 0 := by rw [← hof]; simp [List.getD, hio]
          have htl : (ot.take i).length = i := by rw [List.length_take]; omega
          have hg := cntB_at (c := cc) (i := (od.getD i 0).toNat) (by omega)
          rw [← hog] at hg
          generalize ot.take i = oi at *
          repeat (first
            | refine ax_q (q_move rfl) ?_
            | refine ax_q (q_assign rfl) ?_
            | refine ax_ops_nil ?_
            | refine ax_post_code ?_
            | refine ax_seq ?_
            | refine ax_region rfl ?_
            | refine ax_block ?_
            | refine ax_skip ?_
            | refine ax_q (q_index_sl' rfl rfl rfl rfl rfl (by first | (simp only [Nat.zero_add, Int.toNat_natCast, Int.toNat_zero]; exact rfl) | exact rfl) (by omega)) ?_
            | refine ax_q (q_loadi_ptr rfl rfl rfl rfl (by first | assumption | omega)) ?_
            | refine ax_q (q_idxarr_rp rfl rfl rfl rfl (by first | (simp only [Nat.zero_add, Int.toNat_natCast]; exact rfl) | exact rfl) (by omega)) ?_)
          refine ax_q (q_loadb_rp rfl rfl rfl hg) ?_
          repeat (refine ax_buildSliceRo rfl rfl rfl rfl rfl rfl rfl rfl rfl rfl rfl ?_)
          refine ax_append rfl rfl rfl rfl rfl rfl rfl rfl rfl htl rfl rfl (by show 0 + 1 ≤ 1; omega) rfl (by show (i + 1) * 8 ≤ _ ∧ _; omega) (fun i j _ _ => rfl) (by rw [hfix]; exact fun h => h) ?_
          repeat (first
            | refine ax_q (q_move rfl) ?_
            | refine ax_q (q_assign rfl) ?_
            | refine ax_ops_nil ?_
            | refine ax_post_code ?_
            | refine ax_region rfl ?_
            | refine ax_post_blk ?_
            | refine ax_q (q_add rfl rfl (by omega)) ?_)
          exact ax_post_inv ⟨i + 1, by omega, by omega, ⟨rfl, rfl, rfl, rfl, rfl, rfl, trivial⟩, by rw [htk]; rfl⟩
        · have hi4 : i = od.length := by omega
          subst hi4
          rw [List.take_of_length_le (by omega)]
          repeat (first
            | refine ax_q (q_move rfl) ?_
            | refine ax_q (q_assign rfl) ?_
            | refine ax_ops_nil ?_
            | refine ax_post_code ?_
            | refine ax_seq ?_
            | refine ax_region rfl ?_
            | refine ax_exit ?_
            | refine ax_exit_here ?_
            | refine ax_exit_code ?_
            | refine ax_exit_inv ?_
            | refine ax_return ?_)
          exact ax_ret hR rfl ⟨by rw [hotl]; rfl, rfl⟩
  · rintro r H ⟨rfl, rfl⟩
    refine ⟨rfl, ⟨fun o ho => ?_, fun o ho => ?_, trivial⟩, fun h o ho => ?_⟩
    · simp at ho; subst ho; exact Nat.le_of_eq (Nat.zero_add _)
    · simp at ho; subst ho; exact Nat.le_of_eq (Nat.zero_add _)
    · match h, ho with
      | 0, ho => simp at ho
      | 1, ho => simp at ho; subst ho; exact refless_ints
      | 2, ho => simp at ho; subst ho; exact refless_ints
      | _ + 3, ho => simp at ho
end Go.Proofs.Ytmfhdfofmdggaaa
