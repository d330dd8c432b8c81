import Derived.Test.YtmfhdfofmdggaaaR5
import Derived.Test.YtmfhdfofmdggaaaK2
namespace Go.Proofs.Ytmfhdfofmdggaaa
open Go.Ax Go.Ax.Idx Go.Ax.Cd Go.Ax.Rk Go.RowKit
attribute [local irreducible] Ax Post QOp ACall
set_option maxRecDepth 100000
set_option maxHeartbeats 4000000
set_option linter.unusedSimpArgs false
set_option linter.unusedVariables false

def Hand (l : List Int) : Prop := l.length = 5 ∧ ∀ i, i < l.length → 0 ≤ l.getD i 0 ∧ l.getD i 0 < 52

theorem straight (r : List Int) (hr : ∀ i, i < r.length → 0 ≤ r.getD i 0 ∧ r.getD i 0 ≤ 12) (hlen : r.length ≤ 100) :
    VCall Try.prog 30 [.ro (.ints .i64 r) 0 r.length] (.int .i64 (strF r)) := by
  refine ACall.value0 (acall_of_ax (P := Try.prog) (fn := Try.f30) rfl rfl (by kernel_rfl) rfl (fun c hR hfix => ?_)) (fix := fun _ => False) (fun _ h => h) rfl rfl
  repeat (first
    | refine ax_q (q_move rfl) ?_
    | refine ax_q (q_assign rfl) ?_
    | refine ax_ops_nil ?_
    | refine ax_post_code ?_
    | refine ax_seq ?_
    | refine ax_region rfl ?_
    | refine ax_block ?_
    | refine ax_q (q_lss rfl rfl) ?_
    | refine ax_q (q_len rfl rfl rfl) ?_)
  refine ax_cond_dec rfl (fun h => ?_) (fun h => ?_)
  · repeat (first
      | refine ax_q (q_assign rfl) ?_
      | refine ax_ops_nil ?_
      | refine ax_post_code ?_
      | refine ax_seq ?_
      | refine ax_region rfl ?_
      | refine ax_return ?_
      | refine ax_ret_code ?_
      | refine ax_ret_blk ?_)
    exact ax_ret hR rfl (by unfold strF; rw [if_pos (by omega)]; rfl)
  · have h0 := hr 0 (by omega)
    have h1 := hr 1 (by omega)
    have h4 : 0 ≤ r.getD (Int.toNat 4) 0 ∧ r.getD (Int.toNat 4) 0 ≤ 12 := hr 4 (by omega)
    repeat (refine ax_seq ?_)
    refine ax_regionq (by kernel_rfl) (by kernel_rfl) rfl ?_
    repeat (first
      | refine ax_q (q_move rfl) ?_
      | refine ax_q (q_assign rfl) ?_
      | refine ax_q (q_loadi_rp rfl rfl rfl) ?_
      | refine ax_ops_nil ?_
      | refine ax_post_code ?_
      | refine ax_q (q_eql rfl rfl) ?_
      | refine ax_q (q_sub rfl rfl (by omega)) ?_
      | refine ax_q (q_index_ro' rfl rfl rfl rfl (by first | (simp only [Nat.zero_add, Int.toNat_natCast, Int.toNat_zero]; exact rfl) | exact rfl) (by omega)) ?_)
    refine ax_cond_dec rfl (fun h5 => ?_) (fun h5 => ?_)
    · repeat (first
        | refine ax_q (q_move rfl) ?_
        | refine ax_q (q_assign rfl) ?_
        | refine ax_q (q_loadi_rp rfl rfl rfl) ?_
        | refine ax_ops_nil ?_
        | refine ax_post_code ?_
        | refine ax_seq ?_
        | refine ax_region rfl ?_
        | refine ax_return ?_
        | refine ax_ret_code ?_
        | refine ax_ret_blk ?_
        | refine ax_q (q_index_ro' rfl rfl rfl rfl (by first | (simp only [Nat.zero_add, Int.toNat_natCast, Int.toNat_zero]; exact rfl) | exact rfl) (by omega)) ?_)
      exact ax_ret hR rfl (by unfold strF; rw [if_neg (by omega), if_pos (show r.getD 0 0 - r.getD 4 0 = 4 from h5)]; rfl)
    · repeat (first
        | refine ax_q (q_move rfl) ?_
        | refine ax_q (q_loadi_rp rfl rfl rfl) ?_
        | refine ax_seq ?_
        | refine ax_region rfl ?_
        | refine ax_q (q_eql rfl rfl) ?_
        | refine ax_q (q_index_ro' rfl rfl rfl rfl (by first | (simp only [Nat.zero_add, Int.toNat_natCast, Int.toNat_zero]; exact rfl) | exact rfl) (by omega)) ?_)
      refine ax_gsplit rfl rfl (fun h6 => ?_) (fun h6 => ?_)
      · repeat (first
          | refine ax_q (q_move rfl) ?_
          | refine ax_q (q_assign rfl) ?_
          | refine ax_q (q_loadi_rp rfl rfl rfl) ?_
          | refine ax_ops_nil ?_
          | refine ax_post_code ?_
          | refine ax_guard rfl rfl ?_
          | refine ax_q (q_eql rfl rfl) ?_
          | refine ax_q (q_pick rfl rfl) ?_
          | refine ax_q (q_index_ro' rfl rfl rfl rfl (by first | (simp only [Nat.zero_add, Int.toNat_natCast, Int.toNat_zero]; exact rfl) | exact rfl) (by omega)) ?_)
        refine ax_cond_dec rfl (fun h7 => ?_) (fun h7 => ?_)
        · repeat (first
            | refine ax_q (q_assign rfl) ?_
            | refine ax_ops_nil ?_
            | refine ax_post_code ?_
            | refine ax_seq ?_
            | refine ax_region rfl ?_
            | refine ax_return ?_
            | refine ax_ret_code ?_
            | refine ax_ret_blk ?_)
          exact ax_ret hR rfl (by unfold strF; rw [if_neg (by omega), if_neg (show ¬ r.getD 0 0 - r.getD 4 0 = 4 from h5), if_pos ⟨h6, h7⟩]; rfl)
        · repeat (first
            | refine ax_q (q_assign rfl) ?_
            | refine ax_ops_nil ?_
            | refine ax_post_code ?_
            | refine ax_seq ?_
            | refine ax_region rfl ?_
            | refine ax_post_blk ?_
            | refine ax_skip ?_
            | refine ax_return ?_)
          exact ax_ret hR rfl (by unfold strF; rw [if_neg (by omega), if_neg (show ¬ r.getD 0 0 - r.getD 4 0 = 4 from h5), if_neg (fun h => h7 h.2)]; rfl)
      · repeat (first
          | refine ax_q (q_assign rfl) ?_
          | refine ax_ops_nil ?_
          | refine ax_post_code ?_
          | refine ax_seq ?_
          | refine ax_region rfl ?_
          | refine ax_skip_not rfl rfl rfl ?_
          | refine ax_cond_false rfl ?_
          | refine ax_post_blk ?_
          | refine ax_skip ?_
          | refine ax_return ?_
          | refine ax_q (q_pick rfl rfl) ?_)
        exact ax_ret hR rfl (by unfold strF; rw [if_neg (by omega), if_neg (show ¬ r.getD 0 0 - r.getD 4 0 = 4 from h5), if_neg (fun h => h6 h.1)]; rfl)

theorem flush1 (l : List Int) (h5 : l.length = 5) (v : Int) (hv : 0 ≤ v ∧ v < 52) (h0 : 0 ≤ l.getD 0 0 ∧ l.getD 0 0 < 52) : VCall Try.prog 29 ([.int .i64 v] ++ [.rp (.box [.ro (.ints .i64 l) 0 l.length]) 0 0]) (.bool (decide (¬ v / 13 = l.getD 0 0 / 13))) := by
  refine ACall.value0 (acall_of_ax (P := Try.prog) (fn := Try.f29) rfl rfl (by kernel_rfl) rfl (fun c hR hfix => ?_)) (fix := fun _ => False) (fun _ h => h) rfl rfl
  repeat (first
    | refine ax_q (q_move rfl) ?_
    | refine ax_q (q_assign rfl) ?_
    | refine ax_q (q_loadi_rp rfl rfl rfl) ?_
    | refine ax_ops_nil ?_
    | refine ax_post_code ?_
    | refine ax_seq ?_
    | refine ax_region rfl ?_
    | refine ax_return ?_
    | refine ax_q (q_neq rfl rfl) ?_
    | refine ax_q (q_index_ro' rfl rfl rfl rfl (by first | (simp only [Nat.zero_add, Int.toNat_natCast, Int.toNat_zero]; exact rfl) | exact rfl) (by omega)) ?_
    | refine ax_q (q_quo rfl rfl (by omega)) ?_
    | refine ax_q (q_loadb_rp rfl rfl rfl rfl) ?_)
  exact ax_ret hR rfl rfl

theorem classOf (l : List Int) (hl : Hand l) : VCall Try.prog 17 [.ro (.ints .i64 l) 0 l.length] (.int .i64 (clsF l)) := by
  refine ACall.value (K := fun r H => r = .int .i64 (clsF l) ∧ H = [none]) (acall_of_ax (P := Try.prog) (fn := Try.f17) rfl rfl (by kernel_rfl) rfl (fun c hR hfix => ?_)) (fix := fun _ => False) (fun _ h => h) rfl ?_
  · obtain ⟨h5, hb⟩ := hl
    have hor := order l h5 hb
    have hol : (ordF l).length ≤ 5 := by
      have := presentR_5 l h5
      have e : (ordF l).length = (presentR (cntR cnt0 l) 13).length := (sortF_keeps _ id _).2.2
      omega
    have hst := straight (ordF l) (fun i hi => by have := ordF_mem (getD_mem 0 hi); omega) (by omega)
    have hco := containsI l 29 [.rp (.box [.ro (.ints .i64 l) 0 l.length]) 0 0] (fun v => decide (¬ v / 13 = l.getD 0 0 / 13)) rfl (by omega) (fun x hx => flush1 l h5 x (by
      obtain ⟨i, hi, rfl⟩ := List.getElem_of_mem hx
      have := hb i hi
      simp only [List.getD, List.getElem?_eq_getElem hi, Option.getD_some] at this
      omega) (hb 0 (by omega)))
    have hf : flushF l = !(l.any (fun v => decide (¬ v / 13 = l.getD 0 0 / 13))) := rfl
    have hp := oftF_pos h5
    have h3 := oftF_one h5
    have h2 := oftF_one2 h5
    have hcl := clsF_eq l
    generalize clsF l = cl at *
    generalize l.any (fun v => decide (¬ v / 13 = l.getD 0 0 / 13)) = ft at *
    generalize flushF l = fl at *
    generalize oftF l = ot at *
    generalize strF (ordF l) = st at *
    generalize ordF l = od at *
    repeat (first
      | refine ax_q (q_assign rfl) ?_
      | refine ax_ops_nil ?_
      | refine ax_post_code ?_
      | refine ax_seq ?_
      | refine ax_region rfl ?_
      | refine ax_q (q_loadb_ptr rfl rfl rfl rfl rfl) ?_
      | refine ax_box rfl rfl ?_)
    refine ax_freeze_ops [some ⟨22, .box [.ro (.ints .i64 l) 0 l.length]⟩] [none] [(1, .rp (.box [.ro (.ints .i64 l) 0 l.length]) 0 0), (8, .ro (.ints .i64 l) 0 l.length)] (fun _ _ h => h) (refl1 (refless_box rfl)) rfl ?_
      ⟨⟨_, rfl, .inr (.inr ⟨rfl, fun o ho => by simp at ho; subst ho; exact Nat.zero_lt_one⟩)⟩, ⟨_, rfl, .inl rfl⟩, trivial⟩ ?_
    · intro h o' ho'
      match h, ho' with
      | 0, ho' => simp at ho'
      | _ + 1, ho' => simp at ho'
    refine ax_callv rfl rfl rfl hor ?_
    repeat (first
      | refine ax_q (q_move rfl) ?_
      | refine ax_q (q_assign rfl) ?_
      | refine ax_ops_nil ?_
      | refine ax_post_code ?_
      | refine ax_seq ?_
      | refine ax_region rfl ?_
      | refine ax_q (q_extract rfl rfl) ?_
      | refine ax_q (q_loadb_rp rfl rfl rfl rfl) ?_
      | refine ax_q (q_makefn rfl) ?_)
    refine ax_callv rfl rfl rfl hco ?_
    repeat (first
      | refine ax_q (q_move rfl) ?_
      | refine ax_q (q_assign rfl) ?_
      | refine ax_ops_nil ?_
      | refine ax_post_code ?_
      | refine ax_seq ?_
      | refine ax_region rfl ?_
      | refine ax_q (q_not rfl) ?_)
    refine ax_callv rfl rfl rfl hst ?_
    repeat (first
      | refine ax_q (q_move rfl) ?_
      | refine ax_q (q_assign rfl) ?_
      | refine ax_ops_nil ?_
      | refine ax_post_code ?_
      | refine ax_seq ?_
      | refine ax_region rfl ?_
      | refine ax_block ?_
      | refine ax_q (q_geq rfl rfl) ?_)
    cases ft with
    | true =>
      simp only [Bool.not_true] at hf
      subst hf
      repeat (first
        | refine ax_q (q_move rfl) ?_
        | refine ax_q (q_assign rfl) ?_
        | refine ax_q (q_loadi_rp rfl rfl rfl) ?_
        | refine ax_ops_nil ?_
        | refine ax_post_code ?_
        | refine ax_seq ?_
        | refine ax_region rfl ?_
        | refine ax_skip_not rfl rfl rfl ?_
        | refine ax_cond_false rfl ?_
        | refine ax_q (q_eql rfl rfl) ?_
        | refine ax_q (q_pick rfl rfl) ?_
        | refine ax_q (q_index_ro' rfl rfl rfl rfl (by first | (simp only [Nat.zero_add, Int.toNat_natCast, Int.toNat_zero]; exact rfl) | exact rfl) (by omega)) ?_)
      refine ax_cond_dec rfl (fun h4 => ?_) (fun h4 => ?_)
      · have h4' : ot.getD 0 0 = 4 := h4
        rw [show clsG _ st ot = 7 by simp only [clsG, Bool.false_eq_true, false_and, if_false, true_and, if_true]; (repeat' split) <;> first | rfl | omega] at hcl
        subst hcl
        repeat (first
          | refine ax_q (q_assign rfl) ?_
          | refine ax_ops_nil ?_
          | refine ax_post_code ?_
          | refine ax_seq ?_
          | refine ax_region rfl ?_
          | refine ax_return ?_
          | refine ax_ret_code ?_
          | refine ax_ret_blk ?_)
        exact ax_ret hR rfl ⟨rfl, rfl⟩
      have h4' : ¬ ot.getD 0 0 = 4 := h4
      repeat (first
        | refine ax_q (q_move rfl) ?_
        | refine ax_q (q_loadi_rp rfl rfl rfl) ?_
        | refine ax_seq ?_
        | refine ax_region rfl ?_
        | refine ax_q (q_eql rfl rfl) ?_
        | refine ax_q (q_index_ro' rfl rfl rfl rfl (by first | (simp only [Nat.zero_add, Int.toNat_natCast, Int.toNat_zero]; exact rfl) | exact rfl) (by omega)) ?_)
      refine ax_gsplit rfl rfl (fun h6 => ?_) (fun h6 => ?_)
      · have h6' : ot.getD 0 0 = 3 := h6
        have h6l := h3 h6'
        repeat (first
          | refine ax_q (q_move rfl) ?_
          | refine ax_q (q_assign rfl) ?_
          | refine ax_q (q_loadi_rp rfl rfl rfl) ?_
          | refine ax_ops_nil ?_
          | refine ax_post_code ?_
          | refine ax_guard rfl rfl ?_
          | refine ax_q (q_eql rfl rfl) ?_
          | refine ax_q (q_pick rfl rfl) ?_
          | refine ax_q (q_index_ro' rfl rfl rfl rfl (by first | (simp only [Nat.zero_add, Int.toNat_natCast, Int.toNat_zero]; exact rfl) | exact rfl) (by omega)) ?_)
        refine ax_cond_dec rfl (fun h7 => ?_) (fun h7 => ?_)
        · have h7' : ot.getD 1 0 = 2 := h7
          rw [show clsG _ st ot = 6 by simp only [clsG, Bool.false_eq_true, false_and, if_false, true_and, if_true]; (repeat' split) <;> first | rfl | omega] at hcl
          subst hcl
          repeat (first
            | refine ax_q (q_assign rfl) ?_
            | refine ax_ops_nil ?_
            | refine ax_post_code ?_
            | refine ax_seq ?_
            | refine ax_region rfl ?_
            | refine ax_return ?_
            | refine ax_ret_code ?_
            | refine ax_ret_blk ?_)
          exact ax_ret hR rfl ⟨rfl, rfl⟩
        · have h7' : ¬ ot.getD 1 0 = 2 := h7
          repeat (first
            | refine ax_q (q_move rfl) ?_
            | refine ax_q (q_assign rfl) ?_
            | refine ax_ops_nil ?_
            | refine ax_post_code ?_
            | refine ax_seq ?_
            | refine ax_region rfl ?_
            | refine ax_cond_false rfl ?_)
          refine ax_cond_dec rfl (fun h8 => ?_) (fun h8 => ?_)
          · have h8' : 0 ≤ st := h8
            rw [show clsG _ st ot = 4 by simp only [clsG, Bool.false_eq_true, false_and, if_false, true_and, if_true]; (repeat' split) <;> first | rfl | omega] at hcl
            subst hcl
            repeat (first
              | refine ax_q (q_assign rfl) ?_
              | refine ax_ops_nil ?_
              | refine ax_post_code ?_
              | refine ax_seq ?_
              | refine ax_region rfl ?_
              | refine ax_return ?_
              | refine ax_ret_code ?_
              | refine ax_ret_blk ?_)
            exact ax_ret hR rfl ⟨rfl, rfl⟩
          · have h8' : ¬ 0 ≤ st := h8
            repeat (first
              | refine ax_q (q_move rfl) ?_
              | refine ax_q (q_assign rfl) ?_
              | refine ax_q (q_loadi_rp rfl rfl rfl) ?_
              | refine ax_ops_nil ?_
              | refine ax_post_code ?_
              | refine ax_seq ?_
              | refine ax_region rfl ?_
              | refine ax_q (q_eql rfl rfl) ?_
              | refine ax_q (q_index_ro' rfl rfl rfl rfl (by first | (simp only [Nat.zero_add, Int.toNat_natCast, Int.toNat_zero]; exact rfl) | exact rfl) (by omega)) ?_)
            refine ax_cond_dec rfl (fun h9 => ?_) (fun h9 => ?_)
            · skip
              rw [show clsG _ st ot = 3 by simp only [clsG, Bool.false_eq_true, false_and, if_false, true_and, if_true]; (repeat' split) <;> first | rfl | omega] at hcl
              subst hcl
              repeat (first
                | refine ax_q (q_assign rfl) ?_
                | refine ax_ops_nil ?_
                | refine ax_post_code ?_
                | refine ax_seq ?_
                | refine ax_region rfl ?_
                | refine ax_return ?_
                | refine ax_ret_code ?_
                | refine ax_ret_blk ?_)
              exact ax_ret hR rfl ⟨rfl, rfl⟩
            · exact absurd h6' h9
      · have h6' : ¬ ot.getD 0 0 = 3 := h6
        repeat (first
          | refine ax_q (q_move rfl) ?_
          | refine ax_q (q_assign rfl) ?_
          | refine ax_ops_nil ?_
          | refine ax_post_code ?_
          | refine ax_seq ?_
          | refine ax_region rfl ?_
          | refine ax_skip_not rfl rfl rfl ?_
          | refine ax_cond_false rfl ?_
          | refine ax_q (q_pick rfl rfl) ?_)
        refine ax_cond_dec rfl (fun h8 => ?_) (fun h8 => ?_)
        · have h8' : 0 ≤ st := h8
          rw [show clsG _ st ot = 4 by simp only [clsG, Bool.false_eq_true, false_and, if_false, true_and, if_true]; (repeat' split) <;> first | rfl | omega] at hcl
          subst hcl
          repeat (first
            | refine ax_q (q_assign rfl) ?_
            | refine ax_ops_nil ?_
            | refine ax_post_code ?_
            | refine ax_seq ?_
            | refine ax_region rfl ?_
            | refine ax_return ?_
            | refine ax_ret_code ?_
            | refine ax_ret_blk ?_)
          exact ax_ret hR rfl ⟨rfl, rfl⟩
        · have h8' : ¬ 0 ≤ st := h8
          repeat (first
            | refine ax_q (q_move rfl) ?_
            | refine ax_q (q_assign rfl) ?_
            | refine ax_q (q_loadi_rp rfl rfl rfl) ?_
            | refine ax_ops_nil ?_
            | refine ax_post_code ?_
            | refine ax_seq ?_
            | refine ax_region rfl ?_
            | refine ax_q (q_eql rfl rfl) ?_
            | refine ax_q (q_index_ro' rfl rfl rfl rfl (by first | (simp only [Nat.zero_add, Int.toNat_natCast, Int.toNat_zero]; exact rfl) | exact rfl) (by omega)) ?_)
          refine ax_cond_dec rfl (fun h9 => ?_) (fun h9 => ?_)
          · exact absurd h9 h6'
          · repeat (first
              | refine ax_q (q_move rfl) ?_
              | refine ax_q (q_loadi_rp rfl rfl rfl) ?_
              | refine ax_seq ?_
              | refine ax_region rfl ?_
              | refine ax_q (q_eql rfl rfl) ?_
              | refine ax_q (q_index_ro' rfl rfl rfl rfl (by first | (simp only [Nat.zero_add, Int.toNat_natCast, Int.toNat_zero]; exact rfl) | exact rfl) (by omega)) ?_)
            refine ax_gsplit rfl rfl (fun h10 => ?_) (fun h10 => ?_)
            · have h10' : ot.getD 0 0 = 2 := h10
              have h10l := h2 h10'
              repeat (first
                | refine ax_q (q_move rfl) ?_
                | refine ax_q (q_assign rfl) ?_
                | refine ax_q (q_loadi_rp rfl rfl rfl) ?_
                | refine ax_ops_nil ?_
                | refine ax_post_code ?_
                | refine ax_guard rfl rfl ?_
                | refine ax_q (q_eql rfl rfl) ?_
                | refine ax_q (q_pick rfl rfl) ?_
                | refine ax_q (q_index_ro' rfl rfl rfl rfl (by first | (simp only [Nat.zero_add, Int.toNat_natCast, Int.toNat_zero]; exact rfl) | exact rfl) (by omega)) ?_)
              refine ax_cond_dec rfl (fun h11 => ?_) (fun h11 => ?_)
              · have h11' : ot.getD 1 0 = 2 := h11
                rw [show clsG _ st ot = 2 by simp only [clsG, Bool.false_eq_true, false_and, if_false, true_and, if_true]; (repeat' split) <;> first | rfl | omega] at hcl
                subst hcl
                repeat (first
                  | refine ax_q (q_assign rfl) ?_
                  | refine ax_ops_nil ?_
                  | refine ax_post_code ?_
                  | refine ax_seq ?_
                  | refine ax_region rfl ?_
                  | refine ax_return ?_
                  | refine ax_ret_code ?_
                  | refine ax_ret_blk ?_)
                exact ax_ret hR rfl ⟨rfl, rfl⟩
              · have h11' : ¬ ot.getD 1 0 = 2 := h11
                repeat (first
                  | refine ax_q (q_move rfl) ?_
                  | refine ax_q (q_assign rfl) ?_
                  | refine ax_q (q_loadi_rp rfl rfl rfl) ?_
                  | refine ax_ops_nil ?_
                  | refine ax_post_code ?_
                  | refine ax_seq ?_
                  | refine ax_region rfl ?_
                  | refine ax_q (q_eql rfl rfl) ?_
                  | refine ax_q (q_index_ro' rfl rfl rfl rfl (by first | (simp only [Nat.zero_add, Int.toNat_natCast, Int.toNat_zero]; exact rfl) | exact rfl) (by omega)) ?_)
                refine ax_cond_dec rfl (fun h12 => ?_) (fun h12 => ?_)
                · skip
                  rw [show clsG _ st ot = 1 by simp only [clsG, Bool.false_eq_true, false_and, if_false, true_and, if_true]; (repeat' split) <;> first | rfl | omega] at hcl
                  subst hcl
                  repeat (first
                    | refine ax_q (q_assign rfl) ?_
                    | refine ax_ops_nil ?_
                    | refine ax_post_code ?_
                    | refine ax_seq ?_
                    | refine ax_region rfl ?_
                    | refine ax_return ?_
                    | refine ax_ret_code ?_
                    | refine ax_ret_blk ?_)
                  exact ax_ret hR rfl ⟨rfl, rfl⟩
                · exact absurd h10' h12
            · have h10' : ¬ ot.getD 0 0 = 2 := h10
              repeat (first
                | refine ax_q (q_move rfl) ?_
                | refine ax_q (q_assign rfl) ?_
                | refine ax_q (q_loadi_rp rfl rfl rfl) ?_
                | refine ax_ops_nil ?_
                | refine ax_post_code ?_
                | refine ax_seq ?_
                | refine ax_region rfl ?_
                | refine ax_skip_not rfl rfl rfl ?_
                | refine ax_cond_false rfl ?_
                | refine ax_q (q_eql rfl rfl) ?_
                | refine ax_q (q_pick rfl rfl) ?_
                | refine ax_q (q_index_ro' rfl rfl rfl rfl (by first | (simp only [Nat.zero_add, Int.toNat_natCast, Int.toNat_zero]; exact rfl) | exact rfl) (by omega)) ?_)
              refine ax_cond_dec rfl (fun h12 => ?_) (fun h12 => ?_)
              · exact absurd h12 h10'
              · skip
                rw [show clsG _ st ot = 0 by simp only [clsG, Bool.false_eq_true, false_and, if_false, true_and, if_true]; (repeat' split) <;> first | rfl | omega] at hcl
                subst hcl
                repeat (first
                  | refine ax_q (q_assign rfl) ?_
                  | refine ax_ops_nil ?_
                  | refine ax_post_code ?_
                  | refine ax_seq ?_
                  | refine ax_region rfl ?_
                  | refine ax_post_blk ?_
                  | refine ax_skip ?_
                  | refine ax_return ?_)
                exact ax_ret hR rfl ⟨rfl, rfl⟩
    | false =>
      simp only [Bool.not_false] at hf
      subst hf
      repeat (first
        | refine ax_q (q_move rfl) ?_
        | refine ax_q (q_assign rfl) ?_
        | refine ax_ops_nil ?_
        | refine ax_post_code ?_
        | refine ax_guard rfl rfl ?_
        | refine ax_q (q_pick rfl rfl) ?_)
      refine ax_cond_dec rfl (fun h1 => ?_) (fun h1 => ?_)
      · have h1' : 0 ≤ st := h1
        rw [show clsG _ st ot = 8 by simp only [clsG, Bool.false_eq_true, false_and, if_false, true_and, if_true]; (repeat' split) <;> first | rfl | omega] at hcl
        subst hcl
        repeat (first
          | refine ax_q (q_assign rfl) ?_
          | refine ax_ops_nil ?_
          | refine ax_post_code ?_
          | refine ax_seq ?_
          | refine ax_region rfl ?_
          | refine ax_return ?_
          | refine ax_ret_code ?_
          | refine ax_ret_blk ?_)
        exact ax_ret hR rfl ⟨rfl, rfl⟩
      · have h1' : ¬ 0 ≤ st := h1
        repeat (first
          | refine ax_q (q_move rfl) ?_
          | refine ax_q (q_assign rfl) ?_
          | refine ax_q (q_loadi_rp rfl rfl rfl) ?_
          | refine ax_ops_nil ?_
          | refine ax_post_code ?_
          | refine ax_seq ?_
          | refine ax_region rfl ?_
          | refine ax_q (q_eql rfl rfl) ?_
          | refine ax_q (q_index_ro' rfl rfl rfl rfl (by first | (simp only [Nat.zero_add, Int.toNat_natCast, Int.toNat_zero]; exact rfl) | exact rfl) (by omega)) ?_)
        refine ax_cond_dec rfl (fun h4 => ?_) (fun h4 => ?_)
        · have h4' : ot.getD 0 0 = 4 := h4
          rw [show clsG _ st ot = 7 by simp only [clsG, Bool.false_eq_true, false_and, if_false, true_and, if_true]; (repeat' split) <;> first | rfl | omega] at hcl
          subst hcl
          repeat (first
            | refine ax_q (q_assign rfl) ?_
            | refine ax_ops_nil ?_
            | refine ax_post_code ?_
            | refine ax_seq ?_
            | refine ax_region rfl ?_
            | refine ax_return ?_
            | refine ax_ret_code ?_
            | refine ax_ret_blk ?_)
          exact ax_ret hR rfl ⟨rfl, rfl⟩
        have h4' : ¬ ot.getD 0 0 = 4 := h4
        repeat (first
          | refine ax_q (q_move rfl) ?_
          | refine ax_q (q_loadi_rp rfl rfl rfl) ?_
          | refine ax_seq ?_
          | refine ax_region rfl ?_
          | refine ax_q (q_eql rfl rfl) ?_
          | refine ax_q (q_index_ro' rfl rfl rfl rfl (by first | (simp only [Nat.zero_add, Int.toNat_natCast, Int.toNat_zero]; exact rfl) | exact rfl) (by omega)) ?_)
        refine ax_gsplit rfl rfl (fun h6 => ?_) (fun h6 => ?_)
        · have h6' : ot.getD 0 0 = 3 := h6
          have h6l := h3 h6'
          repeat (first
            | refine ax_q (q_move rfl) ?_
            | refine ax_q (q_assign rfl) ?_
            | refine ax_q (q_loadi_rp rfl rfl rfl) ?_
            | refine ax_ops_nil ?_
            | refine ax_post_code ?_
            | refine ax_guard rfl rfl ?_
            | refine ax_q (q_eql rfl rfl) ?_
            | refine ax_q (q_pick rfl rfl) ?_
            | refine ax_q (q_index_ro' rfl rfl rfl rfl (by first | (simp only [Nat.zero_add, Int.toNat_natCast, Int.toNat_zero]; exact rfl) | exact rfl) (by omega)) ?_)
          refine ax_cond_dec rfl (fun h7 => ?_) (fun h7 => ?_)
          · have h7' : ot.getD 1 0 = 2 := h7
            rw [show clsG _ st ot = 6 by simp only [clsG, Bool.false_eq_true, false_and, if_false, true_and, if_true]; (repeat' split) <;> first | rfl | omega] at hcl
            subst hcl
            repeat (first
              | refine ax_q (q_assign rfl) ?_
              | refine ax_ops_nil ?_
              | refine ax_post_code ?_
              | refine ax_seq ?_
              | refine ax_region rfl ?_
              | refine ax_return ?_
              | refine ax_ret_code ?_
              | refine ax_ret_blk ?_)
            exact ax_ret hR rfl ⟨rfl, rfl⟩
          · have h7' : ¬ ot.getD 1 0 = 2 := h7
            repeat (first
              | refine ax_q (q_move rfl) ?_
              | refine ax_q (q_assign rfl) ?_
              | refine ax_ops_nil ?_
              | refine ax_post_code ?_
              | refine ax_seq ?_
              | refine ax_region rfl ?_
              | refine ax_cond_true rfl ?_
              | refine ax_return ?_
              | refine ax_ret_code ?_
              | refine ax_ret_blk ?_)
            rw [show clsG _ st ot = 5 by simp only [clsG, Bool.false_eq_true, false_and, if_false, true_and, if_true]; (repeat' split) <;> first | rfl | omega] at hcl
            subst hcl
            skip
            exact ax_ret hR rfl ⟨rfl, rfl⟩
        · have h6' : ¬ ot.getD 0 0 = 3 := h6
          repeat (first
            | refine ax_q (q_move rfl) ?_
            | refine ax_q (q_assign rfl) ?_
            | refine ax_ops_nil ?_
            | refine ax_post_code ?_
            | refine ax_seq ?_
            | refine ax_region rfl ?_
            | refine ax_skip_not rfl rfl rfl ?_
            | refine ax_cond_true rfl ?_
            | refine ax_cond_false rfl ?_
            | refine ax_return ?_
            | refine ax_ret_code ?_
            | refine ax_ret_blk ?_
            | refine ax_q (q_pick rfl rfl) ?_)
          rw [show clsG _ st ot = 5 by simp only [clsG, Bool.false_eq_true, false_and, if_false, true_and, if_true]; (repeat' split) <;> first | rfl | omega] at hcl
          subst hcl
          skip
          exact ax_ret hR rfl ⟨rfl, rfl⟩
  · rintro r H ⟨rfl, rfl⟩
    exact ⟨rfl, trivial, fun h o ho => by match h, ho with | 0, ho => simp at ho | _ + 1, ho => simp at ho⟩
end Go.Proofs.Ytmfhdfofmdggaaa
