import Derived.Test.YtgmleamhjnlknaaGreatDoorRows
import Derived.Test.YtgmleamhjnlknaaGreatDoorTie
import Derived.Test.YtgmleamhjnlknaaGreatDoorCards
import Derived.LaidMore
import Derived.Lay
import Derived.SevenTiedAt
import Derived.Stop.Joined
import Derived.Stop.ErrReads
import Derived.MakeChecks
import Derived.Test.YtgmleamhjnlknaaGreatDoorY4
set_option linter.unusedVariables false
set_option linter.unusedSimpArgs false
namespace Go.Proofs.YtgmleamhjnlknaaGreatDoor
open Go.Ax Go.Ax.Bg Go.Ax.Rt Go.RowKit Go.Ax.Dt
attribute [local irreducible] Ax Post QOp ACall PureOp
set_option maxRecDepth 100000
set_option maxHeartbeats 4000000

theorem reduce_ok (M : Tab) (n L w k : Nat) (hn : M.length = n) (hn40 : n ≤ 40) (hL : ∀ x ∈ M, x.length = L) (hL41 : L ≤ 41) (hw : w ≤ L) (hB : ∀ a j, a < n → j < L → (at2 M a j).natAbs ≤ 10 ^ k) (hk : (k + 2) * n ≤ 3600000) :
    ACall Tryz.prog 103 [.sl 0 0 n, .int .i64 (w : Nat)] (nestH ⟨147, outC L (List.range n)⟩ 106 zC M []) (fun h => h < n + 1)
      (fun r H' => ∃ ρ X, Perm n ρ X ∧ (redN M w).T = tabOf ρ X ∧ r = .ptr (n + 1) 0 0 ∧ H' = redH n L ρ X (redN M w) []) := by
  have c1 := whole_ok 1 (by decide)
  refine acall_of_ax (P := Tryz.prog) (fn := Tryz.f103) rfl rfl (by kernel_rfl) rfl (fun c hR hfix => ?_)
  repeat (first
    | refine ax_q (q_move rfl) ?_
    | refine ax_q (q_assign rfl) ?_
    | refine ax_ops_nil ?_
    | refine ax_post_code ?_
    | refine ax_seq ?_
    | refine ax_region rfl ?_)
  refine ax_callv rfl rfl rfl c1 ?_
  unfold intA
  repeat (first
    | refine ax_q (q_assign rfl) ?_
    | refine ax_ops_nil ?_
    | refine ax_post_code ?_
    | refine ax_seq ?_
    | refine ax_region rfl ?_
    | refine ax_q (q_build rfl rfl rfl rfl rfl rfl) ?_
    | refine ax_box rfl rfl ?_)
  have e0 : (nestH ⟨147, outC L (List.range n)⟩ 106 zC M []).length = n + 1 := by rw [nest_len, hn]; rfl
  refine ax_heap_eq (nestH ⟨147, outC L (List.range n)⟩ 106 zC M [some ⟨154, .box [.sl 0 0 n, .nil, .bool (decide ((1 : Int) < 0)), natA (1 : Int).natAbs, .bool false]⟩]) (by rw [nest_app]; rfl) ?_
  have e1 : (nestH ⟨147, outC L (List.range n)⟩ 106 zC M [some ⟨154, .box [.sl 0 0 n, .nil, .bool (decide ((1 : Int) < 0)), natA (1 : Int).natAbs, .bool false]⟩]).length = n + 2 := by rw [nest_len, hn]; rfl
  have f1 : (nestH ⟨147, outC L (List.range n)⟩ 106 zC M [some ⟨154, .box [.sl 0 0 n, .nil, .bool (decide ((1 : Int) < 0)), natA (1 : Int).natAbs, .bool false]⟩])[n + 1]? = some (some ⟨154, .box [.sl 0 0 n, .nil, .bool (decide ((1 : Int) < 0)), natA (1 : Int).natAbs, .bool false]⟩) := by
    have := nest_loc (O := ⟨147, outC L (List.range n)⟩) (t := 106) (f := zC) (X := M) (L := [some ⟨154, .box [.sl 0 0 n, .nil, .bool (decide ((1 : Int) < 0)), natA (1 : Int).natAbs, .bool false]⟩]) (j := 0)
    rw [hn] at this; exact this
  refine ax_nilcell (n + 1) ⟨3, pivC []⟩ (redB n 0 1 false) f1 rfl rfl rfl (fun i j hi hj => ?_) ?_
  · obtain rfl := Nat.lt_one_iff.1 hi
    match j, hj with
    | 0, _ => exact .inl rfl
    | 1, _ => exact .inr ⟨rfl, by rw [e1]; rfl⟩
    | 2, _ => exact .inl rfl
    | 3, _ => exact .inl rfl
    | 4, _ => exact .inl rfl
  refine ax_heap_eq (redH n L (List.range n) M (redN M 0) []) ?_ ?_
  · rw [nest_app]
    have := nest_set_loc (O := ⟨147, outC L (List.range n)⟩) (t := 106) (f := zC) (X := M) (L := [some ⟨154, .box [.sl 0 0 n, .nil, .bool (decide ((1 : Int) < 0)), natA (1 : Int).natAbs, .bool false]⟩] ++ [some ⟨3, pivC []⟩]) (j := 0) (some ⟨154, redB n 0 1 false⟩)
    rw [hn] at this
    exact this
  refine ax_slot 5 (.ptr (n + 1) 0 0) rfl (AEq.of_eq (by rw [e0])) ?_
  clear e0 e1 f1
  have hB1 : 1 ≤ 10 ^ k := Nat.pow_pos (by decide)
  have hp0 : Perm n (List.range n) M := by have := perm_range M; rw [hn] at this; exact this
  have ht0 : (redN M 0).T = tabOf (List.range n) M := by have := tab_range M; rw [hn] at this; exact this.symm
  repeat (refine ax_block ?_)
  refine ax_loop (ι := Nat × List Nat × Tab) (fun s => [(0, .sl 0 0 n), (1, .int .i64 (w : Nat)), (5, .ptr (n + 1) 0 0), (6, .int .i64 (s.1 : Nat))]) (fun s => redH n L s.2.1 s.2.2 (redN M s.1) [])
    (fun s => s.1 ≤ w ∧ Perm n s.2.1 s.2.2 ∧ (redN M s.1).T = tabOf s.2.1 s.2.2) (fun s => w - s.1) (0, List.range n, M) ⟨⟨rfl, rfl, rfl, rfl, trivial⟩, rfl, Nat.zero_le _, hp0, ht0⟩ ?_
  rintro ⟨cc, ρ, X⟩ ⟨hcw, hP, hT⟩
  simp only at *
  have inv := RInv.all (w := cc) hn hL hB1 (by omega) hB
  have hstop := redN_stop (M := M) (c := cc)
  have hcol : redN M (cc + 1) = redCol (redN M cc) cc := rfl
  have hlenT := inv.len
  have hpl := inv.pl
  have hpc := inv.pc
  have bnd := inv.bound hB
  generalize hr : redN M cc = r at *
  have f1 := red_box (L := L) (r := r) (T := []) hP
  repeat (first
    | refine ax_q (q_move rfl) ?_
    | refine ax_seq ?_
    | refine ax_region rfl ?_
    | refine ax_q (q_lss rfl rfl) ?_)
  refine ax_gsplit rfl rfl (fun h => ?_) (fun h => ?_)
  · repeat (first
      | refine ax_q (q_move rfl) ?_
      | refine ax_ops_nil ?_
      | refine ax_post_code ?_
      | refine ax_guard rfl rfl ?_
      | refine ax_q (q_lss rfl rfl) ?_
      | refine ax_q (q_pick rfl rfl) ?_
      | refine ax_q (q_len rfl rfl rfl) ?_
      | refine ax_q (q_nilcheck_ptr rfl) ?_
      | refine ax_q (q_field_ptr rfl rfl rfl rfl rfl rfl) ?_
      | refine ax_q (q_loadb_sym rfl rfl rfl (by assumption) (by rfl)) ?_)
    refine ax_cond_dec rfl (fun h2 => ?_) (fun h2 => ?_)
    · have h2' : r.piv.length < n := by omega
      have pv := pivI_spec r.T cc (n - r.piv.length) r.piv.length
      repeat (first
        | refine ax_q (q_move rfl) ?_
        | refine ax_q (q_assign rfl) ?_
        | refine ax_ops_nil ?_
        | refine ax_post_code ?_
        | refine ax_seq ?_
        | refine ax_region rfl ?_
        | refine ax_block ?_
        | refine ax_skip ?_
        | refine ax_q (q_len rfl rfl rfl) ?_
        | refine ax_q (q_nilcheck_ptr rfl) ?_
        | refine ax_q (q_field_ptr rfl rfl rfl rfl rfl rfl) ?_
        | refine ax_q (q_loadb_sym rfl rfl rfl (by assumption) (by rfl)) ?_)
      refine ax_loop (ι := Nat) (fun i => [(0, .sl 0 0 n), (1, .int .i64 (w : Nat)), (5, .ptr (n + 1) 0 0), (6, .int .i64 (cc : Nat)), (7, .int .i64 (r.piv.length : Nat)), (8, .int .i64 (i : Nat))]) (fun _ => redH n L ρ X r [])
        (fun i => r.piv.length ≤ i ∧ i ≤ n ∧ pivI r.T cc (n - i) i = pivI r.T cc (n - r.piv.length) r.piv.length) (fun i => n - i) r.piv.length ⟨⟨rfl, rfl, rfl, rfl, rfl, rfl, trivial⟩, rfl, Nat.le_refl _, by omega, rfl⟩ ?_
      rintro i ⟨hki, hin, hpi⟩
      repeat (first
        | refine ax_q (q_move rfl) ?_
        | refine ax_seq ?_
        | refine ax_region rfl ?_
        | refine ax_q (q_lss rfl rfl) ?_
        | refine ax_q (q_len rfl rfl rfl) ?_)
      refine ax_gsplit rfl rfl (fun h3 => ?_) (fun h3 => ?_)
      · have hi : i < n := by omega
        have g1 : i < (outC L ρ).len := by show i < ρ.length; rw [hP.len]; exact hi
        have g2 := red_row (L := L) (r := r) (T := []) hP hi
        have g3 : cc < (zC (X.getD (ρ.getD i 0) [])).len := by show cc < (X.getD (ρ.getD i 0) []).length; rw [tab_row hP hT inv.row hi]; omega
        have g4 := tab_el hP hT hi cc
        have cs := isign_ok (at2 r.T i cc)
        unfold intA at cs
        repeat (first
          | refine ax_q (q_move rfl) ?_
          | refine ax_guard rfl rfl ?_
          | refine ax_q (q_index_sl' rfl rfl rfl rfl rfl (by first | (simp only [Nat.zero_add, Int.toNat_natCast, Int.toNat_zero]; exact rfl) | exact rfl) (by omega)) ?_
          | refine ax_q (q_loadf_ptr rfl rfl rfl rfl rfl (by first | assumption | omega)) ?_
          | refine ax_q (q_index_sym rfl rfl rfl (by assumption) (by rfl) (by first | (simp only [Nat.zero_add, Int.toNat_natCast, Int.toNat_zero]; exact rfl) | exact rfl) (by omega)) ?_
          | refine ax_q (q_loadagg_sym rfl rfl rfl rfl (by assumption) (by rfl) (by rfl) (by first | exact Nat.zero_lt_one | assumption | omega)) ?_)
        refine ax_slot_ops 49 (intA (at2 r.T i cc)) rfl (AEq.of_eq (by rw [g4]; rfl)) ?_
        refine ax_callv rfl rfl rfl cs ?_
        repeat (first
          | refine ax_ops_nil ?_
          | refine ax_post_code ?_
          | refine ax_guard rfl rfl ?_
          | refine ax_q (q_eql rfl rfl) ?_
          | refine ax_q (q_pick rfl rfl) ?_)
        refine ax_cond_dec rfl (fun h4 => ?_) (fun h4 => ?_)
        · rw [sgn_zeroI] at h4
          repeat (first
            | refine ax_q (q_move rfl) ?_
            | refine ax_q (q_assign rfl) ?_
            | refine ax_ops_nil ?_
            | refine ax_post_code ?_
            | refine ax_region rfl ?_
            | refine ax_post_blk ?_
            | refine ax_block ?_
            | refine ax_skip ?_
            | refine ax_q (q_add rfl rfl (by omega)) ?_)
          exact ax_post_inv ⟨i + 1, ⟨by omega, by omega, by
            rw [← hpi, show n - i = (n - (i + 1)) + 1 by omega, pivI, if_pos h4]⟩, by omega, ⟨rfl, rfl, rfl, rfl, rfl, rfl, trivial⟩, rfl⟩
        · rw [sgn_zeroI] at h4
          have hpe : pivI r.T cc (r.T.length - r.piv.length) r.piv.length = i := by
            rw [hlenT, ← hpi, show n - i = (n - (i + 1)) + 1 by omega, pivI, if_neg h4]
          have hcol1 := hcol.trans (redCol_go (by rw [hlenT]; exact h2') hpe (by rw [hlenT]; exact hi))
          have inv1 := inv.swap h2' hki hi
          have hT1 : (redS r i).T = tabOf (swapL ρ i r.piv.length) X := by
            show swapR r.T i r.piv.length = _
            rw [hT, tab_swap (by rw [hP.len]; exact hi) (by rw [hP.len]; exact h2')]
          have hP1 := hP.swap hi h2'
          have hrow1 : ∀ x ∈ (redS r i).T, x.length = L := inv1.row
          have bnd1 : (∀ a j, a < n → j < L → (at2 (redS r i).T a j).natAbs ≤ fct n * (10 ^ k) ^ n) ∧ (redS r i).last.natAbs ≤ fct n * (10 ^ k) ^ n := inv1.bound hB
          have hl1 : (redS r i).last ≠ 0 := inv1.last
          have hK1 : (redS r i).piv.length < n := h2'
          repeat (first
            | refine ax_q (q_move rfl) ?_
            | refine ax_ops_nil ?_
            | refine ax_post_code ?_
            | refine ax_seq ?_
            | refine ax_region rfl ?_
            | refine ax_exit ?_
            | refine ax_exit_here ?_
            | refine ax_exit_code ?_
            | refine ax_exit_inv ?_
            | refine ax_q (q_eql rfl rfl) ?_
            | refine ax_q (q_len rfl rfl rfl) ?_)
          refine ax_cond_dec rfl (fun h5 => absurd h5 (by omega)) (fun _ => ?_)
          repeat (first
            | refine ax_post_code ?_
            | refine ax_skip ?_)
          refine ax_seq ?_
          apply ax_tail_code (H := redH n L (swapL ρ i r.piv.length) X (redS r i) []) [(0, .sl 0 0 n), (1, .int .i64 (w : Nat)), (5, .ptr (n + 1) 0 0), (6, .int .i64 (cc : Nat)), (7, .int .i64 ((redS r i).piv.length : Nat))]
          · intro fin
            repeat (first
              | refine ax_q (q_move rfl) ?_
              | refine ax_ops_nil ?_
              | refine ax_post_code ?_
              | refine ax_seq ?_
              | refine ax_region rfl ?_
              | refine ax_q (q_neq rfl rfl) ?_)
            have gi : i < (outC L ρ).len := by show i < ρ.length; rw [hP.len]; exact hi
            have gk : r.piv.length < (outC L ρ).len := by show r.piv.length < ρ.length; rw [hP.len]; exact h2'
            refine ax_cond_dec rfl (fun h6 => ?_) (fun h6 => ?_)
            · skip
              refine ax_seq ?_
              refine ax_regiond (by kernel_rfl) ?_
              refine ax_any_q 0 rfl (by kernel_rfl) (by kernel_rfl) (by kernel_rfl) rfl (q_move rfl) rfl ?_
              refine ax_any_q 1 rfl (by kernel_rfl) (by kernel_rfl) (by kernel_rfl) rfl (q_move rfl) rfl ?_
              refine ax_any_q 2 rfl (by kernel_rfl) (by kernel_rfl) (by kernel_rfl) rfl (q_move rfl) rfl ?_
              refine ax_any_q 3 rfl (by kernel_rfl) (by kernel_rfl) (by kernel_rfl) rfl (q_move rfl) rfl ?_
              refine ax_any_q 4 rfl (by kernel_rfl) (by kernel_rfl) (by kernel_rfl) rfl (q_move rfl) rfl ?_
              refine ax_any_q 5 rfl (by kernel_rfl) (by kernel_rfl) (by kernel_rfl) rfl (q_move rfl) rfl ?_
              refine ax_any_q 6 rfl (by kernel_rfl) (by kernel_rfl) (by kernel_rfl) rfl (q_index_sl' rfl rfl rfl rfl rfl (by first | (simp only [Nat.zero_add, Int.toNat_natCast, Int.toNat_zero]; exact rfl) | exact rfl) (by omega)) rfl ?_
              refine ax_any_q 8 rfl (by kernel_rfl) (by kernel_rfl) (by kernel_rfl) rfl (q_move rfl) rfl ?_
              refine ax_any_q 9 rfl (by kernel_rfl) (by kernel_rfl) (by kernel_rfl) rfl (q_move rfl) rfl ?_
              refine ax_any_q 10 rfl (by kernel_rfl) (by kernel_rfl) (by kernel_rfl) rfl (q_index_sl' rfl rfl rfl rfl rfl (by first | (simp only [Nat.zero_add, Int.toNat_natCast, Int.toNat_zero]; exact rfl) | exact rfl) (by omega)) rfl ?_
              refine ax_any_run (fuel := 4) [7, 11] [(62, .sl 0 0 n), (63, .int .i64 (i : Nat)), (64, .sl 0 0 n), (65, .int .i64 (r.piv.length : Nat)), (68, .ptr 0 r.piv.length 0), (72, .ptr 0 i 0), (0, .sl 0 0 n), (1, .int .i64 (w : Nat)), (5, .ptr (n + 1) 0 0), (6, .int .i64 (cc : Nat)), (7, .int .i64 (r.piv.length : Nat))] ⟨rfl, rfl, rfl, rfl, rfl, rfl, rfl, rfl, rfl, rfl, rfl, trivial⟩ (by kernel_rfl) (by decide) rfl rfl ?_
              refine px_q rfl rfl (q_loadf_ptr rfl rfl rfl rfl rfl (by first | assumption | omega)) ?_
              refine px_q rfl rfl (q_loadf_ptr rfl rfl rfl rfl rfl (by first | assumption | omega)) ?_
              refine px_done ?_
              refine ax_any_q 12 rfl (by kernel_rfl) (by kernel_rfl) (by kernel_rfl) rfl (q_index_sl' rfl rfl rfl rfl rfl (by first | (simp only [Nat.zero_add, Int.toNat_natCast, Int.toNat_zero]; exact rfl) | exact rfl) (by omega)) rfl ?_
              refine ax_any_step (is := [13]) (by kernel_rfl) (by simp) rfl ⟨fun o ho => ?_, trivial⟩
              all_goals (cases ho)
              refine ax_store rfl rfl rfl rfl rfl rfl rfl gi ?_
              refine ax_heap_ops (redH n L (ρ.set i (ρ.getD r.piv.length 0)) X r []) (nest_sub ⟨rfl, outC_set (by rw [hP.len]; exact hi) rfl⟩ (HSub.refl _)) ?_
              repeat (first
                | refine ax_ops_nil ?_
                | refine ax_post_any ?_)
              have gk' : r.piv.length < (outC L (ρ.set i (ρ.getD r.piv.length 0))).len := by show r.piv.length < (ρ.set _ _).length; rw [List.length_set]; exact gk
              refine ax_any_q 14 rfl (by kernel_rfl) (by kernel_rfl) (by kernel_rfl) rfl (q_index_sl' rfl rfl rfl rfl rfl (by first | (simp only [Nat.zero_add, Int.toNat_natCast, Int.toNat_zero]; exact rfl) | exact rfl) (by omega)) rfl ?_
              refine ax_any_step (is := [15]) (by kernel_rfl) (by simp) rfl ⟨fun o ho => ?_, trivial⟩
              all_goals (cases ho)
              refine ax_store rfl rfl rfl rfl rfl rfl rfl gk' ?_
              refine ax_heap_ops (redH n L (swapL ρ i r.piv.length) X r []) (nest_sub ⟨rfl, outC_set gk' rfl⟩ (HSub.refl _)) ?_
              repeat (first
                | refine ax_ops_nil ?_
                | refine ax_post_any ?_)
              refine ax_any_done (by kernel_rfl) ?_
              repeat (refine ax_post_code ?_)
              have f2 := red_box (L := L) (r := r) (T := []) hP1
              refine ax_region rfl ?_
              repeat (first
                | refine ax_q (q_move rfl) ?_
                | refine ax_q (q_not rfl) ?_
                | refine ax_q (q_nilcheck_ptr rfl) ?_
                | refine ax_q (q_field_ptr rfl rfl rfl rfl rfl rfl) ?_
                | refine ax_q (q_loadb_sym rfl rfl rfl (by assumption) (by rfl)) ?_)
              refine ax_store rfl rfl rfl rfl f2 rfl rfl Nat.zero_lt_one ?_
              have en : (redS r i).neg = !r.neg := by show (if i = r.piv.length then r.neg else !r.neg) = _; rw [if_neg (by omega)]
              refine ax_heap_eq_ops (redH n L (swapL ρ i r.piv.length) X (redS r i) []) (by have q := red_set_box (L := L) (r := r) (r' := redS r i) (T := []) hP1 rfl; rw [en] at q; exact q) ?_
              repeat (first
                | refine ax_ops_nil ?_
                | refine ax_post_code ?_)
              exact fin _ ⟨rfl, rfl, rfl, rfl, rfl, trivial⟩
            · have e6 : i = r.piv.length := by omega
              have en : (redS r i).neg = r.neg := by show (if i = r.piv.length then r.neg else !r.neg) = _; rw [if_pos e6]
              have e7 : redH n L ρ X r [] = redH n L (swapL ρ i r.piv.length) X (redS r i) [] := by
                rw [e6] at en ⊢
                rw [swapL_self (by rw [hP.len]; exact h2')]
                show nestH _ _ _ _ (_ :: _ :: _) = nestH _ _ _ _ (some ⟨_, redB n r.piv.length r.last (redS r r.piv.length).neg⟩ :: _ :: _)
                rw [en]
                rfl
              repeat (first
                | refine ax_post_code ?_
                | refine ax_skip ?_)
              refine ax_heap_eq _ e7 ?_
              exact fin _ ⟨rfl, rfl, rfl, rfl, rfl, trivial⟩
          · generalize redS r i = r1 at *
            generalize swapL ρ i r.piv.length = ρ1 at *
            clear inv inv1 hstop hT f1 g1 g2 g3 g4 cs h4 hpe hcol hpi hki
            have hsz : ∀ x : Int, x.natAbs ≤ fct n * (10 ^ k) ^ n → (natL x.natAbs).length ≤ 400001 := fun x hx => len_ten (Nat.le_trans hx (det_ten hn40)) (by omega)
            obtain ⟨bT, bL⟩ := bnd1
            have gK : r1.piv.length < (outC L ρ1).len := by show r1.piv.length < ρ1.length; rw [hP1.len]; exact hK1
            have q2 := red_row (L := L) (r := r1) (T := []) hP1 hK1
            have g3 : cc < (zC (X.getD (ρ1.getD r1.piv.length 0) [])).len := by show cc < (X.getD (ρ1.getD r1.piv.length 0) []).length; rw [tab_row hP1 hT1 hrow1 hK1]; omega
            have g4 := tab_el hP1 hT1 hK1 cc
            repeat (first
              | refine ax_q (q_move rfl) ?_
              | refine ax_seq ?_
              | refine ax_region rfl ?_
              | refine ax_q (q_index_sl' rfl rfl rfl rfl rfl (by first | (simp only [Nat.zero_add, Int.toNat_natCast, Int.toNat_zero]; exact rfl) | exact rfl) (by omega)) ?_
              | refine ax_q (q_loadf_ptr rfl rfl rfl rfl rfl (by first | assumption | omega)) ?_
              | refine ax_q (q_index_sym rfl rfl rfl (by assumption) (by rfl) (by first | (simp only [Nat.zero_add, Int.toNat_natCast, Int.toNat_zero]; exact rfl) | exact rfl) (by omega)) ?_
              | refine ax_q (q_loadagg_sym rfl rfl rfl rfl (by assumption) (by rfl) (by rfl) (by first | exact Nat.zero_lt_one | assumption | omega)) ?_
              | refine ax_alloc rfl rfl rfl ?_)
            refine ax_heap_eq_ops (redH n L ρ1 X r1 [some ⟨106, .box [.bool false, .nil]⟩]) (by rw [red_app]; rfl) ?_
            refine ax_slot_ops 9 (.ptr (n + 3) 0 0) rfl (AEq.of_eq (by rw [red_len hP1]; rfl)) ?_
            refine ax_slot_ops 90 (intA (at2 r1.T r1.piv.length cc)) rfl (AEq.of_eq (by rw [g4]; rfl)) ?_
            refine ax_storeagg (c' := .box (cellsI (at2 r1.T r1.piv.length cc))) rfl rfl rfl (red_loc hP1 0) rfl Nat.zero_lt_one rfl rfl (fun i' j' hi' hj' => ?_) ?_
            · rw [if_pos (Nat.lt_one_iff.1 hi')]; rfl
            refine ax_heap_eq_ops (redH n L ρ1 X r1 [some ⟨106, .box (cellsI (at2 r1.T r1.piv.length cc))⟩]) (red_set_loc hP1 0 _) ?_
            have hlen1 : r1.T.length = n := by rw [hT1, tab_len, hP1.len]
            repeat (first
              | refine ax_q (q_move rfl) ?_
              | refine ax_ops_nil ?_
              | refine ax_post_code ?_
              | refine ax_seq ?_
              | refine ax_region rfl ?_
              | refine ax_block ?_
              | refine ax_q (q_len rfl rfl rfl) ?_)
            refine ax_loop (ι := Nat × Tab) (fun s => [(0, .sl 0 0 n), (1, .int .i64 (w : Nat)), (5, .ptr (n + 1) 0 0), (6, .int .i64 (cc : Nat)), (7, .int .i64 (r1.piv.length : Nat)), (9, .ptr (n + 3) 0 0), (92, .int .i64 (n : Nat)), (93, .int .i64 (s.1 : Nat))]) (fun s => redH n L ρ1 s.2 r1 [some ⟨106, .box (cellsI (at2 r1.T r1.piv.length cc))⟩])
              (fun s => s.1 ≤ n ∧ Perm n ρ1 s.2 ∧ tabOf ρ1 s.2 = chg (elimG r1.T r1.piv.length cc r1.last) [] r1.T s.1) (fun s => n - s.1) (0, X) ⟨⟨rfl, rfl, rfl, rfl, rfl, rfl, rfl, rfl, trivial⟩, rfl, Nat.zero_le _, hP1, by rw [chg_zero]; exact hT1.symm⟩ ?_
            clear g3 g4 q2 hT1 hP1
            rintro ⟨a, X2⟩ ⟨ha, hP2, hT2⟩
            simp only at *
            repeat (first
              | refine ax_ops_nil ?_
              | refine ax_post_code ?_
              | refine ax_seq ?_
              | refine ax_region rfl ?_
              | refine ax_q (q_lss rfl rfl) ?_)
            refine ax_cond_dec rfl (fun h7 => ?_) (fun h7 => ?_)
            · have ha' : a < n := by omega
              repeat (first
                | refine ax_q (q_move rfl) ?_
                | refine ax_q (q_assign rfl) ?_
                | refine ax_ops_nil ?_
                | refine ax_post_code ?_
                | refine ax_seq ?_
                | refine ax_region rfl ?_
                | refine ax_block ?_
                | refine ax_skip ?_
                | refine ax_q (q_eql rfl rfl) ?_)
              refine ax_cond_dec rfl (fun h8 => ?_) (fun h8 => ?_)
              · have h8' : a = r1.piv.length := by omega
                repeat (first
                  | refine ax_q (q_move rfl) ?_
                  | refine ax_ops_nil ?_
                  | refine ax_post_code ?_
                  | refine ax_region rfl ?_
                  | refine ax_exit ?_
                  | refine ax_exit_here ?_
                  | refine ax_exit_code ?_
                  | refine ax_q (q_add rfl rfl (by omega)) ?_)
                exact ax_post_inv ⟨(a + 1, X2), ⟨by omega, hP2, by rw [hT2, chg_same _ _ _ (by omega) (by rw [h8']; unfold elimG; rw [if_pos rfl])]⟩, by omega, ⟨rfl, rfl, rfl, rfl, rfl, rfl, rfl, rfl, trivial⟩, rfl⟩
              · have hne : ¬ a = r1.piv.length := by omega
                have eA : X2.getD (ρ1.getD a 0) [] = r1.T.getD a [] := by rw [← tab_get ρ1 X2 (by rw [hP2.len]; exact ha'), hT2, chg_get _ _ _ (by omega), if_neg (Nat.lt_irrefl a)]
                have eK : X2.getD (ρ1.getD r1.piv.length 0) [] = r1.T.getD r1.piv.length [] := by
                  rw [← tab_get ρ1 X2 (by rw [hP2.len]; exact hK1), hT2, chg_get _ _ _ (by omega)]
                  split
                  · unfold elimG; rw [if_pos rfl]
                  · rfl
                have lA : (r1.T.getD a []).length = L := hrow1 _ (get_in [] (by omega))
                have lK : (r1.T.getD r1.piv.length []).length = L := hrow1 _ (get_in [] (by omega))
                have ga : a < (outC L ρ1).len := by show a < ρ1.length; rw [hP2.len]; exact ha'
                have q3 := red_row (L := L) (r := r1) (T := [some ⟨106, .box (cellsI (at2 r1.T r1.piv.length cc))⟩]) hP2 ha'
                rw [eA] at q3
                have g5 : cc < (zC (r1.T.getD a [])).len := by show cc < (r1.T.getD a []).length; omega
                repeat (first
                  | refine ax_q (q_move rfl) ?_
                  | refine ax_post_code ?_
                  | refine ax_seq ?_
                  | refine ax_region rfl ?_
                  | refine ax_skip ?_
                  | refine ax_q (q_index_sl' rfl rfl rfl rfl rfl (by first | (simp only [Nat.zero_add, Int.toNat_natCast, Int.toNat_zero]; exact rfl) | exact rfl) (by omega)) ?_
                  | refine ax_q (q_loadf_ptr rfl rfl rfl rfl rfl (by first | assumption | omega)) ?_
                  | refine ax_q (q_index_sym rfl rfl rfl (by assumption) (by rfl) (by first | (simp only [Nat.zero_add, Int.toNat_natCast, Int.toNat_zero]; exact rfl) | exact rfl) (by omega)) ?_
                  | refine ax_q (q_loadagg_sym rfl rfl rfl rfl (by assumption) (by rfl) (by rfl) (by first | exact Nat.zero_lt_one | assumption | omega)) ?_
                  | refine ax_alloc rfl rfl rfl ?_)
                refine ax_heap_eq_ops (redH n L ρ1 X2 r1 [some ⟨106, .box (cellsI (at2 r1.T r1.piv.length cc))⟩, some ⟨106, .box [.bool false, .nil]⟩]) (by rw [red_app]; rfl) ?_
                refine ax_slot_ops 11 (.ptr (n + 4) 0 0) rfl (AEq.of_eq (by rw [red_len hP2]; rfl)) ?_
                refine ax_slot_ops 105 (intA (at2 r1.T a cc)) rfl (AEq.of_eq rfl) ?_
                refine ax_storeagg (c' := .box (cellsI (at2 r1.T a cc))) rfl rfl rfl (red_loc hP2 1) rfl Nat.zero_lt_one rfl rfl (fun i' j' hi' hj' => ?_) ?_
                · rw [if_pos (Nat.lt_one_iff.1 hi')]; rfl
                refine ax_heap_eq_ops (redH n L ρ1 X2 r1 [some ⟨106, .box (cellsI (at2 r1.T r1.piv.length cc))⟩, some ⟨106, .box (cellsI (at2 r1.T a cc))⟩]) (red_set_loc hP2 1 _) ?_
                repeat (first
                  | refine ax_q (q_move rfl) ?_
                  | refine ax_ops_nil ?_
                  | refine ax_post_code ?_
                  | refine ax_seq ?_
                  | refine ax_region rfl ?_
                  | refine ax_block ?_
                  | refine ax_q (q_len rfl rfl rfl) ?_
                  | refine ax_q (q_index_sl' rfl rfl rfl rfl rfl (by first | (simp only [Nat.zero_add, Int.toNat_natCast, Int.toNat_zero]; exact rfl) | exact rfl) (by omega)) ?_
                  | refine ax_q (q_loadf_ptr rfl rfl rfl rfl rfl (by first | assumption | omega)) ?_)
                refine ax_loop (ι := Nat) (fun j => [(0, .sl 0 0 n), (1, .int .i64 (w : Nat)), (5, .ptr (n + 1) 0 0), (6, .int .i64 (cc : Nat)), (7, .int .i64 (r1.piv.length : Nat)), (9, .ptr (n + 3) 0 0), (10, .int .i64 (a : Nat)), (11, .ptr (n + 4) 0 0), (92, .int .i64 (n : Nat)), (93, .int .i64 (a : Nat)), (110, .int .i64 (L : Nat)), (111, .int .i64 (j : Nat))])
                  (fun j => redH n L ρ1 (X2.set (ρ1.getD a 0) (chg (rowG (r1.T.getD a []) (r1.T.getD r1.piv.length []) (at2 r1.T r1.piv.length cc) (at2 r1.T a cc) r1.last) 0 (r1.T.getD a []) j)) r1 [some ⟨106, .box (cellsI (at2 r1.T r1.piv.length cc))⟩, some ⟨106, .box (cellsI (at2 r1.T a cc))⟩]) (fun j => j ≤ L) (fun j => L - j) 0 ⟨⟨rfl, rfl, rfl, rfl, rfl, rfl, rfl, rfl, rfl, rfl, rfl, rfl, trivial⟩, by rw [chg_zero, ← eA, set_self X2 [] _ (by rw [hP2.lenX]; exact hP2.at ha')], Nat.zero_le _⟩ ?_
                intro j hj
                repeat (first
                  | refine ax_ops_nil ?_
                  | refine ax_post_code ?_
                  | refine ax_seq ?_
                  | refine ax_region rfl ?_
                  | refine ax_q (q_lss rfl rfl) ?_)
                refine ax_cond_dec rfl (fun h9 => ?_) (fun h9 => ?_)
                · have hj' : j < L := by omega
                  have hgj := chg_get (rowG (r1.T.getD a []) (r1.T.getD r1.piv.length []) (at2 r1.T r1.piv.length cc) (at2 r1.T a cc) r1.last) 0 (r1.T.getD a []) (k := j) (i := j) (by omega)
                  rw [if_neg (Nat.lt_irrefl j)] at hgj
                  have hsj := chg_set (rowG (r1.T.getD a []) (r1.T.getD r1.piv.length []) (at2 r1.T r1.piv.length cc) (at2 r1.T a cc) r1.last) 0 (r1.T.getD a []) (k := j) (by omega)
                  have hlj := chg_len (rowG (r1.T.getD a []) (r1.T.getD r1.piv.length []) (at2 r1.T r1.piv.length cc) (at2 r1.T a cc) r1.last) 0 (r1.T.getD a []) j
                  have hgx : rowG (r1.T.getD a []) (r1.T.getD r1.piv.length []) (at2 r1.T r1.piv.length cc) (at2 r1.T a cc) r1.last j = exactZ ((r1.T.getD a []).getD j 0 * at2 r1.T r1.piv.length cc - at2 r1.T a cc * (r1.T.getD r1.piv.length []).getD j 0) r1.last := rfl
                  rw [← hgj] at hgx
                  rw [hgx] at hsj
                  have bx : (natL ((chg (rowG (r1.T.getD a []) (r1.T.getD r1.piv.length []) (at2 r1.T r1.piv.length cc) (at2 r1.T a cc) r1.last) 0 (r1.T.getD a []) j).getD j 0).natAbs).length ≤ 400001 := by rw [hgj]; exact hsz _ (bT a j ha' hj')
                  have ex : ((chg (rowG (r1.T.getD a []) (r1.T.getD r1.piv.length []) (at2 r1.T r1.piv.length cc) (at2 r1.T a cc) r1.last) 0 (r1.T.getD a []) j).getD j 0).natAbs ≤ 10 ^ ((k + 2) * n) := by rw [hgj]; exact Nat.le_trans (bT a j ha' hj') (det_ten hn40)
                  clear hgj hgx
                  generalize (chg (rowG (r1.T.getD a []) (r1.T.getD r1.piv.length []) (at2 r1.T r1.piv.length cc) (at2 r1.T a cc) r1.last) 0 (r1.T.getD a []) j) = row at *
                  have hP3 := hP2.setX (ρ1.getD a 0) row
                  have hne2 : ¬ ρ1.getD r1.piv.length 0 = ρ1.getD a 0 := fun e => hne (hP2.inj ha' hK1 e.symm)
                  have rA : (X2.set (ρ1.getD a 0) row).getD (ρ1.getD a 0) [] = row := by rw [getD_set, if_pos ⟨rfl, by rw [hP2.lenX]; exact hP2.at ha'⟩]
                  have rK : (X2.set (ρ1.getD a 0) row).getD (ρ1.getD r1.piv.length 0) [] = r1.T.getD r1.piv.length [] := by rw [getD_set, if_neg (fun q => hne2 q.1), eK]
                  have q5 := red_row (L := L) (r := r1) (T := [some ⟨106, .box (cellsI (at2 r1.T r1.piv.length cc))⟩, some ⟨106, .box (cellsI (at2 r1.T a cc))⟩]) hP3 ha'
                  rw [rA] at q5
                  have q6 := red_row (L := L) (r := r1) (T := [some ⟨106, .box (cellsI (at2 r1.T r1.piv.length cc))⟩, some ⟨106, .box (cellsI (at2 r1.T a cc))⟩]) hP3 hK1
                  rw [rK] at q6
                  have q7 := red_box (L := L) (r := r1) (T := [some ⟨106, .box (cellsI (at2 r1.T r1.piv.length cc))⟩, some ⟨106, .box (cellsI (at2 r1.T a cc))⟩]) hP3
                  have q8 := red_loc (L := L) (r := r1) (T := [some ⟨106, .box (cellsI (at2 r1.T r1.piv.length cc))⟩, some ⟨106, .box (cellsI (at2 r1.T a cc))⟩]) hP3 0
                  have q9 := red_loc (L := L) (r := r1) (T := [some ⟨106, .box (cellsI (at2 r1.T r1.piv.length cc))⟩, some ⟨106, .box (cellsI (at2 r1.T a cc))⟩]) hP3 1
                  have g6 : j < (zC row).len := by show j < row.length; omega
                  have g7 : j < (zC (r1.T.getD r1.piv.length [])).len := by show j < (r1.T.getD r1.piv.length []).length; omega
                  have bp : (natL (at2 r1.T r1.piv.length cc).natAbs).length ≤ 400001 := hsz _ (bT _ _ hK1 (by omega))
                  have ep : (at2 r1.T r1.piv.length cc).natAbs ≤ 10 ^ ((k + 2) * n) := Nat.le_trans (bT _ _ hK1 (by omega)) (det_ten hn40)
                  have bf : (natL (at2 r1.T a cc).natAbs).length ≤ 400001 := hsz _ (bT _ _ ha' (by omega))
                  have ef : (at2 r1.T a cc).natAbs ≤ 10 ^ ((k + 2) * n) := Nat.le_trans (bT _ _ ha' (by omega)) (det_ten hn40)
                  have bK : (natL ((r1.T.getD r1.piv.length []).getD j 0).natAbs).length ≤ 400001 := hsz _ (bT r1.piv.length j hK1 hj')
                  have eKj : ((r1.T.getD r1.piv.length []).getD j 0).natAbs ≤ 10 ^ ((k + 2) * n) := Nat.le_trans (bT r1.piv.length j hK1 hj') (det_ten hn40)
                  have bl := hsz _ bL
                  obtain ⟨s1, s2, s3⟩ := elim_sizes ex ep ef eKj hk
                  have m1 := imul_ok (row.getD j 0) (at2 r1.T r1.piv.length cc) (by omega) (by omega)
                  have m2 := imul_ok (at2 r1.T a cc) ((r1.T.getD r1.piv.length []).getD j 0) (by omega) (by omega)
                  have m3 := isub_ok (row.getD j 0 * at2 r1.T r1.piv.length cc) (at2 r1.T a cc * (r1.T.getD r1.piv.length []).getD j 0) s1 s2
                  have m4 := iexact_ok (row.getD j 0 * at2 r1.T r1.piv.length cc - at2 r1.T a cc * (r1.T.getD r1.piv.length []).getD j 0) r1.last hl1 s3 (by omega)
                  repeat (first
                    | refine ax_q (q_move rfl) ?_
                    | refine ax_q (q_assign rfl) ?_
                    | refine ax_ops_nil ?_
                    | refine ax_post_code ?_
                    | refine ax_seq ?_
                    | refine ax_region rfl ?_
                    | refine ax_block ?_
                    | refine ax_skip ?_)
                  refine ax_regiond (by kernel_rfl) ?_
                  refine ax_any_run (fuel := 1) [0, 1, 2, 3, 4, 5, 6, 7, 8, 9, 10, 11, 12, 13, 14, 15, 16, 17, 18, 19, 20, 21, 22, 23, 24, 25, 26, 27, 28, 29] [(0, .sl 0 0 n), (1, .int .i64 (w : Nat)), (5, .ptr (n + 1) 0 0), (6, .int .i64 (cc : Nat)), (7, .int .i64 (r1.piv.length : Nat)), (9, .ptr (n + 3) 0 0), (10, .int .i64 (a : Nat)), (11, .ptr (n + 4) 0 0), (12, .int .i64 (j : Nat)), (92, .int .i64 (n : Nat)), (93, .int .i64 (a : Nat)), (110, .int .i64 (L : Nat)), (111, .int .i64 (j : Nat))] ⟨rfl, rfl, rfl, rfl, rfl, rfl, rfl, rfl, rfl, rfl, rfl, rfl, rfl, trivial⟩ (by kernel_rfl) (by decide) rfl rfl ?_
                  refine px_q rfl rfl (q_move rfl) ?_
                  refine px_q rfl rfl (q_move rfl) ?_
                  refine px_q rfl rfl (q_index_sl' rfl rfl rfl rfl rfl (by first | (simp only [Nat.zero_add, Int.toNat_natCast, Int.toNat_zero]; exact rfl) | exact rfl) (by omega)) ?_
                  refine px_q rfl rfl (q_loadf_ptr rfl rfl rfl rfl rfl (by first | assumption | omega)) ?_
                  refine px_q rfl rfl (q_move rfl) ?_
                  refine px_q rfl rfl (q_move rfl) ?_
                  refine px_q rfl rfl (q_move rfl) ?_
                  refine px_q rfl rfl (q_index_sl' rfl rfl rfl rfl rfl (by first | (simp only [Nat.zero_add, Int.toNat_natCast, Int.toNat_zero]; exact rfl) | exact rfl) (by omega)) ?_
                  refine px_q rfl rfl (q_loadf_ptr rfl rfl rfl rfl rfl (by first | assumption | omega)) ?_
                  refine px_q rfl rfl (q_move rfl) ?_
                  refine px_q rfl rfl (q_index_sym rfl rfl rfl (by assumption) (by rfl) (by first | (simp only [Nat.zero_add, Int.toNat_natCast, Int.toNat_zero]; exact rfl) | exact rfl) (by omega)) ?_
                  refine px_q rfl rfl (q_loadagg_sym rfl rfl rfl rfl (by assumption) (by rfl) (by rfl) (by first | exact Nat.zero_lt_one | assumption | omega)) ?_
                  refine px_q rfl rfl (q_loadagg_sym rfl rfl rfl rfl (by assumption) (by rfl) (by rfl) (by first | exact Nat.zero_lt_one | assumption | omega)) ?_
                  refine px_v rfl rfl rfl rfl rfl m1 ?_
                  refine px_q rfl rfl (q_loadagg_sym rfl rfl rfl rfl (by assumption) (by rfl) (by rfl) (by first | exact Nat.zero_lt_one | assumption | omega)) ?_
                  refine px_q rfl rfl (q_move rfl) ?_
                  refine px_q rfl rfl (q_move rfl) ?_
                  refine px_q rfl rfl (q_index_sl' rfl rfl rfl rfl rfl (by first | (simp only [Nat.zero_add, Int.toNat_natCast, Int.toNat_zero]; exact rfl) | exact rfl) (by omega)) ?_
                  refine px_q rfl rfl (q_loadf_ptr rfl rfl rfl rfl rfl (by first | assumption | omega)) ?_
                  refine px_q rfl rfl (q_move rfl) ?_
                  refine px_q rfl rfl (q_index_sym rfl rfl rfl (by assumption) (by rfl) (by first | (simp only [Nat.zero_add, Int.toNat_natCast, Int.toNat_zero]; exact rfl) | exact rfl) (by omega)) ?_
                  refine px_q rfl rfl (q_loadagg_sym rfl rfl rfl rfl (by assumption) (by rfl) (by rfl) (by first | exact Nat.zero_lt_one | assumption | omega)) ?_
                  refine px_v rfl rfl rfl rfl rfl m2 ?_
                  refine px_v rfl rfl rfl rfl rfl m3 ?_
                  refine px_q rfl rfl (q_move rfl) ?_
                  refine px_q rfl rfl (q_nilcheck_ptr rfl) ?_
                  refine px_q rfl rfl (q_field_ptr rfl rfl rfl rfl rfl rfl) ?_
                  refine px_q rfl rfl (q_loadpart_sym rfl rfl rfl rfl (by assumption) (by rfl) (by rfl) (by first | exact Nat.zero_lt_one | assumption | omega)) ?_
                  refine px_v rfl rfl rfl rfl rfl m4 ?_
                  refine px_q rfl rfl (q_index_sym rfl rfl rfl (by assumption) (by rfl) (by first | (simp only [Nat.zero_add, Int.toNat_natCast, Int.toNat_zero]; exact rfl) | exact rfl) (by omega)) ?_
                  refine px_done ?_
                  generalize exactZ (row.getD j 0 * at2 r1.T r1.piv.length cc - at2 r1.T a cc * (r1.T.getD r1.piv.length []).getD j 0) r1.last = v at *
                  refine ax_any_step (is := [30]) (by kernel_rfl) (by simp) rfl ⟨fun o ho => ?_, trivial⟩
                  all_goals (cases ho)
                  refine ax_storeagg (c' := zC (row.set j v)) rfl rfl rfl q5 rfl g6 (List.length_set ..) rfl (zC_store row j v) ?_
                  refine ax_heap_eq_ops (redH n L ρ1 (X2.set (ρ1.getD a 0) (row.set j v)) r1 [some ⟨106, .box (cellsI (at2 r1.T r1.piv.length cc))⟩, some ⟨106, .box (cellsI (at2 r1.T a cc))⟩]) ((red_set_row hP3 (hP2.at ha') _).trans (by rw [List.set_set])) ?_
                  repeat (first
                    | refine ax_ops_nil ?_
                    | refine ax_post_any ?_)
                  refine ax_any_done (by kernel_rfl) ?_
                  repeat (first
                    | refine ax_q (q_move rfl) ?_
                    | refine ax_ops_nil ?_
                    | refine ax_post_code ?_
                    | refine ax_region rfl ?_
                    | refine ax_post_blk ?_
                    | refine ax_q (q_add rfl rfl (by omega)) ?_)
                  exact ax_post_inv ⟨j + 1, by omega, by omega, ⟨rfl, rfl, rfl, rfl, rfl, rfl, rfl, rfl, rfl, rfl, rfl, rfl, trivial⟩, by rw [hsj]⟩
                · have hje : L = j := by omega
                  subst hje
                  have hall := row_chg (r1.T.getD a []) (r1.T.getD r1.piv.length []) (at2 r1.T r1.piv.length cc) (at2 r1.T a cc) r1.last
                  rw [lA] at hall
                  have hel : elimG r1.T r1.piv.length cc r1.last a = elimRow (r1.T.getD a []) (r1.T.getD r1.piv.length []) (at2 r1.T r1.piv.length cc) (at2 r1.T a cc) r1.last := by unfold elimG; rw [if_neg hne]
                  rw [← hall, ← hel]
                  have hP3 := hP2.setX (ρ1.getD a 0) (elimG r1.T r1.piv.length cc r1.last a)
                  have hT3 : tabOf ρ1 (X2.set (ρ1.getD a 0) (elimG r1.T r1.piv.length cc r1.last a)) = chg (elimG r1.T r1.piv.length cc r1.last) [] r1.T (a + 1) := by
                    rw [← tab_set hP2 ha', hT2, chg_set _ _ _ (by omega)]
                  repeat (first
                    | refine ax_post_blk ?_
                    | refine ax_exit ?_
                    | refine ax_exit_here ?_
                    | refine ax_exit_code ?_
                    | refine ax_exit_inv ?_)
                  refine ax_post_code ?_
                  refine ax_cutP (redH n L ρ1 (X2.set (ρ1.getD a 0) (elimG r1.T r1.piv.length cc r1.last a)) r1 [some ⟨106, .box (cellsI (at2 r1.T r1.piv.length cc))⟩]) [some ⟨106, .box (cellsI (at2 r1.T a cc))⟩] [(0, .sl 0 0 n), (1, .int .i64 (w : Nat)), (5, .ptr (n + 1) 0 0), (6, .int .i64 (cc : Nat)), (7, .int .i64 (r1.piv.length : Nat)), (9, .ptr (n + 3) 0 0), (92, .int .i64 (n : Nat)), (93, .int .i64 (a : Nat))] (by rw [red_app]; rfl) ⟨rfl, rfl, rfl, rfl, rfl, rfl, rfl, rfl, trivial⟩ (fun h hh => by rw [hfix] at hh; rw [red_len hP3]; exact Nat.lt_of_lt_of_le hh (by omega))
                    (by rw [red_len hP3]; exact red_below hP3 _ (by omega) (fun o ho => by cases List.mem_singleton.1 ho; exact cellsI_below _ _)) (by rw [red_len hP3]; simp [belowF, belowA]) ?_
                  repeat (first
                    | refine ax_q (q_move rfl) ?_
                    | refine ax_ops_nil ?_
                    | refine ax_region rfl ?_
                    | refine ax_q (q_add rfl rfl (by omega)) ?_)
                  exact ax_post_inv ⟨(a + 1, X2.set (ρ1.getD a 0) (elimG r1.T r1.piv.length cc r1.last a)), ⟨by omega, hP3, hT3⟩, by omega, ⟨rfl, rfl, rfl, rfl, rfl, rfl, rfl, rfl, trivial⟩, rfl⟩
            · have hae : n = a := by omega
              subst hae
              have q7 := red_box (L := L) (r := r1) (T := [some ⟨106, .box (cellsI (at2 r1.T r1.piv.length cc))⟩]) hP2
              have q8 := red_loc (L := L) (r := r1) (T := [some ⟨106, .box (cellsI (at2 r1.T r1.piv.length cc))⟩]) hP2 0
              repeat (first
                | refine ax_q (q_move rfl) ?_
                | refine ax_post_code ?_
                | refine ax_seq ?_
                | refine ax_region rfl ?_
                | refine ax_exit ?_
                | refine ax_exit_here ?_
                | refine ax_exit_code ?_
                | refine ax_exit_inv ?_
                | refine ax_q (q_nilcheck_ptr rfl) ?_
                | refine ax_q (q_field_ptr rfl rfl rfl rfl rfl rfl) ?_
                | refine ax_q (q_loadagg_sym rfl rfl rfl rfl (by assumption) (by rfl) (by rfl) (by first | exact Nat.zero_lt_one | assumption | omega)) ?_)
              refine ax_slot_ops 147 (intA (at2 r1.T r1.piv.length cc)) rfl (AEq.of_eq rfl) ?_
              refine ax_storepart (s := 2) (c' := redB n r1.piv.length (at2 r1.T r1.piv.length cc) r1.neg) rfl rfl rfl q7 rfl (show 2 + 2 ≤ 5 from by decide) Nat.zero_lt_one rfl rfl (redB_last _ _ _ _ _) ?_
              refine ax_heap_eq_ops (redH n L ρ1 X2 ⟨r1.T, r1.piv, at2 r1.T r1.piv.length cc, r1.neg⟩ [some ⟨106, .box (cellsI (at2 r1.T r1.piv.length cc))⟩]) (red_set_box (r' := ⟨r1.T, r1.piv, at2 r1.T r1.piv.length cc, r1.neg⟩) hP2 rfl) ?_
              have q9 := red_box (L := L) (r := ⟨r1.T, r1.piv, at2 r1.T r1.piv.length cc, r1.neg⟩) (T := [some ⟨106, .box (cellsI (at2 r1.T r1.piv.length cc))⟩]) hP2
              have q10 := red_piv (L := L) (r := ⟨r1.T, r1.piv, at2 r1.T r1.piv.length cc, r1.neg⟩) (T := [some ⟨106, .box (cellsI (at2 r1.T r1.piv.length cc))⟩]) hP2
              have hml : (pivC r1.piv).len = r1.piv.length := by show (r1.piv.map _).length = _; rw [List.length_map]
              have hml2 : (r1.piv ++ [cc]).length = r1.piv.length + 1 := by rw [List.length_append]; rfl
              repeat (first
                | refine ax_q (q_move rfl) ?_
                | refine ax_ops_nil ?_
                | refine ax_post_code ?_
                | refine ax_region rfl ?_
                | refine ax_q (q_nilcheck_ptr rfl) ?_
                | refine ax_q (q_field_ptr rfl rfl rfl rfl rfl rfl) ?_
                | refine ax_q (q_loadb_sym rfl rfl rfl (by assumption) (by rfl)) ?_
                | refine ax_buildSliceRo rfl rfl rfl rfl rfl rfl rfl rfl rfl rfl rfl ?_)
              refine ax_append rfl rfl rfl rfl rfl rfl rfl q10 rfl hml rfl rfl (by show 0 + 1 ≤ 1; omega) rfl (by show (r1.piv.length + 1) * 8 ≤ 140737488355328 ∧ r1.piv.length + 1 ≤ 9223372036854775807; omega) (fun _ _ _ _ => rfl) (by rw [hfix]; show ¬ (n + 2 < n + 1); omega) ?_
              refine ax_know_ops ((157, .sl (n + 2) 0 (r1.piv.length + 1)) :: (150, .ptr (n + 1) 0 0) :: [(0, .sl 0 0 n), (1, .int .i64 (w : Nat)), (5, .ptr (n + 1) 0 0), (6, .int .i64 (cc : Nat))]) ⟨rfl, knows_forget (h := n + 2) (L := (150, .ptr (n + 1) 0 0) :: [(0, .sl 0 0 n), (1, .int .i64 (w : Nat)), (5, .ptr (n + 1) 0 0), (6, .int .i64 (cc : Nat))]) ⟨rfl, rfl, rfl, rfl, rfl, trivial⟩ (by
                intro p hp
                simp only [List.mem_cons, List.mem_nil_iff, or_false] at hp
                rcases hp with rfl | rfl | rfl | rfl | rfl <;> simp [AV.forget, beq_ne])⟩ ?_
              refine ax_heap_ops (redAny n L ρ1 X2 ⟨r1.T, r1.piv, at2 r1.T r1.piv.length cc, r1.neg⟩ (r1.piv ++ [cc]) [some ⟨106, .box (cellsI (at2 r1.T r1.piv.length cc))⟩]) (red_append hP2 rfl (pivC_snoc r1.piv cc)) ?_
              have q11 := red_any (L := L) (r := ⟨r1.T, r1.piv, at2 r1.T r1.piv.length cc, r1.neg⟩) (l := r1.piv ++ [cc]) (T := [some ⟨106, .box (cellsI (at2 r1.T r1.piv.length cc))⟩]) hP2
              refine ax_slot_ops 157 (.sl (n + 2) 0 (r1.piv ++ [cc]).length) rfl (AEq.of_eq (by rw [hml2])) ?_
              repeat (first
                | refine ax_q (q_nilcheck_ptr rfl) ?_
                | refine ax_q (q_field_ptr rfl rfl rfl rfl rfl rfl) ?_)
              refine ax_store rfl rfl rfl rfl q11 rfl rfl Nat.zero_lt_one ?_
              refine ax_heap_eq_ops (redH n L ρ1 X2 (redE r1 cc) [some ⟨106, .box (cellsI (at2 r1.T r1.piv.length cc))⟩]) (red_set_any (r' := redE r1 cc) hP2) ?_
              repeat (first
                | refine ax_ops_nil ?_
                | refine ax_post_blk ?_)
              refine ax_post_code ?_
              refine ax_cutP (redH n L ρ1 X2 (redE r1 cc) []) [some ⟨106, .box (cellsI (at2 r1.T r1.piv.length cc))⟩] [(0, .sl 0 0 n), (1, .int .i64 (w : Nat)), (5, .ptr (n + 1) 0 0), (6, .int .i64 (cc : Nat))] (by rw [red_app]; rfl) ⟨rfl, rfl, rfl, rfl, trivial⟩ (fun h hh => by rw [hfix] at hh; rw [red_len hP2]; exact Nat.lt_of_lt_of_le hh (by omega))
                (by rw [red_len hP2]; exact red_below hP2 _ (by omega) (fun o ho => by cases ho)) (by rw [red_len hP2]; simp [belowF, belowA]) ?_
              repeat (first
                | refine ax_q (q_move rfl) ?_
                | refine ax_q (q_assign rfl) ?_
                | refine ax_ops_nil ?_
                | refine ax_region rfl ?_
                | refine ax_q (q_add rfl rfl (by omega)) ?_)
              exact ax_post_inv ⟨(cc + 1, ρ1, X2), ⟨by omega, hP2, by rw [hcol1]; show elimR r1.T r1.piv.length cc r1.last = _; rw [elim_chg, hlen1, hT2]⟩, by omega, ⟨rfl, rfl, rfl, rfl, trivial⟩, by rw [hcol1]⟩
      · have hi : i = n := by omega
        subst hi
        have hpe : pivI r.T cc (r.T.length - r.piv.length) r.piv.length = r.T.length := by
          rw [hlenT, ← hpi, Nat.sub_self]; rfl
        have hcol1 := hcol.trans (redCol_no (by rw [hlenT]; exact h2') hpe)
        repeat (first
          | refine ax_q (q_move rfl) ?_
          | refine ax_ops_nil ?_
          | refine ax_post_code ?_
          | refine ax_seq ?_
          | refine ax_region rfl ?_
          | refine ax_skip_not rfl rfl rfl ?_
          | refine ax_cond_false rfl ?_
          | refine ax_exit ?_
          | refine ax_exit_here ?_
          | refine ax_exit_code ?_
          | refine ax_exit_inv ?_
          | refine ax_q (q_eql rfl rfl) ?_
          | refine ax_q (q_pick rfl rfl) ?_
          | refine ax_q (q_len rfl rfl rfl) ?_)
        refine ax_cond_dec rfl (fun h5 => ?_) (fun h5 => absurd rfl h5)
        repeat (first
          | refine ax_q (q_move rfl) ?_
          | refine ax_q (q_assign rfl) ?_
          | refine ax_ops_nil ?_
          | refine ax_post_code ?_
          | refine ax_region rfl ?_
          | refine ax_exit ?_
          | refine ax_exit_here ?_
          | refine ax_exit_code ?_
          | refine ax_q (q_add rfl rfl (by omega)) ?_)
        exact ax_post_inv ⟨(cc + 1, ρ, X), ⟨by omega, hP, by rw [hcol1]; exact hT⟩, by omega, ⟨rfl, rfl, rfl, rfl, trivial⟩, by rw [hcol1]⟩
    · repeat (first
        | refine ax_q (q_move rfl) ?_
        | refine ax_q (q_assign rfl) ?_
        | refine ax_ops_nil ?_
        | refine ax_post_code ?_
        | refine ax_seq ?_
        | refine ax_region rfl ?_
        | refine ax_exit ?_
        | refine ax_exit_here ?_
        | refine ax_exit_code ?_
        | refine ax_exit_inv ?_
        | refine ax_return ?_)
      refine ax_ret hR rfl ⟨ρ, X, hP, ?_⟩
      have e : redN M w = r := by
        have := hstop (by rw [hlenT]; omega) (w - cc)
        rw [show cc + (w - cc) = w by omega] at this; exact this
      rw [e]
      exact ⟨hT, rfl, rfl⟩
  · repeat (first
      | refine ax_q (q_move rfl) ?_
      | refine ax_q (q_assign rfl) ?_
      | refine ax_ops_nil ?_
      | refine ax_post_code ?_
      | refine ax_seq ?_
      | refine ax_region rfl ?_
      | refine ax_skip_not rfl rfl rfl ?_
      | refine ax_cond_false rfl ?_
      | refine ax_exit ?_
      | refine ax_exit_here ?_
      | refine ax_exit_code ?_
      | refine ax_exit_inv ?_
      | refine ax_return ?_
      | refine ax_q (q_pick rfl rfl) ?_)
    have e : cc = w := by omega
    subst e
    refine ax_ret hR rfl ⟨ρ, X, hP, ?_⟩
    rw [hr]
    exact ⟨hT, rfl, rfl⟩
end Go.Proofs.YtgmleamhjnlknaaGreatDoor

namespace Go.Proofs.YtgmleamhjnlknaaGreatDoor
open Go.Ax Go.Ax.Bg Go.Ax.Rt Go.RowKit Go.Ax.Dt
section
variable {ind : Bool} {P : Program} {fn : Func} {c : Ctx} {fr : Fr} {H : AHeap} {k : List It}
variable {d : Option Nat} {ty : TypeId} {pos : String} {after : Array Edge} {g : Option (Nat × Bool)}
/-- The empty end of an own row. -/
theorem q_slice_sle {x : Operand} {t e : TypeId} {lo hi : Option Operand} {lo' hi' : Option AV} {h' i n : Nat} {ob : AObj} {l h : Int} (cl : Cells) (ht : P.underlying t = some (.slice e)) (hx : ev fr x = some (.sl h' i n)) (hh : H[h']? = some (some ob)) (hs : (P.info? e).map (·.size) = some ob.c.sz) (h1 : evo fr lo = some lo') (h2 : evo fr hi = some hi') (h3 : sbnd 0 lo' = some l) (h4 : sbnd n hi' = some h) (hb : 0 ≤ l ∧ l = h ∧ h ≤ n) :
    QOp ind P fn c fr H ⟨d, .slice t x lo hi none, ty, pos, after, g⟩ (.ro cl 0 0) := by
  intro w a σ S hr
  have hxv := hr.evAt hx
  generalize hz : a.eval x = z at hxv
  have hsub : h.toNat - l.toNat = 0 := by omega
  cases hxv with
  | sl0 _ _ hσ =>
    have hbs := run_sliceBounds (P := P) (w := w) (isS := true) (cap := 0) hr h1 h2 h3 h4 ⟨by omega, by omega, by omega⟩
    have hl0 : l.toNat = 0 := by omega
    have hh0 : h.toNat = 0 := by omega
    refine ⟨.slice none 0 0, .ro0 _ _ _ _ _, fun w' _ => ?_⟩
    have hbs := run_sliceBounds (P := P) (w := w') (isS := true) (cap := 0) hr h1 h2 h3 h4 ⟨by omega, by omega, by omega⟩
    cases hq : P.info? e with
    | none => simp [hq] at hs
    | some inf =>
      simp [execOp, hz, Instr.sliceAt, Instr.slice, run_underlying ht, hbs, sizeOf, typeInfo, hq, hsub, hl0, hh0]
  | sl _ _ _ _ b s C cap hσ hlen hcap =>
    obtain ⟨hs', cur, g1, g2, g3, g4, g5, g6⟩ := hr.obj hh hσ
    subst hs'
    refine ⟨.slice (if cap = l.toNat then some ⟨b, i * ob.c.sz, none⟩ else some ⟨b, i * ob.c.sz + l.toNat * ob.c.sz, none⟩) 0 (cap - l.toNat), .ro0 _ _ _ _ _, fun w' _ => ?_⟩
    have hbs := run_sliceBounds (P := P) (w := w') (isS := true) (cap := cap) hr h1 h2 h3 h4 ⟨by omega, by omega, by omega⟩
    cases hq : P.info? e with
    | none => simp [hq] at hs
    | some inf =>
      have hsz : inf.size = ob.c.sz := by simpa [hq] using hs
      simp [execOp, hz, Instr.sliceAt, Instr.slice, run_underlying ht, hbs, sizeOf, typeInfo, hq, hsub, hsz, Addr.add_lit]
end
end Go.Proofs.YtgmleamhjnlknaaGreatDoor

namespace Go.Proofs.YtgmleamhjnlknaaGreatDoor
open Go.Ax Go.Ax.Bg Go.Ax.Rt Go.RowKit Go.Ax.Dt
attribute [local irreducible] Ax Post QOp ACall PureOp
set_option maxRecDepth 100000
set_option maxHeartbeats 4000000

abbrev outH (L k : Nat) (Z : Tab) (T : AHeap) : AHeap := nestH ⟨147, outC L (List.range k)⟩ 106 zC Z T
theorem zC_shift (N : Nat) (a : List Int) : (zC a).shift N = zC a := by
  show Cells.fn _ _ _ = Cells.fn _ _ _
  congr 1
  funext i j
  match j with
  | 0 => rfl
  | 1 => rfl
  | _ + 2 => rfl
theorem out_snoc {L k : Nat} {Z : Tab} (hZ : Z.length = k) (z : List Int) : outH L k Z [] ++ shiftH (outH L k Z []).length [some ⟨106, zC z⟩] = nestH ⟨147, outC L (List.range k)⟩ 106 zC (Z ++ [z]) [] := by
  show outH L k Z [] ++ [some (⟨106, (zC z).shift (outH L k Z []).length⟩ : AObj)] = _
  rw [zC_shift, nest_snoc]
theorem outC_snoc (L k : Nat) (cx : Cells) (h0 : cx.at 0 0 = .sl (k + 1) 0 L) : CEq (.fn ((List.range k).length + 1) 1 (fun i j => bif Nat.blt i (List.range k).length then (outC L (List.range k)).at i j else cx.at (0 + (i - (List.range k).length)) j)) (outC L (List.range (k + 1))) := by
  rw [List.range_succ]
  exact rowE_snoc 0 1 (fun a : Nat => [AV.sl (a + 1) 0 L]) (List.range k) k cx (fun j hj => by obtain rfl := Nat.lt_one_iff.1 hj; exact h0)
theorem nest_append {O : AObj} {f : List Int → Cells} {t : TypeId} {X : Tab} {T T' : AHeap} {c' c'' : Cells} (hf : ∀ h a, (f a).forget h = f a) (hc : CEq c' c'') (hT : HSub (forgetH 0 T) T') :
    HSub ((forgetH 0 (nestH O t f X T)).set 0 (some ⟨O.ty, c'⟩)) (nestH ⟨O.ty, c''⟩ t f X T') := by
  rw [forget_nest 0 (hf 0)]
  exact nest_sub (O := ⟨O.ty, c'⟩) ⟨rfl, hc⟩ hT
theorem out_below {L k m : Nat} {Z : Tab} (hZ : Z.length = k) (hm : k + 1 ≤ m) : ∀ (h : Nat) (o : AObj), (outH L k Z [])[h]? = some (some o) → belowP m o.c := by
  intro h o ho
  have hmem := List.mem_of_getElem? ho
  unfold outH nestH at hmem
  rw [List.mem_cons, List.append_nil] at hmem
  rcases hmem with e | hmem
  · cases e
    intro i j hi hj
    obtain rfl := Nat.lt_one_iff.1 (show j < 1 from hj)
    have hi : i < (List.range k).length := hi
    have e : (List.range k).getD i 0 = i := by rw [get_el 0 hi, List.getElem_range]
    rw [List.length_range] at hi
    show belowA m (AV.sl ((List.range k).getD i 0 + 1) 0 L) = true
    rw [e]
    exact Nat.ble_eq_true_of_le (show i + 1 + 1 ≤ m by omega)
  · obtain ⟨a, _, e⟩ := List.mem_map.1 hmem
    cases e
    intro i j hi hj
    have hj' : j < 2 := hj
    match j, hj' with
    | 0, _ => rfl
    | 1, _ => rfl
theorem srcOf_sl {H : AHeap} {h i m : Nat} {o : AObj} (hh : H[h]? = some (some o)) : srcOf H (.sl h i m) = some (o.c, i, m) := by
  simp only [srcOf, hh]
theorem any_step {α : Type} {l : List α} (p : α → Bool) (d : α) {i : Nat} (h : i < l.length) : (l.drop i).any p = (p (l.getD i d) || (l.drop (i + 1)).any p) := by
  rw [List.drop_eq_getElem_cons h, List.any_cons, get_el d h]
theorem whole_rows {R : List (List Rat)} {w K : Nat} (h : ∀ r ∈ R, r.length = w + 1 ∧ ∀ q ∈ r, D K q) : ∀ x ∈ R.map wholeL, x.length = w + 1 := by
  intro x hx
  obtain ⟨r, hr, rfl⟩ := List.mem_map.1 hx
  rw [wholeL_len]; exact (h r hr).1
theorem red_append3 {n L : Nat} {ρ : List Nat} {X : Tab} {r : Red} {t : TypeId} {c c' c'' : Cells} (hP : Perm n ρ X) (hc : CEq c' c'') :
    HSub ((forgetH (n + 3) (redH n L ρ X r [some ⟨t, c⟩])).set (n + 3) (some ⟨t, c'⟩)) (redH n L ρ X r [some ⟨t, c''⟩]) := by
  have e0 : redH n L ρ X r [some ⟨t, c⟩] = nestH ⟨147, outC L ρ⟩ 106 zC X [some ⟨154, redB n r.piv.length r.last r.neg⟩, some ⟨3, pivC r.piv⟩, some ⟨t, c⟩] := rfl
  rw [e0, forget_nest (n + 3) (zC_forget (n + 3))]
  have e : forgetH (n + 3) [some (⟨154, redB n r.piv.length r.last r.neg⟩ : AObj), some ⟨3, pivC r.piv⟩, some ⟨t, c⟩] = [some ⟨154, redB n r.piv.length r.last r.neg⟩, some ⟨3, pivC r.piv⟩, some ⟨t, c.forget (n + 3)⟩] := by
    show [some (⟨_, Cells.box (AV.forgets _ _)⟩ : AObj), some (⟨_, pivC r.piv⟩ : AObj), some ⟨t, c.forget (n + 3)⟩] = _
    simp [AV.forgets, AV.forget, natA, beq_ne]
  rw [e]
  have := nest_set_loc (O := ⟨147, (outC L ρ).forget (n + 3)⟩) (t := 106) (f := zC) (X := X) (L := [some ⟨154, redB n r.piv.length r.last r.neg⟩, some ⟨3, pivC r.piv⟩, some ⟨t, c.forget (n + 3)⟩]) (j := 2) (some ⟨t, c'⟩)
  rw [hP.lenX] at this
  show HSub ((nestH ⟨147, (outC L ρ).forget (n + 3)⟩ 106 zC X _).set (n + 1 + 2) _) _
  rw [this]
  refine nest_sub ⟨rfl, rfl, rfl, fun i j hi hj => ?_⟩ (HSub.same (HSub.same (HSub.eqv hc HSub.nil)))
  obtain rfl := Nat.lt_one_iff.1 (show j < 1 from hj)
  have ha := hP.at (i := i) (by have hi : i < ρ.length := hi; rw [hP.len] at hi; exact hi)
  show AV.sl (ρ.getD i 0 + 1) 0 L = AV.forget (n + 3) (AV.sl (ρ.getD i 0 + 1) 0 L)
  unfold AV.forget
  rw [beq_ne (show ρ.getD i 0 + 1 ≠ n + 3 by omega)]; rfl
theorem solve_diag {rows : List (List Rat)} {k w : Nat} (h : ∀ r ∈ rows, r.length = w + 1 ∧ ∀ q ∈ r, D k q) (h1 : ((solT rows w).T.drop (solT rows w).piv.length).any (fun r => decide (r.getD w 0 ≠ 0)) = false) (hK : (solT rows w).piv.length = w) : ∀ a, a < w → at2 (solT rows w).T a a = (solT rows w).last ∧ (solT rows w).last ≠ 0 := by
  obtain ⟨hI, hB⟩ := solT_inv (w := w) h (Nat.le_succ w)
  rw [List.any_eq_false] at h1
  have hlen := hI.len
  have hz : ∀ i, w ≤ i → i < rows.length → at2 (solT rows w).T i w = 0 := by
    intro i hi1 hi2
    have hi3 : i < (solT rows w).T.length := by omega
    have hm : (solT rows w).T.getD i [] ∈ (solT rows w).T.drop (solT rows w).piv.length := by
      rw [hK, List.mem_iff_getElem]
      refine ⟨i - w, by rw [List.length_drop]; omega, ?_⟩
      rw [List.getElem_drop]
      simp [List.getD, show w + (i - w) = i by omega, hi3]
    have := h1 _ hm
    simpa [at2] using this
  have s2 := (hI.solve (Nat.lt_succ_self w) hK hz).2
  exact fun a ha => ⟨s2 a ha, hI.last⟩
theorem solve_ok (R : List (List Rat)) (w K : Nat) (hn40 : R.length ≤ 40) (hw : w ≤ 40) (hR0 : ∀ r ∈ R, r.length = w + 1 ∧ ∀ q ∈ r, D K q) (hK : (K + K * (w + 1) + 2) * R.length ≤ 3600000) (hK2 : K * (w + 1) + K ≤ 900000) :
    VCall Tryz.prog 99 [.ro (rowsQ R) 0 R.length, .int .i64 (w : Nat)] (.tup [.ro (qsC (solveQ R w).1) 0 (solveQ R w).1.length, .int .i64 (solveQ R w).2]) := by
  refine ACall.value0 (acall_of_ax (P := Tryz.prog) (fn := Tryz.f99) rfl rfl (by kernel_rfl) rfl (fun c hR hfix => ?_)) (fix := fun _ => False) (fun _ h => h) rfl rfl
  repeat (first
    | refine ax_q (q_move rfl) ?_
    | refine ax_q (q_assign rfl) ?_
    | refine ax_ops_nil ?_
    | refine ax_post_code ?_
    | refine ax_seq ?_
    | refine ax_region rfl ?_
    | refine ax_q (q_len rfl rfl rfl) ?_)
  refine ax_nilobj 6 ⟨147, outC (w + 1) (List.range 0)⟩ rfl rfl ?_
  repeat (refine ax_block ?_)
  refine ax_loop (ι := Nat) (fun k => [(0, .ro (rowsQ R) 0 R.length), (1, .int .i64 (w : Nat)), (6, .sl 0 0 k), (16, .ro (rowsQ R) 0 R.length), (17, .int .i64 (R.length : Nat)), (18, .int .i64 (k : Nat))]) (fun k => outH (w + 1) k ((R.take k).map wholeL) [])
    (fun k => k ≤ R.length) (fun k => R.length - k) 0 ⟨⟨rfl, rfl, rfl, rfl, rfl, rfl, trivial⟩, rfl, Nat.zero_le _⟩ ?_
  intro k hk
  repeat (first
    | refine ax_ops_nil ?_
    | refine ax_post_code ?_
    | refine ax_seq ?_
    | refine ax_region rfl ?_
    | refine ax_q (q_lss rfl rfl) ?_)
  refine ax_cond_dec rfl (fun h => ?_) (fun h => ?_)
  · have hk' : k < R.length := by omega
    obtain ⟨b1, b2⟩ := hR0 _ (getD_mem [] hk')
    have cw := whole_ok' (R.getD k []) K b2 (by omega) (by rw [b1]; exact hK2)
    have htk := map_take_succ wholeL R [] k hk'
    have hml : ((R.take k).map wholeL).length = k := by rw [List.length_map, List.length_take]; omega
    have hzl : (wholeL (R.getD k [])).length = w + 1 := by rw [wholeL_len]; exact b1
    generalize (R.take k).map wholeL = Z at *
    have eH : (outH (w + 1) k Z []).length = k + 1 := by rw [nest_len, hml]; rfl
    repeat (first
      | refine ax_q (q_move rfl) ?_
      | refine ax_q (q_assign rfl) ?_
      | refine ax_ops_nil ?_
      | refine ax_post_code ?_
      | refine ax_seq ?_
      | refine ax_region rfl ?_
      | refine ax_block ?_
      | refine ax_skip ?_
      | refine ax_q (q_loadf_rp rfl rfl rfl rfl) ?_
      | refine ax_q (q_index_ro' rfl rfl rfl rfl (by first | (simp only [Nat.zero_add, Int.toNat_natCast, Int.toNat_zero]; exact rfl) | exact rfl) (by omega)) ?_)
    refine ax_calls (.tup [.sl (k + 1) 0 (w + 1), natA (facF 1 (R.getD k []))]) (nestH ⟨147, outC (w + 1) (List.range k)⟩ 106 zC (Z ++ [wholeL (R.getD k [])]) []) rfl rfl rfl cw (by rw [eH, b1]; show AV.tup [AV.sl (0 + (k + 1)) 0 (w + 1), _] = _; rw [Nat.zero_add]; rfl) (out_snoc hml _) ?_
    repeat (first
      | refine ax_q (q_move rfl) ?_
      | refine ax_q (q_assign rfl) ?_
      | refine ax_ops_nil ?_
      | refine ax_post_code ?_
      | refine ax_region rfl ?_
      | refine ax_q (q_extract rfl rfl) ?_)
    refine ax_buildSlice rfl rfl rfl rfl rfl rfl rfl rfl rfl rfl ?_
    have hml2 : (Z ++ [wholeL (R.getD k [])]).length = k + 1 := by rw [List.length_append, hml]; rfl
    have e2 : (nestH ⟨147, outC (w + 1) (List.range k)⟩ 106 zC (Z ++ [wholeL (R.getD k [])]) []).length = k + 2 := by rw [nest_len, hml2]; rfl
    refine ax_heap_eq_ops (nestH ⟨147, outC (w + 1) (List.range k)⟩ 106 zC (Z ++ [wholeL (R.getD k [])]) [some ⟨147, rowOf 1 1 [.sl (k + 1) 0 (w + 1)]⟩]) (by rw [nest_app]; rfl) ?_
    refine ax_slot_ops 29 (.sl (k + 2) 0 1) rfl (AEq.of_eq (by rw [e2])) ?_
    have f1 : (nestH ⟨147, outC (w + 1) (List.range k)⟩ 106 zC (Z ++ [wholeL (R.getD k [])]) [some ⟨147, rowOf 1 1 [.sl (k + 1) 0 (w + 1)]⟩])[k + 2]? = some (some ⟨147, rowOf 1 1 [.sl (k + 1) 0 (w + 1)]⟩) := by
      have := nest_loc (O := ⟨147, outC (w + 1) (List.range k)⟩) (t := 106) (f := zC) (X := Z ++ [wholeL (R.getD k [])]) (L := [some ⟨147, rowOf 1 1 [.sl (k + 1) 0 (w + 1)]⟩]) (j := 0)
      rw [hml2] at this; exact this
    have hol : (outC (w + 1) (List.range k)).len = k := List.length_range
    skip
    refine ax_append rfl rfl rfl rfl rfl rfl rfl rfl rfl hol rfl (srcOf_sl f1) (by show 0 + 1 ≤ 1; omega) rfl (by show (k + 1) * 24 ≤ _ ∧ _; omega) ?_ (by rw [hfix]; exact fun h => h) ?_
    · intro i' j hi hj
      obtain rfl := Nat.lt_one_iff.1 (show j < 1 from hj)
      have q := (outC_snoc (w + 1) k (rowOf 1 1 [AV.sl (k + 1) 0 (w + 1)]) rfl).2.2 i' 0 hi Nat.zero_lt_one
      exact (congrArg (AV.forget 0) q.symm).trans q
    refine ax_heap_ops (nestH ⟨147, outC (w + 1) (List.range (k + 1))⟩ 106 zC (Z ++ [wholeL (R.getD k [])]) [none]) (nest_append zC_forget (outC_snoc (w + 1) k _ rfl) (HSub.drop HSub.nil)) ?_
    repeat (first
      | refine ax_q (q_assign rfl) ?_
      | refine ax_ops_nil ?_
      | refine ax_post_blk ?_)
    refine ax_post_code ?_
    refine ax_cutP (outH (w + 1) (k + 1) (Z ++ [wholeL (R.getD k [])]) []) [none] [(0, .ro (rowsQ R) 0 R.length), (1, .int .i64 (w : Nat)), (6, .sl 0 0 (k + 1)), (16, .ro (rowsQ R) 0 R.length), (17, .int .i64 (R.length : Nat)), (18, .int .i64 (k : Nat))] (by rw [nest_app]; rfl) ⟨rfl, rfl, rfl, rfl, rfl, rfl, trivial⟩ (fun h hh => by rw [hfix] at hh; exact absurd hh id)
      (by rw [nest_len, hml2]; exact out_below hml2 (Nat.le_add_right _ _)) (by rw [nest_len, hml2]; simp [belowF, belowA]) ?_
    repeat (first
      | refine ax_q (q_move rfl) ?_
      | refine ax_ops_nil ?_
      | refine ax_region rfl ?_
      | refine ax_q (q_add rfl rfl (by omega)) ?_)
    exact ax_post_inv ⟨k + 1, by omega, by omega, ⟨rfl, rfl, rfl, rfl, rfl, rfl, trivial⟩, by rw [htk]⟩
  · have hke : k = R.length := by omega
    subst hke
    rw [List.take_length]
    have cr := reduce_ok (R.map wholeL) R.length (w + 1) w (K + K * (w + 1)) (by rw [List.length_map]) hn40 (whole_rows hR0) (by omega) (by omega) (at2_whole_abs hR0) hK
    obtain ⟨inv, hB⟩ := solT_inv (w := w) hR0 (by omega)
    have bnd := inv.bound hB
    have hpc := inv.pc
    repeat (first
      | refine ax_q (q_move rfl) ?_
      | refine ax_post_code ?_
      | refine ax_seq ?_
      | refine ax_region rfl ?_
      | refine ax_exit ?_
      | refine ax_exit_here ?_
      | refine ax_exit_code ?_
      | refine ax_exit_inv ?_)
    refine ax_callc rfl rfl rfl cr (fun h hh => by rw [nest_len, List.length_map] at hh; exact hh) (fun h hh => by rw [nest_len, List.length_map]; exact hh) ?_
    rintro r' H' ⟨ρ, X, hP, hT, rfl, rfl⟩
    have hE : (K + K * (w + 1) + 2) * R.length ≤ 3600000 := hK
    unfold solveQ at hR
    unfold solT at hR inv bnd hpc
    have hlen1 := inv.len
    have hrow1 := inv.row
    have hpl := inv.pl
    have hdiag2 := fun h1 h2 => solve_diag hR0 (w := w) h1 h2
    unfold solT at hdiag2
    generalize redN (R.map wholeL) w = r at *
    have hsz : ∀ x : Int, x.natAbs ≤ fct R.length * (10 ^ (K + K * (w + 1))) ^ R.length → (natL x.natAbs).length ≤ 400001 := fun x hx => len_ten (Nat.le_trans hx (det_ten hn40)) (by omega)
    obtain ⟨bT, bL⟩ := bnd
    have q7 := red_box (L := w + 1) (r := r) (T := []) hP
    repeat (first
      | refine ax_q (q_move rfl) ?_
      | refine ax_q (q_assign rfl) ?_
      | refine ax_ops_nil ?_
      | refine ax_post_code ?_
      | refine ax_seq ?_
      | refine ax_region rfl ?_
      | refine ax_q (q_len rfl rfl rfl) ?_
      | refine ax_q (q_nilcheck_ptr rfl) ?_
      | refine ax_q (q_field_ptr rfl rfl rfl rfl rfl rfl) ?_
      | refine ax_q (q_loadb_sym rfl rfl rfl (by assumption) (by rfl)) ?_)
    cases hAny : (r.T.drop r.piv.length).any (fun r => decide (r.getD w 0 ≠ 0))
    · rw [hAny, if_neg Bool.false_ne_true] at hR
      apply ax_tail_code (H := redH R.length (w + 1) ρ X r []) [(0, .ro (rowsQ R) 0 R.length), (1, .int .i64 (w : Nat)), (6, .sl 0 0 R.length), (11, .ptr (R.length + 1) 0 0)]
      · intro fin
        rcases Nat.lt_or_ge r.piv.length R.length with hlt | hge
        · refine ax_q (q_slice_sl rfl rfl rfl rfl rfl rfl rfl rfl (by omega)) ?_
          refine ax_slot_ops 41 (.sl 0 r.piv.length (R.length - r.piv.length)) rfl (AEq.of_eq (by rw [show (0 + ((r.piv.length : Nat) : Int).toNat) = r.piv.length by omega, show (((R.length : Nat) : Int) - (r.piv.length : Nat)).toNat = R.length - r.piv.length by omega])) ?_
          repeat (first
            | refine ax_q (q_move rfl) ?_
            | refine ax_ops_nil ?_
            | refine ax_post_code ?_
            | refine ax_block ?_
            | refine ax_q (q_len rfl rfl rfl) ?_)
          refine ax_loop (ι := Nat) (fun i => [(0, .ro (rowsQ R) 0 R.length), (1, .int .i64 (w : Nat)), (6, .sl 0 0 R.length), (11, .ptr (R.length + 1) 0 0), (41, .sl 0 r.piv.length (R.length - r.piv.length)), (42, .int .i64 (R.length - r.piv.length : Nat)), (43, .int .i64 (i : Nat))]) (fun _ => redH R.length (w + 1) ρ X r [])
            (fun i => i ≤ R.length - r.piv.length ∧ (r.T.drop r.piv.length).any (fun r => decide (r.getD w 0 ≠ 0)) = (r.T.drop (r.piv.length + i)).any (fun r => decide (r.getD w 0 ≠ 0))) (fun i => R.length - r.piv.length - i) 0 ⟨⟨rfl, rfl, rfl, rfl, rfl, rfl, rfl, trivial⟩, rfl, Nat.zero_le _, rfl⟩ ?_
          rintro i ⟨hi, hA⟩
          repeat (first
            | refine ax_ops_nil ?_
            | refine ax_post_code ?_
            | refine ax_seq ?_
            | refine ax_region rfl ?_
            | refine ax_q (q_lss rfl rfl) ?_)
          refine ax_cond_dec rfl (fun h2 => ?_) (fun h2 => ?_)
          · have hi' : r.piv.length + i < R.length := by omega
            have hd := any_step (l := r.T) (fun r : List Int => decide (r.getD w 0 ≠ 0)) [] (i := r.piv.length + i) (by omega)
            have g1 : r.piv.length + i < (outC (w + 1) ρ).len := by show r.piv.length + i < ρ.length; rw [hP.len]; exact hi'
            have q2 := red_row (L := w + 1) (r := r) (T := []) hP hi'
            have g3 : w < (zC (X.getD (ρ.getD (r.piv.length + i) 0) [])).len := by show w < (X.getD (ρ.getD (r.piv.length + i) 0) []).length; rw [tab_row hP hT hrow1 hi']; omega
            have g4 := tab_el hP hT hi' w
            have cs := isign_ok (at2 r.T (r.piv.length + i) w)
            unfold intA at cs
            repeat (first
              | refine ax_q (q_move rfl) ?_
              | refine ax_q (q_assign rfl) ?_
              | refine ax_ops_nil ?_
              | refine ax_post_code ?_
              | refine ax_seq ?_
              | refine ax_region rfl ?_
              | refine ax_block ?_
              | refine ax_skip ?_
              | refine ax_q (q_index_sl' rfl rfl rfl rfl rfl (by first | (simp only [Nat.zero_add, Int.toNat_natCast, Int.toNat_zero]; exact rfl) | exact rfl) (by omega)) ?_
              | refine ax_q (q_loadf_ptr rfl rfl rfl rfl rfl (by first | assumption | omega)) ?_
              | refine ax_q (q_index_sym rfl rfl rfl (by assumption) (by rfl) (by first | (simp only [Nat.zero_add, Int.toNat_natCast, Int.toNat_zero]; exact rfl) | exact rfl) (by omega)) ?_
              | refine ax_q (q_loadagg_sym rfl rfl rfl rfl (by assumption) (by rfl) (by rfl) (by first | exact Nat.zero_lt_one | assumption | omega)) ?_)
            refine ax_slot_ops 50 (intA (at2 r.T (r.piv.length + i) w)) rfl (AEq.of_eq (by rw [g4]; rfl)) ?_
            refine ax_callv rfl rfl rfl cs ?_
            repeat (first
              | refine ax_ops_nil ?_
              | refine ax_post_code ?_
              | refine ax_q (q_neq rfl rfl) ?_)
            refine ax_cond_dec rfl (fun h4 => ?_) (fun h4 => ?_)
            · rw [sgn_zeroI] at h4
              have hAt : (r.T.drop r.piv.length).any (fun r => decide (r.getD w 0 ≠ 0)) = true := by
                rw [hA, hd]
                simp only [Bool.or_eq_true, decide_eq_true_eq]
                exact .inl h4
              rw [hAny] at hAt; cases hAt
            · rw [sgn_zeroI, Classical.not_not] at h4
              repeat (first
                | refine ax_q (q_move rfl) ?_
                | refine ax_ops_nil ?_
                | refine ax_post_code ?_
                | refine ax_region rfl ?_
                | refine ax_post_blk ?_
                | refine ax_skip ?_
                | refine ax_q (q_add rfl rfl (by omega)) ?_)
              exact ax_post_inv ⟨i + 1, ⟨by omega, by
                rw [hA, hd, Nat.add_assoc]
                show (decide (at2 r.T (r.piv.length + i) w ≠ 0) || _) = _
                rw [decide_eq_false (fun q => q h4), Bool.false_or]⟩, by omega, ⟨rfl, rfl, rfl, rfl, rfl, rfl, rfl, trivial⟩, rfl⟩
          · have hie : i = R.length - r.piv.length := by omega
            rw [hie, show r.piv.length + (R.length - r.piv.length) = r.T.length by omega, List.drop_length] at hA
            repeat (first
              | refine ax_post_code ?_
              | refine ax_exit ?_
              | refine ax_exit_here ?_
              | refine ax_exit_code ?_
              | refine ax_exit_inv ?_)
            exact fin _ ⟨rfl, rfl, rfl, rfl, trivial⟩

        · refine ax_q (q_slice_sle (outC (w + 1) []) rfl rfl rfl rfl rfl rfl rfl rfl (by omega)) ?_
          repeat (first
            | refine ax_q (q_move rfl) ?_
            | refine ax_ops_nil ?_
            | refine ax_post_code ?_
            | refine ax_block ?_
            | refine ax_q (q_len rfl rfl rfl) ?_)
          refine ax_loop (ι := Unit) (fun _ => [(0, .ro (rowsQ R) 0 R.length), (1, .int .i64 (w : Nat)), (6, .sl 0 0 R.length), (11, .ptr (R.length + 1) 0 0), (42, .int .i64 (0 : Nat)), (43, .int .i64 0)]) (fun _ => redH R.length (w + 1) ρ X r []) (fun _ => True) (fun _ => 0) () ⟨⟨rfl, rfl, rfl, rfl, rfl, rfl, trivial⟩, rfl, trivial⟩ ?_
          intro _ _
          repeat (first
            | refine ax_ops_nil ?_
            | refine ax_post_code ?_
            | refine ax_seq ?_
            | refine ax_region rfl ?_
            | refine ax_q (q_lss rfl rfl) ?_)
          refine ax_cond_dec rfl (fun h2 => absurd h2 (by omega)) (fun h2 => ?_)
          repeat (first
            | refine ax_post_code ?_
            | refine ax_exit ?_
            | refine ax_exit_here ?_
            | refine ax_exit_code ?_
            | refine ax_exit_inv ?_)
          exact fin _ ⟨rfl, rfl, rfl, rfl, trivial⟩
      · repeat (first
          | refine ax_q (q_move rfl) ?_
          | refine ax_ops_nil ?_
          | refine ax_post_code ?_
          | refine ax_seq ?_
          | refine ax_region rfl ?_
          | refine ax_q (q_lss rfl rfl) ?_
          | refine ax_q (q_len rfl rfl rfl) ?_
          | refine ax_q (q_nilcheck_ptr rfl) ?_
          | refine ax_q (q_field_ptr rfl rfl rfl rfl rfl rfl) ?_
          | refine ax_q (q_loadb_sym rfl rfl rfl (by assumption) (by rfl)) ?_)
        refine ax_cond_dec rfl (fun h5 => ?_) (fun h5 => ?_)
        · rw [if_pos (by omega)] at hR
          repeat (first
            | refine ax_q (q_assign rfl) ?_
            | refine ax_ops_nil ?_
            | refine ax_post_code ?_
            | refine ax_seq ?_
            | refine ax_region rfl ?_)
          refine ax_slot 4 (.ro (qsC []) 0 0) rfl AEq.nil ?_
          repeat (first
            | refine ax_return ?_
            | refine ax_ret_code ?_)
          exact ax_ret hR rfl rfl
        · rw [if_neg (by omega)] at hR
          have hKw : r.piv.length = w := by omega
          have hdg := hdiag2 hAny hKw
          repeat (first
            | refine ax_q (q_move rfl) ?_
            | refine ax_q (q_assign rfl) ?_
            | refine ax_ops_nil ?_
            | refine ax_post_code ?_
            | refine ax_seq ?_
            | refine ax_region rfl ?_
            | refine ax_skip ?_)
          refine ax_nilobj 14 ⟨108, qsC []⟩ rfl rfl ?_
          refine ax_heap_eq (redH R.length (w + 1) ρ X r [some ⟨108, qsC []⟩]) red_app ?_
          refine ax_slot 14 (.sl (R.length + 3) 0 0) rfl (AEq.of_eq (by rw [red_len hP]; rfl)) ?_
          repeat (refine ax_block ?_)
          refine ax_loop (ι := Nat) (fun k => [(1, .int .i64 (w : Nat)), (6, .sl 0 0 R.length), (14, .sl (R.length + 3) 0 k), (61, .int .i64 (w : Nat)), (62, .int .i64 (k : Nat))]) (fun k => redH R.length (w + 1) ρ X r [some ⟨108, qsC ((List.range k).map (fun k => Rat.divInt (at2 r.T k w) (at2 r.T k k)))⟩])
            (fun k => k ≤ w) (fun k => w - k) 0 ⟨⟨rfl, rfl, rfl, rfl, rfl, trivial⟩, rfl, Nat.zero_le _⟩ ?_
          intro k hk
          repeat (first
            | refine ax_ops_nil ?_
            | refine ax_post_code ?_
            | refine ax_seq ?_
            | refine ax_region rfl ?_
            | refine ax_q (q_lss rfl rfl) ?_)
          refine ax_cond_dec rfl (fun h6 => ?_) (fun h6 => ?_)
          · have hk' : k < w := by omega
            have hkn : k < R.length := by omega
            have hsn : (List.range (k + 1)).map (fun k => Rat.divInt (at2 r.T k w) (at2 r.T k k)) = (List.range k).map (fun k => Rat.divInt (at2 r.T k w) (at2 r.T k k)) ++ [Rat.divInt (at2 r.T k w) (at2 r.T k k)] := by rw [List.range_succ, List.map_append]; rfl
            have hql : ((List.range k).map (fun k => Rat.divInt (at2 r.T k w) (at2 r.T k k))).length = k := by rw [List.length_map, List.length_range]
            generalize (List.range k).map (fun k => Rat.divInt (at2 r.T k w) (at2 r.T k k)) = qs at *
            have gk : k < (outC (w + 1) ρ).len := by show k < ρ.length; rw [hP.len]; exact hkn
            have q2 := red_row (L := w + 1) (r := r) (T := [some ⟨108, qsC qs⟩]) hP hkn
            have q3 := red_loc (L := w + 1) (r := r) (T := [some ⟨108, qsC qs⟩]) hP 0
            have hlr := tab_row hP hT hrow1 hkn
            have g3 : w < (zC (X.getD (ρ.getD k 0) [])).len := by show w < (X.getD (ρ.getD k 0) []).length; omega
            have g3' : k < (zC (X.getD (ρ.getD k 0) [])).len := by show k < (X.getD (ρ.getD k 0) []).length; omega
            have g4 := tab_el hP hT hkn w
            have g5 := tab_el hP hT hkn k
            have cf := frac_ok (at2 r.T k w) (at2 r.T k k) (by rw [(hdg k hk').1]; exact (hdg k hk').2) (Nat.le_trans (hsz _ (bT k w hkn (by omega))) (by decide)) (Nat.le_trans (hsz _ (bT k k hkn (by omega))) (by decide))
            repeat (first
              | refine ax_q (q_move rfl) ?_
              | refine ax_q (q_assign rfl) ?_
              | refine ax_ops_nil ?_
              | refine ax_post_code ?_
              | refine ax_seq ?_
              | refine ax_region rfl ?_
              | refine ax_block ?_
              | refine ax_skip ?_)
            refine ax_regiond (by kernel_rfl) ?_
            refine ax_any_q 0 rfl (by kernel_rfl) (by kernel_rfl) (by kernel_rfl) rfl (q_move rfl) rfl ?_
            refine ax_any_q 1 rfl (by kernel_rfl) (by kernel_rfl) (by kernel_rfl) rfl (q_move rfl) rfl ?_
            refine ax_any_q 2 rfl (by kernel_rfl) (by kernel_rfl) (by kernel_rfl) rfl (q_move rfl) rfl ?_
            refine ax_any_q 3 rfl (by kernel_rfl) (by kernel_rfl) (by kernel_rfl) rfl (q_index_sl' rfl rfl rfl rfl rfl (by first | (simp only [Nat.zero_add, Int.toNat_natCast, Int.toNat_zero]; exact rfl) | exact rfl) (by omega)) rfl ?_
            refine ax_any_q 5 rfl (by kernel_rfl) (by kernel_rfl) (by kernel_rfl) rfl (q_move rfl) rfl ?_
            refine ax_any_q 8 rfl (by kernel_rfl) (by kernel_rfl) (by kernel_rfl) rfl (q_move rfl) rfl ?_
            refine ax_any_q 9 rfl (by kernel_rfl) (by kernel_rfl) (by kernel_rfl) rfl (q_move rfl) rfl ?_
            refine ax_any_q 10 rfl (by kernel_rfl) (by kernel_rfl) (by kernel_rfl) rfl (q_index_sl' rfl rfl rfl rfl rfl (by first | (simp only [Nat.zero_add, Int.toNat_natCast, Int.toNat_zero]; exact rfl) | exact rfl) (by omega)) rfl ?_
            refine ax_any_q 12 rfl (by kernel_rfl) (by kernel_rfl) (by kernel_rfl) rfl (q_move rfl) rfl ?_
            apply ax_tail_any (H := redH R.length (w + 1) ρ X r [some ⟨108, qsC qs⟩]) [(1, .int .i64 (w : Nat)), (6, .sl 0 0 R.length), (61, .int .i64 (w : Nat)), (62, .int .i64 (k : Nat)), (65, .sl (R.length + 3) 0 k), (72, .agg ((List.range 2).map ((zC (X.getD (ρ.getD k 0) [])).at w))), (79, .agg ((List.range 2).map ((zC (X.getD (ρ.getD k 0) [])).at k)))]
            · intro fin2
              refine ax_any_step (is := [4, 11]) (by kernel_rfl) (by simp) rfl ⟨fun o ho => ?_, fun o ho => ?_, trivial⟩
              all_goals (cases ho)
              · repeat (first
                  | refine ax_ops_nil ?_
                  | refine ax_post_any ?_
                  | refine ax_q (q_loadf_ptr rfl rfl rfl rfl rfl (by first | assumption | omega)) ?_)
                refine ax_any_q 6 rfl (by kernel_rfl) (by kernel_rfl) (by kernel_rfl) rfl (q_index_sym rfl rfl rfl (by assumption) (by rfl) (by first | (simp only [Nat.zero_add, Int.toNat_natCast, Int.toNat_zero]; exact rfl) | exact rfl) (by omega)) rfl ?_
                refine ax_any_step (is := [7, 11]) (by kernel_rfl) (by simp) rfl ⟨fun o ho => ?_, fun o ho => ?_, trivial⟩
                all_goals (cases ho)
                · repeat (first
                    | refine ax_ops_nil ?_
                    | refine ax_post_any ?_
                    | refine ax_q (q_loadagg_sym rfl rfl rfl rfl (by assumption) (by rfl) (by rfl) (by first | exact Nat.zero_lt_one | assumption | omega)) ?_)
                  refine ax_any_step (is := [11]) (by kernel_rfl) (by simp) rfl ⟨fun o ho => ?_, trivial⟩
                  all_goals (cases ho)
                  repeat (first
                    | refine ax_ops_nil ?_
                    | refine ax_post_any ?_
                    | refine ax_q (q_loadf_ptr rfl rfl rfl rfl rfl (by first | assumption | omega)) ?_)
                  refine ax_any_q 13 rfl (by kernel_rfl) (by kernel_rfl) (by kernel_rfl) rfl (q_index_sym rfl rfl rfl (by assumption) (by rfl) (by first | (simp only [Nat.zero_add, Int.toNat_natCast, Int.toNat_zero]; exact rfl) | exact rfl) (by omega)) rfl ?_
                  refine ax_any_step (is := [14]) (by kernel_rfl) (by simp) rfl ⟨fun o ho => ?_, trivial⟩
                  all_goals (cases ho)
                  repeat (first
                    | refine ax_ops_nil ?_
                    | refine ax_post_any ?_
                    | refine ax_q (q_loadagg_sym rfl rfl rfl rfl (by assumption) (by rfl) (by rfl) (by first | exact Nat.zero_lt_one | assumption | omega)) ?_)
                  exact fin2 _ ⟨rfl, rfl, rfl, rfl, rfl, rfl, rfl, trivial⟩
                · repeat (first
                    | refine ax_ops_nil ?_
                    | refine ax_post_any ?_
                    | refine ax_q (q_loadf_ptr rfl rfl rfl rfl rfl (by first | assumption | omega)) ?_)
                  refine ax_any_q 13 rfl (by kernel_rfl) (by kernel_rfl) (by kernel_rfl) rfl (q_index_sym rfl rfl rfl (by assumption) (by rfl) (by first | (simp only [Nat.zero_add, Int.toNat_natCast, Int.toNat_zero]; exact rfl) | exact rfl) (by omega)) rfl ?_
                  refine ax_any_step (is := [7, 14]) (by kernel_rfl) (by simp) rfl ⟨fun o ho => ?_, fun o ho => ?_, trivial⟩
                  all_goals (cases ho)
                  · repeat (first
                      | refine ax_ops_nil ?_
                      | refine ax_post_any ?_
                      | refine ax_q (q_loadagg_sym rfl rfl rfl rfl (by assumption) (by rfl) (by rfl) (by first | exact Nat.zero_lt_one | assumption | omega)) ?_)
                    refine ax_any_step (is := [14]) (by kernel_rfl) (by simp) rfl ⟨fun o ho => ?_, trivial⟩
                    all_goals (cases ho)
                    repeat (first
                      | refine ax_ops_nil ?_
                      | refine ax_post_any ?_
                      | refine ax_q (q_loadagg_sym rfl rfl rfl rfl (by assumption) (by rfl) (by rfl) (by first | exact Nat.zero_lt_one | assumption | omega)) ?_)
                    exact fin2 _ ⟨rfl, rfl, rfl, rfl, rfl, rfl, rfl, trivial⟩
                  · repeat (first
                      | refine ax_ops_nil ?_
                      | refine ax_post_any ?_
                      | refine ax_q (q_loadagg_sym rfl rfl rfl rfl (by assumption) (by rfl) (by rfl) (by first | exact Nat.zero_lt_one | assumption | omega)) ?_)
                    refine ax_any_step (is := [7]) (by kernel_rfl) (by simp) rfl ⟨fun o ho => ?_, trivial⟩
                    all_goals (cases ho)
                    repeat (first
                      | refine ax_ops_nil ?_
                      | refine ax_post_any ?_
                      | refine ax_q (q_loadagg_sym rfl rfl rfl rfl (by assumption) (by rfl) (by rfl) (by first | exact Nat.zero_lt_one | assumption | omega)) ?_)
                    exact fin2 _ ⟨rfl, rfl, rfl, rfl, rfl, rfl, rfl, trivial⟩
              · repeat (first
                  | refine ax_ops_nil ?_
                  | refine ax_post_any ?_
                  | refine ax_q (q_loadf_ptr rfl rfl rfl rfl rfl (by first | assumption | omega)) ?_)
                refine ax_any_q 13 rfl (by kernel_rfl) (by kernel_rfl) (by kernel_rfl) rfl (q_index_sym rfl rfl rfl (by assumption) (by rfl) (by first | (simp only [Nat.zero_add, Int.toNat_natCast, Int.toNat_zero]; exact rfl) | exact rfl) (by omega)) rfl ?_
                refine ax_any_step (is := [4, 14]) (by kernel_rfl) (by simp) rfl ⟨fun o ho => ?_, fun o ho => ?_, trivial⟩
                all_goals (cases ho)
                · repeat (first
                    | refine ax_ops_nil ?_
                    | refine ax_post_any ?_
                    | refine ax_q (q_loadf_ptr rfl rfl rfl rfl rfl (by first | assumption | omega)) ?_)
                  refine ax_any_q 6 rfl (by kernel_rfl) (by kernel_rfl) (by kernel_rfl) rfl (q_index_sym rfl rfl rfl (by assumption) (by rfl) (by first | (simp only [Nat.zero_add, Int.toNat_natCast, Int.toNat_zero]; exact rfl) | exact rfl) (by omega)) rfl ?_
                  refine ax_any_step (is := [7, 14]) (by kernel_rfl) (by simp) rfl ⟨fun o ho => ?_, fun o ho => ?_, trivial⟩
                  all_goals (cases ho)
                  · repeat (first
                      | refine ax_ops_nil ?_
                      | refine ax_post_any ?_
                      | refine ax_q (q_loadagg_sym rfl rfl rfl rfl (by assumption) (by rfl) (by rfl) (by first | exact Nat.zero_lt_one | assumption | omega)) ?_)
                    refine ax_any_step (is := [14]) (by kernel_rfl) (by simp) rfl ⟨fun o ho => ?_, trivial⟩
                    all_goals (cases ho)
                    repeat (first
                      | refine ax_ops_nil ?_
                      | refine ax_post_any ?_
                      | refine ax_q (q_loadagg_sym rfl rfl rfl rfl (by assumption) (by rfl) (by rfl) (by first | exact Nat.zero_lt_one | assumption | omega)) ?_)
                    exact fin2 _ ⟨rfl, rfl, rfl, rfl, rfl, rfl, rfl, trivial⟩
                  · repeat (first
                      | refine ax_ops_nil ?_
                      | refine ax_post_any ?_
                      | refine ax_q (q_loadagg_sym rfl rfl rfl rfl (by assumption) (by rfl) (by rfl) (by first | exact Nat.zero_lt_one | assumption | omega)) ?_)
                    refine ax_any_step (is := [7]) (by kernel_rfl) (by simp) rfl ⟨fun o ho => ?_, trivial⟩
                    all_goals (cases ho)
                    repeat (first
                      | refine ax_ops_nil ?_
                      | refine ax_post_any ?_
                      | refine ax_q (q_loadagg_sym rfl rfl rfl rfl (by assumption) (by rfl) (by rfl) (by first | exact Nat.zero_lt_one | assumption | omega)) ?_)
                    exact fin2 _ ⟨rfl, rfl, rfl, rfl, rfl, rfl, rfl, trivial⟩
                · repeat (first
                    | refine ax_ops_nil ?_
                    | refine ax_post_any ?_
                    | refine ax_q (q_loadagg_sym rfl rfl rfl rfl (by assumption) (by rfl) (by rfl) (by first | exact Nat.zero_lt_one | assumption | omega)) ?_)
                  refine ax_any_step (is := [4]) (by kernel_rfl) (by simp) rfl ⟨fun o ho => ?_, trivial⟩
                  all_goals (cases ho)
                  repeat (first
                    | refine ax_ops_nil ?_
                    | refine ax_post_any ?_
                    | refine ax_q (q_loadf_ptr rfl rfl rfl rfl rfl (by first | assumption | omega)) ?_)
                  refine ax_any_q 6 rfl (by kernel_rfl) (by kernel_rfl) (by kernel_rfl) rfl (q_index_sym rfl rfl rfl (by assumption) (by rfl) (by first | (simp only [Nat.zero_add, Int.toNat_natCast, Int.toNat_zero]; exact rfl) | exact rfl) (by omega)) rfl ?_
                  refine ax_any_step (is := [7]) (by kernel_rfl) (by simp) rfl ⟨fun o ho => ?_, trivial⟩
                  all_goals (cases ho)
                  repeat (first
                    | refine ax_ops_nil ?_
                    | refine ax_post_any ?_
                    | refine ax_q (q_loadagg_sym rfl rfl rfl rfl (by assumption) (by rfl) (by rfl) (by first | exact Nat.zero_lt_one | assumption | omega)) ?_)
                  exact fin2 _ ⟨rfl, rfl, rfl, rfl, rfl, rfl, rfl, trivial⟩
            · refine ax_slot_any 72 (intA (at2 r.T k w)) rfl (AEq.of_eq (by rw [g4]; rfl)) ?_
              refine ax_slot_any 79 (intA (at2 r.T k k)) rfl (AEq.of_eq (by rw [g5]; rfl)) ?_
              generalize Rat.divInt (at2 r.T k w) (at2 r.T k k) = q at *
              refine ax_any_step (is := [15]) (by kernel_rfl) (by simp) rfl ⟨fun o ho => ?_, trivial⟩
              all_goals (cases ho)
              refine ax_callv rfl rfl rfl cf ?_
              repeat (first
                | refine ax_ops_nil ?_
                | refine ax_post_any ?_)
              refine ax_any_step (is := [16]) (by kernel_rfl) (by simp) rfl ⟨fun o ho => ?_, trivial⟩
              all_goals (cases ho)
              repeat (first
                | refine ax_ops_nil ?_
                | refine ax_post_any ?_
                | refine ax_buildSliceRo rfl rfl rfl rfl rfl rfl rfl rfl rfl rfl rfl ?_)
              refine ax_any_step (is := [17]) (by kernel_rfl) (by simp) rfl ⟨fun o ho => ?_, trivial⟩
              all_goals (cases ho)
              refine ax_append rfl rfl rfl rfl rfl rfl rfl q3 rfl hql rfl rfl (by show 0 + 1 ≤ 1; omega) rfl (by show (k + 1) * 56 ≤ 140737488355328 ∧ k + 1 ≤ 9223372036854775807; omega) ?_ (by rw [hfix]; exact fun h => h) ?_
              · intro i' j hi hj
                exact rowE_noref 0 3 cellsQ cellsQ_noref qs q _ (rowQ1 q) (R.length + 3) i' j hi hj
              refine ax_heap_ops (redH R.length (w + 1) ρ X r [some ⟨108, qsC (qs ++ [q])⟩]) (red_append3 hP (rowE_snoc 0 3 cellsQ qs q _ (rowQ1 q))) ?_
              repeat (first
                | refine ax_ops_nil ?_
                | refine ax_post_any ?_)
              refine ax_any_q 18 rfl (by kernel_rfl) (by kernel_rfl) (by kernel_rfl) rfl (q_assign rfl) rfl ?_
              refine ax_any_done (by kernel_rfl) ?_
              repeat (first
                | refine ax_q (q_move rfl) ?_
                | refine ax_ops_nil ?_
                | refine ax_post_code ?_
                | refine ax_region rfl ?_
                | refine ax_post_blk ?_
                | refine ax_q (q_add rfl rfl (by omega)) ?_)
              exact ax_post_inv ⟨k + 1, by omega, by omega, ⟨rfl, rfl, rfl, rfl, rfl, trivial⟩, by rw [hsn]⟩
          · have hke : w = k := by omega
            subst hke
            repeat (first
              | refine ax_post_code ?_
              | refine ax_seq ?_
              | refine ax_exit ?_
              | refine ax_exit_here ?_
              | refine ax_exit_code ?_
              | refine ax_exit_inv ?_)
            refine ax_give_code (R.length + 3) 14 w [] (red_loc hP 0) (refless_qs _) rfl (by show w ≤ ((List.range w).map _).length; rw [List.length_map, List.length_range]; exact Nat.le_refl _) trivial ?_
            repeat (first
              | refine ax_q (q_move rfl) ?_
              | refine ax_q (q_assign rfl) ?_
              | refine ax_ops_nil ?_
              | refine ax_post_code ?_
              | refine ax_region rfl ?_
              | refine ax_return ?_)
            exact ax_ret hR rfl (by
              show AV.tup [.ro (qsC ((List.range w).map (fun k => Rat.divInt (at2 r.T k w) (at2 r.T k k)))) 0 w, .int .i64 0] = AV.tup [.ro (qsC ((List.range w).map (fun k => Rat.divInt (at2 r.T k w) (at2 r.T k k)))) 0 ((List.range w).map (fun k => Rat.divInt (at2 r.T k w) (at2 r.T k k))).length, .int .i64 0]
              rw [List.length_map, List.length_range])
    · rw [hAny, if_pos rfl] at hR
      have hlt : r.piv.length < R.length := by
        rcases Nat.lt_or_ge r.piv.length R.length with q | q
        · exact q
        · rw [List.drop_eq_nil_of_le (by omega)] at hAny; cases hAny
      refine ax_q (q_slice_sl rfl rfl rfl rfl rfl rfl rfl rfl (by omega)) ?_
      refine ax_slot_ops 41 (.sl 0 r.piv.length (R.length - r.piv.length)) rfl (AEq.of_eq (by rw [show (0 + ((r.piv.length : Nat) : Int).toNat) = r.piv.length by omega, show (((R.length : Nat) : Int) - (r.piv.length : Nat)).toNat = R.length - r.piv.length by omega])) ?_
      repeat (first
        | refine ax_q (q_move rfl) ?_
        | refine ax_ops_nil ?_
        | refine ax_post_code ?_
        | refine ax_block ?_
        | refine ax_q (q_len rfl rfl rfl) ?_)
      refine ax_loop (ι := Nat) (fun i => [(0, .ro (rowsQ R) 0 R.length), (1, .int .i64 (w : Nat)), (6, .sl 0 0 R.length), (11, .ptr (R.length + 1) 0 0), (41, .sl 0 r.piv.length (R.length - r.piv.length)), (42, .int .i64 (R.length - r.piv.length : Nat)), (43, .int .i64 (i : Nat))]) (fun _ => redH R.length (w + 1) ρ X r [])
        (fun i => i ≤ R.length - r.piv.length ∧ (r.T.drop r.piv.length).any (fun r => decide (r.getD w 0 ≠ 0)) = (r.T.drop (r.piv.length + i)).any (fun r => decide (r.getD w 0 ≠ 0))) (fun i => R.length - r.piv.length - i) 0 ⟨⟨rfl, rfl, rfl, rfl, rfl, rfl, rfl, trivial⟩, rfl, Nat.zero_le _, rfl⟩ ?_
      rintro i ⟨hi, hA⟩
      repeat (first
        | refine ax_ops_nil ?_
        | refine ax_post_code ?_
        | refine ax_seq ?_
        | refine ax_region rfl ?_
        | refine ax_q (q_lss rfl rfl) ?_)
      refine ax_cond_dec rfl (fun h2 => ?_) (fun h2 => ?_)
      · have hi' : r.piv.length + i < R.length := by omega
        have hd := any_step (l := r.T) (fun r : List Int => decide (r.getD w 0 ≠ 0)) [] (i := r.piv.length + i) (by omega)
        have g1 : r.piv.length + i < (outC (w + 1) ρ).len := by show r.piv.length + i < ρ.length; rw [hP.len]; exact hi'
        have q2 := red_row (L := w + 1) (r := r) (T := []) hP hi'
        have g3 : w < (zC (X.getD (ρ.getD (r.piv.length + i) 0) [])).len := by show w < (X.getD (ρ.getD (r.piv.length + i) 0) []).length; rw [tab_row hP hT hrow1 hi']; omega
        have g4 := tab_el hP hT hi' w
        have cs := isign_ok (at2 r.T (r.piv.length + i) w)
        unfold intA at cs
        repeat (first
          | refine ax_q (q_move rfl) ?_
          | refine ax_q (q_assign rfl) ?_
          | refine ax_ops_nil ?_
          | refine ax_post_code ?_
          | refine ax_seq ?_
          | refine ax_region rfl ?_
          | refine ax_block ?_
          | refine ax_skip ?_
          | refine ax_q (q_index_sl' rfl rfl rfl rfl rfl (by first | (simp only [Nat.zero_add, Int.toNat_natCast, Int.toNat_zero]; exact rfl) | exact rfl) (by omega)) ?_
          | refine ax_q (q_loadf_ptr rfl rfl rfl rfl rfl (by first | assumption | omega)) ?_
          | refine ax_q (q_index_sym rfl rfl rfl (by assumption) (by rfl) (by first | (simp only [Nat.zero_add, Int.toNat_natCast, Int.toNat_zero]; exact rfl) | exact rfl) (by omega)) ?_
          | refine ax_q (q_loadagg_sym rfl rfl rfl rfl (by assumption) (by rfl) (by rfl) (by first | exact Nat.zero_lt_one | assumption | omega)) ?_)
        refine ax_slot_ops 50 (intA (at2 r.T (r.piv.length + i) w)) rfl (AEq.of_eq (by rw [g4]; rfl)) ?_
        refine ax_callv rfl rfl rfl cs ?_
        repeat (first
          | refine ax_ops_nil ?_
          | refine ax_post_code ?_
          | refine ax_q (q_neq rfl rfl) ?_)
        refine ax_cond_dec rfl (fun h4 => ?_) (fun h4 => ?_)
        · rw [sgn_zeroI] at h4
          have hAt : (r.T.drop r.piv.length).any (fun r => decide (r.getD w 0 ≠ 0)) = true := by
            rw [hA, hd]
            simp only [Bool.or_eq_true, decide_eq_true_eq]
            exact .inl h4
          repeat (first
            | refine ax_q (q_assign rfl) ?_
            | refine ax_ops_nil ?_
            | refine ax_post_code ?_
            | refine ax_seq ?_
            | refine ax_region rfl ?_)
          refine ax_slot 4 (.ro (qsC []) 0 0) rfl AEq.nil ?_
          repeat (first
            | refine ax_return ?_
            | refine ax_ret_code ?_
            | refine ax_ret_blk ?_
            | refine ax_ret_inv ?_)
          exact ax_ret hR rfl rfl
        · rw [sgn_zeroI, Classical.not_not] at h4
          repeat (first
            | refine ax_q (q_move rfl) ?_
            | refine ax_ops_nil ?_
            | refine ax_post_code ?_
            | refine ax_region rfl ?_
            | refine ax_post_blk ?_
            | refine ax_skip ?_
            | refine ax_q (q_add rfl rfl (by omega)) ?_)
          exact ax_post_inv ⟨i + 1, ⟨by omega, by
            rw [hA, hd, Nat.add_assoc]
            show (decide (at2 r.T (r.piv.length + i) w ≠ 0) || _) = _
            rw [decide_eq_false (fun q => q h4), Bool.false_or]⟩, by omega, ⟨rfl, rfl, rfl, rfl, rfl, rfl, rfl, trivial⟩, rfl⟩
      · have hie : i = R.length - r.piv.length := by omega
        rw [hie, show r.piv.length + (R.length - r.piv.length) = r.T.length by omega, List.drop_length] at hA
        rw [hAny] at hA; cases hA
end Go.Proofs.YtgmleamhjnlknaaGreatDoor

namespace Go.Proofs.YtgmleamhjnlknaaGreatDoor
open Go.Ax Go.Ax.Bg Go.Ax.Rt Go.RowKit Go.Ax.Dt
attribute [local irreducible] Ax Post QOp ACall PureOp
set_option maxRecDepth 100000
set_option maxHeartbeats 4000000

theorem fits_big (q : Rat) (hq : Sz 100000000 q) (hb : 224 < (natL q.num.natAbs).length ∨ 224 < (natL q.den).length) : VCall Tryz.prog 154 [qA q, .int .i64 2000] (.bool (fitB q)) := by
  have g1 := hq.1
  have g2 := hq.2
  have b1 := @big_len q.num.natAbs 224 2000
  have b2 := @big_len q.den 224 2000
  unfold fitB
  refine ACall.value0 (acall_of_ax (P := Tryz.prog) (fn := Tryz.f154) rfl rfl (by kernel_rfl) rfl (fun c hR hfix => ?_)) (fix := fun _ => False) (fun _ h => h) rfl rfl
  unfold qA natA
  repeat (first
    | refine ax_q (q_move rfl) ?_
    | refine ax_q (q_assign rfl) ?_
    | refine ax_ops_nil ?_
    | refine ax_post_code ?_
    | refine ax_seq ?_
    | refine ax_region rfl ?_
    | refine ax_q (q_loadb_ptr rfl rfl rfl rfl rfl) ?_
    | refine ax_q (q_gtr rfl rfl) ?_
    | refine ax_q (q_len rfl rfl rfl) ?_
    | refine ax_q (q_add rfl rfl (by omega)) ?_
    | refine ax_q (q_quo rfl rfl (by omega)) ?_
    | refine ax_q (q_max rfl rfl) ?_
    | refine ax_q (q_field_ptr rfl rfl rfl rfl rfl rfl) ?_
    | refine ax_box rfl rfl ?_)
  refine ax_cond_dec rfl (fun h0 => ?_) (fun h0 => ?_)
  · repeat (first
      | refine ax_q (q_assign rfl) ?_
      | refine ax_ops_nil ?_
      | refine ax_post_code ?_
      | refine ax_seq ?_
      | refine ax_region rfl ?_
      | refine ax_return ?_
      | refine ax_ret_code ?_)
    refine ax_ret hR rfl ?_
    have h6 : ¬ ((Lib.decDigits q.num.natAbs).length ≤ 2000 ∧ (Lib.decDigits q.den).length ≤ 2000) := by
      rcases hb with h5 | h5
      · have := b1 h5 (by decide); omega
      · have := b2 h5 (by decide); omega
    rw [← Bool.decide_and, decide_eq_false h6]
    rfl
  · exfalso
    apply h0
    split <;> omega
theorem fits_ok2 (q : Rat) (hq : Sz 100000000 q) : VCall Tryz.prog 154 [qA q, .int .i64 2000] (.bool (fitB q)) := by
  by_cases h1 : 224 < (natL q.num.natAbs).length ∨ 224 < (natL q.den).length
  · exact fits_big q hq h1
  · exact fits_ok q ⟨by omega, by omega⟩
theorem fit_sz (q : Rat) (h : fitB q = true) : Sz 100000 q := by
  unfold fitB at h
  rw [Bool.and_eq_true, decide_eq_true_eq, decide_eq_true_eq] at h
  obtain ⟨h1, h2⟩ := h
  exact ⟨len_ten (Nat.le_of_lt (digits_lt _)) (by omega), len_ten (Nat.le_of_lt (digits_lt _)) (by omega)⟩
theorem out_no2 (q : Rat) (hq : Sz 100000000 q) (h : fitB q = false) : VCall Tryz.prog 89 [qA q] (.tup [.str [], .int .i64 2]) := by
  have h1 := fits_ok2 q hq
  rw [h] at h1
  refine ACall.value0 (acall_of_ax (P := Tryz.prog) (fn := Tryz.f89) rfl rfl (by kernel_rfl) rfl (fun c hR hfix => ?_)) (fix := fun _ => False) (fun _ h => h) rfl rfl
  repeat (first
    | refine ax_q (q_assign rfl) ?_
    | refine ax_ops_nil ?_
    | refine ax_post_code ?_
    | refine ax_seq ?_
    | refine ax_region rfl ?_
    | refine ax_q (q_loadpart_ptr rfl rfl rfl rfl rfl rfl rfl (by first | exact Nat.zero_lt_one | assumption | omega)) ?_
    | refine ax_box rfl rfl ?_)
  refine ax_callv rfl rfl rfl h1 ?_
  repeat (first
    | refine ax_q (q_assign rfl) ?_
    | refine ax_ops_nil ?_
    | refine ax_post_code ?_
    | refine ax_seq ?_
    | refine ax_region rfl ?_
    | refine ax_cond_true rfl ?_
    | refine ax_return ?_
    | refine ax_ret_code ?_
    | refine ax_q (q_not rfl) ?_)
  exact ax_ret hR rfl rfl
theorem out_ok2 (q : Rat) (hq : Sz 100000000 q) : VCall Tryz.prog 89 [qA q] (pairA (outF q)) := by
  cases h : fitB q
  · unfold outF
    rw [h]
    exact out_no2 q hq h
  · exact out_ok q (fit_sz q h)
theorem outAll_no2 (l : List Rat) (hlen : l.length ≤ 1000000) (hs : ∀ q ∈ l, Sz 100000000 q) (hall : l.all fitB = false) : VCall Tryz.prog 75 [.ro (qsC l) 0 l.length] (.tup [.nil, .int .i64 2]) := by
  refine ACall.value0 (acall_of_ax (P := Tryz.prog) (fn := Tryz.f75) rfl rfl (by kernel_rfl) rfl (fun c hR hfix => ?_)) (fix := fun _ => False) (fun _ h => h) rfl rfl
  repeat (first
    | refine ax_q (q_move rfl) ?_
    | refine ax_q (q_assign rfl) ?_
    | refine ax_ops_nil ?_
    | refine ax_post_code ?_
    | refine ax_seq ?_
    | refine ax_region rfl ?_
    | refine ax_q (q_len rfl rfl rfl) ?_)
  refine ax_nilobj 4 ⟨40, .strs []⟩ rfl rfl ?_
  repeat (refine ax_block ?_)
  refine ax_loop (ι := Nat) (fun k => [(0, .ro (qsC l) 0 l.length), (4, .sl 0 0 k), (9, .ro (qsC l) 0 l.length), (10, .int .i64 (l.length : Nat)), (11, .int .i64 (k : Nat))]) (fun k => [some ⟨40, .strs ((l.take k).map textQ)⟩])
    (fun k => k ≤ l.length ∧ (l.drop k).all fitB = false) (fun k => l.length - k) 0 ⟨⟨rfl, rfl, rfl, rfl, rfl, trivial⟩, rfl, Nat.zero_le _, hall⟩ ?_
  rintro k ⟨hk, hA⟩
  repeat (first
    | refine ax_ops_nil ?_
    | refine ax_post_code ?_
    | refine ax_seq ?_
    | refine ax_region rfl ?_
    | refine ax_q (q_lss rfl rfl) ?_)
  refine ax_cond_dec rfl (fun h => ?_) (fun h => ?_)
  · have hk' : k < l.length := by omega
    have hz := hs _ (getD_mem 0 hk')
    have hd := drop_cons (d := (0 : Rat)) hk'
    rw [hd, List.all_cons] at hA
    have htk := map_take_succ textQ l 0 k hk'
    have hml : ((l.take k).map textQ).length = k := by rw [List.length_map, List.length_take]; omega
    generalize hX : (l.take k).map textQ = ts at *
    repeat (first
      | refine ax_post_code ?_
      | refine ax_seq ?_
      | refine ax_region rfl ?_
      | refine ax_block ?_
      | refine ax_skip ?_
      | refine ax_q (q_index_ro' rfl rfl rfl rfl (by first | (simp only [Nat.zero_add, Int.toNat_natCast, Int.toNat_zero]; exact rfl) | exact rfl) (by omega)) ?_
      | refine ax_q (q_loadagg_rp rfl rfl rfl rfl rfl rfl) ?_
      | refine ax_alloc rfl rfl rfl ?_)
    refine ax_slot_ops 14 (.agg (cellsQ (l.getD k 0))) rfl (AEq.of_eq rfl) ?_
    generalize l.getD k 0 = q at *
    refine ax_storeagg (c' := .box (cellsQ q)) rfl rfl rfl rfl rfl Nat.zero_lt_one rfl rfl (fun i' j' hi' hj' => ?_) ?_
    · rw [if_pos (Nat.lt_one_iff.1 hi')]; rfl
    cases hf : fitB q
    · have hc := out_no2 q hz hf
      repeat (first
        | refine ax_ops_nil ?_
        | refine ax_post_code ?_
        | refine ax_seq ?_
        | refine ax_region rfl ?_
        | refine ax_q (q_loadpart_ptr rfl rfl rfl rfl rfl rfl rfl (by first | exact Nat.zero_lt_one | assumption | omega)) ?_)
      refine ax_callv rfl rfl rfl hc ?_
      repeat (first
        | refine ax_q (q_move rfl) ?_
        | refine ax_q (q_assign rfl) ?_
        | refine ax_ops_nil ?_
        | refine ax_post_code ?_
        | refine ax_seq ?_
        | refine ax_region rfl ?_
        | refine ax_cond_true rfl ?_
        | refine ax_return ?_
        | refine ax_ret_code ?_
        | refine ax_ret_blk ?_
        | refine ax_ret_inv ?_
        | refine ax_q (q_neq rfl rfl) ?_
        | refine ax_q (q_extract rfl rfl) ?_)
      exact ax_ret hR rfl rfl
    · have hc := out_yes q (fit_sz q hf) hf
      rw [hf, Bool.true_and] at hA
      repeat (first
        | refine ax_ops_nil ?_
        | refine ax_post_code ?_
        | refine ax_seq ?_
        | refine ax_region rfl ?_
        | refine ax_q (q_loadpart_ptr rfl rfl rfl rfl rfl rfl rfl (by first | exact Nat.zero_lt_one | assumption | omega)) ?_)
      refine ax_callv rfl rfl rfl hc ?_
      repeat (first
        | refine ax_q (q_move rfl) ?_
        | refine ax_q (q_assign rfl) ?_
        | refine ax_ops_nil ?_
        | refine ax_post_code ?_
        | refine ax_seq ?_
        | refine ax_region rfl ?_
        | refine ax_cond_false rfl ?_
        | refine ax_skip ?_
        | refine ax_q (q_neq rfl rfl) ?_
        | refine ax_q (q_extract rfl rfl) ?_
        | refine ax_buildSliceRo rfl rfl rfl rfl rfl rfl rfl rfl rfl rfl rfl ?_)
      refine ax_append rfl rfl rfl rfl rfl rfl rfl rfl rfl hml rfl rfl (by show 0 + 1 ≤ 1; omega) rfl (by show (k + 1) * 16 ≤ _ ∧ _; omega) (fun i j _ _ => rfl) (by rw [hfix]; exact fun h => h) ?_
      repeat (first
        | refine ax_q (q_assign rfl) ?_
        | refine ax_ops_nil ?_
        | refine ax_post_blk ?_)
      refine ax_post_code ?_
      refine ax_heap ([some ⟨40, .strs ((l.take (k + 1)).map textQ)⟩] ++ [none]) ?_ ?_
      · rw [htk]
        exact HSub.eqv (CEq.refl _) (HSub.drop HSub.nil)
      refine ax_drop (H1 := [some ⟨40, .strs ((l.take (k + 1)).map textQ)⟩]) rfl (by rw [hfix]; exact fun h => h) ?_
      repeat (first
        | refine ax_q (q_move rfl) ?_
        | refine ax_ops_nil ?_
        | refine ax_region rfl ?_
        | refine ax_q (q_add rfl rfl (by omega)) ?_)
      exact ax_post_inv ⟨k + 1, ⟨by omega, hA⟩, by omega, ⟨rfl, rfl, rfl, rfl, rfl, trivial⟩, rfl⟩
  · have hk' : k = l.length := by omega
    subst hk'
    rw [List.drop_length] at hA
    exact absurd hA (by decide)
theorem outAll_ok2 (l : List Rat) (hlen : l.length ≤ 1000000) (hs : ∀ q ∈ l, Sz 100000000 q) : ∃ r : AV, VCall Tryz.prog 75 [.ro (qsC l) 0 l.length] (.tup [r, .int .i64 (outAllF l).2]) ∧ AEq r (.ro (.strs (outAllF l).1) 0 (outAllF l).1.length) := by
  cases h : l.all fitB
  · refine ⟨.nil, ?_, ?_⟩
    · have := outAll_no2 l hlen hs h
      unfold outAllF; rw [h]; exact this
    · unfold outAllF; rw [h]; exact AEq.nil
  · exact outAll_ok l hlen (fun q hq => fit_sz q (List.all_eq_true.1 h q hq))
end Go.Proofs.YtgmleamhjnlknaaGreatDoor

namespace Go.Proofs.YtgmleamhjnlknaaGreatDoor
open Go.Ax Go.Ax.Bg Go.Ax.Rt Go.RowKit Go.Ax.Dt
attribute [local irreducible] Ax Post QOp ACall PureOp
set_option maxRecDepth 100000
set_option maxHeartbeats 4000000

theorem prodFac_snoc (r : List Rat) : ∀ (l : List (List Rat)) (f : Nat), prodFac f (l ++ [r]) = prodFac f l * facF 1 r
  | [], f => rfl
  | a :: l, f => by rw [List.cons_append, prodFac, prodFac, prodFac_snoc r l]
theorem det_ok (m : List (List Text)) (hlen : m.length ≤ 9223372036854775807) (hr : ∀ r ∈ m, r.length ≤ 9223372036854775807 ∧ ∀ s ∈ r, s.length ≤ 9223372036854775807) : VCall Tryz.prog 41 [.ro (rowsT m) 0 m.length] (pairA (detR m)) := by
  have cm := mcheck_ok m hlen hr
  have cwd := width_ok m hlen
  have c0 := small_ok 1 (by decide)
  refine ACall.value0 (acall_of_ax (P := Tryz.prog) (fn := Tryz.f41) rfl rfl (by kernel_rfl) rfl (fun c hR hfix => ?_)) (fix := fun _ => False) (fun _ h => h) rfl rfl
  unfold pairA detR at hR
  repeat (first
    | refine ax_q (q_move rfl) ?_
    | refine ax_q (q_assign rfl) ?_
    | refine ax_ops_nil ?_
    | refine ax_post_code ?_
    | refine ax_seq ?_
    | refine ax_region rfl ?_)
  refine ax_callv rfl rfl rfl cm ?_
  repeat (first
    | refine ax_q (q_move rfl) ?_
    | refine ax_q (q_assign rfl) ?_
    | refine ax_ops_nil ?_
    | refine ax_post_code ?_
    | refine ax_seq ?_
    | refine ax_region rfl ?_
    | refine ax_q (q_neq rfl rfl) ?_)
  refine ax_cond_dec rfl (fun h1 => ?_) (fun h1 => ?_)
  · rw [if_pos h1] at hR
    repeat (first
      | refine ax_q (q_move rfl) ?_
      | refine ax_q (q_assign rfl) ?_
      | refine ax_ops_nil ?_
      | refine ax_post_code ?_
      | refine ax_seq ?_
      | refine ax_region rfl ?_
      | refine ax_return ?_
      | refine ax_ret_code ?_)
    exact ax_ret hR rfl rfl
  rw [if_neg h1] at hR
  have em := Classical.not_not.1 h1
  repeat (first
    | refine ax_q (q_move rfl) ?_
    | refine ax_post_code ?_
    | refine ax_seq ?_
    | refine ax_region rfl ?_
    | refine ax_skip ?_
    | refine ax_q (q_len rfl rfl rfl) ?_)
  refine ax_callv rfl rfl rfl cwd ?_
  repeat (first
    | refine ax_ops_nil ?_
    | refine ax_post_code ?_
    | refine ax_q (q_neq rfl rfl) ?_)
  refine ax_cond_dec rfl (fun h2 => ?_) (fun h2 => ?_)
  · rw [if_pos (by omega)] at hR
    repeat (first
      | refine ax_q (q_assign rfl) ?_
      | refine ax_ops_nil ?_
      | refine ax_post_code ?_
      | refine ax_seq ?_
      | refine ax_region rfl ?_
      | refine ax_return ?_
      | refine ax_ret_code ?_)
    exact ax_ret hR rfl rfl
  rw [if_neg (by omega)] at hR
  have hsq : widM m = m.length := by omega
  have hn40 := widM_le em
  rw [hsq] at hn40
  have hQ := valid_in em
  rw [hsq] at hQ
  have hQl := inM_len m
  have hM := matE_zero em
  obtain ⟨E, hE8⟩ : ∃ E : Nat, E = 80000 := ⟨_, rfl⟩
  have ci := min_ok m (by omega) (fun r h => ⟨by have := hM.cols r h; omega, fun s hs => ⟨(hr r h).2 s hs, hM.ok r h s hs⟩⟩)
  repeat (first
    | refine ax_post_code ?_
    | refine ax_seq ?_
    | refine ax_region rfl ?_
    | refine ax_skip ?_)
  refine ax_callv rfl rfl rfl c0 ?_
  repeat (first
    | refine ax_q (q_move rfl) ?_
    | refine ax_q (q_assign rfl) ?_
    | refine ax_ops_nil ?_
    | refine ax_post_code ?_
    | refine ax_seq ?_
    | refine ax_region rfl ?_)
  refine ax_callv rfl rfl rfl ci ?_
  repeat (first
    | refine ax_q (q_move rfl) ?_
    | refine ax_ops_nil ?_
    | refine ax_post_code ?_
    | refine ax_q (q_len rfl rfl rfl) ?_)
  refine ax_nilobj 6 ⟨147, outC m.length (List.range 0)⟩ rfl rfl ?_
  repeat (refine ax_block ?_)
  refine ax_loop (ι := Nat) (fun k => [(0, .ro (rowsT m) 0 m.length), (5, natA (prodFac 1 ((inM m).take k))), (6, .sl 0 0 k), (25, .ro (rowsQ (inM m)) 0 m.length), (26, .int .i64 (m.length : Nat)), (27, .int .i64 (k : Nat))]) (fun k => outH m.length k (((inM m).take k).map wholeL) [])
    (fun k => k ≤ m.length) (fun k => m.length - k) 0 ⟨⟨rfl, rfl, rfl, rfl, rfl, rfl, trivial⟩, rfl, Nat.zero_le _⟩ ?_
  intro k hk
  repeat (first
    | refine ax_ops_nil ?_
    | refine ax_post_code ?_
    | refine ax_seq ?_
    | refine ax_region rfl ?_
    | refine ax_q (q_lss rfl rfl) ?_)
  refine ax_cond_dec rfl (fun h => ?_) (fun h => ?_)
  · have hk' : k < (inM m).length := by omega
    obtain ⟨b1, b2⟩ := hQ _ (getD_mem [] hk')
    have cw := whole_ok' ((inM m).getD k []) 2000 b2 (by omega) (by rw [b1]; omega)
    have htk := map_take_succ wholeL (inM m) [] k hk'
    have hml : (((inM m).take k).map wholeL).length = k := by rw [List.length_map, List.length_take]; omega
    have hps : prodFac 1 ((inM m).take (k + 1)) = prodFac 1 ((inM m).take k) * facF 1 ((inM m).getD k []) := by
      rw [List.take_succ_eq_append_getElem hk', prodFac_snoc, get_el [] hk']
    have hfl : ∀ r ∈ inM m, facF 1 r ≤ 10 ^ E := fun r h => Nat.le_trans (facF_le r 1 (fun q hq => ((hQ r h).2 q hq).2)) (by
      rw [Nat.one_mul]; exact Nat.pow_le_pow_right (by decide) (by rw [(hQ r h).1]; omega))
    have hf1 := len_ten (m := 8900) (hfl _ (getD_mem [] hk')) (by omega)
    have hp1 : (natL (prodFac 1 ((inM m).take k))).length ≤ 400000 := by
      refine len_ten (k := E * 40) (Nat.le_trans (prodFac_le _ 1 (fun r h => hfl r (List.mem_of_mem_take h))) ?_) (by omega)
      rw [Nat.one_mul]
      exact Nat.pow_le_pow_right (by decide) (Nat.mul_le_mul_left _ (by rw [List.length_take]; omega))
    have cmul := mul_ok (prodFac 1 ((inM m).take k)) (facF 1 ((inM m).getD k [])) (by omega) (by omega)
    rw [← hps] at cmul
    clear hps hfl hf1 hp1
    generalize hpf1 : prodFac 1 ((inM m).take (k + 1)) = pf1 at *
    generalize prodFac 1 ((inM m).take k) = pf at *
    generalize ((inM m).take k).map wholeL = Z at *
    have eH : (outH m.length k Z []).length = k + 1 := by rw [nest_len, hml]; rfl
    repeat (first
      | refine ax_q (q_move rfl) ?_
      | refine ax_q (q_assign rfl) ?_
      | refine ax_ops_nil ?_
      | refine ax_post_code ?_
      | refine ax_seq ?_
      | refine ax_region rfl ?_
      | refine ax_block ?_
      | refine ax_skip ?_
      | refine ax_q (q_loadf_rp rfl rfl rfl rfl) ?_
      | refine ax_q (q_index_ro' rfl rfl rfl rfl (by first | (simp only [Nat.zero_add, Int.toNat_natCast, Int.toNat_zero]; exact rfl) | exact rfl) (by omega)) ?_)
    refine ax_calls (.tup [.sl (k + 1) 0 m.length, natA (facF 1 ((inM m).getD k []))]) (nestH ⟨147, outC m.length (List.range k)⟩ 106 zC (Z ++ [wholeL ((inM m).getD k [])]) []) rfl rfl rfl cw (by rw [eH, b1]; show AV.tup [AV.sl (0 + (k + 1)) 0 m.length, _] = _; rw [Nat.zero_add]; rfl) (out_snoc hml _) ?_
    repeat (first
      | refine ax_q (q_move rfl) ?_
      | refine ax_q (q_assign rfl) ?_
      | refine ax_ops_nil ?_
      | refine ax_post_code ?_
      | refine ax_region rfl ?_
      | refine ax_q (q_extract rfl rfl) ?_)
    refine ax_buildSlice rfl rfl rfl rfl rfl rfl rfl rfl rfl rfl ?_
    have hml2 : (Z ++ [wholeL ((inM m).getD k [])]).length = k + 1 := by rw [List.length_append, hml]; rfl
    have e2 : (nestH ⟨147, outC m.length (List.range k)⟩ 106 zC (Z ++ [wholeL ((inM m).getD k [])]) []).length = k + 2 := by rw [nest_len, hml2]; rfl
    refine ax_heap_eq_ops (nestH ⟨147, outC m.length (List.range k)⟩ 106 zC (Z ++ [wholeL ((inM m).getD k [])]) [some ⟨147, rowOf 1 1 [.sl (k + 1) 0 m.length]⟩]) (by rw [nest_app]; rfl) ?_
    refine ax_slot_ops 38 (.sl (k + 2) 0 1) rfl (AEq.of_eq (by rw [e2])) ?_
    have f1 : (nestH ⟨147, outC m.length (List.range k)⟩ 106 zC (Z ++ [wholeL ((inM m).getD k [])]) [some ⟨147, rowOf 1 1 [.sl (k + 1) 0 m.length]⟩])[k + 2]? = some (some ⟨147, rowOf 1 1 [.sl (k + 1) 0 m.length]⟩) := by
      have := nest_loc (O := ⟨147, outC m.length (List.range k)⟩) (t := 106) (f := zC) (X := Z ++ [wholeL ((inM m).getD k [])]) (L := [some ⟨147, rowOf 1 1 [.sl (k + 1) 0 m.length]⟩]) (j := 0)
      rw [hml2] at this; exact this
    have hol : (outC m.length (List.range k)).len = k := List.length_range
    skip
    refine ax_append rfl rfl rfl rfl rfl rfl rfl rfl rfl hol rfl (srcOf_sl f1) (by show 0 + 1 ≤ 1; omega) rfl (by show (k + 1) * 24 ≤ _ ∧ _; omega) ?_ (by rw [hfix]; exact fun h => h) ?_
    · intro i' j hi hj
      obtain rfl := Nat.lt_one_iff.1 (show j < 1 from hj)
      have q := (outC_snoc m.length k (rowOf 1 1 [AV.sl (k + 1) 0 m.length]) rfl).2.2 i' 0 hi Nat.zero_lt_one
      exact (congrArg (AV.forget 0) q.symm).trans q
    refine ax_heap_ops (nestH ⟨147, outC m.length (List.range (k + 1))⟩ 106 zC (Z ++ [wholeL ((inM m).getD k [])]) [none]) (nest_append zC_forget (outC_snoc m.length k _ rfl) (HSub.drop HSub.nil)) ?_
    repeat (refine ax_q (q_move rfl) ?_)
    refine ax_callv rfl rfl rfl cmul ?_
    repeat (first
      | refine ax_q (q_assign rfl) ?_
      | refine ax_ops_nil ?_
      | refine ax_post_blk ?_)
    refine ax_post_code ?_
    refine ax_cutP (outH m.length (k + 1) (Z ++ [wholeL ((inM m).getD k [])]) []) [none] [(0, .ro (rowsT m) 0 m.length), (5, natA pf1), (6, .sl 0 0 (k + 1)), (25, .ro (rowsQ (inM m)) 0 m.length), (26, .int .i64 (m.length : Nat)), (27, .int .i64 (k : Nat))] (by rw [nest_app]; rfl) ⟨rfl, rfl, rfl, rfl, rfl, rfl, trivial⟩ (fun h hh => by rw [hfix] at hh; exact absurd hh id)
      (by rw [nest_len, hml2]; exact out_below hml2 (Nat.le_add_right _ _)) (by rw [nest_len, hml2]; simp [belowF, belowA, natA]) ?_
    repeat (first
      | refine ax_q (q_move rfl) ?_
      | refine ax_ops_nil ?_
      | refine ax_region rfl ?_
      | refine ax_q (q_add rfl rfl (by omega)) ?_)
    exact ax_post_inv ⟨k + 1, by omega, by omega, ⟨rfl, by rw [hpf1]; rfl, rfl, rfl, rfl, rfl, trivial⟩, by rw [htk]⟩
  · have hke : k = m.length := by omega
    subst hke
    have ht : (inM m).take m.length = inM m := List.take_of_length_le (by omega)
    rw [ht]
    have cr := reduce_ok ((inM m).map wholeL) m.length m.length m.length (2000 + 2000 * m.length) (by rw [List.length_map, hQl]) (by omega) (fun x hx => by
      obtain ⟨r, hr1, rfl⟩ := List.mem_map.1 hx
      rw [wholeL_len]; exact (hQ r hr1).1) (by omega) (Nat.le_refl _) (fun a j ha hj => at2_whole_abs hQ a j (by omega) hj) (Nat.le_trans (Nat.mul_le_mul (Nat.le_trans (Nat.add_le_add_right (Nat.add_le_add_left (Nat.mul_le_mul_left 2000 hn40) 2000) 2) (Nat.le_refl 82002)) hn40) (by decide))
    obtain ⟨inv, hB⟩ := solT_inv (w := m.length) hQ (Nat.le_refl _)
    rw [hQl] at inv hB
    have bnd := inv.bound hB
    have hpf := prodFac_pos (inM m) 1 (by decide)
    repeat (first
      | refine ax_q (q_move rfl) ?_
      | refine ax_post_code ?_
      | refine ax_seq ?_
      | refine ax_region rfl ?_
      | refine ax_exit ?_
      | refine ax_exit_here ?_
      | refine ax_exit_code ?_
      | refine ax_exit_inv ?_
      | refine ax_q (q_len rfl rfl rfl) ?_)
    refine ax_callc rfl rfl rfl cr (fun h hh => by rw [nest_len, List.length_map, hQl] at hh; exact hh) (fun h hh => by rw [nest_len, List.length_map, hQl]; exact hh) ?_
    rintro r' H' ⟨ρ, X, hP, hT, rfl, rfl⟩
    unfold detQ at hR
    rw [hQl] at hR
    unfold solT at hR inv bnd
    have hpl := inv.pl
    have hl1 := inv.last
    generalize redN ((inM m).map wholeL) m.length = r at *
    have hsz : ∀ x : Int, x.natAbs ≤ fct m.length * (10 ^ (2000 + 2000 * m.length)) ^ m.length → (natL x.natAbs).length ≤ 400001 := fun x hx => len_ten (Nat.le_trans hx (det_ten hn40)) (by
      have : (2000 + 2000 * m.length + 2) * m.length ≤ 82002 * 40 := Nat.mul_le_mul (by omega) hn40
      omega)
    obtain ⟨bT, bL⟩ := bnd
    have hbl := hsz _ bL
    have q7 := red_box (L := m.length) (r := r) (T := []) hP
    repeat (first
      | refine ax_q (q_move rfl) ?_
      | refine ax_q (q_assign rfl) ?_
      | refine ax_ops_nil ?_
      | refine ax_post_code ?_
      | refine ax_seq ?_
      | refine ax_region rfl ?_
      | refine ax_q (q_lss rfl rfl) ?_
      | refine ax_q (q_len rfl rfl rfl) ?_
      | refine ax_q (q_nilcheck_ptr rfl) ?_
      | refine ax_q (q_field_ptr rfl rfl rfl rfl rfl rfl) ?_
      | refine ax_q (q_loadb_sym rfl rfl rfl (by assumption) (by rfl)) ?_)
    refine ax_cond_dec rfl (fun h5 => ?_) (fun h5 => ?_)
    · rw [if_pos (by omega)] at hR
      repeat (first
        | refine ax_q (q_assign rfl) ?_
        | refine ax_ops_nil ?_
        | refine ax_post_code ?_
        | refine ax_seq ?_
        | refine ax_region rfl ?_
        | refine ax_return ?_
        | refine ax_ret_code ?_)
      exact ax_ret hR rfl rfl
    rw [if_neg (by omega)] at hR
    repeat (first
      | refine ax_q (q_move rfl) ?_
      | refine ax_post_code ?_
      | refine ax_seq ?_
      | refine ax_region rfl ?_
      | refine ax_skip ?_
      | refine ax_q (q_nilcheck_ptr rfl) ?_
      | refine ax_q (q_field_ptr rfl rfl rfl rfl rfl rfl) ?_
      | refine ax_q (q_loadpart_sym rfl rfl rfl rfl (by assumption) (by rfl) (by rfl) (by first | exact Nat.zero_lt_one | assumption | omega)) ?_
      | refine ax_alloc rfl rfl rfl ?_)
    refine ax_heap_eq_ops (redH m.length m.length ρ X r [some ⟨106, .box [.bool false, .nil]⟩]) (by rw [red_app]; rfl) ?_
    refine ax_slot_ops 12 (.ptr (m.length + 3) 0 0) rfl (AEq.of_eq (by rw [red_len hP]; rfl)) ?_
    refine ax_slot_ops 59 (intA r.last) rfl (AEq.of_eq rfl) ?_
    refine ax_storeagg (c' := .box (cellsI r.last)) rfl rfl rfl (red_loc hP 0) rfl Nat.zero_lt_one rfl rfl (fun i' j' hi' hj' => ?_) ?_
    · rw [if_pos (Nat.lt_one_iff.1 hi')]; rfl
    refine ax_heap_eq_ops (redH m.length m.length ρ X r [some ⟨106, .box (cellsI r.last)⟩]) (red_set_loc hP 0 _) ?_
    have q8 := red_box (L := m.length) (r := r) (T := [some ⟨106, .box (cellsI r.last)⟩]) hP
    have q9 := red_loc (L := m.length) (r := r) (T := [some ⟨106, .box (cellsI r.last)⟩]) hP 0
    have hE2 : (2000 + 2000 * m.length + 2) * m.length ≤ 3300000 := Nat.le_trans (Nat.mul_le_mul (show 2000 + 2000 * m.length + 2 ≤ 82002 by omega) hn40) (by decide)
    obtain ⟨EE, hEE⟩ : ∃ EE : Nat, EE = 3300001 := ⟨_, rfl⟩
    have hle : ∀ x : Nat, x ≤ fct m.length * (10 ^ (2000 + 2000 * m.length)) ^ m.length → x < 10 ^ EE := fun x hx => Nat.lt_of_le_of_lt (Nat.le_trans hx (det_ten hn40)) (Nat.pow_lt_pow_right (by decide) (by omega))
    have hfl : ∀ r ∈ inM m, facF 1 r ≤ 10 ^ E := fun r h => Nat.le_trans (facF_le r 1 (fun q hq => ((hQ r h).2 q hq).2)) (by
      rw [Nat.one_mul]; exact Nat.pow_le_pow_right (by decide) (by rw [(hQ r h).1]; omega))
    have hPb : prodFac 1 (inM m) < 10 ^ EE := by
      refine Nat.lt_of_le_of_lt (prodFac_le (inM m) 1 hfl) ?_
      rw [Nat.one_mul, hQl]
      refine Nat.pow_lt_pow_right (by decide) ?_
      have : E * m.length ≤ 80000 * 40 := by rw [hE8]; exact Nat.mul_le_mul_left _ hn40
      omega
    have hPne : ((prodFac 1 (inM m) : Nat) : Int) ≠ 0 := by omega
    have hvb : ∀ v : Int, v.natAbs = r.last.natAbs → v.natAbs < 10 ^ EE := fun v hv => by rw [hv]; exact hle _ bL
    have fr' : ∀ v : Int, v.natAbs = r.last.natAbs → VCall Tryz.prog 72 [intA v, intA ((prodFac 1 (inM m) : Nat) : Int)] (qA (Rat.divInt v (prodFac 1 (inM m) : Nat))) := fun v hv =>
      frac_ok v _ hPne (len_ten (Nat.le_of_lt (hvb v hv)) (by omega)) (len_ten (Nat.le_of_lt (by rw [Int.natAbs_natCast]; exact hPb)) (by omega))
    have ou : ∀ v : Int, v.natAbs = r.last.natAbs → v ≠ 0 → VCall Tryz.prog 89 [qA (Rat.divInt v (prodFac 1 (inM m) : Nat))] (pairA (outF (Rat.divInt v (prodFac 1 (inM m) : Nat)))) := fun v hv _ => by
      have hD := d_frac (k := EE) hPne (hvb v hv) (by rw [Int.natAbs_natCast]; exact hPb)
      exact out_ok2 _ ⟨len_ten (Nat.le_of_lt hD.1) (by omega), len_ten (Nat.le_of_lt hD.2) (by omega)⟩
    repeat (first
      | refine ax_q (q_move rfl) ?_
      | refine ax_ops_nil ?_
      | refine ax_post_code ?_
      | refine ax_seq ?_
      | refine ax_region rfl ?_
      | refine ax_q (q_nilcheck_ptr rfl) ?_
      | refine ax_q (q_field_ptr rfl rfl rfl rfl rfl rfl) ?_
      | refine ax_q (q_loadb_sym rfl rfl rfl (by assumption) (by rfl)) ?_)
    refine ax_cond rfl (fun h6 => ?_) (fun h6 => ?_)
    · rw [h6, if_pos rfl] at hR
      repeat (first
        | refine ax_region rfl ?_
        | refine ax_q (q_loadagg_sym rfl rfl rfl rfl (by assumption) (by rfl) (by rfl) (by first | exact Nat.zero_lt_one | assumption | omega)) ?_)
      refine ax_slot_ops 64 (intA r.last) rfl (AEq.of_eq rfl) ?_
      refine ax_callv rfl rfl rfl (iopp_ok r.last) ?_
      skip
      refine ax_storeagg (c' := .box (cellsI (-r.last))) rfl rfl rfl (red_loc hP 0) rfl Nat.zero_lt_one rfl rfl (fun i' j' hi' hj' => ?_) ?_
      · rw [if_pos (Nat.lt_one_iff.1 hi')]; rfl
      refine ax_heap_eq_ops (redH m.length m.length ρ X r [some ⟨106, .box (cellsI (-r.last))⟩]) (red_set_loc hP 0 _) ?_
      have q10 := red_loc (L := m.length) (r := r) (T := [some ⟨106, .box (cellsI (-r.last))⟩]) hP 0
      repeat (first
        | refine ax_q (q_move rfl) ?_
        | refine ax_ops_nil ?_
        | refine ax_post_code ?_
        | refine ax_seq ?_
        | refine ax_region rfl ?_
        | refine ax_q (q_build rfl rfl rfl rfl rfl rfl) ?_
        | refine ax_q (q_loadagg_sym rfl rfl rfl rfl (by assumption) (by rfl) (by rfl) (by first | exact Nat.zero_lt_one | assumption | omega)) ?_)
      refine ax_slot_ops 66 (intA (-r.last)) rfl (AEq.of_eq rfl) ?_
      refine ax_slot_ops 68 (intA ((prodFac 1 (inM m) : Nat) : Int)) rfl (AEq.of_eq (by
        unfold intA
        rw [decide_eq_false (Int.not_lt.2 (Int.natCast_nonneg _)), Int.natAbs_natCast]; rfl)) ?_
      refine ax_callv rfl rfl rfl (fr' ((-r.last)) (by omega)) ?_
      skip
      refine ax_callv rfl rfl rfl (ou ((-r.last)) (by omega) (by omega)) ?_
      unfold pairA
      repeat (first
        | refine ax_q (q_assign rfl) ?_
        | refine ax_ops_nil ?_
        | refine ax_post_code ?_
        | refine ax_return ?_
        | refine ax_q (q_extract rfl rfl) ?_)
      exact ax_ret hR rfl rfl
    · rw [h6, if_neg Bool.false_ne_true] at hR
      repeat (first
        | refine ax_q (q_move rfl) ?_
        | refine ax_post_code ?_
        | refine ax_seq ?_
        | refine ax_region rfl ?_
        | refine ax_skip ?_
        | refine ax_q (q_build rfl rfl rfl rfl rfl rfl) ?_
        | refine ax_q (q_loadagg_sym rfl rfl rfl rfl (by assumption) (by rfl) (by rfl) (by first | exact Nat.zero_lt_one | assumption | omega)) ?_)
      refine ax_slot_ops 66 (intA r.last) rfl (AEq.of_eq rfl) ?_
      refine ax_slot_ops 68 (intA ((prodFac 1 (inM m) : Nat) : Int)) rfl (AEq.of_eq (by
        unfold intA
        rw [decide_eq_false (Int.not_lt.2 (Int.natCast_nonneg _)), Int.natAbs_natCast]; rfl)) ?_
      refine ax_callv rfl rfl rfl (fr' (r.last) (by omega)) ?_
      skip
      refine ax_callv rfl rfl rfl (ou (r.last) (by omega) (by omega)) ?_
      unfold pairA
      repeat (first
        | refine ax_q (q_assign rfl) ?_
        | refine ax_ops_nil ?_
        | refine ax_post_code ?_
        | refine ax_return ?_
        | refine ax_q (q_extract rfl rfl) ?_)
      exact ax_ret hR rfl rfl
end Go.Proofs.YtgmleamhjnlknaaGreatDoor

namespace Go.Proofs.YtgmleamhjnlknaaGreatDoor
open Go.Ax Go.Ax.Bg Go.Ax.Rt Go.RowKit Go.Ax.Dt
attribute [local irreducible] Ax Post QOp ACall PureOp
set_option maxRecDepth 100000
set_option maxHeartbeats 4000000

theorem inFm_ok (l : List (List UInt8)) (hlen : l.length ≤ 1000000) (hs : ∀ s ∈ l, s.length ≤ 9223372036854775807 ∧ ratE s = 0) : FCall Tryz.prog 70 [.ro (.strs l) 0 l.length] (fun h => .sl h 0 l.length) ⟨108, qsC (l.map ratV)⟩ := by
  refine ACall.fresh (K := fun r H => r = .sl 0 0 l.length ∧ H = [some ⟨108, qsC (l.map ratV)⟩]) (acall_of_ax (P := Tryz.prog) (fn := Tryz.f70) rfl rfl (by kernel_rfl) rfl (fun c hR hfix => ?_)) (fix := fun _ => False) (fun _ h => h) rfl (fun H => ⟨rfl, by simp [inBs, inB]⟩) ?_
  · repeat (first
      | refine ax_q (q_move rfl) ?_
      | refine ax_q (q_assign rfl) ?_
      | refine ax_ops_nil ?_
      | refine ax_post_code ?_
      | refine ax_seq ?_
      | refine ax_region rfl ?_
      | refine ax_q (q_len rfl rfl rfl) ?_)
    refine ax_nilobj 3 ⟨108, qsC []⟩ rfl rfl ?_
    repeat (refine ax_block ?_)
    refine ax_loop (ι := Nat) (fun k => [(0, .ro (.strs l) 0 l.length), (3, .sl 0 0 k), (6, .ro (.strs l) 0 l.length), (7, .int .i64 (l.length : Nat)), (8, .int .i64 (k : Nat))]) (fun k => [some ⟨108, qsC ((l.take k).map ratV)⟩])
      (fun k => k ≤ l.length) (fun k => l.length - k) 0 ⟨⟨rfl, rfl, rfl, rfl, rfl, trivial⟩, rfl, Nat.zero_le _⟩ ?_
    intro k hk
    repeat (first
      | refine ax_ops_nil ?_
      | refine ax_post_code ?_
      | refine ax_seq ?_
      | refine ax_region rfl ?_
      | refine ax_q (q_lss rfl rfl) ?_)
    refine ax_cond_dec rfl (fun h => ?_) (fun h => ?_)
    · have hk' : k < l.length := by omega
      obtain ⟨b1, b2⟩ := hs _ (getD_mem [] hk')
      have hc := parse_ok (l.getD k []) b1 b2
      have htk := map_take_succ ratV l [] k hk'
      have hml : ((l.take k).map ratV).length = k := by rw [List.length_map, List.length_take]; omega
      generalize (l.take k).map ratV = qs at *
      repeat (first
        | refine ax_q (q_move rfl) ?_
        | refine ax_q (q_assign rfl) ?_
        | refine ax_ops_nil ?_
        | refine ax_post_code ?_
        | refine ax_seq ?_
        | refine ax_region rfl ?_
        | refine ax_block ?_
        | refine ax_skip ?_
        | refine ax_q (q_loads_rp rfl rfl rfl) ?_
        | refine ax_q (q_index_ro' rfl rfl rfl rfl (by first | (simp only [Nat.zero_add, Int.toNat_natCast, Int.toNat_zero]; exact rfl) | exact rfl) (by omega)) ?_)
      refine ax_callv rfl rfl rfl hc ?_
      unfold qA
      repeat (refine ax_buildSliceRo rfl rfl rfl rfl rfl rfl rfl rfl rfl rfl rfl ?_)
      refine ax_append rfl rfl rfl rfl rfl rfl rfl rfl rfl hml rfl rfl (by show 0 + 1 ≤ 1; omega) rfl (by show (k + 1) * 56 ≤ _ ∧ _; omega) ?_ (by rw [hfix]; exact fun h => h) ?_
      · intro i' j hi hj
        exact rowE_noref 0 3 cellsQ cellsQ_noref qs (ratV (l.getD k [])) _ (rowQ1 _) 0 i' j hi hj
      repeat (first
        | refine ax_q (q_assign rfl) ?_
        | refine ax_ops_nil ?_
        | refine ax_post_blk ?_)
      refine ax_post_code ?_
      refine ax_heap [some ⟨108, qsC ((l.take (k + 1)).map ratV)⟩] ?_ ?_
      · rw [htk]
        exact HSub.eqv (rowE_snoc 0 3 cellsQ qs (ratV (l.getD k [])) _ (rowQ1 _)) HSub.nil
      repeat (first
        | refine ax_q (q_move rfl) ?_
        | refine ax_ops_nil ?_
        | refine ax_region rfl ?_
        | refine ax_q (q_add rfl rfl (by omega)) ?_)
      exact ax_post_inv ⟨k + 1, by omega, by omega, ⟨rfl, rfl, rfl, rfl, rfl, trivial⟩, rfl⟩
    · have hk' : k = l.length := by omega
      subst hk'
      rw [List.take_length]
      repeat (first
        | refine ax_q (q_move rfl) ?_
        | refine ax_q (q_assign rfl) ?_
        | refine ax_ops_nil ?_
        | refine ax_post_code ?_
        | refine ax_seq ?_
        | refine ax_region rfl ?_
        | refine ax_exit ?_
        | refine ax_exit_here ?_
        | refine ax_exit_code ?_
        | refine ax_exit_inv ?_
        | refine ax_return ?_)
      exact ax_ret hR rfl ⟨rfl, rfl⟩
  · rintro r H ⟨rfl, rfl⟩
    refine ⟨?_, fun h o ho => refl1 (refless_qs _) h o ho, 0, rfl, fun n => rfl⟩
    intro o ho; simp at ho; subst ho
    show 0 + l.length ≤ (l.map ratV).length
    rw [List.length_map, Nat.zero_add]; exact Nat.le_refl _
theorem qsC_forget (h : Nat) (a : List Rat) : (qsC a).forget h = qsC a := by
  show Cells.fn _ _ _ = Cells.fn _ _ _
  congr 1
  funext i j
  match j with
  | 0 => rfl
  | 1 => rfl
  | 2 => rfl
  | _ + 3 => rfl
theorem nest_append2 {α : Type} {O : AObj} {f : α → Cells} {t : TypeId} {X : List α} {T T' : AHeap} {c' c'' : Cells} (hf : ∀ h a, (f a).forget h = f a) (hc : CEq c' c'') (hT : HSub (forgetH 0 T) T') :
    HSub ((forgetH 0 (nestH O t f X T)).set 0 (some ⟨O.ty, c'⟩)) (nestH ⟨O.ty, c''⟩ t f X T') := by
  rw [forget_nest 0 (hf 0)]
  exact nest_sub (O := ⟨O.ty, c'⟩) ⟨rfl, hc⟩ hT
theorem inQ_below {L k m : Nat} {Z : List (List Rat)} (hm : k + 1 ≤ m) : ∀ (h : Nat) (o : AObj), (nestH ⟨102, outC L (List.range k)⟩ 108 (fun r : List Rat => qsC r) Z [])[h]? = some (some o) → belowP m o.c := by
  intro h o ho
  have hmem := List.mem_of_getElem? ho
  unfold nestH at hmem
  rw [List.mem_cons, List.append_nil] at hmem
  rcases hmem with e | hmem
  · cases e
    intro i j hi hj
    obtain rfl := Nat.lt_one_iff.1 (show j < 1 from hj)
    have hi : i < (List.range k).length := hi
    have e : (List.range k).getD i 0 = i := by rw [get_el 0 hi, List.getElem_range]
    rw [List.length_range] at hi
    show belowA m (AV.sl ((List.range k).getD i 0 + 1) 0 L) = true
    rw [e]
    exact Nat.ble_eq_true_of_le (show i + 1 + 1 ≤ m by omega)
  · obtain ⟨a, _, e⟩ := List.mem_map.1 hmem
    cases e
    intro i j hi hj
    have hj' : j < 3 := hj
    match j, hj' with
    | 0, _ => rfl
    | 1, _ => rfl
    | 2, _ => rfl
/-- matrix.In: the rows are the caller's. -/
theorem min_own (m : List (List Text)) (w : Nat) (hlen : m.length ≤ 1000000) (hw : w ≤ 1000000) (hr : ∀ r ∈ m, r.length = w ∧ ∀ s ∈ r, s.length ≤ 9223372036854775807 ∧ ratE s = 0) :
    ACall Tryz.prog 64 [.ro (rowsT m) 0 m.length] [] (fun _ => False) (fun r H' => r = .sl 0 0 m.length ∧ H' = nestH ⟨102, outC w (List.range m.length)⟩ 108 (fun r : List Rat => qsC r) (inM m) []) := by
  refine acall_of_ax (P := Tryz.prog) (fn := Tryz.f64) rfl rfl (by kernel_rfl) rfl (fun c hR hfix => ?_)
  repeat (first
    | refine ax_q (q_move rfl) ?_
    | refine ax_q (q_assign rfl) ?_
    | refine ax_ops_nil ?_
    | refine ax_post_code ?_
    | refine ax_seq ?_
    | refine ax_region rfl ?_
    | refine ax_q (q_len rfl rfl rfl) ?_)
  refine ax_nilobj 3 ⟨102, outC w (List.range 0)⟩ rfl rfl ?_
  repeat (refine ax_block ?_)
  refine ax_loop (ι := Nat) (fun k => [(0, .ro (rowsT m) 0 m.length), (3, .sl 0 0 k), (6, .ro (rowsT m) 0 m.length), (7, .int .i64 (m.length : Nat)), (8, .int .i64 (k : Nat))]) (fun k => nestH ⟨102, outC w (List.range k)⟩ 108 (fun r : List Rat => qsC r) ((m.take k).map (fun r => r.map ratV)) [])
    (fun k => k ≤ m.length) (fun k => m.length - k) 0 ⟨⟨rfl, rfl, rfl, rfl, rfl, trivial⟩, rfl, Nat.zero_le _⟩ ?_
  intro k hk
  repeat (first
    | refine ax_ops_nil ?_
    | refine ax_post_code ?_
    | refine ax_seq ?_
    | refine ax_region rfl ?_
    | refine ax_q (q_lss rfl rfl) ?_)
  refine ax_cond_dec rfl (fun h => ?_) (fun h => ?_)
  · have hk' : k < m.length := by omega
    obtain ⟨b1, b2⟩ := hr _ (getD_mem [] hk')
    have hc := inFm_ok (m.getD k []) (by omega) b2
    have htk := map_take_succ (fun r : List Text => r.map ratV) m [] k hk'
    have hml : ((m.take k).map (fun r : List Text => r.map ratV)).length = k := by rw [List.length_map, List.length_take]; omega
    generalize (m.take k).map (fun r : List Text => r.map ratV) = Z at *
    rw [b1] at hc
    have eH : (nestH ⟨102, outC w (List.range k)⟩ 108 (fun r : List Rat => qsC r) Z []).length = k + 1 := by rw [nest_len, hml]; rfl
    repeat (first
      | refine ax_q (q_move rfl) ?_
      | refine ax_q (q_assign rfl) ?_
      | refine ax_ops_nil ?_
      | refine ax_post_code ?_
      | refine ax_seq ?_
      | refine ax_region rfl ?_
      | refine ax_block ?_
      | refine ax_skip ?_
      | refine ax_q (q_loadf_rp rfl rfl rfl rfl) ?_
      | refine ax_q (q_index_ro' rfl rfl rfl rfl (by first | (simp only [Nat.zero_add, Int.toNat_natCast, Int.toNat_zero]; exact rfl) | exact rfl) (by omega)) ?_)
    refine ax_slot_ops 13 (.ro (.strs (m.getD k [])) 0 w) rfl (AEq.of_eq (by rw [← b1]; rfl)) ?_
    refine ax_callf rfl rfl rfl hc ?_
    refine ax_heap_eq_ops (nestH ⟨102, outC w (List.range k)⟩ 108 (fun r : List Rat => qsC r) (Z ++ [(m.getD k []).map ratV]) []) (nest_snoc (f := fun r : List Rat => qsC r) _) ?_
    refine ax_slot_ops 14 (.sl (k + 1) 0 w) rfl (AEq.of_eq (by rw [eH])) ?_
    generalize (m.getD k []).map ratV = z at *
    skip
    refine ax_buildSlice rfl rfl rfl rfl rfl rfl rfl rfl rfl rfl ?_
    have hml2 : (Z ++ [z]).length = k + 1 := by rw [List.length_append, hml]; rfl
    have e2 : (nestH ⟨102, outC w (List.range k)⟩ 108 (fun r : List Rat => qsC r) (Z ++ [z]) []).length = k + 2 := by rw [nest_len, hml2]; rfl
    refine ax_heap_eq_ops (nestH ⟨102, outC w (List.range k)⟩ 108 (fun r : List Rat => qsC r) (Z ++ [z]) [some ⟨102, rowOf 1 1 [.sl (k + 1) 0 w]⟩]) (by rw [nest_app]; rfl) ?_
    refine ax_slot_ops 15 (.sl (k + 2) 0 1) rfl (AEq.of_eq (by rw [e2])) ?_
    have f1 : (nestH ⟨102, outC w (List.range k)⟩ 108 (fun r : List Rat => qsC r) (Z ++ [z]) [some ⟨102, rowOf 1 1 [.sl (k + 1) 0 w]⟩])[k + 2]? = some (some ⟨102, rowOf 1 1 [.sl (k + 1) 0 w]⟩) := by
      have := nest_loc (O := ⟨102, outC w (List.range k)⟩) (t := 108) (f := (fun r : List Rat => qsC r)) (X := Z ++ [z]) (L := [some ⟨102, rowOf 1 1 [.sl (k + 1) 0 w]⟩]) (j := 0)
      rw [hml2] at this; exact this
    have hol : (outC w (List.range k)).len = k := List.length_range
    skip
    refine ax_append rfl rfl rfl rfl rfl rfl rfl rfl rfl hol rfl (srcOf_sl f1) (by show 0 + 1 ≤ 1; omega) rfl (by show (k + 1) * 24 ≤ _ ∧ _; omega) ?_ (by rw [hfix]; exact fun h => h) ?_
    · intro i' j hi hj
      obtain rfl := Nat.lt_one_iff.1 (show j < 1 from hj)
      have q := (outC_snoc w k (rowOf 1 1 [AV.sl (k + 1) 0 w]) rfl).2.2 i' 0 hi Nat.zero_lt_one
      exact (congrArg (AV.forget 0) q.symm).trans q
    refine ax_heap_ops (nestH ⟨102, outC w (List.range (k + 1))⟩ 108 (fun r : List Rat => qsC r) (Z ++ [z]) [none]) (nest_append2 (O := ⟨102, outC w (List.range k)⟩) qsC_forget (outC_snoc w k _ rfl) (HSub.drop HSub.nil)) ?_
    repeat (first
      | refine ax_q (q_assign rfl) ?_
      | refine ax_ops_nil ?_
      | refine ax_post_blk ?_)
    refine ax_post_code ?_
    refine ax_cutP (nestH ⟨102, outC w (List.range (k + 1))⟩ 108 (fun r : List Rat => qsC r) (Z ++ [z]) []) [none] [(0, .ro (rowsT m) 0 m.length), (3, .sl 0 0 (k + 1)), (6, .ro (rowsT m) 0 m.length), (7, .int .i64 (m.length : Nat)), (8, .int .i64 (k : Nat))] (by rw [nest_app]; rfl) ⟨rfl, rfl, rfl, rfl, rfl, trivial⟩ (fun h hh => by rw [hfix] at hh; exact absurd hh id)
      (by rw [nest_len, hml2]; exact inQ_below (Nat.le_add_right _ _)) (by rw [nest_len, hml2]; simp [belowF, belowA]) ?_
    repeat (first
      | refine ax_q (q_move rfl) ?_
      | refine ax_ops_nil ?_
      | refine ax_region rfl ?_
      | refine ax_q (q_add rfl rfl (by omega)) ?_)
    exact ax_post_inv ⟨k + 1, by omega, by omega, ⟨rfl, rfl, rfl, rfl, rfl, trivial⟩, by rw [htk]⟩
  · have hke : k = m.length := by omega
    subst hke
    rw [List.take_length]
    repeat (first
      | refine ax_q (q_move rfl) ?_
      | refine ax_q (q_assign rfl) ?_
      | refine ax_ops_nil ?_
      | refine ax_post_code ?_
      | refine ax_seq ?_
      | refine ax_region rfl ?_
      | refine ax_exit ?_
      | refine ax_exit_here ?_
      | refine ax_exit_code ?_
      | refine ax_exit_inv ?_
      | refine ax_return ?_)
    exact ax_ret hR rfl ⟨rfl, rfl⟩

theorem blt_no {a b : Nat} (h : b ≤ a) : Nat.blt a b = false := by
  cases e : Nat.blt a b with
  | false => rfl
  | true =>
    have : a + 1 ≤ b := Nat.le_of_ble_eq_true e
    omega
theorem blt_yes {a b : Nat} (h : a < b) : Nat.blt a b = true := Nat.ble_eq_true_of_le h
abbrev inO (n w i : Nat) : Cells := .fn n 1 (fun a _ => bif Nat.blt a i then AV.any else .sl (a + 1) 0 w)
def rowO (Q : List (List Rat)) (i a : Nat) : Option AObj := if a < i then none else some ⟨108, qsC (Q.getD a [])⟩
abbrev solL (n : Nat) (Q : List (List Rat)) (i : Nat) : AHeap := (List.range n).map (rowO Q i)
abbrev solH (n w i : Nat) (Q A : List (List Rat)) : AHeap := some ⟨102, inO n w i⟩ :: (solL n Q i ++ [some ⟨102, rowsQ A⟩])
abbrev solM (n w i : Nat) (Q A : List (List Rat)) (x : List Rat) : AHeap := some ⟨102, inO n w (i + 1)⟩ :: ((solL n Q i).set i (some ⟨108, qsC x⟩) ++ [some ⟨102, rowsQ A⟩])
theorem solL_len (n : Nat) (Q : List (List Rat)) (i : Nat) : (solL n Q i).length = n := by simp [solL]
theorem solH_row {n w i : Nat} {Q A : List (List Rat)} (hi : i < n) : (solH n w i Q A)[i + 1]? = some (some ⟨108, qsC (Q.getD i [])⟩) := by
  show (solL n Q i ++ [_])[i]? = _
  rw [at_front (by rw [solL_len]; exact hi)]
  simp [solL, rowO, hi]
theorem solH_m {n w i : Nat} {Q A : List (List Rat)} : (solH n w i Q A)[n + 1]? = some (some ⟨102, rowsQ A⟩) := by
  show (solL n Q i ++ [_])[n]? = _
  rw [at_back (i := 0) (by rw [solL_len]; rfl)]; rfl
theorem solM_row {n w i : Nat} {Q A : List (List Rat)} {x : List Rat} (hi : i < n) : (solM n w i Q A x)[i + 1]? = some (some ⟨108, qsC x⟩) := by
  show ((solL n Q i).set i (some ⟨108, qsC x⟩) ++ [some ⟨102, rowsQ A⟩])[i]? = _
  rw [at_front (by rw [List.length_set, solL_len]; exact hi), List.getElem?_set_self (by rw [solL_len]; exact hi)]
theorem solM_give {n w i : Nat} {Q A : List (List Rat)} {x : List Rat} (hi : i < n) : (solM n w i Q A x).set (i + 1) none = solH n w (i + 1) Q A := by
  show some _ :: ((solL n Q i).set i (some ⟨108, qsC x⟩) ++ ([some ⟨102, rowsQ A⟩] : AHeap)).set i none = _
  rw [set_front none (by rw [List.length_set, solL_len]; exact hi), List.set_set]
  have e : (solL n Q i).set i none = solL n Q (i + 1) := by
    apply List.ext_getElem (by simp [solL])
    intro a h1 h2
    rw [List.getElem_set]
    simp only [solL, List.getElem_map, List.getElem_range, rowO]
    by_cases h3 : i = a
    · rw [if_pos h3, if_pos (by omega)]
    · rw [if_neg h3]
      by_cases h4 : a < i
      · rw [if_pos h4, if_pos (by omega)]
      · rw [if_neg h4, if_neg (by omega)]
  rw [e]
theorem forget_rowO (h : Nat) (Q : List (List Rat)) (i : Nat) : ∀ l : List Nat, forgetH h (l.map (rowO Q i)) = l.map (rowO Q i)
  | [] => rfl
  | a :: r => by
    show forgetO h (rowO Q i a) :: forgetH h (r.map (rowO Q i)) = _
    rw [forget_rowO h Q i r]
    congr 1
    unfold rowO
    split
    · rfl
    · show (some (⟨108, (qsC (Q.getD a [])).forget h⟩ : AObj) : Option AObj) = some ⟨108, qsC (Q.getD a [])⟩
      rw [qsC_forget]
theorem rowsQ_forget (h : Nat) (A : List (List Rat)) : (rowsQ A).forget h = rowsQ A := by
  show Cells.fn _ _ _ = Cells.fn _ _ _
  congr 1
  funext i j
  match j with
  | 0 => rfl
  | _ + 1 => rfl
theorem forget_rowsQ1 (h : Nat) (t : TypeId) (A : List (List Rat)) : forgetH h ([some ⟨t, rowsQ A⟩] : AHeap) = ([some ⟨t, rowsQ A⟩] : AHeap) := by
  show ([some ⟨t, (rowsQ A).forget h⟩] : AHeap) = _
  rw [rowsQ_forget]
theorem hsub_set1 {t : TypeId} {a b : Cells} (hc : CEq a b) (H : AHeap) (i : Nat) : HSub (H.set i (some ⟨t, a⟩)) (H.set i (some ⟨t, b⟩)) := by
  refine ⟨by rw [List.length_set, List.length_set], fun h o' ho => ?_⟩
  by_cases e : i = h
  · subst e
    by_cases hl : i < H.length
    · rw [List.getElem?_set_self hl] at ho ⊢
      cases ho
      exact ⟨_, rfl, rfl, hc⟩
    · rw [List.getElem?_eq_none (by rw [List.length_set]; omega)] at ho; cases ho
  · rw [List.getElem?_set_ne e] at ho ⊢
    exact ⟨o', ho, rfl, CEq.refl _⟩
theorem sol_grow {n w i : Nat} {Q A : List (List Rat)} {x : List Rat} {c' : Cells} (hi : i < n) (hc : CEq c' (qsC x)) :
    HSub ((forgetH (i + 1) (solH n w i Q A)).set (i + 1) (some ⟨108, c'⟩)) (solM n w i Q A x) := by
  show HSub (some ⟨102, (inO n w i).forget (i + 1)⟩ :: (forgetH (i + 1) (solL n Q i ++ [some ⟨102, rowsQ A⟩])).set i _) _
  rw [forget_app, forget_rowO, forget_rowsQ1]
  show HSub (_ :: (solL n Q i ++ _).set i _) _
  rw [set_front _ (by rw [solL_len]; exact hi)]
  refine HSub.eqv ⟨rfl, rfl, fun a j ha hj => ?_⟩ (HSub.append (hsub_set1 hc _ _) (HSub.refl _))
  show (bif Nat.blt a (i + 1) then AV.any else .sl (a + 1) 0 w) = AV.forget (i + 1) (bif Nat.blt a i then AV.any else .sl (a + 1) 0 w)
  rcases Nat.lt_trichotomy a i with h | h | h
  · rw [blt_yes (show a < i + 1 by omega), blt_yes h]; try rfl
  · subst h
    rw [blt_yes (show a < a + 1 by omega), blt_no (Nat.le_refl a)]
    simp [AV.forget]
  · rw [blt_no (show i + 1 ≤ a from h), blt_no (show i ≤ a by omega)]
    show _ = (bif Nat.beq (a + 1) (i + 1) then AV.any else _)
    rw [beq_ne (by omega)]
theorem sol_app {n w i : Nat} {Q A A' : List (List Rat)} {c' : Cells} (hc : CEq c' (rowsQ A')) :
    HSub ((forgetH (n + 1) (solH n w i Q A)).set (n + 1) (some ⟨102, c'⟩)) (solH n w i Q A') := by
  show HSub (some ⟨102, (inO n w i).forget (n + 1)⟩ :: (forgetH (n + 1) (solL n Q i ++ [some ⟨102, rowsQ A⟩])).set n _) _
  rw [forget_app, forget_rowO, forget_rowsQ1]
  show HSub (_ :: (solL n Q i ++ _).set n _) _
  rw [set_back (i := 0) _ (by rw [solL_len]; rfl)]
  refine HSub.eqv ⟨rfl, rfl, fun a j ha hj => ?_⟩ (HSub.append (HSub.refl _) (HSub.eqv hc HSub.nil))
  have ha : a < n := ha
  show (bif Nat.blt a i then AV.any else .sl (a + 1) 0 w) = AV.forget (n + 1) (bif Nat.blt a i then AV.any else .sl (a + 1) 0 w)
  cases Nat.blt a i
  · show _ = (bif Nat.beq (a + 1) (n + 1) then AV.any else _)
    rw [beq_ne (by omega)]
  · rfl
theorem sol_start {n w : Nat} {Q : List (List Rat)} (hQ : Q.length = n) :
    HSub (nestH ⟨102, outC w (List.range n)⟩ 108 (fun r : List Rat => qsC r) Q [] ++ [some ⟨102, rowsQ []⟩]) (solH n w 0 Q []) := by
  rw [nest_app]
  have e : manyH 108 (fun r : List Rat => qsC r) Q = solL n Q 0 := by
    apply List.ext_getElem (by simp [manyH, solL, hQ])
    intro a h1 h2
    have ha : a < Q.length := by simpa [manyH] using h1
    simp [manyH, solL, rowO, List.getD, ha]
  unfold nestH
  rw [e]
  refine HSub.eqv ⟨List.length_range.symm, rfl, fun a j ha hj => ?_⟩ (HSub.refl _)
  obtain rfl := Nat.lt_one_iff.1 (show j < 1 from hj)
  have ha : a < (List.range n).length := ha
  show (bif Nat.blt a 0 then AV.any else .sl (a + 1) 0 w) = AV.sl ((List.range n).getD a 0 + 1) 0 w
  rw [get_el 0 ha, List.getElem_range]; rfl
end Go.Proofs.YtgmleamhjnlknaaGreatDoor

namespace Go.Proofs.YtgmleamhjnlknaaGreatDoor
open Go.Ax Go.Ax.Bg Go.Ax.Rt Go.RowKit Go.Ax.Dt
attribute [local irreducible] Ax Post QOp ACall PureOp
set_option maxRecDepth 100000
set_option maxHeartbeats 4000000

theorem aug_snoc (Q : List (List Rat)) (b : List Rat) {i : Nat} (hi : i < Q.length) : (augQ Q b).take (i + 1) = (augQ Q b).take i ++ [Q.getD i [] ++ [b.getD i 0]] := by
  have h1 : i < (augQ Q b).length := by rw [augQ_len]; exact hi
  rw [List.take_succ_eq_append_getElem h1, ← get_el [] h1, augQ_get _ _ hi]
theorem solve_piv {rows : List (List Rat)} {k w : Nat} (h : ∀ r ∈ rows, r.length = w + 1 ∧ ∀ q ∈ r, D k q) (h0 : (solveQ rows w).2 = 0) : (solT rows w).piv.length = w := by
  obtain ⟨hI, hB⟩ := solT_inv (w := w) h (Nat.le_succ w)
  unfold solveQ at h0
  split at h0
  · cases h0
  split at h0
  · cases h0
  have := hI.pc
  omega
theorem solveQ_len (rows : List (List Rat)) (w : Nat) : (solveQ rows w).1.length ≤ w := by
  unfold solveQ
  split
  · exact Nat.zero_le _
  split
  · exact Nat.zero_le _
  · simp
theorem lin_ok (m : List (List Text)) (b : List Text) (hlm : m.length ≤ 9223372036854775807) (hlv : b.length ≤ 9223372036854775807) (hrm : ∀ r ∈ m, r.length ≤ 9223372036854775807 ∧ ∀ s ∈ r, s.length ≤ 9223372036854775807) (hrv : ∀ s ∈ b, s.length ≤ 9223372036854775807) : VCall Tryz.prog 40 [.ro (rowsT m) 0 m.length, .ro (.strs b) 0 b.length] (vecP (solveR m b)) := by
  have cm := mcheck_ok m hlm hrm
  have cv := vec_ok b hlv hrv
  have cwd := width_ok m hlm
  refine ACall.value0 (acall_of_ax (P := Tryz.prog) (fn := Tryz.f40) rfl rfl (by kernel_rfl) rfl (fun c hR hfix => ?_)) (fix := fun _ => False) (fun _ h => h) rfl rfl
  unfold solveR at hR
  repeat (first
    | refine ax_q (q_move rfl) ?_
    | refine ax_q (q_assign rfl) ?_
    | refine ax_ops_nil ?_
    | refine ax_post_code ?_
    | refine ax_seq ?_
    | refine ax_region rfl ?_)
  refine ax_callv rfl rfl rfl cm ?_
  repeat (first
    | refine ax_q (q_move rfl) ?_
    | refine ax_q (q_assign rfl) ?_
    | refine ax_ops_nil ?_
    | refine ax_post_code ?_
    | refine ax_seq ?_
    | refine ax_region rfl ?_
    | refine ax_q (q_neq rfl rfl) ?_)
  refine ax_cond_dec rfl (fun h1 => ?_) (fun h1 => ?_)
  · rw [if_pos h1] at hR
    repeat (first
      | refine ax_q (q_move rfl) ?_
      | refine ax_q (q_assign rfl) ?_
      | refine ax_ops_nil ?_
      | refine ax_post_code ?_
      | refine ax_seq ?_
      | refine ax_region rfl ?_)
    refine ax_slot 4 (.ro (.strs []) 0 0) rfl AEq.nil ?_
    repeat (first
      | refine ax_return ?_
      | refine ax_ret_code ?_)
    exact ax_ret hR rfl rfl
  rw [if_neg h1] at hR
  have em := Classical.not_not.1 h1
  repeat (first
    | refine ax_q (q_move rfl) ?_
    | refine ax_post_code ?_
    | refine ax_seq ?_
    | refine ax_region rfl ?_
    | refine ax_skip ?_)
  refine ax_callv rfl rfl rfl cv ?_
  repeat (first
    | refine ax_q (q_move rfl) ?_
    | refine ax_q (q_assign rfl) ?_
    | refine ax_ops_nil ?_
    | refine ax_post_code ?_
    | refine ax_seq ?_
    | refine ax_region rfl ?_
    | refine ax_q (q_neq rfl rfl) ?_)
  refine ax_cond_dec rfl (fun h2 => ?_) (fun h2 => ?_)
  · rw [if_pos h2] at hR
    repeat (first
      | refine ax_q (q_move rfl) ?_
      | refine ax_q (q_assign rfl) ?_
      | refine ax_ops_nil ?_
      | refine ax_post_code ?_
      | refine ax_seq ?_
      | refine ax_region rfl ?_)
    refine ax_slot 4 (.ro (.strs []) 0 0) rfl AEq.nil ?_
    repeat (first
      | refine ax_return ?_
      | refine ax_ret_code ?_)
    exact ax_ret hR rfl rfl
  rw [if_neg h2] at hR
  have ev := Classical.not_not.1 h2
  obtain ⟨lv, av⟩ := vecE_zero ev
  repeat (first
    | refine ax_q (q_move rfl) ?_
    | refine ax_ops_nil ?_
    | refine ax_post_code ?_
    | refine ax_seq ?_
    | refine ax_region rfl ?_
    | refine ax_skip ?_
    | refine ax_q (q_neq rfl rfl) ?_
    | refine ax_q (q_len rfl rfl rfl) ?_)
  refine ax_cond_dec rfl (fun h3 => ?_) (fun h3 => ?_)
  · rw [if_pos (by omega)] at hR
    repeat (first
      | refine ax_q (q_assign rfl) ?_
      | refine ax_ops_nil ?_
      | refine ax_post_code ?_
      | refine ax_seq ?_
      | refine ax_region rfl ?_)
    refine ax_slot 4 (.ro (.strs []) 0 0) rfl AEq.nil ?_
    repeat (first
      | refine ax_return ?_
      | refine ax_ret_code ?_)
    exact ax_ret hR rfl rfl
  rw [if_neg (by omega)] at hR
  have hbl : b.length = m.length := by omega
  have hM := matE_zero em
  have hw40 := widM_le em
  have hQ := valid_in em
  have hbD := valid_vec ev
  have hQl := inM_len m
  have hbql : (b.map ratV).length = m.length := by rw [List.length_map]; exact hbl
  have nv := in_ok' b (by omega) (fun s hs => ⟨hrv s hs, allE_mem av s hs⟩)
  have nm := min_own m (widM m) (by omega) (by omega) (fun r h => ⟨hM.cols r h, fun s hs => ⟨(hrm r h).2 s hs, hM.ok r h s hs⟩⟩)
  have haug := augQ_D hQ hbD (by omega)
  have haugl : (augQ (inM m) (b.map ratV)).length = m.length := by rw [augQ_len]; exact hQl
  have cs := solve_ok (augQ (inM m) (b.map ratV)) (widM m) 2000 (by omega) hw40 haug (by
    rw [haugl]
    have : (2000 + 2000 * (widM m + 1) + 2) * m.length ≤ 84002 * 40 := Nat.mul_le_mul (by omega) (by omega)
    omega) (by omega)
  rw [haugl] at cs
  have dS : (solveQ (augQ (inM m) (b.map ratV)) (widM m)).2 = 0 → ∀ q ∈ (solveQ (augQ (inM m) (b.map ratV)) (widM m)).1, Sz 100000000 q := fun h0 q hq => by
    obtain ⟨EE, hEE⟩ : ∃ EE : Nat, EE = (2000 + 2000 * (widM m + 1) + 2) * m.length + 1 := ⟨_, rfl⟩
    have h5 := solve_D haug (by omega) (.inr (solve_piv haug h0)) q hq
    rw [haugl, ← hEE] at h5
    have h6 : EE ≤ 84002 * 40 + 1 := by
      rw [hEE]
      exact Nat.add_le_add_right (Nat.mul_le_mul (by omega) (by omega)) 1
    exact ⟨len_ten (Nat.le_of_lt h5.1) (by omega), len_ten (Nat.le_of_lt h5.2) (by omega)⟩
  repeat (first
    | refine ax_q (q_move rfl) ?_
    | refine ax_q (q_assign rfl) ?_
    | refine ax_ops_nil ?_
    | refine ax_post_code ?_
    | refine ax_seq ?_
    | refine ax_region rfl ?_
    | refine ax_skip ?_)
  refine ax_callv rfl rfl rfl nv ?_
  repeat (first
    | refine ax_q (q_move rfl) ?_
    | refine ax_q (q_assign rfl) ?_
    | refine ax_ops_nil ?_
    | refine ax_post_code ?_
    | refine ax_seq ?_
    | refine ax_region rfl ?_)
  refine ax_callc rfl rfl rfl nm (fun h hh => absurd hh (Nat.not_lt_zero _)) (fun h hh => absurd hh id) ?_
  rintro r' H' ⟨rfl, rfl⟩
  have hbq : ∀ i, i < m.length → i < (b.map ratV).length := fun i h => by omega
  have hoD := outAll_ok2 (solveQ (augQ (inM m) (b.map ratV)) (widM m)).1 (Nat.le_trans (solveQ_len _ _) (by omega))
  have hstep := @aug_snoc (inM m) (b.map ratV)
  generalize hn : m.length = n at *
  generalize widM m = w at *
  generalize inM m = Q at *
  generalize b.map ratV = B at *
  repeat (first
    | refine ax_q (q_move rfl) ?_
    | refine ax_ops_nil ?_
    | refine ax_post_code ?_
    | refine ax_q (q_len rfl rfl rfl) ?_)
  refine ax_nilobj 8 ⟨102, rowsQ []⟩ rfl rfl ?_
  refine ax_heap (solH n w 0 Q []) (sol_start hQl) ?_
  have e0 : (nestH ⟨102, outC w (List.range n)⟩ 108 (fun r : List Rat => qsC r) Q []).length = n + 1 := by rw [nest_len, hQl]; rfl
  refine ax_slot 8 (.sl (n + 1) 0 0) rfl (AEq.of_eq (by rw [e0])) ?_
  repeat (refine ax_block ?_)
  refine ax_loop (ι := Nat) (fun i => [(0, .ro (rowsT m) 0 n), (8, .sl (n + 1) 0 i), (9, .ro (qsC B) 0 B.length), (32, .sl 0 0 n), (33, .int .i64 (n : Nat)), (34, .int .i64 (i : Nat))]) (fun i => solH n w i Q ((augQ Q B).take i))
    (fun i => i ≤ n) (fun i => n - i) 0 ⟨⟨rfl, rfl, rfl, rfl, rfl, rfl, trivial⟩, rfl, Nat.zero_le _⟩ ?_
  intro i hi
  repeat (first
    | refine ax_ops_nil ?_
    | refine ax_post_code ?_
    | refine ax_seq ?_
    | refine ax_region rfl ?_
    | refine ax_q (q_lss rfl rfl) ?_)
  refine ax_cond_dec rfl (fun h => ?_) (fun h => ?_)
  · have hi' : i < n := by omega
    repeat (first
      | refine ax_q (q_move rfl) ?_
      | refine ax_q (q_assign rfl) ?_
      | refine ax_ops_nil ?_
      | refine ax_post_code ?_
      | refine ax_seq ?_
      | refine ax_region rfl ?_
      | refine ax_block ?_
      | refine ax_skip ?_
      | refine ax_q (q_index_ro' rfl rfl rfl rfl (by first | (simp only [Nat.zero_add, Int.toNat_natCast, Int.toNat_zero]; exact rfl) | exact rfl) (by omega)) ?_
      | refine ax_q (q_index_sl' rfl rfl rfl rfl rfl (by first | (simp only [Nat.zero_add, Int.toNat_natCast, Int.toNat_zero]; exact rfl) | exact rfl) (by omega)) ?_
      | refine ax_q (q_loadf_ptr rfl rfl rfl rfl rfl (by first | assumption | omega)) ?_
      | refine ax_q (q_loadagg_rp rfl rfl rfl rfl rfl rfl) ?_
      | refine ax_buildSliceRo rfl rfl rfl rfl rfl rfl rfl rfl rfl rfl rfl ?_)
    refine ax_slot_ops 40 (.sl (i + 1) 0 w) rfl (AEq.of_eq (by rw [blt_no (Nat.le_refl i)]; rfl)) ?_
    refine ax_slot_ops 45 (.ro (rowOf 1 3 (cellsQ (B.getD i 0))) 0 1) rfl (AEq.of_eq rfl) ?_
    have hrow := solH_row (w := w) (Q := Q) (A := (augQ Q B).take i) hi'
    obtain ⟨hr1, hr2⟩ := hQ _ (getD_mem [] (show i < Q.length by omega))
    have hst := hstep (show i < Q.length by omega)
    have hAl : ((augQ Q B).take i).length = i := by rw [List.length_take, haugl]; omega
    generalize B.getD i 0 = q at *
    generalize Q.getD i [] = r at *
    refine ax_append rfl rfl rfl rfl rfl rfl rfl hrow rfl (show (qsC r).len = w from hr1) rfl rfl (by show 0 + 1 ≤ 1; omega) rfl (by show (w + 1) * 56 ≤ _ ∧ _; omega) ?_ (by rw [hfix]; exact fun h => h) ?_
    · intro i' j hi hj
      exact rowE_noref 0 3 cellsQ cellsQ_noref r q _ (rowQ1 _) (i + 1) i' j hi hj
    refine ax_know_ops ((46, .sl (i + 1) 0 (w + 1)) :: (39, .sl (n + 1) 0 i) :: [(0, .ro (rowsT m) 0 n), (8, .sl (n + 1) 0 i), (9, .ro (qsC B) 0 B.length), (32, .sl 0 0 n), (33, .int .i64 (n : Nat)), (34, .int .i64 (i : Nat))]) ⟨rfl, knows_forget (h := i + 1) (L := (39, .sl (n + 1) 0 i) :: [(0, .ro (rowsT m) 0 n), (8, .sl (n + 1) 0 i), (9, .ro (qsC B) 0 B.length), (32, .sl 0 0 n), (33, .int .i64 (n : Nat)), (34, .int .i64 (i : Nat))]) ⟨rfl, rfl, rfl, rfl, rfl, rfl, rfl, trivial⟩ (by
      have e1 : (AV.sl (n + 1) 0 i).forget (i + 1) = AV.sl (n + 1) 0 i := by
        show (bif Nat.beq (n + 1) (i + 1) then AV.any else _) = _
        rw [beq_ne (by omega)]; rfl
      have e2 : (AV.sl 0 0 n).forget (i + 1) = AV.sl 0 0 n := by
        show (bif Nat.beq 0 (i + 1) then AV.any else _) = _
        rw [beq_ne (by omega)]; rfl
      intro p hp
      simp only [List.mem_cons, List.not_mem_nil, or_false] at hp
      rcases hp with rfl | rfl | rfl | rfl | rfl | rfl | rfl
      · exact e1
      · rfl
      · exact e1
      · rfl
      · exact e2
      · rfl
      · rfl)⟩ ?_
    refine ax_heap_ops (solM n w i Q ((augQ Q B).take i) (r ++ [q])) (sol_grow hi' (rowE_snoc 0 3 cellsQ r q _ (rowQ1 q))) ?_
    have hml : (r ++ [q]).length = w + 1 := by rw [List.length_append, hr1]; rfl
    refine ax_give (i + 1) 46 (w + 1) ((39, .sl (n + 1) 0 i) :: [(0, .ro (rowsT m) 0 n), (8, .sl (n + 1) 0 i), (9, .ro (qsC B) 0 B.length), (32, .sl 0 0 n), (33, .int .i64 (n : Nat)), (34, .int .i64 (i : Nat))]) (solM_row hi') (refless_qs _) rfl (by show w + 1 ≤ (r ++ [q]).length; omega) ⟨rfl, rfl, rfl, rfl, rfl, rfl, rfl, trivial⟩ ?_
    refine ax_heap_eq_ops (solH n w (i + 1) Q ((augQ Q B).take i)) (solM_give hi') ?_
    refine ax_slot_ops 46 (.ro (qsC (r ++ [q])) 0 (r ++ [q]).length) rfl (AEq.of_eq (by rw [hml])) ?_
    generalize r ++ [q] = x at *
    repeat (refine ax_buildSliceRo rfl rfl rfl rfl rfl rfl rfl rfl rfl rfl rfl ?_)
    refine ax_slot_ops 47 (.ro (rowOf 1 1 [.ro (qsC x) 0 x.length]) 0 1) rfl (AEq.of_eq rfl) ?_
    generalize hA : (augQ Q B).take i = A at *
    refine ax_append rfl rfl rfl rfl rfl rfl rfl solH_m rfl (show (rowsQ A).len = i from hAl) rfl rfl (by show 0 + 1 ≤ 1; omega) rfl (by show (i + 1) * 24 ≤ _ ∧ _; omega) ?_ (by rw [hfix]; exact fun h => h) ?_
    · intro i' j hi hj
      exact rowE_noref [] 1 cellR cellR_noref A x _ (rowR1 _) (n + 1) i' j hi hj
    refine ax_know_ops ((48, .sl (n + 1) 0 (i + 1)) :: [(0, .ro (rowsT m) 0 n), (9, .ro (qsC B) 0 B.length), (32, .sl 0 0 n), (33, .int .i64 (n : Nat)), (34, .int .i64 (i : Nat))]) ⟨rfl, knows_forget (h := n + 1) (L := [(0, .ro (rowsT m) 0 n), (9, .ro (qsC B) 0 B.length), (32, .sl 0 0 n), (33, .int .i64 (n : Nat)), (34, .int .i64 (i : Nat))]) ⟨rfl, rfl, rfl, rfl, rfl, trivial⟩ (by
      have e2 : (AV.sl 0 0 n).forget (n + 1) = AV.sl 0 0 n := by
        show (bif Nat.beq 0 (n + 1) then AV.any else _) = _
        rw [beq_ne (by omega)]; rfl
      intro p hp
      simp only [List.mem_cons, List.not_mem_nil, or_false] at hp
      rcases hp with rfl | rfl | rfl | rfl | rfl
      · rfl
      · rfl
      · exact e2
      · rfl
      · rfl)⟩ ?_
    refine ax_heap_ops (solH n w (i + 1) Q (A ++ [x])) (sol_app (rowE_snoc [] 1 cellR A x _ (rowR1 x))) ?_
    repeat (first
      | refine ax_q (q_move rfl) ?_
      | refine ax_q (q_assign rfl) ?_
      | refine ax_ops_nil ?_
      | refine ax_post_code ?_
      | refine ax_region rfl ?_
      | refine ax_post_blk ?_
      | refine ax_q (q_add rfl rfl (by omega)) ?_)
    exact ax_post_inv ⟨i + 1, by omega, by omega, ⟨rfl, rfl, rfl, rfl, rfl, rfl, trivial⟩, by rw [hst]⟩
  · have hie : i = n := by omega
    subst hie
    have ht : (augQ Q B).take i = augQ Q B := List.take_of_length_le (by omega)
    rw [ht]
    repeat (first
      | refine ax_post_code ?_
      | refine ax_seq ?_
      | refine ax_exit ?_
      | refine ax_exit_here ?_
      | refine ax_exit_code ?_
      | refine ax_exit_inv ?_)
    refine ax_give_code (i + 1) 8 i [(0, .ro (rowsT m) 0 i)] solH_m (refless_rowsQ _) rfl (by show i ≤ (augQ Q B).length; omega) ⟨rfl, trivial⟩ ?_
    repeat (first
      | refine ax_q (q_move rfl) ?_
      | refine ax_region rfl ?_)
    refine ax_callv rfl rfl rfl cwd ?_
    skip
    refine ax_callv rfl rfl rfl cs ?_
    repeat (first
      | refine ax_q (q_move rfl) ?_
      | refine ax_q (q_assign rfl) ?_
      | refine ax_ops_nil ?_
      | refine ax_post_code ?_
      | refine ax_seq ?_
      | refine ax_region rfl ?_
      | refine ax_q (q_neq rfl rfl) ?_
      | refine ax_q (q_extract rfl rfl) ?_)
    refine ax_cond_dec rfl (fun h4 => ?_) (fun h4 => ?_)
    · rw [if_pos h4] at hR
      repeat (first
        | refine ax_q (q_move rfl) ?_
        | refine ax_q (q_assign rfl) ?_
        | refine ax_ops_nil ?_
        | refine ax_post_code ?_
        | refine ax_seq ?_
        | refine ax_region rfl ?_)
      refine ax_slot 4 (.ro (.strs []) 0 0) rfl AEq.nil ?_
      repeat (first
        | refine ax_return ?_
        | refine ax_ret_code ?_)
      exact ax_ret hR rfl rfl
    · rw [if_neg h4] at hR
      obtain ⟨r, hfin, hrq⟩ := hoD (dS (Classical.not_not.1 h4))
      generalize (solveQ (augQ Q B) w).1 = R at *
      repeat (first
        | refine ax_q (q_move rfl) ?_
        | refine ax_post_code ?_
        | refine ax_seq ?_
        | refine ax_region rfl ?_
        | refine ax_skip ?_)
      refine ax_callv rfl rfl rfl hfin ?_
      repeat (first
        | refine ax_q (q_assign rfl) ?_
        | refine ax_ops_nil ?_
        | refine ax_post_code ?_
        | refine ax_q (q_extract rfl rfl) ?_)
      refine ax_slot 4 (.ro (.strs (outAllF R).1) 0 (outAllF R).1.length) rfl hrq ?_
      repeat (refine ax_return ?_)
      exact ax_ret hR rfl rfl
end Go.Proofs.YtgmleamhjnlknaaGreatDoor

/-
  The ground values of matrixFact. No program in sight.
-/
namespace Go.Ax.Rt
open Go.Ax.Bg Go.Ax.Dt
set_option maxRecDepth 100000

def allV : List Text → List Rat → Bool
  | [], [] => true
  | s :: r, q :: t => decide (IsQ s q) && allV r t
  | _, _ => false
theorem allV_out : ∀ {s : List Text} {l : List Rat}, allV s l = true → l.map textQ = s ∧ l.all fitB = true
  | [], [], _ => ⟨rfl, rfl⟩
  | [], _ :: _, h => by cases h
  | _ :: _, [], h => by cases h
  | a :: r, q :: t, h => by
    simp only [allV, Bool.and_eq_true, decide_eq_true_eq] at h
    obtain ⟨h1, h2⟩ := allV_out h.2
    refine ⟨by rw [List.map_cons, h.1.text, h1], ?_⟩
    rw [List.all_cons, h.1.fit, h2]; rfl
theorem allV_f {s : List Text} {l : List Rat} (h : allV s l = true) : outAllF l = (s, 0) := by
  unfold outAllF
  rw [if_pos (allV_out h).2, (allV_out h).1]
def allM : List (List Text) → List (List Rat) → Bool
  | [], [] => true
  | s :: r, q :: t => allV s q && allM r t
  | _, _ => false
theorem allM_out : ∀ {s : List (List Text)} {l : List (List Rat)}, allM s l = true → l.map (fun r => r.map textQ) = s ∧ l.all (fun r => r.all fitB) = true
  | [], [], _ => ⟨rfl, rfl⟩
  | [], _ :: _, h => by cases h
  | _ :: _, [], h => by cases h
  | a :: r, q :: t, h => by
    simp only [allM, Bool.and_eq_true] at h
    obtain ⟨h1, h2⟩ := allM_out h.2
    obtain ⟨g1, g2⟩ := allV_out h.1
    refine ⟨by rw [List.map_cons, g1, h1], ?_⟩
    rw [List.all_cons, g2, h2]; rfl
theorem allM_f {s : List (List Text)} {l : List (List Rat)} (h : allM s l = true) : outM l = (s, 0) := by
  unfold outM
  rw [if_pos (allM_out h).2, (allM_out h).1]
def fourT : List (List Text) := [[[49], [50]], [[51], [52]]]
def signT : List (List Text) := [[[49], [49]], [[49], [45, 49]]]
theorem m_dot : dotR [[49], [50]] [[51], [52]] = ([49, 49], 0) := by
  have h : IsQ [49, 49] (dotQ ([[49], [50]].map ratV) ([[51], [52]].map ratV)) := by decide +kernel
  unfold dotR
  rw [if_neg (by decide +kernel), if_neg (by decide +kernel), if_pos (by decide), h.out]
theorem m_apply : applyR fourT [[49], [49]] = ([[51], [55]], 0) := by
  unfold applyR
  rw [if_neg (by decide +kernel), if_neg (by decide +kernel), if_neg (by decide +kernel)]
  exact allV_f (by decide +kernel)
theorem m_mul : mulR fourT fourT = ([[[55], [49, 48]], [[49, 53], [50, 50]]], 0) := by
  unfold mulR
  rw [if_neg (by decide +kernel), if_neg (by decide +kernel), if_pos (by decide +kernel)]
  exact allM_f (by decide +kernel)
theorem m_trans : transR fourT = ([[[49], [51]], [[50], [52]]], 0) := by
  unfold transR
  rw [if_neg (by decide +kernel)]
  rfl
theorem m_solve : solveR signT [[51], [49]] = ([[50], [49]], 0) := by
  unfold solveR
  rw [if_neg (by decide +kernel), if_neg (by decide +kernel), if_neg (by decide), if_neg (by decide +kernel)]
  exact allV_f (by decide +kernel)
theorem m_det : detR fourT = ([45, 50], 0) := by
  have h : IsQ [45, 50] (detQ (inM fourT)) := by decide +kernel
  unfold detR
  rw [if_neg (by decide +kernel), if_neg (by decide +kernel), if_neg (by decide +kernel), h.out]
theorem m_check : matE [[[49]], []] = 3 := by decide +kernel
theorem m_vec : vecE [[]] = 5 := by decide +kernel
theorem outM_short {q : List (List Rat)} : ∀ r ∈ (outM q).1, ∀ s ∈ r, s.length ≤ 9223372036854775807 := by
  intro r hr s hs
  unfold outM at hr
  split at hr
  · rename_i h
    obtain ⟨x, hx, rfl⟩ := List.mem_map.1 hr
    obtain ⟨y, hy, rfl⟩ := List.mem_map.1 hs
    have h2 := List.all_eq_true.1 (List.all_eq_true.1 h x hx) y hy
    unfold fitB at h2
    rw [Bool.and_eq_true, decide_eq_true_eq, decide_eq_true_eq] at h2
    unfold textQ
    rw [List.length_append, List.length_append]
    have h1 : (if y.num < 0 then [45] else [] : List UInt8).length ≤ 1 := by split <;> simp
    have h3 : (if y.den = 1 then [] else 47 :: Lib.decDigits y.den : List UInt8).length ≤ 2001 := by
      split
      · simp
      · rw [List.length_cons]; omega
    omega
  · simp at hr
abbrev MaxL : Nat := 9223372036854775807
structure ShortM (m : List (List Text)) : Prop where
  len : m.length ≤ MaxL
  row : ∀ r ∈ m, r.length ≤ MaxL ∧ ∀ s ∈ r, s.length ≤ MaxL
structure ShortV (v : List Text) : Prop where
  len : v.length ≤ MaxL
  each : ∀ s ∈ v, s.length ≤ MaxL
theorem ShortM.wid {m : List (List Text)} (h : ShortM m) : widM m ≤ MaxL := by
  unfold widM
  cases m with
  | nil => exact Nat.zero_le _
  | cons x _ => exact (h.row x (by simp)).1
theorem ShortM.nil : ShortM [] := ⟨Nat.zero_le _, fun r hr => by simp at hr⟩
theorem ShortV.nil : ShortV [] := ⟨Nat.zero_le _, fun r hr => by simp at hr⟩
theorem ShortM.out {q : List (List Rat)} (h1 : q.length ≤ MaxL) (h2 : ∀ r ∈ q, r.length ≤ MaxL) : ShortM (outM q).1 := by
  have h3 := @outM_short q
  refine ⟨?_, fun r hr => ⟨?_, h3 r hr⟩⟩
  · unfold outM
    split
    · simpa using h1
    · exact Nat.zero_le _
  · unfold outM at hr
    split at hr
    · obtain ⟨x, hx, rfl⟩ := List.mem_map.1 hr
      rw [List.length_map]; exact h2 x hx
    · simp at hr
theorem ShortM.mul {a b : List (List Text)} (ha : ShortM a) (hb : ShortM b) : ShortM (mulR a b).1 := by
  unfold mulR
  split
  · exact ShortM.nil
  split
  · exact ShortM.nil
  split
  · refine ShortM.out (by simpa [mulQ, inM] using ha.len) (fun r hr => ?_)
    obtain ⟨x, hx, rfl⟩ := List.mem_map.1 hr
    rw [List.length_map, colsQ_len]; exact hb.wid
  · exact ShortM.nil
theorem ShortM.trans {a : List (List Text)} (ha : ShortM a) : ShortM (transR a).1 := by
  unfold transR
  split
  · exact ShortM.nil
  · refine ⟨by simpa [transT] using ha.wid, fun r hr => ?_⟩
    obtain ⟨k, hk, rfl⟩ := List.mem_map.1 hr
    refine ⟨by simpa using ha.len, fun s hs => ?_⟩
    obtain ⟨x, hx, rfl⟩ := List.mem_map.1 hs
    rcases Nat.lt_or_ge k x.length with q | q
    · exact (ha.row x hx).2 _ (by rw [get_el [] q]; exact List.getElem_mem q)
    · have : x.getD k [] = [] := by simp [List.getD, q]
      rw [this]; exact Nat.zero_le _
theorem ShortV.out {l : List Rat} (h : l.length ≤ MaxL) : ShortV (outAllF l).1 := by
  have h3 := outM_short (q := [l])
  refine ⟨?_, fun s hs => ?_⟩
  · unfold outAllF
    split
    · simpa using h
    · exact Nat.zero_le _
  · unfold outAllF at hs
    split at hs
    · rename_i h1
      have e : (outM [l]).1 = [l.map textQ] := by
        unfold outM
        rw [if_pos (by simpa using h1)]
        rfl
      rw [e] at h3
      exact h3 _ (by simp) s hs
    · simp at hs
theorem ShortM.apply {a : List (List Text)} (ha : ShortM a) (v : List Text) : ShortV (applyR a v).1 := by
  unfold applyR
  split
  · exact ShortV.nil
  split
  · exact ShortV.nil
  split
  · exact ShortV.nil
  · exact ShortV.out (by simpa [applyQ, inM] using ha.len)
theorem ShortM.solve {a : List (List Text)} (ha : ShortM a) (v : List Text) : ShortV (solveR a v).1 := by
  unfold solveR
  split
  · exact ShortV.nil
  split
  · exact ShortV.nil
  split
  · exact ShortV.nil
  split
  · exact ShortV.nil
  · refine ShortV.out ?_
    unfold solveQ
    split
    · exact Nat.zero_le _
    split
    · exact Nat.zero_le _
    · simpa using ha.wid
end Go.Ax.Rt

namespace Go.Proofs.YtgmleamhjnlknaaGreatDoor
open Go.Ax Go.Ax.Bg Go.Ax.Rt Go.RowKit Go.Ax.Idx Go.Ax.Cd
attribute [local irreducible] Ax Post QOp ACall PureOp
set_option maxRecDepth 100000
set_option maxHeartbeats 4000000

theorem short_row4 {m : List (List Text)} (h : (m.all fun r => decide (r.length ≤ 100) && r.all fun s => decide (s.length ≤ 100)) = true) : ∀ r ∈ m, r.length ≤ 9223372036854775807 ∧ ∀ s ∈ r, s.length ≤ 9223372036854775807 := by
  intro r hr
  have h1 := List.all_eq_true.1 h r hr
  simp only [Bool.and_eq_true, decide_eq_true_eq, List.all_eq_true] at h1
  exact ⟨by omega, fun s hs => by have := h1.2 s hs; omega⟩
theorem four_ok : VCall Tryz.prog 91 [] (.ro (rowsT fourT) 0 2) := by
  refine ACall.value0 (acall_of_ax (P := Tryz.prog) (fn := Tryz.f91) rfl rfl (by kernel_rfl) rfl (fun c hR hfix => ?_)) (fix := fun _ => False) (fun _ h => h) rfl rfl
  repeat (first
    | refine ax_q (q_assign rfl) ?_
    | refine ax_ops_nil ?_
    | refine ax_post_code ?_
    | refine ax_seq ?_
    | refine ax_region rfl ?_
    | refine ax_buildSliceRo rfl rfl rfl rfl rfl rfl rfl rfl rfl rfl rfl ?_)
  refine ax_slot 0 (.ro (rowsT fourT) 0 2) rfl (AEq.ro rfl (fun d j hd hj => ?_)) ?_
  · have hd2 : d = 0 ∨ d = 1 := by omega
    have hj3 : j = 0 := by have hj : j < 1 := hj; omega
    subst hj3
    rcases hd2 with rfl | rfl <;> rfl
  repeat (refine ax_return ?_)
  exact ax_ret hR rfl rfl
theorem m_fine : VCall Tryz.prog 29 [.ro (.ints .i64 [0, 0, 0, 0, 0, 0]) 0 6] (.bool true) := fineI [0, 0, 0, 0, 0, 0] (by decide)
theorem matrixFact : VCall Tryz.prog 34 [] (.bool true) := by
  have c1 := dotm_ok [[49], [50]] [[51], [52]] (by decide) (by decide) (by decide) (by decide)
  rw [m_dot] at c1
  have c2 := mapply_ok fourT [[49], [49]] (by decide) (by decide) (short_row4 (by decide)) (by decide)
  rw [m_apply] at c2
  have c3 := mmul_ok fourT fourT (by decide) (by decide) (short_row4 (by decide)) (short_row4 (by decide))
  rw [m_mul] at c3
  have c4 := trans_ok fourT (by decide) (short_row4 (by decide))
  rw [m_trans] at c4
  have c5 := lin_ok signT [[51], [49]] (by decide) (by decide) (short_row4 (by decide)) (by decide)
  rw [m_solve] at c5
  have c6 := det_ok fourT (by decide) (short_row4 (by decide))
  rw [m_det] at c6
  have c7 := mcheck_ok [[[49]], []] (by decide) (short_row4 (by decide))
  rw [m_check] at c7
  have c8 := vec_ok [[]] (by decide) (by decide)
  rw [m_vec] at c8
  have v1 := equalV [[51], [55]] [[51], [55]] (by decide) (by decide)
  have v2 := equalV [[50], [49]] [[50], [49]] (by decide) (by decide)
  have s1 := same_ok [[[55], [49, 48]], [[49, 53], [50, 50]]] [[[55], [49, 48]], [[49, 53], [50, 50]]] (by decide) (by decide) (by decide) (by decide)
  have s2 := same_ok [[[49], [51]], [[50], [52]]] [[[49], [51]], [[50], [52]]] (by decide) (by decide) (by decide) (by decide)
  have s3 := same_ok [[[55], [49, 48]], [[49, 53], [50, 50]]] fourT (by decide) (by decide) (by decide) (by decide)
  rw [decide_eq_true rfl] at v1 v2 s1 s2
  rw [decide_eq_false (by decide)] at s3
  refine ACall.value0 (acall_of_ax (P := Tryz.prog) (fn := Tryz.f34) rfl rfl (by kernel_rfl) rfl (fun c hR hfix => ?_)) (fix := fun _ => False) (fun _ h => h) rfl rfl
  repeat (first
    | refine ax_q (q_assign rfl) ?_
    | refine ax_ops_nil ?_
    | refine ax_post_code ?_
    | refine ax_seq ?_
    | refine ax_region rfl ?_
    | refine ax_buildSliceRo rfl rfl rfl rfl rfl rfl rfl rfl rfl rfl rfl ?_)
  refine ax_callv rfl rfl rfl c1 ?_
  unfold pairA
  repeat (first
    | refine ax_q (q_move rfl) ?_
    | refine ax_q (q_assign rfl) ?_
    | refine ax_ops_nil ?_
    | refine ax_post_code ?_
    | refine ax_seq ?_
    | refine ax_region rfl ?_
    | refine ax_q (q_extract rfl rfl) ?_)
  refine ax_callv rfl rfl rfl four_ok ?_
  repeat (refine ax_buildSliceRo rfl rfl rfl rfl rfl rfl rfl rfl rfl rfl rfl ?_)
  refine ax_callv rfl rfl rfl c2 ?_
  unfold vecP
  repeat (first
    | refine ax_q (q_move rfl) ?_
    | refine ax_q (q_assign rfl) ?_
    | refine ax_ops_nil ?_
    | refine ax_post_code ?_
    | refine ax_seq ?_
    | refine ax_region rfl ?_
    | refine ax_q (q_extract rfl rfl) ?_)
  refine ax_callv rfl rfl rfl four_ok ?_
  skip
  refine ax_callv rfl rfl rfl four_ok ?_
  skip
  refine ax_callv rfl rfl rfl c3 ?_
  unfold matP
  repeat (first
    | refine ax_q (q_move rfl) ?_
    | refine ax_q (q_assign rfl) ?_
    | refine ax_ops_nil ?_
    | refine ax_post_code ?_
    | refine ax_seq ?_
    | refine ax_region rfl ?_
    | refine ax_q (q_extract rfl rfl) ?_)
  refine ax_callv rfl rfl rfl four_ok ?_
  skip
  refine ax_callv rfl rfl rfl c4 ?_
  unfold matP
  repeat (first
    | refine ax_q (q_move rfl) ?_
    | refine ax_q (q_assign rfl) ?_
    | refine ax_ops_nil ?_
    | refine ax_post_code ?_
    | refine ax_seq ?_
    | refine ax_region rfl ?_
    | refine ax_q (q_extract rfl rfl) ?_
    | refine ax_buildSliceRo rfl rfl rfl rfl rfl rfl rfl rfl rfl rfl rfl ?_)
  refine ax_slot_ops 39 (.ro (rowsT signT) 0 2) rfl (AEq.ro rfl (fun d j hd hj => ?_)) ?_
  · have hd2 : d = 0 ∨ d = 1 := by omega
    have hj3 : j = 0 := by have hj : j < 1 := hj; omega
    subst hj3
    rcases hd2 with rfl | rfl <;> rfl
  refine ax_callv rfl rfl rfl c5 ?_
  unfold vecP
  repeat (first
    | refine ax_q (q_move rfl) ?_
    | refine ax_q (q_assign rfl) ?_
    | refine ax_ops_nil ?_
    | refine ax_post_code ?_
    | refine ax_seq ?_
    | refine ax_region rfl ?_
    | refine ax_q (q_extract rfl rfl) ?_)
  refine ax_callv rfl rfl rfl four_ok ?_
  skip
  refine ax_callv rfl rfl rfl c6 ?_
  unfold pairA
  repeat (first
    | refine ax_q (q_move rfl) ?_
    | refine ax_q (q_assign rfl) ?_
    | refine ax_ops_nil ?_
    | refine ax_post_code ?_
    | refine ax_seq ?_
    | refine ax_region rfl ?_
    | refine ax_q (q_extract rfl rfl) ?_
    | refine ax_buildSliceRo rfl rfl rfl rfl rfl rfl rfl rfl rfl rfl rfl ?_)
  refine ax_callv rfl rfl rfl m_fine ?_
  repeat (first
    | refine ax_q (q_move rfl) ?_
    | refine ax_guard rfl rfl ?_
    | refine ax_q (q_pick rfl rfl) ?_
    | refine ax_q (q_streql rfl rfl) ?_
    | refine ax_buildSliceRo rfl rfl rfl rfl rfl rfl rfl rfl rfl rfl rfl ?_)
  refine ax_callv rfl rfl rfl v1 ?_
  repeat (first
    | refine ax_q (q_move rfl) ?_
    | refine ax_guard rfl rfl ?_
    | refine ax_q (q_pick rfl rfl) ?_
    | refine ax_buildSliceRo rfl rfl rfl rfl rfl rfl rfl rfl rfl rfl rfl ?_)
  refine ax_slot_ops 70 (.ro (rowsT [[[55], [49, 48]], [[49, 53], [50, 50]]]) 0 2) rfl (AEq.ro rfl (fun d j hd hj => ?_)) ?_
  · have hd2 : d = 0 ∨ d = 1 := by omega
    have hj3 : j = 0 := by have hj : j < 1 := hj; omega
    subst hj3
    rcases hd2 with rfl | rfl <;> rfl
  refine ax_callv rfl rfl rfl s1 ?_
  repeat (first
    | refine ax_q (q_move rfl) ?_
    | refine ax_guard rfl rfl ?_
    | refine ax_q (q_pick rfl rfl) ?_
    | refine ax_buildSliceRo rfl rfl rfl rfl rfl rfl rfl rfl rfl rfl rfl ?_)
  refine ax_slot_ops 77 (.ro (rowsT [[[49], [51]], [[50], [52]]]) 0 2) rfl (AEq.ro rfl (fun d j hd hj => ?_)) ?_
  · have hd2 : d = 0 ∨ d = 1 := by omega
    have hj3 : j = 0 := by have hj : j < 1 := hj; omega
    subst hj3
    rcases hd2 with rfl | rfl <;> rfl
  refine ax_callv rfl rfl rfl s2 ?_
  repeat (first
    | refine ax_q (q_move rfl) ?_
    | refine ax_guard rfl rfl ?_
    | refine ax_q (q_pick rfl rfl) ?_
    | refine ax_buildSliceRo rfl rfl rfl rfl rfl rfl rfl rfl rfl rfl rfl ?_)
  refine ax_callv rfl rfl rfl v2 ?_
  repeat (first
    | refine ax_q (q_move rfl) ?_
    | refine ax_guard rfl rfl ?_
    | refine ax_q (q_pick rfl rfl) ?_
    | refine ax_q (q_streql rfl rfl) ?_)
  refine ax_callv rfl rfl rfl four_ok ?_
  repeat (refine ax_guard rfl rfl ?_)
  refine ax_callv rfl rfl rfl s3 ?_
  repeat (first
    | refine ax_q (q_move rfl) ?_
    | refine ax_guard rfl rfl ?_
    | refine ax_q (q_not rfl) ?_
    | refine ax_q (q_pick rfl rfl) ?_)
  refine ax_buildSliceRo rfl rfl rfl rfl rfl rfl rfl rfl rfl rfl rfl ?_
  repeat (refine ax_guard rfl rfl ?_)
  refine ax_buildSliceRo rfl rfl rfl rfl rfl rfl rfl rfl rfl rfl rfl ?_
  refine ax_slot_ops 97 (.ro (.strs []) 0 0) rfl (AEq.ro rfl (fun d j hd _ => absurd hd (Nat.not_lt_zero _))) ?_
  repeat (first
    | refine ax_guard rfl rfl ?_
    | refine ax_buildSliceRo rfl rfl rfl rfl rfl rfl rfl rfl rfl rfl rfl ?_)
  refine ax_slot_ops 98 (.ro (rowsT [[[49]], []]) 0 2) rfl (AEq.ro rfl (fun d j hd hj => ?_)) ?_
  · have hd2 : d = 0 ∨ d = 1 := by omega
    have hj3 : j = 0 := by have hj : j < 1 := hj; omega
    subst hj3
    rcases hd2 with rfl | rfl <;> rfl
  refine ax_callv rfl rfl rfl c7 ?_
  repeat (first
    | refine ax_q (q_move rfl) ?_
    | refine ax_guard rfl rfl ?_
    | refine ax_q (q_eql rfl rfl) ?_
    | refine ax_q (q_pick rfl rfl) ?_
    | refine ax_buildSliceRo rfl rfl rfl rfl rfl rfl rfl rfl rfl rfl rfl ?_)
  refine ax_callv rfl rfl rfl c8 ?_
  repeat (first
    | refine ax_q (q_assign rfl) ?_
    | refine ax_ops_nil ?_
    | refine ax_post_code ?_
    | refine ax_guard rfl rfl ?_
    | refine ax_return ?_
    | refine ax_q (q_eql rfl rfl) ?_
    | refine ax_q (q_pick rfl rfl) ?_)
  exact ax_ret hR rfl rfl
end Go.Proofs.YtgmleamhjnlknaaGreatDoor

namespace Go.Proofs.YtgmleamhjnlknaaGreatDoor
open Go.Ax Go.Ax.Bg Go.Ax.Rt Go.RowKit Go.Ax.Idx Go.Ax.Cd
attribute [local irreducible] Ax Post QOp ACall PureOp
set_option maxRecDepth 100000
set_option maxHeartbeats 4000000

theorem rows1 (v : List Text) : AEq (.ro (rowOf 1 1 [.ro (.strs v) 0 v.length]) 0 1) (.ro (rowsT [v]) 0 1) := AEq.ro rfl (fun d j hd hj => by
  have hd2 : d = 0 := by omega
  have hj3 : j = 0 := by have hj : j < 1 := hj; omega
  subst hd2; subst hj3; rfl)
end Go.Proofs.YtgmleamhjnlknaaGreatDoor

namespace Go.Proofs.YtgmleamhjnlknaaGreatDoor
open Go.Ax Go.Ax.Bg Go.Ax.Rt Go.RowKit Go.Ax.Idx Go.Ax.Cd
attribute [local irreducible] Ax Post QOp ACall PureOp
set_option maxRecDepth 100000
set_option maxHeartbeats 4000000

end Go.Proofs.YtgmleamhjnlknaaGreatDoor

namespace Go.Proofs.YtgmleamhjnlknaaGreatDoor
open Go.Ax Go.Ax.Bg Go.Ax.Rt Go.RowKit Go.Ax.Idx Go.Ax.Cd
attribute [local irreducible] Ax Post QOp ACall PureOp
set_option maxRecDepth 100000
set_option maxHeartbeats 4000000

theorem MatrixKinds_law (a : List (List Text)) (v : List Text) (ha1 : a.length ≤ 9223372036854775807) (ha2 : ∀ r ∈ a, r.length ≤ 9223372036854775807 ∧ ∀ s ∈ r, s.length ≤ 9223372036854775807) (hv1 : v.length ≤ 9223372036854775807) (hv2 : ∀ s ∈ v, s.length ≤ 9223372036854775807) : VCall Tryz.prog 8 [.ro (rowsT a) 0 a.length, .ro (.strs v) 0 v.length] (.bool true) := by
  have A : ShortM a := ⟨ha1, ha2⟩
  have cs := smallM_ok 5 [a, [v]] (by decide) (by show 2 ≤ 9223372036854775807; decide) (fun x hx => by
    simp only [List.mem_cons, List.not_mem_nil, or_false] at hx
    rcases hx with rfl | rfl
    · exact ⟨ha1, ha2⟩
    · exact ⟨by show 1 ≤ 9223372036854775807; decide, fun r hr => by rw [List.mem_singleton.1 hr]; exact ⟨hv1, hv2⟩⟩)
  have X := A.solve v
  have c1 := lin_ok a v ha1 hv1 ha2 hv2
  have c2 := mapply_ok a _ ha1 X.len ha2 X.each
  have c3 := det_ok a ha1 ha2
  have c4 := vec_ok v hv1 hv2
  have cv := equalV v v hv1 hv1
  rw [decide_eq_true rfl] at cv
  refine ACall.value0 (acall_of_ax (P := Tryz.prog) (fn := Tryz.f8) rfl rfl (by kernel_rfl) rfl (fun cx hR hfix => ?_)) (fix := fun _ => False) (fun _ h => h) rfl rfl
  repeat (first
    | refine ax_q (q_assign rfl) ?_
    | refine ax_ops_nil ?_
    | refine ax_post_code ?_
    | refine ax_seq ?_
    | refine ax_region rfl ?_)
  refine ax_callv rfl rfl rfl matrixFact ?_
  repeat (first
    | refine ax_q (q_move rfl) ?_
    | refine ax_ops_nil ?_
    | refine ax_post_code ?_
    | refine ax_seq ?_
    | refine ax_region rfl ?_
    | refine ax_cond_false rfl ?_
    | refine ax_skip ?_
    | refine ax_q (q_not rfl) ?_)
  refine ax_callv rfl rfl rfl c1 ?_
  unfold vecP
  repeat (first
    | refine ax_q (q_move rfl) ?_
    | refine ax_q (q_assign rfl) ?_
    | refine ax_ops_nil ?_
    | refine ax_post_code ?_
    | refine ax_seq ?_
    | refine ax_region rfl ?_
    | refine ax_q (q_extract rfl rfl) ?_)
  refine ax_buildSliceRo rfl rfl rfl rfl rfl rfl rfl rfl rfl rfl rfl ?_
  refine ax_slot_ops 21 (.ro (rowsT [v]) 0 1) rfl (rows1 v) ?_
  repeat (refine ax_buildSliceRo rfl rfl rfl rfl rfl rfl rfl rfl rfl rfl rfl ?_)
  refine ax_slot_ops 22 (.ro (matsT [a, [v]]) 0 2) rfl (AEq.ro rfl (fun d j hd hj => ?_)) ?_
  · have hj3 : j = 0 := by have hj : j < 1 := hj; omega
    subst hj3
    have hd2 : d = 0 ∨ d = 1 := by omega
    rcases hd2 with rfl | rfl <;> rfl
  refine ax_callv rfl rfl rfl cs ?_
  cases hs : ([a, [v]].all (tiny 5 12))
  · repeat (first
      | refine ax_q (q_assign rfl) ?_
      | refine ax_ops_nil ?_
      | refine ax_post_code ?_
      | refine ax_seq ?_
      | refine ax_region rfl ?_
      | refine ax_cond_true rfl ?_
      | refine ax_return ?_
      | refine ax_ret_code ?_
      | refine ax_q (q_not rfl) ?_)
    exact ax_ret hR rfl rfl
  have hall := hs
  simp only [List.all_cons, List.all_nil, Bool.and_true, Bool.and_eq_true] at hall
  obtain ⟨ta, tv⟩ := hall
  have k1 := @kinds1 a v
  have k2 := @kinds2 a v ta tv
  generalize solveR a v = z at *
  obtain ⟨x, e⟩ := z
  simp only at *
  unfold pairA at c3
  generalize detR a = dd at *
  obtain ⟨d, f⟩ := dd
  simp only at *
  repeat (first
    | refine ax_q (q_move rfl) ?_
    | refine ax_ops_nil ?_
    | refine ax_post_code ?_
    | refine ax_seq ?_
    | refine ax_region rfl ?_
    | refine ax_cond_false rfl ?_
    | refine ax_skip ?_
    | refine ax_q (q_eql rfl rfl) ?_
    | refine ax_q (q_not rfl) ?_)
  refine ax_cond_dec rfl (fun he => ?_) (fun he => ?_)
  · subst he
    rw [k1 rfl] at c2
    unfold vecP at c2
    repeat (first
      | refine ax_q (q_move rfl) ?_
      | refine ax_seq ?_
      | refine ax_region rfl ?_)
    refine ax_callv rfl rfl rfl c2 ?_
    repeat (first
      | refine ax_q (q_move rfl) ?_
      | refine ax_q (q_assign rfl) ?_
      | refine ax_ops_nil ?_
      | refine ax_post_code ?_
      | refine ax_seq ?_
      | refine ax_region rfl ?_
      | refine ax_guard rfl rfl ?_
      | refine ax_q (q_neq rfl rfl) ?_
      | refine ax_q (q_extract rfl rfl) ?_)
    refine ax_callv rfl rfl rfl cv ?_
    repeat (first
      | refine ax_q (q_move rfl) ?_
      | refine ax_ops_nil ?_
      | refine ax_post_code ?_
      | refine ax_seq ?_
      | refine ax_region rfl ?_
      | refine ax_guard rfl rfl ?_
      | refine ax_cond_false rfl ?_
      | refine ax_skip ?_
      | refine ax_q (q_not rfl) ?_
      | refine ax_q (q_pick rfl rfl) ?_)
    refine ax_callv rfl rfl rfl c3 ?_
    repeat (first
      | refine ax_q (q_move rfl) ?_
      | refine ax_q (q_assign rfl) ?_
      | refine ax_ops_nil ?_
      | refine ax_post_code ?_
      | refine ax_seq ?_
      | refine ax_region rfl ?_
      | refine ax_q (q_neq rfl rfl) ?_
      | refine ax_q (q_extract rfl rfl) ?_)
    refine ax_gsplit rfl rfl (fun hf => ?_) (fun hf => ?_)
    · repeat (first
        | refine ax_q (q_move rfl) ?_
        | refine ax_q (q_assign rfl) ?_
        | refine ax_ops_nil ?_
        | refine ax_post_code ?_
        | refine ax_seq ?_
        | refine ax_region rfl ?_
        | refine ax_skip_not rfl rfl rfl ?_
        | refine ax_cond_true rfl ?_
        | refine ax_return ?_
        | refine ax_ret_code ?_
        | refine ax_q (q_pick rfl rfl) ?_)
      exact ax_ret hR rfl rfl
    have hf0 : f = 0 := Classical.not_not.1 hf
    repeat (first
      | refine ax_q (q_move rfl) ?_
      | refine ax_guard rfl rfl ?_
      | refine ax_q (q_neq rfl rfl) ?_
      | refine ax_q (q_pick rfl rfl) ?_
      | refine ax_q (q_len rfl rfl rfl) ?_)
    refine ax_gsplit rfl rfl (fun hl => ?_) (fun hl => ?_)
    · repeat (first
        | refine ax_q (q_assign rfl) ?_
        | refine ax_ops_nil ?_
        | refine ax_post_code ?_
        | refine ax_seq ?_
        | refine ax_region rfl ?_
        | refine ax_skip_not rfl rfl rfl ?_
        | refine ax_cond_true rfl ?_
        | refine ax_return ?_
        | refine ax_ret_code ?_
        | refine ax_q (q_pick rfl rfl) ?_)
      exact ax_ret hR rfl rfl
    have hl0 : v.length = a.length := by omega
    repeat (first
      | refine ax_q (q_move rfl) ?_
      | refine ax_guard rfl rfl ?_)
    refine ax_callv rfl rfl rfl c4 ?_
    repeat (first
      | refine ax_ops_nil ?_
      | refine ax_post_code ?_
      | refine ax_guard rfl rfl ?_
      | refine ax_q (q_neq rfl rfl) ?_
      | refine ax_q (q_pick rfl rfl) ?_)
    refine ax_cond_dec rfl (fun hv => ?_) (fun hv => ?_)
    · repeat (first
        | refine ax_q (q_assign rfl) ?_
        | refine ax_ops_nil ?_
        | refine ax_post_code ?_
        | refine ax_seq ?_
        | refine ax_region rfl ?_
        | refine ax_return ?_
        | refine ax_ret_code ?_)
      exact ax_ret hR rfl rfl
    obtain ⟨g1, g2⟩ := k2 hf0 hl0 (Classical.not_not.1 hv)
    repeat (first
      | refine ax_q (q_move rfl) ?_
      | refine ax_ops_nil ?_
      | refine ax_post_code ?_
      | refine ax_seq ?_
      | refine ax_region rfl ?_
      | refine ax_skip ?_
      | refine ax_q (q_streql rfl rfl) ?_)
    refine ax_cond_dec rfl (fun hd => ?_) (fun hd => ?_)
    · exact absurd (g1 hd).1 (by decide)
    · repeat (first
        | refine ax_q (q_move rfl) ?_
        | refine ax_q (q_assign rfl) ?_
        | refine ax_ops_nil ?_
        | refine ax_post_code ?_
        | refine ax_seq ?_
        | refine ax_region rfl ?_
        | refine ax_skip ?_
        | refine ax_return ?_
        | refine ax_q (q_eql rfl rfl) ?_)
      exact ax_ret hR rfl rfl
  · repeat (first
      | refine ax_q (q_move rfl) ?_
      | refine ax_post_code ?_
      | refine ax_seq ?_
      | refine ax_region rfl ?_
      | refine ax_skip ?_)
    refine ax_callv rfl rfl rfl c3 ?_
    repeat (first
      | refine ax_q (q_move rfl) ?_
      | refine ax_q (q_assign rfl) ?_
      | refine ax_ops_nil ?_
      | refine ax_post_code ?_
      | refine ax_seq ?_
      | refine ax_region rfl ?_
      | refine ax_q (q_neq rfl rfl) ?_
      | refine ax_q (q_extract rfl rfl) ?_)
    refine ax_gsplit rfl rfl (fun hf => ?_) (fun hf => ?_)
    · repeat (first
        | refine ax_q (q_move rfl) ?_
        | refine ax_q (q_assign rfl) ?_
        | refine ax_ops_nil ?_
        | refine ax_post_code ?_
        | refine ax_seq ?_
        | refine ax_region rfl ?_
        | refine ax_skip_not rfl rfl rfl ?_
        | refine ax_cond_true rfl ?_
        | refine ax_return ?_
        | refine ax_ret_code ?_
        | refine ax_q (q_pick rfl rfl) ?_)
      exact ax_ret hR rfl rfl
    have hf0 : f = 0 := Classical.not_not.1 hf
    repeat (first
      | refine ax_q (q_move rfl) ?_
      | refine ax_guard rfl rfl ?_
      | refine ax_q (q_neq rfl rfl) ?_
      | refine ax_q (q_pick rfl rfl) ?_
      | refine ax_q (q_len rfl rfl rfl) ?_)
    refine ax_gsplit rfl rfl (fun hl => ?_) (fun hl => ?_)
    · repeat (first
        | refine ax_q (q_assign rfl) ?_
        | refine ax_ops_nil ?_
        | refine ax_post_code ?_
        | refine ax_seq ?_
        | refine ax_region rfl ?_
        | refine ax_skip_not rfl rfl rfl ?_
        | refine ax_cond_true rfl ?_
        | refine ax_return ?_
        | refine ax_ret_code ?_
        | refine ax_q (q_pick rfl rfl) ?_)
      exact ax_ret hR rfl rfl
    have hl0 : v.length = a.length := by omega
    repeat (first
      | refine ax_q (q_move rfl) ?_
      | refine ax_guard rfl rfl ?_)
    refine ax_callv rfl rfl rfl c4 ?_
    repeat (first
      | refine ax_ops_nil ?_
      | refine ax_post_code ?_
      | refine ax_guard rfl rfl ?_
      | refine ax_q (q_neq rfl rfl) ?_
      | refine ax_q (q_pick rfl rfl) ?_)
    refine ax_cond_dec rfl (fun hv => ?_) (fun hv => ?_)
    · repeat (first
        | refine ax_q (q_assign rfl) ?_
        | refine ax_ops_nil ?_
        | refine ax_post_code ?_
        | refine ax_seq ?_
        | refine ax_region rfl ?_
        | refine ax_return ?_
        | refine ax_ret_code ?_)
      exact ax_ret hR rfl rfl
    obtain ⟨g1, g2⟩ := k2 hf0 hl0 (Classical.not_not.1 hv)
    repeat (first
      | refine ax_q (q_move rfl) ?_
      | refine ax_ops_nil ?_
      | refine ax_post_code ?_
      | refine ax_seq ?_
      | refine ax_region rfl ?_
      | refine ax_skip ?_
      | refine ax_q (q_streql rfl rfl) ?_)
    refine ax_cond_dec rfl (fun hd => ?_) (fun hd => ?_)
    · obtain ⟨q, qx⟩ := g1 hd
      subst qx
      rcases q with rfl | rfl
      · repeat (first
          | refine ax_q (q_move rfl) ?_
          | refine ax_q (q_assign rfl) ?_
          | refine ax_ops_nil ?_
          | refine ax_post_code ?_
          | refine ax_seq ?_
          | refine ax_region rfl ?_
          | refine ax_guard rfl rfl ?_
          | refine ax_skip_not rfl rfl rfl ?_
          | refine ax_return ?_
          | refine ax_ret_code ?_
          | refine ax_q (q_eql rfl rfl) ?_
          | refine ax_q (q_pick rfl rfl) ?_
          | refine ax_q (q_len rfl rfl rfl) ?_)
        exact ax_ret hR rfl rfl
      · repeat (first
          | refine ax_q (q_move rfl) ?_
          | refine ax_q (q_assign rfl) ?_
          | refine ax_ops_nil ?_
          | refine ax_post_code ?_
          | refine ax_seq ?_
          | refine ax_region rfl ?_
          | refine ax_guard rfl rfl ?_
          | refine ax_return ?_
          | refine ax_ret_code ?_
          | refine ax_q (q_eql rfl rfl) ?_
          | refine ax_q (q_pick rfl rfl) ?_
          | refine ax_q (q_len rfl rfl rfl) ?_)
        exact ax_ret hR rfl rfl
    · exact absurd (g2 hd) he
end Go.Proofs.YtgmleamhjnlknaaGreatDoor

namespace Go.Proofs.YtgmleamhjnlknaaGreatDoor
open Go.ChangeShapes Go.WideShapes

theorem ownIt : ownKnob Tryz.prog.godebug = none := by kernel_rfl
theorem laidIt : laidOutB Tryz.prog = true := by kernel_rfl
theorem rowedIt : mapsRowed Tryz.prog = true := by kernel_rfl
theorem fullIt : ((List.range Tryz.prog.types.size).all fun t => match Tryz.prog.underlying t with | some (.slice e) => decide (0 < Tryz.prog.cellsOf e) | _ => true) = true := by kernel_rfl
theorem stopsIt : (Tryz.prog.stops == []) = true := by kernel_rfl
theorem knobsIt : (Tryz.prog.stopKnobs == []) = true := by kernel_rfl
theorem heardIt : Tryz.prog.stopsHeard = true := by kernel_rfl
theorem enterIt : Tryz.prog.mayEnter = true := by kernel_rfl
theorem liftIt : (Rows.regretContinuesRow.lifted == Tryz.prog.liftsFinal) = true := by kernel_rfl
theorem makeIt : (Tryz.prog.make == some Rows.regretContinuesRow.make) = true := by kernel_rfl
theorem plainIt : (Rows.regretContinuesRow.plainKeys == Tryz.prog.plainKeys) = true := by kernel_rfl
theorem harnessIt : Tryz.prog.mainIs = some (true, ("01fbb469cf8b0980b89ab124d6c951f307d4b37b82991b3a2bba3582623a25d4" : String).toList) := by kernel_rfl
theorem looksIt : true = Tryz.prog.looks [] := by kernel_rfl
end Go.Proofs.YtgmleamhjnlknaaGreatDoor

