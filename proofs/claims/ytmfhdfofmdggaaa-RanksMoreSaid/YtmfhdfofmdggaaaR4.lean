import Derived.Test.YtmfhdfofmdggaaaR3
import Derived.Test.YtmfhdfofmdggaaaShelf
namespace Go.Proofs.Ytmfhdfofmdggaaa
open Go.Ax Go.Ax.Idx Go.Ax.Cd Go.Ax.Rk Go.RowKit
attribute [local irreducible] Ax Post QOp ACall
set_option maxRecDepth 100000
set_option maxHeartbeats 4000000
set_option linter.unusedSimpArgs false
set_option linter.unusedVariables false

theorem refl_n1 {o1 : AObj} (h1 : refless o1.c) : ∀ (h : Nat) (o : AObj), ([none, some o1] : AHeap)[h]? = some (some o) → refless o.c := by
  intro h o ho
  match h, ho with
  | 0, ho => simp at ho
  | 1, ho => simp at ho; subst ho; exact h1
  | _ + 2, ho => simp at ho
theorem bitsLen (n : Nat) (h : n < 1000) : VCall Try.prog 42 [.int .u64 (n : Nat)] (.int .i64 (Lib.bitLen n)) := by
  refine VCall.of_below ⟨Try.f42, rfl, by kernel_rfl, rfl⟩ rfl rfl (fun w S vals hS hv => ?_)
  obtain ⟨h1, h2⟩ := hv
  have a := h2 0 (by simp)
  obtain ⟨x, rfl⟩ : ∃ x, vals = #[x] := by
    have : vals.toList.length = 1 := by simpa using h1
    match hq : vals.toList, this with
    | [x], _ => exact ⟨x, by rw [← Array.toArray_toList (xs := vals), hq]⟩
  simp at a
  have hx : x = .int .u64 (n : Nat) := by cases a; rfl
  subst hx
  refine (Try.bits_Len (n : Nat) w (by omega) (by omega)).mono ?_
  rintro e w' ⟨rfl, rfl⟩
  exact ⟨_, rfl, Below.refl _ _, .int _ _ _⟩

theorem pdq (l : List Int) (hl : l.length ≤ 12) (g : FuncId) (caps : List AV) (m : Int) (cf : Int → Int → Int) (hc : noRef.noRefs caps = true)
    (hcmp : ∀ a b, a ∈ l → b ∈ l → VCall Try.prog g ([.int .i64 a, .int .i64 b] ++ caps) (.int .i64 (cf a b))) :
    ACall Try.prog 41 [.sl 1 0 l.length, .int .i64 0, .int .i64 (l.length : Nat), .int .i64 m, .fn g caps] [none, some ⟨3, .ints .i64 l⟩] (fun h => h < 2)
      (fun r H => r = .tup [] ∧ H = [none, some ⟨3, .ints .i64 (sortF (fun a b => decide (cf a b < 0)) l)⟩]) := by
  refine acall_of_ax (P := Try.prog) (fn := Try.f41) rfl rfl (by kernel_rfl) rfl (fun c hR hfix => ?_)
  repeat (first
    | refine ax_q (q_assign rfl) ?_
    | refine ax_ops_nil ?_
    | refine ax_post_code ?_
    | refine ax_seq ?_
    | refine ax_region rfl ?_
    | refine ax_block ?_)
  refine ax_loop (ι := Unit) (fun _ => [(0, .sl 1 0 l.length), (1, .int .i64 0), (2, .int .i64 (l.length : Nat)), (3, .int .i64 m), (4, .fn g caps)]) (fun _ => [none, some ⟨3, .ints .i64 l⟩])
    (fun _ => True) (fun _ => 0) () ⟨⟨rfl, rfl, rfl, rfl, rfl, trivial⟩, rfl, trivial⟩ ?_
  rintro _ _
  repeat (first
    | refine ax_q (q_move rfl) ?_
    | refine ax_q (q_assign rfl) ?_
    | refine ax_ops_nil ?_
    | refine ax_post_code ?_
    | refine ax_seq ?_
    | refine ax_region rfl ?_
    | refine ax_block ?_
    | refine ax_q (q_leq rfl rfl) ?_
    | refine ax_q (q_sub rfl rfl (by omega)) ?_)
  refine ax_cond_dec rfl (fun h => ?_) (fun h => ?_)
  · repeat (first
      | refine ax_q (q_move rfl) ?_
      | refine ax_seq ?_
      | refine ax_region rfl ?_)
    refine ax_callc rfl rfl rfl (insSort l hl g caps cf hc hcmp) (fun _ h => h) (fun _ h => h) ?_
    rintro r H ⟨rfl, rfl⟩
    repeat (first
      | refine ax_ops_nil ?_
      | refine ax_post_code ?_
      | refine ax_return ?_
      | refine ax_ret_code ?_
      | refine ax_ret_blk ?_
      | refine ax_ret_inv ?_)
    exact ax_ret hR rfl ⟨rfl, rfl⟩
  · exact absurd h (by omega)

theorem sortFunc (l : List Int) (hl : l.length ≤ 12) (g : FuncId) (caps : List AV) (cf : Int → Int → Int) (hc : noRef.noRefs caps = true)
    (hcmp : ∀ a b, a ∈ l → b ∈ l → VCall Try.prog g ([.int .i64 a, .int .i64 b] ++ caps) (.int .i64 (cf a b))) :
    ACall Try.prog 35 [.sl 1 0 l.length, .fn g caps] [none, some ⟨3, .ints .i64 l⟩] (fun h => h < 2)
      (fun r H => r = .tup [] ∧ H = [none, some ⟨3, .ints .i64 (sortF (fun a b => decide (cf a b < 0)) l)⟩]) := by
  refine acall_of_ax (P := Try.prog) (fn := Try.f35) rfl rfl (by kernel_rfl) rfl (fun c hR hfix => ?_)
  repeat (first
    | refine ax_q (q_move rfl) ?_
    | refine ax_q (q_assign rfl) ?_
    | refine ax_ops_nil ?_
    | refine ax_post_code ?_
    | refine ax_seq ?_
    | refine ax_region rfl ?_
    | refine ax_q (q_len rfl rfl rfl) ?_)
  refine ax_q (q_conv rfl rfl rfl) ?_
  refine ax_slot_ops 10 (.int .u64 (l.length : Nat)) rfl (AEq.of_eq (congrArg (AV.int .u64) (IntWalk.u64_in _ (by omega)))) ?_
  skip
  refine ax_calll rfl rfl rfl rfl (bitsLen l.length (by omega)) (refl_n1 refless_ints) (by simp [inBs, inB, Cells.len]) rfl rfl rfl ?_
  repeat (refine ax_q (q_move rfl) ?_)
  refine ax_callc rfl rfl rfl (pdq l hl g caps _ cf hc hcmp) (fun _ h => h) (fun _ h => h) ?_
  rintro r H ⟨rfl, rfl⟩
  repeat (refine ax_ops_nil ?_)
  exact ax_end hR rfl ⟨rfl, rfl⟩
end Go.Proofs.Ytmfhdfofmdggaaa
