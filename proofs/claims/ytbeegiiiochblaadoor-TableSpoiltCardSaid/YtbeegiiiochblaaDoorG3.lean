import Derived.Lib.ItoaNum
import Derived.Laws.Small
import Derived.MapKept
import Derived.Laws.IdiomStrings
import Derived.Test.YtbeegiiiochblaaDoorG2
set_option linter.unusedVariables false
set_option linter.unusedSimpArgs false
namespace Go.Proofs.YtbeegiiiochblaaDoor
open Go.Ax Go.Ax.Tb Go.RowKit
attribute [local irreducible] Ax Post QOp ACall
set_option maxRecDepth 100000
set_option maxHeartbeats 4000000

/-- A builder that holds l; a: it has been written. -/
def adrB (a : Bool) : AV := if a then .ptr 0 0 0 else .nilp
def byI (s : List UInt8) : List Int := s.map (fun b => ((b.toNat : Nat) : Int))
theorem byI_append (s t : List UInt8) : byI (s ++ t) = byI s ++ byI t := by simp [byI]
theorem byI_len (s : List UInt8) : (byI s).length = s.length := by simp [byI]
theorem byI_getD (s : List UInt8) (i : Nat) (h : i < s.length) : (byI s).getD i 0 = ((s.getD i 0).toNat : Nat) := by simp [byI, List.getD, h]
abbrev bldH (a : Bool) (s : List UInt8) : AHeap := [some ⟨47, .box [adrB a, .sl 1 0 s.length]⟩, some ⟨5, .ints .u8 (byI s)⟩]

theorem copyCheck (a : Bool) (s : List UInt8) : ACall Tryd.prog 29 [.ptr 0 0 0] (bldH a s) (fun h => h < 2) (fun r H => r = .tup [] ∧ H = bldH true s) := by
  refine acall_of_ax (P := Tryd.prog) (fn := Tryd.f29) rfl rfl (by kernel_rfl) rfl (fun c hR hfix => ?_)
  cases a with
  | true =>
    repeat (first
      | refine ax_q (q_move rfl) ?_
      | refine ax_ops_nil ?_
      | refine ax_post_code ?_
      | refine ax_seq ?_
      | refine ax_region rfl ?_
      | refine ax_cond_false rfl ?_
      | refine ax_q (q_loadb_ptr rfl rfl rfl rfl rfl) ?_
      | refine ax_q (q_nilcheck_ptr rfl) ?_
      | refine ax_q (q_field_ptr rfl rfl rfl rfl rfl rfl) ?_
      | refine ax_q (q_ptreq rfl rfl rfl rfl) ?_)
    refine ax_q (q_ptrneqself rfl rfl rfl rfl) ?_
    repeat (first
      | refine ax_ops_nil ?_
      | refine ax_post_code ?_
      | refine ax_cond_false rfl ?_
      | refine ax_skip ?_)
    exact ax_end hR rfl ⟨rfl, rfl⟩
  | false =>
    repeat (first
      | refine ax_q (q_move rfl) ?_
      | refine ax_ops_nil ?_
      | refine ax_post_code ?_
      | refine ax_seq ?_
      | refine ax_region rfl ?_
      | refine ax_cond_true rfl ?_
      | refine ax_q (q_loadb_ptr rfl rfl rfl rfl rfl) ?_
      | refine ax_q (q_nilcheck_ptr rfl) ?_
      | refine ax_q (q_field_ptr rfl rfl rfl rfl rfl rfl) ?_
      | refine ax_q (q_ptreq rfl rfl rfl rfl) ?_)
    refine ax_q (q_tounsafe rfl rfl rfl rfl rfl rfl Nat.zero_lt_one (Nat.succ_pos _)) ?_
    skip
    refine ax_q (q_noescape rfl rfl rfl (by kernel_rfl) (by kernel_rfl) (by kernel_rfl) (by kernel_rfl)) ?_
    skip
    refine ax_q (q_fromunsafe rfl rfl rfl rfl rfl rfl rfl Nat.zero_lt_one (Nat.succ_pos _)) ?_
    repeat (first
      | refine ax_ops_nil ?_
      | refine ax_q (q_nilcheck_ptr rfl) ?_
      | refine ax_q (q_field_ptr rfl rfl rfl rfl rfl rfl) ?_
      | refine ax_store rfl rfl rfl rfl rfl rfl rfl Nat.zero_lt_one ?_)
    exact ax_end hR rfl ⟨rfl, rfl⟩

theorem writeS (a : Bool) (s q : List UInt8) (h : s.length + q.length ≤ 140737488355328) : ACall Tryd.prog 17 [.ptr 0 0 0, .str q] (bldH a s) (fun h => h = 0) (fun r H => r = .tup [.int .i64 (q.length : Nat), .nilif] ∧ H = bldH true (s ++ q)) := by
  refine acall_of_ax (P := Tryd.prog) (fn := Tryd.f17) rfl rfl (by kernel_rfl) rfl (fun c hR hfix => ?_)
  have hl := byI_len s
  repeat (first
    | refine ax_q (q_move rfl) ?_
    | refine ax_q (q_assign rfl) ?_
    | refine ax_ops_nil ?_
    | refine ax_post_code ?_
    | refine ax_seq ?_
    | refine ax_region rfl ?_)
  refine ax_callc rfl rfl rfl (copyCheck a s) (fun _ h => h) (fun _ h => h) ?_
  rintro r H ⟨rfl, rfl⟩
  repeat (first
    | refine ax_q (q_move rfl) ?_
    | refine ax_ops_nil ?_
    | refine ax_post_code ?_
    | refine ax_seq ?_
    | refine ax_region rfl ?_
    | refine ax_q (q_loadb_ptr rfl rfl rfl rfl rfl) ?_
    | refine ax_q (q_nilcheck_ptr rfl) ?_
    | refine ax_q (q_field_ptr rfl rfl rfl rfl rfl rfl) ?_)
  refine ax_append_str (o := ⟨5, .ints .u8 (byI s)⟩) (h := 1) (n := s.length) (s := q) (c' := .ints .u8 (byI (s ++ q))) rfl rfl rfl rfl rfl rfl rfl rfl rfl hl rfl rfl rfl rfl ?_ (fun i j hi hj => ?_) (fun d j hd hj => ?_) (by show (s.length + q.length) * 1 ≤ _ ∧ _; omega) (fun _ _ _ _ => rfl) (by rw [hfix]; decide) ?_
  · show (byI (s ++ q)).length = (byI s).length + q.length
    rw [byI_append, List.length_append, byI_len q]
  · show AV.int .u8 ((byI (s ++ q)).getD i 0) = AV.int .u8 ((byI s).getD i 0)
    have hi' : i < (byI s).length := hi
    rw [byI_append]
    simp [List.getD, List.getElem?_append, hi']
  · show AV.int .u8 ((byI (s ++ q)).getD ((byI s).length + d) 0) = _
    rw [byI_append]
    have : (byI s ++ byI q).getD ((byI s).length + d) 0 = (byI q).getD d 0 := by
      rw [List.getD, List.getElem?_append_right (by omega)]
      simp [List.getD]
    rw [this, byI_getD q d hd]
  repeat (first
    | refine ax_q (q_move rfl) ?_
    | refine ax_q (q_assign rfl) ?_
    | refine ax_ops_nil ?_
    | refine ax_post_code ?_
    | refine ax_seq ?_
    | refine ax_region rfl ?_
    | refine ax_return ?_
    | refine ax_q (q_lenstr rfl rfl) ?_
    | refine ax_q (q_nilcheck_ptr rfl) ?_
    | refine ax_q (q_field_ptr rfl rfl rfl rfl rfl rfl) ?_
    | refine ax_store rfl rfl rfl rfl rfl rfl rfl Nat.zero_lt_one ?_)
  refine ax_ret hR rfl ⟨rfl, ?_⟩
  show ([some ⟨47, .box [.ptr 0 0 0, .sl 1 0 (s.length + q.length)]⟩, some ⟨5, .ints .u8 (byI (s ++ q))⟩] : AHeap) = _
  rw [← List.length_append]
  rfl
theorem writeB (a : Bool) (s : List UInt8) (b : UInt8) (h : s.length + 1 ≤ 140737488355328) : ACall Tryd.prog 19 [.ptr 0 0 0, .int .u8 (b.toNat : Nat)] (bldH a s) (fun h => h = 0) (fun r H => r = .nilif ∧ H = bldH true (s ++ [b])) := by
  refine acall_of_ax (P := Tryd.prog) (fn := Tryd.f19) rfl rfl (by kernel_rfl) rfl (fun c hR hfix => ?_)
  have hl := byI_len s
  repeat (first
    | refine ax_q (q_move rfl) ?_
    | refine ax_q (q_assign rfl) ?_
    | refine ax_ops_nil ?_
    | refine ax_post_code ?_
    | refine ax_seq ?_
    | refine ax_region rfl ?_)
  refine ax_callc rfl rfl rfl (copyCheck a s) (fun _ h => h) (fun _ h => h) ?_
  rintro r H ⟨rfl, rfl⟩
  repeat (first
    | refine ax_q (q_move rfl) ?_
    | refine ax_ops_nil ?_
    | refine ax_post_code ?_
    | refine ax_seq ?_
    | refine ax_region rfl ?_
    | refine ax_q (q_loadb_ptr rfl rfl rfl rfl rfl) ?_
    | refine ax_q (q_nilcheck_ptr rfl) ?_
    | refine ax_q (q_field_ptr rfl rfl rfl rfl rfl rfl) ?_
    | refine ax_buildSliceRo rfl rfl rfl rfl rfl rfl rfl rfl rfl rfl rfl ?_)
  refine ax_append rfl rfl rfl rfl rfl rfl rfl rfl rfl hl rfl rfl (by show 0 + 1 ≤ 1; omega) rfl (by show (s.length + 1) * 1 ≤ _ ∧ _; omega) (fun i j _ _ => rfl) (by rw [hfix]; decide) ?_
  repeat (first
    | refine ax_q (q_assign rfl) ?_
    | refine ax_ops_nil ?_
    | refine ax_post_code ?_
    | refine ax_seq ?_
    | refine ax_region rfl ?_
    | refine ax_return ?_
    | refine ax_q (q_nilcheck_ptr rfl) ?_
    | refine ax_q (q_field_ptr rfl rfl rfl rfl rfl rfl) ?_
    | refine ax_store rfl rfl rfl rfl rfl rfl rfl Nat.zero_lt_one ?_)
  refine ax_ret hR rfl ⟨rfl, ?_⟩
  show ([some ⟨47, .box [.ptr 0 0 0, .sl 1 0 (s.length + 1)]⟩, some ⟨5, .ints .u8 (byI s ++ [((b.toNat : Nat) : Int)])⟩] : AHeap) = _
  rw [show byI s ++ [((b.toNat : Nat) : Int)] = byI (s ++ [b]) by rw [byI_append]; rfl, show s.length + 1 = (s ++ [b]).length by simp]
  rfl
theorem stringB (s : List UInt8) (h : s.length ≤ 140737488355328) (h0 : s ≠ []) : ACall Tryd.prog 20 [.ptr 0 0 0] (bldH true s) (fun h => h < 2) (fun r H => r = .str s ∧ H = [some ⟨47, .box [.ptr 0 0 0, .sl 1 0 s.length]⟩, none]) := by
  refine acall_of_ax (P := Tryd.prog) (fn := Tryd.f20) rfl rfl (by kernel_rfl) rfl (fun c hR hfix => ?_)
  have hpos : 0 < s.length := List.length_pos_iff.2 h0
  repeat (first
    | refine ax_q (q_assign rfl) ?_
    | refine ax_ops_nil ?_
    | refine ax_post_code ?_
    | refine ax_seq ?_
    | refine ax_region rfl ?_)
  refine ax_regiond (by kernel_rfl) ?_
  refine ax_any_q 0 rfl (by kernel_rfl) (by kernel_rfl) (by kernel_rfl) rfl (q_move rfl) rfl ?_
  refine ax_any_q 1 rfl (by kernel_rfl) (by kernel_rfl) (by kernel_rfl) rfl (q_nilcheck_ptr rfl) rfl ?_
  refine ax_any_q 2 rfl (by kernel_rfl) (by kernel_rfl) (by kernel_rfl) rfl (q_field_ptr rfl rfl rfl rfl rfl rfl) rfl ?_
  refine ax_any_q 5 rfl (by kernel_rfl) (by kernel_rfl) (by kernel_rfl) rfl (q_move rfl) rfl ?_
  refine ax_any_q 6 rfl (by kernel_rfl) (by kernel_rfl) (by kernel_rfl) rfl (q_nilcheck_ptr rfl) rfl ?_
  refine ax_any_q 7 rfl (by kernel_rfl) (by kernel_rfl) (by kernel_rfl) rfl (q_field_ptr rfl rfl rfl rfl rfl rfl) rfl ?_
  apply ax_tail_any [(7, .ptr 1 0 0), (12, .int .i64 (s.length : Nat))]
  · intro fin
    refine ax_any_step (is := [3, 8]) (by kernel_rfl) (by simp) rfl ⟨fun o ho => ?_, fun o ho => ?_, trivial⟩
    all_goals (cases ho)
    · repeat (first
        | refine ax_ops_nil ?_
        | refine ax_post_any ?_
        | refine ax_q (q_loadb_ptr rfl rfl rfl rfl rfl) ?_)
      refine ax_any_q 4 rfl (by kernel_rfl) (by kernel_rfl) (by kernel_rfl) rfl (q_slicedata (h := 1) (n := s.length) rfl hpos) rfl ?_
      refine ax_any_step (is := [8]) (by kernel_rfl) (by simp) rfl ⟨fun o ho => ?_, trivial⟩
      all_goals (cases ho)
      repeat (first
        | refine ax_ops_nil ?_
        | refine ax_post_any ?_
        | refine ax_q (q_loadb_ptr rfl rfl rfl rfl rfl) ?_)
      refine ax_any_q 9 rfl (by kernel_rfl) (by kernel_rfl) (by kernel_rfl) rfl (q_len rfl rfl rfl) rfl ?_
      exact fin _ ⟨rfl, rfl, trivial⟩
    · repeat (first
        | refine ax_ops_nil ?_
        | refine ax_post_any ?_
        | refine ax_q (q_loadb_ptr rfl rfl rfl rfl rfl) ?_)
      refine ax_any_q 9 rfl (by kernel_rfl) (by kernel_rfl) (by kernel_rfl) rfl (q_len rfl rfl rfl) rfl ?_
      refine ax_any_step (is := [3]) (by kernel_rfl) (by simp) rfl ⟨fun o ho => ?_, trivial⟩
      all_goals (cases ho)
      repeat (first
        | refine ax_ops_nil ?_
        | refine ax_post_any ?_
        | refine ax_q (q_loadb_ptr rfl rfl rfl rfl rfl) ?_)
      refine ax_any_q 4 rfl (by kernel_rfl) (by kernel_rfl) (by kernel_rfl) rfl (q_slicedata (h := 1) (n := s.length) rfl hpos) rfl ?_
      exact fin _ ⟨rfl, rfl, trivial⟩
  refine ax_any_step (is := [10]) (by kernel_rfl) (by simp) rfl ⟨fun o ho => ?_, trivial⟩
  all_goals (cases ho)
  skip
  refine ax_ustr (h := 1) (l := s) rfl (by kernel_rfl) rfl rfl rfl rfl rfl (byI_len s) (fun i hi => congrArg (AV.int .u8) (byI_getD s i hi)) h0 (by omega) ?_
  repeat (first
    | refine ax_ops_nil ?_
    | refine ax_post_any ?_)
  refine ax_any_q 11 rfl (by kernel_rfl) (by kernel_rfl) (by kernel_rfl) rfl (q_assign rfl) rfl ?_
  refine ax_any_done (by kernel_rfl) ?_
  repeat (first
    | refine ax_post_code ?_
    | refine ax_return ?_)
  exact ax_ret hR rfl ⟨rfl, rfl⟩
theorem stringN : ACall Tryd.prog 20 [.ptr 0 0 0] [some ⟨47, .box [.nilp, .nil]⟩] (fun h => h < 1) (fun r H => r = .str [] ∧ H = [some ⟨47, .box [.nilp, .nil]⟩]) := by
  refine acall_of_ax (P := Tryd.prog) (fn := Tryd.f20) rfl rfl (by kernel_rfl) rfl (fun c hR hfix => ?_)
  repeat (first
    | refine ax_q (q_assign rfl) ?_
    | refine ax_ops_nil ?_
    | refine ax_post_code ?_
    | refine ax_seq ?_
    | refine ax_region rfl ?_)
  refine ax_regiond (by kernel_rfl) ?_
  refine ax_any_q 0 rfl (by kernel_rfl) (by kernel_rfl) (by kernel_rfl) rfl (q_move rfl) rfl ?_
  refine ax_any_q 1 rfl (by kernel_rfl) (by kernel_rfl) (by kernel_rfl) rfl (q_nilcheck_ptr rfl) rfl ?_
  refine ax_any_q 2 rfl (by kernel_rfl) (by kernel_rfl) (by kernel_rfl) rfl (q_field_ptr rfl rfl rfl rfl rfl rfl) rfl ?_
  refine ax_any_q 5 rfl (by kernel_rfl) (by kernel_rfl) (by kernel_rfl) rfl (q_move rfl) rfl ?_
  refine ax_any_q 6 rfl (by kernel_rfl) (by kernel_rfl) (by kernel_rfl) rfl (q_nilcheck_ptr rfl) rfl ?_
  refine ax_any_q 7 rfl (by kernel_rfl) (by kernel_rfl) (by kernel_rfl) rfl (q_field_ptr rfl rfl rfl rfl rfl rfl) rfl ?_
  apply ax_tail_any [(7, .nilp), (12, .int .i64 0)]
  · intro fin
    refine ax_any_step (is := [3, 8]) (by kernel_rfl) (by simp) rfl ⟨fun o ho => ?_, fun o ho => ?_, trivial⟩
    all_goals (cases ho)
    · repeat (first
        | refine ax_ops_nil ?_
        | refine ax_post_any ?_
        | refine ax_q (q_loadb_ptr rfl rfl rfl rfl rfl) ?_)
      refine ax_any_q 4 rfl (by kernel_rfl) (by kernel_rfl) (by kernel_rfl) rfl (q_slicedata_nil rfl) rfl ?_
      refine ax_any_step (is := [8]) (by kernel_rfl) (by simp) rfl ⟨fun o ho => ?_, trivial⟩
      all_goals (cases ho)
      repeat (first
        | refine ax_ops_nil ?_
        | refine ax_post_any ?_
        | refine ax_q (q_loadb_ptr rfl rfl rfl rfl rfl) ?_)
      refine ax_any_q 9 rfl (by kernel_rfl) (by kernel_rfl) (by kernel_rfl) rfl (q_len rfl rfl rfl) rfl ?_
      exact fin _ ⟨rfl, rfl, trivial⟩
    · repeat (first
        | refine ax_ops_nil ?_
        | refine ax_post_any ?_
        | refine ax_q (q_loadb_ptr rfl rfl rfl rfl rfl) ?_)
      refine ax_any_q 9 rfl (by kernel_rfl) (by kernel_rfl) (by kernel_rfl) rfl (q_len rfl rfl rfl) rfl ?_
      refine ax_any_step (is := [3]) (by kernel_rfl) (by simp) rfl ⟨fun o ho => ?_, trivial⟩
      all_goals (cases ho)
      repeat (first
        | refine ax_ops_nil ?_
        | refine ax_post_any ?_
        | refine ax_q (q_loadb_ptr rfl rfl rfl rfl rfl) ?_)
      refine ax_any_q 4 rfl (by kernel_rfl) (by kernel_rfl) (by kernel_rfl) rfl (q_slicedata_nil rfl) rfl ?_
      exact fin _ ⟨rfl, rfl, trivial⟩
  refine ax_any_step (is := [10]) (by kernel_rfl) (by simp) rfl ⟨fun o ho => ?_, trivial⟩
  all_goals (cases ho)
  skip
  refine ax_q (q_ustr_nil rfl rfl rfl) ?_
  repeat (first
    | refine ax_ops_nil ?_
    | refine ax_post_any ?_)
  refine ax_any_q 11 rfl (by kernel_rfl) (by kernel_rfl) (by kernel_rfl) rfl (q_assign rfl) rfl ?_
  refine ax_any_done (by kernel_rfl) ?_
  repeat (first
    | refine ax_post_code ?_
    | refine ax_return ?_)
  exact ax_ret hR rfl ⟨rfl, rfl⟩
end Go.Proofs.YtbeegiiiochblaaDoor

/-
  Numbers in base 2^32, in plain Lean. No program in sight.
-/
namespace Go.Ax.Bg

abbrev B : Nat := 4294967296
/-- The value of limbs, the least significant one first; the limbs of a number. -/
def valL : List Int → Nat
  | [] => 0
  | x :: r => x.toNat + B * valL r
def natL (n : Nat) : List Int := if h : n = 0 then [] else ((n % B : Nat) : Int) :: natL (n / B)
termination_by n
decreasing_by exact Nat.div_lt_self (Nat.pos_of_ne_zero h) (by decide)
def Lim (l : List Int) : Prop := ∀ x ∈ l, 0 ≤ x ∧ x < 4294967296
theorem natL_zero : natL 0 = [] := by rw [natL, dif_pos rfl]
theorem natL_pos {n : Nat} (h : n ≠ 0) : natL n = ((n % B : Nat) : Int) :: natL (n / B) := by rw [natL, dif_neg h]
theorem valL_natL (n : Nat) : valL (natL n) = n := by
  induction n using Nat.strongRecOn with
  | _ n ih =>
    by_cases h : n = 0
    · subst h; rw [natL_zero]; rfl
    · rw [natL_pos h, valL, ih _ (Nat.div_lt_self (Nat.pos_of_ne_zero h) (by decide)), Int.toNat_natCast]
      exact Nat.mod_add_div n B
theorem Lim.cons {x : Int} {r : List Int} : Lim (x :: r) ↔ (0 ≤ x ∧ x < 4294967296) ∧ Lim r := by simp [Lim]
theorem Lim.append {l m : List Int} : Lim (l ++ m) ↔ Lim l ∧ Lim m := by
  constructor
  · exact fun h => ⟨fun x hx => h x (List.mem_append_left _ hx), fun x hx => h x (List.mem_append_right _ hx)⟩
  · rintro ⟨h1, h2⟩ x hx
    rcases List.mem_append.1 hx with h | h
    · exact h1 x h
    · exact h2 x h
theorem Lim.nil : Lim [] := fun x hx => by simp at hx
theorem Lim.one {x : Int} (h : 0 ≤ x ∧ x < 4294967296) : Lim [x] := by rw [Lim.cons]; exact ⟨h, Lim.nil⟩
theorem natL_lim (n : Nat) : Lim (natL n) := by
  induction n using Nat.strongRecOn with
  | _ n ih =>
    by_cases h : n = 0
    · subst h; rw [natL_zero]; exact Lim.nil
    · rw [natL_pos h, Lim.cons]
      refine ⟨?_, ih _ (Nat.div_lt_self (Nat.pos_of_ne_zero h) (by decide))⟩
      have := Nat.mod_lt n (show 0 < B by decide)
      unfold B at this ⊢; omega
theorem Lim.get {l : List Int} (h : Lim l) {i : Nat} (hi : i < l.length) : 0 ≤ l.getD i 0 ∧ l.getD i 0 < 4294967296 := h _ (getD_mem 0 hi)
theorem Lim.take {l : List Int} (h : Lim l) (k : Nat) : Lim (l.take k) := fun x hx => h x (List.mem_of_mem_take hx)
theorem Lim.drop {l : List Int} (h : Lim l) (k : Nat) : Lim (l.drop k) := fun x hx => h x (List.mem_of_mem_drop hx)
theorem valL_append (l m : List Int) : valL (l ++ m) = valL l + B ^ l.length * valL m := by
  induction l with
  | nil => simp [valL]
  | cons x r ih =>
    rw [List.cons_append, valL, valL, ih, List.length_cons, Nat.pow_succ]
    rw [Nat.mul_add, Nat.add_assoc, Nat.mul_comm (B ^ r.length) B, Nat.mul_assoc]
theorem valL_lt {l : List Int} (h : Lim l) : valL l < B ^ l.length := by
  induction l with
  | nil => simp [valL]
  | cons x r ih =>
    rw [Lim.cons] at h
    have i := ih h.2
    rw [valL, List.length_cons, Nat.pow_succ]
    have hx : x.toNat < B := by unfold B; omega
    have : valL r + 1 ≤ B ^ r.length := i
    calc x.toNat + B * valL r < B + B * valL r := by omega
      _ = B * (valL r + 1) := by rw [Nat.mul_add, Nat.mul_one]; omega
      _ ≤ B * B ^ r.length := Nat.mul_le_mul_left _ this
      _ = B ^ r.length * B := Nat.mul_comm _ _
theorem valL_zeros (k : Nat) : valL (List.replicate k 0) = 0 := by
  induction k with
  | zero => rfl
  | succ k ih => rw [List.replicate_succ, valL, ih]; rfl
/-- Without superfluous zeros, limbs are those of their value. -/
theorem natL_val {l : List Int} (h : Lim l) (hz : l = [] ∨ l.getD (l.length - 1) 0 ≠ 0) : natL (valL l) = l := by
  induction l with
  | nil => exact natL_zero
  | cons x r ih =>
    rw [Lim.cons] at h
    have hx : x.toNat < B := by unfold B; omega
    have hxe : ((x.toNat : Nat) : Int) = x := by omega
    have hr : r = [] ∨ r.getD (r.length - 1) 0 ≠ 0 := by
      cases r with
      | nil => exact .inl rfl
      | cons y q =>
        right
        rcases hz with hz | hz
        · cases hz
        · simpa using hz
    have i := ih h.2 hr
    have hne : valL (x :: r) ≠ 0 := by
      rw [valL]
      cases r with
      | nil =>
        rcases hz with hz | hz
        · cases hz
        · simp at hz; simp [valL]; omega
      | cons y q =>
        intro h0
        have h1 : valL (y :: q) = 0 := by
          have : B * valL (y :: q) = 0 := by omega
          rcases Nat.mul_eq_zero.1 this with h | h
          · exact absurd h (by decide)
          · exact h
        rw [h1, natL_zero] at i
        cases i
    rw [natL_pos hne]
    have e1 : valL (x :: r) % B = x.toNat := by rw [valL, Nat.add_mul_mod_self_left, Nat.mod_eq_of_lt hx]
    have e2 : valL (x :: r) / B = valL r := by
      rw [valL, Nat.add_mul_div_left _ _ (by decide), Nat.div_eq_of_lt hx, Nat.zero_add]
    rw [e1, e2, i, hxe]
theorem natL_last {n : Nat} : natL n = [] ∨ (natL n).getD ((natL n).length - 1) 0 ≠ 0 := by
  induction n using Nat.strongRecOn with
  | _ n ih =>
    by_cases h : n = 0
    · subst h; exact .inl natL_zero
    · right
      rw [natL_pos h]
      have hlt := Nat.div_lt_self (Nat.pos_of_ne_zero h) (show 1 < B by decide)
      rcases ih (n / B) hlt with h1 | h1
      · rw [h1]
        have : n / B = 0 := by
          have := valL_natL (n / B)
          rw [h1] at this; exact this.symm
        have hn : n < B := by
          rcases Nat.lt_or_ge n B with q | q
          · exact q
          · have := Nat.div_pos q (show 0 < B by decide); omega
        simp only [List.length_cons, List.length_nil, Nat.zero_add, Nat.sub_self, List.getD_cons_zero]
        rw [Nat.mod_eq_of_lt hn]; omega
      · cases hq : natL (n / B) with
        | nil => rw [hq] at h1; simp at h1
        | cons y q =>
          rw [hq] at h1
          simpa using h1
/-- Zeros at the end cut away. -/
theorem norm_take {l : List Int} (h : Lim l) {k : Nat} (hk : k ≤ l.length) (h0 : ∀ i, k ≤ i → i < l.length → l.getD i 0 = 0) (hz : k = 0 ∨ l.getD (k - 1) 0 ≠ 0) : l.take k = natL (valL l) := by
  have e : l.drop k = List.replicate (l.length - k) 0 := by
    apply List.ext_getElem
    · simp
    · intro i h1 h2
      simp only [List.length_drop] at h1
      have := h0 (k + i) (by omega) (by omega)
      rw [getD_lt 0 (by omega)] at this
      simpa using this
  have hv : valL l = valL (l.take k) := by
    conv => lhs; rw [← List.take_append_drop k l]
    rw [valL_append, e, valL_zeros, Nat.mul_zero, Nat.add_zero]
  rw [hv, natL_val (h.take k)]
  rcases hz with hz | hz
  · subst hz; exact .inl (by simp)
  · right
    rw [List.length_take, Nat.min_eq_left hk]
    have hk0 : k ≠ 0 := fun e => by
      subst e
      cases l with
      | nil => simp at hz
      | cons x r => exact hz (h0 0 (Nat.le_refl _) (by simp))
    simp only [List.getD, List.getElem?_take, show k - 1 < k by omega, if_true]
    exact hz
theorem natL_len_le {n k : Nat} (h : n < B ^ k) : (natL n).length ≤ k := by
  rcases natL_last (n := n) with h1 | h1
  · rw [h1]; exact Nat.zero_le _
  · rcases Nat.lt_or_ge k (natL n).length with hl | hl
    · exfalso
      have hv := valL_natL n
      have hsplit := valL_append ((natL n).take ((natL n).length - 1)) ((natL n).drop ((natL n).length - 1))
      rw [List.take_append_drop, hv] at hsplit
      have hd : (natL n).drop ((natL n).length - 1) = [(natL n).getD ((natL n).length - 1) 0] := by
        rw [drop_getD (natL n) 0 _ (by omega), List.drop_of_length_le (by omega)]
      have hg := (natL_lim n).get (i := (natL n).length - 1) (by omega)
      rw [hd] at hsplit
      simp only [valL, Nat.mul_zero, Nat.add_zero, List.length_take] at hsplit
      rw [Nat.min_eq_left (by omega)] at hsplit
      have hx : 1 ≤ ((natL n).getD ((natL n).length - 1) 0).toNat := by omega
      have hp : B ^ k ≤ B ^ ((natL n).length - 1) := Nat.pow_le_pow_right (by decide) (by omega)
      have : B ^ ((natL n).length - 1) * 1 ≤ B ^ ((natL n).length - 1) * ((natL n).getD ((natL n).length - 1) 0).toNat := Nat.mul_le_mul_left _ hx
      omega
    · exact hl
theorem natL_len_ge {n k : Nat} (h : B ^ k ≤ n) : k < (natL n).length := by
  have h1 := valL_lt (natL_lim n)
  rw [valL_natL] at h1
  exact (Nat.pow_lt_pow_iff_right (show 1 < B by decide)).1 (Nat.lt_of_le_of_lt h h1)
theorem natL_inj {a b : Nat} (h : natL a = natL b) : a = b := by rw [← valL_natL a, ← valL_natL b, h]
theorem natL_nil {n : Nat} : natL n = [] ↔ n = 0 := by
  constructor
  · intro h; rw [← valL_natL n, h]; rfl
  · rintro rfl; exact natL_zero
theorem valL_take_succ {l : List Int} (i : Nat) (hi : i < l.length) : valL (l.take (i + 1)) = valL (l.take i) + B ^ i * (l.getD i 0).toNat := by
  rw [take_succ_getD l 0 i hi, valL_append]
  simp only [valL, Nat.mul_zero, Nat.add_zero, List.length_take]
  rw [Nat.min_eq_left (by omega)]
theorem valL_snoc {l : List Int} (x : Int) : valL (l ++ [x]) = valL l + B ^ l.length * x.toNat := by
  rw [valL_append]; simp only [valL, Nat.mul_zero, Nat.add_zero]
/-- The comparison from the top. -/
theorem cmp_split {a b : List Int} (i : Nat) (ha : Lim a) (hb : Lim b) (hl : a.length = b.length) (hi : i < a.length) (he : ∀ j, i < j → j < a.length → a.getD j 0 = b.getD j 0) (hlt : a.getD i 0 < b.getD i 0) : valL a < valL b := by
  have hd : a.drop (i + 1) = b.drop (i + 1) := by
    apply List.ext_getElem
    · simp [hl]
    · intro j h1 h2
      simp only [List.length_drop] at h1 h2
      have := he (i + 1 + j) (by omega) (by omega)
      rw [getD_lt 0 (by omega), getD_lt 0 (by omega)] at this
      simpa using this
  have ea : valL a = valL (a.take (i + 1)) + B ^ (i + 1) * valL (a.drop (i + 1)) := by
    conv => lhs; rw [← List.take_append_drop (i + 1) a]
    rw [valL_append, List.length_take, Nat.min_eq_left (by omega)]
  have eb : valL b = valL (b.take (i + 1)) + B ^ (i + 1) * valL (b.drop (i + 1)) := by
    conv => lhs; rw [← List.take_append_drop (i + 1) b]
    rw [valL_append, List.length_take, Nat.min_eq_left (by omega)]
  rw [ea, eb, hd, valL_take_succ i hi, valL_take_succ i (by omega)]
  have h1 := valL_lt (ha.take i)
  rw [List.length_take, Nat.min_eq_left (by omega)] at h1
  have hga := ha.get hi
  have hgb := hb.get (i := i) (by omega)
  have h2 : B ^ i * ((a.getD i 0).toNat + 1) ≤ B ^ i * (b.getD i 0).toNat := Nat.mul_le_mul_left _ (by omega)
  rw [Nat.mul_add, Nat.mul_one] at h2
  omega
end Go.Ax.Bg

/-
  Decimal texts of numbers, in plain Lean. No program in sight.
-/
namespace Go.Ax.Bg
open Go.Ax.Tb (digit digit_of digits_digit digits_ne)

/-- What digits spell. -/
def decS (a : Nat) (c : UInt8) : Nat := a * 10 + (c.toNat - 48)
def decV (acc : Nat) (l : List UInt8) : Nat := l.foldl decS acc
theorem decV_nil (acc : Nat) : decV acc [] = acc := rfl
theorem decV_cons (acc : Nat) (c : UInt8) (r : List UInt8) : decV acc (c :: r) = decV (acc * 10 + (c.toNat - 48)) r := by
  unfold decV; rw [List.foldl_cons, decS]
theorem decV_append (l m : List UInt8) (acc : Nat) : decV acc (l ++ m) = decV (decV acc l) m := by
  unfold decV; rw [List.foldl_append]
theorem decV_acc (l : List UInt8) (acc : Nat) : decV acc l = acc * 10 ^ l.length + decV 0 l := by
  induction l generalizing acc with
  | nil => rw [decV_nil, decV_nil]; simp
  | cons c r ih =>
    rw [decV_cons, decV_cons, ih, ih (0 * 10 + _), List.length_cons, Nat.pow_succ]
    generalize c.toNat - 48 = d
    generalize 10 ^ r.length = e
    generalize decV 0 r = v
    rw [Nat.add_mul, Nat.zero_mul, Nat.zero_add, Nat.mul_assoc, Nat.mul_comm 10 e]
    omega
theorem decV_snoc (l : List UInt8) (c : UInt8) (acc : Nat) : decV acc (l ++ [c]) = decV acc l * 10 + (c.toNat - 48) := by rw [decV_append, decV_cons, decV_nil]
theorem decV_digits (u : Nat) : decV 0 (Lib.decDigits u) = u := by
  induction u using Nat.strongRecOn with
  | _ u ih =>
    rw [Lib.decDigits]
    split
    · rename_i h
      have := (digit_of h).2
      rw [decV_cons, decV_nil, this]; omega
    · have := (digit_of (Nat.mod_lt u (show 0 < 10 by decide))).2
      rw [decV_snoc, ih _ (by omega), this]
      omega
theorem decV_lt {l : List UInt8} (h : ∀ c ∈ l, digit c) : decV 0 l < 10 ^ l.length := by
  induction l with
  | nil => rw [decV_nil]; simp
  | cons c r ih =>
    have hc := h c (by simp)
    have i := ih (fun x hx => h x (by simp [hx]))
    unfold digit at hc
    rw [decV_cons, decV_acc, List.length_cons, Nat.pow_succ]
    have : (c.toNat - 48) * 10 ^ r.length ≤ 9 * 10 ^ r.length := Nat.mul_le_mul_right _ (by omega)
    rw [Nat.zero_mul, Nat.zero_add]
    generalize 10 ^ r.length = e at *
    generalize (c.toNat - 48) * e = q at *
    omega
theorem decV_ge {c : UInt8} {r : List UInt8} (h : digit c) (h0 : c ≠ 48) : 10 ^ r.length ≤ decV 0 (c :: r) := by
  unfold digit at h
  have hc : c.toNat ≠ 48 := fun e => h0 (UInt8.toNat_inj.1 e)
  rw [decV_cons, decV_acc]
  have : 1 * 10 ^ r.length ≤ (0 * 10 + (c.toNat - 48)) * 10 ^ r.length := Nat.mul_le_mul_right _ (by omega)
  generalize (0 * 10 + (c.toNat - 48)) * 10 ^ r.length = q at *
  omega
theorem snocInd {α : Type} {p : List α → Prop} (h0 : p []) (h1 : ∀ l x, p l → p (l ++ [x])) : ∀ l, p l := by
  intro l
  have key : ∀ (n : Nat) (l : List α), l.length = n → p l := by
    intro n
    induction n with
    | zero => intro l hl; rw [List.length_eq_zero_iff.1 hl]; exact h0
    | succ n ih =>
      intro l hl
      have hne : l ≠ [] := by intro e; subst e; simp at hl
      rw [← List.dropLast_concat_getLast hne]
      exact h1 _ _ (ih _ (by simp [hl]))
  exact key _ l rfl
/-- A number's text: digits, not empty, and no 0 ahead of others. -/
def Canon (s : List UInt8) : Prop := s ≠ [] ∧ (∀ c ∈ s, digit c) ∧ (s.getD 0 0 ≠ 48 ∨ s.length = 1)
theorem canon_digits (u : Nat) : Canon (Lib.decDigits u) := by
  refine ⟨digits_ne u, digits_digit u, ?_⟩
  induction u using Nat.strongRecOn with
  | _ u ih =>
    rw [Lib.decDigits]
    split
    · exact .inr rfl
    · left
      rename_i h
      have hne := digits_ne (u / 10)
      rcases ih (u / 10) (by omega) with h1 | h1
      · cases hq : Lib.decDigits (u / 10) with
        | nil => exact absurd hq hne
        | cons c r => rw [hq] at h1; simpa using h1
      · have hlt : u / 10 < 10 := by
          have hl := Lib.decDigits_length (u / 10)
          rw [h1] at hl
          have := Lib.lt_pow_nDigits (u / 10)
          rw [← hl] at this
          simpa using this
        rw [Lib.decDigits_one hlt]
        simp only [List.cons_append, List.getD_cons_zero]
        intro e
        have := congrArg UInt8.toNat e
        rw [(digit_of hlt).2] at this
        have : (48 : UInt8).toNat = 48 := rfl
        omega
theorem canon_eq {s : List UInt8} (h : Canon s) : Lib.decDigits (decV 0 s) = s := by
  obtain ⟨h1, h2, h3⟩ := h
  revert h1 h2 h3
  refine snocInd (p := fun s => s ≠ [] → (∀ c ∈ s, digit c) → (s.getD 0 0 ≠ 48 ∨ s.length = 1) → Lib.decDigits (decV 0 s) = s) ?_ ?_ s
  · intro h; exact absurd rfl h
  · intro l c ih _ hd h3
    have hc := hd c (by simp)
    have hcv : UInt8.ofNat (48 + (c.toNat - 48)) = c := by
      unfold digit at hc
      rw [show 48 + (c.toNat - 48) = c.toNat by omega]
      simp
    rw [decV_snoc]
    cases l with
    | nil =>
      rw [decV_nil, List.nil_append, Nat.zero_mul, Nat.zero_add]
      rw [Lib.decDigits, dif_pos (by unfold digit at hc; omega), hcv]
    | cons x r =>
      have hx : x ≠ 48 := by
        rcases h3 with h3 | h3
        · simpa using h3
        · simp at h3
      have hxd := hd x (by simp)
      have hge := decV_ge (r := r) hxd hx
      have hpos : 1 ≤ 10 ^ r.length := Nat.one_le_pow _ _ (by decide)
      have i := ih (by simp) (fun c hc => hd c (by simp at hc ⊢; rcases hc with rfl | hc; exact .inl rfl; exact .inr (.inl hc))) (.inl (by simpa using hx))
      generalize decV 0 (x :: r) = v at *
      unfold digit at hc
      rw [Lib.decDigits, dif_neg (by omega)]
      rw [show (v * 10 + (c.toNat - 48)) / 10 = v by omega, show (v * 10 + (c.toNat - 48)) % 10 = c.toNat - 48 by omega, i, hcv]
theorem decDigits_inj {a b : Nat} (h : Lib.decDigits a = Lib.decDigits b) : a = b := by rw [← decV_digits a, ← decV_digits b, h]
/-- How long a text is. -/
theorem digits_len_le {n k : Nat} (hk : 1 ≤ k) (h : n < 10 ^ k) : (Lib.decDigits n).length ≤ k := by
  have hl := Lib.decDigits_length n
  rcases Nat.lt_or_ge k (Lib.decDigits n).length with hlt | hge
  · exfalso
    have hc := canon_digits n
    have hv := decV_digits n
    cases hq : Lib.decDigits n with
    | nil => exact digits_ne n hq
    | cons c r =>
      rw [hq] at hc hv hlt
      simp only [List.length_cons] at hlt
      have hne : c ≠ 48 := by
        rcases hc.2.2 with h | h
        · simpa using h
        · simp at h; subst h; simp at hlt; omega
      have := decV_ge (r := r) (hc.2.1 c (by simp)) hne
      rw [hv] at this
      have : 10 ^ k ≤ 10 ^ r.length := Nat.pow_le_pow_right (by decide) (by omega)
      omega
  · exact hge
theorem digits_lt (n : Nat) : n < 10 ^ (Lib.decDigits n).length := by
  have := decV_lt (digits_digit n)
  rwa [decV_digits] at this

/-- Nine digits behind the others. -/
def pad (k m : Nat) : List UInt8 := List.replicate (k - (Lib.decDigits m).length) 48 ++ Lib.decDigits m
theorem decV_zeros (k : Nat) (l : List UInt8) : decV 0 (List.replicate k 48 ++ l) = decV 0 l := by
  induction k with
  | zero => rfl
  | succ k ih => rw [List.replicate_succ, List.cons_append, decV_cons]; exact ih
theorem pad_len {k m : Nat} (hk : 1 ≤ k) (h : m < 10 ^ k) : (pad k m).length = k := by
  have := digits_len_le hk h
  unfold pad; simp; omega
theorem pad_digit (k m : Nat) : ∀ c ∈ pad k m, digit c := by
  intro c hc
  unfold pad at hc
  rcases List.mem_append.1 hc with h | h
  · rw [(List.mem_replicate.1 h).2]; exact ⟨by decide, by decide⟩
  · exact digits_digit m c h
theorem digits_split {n k : Nat} (hk : 1 ≤ k) (h : 10 ^ k ≤ n) : Lib.decDigits n = Lib.decDigits (n / 10 ^ k) ++ pad k (n % 10 ^ k) := by
  have hp : 0 < 10 ^ k := Nat.pow_pos (by decide)
  have hm := Nat.mod_lt n hp
  have hd : n / 10 ^ k ≠ 0 := by have := Nat.div_pos h hp; omega
  have hc := canon_digits (n / 10 ^ k)
  have hcan : Canon (Lib.decDigits (n / 10 ^ k) ++ pad k (n % 10 ^ k)) := by
    refine ⟨by simp [hc.1], fun c hcm => ?_, .inl ?_⟩
    · rcases List.mem_append.1 hcm with h | h
      · exact hc.2.1 c h
      · exact pad_digit _ _ c h
    · cases hq : Lib.decDigits (n / 10 ^ k) with
      | nil => exact absurd hq hc.1
      | cons c r =>
        rw [hq] at hc
        simp only [List.cons_append, List.getD_cons_zero]
        rcases hc.2.2 with h | h
        · simpa using h
        · simp only [List.length_cons, Nat.add_eq_right, List.length_eq_zero_iff] at h
          subst h
          intro e
          subst e
          have := decV_digits (n / 10 ^ k)
          rw [hq] at this
          exact hd (this.symm.trans (by decide))
  have hv : decV 0 (Lib.decDigits (n / 10 ^ k) ++ pad k (n % 10 ^ k)) = n := by
    rw [decV_append, decV_digits, decV_acc, pad_len hk hm]
    have : decV 0 (pad k (n % 10 ^ k)) = n % 10 ^ k := by unfold pad; rw [decV_zeros, decV_digits]
    rw [this, Nat.mul_comm]
    exact Nat.div_add_mod n _
  have := canon_eq hcan
  rw [hv] at this
  exact this
end Go.Ax.Bg

/-
  More on the texts of tables, in plain Lean; a rule: a nil slice in a cell is taken for an object that has nothing yet.
-/
namespace Go.Ax.Tb
open Go.Ax.Bg (digits_len_le)

theorem same_char {v : Int} : ∀ {r : List Int} {m : Nat}, m ≤ r.length → (∀ j, j < m → r.getD j 0 = v) → (m = r.length ∨ r.getD m 0 ≠ v) → same v r = m
  | [], m, h, _, _ => by simp at h; subst h; rfl
  | x :: r, 0, _, _, h => by
    rcases h with h | h
    · simp at h
    · rw [same, if_neg (by simpa using h)]
  | x :: r, m + 1, h, h1, h2 => by
    have h0 := h1 0 (Nat.succ_pos _)
    simp only [List.getD_cons_zero] at h0
    rw [same, if_pos h0, same_char (r := r) (m := m) (by simpa using h) (fun j hj => by simpa using h1 (j + 1) (by omega)) (by rcases h2 with h2 | h2; exact .inl (by simpa using h2); exact .inr (by simpa using h2))]
theorem itoa_len {n : Int} (h : 0 ≤ n ∧ n ≤ 9999) : (Lib.itoa n).length ≤ 4 := by
  obtain ⟨u, rfl⟩ : ∃ u : Nat, n = u := ⟨n.toNat, by omega⟩
  rw [itoa_nat]
  exact digits_len_le (by decide) (by omega)
theorem runT_len {v : Int} {m : Nat} (hv : 0 ≤ v ∧ v ≤ 9999) (hm : m ≤ 4096) : (runT v m).length ≤ 10 := by
  have h1 := itoa_len hv
  have h2 := itoa_len (n := (m : Int)) (by omega)
  unfold runT
  split <;> simp <;> omega
theorem packB_len : ∀ (n : Nat) (l : List Int), l.length ≤ 4096 → (∀ x ∈ l, 0 ≤ x ∧ x ≤ 9999) → (packB n l).length ≤ 10 * l.length
  | 0, l, _, _ => by simp [packB]
  | n + 1, [], _, _ => by simp [packB]
  | n + 1, v :: r, hl, hx => by
    have hs := same_le v r
    simp only [List.length_cons] at hl
    have h1 := runT_len (m := same v r + 1) (hx v (by simp)) (by omega)
    have h2 := packB_len n (r.drop (same v r)) (by simp; omega) (fun x hxx => hx x (by simp [List.mem_of_mem_drop hxx]))
    rw [packB, List.length_append, List.length_cons]
    simp only [List.length_drop] at h2
    omega
theorem packB_step {l : List Int} {i k : Nat} (hi : i < k) (hk : k ≤ l.length) (h1 : ∀ j, i ≤ j → j < k → l.getD j 0 = l.getD i 0) (h2 : k = l.length ∨ l.getD k 0 ≠ l.getD i 0) :
    packB l.length (l.drop i) = runT (l.getD i 0) (k - i) ++ packB l.length (l.drop k) := by
  have hd := drop_getD l 0 i (by omega)
  have hs : same (l.getD i 0) (l.drop (i + 1)) = k - i - 1 := by
    refine same_char (by simp; omega) (fun j hj => ?_) ?_
    · have := h1 (i + 1 + j) (by omega) (by omega)
      simpa [List.getD, List.getElem?_drop] using this
    · rcases h2 with h2 | h2
      · left; simp; omega
      · right
        have e : i + 1 + (k - i - 1) = k := by omega
        simpa [List.getD, List.getElem?_drop, e] using h2
  rw [hd]
  obtain ⟨n, hn⟩ : ∃ n, l.length = n + 1 := ⟨l.length - 1, by omega⟩
  rw [hn, packB, hs, show k - i - 1 + 1 = k - i by omega, List.drop_drop, show i + 1 + (k - i - 1) = k by omega]
  rw [packB_more n (n + 1) (l.drop k) (by simp; omega) (by simp; omega)]
theorem runT_ne (v : Int) (m : Nat) : runT v m ≠ [] := by unfold runT; simp
end Go.Ax.Tb
namespace Go.Ax
variable [Pins]
section
variable {P : Program} {fn : Func} {c : Ctx} {fr : Fr} {H : AHeap} {k : List It}
theorem ax_nilcell {x : Code} (h : Nat) (o : AObj) {ob : AObj} (c' : Cells) (hh : H[h]? = some (some ob)) (ho : o.c.len = 0) (h1 : c'.len = ob.c.len) (h2 : c'.kd = ob.c.kd)
    (h3 : ∀ i j, i < ob.c.len → j < ob.c.sz → c'.at i j = ob.c.at i j ∨ (ob.c.at i j = .nil ∧ c'.at i j = .sl H.length 0 0)) (hk : Ax P fn c (.code x k) fr ((H ++ [some o]).set h (some ⟨ob.ty, c'⟩))) : Ax P fn c (.code x k) fr H := by
  intro w a σ S hr
  have g1 := hr.nowhere1 ho
  have hlt : h < H.length := (List.getElem?_eq_some_iff.1 hh).1
  have hh' : (H ++ [some o])[h]? = some (some ob) := by rw [List.getElem?_append_left hlt]; exact hh
  refine hk w a _ S (g1.recell hh' h1 h2 (fun i j v hi hj hv => ?_))
  rcases h3 i j hi hj with e | ⟨e1, e2⟩
  · rw [e]; exact hv
  · rw [e1] at hv
    rw [e2]
    cases hv
    exact .sl0 _ _ (by simp [upσ])
end
end Go.Ax

namespace Go.Proofs.YtbeegiiiochblaaDoor
open Go.Ax Go.Ax.Tb Go.RowKit
attribute [local irreducible] Ax Post QOp ACall
set_option maxRecDepth 100000
set_option maxHeartbeats 4000000

theorem tabE_ok {l : List Int} (h : tabE l = 0) : l.length ≤ 4096 ∧ ∀ x ∈ l, 0 ≤ x ∧ x ≤ 9999 := by
  unfold tabE at h
  split at h
  · omega
  · split at h
    · omega
    · rename_i h1 h2
      refine ⟨by omega, fun x hx => ?_⟩
      simp only [Bool.not_eq_true, List.any_eq_false] at h2
      have := h2 x hx
      unfold badV at this
      split at this
      · cases this
      · have := of_decide_eq_false this
        omega
def packT (l : List Int) : List UInt8 := packB l.length l ++ [35] ++ Lib.itoa (sumF (packB l.length l))
theorem Pack_bad (l : List Int) (h : l.length ≤ 9223372036854775807) (hE : ¬ tabE l = 0) : VCall Tryd.prog 7 [.ro (.ints .i64 l) 0 l.length] (.tup [.str [], .int .i64 (tabE l)]) := by
  have hc := check_ok l h
  refine ACall.value0 (acall_of_ax (P := Tryd.prog) (fn := Tryd.f7) rfl rfl (by kernel_rfl) rfl (fun c hR hfix => ?_)) (fix := fun _ => False) (fun _ h => h) rfl rfl
  generalize tabE l = e at *
  repeat (first
    | refine ax_q (q_move rfl) ?_
    | refine ax_q (q_assign rfl) ?_
    | refine ax_ops_nil ?_
    | refine ax_post_code ?_
    | refine ax_seq ?_
    | refine ax_region rfl ?_)
  refine ax_callv rfl rfl rfl hc ?_
  repeat (first
    | refine ax_q (q_move rfl) ?_
    | refine ax_q (q_assign rfl) ?_
    | refine ax_ops_nil ?_
    | refine ax_post_code ?_
    | refine ax_seq ?_
    | refine ax_region rfl ?_
    | refine ax_q (q_neq rfl rfl) ?_)
  refine ax_cond_dec rfl (fun _ => ?_) (fun h => absurd hE h)
  repeat (first
    | refine ax_q (q_move rfl) ?_
    | refine ax_q (q_assign rfl) ?_
    | refine ax_ops_nil ?_
    | refine ax_post_code ?_
    | refine ax_seq ?_
    | refine ax_region rfl ?_
    | refine ax_return ?_
    | refine ax_ret_code ?_)
  exact ax_ret hR rfl rfl
theorem Pack_nil : VCall Tryd.prog 7 [.ro (.ints .i64 []) 0 0] (.tup [.str (packT []), .int .i64 0]) := by
  have hc : VCall Tryd.prog 8 [.ro (.ints .i64 []) 0 0] (.int .i64 0) := check_ok [] (by decide)
  have hs := sum_ok [] (by decide)
  have hsb := sumF_bd []
  have hpt : packT [] = [] ++ [35] ++ Lib.itoa (sumF []) := rfl
  have ci := itoa (sumF []) (by omega)
  refine ACall.value0 (acall_of_ax (P := Tryd.prog) (fn := Tryd.f7) rfl rfl (by kernel_rfl) rfl (fun c hR hfix => ?_)) (fix := fun _ => False) (fun _ h => h) rfl rfl
  have hil : (Lib.itoa (sumF [])).length ≤ 100 := by
    obtain ⟨u, hu⟩ : ∃ u : Nat, sumF [] = u := ⟨(sumF []).toNat, by omega⟩
    rw [hu, itoa_nat]
    have := Go.Ax.Bg.digits_len_le (n := u) (k := 100) (by decide) (by have : u < 4294967296 := by omega
                                                                       exact Nat.lt_of_lt_of_le this (by decide))
    exact this
  rw [hpt] at hR
  generalize Lib.itoa (sumF []) = q at *
  generalize sumF [] = z at *
  repeat (first
    | refine ax_q (q_move rfl) ?_
    | refine ax_q (q_assign rfl) ?_
    | refine ax_ops_nil ?_
    | refine ax_post_code ?_
    | refine ax_seq ?_
    | refine ax_region rfl ?_)
  refine ax_callv rfl rfl rfl hc ?_
  repeat (first
    | refine ax_q (q_move rfl) ?_
    | refine ax_q (q_assign rfl) ?_
    | refine ax_ops_nil ?_
    | refine ax_post_code ?_
    | refine ax_seq ?_
    | refine ax_region rfl ?_
    | refine ax_cond_false rfl ?_
    | refine ax_block ?_
    | refine ax_skip ?_
    | refine ax_q (q_neq rfl rfl) ?_
    | refine ax_alloc rfl rfl rfl ?_)
  refine ax_loop (ι := Unit) (fun _ => [(0, .ro (.ints .i64 []) 0 0), (5, .ptr 0 0 0), (6, .int .i64 0)]) (fun _ => [some ⟨47, .box [.nilp, .nil]⟩]) (fun _ => True) (fun _ => 0) () ⟨⟨rfl, rfl, rfl, trivial⟩, rfl, trivial⟩ ?_
  rintro _ _
  repeat (first
    | refine ax_q (q_move rfl) ?_
    | refine ax_ops_nil ?_
    | refine ax_post_code ?_
    | refine ax_seq ?_
    | refine ax_region rfl ?_
    | refine ax_cond_false rfl ?_
    | refine ax_exit ?_
    | refine ax_exit_here ?_
    | refine ax_exit_code ?_
    | refine ax_exit_inv ?_
    | refine ax_q (q_lss rfl rfl) ?_
    | refine ax_q (q_len rfl rfl rfl) ?_)
  refine ax_callc rfl rfl rfl stringN (fun _ h => h) (fun _ h => h) ?_
  rintro r H ⟨rfl, rfl⟩
  repeat (first
    | refine ax_q (q_move rfl) ?_
    | refine ax_q (q_assign rfl) ?_
    | refine ax_ops_nil ?_
    | refine ax_post_code ?_
    | refine ax_seq ?_
    | refine ax_region rfl ?_)
  refine ax_q (q_concat rfl rfl (by decide)) ?_
  repeat (refine ax_q (q_move rfl) ?_)
  refine ax_callv rfl rfl rfl hs ?_
  skip
  refine ax_callv rfl rfl rfl ci ?_
  refine ax_q (q_concat rfl rfl (by show 1 + q.length ≤ _; omega)) ?_
  repeat (first
    | refine ax_q (q_assign rfl) ?_
    | refine ax_ops_nil ?_
    | refine ax_post_code ?_
    | refine ax_return ?_)
  exact ax_ret hR rfl rfl
theorem Pack_some (l : List Int) (hE : tabE l = 0) (h0 : l ≠ []) : VCall Tryd.prog 7 [.ro (.ints .i64 l) 0 l.length] (.tup [.str (packT l), .int .i64 0]) := by
  obtain ⟨hl, hx⟩ := tabE_ok hE
  have hc := check_ok l (by omega)
  rw [hE] at hc
  have hpl := packB_len l.length l hl hx
  have hs := sum_ok (packB l.length l) (by omega)
  have hsb := sumF_bd (packB l.length l)
  have hpt : packT l = packB l.length l ++ [35] ++ Lib.itoa (sumF (packB l.length l)) := rfl
  have ci := itoa (sumF (packB l.length l)) (by omega)
  have hne : packB l.length l ≠ [] := by
    obtain ⟨v, r, rfl⟩ : ∃ v r, l = v :: r := by cases l with | nil => exact absurd rfl h0 | cons v r => exact ⟨v, r, rfl⟩
    rw [List.length_cons, packB]
    intro e
    exact runT_ne _ _ (List.append_eq_nil_iff.1 e).1
  have hil : (Lib.itoa (sumF (packB l.length l))).length ≤ 100 := by
    obtain ⟨u, hu⟩ : ∃ u : Nat, sumF (packB l.length l) = u := ⟨(sumF (packB l.length l)).toNat, by omega⟩
    rw [hu, itoa_nat]
    exact Go.Ax.Bg.digits_len_le (n := u) (k := 100) (by decide) (by have : u < 4294967296 := by omega
                                                                     exact Nat.lt_of_lt_of_le this (by decide))
  have hlpos : 0 < l.length := List.length_pos_iff.2 h0
  refine ACall.value0 (acall_of_ax (P := Tryd.prog) (fn := Tryd.f7) rfl rfl (by kernel_rfl) rfl (fun c hR hfix => ?_)) (fix := fun _ => False) (fun _ h => h) rfl rfl
  rw [hpt] at hR
  repeat (first
    | refine ax_q (q_move rfl) ?_
    | refine ax_q (q_assign rfl) ?_
    | refine ax_ops_nil ?_
    | refine ax_post_code ?_
    | refine ax_seq ?_
    | refine ax_region rfl ?_)
  refine ax_callv rfl rfl rfl hc ?_
  repeat (first
    | refine ax_q (q_move rfl) ?_
    | refine ax_q (q_assign rfl) ?_
    | refine ax_ops_nil ?_
    | refine ax_post_code ?_
    | refine ax_seq ?_
    | refine ax_region rfl ?_
    | refine ax_cond_false rfl ?_
    | refine ax_skip ?_
    | refine ax_q (q_neq rfl rfl) ?_
    | refine ax_alloc rfl rfl rfl ?_)
  refine ax_nilcell 0 ⟨5, .ints .u8 (byI [])⟩ (.box [adrB false, .sl 1 0 0]) rfl rfl rfl rfl (fun i j hi hj => ?_) ?_
  · match j, hj with
    | 0, _ => exact .inl rfl
    | 1, _ => exact .inr ⟨rfl, rfl⟩
  repeat (refine ax_block ?_)
  refine ax_loop (ι := Nat × Bool × List UInt8) (fun x => [(0, .ro (.ints .i64 l) 0 l.length), (5, .ptr 0 0 0), (6, .int .i64 (x.1 : Nat))]) (fun x => bldH x.2.1 x.2.2)
    (fun x => x.1 ≤ l.length ∧ x.2.2 ++ packB l.length (l.drop x.1) = packB l.length l ∧ (x.2.2 ≠ [] → x.2.1 = true)) (fun x => l.length - x.1) (0, false, []) ⟨⟨rfl, rfl, rfl, trivial⟩, rfl, Nat.zero_le _, by simp, fun h => absurd rfl h⟩ ?_
  rintro ⟨i, a, T⟩ ⟨hi, hT, ha⟩
  simp only at *
  repeat (first
    | refine ax_q (q_move rfl) ?_
    | refine ax_ops_nil ?_
    | refine ax_post_code ?_
    | refine ax_seq ?_
    | refine ax_region rfl ?_
    | refine ax_q (q_lss rfl rfl) ?_
    | refine ax_q (q_len rfl rfl rfl) ?_)
  refine ax_cond_dec rfl (fun h1 => ?_) (fun h1 => ?_)
  · have hil2 : i < l.length := by omega
    repeat (first
      | refine ax_q (q_move rfl) ?_
      | refine ax_q (q_assign rfl) ?_
      | refine ax_ops_nil ?_
      | refine ax_post_code ?_
      | refine ax_seq ?_
      | refine ax_region rfl ?_
      | refine ax_block ?_
      | refine ax_skip ?_)
    refine ax_loop (ι := Nat) (fun k => [(0, .ro (.ints .i64 l) 0 l.length), (5, .ptr 0 0 0), (6, .int .i64 (i : Nat)), (7, .int .i64 (k : Nat))]) (fun _ => bldH a T)
      (fun k => i ≤ k ∧ k ≤ l.length ∧ ∀ j, i ≤ j → j < k → l.getD j 0 = l.getD i 0) (fun k => l.length - k) i ⟨⟨rfl, rfl, rfl, rfl, trivial⟩, rfl, Nat.le_refl _, hi, fun j h1 h2 => by omega⟩ ?_
    rintro k ⟨hk1, hk2, hk3⟩
    have hci : ((i : Nat) : Int).toNat = i := Int.toNat_natCast i
    have hck : ((k : Nat) : Int).toNat = k := Int.toNat_natCast k
    by_cases hgo : k < l.length ∧ l.getD k 0 = l.getD i 0
    · repeat (refine ax_seq ?_)
      refine ax_regionq (by kernel_rfl) (by kernel_rfl) rfl ?_
      repeat (first
        | refine ax_q (q_move rfl) ?_
        | refine ax_q (q_lss rfl rfl) ?_
        | refine ax_q (q_len rfl rfl rfl) ?_)
      refine ax_gsplit rfl rfl (fun h2 => ?_) (fun h2 => absurd h2 (by omega))
      repeat (first
        | refine ax_q (q_move rfl) ?_
        | refine ax_q (q_loadi_rp rfl rfl rfl) ?_
        | refine ax_ops_nil ?_
        | refine ax_post_code ?_
        | refine ax_guard rfl rfl ?_
        | refine ax_q (q_eql rfl rfl) ?_
        | refine ax_q (q_pick rfl rfl) ?_
        | refine ax_q (q_index_ro' rfl rfl rfl rfl (by first | (simp only [Nat.zero_add, Int.toNat_natCast, Int.toNat_zero]; exact rfl) | exact rfl) (by omega)) ?_)
      refine ax_cond_dec rfl (fun h3 => ?_) (fun h3 => absurd hgo.2 h3)
      repeat (first
        | refine ax_q (q_move rfl) ?_
        | refine ax_q (q_assign rfl) ?_
        | refine ax_ops_nil ?_
        | refine ax_post_code ?_
        | refine ax_region rfl ?_
        | refine ax_post_blk ?_
        | refine ax_block ?_
        | refine ax_skip ?_
        | refine ax_q (q_add rfl rfl (by omega)) ?_)
      exact ax_post_inv ⟨k + 1, ⟨by omega, by omega, fun j h4 h5 => by
        by_cases hj : j = k
        · subst hj; exact hgo.2
        · exact hk3 j h4 (by omega)⟩, by omega, ⟨rfl, rfl, rfl, rfl, trivial⟩, rfl⟩
    apply ax_tail_code [(0, .ro (.ints .i64 l) 0 l.length), (5, .ptr 0 0 0), (6, .int .i64 (i : Nat)), (7, .int .i64 (k : Nat))]
    · intro fin
      repeat (refine ax_seq ?_)
      refine ax_regionq (by kernel_rfl) (by kernel_rfl) rfl ?_
      repeat (first
        | refine ax_q (q_move rfl) ?_
        | refine ax_q (q_lss rfl rfl) ?_
        | refine ax_q (q_len rfl rfl rfl) ?_)
      refine ax_gsplit rfl rfl (fun h2 => ?_) (fun h2 => ?_)
      · repeat (first
          | refine ax_q (q_move rfl) ?_
          | refine ax_q (q_loadi_rp rfl rfl rfl) ?_
          | refine ax_ops_nil ?_
          | refine ax_post_code ?_
          | refine ax_guard rfl rfl ?_
          | refine ax_q (q_eql rfl rfl) ?_
          | refine ax_q (q_pick rfl rfl) ?_
          | refine ax_q (q_index_ro' rfl rfl rfl rfl (by first | (simp only [Nat.zero_add, Int.toNat_natCast, Int.toNat_zero]; exact rfl) | exact rfl) (by omega)) ?_)
        refine ax_cond_dec rfl (fun h3 => absurd ⟨by omega, h3⟩ hgo) (fun h3 => ?_)
        repeat (first
          | refine ax_post_code ?_
          | refine ax_seq ?_
          | refine ax_exit ?_
          | refine ax_exit_here ?_
          | refine ax_exit_code ?_
          | refine ax_exit_inv ?_)
        exact fin _ ⟨rfl, rfl, rfl, rfl, trivial⟩
      · repeat (first
          | refine ax_ops_nil ?_
          | refine ax_post_code ?_
          | refine ax_seq ?_
          | refine ax_skip_not rfl rfl rfl ?_
          | refine ax_cond_false rfl ?_
          | refine ax_exit ?_
          | refine ax_exit_here ?_
          | refine ax_exit_code ?_
          | refine ax_exit_inv ?_
          | refine ax_q (q_pick rfl rfl) ?_)
        exact fin _ ⟨rfl, rfl, rfl, rfl, trivial⟩
    have hki : i < k := by
      rcases Nat.lt_or_ge i k with h | h
      · exact h
      · exact absurd ⟨by omega, by rw [show k = i by omega]⟩ hgo
    have hstop : k = l.length ∨ l.getD k 0 ≠ l.getD i 0 := by
      rcases Nat.lt_or_ge k l.length with h | h
      · exact .inr (fun e => hgo ⟨h, e⟩)
      · exact .inl (by omega)
    have hstep := packB_step hki hk2 hk3 hstop
    have hvb := hx _ (getD_mem 0 hil2)
    have hTlen : T.length + (Go.Ax.Tb.runT (l.getD i 0) (k - i)).length ≤ 10 * l.length := by
      have := congrArg List.length hT
      rw [hstep, List.length_append, List.length_append] at this
      omega
    rw [hstep, ← List.append_assoc] at hT
    have cv := itoa (l.getD i 0) (by omega)
    have cm := itoa ((k - i : Nat) : Int) (by omega)
    have e1 : Go.Ax.Tb.runT (l.getD i 0) (k - i) = Lib.itoa (l.getD i 0) ++ ((if 1 < k - i then 120 :: Lib.itoa ((k - i : Nat) : Int) else []) ++ [59]) := rfl
    rw [e1] at hT hTlen
    simp only [List.length_append, List.length_cons, List.length_nil] at hTlen
    generalize Lib.itoa (l.getD i 0) = qv at *
    generalize Lib.itoa ((k - i : Nat) : Int) = qm at *
    repeat (first
      | refine ax_q (q_move rfl) ?_
      | refine ax_q (q_loadi_rp rfl rfl rfl) ?_
      | refine ax_region rfl ?_
      | refine ax_q (q_index_ro' rfl rfl rfl rfl (by first | (simp only [Nat.zero_add, Int.toNat_natCast, Int.toNat_zero]; exact rfl) | exact rfl) (by omega)) ?_)
    refine ax_callv rfl rfl rfl cv ?_
    skip
    have hall : ∀ h, h < 2 → h ≠ 1 → h = 0 := fun h h1 h2 => by omega
    have hfl : ∀ h, h = 0 → h < 2 := fun h e => by omega
    have hki2 : (k : Int) - (i : Int) = ((k - i : Nat) : Int) := by omega
    refine ax_callm 1 rfl rfl rfl (writeS a T qv (by omega)) hall hfl (by rw [hfix]; exact fun h => h) ?_
    rintro r H ⟨rfl, rfl⟩
    refine ⟨Nat.le_refl 2, ?_⟩
    repeat (first
      | refine ax_q (q_move rfl) ?_
      | refine ax_ops_nil ?_
      | refine ax_post_code ?_
      | refine ax_seq ?_
      | refine ax_region rfl ?_
      | refine ax_q (q_gtr rfl rfl) ?_
      | refine ax_q (q_sub rfl rfl (by omega)) ?_)
    refine ax_cond_dec rfl (fun h2 => ?_) (fun h2 => ?_)
    · rw [if_pos (by omega)] at hT hTlen
      simp only [List.length_cons] at hTlen
      repeat (first
        | refine ax_q (q_move rfl) ?_
        | refine ax_region rfl ?_
        | refine ax_q (q_sub rfl rfl (by omega)) ?_)
      refine ax_slot_ops 48 (.int .i64 ((k - i : Nat) : Int)) rfl (AEq.of_eq (by rw [hki2])) ?_
      refine ax_callv rfl rfl rfl cm ?_
      refine ax_q (q_concat rfl rfl (by show 1 + qm.length ≤ _; omega)) ?_
      refine ax_callm 1 rfl rfl rfl (writeS true (T ++ qv) (120 :: qm) (by simp; omega)) hall hfl (by rw [hfix]; exact fun h => h) ?_
      rintro r H ⟨rfl, rfl⟩
      refine ⟨Nat.le_refl 2, ?_⟩
      repeat (first
        | refine ax_ops_nil ?_
        | refine ax_post_code ?_
        | refine ax_seq ?_
        | refine ax_region rfl ?_)
      refine ax_callm 1 rfl rfl rfl (writeB true (T ++ qv ++ 120 :: qm) 59 (by simp; omega)) hall hfl (by rw [hfix]; exact fun h => h) ?_
      rintro r H ⟨rfl, rfl⟩
      refine ⟨Nat.le_refl 2, ?_⟩
      repeat (first
        | refine ax_q (q_move rfl) ?_
        | refine ax_q (q_assign rfl) ?_
        | refine ax_ops_nil ?_
        | refine ax_post_code ?_
        | refine ax_region rfl ?_
        | refine ax_post_blk ?_)
      exact ax_post_inv ⟨(k, true, T ++ qv ++ 120 :: qm ++ [59]), ⟨hk2, by rw [← hT]; simp, fun _ => rfl⟩, by simp only; omega, ⟨rfl, rfl, rfl, trivial⟩, rfl⟩
    · rw [if_neg (by omega)] at hT hTlen
      repeat (first
        | refine ax_post_code ?_
        | refine ax_seq ?_
        | refine ax_region rfl ?_
        | refine ax_skip ?_)
      refine ax_callm 1 rfl rfl rfl (writeB true (T ++ qv) 59 (by simp; omega)) hall hfl (by rw [hfix]; exact fun h => h) ?_
      rintro r H ⟨rfl, rfl⟩
      refine ⟨Nat.le_refl 2, ?_⟩
      repeat (first
        | refine ax_q (q_move rfl) ?_
        | refine ax_q (q_assign rfl) ?_
        | refine ax_ops_nil ?_
        | refine ax_post_code ?_
        | refine ax_region rfl ?_
        | refine ax_post_blk ?_)
      exact ax_post_inv ⟨(k, true, T ++ qv ++ [59]), ⟨hk2, by rw [← hT]; simp, fun _ => rfl⟩, by simp only; omega, ⟨rfl, rfl, rfl, trivial⟩, rfl⟩
  · have hil2 : i = l.length := by omega
    subst hil2
    rw [List.drop_of_length_le (Nat.le_refl _), show packB l.length [] = [] by cases l.length <;> rfl, List.append_nil] at hT
    subst hT
    have ha2 := ha hne
    subst ha2
    repeat (first
      | refine ax_post_code ?_
      | refine ax_seq ?_
      | refine ax_region rfl ?_
      | refine ax_exit ?_
      | refine ax_exit_here ?_
      | refine ax_exit_code ?_
      | refine ax_exit_inv ?_)
    refine ax_callc rfl rfl rfl (stringB _ (by omega) hne) (fun _ h => h) (fun _ h => h) ?_
    rintro r H ⟨rfl, rfl⟩
    generalize Lib.itoa (sumF (packB l.length l)) = q at *
    generalize sumF (packB l.length l) = z at *
    generalize packB l.length l = T at *
    repeat (first
      | refine ax_q (q_move rfl) ?_
      | refine ax_q (q_assign rfl) ?_
      | refine ax_ops_nil ?_
      | refine ax_post_code ?_
      | refine ax_seq ?_
      | refine ax_region rfl ?_)
    refine ax_q (q_concat rfl rfl (by show T.length + 1 ≤ _; omega)) ?_
    repeat (refine ax_q (q_move rfl) ?_)
    refine ax_callv rfl rfl rfl hs ?_
    skip
    refine ax_callv rfl rfl rfl ci ?_
    refine ax_q (q_concat rfl rfl (by show (T ++ [35]).length + q.length ≤ _; simp; omega)) ?_
    repeat (first
      | refine ax_q (q_assign rfl) ?_
      | refine ax_ops_nil ?_
      | refine ax_post_code ?_
      | refine ax_return ?_)
    exact ax_ret hR rfl rfl
end Go.Proofs.YtbeegiiiochblaaDoor

/-
  table.Unpack as a whole, in plain Lean.
-/
namespace Go.Ax.Tb

/-- Does it end with this byte? -/
def endsW (b : UInt8) (s : List UInt8) : Bool := decide (s.drop (s.length - 1) = [b])
def unpAll (s : List UInt8) : Unp :=
  if (cutF 35 s).2.2 = false ∨ numB (cutF 35 s).2.1 = false ∨ ((cutF 35 s).1 ≠ [] ∧ endsW 59 (cutF 35 s).1 = false) then .bad 5
  else match unpF (cutF 35 s).1 with
    | .bad e => .bad e
    | .good l => if sumF (cutF 35 s).1 = numV (cutF 35 s).2.1 then .good l else .bad 15
theorem cutF_le (b : UInt8) (s : List UInt8) : (cutF b s).1.length ≤ s.length ∧ (cutF b s).2.1.length ≤ s.length := by
  have := cutF_len b s
  split at this <;> omega
theorem unpGo_bad : ∀ (n : Nat) (rest : List UInt8) (out : List Int) (last : Int) (e : Int), unpGo n rest out last = .bad e → e ≠ 0
  | 0, _, _, _, e, h => by rw [unpGo] at h; cases h
  | n + 1, rest, out, last, e, h => by
    rw [unpGo] at h
    split at h
    · cases h
    · split at h
      · cases h; decide
      · split at h
        · cases h; decide
        · split at h
          · cases h; decide
          · exact unpGo_bad n _ _ _ e h
theorem unpAll_bad {s : List UInt8} {e : Int} (h : unpAll s = .bad e) : e ≠ 0 := by
  unfold unpAll at h
  split at h
  · cases h; decide
  · split at h
    · rename_i e' he
      cases h
      exact unpGo_bad _ _ _ _ _ he
    · split at h
      · cases h
      · cases h; decide
theorem unpGo_len : ∀ (n : Nat) (rest : List UInt8) (out : List Int) (last : Int) (l : List Int), out.length ≤ 4096 → unpGo n rest out last = .good l → l.length ≤ 4096
  | 0, _, out, _, l, ho, h => by rw [unpGo] at h; cases h; exact ho
  | n + 1, rest, out, last, l, ho, h => by
    rw [unpGo] at h
    split at h
    · cases h; exact ho
    · split at h
      · cases h
      · split at h
        · cases h
        · split at h
          · cases h
          · exact unpGo_len n _ _ _ l (by simp; omega) h
theorem unpAll_len {s : List UInt8} {l : List Int} (h : unpAll s = .good l) : l.length ≤ 4096 := by
  unfold unpAll at h
  split at h
  · cases h
  · split at h
    · cases h
    · rename_i l' hl
      split at h
      · cases h
        exact unpGo_len _ _ _ _ _ (by simp) hl
      · cases h
/-- table.At, behind Unpack. -/
def atF (U : Unp) (i : Int) : Int × Int := match U with
  | .bad e => (0, e)
  | .good l => if i < 0 ∨ (l.length : Int) ≤ i then (0, 4) else (l.getD i.toNat 0, 0)
/-- table.Code, table.Entry -/
def codeF (p q : Int) : Int × Int :=
  if p < 1 ∨ 3 < p ∨ q < 0 ∨ 9999 < q ∨ 9999 < 3 * q + p - 1 then (0, 4)
  else if p = 3 ∧ q ≠ 0 then (0, 3) else (3 * q + p - 1, 0)
def entryF (n : Int) : (Int × Int) × Int :=
  if n < 0 ∨ 9999 < n then ((0, 0), 4)
  else if n % 3 + 1 = 3 ∧ n / 3 ≠ 0 then ((0, 0), 3) else ((n % 3 + 1, n / 3), 0)
end Go.Ax.Tb

namespace Go.Proofs.YtbeegiiiochblaaDoor
open Go.Ax Go.Ax.Tb Go.RowKit
attribute [local irreducible] Ax Post QOp ACall
set_option maxRecDepth 100000
set_option maxHeartbeats 4000000

def unpAV : Unp → AV
  | .bad e => .tup [.nil, .int .i64 e]
  | .good l => .tup [.ro (.ints .i64 l) 0 l.length, .int .i64 0]
theorem badK {F : Unp} {e : Int} {H : AHeap} (h : F = .bad e) (hr : ∀ (h : Nat) (o : AObj), H[h]? = some (some o) → refless o.c) : (AV.tup [.nil, .int .i64 e]).frz H = unpAV F ∧ inB H (.tup [.nil, .int .i64 e]) ∧ ∀ (h : Nat) (o : AObj), H[h]? = some (some o) → refless o.c := by
  subst h
  exact ⟨rfl, ⟨trivial, trivial, trivial⟩, hr⟩
theorem Unpack_ok (s : List UInt8) (h : s.length ≤ 281474976710656) : VCall Tryd.prog 9 [.str s] (unpAV (unpAll s)) := by
  have c1 := cutS s 35 h
  have l1 := cutF_le 35 s
  have hU : unpAll s = if (cutF 35 s).2.2 = false ∨ numB (cutF 35 s).2.1 = false ∨ ((cutF 35 s).1 ≠ [] ∧ endsW 59 (cutF 35 s).1 = false) then .bad 5
    else match unpF (cutF 35 s).1 with
      | .bad e => .bad e
      | .good l => if sumF (cutF 35 s).1 = numV (cutF 35 s).2.1 then .good l else .bad 15 := rfl
  refine ACall.value (K := fun r H => r.frz H = unpAV (unpAll s) ∧ inB H r ∧ ∀ (h : Nat) (o : AObj), H[h]? = some (some o) → refless o.c) (acall_of_ax (P := Tryd.prog) (fn := Tryd.f9) rfl rfl (by kernel_rfl) rfl (fun c hR hfix => ?_)) (fix := fun _ => False) (fun _ h => h) rfl (fun _ _ h => h)
  generalize unpAll s = F at *
  generalize cutF 35 s = q at *
  obtain ⟨body, sm, ok⟩ := q
  simp only at *
  have n1 := number sm (by omega)
  have s1 := suffixS body 59 (by omega)
  have su := sum_ok body (by omega)
  have sb := sumF_bd body
  have hes : endsB 59 body = endsW 59 body := rfl
  rw [hes] at s1
  generalize endsW 59 body = en at *
  generalize numB sm = nb at *
  generalize numV sm = want at *
  generalize sumF body = smv at *
  repeat (first
    | refine ax_q (q_move rfl) ?_
    | refine ax_q (q_assign rfl) ?_
    | refine ax_ops_nil ?_
    | refine ax_post_code ?_
    | refine ax_seq ?_
    | refine ax_region rfl ?_)
  refine ax_callv rfl rfl rfl c1 ?_
  repeat (first
    | refine ax_q (q_move rfl) ?_
    | refine ax_q (q_assign rfl) ?_
    | refine ax_ops_nil ?_
    | refine ax_post_code ?_
    | refine ax_seq ?_
    | refine ax_region rfl ?_
    | refine ax_q (q_extract rfl rfl) ?_)
  refine ax_callv rfl rfl rfl n1 ?_
  repeat (first
    | refine ax_q (q_move rfl) ?_
    | refine ax_q (q_assign rfl) ?_
    | refine ax_ops_nil ?_
    | refine ax_post_code ?_
    | refine ax_seq ?_
    | refine ax_region rfl ?_
    | refine ax_q (q_not rfl) ?_
    | refine ax_q (q_extract rfl rfl) ?_)
  cases ok
  · rw [if_pos (.inl rfl)] at hU
    repeat (first
      | refine ax_q (q_move rfl) ?_
      | refine ax_q (q_assign rfl) ?_
      | refine ax_ops_nil ?_
      | refine ax_post_code ?_
      | refine ax_seq ?_
      | refine ax_region rfl ?_
      | refine ax_skip_undef rfl rfl ?_
      | refine ax_skip_not rfl rfl rfl ?_
      | refine ax_cond_true rfl ?_
      | refine ax_return ?_
      | refine ax_ret_code ?_
      | refine ax_q (q_pick rfl rfl) ?_)
    exact ax_ret hR rfl (badK hU (by intro h o hh; simp at hh))
  cases nb
  · rw [if_pos (.inr (.inl rfl))] at hU
    repeat (first
      | refine ax_q (q_move rfl) ?_
      | refine ax_q (q_assign rfl) ?_
      | refine ax_ops_nil ?_
      | refine ax_post_code ?_
      | refine ax_seq ?_
      | refine ax_region rfl ?_
      | refine ax_guard rfl rfl ?_
      | refine ax_skip_undef rfl rfl ?_
      | refine ax_skip_not rfl rfl rfl ?_
      | refine ax_cond_true rfl ?_
      | refine ax_return ?_
      | refine ax_ret_code ?_
      | refine ax_q (q_not rfl) ?_
      | refine ax_q (q_pick rfl rfl) ?_)
    exact ax_ret hR rfl (badK hU (by intro h o hh; simp at hh))
  repeat (first
    | refine ax_q (q_move rfl) ?_
    | refine ax_guard rfl rfl ?_
    | refine ax_q (q_not rfl) ?_
    | refine ax_q (q_pick rfl rfl) ?_
    | refine ax_q (q_strneq rfl rfl) ?_)
  by_cases hq : ¬ body = [] ∧ en = false
  · rw [if_pos (.inr (.inr hq))] at hU
    refine ax_gsplit rfl rfl (fun h0 => ?_) (fun h0 => absurd hq.1 h0)
    rw [hq.2] at s1
    repeat (first
      | refine ax_q (q_move rfl) ?_
      | refine ax_guard rfl rfl ?_)
    refine ax_callv rfl rfl rfl s1 ?_
    repeat (first
      | refine ax_q (q_assign rfl) ?_
      | refine ax_ops_nil ?_
      | refine ax_post_code ?_
      | refine ax_seq ?_
      | refine ax_region rfl ?_
      | refine ax_guard rfl rfl ?_
      | refine ax_cond_true rfl ?_
      | refine ax_return ?_
      | refine ax_ret_code ?_
      | refine ax_q (q_not rfl) ?_
      | refine ax_q (q_pick rfl rfl) ?_)
    exact ax_ret hR rfl (badK hU (by intro h o hh; simp at hh))
  rw [if_neg (by rintro (h | h | h); cases h; cases h; exact hq h)] at hU
  apply ax_tail_code [(4, .str body), (7, .int .i64 want)]
  · intro fin
    refine ax_gsplit rfl rfl (fun h0 => ?_) (fun h0 => ?_)
    · have he : en = true := by
        cases en
        · exact absurd ⟨h0, rfl⟩ hq
        · rfl
      rw [he] at s1
      repeat (first
        | refine ax_q (q_move rfl) ?_
        | refine ax_guard rfl rfl ?_)
      refine ax_callv rfl rfl rfl s1 ?_
      repeat (first
        | refine ax_ops_nil ?_
        | refine ax_post_code ?_
        | refine ax_seq ?_
        | refine ax_guard rfl rfl ?_
        | refine ax_cond_false rfl ?_
        | refine ax_skip ?_
        | refine ax_q (q_not rfl) ?_
        | refine ax_q (q_pick rfl rfl) ?_)
      exact fin _ ⟨rfl, rfl, trivial⟩
    · repeat (first
        | refine ax_ops_nil ?_
        | refine ax_post_code ?_
        | refine ax_seq ?_
        | refine ax_guard rfl rfl ?_
        | refine ax_skip_not rfl rfl rfl ?_
        | refine ax_cond_false rfl ?_
        | refine ax_skip ?_
        | refine ax_q (q_pick rfl rfl) ?_)
      exact fin _ ⟨rfl, rfl, trivial⟩
  repeat (first
    | refine ax_q (q_move rfl) ?_
    | refine ax_q (q_assign rfl) ?_
    | refine ax_ops_nil ?_
    | refine ax_post_code ?_
    | refine ax_seq ?_
    | refine ax_region rfl ?_)
  refine ax_nilobj 9 ⟨3, .ints .i64 []⟩ rfl rfl ?_
  repeat (refine ax_block ?_)
  obtain ⟨U, hUe⟩ : ∃ U, unpF body = U := ⟨_, rfl⟩
  rw [hUe] at hU
  refine ax_loop (ι := List UInt8 × List Int × Int) (fun x => [(4, .str body), (7, .int .i64 want), (9, .sl 0 0 x.2.1.length), (10, .int .i64 x.2.2), (11, .str x.1)]) (fun x => [some ⟨3, .ints .i64 x.2.1⟩])
    (fun x => x.1.length ≤ s.length ∧ x.2.1.length ≤ 4096 ∧ unpGo x.1.length x.1 x.2.1 x.2.2 = U) (fun x => x.1.length) (body, [], -1) ⟨⟨rfl, rfl, rfl, rfl, rfl, trivial⟩, rfl, l1.1, Nat.zero_le _, hUe⟩ ?_
  rintro ⟨rest, out, last⟩ ⟨h1, h2, h3⟩
  simp only at *
  repeat (first
    | refine ax_q (q_move rfl) ?_
    | refine ax_ops_nil ?_
    | refine ax_post_code ?_
    | refine ax_seq ?_
    | refine ax_region rfl ?_
    | refine ax_q (q_strneq rfl rfl) ?_)
  refine ax_cond_dec rfl (fun h0 => ?_) (fun h0 => ?_)
  · have hne : rest ≠ [] := h0
    have hlt := cutF_lt (b := 59) hne
    have hcl := cutF_le 59 rest
    have hrl : rest.length = rest.length - 1 + 1 := by have := List.length_pos_iff.2 hne; omega
    rw [hrl, unpGo, if_neg hne] at h3
    have c2 := cutS rest 59 (by omega)
    generalize cutF 59 rest = q2 at *
    obtain ⟨run, rest2, ok2⟩ := q2
    simp only at *
    have c3 := cutS run 120 (by omega)
    have hcl3 := cutF_le 120 run
    have hrv : runV run = if numB (cutF 120 run).1 = false then none
      else if (cutF 120 run).2.2 = true then (if numB (cutF 120 run).2.1 = true ∧ 1 < numV (cutF 120 run).2.1 then some (numV (cutF 120 run).1, numV (cutF 120 run).2.1) else none)
      else some (numV (cutF 120 run).1, 1) := rfl
    generalize runV run = rv at *
    generalize cutF 120 run = q3 at *
    obtain ⟨vt, kt, many⟩ := q3
    simp only at *
    have n2 := number vt (by omega)
    have n3 := number kt (by omega)
    generalize numB vt = b1 at *
    generalize numV vt = v1 at *
    generalize numB kt = b2 at *
    generalize numV kt = v2 at *
    have hrefl : ∀ (h : Nat) (o : AObj), ([some ⟨3, .ints .i64 out⟩] : AHeap)[h]? = some (some o) → refless o.c := refl1 refless_ints
    repeat (first
      | refine ax_q (q_move rfl) ?_
      | refine ax_q (q_assign rfl) ?_
      | refine ax_ops_nil ?_
      | refine ax_post_code ?_
      | refine ax_seq ?_
      | refine ax_region rfl ?_
      | refine ax_block ?_
      | refine ax_skip ?_)
    refine ax_callv rfl rfl rfl c2 ?_
    repeat (first
      | refine ax_q (q_move rfl) ?_
      | refine ax_q (q_assign rfl) ?_
      | refine ax_ops_nil ?_
      | refine ax_post_code ?_
      | refine ax_seq ?_
      | refine ax_region rfl ?_
      | refine ax_q (q_extract rfl rfl) ?_)
    refine ax_callv rfl rfl rfl c3 ?_
    repeat (first
      | refine ax_q (q_move rfl) ?_
      | refine ax_q (q_assign rfl) ?_
      | refine ax_ops_nil ?_
      | refine ax_post_code ?_
      | refine ax_seq ?_
      | refine ax_region rfl ?_
      | refine ax_q (q_extract rfl rfl) ?_)
    refine ax_callv rfl rfl rfl n2 ?_
    cases rv with
    | none =>
      simp only at h3
      have hF : F = .bad 5 := by rw [hU, ← h3]
      cases many
      · cases b1
        · repeat (first
            | refine ax_q (q_move rfl) ?_
            | refine ax_q (q_assign rfl) ?_
            | refine ax_ops_nil ?_
            | refine ax_post_code ?_
            | refine ax_seq ?_
            | refine ax_region rfl ?_
            | refine ax_skip_not rfl rfl rfl ?_
            | refine ax_cond_true rfl ?_
            | refine ax_cond_false rfl ?_
            | refine ax_skip ?_
            | refine ax_return ?_
            | refine ax_ret_code ?_
            | refine ax_ret_blk ?_
            | refine ax_ret_inv ?_
            | refine ax_q (q_not rfl) ?_
            | refine ax_q (q_pick rfl rfl) ?_
            | refine ax_q (q_extract rfl rfl) ?_)
          exact ax_ret hR rfl (badK hF hrefl)
        · cases hrv
      · cases b1
        · repeat (first
            | refine ax_q (q_move rfl) ?_
            | refine ax_q (q_assign rfl) ?_
            | refine ax_ops_nil ?_
            | refine ax_post_code ?_
            | refine ax_seq ?_
            | refine ax_region rfl ?_
            | refine ax_cond_true rfl ?_
            | refine ax_q (q_extract rfl rfl) ?_)
          refine ax_callv rfl rfl rfl n3 ?_
          repeat (first
            | refine ax_q (q_move rfl) ?_
            | refine ax_q (q_assign rfl) ?_
            | refine ax_ops_nil ?_
            | refine ax_post_code ?_
            | refine ax_seq ?_
            | refine ax_region rfl ?_
            | refine ax_skip_not rfl rfl rfl ?_
            | refine ax_cond_true rfl ?_
            | refine ax_return ?_
            | refine ax_ret_code ?_
            | refine ax_ret_blk ?_
            | refine ax_ret_inv ?_
            | refine ax_q (q_not rfl) ?_
            | refine ax_q (q_pick rfl rfl) ?_
            | refine ax_q (q_extract rfl rfl) ?_)
          exact ax_ret hR rfl (badK hF hrefl)
        · cases b2
          · repeat (first
              | refine ax_q (q_move rfl) ?_
              | refine ax_q (q_assign rfl) ?_
              | refine ax_ops_nil ?_
              | refine ax_post_code ?_
              | refine ax_seq ?_
              | refine ax_region rfl ?_
              | refine ax_cond_true rfl ?_
              | refine ax_q (q_extract rfl rfl) ?_)
            refine ax_callv rfl rfl rfl n3 ?_
            repeat (first
              | refine ax_q (q_move rfl) ?_
              | refine ax_q (q_assign rfl) ?_
              | refine ax_ops_nil ?_
              | refine ax_post_code ?_
              | refine ax_seq ?_
              | refine ax_region rfl ?_
              | refine ax_guard rfl rfl ?_
              | refine ax_skip_not rfl rfl rfl ?_
              | refine ax_cond_true rfl ?_
              | refine ax_return ?_
              | refine ax_ret_code ?_
              | refine ax_ret_blk ?_
              | refine ax_ret_inv ?_
              | refine ax_q (q_not rfl) ?_
              | refine ax_q (q_pick rfl rfl) ?_
              | refine ax_q (q_extract rfl rfl) ?_)
            exact ax_ret hR rfl (badK hF hrefl)
          · have hv2 : ¬ 1 < v2 := fun h => by rw [if_neg (by decide), if_pos rfl, if_pos ⟨rfl, h⟩] at hrv; cases hrv
            repeat (first
              | refine ax_q (q_move rfl) ?_
              | refine ax_q (q_assign rfl) ?_
              | refine ax_ops_nil ?_
              | refine ax_post_code ?_
              | refine ax_seq ?_
              | refine ax_region rfl ?_
              | refine ax_cond_true rfl ?_
              | refine ax_q (q_extract rfl rfl) ?_)
            refine ax_callv rfl rfl rfl n3 ?_
            repeat (first
              | refine ax_q (q_move rfl) ?_
              | refine ax_q (q_assign rfl) ?_
              | refine ax_ops_nil ?_
              | refine ax_post_code ?_
              | refine ax_seq ?_
              | refine ax_region rfl ?_
              | refine ax_guard rfl rfl ?_
              | refine ax_q (q_gtr rfl rfl) ?_
              | refine ax_q (q_not rfl) ?_
              | refine ax_q (q_pick rfl rfl) ?_
              | refine ax_q (q_extract rfl rfl) ?_)
            refine ax_gsplitb rfl rfl (fun hb => ?_) (fun hb => absurd (of_decide_eq_true (by simpa using hb)) hv2)
            repeat (first
              | refine ax_q (q_move rfl) ?_
              | refine ax_q (q_assign rfl) ?_
              | refine ax_ops_nil ?_
              | refine ax_post_code ?_
              | refine ax_seq ?_
              | refine ax_region rfl ?_
              | refine ax_skip_not rfl rfl rfl ?_
              | refine ax_cond_true rfl ?_
              | refine ax_return ?_
              | refine ax_ret_code ?_
              | refine ax_ret_blk ?_
              | refine ax_ret_inv ?_
              | refine ax_q (q_pick rfl rfl) ?_)
            exact ax_ret hR rfl (badK hF hrefl)
    | some p =>
      obtain ⟨v, k⟩ := p
      simp only at h3
      apply ax_tail_code [(4, .str body), (7, .int .i64 want), (9, .sl 0 0 out.length), (10, .int .i64 last), (11, .str rest2), (16, .int .i64 v), (17, .bool true), (18, .int .i64 k)]
      · intro fin
        cases b1
        · cases hrv
        cases many
        · cases hrv
          repeat (first
            | refine ax_q (q_move rfl) ?_
            | refine ax_q (q_assign rfl) ?_
            | refine ax_ops_nil ?_
            | refine ax_post_code ?_
            | refine ax_seq ?_
            | refine ax_region rfl ?_
            | refine ax_q (q_extract rfl rfl) ?_)
          refine ax_cond_false rfl ?_
          repeat (first
            | refine ax_post_code ?_
            | refine ax_seq ?_
            | refine ax_skip ?_)
          exact fin _ ⟨rfl, rfl, rfl, rfl, rfl, rfl, rfl, rfl, trivial⟩
        · repeat (first
            | refine ax_q (q_move rfl) ?_
            | refine ax_q (q_assign rfl) ?_
            | refine ax_ops_nil ?_
            | refine ax_post_code ?_
            | refine ax_seq ?_
            | refine ax_region rfl ?_
            | refine ax_cond_true rfl ?_
            | refine ax_q (q_extract rfl rfl) ?_)
          cases b2
          · cases hrv
          rw [if_neg (by decide), if_pos rfl] at hrv
          by_cases hv2 : 1 < v2
          · rw [if_pos ⟨rfl, hv2⟩] at hrv
            cases hrv
            refine ax_callv rfl rfl rfl n3 ?_
            repeat (first
              | refine ax_q (q_move rfl) ?_
              | refine ax_q (q_assign rfl) ?_
              | refine ax_ops_nil ?_
              | refine ax_post_code ?_
              | refine ax_q (q_extract rfl rfl) ?_)
            refine ax_region rfl ?_
            repeat (first
              | refine ax_q (q_move rfl) ?_
              | refine ax_q (q_assign rfl) ?_
              | refine ax_ops_nil ?_
              | refine ax_post_code ?_
              | refine ax_seq ?_
              | refine ax_guard rfl rfl ?_
              | refine ax_q (q_gtr rfl rfl) ?_
              | refine ax_q (q_pick rfl rfl) ?_)
            rw [decide_eq_true hv2]
            exact fin _ ⟨rfl, rfl, rfl, rfl, rfl, rfl, rfl, rfl, trivial⟩
          · rw [if_neg (fun h => hv2 h.2)] at hrv
            cases hrv
      have hk1 : 1 ≤ k := by
        split at hrv
        · cases hrv
        · split at hrv
          · split at hrv
            · rename_i hx
              cases hrv
              exact Int.le_of_lt hx.2
            · cases hrv
          · cases hrv
            exact Int.le_refl 1
      repeat (first
        | refine ax_q (q_move rfl) ?_
        | refine ax_region rfl ?_
        | refine ax_guard rfl rfl ?_
        | refine ax_q (q_gtr rfl rfl) ?_
        | refine ax_q (q_not rfl) ?_
        | refine ax_q (q_pick rfl rfl) ?_)
      refine ax_gsplit rfl rfl (fun h4 => ?_) (fun h4 => ?_)
      · rw [if_pos (.inl h4)] at h3
        have hF : F = .bad 5 := by rw [hU, ← h3]
        repeat (first
          | refine ax_q (q_assign rfl) ?_
          | refine ax_ops_nil ?_
          | refine ax_post_code ?_
          | refine ax_seq ?_
          | refine ax_region rfl ?_
          | refine ax_skip_not rfl rfl rfl ?_
          | refine ax_cond_true rfl ?_
          | refine ax_return ?_
          | refine ax_ret_code ?_
          | refine ax_ret_blk ?_
          | refine ax_ret_inv ?_
          | refine ax_q (q_pick rfl rfl) ?_)
        exact ax_ret hR rfl (badK hF hrefl)
      repeat (first
        | refine ax_q (q_move rfl) ?_
        | refine ax_ops_nil ?_
        | refine ax_post_code ?_
        | refine ax_guard rfl rfl ?_
        | refine ax_q (q_eql rfl rfl) ?_
        | refine ax_q (q_pick rfl rfl) ?_)
      refine ax_cond_dec rfl (fun h5 => ?_) (fun h5 => ?_)
      · rw [if_pos (.inr h5)] at h3
        have hF : F = .bad 5 := by rw [hU, ← h3]
        repeat (first
          | refine ax_q (q_assign rfl) ?_
          | refine ax_ops_nil ?_
          | refine ax_post_code ?_
          | refine ax_seq ?_
          | refine ax_region rfl ?_
          | refine ax_return ?_
          | refine ax_ret_code ?_
          | refine ax_ret_blk ?_
          | refine ax_ret_inv ?_)
        exact ax_ret hR rfl (badK hF hrefl)
      rw [if_neg (by rintro (h | h); exact h4 h; exact h5 h)] at h3
      repeat (first
        | refine ax_q (q_move rfl) ?_
        | refine ax_ops_nil ?_
        | refine ax_post_code ?_
        | refine ax_seq ?_
        | refine ax_region rfl ?_
        | refine ax_skip ?_
        | refine ax_q (q_gtr rfl rfl) ?_
        | refine ax_q (q_len rfl rfl rfl) ?_
        | refine ax_q (q_sub rfl rfl (by omega)) ?_)
      refine ax_cond_dec rfl (fun h6 => ?_) (fun h6 => ?_)
      · rw [if_pos h6] at h3
        have hF : F = .bad 2 := by rw [hU, ← h3]
        repeat (first
          | refine ax_q (q_assign rfl) ?_
          | refine ax_ops_nil ?_
          | refine ax_post_code ?_
          | refine ax_seq ?_
          | refine ax_region rfl ?_
          | refine ax_return ?_
          | refine ax_ret_code ?_
          | refine ax_ret_blk ?_
          | refine ax_ret_inv ?_)
        exact ax_ret hR rfl (badK hF hrefl)
      rw [if_neg h6] at h3
      obtain ⟨m, rfl⟩ : ∃ m : Nat, k = m := ⟨k.toNat, by omega⟩
      rw [Int.toNat_natCast] at h3
      have hmo : m + out.length ≤ 4096 := by omega
      repeat (first
        | refine ax_q (q_move rfl) ?_
        | refine ax_post_code ?_
        | refine ax_seq ?_
        | refine ax_region rfl ?_
        | refine ax_skip ?_
        | refine ax_buildSliceRo rfl rfl rfl rfl rfl rfl rfl rfl rfl rfl rfl ?_)
      refine ax_callv rfl rfl rfl (repeatI v m ⟨by omega, by omega⟩) ?_
      skip
      refine ax_append rfl rfl rfl rfl rfl rfl rfl rfl rfl rfl rfl rfl (by show 0 + m ≤ (List.replicate m v).length; simp) rfl (by show (out.length + m) * 8 ≤ _ ∧ _; omega) (fun i j _ _ => rfl) (by rw [hfix]; exact fun h => h) ?_
      repeat (first
        | refine ax_q (q_move rfl) ?_
        | refine ax_q (q_assign rfl) ?_
        | refine ax_ops_nil ?_
        | refine ax_post_code ?_
        | refine ax_region rfl ?_
        | refine ax_post_blk ?_)
      refine ax_post_inv ⟨(rest2, out ++ List.replicate m v, v), ⟨by simp only; omega, by simp; omega, ?_⟩, by simp only; omega, ⟨rfl, rfl, ?_, rfl, rfl, trivial⟩, ?_⟩
      · rw [← h3]
        exact unpGo_more _ _ _ _ _ (Nat.le_refl _) (by show rest2.length ≤ _; omega)
      · show some (AV.sl 0 0 (out.length + m)) = _
        simp
      · show ([some ⟨3, .ints .i64 (out ++ List.take m (List.drop 0 (List.replicate m v)))⟩] : AHeap) = _
        simp
  · have hre : rest = [] := by simpa using h0
    subst hre
    have hUg : U = .good out := by rw [← h3]; rfl
    subst hUg
    simp only at hU
    repeat (first
      | refine ax_q (q_move rfl) ?_
      | refine ax_post_code ?_
      | refine ax_seq ?_
      | refine ax_region rfl ?_
      | refine ax_exit ?_
      | refine ax_exit_here ?_
      | refine ax_exit_code ?_
      | refine ax_exit_inv ?_)
    refine ax_callv rfl rfl rfl su ?_
    repeat (first
      | refine ax_q (q_move rfl) ?_
      | refine ax_ops_nil ?_
      | refine ax_post_code ?_
      | refine ax_q (q_neq rfl rfl) ?_)
    refine ax_cond_dec rfl (fun h4 => ?_) (fun h4 => ?_)
    · rw [if_neg h4] at hU
      repeat (first
        | refine ax_q (q_assign rfl) ?_
        | refine ax_ops_nil ?_
        | refine ax_post_code ?_
        | refine ax_seq ?_
        | refine ax_region rfl ?_
        | refine ax_return ?_
        | refine ax_ret_code ?_)
      exact ax_ret hR rfl (badK hU (refl1 refless_ints))
    · rw [if_pos (by omega)] at hU
      subst hU
      repeat (first
        | refine ax_q (q_move rfl) ?_
        | refine ax_q (q_assign rfl) ?_
        | refine ax_ops_nil ?_
        | refine ax_post_code ?_
        | refine ax_seq ?_
        | refine ax_region rfl ?_
        | refine ax_skip ?_
        | refine ax_return ?_)
      exact ax_ret hR rfl ⟨rfl, ⟨fun o ho => by simp at ho; subst ho; exact Nat.le_of_eq (by simp [Cells.len]), trivial, trivial⟩, refl1 refless_ints⟩
end Go.Proofs.YtbeegiiiochblaaDoor

namespace Go.Proofs.YtbeegiiiochblaaDoor
open Go.Ax Go.Ax.Tb Go.RowKit
attribute [local irreducible] Ax Post QOp ACall
set_option maxRecDepth 100000
set_option maxHeartbeats 4000000

theorem At_ok (s : List UInt8) (i : Int) (h : s.length ≤ 281474976710656) : VCall Tryd.prog 11 [.str s, .int .i64 i] (.tup [.int .i64 (atF (unpAll s) i).1, .int .i64 (atF (unpAll s) i).2]) := by
  have hu := Unpack_ok s h
  have hb := @unpAll_bad s
  have hl := @unpAll_len s
  refine ACall.value0 (acall_of_ax (P := Tryd.prog) (fn := Tryd.f11) rfl rfl (by kernel_rfl) rfl (fun c hR hfix => ?_)) (fix := fun _ => False) (fun _ h => h) rfl rfl
  generalize unpAll s = U at *
  cases U with
  | bad e =>
    have hb := hb rfl
    have hu : VCall Tryd.prog 9 [.str s] (.tup [.nil, .int .i64 e]) := hu
    have ha : atF (.bad e) i = (0, e) := rfl
    rw [ha] at hR
    repeat (first
      | refine ax_q (q_move rfl) ?_
      | refine ax_q (q_assign rfl) ?_
      | refine ax_ops_nil ?_
      | refine ax_post_code ?_
      | refine ax_seq ?_
      | refine ax_region rfl ?_)
    refine ax_callv rfl rfl rfl hu ?_
    repeat (first
      | refine ax_q (q_move rfl) ?_
      | refine ax_q (q_assign rfl) ?_
      | refine ax_ops_nil ?_
      | refine ax_post_code ?_
      | refine ax_seq ?_
      | refine ax_region rfl ?_
      | refine ax_q (q_neq rfl rfl) ?_
      | refine ax_q (q_extract rfl rfl) ?_)
    refine ax_cond_dec rfl (fun _ => ?_) (fun h => absurd hb h)
    repeat (first
      | refine ax_q (q_move rfl) ?_
      | refine ax_q (q_assign rfl) ?_
      | refine ax_ops_nil ?_
      | refine ax_post_code ?_
      | refine ax_seq ?_
      | refine ax_region rfl ?_
      | refine ax_return ?_
      | refine ax_ret_code ?_)
    exact ax_ret hR rfl rfl
  | good l =>
    have hl := hl rfl
    have hu : VCall Tryd.prog 9 [.str s] (.tup [.ro (.ints .i64 l) 0 l.length, .int .i64 0]) := hu
    have ha : atF (.good l) i = if i < 0 ∨ (l.length : Int) ≤ i then (0, 4) else (l.getD i.toNat 0, 0) := rfl
    repeat (first
      | refine ax_q (q_move rfl) ?_
      | refine ax_q (q_assign rfl) ?_
      | refine ax_ops_nil ?_
      | refine ax_post_code ?_
      | refine ax_seq ?_
      | refine ax_region rfl ?_)
    refine ax_callv rfl rfl rfl hu ?_
    repeat (first
      | refine ax_q (q_move rfl) ?_
      | refine ax_q (q_assign rfl) ?_
      | refine ax_ops_nil ?_
      | refine ax_post_code ?_
      | refine ax_seq ?_
      | refine ax_region rfl ?_
      | refine ax_cond_false rfl ?_
      | refine ax_skip ?_
      | refine ax_q (q_lss rfl rfl) ?_
      | refine ax_q (q_neq rfl rfl) ?_
      | refine ax_q (q_extract rfl rfl) ?_)
    by_cases hr : i < 0 ∨ (l.length : Int) ≤ i
    · rw [ha, if_pos hr] at hR
      refine ax_gsplit rfl rfl (fun h0 => ?_) (fun h0 => ?_)
      · repeat (first
          | refine ax_q (q_assign rfl) ?_
          | refine ax_ops_nil ?_
          | refine ax_post_code ?_
          | refine ax_seq ?_
          | refine ax_region rfl ?_
          | refine ax_skip_not rfl rfl rfl ?_
          | refine ax_cond_true rfl ?_
          | refine ax_return ?_
          | refine ax_ret_code ?_
          | refine ax_q (q_pick rfl rfl) ?_)
        exact ax_ret hR rfl rfl
      · repeat (first
          | refine ax_q (q_move rfl) ?_
          | refine ax_ops_nil ?_
          | refine ax_post_code ?_
          | refine ax_guard rfl rfl ?_
          | refine ax_q (q_geq rfl rfl) ?_
          | refine ax_q (q_pick rfl rfl) ?_
          | refine ax_q (q_len rfl rfl rfl) ?_)
        refine ax_cond_dec rfl (fun h1 => ?_) (fun h1 => absurd hr (by omega))
        repeat (first
          | refine ax_q (q_assign rfl) ?_
          | refine ax_ops_nil ?_
          | refine ax_post_code ?_
          | refine ax_seq ?_
          | refine ax_region rfl ?_
          | refine ax_return ?_
          | refine ax_ret_code ?_)
        exact ax_ret hR rfl rfl
    · rw [ha, if_neg hr] at hR
      refine ax_gsplit rfl rfl (fun h0 => absurd hr (by omega)) (fun h0 => ?_)
      obtain ⟨j, rfl⟩ : ∃ j : Nat, i = j := ⟨i.toNat, by omega⟩
      rw [Int.toNat_natCast] at hR
      repeat (first
        | refine ax_q (q_move rfl) ?_
        | refine ax_ops_nil ?_
        | refine ax_post_code ?_
        | refine ax_guard rfl rfl ?_
        | refine ax_q (q_geq rfl rfl) ?_
        | refine ax_q (q_pick rfl rfl) ?_
        | refine ax_q (q_len rfl rfl rfl) ?_)
      refine ax_cond_dec rfl (fun h1 => absurd hr (by omega)) (fun h1 => ?_)
      repeat (first
        | refine ax_q (q_move rfl) ?_
        | refine ax_q (q_assign rfl) ?_
        | refine ax_q (q_loadi_rp rfl rfl rfl) ?_
        | refine ax_ops_nil ?_
        | refine ax_post_code ?_
        | refine ax_seq ?_
        | refine ax_region rfl ?_
        | refine ax_skip ?_
        | refine ax_return ?_
        | refine ax_q (q_index_ro' rfl rfl rfl rfl (by first | (simp only [Nat.zero_add, Int.toNat_natCast, Int.toNat_zero]; exact rfl) | exact rfl) (by omega)) ?_)
      exact ax_ret hR rfl rfl
theorem Code_ok (p q : Int) : VCall Tryd.prog 13 [.agg [.int .i64 p, .int .i64 q]] (.tup [.int .i64 (codeF p q).1, .int .i64 (codeF p q).2]) := by
  have hc : codeF p q = if p < 1 ∨ 3 < p ∨ q < 0 ∨ 9999 < q ∨ 9999 < 3 * q + p - 1 then (0, 4)
    else if p = 3 ∧ q ≠ 0 then (0, 3) else (3 * q + p - 1, 0) := rfl
  refine ACall.value0 (acall_of_ax (P := Tryd.prog) (fn := Tryd.f13) rfl rfl (by kernel_rfl) rfl (fun c hR hfix => ?_)) (fix := fun _ => False) (fun _ h => h) rfl rfl
  generalize codeF p q = r at *
  repeat (first
    | refine ax_q (q_move rfl) ?_
    | refine ax_q (q_assign rfl) ?_
    | refine ax_ops_nil ?_
    | refine ax_post_code ?_
    | refine ax_seq ?_
    | refine ax_region rfl ?_
    | refine ax_q (q_loadb_ptr rfl rfl rfl rfl rfl) ?_
    | refine ax_q (q_lss rfl rfl) ?_
    | refine ax_q (q_field_ptr rfl rfl rfl rfl rfl rfl) ?_
    | refine ax_box rfl rfl ?_)
  refine ax_gsplit rfl rfl (fun h0 => ?_) (fun h0 => ?_)
  · rw [if_pos (by omega)] at hc
    subst hc
    repeat (first
      | refine ax_q (q_move rfl) ?_
      | refine ax_q (q_assign rfl) ?_
      | refine ax_ops_nil ?_
      | refine ax_post_code ?_
      | refine ax_seq ?_
      | refine ax_region rfl ?_
      | refine ax_skip_not rfl rfl rfl ?_
      | refine ax_cond_true rfl ?_
      | refine ax_return ?_
      | refine ax_ret_code ?_
      | refine ax_q (q_pick rfl rfl) ?_)
    exact ax_ret hR rfl rfl
  repeat (first
    | refine ax_q (q_move rfl) ?_
    | refine ax_guard rfl rfl ?_
    | refine ax_q (q_loadb_ptr rfl rfl rfl rfl rfl) ?_
    | refine ax_q (q_gtr rfl rfl) ?_
    | refine ax_q (q_pick rfl rfl) ?_
    | refine ax_q (q_field_ptr rfl rfl rfl rfl rfl rfl) ?_)
  refine ax_gsplit rfl rfl (fun h1 => ?_) (fun h1 => ?_)
  · rw [if_pos (by omega)] at hc
    subst hc
    repeat (first
      | refine ax_q (q_move rfl) ?_
      | refine ax_q (q_assign rfl) ?_
      | refine ax_ops_nil ?_
      | refine ax_post_code ?_
      | refine ax_seq ?_
      | refine ax_region rfl ?_
      | refine ax_skip_not rfl rfl rfl ?_
      | refine ax_cond_true rfl ?_
      | refine ax_return ?_
      | refine ax_ret_code ?_
      | refine ax_q (q_pick rfl rfl) ?_)
    exact ax_ret hR rfl rfl
  repeat (first
    | refine ax_q (q_move rfl) ?_
    | refine ax_guard rfl rfl ?_
    | refine ax_q (q_loadb_ptr rfl rfl rfl rfl rfl) ?_
    | refine ax_q (q_lss rfl rfl) ?_
    | refine ax_q (q_pick rfl rfl) ?_
    | refine ax_q (q_field_ptr rfl rfl rfl rfl rfl rfl) ?_)
  refine ax_gsplit rfl rfl (fun h2 => ?_) (fun h2 => ?_)
  · rw [if_pos (by omega)] at hc
    subst hc
    repeat (first
      | refine ax_q (q_move rfl) ?_
      | refine ax_q (q_assign rfl) ?_
      | refine ax_ops_nil ?_
      | refine ax_post_code ?_
      | refine ax_seq ?_
      | refine ax_region rfl ?_
      | refine ax_skip_not rfl rfl rfl ?_
      | refine ax_cond_true rfl ?_
      | refine ax_return ?_
      | refine ax_ret_code ?_
      | refine ax_q (q_pick rfl rfl) ?_)
    exact ax_ret hR rfl rfl
  repeat (first
    | refine ax_q (q_move rfl) ?_
    | refine ax_guard rfl rfl ?_
    | refine ax_q (q_loadb_ptr rfl rfl rfl rfl rfl) ?_
    | refine ax_q (q_gtr rfl rfl) ?_
    | refine ax_q (q_pick rfl rfl) ?_
    | refine ax_q (q_field_ptr rfl rfl rfl rfl rfl rfl) ?_)
  refine ax_gsplit rfl rfl (fun h3 => ?_) (fun h3 => ?_)
  · rw [if_pos (by omega)] at hc
    subst hc
    repeat (first
      | refine ax_q (q_assign rfl) ?_
      | refine ax_ops_nil ?_
      | refine ax_post_code ?_
      | refine ax_seq ?_
      | refine ax_region rfl ?_
      | refine ax_skip_not rfl rfl rfl ?_
      | refine ax_cond_true rfl ?_
      | refine ax_return ?_
      | refine ax_ret_code ?_
      | refine ax_q (q_pick rfl rfl) ?_)
    exact ax_ret hR rfl rfl
  repeat (first
    | refine ax_guard rfl rfl ?_
    | refine ax_q (q_loadb_ptr rfl rfl rfl rfl rfl) ?_
    | refine ax_q (q_field_ptr rfl rfl rfl rfl rfl rfl) ?_)
  refine ax_q (q_mul rfl rfl (by omega)) ?_
  repeat (first
    | refine ax_ops_nil ?_
    | refine ax_post_code ?_
    | refine ax_guard rfl rfl ?_
    | refine ax_q (q_loadb_ptr rfl rfl rfl rfl rfl) ?_
    | refine ax_q (q_gtr rfl rfl) ?_
    | refine ax_q (q_pick rfl rfl) ?_
    | refine ax_q (q_add rfl rfl (by omega)) ?_
    | refine ax_q (q_sub rfl rfl (by omega)) ?_
    | refine ax_q (q_field_ptr rfl rfl rfl rfl rfl rfl) ?_)
  refine ax_cond_dec rfl (fun h4 => ?_) (fun h4 => ?_)
  · rw [if_pos (by omega)] at hc
    subst hc
    repeat (first
      | refine ax_q (q_assign rfl) ?_
      | refine ax_ops_nil ?_
      | refine ax_post_code ?_
      | refine ax_seq ?_
      | refine ax_region rfl ?_
      | refine ax_return ?_
      | refine ax_ret_code ?_)
    exact ax_ret hR rfl rfl
  rw [if_neg (by omega)] at hc
  repeat (first
    | refine ax_q (q_move rfl) ?_
    | refine ax_post_code ?_
    | refine ax_seq ?_
    | refine ax_region rfl ?_
    | refine ax_skip ?_
    | refine ax_q (q_loadb_ptr rfl rfl rfl rfl rfl) ?_
    | refine ax_q (q_eql rfl rfl) ?_
    | refine ax_q (q_field_ptr rfl rfl rfl rfl rfl rfl) ?_)
  refine ax_gsplit rfl rfl (fun h5 => ?_) (fun h5 => ?_)
  · repeat (first
      | refine ax_ops_nil ?_
      | refine ax_post_code ?_
      | refine ax_guard rfl rfl ?_
      | refine ax_q (q_loadb_ptr rfl rfl rfl rfl rfl) ?_
      | refine ax_q (q_neq rfl rfl) ?_
      | refine ax_q (q_pick rfl rfl) ?_
      | refine ax_q (q_field_ptr rfl rfl rfl rfl rfl rfl) ?_)
    refine ax_cond_dec rfl (fun h6 => ?_) (fun h6 => ?_)
    · rw [if_pos ⟨h5, h6⟩] at hc
      subst hc
      repeat (first
        | refine ax_q (q_assign rfl) ?_
        | refine ax_ops_nil ?_
        | refine ax_post_code ?_
        | refine ax_seq ?_
        | refine ax_region rfl ?_
        | refine ax_return ?_
        | refine ax_ret_code ?_)
      exact ax_ret hR rfl rfl
    · rw [if_neg (fun h => h6 h.2)] at hc
      subst hc
      repeat (first
        | refine ax_post_code ?_
        | refine ax_seq ?_
        | refine ax_region rfl ?_
        | refine ax_skip ?_
        | refine ax_q (q_loadb_ptr rfl rfl rfl rfl rfl) ?_
        | refine ax_q (q_field_ptr rfl rfl rfl rfl rfl rfl) ?_)
      refine ax_q (q_mul rfl rfl (by omega)) ?_
      repeat (first
        | refine ax_q (q_assign rfl) ?_
        | refine ax_ops_nil ?_
        | refine ax_post_code ?_
        | refine ax_return ?_
        | refine ax_q (q_loadb_ptr rfl rfl rfl rfl rfl) ?_
        | refine ax_q (q_add rfl rfl (by omega)) ?_
        | refine ax_q (q_sub rfl rfl (by omega)) ?_
        | refine ax_q (q_field_ptr rfl rfl rfl rfl rfl rfl) ?_)
      exact ax_ret hR rfl rfl
  · rw [if_neg (fun h => h5 h.1)] at hc
    subst hc
    repeat (first
      | refine ax_ops_nil ?_
      | refine ax_post_code ?_
      | refine ax_seq ?_
      | refine ax_region rfl ?_
      | refine ax_skip_not rfl rfl rfl ?_
      | refine ax_cond_false rfl ?_
      | refine ax_skip ?_
      | refine ax_q (q_loadb_ptr rfl rfl rfl rfl rfl) ?_
      | refine ax_q (q_pick rfl rfl) ?_
      | refine ax_q (q_field_ptr rfl rfl rfl rfl rfl rfl) ?_)
    refine ax_q (q_mul rfl rfl (by omega)) ?_
    repeat (first
      | refine ax_q (q_assign rfl) ?_
      | refine ax_ops_nil ?_
      | refine ax_post_code ?_
      | refine ax_return ?_
      | refine ax_q (q_loadb_ptr rfl rfl rfl rfl rfl) ?_
      | refine ax_q (q_add rfl rfl (by omega)) ?_
      | refine ax_q (q_sub rfl rfl (by omega)) ?_
      | refine ax_q (q_field_ptr rfl rfl rfl rfl rfl rfl) ?_)
    exact ax_ret hR rfl rfl
theorem Entry_ok (n : Int) : VCall Tryd.prog 14 [.int .i64 n] (.tup [.agg [.int .i64 (entryF n).1.1, .int .i64 (entryF n).1.2], .int .i64 (entryF n).2]) := by
  have hc : entryF n = if n < 0 ∨ 9999 < n then ((0, 0), 4)
    else if n % 3 + 1 = 3 ∧ n / 3 ≠ 0 then ((0, 0), 3) else ((n % 3 + 1, n / 3), 0) := rfl
  refine ACall.value0 (acall_of_ax (P := Tryd.prog) (fn := Tryd.f14) rfl rfl (by kernel_rfl) rfl (fun c hR hfix => ?_)) (fix := fun _ => False) (fun _ h => h) rfl rfl
  generalize entryF n = r at *
  repeat (first
    | refine ax_q (q_move rfl) ?_
    | refine ax_q (q_assign rfl) ?_
    | refine ax_ops_nil ?_
    | refine ax_post_code ?_
    | refine ax_seq ?_
    | refine ax_region rfl ?_
    | refine ax_q (q_lss rfl rfl) ?_
    | refine ax_alloc rfl rfl rfl ?_)
  by_cases hr : n < 0 ∨ 9999 < n
  · rw [if_pos hr] at hc
    subst hc
    refine ax_gsplit rfl rfl (fun h0 => ?_) (fun h0 => ?_)
    · repeat (first
        | refine ax_ops_nil ?_
        | refine ax_post_code ?_
        | refine ax_seq ?_
        | refine ax_region rfl ?_
        | refine ax_skip_not rfl rfl rfl ?_
        | refine ax_cond_true rfl ?_
        | refine ax_q (q_pick rfl rfl) ?_
        | refine ax_q (q_build rfl rfl rfl rfl rfl rfl) ?_)
      refine ax_storeagg (c' := .box [.int .i64 0, .int .i64 0]) rfl rfl rfl rfl rfl Nat.zero_lt_one rfl rfl (fun i' j' hi' hj' => ?_) ?_
      · rw [if_pos (Nat.lt_one_iff.1 hi')]; rfl
      repeat (first
        | refine ax_q (q_assign rfl) ?_
        | refine ax_ops_nil ?_
        | refine ax_post_code ?_
        | refine ax_return ?_
        | refine ax_ret_code ?_)
      exact ax_ret hR rfl rfl
    · repeat (first
        | refine ax_q (q_move rfl) ?_
        | refine ax_ops_nil ?_
        | refine ax_post_code ?_
        | refine ax_guard rfl rfl ?_
        | refine ax_q (q_gtr rfl rfl) ?_
        | refine ax_q (q_pick rfl rfl) ?_)
      refine ax_cond_dec rfl (fun h1 => ?_) (fun h1 => absurd hr (by omega))
      repeat (first
        | refine ax_seq ?_
        | refine ax_region rfl ?_
        | refine ax_q (q_build rfl rfl rfl rfl rfl rfl) ?_)
      refine ax_storeagg (c' := .box [.int .i64 0, .int .i64 0]) rfl rfl rfl rfl rfl Nat.zero_lt_one rfl rfl (fun i' j' hi' hj' => ?_) ?_
      · rw [if_pos (Nat.lt_one_iff.1 hi')]; rfl
      repeat (first
        | refine ax_q (q_assign rfl) ?_
        | refine ax_ops_nil ?_
        | refine ax_post_code ?_
        | refine ax_return ?_
        | refine ax_ret_code ?_)
      exact ax_ret hR rfl rfl
  rw [if_neg hr] at hc
  refine ax_gsplit rfl rfl (fun h0 => absurd hr (by omega)) (fun h0 => ?_)
  repeat (first
    | refine ax_q (q_move rfl) ?_
    | refine ax_ops_nil ?_
    | refine ax_post_code ?_
    | refine ax_guard rfl rfl ?_
    | refine ax_q (q_gtr rfl rfl) ?_
    | refine ax_q (q_pick rfl rfl) ?_)
  refine ax_cond_dec rfl (fun h1 => absurd hr (by omega)) (fun h1 => ?_)
  repeat (first
    | refine ax_q (q_move rfl) ?_
    | refine ax_post_code ?_
    | refine ax_seq ?_
    | refine ax_region rfl ?_
    | refine ax_skip ?_
    | refine ax_q (q_add rfl rfl (by omega)) ?_
    | refine ax_q (q_quo rfl rfl (by omega)) ?_
    | refine ax_q (q_rem rfl rfl (by omega)) ?_
    | refine ax_q (q_build rfl rfl rfl rfl rfl rfl) ?_
    | refine ax_alloc rfl rfl rfl ?_)
  refine ax_storeagg (c' := .box [.int .i64 (n % 3 + 1), .int .i64 (n / 3)]) rfl rfl rfl rfl rfl Nat.zero_lt_one rfl rfl (fun i' j' hi' hj' => ?_) ?_
  · rw [if_pos (Nat.lt_one_iff.1 hi')]; rfl
  repeat (first
    | refine ax_q (q_move rfl) ?_
    | refine ax_ops_nil ?_
    | refine ax_post_code ?_
    | refine ax_seq ?_
    | refine ax_region rfl ?_
    | refine ax_q (q_loadb_ptr rfl rfl rfl rfl rfl) ?_
    | refine ax_q (q_eql rfl rfl) ?_
    | refine ax_q (q_field_ptr rfl rfl rfl rfl rfl rfl) ?_)
  refine ax_gsplit rfl rfl (fun h2 => ?_) (fun h2 => ?_)
  · repeat (first
      | refine ax_ops_nil ?_
      | refine ax_post_code ?_
      | refine ax_guard rfl rfl ?_
      | refine ax_q (q_loadb_ptr rfl rfl rfl rfl rfl) ?_
      | refine ax_q (q_neq rfl rfl) ?_
      | refine ax_q (q_pick rfl rfl) ?_
      | refine ax_q (q_field_ptr rfl rfl rfl rfl rfl rfl) ?_)
    refine ax_cond_dec rfl (fun h3 => ?_) (fun h3 => ?_)
    · rw [if_pos ⟨h2, h3⟩] at hc
      subst hc
      repeat (first
        | refine ax_seq ?_
        | refine ax_region rfl ?_
        | refine ax_q (q_build rfl rfl rfl rfl rfl rfl) ?_)
      refine ax_storeagg (c' := .box [.int .i64 0, .int .i64 0]) rfl rfl rfl rfl rfl Nat.zero_lt_one rfl rfl (fun i' j' hi' hj' => ?_) ?_
      · rw [if_pos (Nat.lt_one_iff.1 hi')]; rfl
      repeat (first
        | refine ax_q (q_assign rfl) ?_
        | refine ax_ops_nil ?_
        | refine ax_post_code ?_
        | refine ax_return ?_
        | refine ax_ret_code ?_)
      exact ax_ret hR rfl rfl
    · rw [if_neg (fun h => h3 h.2)] at hc
      subst hc
      repeat (first
        | refine ax_post_code ?_
        | refine ax_seq ?_
        | refine ax_region rfl ?_
        | refine ax_skip ?_
        | refine ax_q (q_loadagg_ptr rfl rfl rfl rfl rfl rfl rfl (by first | exact Nat.zero_lt_one | assumption | omega)) ?_)
      refine ax_storeagg (c' := .box [.int .i64 (n % 3 + 1), .int .i64 (n / 3)]) rfl rfl rfl rfl rfl Nat.zero_lt_one rfl rfl (fun i' j' hi' hj' => ?_) ?_
      · rw [if_pos (Nat.lt_one_iff.1 hi')]; rfl
      repeat (first
        | refine ax_q (q_assign rfl) ?_
        | refine ax_ops_nil ?_
        | refine ax_post_code ?_
        | refine ax_return ?_)
      exact ax_ret hR rfl rfl
  · rw [if_neg (fun h => h2 h.1)] at hc
    subst hc
    repeat (first
      | refine ax_ops_nil ?_
      | refine ax_post_code ?_
      | refine ax_seq ?_
      | refine ax_region rfl ?_
      | refine ax_skip_not rfl rfl rfl ?_
      | refine ax_cond_false rfl ?_
      | refine ax_skip ?_
      | refine ax_q (q_pick rfl rfl) ?_
      | refine ax_q (q_loadagg_ptr rfl rfl rfl rfl rfl rfl rfl (by first | exact Nat.zero_lt_one | assumption | omega)) ?_)
    refine ax_storeagg (c' := .box [.int .i64 (n % 3 + 1), .int .i64 (n / 3)]) rfl rfl rfl rfl rfl Nat.zero_lt_one rfl rfl (fun i' j' hi' hj' => ?_) ?_
    · rw [if_pos (Nat.lt_one_iff.1 hi')]; rfl
    repeat (first
      | refine ax_q (q_assign rfl) ?_
      | refine ax_ops_nil ?_
      | refine ax_post_code ?_
      | refine ax_return ?_)
    exact ax_ret hR rfl rfl
end Go.Proofs.YtbeegiiiochblaaDoor

/-
  The laws of tables as text, in plain Lean.
-/
namespace Go.Ax.Tb

theorem cutF_found {b : UInt8} : ∀ {s : List UInt8}, (cutF b s).2.2 = true → s = (cutF b s).1 ++ b :: (cutF b s).2.1 ∧ b ∉ (cutF b s).1
  | [], h => by cases h
  | c :: r, h => by
    rw [cutF] at h ⊢
    by_cases hc : c = b
    · rw [if_pos hc] at h ⊢
      subst hc
      exact ⟨rfl, by simp⟩
    · rw [if_neg hc] at h ⊢
      have ih := cutF_found (b := b) (s := r) h
      refine ⟨by rw [List.cons_append]; congr 1; exact ih.1, ?_⟩
      simp only [List.mem_cons, not_or]
      exact ⟨fun e => hc e.symm, ih.2⟩
def packed (l : List Int) : List UInt8 := packB l.length l ++ [35] ++ Lib.itoa (sumF (packB l.length l))
theorem sum_digits (B : List UInt8) : ∃ u : Nat, sumF B = u ∧ u < 4294967296 ∧ Lib.itoa (sumF B) = Lib.decDigits u := by
  have hb := sumF_bd B
  obtain ⟨u, hu⟩ : ∃ u : Nat, sumF B = u := ⟨(sumF B).toNat, by omega⟩
  exact ⟨u, hu, by omega, by rw [hu, itoa_nat]⟩
theorem packed_no (l : List Int) (h : ∀ x ∈ l, 0 ≤ x) : (35 : UInt8) ∉ packB l.length l := (pack_ends l.length l h).2
/-- What is packed is unpacked. -/
theorem unp_packed {l : List Int} (hl : l.length ≤ 4096) (hx : ∀ x ∈ l, 0 ≤ x ∧ x ≤ 9999) : unpAll (packed l) = .good l := by
  have h0 : ∀ x ∈ l, 0 ≤ x := fun x h => (hx x h).1
  have hno := packed_no l h0
  have he := (pack_ends l.length l h0).1
  have hup : unpF (packB l.length l) = .good l := by
    have := unp_pack l.length l (packB l.length l).length [] (-1) (Nat.le_refl _) (Nat.le_refl _) (by simp; omega) hx (fun hne => by
      obtain ⟨v, r, rfl⟩ : ∃ v r, l = v :: r := by
        cases l with
        | nil => exact absurd rfl hne
        | cons v r => exact ⟨v, r, rfl⟩
      have := h0 v (by simp)
      simp only [List.getD_cons_zero]
      omega)
    rw [List.nil_append] at this
    exact this
  obtain ⟨u, hu, hub, hui⟩ := sum_digits (packB l.length l)
  obtain ⟨d1, d2⟩ := num_digits u (by omega)
  have hc : cutF 35 (packed l) = (packB l.length l, Lib.itoa (sumF (packB l.length l)), true) := by
    unfold packed
    rw [List.append_assoc, List.singleton_append]
    exact cutF_at hno
  unfold unpAll
  rw [hc]
  simp only
  rw [hui, d1, d2, hup, hu, if_neg ?_]
  · simp only; rw [if_pos trivial]
  · rintro (h | h | ⟨h1, h2⟩)
    · cases h
    · cases h
    · rcases he with he | ⟨q, he⟩
      · exact h1 he
      · rw [he] at h2
        unfold endsW at h2
        simp at h2
/-- What a text that is unpacked looks like. -/
theorem good_form {s : List UInt8} {l : List Int} (h : unpAll s = .good l) : ∃ B : List UInt8, s = B ++ 35 :: Lib.itoa (sumF B) ∧ (35 : UInt8) ∉ B := by
  unfold unpAll at h
  split at h
  · cases h
  · rename_i h1
    simp only [not_or] at h1
    obtain ⟨f1, f2, _⟩ := h1
    have f1 : (cutF 35 s).2.2 = true := by simpa using f1
    have f2 : numB (cutF 35 s).2.1 = true := by simpa using f2
    obtain ⟨g1, g2⟩ := cutF_found f1
    split at h
    · cases h
    · split at h
      · rename_i h3
        obtain ⟨n, _, _, n3, n4⟩ := numB_ok f2
        refine ⟨(cutF 35 s).1, ?_, g2⟩
        rw [h3, n4, n3]
        exact g1
      · cases h
theorem no_in_itoa (B : List UInt8) : (35 : UInt8) ∉ Lib.itoa (sumF B) := by
  obtain ⟨u, _, _, hu⟩ := sum_digits B
  rw [hu]
  exact no_in_digits u 35 (by decide)
theorem hash_at {B D : List UInt8} (hB : (35 : UInt8) ∉ B) (hD : (35 : UInt8) ∉ D) (i : Nat) : (B ++ 35 :: D)[i]? = some 35 ↔ i = B.length := by
  constructor
  · intro h
    rcases Nat.lt_trichotomy i B.length with hl | hl | hl
    · rw [List.getElem?_append_left hl] at h
      exact absurd (List.mem_of_getElem? h) hB
    · exact hl
    · rw [List.getElem?_append_right (by omega)] at h
      obtain ⟨j, hj⟩ : ∃ j, i - B.length = j + 1 := ⟨i - B.length - 1, by omega⟩
      rw [hj, List.getElem?_cons_succ] at h
      exact absurd (List.mem_of_getElem? h) hD
  · rintro rfl
    simp
theorem itoa_inj {B B' : List UInt8} (h : Lib.itoa (sumF B) = Lib.itoa (sumF B')) : sumF B = sumF B' := by
  obtain ⟨u, hu, hb, e⟩ := sum_digits B
  obtain ⟨u', hu', hb', e'⟩ := sum_digits B'
  rw [e, e'] at h
  have p := (num_digits u (by omega)).2
  rw [h, (num_digits u' (by omega)).2] at p
  rw [hu, hu', p]
/-- One byte changed: it is unpacked no more. -/
theorem spoilt {s : List UInt8} {l l' : List Int} {k : Nat} {d : UInt8} (h : unpAll s = .good l) (hk : k < s.length) (hd : s[k]? ≠ some d) : unpAll (s.set k d) ≠ .good l' := by
  intro h'
  obtain ⟨B, e, hB⟩ := good_form h
  obtain ⟨B', e', hB'⟩ := good_form h'
  have c1 := hash_at hB (no_in_itoa B)
  have c2 := hash_at hB' (no_in_itoa B')
  rw [← e] at c1
  rw [← e'] at c2
  have hset : ∀ i, (s.set k d)[i]? = if k = i then some d else s[i]? := fun i => by
    rw [List.getElem?_set]
    split
    · rename_i hki; subst hki; simp [hk]
    · rfl
  have hab : B.length = B'.length := by
    by_cases hk1 : k = B.length
    · by_cases hk2 : k = B'.length
      · omega
      · have q := (c2 B'.length).2 rfl
        rw [hset, if_neg hk2, c1] at q
        exact q.symm
    · have q := (c1 B.length).2 rfl
      have q2 := hset B.length
      rw [if_neg hk1, q, c2] at q2
      exact q2
  have hT : B' = (s.set k d).take B.length := by rw [e', hab]; simp
  have hB0 : B = s.take B.length := by
    conv => rhs; rw [e]
    simp
  have hD : Lib.itoa (sumF B') = (s.set k d).drop (B.length + 1) := by
    rw [e', hab, List.drop_append]
    simp
  have hD0 : Lib.itoa (sumF B) = s.drop (B.length + 1) := by
    conv => rhs; rw [e]
    rw [List.drop_append]
    simp
  by_cases hkB : k < B.length
  · rw [List.drop_set, if_pos (by omega), ← hD0] at hD
    have := itoa_inj hD
    rw [List.take_set, ← hB0] at hT
    rw [hT, List.set_eq_take_append_cons_drop, if_pos hkB] at this
    have hne : d ≠ B[k] := fun e2 => hd (by
      rw [e, List.getElem?_append_left hkB, List.getElem?_eq_getElem hkB, e2])
    refine sumF_spoilt (l := B.take k) (r := B.drop (k + 1)) hne ?_
    refine this.trans (congrArg sumF ?_)
    conv => lhs; rw [← List.take_append_drop k B]
    rw [List.drop_eq_getElem_cons hkB]
  · rw [List.take_set_of_le (by omega), ← hB0] at hT
    rw [hT] at e'
    exact hd (by
      have q := hset k
      rw [if_pos rfl, e', ← e] at q
      exact q)
end Go.Ax.Tb

namespace Go.Proofs.YtbeegiiiochblaaDoor
open Go.Ax Go.Ax.Tb Go.RowKit
attribute [local irreducible] Ax Post QOp ACall
set_option maxRecDepth 100000
set_option maxHeartbeats 4000000

theorem Pack_ok (l : List Int) (hE : tabE l = 0) : VCall Tryd.prog 7 [.ro (.ints .i64 l) 0 l.length] (.tup [.str (packed l), .int .i64 0]) := by
  by_cases h : l = []
  · subst h; exact Pack_nil
  · exact Pack_some l hE h
theorem packed_len {l : List Int} (hE : tabE l = 0) : (packed l).length ≤ 10 * l.length + 101 := by
  obtain ⟨hl, hx⟩ := tabE_ok hE
  have h1 := packB_len l.length l hl hx
  obtain ⟨u, _, hb, hu⟩ := sum_digits (packB l.length l)
  have := Go.Ax.Bg.digits_len_le (n := u) (k := 100) (by decide) (Nat.lt_of_lt_of_le hb (by decide))
  unfold packed
  rw [hu]
  simp only [List.length_append, List.length_cons, List.length_nil]
  omega
theorem digit1 {u : Nat} (h : u < 10) : Lib.decDigits u = [UInt8.ofNat (48 + u)] := by
  rw [Lib.decDigits, dif_pos h]
theorem packed3 : ∃ q, packed [7, 7, 0] = [55, 120, 50, 59, 48, 59, 35] ++ q ∧ q.length ≤ 100 := by
  have e7 : Lib.itoa 7 = [55] := (itoa_nat 7).trans (digit1 (by decide))
  have e0 : Lib.itoa 0 = [48] := (itoa_nat 0).trans (digit1 (by decide))
  have e2 : Lib.itoa ((2 : Nat) : Int) = [50] := (itoa_nat 2).trans (digit1 (by decide))
  have hB : packB 3 [7, 7, 0] = [55, 120, 50, 59, 48, 59] := by
    have s1 : same 7 [7, 0] = 1 := by decide
    have s0 : same 0 ([] : List Int) = 0 := by decide
    rw [packB, s1]
    show Go.Ax.Tb.runT 7 2 ++ packB 2 [0] = _
    rw [packB, s0]
    show Go.Ax.Tb.runT 7 2 ++ (Go.Ax.Tb.runT 0 1 ++ packB 1 []) = _
    unfold Go.Ax.Tb.runT
    rw [e7, e0, e2]
    rfl
  obtain ⟨u, _, hb, hu⟩ := sum_digits (packB 3 [7, 7, 0])
  refine ⟨Lib.itoa (sumF (packB 3 [7, 7, 0])), ?_, ?_⟩
  · show packB 3 [7, 7, 0] ++ [35] ++ Lib.itoa (sumF (packB 3 [7, 7, 0])) = _
    rw [hB]; rfl
  · rw [hu]
    exact Go.Ax.Bg.digits_len_le (n := u) (k := 100) (by decide) (Nat.lt_of_lt_of_le hb (by decide))
theorem tableFact : VCall Tryd.prog 6 [] (.bool true) := by
  obtain ⟨q, hq, hql⟩ := packed3
  have hE : tabE [7, 7, 0] = 0 := by decide
  obtain ⟨hl3, hx3⟩ := tabE_ok hE
  have hP : VCall Tryd.prog 7 [.ro (.ints .i64 [7, 7, 0]) 0 3] (.tup [.str (packed [7, 7, 0]), .int .i64 0]) := Pack_ok [7, 7, 0] hE
  have hlen : (packed [7, 7, 0]).length ≤ 281474976710656 := by rw [hq, List.length_append]; simp; omega
  have hg := unp_packed hl3 hx3
  have hU := Unpack_ok (packed [7, 7, 0]) hlen
  have hA := At_ok (packed [7, 7, 0]) 1 hlen
  rw [hg] at hU hA
  have hU : VCall Tryd.prog 9 [.str (packed [7, 7, 0])] (.tup [.ro (.ints .i64 [7, 7, 0]) 0 3, .int .i64 0]) := hU
  have hA : VCall Tryd.prog 11 [.str (packed [7, 7, 0]), .int .i64 1] (.tup [.int .i64 7, .int .i64 0]) := hA
  have hC : VCall Tryd.prog 13 [.agg [.int .i64 1, .int .i64 2]] (.tup [.int .i64 6, .int .i64 0]) := Code_ok 1 2
  have hN : VCall Tryd.prog 14 [.int .i64 6] (.tup [.agg [.int .i64 1, .int .i64 2], .int .i64 0]) := Entry_ok 6
  have hS : VCall Tryd.prog 16 [.str []] (.int .i64 1) := sum_ok [] (by decide)
  have hK : VCall Tryd.prog 8 [.ro (.ints .i64 [10000]) 0 1] (.int .i64 4) := check_ok [10000] (by decide)
  have hf3 : VCall Tryd.prog 15 [.ro (.ints .i64 [0, 0, 0]) 0 3] (.bool true) := fineI [0, 0, 0] (by decide)
  have hf2 : VCall Tryd.prog 15 [.ro (.ints .i64 [0, 0]) 0 2] (.bool true) := fineI [0, 0] (by decide)
  have hEq : VCall Tryd.prog 10 [.ro (.ints .i64 [7, 7, 0]) 0 3, .ro (.ints .i64 [7, 7, 0]) 0 3] (.bool true) := equalI [7, 7, 0] [7, 7, 0] (by decide) (by decide)
  refine ACall.value0 (acall_of_ax (P := Tryd.prog) (fn := Tryd.f6) rfl rfl (by kernel_rfl) rfl (fun c hR hfix => ?_)) (fix := fun _ => False) (fun _ h => h) rfl rfl
  generalize packed [7, 7, 0] = s at *
  have hs7 : 7 ≤ s.length ∧ s.length ≤ 107 := by rw [hq]; simp; omega
  have ht7 : s.take 7 = [55, 120, 50, 59, 48, 59, 35] := by rw [hq]; rfl
  clear hq
  repeat (first
    | refine ax_q (q_assign rfl) ?_
    | refine ax_ops_nil ?_
    | refine ax_post_code ?_
    | refine ax_seq ?_
    | refine ax_region rfl ?_
    | refine ax_q (q_build rfl rfl rfl rfl rfl rfl) ?_)
  refine ax_callv rfl rfl rfl hC ?_
  repeat (first
    | refine ax_q (q_move rfl) ?_
    | refine ax_q (q_assign rfl) ?_
    | refine ax_ops_nil ?_
    | refine ax_post_code ?_
    | refine ax_seq ?_
    | refine ax_region rfl ?_
    | refine ax_q (q_extract rfl rfl) ?_)
  refine ax_callv rfl rfl rfl hN ?_
  repeat (first
    | refine ax_q (q_move rfl) ?_
    | refine ax_q (q_extract rfl rfl) ?_
    | refine ax_alloc rfl rfl rfl ?_)
  refine ax_storeagg (c' := .box [.int .i64 1, .int .i64 2]) rfl rfl rfl rfl rfl Nat.zero_lt_one rfl rfl (fun i' j' hi' hj' => ?_) ?_
  · rw [if_pos (Nat.lt_one_iff.1 hi')]; rfl
  repeat (first
    | refine ax_q (q_assign rfl) ?_
    | refine ax_ops_nil ?_
    | refine ax_post_code ?_
    | refine ax_seq ?_
    | refine ax_region rfl ?_
    | refine ax_buildSliceRo rfl rfl rfl rfl rfl rfl rfl rfl rfl rfl rfl ?_)
  refine ax_callv rfl rfl rfl hP ?_
  repeat (first
    | refine ax_q (q_move rfl) ?_
    | refine ax_q (q_assign rfl) ?_
    | refine ax_ops_nil ?_
    | refine ax_post_code ?_
    | refine ax_seq ?_
    | refine ax_region rfl ?_
    | refine ax_q (q_extract rfl rfl) ?_
    | refine ax_buildSliceRo rfl rfl rfl rfl rfl rfl rfl rfl rfl rfl rfl ?_)
  refine ax_callv rfl rfl rfl hf3 ?_
  repeat (first
    | refine ax_q (q_move rfl) ?_
    | refine ax_ops_nil ?_
    | refine ax_post_code ?_
    | refine ax_guard rfl rfl ?_
    | refine ax_q (q_lss rfl rfl) ?_
    | refine ax_q (q_not rfl) ?_
    | refine ax_q (q_pick rfl rfl) ?_
    | refine ax_q (q_lenstr rfl rfl) ?_)
  refine ax_cond_dec rfl (fun h => absurd h (by omega)) (fun _ => ?_)
  repeat (first
    | refine ax_q (q_move rfl) ?_
    | refine ax_post_code ?_
    | refine ax_seq ?_
    | refine ax_region rfl ?_
    | refine ax_skip ?_)
  refine ax_callv rfl rfl rfl hU ?_
  repeat (first
    | refine ax_q (q_move rfl) ?_
    | refine ax_q (q_assign rfl) ?_
    | refine ax_ops_nil ?_
    | refine ax_post_code ?_
    | refine ax_seq ?_
    | refine ax_region rfl ?_
    | refine ax_q (q_extract rfl rfl) ?_)
  refine ax_callv rfl rfl rfl hA ?_
  repeat (first
    | refine ax_q (q_move rfl) ?_
    | refine ax_q (q_assign rfl) ?_
    | refine ax_ops_nil ?_
    | refine ax_post_code ?_
    | refine ax_seq ?_
    | refine ax_region rfl ?_
    | refine ax_q (q_extract rfl rfl) ?_
    | refine ax_buildSliceRo rfl rfl rfl rfl rfl rfl rfl rfl rfl rfl rfl ?_)
  refine ax_callv rfl rfl rfl hf2 ?_
  repeat (first
    | refine ax_q (q_move rfl) ?_
    | refine ax_guard rfl rfl ?_
    | refine ax_q (q_eql rfl rfl) ?_
    | refine ax_q (q_pick rfl rfl) ?_
    | refine ax_q (q_build rfl rfl rfl rfl rfl rfl) ?_
    | refine ax_q (q_streql rfl rfl) ?_
    | refine ax_q (q_strslice rfl rfl rfl rfl rfl rfl (by omega)) ?_
    | refine ax_q (q_structeq rfl rfl rfl (by kernel_rfl) (by kernel_rfl) (by kernel_rfl) rfl) ?_
    | refine ax_q (q_loadagg_ptr rfl rfl rfl rfl rfl rfl rfl (by first | exact Nat.zero_lt_one | assumption | omega)) ?_)
  refine ax_gsplit rfl rfl (fun _ => ?_) (fun h => absurd ht7 h)
  repeat (first
    | refine ax_q (q_move rfl) ?_
    | refine ax_guard rfl rfl ?_
    | refine ax_buildSliceRo rfl rfl rfl rfl rfl rfl rfl rfl rfl rfl rfl ?_)
  refine ax_callv rfl rfl rfl hEq ?_
  repeat (first
    | refine ax_q (q_move rfl) ?_
    | refine ax_guard rfl rfl ?_
    | refine ax_q (q_eql rfl rfl) ?_
    | refine ax_q (q_pick rfl rfl) ?_)
  refine ax_callv rfl rfl rfl hS ?_
  repeat (first
    | refine ax_q (q_move rfl) ?_
    | refine ax_guard rfl rfl ?_
    | refine ax_q (q_eql rfl rfl) ?_
    | refine ax_q (q_pick rfl rfl) ?_
    | refine ax_buildSliceRo rfl rfl rfl rfl rfl rfl rfl rfl rfl rfl rfl ?_)
  refine ax_callv rfl rfl rfl hK ?_
  repeat (first
    | refine ax_q (q_assign rfl) ?_
    | refine ax_ops_nil ?_
    | refine ax_post_code ?_
    | refine ax_guard rfl rfl ?_
    | refine ax_return ?_
    | refine ax_q (q_eql rfl rfl) ?_
    | refine ax_q (q_pick rfl rfl) ?_)
  exact ax_ret hR rfl rfl
end Go.Proofs.YtbeegiiiochblaaDoor

namespace Go.Proofs.YtbeegiiiochblaaDoor
open Go.Ax Go.Ax.Tb Go.RowKit
attribute [local irreducible] Ax Post QOp ACall
set_option maxRecDepth 100000
set_option maxHeartbeats 4000000

theorem code_back {p q : Int} (h : (codeF p q).2 = 0) : entryF (codeF p q).1 = ((p, q), 0) := by
  unfold codeF at h ⊢
  split at h
  · simp at h
  · split at h
    · simp at h
    · rename_i h1 h2
      rw [if_neg h1, if_neg h2]
      simp only
      unfold entryF
      have e1 : (3 * q + p - 1) % 3 + 1 = p := by omega
      have e2 : (3 * q + p - 1) / 3 = q := by omega
      rw [e1, e2, if_neg (by omega), if_neg h2]
theorem entry_back {n : Int} (h : (entryF n).2 = 0) : codeF (entryF n).1.1 (entryF n).1.2 = (n, 0) := by
  unfold entryF at h ⊢
  split at h
  · simp at h
  · split at h
    · simp at h
    · rename_i h1 h2
      rw [if_neg h1, if_neg h2]
      simp only
      unfold codeF
      rw [if_neg (by omega), if_neg h2]
      congr 1
      omega
theorem entry_no {n : Int} (h : ¬ (entryF n).2 = 0) : (entryF n).1 = (0, 0) := by
  unfold entryF at h ⊢
  split
  · rfl
  · split
    · rfl
    · rename_i h1 h2
      rw [if_neg h1, if_neg h2] at h
      simp at h
theorem TableCoded_law (p q n : Int) : VCall Tryd.prog 5 [.agg [.int .i64 p, .int .i64 q], .int .i64 n] (.bool true) := by
  have hC := Code_ok p q
  have hN := Entry_ok n
  have hb := @code_back p q
  have he := @entry_back n
  have hn := @entry_no n
  refine ACall.value0 (acall_of_ax (P := Tryd.prog) (fn := Tryd.f5) rfl rfl (by kernel_rfl) rfl (fun c hR hfix => ?_)) (fix := fun _ => False) (fun _ h => h) rfl rfl
  have hE := Entry_ok (codeF p q).1
  have hD := Code_ok (entryF n).1.1 (entryF n).1.2
  generalize codeF p q = r at *
  generalize entryF n = y at *
  obtain ⟨⟨y1, y2⟩, ye⟩ := y
  obtain ⟨r1, r2⟩ := r
  simp only at *
  repeat (first
    | refine ax_q (q_assign rfl) ?_
    | refine ax_ops_nil ?_
    | refine ax_post_code ?_
    | refine ax_seq ?_
    | refine ax_region rfl ?_
    | refine ax_box rfl rfl ?_)
  refine ax_callv rfl rfl rfl tableFact ?_
  repeat (first
    | refine ax_ops_nil ?_
    | refine ax_post_code ?_
    | refine ax_seq ?_
    | refine ax_region rfl ?_
    | refine ax_cond_false rfl ?_
    | refine ax_skip ?_
    | refine ax_q (q_not rfl) ?_
    | refine ax_q (q_loadagg_ptr rfl rfl rfl rfl rfl rfl rfl (by first | exact Nat.zero_lt_one | assumption | omega)) ?_)
  refine ax_callv rfl rfl rfl hC ?_
  repeat (first
    | refine ax_q (q_move rfl) ?_
    | refine ax_q (q_assign rfl) ?_
    | refine ax_ops_nil ?_
    | refine ax_post_code ?_
    | refine ax_seq ?_
    | refine ax_region rfl ?_
    | refine ax_q (q_eql rfl rfl) ?_
    | refine ax_q (q_extract rfl rfl) ?_)
  refine ax_cond_dec rfl (fun h0 => ?_) (fun h0 => ?_)
  · rw [hb h0] at hE
    simp only at hE
    repeat (first
      | refine ax_q (q_move rfl) ?_
      | refine ax_seq ?_
      | refine ax_region rfl ?_)
    refine ax_callv rfl rfl rfl hE ?_
    repeat (first
      | refine ax_q (q_move rfl) ?_
      | refine ax_q (q_extract rfl rfl) ?_
      | refine ax_alloc rfl rfl rfl ?_)
    refine ax_storeagg (c' := .box [.int .i64 p, .int .i64 q]) rfl rfl rfl rfl rfl (by decide) rfl rfl (fun i' j' hi' hj' => ?_) ?_
    · rw [if_pos (Nat.lt_one_iff.1 hi')]; rfl
    repeat (first
      | refine ax_q (q_move rfl) ?_
      | refine ax_q (q_assign rfl) ?_
      | refine ax_ops_nil ?_
      | refine ax_post_code ?_
      | refine ax_seq ?_
      | refine ax_region rfl ?_
      | refine ax_guard rfl rfl ?_
      | refine ax_q (q_neq rfl rfl) ?_
      | refine ax_q (q_pick rfl rfl) ?_
      | refine ax_q (q_structneq rfl rfl rfl (by kernel_rfl) (by kernel_rfl) (by kernel_rfl) rfl) ?_
      | refine ax_q (q_loadagg_ptr rfl rfl rfl rfl rfl rfl rfl (by first | exact Nat.zero_lt_one | assumption | omega)) ?_)
    refine ax_cond rfl (fun h1 => absurd h1 (by simp)) (fun h1 => ?_)
    repeat (first
      | refine ax_q (q_move rfl) ?_
      | refine ax_post_code ?_
      | refine ax_seq ?_
      | refine ax_region rfl ?_
      | refine ax_skip ?_)
    refine ax_callv rfl rfl rfl hN ?_
    repeat (first
      | refine ax_q (q_move rfl) ?_
      | refine ax_q (q_extract rfl rfl) ?_
      | refine ax_alloc rfl rfl rfl ?_)
    refine ax_storeagg (c' := .box [.int .i64 y1, .int .i64 y2]) rfl rfl rfl rfl rfl (by decide) rfl rfl (fun i' j' hi' hj' => ?_) ?_
    · rw [if_pos (Nat.lt_one_iff.1 hi')]; rfl
    repeat (first
      | refine ax_q (q_move rfl) ?_
      | refine ax_q (q_assign rfl) ?_
      | refine ax_ops_nil ?_
      | refine ax_post_code ?_
      | refine ax_seq ?_
      | refine ax_region rfl ?_
      | refine ax_q (q_neq rfl rfl) ?_)
    refine ax_cond_dec rfl (fun h1 => ?_) (fun h1 => ?_)
    · have := hn h1
      cases this
      repeat (first
        | refine ax_q (q_assign rfl) ?_
        | refine ax_ops_nil ?_
        | refine ax_post_code ?_
        | refine ax_seq ?_
        | refine ax_region rfl ?_
        | refine ax_return ?_
        | refine ax_ret_code ?_
        | refine ax_q (q_build rfl rfl rfl rfl rfl rfl) ?_
        | refine ax_q (q_structeq rfl rfl rfl (by kernel_rfl) (by kernel_rfl) (by kernel_rfl) rfl) ?_
        | refine ax_q (q_loadagg_ptr rfl rfl rfl rfl rfl rfl rfl (by first | exact Nat.zero_lt_one | assumption | omega)) ?_)
      refine ax_ret hR rfl ?_
      simp [tupOf]
    · rw [he (by omega)] at hD
      simp only at hD
      repeat (first
        | refine ax_post_code ?_
        | refine ax_seq ?_
        | refine ax_region rfl ?_
        | refine ax_skip ?_
        | refine ax_q (q_loadagg_ptr rfl rfl rfl rfl rfl rfl rfl (by first | exact Nat.zero_lt_one | assumption | omega)) ?_)
      refine ax_callv rfl rfl rfl hD ?_
      repeat (first
        | refine ax_q (q_move rfl) ?_
        | refine ax_q (q_assign rfl) ?_
        | refine ax_ops_nil ?_
        | refine ax_post_code ?_
        | refine ax_seq ?_
        | refine ax_region rfl ?_
        | refine ax_guard rfl rfl ?_
        | refine ax_return ?_
        | refine ax_q (q_eql rfl rfl) ?_
        | refine ax_q (q_pick rfl rfl) ?_
        | refine ax_q (q_extract rfl rfl) ?_)
      refine ax_ret hR rfl ?_
      simp [tupOf]
  · skip
    repeat (first
      | refine ax_q (q_move rfl) ?_
      | refine ax_post_code ?_
      | refine ax_seq ?_
      | refine ax_region rfl ?_
      | refine ax_skip ?_)
    refine ax_callv rfl rfl rfl hN ?_
    repeat (first
      | refine ax_q (q_move rfl) ?_
      | refine ax_q (q_extract rfl rfl) ?_
      | refine ax_alloc rfl rfl rfl ?_)
    refine ax_storeagg (c' := .box [.int .i64 y1, .int .i64 y2]) rfl rfl rfl rfl rfl (by decide) rfl rfl (fun i' j' hi' hj' => ?_) ?_
    · rw [if_pos (Nat.lt_one_iff.1 hi')]; rfl
    repeat (first
      | refine ax_q (q_move rfl) ?_
      | refine ax_q (q_assign rfl) ?_
      | refine ax_ops_nil ?_
      | refine ax_post_code ?_
      | refine ax_seq ?_
      | refine ax_region rfl ?_
      | refine ax_q (q_neq rfl rfl) ?_)
    refine ax_cond_dec rfl (fun h1 => ?_) (fun h1 => ?_)
    · have := hn h1
      cases this
      repeat (first
        | refine ax_q (q_assign rfl) ?_
        | refine ax_ops_nil ?_
        | refine ax_post_code ?_
        | refine ax_seq ?_
        | refine ax_region rfl ?_
        | refine ax_return ?_
        | refine ax_ret_code ?_
        | refine ax_q (q_build rfl rfl rfl rfl rfl rfl) ?_
        | refine ax_q (q_structeq rfl rfl rfl (by kernel_rfl) (by kernel_rfl) (by kernel_rfl) rfl) ?_
        | refine ax_q (q_loadagg_ptr rfl rfl rfl rfl rfl rfl rfl (by first | exact Nat.zero_lt_one | assumption | omega)) ?_)
      refine ax_ret hR rfl ?_
      simp [tupOf]
    · rw [he (by omega)] at hD
      simp only at hD
      repeat (first
        | refine ax_post_code ?_
        | refine ax_seq ?_
        | refine ax_region rfl ?_
        | refine ax_skip ?_
        | refine ax_q (q_loadagg_ptr rfl rfl rfl rfl rfl rfl rfl (by first | exact Nat.zero_lt_one | assumption | omega)) ?_)
      refine ax_callv rfl rfl rfl hD ?_
      repeat (first
        | refine ax_q (q_move rfl) ?_
        | refine ax_q (q_assign rfl) ?_
        | refine ax_ops_nil ?_
        | refine ax_post_code ?_
        | refine ax_seq ?_
        | refine ax_region rfl ?_
        | refine ax_guard rfl rfl ?_
        | refine ax_return ?_
        | refine ax_q (q_eql rfl rfl) ?_
        | refine ax_q (q_pick rfl rfl) ?_
        | refine ax_q (q_extract rfl rfl) ?_)
      refine ax_ret hR rfl ?_
      simp [tupOf]
theorem TableBack_law (l : List Int) (i : Int) (h : l.length ≤ 9223372036854775807) : VCall Tryd.prog 3 [.ro (.ints .i64 l) 0 l.length, .int .i64 i] (.bool true) := by
  refine ACall.value0 (acall_of_ax (P := Tryd.prog) (fn := Tryd.f3) rfl rfl (by kernel_rfl) rfl (fun c hR hfix => ?_)) (fix := fun _ => False) (fun _ h => h) rfl rfl
  by_cases hE : tabE l = 0
  · have hP := Pack_ok l hE
    have hpl := packed_len hE
    obtain ⟨hl, hx⟩ := tabE_ok hE
    have hg := unp_packed hl hx
    have hU := Unpack_ok (packed l) (by omega)
    have hA := fun x => At_ok (packed l) x (by omega)
    rw [hg] at hU
    simp only [hg] at hA
    have hU : VCall Tryd.prog 9 [.str (packed l)] (.tup [.ro (.ints .i64 l) 0 l.length, .int .i64 0]) := hU
    have hEq := equalI l l h h
    rw [decide_eq_true rfl] at hEq
    generalize packed l = s at *
    repeat (first
      | refine ax_q (q_assign rfl) ?_
      | refine ax_ops_nil ?_
      | refine ax_post_code ?_
      | refine ax_seq ?_
      | refine ax_region rfl ?_)
    refine ax_callv rfl rfl rfl tableFact ?_
    repeat (first
      | refine ax_q (q_move rfl) ?_
      | refine ax_ops_nil ?_
      | refine ax_post_code ?_
      | refine ax_seq ?_
      | refine ax_region rfl ?_
      | refine ax_cond_false rfl ?_
      | refine ax_skip ?_
      | refine ax_q (q_not rfl) ?_)
    refine ax_callv rfl rfl rfl hP ?_
    repeat (first
      | refine ax_q (q_move rfl) ?_
      | refine ax_q (q_assign rfl) ?_
      | refine ax_ops_nil ?_
      | refine ax_post_code ?_
      | refine ax_seq ?_
      | refine ax_region rfl ?_
      | refine ax_cond_false rfl ?_
      | refine ax_skip ?_
      | refine ax_q (q_neq rfl rfl) ?_
      | refine ax_q (q_extract rfl rfl) ?_)
    refine ax_callv rfl rfl rfl hU ?_
    repeat (first
      | refine ax_q (q_move rfl) ?_
      | refine ax_q (q_assign rfl) ?_
      | refine ax_ops_nil ?_
      | refine ax_post_code ?_
      | refine ax_seq ?_
      | refine ax_region rfl ?_
      | refine ax_guard rfl rfl ?_
      | refine ax_q (q_neq rfl rfl) ?_
      | refine ax_q (q_extract rfl rfl) ?_)
    refine ax_callv rfl rfl rfl hEq ?_
    repeat (first
      | refine ax_q (q_move rfl) ?_
      | refine ax_ops_nil ?_
      | refine ax_post_code ?_
      | refine ax_seq ?_
      | refine ax_region rfl ?_
      | refine ax_guard rfl rfl ?_
      | refine ax_cond_false rfl ?_
      | refine ax_skip ?_
      | refine ax_q (q_eql rfl rfl) ?_
      | refine ax_q (q_not rfl) ?_
      | refine ax_q (q_pick rfl rfl) ?_
      | refine ax_q (q_len rfl rfl rfl) ?_)
    refine ax_cond_dec rfl (fun h0 => ?_) (fun h0 => ?_)
    · have : l = [] := List.length_eq_zero_iff.1 (by omega)
      subst this
      have h0 : VCall Tryd.prog 11 [.str s, .int .i64 0] (.tup [.int .i64 0, .int .i64 4]) := hA 0
      repeat (first
        | refine ax_q (q_move rfl) ?_
        | refine ax_seq ?_
        | refine ax_region rfl ?_)
      refine ax_callv rfl rfl rfl h0 ?_
      repeat (first
        | refine ax_q (q_move rfl) ?_
        | refine ax_q (q_assign rfl) ?_
        | refine ax_ops_nil ?_
        | refine ax_post_code ?_
        | refine ax_seq ?_
        | refine ax_region rfl ?_
        | refine ax_return ?_
        | refine ax_ret_code ?_
        | refine ax_q (q_eql rfl rfl) ?_
        | refine ax_q (q_extract rfl rfl) ?_)
      exact ax_ret hR rfl rfl
    · obtain ⟨x, hx1, hx2⟩ := pickN i l.length ⟨by omega, by omega⟩
      have ha := hA x
      have e : atF (.good l) x = (l.getD x 0, 0) := by
        show (if (x : Int) < 0 ∨ (l.length : Int) ≤ x then ((0, 4) : Int × Int) else (l.getD (x : Int).toNat 0, 0)) = _
        rw [if_neg (by omega), Int.toNat_natCast]
      rw [e] at ha
      simp only at ha
      repeat (first
        | refine ax_q (q_move rfl) ?_
        | refine ax_post_code ?_
        | refine ax_seq ?_
        | refine ax_region rfl ?_
        | refine ax_skip ?_
        | refine ax_q (q_len rfl rfl rfl) ?_)
      refine ax_callv rfl rfl rfl hx2 ?_
      repeat (first
        | refine ax_q (q_move rfl) ?_
        | refine ax_q (q_assign rfl) ?_
        | refine ax_ops_nil ?_
        | refine ax_post_code ?_
        | refine ax_seq ?_
        | refine ax_region rfl ?_)
      refine ax_callv rfl rfl rfl ha ?_
      repeat (first
        | refine ax_q (q_move rfl) ?_
        | refine ax_q (q_assign rfl) ?_
        | refine ax_q (q_loadi_rp rfl rfl rfl) ?_
        | refine ax_ops_nil ?_
        | refine ax_post_code ?_
        | refine ax_seq ?_
        | refine ax_region rfl ?_
        | refine ax_guard rfl rfl ?_
        | refine ax_return ?_
        | refine ax_q (q_eql rfl rfl) ?_
        | refine ax_q (q_pick rfl rfl) ?_
        | refine ax_q (q_extract rfl rfl) ?_
        | refine ax_q (q_index_ro' rfl rfl rfl rfl (by first | (simp only [Nat.zero_add, Int.toNat_natCast, Int.toNat_zero]; exact rfl) | exact rfl) (by omega)) ?_)
      refine ax_ret hR rfl ?_
      simp [tupOf]
  · have hP := Pack_bad l h hE
    have hc := check_ok l h
    generalize tabE l = e at *
    repeat (first
      | refine ax_q (q_assign rfl) ?_
      | refine ax_ops_nil ?_
      | refine ax_post_code ?_
      | refine ax_seq ?_
      | refine ax_region rfl ?_)
    refine ax_callv rfl rfl rfl tableFact ?_
    repeat (first
      | refine ax_q (q_move rfl) ?_
      | refine ax_ops_nil ?_
      | refine ax_post_code ?_
      | refine ax_seq ?_
      | refine ax_region rfl ?_
      | refine ax_cond_false rfl ?_
      | refine ax_skip ?_
      | refine ax_q (q_not rfl) ?_)
    refine ax_callv rfl rfl rfl hP ?_
    repeat (first
      | refine ax_q (q_move rfl) ?_
      | refine ax_q (q_assign rfl) ?_
      | refine ax_ops_nil ?_
      | refine ax_post_code ?_
      | refine ax_seq ?_
      | refine ax_region rfl ?_
      | refine ax_q (q_neq rfl rfl) ?_
      | refine ax_q (q_extract rfl rfl) ?_)
    refine ax_cond_dec rfl (fun _ => ?_) (fun h => absurd hE h)
    repeat (first
      | refine ax_q (q_move rfl) ?_
      | refine ax_seq ?_
      | refine ax_region rfl ?_
      | refine ax_guard rfl rfl ?_
      | refine ax_q (q_streql rfl rfl) ?_)
    refine ax_callv rfl rfl rfl hc ?_
    repeat (first
      | refine ax_q (q_assign rfl) ?_
      | refine ax_ops_nil ?_
      | refine ax_post_code ?_
      | refine ax_guard rfl rfl ?_
      | refine ax_return ?_
      | refine ax_ret_code ?_
      | refine ax_q (q_eql rfl rfl) ?_
      | refine ax_q (q_pick rfl rfl) ?_)
    refine ax_ret hR rfl ?_
    simp [tupOf]
end Go.Proofs.YtbeegiiiochblaaDoor

/-
  Rules: an object of one's own is only read from now on; loaded numbers told as naturals.
-/
namespace Go.Ax
variable [Pins]
open Go.RowKit

section
variable {P : Program} {fn : Func} {c : Ctx} {fr : Fr} {H : AHeap} {k : List It}
theorem give_sub {h : Nat} {o : AObj} (hh : H[h]? = some (some o)) : subH (List.replicate h none ++ [some o]) H := by
  have _pin := (inferInstance : Pins)
  intro h' o' ho
  rcases Nat.lt_trichotomy h' h with q | q | q
  · rw [List.getElem?_append_left (by simpa using q)] at ho
    simp [List.getElem?_replicate, q] at ho
  · subst q
    rw [List.getElem?_append_right (by simp)] at ho
    simp at ho; subst ho; exact hh
  · rw [List.getElem?_eq_none (by simp; omega)] at ho; cases ho
theorem give_refl {h : Nat} {o : AObj} (hrl : refless o.c) : ∀ (h' : Nat) (o' : AObj), (List.replicate h none ++ [some o] : AHeap)[h']? = some (some o') → refless o'.c := by
  have _pin := (inferInstance : Pins)
  intro h' o' ho
  have hm := List.mem_of_getElem? ho
  rcases List.mem_append.1 hm with q | q
  · have := (List.mem_replicate.1 q).2; cases this
  · simp at q; subst q; exact hrl
theorem give_at {h : Nat} {o : AObj} : (List.replicate h none ++ [some o] : AHeap)[h]? = some (some o) := by
  have _pin := (inferInstance : Pins)
  rw [List.getElem?_append_right (by simp)]; simp
theorem Rep.give {w : World} {a : Act} {σ : Nat → Option Blk} {S : Nat → Prop} {N : Nat} (hr : Rep c w a σ S N fr H) (h t n : Nat) {o : AObj} (L : Fr) (hh : H[h]? = some (some o)) (hrl : refless o.c) (hl : look t fr = some (.sl h 0 n)) (hn : n ≤ o.c.len) (hL : knows fr L) :
    ∃ S', Rep c w a σ S' N ((t, .ro o.c 0 n) :: L) (H.set h none) := by
  have hlt : h < H.length := (List.getElem?_eq_some_iff.1 hh).1
  refine hr.freeze (List.replicate h none ++ [some o]) (H.set h none) (give_sub hh) (give_refl hrl) (by simp) ?_ ⟨⟨_, hl, .inr (.inr ⟨?_, ?_⟩)⟩, fzk_know hL⟩
  · intro h' o' ho
    have hne : h' ≠ h := by
      rintro rfl
      rw [List.getElem?_set_self hlt] at ho; cases ho
    rw [List.getElem?_set_ne (Ne.symm hne)] at ho
    refine ⟨fun o2 h2 => ?_, o', ho, rfl, rfl, rfl, fun i j _ _ => .inl rfl⟩
    rcases Nat.lt_or_ge h' h with q | q
    · rw [List.getElem?_append_left (by simpa using q)] at h2
      simp [List.getElem?_replicate, q] at h2
    · rw [List.getElem?_eq_none (by simp; omega)] at h2; cases h2
  · simp only [AV.frz, give_at]
  · intro o2 h2
    rw [give_at] at h2
    cases h2
    omega
/-- A row of one's own is only read from now on. -/
theorem ax_give {all : Array Oper} {rest : List Oper} (h t n : Nat) {o : AObj} (L : Fr) (hh : H[h]? = some (some o)) (hrl : refless o.c) (hl : look t fr = some (.sl h 0 n)) (hn : n ≤ o.c.len) (hL : knows fr L)
    (hk : Ax P fn c (.ops false all rest k) ((t, .ro o.c 0 n) :: L) (H.set h none)) : Ax P fn c (.ops false all rest k) fr H := by
  intro hd w a σ S hr
  obtain ⟨S', hr'⟩ := hr.give h t n L hh hrl hl hn hL
  exact hk hd w a σ S' hr'
theorem ax_give_code {x : Code} (h t n : Nat) {o : AObj} (L : Fr) (hh : H[h]? = some (some o)) (hrl : refless o.c) (hl : look t fr = some (.sl h 0 n)) (hn : n ≤ o.c.len) (hL : knows fr L)
    (hk : Ax P fn c (.code x k) ((t, .ro o.c 0 n) :: L) (H.set h none)) : Ax P fn c (.code x k) fr H := by
  intro w a σ S hr
  obtain ⟨S', hr'⟩ := hr.give h t n L hh hrl hl hn hL
  exact hk w a σ S' hr'
theorem ax_heap_eq_ops {q : Bool} {all : Array Oper} {rest : List Oper} (H' : AHeap) (he : H = H') (hk : Ax P fn c (.ops q all rest k) fr H') : Ax P fn c (.ops q all rest k) fr H := by
  subst he; exact hk
variable {ind : Bool} {d : Option Nat} {ty : TypeId} {pos : String} {after : Array Edge} {g : Option (Nat × Bool)}
theorem run_eqGuard_bool {op : BinOp} {t : TypeId} {x y : Operand} {a b : Bool} {w : World} : (eqGuard op t x y (.bool a) (.bool b)).run P w = .ok () w := by
  have _pin := (inferInstance : Pins)
  unfold eqGuard
  split <;> rfl
theorem q_boolneq {x y : Operand} {t t' : TypeId} {a b : Bool} (ht : P.underlying t = some .bool) (hx : ev fr x = some (.bool a)) (hy : ev fr y = some (.bool b)) : QOp ind P fn c fr H ⟨d, .binOp .neq t x y t', ty, pos, after, g⟩ (.bool (!(a == b))) := by
  intro w ac σ S hr
  refine ⟨_, .bool _ _, fun w' _ => ?_⟩
  have h1 := hr.evBool hx
  have h2 := hr.evBool hy
  have h3 := run_neq_bool (P := P) w' t a b ht
  simp [execOp, h1, h2, run_eqGuard_bool, h3]
  try (cases a <;> cases b <;> rfl)
theorem q_booleq {x y : Operand} {t t' : TypeId} {a b : Bool} (ht : P.underlying t = some .bool) (hx : ev fr x = some (.bool a)) (hy : ev fr y = some (.bool b)) : QOp ind P fn c fr H ⟨d, .binOp .eql t x y t', ty, pos, after, g⟩ (.bool (a == b)) := by
  intro w ac σ S hr
  refine ⟨_, .bool _ _, fun w' _ => ?_⟩
  have h1 := hr.evBool hx
  have h2 := hr.evBool hy
  have h3 := run_eql_bool (P := P) w' t a b ht
  simp [execOp, h1, h2, run_eqGuard_bool, h3]
/-- Bits pushed out on the left are lost. -/
theorem q_ushlw {x y : Operand} {t t' : TypeId} {kk k' : IntKind} {m s M : Nat} (hx : ev fr x = some (.int kk (m : Nat))) (hy : ev fr y = some (.int k' (s : Nat))) (hb : s ≤ kk.bits) (hk : UK kk M) :
    QOp ind P fn c fr H ⟨d, .binOp .shl t x y t', ty, pos, after, g⟩ (.int kk (m * 2 ^ s % M : Nat)) := by
  refine (q_shl hx hy (by omega)).res (congrArg (AV.int kk) ?_)
  unfold shlB
  rw [Int.toNat_natCast, Nat.min_eq_left hb]
  have : ((m : Int) * 2 ^ s) = ((m * 2 ^ s : Nat) : Int) := by simp
  rw [this]; exact hk.low _
end
end Go.Ax

/-
  Rules: maps.
-/
namespace Go.Ax
variable [Pins]
open Go.RowKit

/-- What keys a map has. -/
inductive KSort where
  | int (k : IntKind)
  | str
  | pair (k : IntKind)
inductive KV : KSort → Value → Prop
  | int (k n) : KV (.int k) (.int k n)
  | str (s) : KV .str (.string s)
  | pair (k a b) : KV (.pair k) (.agg #[.int k a, .int k b])
inductive KFit (P : Program) (kt : TypeId) : KSort → Prop
  | int {k} (h : P.underlying kt = some (.int k)) : KFit P kt (.int k)
  | str (h : P.underlying kt = some .string) : KFit P kt .str
  | pair {k e} (h : P.underlying kt = some (.array 2 e)) (he : P.underlying e = some (.int k)) (h1 : (P.info? e).map (·.size) = some 1) : KFit P kt (.pair k)

theorem KV.isKey {s : KSort} {v : Value} (hv : KV s v) : (∀ k, s = .int k → MapKept.IsKey (.int k) v) ∧ (s = .str → MapKept.IsKey .string v) := by
  have _pin := (inferInstance : Pins)
  cases hv
  · refine ⟨fun k h => ?_, fun h => ?_⟩
    · cases h; trivial
    · cases h
  · refine ⟨fun k h => ?_, fun h => ?_⟩
    · cases h
    · trivial
  · refine ⟨fun k h => ?_, fun h => ?_⟩
    · cases h
    · cases h

section
variable {P : Program} {kt : TypeId} {s : KSort}
theorem run_partInt {e : TypeId} {q : IntKind} (he : P.underlying e = some (.int q)) (w : World) (cs : Array Value) (o : Nat) {v : Value} (hv : cs[o]? = some v) : (part e cs o).run P w = .ok v w := by
  have _pin := (inferInstance : Pins)
  simp [part, isAgg, Sem.run_bind, run_underlying he, hv]
theorem run_equalPair {e : TypeId} {q : IntKind} (h : P.underlying kt = some (.array 2 e)) (he : P.underlying e = some (.int q)) (h1 : (P.info? e).map (·.size) = some 1) (w : World) (a b c d : Int) :
    (Op.equal kt (.agg #[.int q a, .int q b]) (.agg #[.int q c, .int q d])).run P w = .ok (decide (a = c ∧ b = d)) w := by
  have _pin := (inferInstance : Pins)
  have p0 : ∀ x y : Int, (part e #[.int q x, .int q y] 0).run P w = .ok (.int q x) w := fun x y => run_partInt he w _ 0 rfl
  have p1 : ∀ x y : Int, (part e #[.int q x, .int q y] 1).run P w = .ok (.int q y) w := fun x y => run_partInt he w _ 1 rfl
  have z0 : (sizeOf e).run P w = .ok 1 w := size_of h1
  have e0 : ∀ x y : Int, (Op.equalIn 9999 e (.int q x) (.int q y)).run P w = .ok (x == y) w := fun x y => run_equalIn_int w 9998 e q q x y he
  unfold Op.equal Op.maxDepth
  rw [show (10000 : Nat) = 9999 + 1 from rfl, Op.equalIn]
  simp only [Sem.run_bind, run_underlying h, Result.andThen_ok, size_of h1]
  simp only [Std.Legacy.Range.forIn_eq_forIn_range', Std.Legacy.Range.size, Nat.sub_zero, Nat.add_sub_cancel, Nat.div_one, List.range'_succ, List.range'_zero, List.forIn_cons, List.forIn_nil]
  simp [Sem.run_bind, Result.andThen, p0, p1, z0, e0]
  by_cases g1 : a = c <;> by_cases g2 : b = d <;> simp [g1, g2, Sem.run_bind, Result.andThen, p0, p1, z0, e0]
theorem run_checkKeyK (hf : KFit P kt s) {v : Value} (hv : KV s v) (w : World) (em : Bool) : (Instr.checkKey em 10000 kt v).run P w = .ok () w := by
  have _pin := (inferInstance : Pins)
  cases hv with
  | int k n => cases hf with | int h => exact MapKept.run_checkKey h (by trivial) em 9999
  | str x => cases hf with | str h => exact MapKept.run_checkKey h (by trivial) em 9999
  | pair k a b =>
    cases hf with
    | pair h he h1 =>
      rename_i e
      have p0 : ∀ x y : Int, (part e #[.int k x, .int k y] 0).run P w = .ok (.int k x) w := fun x y => run_partInt he w _ 0 rfl
      have p1 : ∀ x y : Int, (part e #[.int k x, .int k y] 1).run P w = .ok (.int k y) w := fun x y => run_partInt he w _ 1 rfl
      have z0 : (sizeOf e).run P w = .ok 1 w := size_of h1
      have c0 : ∀ x : Int, (Instr.checkKey em 9999 e (.int k x)).run P w = .ok () w := fun x => MapKept.run_checkKey he (by trivial) em 9998
      rw [show (10000 : Nat) = 9999 + 1 from rfl, Instr.checkKey]
      simp only [Sem.run_bind, run_underlying h, Result.andThen_ok, size_of h1]
      simp only [Std.Legacy.Range.forIn_eq_forIn_range', Std.Legacy.Range.size, Nat.sub_zero, Nat.add_sub_cancel, Nat.div_one, List.range'_succ, List.range'_zero, List.forIn_cons, List.forIn_nil]
      simp [Sem.run_bind, Result.andThen, p0, p1, z0, c0]
theorem run_findKeyK (hf : KFit P kt s) {x : Value} (hx : KV s x) (w : World) (es : List MapEntry) (hes : ∀ e ∈ es, KV s e.key) :
    ((Instr.findKey kt x es).run P w = .ok none w ∧ ∀ e ∈ es, e.key ≠ x) ∨ ∃ j e, (Instr.findKey kt x es).run P w = .ok (some (j, e.val)) w ∧ es[j]? = some e ∧ e.key = x := by
  have _pin := (inferInstance : Pins)
  have flat : ∀ d, P.underlying kt = some d → MapKept.IsKey d x → (∀ e ∈ es, MapKept.IsKey d e.key) → ((Instr.findKey kt x es).run P w = .ok none w ∧ ∀ e ∈ es, e.key ≠ x) ∨ ∃ j e, (Instr.findKey kt x es).run P w = .ok (some (j, e.val)) w ∧ es[j]? = some e ∧ e.key = x := by
    intro d hd hk hks
    rcases MapKept.findNow_spec hk es 0 hks with ⟨h1, h2⟩ | ⟨j, e, h1, h2, h3⟩
    · exact .inl ⟨MapKept.run_findKey hd h1, h2⟩
    · exact .inr ⟨j, e, by rw [Nat.zero_add] at h1; exact MapKept.run_findKey hd h1, h2, h3⟩
  cases hf with
  | int h => exact flat _ h (hx.isKey.1 _ rfl) (fun e he => (hes e he).isKey.1 _ rfl)
  | str h => exact flat _ h (hx.isKey.2 rfl) (fun e he => (hes e he).isKey.2 rfl)
  | pair h he h1 =>
    rename_i k e
    have hnow : ∀ (l : List MapEntry), Instr.findNow (.array 2 e) x l 0 = none ∨ l = [] := by
      intro l
      cases l with
      | nil => exact .inr rfl
      | cons a r => left; cases hx; simp [Instr.findNow, Instr.sameNow]
    have hask : ∀ (l : List MapEntry) (i : Nat), (∀ e ∈ l, KV (.pair k) e.key) → ((Instr.findAsking kt x l i).run P w = .ok none w ∧ ∀ e ∈ l, e.key ≠ x) ∨ ∃ j e, (Instr.findAsking kt x l i).run P w = .ok (some (i + j, e.val)) w ∧ l[j]? = some e ∧ e.key = x := by
      intro l
      induction l with
      | nil => intro i _; exact .inl ⟨rfl, fun e he => by cases he⟩
      | cons y r ih =>
        intro i hl
        obtain ⟨yk, yv, yb⟩ := y
        have hy : KV (.pair k) yk := hl _ (List.mem_cons_self ..)
        cases hx with
        | pair _ a b =>
          cases hy with
          | pair _ c d =>
            have heq := run_equalPair (P := P) h he h1 w a b c d
            by_cases hac : a = c ∧ b = d
            · obtain ⟨rfl, rfl⟩ := hac
              exact .inr ⟨0, _, by simp [Instr.findAsking, Sem.run_bind, heq, Result.andThen], rfl, rfl⟩
            · have hne : (Value.agg #[.int k c, .int k d]) ≠ .agg #[.int k a, .int k b] := by
                intro q; simp at q; exact hac ⟨q.1.symm, q.2.symm⟩
              rcases ih (i + 1) (fun e he => hl e (List.mem_cons_of_mem _ he)) with ⟨g1, g2⟩ | ⟨j, e', g1, g2, g3⟩
              · refine .inl ⟨by simp [Instr.findAsking, Sem.run_bind, heq, Result.andThen, hac, g1], fun e he => ?_⟩
                rcases List.mem_cons.1 he with rfl | he
                · exact hne
                · exact g2 e he
              · exact .inr ⟨j + 1, e', by simp [Instr.findAsking, Sem.run_bind, heq, Result.andThen, hac, g1]; omega, by simpa using g2, g3⟩
    have hrun : (Instr.findKey kt x es).run P w = (Instr.findAsking kt x es 0).run P w := by
      rcases hnow es with hn | rfl
      · simp [Instr.findKey, Sem.run_bind, run_underlying h, Result.andThen, hn]
      · simp [Instr.findKey, Sem.run_bind, run_underlying h, Result.andThen, Instr.findNow, Instr.findAsking]
    rw [hrun]
    rcases hask es 0 hes with h2 | ⟨j, e', g1, g2, g3⟩
    · exact .inl h2
    · exact .inr ⟨j, e', by rw [Nat.zero_add] at g1; exact g1, g2, g3⟩
theorem sameBitsK {v : Value} (hv : KV s v) : Instr.sameBits 10000 v v = true := by
  have _pin := (inferInstance : Pins)
  cases hv with
  | int => simp [Instr.sameBits]
  | str => simp [Instr.sameBits]; exact (MapKept.bytes_beq _ _).2 rfl
  | pair => rw [show (10000 : Nat) = 9998 + 1 + 1 from rfl]; simp [Instr.sameBits]
theorem run_staysK {v : Value} (hv : KV s v) (w : World) : (Instr.keyThatStays v v).run P w = .ok v w := by
  have _pin := (inferInstance : Pins)
  simp [Instr.keyThatStays, sameBitsK hv]
end

/-- Keys, told. -/
def keyOK : KSort → AV → Bool
  | .int .i64, .int .i64 _ => true
  | .str, .str _ => true
  | .pair .i64, .agg [.int .i64 _, .int .i64 _] => true
  | _, _ => false
theorem key_spec {s : KSort} {x : AV} (h : keyOK s x = true) : ∃ u : Value, KV s u ∧ (∀ (w : World) (S : Nat → Prop) (σ : Nat → Option Blk) (v : Value), VR w S σ x v → v = u) ∧ (∀ y : AV, keyOK s y = true → ∀ (w : World) (S : Nat → Prop) (σ : Nat → Option Blk), VR w S σ y u → y = x) := by
  have _pin := (inferInstance : Pins)
  unfold keyOK at h
  split at h
  · rename_i n
    refine ⟨.int .i64 n, .int _ _, fun w S σ v hv => by cases hv; rfl, fun y hy w S σ hv => ?_⟩
    unfold keyOK at hy
    split at hy <;> first | (cases hy; done) | (cases hv; rfl) | (rename_i q _; cases q; done) | (rename_i q; cases q; done) | skip
  · rename_i n
    refine ⟨strV n, .str _, fun w S σ v hv => by cases hv; rfl, fun y hy w S σ hv => ?_⟩
    unfold keyOK at hy
    split at hy <;> first | (cases hy; done) | (rename_i q _; cases q; done) | (rename_i q; cases q; done) | skip
    rename_i m _
    generalize hz : strV n = z at hv
    cases hv
    unfold strV at hz
    simp at hz
    rw [hz]
  · rename_i a b
    refine ⟨.agg #[.int .i64 a, .int .i64 b], .pair _ _ _, fun w S σ v hv => ?_, fun y hy w S σ hv => ?_⟩
    · cases hv with
      | agg _ _ vs hl hv h1 =>
        obtain ⟨l⟩ := vs
        have hl' : l.length = 2 := by simpa using hl
        match l, hl' with
        | [x, y], _ =>
          have q0 := hv 0 (by simp)
          have q1 := hv 1 (by simp)
          simp at q0 q1
          cases q0; cases q1; rfl
    · unfold keyOK at hy
      split at hy <;> first | (cases hy; done) | (rename_i q _; cases q; done) | (rename_i q; cases q; done) | skip
      cases hv with
      | agg _ _ vs hl hv h1 =>
        have q0 := hv 0 (by simp)
        have q1 := hv 1 (by simp)
        simp at q0 q1
        cases q0; cases q1; rfl
  · cases h

/-- What a map holds. -/
def mapOf (H : AHeap) : AV → Option (List AV × List AV)
  | .mp h => match H[h]? with
    | some (some o) => match o.c with
      | .mp ks vs => some (ks, vs)
      | _ => none
    | _ => none
  | .rom ks vs => some (ks, vs)
  | _ => none

theorem Rep.map {c : Ctx} {w : World} {a : Act} {σ : Nat → Option Blk} {S : Nat → Prop} {n : Nat} {fr : Fr} {H : AHeap} (hr : Rep c w a σ S n fr H) {x : AV} {v : Value} {ks vs : List AV} (hv : VR w S σ x v) (hm : mapOf H x = some (ks, vs)) :
    ∃ b es clock, v = .map (some b) ∧ w.heap[b]? = some (.map es clock) ∧ es.size = ks.length ∧ vs.length = ks.length ∧ es.toList.Pairwise (fun x y => x.key ≠ y.key) ∧ ∀ i, i < ks.length → ∃ e, es[i]? = some e ∧ VR w S σ (ks.getD i .any) e.key ∧ VR w S σ (vs.getD i .any) e.val := by
  cases hv <;> simp only [mapOf] at hm <;> try (cases hm; done)
  case mp h b hσ =>
    cases hq : H[h]? with
    | none => simp [hq] at hm
    | some oo => cases oo with
      | none => simp [hq] at hm
      | some o =>
        simp only [hq] at hm
        rcases hr.hr.live h o hq with ⟨hn, _⟩ | ⟨b', C', cur, hσ', g1, g2, g3, g4, g5, g6⟩
        · rw [hσ] at hn; cases hn
        · rw [hσ] at hσ'
          simp only [Option.some.injEq, Blk.at.injEq] at hσ'
          obtain ⟨rfl, hsz, rfl⟩ := hσ'
          cases g1 with
          | row mk _ _ hC => omega
          | map ks' vs' es clock hc _ hb hn hl hd he =>
            rw [hc] at hm
            simp only [Option.some.injEq, Prod.mk.injEq] at hm
            obtain ⟨rfl, rfl⟩ := hm
            exact ⟨b, es, clock, rfl, hb, hn, hl, hd, he⟩
  case rom ks' vs' b es clock e hS hb hn hl hd he hk hv =>
    simp only [Option.some.injEq, Prod.mk.injEq] at hm
    obtain ⟨rfl, rfl⟩ := hm
    exact ⟨b, es, clock, rfl, hb, hn, hl, hd, fun i hi => ⟨e i, he i hi, (hk i hi).mono (fun _ h => h) (fun _ _ => rfl) _ (fun _ _ h => by cases h), (hv i hi).mono (fun _ h => h) (fun _ _ => rfl) _ (fun _ _ h => by cases h)⟩⟩

section
variable {ind : Bool} {P : Program} {fn : Func} {c : Ctx} {fr : Fr} {H : AHeap} {k : List It} {d : Option Nat} {ty : TypeId} {pos : String} {after : Array Edge} {g : Option (Nat × Bool)}

theorem keys_all {w : World} {S : Nat → Prop} {σ : Nat → Option Blk} {s : KSort} {ks : List AV} {es : Array MapEntry} (hks : ∀ x ∈ ks, keyOK s x = true) (hn : es.size = ks.length) (he : ∀ i, i < ks.length → ∃ e, es[i]? = some e ∧ VR w S σ (ks.getD i .any) e.key) : ∀ e ∈ es.toList, KV s e.key := by
  have _pin := (inferInstance : Pins)
  intro e hm
  obtain ⟨i, hi, rfl⟩ := List.getElem_of_mem hm
  have hi' : i < ks.length := by simpa [hn] using hi
  obtain ⟨e', e1, e2⟩ := he i hi'
  have hmem : ks.getD i .any ∈ ks := by simp [List.getD, hi']
  obtain ⟨u, u1, u2, _⟩ := key_spec (hks _ hmem)
  have : es.toList[i] = e' := by
    have h3 : es.toList[i]? = some e' := by simpa using e1
    rw [List.getElem?_eq_getElem hi] at h3
    exact Option.some.inj h3
  rw [this, u2 _ _ _ _ e2]
  exact u1

/-- m[key], where the key is there. -/
theorem q_lookup_hit {t kt et : TypeId} {x ix : Operand} {ok : Bool} {m kk v : AV} {ks vs : List AV} {s : KSort} (ht : P.underlying t = some (.map kt et)) (hf : KFit P kt s) (hx : ev fr x = some m) (hm : mapOf H m = some (ks, vs)) (hi : ev fr ix = some kk) (hk : keyOK s kk = true) (hks : ∀ x ∈ ks, keyOK s x = true)
    (i : Nat) (h1 : ks[i]? = some kk) (h2 : vs[i]? = some v) : QOp false P fn c fr H ⟨d, .lookup t x ix ok, ty, pos, after, g⟩ (bif ok then .tup [v, .bool true] else v) := by
  intro w a σ S hr
  have e1 := hr.evAt hx
  have e2 := hr.evAt hi
  obtain ⟨b, es, clock, q1, q2, q3, q4, q5, q6⟩ := hr.map e1 hm
  obtain ⟨u, u1, u2, u3⟩ := key_spec hk
  have q7 := u2 _ _ _ _ e2
  have hil : i < ks.length := (List.getElem?_eq_some_iff.1 h1).1
  obtain ⟨e0, p1, p2, p3⟩ := q6 i hil
  have g1 : ks.getD i .any = kk := by simp [List.getD, h1]
  have g2 : vs.getD i .any = v := by simp [List.getD, h2]
  rw [g1] at p2
  rw [g2] at p3
  have p4 := u2 _ _ _ _ p2
  have hkeys := keys_all hks q3 (fun i hi => let ⟨e, a, b, _⟩ := q6 i hi; ⟨e, a, b⟩)
  have hval : ∀ w' : World, w'.heap = w.heap → (Instr.lookup t (a.eval x) (a.eval ix) ok).run P w' = .ok (if ok then .tuple #[e0.val, .bool true] else e0.val) w' := by
    intro w' hw
    have hb' : w'.heap[b]? = some (.map es clock) := by rw [hw]; exact q2
    rw [q1, q7]
    rcases run_findKeyK hf u1 w' es.toList hkeys with ⟨r1, r2⟩ | ⟨j, e', r1, r2, r3⟩
    · exact absurd p4 (r2 e0 (by have := List.mem_of_getElem? (l := es.toList) (by simpa using p1); exact this))
    · have : e' = e0 := by
        have hj := List.getElem?_eq_some_iff.1 r2
        have hi3 := List.getElem?_eq_some_iff.1 (show es.toList[i]? = some e0 by simpa using p1)
        obtain ⟨j1, j2⟩ := hj
        obtain ⟨i1, i2⟩ := hi3
        rcases Nat.lt_trichotomy i j with hlt | rfl | hlt
        · exact absurd (by rw [i2, j2, p4, r3]) (List.pairwise_iff_getElem.1 q5 i j i1 j1 hlt)
        · rw [← i2, ← j2]
        · exact absurd (by rw [i2, j2, p4, r3]) (List.pairwise_iff_getElem.1 q5 j i j1 i1 hlt)
      subst this
      simp [Instr.lookup, Sem.run_bind, run_underlying ht, Result.andThen, MapKept.run_getObj_map hb', run_checkKeyK hf u1, r1]
  refine ⟨if ok then .tuple #[e0.val, .bool true] else e0.val, ?_, fun w' hw => ?_⟩
  · cases ok with
    | false => exact p3
    | true =>
      refine .tup _ _ _ rfl (fun j hj => ?_)
      match j, hj with
      | 0, _ => exact p3
      | 1, _ => exact .bool _ _
  · have hw := hw.resolve_left (by decide)
    simp only [execOp, Sem.run_bind, hval w' hw]
    rfl
/-- .. where it is not. -/
theorem q_lookup_miss {t kt et : TypeId} {x ix : Operand} {ok : Bool} {m kk zv : AV} {ks vs : List AV} {s : KSort} {inf : TypeInfo} {z : Value} (ht : P.underlying t = some (.map kt et)) (hf : KFit P kt s) (hinf : P.info? et = some inf) (hz : inf.zero = some z) (hzv : zav z = some [zv]) (hz1 : z.cells = #[z]) (hx : ev fr x = some m) (hm : mapOf H m = some (ks, vs)) (hi : ev fr ix = some kk) (hk : keyOK s kk = true) (hks : ∀ x ∈ ks, keyOK s x = true)
    (h1 : kk ∉ ks) : QOp false P fn c fr H ⟨d, .lookup t x ix ok, ty, pos, after, g⟩ (bif ok then .tup [zv, .bool false] else zv) := by
  intro w a σ S hr
  have e1 := hr.evAt hx
  have e2 := hr.evAt hi
  obtain ⟨b, es, clock, q1, q2, q3, q4, q5, q6⟩ := hr.map e1 hm
  obtain ⟨u, u1, u2, u3⟩ := key_spec hk
  have q7 := u2 _ _ _ _ e2
  have hkeys := keys_all hks q3 (fun i hi => let ⟨e, a, b, _⟩ := q6 i hi; ⟨e, a, b⟩)
  have hno : ∀ e ∈ es.toList, e.key ≠ u := by
    intro e hm' he
    obtain ⟨i, hi', rfl⟩ := List.getElem_of_mem hm'
    have hil : i < ks.length := by simpa [q3] using hi'
    obtain ⟨e', p1, p2, _⟩ := q6 i hil
    have : es.toList[i] = e' := by
      have h3 : es.toList[i]? = some e' := by simpa using p1
      rw [List.getElem?_eq_getElem hi'] at h3
      exact Option.some.inj h3
    rw [this] at he
    rw [he] at p2
    have hmem : ks.getD i .any ∈ ks := by simp [List.getD, hil]
    have := u3 _ (hks _ hmem) _ _ _ p2
    rw [this] at hmem
    exact h1 hmem
  have hval : ∀ w' : World, w'.heap = w.heap → (Instr.lookup t (a.eval x) (a.eval ix) ok).run P w' = .ok (if ok then .tuple #[z, .bool false] else z) w' := by
    intro w' hw
    have hb' : w'.heap[b]? = some (.map es clock) := by rw [hw]; exact q2
    have hzr : (zeroValue et).run P w' = .ok z w' := by simp [zeroValue, Sem.run_bind, typeInfo, hinf, hz]
    rw [q1, q7]
    rcases run_findKeyK hf u1 w' es.toList hkeys with ⟨r1, r2⟩ | ⟨j, e', r1, r2, r3⟩
    · simp [Instr.lookup, Sem.run_bind, run_underlying ht, Result.andThen, MapKept.run_getObj_map hb', run_checkKeyK hf u1, r1, hzr]
    · exact absurd r3 (hno e' (List.mem_of_getElem? r2))
  have hzz : VR w S σ zv z := by
    have := (zav_spec (w := w) (S := S) (σ := σ) hzv).2 0 (by simp)
    rw [hz1] at this
    simpa using this.1
  refine ⟨if ok then .tuple #[z, .bool false] else z, ?_, fun w' hw => ?_⟩
  · cases ok with
    | false => exact hzz
    | true =>
      refine .tup _ _ _ rfl (fun j hj => ?_)
      match j, hj with
      | 0, _ => exact hzz
      | 1, _ => exact .bool _ _
  · have hw := hw.resolve_left (by decide)
    simp only [execOp, Sem.run_bind, hval w' hw]
    rfl

end
theorem Rep.allocL {c : Ctx} {w : World} {a : Act} {σ : Nat → Option Blk} {S : Nat → Prop} {n : Nat} {fr : Fr} {H : AHeap} (hr : Rep c w a σ S n fr H) {o : AObj} {C : Nat} {cur : Array Value} (ob : Obj) (hlen : o.c.len ≤ C) (hC : C ≤ maxLen + 1) (hcur : cur.size = C * o.c.sz) (hL : Lays (w.alloc ob) S (upσ σ H.length (.at w.heap.size o.c.sz C)) o w.heap.size cur C)
    (hc : ∀ i j, i < o.c.len → j < o.c.sz → ∃ v, cur[i * o.c.sz + j]? = some v ∧ VR w S σ (o.c.at i j) v ∧ v.oneCell' = true) :
    Rep c (w.alloc ob) a (upσ σ H.length (.at w.heap.size o.c.sz C)) S n fr (H ++ [some o]) := by
  have hold : ∀ b, b < w.heap.size → (w.alloc ob).heap[b]? = w.heap[b]? := fun b hb => Below.heap_alloc _ _ b hb
  have hext : ∀ h B, σ h = some B → upσ σ H.length (.at w.heap.size o.c.sz C) h = some B := by
    intro h B hB
    unfold upσ
    split
    · rename_i he; rw [he, hr.hr.dom _ (Nat.le_refl _)] at hB; cases hB
    · exact hB
  have hv : ∀ {x v}, VR w S σ x v → VR (w.alloc ob) S (upσ σ H.length (.at w.heap.size o.c.sz C)) x v :=
    fun h => h.mono (fun _ h => h) (fun b hb => hold b (hr.hr.small b hb)) _ hext
  have hset : ∀ h' o', (H ++ [some o])[h']? = some (some o') → (h' = H.length ∧ o' = o) ∨ (h' < H.length ∧ H[h']? = some (some o')) := by
    intro h' o' ho
    by_cases he : h' < H.length
    · rw [List.getElem?_append_left he] at ho; exact .inr ⟨he, ho⟩
    · by_cases he2 : h' = H.length
      · subst he2; simp at ho; exact .inl ⟨rfl, ho.symm⟩
      · have : (H ++ [some o]).length ≤ h' := by simp; omega
        rw [List.getElem?_eq_none this] at ho; cases ho
  have hσlt : ∀ h o' b s C', h < H.length → H[h]? = some (some o') → σ h = some (.at b s C') → b < w.heap.size := by
    intro h o' b s C' _ ho hb
    obtain ⟨_, cu, g, _⟩ := hr.obj ho hb
    exact g.lt
  refine ⟨⟨?_, ?_, fun b hb => by have := hr.hr.small b hb; simp; omega, fun h hl => ?_⟩, ?_, hr.defers, hr.size, fun t v hl => ⟨(hr.slots t v hl).1, hv (hr.slots t v hl).2⟩⟩
  · intro h' o' ho
    rcases hset h' o' ho with ⟨rfl, rfl⟩ | ⟨hlt, ho'⟩
    · right
      refine ⟨w.heap.size, C, cur, by simp [upσ], hL, hcur, hC, hlen, fun hs => Nat.lt_irrefl _ (hr.hr.small _ hs), fun i j hi hj => ?_⟩
      obtain ⟨v, e1, e2, e3⟩ := hc i j hi hj
      exact ⟨v, e1, hv e2, e3⟩
    · rcases hr.hr.live h' o' ho' with ⟨hn, hl0⟩ | ⟨b', C', cu, g1, g2, g3, g4, g5, g6, g7⟩
      · exact .inl ⟨hext _ _ hn, hl0⟩
      · right
        refine ⟨b', C', cu, hext _ _ g1, g2.mono (hold b' g2.lt) hv, g3, g4, g5, g6, fun i j hi hj => ?_⟩
        obtain ⟨v, e1, e2, e3⟩ := g7 i j hi hj
        exact ⟨v, e1, hv e2, e3⟩
  · intro h1 h2 o1 o2 b s1 C1 s2 C2 g1 g2 e1 e2
    rcases hset h1 o1 g1 with ⟨rfl, rfl⟩ | ⟨l1, g1'⟩ <;> rcases hset h2 o2 g2 with ⟨rfl, rfl⟩ | ⟨l2, g2'⟩
    · rfl
    · simp only [upσ, if_true, Option.some.injEq, Blk.at.injEq] at e1
      simp only [upσ, Nat.ne_of_lt l2, if_false] at e2
      have := hσlt h2 o2 b s2 C2 l2 g2' e2
      omega
    · simp only [upσ, if_true, Option.some.injEq, Blk.at.injEq] at e2
      simp only [upσ, Nat.ne_of_lt l1, if_false] at e1
      have := hσlt h1 o1 b s1 C1 l1 g1' e1
      omega
    · simp only [upσ, Nat.ne_of_lt l1, Nat.ne_of_lt l2, if_false] at e1 e2
      exact hr.hr.dist h1 h2 o1 o2 b s1 C1 s2 C2 g1' g2' e1 e2
  · simp only [List.length_append, List.length_cons, List.length_nil] at hl
    have : ¬ h = H.length := by omega
    simp only [upσ, this, if_false]
    exact hr.hr.dom h (by omega)
  · refine ⟨hr.kp.os, hr.kp.output, hr.kp.tape, by have := hr.kp.size; simp; omega, fun b hb ho => ?_, hr.kp.S1, hr.kp.S2, fun h hf => ?_, fun h hf => by have := hr.kp.fixlt h hf; simp; omega, ?_⟩
    · rw [hold b (by have := hr.kp.size; omega)]; exact hr.kp.block b hb ho
    · have := hr.kp.fixlt h hf
      have h2 : ¬ h = H.length := by omega
      simp only [upσ, h2, if_false]
      exact hr.kp.fixed h hf
    · intro h' o' b s C' ho hb
      rcases hset h' o' ho with ⟨rfl, rfl⟩ | ⟨hlt, ho'⟩
      · simp only [upσ, if_true, Option.some.injEq, Blk.at.injEq] at hb
        have := hr.kp.size
        omega
      · simp only [upσ, Nat.ne_of_lt hlt, if_false] at hb
        exact hr.kp.own h' o' b s C' ho' hb
theorem Rep.reobj {c : Ctx} {w : World} {a : Act} {σ : Nat → Option Blk} {S : Nat → Prop} {n : Nat} {fr : Fr} {H : AHeap} (hr : Rep c w a σ S n fr H) {h b s C : Nat} {o : AObj} (hh : H[h]? = some (some o)) (hσ : σ h = some (.at b s C))
    {c' : Cells} {cur' : Array Value} (w' : World) (hos : w'.os = w.os) (hout : w'.output = w.output) (htape : w'.tape = w.tape) (hsize : w'.heap.size = w.heap.size) (hoth : ∀ b', b' ≠ b → w'.heap[b']? = w.heap[b']?) (hsz : c'.sz = o.c.sz) (hlen : c'.len ≤ C) (hcur : cur'.size = C * o.c.sz)
    (hc : ∀ i j, i < c'.len → j < c'.sz → ∃ v, cur'[i * c'.sz + j]? = some v ∧ VR w S σ (c'.at i j) v ∧ v.oneCell' = true) (hL : Lays w' S σ ⟨o.ty, c'⟩ b cur' C) :
    Rep c w' a σ S n fr (H.set h (some ⟨o.ty, c'⟩)) := by
  obtain ⟨hs, cur, h1, h2, h3, h4, h5, h6⟩ := hr.obj hh hσ
  have hlt : h < H.length := (List.getElem?_eq_some_iff.1 hh).1
  have hS : ∀ b', S b' → w'.heap[b']? = w.heap[b']? := fun b' hb => hoth b' (fun e => h5 (e ▸ hb))
  have hv : ∀ {σ' : Nat → Option Blk} {x v}, VR w S σ' x v → VR w' S σ' x v := fun h => h.mono (fun _ h => h) hS _ (fun _ _ h => h)
  have hset : ∀ h' o', (H.set h (some ⟨o.ty, c'⟩))[h']? = some (some o') → (h' = h ∧ o' = ⟨o.ty, c'⟩) ∨ (h' ≠ h ∧ H[h']? = some (some o')) := by
    intro h' o' ho
    by_cases he : h' = h
    · subst he
      simp only [List.getElem?_set_self hlt, Option.some.injEq] at ho
      exact .inl ⟨rfl, ho.symm⟩
    · rw [List.getElem?_set_ne (Ne.symm he)] at ho
      exact .inr ⟨he, ho⟩
  have hown := hr.kp.own h o b s C hh hσ
  refine ⟨⟨?_, ?_, fun b' hb => by rw [hsize]; exact hr.hr.small b' hb, fun h' hl => hr.hr.dom h' (by simpa using hl)⟩, ?_, hr.defers, hr.size, fun t v hl => ⟨(hr.slots t v hl).1, hv (hr.slots t v hl).2⟩⟩
  · intro h' o' ho
    rcases hset h' o' ho with ⟨rfl, rfl⟩ | ⟨hne, ho'⟩
    · right
      refine ⟨b, C, cur', ?_, hL, by simpa [hsz] using hcur, h3, hlen, h5, fun i j hi hj => ?_⟩
      · rw [hσ, hs, hsz]
      · obtain ⟨v, e1, e2, e3⟩ := hc i j hi hj
        exact ⟨v, e1, hv e2, e3⟩
    · rcases hr.hr.live h' o' ho' with hn | ⟨b', C', cu, g1, g2, g3, g4, g5, g6, g7⟩
      · exact .inl hn
      · right
        have hbb : b' ≠ b := fun e => hne (hr.hr.dist h' h o' o b' o'.c.sz C' s C ho' hh g1 (by rw [hσ, e]))
        refine ⟨b', C', cu, g1, g2.mono (hoth b' hbb) hv, g3, g4, g5, g6, fun i j hi hj => ?_⟩
        obtain ⟨v, e1, e2, e3⟩ := g7 i j hi hj
        exact ⟨v, e1, hv e2, e3⟩
  · intro h1' h2' o1 o2 b' s1 C1 s2 C2 g1 g2 e1 e2
    have t1 : ∃ o, H[h1']? = some (some o) := by
      rcases hset h1' o1 g1 with ⟨rfl, _⟩ | ⟨_, g⟩
      · exact ⟨_, hh⟩
      · exact ⟨_, g⟩
    have t2 : ∃ o, H[h2']? = some (some o) := by
      rcases hset h2' o2 g2 with ⟨rfl, _⟩ | ⟨_, g⟩
      · exact ⟨_, hh⟩
      · exact ⟨_, g⟩
    obtain ⟨_, t1⟩ := t1
    obtain ⟨_, t2⟩ := t2
    exact hr.hr.dist h1' h2' _ _ b' s1 C1 s2 C2 t1 t2 e1 e2
  · refine ⟨hos.trans hr.kp.os, hout.trans hr.kp.output, htape.trans hr.kp.tape, by rw [hsize]; exact hr.kp.size, fun b' hb ho => ?_, hr.kp.S1, hr.kp.S2, hr.kp.fixed, fun h' hf => by simpa using hr.kp.fixlt h' hf, ?_⟩
    · have hbb : b' ≠ b := by
        rintro rfl
        rcases hown with h | h
        · exact ho h
        · omega
      rw [hoth b' hbb]
      exact hr.kp.block b' hb ho
    · intro h' o' b' s' C' ho hb
      rcases hset h' o' ho with ⟨rfl, _⟩ | ⟨_, g⟩
      · exact hr.kp.own _ _ b' s' C' hh hb
      · exact hr.kp.own h' o' b' s' C' g hb


section
variable {ind : Bool} {P : Program} {fn : Func} {c : Ctx} {fr : Fr} {H : AHeap} {k : List It} {d : Option Nat} {ty : TypeId} {pos : String} {after : Array Edge} {g : Option (Nat × Bool)}
/-- A new map. -/
theorem ax_makemap {all : Array Oper} {d : Nat} {t : TypeId} {rest : List Oper} (hk : Ax P fn c (.ops false all rest k) ((d, .mp H.length) :: fr) (H ++ [some ⟨t, .mp [] []⟩])) : Ax P fn c (.ops false all (⟨some d, .makeMap t none, ty, pos, after, none⟩ :: rest) k) fr H := by
  refine ax_w (fun w a σ S hr => ?_) hk
  have hrun : (execOp a.eval ⟨some d, .makeMap t none, ty, pos, after, none⟩).run P w = .ok (.value (.map (some w.heap.size))) (w.alloc (.map #[] 0)) := by
    simp [execOp, Instr.makeMap, Sem.run_bind, newObj, Sem.run, Result.andThen]
  refine ⟨_, _, _, S, hrun, hr.allocL (o := ⟨t, .mp [] []⟩) (C := maxLen + 1) (cur := #[]) (.map #[] 0) (Nat.zero_le _) (Nat.le_refl _) rfl (.map [] [] #[] 0 rfl rfl (MapKept.heap_alloc w _).1 rfl rfl (by simp) (fun i hi => absurd hi (Nat.not_lt_zero _))) (fun i j hi => absurd hi (Nat.not_lt_zero _)), ?_⟩
  exact .mp _ _ _ (by simp [upσ, Cells.sz])

theorem Rep.own_map {w : World} {a : Act} {σ : Nat → Option Blk} {S : Nat → Prop} {n : Nat} (hr : Rep c w a σ S n fr H) {h : Nat} {x : Value} {t : TypeId} {ks vs : List AV} (hv : VR w S σ (.mp h) x) (hh : H[h]? = some (some ⟨t, .mp ks vs⟩)) :
    ∃ b es clock, x = .map (some b) ∧ σ h = some (.at b 0 (maxLen + 1)) ∧ w.heap[b]? = some (.map es clock) ∧ es.size = ks.length ∧ vs.length = ks.length ∧ es.toList.Pairwise (fun x y => x.key ≠ y.key) ∧ ∀ i, i < ks.length → ∃ e, es[i]? = some e ∧ VR w S σ (ks.getD i .any) e.key ∧ VR w S σ (vs.getD i .any) e.val := by
  have hσ : ∃ b, x = .map (some b) ∧ σ h = some (.at b 0 (maxLen + 1)) := by cases hv with | mp _ _ b hσ => exact ⟨b, rfl, hσ⟩
  obtain ⟨b, rfl, hσ⟩ := hσ
  obtain ⟨b2, es, clock, q1, q2⟩ := hr.map (ks := ks) (vs := vs) hv (by simp only [mapOf, hh])
  simp at q1
  subst q1
  exact ⟨_, es, clock, rfl, hσ, q2⟩

theorem find_at {es : Array MapEntry} {u : Value} {i j : Nat} {e e' : MapEntry} (hd : es.toList.Pairwise (fun x y => x.key ≠ y.key)) (h1 : es[i]? = some e) (h2 : e.key = u) (h3 : es.toList[j]? = some e') (h4 : e'.key = u) : i = j := by
  have _pin := (inferInstance : Pins)
  obtain ⟨j1, j2⟩ := List.getElem?_eq_some_iff.1 h3
  obtain ⟨i1, i2⟩ := List.getElem?_eq_some_iff.1 (show es.toList[i]? = some e by simpa using h1)
  rcases Nat.lt_trichotomy i j with hlt | rfl | hlt
  · exact absurd (by rw [i2, j2, h2, h4]) (List.pairwise_iff_getElem.1 hd i j i1 j1 hlt)
  · rfl
  · exact absurd (by rw [i2, j2, h2, h4]) (List.pairwise_iff_getElem.1 hd j i j1 i1 hlt)

/-- m[key] = v, where the key is there. -/
theorem ax_mapset_hit {all : Array Oper} {t kt et t' : TypeId} {x ix y : Operand} {rest : List Oper} {h : Nat} {kk v : AV} {ks vs : List AV} {s : KSort} (ht : P.underlying t = some (.map kt et)) (hf : KFit P kt s) (hx : ev fr x = some (.mp h)) (hh : H[h]? = some (some ⟨t', .mp ks vs⟩)) (hi : ev fr ix = some kk) (hy : ev fr y = some v) (hk : keyOK s kk = true) (hks : ∀ x ∈ ks, keyOK s x = true)
    (i : Nat) (h1 : ks[i]? = some kk) (hk' : Ax P fn c (.ops false all rest k) fr (H.set h (some ⟨t', .mp ks (vs.set i v)⟩))) : Ax P fn c (.ops false all (⟨none, .mapUpdate t x ix y, ty, pos, after, none⟩ :: rest) k) fr H := by
  refine ax_w0 (fun w a σ S hr => ?_) hk'
  have e1 := hr.evAt hx
  have e2 := hr.evAt hi
  have e3 := hr.evAt hy
  obtain ⟨b, es, clock, q1, hσ, q2, q3, q4, q5, q6⟩ := hr.own_map e1 hh
  obtain ⟨u, u1, u2, u3⟩ := key_spec hk
  have q7 := u2 _ _ _ _ e2
  have hil : i < ks.length := (List.getElem?_eq_some_iff.1 h1).1
  obtain ⟨e0, p1, p2, p3⟩ := q6 i hil
  have g1 : ks.getD i .any = kk := by simp [List.getD, h1]
  rw [g1] at p2
  have p4 := u2 _ _ _ _ p2
  have hkeys := keys_all hks q3 (fun i hi => let ⟨e, a, b, _⟩ := q6 i hi; ⟨e, a, b⟩)
  have hie : i < es.size := by omega
  have hrun : (Instr.mapUpdate t (a.eval x) (a.eval ix) (a.eval y)).run P w = .ok () { w with heap := w.heap.setIfInBounds b (.map (es.modify i fun e => { e with key := u, val := a.eval y }) clock) } := by
    rw [q1, q7]
    rcases run_findKeyK hf u1 w es.toList hkeys with ⟨r1, r2⟩ | ⟨j, e', r1, r2, r3⟩
    · exact absurd p4 (r2 e0 (List.mem_of_getElem? (l := es.toList) (by simpa using p1)))
    · have hij := find_at q5 p1 p4 r2 r3
      subst hij
      have : ((es[i]?).map (·.key)).getD u = u := by rw [p1]; simpa using p4
      simp only [Instr.mapUpdate, Sem.run_bind, run_underlying ht, Result.andThen_ok, MapKept.run_getObj_map q2, run_checkKeyK hf u1, r1, this, run_staysK u1, MapKept.run_setObj_map _ q2]
  have hset := MapKept.heap_set (o' := .map (es.modify i fun e => { e with key := u, val := a.eval y }) clock) q2
  generalize hw' : ({ w with heap := w.heap.setIfInBounds b (.map (es.modify i fun e => { e with key := u, val := a.eval y }) clock) } : World) = w' at hrun
  have hwh : w'.heap = w.heap.setIfInBounds b (.map (es.modify i fun e => { e with key := u, val := a.eval y }) clock) := by rw [← hw']
  have hnS : ¬ S b := (hr.obj hh hσ).2.choose_spec.2.2.2.2.1
  have hoth : ∀ b', b' ≠ b → w'.heap[b']? = w.heap[b']? := fun b' hb => by rw [hwh]; exact hset.2 b' hb
  have hv : ∀ {x v}, VR w S σ x v → VR w' S σ x v := fun hv => hv.mono (fun _ h => h) (fun b' hb => hoth b' (fun e => hnS (e ▸ hb))) _ (fun _ _ h => h)
  have hkey : ∀ (j : Nat) (e : MapEntry), es[j]? = some e → (if j = i then ({ e with key := u, val := a.eval y } : MapEntry) else e).key = e.key := by
    intro j e hj
    split
    · rename_i hji; subst hji; rw [p1] at hj; cases hj; exact p4.symm
    · rfl
  have hmod : ∀ j : Nat, (es.modify i fun e => { e with key := u, val := a.eval y })[j]? = (es[j]?).map (fun e => if j = i then ({ e with key := u, val := a.eval y } : MapEntry) else e) := by
    intro j
    rw [Array.getElem?_modify]
    by_cases hij : i = j
    · subst hij; simp
    · have : ¬ j = i := fun e => hij e.symm
      simp [hij, this]
  refine ⟨w', σ, S, by simp only [execOp, Sem.run_bind, hrun]; rfl, hr.reobj (o := ⟨t', .mp ks vs⟩) hh hσ (c' := .mp ks (vs.set i v)) (cur' := #[]) w' (by rw [← hw']) (by rw [← hw']) (by rw [← hw']) (by rw [hwh]; simp) hoth rfl (Nat.zero_le _) rfl (fun i j hi => absurd hi (Nat.not_lt_zero _))
    (.map ks (vs.set i v) _ clock rfl rfl (by rw [hwh]; exact hset.1) (by simpa using q3) (by simpa using q4) ?_ (fun j hj => ?_))⟩
  · rw [List.pairwise_iff_getElem] at q5 ⊢
    intro a1 b1 ha hb hab
    have hsz : (es.modify i fun e => { e with key := u, val := a.eval y }).toList.length = es.toList.length := by simp
    have ka : ∀ (j : Nat) (hj : j < (es.modify i fun e => { e with key := u, val := a.eval y }).toList.length) (hj2 : j < es.toList.length), ((es.modify i fun e => { e with key := u, val := a.eval y }).toList[j]).key = (es.toList[j]).key := by
      intro j hj hj2
      have h5 := hmod j
      have hj3 : es[j]? = some (es.toList[j]) := by
        have h8 : es.toList[j]? = some (es.toList[j]) := List.getElem?_eq_getElem hj2
        rw [Array.getElem?_toList] at h8
        exact h8
      rw [hj3] at h5
      simp only [Option.map_some] at h5
      have h6 : (es.modify i fun e => { e with key := u, val := a.eval y }).toList[j]? = some ((es.modify i fun e => { e with key := u, val := a.eval y }).toList[j]) := List.getElem?_eq_getElem hj
      have h7 : (es.modify i fun e => { e with key := u, val := a.eval y }).toList[j]? = some (if j = i then ({ es.toList[j] with key := u, val := a.eval y } : MapEntry) else es.toList[j]) := by
        rw [Array.getElem?_toList]; exact h5
      rw [h6] at h7
      rw [Option.some.inj h7]
      exact hkey j _ hj3
    rw [ka a1 ha (by omega), ka b1 hb (by omega)]
    exact q5 a1 b1 (by omega) (by omega) hab
  · obtain ⟨e, r1, r2, r3⟩ := q6 j hj
    refine ⟨if j = i then ({ e with key := u, val := a.eval y } : MapEntry) else e, by rw [hmod j, r1]; rfl, ?_, ?_⟩
    · rw [hkey j e r1]; exact hv r2
    · by_cases hji : j = i
      · subst hji
        simp only [if_true]
        have : (vs.set j v).getD j .any = v := by simp [List.getD, show j < vs.length by omega]
        rw [this]; exact hv e3
      · simp only [hji, if_false]
        have : (vs.set i v).getD j .any = vs.getD j .any := by simp [List.getD, List.getElem?_set_ne (Ne.symm hji)]
        rw [this]; exact hv r3
/-- .. where it is not. -/
theorem ax_mapset_miss {all : Array Oper} {t kt et t' : TypeId} {x ix y : Operand} {rest : List Oper} {h : Nat} {kk v : AV} {ks vs : List AV} {s : KSort} (ht : P.underlying t = some (.map kt et)) (hf : KFit P kt s) (hx : ev fr x = some (.mp h)) (hh : H[h]? = some (some ⟨t', .mp ks vs⟩)) (hi : ev fr ix = some kk) (hy : ev fr y = some v) (hk : keyOK s kk = true) (hks : ∀ x ∈ ks, keyOK s x = true)
    (h1 : kk ∉ ks) (hk' : Ax P fn c (.ops false all rest k) fr (H.set h (some ⟨t', .mp (ks ++ [kk]) (vs ++ [v])⟩))) : Ax P fn c (.ops false all (⟨none, .mapUpdate t x ix y, ty, pos, after, none⟩ :: rest) k) fr H := by
  refine ax_w0 (fun w a σ S hr => ?_) hk'
  have e1 := hr.evAt hx
  have e2 := hr.evAt hi
  have e3 := hr.evAt hy
  obtain ⟨b, es, clock, q1, hσ, q2, q3, q4, q5, q6⟩ := hr.own_map e1 hh
  obtain ⟨u, u1, u2, u3⟩ := key_spec hk
  have q7 := u2 _ _ _ _ e2
  have hkeys := keys_all hks q3 (fun i hi => let ⟨e, a, b, _⟩ := q6 i hi; ⟨e, a, b⟩)
  have hno : ∀ e ∈ es.toList, e.key ≠ u := by
    intro e hm' he
    obtain ⟨i, hi', rfl⟩ := List.getElem_of_mem hm'
    have hil : i < ks.length := by simpa [q3] using hi'
    obtain ⟨e', p1, p2, _⟩ := q6 i hil
    have : es.toList[i] = e' := by
      have h3 : es.toList[i]? = some e' := by simpa using p1
      rw [List.getElem?_eq_getElem hi'] at h3
      exact Option.some.inj h3
    rw [this] at he
    rw [he] at p2
    have hmem : ks.getD i .any ∈ ks := by simp [List.getD, hil]
    have := u3 _ (hks _ hmem) _ _ _ p2
    rw [this] at hmem
    exact h1 hmem
  have hrun : (Instr.mapUpdate t (a.eval x) (a.eval ix) (a.eval y)).run P w = .ok () { w with heap := w.heap.setIfInBounds b (.map (es.push { key := u, val := a.eval y, born := clock }) (clock + 1)) } := by
    rw [q1, q7]
    rcases run_findKeyK hf u1 w es.toList hkeys with ⟨r1, r2⟩ | ⟨j, e', r1, r2, r3⟩
    · simp only [Instr.mapUpdate, Sem.run_bind, run_underlying ht, Result.andThen_ok, MapKept.run_getObj_map q2, run_checkKeyK hf u1, r1, MapKept.run_setObj_map _ q2]
    · exact absurd r3 (hno e' (List.mem_of_getElem? r2))
  have hset := MapKept.heap_set (o' := .map (es.push { key := u, val := a.eval y, born := clock }) (clock + 1)) q2
  generalize hw' : ({ w with heap := w.heap.setIfInBounds b (.map (es.push { key := u, val := a.eval y, born := clock }) (clock + 1)) } : World) = w' at hrun
  have hwh : w'.heap = w.heap.setIfInBounds b (.map (es.push { key := u, val := a.eval y, born := clock }) (clock + 1)) := by rw [← hw']
  have hnS : ¬ S b := (hr.obj hh hσ).2.choose_spec.2.2.2.2.1
  have hoth : ∀ b', b' ≠ b → w'.heap[b']? = w.heap[b']? := fun b' hb => by rw [hwh]; exact hset.2 b' hb
  have hv : ∀ {x v}, VR w S σ x v → VR w' S σ x v := fun hv => hv.mono (fun _ h => h) (fun b' hb => hoth b' (fun e => hnS (e ▸ hb))) _ (fun _ _ h => h)
  refine ⟨w', σ, S, by simp only [execOp, Sem.run_bind, hrun]; rfl, hr.reobj (o := ⟨t', .mp ks vs⟩) hh hσ (c' := .mp (ks ++ [kk]) (vs ++ [v])) (cur' := #[]) w' (by rw [← hw']) (by rw [← hw']) (by rw [← hw']) (by rw [hwh]; simp) hoth rfl (Nat.zero_le _) rfl (fun i j hi => absurd hi (Nat.not_lt_zero _))
    (.map _ _ _ (clock + 1) rfl rfl (by rw [hwh]; exact hset.1) (by simp [q3]) (by simp [q4]) ?_ (fun j hj => ?_))⟩
  · rw [Array.toList_push, List.pairwise_append]
    exact ⟨q5, by simp, fun x hx y hy => by simp at hy; subst hy; exact hno x hx⟩
  · simp only [List.length_append, List.length_cons, List.length_nil] at hj
    by_cases hl : j < ks.length
    · obtain ⟨e, r1, r2, r3⟩ := q6 j hl
      refine ⟨e, by rw [Array.getElem?_push, if_neg (by omega)]; exact r1, ?_, ?_⟩
      · have : (ks ++ [kk]).getD j .any = ks.getD j .any := by simp [List.getD, List.getElem?_append_left hl]
        rw [this]; exact hv r2
      · have : (vs ++ [v]).getD j .any = vs.getD j .any := by simp [List.getD, List.getElem?_append_left (show j < vs.length by omega)]
        rw [this]; exact hv r3
    · have hje : j = es.size := by omega
      refine ⟨{ key := u, val := a.eval y, born := clock }, by rw [Array.getElem?_push, if_pos hje], ?_, ?_⟩
      · have : (ks ++ [kk]).getD j .any = kk := by simp [List.getD, hje, q3]
        rw [this]
        have := hv e2
        rw [q7] at this
        exact this
      · have : (vs ++ [v]).getD j .any = v := by simp [List.getD, hje, q3, ← q4]
        rw [this]; exact hv e3
end
end Go.Ax

/-
  Rules: a string's bytes as a row of one's own, and back.
-/
namespace Go.Ax
variable [Pins]
open Go.RowKit

def bytesI (s : List UInt8) : List Int := s.map (fun b => (b.toNat : Int))
theorem bytesI_get (s : List UInt8) (i : Nat) : (bytesI s).getD i 0 = ((s.getD i 0).toNat : Nat) := by
  have _pin := (inferInstance : Pins)
  unfold bytesI
  by_cases h : i < s.length
  · simp [List.getD, h]
  · simp [List.getD, h]
section
variable {ind : Bool} {P : Program} {fn : Func} {c : Ctx} {fr : Fr} {H : AHeap} {k : List It}
theorem ax_bytesof {all : Array Oper} {d : Nat} {src dst e : TypeId} {x : Operand} {ty : TypeId} {pos : String} {after : Array Edge} {rest : List Oper} {s : List UInt8} (hs : P.underlying src = some .string) (hd : P.underlying dst = some (.slice e)) (he : P.underlying e = some (.int .u8)) (hx : ev fr x = some (.str s)) (hl : s.length ≤ maxLen)
    (hk : Ax P fn c (.ops false all rest k) ((d, .sl H.length 0 s.length) :: fr) (H ++ [some ⟨e, .ints .u8 (bytesI s)⟩])) : Ax P fn c (.ops false all (⟨some d, .convert src dst x, ty, pos, after, none⟩ :: rest) k) fr H := by
  refine ax_w (fun w a σ S hr => ?_) hk
  have h1 := hr.evAt hx
  generalize hz : a.eval x = z at h1
  cases h1
  have hsz : (⟨s.toArray⟩ : ByteArray).size = s.length := by simp [ByteArray.size]
  have hrun := run_bytes_of_string (P := P) w src dst e ⟨s.toArray⟩ hs hd he
  rw [hsz] at hrun
  have hge := grownCap_ge w s.length 0 e
  have hle := grownCap_le_maxLen w s.length 0 e hl
  generalize grownCap w s.length 0 e = G at hrun hge hle
  generalize hrow : bytesRow ⟨s.toArray⟩ G = row at hrun
  have hrs : row.size = G := by rw [← hrow]; unfold bytesRow; simp [hsz]; omega
  have hat : ∀ i, i < s.length → row[i]? = some (.int .u8 ((s.getD i 0).toNat : Nat)) := by
    intro i hi
    rw [← hrow, bytesRow_at _ _ i (by simpa using hi)]
    simp [List.getD, hi]
  have hexec : (execOp a.eval ⟨some d, .convert src dst x, ty, pos, after, none⟩).run P w = .ok (.value (.slice (some ⟨w.heap.size, 0, none⟩) s.length G)) (w.drew.alloc (.cells row e (row.size, row.size + 1))) := by
    simp only [execOp, hz, strV, Sem.run_bind, hrun]
    rfl
  have hd : Rep c w.drew a σ S fn.ntmps fr H := hr.drewN (m := 1)
  refine ⟨_, _, _, S, hexec, hd.allocM (o := ⟨e, .ints .u8 (bytesI s)⟩) (C := G) (cur := row) (by simpa [Cells.len, bytesI] using hge) hle (by simp [Cells.sz, hrs]) (fun i j hi hj => ?_) (.inr (Nat.le_refl _)), ?_⟩
  · simp only [Cells.len, bytesI, List.length_map] at hi
    simp only [Cells.sz] at hj ⊢
    obtain rfl : j = 0 := by omega
    refine ⟨_, by rw [Nat.mul_one, Nat.add_zero]; exact hat i hi, ?_, rfl⟩
    simp only [Cells.at]
    rw [bytesI_get]
    exact .int _ _ _
  · have := VR.sl (w := w.drew.alloc (.cells row e (row.size, row.size + 1))) (S := S) (upσ σ H.length (.at w.heap.size 1 G)) H.length 0 s.length w.heap.size 1 G G (by simp [upσ]) hge (by omega)
    simpa [Cells.sz] using this
variable {d : Option Nat} {ty : TypeId} {pos : String} {after : Array Edge} {g : Option (Nat × Bool)}
/-- string(b) -/
theorem q_strof {x : Operand} {src dst e : TypeId} {v : AV} {cx : Cells} {i m : Nat} (s : List UInt8) (hs : P.underlying src = some (.slice e)) (he : P.underlying e = some (.int .u8)) (hd : P.underlying dst = some .string) (hx : ev fr x = some v) (hsrc : srcOf H v = some (cx, i, m)) (hin : i + m ≤ cx.len) (hsz : cx.sz = 1) (hl : s.length = m)
    (hc : ∀ j, j < m → cx.at (i + j) 0 = .int .u8 ((s.getD j 0).toNat : Nat)) : QOp false P fn c fr H ⟨d, .convert src dst x, ty, pos, after, g⟩ (.str s) := by
  intro w a σ S hr
  have h1 := hr.evAt hx
  have h2 := hr.src h1 hsrc (fun _ _ => hin)
  generalize hz : a.eval x = z at h1 h2
  refine ⟨strV s, .str _ s, fun w' hw => ?_⟩
  have hw := hw.resolve_left (by decide)
  unfold Src at h2
  rcases h2 with ⟨rfl, ad, cap, rfl⟩ | ⟨ad, cap, news, rfl, q1, q2, q3, q4⟩
  · obtain rfl : s = [] := List.length_eq_zero_iff.1 hl
    cases ad with
    | none =>
      simp only [execOp, hz, Sem.run_bind, convert, run_underlying hs, run_underlying he, run_underlying hd, Result.andThen_ok]
      simp [Conv.bytesToString, loadCells, loadCellsFrom, strV, Sem.run_bind, Result.andThen]
      rfl
    | some ad =>
      have := run_convert_bytes_back (P := P) w' src dst e ad cap [] hs he hd (fun j hj => by simp at hj)
      simp only [execOp, hz, Sem.run_bind]
      rw [show (0 : Nat) = ([] : List UInt8).length from rfl, this]
      rfl
  · have hcell : ∀ j (hj : j < s.length), w'.cell? (ad.add j) = some (.int .u8 (s[j].toNat : Int)) := by
      intro j hj
      obtain ⟨u, e1, e2⟩ := q4 j 0 (by omega) (by omega)
      rw [hc j (by omega)] at e2
      rw [hsz, Nat.mul_one, Nat.add_zero] at e1
      cases e2
      have h5 := q2 j _ e1
      have h6 : s.getD j 0 = s[j] := by simp [List.getD, hj]
      rw [h6] at h5
      have h7 : w'.cell? (ad.add j) = w.cell? (ad.add j) := by
        have := World.cell?_of_block (w := w) (w' := w') (a := ad.add j) (by rw [hw])
        exact this
      rw [h7]; exact h5
    subst hl
    have := run_convert_bytes_back (P := P) w' src dst e ad cap s hs he hd hcell
    simp only [execOp, hz, Sem.run_bind, this]
    rfl
end
end Go.Ax

namespace Go.Proofs.YtbeegiiiochblaaDoor
open Go.Ax Go.Ax.Tb Go.RowKit
attribute [local irreducible] Ax Post QOp ACall
set_option maxRecDepth 100000
set_option maxHeartbeats 4000000

theorem xor8 (a b : UInt8) : xorB .u8 (a.toNat : Int) (b.toNat : Int) = ((a ^^^ b).toNat : Nat) := by
  unfold xorB
  have e : ∀ x : UInt8, BitVec.ofInt (IntKind.u8).bits (x.toNat : Int) = x.toBitVec := fun x => by
    apply BitVec.eq_of_toNat_eq
    rw [BitVec.toNat_ofInt]
    have := x.toNat_lt
    show ((x.toNat : Int) % ((2 ^ 8 : Nat) : Int)).toNat = x.toNat
    omega
  rw [e, e]
  have := (a ^^^ b).toNat_lt
  show IntKind.wrap .u8 (((a.toBitVec ^^^ b.toBitVec).toNat : Nat) : Int) = _
  rw [show (a.toBitVec ^^^ b.toBitVec).toNat = (a ^^^ b).toNat from rfl]
  generalize (a ^^^ b).toNat = n at *
  show ((n : Int) % (2 ^ 8 : Int)) = _
  omega
theorem bytesI_set (s : List UInt8) (x : Nat) (d : UInt8) : (bytesI s).set x (d.toNat : Int) = bytesI (s.set x d) := by
  unfold bytesI
  rw [List.map_set]
theorem TableSpoilt_law (l : List Int) (at' by' : Int) (h : l.length ≤ 9223372036854775807) (hw : (Lit.int .u8 by').wf = true) : VCall Tryd.prog 4 [.ro (.ints .i64 l) 0 l.length, .int .i64 at', .int .u8 by'] (.bool true) := by
  obtain ⟨b, rfl⟩ : ∃ b : UInt8, by' = (b.toNat : Nat) := by
    have hw2 : 0 ≤ by' ∧ by' < 256 := by
      simp [Lit.wf] at hw
      have e1 : IntKind.u8.min = 0 := by decide
      have e2 : IntKind.u8.max = 255 := by decide
      omega
    refine ⟨UInt8.ofNat by'.toNat, ?_⟩
    have : (UInt8.ofNat by'.toNat).toNat = by'.toNat := by simp; omega
    rw [this]; omega
  refine ACall.value0 (acall_of_ax (P := Tryd.prog) (fn := Tryd.f4) rfl rfl (by kernel_rfl) rfl (fun c hR hfix => ?_)) (fix := fun _ => False) (fun _ h => h) rfl rfl
  by_cases hE : tabE l = 0
  case neg =>
    have hP := Pack_bad l h hE
    generalize tabE l = e at *
    repeat (first
      | refine ax_q (q_assign rfl) ?_
      | refine ax_ops_nil ?_
      | refine ax_post_code ?_
      | refine ax_seq ?_
      | refine ax_region rfl ?_)
    refine ax_callv rfl rfl rfl tableFact ?_
    repeat (first
      | refine ax_q (q_move rfl) ?_
      | refine ax_ops_nil ?_
      | refine ax_post_code ?_
      | refine ax_seq ?_
      | refine ax_region rfl ?_
      | refine ax_cond_false rfl ?_
      | refine ax_skip ?_
      | refine ax_q (q_not rfl) ?_)
    refine ax_callv rfl rfl rfl hP ?_
    repeat (first
      | refine ax_q (q_move rfl) ?_
      | refine ax_q (q_assign rfl) ?_
      | refine ax_ops_nil ?_
      | refine ax_post_code ?_
      | refine ax_seq ?_
      | refine ax_region rfl ?_
      | refine ax_q (q_neq rfl rfl) ?_
      | refine ax_q (q_extract rfl rfl) ?_)
    refine ax_gsplit rfl rfl (fun _ => ?_) (fun h => absurd hE h)
    repeat (first
      | refine ax_q (q_move rfl) ?_
      | refine ax_q (q_assign rfl) ?_
      | refine ax_ops_nil ?_
      | refine ax_post_code ?_
      | refine ax_seq ?_
      | refine ax_region rfl ?_
      | refine ax_skip_not rfl rfl rfl ?_
      | refine ax_cond_true rfl ?_
      | refine ax_return ?_
      | refine ax_ret_code ?_
      | refine ax_q (q_pick rfl rfl) ?_)
    exact ax_ret hR rfl rfl
  have hP := Pack_ok l hE
  have hpl := packed_len hE
  obtain ⟨hl, hx⟩ := tabE_ok hE
  have hg := unp_packed hl hx
  have hne : 0 < (packed l).length := by unfold packed; rw [List.length_append, List.length_append, List.length_singleton]; omega
  generalize packed l = s at *
  by_cases hlong : 2000 < s.length
  · repeat (first
      | refine ax_q (q_assign rfl) ?_
      | refine ax_ops_nil ?_
      | refine ax_post_code ?_
      | refine ax_seq ?_
      | refine ax_region rfl ?_)
    refine ax_callv rfl rfl rfl tableFact ?_
    repeat (first
      | refine ax_q (q_move rfl) ?_
      | refine ax_ops_nil ?_
      | refine ax_post_code ?_
      | refine ax_seq ?_
      | refine ax_region rfl ?_
      | refine ax_cond_false rfl ?_
      | refine ax_skip ?_
      | refine ax_q (q_not rfl) ?_)
    refine ax_callv rfl rfl rfl hP ?_
    repeat (first
      | refine ax_q (q_move rfl) ?_
      | refine ax_q (q_assign rfl) ?_
      | refine ax_ops_nil ?_
      | refine ax_post_code ?_
      | refine ax_seq ?_
      | refine ax_region rfl ?_
      | refine ax_guard rfl rfl ?_
      | refine ax_q (q_neq rfl rfl) ?_
      | refine ax_q (q_gtr rfl rfl) ?_
      | refine ax_q (q_pick rfl rfl) ?_
      | refine ax_q (q_extract rfl rfl) ?_
      | refine ax_q (q_lenstr rfl rfl) ?_)
    refine ax_gsplit rfl rfl (fun _ => ?_) (fun h => absurd (show (2000 : Int) < s.length by omega) h)
    repeat (first
      | refine ax_q (q_assign rfl) ?_
      | refine ax_ops_nil ?_
      | refine ax_post_code ?_
      | refine ax_seq ?_
      | refine ax_region rfl ?_
      | refine ax_skip_not rfl rfl rfl ?_
      | refine ax_cond_true rfl ?_
      | refine ax_return ?_
      | refine ax_ret_code ?_
      | refine ax_q (q_pick rfl rfl) ?_)
    exact ax_ret hR rfl rfl
  by_cases hb0 : b = 0
  · subst hb0
    repeat (first
      | refine ax_q (q_assign rfl) ?_
      | refine ax_ops_nil ?_
      | refine ax_post_code ?_
      | refine ax_seq ?_
      | refine ax_region rfl ?_)
    refine ax_callv rfl rfl rfl tableFact ?_
    repeat (first
      | refine ax_q (q_move rfl) ?_
      | refine ax_ops_nil ?_
      | refine ax_post_code ?_
      | refine ax_seq ?_
      | refine ax_region rfl ?_
      | refine ax_cond_false rfl ?_
      | refine ax_skip ?_
      | refine ax_q (q_not rfl) ?_)
    refine ax_callv rfl rfl rfl hP ?_
    repeat (first
      | refine ax_q (q_move rfl) ?_
      | refine ax_q (q_assign rfl) ?_
      | refine ax_ops_nil ?_
      | refine ax_post_code ?_
      | refine ax_seq ?_
      | refine ax_region rfl ?_
      | refine ax_guard rfl rfl ?_
      | refine ax_q (q_neq rfl rfl) ?_
      | refine ax_q (q_gtr rfl rfl) ?_
      | refine ax_q (q_pick rfl rfl) ?_
      | refine ax_q (q_extract rfl rfl) ?_
      | refine ax_q (q_lenstr rfl rfl) ?_)
    refine ax_gsplit rfl rfl (fun h => absurd (show (2000 : Int) < s.length from h) (by omega)) (fun _ => ?_)
    repeat (first
      | refine ax_q (q_move rfl) ?_
      | refine ax_q (q_assign rfl) ?_
      | refine ax_ops_nil ?_
      | refine ax_post_code ?_
      | refine ax_seq ?_
      | refine ax_region rfl ?_
      | refine ax_guard rfl rfl ?_
      | refine ax_cond_true rfl ?_
      | refine ax_return ?_
      | refine ax_ret_code ?_
      | refine ax_q (q_eql rfl rfl) ?_
      | refine ax_q (q_pick rfl rfl) ?_)
    exact ax_ret hR rfl rfl
  obtain ⟨x, hx1, hx2⟩ := pickN at' s.length ⟨by omega, by omega⟩
  have hU := Unpack_ok (s.set x (s.getD x 0 ^^^ b)) (by rw [List.length_set]; omega)
  have hsp : ∃ e, unpAll (s.set x (s.getD x 0 ^^^ b)) = .bad e ∧ e ≠ 0 := by
    have hs := fun l' => spoilt (l' := l') (k := x) (d := s.getD x 0 ^^^ b) hg hx1 (by
      rw [List.getElem?_eq_getElem hx1]
      intro q
      have q1 : s.getD x 0 = s[x] := by simp [List.getD, hx1]
      rw [q1] at q
      have q2 := Option.some.inj q
      have q3 : b.toNat = 0 := by
        have q4 := congrArg (fun z => z ^^^ s[x]) q2
        simp [UInt8.xor_comm s[x] b, UInt8.xor_assoc] at q4
        rw [← q4]; rfl
      exact hb0 (UInt8.toNat_inj.1 q3))
    cases hq : unpAll (s.set x (s.getD x 0 ^^^ b)) with
    | bad e => exact ⟨e, rfl, unpAll_bad hq⟩
    | good l' => exact absurd hq (hs l')
  obtain ⟨e, he, he0⟩ := hsp
  have hxb : x < (bytesI s).length := by simp [bytesI]; exact hx1
  rw [he] at hU
  have hU : VCall Tryd.prog 9 [.str (s.set x (s.getD x 0 ^^^ b))] (.tup [.nil, .int .i64 e]) := hU
  repeat (first
    | refine ax_q (q_assign rfl) ?_
    | refine ax_ops_nil ?_
    | refine ax_post_code ?_
    | refine ax_seq ?_
    | refine ax_region rfl ?_)
  refine ax_callv rfl rfl rfl tableFact ?_
  repeat (first
    | refine ax_q (q_move rfl) ?_
    | refine ax_ops_nil ?_
    | refine ax_post_code ?_
    | refine ax_seq ?_
    | refine ax_region rfl ?_
    | refine ax_cond_false rfl ?_
    | refine ax_skip ?_
    | refine ax_q (q_not rfl) ?_)
  refine ax_callv rfl rfl rfl hP ?_
  repeat (first
    | refine ax_q (q_move rfl) ?_
    | refine ax_q (q_assign rfl) ?_
    | refine ax_ops_nil ?_
    | refine ax_post_code ?_
    | refine ax_seq ?_
    | refine ax_region rfl ?_
    | refine ax_guard rfl rfl ?_
    | refine ax_q (q_neq rfl rfl) ?_
    | refine ax_q (q_gtr rfl rfl) ?_
    | refine ax_q (q_pick rfl rfl) ?_
    | refine ax_q (q_extract rfl rfl) ?_
    | refine ax_q (q_lenstr rfl rfl) ?_)
  refine ax_gsplit rfl rfl (fun h => absurd (show (2000 : Int) < s.length from h) (by omega)) (fun _ => ?_)
  repeat (first
    | refine ax_q (q_move rfl) ?_
    | refine ax_ops_nil ?_
    | refine ax_post_code ?_
    | refine ax_guard rfl rfl ?_
    | refine ax_q (q_eql rfl rfl) ?_
    | refine ax_q (q_pick rfl rfl) ?_)
  refine ax_cond_dec rfl (fun h => absurd (UInt8.toNat_inj.1 (by have q : ((b.toNat : Nat) : Int) = 0 := h; show b.toNat = 0; omega)) hb0) (fun _ => ?_)
  repeat (first
    | refine ax_q (q_move rfl) ?_
    | refine ax_post_code ?_
    | refine ax_seq ?_
    | refine ax_region rfl ?_
    | refine ax_skip ?_)
  refine ax_bytesof rfl rfl rfl rfl (by unfold maxLen; omega) ?_
  repeat (first
    | refine ax_q (q_move rfl) ?_
    | refine ax_q (q_assign rfl) ?_
    | refine ax_ops_nil ?_
    | refine ax_post_code ?_
    | refine ax_seq ?_
    | refine ax_region rfl ?_
    | refine ax_q (q_len rfl rfl rfl) ?_)
  refine ax_callv rfl rfl rfl hx2 ?_
  repeat (first
    | refine ax_q (q_move rfl) ?_
    | refine ax_q (q_index_sl' rfl rfl rfl rfl rfl (by first | (simp only [Nat.zero_add, Int.toNat_natCast, Int.toNat_zero]; exact rfl) | exact rfl) (by omega)) ?_
    | refine ax_q (q_loadi_ptr rfl rfl rfl rfl (by first | assumption | omega)) ?_)
  refine ax_q (q_xor rfl rfl) ?_
  repeat (first
    | refine ax_q (q_move rfl) ?_
    | refine ax_ops_nil ?_
    | refine ax_post_code ?_
    | refine ax_seq ?_
    | refine ax_region rfl ?_
    | refine ax_q (q_index_sl' rfl rfl rfl rfl rfl (by first | (simp only [Nat.zero_add, Int.toNat_natCast, Int.toNat_zero]; exact rfl) | exact rfl) (by omega)) ?_
    | refine ax_store rfl rfl rfl rfl rfl rfl rfl (by first | assumption | (show _ < List.length _; first | assumption | omega)) ?_)
  have hset : (bytesI s).set x (xorB .u8 ((bytesI s).getD x 0) (b.toNat : Nat)) = bytesI (s.set x (s.getD x 0 ^^^ b)) := by
    rw [bytesI_get, xor8, bytesI_set]
  refine ax_q (q_strof (s.set x (s.getD x 0 ^^^ b)) rfl rfl rfl rfl rfl ?_ rfl ?_ ?_) ?_
  · show 0 + s.length ≤ ((bytesI s).set x _).length
    rw [List.length_set]; unfold bytesI; simp
  · simp
  · intro j hj
    show AV.int .u8 (((bytesI s).set x (xorB .u8 ((bytesI s).getD x 0) (b.toNat : Nat))).getD (0 + j) 0) = _
    rw [hset, bytesI_get, Nat.zero_add]
  skip
  refine ax_callv rfl rfl rfl hU ?_
  repeat (first
    | refine ax_q (q_move rfl) ?_
    | refine ax_q (q_assign rfl) ?_
    | refine ax_ops_nil ?_
    | refine ax_post_code ?_
    | refine ax_seq ?_
    | refine ax_region rfl ?_
    | refine ax_q (q_neq rfl rfl) ?_
    | refine ax_q (q_extract rfl rfl) ?_)
  refine ax_gsplit rfl rfl (fun _ => ?_) (fun h => absurd he0 h)
  repeat (first
    | refine ax_q (q_move rfl) ?_
    | refine ax_q (q_assign rfl) ?_
    | refine ax_ops_nil ?_
    | refine ax_post_code ?_
    | refine ax_guard rfl rfl ?_
    | refine ax_return ?_
    | refine ax_q (q_eql rfl rfl) ?_
    | refine ax_q (q_pick rfl rfl) ?_
    | refine ax_q (q_len rfl rfl rfl) ?_)
  exact ax_ret hR rfl rfl
end Go.Proofs.YtbeegiiiochblaaDoor

