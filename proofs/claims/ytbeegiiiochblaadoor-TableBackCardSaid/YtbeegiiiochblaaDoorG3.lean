import Derived.Test.YtbeegiiiochblaaDoorG2
set_option linter.unusedVariables false
set_option linter.unusedSimpArgs false
/-
  More on the texts of tables, in plain Lean; a rule: a nil slice in a cell is taken for an object that has nothing yet.
-/
namespace Go.Ax.Tb
open Go.Ax.Bg (digits_len_le)

theorem same_char {v : Int} : ∀ {r : List Int} {m : Nat}, m ≤ r.length → (∀ j, j < m → r.getD j 0 = v) → (m = r.length ∨ r.getD m 0 ≠ v) → same v r = m
  | [], m, h, _, _ => by simp at h; subst h; rfl
  | x :: r, 0, _, _, h => by
    rcases h with h | h
    · simp at h
    · rw [same, if_neg (by simpa using h)]
  | x :: r, m + 1, h, h1, h2 => by
    have h0 := h1 0 (Nat.succ_pos _)
    simp only [List.getD_cons_zero] at h0
    rw [same, if_pos h0, same_char (r := r) (m := m) (by simpa using h) (fun j hj => by simpa using h1 (j + 1) (by omega)) (by rcases h2 with h2 | h2; exact .inl (by simpa using h2); exact .inr (by simpa using h2))]
theorem itoa_len {n : Int} (h : 0 ≤ n ∧ n ≤ 9999) : (Lib.itoa n).length ≤ 4 := by
  obtain ⟨u, rfl⟩ : ∃ u : Nat, n = u := ⟨n.toNat, by omega⟩
  rw [itoa_nat]
  exact digits_len_le (by decide) (by omega)
theorem runT_len {v : Int} {m : Nat} (hv : 0 ≤ v ∧ v ≤ 9999) (hm : m ≤ 4096) : (runT v m).length ≤ 10 := by
  have h1 := itoa_len hv
  have h2 := itoa_len (n := (m : Int)) (by omega)
  unfold runT
  split <;> simp <;> omega
theorem packB_len : ∀ (n : Nat) (l : List Int), l.length ≤ 4096 → (∀ x ∈ l, 0 ≤ x ∧ x ≤ 9999) → (packB n l).length ≤ 10 * l.length
  | 0, l, _, _ => by simp [packB]
  | n + 1, [], _, _ => by simp [packB]
  | n + 1, v :: r, hl, hx => by
    have hs := same_le v r
    simp only [List.length_cons] at hl
    have h1 := runT_len (m := same v r + 1) (hx v (by simp)) (by omega)
    have h2 := packB_len n (r.drop (same v r)) (by simp; omega) (fun x hxx => hx x (by simp [List.mem_of_mem_drop hxx]))
    rw [packB, List.length_append, List.length_cons]
    simp only [List.length_drop] at h2
    omega
theorem packB_step {l : List Int} {i k : Nat} (hi : i < k) (hk : k ≤ l.length) (h1 : ∀ j, i ≤ j → j < k → l.getD j 0 = l.getD i 0) (h2 : k = l.length ∨ l.getD k 0 ≠ l.getD i 0) :
    packB l.length (l.drop i) = runT (l.getD i 0) (k - i) ++ packB l.length (l.drop k) := by
  have hd := drop_getD l 0 i (by omega)
  have hs : same (l.getD i 0) (l.drop (i + 1)) = k - i - 1 := by
    refine same_char (by simp; omega) (fun j hj => ?_) ?_
    · have := h1 (i + 1 + j) (by omega) (by omega)
      simpa [List.getD, List.getElem?_drop] using this
    · rcases h2 with h2 | h2
      · left; simp; omega
      · right
        have e : i + 1 + (k - i - 1) = k := by omega
        simpa [List.getD, List.getElem?_drop, e] using h2
  rw [hd]
  obtain ⟨n, hn⟩ : ∃ n, l.length = n + 1 := ⟨l.length - 1, by omega⟩
  rw [hn, packB, hs, show k - i - 1 + 1 = k - i by omega, List.drop_drop, show i + 1 + (k - i - 1) = k by omega]
  rw [packB_more n (n + 1) (l.drop k) (by simp; omega) (by simp; omega)]
theorem runT_ne (v : Int) (m : Nat) : runT v m ≠ [] := by unfold runT; simp
end Go.Ax.Tb
namespace Go.Ax
variable [Pins]
section
variable {P : Program} {fn : Func} {c : Ctx} {fr : Fr} {H : AHeap} {k : List It}
theorem ax_nilcell {x : Code} (h : Nat) (o : AObj) {ob : AObj} (c' : Cells) (hh : H[h]? = some (some ob)) (ho : o.c.len = 0) (h1 : c'.len = ob.c.len) (h2 : c'.sz = ob.c.sz)
    (h3 : ∀ i j, i < ob.c.len → j < ob.c.sz → c'.at i j = ob.c.at i j ∨ (ob.c.at i j = .nil ∧ c'.at i j = .sl H.length 0 0)) (hk : Ax P fn c (.code x k) fr ((H ++ [some o]).set h (some ⟨ob.ty, c'⟩))) : Ax P fn c (.code x k) fr H := by
  intro w a σ S hr
  have g1 := hr.nowhere1 ho
  have hlt : h < H.length := (List.getElem?_eq_some_iff.1 hh).1
  have hh' : (H ++ [some o])[h]? = some (some ob) := by rw [List.getElem?_append_left hlt]; exact hh
  refine hk w a _ S (g1.recell hh' h1 h2 (fun i j v hi hj hv => ?_))
  rcases h3 i j hi hj with e | ⟨e1, e2⟩
  · rw [e]; exact hv
  · rw [e1] at hv
    rw [e2]
    cases hv
    exact .sl0 _ _ (by simp [upσ])
end
end Go.Ax

namespace Go.Proofs.YtbeegiiiochblaaDoor
open Go.Ax Go.Ax.Tb Go.RowKit
attribute [local irreducible] Ax Post QOp ACall
set_option maxRecDepth 100000
set_option maxHeartbeats 4000000

theorem tabE_ok {l : List Int} (h : tabE l = 0) : l.length ≤ 4096 ∧ ∀ x ∈ l, 0 ≤ x ∧ x ≤ 9999 := by
  unfold tabE at h
  split at h
  · omega
  · split at h
    · omega
    · rename_i h1 h2
      refine ⟨by omega, fun x hx => ?_⟩
      simp only [Bool.not_eq_true, List.any_eq_false] at h2
      have := h2 x hx
      unfold badV at this
      split at this
      · cases this
      · have := of_decide_eq_false this
        omega
def packT (l : List Int) : List UInt8 := packB l.length l ++ [35] ++ Lib.itoa (sumF (packB l.length l))
theorem Pack_bad (l : List Int) (h : l.length ≤ 9223372036854775807) (hE : ¬ tabE l = 0) : VCall Tryd.prog 7 [.ro (.ints .i64 l) 0 l.length] (.tup [.str [], .int .i64 (tabE l)]) := by
  have hc := check_ok l h
  refine ACall.value0 (acall_of_ax (P := Tryd.prog) (fn := Tryd.f7) rfl rfl (by kernel_rfl) rfl (fun c hR hfix => ?_)) (fix := fun _ => False) (fun _ h => h) rfl rfl
  generalize tabE l = e at *
  repeat (first
    | refine ax_q (q_move rfl) ?_
    | refine ax_q (q_assign rfl) ?_
    | refine ax_ops_nil ?_
    | refine ax_post_code ?_
    | refine ax_seq ?_
    | refine ax_region rfl ?_)
  refine ax_callv rfl rfl rfl hc ?_
  repeat (first
    | refine ax_q (q_move rfl) ?_
    | refine ax_q (q_assign rfl) ?_
    | refine ax_ops_nil ?_
    | refine ax_post_code ?_
    | refine ax_seq ?_
    | refine ax_region rfl ?_
    | refine ax_q (q_neq rfl rfl) ?_)
  refine ax_cond_dec rfl (fun _ => ?_) (fun h => absurd hE h)
  repeat (first
    | refine ax_q (q_move rfl) ?_
    | refine ax_q (q_assign rfl) ?_
    | refine ax_ops_nil ?_
    | refine ax_post_code ?_
    | refine ax_seq ?_
    | refine ax_region rfl ?_
    | refine ax_return ?_
    | refine ax_ret_code ?_)
  exact ax_ret hR rfl rfl
theorem Pack_nil : VCall Tryd.prog 7 [.ro (.ints .i64 []) 0 0] (.tup [.str (packT []), .int .i64 0]) := by
  have hc : VCall Tryd.prog 8 [.ro (.ints .i64 []) 0 0] (.int .i64 0) := check_ok [] (by decide)
  have hs := sum_ok [] (by decide)
  have hsb := sumF_bd []
  have hpt : packT [] = [] ++ [35] ++ Lib.itoa (sumF []) := rfl
  have ci := itoa (sumF []) (by omega)
  refine ACall.value0 (acall_of_ax (P := Tryd.prog) (fn := Tryd.f7) rfl rfl (by kernel_rfl) rfl (fun c hR hfix => ?_)) (fix := fun _ => False) (fun _ h => h) rfl rfl
  have hil : (Lib.itoa (sumF [])).length ≤ 100 := by
    obtain ⟨u, hu⟩ : ∃ u : Nat, sumF [] = u := ⟨(sumF []).toNat, by omega⟩
    rw [hu, itoa_nat]
    have := Go.Ax.Bg.digits_len_le (n := u) (k := 100) (by decide) (by have : u < 4294967296 := by omega
                                                                       exact Nat.lt_of_lt_of_le this (by decide))
    exact this
  rw [hpt] at hR
  generalize Lib.itoa (sumF []) = q at *
  generalize sumF [] = z at *
  repeat (first
    | refine ax_q (q_move rfl) ?_
    | refine ax_q (q_assign rfl) ?_
    | refine ax_ops_nil ?_
    | refine ax_post_code ?_
    | refine ax_seq ?_
    | refine ax_region rfl ?_)
  refine ax_callv rfl rfl rfl hc ?_
  repeat (first
    | refine ax_q (q_move rfl) ?_
    | refine ax_q (q_assign rfl) ?_
    | refine ax_ops_nil ?_
    | refine ax_post_code ?_
    | refine ax_seq ?_
    | refine ax_region rfl ?_
    | refine ax_cond_false rfl ?_
    | refine ax_block ?_
    | refine ax_skip ?_
    | refine ax_q (q_neq rfl rfl) ?_
    | refine ax_alloc rfl rfl rfl ?_)
  refine ax_loop (ι := Unit) (fun _ => [(0, .ro (.ints .i64 []) 0 0), (5, .ptr 0 0 0), (6, .int .i64 0)]) (fun _ => [some ⟨47, .box [.nilp, .nil]⟩]) (fun _ => True) (fun _ => 0) () ⟨⟨rfl, rfl, rfl, trivial⟩, rfl, trivial⟩ ?_
  rintro _ _
  repeat (first
    | refine ax_q (q_move rfl) ?_
    | refine ax_ops_nil ?_
    | refine ax_post_code ?_
    | refine ax_seq ?_
    | refine ax_region rfl ?_
    | refine ax_cond_false rfl ?_
    | refine ax_exit ?_
    | refine ax_exit_here ?_
    | refine ax_exit_code ?_
    | refine ax_exit_inv ?_
    | refine ax_q (q_lss rfl rfl) ?_
    | refine ax_q (q_len rfl rfl rfl) ?_)
  refine ax_callc rfl rfl rfl stringN (fun _ h => h) (fun _ h => h) ?_
  rintro r H ⟨rfl, rfl⟩
  repeat (first
    | refine ax_q (q_move rfl) ?_
    | refine ax_q (q_assign rfl) ?_
    | refine ax_ops_nil ?_
    | refine ax_post_code ?_
    | refine ax_seq ?_
    | refine ax_region rfl ?_)
  refine ax_q (q_concat rfl rfl (by decide)) ?_
  repeat (refine ax_q (q_move rfl) ?_)
  refine ax_callv rfl rfl rfl hs ?_
  skip
  refine ax_callv rfl rfl rfl ci ?_
  refine ax_q (q_concat rfl rfl (by show 1 + q.length ≤ _; omega)) ?_
  repeat (first
    | refine ax_q (q_assign rfl) ?_
    | refine ax_ops_nil ?_
    | refine ax_post_code ?_
    | refine ax_return ?_)
  exact ax_ret hR rfl rfl
theorem Pack_some (l : List Int) (hE : tabE l = 0) (h0 : l ≠ []) : VCall Tryd.prog 7 [.ro (.ints .i64 l) 0 l.length] (.tup [.str (packT l), .int .i64 0]) := by
  obtain ⟨hl, hx⟩ := tabE_ok hE
  have hc := check_ok l (by omega)
  rw [hE] at hc
  have hpl := packB_len l.length l hl hx
  have hs := sum_ok (packB l.length l) (by omega)
  have hsb := sumF_bd (packB l.length l)
  have hpt : packT l = packB l.length l ++ [35] ++ Lib.itoa (sumF (packB l.length l)) := rfl
  have ci := itoa (sumF (packB l.length l)) (by omega)
  have hne : packB l.length l ≠ [] := by
    obtain ⟨v, r, rfl⟩ : ∃ v r, l = v :: r := by cases l with | nil => exact absurd rfl h0 | cons v r => exact ⟨v, r, rfl⟩
    rw [List.length_cons, packB]
    intro e
    exact runT_ne _ _ (List.append_eq_nil_iff.1 e).1
  have hil : (Lib.itoa (sumF (packB l.length l))).length ≤ 100 := by
    obtain ⟨u, hu⟩ : ∃ u : Nat, sumF (packB l.length l) = u := ⟨(sumF (packB l.length l)).toNat, by omega⟩
    rw [hu, itoa_nat]
    exact Go.Ax.Bg.digits_len_le (n := u) (k := 100) (by decide) (by have : u < 4294967296 := by omega
                                                                     exact Nat.lt_of_lt_of_le this (by decide))
  have hlpos : 0 < l.length := List.length_pos_iff.2 h0
  refine ACall.value0 (acall_of_ax (P := Tryd.prog) (fn := Tryd.f7) rfl rfl (by kernel_rfl) rfl (fun c hR hfix => ?_)) (fix := fun _ => False) (fun _ h => h) rfl rfl
  rw [hpt] at hR
  repeat (first
    | refine ax_q (q_move rfl) ?_
    | refine ax_q (q_assign rfl) ?_
    | refine ax_ops_nil ?_
    | refine ax_post_code ?_
    | refine ax_seq ?_
    | refine ax_region rfl ?_)
  refine ax_callv rfl rfl rfl hc ?_
  repeat (first
    | refine ax_q (q_move rfl) ?_
    | refine ax_q (q_assign rfl) ?_
    | refine ax_ops_nil ?_
    | refine ax_post_code ?_
    | refine ax_seq ?_
    | refine ax_region rfl ?_
    | refine ax_cond_false rfl ?_
    | refine ax_skip ?_
    | refine ax_q (q_neq rfl rfl) ?_
    | refine ax_alloc rfl rfl rfl ?_)
  refine ax_nilcell 0 ⟨5, .ints .u8 (byI [])⟩ (.box [adrB false, .sl 1 0 0]) rfl rfl rfl rfl (fun i j hi hj => ?_) ?_
  · match j, hj with
    | 0, _ => exact .inl rfl
    | 1, _ => exact .inr ⟨rfl, rfl⟩
  repeat (refine ax_block ?_)
  refine ax_loop (ι := Nat × Bool × List UInt8) (fun x => [(0, .ro (.ints .i64 l) 0 l.length), (5, .ptr 0 0 0), (6, .int .i64 (x.1 : Nat))]) (fun x => bldH x.2.1 x.2.2)
    (fun x => x.1 ≤ l.length ∧ x.2.2 ++ packB l.length (l.drop x.1) = packB l.length l ∧ (x.2.2 ≠ [] → x.2.1 = true)) (fun x => l.length - x.1) (0, false, []) ⟨⟨rfl, rfl, rfl, trivial⟩, rfl, Nat.zero_le _, by simp, fun h => absurd rfl h⟩ ?_
  rintro ⟨i, a, T⟩ ⟨hi, hT, ha⟩
  simp only at *
  repeat (first
    | refine ax_q (q_move rfl) ?_
    | refine ax_ops_nil ?_
    | refine ax_post_code ?_
    | refine ax_seq ?_
    | refine ax_region rfl ?_
    | refine ax_q (q_lss rfl rfl) ?_
    | refine ax_q (q_len rfl rfl rfl) ?_)
  refine ax_cond_dec rfl (fun h1 => ?_) (fun h1 => ?_)
  · have hil2 : i < l.length := by omega
    repeat (first
      | refine ax_q (q_move rfl) ?_
      | refine ax_q (q_assign rfl) ?_
      | refine ax_ops_nil ?_
      | refine ax_post_code ?_
      | refine ax_seq ?_
      | refine ax_region rfl ?_
      | refine ax_block ?_
      | refine ax_skip ?_)
    refine ax_loop (ι := Nat) (fun k => [(0, .ro (.ints .i64 l) 0 l.length), (5, .ptr 0 0 0), (6, .int .i64 (i : Nat)), (7, .int .i64 (k : Nat))]) (fun _ => bldH a T)
      (fun k => i ≤ k ∧ k ≤ l.length ∧ ∀ j, i ≤ j → j < k → l.getD j 0 = l.getD i 0) (fun k => l.length - k) i ⟨⟨rfl, rfl, rfl, rfl, trivial⟩, rfl, Nat.le_refl _, hi, fun j h1 h2 => by omega⟩ ?_
    rintro k ⟨hk1, hk2, hk3⟩
    have hci : ((i : Nat) : Int).toNat = i := Int.toNat_natCast i
    have hck : ((k : Nat) : Int).toNat = k := Int.toNat_natCast k
    by_cases hgo : k < l.length ∧ l.getD k 0 = l.getD i 0
    · repeat (refine ax_seq ?_)
      refine ax_regionq (by kernel_rfl) (by kernel_rfl) rfl ?_
      repeat (first
        | refine ax_q (q_move rfl) ?_
        | refine ax_q (q_lss rfl rfl) ?_
        | refine ax_q (q_len rfl rfl rfl) ?_)
      refine ax_gsplit rfl rfl (fun h2 => ?_) (fun h2 => absurd h2 (by omega))
      repeat (first
        | refine ax_q (q_move rfl) ?_
        | refine ax_q (q_loadi_rp rfl rfl rfl) ?_
        | refine ax_ops_nil ?_
        | refine ax_post_code ?_
        | refine ax_guard rfl rfl ?_
        | refine ax_q (q_eql rfl rfl) ?_
        | refine ax_q (q_pick rfl rfl) ?_
        | refine ax_q (q_index_ro' rfl rfl rfl rfl (by first | (simp only [Nat.zero_add, Int.toNat_natCast, Int.toNat_zero]; exact rfl) | exact rfl) (by omega)) ?_)
      refine ax_cond_dec rfl (fun h3 => ?_) (fun h3 => absurd hgo.2 h3)
      repeat (first
        | refine ax_q (q_move rfl) ?_
        | refine ax_q (q_assign rfl) ?_
        | refine ax_ops_nil ?_
        | refine ax_post_code ?_
        | refine ax_region rfl ?_
        | refine ax_post_blk ?_
        | refine ax_block ?_
        | refine ax_skip ?_
        | refine ax_q (q_add rfl rfl (by omega)) ?_)
      exact ax_post_inv ⟨k + 1, ⟨by omega, by omega, fun j h4 h5 => by
        by_cases hj : j = k
        · subst hj; exact hgo.2
        · exact hk3 j h4 (by omega)⟩, by omega, ⟨rfl, rfl, rfl, rfl, trivial⟩, rfl⟩
    apply ax_tail_code [(0, .ro (.ints .i64 l) 0 l.length), (5, .ptr 0 0 0), (6, .int .i64 (i : Nat)), (7, .int .i64 (k : Nat))]
    · intro fin
      repeat (refine ax_seq ?_)
      refine ax_regionq (by kernel_rfl) (by kernel_rfl) rfl ?_
      repeat (first
        | refine ax_q (q_move rfl) ?_
        | refine ax_q (q_lss rfl rfl) ?_
        | refine ax_q (q_len rfl rfl rfl) ?_)
      refine ax_gsplit rfl rfl (fun h2 => ?_) (fun h2 => ?_)
      · repeat (first
          | refine ax_q (q_move rfl) ?_
          | refine ax_q (q_loadi_rp rfl rfl rfl) ?_
          | refine ax_ops_nil ?_
          | refine ax_post_code ?_
          | refine ax_guard rfl rfl ?_
          | refine ax_q (q_eql rfl rfl) ?_
          | refine ax_q (q_pick rfl rfl) ?_
          | refine ax_q (q_index_ro' rfl rfl rfl rfl (by first | (simp only [Nat.zero_add, Int.toNat_natCast, Int.toNat_zero]; exact rfl) | exact rfl) (by omega)) ?_)
        refine ax_cond_dec rfl (fun h3 => absurd ⟨by omega, h3⟩ hgo) (fun h3 => ?_)
        repeat (first
          | refine ax_post_code ?_
          | refine ax_seq ?_
          | refine ax_exit ?_
          | refine ax_exit_here ?_
          | refine ax_exit_code ?_
          | refine ax_exit_inv ?_)
        exact fin _ ⟨rfl, rfl, rfl, rfl, trivial⟩
      · repeat (first
          | refine ax_ops_nil ?_
          | refine ax_post_code ?_
          | refine ax_seq ?_
          | refine ax_skip_not rfl rfl rfl ?_
          | refine ax_cond_false rfl ?_
          | refine ax_exit ?_
          | refine ax_exit_here ?_
          | refine ax_exit_code ?_
          | refine ax_exit_inv ?_
          | refine ax_q (q_pick rfl rfl) ?_)
        exact fin _ ⟨rfl, rfl, rfl, rfl, trivial⟩
    have hki : i < k := by
      rcases Nat.lt_or_ge i k with h | h
      · exact h
      · exact absurd ⟨by omega, by rw [show k = i by omega]⟩ hgo
    have hstop : k = l.length ∨ l.getD k 0 ≠ l.getD i 0 := by
      rcases Nat.lt_or_ge k l.length with h | h
      · exact .inr (fun e => hgo ⟨h, e⟩)
      · exact .inl (by omega)
    have hstep := packB_step hki hk2 hk3 hstop
    have hvb := hx _ (getD_mem 0 hil2)
    have hTlen : T.length + (Go.Ax.Tb.runT (l.getD i 0) (k - i)).length ≤ 10 * l.length := by
      have := congrArg List.length hT
      rw [hstep, List.length_append, List.length_append] at this
      omega
    rw [hstep, ← List.append_assoc] at hT
    have cv := itoa (l.getD i 0) (by omega)
    have cm := itoa ((k - i : Nat) : Int) (by omega)
    have e1 : Go.Ax.Tb.runT (l.getD i 0) (k - i) = Lib.itoa (l.getD i 0) ++ ((if 1 < k - i then 120 :: Lib.itoa ((k - i : Nat) : Int) else []) ++ [59]) := rfl
    rw [e1] at hT hTlen
    simp only [List.length_append, List.length_cons, List.length_nil] at hTlen
    generalize Lib.itoa (l.getD i 0) = qv at *
    generalize Lib.itoa ((k - i : Nat) : Int) = qm at *
    repeat (first
      | refine ax_q (q_move rfl) ?_
      | refine ax_q (q_loadi_rp rfl rfl rfl) ?_
      | refine ax_region rfl ?_
      | refine ax_q (q_index_ro' rfl rfl rfl rfl (by first | (simp only [Nat.zero_add, Int.toNat_natCast, Int.toNat_zero]; exact rfl) | exact rfl) (by omega)) ?_)
    refine ax_callv rfl rfl rfl cv ?_
    skip
    have hall : ∀ h, h < 2 → h ≠ 1 → h = 0 := fun h h1 h2 => by omega
    have hfl : ∀ h, h = 0 → h < 2 := fun h e => by omega
    have hki2 : (k : Int) - (i : Int) = ((k - i : Nat) : Int) := by omega
    refine ax_callm 1 rfl rfl rfl (writeS a T qv (by omega)) hall hfl (by rw [hfix]; exact fun h => h) ?_
    rintro r H ⟨rfl, rfl⟩
    refine ⟨Nat.le_refl 2, ?_⟩
    repeat (first
      | refine ax_q (q_move rfl) ?_
      | refine ax_ops_nil ?_
      | refine ax_post_code ?_
      | refine ax_seq ?_
      | refine ax_region rfl ?_
      | refine ax_q (q_gtr rfl rfl) ?_
      | refine ax_q (q_sub rfl rfl (by omega)) ?_)
    refine ax_cond_dec rfl (fun h2 => ?_) (fun h2 => ?_)
    · rw [if_pos (by omega)] at hT hTlen
      simp only [List.length_cons] at hTlen
      repeat (first
        | refine ax_q (q_move rfl) ?_
        | refine ax_region rfl ?_
        | refine ax_q (q_sub rfl rfl (by omega)) ?_)
      refine ax_slot_ops 48 (.int .i64 ((k - i : Nat) : Int)) rfl (AEq.of_eq (by rw [hki2])) ?_
      refine ax_callv rfl rfl rfl cm ?_
      refine ax_q (q_concat rfl rfl (by show 1 + qm.length ≤ _; omega)) ?_
      refine ax_callm 1 rfl rfl rfl (writeS true (T ++ qv) (120 :: qm) (by simp; omega)) hall hfl (by rw [hfix]; exact fun h => h) ?_
      rintro r H ⟨rfl, rfl⟩
      refine ⟨Nat.le_refl 2, ?_⟩
      repeat (first
        | refine ax_ops_nil ?_
        | refine ax_post_code ?_
        | refine ax_seq ?_
        | refine ax_region rfl ?_)
      refine ax_callm 1 rfl rfl rfl (writeB true (T ++ qv ++ 120 :: qm) 59 (by simp; omega)) hall hfl (by rw [hfix]; exact fun h => h) ?_
      rintro r H ⟨rfl, rfl⟩
      refine ⟨Nat.le_refl 2, ?_⟩
      repeat (first
        | refine ax_q (q_move rfl) ?_
        | refine ax_q (q_assign rfl) ?_
        | refine ax_ops_nil ?_
        | refine ax_post_code ?_
        | refine ax_region rfl ?_
        | refine ax_post_blk ?_)
      exact ax_post_inv ⟨(k, true, T ++ qv ++ 120 :: qm ++ [59]), ⟨hk2, by rw [← hT]; simp, fun _ => rfl⟩, by simp only; omega, ⟨rfl, rfl, rfl, trivial⟩, rfl⟩
    · rw [if_neg (by omega)] at hT hTlen
      repeat (first
        | refine ax_post_code ?_
        | refine ax_seq ?_
        | refine ax_region rfl ?_
        | refine ax_skip ?_)
      refine ax_callm 1 rfl rfl rfl (writeB true (T ++ qv) 59 (by simp; omega)) hall hfl (by rw [hfix]; exact fun h => h) ?_
      rintro r H ⟨rfl, rfl⟩
      refine ⟨Nat.le_refl 2, ?_⟩
      repeat (first
        | refine ax_q (q_move rfl) ?_
        | refine ax_q (q_assign rfl) ?_
        | refine ax_ops_nil ?_
        | refine ax_post_code ?_
        | refine ax_region rfl ?_
        | refine ax_post_blk ?_)
      exact ax_post_inv ⟨(k, true, T ++ qv ++ [59]), ⟨hk2, by rw [← hT]; simp, fun _ => rfl⟩, by simp only; omega, ⟨rfl, rfl, rfl, trivial⟩, rfl⟩
  · have hil2 : i = l.length := by omega
    subst hil2
    rw [List.drop_of_length_le (Nat.le_refl _), show packB l.length [] = [] by cases l.length <;> rfl, List.append_nil] at hT
    subst hT
    have ha2 := ha hne
    subst ha2
    repeat (first
      | refine ax_post_code ?_
      | refine ax_seq ?_
      | refine ax_region rfl ?_
      | refine ax_exit ?_
      | refine ax_exit_here ?_
      | refine ax_exit_code ?_
      | refine ax_exit_inv ?_)
    refine ax_callc rfl rfl rfl (stringB _ (by omega) hne) (fun _ h => h) (fun _ h => h) ?_
    rintro r H ⟨rfl, rfl⟩
    generalize Lib.itoa (sumF (packB l.length l)) = q at *
    generalize sumF (packB l.length l) = z at *
    generalize packB l.length l = T at *
    repeat (first
      | refine ax_q (q_move rfl) ?_
      | refine ax_q (q_assign rfl) ?_
      | refine ax_ops_nil ?_
      | refine ax_post_code ?_
      | refine ax_seq ?_
      | refine ax_region rfl ?_)
    refine ax_q (q_concat rfl rfl (by show T.length + 1 ≤ _; omega)) ?_
    repeat (refine ax_q (q_move rfl) ?_)
    refine ax_callv rfl rfl rfl hs ?_
    skip
    refine ax_callv rfl rfl rfl ci ?_
    refine ax_q (q_concat rfl rfl (by show (T ++ [35]).length + q.length ≤ _; simp; omega)) ?_
    repeat (first
      | refine ax_q (q_assign rfl) ?_
      | refine ax_ops_nil ?_
      | refine ax_post_code ?_
      | refine ax_return ?_)
    exact ax_ret hR rfl rfl
end Go.Proofs.YtbeegiiiochblaaDoor

/-
  table.Unpack as a whole, in plain Lean.
-/
namespace Go.Ax.Tb

/-- Does it end with this byte? -/
def endsW (b : UInt8) (s : List UInt8) : Bool := decide (s.drop (s.length - 1) = [b])
def unpAll (s : List UInt8) : Unp :=
  if (cutF 35 s).2.2 = false ∨ numB (cutF 35 s).2.1 = false ∨ ((cutF 35 s).1 ≠ [] ∧ endsW 59 (cutF 35 s).1 = false) then .bad 5
  else match unpF (cutF 35 s).1 with
    | .bad e => .bad e
    | .good l => if sumF (cutF 35 s).1 = numV (cutF 35 s).2.1 then .good l else .bad 15
theorem cutF_le (b : UInt8) (s : List UInt8) : (cutF b s).1.length ≤ s.length ∧ (cutF b s).2.1.length ≤ s.length := by
  have := cutF_len b s
  split at this <;> omega
theorem unpGo_bad : ∀ (n : Nat) (rest : List UInt8) (out : List Int) (last : Int) (e : Int), unpGo n rest out last = .bad e → e ≠ 0
  | 0, _, _, _, e, h => by rw [unpGo] at h; cases h
  | n + 1, rest, out, last, e, h => by
    rw [unpGo] at h
    split at h
    · cases h
    · split at h
      · cases h; decide
      · split at h
        · cases h; decide
        · split at h
          · cases h; decide
          · exact unpGo_bad n _ _ _ e h
theorem unpAll_bad {s : List UInt8} {e : Int} (h : unpAll s = .bad e) : e ≠ 0 := by
  unfold unpAll at h
  split at h
  · cases h; decide
  · split at h
    · rename_i e' he
      cases h
      exact unpGo_bad _ _ _ _ _ he
    · split at h
      · cases h
      · cases h; decide
theorem unpGo_len : ∀ (n : Nat) (rest : List UInt8) (out : List Int) (last : Int) (l : List Int), out.length ≤ 4096 → unpGo n rest out last = .good l → l.length ≤ 4096
  | 0, _, out, _, l, ho, h => by rw [unpGo] at h; cases h; exact ho
  | n + 1, rest, out, last, l, ho, h => by
    rw [unpGo] at h
    split at h
    · cases h; exact ho
    · split at h
      · cases h
      · split at h
        · cases h
        · split at h
          · cases h
          · exact unpGo_len n _ _ _ l (by simp; omega) h
theorem unpAll_len {s : List UInt8} {l : List Int} (h : unpAll s = .good l) : l.length ≤ 4096 := by
  unfold unpAll at h
  split at h
  · cases h
  · split at h
    · cases h
    · rename_i l' hl
      split at h
      · cases h
        exact unpGo_len _ _ _ _ _ (by simp) hl
      · cases h
/-- table.At, behind Unpack. -/
def atF (U : Unp) (i : Int) : Int × Int := match U with
  | .bad e => (0, e)
  | .good l => if i < 0 ∨ (l.length : Int) ≤ i then (0, 4) else (l.getD i.toNat 0, 0)
/-- table.Code, table.Entry -/
def codeF (p q : Int) : Int × Int :=
  if p < 1 ∨ 3 < p ∨ q < 0 ∨ 9999 < q ∨ 9999 < 3 * q + p - 1 then (0, 4)
  else if p = 3 ∧ q ≠ 0 then (0, 3) else (3 * q + p - 1, 0)
def entryF (n : Int) : (Int × Int) × Int :=
  if n < 0 ∨ 9999 < n then ((0, 0), 4)
  else if n % 3 + 1 = 3 ∧ n / 3 ≠ 0 then ((0, 0), 3) else ((n % 3 + 1, n / 3), 0)
end Go.Ax.Tb

namespace Go.Proofs.YtbeegiiiochblaaDoor
open Go.Ax Go.Ax.Tb Go.RowKit
attribute [local irreducible] Ax Post QOp ACall
set_option maxRecDepth 100000
set_option maxHeartbeats 4000000

def unpAV : Unp → AV
  | .bad e => .tup [.nil, .int .i64 e]
  | .good l => .tup [.ro (.ints .i64 l) 0 l.length, .int .i64 0]
theorem badK {F : Unp} {e : Int} {H : AHeap} (h : F = .bad e) (hr : ∀ (h : Nat) (o : AObj), H[h]? = some (some o) → refless o.c) : (AV.tup [.nil, .int .i64 e]).frz H = unpAV F ∧ inB H (.tup [.nil, .int .i64 e]) ∧ ∀ (h : Nat) (o : AObj), H[h]? = some (some o) → refless o.c := by
  subst h
  exact ⟨rfl, ⟨trivial, trivial, trivial⟩, hr⟩
theorem Unpack_ok (s : List UInt8) (h : s.length ≤ 281474976710656) : VCall Tryd.prog 9 [.str s] (unpAV (unpAll s)) := by
  have c1 := cutS s 35 h
  have l1 := cutF_le 35 s
  have hU : unpAll s = if (cutF 35 s).2.2 = false ∨ numB (cutF 35 s).2.1 = false ∨ ((cutF 35 s).1 ≠ [] ∧ endsW 59 (cutF 35 s).1 = false) then .bad 5
    else match unpF (cutF 35 s).1 with
      | .bad e => .bad e
      | .good l => if sumF (cutF 35 s).1 = numV (cutF 35 s).2.1 then .good l else .bad 15 := rfl
  refine ACall.value (K := fun r H => r.frz H = unpAV (unpAll s) ∧ inB H r ∧ ∀ (h : Nat) (o : AObj), H[h]? = some (some o) → refless o.c) (acall_of_ax (P := Tryd.prog) (fn := Tryd.f9) rfl rfl (by kernel_rfl) rfl (fun c hR hfix => ?_)) (fix := fun _ => False) (fun _ h => h) rfl (fun _ _ h => h)
  generalize unpAll s = F at *
  generalize cutF 35 s = q at *
  obtain ⟨body, sm, ok⟩ := q
  simp only at *
  have n1 := number sm (by omega)
  have s1 := suffixS body 59 (by omega)
  have su := sum_ok body (by omega)
  have sb := sumF_bd body
  have hes : endsB 59 body = endsW 59 body := rfl
  rw [hes] at s1
  generalize endsW 59 body = en at *
  generalize numB sm = nb at *
  generalize numV sm = want at *
  generalize sumF body = smv at *
  repeat (first
    | refine ax_q (q_move rfl) ?_
    | refine ax_q (q_assign rfl) ?_
    | refine ax_ops_nil ?_
    | refine ax_post_code ?_
    | refine ax_seq ?_
    | refine ax_region rfl ?_)
  refine ax_callv rfl rfl rfl c1 ?_
  repeat (first
    | refine ax_q (q_move rfl) ?_
    | refine ax_q (q_assign rfl) ?_
    | refine ax_ops_nil ?_
    | refine ax_post_code ?_
    | refine ax_seq ?_
    | refine ax_region rfl ?_
    | refine ax_q (q_extract rfl rfl) ?_)
  refine ax_callv rfl rfl rfl n1 ?_
  repeat (first
    | refine ax_q (q_move rfl) ?_
    | refine ax_q (q_assign rfl) ?_
    | refine ax_ops_nil ?_
    | refine ax_post_code ?_
    | refine ax_seq ?_
    | refine ax_region rfl ?_
    | refine ax_q (q_not rfl) ?_
    | refine ax_q (q_extract rfl rfl) ?_)
  cases ok
  · rw [if_pos (.inl rfl)] at hU
    repeat (first
      | refine ax_q (q_move rfl) ?_
      | refine ax_q (q_assign rfl) ?_
      | refine ax_ops_nil ?_
      | refine ax_post_code ?_
      | refine ax_seq ?_
      | refine ax_region rfl ?_
      | refine ax_skip_undef rfl rfl ?_
      | refine ax_skip_not rfl rfl rfl ?_
      | refine ax_cond_true rfl ?_
      | refine ax_return ?_
      | refine ax_ret_code ?_
      | refine ax_q (q_pick rfl rfl) ?_)
    exact ax_ret hR rfl (badK hU (by intro h o hh; simp at hh))
  cases nb
  · rw [if_pos (.inr (.inl rfl))] at hU
    repeat (first
      | refine ax_q (q_move rfl) ?_
      | refine ax_q (q_assign rfl) ?_
      | refine ax_ops_nil ?_
      | refine ax_post_code ?_
      | refine ax_seq ?_
      | refine ax_region rfl ?_
      | refine ax_guard rfl rfl ?_
      | refine ax_skip_undef rfl rfl ?_
      | refine ax_skip_not rfl rfl rfl ?_
      | refine ax_cond_true rfl ?_
      | refine ax_return ?_
      | refine ax_ret_code ?_
      | refine ax_q (q_not rfl) ?_
      | refine ax_q (q_pick rfl rfl) ?_)
    exact ax_ret hR rfl (badK hU (by intro h o hh; simp at hh))
  repeat (first
    | refine ax_q (q_move rfl) ?_
    | refine ax_guard rfl rfl ?_
    | refine ax_q (q_not rfl) ?_
    | refine ax_q (q_pick rfl rfl) ?_
    | refine ax_q (q_strneq rfl rfl) ?_)
  by_cases hq : ¬ body = [] ∧ en = false
  · rw [if_pos (.inr (.inr hq))] at hU
    refine ax_gsplit rfl rfl (fun h0 => ?_) (fun h0 => absurd hq.1 h0)
    rw [hq.2] at s1
    repeat (first
      | refine ax_q (q_move rfl) ?_
      | refine ax_guard rfl rfl ?_)
    refine ax_callv rfl rfl rfl s1 ?_
    repeat (first
      | refine ax_q (q_assign rfl) ?_
      | refine ax_ops_nil ?_
      | refine ax_post_code ?_
      | refine ax_seq ?_
      | refine ax_region rfl ?_
      | refine ax_guard rfl rfl ?_
      | refine ax_cond_true rfl ?_
      | refine ax_return ?_
      | refine ax_ret_code ?_
      | refine ax_q (q_not rfl) ?_
      | refine ax_q (q_pick rfl rfl) ?_)
    exact ax_ret hR rfl (badK hU (by intro h o hh; simp at hh))
  rw [if_neg (by rintro (h | h | h); cases h; cases h; exact hq h)] at hU
  apply ax_tail_code [(4, .str body), (7, .int .i64 want)]
  · intro fin
    refine ax_gsplit rfl rfl (fun h0 => ?_) (fun h0 => ?_)
    · have he : en = true := by
        cases en
        · exact absurd ⟨h0, rfl⟩ hq
        · rfl
      rw [he] at s1
      repeat (first
        | refine ax_q (q_move rfl) ?_
        | refine ax_guard rfl rfl ?_)
      refine ax_callv rfl rfl rfl s1 ?_
      repeat (first
        | refine ax_ops_nil ?_
        | refine ax_post_code ?_
        | refine ax_seq ?_
        | refine ax_guard rfl rfl ?_
        | refine ax_cond_false rfl ?_
        | refine ax_skip ?_
        | refine ax_q (q_not rfl) ?_
        | refine ax_q (q_pick rfl rfl) ?_)
      exact fin _ ⟨rfl, rfl, trivial⟩
    · repeat (first
        | refine ax_ops_nil ?_
        | refine ax_post_code ?_
        | refine ax_seq ?_
        | refine ax_guard rfl rfl ?_
        | refine ax_skip_not rfl rfl rfl ?_
        | refine ax_cond_false rfl ?_
        | refine ax_skip ?_
        | refine ax_q (q_pick rfl rfl) ?_)
      exact fin _ ⟨rfl, rfl, trivial⟩
  repeat (first
    | refine ax_q (q_move rfl) ?_
    | refine ax_q (q_assign rfl) ?_
    | refine ax_ops_nil ?_
    | refine ax_post_code ?_
    | refine ax_seq ?_
    | refine ax_region rfl ?_)
  refine ax_nilobj 9 ⟨3, .ints .i64 []⟩ rfl rfl ?_
  repeat (refine ax_block ?_)
  obtain ⟨U, hUe⟩ : ∃ U, unpF body = U := ⟨_, rfl⟩
  rw [hUe] at hU
  refine ax_loop (ι := List UInt8 × List Int × Int) (fun x => [(4, .str body), (7, .int .i64 want), (9, .sl 0 0 x.2.1.length), (10, .int .i64 x.2.2), (11, .str x.1)]) (fun x => [some ⟨3, .ints .i64 x.2.1⟩])
    (fun x => x.1.length ≤ s.length ∧ x.2.1.length ≤ 4096 ∧ unpGo x.1.length x.1 x.2.1 x.2.2 = U) (fun x => x.1.length) (body, [], -1) ⟨⟨rfl, rfl, rfl, rfl, rfl, trivial⟩, rfl, l1.1, Nat.zero_le _, hUe⟩ ?_
  rintro ⟨rest, out, last⟩ ⟨h1, h2, h3⟩
  simp only at *
  repeat (first
    | refine ax_q (q_move rfl) ?_
    | refine ax_ops_nil ?_
    | refine ax_post_code ?_
    | refine ax_seq ?_
    | refine ax_region rfl ?_
    | refine ax_q (q_strneq rfl rfl) ?_)
  refine ax_cond_dec rfl (fun h0 => ?_) (fun h0 => ?_)
  · have hne : rest ≠ [] := h0
    have hlt := cutF_lt (b := 59) hne
    have hcl := cutF_le 59 rest
    have hrl : rest.length = rest.length - 1 + 1 := by have := List.length_pos_iff.2 hne; omega
    rw [hrl, unpGo, if_neg hne] at h3
    have c2 := cutS rest 59 (by omega)
    generalize cutF 59 rest = q2 at *
    obtain ⟨run, rest2, ok2⟩ := q2
    simp only at *
    have c3 := cutS run 120 (by omega)
    have hcl3 := cutF_le 120 run
    have hrv : runV run = if numB (cutF 120 run).1 = false then none
      else if (cutF 120 run).2.2 = true then (if numB (cutF 120 run).2.1 = true ∧ 1 < numV (cutF 120 run).2.1 then some (numV (cutF 120 run).1, numV (cutF 120 run).2.1) else none)
      else some (numV (cutF 120 run).1, 1) := rfl
    generalize runV run = rv at *
    generalize cutF 120 run = q3 at *
    obtain ⟨vt, kt, many⟩ := q3
    simp only at *
    have n2 := number vt (by omega)
    have n3 := number kt (by omega)
    generalize numB vt = b1 at *
    generalize numV vt = v1 at *
    generalize numB kt = b2 at *
    generalize numV kt = v2 at *
    have hrefl : ∀ (h : Nat) (o : AObj), ([some ⟨3, .ints .i64 out⟩] : AHeap)[h]? = some (some o) → refless o.c := refl1 refless_ints
    repeat (first
      | refine ax_q (q_move rfl) ?_
      | refine ax_q (q_assign rfl) ?_
      | refine ax_ops_nil ?_
      | refine ax_post_code ?_
      | refine ax_seq ?_
      | refine ax_region rfl ?_
      | refine ax_block ?_
      | refine ax_skip ?_)
    refine ax_callv rfl rfl rfl c2 ?_
    repeat (first
      | refine ax_q (q_move rfl) ?_
      | refine ax_q (q_assign rfl) ?_
      | refine ax_ops_nil ?_
      | refine ax_post_code ?_
      | refine ax_seq ?_
      | refine ax_region rfl ?_
      | refine ax_q (q_extract rfl rfl) ?_)
    refine ax_callv rfl rfl rfl c3 ?_
    repeat (first
      | refine ax_q (q_move rfl) ?_
      | refine ax_q (q_assign rfl) ?_
      | refine ax_ops_nil ?_
      | refine ax_post_code ?_
      | refine ax_seq ?_
      | refine ax_region rfl ?_
      | refine ax_q (q_extract rfl rfl) ?_)
    refine ax_callv rfl rfl rfl n2 ?_
    cases rv with
    | none =>
      simp only at h3
      have hF : F = .bad 5 := by rw [hU, ← h3]
      cases many
      · cases b1
        · repeat (first
            | refine ax_q (q_move rfl) ?_
            | refine ax_q (q_assign rfl) ?_
            | refine ax_ops_nil ?_
            | refine ax_post_code ?_
            | refine ax_seq ?_
            | refine ax_region rfl ?_
            | refine ax_skip_not rfl rfl rfl ?_
            | refine ax_cond_true rfl ?_
            | refine ax_cond_false rfl ?_
            | refine ax_skip ?_
            | refine ax_return ?_
            | refine ax_ret_code ?_
            | refine ax_ret_blk ?_
            | refine ax_ret_inv ?_
            | refine ax_q (q_not rfl) ?_
            | refine ax_q (q_pick rfl rfl) ?_
            | refine ax_q (q_extract rfl rfl) ?_)
          exact ax_ret hR rfl (badK hF hrefl)
        · cases hrv
      · cases b1
        · repeat (first
            | refine ax_q (q_move rfl) ?_
            | refine ax_q (q_assign rfl) ?_
            | refine ax_ops_nil ?_
            | refine ax_post_code ?_
            | refine ax_seq ?_
            | refine ax_region rfl ?_
            | refine ax_cond_true rfl ?_
            | refine ax_q (q_extract rfl rfl) ?_)
          refine ax_callv rfl rfl rfl n3 ?_
          repeat (first
            | refine ax_q (q_move rfl) ?_
            | refine ax_q (q_assign rfl) ?_
            | refine ax_ops_nil ?_
            | refine ax_post_code ?_
            | refine ax_seq ?_
            | refine ax_region rfl ?_
            | refine ax_skip_not rfl rfl rfl ?_
            | refine ax_cond_true rfl ?_
            | refine ax_return ?_
            | refine ax_ret_code ?_
            | refine ax_ret_blk ?_
            | refine ax_ret_inv ?_
            | refine ax_q (q_not rfl) ?_
            | refine ax_q (q_pick rfl rfl) ?_
            | refine ax_q (q_extract rfl rfl) ?_)
          exact ax_ret hR rfl (badK hF hrefl)
        · cases b2
          · repeat (first
              | refine ax_q (q_move rfl) ?_
              | refine ax_q (q_assign rfl) ?_
              | refine ax_ops_nil ?_
              | refine ax_post_code ?_
              | refine ax_seq ?_
              | refine ax_region rfl ?_
              | refine ax_cond_true rfl ?_
              | refine ax_q (q_extract rfl rfl) ?_)
            refine ax_callv rfl rfl rfl n3 ?_
            repeat (first
              | refine ax_q (q_move rfl) ?_
              | refine ax_q (q_assign rfl) ?_
              | refine ax_ops_nil ?_
              | refine ax_post_code ?_
              | refine ax_seq ?_
              | refine ax_region rfl ?_
              | refine ax_guard rfl rfl ?_
              | refine ax_skip_not rfl rfl rfl ?_
              | refine ax_cond_true rfl ?_
              | refine ax_return ?_
              | refine ax_ret_code ?_
              | refine ax_ret_blk ?_
              | refine ax_ret_inv ?_
              | refine ax_q (q_not rfl) ?_
              | refine ax_q (q_pick rfl rfl) ?_
              | refine ax_q (q_extract rfl rfl) ?_)
            exact ax_ret hR rfl (badK hF hrefl)
          · have hv2 : ¬ 1 < v2 := fun h => by rw [if_neg (by decide), if_pos rfl, if_pos ⟨rfl, h⟩] at hrv; cases hrv
            repeat (first
              | refine ax_q (q_move rfl) ?_
              | refine ax_q (q_assign rfl) ?_
              | refine ax_ops_nil ?_
              | refine ax_post_code ?_
              | refine ax_seq ?_
              | refine ax_region rfl ?_
              | refine ax_cond_true rfl ?_
              | refine ax_q (q_extract rfl rfl) ?_)
            refine ax_callv rfl rfl rfl n3 ?_
            repeat (first
              | refine ax_q (q_move rfl) ?_
              | refine ax_q (q_assign rfl) ?_
              | refine ax_ops_nil ?_
              | refine ax_post_code ?_
              | refine ax_seq ?_
              | refine ax_region rfl ?_
              | refine ax_guard rfl rfl ?_
              | refine ax_q (q_gtr rfl rfl) ?_
              | refine ax_q (q_not rfl) ?_
              | refine ax_q (q_pick rfl rfl) ?_
              | refine ax_q (q_extract rfl rfl) ?_)
            refine ax_gsplitb rfl rfl (fun hb => ?_) (fun hb => absurd (of_decide_eq_true (by simpa using hb)) hv2)
            repeat (first
              | refine ax_q (q_move rfl) ?_
              | refine ax_q (q_assign rfl) ?_
              | refine ax_ops_nil ?_
              | refine ax_post_code ?_
              | refine ax_seq ?_
              | refine ax_region rfl ?_
              | refine ax_skip_not rfl rfl rfl ?_
              | refine ax_cond_true rfl ?_
              | refine ax_return ?_
              | refine ax_ret_code ?_
              | refine ax_ret_blk ?_
              | refine ax_ret_inv ?_
              | refine ax_q (q_pick rfl rfl) ?_)
            exact ax_ret hR rfl (badK hF hrefl)
    | some p =>
      obtain ⟨v, k⟩ := p
      simp only at h3
      apply ax_tail_code [(4, .str body), (7, .int .i64 want), (9, .sl 0 0 out.length), (10, .int .i64 last), (11, .str rest2), (16, .int .i64 v), (17, .bool true), (18, .int .i64 k)]
      · intro fin
        cases b1
        · cases hrv
        cases many
        · cases hrv
          repeat (first
            | refine ax_q (q_move rfl) ?_
            | refine ax_q (q_assign rfl) ?_
            | refine ax_ops_nil ?_
            | refine ax_post_code ?_
            | refine ax_seq ?_
            | refine ax_region rfl ?_
            | refine ax_q (q_extract rfl rfl) ?_)
          refine ax_cond_false rfl ?_
          repeat (first
            | refine ax_post_code ?_
            | refine ax_seq ?_
            | refine ax_skip ?_)
          exact fin _ ⟨rfl, rfl, rfl, rfl, rfl, rfl, rfl, rfl, trivial⟩
        · repeat (first
            | refine ax_q (q_move rfl) ?_
            | refine ax_q (q_assign rfl) ?_
            | refine ax_ops_nil ?_
            | refine ax_post_code ?_
            | refine ax_seq ?_
            | refine ax_region rfl ?_
            | refine ax_cond_true rfl ?_
            | refine ax_q (q_extract rfl rfl) ?_)
          cases b2
          · cases hrv
          rw [if_neg (by decide), if_pos rfl] at hrv
          by_cases hv2 : 1 < v2
          · rw [if_pos ⟨rfl, hv2⟩] at hrv
            cases hrv
            refine ax_callv rfl rfl rfl n3 ?_
            repeat (first
              | refine ax_q (q_move rfl) ?_
              | refine ax_q (q_assign rfl) ?_
              | refine ax_ops_nil ?_
              | refine ax_post_code ?_
              | refine ax_q (q_extract rfl rfl) ?_)
            refine ax_region rfl ?_
            repeat (first
              | refine ax_q (q_move rfl) ?_
              | refine ax_q (q_assign rfl) ?_
              | refine ax_ops_nil ?_
              | refine ax_post_code ?_
              | refine ax_seq ?_
              | refine ax_guard rfl rfl ?_
              | refine ax_q (q_gtr rfl rfl) ?_
              | refine ax_q (q_pick rfl rfl) ?_)
            rw [decide_eq_true hv2]
            exact fin _ ⟨rfl, rfl, rfl, rfl, rfl, rfl, rfl, rfl, trivial⟩
          · rw [if_neg (fun h => hv2 h.2)] at hrv
            cases hrv
      have hk1 : 1 ≤ k := by
        split at hrv
        · cases hrv
        · split at hrv
          · split at hrv
            · rename_i hx
              cases hrv
              exact Int.le_of_lt hx.2
            · cases hrv
          · cases hrv
            exact Int.le_refl 1
      repeat (first
        | refine ax_q (q_move rfl) ?_
        | refine ax_region rfl ?_
        | refine ax_guard rfl rfl ?_
        | refine ax_q (q_gtr rfl rfl) ?_
        | refine ax_q (q_not rfl) ?_
        | refine ax_q (q_pick rfl rfl) ?_)
      refine ax_gsplit rfl rfl (fun h4 => ?_) (fun h4 => ?_)
      · rw [if_pos (.inl h4)] at h3
        have hF : F = .bad 5 := by rw [hU, ← h3]
        repeat (first
          | refine ax_q (q_assign rfl) ?_
          | refine ax_ops_nil ?_
          | refine ax_post_code ?_
          | refine ax_seq ?_
          | refine ax_region rfl ?_
          | refine ax_skip_not rfl rfl rfl ?_
          | refine ax_cond_true rfl ?_
          | refine ax_return ?_
          | refine ax_ret_code ?_
          | refine ax_ret_blk ?_
          | refine ax_ret_inv ?_
          | refine ax_q (q_pick rfl rfl) ?_)
        exact ax_ret hR rfl (badK hF hrefl)
      repeat (first
        | refine ax_q (q_move rfl) ?_
        | refine ax_ops_nil ?_
        | refine ax_post_code ?_
        | refine ax_guard rfl rfl ?_
        | refine ax_q (q_eql rfl rfl) ?_
        | refine ax_q (q_pick rfl rfl) ?_)
      refine ax_cond_dec rfl (fun h5 => ?_) (fun h5 => ?_)
      · rw [if_pos (.inr h5)] at h3
        have hF : F = .bad 5 := by rw [hU, ← h3]
        repeat (first
          | refine ax_q (q_assign rfl) ?_
          | refine ax_ops_nil ?_
          | refine ax_post_code ?_
          | refine ax_seq ?_
          | refine ax_region rfl ?_
          | refine ax_return ?_
          | refine ax_ret_code ?_
          | refine ax_ret_blk ?_
          | refine ax_ret_inv ?_)
        exact ax_ret hR rfl (badK hF hrefl)
      rw [if_neg (by rintro (h | h); exact h4 h; exact h5 h)] at h3
      repeat (first
        | refine ax_q (q_move rfl) ?_
        | refine ax_ops_nil ?_
        | refine ax_post_code ?_
        | refine ax_seq ?_
        | refine ax_region rfl ?_
        | refine ax_skip ?_
        | refine ax_q (q_gtr rfl rfl) ?_
        | refine ax_q (q_len rfl rfl rfl) ?_
        | refine ax_q (q_sub rfl rfl (by omega)) ?_)
      refine ax_cond_dec rfl (fun h6 => ?_) (fun h6 => ?_)
      · rw [if_pos h6] at h3
        have hF : F = .bad 2 := by rw [hU, ← h3]
        repeat (first
          | refine ax_q (q_assign rfl) ?_
          | refine ax_ops_nil ?_
          | refine ax_post_code ?_
          | refine ax_seq ?_
          | refine ax_region rfl ?_
          | refine ax_return ?_
          | refine ax_ret_code ?_
          | refine ax_ret_blk ?_
          | refine ax_ret_inv ?_)
        exact ax_ret hR rfl (badK hF hrefl)
      rw [if_neg h6] at h3
      obtain ⟨m, rfl⟩ : ∃ m : Nat, k = m := ⟨k.toNat, by omega⟩
      rw [Int.toNat_natCast] at h3
      have hmo : m + out.length ≤ 4096 := by omega
      repeat (first
        | refine ax_q (q_move rfl) ?_
        | refine ax_post_code ?_
        | refine ax_seq ?_
        | refine ax_region rfl ?_
        | refine ax_skip ?_
        | refine ax_buildSliceRo rfl rfl rfl rfl rfl rfl rfl rfl rfl rfl rfl ?_)
      refine ax_callv rfl rfl rfl (repeatI v m ⟨by omega, by omega⟩) ?_
      skip
      refine ax_append rfl rfl rfl rfl rfl rfl rfl rfl rfl rfl rfl rfl (by show 0 + m ≤ (List.replicate m v).length; simp) rfl (by show (out.length + m) * 8 ≤ _ ∧ _; omega) (fun i j _ _ => rfl) (by rw [hfix]; exact fun h => h) ?_
      repeat (first
        | refine ax_q (q_move rfl) ?_
        | refine ax_q (q_assign rfl) ?_
        | refine ax_ops_nil ?_
        | refine ax_post_code ?_
        | refine ax_region rfl ?_
        | refine ax_post_blk ?_)
      refine ax_post_inv ⟨(rest2, out ++ List.replicate m v, v), ⟨by simp only; omega, by simp; omega, ?_⟩, by simp only; omega, ⟨rfl, rfl, ?_, rfl, rfl, trivial⟩, ?_⟩
      · rw [← h3]
        exact unpGo_more _ _ _ _ _ (Nat.le_refl _) (by show rest2.length ≤ _; omega)
      · show some (AV.sl 0 0 (out.length + m)) = _
        simp
      · show ([some ⟨3, .ints .i64 (out ++ List.take m (List.drop 0 (List.replicate m v)))⟩] : AHeap) = _
        simp
  · have hre : rest = [] := by simpa using h0
    subst hre
    have hUg : U = .good out := by rw [← h3]; rfl
    subst hUg
    simp only at hU
    repeat (first
      | refine ax_q (q_move rfl) ?_
      | refine ax_post_code ?_
      | refine ax_seq ?_
      | refine ax_region rfl ?_
      | refine ax_exit ?_
      | refine ax_exit_here ?_
      | refine ax_exit_code ?_
      | refine ax_exit_inv ?_)
    refine ax_callv rfl rfl rfl su ?_
    repeat (first
      | refine ax_q (q_move rfl) ?_
      | refine ax_ops_nil ?_
      | refine ax_post_code ?_
      | refine ax_q (q_neq rfl rfl) ?_)
    refine ax_cond_dec rfl (fun h4 => ?_) (fun h4 => ?_)
    · rw [if_neg h4] at hU
      repeat (first
        | refine ax_q (q_assign rfl) ?_
        | refine ax_ops_nil ?_
        | refine ax_post_code ?_
        | refine ax_seq ?_
        | refine ax_region rfl ?_
        | refine ax_return ?_
        | refine ax_ret_code ?_)
      exact ax_ret hR rfl (badK hU (refl1 refless_ints))
    · rw [if_pos (by omega)] at hU
      subst hU
      repeat (first
        | refine ax_q (q_move rfl) ?_
        | refine ax_q (q_assign rfl) ?_
        | refine ax_ops_nil ?_
        | refine ax_post_code ?_
        | refine ax_seq ?_
        | refine ax_region rfl ?_
        | refine ax_skip ?_
        | refine ax_return ?_)
      exact ax_ret hR rfl ⟨rfl, ⟨fun o ho => by simp at ho; subst ho; exact Nat.le_of_eq (by simp [Cells.len]), trivial, trivial⟩, refl1 refless_ints⟩
end Go.Proofs.YtbeegiiiochblaaDoor

namespace Go.Proofs.YtbeegiiiochblaaDoor
open Go.Ax Go.Ax.Tb Go.RowKit
attribute [local irreducible] Ax Post QOp ACall
set_option maxRecDepth 100000
set_option maxHeartbeats 4000000

theorem At_ok (s : List UInt8) (i : Int) (h : s.length ≤ 281474976710656) : VCall Tryd.prog 11 [.str s, .int .i64 i] (.tup [.int .i64 (atF (unpAll s) i).1, .int .i64 (atF (unpAll s) i).2]) := by
  have hu := Unpack_ok s h
  have hb := @unpAll_bad s
  have hl := @unpAll_len s
  refine ACall.value0 (acall_of_ax (P := Tryd.prog) (fn := Tryd.f11) rfl rfl (by kernel_rfl) rfl (fun c hR hfix => ?_)) (fix := fun _ => False) (fun _ h => h) rfl rfl
  generalize unpAll s = U at *
  cases U with
  | bad e =>
    have hb := hb rfl
    have hu : VCall Tryd.prog 9 [.str s] (.tup [.nil, .int .i64 e]) := hu
    have ha : atF (.bad e) i = (0, e) := rfl
    rw [ha] at hR
    repeat (first
      | refine ax_q (q_move rfl) ?_
      | refine ax_q (q_assign rfl) ?_
      | refine ax_ops_nil ?_
      | refine ax_post_code ?_
      | refine ax_seq ?_
      | refine ax_region rfl ?_)
    refine ax_callv rfl rfl rfl hu ?_
    repeat (first
      | refine ax_q (q_move rfl) ?_
      | refine ax_q (q_assign rfl) ?_
      | refine ax_ops_nil ?_
      | refine ax_post_code ?_
      | refine ax_seq ?_
      | refine ax_region rfl ?_
      | refine ax_q (q_neq rfl rfl) ?_
      | refine ax_q (q_extract rfl rfl) ?_)
    refine ax_cond_dec rfl (fun _ => ?_) (fun h => absurd hb h)
    repeat (first
      | refine ax_q (q_move rfl) ?_
      | refine ax_q (q_assign rfl) ?_
      | refine ax_ops_nil ?_
      | refine ax_post_code ?_
      | refine ax_seq ?_
      | refine ax_region rfl ?_
      | refine ax_return ?_
      | refine ax_ret_code ?_)
    exact ax_ret hR rfl rfl
  | good l =>
    have hl := hl rfl
    have hu : VCall Tryd.prog 9 [.str s] (.tup [.ro (.ints .i64 l) 0 l.length, .int .i64 0]) := hu
    have ha : atF (.good l) i = if i < 0 ∨ (l.length : Int) ≤ i then (0, 4) else (l.getD i.toNat 0, 0) := rfl
    repeat (first
      | refine ax_q (q_move rfl) ?_
      | refine ax_q (q_assign rfl) ?_
      | refine ax_ops_nil ?_
      | refine ax_post_code ?_
      | refine ax_seq ?_
      | refine ax_region rfl ?_)
    refine ax_callv rfl rfl rfl hu ?_
    repeat (first
      | refine ax_q (q_move rfl) ?_
      | refine ax_q (q_assign rfl) ?_
      | refine ax_ops_nil ?_
      | refine ax_post_code ?_
      | refine ax_seq ?_
      | refine ax_region rfl ?_
      | refine ax_cond_false rfl ?_
      | refine ax_skip ?_
      | refine ax_q (q_lss rfl rfl) ?_
      | refine ax_q (q_neq rfl rfl) ?_
      | refine ax_q (q_extract rfl rfl) ?_)
    by_cases hr : i < 0 ∨ (l.length : Int) ≤ i
    · rw [ha, if_pos hr] at hR
      refine ax_gsplit rfl rfl (fun h0 => ?_) (fun h0 => ?_)
      · repeat (first
          | refine ax_q (q_assign rfl) ?_
          | refine ax_ops_nil ?_
          | refine ax_post_code ?_
          | refine ax_seq ?_
          | refine ax_region rfl ?_
          | refine ax_skip_not rfl rfl rfl ?_
          | refine ax_cond_true rfl ?_
          | refine ax_return ?_
          | refine ax_ret_code ?_
          | refine ax_q (q_pick rfl rfl) ?_)
        exact ax_ret hR rfl rfl
      · repeat (first
          | refine ax_q (q_move rfl) ?_
          | refine ax_ops_nil ?_
          | refine ax_post_code ?_
          | refine ax_guard rfl rfl ?_
          | refine ax_q (q_geq rfl rfl) ?_
          | refine ax_q (q_pick rfl rfl) ?_
          | refine ax_q (q_len rfl rfl rfl) ?_)
        refine ax_cond_dec rfl (fun h1 => ?_) (fun h1 => absurd hr (by omega))
        repeat (first
          | refine ax_q (q_assign rfl) ?_
          | refine ax_ops_nil ?_
          | refine ax_post_code ?_
          | refine ax_seq ?_
          | refine ax_region rfl ?_
          | refine ax_return ?_
          | refine ax_ret_code ?_)
        exact ax_ret hR rfl rfl
    · rw [ha, if_neg hr] at hR
      refine ax_gsplit rfl rfl (fun h0 => absurd hr (by omega)) (fun h0 => ?_)
      obtain ⟨j, rfl⟩ : ∃ j : Nat, i = j := ⟨i.toNat, by omega⟩
      rw [Int.toNat_natCast] at hR
      repeat (first
        | refine ax_q (q_move rfl) ?_
        | refine ax_ops_nil ?_
        | refine ax_post_code ?_
        | refine ax_guard rfl rfl ?_
        | refine ax_q (q_geq rfl rfl) ?_
        | refine ax_q (q_pick rfl rfl) ?_
        | refine ax_q (q_len rfl rfl rfl) ?_)
      refine ax_cond_dec rfl (fun h1 => absurd hr (by omega)) (fun h1 => ?_)
      repeat (first
        | refine ax_q (q_move rfl) ?_
        | refine ax_q (q_assign rfl) ?_
        | refine ax_q (q_loadi_rp rfl rfl rfl) ?_
        | refine ax_ops_nil ?_
        | refine ax_post_code ?_
        | refine ax_seq ?_
        | refine ax_region rfl ?_
        | refine ax_skip ?_
        | refine ax_return ?_
        | refine ax_q (q_index_ro' rfl rfl rfl rfl (by first | (simp only [Nat.zero_add, Int.toNat_natCast, Int.toNat_zero]; exact rfl) | exact rfl) (by omega)) ?_)
      exact ax_ret hR rfl rfl
theorem Code_ok (p q : Int) : VCall Tryd.prog 13 [.agg [.int .i64 p, .int .i64 q]] (.tup [.int .i64 (codeF p q).1, .int .i64 (codeF p q).2]) := by
  have hc : codeF p q = if p < 1 ∨ 3 < p ∨ q < 0 ∨ 9999 < q ∨ 9999 < 3 * q + p - 1 then (0, 4)
    else if p = 3 ∧ q ≠ 0 then (0, 3) else (3 * q + p - 1, 0) := rfl
  refine ACall.value0 (acall_of_ax (P := Tryd.prog) (fn := Tryd.f13) rfl rfl (by kernel_rfl) rfl (fun c hR hfix => ?_)) (fix := fun _ => False) (fun _ h => h) rfl rfl
  generalize codeF p q = r at *
  repeat (first
    | refine ax_q (q_move rfl) ?_
    | refine ax_q (q_assign rfl) ?_
    | refine ax_ops_nil ?_
    | refine ax_post_code ?_
    | refine ax_seq ?_
    | refine ax_region rfl ?_
    | refine ax_q (q_loadb_ptr rfl rfl rfl rfl rfl) ?_
    | refine ax_q (q_lss rfl rfl) ?_
    | refine ax_q (q_field_ptr rfl rfl rfl rfl rfl rfl) ?_
    | refine ax_box rfl rfl ?_)
  refine ax_gsplit rfl rfl (fun h0 => ?_) (fun h0 => ?_)
  · rw [if_pos (by omega)] at hc
    subst hc
    repeat (first
      | refine ax_q (q_move rfl) ?_
      | refine ax_q (q_assign rfl) ?_
      | refine ax_ops_nil ?_
      | refine ax_post_code ?_
      | refine ax_seq ?_
      | refine ax_region rfl ?_
      | refine ax_skip_not rfl rfl rfl ?_
      | refine ax_cond_true rfl ?_
      | refine ax_return ?_
      | refine ax_ret_code ?_
      | refine ax_q (q_pick rfl rfl) ?_)
    exact ax_ret hR rfl rfl
  repeat (first
    | refine ax_q (q_move rfl) ?_
    | refine ax_guard rfl rfl ?_
    | refine ax_q (q_loadb_ptr rfl rfl rfl rfl rfl) ?_
    | refine ax_q (q_gtr rfl rfl) ?_
    | refine ax_q (q_pick rfl rfl) ?_
    | refine ax_q (q_field_ptr rfl rfl rfl rfl rfl rfl) ?_)
  refine ax_gsplit rfl rfl (fun h1 => ?_) (fun h1 => ?_)
  · rw [if_pos (by omega)] at hc
    subst hc
    repeat (first
      | refine ax_q (q_move rfl) ?_
      | refine ax_q (q_assign rfl) ?_
      | refine ax_ops_nil ?_
      | refine ax_post_code ?_
      | refine ax_seq ?_
      | refine ax_region rfl ?_
      | refine ax_skip_not rfl rfl rfl ?_
      | refine ax_cond_true rfl ?_
      | refine ax_return ?_
      | refine ax_ret_code ?_
      | refine ax_q (q_pick rfl rfl) ?_)
    exact ax_ret hR rfl rfl
  repeat (first
    | refine ax_q (q_move rfl) ?_
    | refine ax_guard rfl rfl ?_
    | refine ax_q (q_loadb_ptr rfl rfl rfl rfl rfl) ?_
    | refine ax_q (q_lss rfl rfl) ?_
    | refine ax_q (q_pick rfl rfl) ?_
    | refine ax_q (q_field_ptr rfl rfl rfl rfl rfl rfl) ?_)
  refine ax_gsplit rfl rfl (fun h2 => ?_) (fun h2 => ?_)
  · rw [if_pos (by omega)] at hc
    subst hc
    repeat (first
      | refine ax_q (q_move rfl) ?_
      | refine ax_q (q_assign rfl) ?_
      | refine ax_ops_nil ?_
      | refine ax_post_code ?_
      | refine ax_seq ?_
      | refine ax_region rfl ?_
      | refine ax_skip_not rfl rfl rfl ?_
      | refine ax_cond_true rfl ?_
      | refine ax_return ?_
      | refine ax_ret_code ?_
      | refine ax_q (q_pick rfl rfl) ?_)
    exact ax_ret hR rfl rfl
  repeat (first
    | refine ax_q (q_move rfl) ?_
    | refine ax_guard rfl rfl ?_
    | refine ax_q (q_loadb_ptr rfl rfl rfl rfl rfl) ?_
    | refine ax_q (q_gtr rfl rfl) ?_
    | refine ax_q (q_pick rfl rfl) ?_
    | refine ax_q (q_field_ptr rfl rfl rfl rfl rfl rfl) ?_)
  refine ax_gsplit rfl rfl (fun h3 => ?_) (fun h3 => ?_)
  · rw [if_pos (by omega)] at hc
    subst hc
    repeat (first
      | refine ax_q (q_assign rfl) ?_
      | refine ax_ops_nil ?_
      | refine ax_post_code ?_
      | refine ax_seq ?_
      | refine ax_region rfl ?_
      | refine ax_skip_not rfl rfl rfl ?_
      | refine ax_cond_true rfl ?_
      | refine ax_return ?_
      | refine ax_ret_code ?_
      | refine ax_q (q_pick rfl rfl) ?_)
    exact ax_ret hR rfl rfl
  repeat (first
    | refine ax_guard rfl rfl ?_
    | refine ax_q (q_loadb_ptr rfl rfl rfl rfl rfl) ?_
    | refine ax_q (q_field_ptr rfl rfl rfl rfl rfl rfl) ?_)
  refine ax_q (q_mul rfl rfl (by omega)) ?_
  repeat (first
    | refine ax_ops_nil ?_
    | refine ax_post_code ?_
    | refine ax_guard rfl rfl ?_
    | refine ax_q (q_loadb_ptr rfl rfl rfl rfl rfl) ?_
    | refine ax_q (q_gtr rfl rfl) ?_
    | refine ax_q (q_pick rfl rfl) ?_
    | refine ax_q (q_add rfl rfl (by omega)) ?_
    | refine ax_q (q_sub rfl rfl (by omega)) ?_
    | refine ax_q (q_field_ptr rfl rfl rfl rfl rfl rfl) ?_)
  refine ax_cond_dec rfl (fun h4 => ?_) (fun h4 => ?_)
  · rw [if_pos (by omega)] at hc
    subst hc
    repeat (first
      | refine ax_q (q_assign rfl) ?_
      | refine ax_ops_nil ?_
      | refine ax_post_code ?_
      | refine ax_seq ?_
      | refine ax_region rfl ?_
      | refine ax_return ?_
      | refine ax_ret_code ?_)
    exact ax_ret hR rfl rfl
  rw [if_neg (by omega)] at hc
  repeat (first
    | refine ax_q (q_move rfl) ?_
    | refine ax_post_code ?_
    | refine ax_seq ?_
    | refine ax_region rfl ?_
    | refine ax_skip ?_
    | refine ax_q (q_loadb_ptr rfl rfl rfl rfl rfl) ?_
    | refine ax_q (q_eql rfl rfl) ?_
    | refine ax_q (q_field_ptr rfl rfl rfl rfl rfl rfl) ?_)
  refine ax_gsplit rfl rfl (fun h5 => ?_) (fun h5 => ?_)
  · repeat (first
      | refine ax_ops_nil ?_
      | refine ax_post_code ?_
      | refine ax_guard rfl rfl ?_
      | refine ax_q (q_loadb_ptr rfl rfl rfl rfl rfl) ?_
      | refine ax_q (q_neq rfl rfl) ?_
      | refine ax_q (q_pick rfl rfl) ?_
      | refine ax_q (q_field_ptr rfl rfl rfl rfl rfl rfl) ?_)
    refine ax_cond_dec rfl (fun h6 => ?_) (fun h6 => ?_)
    · rw [if_pos ⟨h5, h6⟩] at hc
      subst hc
      repeat (first
        | refine ax_q (q_assign rfl) ?_
        | refine ax_ops_nil ?_
        | refine ax_post_code ?_
        | refine ax_seq ?_
        | refine ax_region rfl ?_
        | refine ax_return ?_
        | refine ax_ret_code ?_)
      exact ax_ret hR rfl rfl
    · rw [if_neg (fun h => h6 h.2)] at hc
      subst hc
      repeat (first
        | refine ax_post_code ?_
        | refine ax_seq ?_
        | refine ax_region rfl ?_
        | refine ax_skip ?_
        | refine ax_q (q_loadb_ptr rfl rfl rfl rfl rfl) ?_
        | refine ax_q (q_field_ptr rfl rfl rfl rfl rfl rfl) ?_)
      refine ax_q (q_mul rfl rfl (by omega)) ?_
      repeat (first
        | refine ax_q (q_assign rfl) ?_
        | refine ax_ops_nil ?_
        | refine ax_post_code ?_
        | refine ax_return ?_
        | refine ax_q (q_loadb_ptr rfl rfl rfl rfl rfl) ?_
        | refine ax_q (q_add rfl rfl (by omega)) ?_
        | refine ax_q (q_sub rfl rfl (by omega)) ?_
        | refine ax_q (q_field_ptr rfl rfl rfl rfl rfl rfl) ?_)
      exact ax_ret hR rfl rfl
  · rw [if_neg (fun h => h5 h.1)] at hc
    subst hc
    repeat (first
      | refine ax_ops_nil ?_
      | refine ax_post_code ?_
      | refine ax_seq ?_
      | refine ax_region rfl ?_
      | refine ax_skip_not rfl rfl rfl ?_
      | refine ax_cond_false rfl ?_
      | refine ax_skip ?_
      | refine ax_q (q_loadb_ptr rfl rfl rfl rfl rfl) ?_
      | refine ax_q (q_pick rfl rfl) ?_
      | refine ax_q (q_field_ptr rfl rfl rfl rfl rfl rfl) ?_)
    refine ax_q (q_mul rfl rfl (by omega)) ?_
    repeat (first
      | refine ax_q (q_assign rfl) ?_
      | refine ax_ops_nil ?_
      | refine ax_post_code ?_
      | refine ax_return ?_
      | refine ax_q (q_loadb_ptr rfl rfl rfl rfl rfl) ?_
      | refine ax_q (q_add rfl rfl (by omega)) ?_
      | refine ax_q (q_sub rfl rfl (by omega)) ?_
      | refine ax_q (q_field_ptr rfl rfl rfl rfl rfl rfl) ?_)
    exact ax_ret hR rfl rfl
theorem Entry_ok (n : Int) : VCall Tryd.prog 14 [.int .i64 n] (.tup [.agg [.int .i64 (entryF n).1.1, .int .i64 (entryF n).1.2], .int .i64 (entryF n).2]) := by
  have hc : entryF n = if n < 0 ∨ 9999 < n then ((0, 0), 4)
    else if n % 3 + 1 = 3 ∧ n / 3 ≠ 0 then ((0, 0), 3) else ((n % 3 + 1, n / 3), 0) := rfl
  refine ACall.value0 (acall_of_ax (P := Tryd.prog) (fn := Tryd.f14) rfl rfl (by kernel_rfl) rfl (fun c hR hfix => ?_)) (fix := fun _ => False) (fun _ h => h) rfl rfl
  generalize entryF n = r at *
  repeat (first
    | refine ax_q (q_move rfl) ?_
    | refine ax_q (q_assign rfl) ?_
    | refine ax_ops_nil ?_
    | refine ax_post_code ?_
    | refine ax_seq ?_
    | refine ax_region rfl ?_
    | refine ax_q (q_lss rfl rfl) ?_
    | refine ax_alloc rfl rfl rfl ?_)
  by_cases hr : n < 0 ∨ 9999 < n
  · rw [if_pos hr] at hc
    subst hc
    refine ax_gsplit rfl rfl (fun h0 => ?_) (fun h0 => ?_)
    · repeat (first
        | refine ax_ops_nil ?_
        | refine ax_post_code ?_
        | refine ax_seq ?_
        | refine ax_region rfl ?_
        | refine ax_skip_not rfl rfl rfl ?_
        | refine ax_cond_true rfl ?_
        | refine ax_q (q_pick rfl rfl) ?_
        | refine ax_q (q_build rfl rfl rfl rfl rfl rfl) ?_)
      refine ax_storeagg (c' := .box [.int .i64 0, .int .i64 0]) rfl rfl rfl rfl rfl Nat.zero_lt_one rfl rfl (fun i' j' hi' hj' => ?_) ?_
      · rw [if_pos (Nat.lt_one_iff.1 hi')]; rfl
      repeat (first
        | refine ax_q (q_assign rfl) ?_
        | refine ax_ops_nil ?_
        | refine ax_post_code ?_
        | refine ax_return ?_
        | refine ax_ret_code ?_)
      exact ax_ret hR rfl rfl
    · repeat (first
        | refine ax_q (q_move rfl) ?_
        | refine ax_ops_nil ?_
        | refine ax_post_code ?_
        | refine ax_guard rfl rfl ?_
        | refine ax_q (q_gtr rfl rfl) ?_
        | refine ax_q (q_pick rfl rfl) ?_)
      refine ax_cond_dec rfl (fun h1 => ?_) (fun h1 => absurd hr (by omega))
      repeat (first
        | refine ax_seq ?_
        | refine ax_region rfl ?_
        | refine ax_q (q_build rfl rfl rfl rfl rfl rfl) ?_)
      refine ax_storeagg (c' := .box [.int .i64 0, .int .i64 0]) rfl rfl rfl rfl rfl Nat.zero_lt_one rfl rfl (fun i' j' hi' hj' => ?_) ?_
      · rw [if_pos (Nat.lt_one_iff.1 hi')]; rfl
      repeat (first
        | refine ax_q (q_assign rfl) ?_
        | refine ax_ops_nil ?_
        | refine ax_post_code ?_
        | refine ax_return ?_
        | refine ax_ret_code ?_)
      exact ax_ret hR rfl rfl
  rw [if_neg hr] at hc
  refine ax_gsplit rfl rfl (fun h0 => absurd hr (by omega)) (fun h0 => ?_)
  repeat (first
    | refine ax_q (q_move rfl) ?_
    | refine ax_ops_nil ?_
    | refine ax_post_code ?_
    | refine ax_guard rfl rfl ?_
    | refine ax_q (q_gtr rfl rfl) ?_
    | refine ax_q (q_pick rfl rfl) ?_)
  refine ax_cond_dec rfl (fun h1 => absurd hr (by omega)) (fun h1 => ?_)
  repeat (first
    | refine ax_q (q_move rfl) ?_
    | refine ax_post_code ?_
    | refine ax_seq ?_
    | refine ax_region rfl ?_
    | refine ax_skip ?_
    | refine ax_q (q_add rfl rfl (by omega)) ?_
    | refine ax_q (q_quo rfl rfl (by omega)) ?_
    | refine ax_q (q_rem rfl rfl (by omega)) ?_
    | refine ax_q (q_build rfl rfl rfl rfl rfl rfl) ?_
    | refine ax_alloc rfl rfl rfl ?_)
  refine ax_storeagg (c' := .box [.int .i64 (n % 3 + 1), .int .i64 (n / 3)]) rfl rfl rfl rfl rfl Nat.zero_lt_one rfl rfl (fun i' j' hi' hj' => ?_) ?_
  · rw [if_pos (Nat.lt_one_iff.1 hi')]; rfl
  repeat (first
    | refine ax_q (q_move rfl) ?_
    | refine ax_ops_nil ?_
    | refine ax_post_code ?_
    | refine ax_seq ?_
    | refine ax_region rfl ?_
    | refine ax_q (q_loadb_ptr rfl rfl rfl rfl rfl) ?_
    | refine ax_q (q_eql rfl rfl) ?_
    | refine ax_q (q_field_ptr rfl rfl rfl rfl rfl rfl) ?_)
  refine ax_gsplit rfl rfl (fun h2 => ?_) (fun h2 => ?_)
  · repeat (first
      | refine ax_ops_nil ?_
      | refine ax_post_code ?_
      | refine ax_guard rfl rfl ?_
      | refine ax_q (q_loadb_ptr rfl rfl rfl rfl rfl) ?_
      | refine ax_q (q_neq rfl rfl) ?_
      | refine ax_q (q_pick rfl rfl) ?_
      | refine ax_q (q_field_ptr rfl rfl rfl rfl rfl rfl) ?_)
    refine ax_cond_dec rfl (fun h3 => ?_) (fun h3 => ?_)
    · rw [if_pos ⟨h2, h3⟩] at hc
      subst hc
      repeat (first
        | refine ax_seq ?_
        | refine ax_region rfl ?_
        | refine ax_q (q_build rfl rfl rfl rfl rfl rfl) ?_)
      refine ax_storeagg (c' := .box [.int .i64 0, .int .i64 0]) rfl rfl rfl rfl rfl Nat.zero_lt_one rfl rfl (fun i' j' hi' hj' => ?_) ?_
      · rw [if_pos (Nat.lt_one_iff.1 hi')]; rfl
      repeat (first
        | refine ax_q (q_assign rfl) ?_
        | refine ax_ops_nil ?_
        | refine ax_post_code ?_
        | refine ax_return ?_
        | refine ax_ret_code ?_)
      exact ax_ret hR rfl rfl
    · rw [if_neg (fun h => h3 h.2)] at hc
      subst hc
      repeat (first
        | refine ax_post_code ?_
        | refine ax_seq ?_
        | refine ax_region rfl ?_
        | refine ax_skip ?_
        | refine ax_q (q_loadagg_ptr rfl rfl rfl rfl rfl rfl rfl (by first | exact Nat.zero_lt_one | assumption | omega)) ?_)
      refine ax_storeagg (c' := .box [.int .i64 (n % 3 + 1), .int .i64 (n / 3)]) rfl rfl rfl rfl rfl Nat.zero_lt_one rfl rfl (fun i' j' hi' hj' => ?_) ?_
      · rw [if_pos (Nat.lt_one_iff.1 hi')]; rfl
      repeat (first
        | refine ax_q (q_assign rfl) ?_
        | refine ax_ops_nil ?_
        | refine ax_post_code ?_
        | refine ax_return ?_)
      exact ax_ret hR rfl rfl
  · rw [if_neg (fun h => h2 h.1)] at hc
    subst hc
    repeat (first
      | refine ax_ops_nil ?_
      | refine ax_post_code ?_
      | refine ax_seq ?_
      | refine ax_region rfl ?_
      | refine ax_skip_not rfl rfl rfl ?_
      | refine ax_cond_false rfl ?_
      | refine ax_skip ?_
      | refine ax_q (q_pick rfl rfl) ?_
      | refine ax_q (q_loadagg_ptr rfl rfl rfl rfl rfl rfl rfl (by first | exact Nat.zero_lt_one | assumption | omega)) ?_)
    refine ax_storeagg (c' := .box [.int .i64 (n % 3 + 1), .int .i64 (n / 3)]) rfl rfl rfl rfl rfl Nat.zero_lt_one rfl rfl (fun i' j' hi' hj' => ?_) ?_
    · rw [if_pos (Nat.lt_one_iff.1 hi')]; rfl
    repeat (first
      | refine ax_q (q_assign rfl) ?_
      | refine ax_ops_nil ?_
      | refine ax_post_code ?_
      | refine ax_return ?_)
    exact ax_ret hR rfl rfl
end Go.Proofs.YtbeegiiiochblaaDoor

/-
  The laws of tables as text, in plain Lean.
-/
namespace Go.Ax.Tb

theorem cutF_found {b : UInt8} : ∀ {s : List UInt8}, (cutF b s).2.2 = true → s = (cutF b s).1 ++ b :: (cutF b s).2.1 ∧ b ∉ (cutF b s).1
  | [], h => by cases h
  | c :: r, h => by
    rw [cutF] at h ⊢
    by_cases hc : c = b
    · rw [if_pos hc] at h ⊢
      subst hc
      exact ⟨rfl, by simp⟩
    · rw [if_neg hc] at h ⊢
      have ih := cutF_found (b := b) (s := r) h
      refine ⟨by rw [List.cons_append]; congr 1; exact ih.1, ?_⟩
      simp only [List.mem_cons, not_or]
      exact ⟨fun e => hc e.symm, ih.2⟩
def packed (l : List Int) : List UInt8 := packB l.length l ++ [35] ++ Lib.itoa (sumF (packB l.length l))
theorem sum_digits (B : List UInt8) : ∃ u : Nat, sumF B = u ∧ u < 4294967296 ∧ Lib.itoa (sumF B) = Lib.decDigits u := by
  have hb := sumF_bd B
  obtain ⟨u, hu⟩ : ∃ u : Nat, sumF B = u := ⟨(sumF B).toNat, by omega⟩
  exact ⟨u, hu, by omega, by rw [hu, itoa_nat]⟩
theorem packed_no (l : List Int) (h : ∀ x ∈ l, 0 ≤ x) : (35 : UInt8) ∉ packB l.length l := (pack_ends l.length l h).2
/-- What is packed is unpacked. -/
theorem unp_packed {l : List Int} (hl : l.length ≤ 4096) (hx : ∀ x ∈ l, 0 ≤ x ∧ x ≤ 9999) : unpAll (packed l) = .good l := by
  have h0 : ∀ x ∈ l, 0 ≤ x := fun x h => (hx x h).1
  have hno := packed_no l h0
  have he := (pack_ends l.length l h0).1
  have hup : unpF (packB l.length l) = .good l := by
    have := unp_pack l.length l (packB l.length l).length [] (-1) (Nat.le_refl _) (Nat.le_refl _) (by simp; omega) hx (fun hne => by
      obtain ⟨v, r, rfl⟩ : ∃ v r, l = v :: r := by
        cases l with
        | nil => exact absurd rfl hne
        | cons v r => exact ⟨v, r, rfl⟩
      have := h0 v (by simp)
      simp only [List.getD_cons_zero]
      omega)
    rw [List.nil_append] at this
    exact this
  obtain ⟨u, hu, hub, hui⟩ := sum_digits (packB l.length l)
  obtain ⟨d1, d2⟩ := num_digits u (by omega)
  have hc : cutF 35 (packed l) = (packB l.length l, Lib.itoa (sumF (packB l.length l)), true) := by
    unfold packed
    rw [List.append_assoc, List.singleton_append]
    exact cutF_at hno
  unfold unpAll
  rw [hc]
  simp only
  rw [hui, d1, d2, hup, hu, if_neg ?_]
  · simp only; rw [if_pos trivial]
  · rintro (h | h | ⟨h1, h2⟩)
    · cases h
    · cases h
    · rcases he with he | ⟨q, he⟩
      · exact h1 he
      · rw [he] at h2
        unfold endsW at h2
        simp at h2
/-- What a text that is unpacked looks like. -/
theorem good_form {s : List UInt8} {l : List Int} (h : unpAll s = .good l) : ∃ B : List UInt8, s = B ++ 35 :: Lib.itoa (sumF B) ∧ (35 : UInt8) ∉ B := by
  unfold unpAll at h
  split at h
  · cases h
  · rename_i h1
    simp only [not_or] at h1
    obtain ⟨f1, f2, _⟩ := h1
    have f1 : (cutF 35 s).2.2 = true := by simpa using f1
    have f2 : numB (cutF 35 s).2.1 = true := by simpa using f2
    obtain ⟨g1, g2⟩ := cutF_found f1
    split at h
    · cases h
    · split at h
      · rename_i h3
        obtain ⟨n, _, _, n3, n4⟩ := numB_ok f2
        refine ⟨(cutF 35 s).1, ?_, g2⟩
        rw [h3, n4, n3]
        exact g1
      · cases h
theorem no_in_itoa (B : List UInt8) : (35 : UInt8) ∉ Lib.itoa (sumF B) := by
  obtain ⟨u, _, _, hu⟩ := sum_digits B
  rw [hu]
  exact no_in_digits u 35 (by decide)
theorem hash_at {B D : List UInt8} (hB : (35 : UInt8) ∉ B) (hD : (35 : UInt8) ∉ D) (i : Nat) : (B ++ 35 :: D)[i]? = some 35 ↔ i = B.length := by
  constructor
  · intro h
    rcases Nat.lt_trichotomy i B.length with hl | hl | hl
    · rw [List.getElem?_append_left hl] at h
      exact absurd (List.mem_of_getElem? h) hB
    · exact hl
    · rw [List.getElem?_append_right (by omega)] at h
      obtain ⟨j, hj⟩ : ∃ j, i - B.length = j + 1 := ⟨i - B.length - 1, by omega⟩
      rw [hj, List.getElem?_cons_succ] at h
      exact absurd (List.mem_of_getElem? h) hD
  · rintro rfl
    simp
theorem itoa_inj {B B' : List UInt8} (h : Lib.itoa (sumF B) = Lib.itoa (sumF B')) : sumF B = sumF B' := by
  obtain ⟨u, hu, hb, e⟩ := sum_digits B
  obtain ⟨u', hu', hb', e'⟩ := sum_digits B'
  rw [e, e'] at h
  have p := (num_digits u (by omega)).2
  rw [h, (num_digits u' (by omega)).2] at p
  rw [hu, hu', p]
/-- One byte changed: it is unpacked no more. -/
theorem spoilt {s : List UInt8} {l l' : List Int} {k : Nat} {d : UInt8} (h : unpAll s = .good l) (hk : k < s.length) (hd : s[k]? ≠ some d) : unpAll (s.set k d) ≠ .good l' := by
  intro h'
  obtain ⟨B, e, hB⟩ := good_form h
  obtain ⟨B', e', hB'⟩ := good_form h'
  have c1 := hash_at hB (no_in_itoa B)
  have c2 := hash_at hB' (no_in_itoa B')
  rw [← e] at c1
  rw [← e'] at c2
  have hset : ∀ i, (s.set k d)[i]? = if k = i then some d else s[i]? := fun i => by
    rw [List.getElem?_set]
    split
    · rename_i hki; subst hki; simp [hk]
    · rfl
  have hab : B.length = B'.length := by
    by_cases hk1 : k = B.length
    · by_cases hk2 : k = B'.length
      · omega
      · have q := (c2 B'.length).2 rfl
        rw [hset, if_neg hk2, c1] at q
        exact q.symm
    · have q := (c1 B.length).2 rfl
      have q2 := hset B.length
      rw [if_neg hk1, q, c2] at q2
      exact q2
  have hT : B' = (s.set k d).take B.length := by rw [e', hab]; simp
  have hB0 : B = s.take B.length := by
    conv => rhs; rw [e]
    simp
  have hD : Lib.itoa (sumF B') = (s.set k d).drop (B.length + 1) := by
    rw [e', hab, List.drop_append]
    simp
  have hD0 : Lib.itoa (sumF B) = s.drop (B.length + 1) := by
    conv => rhs; rw [e]
    rw [List.drop_append]
    simp
  by_cases hkB : k < B.length
  · rw [List.drop_set, if_pos (by omega), ← hD0] at hD
    have := itoa_inj hD
    rw [List.take_set, ← hB0] at hT
    rw [hT, List.set_eq_take_append_cons_drop, if_pos hkB] at this
    have hne : d ≠ B[k] := fun e2 => hd (by
      rw [e, List.getElem?_append_left hkB, List.getElem?_eq_getElem hkB, e2])
    refine sumF_spoilt (l := B.take k) (r := B.drop (k + 1)) hne ?_
    refine this.trans (congrArg sumF ?_)
    conv => lhs; rw [← List.take_append_drop k B]
    rw [List.drop_eq_getElem_cons hkB]
  · rw [List.take_set_of_le (by omega), ← hB0] at hT
    rw [hT] at e'
    exact hd (by
      have q := hset k
      rw [if_pos rfl, e', ← e] at q
      exact q)
end Go.Ax.Tb

namespace Go.Proofs.YtbeegiiiochblaaDoor
open Go.Ax Go.Ax.Tb Go.RowKit
attribute [local irreducible] Ax Post QOp ACall
set_option maxRecDepth 100000
set_option maxHeartbeats 4000000

theorem Pack_ok (l : List Int) (hE : tabE l = 0) : VCall Tryd.prog 7 [.ro (.ints .i64 l) 0 l.length] (.tup [.str (packed l), .int .i64 0]) := by
  by_cases h : l = []
  · subst h; exact Pack_nil
  · exact Pack_some l hE h
theorem packed_len {l : List Int} (hE : tabE l = 0) : (packed l).length ≤ 10 * l.length + 101 := by
  obtain ⟨hl, hx⟩ := tabE_ok hE
  have h1 := packB_len l.length l hl hx
  obtain ⟨u, _, hb, hu⟩ := sum_digits (packB l.length l)
  have := Go.Ax.Bg.digits_len_le (n := u) (k := 100) (by decide) (Nat.lt_of_lt_of_le hb (by decide))
  unfold packed
  rw [hu]
  simp only [List.length_append, List.length_cons, List.length_nil]
  omega
theorem digit1 {u : Nat} (h : u < 10) : Lib.decDigits u = [UInt8.ofNat (48 + u)] := by
  rw [Lib.decDigits, dif_pos h]
theorem packed3 : ∃ q, packed [7, 7, 0] = [55, 120, 50, 59, 48, 59, 35] ++ q ∧ q.length ≤ 100 := by
  have e7 : Lib.itoa 7 = [55] := (itoa_nat 7).trans (digit1 (by decide))
  have e0 : Lib.itoa 0 = [48] := (itoa_nat 0).trans (digit1 (by decide))
  have e2 : Lib.itoa ((2 : Nat) : Int) = [50] := (itoa_nat 2).trans (digit1 (by decide))
  have hB : packB 3 [7, 7, 0] = [55, 120, 50, 59, 48, 59] := by
    have s1 : same 7 [7, 0] = 1 := by decide
    have s0 : same 0 ([] : List Int) = 0 := by decide
    rw [packB, s1]
    show Go.Ax.Tb.runT 7 2 ++ packB 2 [0] = _
    rw [packB, s0]
    show Go.Ax.Tb.runT 7 2 ++ (Go.Ax.Tb.runT 0 1 ++ packB 1 []) = _
    unfold Go.Ax.Tb.runT
    rw [e7, e0, e2]
    rfl
  obtain ⟨u, _, hb, hu⟩ := sum_digits (packB 3 [7, 7, 0])
  refine ⟨Lib.itoa (sumF (packB 3 [7, 7, 0])), ?_, ?_⟩
  · show packB 3 [7, 7, 0] ++ [35] ++ Lib.itoa (sumF (packB 3 [7, 7, 0])) = _
    rw [hB]; rfl
  · rw [hu]
    exact Go.Ax.Bg.digits_len_le (n := u) (k := 100) (by decide) (Nat.lt_of_lt_of_le hb (by decide))
theorem tableFact : VCall Tryd.prog 6 [] (.bool true) := by
  obtain ⟨q, hq, hql⟩ := packed3
  have hE : tabE [7, 7, 0] = 0 := by decide
  obtain ⟨hl3, hx3⟩ := tabE_ok hE
  have hP : VCall Tryd.prog 7 [.ro (.ints .i64 [7, 7, 0]) 0 3] (.tup [.str (packed [7, 7, 0]), .int .i64 0]) := Pack_ok [7, 7, 0] hE
  have hlen : (packed [7, 7, 0]).length ≤ 281474976710656 := by rw [hq, List.length_append]; simp; omega
  have hg := unp_packed hl3 hx3
  have hU := Unpack_ok (packed [7, 7, 0]) hlen
  have hA := At_ok (packed [7, 7, 0]) 1 hlen
  rw [hg] at hU hA
  have hU : VCall Tryd.prog 9 [.str (packed [7, 7, 0])] (.tup [.ro (.ints .i64 [7, 7, 0]) 0 3, .int .i64 0]) := hU
  have hA : VCall Tryd.prog 11 [.str (packed [7, 7, 0]), .int .i64 1] (.tup [.int .i64 7, .int .i64 0]) := hA
  have hC : VCall Tryd.prog 13 [.agg [.int .i64 1, .int .i64 2]] (.tup [.int .i64 6, .int .i64 0]) := Code_ok 1 2
  have hN : VCall Tryd.prog 14 [.int .i64 6] (.tup [.agg [.int .i64 1, .int .i64 2], .int .i64 0]) := Entry_ok 6
  have hS : VCall Tryd.prog 16 [.str []] (.int .i64 1) := sum_ok [] (by decide)
  have hK : VCall Tryd.prog 8 [.ro (.ints .i64 [10000]) 0 1] (.int .i64 4) := check_ok [10000] (by decide)
  have hf3 : VCall Tryd.prog 15 [.ro (.ints .i64 [0, 0, 0]) 0 3] (.bool true) := fineI [0, 0, 0] (by decide)
  have hf2 : VCall Tryd.prog 15 [.ro (.ints .i64 [0, 0]) 0 2] (.bool true) := fineI [0, 0] (by decide)
  have hEq : VCall Tryd.prog 10 [.ro (.ints .i64 [7, 7, 0]) 0 3, .ro (.ints .i64 [7, 7, 0]) 0 3] (.bool true) := equalI [7, 7, 0] [7, 7, 0] (by decide) (by decide)
  refine ACall.value0 (acall_of_ax (P := Tryd.prog) (fn := Tryd.f6) rfl rfl (by kernel_rfl) rfl (fun c hR hfix => ?_)) (fix := fun _ => False) (fun _ h => h) rfl rfl
  generalize packed [7, 7, 0] = s at *
  have hs7 : 7 ≤ s.length ∧ s.length ≤ 107 := by rw [hq]; simp; omega
  have ht7 : s.take 7 = [55, 120, 50, 59, 48, 59, 35] := by rw [hq]; rfl
  clear hq
  repeat (first
    | refine ax_q (q_assign rfl) ?_
    | refine ax_ops_nil ?_
    | refine ax_post_code ?_
    | refine ax_seq ?_
    | refine ax_region rfl ?_
    | refine ax_q (q_build rfl rfl rfl rfl rfl rfl) ?_)
  refine ax_callv rfl rfl rfl hC ?_
  repeat (first
    | refine ax_q (q_move rfl) ?_
    | refine ax_q (q_assign rfl) ?_
    | refine ax_ops_nil ?_
    | refine ax_post_code ?_
    | refine ax_seq ?_
    | refine ax_region rfl ?_
    | refine ax_q (q_extract rfl rfl) ?_)
  refine ax_callv rfl rfl rfl hN ?_
  repeat (first
    | refine ax_q (q_move rfl) ?_
    | refine ax_q (q_extract rfl rfl) ?_
    | refine ax_alloc rfl rfl rfl ?_)
  refine ax_storeagg (c' := .box [.int .i64 1, .int .i64 2]) rfl rfl rfl rfl rfl Nat.zero_lt_one rfl rfl (fun i' j' hi' hj' => ?_) ?_
  · rw [if_pos (Nat.lt_one_iff.1 hi')]; rfl
  repeat (first
    | refine ax_q (q_assign rfl) ?_
    | refine ax_ops_nil ?_
    | refine ax_post_code ?_
    | refine ax_seq ?_
    | refine ax_region rfl ?_
    | refine ax_buildSliceRo rfl rfl rfl rfl rfl rfl rfl rfl rfl rfl rfl ?_)
  refine ax_callv rfl rfl rfl hP ?_
  repeat (first
    | refine ax_q (q_move rfl) ?_
    | refine ax_q (q_assign rfl) ?_
    | refine ax_ops_nil ?_
    | refine ax_post_code ?_
    | refine ax_seq ?_
    | refine ax_region rfl ?_
    | refine ax_q (q_extract rfl rfl) ?_
    | refine ax_buildSliceRo rfl rfl rfl rfl rfl rfl rfl rfl rfl rfl rfl ?_)
  refine ax_callv rfl rfl rfl hf3 ?_
  repeat (first
    | refine ax_q (q_move rfl) ?_
    | refine ax_ops_nil ?_
    | refine ax_post_code ?_
    | refine ax_guard rfl rfl ?_
    | refine ax_q (q_lss rfl rfl) ?_
    | refine ax_q (q_not rfl) ?_
    | refine ax_q (q_pick rfl rfl) ?_
    | refine ax_q (q_lenstr rfl rfl) ?_)
  refine ax_cond_dec rfl (fun h => absurd h (by omega)) (fun _ => ?_)
  repeat (first
    | refine ax_q (q_move rfl) ?_
    | refine ax_post_code ?_
    | refine ax_seq ?_
    | refine ax_region rfl ?_
    | refine ax_skip ?_)
  refine ax_callv rfl rfl rfl hU ?_
  repeat (first
    | refine ax_q (q_move rfl) ?_
    | refine ax_q (q_assign rfl) ?_
    | refine ax_ops_nil ?_
    | refine ax_post_code ?_
    | refine ax_seq ?_
    | refine ax_region rfl ?_
    | refine ax_q (q_extract rfl rfl) ?_)
  refine ax_callv rfl rfl rfl hA ?_
  repeat (first
    | refine ax_q (q_move rfl) ?_
    | refine ax_q (q_assign rfl) ?_
    | refine ax_ops_nil ?_
    | refine ax_post_code ?_
    | refine ax_seq ?_
    | refine ax_region rfl ?_
    | refine ax_q (q_extract rfl rfl) ?_
    | refine ax_buildSliceRo rfl rfl rfl rfl rfl rfl rfl rfl rfl rfl rfl ?_)
  refine ax_callv rfl rfl rfl hf2 ?_
  repeat (first
    | refine ax_q (q_move rfl) ?_
    | refine ax_guard rfl rfl ?_
    | refine ax_q (q_eql rfl rfl) ?_
    | refine ax_q (q_pick rfl rfl) ?_
    | refine ax_q (q_build rfl rfl rfl rfl rfl rfl) ?_
    | refine ax_q (q_streql rfl rfl) ?_
    | refine ax_q (q_strslice rfl rfl rfl rfl rfl rfl (by omega)) ?_
    | refine ax_q (q_structeq rfl rfl rfl (by kernel_rfl) (by kernel_rfl) (by kernel_rfl) rfl) ?_
    | refine ax_q (q_loadagg_ptr rfl rfl rfl rfl rfl rfl rfl (by first | exact Nat.zero_lt_one | assumption | omega)) ?_)
  refine ax_gsplit rfl rfl (fun _ => ?_) (fun h => absurd ht7 h)
  repeat (first
    | refine ax_q (q_move rfl) ?_
    | refine ax_guard rfl rfl ?_
    | refine ax_buildSliceRo rfl rfl rfl rfl rfl rfl rfl rfl rfl rfl rfl ?_)
  refine ax_callv rfl rfl rfl hEq ?_
  repeat (first
    | refine ax_q (q_move rfl) ?_
    | refine ax_guard rfl rfl ?_
    | refine ax_q (q_eql rfl rfl) ?_
    | refine ax_q (q_pick rfl rfl) ?_)
  refine ax_callv rfl rfl rfl hS ?_
  repeat (first
    | refine ax_q (q_move rfl) ?_
    | refine ax_guard rfl rfl ?_
    | refine ax_q (q_eql rfl rfl) ?_
    | refine ax_q (q_pick rfl rfl) ?_
    | refine ax_buildSliceRo rfl rfl rfl rfl rfl rfl rfl rfl rfl rfl rfl ?_)
  refine ax_callv rfl rfl rfl hK ?_
  repeat (first
    | refine ax_q (q_assign rfl) ?_
    | refine ax_ops_nil ?_
    | refine ax_post_code ?_
    | refine ax_guard rfl rfl ?_
    | refine ax_return ?_
    | refine ax_q (q_eql rfl rfl) ?_
    | refine ax_q (q_pick rfl rfl) ?_)
  exact ax_ret hR rfl rfl
end Go.Proofs.YtbeegiiiochblaaDoor

namespace Go.Proofs.YtbeegiiiochblaaDoor
open Go.Ax Go.Ax.Tb Go.RowKit
attribute [local irreducible] Ax Post QOp ACall
set_option maxRecDepth 100000
set_option maxHeartbeats 4000000

theorem code_back {p q : Int} (h : (codeF p q).2 = 0) : entryF (codeF p q).1 = ((p, q), 0) := by
  unfold codeF at h ⊢
  split at h
  · simp at h
  · split at h
    · simp at h
    · rename_i h1 h2
      rw [if_neg h1, if_neg h2]
      simp only
      unfold entryF
      have e1 : (3 * q + p - 1) % 3 + 1 = p := by omega
      have e2 : (3 * q + p - 1) / 3 = q := by omega
      rw [e1, e2, if_neg (by omega), if_neg h2]
theorem entry_back {n : Int} (h : (entryF n).2 = 0) : codeF (entryF n).1.1 (entryF n).1.2 = (n, 0) := by
  unfold entryF at h ⊢
  split at h
  · simp at h
  · split at h
    · simp at h
    · rename_i h1 h2
      rw [if_neg h1, if_neg h2]
      simp only
      unfold codeF
      rw [if_neg (by omega), if_neg h2]
      congr 1
      omega
theorem entry_no {n : Int} (h : ¬ (entryF n).2 = 0) : (entryF n).1 = (0, 0) := by
  unfold entryF at h ⊢
  split
  · rfl
  · split
    · rfl
    · rename_i h1 h2
      rw [if_neg h1, if_neg h2] at h
      simp at h
theorem TableCoded_law (p q n : Int) : VCall Tryd.prog 5 [.agg [.int .i64 p, .int .i64 q], .int .i64 n] (.bool true) := by
  have hC := Code_ok p q
  have hN := Entry_ok n
  have hb := @code_back p q
  have he := @entry_back n
  have hn := @entry_no n
  refine ACall.value0 (acall_of_ax (P := Tryd.prog) (fn := Tryd.f5) rfl rfl (by kernel_rfl) rfl (fun c hR hfix => ?_)) (fix := fun _ => False) (fun _ h => h) rfl rfl
  have hE := Entry_ok (codeF p q).1
  have hD := Code_ok (entryF n).1.1 (entryF n).1.2
  generalize codeF p q = r at *
  generalize entryF n = y at *
  obtain ⟨⟨y1, y2⟩, ye⟩ := y
  obtain ⟨r1, r2⟩ := r
  simp only at *
  repeat (first
    | refine ax_q (q_assign rfl) ?_
    | refine ax_ops_nil ?_
    | refine ax_post_code ?_
    | refine ax_seq ?_
    | refine ax_region rfl ?_
    | refine ax_box rfl rfl ?_)
  refine ax_callv rfl rfl rfl tableFact ?_
  repeat (first
    | refine ax_ops_nil ?_
    | refine ax_post_code ?_
    | refine ax_seq ?_
    | refine ax_region rfl ?_
    | refine ax_cond_false rfl ?_
    | refine ax_skip ?_
    | refine ax_q (q_not rfl) ?_
    | refine ax_q (q_loadagg_ptr rfl rfl rfl rfl rfl rfl rfl (by first | exact Nat.zero_lt_one | assumption | omega)) ?_)
  refine ax_callv rfl rfl rfl hC ?_
  repeat (first
    | refine ax_q (q_move rfl) ?_
    | refine ax_q (q_assign rfl) ?_
    | refine ax_ops_nil ?_
    | refine ax_post_code ?_
    | refine ax_seq ?_
    | refine ax_region rfl ?_
    | refine ax_q (q_eql rfl rfl) ?_
    | refine ax_q (q_extract rfl rfl) ?_)
  refine ax_cond_dec rfl (fun h0 => ?_) (fun h0 => ?_)
  · rw [hb h0] at hE
    simp only at hE
    repeat (first
      | refine ax_q (q_move rfl) ?_
      | refine ax_seq ?_
      | refine ax_region rfl ?_)
    refine ax_callv rfl rfl rfl hE ?_
    repeat (first
      | refine ax_q (q_move rfl) ?_
      | refine ax_q (q_extract rfl rfl) ?_
      | refine ax_alloc rfl rfl rfl ?_)
    refine ax_storeagg (c' := .box [.int .i64 p, .int .i64 q]) rfl rfl rfl rfl rfl (by decide) rfl rfl (fun i' j' hi' hj' => ?_) ?_
    · rw [if_pos (Nat.lt_one_iff.1 hi')]; rfl
    repeat (first
      | refine ax_q (q_move rfl) ?_
      | refine ax_q (q_assign rfl) ?_
      | refine ax_ops_nil ?_
      | refine ax_post_code ?_
      | refine ax_seq ?_
      | refine ax_region rfl ?_
      | refine ax_guard rfl rfl ?_
      | refine ax_q (q_neq rfl rfl) ?_
      | refine ax_q (q_pick rfl rfl) ?_
      | refine ax_q (q_structneq rfl rfl rfl (by kernel_rfl) (by kernel_rfl) (by kernel_rfl) rfl) ?_
      | refine ax_q (q_loadagg_ptr rfl rfl rfl rfl rfl rfl rfl (by first | exact Nat.zero_lt_one | assumption | omega)) ?_)
    refine ax_cond rfl (fun h1 => absurd h1 (by simp)) (fun h1 => ?_)
    repeat (first
      | refine ax_q (q_move rfl) ?_
      | refine ax_post_code ?_
      | refine ax_seq ?_
      | refine ax_region rfl ?_
      | refine ax_skip ?_)
    refine ax_callv rfl rfl rfl hN ?_
    repeat (first
      | refine ax_q (q_move rfl) ?_
      | refine ax_q (q_extract rfl rfl) ?_
      | refine ax_alloc rfl rfl rfl ?_)
    refine ax_storeagg (c' := .box [.int .i64 y1, .int .i64 y2]) rfl rfl rfl rfl rfl (by decide) rfl rfl (fun i' j' hi' hj' => ?_) ?_
    · rw [if_pos (Nat.lt_one_iff.1 hi')]; rfl
    repeat (first
      | refine ax_q (q_move rfl) ?_
      | refine ax_q (q_assign rfl) ?_
      | refine ax_ops_nil ?_
      | refine ax_post_code ?_
      | refine ax_seq ?_
      | refine ax_region rfl ?_
      | refine ax_q (q_neq rfl rfl) ?_)
    refine ax_cond_dec rfl (fun h1 => ?_) (fun h1 => ?_)
    · have := hn h1
      cases this
      repeat (first
        | refine ax_q (q_assign rfl) ?_
        | refine ax_ops_nil ?_
        | refine ax_post_code ?_
        | refine ax_seq ?_
        | refine ax_region rfl ?_
        | refine ax_return ?_
        | refine ax_ret_code ?_
        | refine ax_q (q_build rfl rfl rfl rfl rfl rfl) ?_
        | refine ax_q (q_structeq rfl rfl rfl (by kernel_rfl) (by kernel_rfl) (by kernel_rfl) rfl) ?_
        | refine ax_q (q_loadagg_ptr rfl rfl rfl rfl rfl rfl rfl (by first | exact Nat.zero_lt_one | assumption | omega)) ?_)
      refine ax_ret hR rfl ?_
      simp [tupOf]
    · rw [he (by omega)] at hD
      simp only at hD
      repeat (first
        | refine ax_post_code ?_
        | refine ax_seq ?_
        | refine ax_region rfl ?_
        | refine ax_skip ?_
        | refine ax_q (q_loadagg_ptr rfl rfl rfl rfl rfl rfl rfl (by first | exact Nat.zero_lt_one | assumption | omega)) ?_)
      refine ax_callv rfl rfl rfl hD ?_
      repeat (first
        | refine ax_q (q_move rfl) ?_
        | refine ax_q (q_assign rfl) ?_
        | refine ax_ops_nil ?_
        | refine ax_post_code ?_
        | refine ax_seq ?_
        | refine ax_region rfl ?_
        | refine ax_guard rfl rfl ?_
        | refine ax_return ?_
        | refine ax_q (q_eql rfl rfl) ?_
        | refine ax_q (q_pick rfl rfl) ?_
        | refine ax_q (q_extract rfl rfl) ?_)
      refine ax_ret hR rfl ?_
      simp [tupOf]
  · skip
    repeat (first
      | refine ax_q (q_move rfl) ?_
      | refine ax_post_code ?_
      | refine ax_seq ?_
      | refine ax_region rfl ?_
      | refine ax_skip ?_)
    refine ax_callv rfl rfl rfl hN ?_
    repeat (first
      | refine ax_q (q_move rfl) ?_
      | refine ax_q (q_extract rfl rfl) ?_
      | refine ax_alloc rfl rfl rfl ?_)
    refine ax_storeagg (c' := .box [.int .i64 y1, .int .i64 y2]) rfl rfl rfl rfl rfl (by decide) rfl rfl (fun i' j' hi' hj' => ?_) ?_
    · rw [if_pos (Nat.lt_one_iff.1 hi')]; rfl
    repeat (first
      | refine ax_q (q_move rfl) ?_
      | refine ax_q (q_assign rfl) ?_
      | refine ax_ops_nil ?_
      | refine ax_post_code ?_
      | refine ax_seq ?_
      | refine ax_region rfl ?_
      | refine ax_q (q_neq rfl rfl) ?_)
    refine ax_cond_dec rfl (fun h1 => ?_) (fun h1 => ?_)
    · have := hn h1
      cases this
      repeat (first
        | refine ax_q (q_assign rfl) ?_
        | refine ax_ops_nil ?_
        | refine ax_post_code ?_
        | refine ax_seq ?_
        | refine ax_region rfl ?_
        | refine ax_return ?_
        | refine ax_ret_code ?_
        | refine ax_q (q_build rfl rfl rfl rfl rfl rfl) ?_
        | refine ax_q (q_structeq rfl rfl rfl (by kernel_rfl) (by kernel_rfl) (by kernel_rfl) rfl) ?_
        | refine ax_q (q_loadagg_ptr rfl rfl rfl rfl rfl rfl rfl (by first | exact Nat.zero_lt_one | assumption | omega)) ?_)
      refine ax_ret hR rfl ?_
      simp [tupOf]
    · rw [he (by omega)] at hD
      simp only at hD
      repeat (first
        | refine ax_post_code ?_
        | refine ax_seq ?_
        | refine ax_region rfl ?_
        | refine ax_skip ?_
        | refine ax_q (q_loadagg_ptr rfl rfl rfl rfl rfl rfl rfl (by first | exact Nat.zero_lt_one | assumption | omega)) ?_)
      refine ax_callv rfl rfl rfl hD ?_
      repeat (first
        | refine ax_q (q_move rfl) ?_
        | refine ax_q (q_assign rfl) ?_
        | refine ax_ops_nil ?_
        | refine ax_post_code ?_
        | refine ax_seq ?_
        | refine ax_region rfl ?_
        | refine ax_guard rfl rfl ?_
        | refine ax_return ?_
        | refine ax_q (q_eql rfl rfl) ?_
        | refine ax_q (q_pick rfl rfl) ?_
        | refine ax_q (q_extract rfl rfl) ?_)
      refine ax_ret hR rfl ?_
      simp [tupOf]
theorem TableBack_law (l : List Int) (i : Int) (h : l.length ≤ 9223372036854775807) : VCall Tryd.prog 3 [.ro (.ints .i64 l) 0 l.length, .int .i64 i] (.bool true) := by
  refine ACall.value0 (acall_of_ax (P := Tryd.prog) (fn := Tryd.f3) rfl rfl (by kernel_rfl) rfl (fun c hR hfix => ?_)) (fix := fun _ => False) (fun _ h => h) rfl rfl
  by_cases hE : tabE l = 0
  · have hP := Pack_ok l hE
    have hpl := packed_len hE
    obtain ⟨hl, hx⟩ := tabE_ok hE
    have hg := unp_packed hl hx
    have hU := Unpack_ok (packed l) (by omega)
    have hA := fun x => At_ok (packed l) x (by omega)
    rw [hg] at hU
    simp only [hg] at hA
    have hU : VCall Tryd.prog 9 [.str (packed l)] (.tup [.ro (.ints .i64 l) 0 l.length, .int .i64 0]) := hU
    have hEq := equalI l l h h
    rw [decide_eq_true rfl] at hEq
    generalize packed l = s at *
    repeat (first
      | refine ax_q (q_assign rfl) ?_
      | refine ax_ops_nil ?_
      | refine ax_post_code ?_
      | refine ax_seq ?_
      | refine ax_region rfl ?_)
    refine ax_callv rfl rfl rfl tableFact ?_
    repeat (first
      | refine ax_q (q_move rfl) ?_
      | refine ax_ops_nil ?_
      | refine ax_post_code ?_
      | refine ax_seq ?_
      | refine ax_region rfl ?_
      | refine ax_cond_false rfl ?_
      | refine ax_skip ?_
      | refine ax_q (q_not rfl) ?_)
    refine ax_callv rfl rfl rfl hP ?_
    repeat (first
      | refine ax_q (q_move rfl) ?_
      | refine ax_q (q_assign rfl) ?_
      | refine ax_ops_nil ?_
      | refine ax_post_code ?_
      | refine ax_seq ?_
      | refine ax_region rfl ?_
      | refine ax_cond_false rfl ?_
      | refine ax_skip ?_
      | refine ax_q (q_neq rfl rfl) ?_
      | refine ax_q (q_extract rfl rfl) ?_)
    refine ax_callv rfl rfl rfl hU ?_
    repeat (first
      | refine ax_q (q_move rfl) ?_
      | refine ax_q (q_assign rfl) ?_
      | refine ax_ops_nil ?_
      | refine ax_post_code ?_
      | refine ax_seq ?_
      | refine ax_region rfl ?_
      | refine ax_guard rfl rfl ?_
      | refine ax_q (q_neq rfl rfl) ?_
      | refine ax_q (q_extract rfl rfl) ?_)
    refine ax_callv rfl rfl rfl hEq ?_
    repeat (first
      | refine ax_q (q_move rfl) ?_
      | refine ax_ops_nil ?_
      | refine ax_post_code ?_
      | refine ax_seq ?_
      | refine ax_region rfl ?_
      | refine ax_guard rfl rfl ?_
      | refine ax_cond_false rfl ?_
      | refine ax_skip ?_
      | refine ax_q (q_eql rfl rfl) ?_
      | refine ax_q (q_not rfl) ?_
      | refine ax_q (q_pick rfl rfl) ?_
      | refine ax_q (q_len rfl rfl rfl) ?_)
    refine ax_cond_dec rfl (fun h0 => ?_) (fun h0 => ?_)
    · have : l = [] := List.length_eq_zero_iff.1 (by omega)
      subst this
      have h0 : VCall Tryd.prog 11 [.str s, .int .i64 0] (.tup [.int .i64 0, .int .i64 4]) := hA 0
      repeat (first
        | refine ax_q (q_move rfl) ?_
        | refine ax_seq ?_
        | refine ax_region rfl ?_)
      refine ax_callv rfl rfl rfl h0 ?_
      repeat (first
        | refine ax_q (q_move rfl) ?_
        | refine ax_q (q_assign rfl) ?_
        | refine ax_ops_nil ?_
        | refine ax_post_code ?_
        | refine ax_seq ?_
        | refine ax_region rfl ?_
        | refine ax_return ?_
        | refine ax_ret_code ?_
        | refine ax_q (q_eql rfl rfl) ?_
        | refine ax_q (q_extract rfl rfl) ?_)
      exact ax_ret hR rfl rfl
    · obtain ⟨x, hx1, hx2⟩ := pickN i l.length ⟨by omega, by omega⟩
      have ha := hA x
      have e : atF (.good l) x = (l.getD x 0, 0) := by
        show (if (x : Int) < 0 ∨ (l.length : Int) ≤ x then ((0, 4) : Int × Int) else (l.getD (x : Int).toNat 0, 0)) = _
        rw [if_neg (by omega), Int.toNat_natCast]
      rw [e] at ha
      simp only at ha
      repeat (first
        | refine ax_q (q_move rfl) ?_
        | refine ax_post_code ?_
        | refine ax_seq ?_
        | refine ax_region rfl ?_
        | refine ax_skip ?_
        | refine ax_q (q_len rfl rfl rfl) ?_)
      refine ax_callv rfl rfl rfl hx2 ?_
      repeat (first
        | refine ax_q (q_move rfl) ?_
        | refine ax_q (q_assign rfl) ?_
        | refine ax_ops_nil ?_
        | refine ax_post_code ?_
        | refine ax_seq ?_
        | refine ax_region rfl ?_)
      refine ax_callv rfl rfl rfl ha ?_
      repeat (first
        | refine ax_q (q_move rfl) ?_
        | refine ax_q (q_assign rfl) ?_
        | refine ax_q (q_loadi_rp rfl rfl rfl) ?_
        | refine ax_ops_nil ?_
        | refine ax_post_code ?_
        | refine ax_seq ?_
        | refine ax_region rfl ?_
        | refine ax_guard rfl rfl ?_
        | refine ax_return ?_
        | refine ax_q (q_eql rfl rfl) ?_
        | refine ax_q (q_pick rfl rfl) ?_
        | refine ax_q (q_extract rfl rfl) ?_
        | refine ax_q (q_index_ro' rfl rfl rfl rfl (by first | (simp only [Nat.zero_add, Int.toNat_natCast, Int.toNat_zero]; exact rfl) | exact rfl) (by omega)) ?_)
      refine ax_ret hR rfl ?_
      simp [tupOf]
  · have hP := Pack_bad l h hE
    have hc := check_ok l h
    generalize tabE l = e at *
    repeat (first
      | refine ax_q (q_assign rfl) ?_
      | refine ax_ops_nil ?_
      | refine ax_post_code ?_
      | refine ax_seq ?_
      | refine ax_region rfl ?_)
    refine ax_callv rfl rfl rfl tableFact ?_
    repeat (first
      | refine ax_q (q_move rfl) ?_
      | refine ax_ops_nil ?_
      | refine ax_post_code ?_
      | refine ax_seq ?_
      | refine ax_region rfl ?_
      | refine ax_cond_false rfl ?_
      | refine ax_skip ?_
      | refine ax_q (q_not rfl) ?_)
    refine ax_callv rfl rfl rfl hP ?_
    repeat (first
      | refine ax_q (q_move rfl) ?_
      | refine ax_q (q_assign rfl) ?_
      | refine ax_ops_nil ?_
      | refine ax_post_code ?_
      | refine ax_seq ?_
      | refine ax_region rfl ?_
      | refine ax_q (q_neq rfl rfl) ?_
      | refine ax_q (q_extract rfl rfl) ?_)
    refine ax_cond_dec rfl (fun _ => ?_) (fun h => absurd hE h)
    repeat (first
      | refine ax_q (q_move rfl) ?_
      | refine ax_seq ?_
      | refine ax_region rfl ?_
      | refine ax_guard rfl rfl ?_
      | refine ax_q (q_streql rfl rfl) ?_)
    refine ax_callv rfl rfl rfl hc ?_
    repeat (first
      | refine ax_q (q_assign rfl) ?_
      | refine ax_ops_nil ?_
      | refine ax_post_code ?_
      | refine ax_guard rfl rfl ?_
      | refine ax_return ?_
      | refine ax_ret_code ?_
      | refine ax_q (q_eql rfl rfl) ?_
      | refine ax_q (q_pick rfl rfl) ?_)
    refine ax_ret hR rfl ?_
    simp [tupOf]
end Go.Proofs.YtbeegiiiochblaaDoor

