import Derived.Test.YtbeegiiiochblaaGreatDoorG3
set_option linter.unusedVariables false
set_option linter.unusedSimpArgs false
namespace Go.Proofs.YtbeegiiiochblaaGreatDoor
open Go.Ax Go.Ax.Bg Go.RowKit
attribute [local irreducible] Ax Post QOp ACall
set_option maxRecDepth 100000
set_option maxHeartbeats 4000000

theorem notOk0 {l : List Int} (h : ∀ x ∈ l, x = 0) : l.any notOk = false := by
  rw [List.any_eq_false]
  intro x hx
  rw [h x hx]; decide
theorem fineZ (n : Nat) (hn : n ≤ 1000) : VCall Tryz.prog 16 [.ro (.ints .i64 (List.replicate n 0)) 0 n] (.bool true) := by
  have := fineI (List.replicate n 0) (by simpa using hn)
  rw [notOk0 (fun x hx => (List.mem_replicate.1 hx).2), List.length_replicate] at this
  exact this
theorem NatRing_law (a b c' : List UInt8) (ha : a.length ≤ 9223372036854775807) (hb : b.length ≤ 9223372036854775807) (hc : c'.length ≤ 9223372036854775807) : VCall Tryz.prog 3 [.str a, .str b, .str c'] (.bool true) := by
  have ca := check_ok a ha
  have cb := check_ok b hb
  have cc := check_ok c' hc
  have hfz : VCall Tryz.prog 16 [.ro (.ints .i64 [0, 0, 0, 0, 0, 0]) 0 6] (.bool true) := fineZ 6 (by decide)
  refine ACall.value0 (acall_of_ax (P := Tryz.prog) (fn := Tryz.f3) rfl rfl (by kernel_rfl) rfl (fun c hR hfix => ?_)) (fix := fun _ => False) (fun _ h => h) rfl rfl
  repeat (first
    | refine ax_q (q_assign rfl) ?_
    | refine ax_ops_nil ?_
    | refine ax_post_code ?_
    | refine ax_seq ?_
    | refine ax_region rfl ?_)
  refine ax_callv rfl rfl rfl natFact ?_
  repeat (first
    | refine ax_q (q_move rfl) ?_
    | refine ax_ops_nil ?_
    | refine ax_post_code ?_
    | refine ax_seq ?_
    | refine ax_region rfl ?_
    | refine ax_cond_false rfl ?_
    | refine ax_skip ?_
    | refine ax_q (q_gtr rfl rfl) ?_
    | refine ax_q (q_not rfl) ?_
    | refine ax_q (q_lenstr rfl rfl) ?_)
  refine ax_gsplit rfl rfl (fun h1 => ?_) (fun h1 => ?_)
  · repeat (first
      | refine ax_q (q_move rfl) ?_
      | refine ax_q (q_assign rfl) ?_
      | refine ax_ops_nil ?_
      | refine ax_post_code ?_
      | refine ax_seq ?_
      | refine ax_region rfl ?_
      | refine ax_skip_not rfl rfl rfl ?_
      | refine ax_cond_true rfl ?_
      | refine ax_return ?_
      | refine ax_ret_code ?_
      | refine ax_q (q_pick rfl rfl) ?_)
    exact ax_ret hR rfl rfl
  repeat (first
    | refine ax_q (q_move rfl) ?_
    | refine ax_guard rfl rfl ?_
    | refine ax_q (q_gtr rfl rfl) ?_
    | refine ax_q (q_pick rfl rfl) ?_
    | refine ax_q (q_lenstr rfl rfl) ?_)
  refine ax_gsplit rfl rfl (fun h2 => ?_) (fun h2 => ?_)
  · repeat (first
      | refine ax_q (q_move rfl) ?_
      | refine ax_q (q_assign rfl) ?_
      | refine ax_ops_nil ?_
      | refine ax_post_code ?_
      | refine ax_seq ?_
      | refine ax_region rfl ?_
      | refine ax_skip_not rfl rfl rfl ?_
      | refine ax_cond_true rfl ?_
      | refine ax_return ?_
      | refine ax_ret_code ?_
      | refine ax_q (q_pick rfl rfl) ?_)
    exact ax_ret hR rfl rfl
  repeat (first
    | refine ax_q (q_move rfl) ?_
    | refine ax_guard rfl rfl ?_
    | refine ax_q (q_gtr rfl rfl) ?_
    | refine ax_q (q_pick rfl rfl) ?_
    | refine ax_q (q_lenstr rfl rfl) ?_)
  refine ax_gsplit rfl rfl (fun h3 => ?_) (fun h3 => ?_)
  · repeat (first
      | refine ax_q (q_move rfl) ?_
      | refine ax_q (q_assign rfl) ?_
      | refine ax_ops_nil ?_
      | refine ax_post_code ?_
      | refine ax_seq ?_
      | refine ax_region rfl ?_
      | refine ax_skip_not rfl rfl rfl ?_
      | refine ax_cond_true rfl ?_
      | refine ax_return ?_
      | refine ax_ret_code ?_
      | refine ax_q (q_pick rfl rfl) ?_)
    exact ax_ret hR rfl rfl
  repeat (first
    | refine ax_q (q_move rfl) ?_
    | refine ax_guard rfl rfl ?_)
  refine ax_callv rfl rfl rfl ca ?_
  repeat (first
    | refine ax_q (q_move rfl) ?_
    | refine ax_guard rfl rfl ?_
    | refine ax_q (q_neq rfl rfl) ?_
    | refine ax_q (q_pick rfl rfl) ?_)
  refine ax_gsplit rfl rfl (fun h4 => ?_) (fun h4 => ?_)
  · repeat (first
      | refine ax_q (q_move rfl) ?_
      | refine ax_q (q_assign rfl) ?_
      | refine ax_ops_nil ?_
      | refine ax_post_code ?_
      | refine ax_seq ?_
      | refine ax_region rfl ?_
      | refine ax_skip_not rfl rfl rfl ?_
      | refine ax_cond_true rfl ?_
      | refine ax_return ?_
      | refine ax_ret_code ?_
      | refine ax_q (q_pick rfl rfl) ?_)
    exact ax_ret hR rfl rfl
  repeat (first
    | refine ax_q (q_move rfl) ?_
    | refine ax_guard rfl rfl ?_)
  refine ax_callv rfl rfl rfl cb ?_
  repeat (first
    | refine ax_q (q_move rfl) ?_
    | refine ax_guard rfl rfl ?_
    | refine ax_q (q_neq rfl rfl) ?_
    | refine ax_q (q_pick rfl rfl) ?_)
  refine ax_gsplit rfl rfl (fun h5 => ?_) (fun h5 => ?_)
  · repeat (first
      | refine ax_q (q_assign rfl) ?_
      | refine ax_ops_nil ?_
      | refine ax_post_code ?_
      | refine ax_seq ?_
      | refine ax_region rfl ?_
      | refine ax_skip_not rfl rfl rfl ?_
      | refine ax_cond_true rfl ?_
      | refine ax_return ?_
      | refine ax_ret_code ?_
      | refine ax_q (q_pick rfl rfl) ?_)
    exact ax_ret hR rfl rfl
  repeat (first
    | refine ax_q (q_move rfl) ?_
    | refine ax_guard rfl rfl ?_)
  refine ax_callv rfl rfl rfl cc ?_
  repeat (first
    | refine ax_ops_nil ?_
    | refine ax_post_code ?_
    | refine ax_guard rfl rfl ?_
    | refine ax_q (q_neq rfl rfl) ?_
    | refine ax_q (q_pick rfl rfl) ?_)
  refine ax_cond_dec rfl (fun h6 => ?_) (fun h6 => ?_)
  · repeat (first
      | refine ax_q (q_assign rfl) ?_
      | refine ax_ops_nil ?_
      | refine ax_post_code ?_
      | refine ax_seq ?_
      | refine ax_region rfl ?_
      | refine ax_return ?_
      | refine ax_ret_code ?_)
    exact ax_ret hR rfl rfl
  have na := IsN.self (Classical.not_not.1 h4)
  have nb := IsN.self (Classical.not_not.1 h5)
  have nc := IsN.self (Classical.not_not.1 h6)
  have va := na.lt (k := 300) (by omega)
  have vb := nb.lt (k := 300) (by omega)
  have vc := nc.lt (k := 300) (by omega)
  have bd := nb.dig
  generalize decV 0 a = x at *
  generalize decV 0 b = y at *
  generalize decV 0 c' = z at *
  have hs := add_big vb vc
  have ns := isN_dig (lt_big hs (by decide))
  have p1 := nadd_ok b c' hb hc
  rw [nb.add nc (lt_big hs (by decide))] at p1
  have hm := mul_big va hs
  have dl : ∀ n, n < TB → (Lib.decDigits n).length ≤ 9223372036854775807 := fun n h => by have := TB_len h; omega
  have p2 := nmul_ok a (Lib.decDigits (y + z)) ha (dl _ (lt_big hs (by decide)))
  rw [na.mul ns (lt_big hm (by decide))] at p2
  have h7 := mul_big va vb
  have h8 := mul_big va vc
  have p3 := nmul_ok a b ha hb
  rw [na.mul nb (lt_big h7 (by decide))] at p3
  have p4 := nmul_ok a c' ha hc
  rw [na.mul nc (lt_big h8 (by decide))] at p4
  have h9 := add_big h7 h8
  have n7 := isN_dig (lt_big h7 (by decide))
  have n8 := isN_dig (lt_big h8 (by decide))
  have p5 := nadd_ok _ _ (dl _ (lt_big h7 (by decide))) (dl _ (lt_big h8 (by decide)))
  rw [n7.add n8 (lt_big h9 (by decide)), ← Nat.mul_add] at p5
  have p6 := nsub_ok _ c' (dl _ (lt_big hs (by decide))) hc
  rw [ns.sub nc, if_neg (by omega), Nat.add_sub_cancel, ← bd] at p6
  clear ca cb cc dl ns n7 n8 hs hm h7 h8 h9 va vb vc
  generalize Lib.decDigits (y + z) = t1 at *
  generalize Lib.decDigits (x * (y + z)) = t2 at *
  generalize Lib.decDigits (x * y) = t3 at *
  generalize Lib.decDigits (x * z) = t4 at *
  repeat (first
    | refine ax_q (q_move rfl) ?_
    | refine ax_post_code ?_
    | refine ax_seq ?_
    | refine ax_region rfl ?_
    | refine ax_skip ?_)
  refine ax_callv rfl rfl rfl p1 ?_
  repeat (first
    | refine ax_q (q_move rfl) ?_
    | refine ax_q (q_assign rfl) ?_
    | refine ax_ops_nil ?_
    | refine ax_post_code ?_
    | refine ax_seq ?_
    | refine ax_region rfl ?_
    | refine ax_q (q_extract rfl rfl) ?_)
  refine ax_callv rfl rfl rfl p2 ?_
  repeat (first
    | refine ax_q (q_move rfl) ?_
    | refine ax_q (q_assign rfl) ?_
    | refine ax_ops_nil ?_
    | refine ax_post_code ?_
    | refine ax_seq ?_
    | refine ax_region rfl ?_
    | refine ax_q (q_extract rfl rfl) ?_)
  refine ax_callv rfl rfl rfl p3 ?_
  repeat (first
    | refine ax_q (q_move rfl) ?_
    | refine ax_q (q_assign rfl) ?_
    | refine ax_ops_nil ?_
    | refine ax_post_code ?_
    | refine ax_seq ?_
    | refine ax_region rfl ?_
    | refine ax_q (q_extract rfl rfl) ?_)
  refine ax_callv rfl rfl rfl p4 ?_
  repeat (first
    | refine ax_q (q_move rfl) ?_
    | refine ax_q (q_assign rfl) ?_
    | refine ax_ops_nil ?_
    | refine ax_post_code ?_
    | refine ax_seq ?_
    | refine ax_region rfl ?_
    | refine ax_q (q_extract rfl rfl) ?_)
  refine ax_callv rfl rfl rfl p5 ?_
  repeat (first
    | refine ax_q (q_move rfl) ?_
    | refine ax_q (q_assign rfl) ?_
    | refine ax_ops_nil ?_
    | refine ax_post_code ?_
    | refine ax_seq ?_
    | refine ax_region rfl ?_
    | refine ax_q (q_extract rfl rfl) ?_)
  refine ax_callv rfl rfl rfl p6 ?_
  repeat (first
    | refine ax_q (q_move rfl) ?_
    | refine ax_q (q_assign rfl) ?_
    | refine ax_ops_nil ?_
    | refine ax_post_code ?_
    | refine ax_seq ?_
    | refine ax_region rfl ?_
    | refine ax_q (q_extract rfl rfl) ?_
    | refine ax_buildSliceRo rfl rfl rfl rfl rfl rfl rfl rfl rfl rfl rfl ?_)
  refine ax_callv rfl rfl rfl hfz ?_
  repeat (first
    | refine ax_q (q_move rfl) ?_
    | refine ax_guard rfl rfl ?_
    | refine ax_q (q_pick rfl rfl) ?_
    | refine ax_q (q_streql rfl rfl) ?_)
  refine ax_gsplit rfl rfl (fun _ => ?_) (fun h => absurd rfl h)
  repeat (first
    | refine ax_q (q_move rfl) ?_
    | refine ax_q (q_assign rfl) ?_
    | refine ax_ops_nil ?_
    | refine ax_post_code ?_
    | refine ax_guard rfl rfl ?_
    | refine ax_return ?_
    | refine ax_q (q_pick rfl rfl) ?_
    | refine ax_q (q_streql rfl rfl) ?_)
  refine ax_ret hR rfl ?_
  simp [tupOf]
theorem NatEuclid_law (a b : List UInt8) (ha : a.length ≤ 9223372036854775807) (hb : b.length ≤ 9223372036854775807) : VCall Tryz.prog 4 [.str a, .str b] (.bool true) := by
  have p0 := ndiv_ok a b ha hb
  have hfz : VCall Tryz.prog 16 [.ro (.ints .i64 [0, 0, 0]) 0 3] (.bool true) := fineZ 3 (by decide)
  by_cases hE : twoE a b = 0
  · obtain ⟨ea, eb⟩ := twoE_ok hE
    have na := IsN.self ea
    have nb := IsN.self eb
    have ad := na.dig
    have ba := na.lt2
    have bb := nb.lt2
    by_cases hz : decV 0 b = 0
    · have hF : divF a b = ([], [], 18) := by unfold divF; rw [if_neg (by simp [hE]), if_pos hz]
      rw [hF] at p0
      refine ACall.value0 (acall_of_ax (P := Tryz.prog) (fn := Tryz.f4) rfl rfl (by kernel_rfl) rfl (fun c hR hfix => ?_)) (fix := fun _ => False) (fun _ h => h) rfl rfl
      repeat (first
        | refine ax_q (q_assign rfl) ?_
        | refine ax_ops_nil ?_
        | refine ax_post_code ?_
        | refine ax_seq ?_
        | refine ax_region rfl ?_)
      refine ax_callv rfl rfl rfl natFact ?_
      repeat (first
        | refine ax_q (q_move rfl) ?_
        | refine ax_ops_nil ?_
        | refine ax_post_code ?_
        | refine ax_seq ?_
        | refine ax_region rfl ?_
        | refine ax_cond_false rfl ?_
        | refine ax_skip ?_
        | refine ax_q (q_not rfl) ?_)
      refine ax_callv rfl rfl rfl p0 ?_
      repeat (first
        | refine ax_q (q_move rfl) ?_
        | refine ax_q (q_assign rfl) ?_
        | refine ax_ops_nil ?_
        | refine ax_post_code ?_
        | refine ax_seq ?_
        | refine ax_region rfl ?_
        | refine ax_guard rfl rfl ?_
        | refine ax_cond_true rfl ?_
        | refine ax_return ?_
        | refine ax_ret_code ?_
        | refine ax_q (q_neq rfl rfl) ?_
        | refine ax_q (q_pick rfl rfl) ?_
        | refine ax_q (q_extract rfl rfl) ?_
        | refine ax_q (q_streql rfl rfl) ?_)
      exact ax_ret hR rfl rfl
    rw [na.div nb hz] at p0
    generalize hx : decV 0 a = x at *
    generalize hy : decV 0 b = y at *
    have dl : ∀ n, n < TB → (Lib.decDigits n).length ≤ 9223372036854775807 := fun n h => by have := TB_len h; omega
    have hq : x / y < TB := Nat.lt_of_le_of_lt (Nat.div_le_self _ _) ba
    have hr : x % y < TB := Nat.lt_of_le_of_lt (Nat.mod_le _ _) ba
    have hqy : x / y * y < TB := Nat.lt_of_le_of_lt (Nat.div_mul_le_self _ _) ba
    have nq := isN_dig hq
    have nr := isN_dig hr
    have nqy := isN_dig hqy
    have hsum : x / y * y + x % y = x := by rw [Nat.mul_comm]; exact Nat.div_add_mod x y
    have p1 := nmul_ok _ b (dl _ hq) hb
    rw [nq.mul nb hqy] at p1
    have p2 := nadd_ok _ _ (dl _ hqy) (dl _ hr)
    rw [nqy.add nr (by rw [hsum]; exact ba), hsum, ← ad] at p2
    have p3 := ncmp_ok _ b (dl _ hr) hb
    rw [nr.cmp nb, cmpZ_lt (Int.ofNat_lt.2 (Nat.mod_lt x (by omega)))] at p3
    have hg0 : Nat.gcd x y ≠ 0 := fun h => hz (Nat.eq_zero_of_gcd_eq_zero_right h)
    have hgb : Nat.gcd x y < TB := Nat.lt_of_le_of_lt (Nat.gcd_le_right _ (by omega)) bb
    have ng := isN_dig hgb
    have p4 := ngcd_ok a b ha hb
    rw [na.gcd nb] at p4
    have d0 : Lib.decDigits 0 = [48] := by rw [Lib.decDigits_one (by decide)]; rfl
    have p5 := ndiv_ok a _ ha (dl _ hgb)
    rw [na.div ng hg0, Nat.mod_eq_zero_of_dvd (Nat.gcd_dvd_left x y), d0] at p5
    have p6 := ndiv_ok b _ hb (dl _ hgb)
    rw [nb.div ng hg0, Nat.mod_eq_zero_of_dvd (Nat.gcd_dvd_right x y), d0] at p6
    clear nq nr nqy ng dl hq hr hqy hsum hg0 hgb ba bb
    generalize Lib.decDigits (x / y) = t1 at *
    generalize Lib.decDigits (x % y) = t2 at *
    generalize Lib.decDigits (x / y * y) = t3 at *
    generalize Lib.decDigits (Nat.gcd x y) = t4 at *
    generalize Lib.decDigits (x / Nat.gcd x y) = t5 at *
    generalize Lib.decDigits (y / Nat.gcd x y) = t6 at *
    refine ACall.value0 (acall_of_ax (P := Tryz.prog) (fn := Tryz.f4) rfl rfl (by kernel_rfl) rfl (fun c hR hfix => ?_)) (fix := fun _ => False) (fun _ h => h) rfl rfl
    repeat (first
      | refine ax_q (q_assign rfl) ?_
      | refine ax_ops_nil ?_
      | refine ax_post_code ?_
      | refine ax_seq ?_
      | refine ax_region rfl ?_)
    refine ax_callv rfl rfl rfl natFact ?_
    repeat (first
      | refine ax_q (q_move rfl) ?_
      | refine ax_ops_nil ?_
      | refine ax_post_code ?_
      | refine ax_seq ?_
      | refine ax_region rfl ?_
      | refine ax_cond_false rfl ?_
      | refine ax_skip ?_
      | refine ax_q (q_not rfl) ?_)
    refine ax_callv rfl rfl rfl p0 ?_
    repeat (first
      | refine ax_q (q_move rfl) ?_
      | refine ax_q (q_assign rfl) ?_
      | refine ax_ops_nil ?_
      | refine ax_post_code ?_
      | refine ax_seq ?_
      | refine ax_region rfl ?_
      | refine ax_cond_false rfl ?_
      | refine ax_skip ?_
      | refine ax_q (q_neq rfl rfl) ?_
      | refine ax_q (q_extract rfl rfl) ?_)
    refine ax_callv rfl rfl rfl p1 ?_
    repeat (first
      | refine ax_q (q_move rfl) ?_
      | refine ax_q (q_assign rfl) ?_
      | refine ax_ops_nil ?_
      | refine ax_post_code ?_
      | refine ax_seq ?_
      | refine ax_region rfl ?_
      | refine ax_q (q_extract rfl rfl) ?_)
    refine ax_callv rfl rfl rfl p2 ?_
    repeat (first
      | refine ax_q (q_move rfl) ?_
      | refine ax_q (q_assign rfl) ?_
      | refine ax_ops_nil ?_
      | refine ax_post_code ?_
      | refine ax_seq ?_
      | refine ax_region rfl ?_
      | refine ax_q (q_extract rfl rfl) ?_)
    refine ax_callv rfl rfl rfl p3 ?_
    repeat (first
      | refine ax_q (q_move rfl) ?_
      | refine ax_q (q_assign rfl) ?_
      | refine ax_ops_nil ?_
      | refine ax_post_code ?_
      | refine ax_seq ?_
      | refine ax_region rfl ?_
      | refine ax_q (q_extract rfl rfl) ?_
      | refine ax_buildSliceRo rfl rfl rfl rfl rfl rfl rfl rfl rfl rfl rfl ?_)
    refine ax_callv rfl rfl rfl hfz ?_
    repeat (first
      | refine ax_q (q_move rfl) ?_
      | refine ax_guard rfl rfl ?_
      | refine ax_q (q_not rfl) ?_
      | refine ax_q (q_pick rfl rfl) ?_
      | refine ax_q (q_strneq rfl rfl) ?_)
    refine ax_gsplit rfl rfl (fun h => absurd rfl h) (fun _ => ?_)
    repeat (first
      | refine ax_q (q_move rfl) ?_
      | refine ax_ops_nil ?_
      | refine ax_post_code ?_
      | refine ax_guard rfl rfl ?_
      | refine ax_q (q_neq rfl rfl) ?_
      | refine ax_q (q_gtr rfl rfl) ?_
      | refine ax_q (q_pick rfl rfl) ?_
      | refine ax_q (q_lenstr rfl rfl) ?_)
    refine ax_cond_dec rfl (fun h8 => ?_) (fun h8 => ?_)
    · repeat (first
        | refine ax_q (q_move rfl) ?_
        | refine ax_seq ?_
        | refine ax_region rfl ?_
        | refine ax_buildSliceRo rfl rfl rfl rfl rfl rfl rfl rfl rfl rfl rfl ?_)
      refine ax_callv rfl rfl rfl hfz ?_
      repeat (first
        | refine ax_q (q_move rfl) ?_
        | refine ax_guard rfl rfl ?_
        | refine ax_q (q_pick rfl rfl) ?_
        | refine ax_q (q_streql rfl rfl) ?_)
      refine ax_gsplit rfl rfl (fun _ => ?_) (fun h => absurd rfl h)
      repeat (first
        | refine ax_q (q_move rfl) ?_
        | refine ax_q (q_assign rfl) ?_
        | refine ax_ops_nil ?_
        | refine ax_post_code ?_
        | refine ax_guard rfl rfl ?_
        | refine ax_return ?_
        | refine ax_ret_code ?_
        | refine ax_q (q_eql rfl rfl) ?_
        | refine ax_q (q_pick rfl rfl) ?_)
      exact ax_ret hR rfl rfl
    · repeat (first
        | refine ax_q (q_move rfl) ?_
        | refine ax_post_code ?_
        | refine ax_seq ?_
        | refine ax_region rfl ?_
        | refine ax_skip ?_)
      refine ax_callv rfl rfl rfl p4 ?_
      repeat (first
        | refine ax_q (q_move rfl) ?_
        | refine ax_q (q_assign rfl) ?_
        | refine ax_ops_nil ?_
        | refine ax_post_code ?_
        | refine ax_seq ?_
        | refine ax_region rfl ?_
        | refine ax_q (q_extract rfl rfl) ?_)
      refine ax_callv rfl rfl rfl p5 ?_
      repeat (first
        | refine ax_q (q_move rfl) ?_
        | refine ax_q (q_assign rfl) ?_
        | refine ax_ops_nil ?_
        | refine ax_post_code ?_
        | refine ax_seq ?_
        | refine ax_region rfl ?_
        | refine ax_q (q_extract rfl rfl) ?_)
      refine ax_callv rfl rfl rfl p6 ?_
      repeat (first
        | refine ax_q (q_move rfl) ?_
        | refine ax_q (q_assign rfl) ?_
        | refine ax_ops_nil ?_
        | refine ax_post_code ?_
        | refine ax_seq ?_
        | refine ax_region rfl ?_
        | refine ax_q (q_extract rfl rfl) ?_
        | refine ax_buildSliceRo rfl rfl rfl rfl rfl rfl rfl rfl rfl rfl rfl ?_)
      refine ax_callv rfl rfl rfl hfz ?_
      repeat (first
        | refine ax_q (q_move rfl) ?_
        | refine ax_q (q_assign rfl) ?_
        | refine ax_ops_nil ?_
        | refine ax_post_code ?_
        | refine ax_guard rfl rfl ?_
        | refine ax_return ?_
        | refine ax_q (q_pick rfl rfl) ?_
        | refine ax_q (q_streql rfl rfl) ?_)
      exact ax_ret hR rfl rfl
  · have hF : divF a b = ([], [], twoE a b) := by unfold divF; rw [if_pos hE]
    rw [hF] at p0
    generalize twoE a b = t at *
    refine ACall.value0 (acall_of_ax (P := Tryz.prog) (fn := Tryz.f4) rfl rfl (by kernel_rfl) rfl (fun c hR hfix => ?_)) (fix := fun _ => False) (fun _ h => h) rfl rfl
    repeat (first
      | refine ax_q (q_assign rfl) ?_
      | refine ax_ops_nil ?_
      | refine ax_post_code ?_
      | refine ax_seq ?_
      | refine ax_region rfl ?_)
    refine ax_callv rfl rfl rfl natFact ?_
    repeat (first
      | refine ax_q (q_move rfl) ?_
      | refine ax_ops_nil ?_
      | refine ax_post_code ?_
      | refine ax_seq ?_
      | refine ax_region rfl ?_
      | refine ax_cond_false rfl ?_
      | refine ax_skip ?_
      | refine ax_q (q_not rfl) ?_)
    refine ax_callv rfl rfl rfl p0 ?_
    repeat (first
      | refine ax_q (q_move rfl) ?_
      | refine ax_q (q_assign rfl) ?_
      | refine ax_ops_nil ?_
      | refine ax_post_code ?_
      | refine ax_seq ?_
      | refine ax_region rfl ?_
      | refine ax_q (q_neq rfl rfl) ?_
      | refine ax_q (q_extract rfl rfl) ?_)
    refine ax_cond_dec rfl (fun _ => ?_) (fun h => absurd hE h)
    repeat (first
      | refine ax_q (q_move rfl) ?_
      | refine ax_q (q_assign rfl) ?_
      | refine ax_ops_nil ?_
      | refine ax_post_code ?_
      | refine ax_seq ?_
      | refine ax_region rfl ?_
      | refine ax_guard rfl rfl ?_
      | refine ax_return ?_
      | refine ax_ret_code ?_
      | refine ax_q (q_pick rfl rfl) ?_
      | refine ax_q (q_streql rfl rfl) ?_)
    exact ax_ret hR rfl rfl
theorem NatOrders_law (a b : List UInt8) (ha : a.length ≤ 9223372036854775807) (hb : b.length ≤ 9223372036854775807) : VCall Tryz.prog 5 [.str a, .str b] (.bool true) := by
  have p1 := ncmp_ok a b ha hb
  have p2 := ncmp_ok b a hb ha
  have p3 := nsub_ok a b ha hb
  by_cases hE : twoE a b = 0
  · obtain ⟨ea, eb⟩ := twoE_ok hE
    have na := IsN.self ea
    have nb := IsN.self eb
    rw [na.cmp nb] at p1
    rw [nb.cmp na] at p2
    rw [na.sub nb] at p3
    have hab : a = b ↔ decV 0 a = decV 0 b := ⟨fun h => by rw [h], fun h => na.inj (h ▸ nb)⟩
    have d0 : Lib.decDigits 0 = [48] := by rw [Lib.decDigits_one (by decide)]; rfl
    generalize decV 0 a = x at *
    generalize decV 0 b = y at *
    rcases Nat.lt_trichotomy x y with h | h | h
    · rw [cmpZ_lt (Int.ofNat_lt.2 h)] at p1
      rw [cmpZ_gt (Int.ofNat_lt.2 h)] at p2
      rw [if_pos h] at p3
      have hne : ¬ a = b := fun e => by have := hab.1 e; omega
      refine ACall.value0 (acall_of_ax (P := Tryz.prog) (fn := Tryz.f5) rfl rfl (by kernel_rfl) rfl (fun c hR hfix => ?_)) (fix := fun _ => False) (fun _ h => h) rfl rfl
      repeat (first
        | refine ax_q (q_assign rfl) ?_
        | refine ax_ops_nil ?_
        | refine ax_post_code ?_
        | refine ax_seq ?_
        | refine ax_region rfl ?_)
      refine ax_callv rfl rfl rfl natFact ?_
      repeat (first
        | refine ax_q (q_move rfl) ?_
        | refine ax_ops_nil ?_
        | refine ax_post_code ?_
        | refine ax_seq ?_
        | refine ax_region rfl ?_
        | refine ax_cond_false rfl ?_
        | refine ax_skip ?_
        | refine ax_q (q_not rfl) ?_)
      refine ax_callv rfl rfl rfl p1 ?_
      repeat (first
        | refine ax_q (q_move rfl) ?_
        | refine ax_q (q_assign rfl) ?_
        | refine ax_ops_nil ?_
        | refine ax_post_code ?_
        | refine ax_seq ?_
        | refine ax_region rfl ?_
        | refine ax_cond_false rfl ?_
        | refine ax_skip ?_
        | refine ax_q (q_neq rfl rfl) ?_
        | refine ax_q (q_extract rfl rfl) ?_)
      refine ax_callv rfl rfl rfl p2 ?_
      repeat (first
        | refine ax_q (q_move rfl) ?_
        | refine ax_q (q_assign rfl) ?_
        | refine ax_ops_nil ?_
        | refine ax_post_code ?_
        | refine ax_seq ?_
        | refine ax_region rfl ?_
        | refine ax_q (q_extract rfl rfl) ?_)
      refine ax_callv rfl rfl rfl p3 ?_
      repeat (first
        | refine ax_q (q_move rfl) ?_
        | refine ax_q (q_assign rfl) ?_
        | refine ax_ops_nil ?_
        | refine ax_post_code ?_
        | refine ax_seq ?_
        | refine ax_region rfl ?_
        | refine ax_guard rfl rfl ?_
        | refine ax_q (q_neq rfl rfl) ?_
        | refine ax_q (q_extract rfl rfl) ?_)
      refine ax_q (q_neg rfl (by decide)) ?_
      repeat (first
        | refine ax_q (q_move rfl) ?_
        | refine ax_ops_nil ?_
        | refine ax_post_code ?_
        | refine ax_guard rfl rfl ?_
        | refine ax_q (q_lss rfl rfl) ?_
        | refine ax_q (q_eql rfl rfl) ?_
        | refine ax_q (q_neq rfl rfl) ?_
        | refine ax_q (q_gtr rfl rfl) ?_
        | refine ax_q (q_pick rfl rfl) ?_
        | refine ax_q (q_streql rfl rfl) ?_
        | refine ax_q (q_boolneq rfl rfl rfl) ?_)
      refine ax_cond_false (by show some (AV.bool (!(_ == decide (a = b)))) = _; rw [decide_eq_false hne]; rfl) ?_
      repeat (first
        | refine ax_q (q_move rfl) ?_
        | refine ax_q (q_assign rfl) ?_
        | refine ax_ops_nil ?_
        | refine ax_post_code ?_
        | refine ax_seq ?_
        | refine ax_region rfl ?_
        | refine ax_guard rfl rfl ?_
        | refine ax_skip_undef rfl rfl ?_
        | refine ax_skip_not rfl rfl rfl ?_
        | refine ax_skip ?_
        | refine ax_return ?_
        | refine ax_q (q_lss rfl rfl) ?_
        | refine ax_q (q_eql rfl rfl) ?_
        | refine ax_q (q_pick rfl rfl) ?_)
      exact ax_ret hR rfl rfl
    · subst h
      rw [cmpZ_eq rfl] at p1 p2
      rw [if_neg (by omega), Nat.sub_self, d0] at p3
      have heq : a = b := hab.2 rfl
      refine ACall.value0 (acall_of_ax (P := Tryz.prog) (fn := Tryz.f5) rfl rfl (by kernel_rfl) rfl (fun c hR hfix => ?_)) (fix := fun _ => False) (fun _ h => h) rfl rfl
      repeat (first
        | refine ax_q (q_assign rfl) ?_
        | refine ax_ops_nil ?_
        | refine ax_post_code ?_
        | refine ax_seq ?_
        | refine ax_region rfl ?_)
      refine ax_callv rfl rfl rfl natFact ?_
      repeat (first
        | refine ax_q (q_move rfl) ?_
        | refine ax_ops_nil ?_
        | refine ax_post_code ?_
        | refine ax_seq ?_
        | refine ax_region rfl ?_
        | refine ax_cond_false rfl ?_
        | refine ax_skip ?_
        | refine ax_q (q_not rfl) ?_)
      refine ax_callv rfl rfl rfl p1 ?_
      repeat (first
        | refine ax_q (q_move rfl) ?_
        | refine ax_q (q_assign rfl) ?_
        | refine ax_ops_nil ?_
        | refine ax_post_code ?_
        | refine ax_seq ?_
        | refine ax_region rfl ?_
        | refine ax_cond_false rfl ?_
        | refine ax_skip ?_
        | refine ax_q (q_neq rfl rfl) ?_
        | refine ax_q (q_extract rfl rfl) ?_)
      refine ax_callv rfl rfl rfl p2 ?_
      repeat (first
        | refine ax_q (q_move rfl) ?_
        | refine ax_q (q_assign rfl) ?_
        | refine ax_ops_nil ?_
        | refine ax_post_code ?_
        | refine ax_seq ?_
        | refine ax_region rfl ?_
        | refine ax_q (q_extract rfl rfl) ?_)
      refine ax_callv rfl rfl rfl p3 ?_
      repeat (first
        | refine ax_q (q_move rfl) ?_
        | refine ax_q (q_assign rfl) ?_
        | refine ax_ops_nil ?_
        | refine ax_post_code ?_
        | refine ax_seq ?_
        | refine ax_region rfl ?_
        | refine ax_guard rfl rfl ?_
        | refine ax_q (q_neq rfl rfl) ?_
        | refine ax_q (q_extract rfl rfl) ?_)
      refine ax_q (q_neg rfl (by decide)) ?_
      repeat (first
        | refine ax_q (q_move rfl) ?_
        | refine ax_ops_nil ?_
        | refine ax_post_code ?_
        | refine ax_guard rfl rfl ?_
        | refine ax_q (q_lss rfl rfl) ?_
        | refine ax_q (q_eql rfl rfl) ?_
        | refine ax_q (q_neq rfl rfl) ?_
        | refine ax_q (q_gtr rfl rfl) ?_
        | refine ax_q (q_pick rfl rfl) ?_
        | refine ax_q (q_streql rfl rfl) ?_
        | refine ax_q (q_boolneq rfl rfl rfl) ?_)
      refine ax_cond_false (by show some (AV.bool (!(_ == decide (a = b)))) = _; rw [decide_eq_true heq]; rfl) ?_
      repeat (first
        | refine ax_q (q_move rfl) ?_
        | refine ax_q (q_assign rfl) ?_
        | refine ax_ops_nil ?_
        | refine ax_post_code ?_
        | refine ax_seq ?_
        | refine ax_region rfl ?_
        | refine ax_guard rfl rfl ?_
        | refine ax_skip_not rfl rfl rfl ?_
        | refine ax_skip ?_
        | refine ax_return ?_
        | refine ax_q (q_lss rfl rfl) ?_
        | refine ax_q (q_eql rfl rfl) ?_
        | refine ax_q (q_geq rfl rfl) ?_
        | refine ax_q (q_pick rfl rfl) ?_
        | refine ax_q (q_streql rfl rfl) ?_
        | refine ax_q (q_booleq rfl rfl rfl) ?_)
      exact ax_ret hR rfl rfl
    · rw [cmpZ_gt (Int.ofNat_lt.2 h)] at p1
      rw [cmpZ_lt (Int.ofNat_lt.2 h)] at p2
      rw [if_neg (by omega)] at p3
      have hne : ¬ a = b := fun e => by have := hab.1 e; omega
      have hd : ¬ Lib.decDigits (x - y) = [48] := fun e => by rw [← d0] at e; have := decDigits_inj e; omega
      generalize Lib.decDigits (x - y) = t at *
      refine ACall.value0 (acall_of_ax (P := Tryz.prog) (fn := Tryz.f5) rfl rfl (by kernel_rfl) rfl (fun c hR hfix => ?_)) (fix := fun _ => False) (fun _ h => h) rfl rfl
      repeat (first
        | refine ax_q (q_assign rfl) ?_
        | refine ax_ops_nil ?_
        | refine ax_post_code ?_
        | refine ax_seq ?_
        | refine ax_region rfl ?_)
      refine ax_callv rfl rfl rfl natFact ?_
      repeat (first
        | refine ax_q (q_move rfl) ?_
        | refine ax_ops_nil ?_
        | refine ax_post_code ?_
        | refine ax_seq ?_
        | refine ax_region rfl ?_
        | refine ax_cond_false rfl ?_
        | refine ax_skip ?_
        | refine ax_q (q_not rfl) ?_)
      refine ax_callv rfl rfl rfl p1 ?_
      repeat (first
        | refine ax_q (q_move rfl) ?_
        | refine ax_q (q_assign rfl) ?_
        | refine ax_ops_nil ?_
        | refine ax_post_code ?_
        | refine ax_seq ?_
        | refine ax_region rfl ?_
        | refine ax_cond_false rfl ?_
        | refine ax_skip ?_
        | refine ax_q (q_neq rfl rfl) ?_
        | refine ax_q (q_extract rfl rfl) ?_)
      refine ax_callv rfl rfl rfl p2 ?_
      repeat (first
        | refine ax_q (q_move rfl) ?_
        | refine ax_q (q_assign rfl) ?_
        | refine ax_ops_nil ?_
        | refine ax_post_code ?_
        | refine ax_seq ?_
        | refine ax_region rfl ?_
        | refine ax_q (q_extract rfl rfl) ?_)
      refine ax_callv rfl rfl rfl p3 ?_
      repeat (first
        | refine ax_q (q_move rfl) ?_
        | refine ax_q (q_assign rfl) ?_
        | refine ax_ops_nil ?_
        | refine ax_post_code ?_
        | refine ax_seq ?_
        | refine ax_region rfl ?_
        | refine ax_guard rfl rfl ?_
        | refine ax_q (q_neq rfl rfl) ?_
        | refine ax_q (q_extract rfl rfl) ?_)
      refine ax_q (q_neg rfl (by decide)) ?_
      repeat (first
        | refine ax_q (q_move rfl) ?_
        | refine ax_ops_nil ?_
        | refine ax_post_code ?_
        | refine ax_guard rfl rfl ?_
        | refine ax_q (q_lss rfl rfl) ?_
        | refine ax_q (q_eql rfl rfl) ?_
        | refine ax_q (q_neq rfl rfl) ?_
        | refine ax_q (q_gtr rfl rfl) ?_
        | refine ax_q (q_pick rfl rfl) ?_
        | refine ax_q (q_streql rfl rfl) ?_
        | refine ax_q (q_boolneq rfl rfl rfl) ?_)
      refine ax_cond_false (by show some (AV.bool (!(_ == decide (a = b)))) = _; rw [decide_eq_false hne]; rfl) ?_
      repeat (first
        | refine ax_q (q_move rfl) ?_
        | refine ax_q (q_assign rfl) ?_
        | refine ax_ops_nil ?_
        | refine ax_post_code ?_
        | refine ax_seq ?_
        | refine ax_region rfl ?_
        | refine ax_guard rfl rfl ?_
        | refine ax_skip_not rfl rfl rfl ?_
        | refine ax_skip ?_
        | refine ax_return ?_
        | refine ax_q (q_lss rfl rfl) ?_
        | refine ax_q (q_eql rfl rfl) ?_
        | refine ax_q (q_geq rfl rfl) ?_
        | refine ax_q (q_pick rfl rfl) ?_
        | refine ax_q (q_streql rfl rfl) ?_
        | refine ax_q (q_booleq rfl rfl rfl) ?_)
      refine ax_ret hR rfl ?_
      show AV.bool (decide (t = [48]) == _) = _
      rw [decide_eq_false hd]; rfl
  · have hF : ncmpF a b = (0, twoE a b) := by unfold ncmpF; rw [if_pos hE]
    rw [hF] at p1
    generalize twoE a b = t at *
    refine ACall.value0 (acall_of_ax (P := Tryz.prog) (fn := Tryz.f5) rfl rfl (by kernel_rfl) rfl (fun c hR hfix => ?_)) (fix := fun _ => False) (fun _ h => h) rfl rfl
    repeat (first
      | refine ax_q (q_assign rfl) ?_
      | refine ax_ops_nil ?_
      | refine ax_post_code ?_
      | refine ax_seq ?_
      | refine ax_region rfl ?_)
    refine ax_callv rfl rfl rfl natFact ?_
    repeat (first
      | refine ax_q (q_move rfl) ?_
      | refine ax_ops_nil ?_
      | refine ax_post_code ?_
      | refine ax_seq ?_
      | refine ax_region rfl ?_
      | refine ax_cond_false rfl ?_
      | refine ax_skip ?_
      | refine ax_q (q_not rfl) ?_)
    refine ax_callv rfl rfl rfl p1 ?_
    repeat (first
      | refine ax_q (q_move rfl) ?_
      | refine ax_q (q_assign rfl) ?_
      | refine ax_ops_nil ?_
      | refine ax_post_code ?_
      | refine ax_seq ?_
      | refine ax_region rfl ?_
      | refine ax_q (q_neq rfl rfl) ?_
      | refine ax_q (q_extract rfl rfl) ?_)
    refine ax_cond_dec rfl (fun _ => ?_) (fun h => absurd hE h)
    repeat (first
      | refine ax_q (q_move rfl) ?_
      | refine ax_q (q_assign rfl) ?_
      | refine ax_ops_nil ?_
      | refine ax_post_code ?_
      | refine ax_seq ?_
      | refine ax_region rfl ?_
      | refine ax_return ?_
      | refine ax_ret_code ?_
      | refine ax_q (q_eql rfl rfl) ?_)
    exact ax_ret hR rfl rfl
theorem NatPascal_law (n0 k0 : Int) : VCall Tryz.prog 6 [.int .i64 n0, .int .i64 k0] (.bool true) := by
  obtain ⟨m1, hm1, pk1⟩ := pickN n0 200 (by decide)
  obtain ⟨m, hm⟩ : ∃ m, m1 + 1 = m := ⟨_, rfl⟩
  obtain ⟨j1, hj1, pk2⟩ := pickN k0 m (by omega)
  obtain ⟨j, hj⟩ : ∃ j, j1 + 1 = j := ⟨_, rfl⟩
  have hfz : VCall Tryz.prog 16 [.ro (.ints .i64 [0, 0, 0, 0, 0, 0, 0, 0, 0]) 0 9] (.bool true) := fineZ 9 (by decide)
  have d0 : Lib.decDigits 0 = [48] := by rw [Lib.decDigits_one (by decide)]; rfl
  have dl : ∀ n, n < TB → (Lib.decDigits n).length ≤ 9223372036854775807 := fun n h => by have := TB_len h; omega
  have bino : ∀ n k : Nat, k ≤ n → n ≤ 200 → VCall Tryz.prog 21 [.int .i64 (n : Nat), .int .i64 (k : Nat)] (.tup [.str (Lib.decDigits (ch n k)), .int .i64 0]) := fun n k h h2 => by
    have := bino_ok n k
    have e : binoF n k = (Lib.decDigits (ch n k), 0) := by
      unfold binoF
      rw [if_neg (by omega), Int.toNat_natCast, Int.toNat_natCast, bino_ch h]
    rwa [e] at this
  have fac : ∀ n : Nat, n ≤ 200 → VCall Tryz.prog 22 [.int .i64 (n : Nat)] (.tup [.str (Lib.decDigits (factN n)), .int .i64 0]) := fun n h => by
    have := fact_ok n
    have e : factF n = (Lib.decDigits (factN n), 0) := by
      unfold factF
      rw [if_neg (by omega), Int.toNat_natCast, resF_ok (fact_TB h)]
    rwa [e] at this
  have b1 := bino m j (by omega) (by omega)
  have b2 := bino (m - 1) (j - 1) (by omega) (by omega)
  have b3 := fun h : j < m => bino (m - 1) j (by omega) (by omega)
  have hpas : ch m j = ch (m - 1) (j - 1) + ch (m - 1) j := by
    obtain ⟨m', rfl⟩ : ∃ m', m = m' + 1 := ⟨m - 1, by omega⟩
    obtain ⟨j', rfl⟩ : ∃ j', j = j' + 1 := ⟨j - 1, by omega⟩
    rfl
  have hnone : ¬ j < m → ch (m - 1) j = 0 := fun h => ch_none _ _ (by omega)
  have s1 := nadd_ok _ _ (dl _ (ch_TB (n := m - 1) (k := j - 1) (by omega))) (dl _ (ch_TB (n := m - 1) (k := j) (by omega)))
  rw [(isN_dig (ch_TB (n := m - 1) (k := j - 1) (by omega))).add (isN_dig (ch_TB (n := m - 1) (k := j) (by omega))) (by rw [← hpas]; exact ch_TB (by omega)), ← hpas] at s1
  have f1 := fac m (by omega)
  have f2 := fac j (by omega)
  have f3 := fac (m - j) (by omega)
  have hcd := ch_div (n := m) (k := j) (by omega)
  have hcf := ch_fact m j (by omega)
  have hpb : factN j * factN (m - j) < TB := by
    refine Nat.lt_of_le_of_lt ?_ (fact_TB (n := m) (by omega))
    rw [← hcf]
    have : 0 < ch m j := by
      rcases Nat.eq_zero_or_pos (ch m j) with z | z
      · rw [z, Nat.zero_mul] at hcf
        have := factN_pos m
        omega
      · exact z
    exact Nat.le_mul_of_pos_left _ this
  have hp0 : factN j * factN (m - j) ≠ 0 := Nat.mul_ne_zero (by have := factN_pos j; omega) (by have := factN_pos (m - j); omega)
  have m1' := nmul_ok _ _ (dl _ (fact_TB (n := j) (by omega))) (dl _ (fact_TB (n := m - j) (by omega)))
  rw [(isN_dig (fact_TB (n := j) (by omega))).mul (isN_dig (fact_TB (n := m - j) (by omega))) hpb] at m1'
  have q1 := ndiv_ok _ _ (dl _ (fact_TB (n := m) (by omega))) (dl _ hpb)
  rw [(isN_dig (fact_TB (n := m) (by omega))).div (isN_dig hpb) hp0, hcd.1, hcd.2, d0] at q1
  clear bino fac dl hcd hcf hpb hp0 hpas
  have hz : ¬ j < m → Lib.decDigits (ch (m - 1) j) = [48] := fun h => by rw [hnone h, d0]
  generalize Lib.decDigits (ch m j) = t1 at *
  generalize Lib.decDigits (ch (m - 1) (j - 1)) = t2 at *
  generalize Lib.decDigits (ch (m - 1) j) = t3 at *
  generalize Lib.decDigits (factN m) = t4 at *
  generalize Lib.decDigits (factN j) = t5 at *
  generalize Lib.decDigits (factN (m - j)) = t6 at *
  generalize Lib.decDigits (factN j * factN (m - j)) = t7 at *
  refine ACall.value0 (acall_of_ax (P := Tryz.prog) (fn := Tryz.f6) rfl rfl (by kernel_rfl) rfl (fun c hR hfix => ?_)) (fix := fun _ => False) (fun _ h => h) rfl rfl
  repeat (first
    | refine ax_q (q_assign rfl) ?_
    | refine ax_ops_nil ?_
    | refine ax_post_code ?_
    | refine ax_seq ?_
    | refine ax_region rfl ?_)
  refine ax_callv rfl rfl rfl natFact ?_
  repeat (first
    | refine ax_q (q_move rfl) ?_
    | refine ax_ops_nil ?_
    | refine ax_post_code ?_
    | refine ax_seq ?_
    | refine ax_region rfl ?_
    | refine ax_cond_false rfl ?_
    | refine ax_skip ?_
    | refine ax_q (q_not rfl) ?_)
  refine ax_callv rfl rfl rfl pk1 ?_
  repeat (first
    | refine ax_q (q_move rfl) ?_
    | refine ax_q (q_assign rfl) ?_
    | refine ax_ops_nil ?_
    | refine ax_post_code ?_
    | refine ax_seq ?_
    | refine ax_region rfl ?_
    | refine ax_q (q_add rfl rfl (by omega)) ?_)
  refine ax_slot_ops 30 (.int .i64 (m : Nat)) rfl (AEq.of_eq (by congr 1; omega)) ?_
  refine ax_callv rfl rfl rfl pk2 ?_
  repeat (first
    | refine ax_q (q_move rfl) ?_
    | refine ax_q (q_assign rfl) ?_
    | refine ax_ops_nil ?_
    | refine ax_post_code ?_
    | refine ax_seq ?_
    | refine ax_region rfl ?_
    | refine ax_q (q_add rfl rfl (by omega)) ?_)
  refine ax_slot_ops 34 (.int .i64 (m : Nat)) rfl (AEq.of_eq (by congr 1; omega)) ?_
  refine ax_slot_ops 35 (.int .i64 (j : Nat)) rfl (AEq.of_eq (by congr 1; omega)) ?_
  refine ax_callv rfl rfl rfl b1 ?_
  repeat (first
    | refine ax_q (q_move rfl) ?_
    | refine ax_q (q_assign rfl) ?_
    | refine ax_ops_nil ?_
    | refine ax_post_code ?_
    | refine ax_seq ?_
    | refine ax_region rfl ?_
    | refine ax_q (q_extract rfl rfl) ?_
    | refine ax_q (q_sub rfl rfl (by omega)) ?_)
  refine ax_slot_ops 41 (.int .i64 (m - 1 : Nat)) rfl (AEq.of_eq (by congr 1; omega)) ?_
  refine ax_slot_ops 43 (.int .i64 (j - 1 : Nat)) rfl (AEq.of_eq (by congr 1; omega)) ?_
  refine ax_callv rfl rfl rfl b2 ?_
  repeat (first
    | refine ax_q (q_move rfl) ?_
    | refine ax_q (q_assign rfl) ?_
    | refine ax_ops_nil ?_
    | refine ax_post_code ?_
    | refine ax_seq ?_
    | refine ax_region rfl ?_
    | refine ax_q (q_lss rfl rfl) ?_
    | refine ax_q (q_extract rfl rfl) ?_)
  refine ax_slot 0 (.int .i64 (m : Nat)) rfl (AEq.of_eq (by congr 1; omega)) ?_
  refine ax_slot 1 (.int .i64 (j : Nat)) rfl (AEq.of_eq (by congr 1; omega)) ?_
  apply ax_tail_code (H := []) [(0, .int .i64 (m : Nat)), (1, .int .i64 (j : Nat)), (5, .str t1), (6, .int .i64 0), (7, .str t2), (8, .int .i64 0), (9, .str t3), (10, .int .i64 0)]
  · intro fin
    refine ax_cond_dec rfl (fun h => ?_) (fun h => ?_)
    · have hjm : j < m := by omega
      repeat (first
        | refine ax_q (q_move rfl) ?_
        | refine ax_region rfl ?_
        | refine ax_q (q_sub rfl rfl (by omega)) ?_)
      refine ax_slot_ops 52 (.int .i64 (m - 1 : Nat)) rfl (AEq.of_eq (by congr 1; omega)) ?_
      refine ax_callv rfl rfl rfl (b3 hjm) ?_
      repeat (first
        | refine ax_q (q_move rfl) ?_
        | refine ax_q (q_assign rfl) ?_
        | refine ax_ops_nil ?_
        | refine ax_post_code ?_
        | refine ax_q (q_extract rfl rfl) ?_)
      exact fin _ ⟨rfl, rfl, rfl, rfl, rfl, rfl, rfl, rfl, trivial⟩
    · have hjm : ¬ j < m := by omega
      rw [hz hjm] at fin
      repeat (first
        | refine ax_post_code ?_
        | refine ax_skip ?_)
      exact fin _ ⟨rfl, rfl, rfl, rfl, rfl, rfl, rfl, rfl, trivial⟩
  repeat (first
    | refine ax_q (q_move rfl) ?_
    | refine ax_seq ?_
    | refine ax_region rfl ?_)
  refine ax_callv rfl rfl rfl s1 ?_
  repeat (first
    | refine ax_q (q_move rfl) ?_
    | refine ax_q (q_assign rfl) ?_
    | refine ax_ops_nil ?_
    | refine ax_post_code ?_
    | refine ax_seq ?_
    | refine ax_region rfl ?_
    | refine ax_q (q_extract rfl rfl) ?_)
  refine ax_callv rfl rfl rfl f1 ?_
  repeat (first
    | refine ax_q (q_move rfl) ?_
    | refine ax_q (q_assign rfl) ?_
    | refine ax_ops_nil ?_
    | refine ax_post_code ?_
    | refine ax_seq ?_
    | refine ax_region rfl ?_
    | refine ax_q (q_extract rfl rfl) ?_)
  refine ax_callv rfl rfl rfl f2 ?_
  repeat (first
    | refine ax_q (q_move rfl) ?_
    | refine ax_q (q_assign rfl) ?_
    | refine ax_ops_nil ?_
    | refine ax_post_code ?_
    | refine ax_seq ?_
    | refine ax_region rfl ?_
    | refine ax_q (q_extract rfl rfl) ?_
    | refine ax_q (q_sub rfl rfl (by omega)) ?_)
  refine ax_slot_ops 76 (.int .i64 (m - j : Nat)) rfl (AEq.of_eq (by congr 1; omega)) ?_
  refine ax_callv rfl rfl rfl f3 ?_
  repeat (first
    | refine ax_q (q_move rfl) ?_
    | refine ax_q (q_assign rfl) ?_
    | refine ax_ops_nil ?_
    | refine ax_post_code ?_
    | refine ax_seq ?_
    | refine ax_region rfl ?_
    | refine ax_q (q_extract rfl rfl) ?_)
  refine ax_callv rfl rfl rfl m1' ?_
  repeat (first
    | refine ax_q (q_move rfl) ?_
    | refine ax_q (q_assign rfl) ?_
    | refine ax_ops_nil ?_
    | refine ax_post_code ?_
    | refine ax_seq ?_
    | refine ax_region rfl ?_
    | refine ax_q (q_extract rfl rfl) ?_)
  refine ax_callv rfl rfl rfl q1 ?_
  repeat (first
    | refine ax_q (q_move rfl) ?_
    | refine ax_q (q_assign rfl) ?_
    | refine ax_ops_nil ?_
    | refine ax_post_code ?_
    | refine ax_seq ?_
    | refine ax_region rfl ?_
    | refine ax_q (q_extract rfl rfl) ?_
    | refine ax_buildSliceRo rfl rfl rfl rfl rfl rfl rfl rfl rfl rfl rfl ?_)
  refine ax_callv rfl rfl rfl hfz ?_
  repeat (first
    | refine ax_q (q_move rfl) ?_
    | refine ax_guard rfl rfl ?_
    | refine ax_q (q_pick rfl rfl) ?_
    | refine ax_q (q_streql rfl rfl) ?_)
  refine ax_gsplit rfl rfl (fun _ => ?_) (fun h => absurd rfl h)
  repeat (first
    | refine ax_q (q_move rfl) ?_
    | refine ax_guard rfl rfl ?_
    | refine ax_q (q_pick rfl rfl) ?_
    | refine ax_q (q_streql rfl rfl) ?_)
  refine ax_gsplit rfl rfl (fun _ => ?_) (fun h => absurd rfl h)
  repeat (first
    | refine ax_q (q_move rfl) ?_
    | refine ax_q (q_assign rfl) ?_
    | refine ax_ops_nil ?_
    | refine ax_post_code ?_
    | refine ax_guard rfl rfl ?_
    | refine ax_return ?_
    | refine ax_q (q_pick rfl rfl) ?_
    | refine ax_q (q_streql rfl rfl) ?_)
  exact ax_ret hR rfl rfl
end Go.Proofs.YtbeegiiiochblaaGreatDoor

