import Derived.Test.YtiifcejepaeepaaGreatDoorY7
set_option linter.unusedVariables false
set_option linter.unusedSimpArgs false
set_option maxRecDepth 100000
set_option maxHeartbeats 4000000
namespace Go.Proofs.YtiifcejepaeepaaGreatDoor
open Go.Ax Go.Ax.Gm Go.RowKit Go.Ax.Idx Go.Ax.Cd
attribute [local irreducible] Ax zCT QOp zb
theorem winsL_no {r : Go.Ax.Gm.Rules} {p : Pos} {n : Int} (h : zAF r p n ≠ 0) : zCi r p n = [] := by unfold zCi; rw [if_pos h]
theorem zPX {r : Go.Ax.Gm.Rules} {p : Pos} {k : Nat} (h : zAF r p (zBY k) = 0) : zCi r p (zBY k) = zAr r k p := by
 unfold zCi
 rw [if_neg (fun d => d h)]
 show zAr r (zBy (2 * (k : Int) + 1)) p = _
 rw [zFA]
theorem solveE_no {r : Go.Ax.Gm.Rules} {p : Pos} {n : Int} (h : zAF r p n ≠ 0) : zHD r p n = zAF r p n := by unfold zHD; rw [if_pos h]
theorem solveL_no {r : Go.Ax.Gm.Rules} {p : Pos} {n : Int} (h : zAF r p n ≠ 0) : zLh r p n = [] := by unfold zLh; rw [if_pos (by rw [solveE_no h]; exact h)]
theorem kids_mem {r : Go.Ax.Gm.Rules} {f : Pos → Nat → List zBl} {q : Pos} {x : zBl} : ∀ {ms : List Mv} {b : Nat}, x ∈ (zAi r f q ms b).2 → ∃ a ∈ ms, ∃ b', ze r (zQ r q a) = 0 ∧ x ∈ f (zQ r q a) b'
 | [], b, h => by simp [zAi] at h
 | a :: ms, b, h => by
  rw [zAi] at h
  split at h
  ·obtain ⟨a', h1, h2⟩ := kids_mem h
   exact ⟨a', List.mem_cons_of_mem _ h1, h2⟩
  ·rename_i hq
   have h : x ∈ f (zQ r q a) b ++ (zAi r f q ms (b + (f (zQ r q a) b).length)).2 := h
   rcases List.mem_append.1 h with h | h
   ·exact ⟨a, List.mem_cons_self .., b, Classical.not_not.1 hq, h⟩
   ·obtain ⟨a', h1, h2⟩ := kids_mem h
    exact ⟨a', List.mem_cons_of_mem _ h1, h2⟩
theorem steps_short {r : Go.Ax.Gm.Rules} : ∀ {k : Nat} {p : Pos} {b : Nat}, Go.Ax.Gm.Checked r p k → zAr r k p ≠ [] → ∀ x ∈ zx r k p b, x.2.length ≤ 10000
 | 0, p, b, h, hw, x, hx => by
  obtain rfl := List.mem_singleton.1 hx
  exact Nat.zero_le _
 | k + 1, p, b, h, hw, x, hx => by
  obtain ⟨hfm, hfw⟩ := zJG hw
  have Sq := zBg h.v h.S hfm
  have ht := h.S.tn
  rcases List.mem_cons.1 hx with e | hx
  ·rw [e]
   show (zAi r (zx r k) _ (z8 r _) (b + 1)).1.length ≤ 10000
   rw [zHa]
   exact zEI h.v Sq
  ·obtain ⟨a, ha, b', hs, hx'⟩ := kids_mem hx
   unfold z8 at ha
   split at ha
   ·simp at ha
   rename_i hq
   have hq := Classical.not_not.1 hq
   refine steps_short (h.down hfm hq ha hs) ?_ x hx'
   rcases ans_of hfw hq a ha with c | c
   ·rw [hs] at c
    rcases ht with t | t <;> (rw [t] at c; exact absurd c (by decide))
   ·exact c.2
theorem getD_short {l : List zBl} (h : ∀ x ∈ l, x.2.length ≤ 10000) (i : Nat) : (l.getD i zAz).2.length ≤ 1000000 := by
 rcases Nat.lt_or_ge i l.length with q | q
 ·exact Nat.le_trans (h _ (zAL zAz q)) (by decide)
 ·have e : l.getD i zAz = zAz := by simp [List.getD, List.getElem?_eq_none q]
  rw [e]; exact Nat.zero_le _
theorem verifyE_yes {r : Go.Ax.Gm.Rules} {p : Pos} {k : Nat} {l : List zBl} (h : zAF r p (zBY k) = 0) (hl : l.length ≤ 256) (hp : zA6 r l k p 0 = true) : zGj r p (zBY k) l = 0 := by
 have e : zBy (zBY k) = k := zFA k
 unfold zGj
 rw [if_neg (fun d => d h), if_neg (by omega), e, hp, if_neg (by decide)]
theorem verifyE_bad {r : Go.Ax.Gm.Rules} {p : Pos} {k : Nat} {l : List zBl} (h : zAF r p (zBY k) = 0) (hl : l.length ≤ 256) (hp : zA6 r l k p 0 = false) : zGj r p (zBY k) l = 16 := by
 have e : zBy (zBY k) = k := zFA k
 unfold zGj
 rw [if_neg (fun d => d h), if_neg (by omega), e, hp, if_pos rfl]
theorem solve_none {r : Go.Ax.Gm.Rules} {p : Pos} {k : Nat} (h : zAF r p (zBY k) = 0) (hw : zAr r k p = []) : zHD r p (zBY k) = 8 ∧ zLh r p (zBY k) = [] := by
 have e : zBy (zBY k) = k := zFA k
 have h1 : zHD r p (zBY k) = 8 := by
  unfold zHD
  rw [if_neg (fun d => d h), e, hw, if_pos (show ([] : List Mv).length = 0 from rfl)]
 exact ⟨h1, by unfold zLh; rw [h1, if_pos (by decide)]⟩
theorem solve_large {r : Go.Ax.Gm.Rules} {p : Pos} {k : Nat} (h : zAF r p (zBY k) = 0) (hw : zAr r k p ≠ []) (hl : 256 < (zx r k p 0).length) : zHD r p (zBY k) = 2 ∧ zLh r p (zBY k) = [] := by
 have e : zBy (zBY k) = k := zFA k
 have h1 : zHD r p (zBY k) = 2 := by
  unfold zHD
  rw [if_neg (fun d => d h), e, if_neg (fun d => hw (List.length_eq_zero_iff.1 d)), if_pos hl]
 exact ⟨h1, by unfold zLh; rw [h1, if_pos (by decide)]⟩
theorem solve_yes {r : Go.Ax.Gm.Rules} {p : Pos} {k : Nat} (h : zAF r p (zBY k) = 0) (hw : zAr r k p ≠ []) (hl : (zx r k p 0).length ≤ 256) : zHD r p (zBY k) = 0 ∧ zLh r p (zBY k) = zx r k p 0 := by
 have e : zBy (zBY k) = k := zFA k
 have h1 : zHD r p (zBY k) = 0 := by
  unfold zHD
  rw [if_neg (fun d => d h), e, if_neg (fun d => hw (List.length_eq_zero_iff.1 d)), if_neg (by omega)]
 exact ⟨h1, by unfold zLh; rw [h1, if_neg (by decide), e]⟩
theorem stepsA_take (l : List zBl) (c : Nat) (hc : c ≤ l.length) : AEq (.ro (zIE l) 0 c) (zCF (l.take c)) := by
 have e : (l.take c).length = c := by rw [List.length_take]; omega
 show AEq _ (.ro _ 0 (l.take c).length)
 rw [e]
 refine AEq.ro rfl (fun d j hd hj => ?_)
 show (zHm ((l.take c).getD (0 + d) zAz)).getD j .any = (zHm (l.getD (0 + d) zAz)).getD j .any
 rw [Nat.zero_add, zPQ l zAz hd]
theorem cutA {r : Go.Ax.Gm.Rules} (hr : Lens r) {p : Pos} (hp : LenP p) {n : Int} {l : List zBl} (c : Nat) (hc : c ≤ l.length) (hl : l.length ≤ 256) (hs : ∀ x ∈ l, x.2.length ≤ 10000) (e : Int) (he : zGj r p n (l.take c) = e) : zj Tryz.prog 43 [ruA r, poA p, .int .i64 n, .ro (zIE l) 0 c] (.int .i64 e) := fun H => by
 subst he
 exact zb.args (zK2 r hr p hp n (l.take c) (by rw [List.length_take]; omega) (getD_short (fun x hx => hs x (List.mem_of_mem_take hx))) H) ⟨AEq.rfl', AEq.rfl', AEq.rfl', stepsA_take l c hc, trivial⟩
/-- PuzzleProves -/
theorem PuzzleProves_law (r : Go.Ax.Gm.Rules) (p : Pos) (n : Int) (hr : Lens r) (hp : LenP p) : zj Tryz.prog 8 [ruA r, poA p, .int .i64 n] (.bool true) := by
 refine zb.value0 (zM (P := Tryz.prog) (fn := Tryz.f8) rfl rfl (by kernel_rfl) rfl (fun c hR hfix => ?_)) (fix := fun _ => False) (fun _ h => h) rfl rfl
 obtain ⟨k, hk, cp⟩ := pickN n 2 ⟨by decide, by decide⟩
 have cl := light_ok r hr p hp
 generalize zNO r p = lb at cl
 refine zZ ?_
 repeat (first | refine zA (zP rfl) ?_ | refine zC ?_ | refine zB ?_ | refine zK rfl ?_ | refine zAQ rfl rfl ?_)
 refine zC0 3 4 [(2, .int .i64 n)] rfl rfl rfl rfl ⟨rfl, trivial⟩ ⟨rfl, rfl, rfl, trivial⟩ rfl hfix ?_
 refine rn0 ?_
 refine zN rfl rfl rfl zMf ?_
 refine rn5 ?_
 refine zN rfl rfl rfl cp ?_
 skip
 refine zA (zDC rfl rfl (by omega)) ?_
 refine rn6 ?_
 rw [show (1 : Int) + 2 * (k : Int) = zBY k by show _ = 2 * (k : Int) + 1; omega]
 skip
 refine zN rfl rfl rfl cl ?_
 cases lb with
 | false =>
  refine rn5 ?_
  exact zJ hR rfl rfl
 | true =>
 refine rn6 ?_
 have c2 := zFM r hr p hp (zBY k)
 have c4 := zMp r hr p hp (zBY k)
 by_cases he : zAF r p (zBY k) = 0
 rotate_left
 ·rw [winsL_no he] at c2
  rw [solveE_no he, solveL_no he] at c4
  generalize zAF r p (zBY k) = e at c2 c4 he
  refine zN rfl rfl rfl c4 ?_
  refine rn6 ?_
  refine zN rfl rfl rfl c2 ?_
  refine rn3 ?_
  refine zD rfl (fun q => ?_) (fun q => ?_)
  ·refine rn4 ?_
   rw [decide_eq_true q]
   refine rn4 ?_
   rw [decide_eq_true (rfl : e = e)]
   refine rn16 ?_
   exact zJ hR rfl rfl
  ·exact absurd he q
 obtain ⟨k', e1, hc⟩ := zFv he
 have e1 : 2 * (k : Int) + 1 = 2 * (k' : Int) + 1 := e1
 obtain rfl : k = k' := by omega
 rw [zPX he, he] at c2
 by_cases hw : zAr r k p = []
 ·rw [(solve_none he hw).1, (solve_none he hw).2] at c4
  rw [hw] at c2
  refine zN rfl rfl rfl c4 ?_
  refine rn6 ?_
  refine zN rfl rfl rfl c2 ?_
  refine rn6 ?_
  exact zJ hR rfl rfl
 have hW : ¬ (((zAr r k p).length : Nat) : Int) = 0 := fun d => hw (List.length_eq_zero_iff.1 (by omega))
 by_cases hX : 256 < (zx r k p 0).length
 ·rw [(solve_large he hw hX).1, (solve_large he hw hX).2] at c4
  generalize zAr r k p = W at c2 hW
  refine zN rfl rfl rfl c4 ?_
  refine rn6 ?_
  refine zN rfl rfl rfl c2 ?_
  refine rn6 ?_
  rw [decide_eq_false hW]
  refine rn6 ?_
  exact zJ hR rfl rfl
 have hX : (zx r k p 0).length ≤ 256 := by omega
 rw [(solve_yes he hw hX).1, (solve_yes he hw hX).2] at c4
 have hsh := steps_short (b := 0) hc hw
 have hpv := zIg (b := 0) (pre := []) (post := []) hc.S.tn hw rfl
 have hcut := fun c hc' => zPL (r := r) (k := k) (p := p) (b := 0) (c := c) (pre := []) (post := []) rfl hc'
 rw [List.nil_append, List.append_nil] at hpv hcut
 have hx0 : 0 < (zx r k p 0).length := by rw [zNm]; omega
 have h01 : ((zx r k p 0).getD 0 zAz).1 = (zAr r k p).getD 0 mv0 := by rw [zJ0]; rfl
 have cv := zK2 r hr p hp (zBY k) (zx r k p 0) (by omega) (getD_short hsh)
 rw [verifyE_yes he hX hpv] at cv
 have cx := cutA hr hp (n := zBY k) ((zx r k p 0).length - 1) (by omega) hX hsh 16 (verifyE_bad he (by rw [List.length_take]; omega) (hcut _ (by omega)))
 have hW1 : 0 < (zAr r k p).length := by omega
 generalize zx r k p 0 = X at *
 generalize zAr r k p = W at *
 have hX0 : ¬ ((X.length : Nat) : Int) = 0 := by omega
 generalize zBY k = N at *
 refine zN rfl rfl rfl c4 ?_
 refine rn6 ?_
 refine zN rfl rfl rfl c2 ?_
 refine rn4 ?_
 refine zg (by kernel_rfl) ?_
 refine zq (fuel := 0) [0, 1, 2, 3, 4, 5, 6, 7, 8, 9, 10, 11, 12, 13, 14, 15, 16, 17, 18, 19, 20, 21, 22, 23, 24, 25, 26, 27, 28, 29] [(3, .rp (.box (ruC r)) 0 0), (4, .rp (.box (poC p)) 0 0), (2, .int .i64 N), (7, zCF X), (8, .int .i64 0), (9, zAy W), (10, .int .i64 0)] ⟨rfl, rfl, rfl, rfl, rfl, rfl, rfl, trivial⟩ (by kernel_rfl) (by decide) rfl rfl ?_
 refine zI rfl rfl (zG rfl) ?_
 refine zI rfl rfl (zBj rfl rfl) ?_
 refine zI rfl rfl (zG rfl) ?_
 refine zl rfl rfl rfl rfl (zG rfl) ?_
 refine zl rfl rfl rfl rfl (zBB rfl rfl rfl) ?_
 refine zl rfl rfl rfl rfl (zBb rfl rfl) ?_
 rw [decide_eq_false hW]
 refine zI rfl rfl (zh rfl rfl) ?_
 refine zI rfl rfl (zG rfl) ?_
 refine zl rfl rfl rfl rfl (zG rfl) ?_
 refine zl rfl rfl rfl rfl (zBB rfl rfl rfl) ?_
 refine zl rfl rfl rfl rfl (zBb rfl rfl) ?_
 rw [decide_eq_false hX0]
 refine zI rfl rfl (zh rfl rfl) ?_
 refine zI rfl rfl (zG rfl) ?_
 refine zl rfl rfl rfl rfl (zG rfl) ?_
 refine zl rfl rfl rfl rfl (zi rfl rfl rfl rfl (by first | (simp only [Nat.zero_add, Int.toNat_natCast, Int.toNat_zero]; exact rfl) | exact rfl) (by omega)) ?_
 refine zl rfl rfl rfl rfl (zL rfl rfl rfl rfl rfl rfl) ?_
 refine zl rfl rfl rfl rfl (zCv rfl rfl rfl rfl rfl rfl) ?_
 refine zl rfl rfl rfl rfl (zG rfl) ?_
 refine zl rfl rfl rfl rfl (zi rfl rfl rfl rfl (by first | (simp only [Nat.zero_add, Int.toNat_natCast, Int.toNat_zero]; exact rfl) | exact rfl) (by omega)) ?_
 refine zl rfl rfl rfl rfl (zf rfl rfl rfl rfl rfl rfl) ?_
 refine zl rfl rfl rfl rfl (zGF (b := true) rfl rfl rfl (by kernel_rfl) (by kernel_rfl) (by kernel_rfl) (by
  show some (decide ((X.getD 0 zAz).1.fr = (W.getD 0 mv0).fr) && (decide ((X.getD 0 zAz).1.to = (W.getD 0 mv0).to) && (decide ((X.getD 0 zAz).1.pc = (W.getD 0 mv0).pc) && true))) = some true
  rw [h01]; simp)) ?_
 refine zI rfl rfl (zh rfl rfl) ?_
 refine zI rfl rfl (zG rfl) ?_
 refine zl rfl rfl rfl rfl (zf rfl rfl rfl rfl rfl rfl) ?_
 refine zl rfl rfl rfl rfl (zf rfl rfl rfl rfl rfl rfl) ?_
 refine zl rfl rfl rfl rfl (zG rfl) ?_
 refine zl rfl rfl rfl rfl (zG rfl) ?_
 refine zBm rfl rfl rfl rfl rfl rfl rfl cv ?_
 refine zl rfl rfl rfl rfl (zBj rfl rfl) ?_
 refine zI rfl rfl (zh rfl rfl) ?_
 refine z7 ?_
 refine zX (by kernel_rfl) ?_
 refine rn4 ?_
 refine zg (by kernel_rfl) ?_
 refine zq (fuel := 0) [0, 1, 2, 3, 4, 5, 6, 7, 8, 9, 10] [(3, .rp (.box (ruC r)) 0 0), (4, .rp (.box (poC p)) 0 0), (2, .int .i64 N), (7, zCF X)] ⟨rfl, rfl, rfl, rfl, trivial⟩ (by kernel_rfl) (by decide) rfl rfl ?_
 refine zI rfl rfl (zf rfl rfl rfl rfl rfl rfl) ?_
 refine zI rfl rfl (zf rfl rfl rfl rfl rfl rfl) ?_
 refine zI rfl rfl (zG rfl) ?_
 refine zI rfl rfl (zG rfl) ?_
 refine zI rfl rfl (zG rfl) ?_
 refine zI rfl rfl (zBB rfl rfl rfl) ?_
 refine zI rfl rfl (zBR rfl rfl (by omega)) ?_
 refine zI rfl rfl (zG7 rfl rfl rfl rfl rfl rfl rfl (by omega)) ?_
 have e7 : ((X.length : Nat) : Int) - 1 = ((X.length - 1 : Nat) : Int) := by omega
 try rw [e7]
 refine zCS rfl rfl rfl rfl rfl cx ?_
 refine zI rfl rfl (zBb rfl rfl) ?_
 refine zI rfl rfl (zP rfl) ?_
 refine z7 ?_
 refine zX (by kernel_rfl) ?_
 refine rn0 ?_
 exact zJ hR rfl rfl
end Go.Proofs.YtiifcejepaeepaaGreatDoor
namespace Go.Proofs.YtiifcejepaeepaaGreatDoor
open Go.Ax Go.Ax.Gm Go.RowKit
theorem rdWay {H : Type} {enc : TypeId × Value → H} {W : World} : Rd enc Tryz.prog W 143 4 zGO (fun _ => True) :=
 (Rd.struct Tryz.underlying143 (by kernel_rfl) (RdF.cons rfl rfl (Rd.int Tryz.underlying3) (RdF.cons rfl rfl (Rd.int Tryz.underlying3) (RdF.cons rfl rfl (Rd.int Tryz.underlying3) (RdF.cons rfl rfl (Rd.int Tryz.underlying3) RdF.nil))))).map
  (fun a => (⟨a.1, a.2.1, a.2.2.1, a.2.2.2.1⟩ : Go.Ax.Gm.Way)) (fun a h => trivial) (fun a => rfl) (fun a i hi => AEq.rfl')
theorem rdPc {H : Type} {enc : TypeId × Value → H} {W : World} : Rd enc Tryz.prog W 114 4 pcC (fun p => p.ways.length ≤ 9223372036854775807) :=
 (Rd.struct Tryz.underlying114 (by kernel_rfl) (RdF.cons rfl rfl (Rd.int Tryz.underlying5) (RdF.cons rfl rfl (Rd.int Tryz.underlying3) (RdF.cons rfl rfl (Rd.int Tryz.underlying3) (RdF.cons rfl rfl (Rd.slice way0 Tryz.underlying112 (by kernel_rfl) rfl rdWay) RdF.nil))))).map
  (fun a => (⟨a.1, a.2.1, a.2.2.1, a.2.2.2.1⟩ : Go.Ax.Gm.Pc)) (fun a h => h.2.2.2.1.1) (fun a => rfl) (fun a i hi => AEq.rfl')
theorem rdEn {H : Type} {enc : TypeId × Value → H} {W : World} : Rd enc Tryz.prog W 132 4 enC (fun _ => True) :=
 (Rd.struct Tryz.underlying132 (by kernel_rfl) (RdF.cons rfl rfl (Rd.int Tryz.underlying3) (RdF.cons rfl rfl (Rd.int Tryz.underlying3) (RdF.cons rfl rfl (Rd.int Tryz.underlying3) (RdF.cons rfl rfl (Rd.bool Tryz.underlying4) RdF.nil))))).map
  (fun a => (⟨a.1, a.2.1, a.2.2.1, a.2.2.2.1⟩ : Go.Ax.Gm.En)) (fun a h => trivial) (fun a => rfl) (fun a i hi => AEq.rfl')
theorem rdRules {H : Type} {enc : TypeId × Value → H} {W : World} : Rd enc Tryz.prog W 26 11 ruC Lens :=
 (Rd.struct Tryz.underlying26 (by kernel_rfl) (RdF.cons rfl rfl (Rd.str Tryz.underlying9) (RdF.cons rfl rfl (Rd.int Tryz.underlying3) (RdF.cons rfl rfl (Rd.int Tryz.underlying3) (RdF.cons rfl rfl (Rd.slice pc0 Tryz.underlying22 (by kernel_rfl) rfl rdPc) (RdF.cons rfl rfl (Rd.ints Tryz.underlying23 (by kernel_rfl) Tryz.underlying3) (RdF.cons rfl rfl (Rd.bool Tryz.underlying4) (RdF.cons rfl rfl (Rd.bool Tryz.underlying4) (RdF.cons rfl rfl (Rd.slice en0 Tryz.underlying24 (by kernel_rfl) rfl rdEn) (RdF.cons rfl rfl (Rd.int Tryz.underlying3) (RdF.cons rfl rfl (Rd.int Tryz.underlying3) (RdF.cons rfl rfl (Rd.int Tryz.underlying3) RdF.nil)))))))))))).map
  (fun a => (⟨a.1, a.2.1, a.2.2.1, a.2.2.2.1, a.2.2.2.2.1, a.2.2.2.2.2.1, a.2.2.2.2.2.2.1, a.2.2.2.2.2.2.2.1, a.2.2.2.2.2.2.2.2.1, a.2.2.2.2.2.2.2.2.2.1, a.2.2.2.2.2.2.2.2.2.2.1⟩ : Go.Ax.Gm.Rules))
  (fun a h => ⟨h.1, h.2.2.2.1.1, h.2.2.2.1.2, h.2.2.2.2.1.1, h.2.2.2.2.2.2.2.1.1⟩) (fun a => rfl) (fun a i hi => AEq.rfl')
theorem rdPos {H : Type} {enc : TypeId × Value → H} {W : World} : Rd enc Tryz.prog W 35 5 poC LenP :=
 (Rd.struct Tryz.underlying35 (by kernel_rfl) (RdF.cons rfl rfl (Rd.ints Tryz.underlying23 (by kernel_rfl) Tryz.underlying3) (RdF.cons rfl rfl (Rd.arr2 Tryz.underlying33 (by kernel_rfl) (by kernel_rfl) (Rd.ints Tryz.underlying23 (by kernel_rfl) Tryz.underlying3)) (RdF.cons rfl rfl (Rd.int Tryz.underlying3) (RdF.cons rfl rfl (Rd.int Tryz.underlying3) RdF.nil))))).map
  (fun a => (⟨a.1, a.2.1.1, a.2.1.2, a.2.2.1, a.2.2.2.1⟩ : Go.Ax.Gm.Pos)) (fun a h => ⟨h.1.1, h.2.1.1.1, h.2.1.2.1⟩) (fun a => rfl) (fun a i hi => AEq.rfl')
end Go.Proofs.YtiifcejepaeepaaGreatDoor
