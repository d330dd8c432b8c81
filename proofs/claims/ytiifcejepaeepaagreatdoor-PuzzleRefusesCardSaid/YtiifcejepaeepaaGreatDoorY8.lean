import Derived.Test.YtiifcejepaeepaaGreatDoorY7
set_option linter.unusedVariables false
set_option linter.unusedSimpArgs false
set_option maxRecDepth 100000
set_option maxHeartbeats 4000000
namespace Go.Proofs.YtiifcejepaeepaaGreatDoor
open Go.Ax Go.Ax.Gm Go.RowKit Go.Ax.Idx Go.Ax.Cd
attribute [local irreducible] Ax zCT QOp zb
theorem zPX {r : Go.Ax.Gm.Rules} {p : Pos} {k : Nat} (h : zAF r p (zBY k) = 0) : zCi r p (zBY k) = zAr r k p := by
 unfold zCi
 rw [if_neg (fun d => d h)]
 show zAr r (zBy (2 * (k : Int) + 1)) p = _
 rw [zFA]
theorem kids_mem {r : Go.Ax.Gm.Rules} {f : Pos → Nat → List zBl} {q : Pos} {x : zBl} : ∀ {ms : List Mv} {b : Nat}, x ∈ (zAi r f q ms b).2 → ∃ a ∈ ms, ∃ b', ze r (zQ r q a) = 0 ∧ x ∈ f (zQ r q a) b'
 | [], b, h => by simp [zAi] at h
 | a :: ms, b, h => by
  rw [zAi] at h
  split at h
  ·obtain ⟨a', h1, h2⟩ := kids_mem h
   exact ⟨a', List.mem_cons_of_mem _ h1, h2⟩
  ·rename_i hq
   have h : x ∈ f (zQ r q a) b ++ (zAi r f q ms (b + (f (zQ r q a) b).length)).2 := h
   rcases List.mem_append.1 h with h | h
   ·exact ⟨a, List.mem_cons_self .., b, Classical.not_not.1 hq, h⟩
   ·obtain ⟨a', h1, h2⟩ := kids_mem h
    exact ⟨a', List.mem_cons_of_mem _ h1, h2⟩
theorem steps_short {r : Go.Ax.Gm.Rules} : ∀ {k : Nat} {p : Pos} {b : Nat}, Go.Ax.Gm.Checked r p k → zAr r k p ≠ [] → ∀ x ∈ zx r k p b, x.2.length ≤ 10000
 | 0, p, b, h, hw, x, hx => by
  obtain rfl := List.mem_singleton.1 hx
  exact Nat.zero_le _
 | k + 1, p, b, h, hw, x, hx => by
  obtain ⟨hfm, hfw⟩ := zJG hw
  have Sq := zBg h.v h.S hfm
  have ht := h.S.tn
  rcases List.mem_cons.1 hx with e | hx
  ·rw [e]
   show (zAi r (zx r k) _ (z8 r _) (b + 1)).1.length ≤ 10000
   rw [zHa]
   exact zEI h.v Sq
  ·obtain ⟨a, ha, b', hs, hx'⟩ := kids_mem hx
   unfold z8 at ha
   split at ha
   ·simp at ha
   rename_i hq
   have hq := Classical.not_not.1 hq
   refine steps_short (h.down hfm hq ha hs) ?_ x hx'
   rcases ans_of hfw hq a ha with c | c
   ·rw [hs] at c
    rcases ht with t | t <;> (rw [t] at c; exact absurd c (by decide))
   ·exact c.2
theorem getD_short {l : List zBl} (h : ∀ x ∈ l, x.2.length ≤ 10000) (i : Nat) : (l.getD i zAz).2.length ≤ 1000000 := by
 rcases Nat.lt_or_ge i l.length with q | q
 ·exact Nat.le_trans (h _ (zAL zAz q)) (by decide)
 ·have e : l.getD i zAz = zAz := by simp [List.getD, List.getElem?_eq_none q]
  rw [e]; exact Nat.zero_le _
theorem verifyE_bad {r : Go.Ax.Gm.Rules} {p : Pos} {k : Nat} {l : List zBl} (h : zAF r p (zBY k) = 0) (hl : l.length ≤ 256) (hp : zA6 r l k p 0 = false) : zGj r p (zBY k) l = 16 := by
 have e : zBy (zBY k) = k := zFA k
 unfold zGj
 rw [if_neg (fun d => d h), if_neg (by omega), e, hp, if_pos rfl]
theorem solve_none {r : Go.Ax.Gm.Rules} {p : Pos} {k : Nat} (h : zAF r p (zBY k) = 0) (hw : zAr r k p = []) : zHD r p (zBY k) = 8 ∧ zLh r p (zBY k) = [] := by
 have e : zBy (zBY k) = k := zFA k
 have h1 : zHD r p (zBY k) = 8 := by
  unfold zHD
  rw [if_neg (fun d => d h), e, hw, if_pos (show ([] : List Mv).length = 0 from rfl)]
 exact ⟨h1, by unfold zLh; rw [h1, if_pos (by decide)]⟩
theorem solve_large {r : Go.Ax.Gm.Rules} {p : Pos} {k : Nat} (h : zAF r p (zBY k) = 0) (hw : zAr r k p ≠ []) (hl : 256 < (zx r k p 0).length) : zHD r p (zBY k) = 2 ∧ zLh r p (zBY k) = [] := by
 have e : zBy (zBY k) = k := zFA k
 have h1 : zHD r p (zBY k) = 2 := by
  unfold zHD
  rw [if_neg (fun d => d h), e, if_neg (fun d => hw (List.length_eq_zero_iff.1 d)), if_pos hl]
 exact ⟨h1, by unfold zLh; rw [h1, if_pos (by decide)]⟩
theorem solve_yes {r : Go.Ax.Gm.Rules} {p : Pos} {k : Nat} (h : zAF r p (zBY k) = 0) (hw : zAr r k p ≠ []) (hl : (zx r k p 0).length ≤ 256) : zHD r p (zBY k) = 0 ∧ zLh r p (zBY k) = zx r k p 0 := by
 have e : zBy (zBY k) = k := zFA k
 have h1 : zHD r p (zBY k) = 0 := by
  unfold zHD
  rw [if_neg (fun d => d h), e, if_neg (fun d => hw (List.length_eq_zero_iff.1 d)), if_neg (by omega)]
 exact ⟨h1, by unfold zLh; rw [h1, if_neg (by decide), e]⟩
/-- slices.Clone of steps: the caller's own -/
theorem cloneSF (l : List zBl) (hl : l.length ≤ 1000000) : zIJ Tryz.prog 44 [.ro (zIE l) 0 l.length] (fun N => .sl N 0 l.length) ⟨80, zIE l⟩ := by
 refine zb.fresh (K := fun r H => r = .sl 0 0 l.length ∧ H = [some ⟨80, zIE l⟩]) (zM (P := Tryz.prog) (fn := Tryz.f44) rfl rfl (by kernel_rfl) rfl (fun c hR hfix => ?_)) (fix := fun _ => False) (fun _ h => h) rfl (fun H => ⟨rfl, by simp [zG2, inB]⟩) ?_
 ·refine rn0 ?_
  refine zI2 rfl rfl rfl (fun b hb => ?_)
  refine rn0 ?_
  refine zAR rfl (fun h => ?_) (fun h => ?_)
  ·have hn : l = [] := List.length_eq_zero_iff.mp (hb h)
   subst hn
   refine rn7 ?_
   refine zBp 2 ⟨80, zIE []⟩ rfl rfl ?_
   refine rn2 ?_
   exact zJ hR rfl ⟨rfl, rfl⟩
  ·refine rn1 ?_
   refine zDl rfl rfl rfl rfl rfl rfl rfl rfl rfl rfl ?_
   refine zBS [some ⟨80, zIE []⟩] (zA3.eqv ⟨rfl, rfl, fun i j hi => absurd hi (Nat.not_lt_zero _)⟩ zA3.nil) ?_
   repeat (refine zA (zG rfl) ?_)
   refine zBW l rfl rfl rfl rfl rfl rfl rfl rfl rfl rfl rfl rfl rfl (by show 0 + l.length ≤ l.length; omega) (fun k j _ _ => by rw [Nat.zero_add]; rfl) (by show (0 + l.length) * 48 ≤ _ ∧ _; omega) zLi (by rw [hfix]; exact fun h => h) ?_
   refine rn0 ?_
   refine zJ hR rfl ⟨?_, rfl⟩
   show AV.sl 0 0 (0 + l.length) = _; rw [Nat.zero_add]
 ·rintro r H ⟨rfl, rfl⟩
  refine ⟨?_, fun h o ho => zEd (zAV zMt) h o ho, 0, rfl, fun n => rfl⟩
  intro o ho; simp at ho; subst ho; show 0 + l.length ≤ l.length; omega
theorem step_move (m a : Mv) (L : List Int) (T : List zBl) (i j : Nat) (hj : j < 4) : (zIE ((a, L) :: T)).at i j = if i = 0 ∧ 0 ≤ j ∧ j < 0 + 3 then (mvC a).getD (j - 0) .any else (zIE ((m, L) :: T)).at i j := by
 show (zHm (((a, L) :: T).getD i zAz)).getD j .any = if i = 0 ∧ 0 ≤ j ∧ j < 0 + 3 then (mvC a).getD (j - 0) .any else (zHm (((m, L) :: T).getD i zAz)).getD j .any
 cases i with
 | zero =>
  match j, hj with
  | 0, _ => rfl
  | 1, _ => rfl
  | 2, _ => rfl
  | 3, _ => rfl
 | succ i => rw [if_neg (fun d => by cases d.1)]; rfl
/-- PuzzleRefuses -/
theorem PuzzleRefuses_law (r : Go.Ax.Gm.Rules) (p : Pos) (n : Int) (hr : Lens r) (hp : LenP p) : zj Tryz.prog 9 [ruA r, poA p, .int .i64 n] (.bool true) := by
 refine zb.value0 (zM (P := Tryz.prog) (fn := Tryz.f9) rfl rfl (by kernel_rfl) rfl (fun c hR hfix => ?_)) (fix := fun _ => False) (fun _ h => h) rfl rfl
 have cl := light_ok r hr p hp
 generalize zNO r p = lb at cl
 refine zZ ?_
 repeat (first | refine zA (zP rfl) ?_ | refine zC ?_ | refine zB ?_ | refine zK rfl ?_ | refine zAQ rfl rfl ?_)
 refine zC0 3 4 [(2, .int .i64 n)] rfl rfl rfl rfl ⟨rfl, trivial⟩ ⟨rfl, rfl, rfl, trivial⟩ rfl hfix ?_
 refine rn0 ?_
 refine zN rfl rfl rfl zMf ?_
 refine rn6 ?_
 refine zN rfl rfl rfl cl ?_
 cases lb with
 | false =>
  refine rn5 ?_
  exact zJ hR rfl rfl
 | true =>
 refine rn6 ?_
 have c2 := zFM r hr p hp 3
 have c4 := zMp r hr p hp 3
 have ca := zK7 r hr p hp
 have cfi := fineI [zHD r p 3, zAF r p 3, zAs r p] (by show 3 ≤ 1000; decide)
 generalize hb : (!([zHD r p 3, zAF r p 3, zAs r p].any notOk)) = b at cfi
 cases b with
 | false =>
  clear hb
  generalize zHD r p 3 = e1 at *
  generalize zAF r p 3 = e2 at *
  generalize (if zAs r p ≠ 0 then [] else zo r p) = A at *
  generalize zAs r p = e3 at *
  generalize zLh r p 3 = X at *
  generalize zCi r p 3 = W at *
  refine zN rfl rfl rfl c4 ?_
  refine rn6 ?_
  refine zN rfl rfl rfl c2 ?_
  refine rn6 ?_
  refine zN rfl rfl rfl ca ?_
  refine rn3 ?_
  refine zN rfl rfl rfl cfi ?_
  refine rn6 ?_
  exact zJ hR rfl rfl
 | true =>
 have hz : zHD r p 3 = 0 ∧ zAF r p 3 = 0 ∧ zAs r p = 0 := by
  simpa [notOk] using hb
 obtain ⟨hz1, he, hpz⟩ := hz
 clear hb
 have he : zAF r p (zBY 1) = 0 := he
 have hz1 : zHD r p (zBY 1) = 0 := hz1
 obtain ⟨k', e1, hc⟩ := zFv he
 have e1 : 2 * ((1 : Nat) : Int) + 1 = 2 * (k' : Int) + 1 := e1
 obtain rfl : 1 = k' := by omega
 have hw : zAr r 1 p ≠ [] := fun d => by rw [(solve_none he d).1] at hz1; exact absurd hz1 (by decide)
 have hX : (zx r 1 p 0).length ≤ 256 := by
  rcases Nat.lt_or_ge 256 (zx r 1 p 0).length with q | q
  ·rw [(solve_large he hw q).1] at hz1; exact absurd hz1 (by decide)
  ·exact q
 have hsy := solve_yes he hw hX
 have c4 : zj Tryz.prog _ [ruA r, poA p, .int .i64 3] (.tup [zCF (zLh r p (zBY 1)), .int .i64 (zHD r p (zBY 1))]) := c4
 have c2 : zj Tryz.prog _ [ruA r, poA p, .int .i64 3] (.tup [zAy (zCi r p (zBY 1)), .int .i64 (zAF r p (zBY 1))]) := c2
 have cfi : zj Tryz.prog _ [.ro (.ints .i64 [zHD r p (zBY 1), zAF r p (zBY 1), zAs r p]) 0 3] (.bool true) := cfi
 rw [hsy.1, hsy.2] at c4
 rw [zPX he, he] at c2
 rw [hpz, if_neg (fun d => d rfl)] at ca
 rw [hsy.1, he, hpz] at cfi
 have hsh := steps_short (b := 0) hc hw
 have hpw := fun (l : List zBl) (q : zA6 r l 1 p 0 = true) => zMe q
 have hbad := fun (l : List zBl) (h1 : l.length ≤ 256) (h2 : zA6 r l 1 p 0 = false) => verifyE_bad (k := 1) he h1 h2
 have hMl := zCc hc.v hc.S
 have hsub : ∀ a, a ∈ zo r p → zAT r 1 p a = true → a ∈ zAr r 1 p := fun a h1 h2 => List.mem_filter.2 ⟨h1, h2⟩
 have hA0 : 0 < (zo r p).length := by
  have h1 : 0 < (zAr r 1 p).length := List.length_pos_iff.2 hw
  have h2 : (zAr r 1 p).length ≤ (zo r p).length := List.length_filter_le ..
  omega
 have hWl := zLr hc.v 1 hc.S
 have hst := zJ0 r 1 p 0
 generalize zA8 r 1 p = m at hst
 generalize zMw r 1 p 0 = AT at hst
 obtain ⟨L, T⟩ := AT
 have hst : zx r 1 p 0 = (m, L) :: T := hst
 generalize zx r 1 p 0 = X at *
 subst hst
 have hT : T.length ≤ 255 := by have : T.length + 1 ≤ 256 := hX; omega
 obtain ⟨i, hi, cp⟩ := pickN n (zo r p).length ⟨hA0, by omega⟩
 generalize zo r p = M at *
 generalize zAr r 1 p = W at *
 have hM0 : ¬ ((M.length : Nat) : Int) = 0 := by omega
 obtain ⟨a, ha⟩ : ∃ a, M.getD i mv0 = a := ⟨_, rfl⟩
 have haM : a ∈ M := ha ▸ zAL mv0 hi
 have ccn := zHz W a (by omega)
 rw [zNw] at ccn
 refine zN rfl rfl rfl c4 ?_
 refine rn6 ?_
 refine zN rfl rfl rfl c2 ?_
 refine rn6 ?_
 refine zN rfl rfl rfl ca ?_
 refine rn3 ?_
 refine zN rfl rfl rfl cfi ?_
 refine rn5 ?_
 rw [decide_eq_false hM0]
 refine rn4 ?_
 refine zN rfl rfl rfl cp ?_
 refine zFc ?_
 repeat (refine zAG rfl rfl rfl ?_)
 refine zd (mvC a) rfl rfl rfl rfl rfl (by rw [← ha]; rfl) rfl ?_
 refine zBC ?_
 refine zB1 13 [(3, .rp (.box (ruC r)) 0 0), (4, .rp (.box (poC p)) 0 0), (7, zCF ((m, L) :: T)), (9, zAy W)] rfl ⟨rfl, rfl, rfl, rfl, rfl, trivial⟩ ⟨rfl, rfl, rfl, rfl, trivial⟩ rfl hfix ?_
 refine rn6 ?_
 refine zN rfl rfl rfl ccn ?_
 refine rn0 ?_
 refine zD rfl (fun q => ?_) (fun q => ?_)
 ·refine rn2 ?_
  exact zJ hR rfl rfl
 have hno : zA6 r ((a, L) :: T) 1 p 0 = false := by
  rw [← Bool.not_eq_true]
  intro d
  obtain ⟨d1, d2⟩ := hpw _ d
  exact q (hsub a haM d2)
 have hvb := hbad ((a, L) :: T) (by show T.length + 1 ≤ 256; omega) hno
 have cv := zK2 r hr p hp 3 ((a, L) :: T) (by show T.length + 1 ≤ 1000000; omega) (getD_short (fun x hx => by
  rcases List.mem_cons.1 hx with e | hx
  ·rw [e]; exact hsh (m, L) (List.mem_cons_self ..)
  ·exact hsh x (List.mem_cons_of_mem _ hx)))
 have hvb : zGj r p 3 ((a, L) :: T) = 16 := hvb
 rw [hvb] at cv
 refine rn1 ?_
 refine zEK rfl rfl rfl (cloneSF ((m, L) :: T) (by show T.length + 1 ≤ 1000000; omega)) ?_
 refine rn6 ?_
 have h0l : 0 < ((m, L) :: T).length := by show 0 < T.length + 1; omega
 refine rn6 ?_
 refine zHL (s := 3) (c' := zIE ((a, L) :: T)) rfl rfl rfl rfl rfl (by show 0 + 3 ≤ 4; omega) h0l rfl rfl (fun i' j' _ hj' => step_move m a L T i' j' hj') ?_
 refine zBC ?_
 refine zCj 0 14 ((a, L) :: T).length [(3, .rp (.box (ruC r)) 0 0), (4, .rp (.box (poC p)) 0 0)] rfl (zAV zMt) rfl (Nat.le_refl _) ⟨rfl, rfl, trivial⟩ ?_
 refine rn6 ?_
 refine zN rfl rfl rfl cv ?_
 refine rn4 ?_
 exact zJ hR rfl rfl
end Go.Proofs.YtiifcejepaeepaaGreatDoor
namespace Go.Proofs.YtiifcejepaeepaaGreatDoor
open Go.Ax Go.Ax.Gm Go.RowKit
theorem rdWay {H : Type} {enc : TypeId × Value → H} {W : World} : Rd enc Tryz.prog W 143 4 zGO (fun _ => True) :=
 (Rd.struct Tryz.underlying143 (by kernel_rfl) (RdF.cons rfl rfl (Rd.int Tryz.underlying3) (RdF.cons rfl rfl (Rd.int Tryz.underlying3) (RdF.cons rfl rfl (Rd.int Tryz.underlying3) (RdF.cons rfl rfl (Rd.int Tryz.underlying3) RdF.nil))))).map
  (fun a => (⟨a.1, a.2.1, a.2.2.1, a.2.2.2.1⟩ : Go.Ax.Gm.Way)) (fun a h => trivial) (fun a => rfl) (fun a i hi => AEq.rfl')
theorem rdPc {H : Type} {enc : TypeId × Value → H} {W : World} : Rd enc Tryz.prog W 114 4 pcC (fun p => p.ways.length ≤ 9223372036854775807) :=
 (Rd.struct Tryz.underlying114 (by kernel_rfl) (RdF.cons rfl rfl (Rd.int Tryz.underlying5) (RdF.cons rfl rfl (Rd.int Tryz.underlying3) (RdF.cons rfl rfl (Rd.int Tryz.underlying3) (RdF.cons rfl rfl (Rd.slice way0 Tryz.underlying112 (by kernel_rfl) rfl rdWay) RdF.nil))))).map
  (fun a => (⟨a.1, a.2.1, a.2.2.1, a.2.2.2.1⟩ : Go.Ax.Gm.Pc)) (fun a h => h.2.2.2.1.1) (fun a => rfl) (fun a i hi => AEq.rfl')
theorem rdEn {H : Type} {enc : TypeId × Value → H} {W : World} : Rd enc Tryz.prog W 132 4 enC (fun _ => True) :=
 (Rd.struct Tryz.underlying132 (by kernel_rfl) (RdF.cons rfl rfl (Rd.int Tryz.underlying3) (RdF.cons rfl rfl (Rd.int Tryz.underlying3) (RdF.cons rfl rfl (Rd.int Tryz.underlying3) (RdF.cons rfl rfl (Rd.bool Tryz.underlying4) RdF.nil))))).map
  (fun a => (⟨a.1, a.2.1, a.2.2.1, a.2.2.2.1⟩ : Go.Ax.Gm.En)) (fun a h => trivial) (fun a => rfl) (fun a i hi => AEq.rfl')
theorem rdRules {H : Type} {enc : TypeId × Value → H} {W : World} : Rd enc Tryz.prog W 26 11 ruC Lens :=
 (Rd.struct Tryz.underlying26 (by kernel_rfl) (RdF.cons rfl rfl (Rd.str Tryz.underlying9) (RdF.cons rfl rfl (Rd.int Tryz.underlying3) (RdF.cons rfl rfl (Rd.int Tryz.underlying3) (RdF.cons rfl rfl (Rd.slice pc0 Tryz.underlying22 (by kernel_rfl) rfl rdPc) (RdF.cons rfl rfl (Rd.ints Tryz.underlying23 (by kernel_rfl) Tryz.underlying3) (RdF.cons rfl rfl (Rd.bool Tryz.underlying4) (RdF.cons rfl rfl (Rd.bool Tryz.underlying4) (RdF.cons rfl rfl (Rd.slice en0 Tryz.underlying24 (by kernel_rfl) rfl rdEn) (RdF.cons rfl rfl (Rd.int Tryz.underlying3) (RdF.cons rfl rfl (Rd.int Tryz.underlying3) (RdF.cons rfl rfl (Rd.int Tryz.underlying3) RdF.nil)))))))))))).map
  (fun a => (⟨a.1, a.2.1, a.2.2.1, a.2.2.2.1, a.2.2.2.2.1, a.2.2.2.2.2.1, a.2.2.2.2.2.2.1, a.2.2.2.2.2.2.2.1, a.2.2.2.2.2.2.2.2.1, a.2.2.2.2.2.2.2.2.2.1, a.2.2.2.2.2.2.2.2.2.2.1⟩ : Go.Ax.Gm.Rules))
  (fun a h => ⟨h.1, h.2.2.2.1.1, h.2.2.2.1.2, h.2.2.2.2.1.1, h.2.2.2.2.2.2.2.1.1⟩) (fun a => rfl) (fun a i hi => AEq.rfl')
theorem rdPos {H : Type} {enc : TypeId × Value → H} {W : World} : Rd enc Tryz.prog W 35 5 poC LenP :=
 (Rd.struct Tryz.underlying35 (by kernel_rfl) (RdF.cons rfl rfl (Rd.ints Tryz.underlying23 (by kernel_rfl) Tryz.underlying3) (RdF.cons rfl rfl (Rd.arr2 Tryz.underlying33 (by kernel_rfl) (by kernel_rfl) (Rd.ints Tryz.underlying23 (by kernel_rfl) Tryz.underlying3)) (RdF.cons rfl rfl (Rd.int Tryz.underlying3) (RdF.cons rfl rfl (Rd.int Tryz.underlying3) RdF.nil))))).map
  (fun a => (⟨a.1, a.2.1.1, a.2.1.2, a.2.2.1, a.2.2.2.1⟩ : Go.Ax.Gm.Pos)) (fun a h => ⟨h.1.1, h.2.1.1.1, h.2.1.2.1⟩) (fun a => rfl) (fun a i hi => AEq.rfl')
end Go.Proofs.YtiifcejepaeepaaGreatDoor
