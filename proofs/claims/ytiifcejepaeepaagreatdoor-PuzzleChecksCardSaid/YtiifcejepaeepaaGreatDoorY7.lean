import Derived.Laws.Bits64
import Derived.Test.YtiifcejepaeepaaGreatDoorY6
set_option linter.unusedVariables false
set_option linter.unusedSimpArgs false
set_option maxRecDepth 100000
set_option maxHeartbeats 4000000
namespace Go.Proofs.YtiifcejepaeepaaGreatDoor
open Go.Ax Go.Ax.Gm Go.RowKit Go.Ax.Idx Go.Ax.Cd
attribute [local irreducible] Ax zCM QOp zd
def zC8 (q : Mv → Bool) (l : List Mv) : List Mv := l.filter (fun x => !(q x))
theorem zJ9 (q : Mv → Bool) (l : List Mv) {j : Nat} (h : j < l.length) : zC8 q (l.take (j + 1)) = if q (l.getD j mv0) = true then zC8 q (l.take j) else zC8 q (l.take j) ++ [l.getD j mv0] := by
 unfold zC8
 rw [zz l mv0 j h, List.filter_append]
 cases hq : q (l.getD j mv0) with
 | true => rw [if_pos rfl, List.filter_cons_of_neg (by rw [hq]; decide)]; simp
 | false => rw [if_neg (by decide), List.filter_cons_of_pos (by rw [hq]; rfl)]; rfl
theorem zLh (q : Mv → Bool) {l : List Mv} (h : ∀ x ∈ l, q x = false) : zC8 q l = l := by
 unfold zC8
 rw [List.filter_eq_self]
 intro a ha
 rw [h a ha]; rfl
theorem keep_len (q : Mv → Bool) (l : List Mv) : (zC8 q l).length ≤ l.length := List.length_filter_le ..
/-- slices.DeleteFunc of moves -/
theorem zNh (l : List Mv) (g : FuncId) (X Y Z : Cells) (q : Mv → Bool) (hl : l.length ≤ 100000) (hq : ∀ x ∈ l, zl Tryz.prog g ([mvA x] ++ [.rp X 0 0, .rp Y 0 0, .rp Z 0 0]) (.bool (q x))) :
 zd Tryz.prog 102 [.sl 0 0 l.length, .fn g [.rp X 0 0, .rp Y 0 0, .rp Z 0 0]] [some ⟨58, zAy l⟩] (fun h => h < 1) (fun r H => r = .sl 0 0 (zC8 q l).length ∧ H = [some ⟨58, zAy (zC8 q l ++ List.replicate (l.length - (zC8 q l).length) mv0)⟩]) := by
 have ci := zLe l l.length g [.rp X 0 0, .rp Y 0 0, .rp Z 0 0] q (Nat.le_refl _) rfl (by omega) hq
 rw [List.take_length, zIt] at ci
 refine zN (P := Tryz.prog) (fn := Tryz.f102) J J (by kernel_rfl) J (fun c hR hfix => ?_)
 by_cases hi : l.findIdx q < l.length
 ·rw [if_pos hi] at ci
  have hqi : q (l.getD (l.findIdx q) mv0) = true := by rw [zFB mv0 hi]; exact List.findIdx_getElem (w := hi)
  have hpre : zC8 q (l.take (l.findIdx q)) = l.take (l.findIdx q) := zLh q (fun x hx => by
   obtain ⟨j, hj, rfl⟩ := List.mem_iff_getElem.1 hx
   rw [List.length_take] at hj
   rw [List.getElem_take]
   have := List.not_of_lt_findIdx (p := q) (xs := l) (i := j) (by omega)
   simpa using this)
  have hpl : (l.take (l.findIdx q)).length = l.findIdx q := by rw [List.length_take]; omega
  have hst := zJ9 q l hi
  rw [if_pos hqi, hpre] at hst
  generalize hI : l.findIdx q = i at *
  refine rn0 ?_
  refine zLD rfl rfl rfl rfl ci (zEN (zAZ zDO)) ⟨fun o ho => by cases ho; show 0 + l.length ≤ l.length; omega, ⟨trivial, trivial, trivial, trivial⟩, trivial⟩ rfl rfl rfl ?_
  refine rn4 ?_
  refine z8 (ι := Nat) (fun j => [(0, .sl 0 0 l.length), (1, .fn g [.rp X 0 0, .rp Y 0 0, .rp Z 0 0]), (5, .int .i64 ((zC8 q (l.take j)).length : Nat)), (6, iN j)]) (fun j => [some ⟨58, zAy (zC8 q (l.take j) ++ l.drop (zC8 q (l.take j)).length)⟩]) (fun j => j ≤ l.length ∧ (zC8 q (l.take j)).length < j) (fun j => l.length - j) (i + 1) ⟨⟨J, J, ?_, ?_, trivial⟩, ?_, by omega, ?_⟩ ?_
  ·rw [hst, hpl]; rfl
  ·show some (AV.int .i64 _) = some (AV.int .i64 _)
   congr 2
  ·rw [hst, hpl, List.take_append_drop]
  ·rw [hst, hpl]; omega
  intro j ⟨hj, hjc⟩
  have hsu := fun (h : j < l.length) => zJ9 q l h
  have hKl := keep_len q l
  obtain ⟨A, hA⟩ : ∃ A, zC8 q (l.take j) = A := ⟨_, rfl⟩
  rw [hA] at hjc hsu ⊢
  have hXl : (A ++ l.drop A.length).length = l.length := by rw [List.length_append, List.length_drop]; omega
  have hXg : ∀ i, A.length ≤ i → (A ++ l.drop A.length).getD i mv0 = l.getD i mv0 := fun i q => by rw [zJ5 q, zFA]; congr 1; omega
  obtain ⟨B, hB⟩ : ∃ B, A ++ l.drop A.length = B := ⟨_, rfl⟩
  rw [hB] at hXl hXg ⊢
  refine rn4 ?_
  refine zF J (fun q2 => ?_) (fun q2 => ?_)
  ·have hj' : j < l.length := by omega
   have hsu := hsu hj'
   have hgj := hXg j (by omega)
   have cq := hq (l.getD j mv0) (zAN mv0 hj')
   obtain ⟨m, hm⟩ : ∃ m, l.getD j mv0 = m := ⟨_, rfl⟩
   rw [hm] at hsu hgj cq
   have hjB : j < B.length := by omega
   repeat (first | refine zA (zG rfl) ?_ | refine zB ?_ | refine zY ?_ | refine zJ rfl ?_ | refine zAc ?_ | refine zAQ ?_ | refine zA (zn rfl rfl rfl rfl rfl (by first | (simp only [Nat.zero_add, Int.toNat_natCast, Int.toNat_zero]; exact rfl) | exact rfl) (by omega)) ?_ | refine zA (qpp rfl rfl rfl rfl rfl rfl rfl) ?_)
   repeat (refine zAK rfl rfl rfl ?_)
   refine zb (mvC m) J J J J J (by rw [← hgj]; rfl) J ?_
   refine zBA ?_
   refine zCa [some ⟨58, zAy B⟩] 7 [(0, .sl 0 0 l.length), (1, .fn g [.rp X 0 0, .rp Y 0 0, .rp Z 0 0]), (5, iN A.length), (6, iN j)] J J ⟨J, J, J, J, trivial⟩ ⟨J, J, J, J, J, trivial⟩ (zBo (zGH _) zBK) J (fun h q => by rw [hfix] at q; exact q) ?_
   refine rn6 ?_
   refine zP J J J cq ?_
   refine rn5 ?_
   cases hqm : q m with
   | true =>
    rw [if_pos hqm] at hsu
    refine rn5 ?_
    exact zR ⟨j + 1, ⟨by omega, by rw [hsu]; omega⟩, by omega, ⟨J, J, by rw [hsu]; rfl, J, trivial⟩, by rw [hsu, hB]⟩
   | false =>
    rw [if_neg (by rw [hqm]; decide)] at hsu
    have hAB : A.length < B.length := by omega
    have hnl : (A ++ [m]).length = A.length + 1 := by rw [List.length_append]; rfl
    refine rn6 ?_
    refine zDW (c' := zAy ((A ++ [m]) ++ l.drop (A.length + 1))) J J J J J hAB ?_ J (fun i' j' hi' hj' => ?_) ?_
    ·show ((A ++ [m]) ++ l.drop (A.length + 1)).length = B.length
     rw [List.length_append, hnl, List.length_drop]; omega
    ·have hj' : j' < 3 := hj'
     show (mvC (((A ++ [m]) ++ l.drop (A.length + 1)).getD i' mv0)).getD j' .any = _
     rw [zKM, hB]
     by_cases e : i' = A.length
     ·rw [if_pos e, if_pos e]
      match j', hj' with
      | 0, _ => rfl
      | 1, _ => rfl
      | 2, _ => rfl
     ·rw [if_neg e, if_neg e]; rfl
    refine rn5 ?_
    refine zR ⟨j + 1, ⟨by omega, by rw [hsu, hnl]; omega⟩, by omega, ⟨J, J, ?_, J, trivial⟩, ?_⟩
    ·show some (AV.int .i64 _) = some (AV.int .i64 _)
     congr 2; rw [hsu, hnl]; omega
    ·rw [hsu, hnl]; rfl
  ·have hj' : j = l.length := by omega
   subst hj'
   rw [List.take_length] at hA
   have hAk : A.length < l.length := by omega
   refine rn17 ?_
   refine zAt 38 (.sl 0 A.length (l.length - A.length)) J (AEq.of_eq (by congr 1 <;> omega)) ?_
   refine zJo (zs := [.int .i64 0, .int .i64 0, .int .i64 0]) (s := 3) (c' := zAy (A ++ List.replicate (l.length - A.length) mv0)) J J J J J J J (fun j' hj' w S σ => ?_) J (by omega) J (by show A.length + (l.length - A.length) ≤ B.length; omega) ?_ J (fun i' j' hi' hj' => ?_) ?_
   ·match j', hj' with
    | 0, _ => exact .int _ _ _
    | 1, _ => exact .int _ _ _
    | 2, _ => exact .int _ _ _
   ·show (A ++ List.replicate (l.length - A.length) mv0).length = B.length
    rw [List.length_append, List.length_replicate]; omega
   ·have hj' : j' < 3 := hj'
    have hi' : i' < B.length := hi'
    show (mvC ((A ++ List.replicate (l.length - A.length) mv0).getD i' mv0)).getD j' .any = _
    by_cases e : i' < A.length
    ·rw [if_neg (by omega), zBX, if_pos e]
     show _ = (mvC (B.getD i' mv0)).getD j' .any
     rw [← hB, zBX, if_pos e]
    ·rw [if_pos (by omega), zBX, if_neg e, zKv]
     match j', hj' with
     | 0, _ => rfl
     | 1, _ => rfl
     | 2, _ => rfl
   refine rn0 ?_
   refine zA (zLy J J J J J J J J (by omega)) ?_
   refine rn0 ?_
   refine zL hR J ⟨?_, ?_⟩
   ·rw [hA]; rfl
   ·rw [hA]; rfl
 ·rw [if_neg hi] at ci
  have hk : zC8 q l = l := zLh q (fun x hx => by
   rw [← Bool.not_eq_true]
   intro c
   exact hi (List.findIdx_lt_length_of_exists ⟨x, hx, c⟩))
  rw [hk] at hR
  refine rn0 ?_
  refine zLD rfl rfl rfl rfl ci (zEN (zAZ zDO)) ⟨fun o ho => by cases ho; show 0 + l.length ≤ l.length; omega, ⟨trivial, trivial, trivial, trivial⟩, trivial⟩ rfl rfl rfl ?_
  refine rn5 ?_
  exact zL hR J ⟨J, by rw [Nat.sub_self]; simp⟩
abbrev zCh (k : Nat) : Int := 2 * (k : Int) + 1
/-- the closure of puzzle.all -/
theorem allc_ok (r : Go.Ax.Gm.Rules) (p : Pos) (m : Mv) (n : Int) (b : Bool) (hw : zl Tryz.prog 104 [ruA r, poA p, mvA m, .int .i64 n] (.bool b)) :
 zl Tryz.prog 103 [mvA m, .rp (.box (ruC r)) 0 0, .rp (.box (poC p)) 0 0, .rp (.box [.int .i64 n]) 0 0] (.bool (!b)) := by
 refine zd.value0 (zN (P := Tryz.prog) (fn := Tryz.f103) J J (by kernel_rfl) J (fun c hR hfix => ?_)) (fix := fun _ => False) (fun _ h => h) J J
 repeat (first | refine zA (zO rfl) ?_ | refine zC ?_ | refine zB ?_ | refine zY ?_ | refine zJ rfl ?_ | refine zA (zD rfl rfl rfl rfl) ?_ | refine zA (zf rfl rfl rfl rfl rfl rfl) ?_ | refine zA (qpp rfl rfl rfl rfl rfl rfl rfl) ?_ | refine zAO rfl rfl ?_)
 refine zP J J J hw ?_
 refine rn5 ?_
 exact zL hR J J
/-- puzzle.all, from puzzle.wins -/
theorem zM9 (r : Go.Ax.Gm.Rules) (hv : ValidR r) (k : Nat) (p : Pos) (S : Sound r p) (hw : ∀ m ∈ zx r p, zl Tryz.prog 104 [ruA r, poA p, mvA m, .int .i64 (zCh k)] (.bool (zBp r k p m))) :
 zl Tryz.prog 70 [ruA r, poA p, .int .i64 (zCh k)] (zBC (zBN r k p)) := by
 have hml := zDb hv S
 have hk : zC8 (fun m => !(zBp r k p m)) (zx r p) = zBN r k p := by
  unfold zC8 zBN
  refine List.filter_congr (fun m _ => ?_)
  rw [Bool.not_not]
 have cd := zNh (zx r p) 103 (.box (ruC r)) (.box (poC p)) (.box [.int .i64 (zCh k)]) (fun m => !(zBp r k p m)) (by omega) (fun m hm => allc_ok r p m (zCh k) _ (hw m hm))
 rw [hk] at cd
 refine zd.value (K := fun v H => v = .sl 0 0 (zBN r k p).length ∧ H = [some ⟨58, zAy (zBN r k p)⟩]) (zN (P := Tryz.prog) (fn := Tryz.f70) J J (by kernel_rfl) J (fun c hR hfix => ?_)) (fix := fun _ => False) (fun _ h => h) J ?_
 ·refine zY ?_
  repeat (first | refine zA (zO rfl) ?_ | refine zC ?_ | refine zB ?_ | refine zJ rfl ?_ | refine zAO rfl rfl ?_)
  refine zGX [(3, .rp (.box (ruC r)) 0 0), (4, .rp (.box (poC p)) 0 0), (5, .rp (.box [.int .i64 (zCh k)]) 0 0)] (zB8 (zq rfl) (zB8 (zq rfl) (zB8 (zq rfl) zCd))) ⟨⟨_, rfl, .inr (.inr ⟨rfl, fun o ho => by cases ho; exact Nat.zero_lt_one⟩)⟩, ⟨_, rfl, .inr (.inr ⟨rfl, fun o ho => by cases ho; exact Nat.zero_lt_one⟩)⟩, ⟨_, rfl, .inr (.inr ⟨rfl, fun o ho => by cases ho; exact Nat.zero_lt_one⟩)⟩, trivial⟩ ⟨rfl, rfl, rfl, trivial⟩ rfl hfix ?_
  refine rn6 ?_
  refine zD3 J J J (listF_ok r hv p S) ?_
  repeat (refine zA (zCj rfl) ?_)
  refine zCA J J J cd (fun _ h => h) (fun _ h => h) ?_
  rintro r' H' ⟨rfl, rfl⟩
  refine rn7 ?_
  refine zLH 0 (zAy (zBN r k p)) J ⟨?_, J, fun i j hi hj => ?_⟩ ?_
  ·show (zBN r k p).length ≤ (zBN r k p ++ List.replicate ((zx r p).length - (zBN r k p).length) mv0).length
   rw [List.length_append]; omega
  ·show (mvC ((zBN r k p).getD i mv0)).getD j .any = (mvC ((zBN r k p ++ List.replicate ((zx r p).length - (zBN r k p).length) mv0).getD i mv0)).getD j .any
   have hi : i < (zBN r k p).length := hi
   rw [zBX, if_pos hi]
  repeat (refine zAA ?_)
  exact zL hR J ⟨J, J⟩
 ·rintro v H ⟨rfl, rfl⟩
  refine ⟨J, ?_, fun h o ho => zEN (zAZ zDO) h o ho⟩
  intro o ho; simp at ho; subst ho; show 0 + (zBN r k p).length ≤ (zBN r k p).length; omega
/-- puzzle.wins -/
theorem wins_ok' (r : Go.Ax.Gm.Rules) (hv : ValidR r) : ∀ (k : Nat) (hk : k ≤ 100) (p : Pos) (S : Sound r p) (m : Mv) (hm : m ∈ zx r p), zl Tryz.prog 104 [ruA r, poA p, mvA m, .int .i64 (zCh k)] (.bool (zBp r k p m)) := by
 intro k
 induction k with
 | zero =>
  intro hk p S m hm
  have Sq := zB7 hv S hm
  have ht := S.tn
  refine zd.value0 (zN (P := Tryz.prog) (fn := Tryz.f104) J J (by kernel_rfl) J (fun c hR hfix => ?_)) (fix := fun _ => False) (fun _ h => h) J J
  refine rn6 ?_
  refine zP J J J (zDw r hv p S m (Go.Ax.Gm.list_ok hv S hm)) ?_
  repeat (refine zAK rfl rfl rfl ?_)
  refine zb (poC (zZ r p m)) J J J J J J J ?_
  refine rn6 ?_
  refine zP J J J (zCH r hv (zZ r p m) Sq) ?_
  refine rn3 ?_
  refine zF J (fun q => ?_) (fun q => ?_)
  ·have e := zHx (k := 0) (m := m) q
   rw [e] at hR
   refine rn4 ?_
   exact zL hR J J
  ·have e := zM5 (m := m) ht (Classical.not_not.1 q)
   rw [e] at hR
   refine rn5 ?_
   exact zL hR J J
 | succ k ih =>
  intro hk p S m hm
  have Sq := zB7 hv S hm
  have ht := S.tn
  have e2 : zCh (k + 1) - 2 = zCh k := by show 2 * ((k + 1 : Nat) : Int) + 1 - 2 = 2 * (k : Int) + 1; omega
  have hall : ∀ s, Sound r s → zl Tryz.prog 70 [ruA r, poA s, .int .i64 (zCh k)] (zBC (zBN r k s)) := fun s Ss => zM9 r hv k s Ss (fun x hx => ih (by omega) s Ss x hx)
  have hpl : zCh (k + 1) = 2 * ((k + 1 : Nat) : Int) + 1 := rfl
  generalize hN : zCh (k + 1) = N at e2 hpl
  refine zd.value0 (zN (P := Tryz.prog) (fn := Tryz.f104) J J (by kernel_rfl) J (fun c hR hfix => ?_)) (fix := fun _ => False) (fun _ h => h) J J
  refine zY ?_
  repeat (first | refine zA (zO rfl) ?_ | refine zC ?_ | refine zB ?_ | refine zJ rfl ?_ | refine zAO rfl rfl ?_)
  refine zGX [(4, .rp (.box (ruC r)) 0 0), (5, .rp (.box (poC p)) 0 0), (6, .rp (.box (mvC m)) 0 0), (3, .int .i64 N)] (zB8 (zq rfl) (zB8 (zq rfl) (zB8 (zq rfl) zCd))) ⟨⟨_, rfl, .inr (.inr ⟨rfl, fun o ho => by cases ho; exact Nat.zero_lt_one⟩)⟩, ⟨_, rfl, .inr (.inr ⟨rfl, fun o ho => by cases ho; exact Nat.zero_lt_one⟩)⟩, ⟨_, rfl, .inr (.inr ⟨rfl, fun o ho => by cases ho; exact Nat.zero_lt_one⟩)⟩, ⟨_, rfl, .inl rfl⟩, trivial⟩ ⟨rfl, rfl, rfl, rfl, trivial⟩ rfl hfix ?_
  repeat (first | refine zA (zO rfl) ?_ | refine zC ?_ | refine zB ?_ | refine zY ?_ | refine zJ rfl ?_ | refine zA (zAw rfl rfl (by omega)) ?_ | refine zA (zD rfl rfl rfl rfl) ?_ | refine zA (zK rfl rfl rfl rfl rfl rfl) ?_ | refine zA (zf rfl rfl rfl rfl rfl rfl) ?_)
  refine zP J J J (zDw r hv p S m (Go.Ax.Gm.list_ok hv S hm)) ?_
  repeat (refine zAK rfl rfl rfl ?_)
  refine zb (poC (zZ r p m)) J J J J J J J ?_
  refine zBA ?_
  have hW : zp r (zZ r p m) = 0 → zBp r (k + 1) p m = (zx r (zZ r p m)).all (ansB r (zBp r k) (1 + p.turn) (zZ r p m)) := fun c => by rw [zBp, if_neg (fun d => d c)]
  have hOv := fun c => zHx (r := r) (k := k + 1) (p := p) (m := m) c
  generalize hQ : zZ r p m = Q at *
  refine zB0 10 [(4, .rp (.box (ruC r)) 0 0), (3, .int .i64 N), (9, .int .i64 (1 + p.turn))] J ⟨J, J, J, J, trivial⟩ ⟨J, J, J, trivial⟩ J hfix ?_
  refine rn6 ?_
  refine zP J J J (zCH r hv Q Sq) ?_
  refine rn3 ?_
  refine zF J (fun q => ?_) (fun q => ?_)
  ·rw [hOv q] at hR
   refine rn4 ?_
   exact zL hR J J
  have q := Classical.not_not.1 q
  have hW := hW q
  refine rn4 ?_
  refine zF J (fun q3 => ?_) (fun q3 => ?_)
  ·exact absurd q3 (by omega)
  have hml := zDb hv Sq
  have cl := list_ok r hv Q Sq
  have hms : ∀ a ∈ zx r Q, MvOK r Q a ∧ Sound r (zZ r Q a) := fun a ha => ⟨Go.Ax.Gm.list_ok hv Sq ha, zB7 hv Sq ha⟩
  generalize hM : zx r Q = ms at *
  refine rn6 ?_
  refine zP J J J cl ?_
  refine rn3 ?_
  refine z8 (ι := Nat) (fun j => [(10, .rp (.box (poC Q)) 0 0), (4, .rp (.box (ruC r)) 0 0), (3, .int .i64 N), (9, .int .i64 (1 + p.turn)), (34, zBC ms), (35, iN ms.length), (36, iN j)]) (fun _ => []) (fun j => j ≤ ms.length ∧ (ms.take j).all (ansB r (zBp r k) (1 + p.turn) Q) = true) (fun j => ms.length - j) 0 ⟨⟨J, J, J, J, J, J, J, trivial⟩, J, Nat.zero_le _, J⟩ ?_
  intro j ⟨hj, hall2⟩
  refine rn4 ?_
  refine zF J (fun g => ?_) (fun g => ?_)
  ·have hj' : j < ms.length := by omega
   have hmem := zAN mv0 hj'
   have hst : (ms.take (j + 1)).all (ansB r (zBp r k) (1 + p.turn) Q) = ansB r (zBp r k) (1 + p.turn) Q (ms.getD j mv0) := by
    rw [zz ms mv0 j hj', List.all_append, hall2]; simp
   have hno : ansB r (zBp r k) (1 + p.turn) Q (ms.getD j mv0) = false → ms.all (ansB r (zBp r k) (1 + p.turn) Q) = false := fun c => by
    rw [← Bool.not_eq_true, List.all_eq_true]
    intro d
    rw [d _ hmem] at c; cases c
   obtain ⟨a, ha⟩ : ∃ a, ms.getD j mv0 = a := ⟨_, rfl⟩
   rw [ha] at hmem hst hno
   obtain ⟨ha1, ha2⟩ := hms a hmem
   have hans : ansB r (zBp r k) (1 + p.turn) Q a = if zp r (zZ r Q a) = 1 + p.turn then true else if zp r (zZ r Q a) = 0 then (zx r (zZ r Q a)).any (zBp r k (zZ r Q a)) else false := rfl
   have cs := hall (zZ r Q a) ha2
   have cres := zCH r hv (zZ r Q a) ha2
   have cmk := zDw r hv Q Sq a ha1
   have hal : (zBN r k (zZ r Q a)).length ≤ 10000 := Nat.le_trans (List.length_filter_le ..) (zDb hv ha2)
   have hne := zNA (r := r) (k := k) (p := zZ r Q a)
   generalize hSS : zZ r Q a = s at *
   refine zFu ?_
   repeat (refine zAK rfl rfl rfl ?_)
   refine zb (mvC a) J J J J J (by rw [← ha]; rfl) J ?_
   refine rn6 ?_
   refine zP J J J cmk ?_
   repeat (refine zAK rfl rfl rfl ?_)
   refine zb (poC s) J J J J J J J ?_
   refine rn6 ?_
   refine zP J J J cres ?_
   refine rn4 ?_
   refine zF J (fun h1 => ?_) (fun h1 => ?_)
   ·rw [if_pos h1] at hans
    refine rn10 ?_
    refine zB ?_
    refine zBh [] [some ⟨58, .box (mvC a)⟩, some ⟨35, .box (poC s)⟩] [(10, .rp (.box (poC Q)) 0 0), (4, .rp (.box (ruC r)) 0 0), (3, .int .i64 N), (9, .int .i64 (1 + p.turn)), (34, zBC ms), (35, iN ms.length), (36, iN j)] J ⟨J, J, J, J, J, J, J, trivial⟩ (fun h hh => by rw [hfix] at hh; exact absurd hh id) (fun h o ho => by simp at ho) J ?_
    refine rn3 ?_
    exact zR ⟨j + 1, ⟨by omega, by rw [hst, hans]⟩, by omega, ⟨J, J, J, J, J, J, J, trivial⟩, J⟩
   rw [if_neg h1] at hans
   refine rn4 ?_
   refine zF J (fun h2 => ?_) (fun h2 => ?_)
   ·rw [if_pos h2] at hans
    repeat (first | refine zA (zG rfl) ?_ | refine zY ?_ | refine zJ rfl ?_ | refine zA (zBL rfl rfl (by omega)) ?_ | refine zA (zf rfl rfl rfl rfl rfl rfl) ?_ | refine zA (qpp rfl rfl rfl rfl rfl rfl rfl) ?_)
    rw [e2]
    skip
    refine zP J J J cs ?_
    refine rn4 ?_
    refine zF J (fun h3 => ?_) (fun h3 => ?_)
    ·have h3 : zBN r k s = [] := List.length_eq_zero_iff.mp (by omega)
     have hf : (zx r s).any (zBp r k s) = false := by
      rw [← Bool.not_eq_true, ← hne, h3]; exact fun d => d rfl
     rw [hf] at hans
     refine rn6 ?_
     rw [hW, hno hans] at hR
     exact zL hR J J
    ·have h3 : zBN r k s ≠ [] := fun d => h3 (by rw [d]; rfl)
     rw [hne.1 h3] at hans
     refine rn10 ?_
     refine zB ?_
     refine zBh [] [some ⟨58, .box (mvC a)⟩, some ⟨35, .box (poC s)⟩] [(10, .rp (.box (poC Q)) 0 0), (4, .rp (.box (ruC r)) 0 0), (3, .int .i64 N), (9, .int .i64 (1 + p.turn)), (34, zBC ms), (35, iN ms.length), (36, iN j)] J ⟨J, J, J, J, J, J, J, trivial⟩ (fun h hh => by rw [hfix] at hh; exact absurd hh id) (fun h o ho => by simp at ho) J ?_
     refine rn3 ?_
     exact zR ⟨j + 1, ⟨by omega, by rw [hst, hans]⟩, by omega, ⟨J, J, J, J, J, J, J, trivial⟩, J⟩
   ·rw [if_neg h2] at hans
    refine rn6 ?_
    rw [hW, hno hans] at hR
    exact zL hR J J
  ·have hj' : j = ms.length := by omega
   subst hj'
   rw [List.take_length] at hall2
   rw [hW, hall2] at hR
   refine rn5 ?_
   exact zL hR J J
theorem zNB (r : Go.Ax.Gm.Rules) (hv : ValidR r) (k : Nat) (hk : k ≤ 100) (p : Pos) (S : Sound r p) : zl Tryz.prog 70 [ruA r, poA p, .int .i64 (zCh k)] (zBC (zBN r k p)) :=
 zM9 r hv k p S (fun x hx => wins_ok' r hv k hk p S x hx)
theorem allP_len {r : Go.Ax.Gm.Rules} (hv : ValidR r) (k : Nat) {p : Pos} (S : Sound r p) : (zBN r k p).length ≤ 10000 := Nat.le_trans (List.length_filter_le ..) (zDb hv S)
theorem zGO (r : Go.Ax.Gm.Rules) (p : Pos) (n : Int) : (zC1 r p n).length ≤ 10000 := by
 unfold zC1
 split
 ·exact Nat.zero_le _
 ·rename_i h
  obtain ⟨k, e, hc⟩ := zFa (Classical.not_not.1 h)
  exact allP_len hc.v _ hc.S
/-- puzzle.Wins -/
theorem zF4 (r : Go.Ax.Gm.Rules) (hr : Lens r) (p : Pos) (hp : LenP p) (n : Int) : zl Tryz.prog 36 [ruA r, poA p, .int .i64 n] (.tup [zBC (zC1 r p n), .int .i64 (zAC r p n)]) := by
 refine zd.value0 (zN (P := Tryz.prog) (fn := Tryz.f36) J J (by kernel_rfl) J (fun c hR hfix => ?_)) (fix := fun _ => False) (fun _ h => h) J J
 refine rn6 ?_
 refine zP J J J (zF6 r hr p hp n) ?_
 refine rn3 ?_
 refine zF J (fun q => ?_) (fun q => ?_)
 ·have q : zAC r p n ≠ 0 := q
  have e : zC1 r p n = [] := by unfold zC1; rw [if_pos q]
  rw [e] at hR
  refine rn7 ?_
  refine zBB 6 (zBC []) J AEq.nil ?_
  refine rn2 ?_
  exact zL hR J J
 ·have q : zAC r p n = 0 := Classical.not_not.1 q
  obtain ⟨k, e, hc⟩ := zFa q
  have e2 : zC1 r p n = zBN r k p := by unfold zC1; rw [if_neg (fun d => d q), e, zHC]
  rw [e2, q] at hR
  have ca := zNB r hc.v k (Nat.le_trans hc.k2 (by omega)) p hc.S
  have e3 : zCh k = n := e.symm
  rw [e3] at ca
  refine rn6 ?_
  refine zP J J J ca ?_
  refine rn0 ?_
  exact zL hR J J
/-- puzzle.Single -/
theorem zKN (r : Go.Ax.Gm.Rules) (hr : Lens r) (p : Pos) (hp : LenP p) (n : Int) : zl Tryz.prog 37 [ruA r, poA p, .int .i64 n] (.tup [mvA (zGL r p n), .int .i64 (zDT r p n)]) := by
 refine zd.value0 (zN (P := Tryz.prog) (fn := Tryz.f37) J J (by kernel_rfl) J (fun c hR hfix => ?_)) (fix := fun _ => False) (fun _ h => h) J J
 have hl := zGO r p n
 have hwl : zAC r p n = 0 → zC1 r p n = zBN r (zBy n) p := fun q => by unfold zC1; rw [if_neg (fun d => d q)]
 have hE : zDT r p n = if zAC r p n ≠ 0 then zAC r p n else if (zBN r (zBy n) p).length = 0 then 8 else if 1 < (zBN r (zBy n) p).length then 7 else 0 := rfl
 have hM : zGL r p n = if zDT r p n ≠ 0 then mv0 else (zBN r (zBy n) p).getD 0 mv0 := rfl
 refine rn6 ?_
 refine zP J J J (zF4 r hr p hp n) ?_
 refine rn3 ?_
 refine zF J (fun q => ?_) (fun q => ?_)
 ·have q : zAC r p n ≠ 0 := q
  rw [if_pos q] at hE
  rw [if_pos (by rw [hE]; exact q)] at hM
  rw [hE, hM] at hR
  refine rn8 ?_
  refine zb (mvC mv0) J J J J J J J ?_
  refine rn6 ?_
  exact zL hR J J
 have q : zAC r p n = 0 := Classical.not_not.1 q
 rw [if_neg (fun d => d q), ← hwl q] at hE
 rw [← hwl q] at hM
 generalize hW : zC1 r p n = w at *
 refine rn4 ?_
 refine zF J (fun q2 => ?_) (fun q2 => ?_)
 ·rw [if_pos (by omega)] at hE
  rw [if_pos (by rw [hE]; decide)] at hM
  rw [hE, hM] at hR
  refine rn8 ?_
  refine zb (mvC mv0) J J J J J J J ?_
  refine rn6 ?_
  exact zL hR J J
 rw [if_neg (by omega)] at hE
 refine rn6 ?_
 refine zF J (fun q3 => ?_) (fun q3 => ?_)
 ·rw [if_pos (by omega)] at hE
  rw [if_pos (by rw [hE]; decide)] at hM
  rw [hE, hM] at hR
  refine rn8 ?_
  refine zb (mvC mv0) J J J J J J J ?_
  refine rn6 ?_
  exact zL hR J J
 rw [if_neg (by omega)] at hE
 rw [if_neg (by rw [hE]; decide)] at hM
 rw [hE, hM] at hR
 refine rn6 ?_
 refine zb (mvC (w.getD 0 mv0)) J J J J J J J ?_
 refine rn0 ?_
 exact zL hR J J
/-- puzzle.Least -/
theorem least_ok (r : Go.Ax.Gm.Rules) (hr : Lens r) (p : Pos) (hp : LenP p) : zl Tryz.prog 41 [ruA r, poA p] (.tup [.int .i64 (zIx r p).1, .int .i64 (zIx r p).2]) := by
 refine zd.value0 (zN (P := Tryz.prog) (fn := Tryz.f41) J J (by kernel_rfl) J (fun c hR hfix => ?_)) (fix := fun _ => False) (fun _ h => h) J J
 refine zY ?_
 repeat (first | refine zA (zO rfl) ?_ | refine zC ?_ | refine zB ?_ | refine zJ rfl ?_ | refine zAO rfl rfl ?_)
 refine zCn 2 3 [] J J J J trivial ⟨J, J, trivial⟩ J hfix ?_
 refine rn1 ?_
 refine z8 (ι := Nat) (fun k => [(2, .rp (.box (ruC r)) 0 0), (3, .rp (.box (poC p)) 0 0), (6, .int .i64 (2 * (k : Nat) + 1))]) (fun _ => []) (fun k => k ≤ 3 ∧ zIx r p = zHj r p (3 - k) k) (fun k => 3 - k) 0 ⟨⟨J, J, J, trivial⟩, J, by omega, J⟩ ?_
 intro k ⟨hk, hL⟩
 refine rn8 ?_
 refine zF J (fun g => ?_) (fun g => ?_)
 ·have hk3 : k < 3 := by omega
  rw [show 3 - k = (3 - (k + 1)) + 1 by omega, zHj] at hL
  have hwl : zAC r p (2 * (k : Int) + 1) = 0 → zC1 r p (2 * (k : Int) + 1) = zBN r k p := fun q => by unfold zC1; rw [if_neg (fun d => d q), zHC]
  have hl := zGO r p (2 * (k : Int) + 1)
  refine rn6 ?_
  refine zP J J J (zF4 r hr p hp (2 * (k : Int) + 1)) ?_
  refine rn3 ?_
  refine zF J (fun q => ?_) (fun q => ?_)
  ·have q : zAC r p (2 * (k : Int) + 1) ≠ 0 := q
   rw [if_pos q] at hL
   rw [hL] at hR
   refine rn6 ?_
   exact zL hR J J
  have q : zAC r p (2 * (k : Int) + 1) = 0 := Classical.not_not.1 q
  rw [if_neg (fun d => d q), ← hwl q] at hL
  generalize hW : zC1 r p (2 * (k : Int) + 1) = w at *
  refine rn6 ?_
  refine zF J (fun q2 => ?_) (fun q2 => ?_)
  ·rw [if_pos (by omega)] at hL
   rw [hL] at hR
   refine rn6 ?_
   exact zL hR J J
  ·rw [if_neg (by omega)] at hL
   refine rn5 ?_
   have e : (2 * (k : Int) + 1 + 2) = 2 * ((k + 1 : Nat) : Int) + 1 := by omega
   exact zR ⟨k + 1, ⟨by omega, hL⟩, by omega, ⟨J, J, by rw [← e]; rfl, trivial⟩, J⟩
 ·have hk3 : k = 3 := by omega
  subst hk3
  rw [show zHj r p (3 - 3) 3 = (0, 8) from rfl] at hL
  rw [hL] at hR
  refine rn5 ?_
  exact zL hR J J
def zD8 (r : Go.Ax.Gm.Rules) (n : Int) : Int := if zAa r ≠ 0 then zAa r else if zI7 n = false then 4 else zDx r
def zDX (r : Go.Ax.Gm.Rules) (n : Int) : List Pos := if zD8 r n ≠ 0 then [] else match zFG r with
 | some x => zD9 (zFP r x) n
 | none => []
theorem zOA (a : Pos) (j : Nat) (hj : j < 5) : noRef ((poC a).getD j .any) = true := by
 match j, hj with
 | 0, _ => rfl
 | 1, _ => rfl
 | 2, _ => rfl
 | 3, _ => rfl
 | 4, _ => rfl
def zBr (T : Tab) (n : Int) (k : Nat) : List Pos := (T.l.take k).filter (fun p => decide (entQ T p = (1 + p.turn, n)) && decide ((zDH T p).length = 1))
theorem zLR {T : Tab} (h : TabOK T) (n : Int) {k : Nat} (hk : k < T.l.length) : zBr T n (k + 1) = if zBi T k = (1 + (T.l.getD k z7).turn, n) ∧ (zDH T (T.l.getD k z7)).length = 1 then zBr T n k ++ [T.l.getD k z7] else zBr T n k := by
 have e := (h.in_at hk).2
 unfold zBr
 rw [zz _ z7 k hk, List.filter_append]
 generalize hP : T.l.getD k z7 = P at *
 by_cases c : zBi T k = (1 + P.turn, n) ∧ (zDH T P).length = 1
 ·rw [if_pos c, List.filter_cons_of_pos (by rw [e, decide_eq_true c.1, decide_eq_true c.2]; rfl)]; rfl
 ·rw [if_neg c, List.filter_cons_of_neg (by rw [e, Bool.and_eq_true, decide_eq_true_eq, decide_eq_true_eq]; exact c)]; simp
theorem zMQ (T : Tab) (n : Int) (k : Nat) : (zBr T n k).length ≤ k := by
 unfold zBr
 exact Nat.le_trans (List.length_filter_le ..) (by rw [List.length_take]; omega)
theorem zMP (T : Tab) (n : Int) : zBr T n T.l.length = zD9 T n := by
 unfold zBr zD9; rw [List.take_length]
theorem zNc {T : Tab} (h : TabOK T) (p : Pos) : (zDH T p).length ≤ 100000 := by
 by_cases q : zFY T p = 0
 ·have ebl : zDH T p = zCN T (zBH T.l p) (zEG T p) (zEG T p).length := by unfold zDH; rw [if_neg (fun c => c q)]; rfl
  have hq : zDZ T p = 0 := by
   refine Classical.byContradiction (fun c => ?_)
   unfold zFY at q; rw [if_pos c] at q; exact c q
  have hml := zD1 h.v (h.sound (zNL hq).2).1
  rw [ebl]
  exact Nat.le_trans (zIc ..) (Nat.le_trans hml (by decide))
 ·unfold zDH; rw [if_pos q]; exact Nat.zero_le _
/-- puzzle.Compose -/
theorem zMS (r : Go.Ax.Gm.Rules) (hr : Lens r) (n : Int) : zl Tryz.prog 45 [ruA r, .int .i64 n] (.tup [.ro (zCD (zDX r n)) 0 (zDX r n).length, .int .i64 (zD8 r n)]) := by
 refine zd.value0 (zN (P := Tryz.prog) (fn := Tryz.f45) J J (by kernel_rfl) J (fun c hR hfix => ?_)) (fix := fun _ => False) (fun _ h => h) J J
 have hE : zD8 r n = if zAa r ≠ 0 then zAa r else if zI7 n = false then 4 else zDx r := rfl
 have hF0 : zD8 r n ≠ 0 → zDX r n = [] := fun q => by unfold zDX; rw [if_pos q]
 refine rn6 ?_
 refine zP J J J (zG1 r hr) ?_
 refine rn3 ?_
 refine zF J (fun q => ?_) (fun q => ?_)
 ·have q : zAa r ≠ 0 := q
  rw [if_pos q] at hE
  rw [hF0 (by rw [hE]; exact q), hE] at hR
  refine rn7 ?_
  refine zBB 4 (.ro (zCD []) 0 0) J AEq.nil ?_
  refine rn2 ?_
  exact zL hR J J
 have q : zAa r = 0 := Classical.not_not.1 q
 rw [if_neg (fun d => d q)] at hE
 refine rn1 ?_
 refine zP J J J (odd_ok n) ?_
 refine rn5 ?_
 cases ho : zI7 n with
 | false =>
  rw [if_pos ho] at hE
  rw [hF0 (by rw [hE]; decide), hE] at hR
  refine rn9 ?_
  refine zBB 4 (.ro (zCD []) 0 0) J AEq.nil ?_
  refine rn2 ?_
  exact zL hR J J
 | true =>
  rw [if_neg (by rw [ho]; decide)] at hE
  have cn := new_ok r hr
  by_cases hz : zDx r = 0
  ·obtain ⟨hz1, hz2, x, hg⟩ := zN2 hz
   rw [newA_yes hz hg, hz] at cn
   have hT := new_tab hz1 hz2 hg
   have hF : zDX r n = zD9 (zFP r x) n := by unfold zDX; rw [if_neg (by rw [hE, hz]; decide), hg]
   rw [hF, hE, hz] at hR
   have cs := size_ok (zFP r x)
   have ca := fun i => at_ok (zFP r x) hT i
   have hLr : Lens (zFP r x).r := hr
   have cb := fun p hp => best_ok (zFP r x) hT hLr p hp
   have hmost := hT.G.most
   generalize hTT : zFP r x = T at *
   refine rn6 ?_
   refine zP J J J cn ?_
   refine zBA ?_
   refine zBh [] [some ⟨26, .box (ruC r)⟩] [(1, .int .i64 n), (7, zEQ T), (8, .int .i64 0)] J ⟨J, J, J, trivial⟩ (fun h hh => by rw [hfix] at hh; exact absurd hh id) (fun h o ho => by simp at ho) J ?_
   refine zJ J ?_
   repeat (first | refine zA (zG rfl) ?_ | refine zC ?_ | refine zB ?_ | refine zY ?_ | refine zAf rfl ?_ | refine zAQ ?_ | refine zA (zBl rfl rfl) ?_)
   refine zJ J ?_
   refine zBA ?_
   refine zBq 9 ⟨35, zCD []⟩ J J ?_
   refine rn0 ?_
   refine zP J J J cs ?_
   refine rn1 ?_
   refine z8 (ι := Nat) (fun k => [(1, .int .i64 n), (7, zEQ T), (9, .sl 0 0 (zBr T n k).length), (33, iN T.l.length), (34, iN k)]) (fun k => [some ⟨35, zCD (zBr T n k)⟩]) (fun k => k ≤ T.l.length) (fun k => T.l.length - k) 0 ⟨⟨J, J, J, J, J, trivial⟩, J, Nat.zero_le _⟩ ?_
   intro k hk
   have hcl := zMQ T n k
   refine rn4 ?_
   refine zF J (fun g => ?_) (fun g => ?_)
   ·have hk' : k < T.l.length := by omega
    have hcs := zLR hT n hk'
    have ca := ca (k : Nat)
    have e0 : atE T (k : Nat) = 0 := by unfold atE; rw [if_neg (by omega)]
    have e1 : atP T (k : Nat) = T.l.getD k z7 := by unfold atP; rw [if_neg (fun d => d e0)]; rfl
    have e2 : atX T (k : Nat) = zBi T k := by unfold atX; rw [if_neg (fun d => d e0)]; rfl
    rw [e0, e1, e2] at ca
    have cb := cb (T.l.getD k z7) (zGJ hT hk').len
    have hturn := hT.turn01 (hT.in_at hk').1
    have hbl : (zDH T (T.l.getD k z7)).length ≤ 100000 := zNc hT _
    generalize hP : T.l.getD k z7 = P at *
    generalize hX : zBi T k = X at *
    refine rn1 ?_
    refine zP J J J ca ?_
    refine rn4 ?_
    refine zb (poC P) J J J J J J J ?_
    skip
    refine zb (zCu X) J J J J J J J ?_
    repeat (first | refine zA (zG rfl) ?_ | refine zA (zO rfl) ?_ | refine zC ?_ | refine zB ?_ | refine zY ?_ | refine zJ rfl ?_ | refine zA (zU rfl rfl rfl rfl rfl) ?_ | refine zA (zAw rfl rfl (by omega)) ?_ | refine zA (zCW rfl rfl rfl rfl rfl rfl) ?_ | refine zA (zM rfl rfl rfl rfl rfl rfl) ?_ | refine zA (zFs rfl rfl rfl (by kernel_rfl) (by kernel_rfl) (by kernel_rfl) rfl) ?_ | refine zA (qpp rfl rfl rfl rfl rfl rfl rfl) ?_)
    refine zAP (b := !decide (X = (1 + P.turn, n))) (by rw [← zNK]; rfl) (fun g2 => ?_) (fun g2 => ?_)
    ·have g2 : ¬ X = (1 + P.turn, n) := by rw [Bool.not_eq_true'] at g2; exact of_decide_eq_false g2
     rw [if_neg (fun d => g2 d.1)] at hcs
     refine rn10 ?_
     refine zB ?_
     refine zBh [some ⟨35, zCD (zBr T n k)⟩] [some ⟨35, .box (poC P)⟩, some ⟨37, .box (zCu X)⟩] [(1, .int .i64 n), (7, zEQ T), (9, .sl 0 0 (zBr T n k).length), (33, iN T.l.length), (34, iN k)] J ⟨J, J, J, J, J, trivial⟩ (fun h hh => by rw [hfix] at hh; exact hh.elim) (zBo (zEw _) zBK) J ?_
     refine rn3 ?_
     refine zR ⟨k + 1, by omega, by omega, ⟨J, J, ?_, J, J, trivial⟩, ?_⟩
     ·rw [hcs]; rfl
     ·rw [hcs]
    have g2 : X = (1 + P.turn, n) := by rw [Bool.not_eq_false'] at g2; exact of_decide_eq_true g2
    refine rn6 ?_
    refine zP J J J cb ?_
    refine rn4 ?_
    refine zF J (fun g3 => ?_) (fun g3 => ?_)
    ·rw [if_pos ⟨g2, by omega⟩] at hcs
     have hnl : (zBr T n k ++ [P]).length = (zBr T n k).length + 1 := by rw [List.length_append]; rfl
     refine rn6 ?_
     refine zBV [P] J J J J J J J J J J J J J (by show 0 + 1 ≤ 1; omega) (fun k' j' hk' hj' => ?_) (by show ((zBr T n k).length + 1) * 88 ≤ _ ∧ _; omega) (fun a j k _ => zDd a j k) (by rw [hfix]; exact fun h => h) ?_
     ·obtain rfl : k' = 0 := Nat.lt_one_iff.1 hk'
      match j', hj' with
      | 0, _ => rfl
      | 1, _ => rfl
      | 2, _ => rfl
      | 3, _ => rfl
      | 4, _ => rfl
     refine rn10 ?_
     refine zB ?_
     refine zBh [some ⟨35, zCD (zBr T n k ++ [P])⟩] [some ⟨35, .box (poC P)⟩, some ⟨37, .box (zCu X)⟩] [(1, .int .i64 n), (7, zEQ T), (9, .sl 0 0 (zBr T n k ++ [P]).length), (33, iN T.l.length), (34, iN k)] J ⟨J, J, by rw [hnl]; rfl, J, J, trivial⟩ (fun h hh => by rw [hfix] at hh; exact hh.elim) (zBo (zEw _) zBK) J ?_
     refine rn3 ?_
     refine zR ⟨k + 1, by omega, by omega, ⟨J, J, ?_, J, J, trivial⟩, ?_⟩
     ·rw [hcs]; rfl
     ·rw [hcs]
    ·rw [if_neg (fun d => g3 (by rw [d.2]; rfl))] at hcs
     refine rn10 ?_
     refine zB ?_
     refine zBh [some ⟨35, zCD (zBr T n k)⟩] [some ⟨35, .box (poC P)⟩, some ⟨37, .box (zCu X)⟩] [(1, .int .i64 n), (7, zEQ T), (9, .sl 0 0 (zBr T n k).length), (33, iN T.l.length), (34, iN k)] J ⟨J, J, J, J, J, trivial⟩ (fun h hh => by rw [hfix] at hh; exact hh.elim) (zBo (zEw _) zBK) J ?_
     refine rn3 ?_
     refine zR ⟨k + 1, by omega, by omega, ⟨J, J, ?_, J, J, trivial⟩, ?_⟩
     ·rw [hcs]; rfl
     ·rw [hcs]
   ·have hk' : k = T.l.length := by omega
    subst hk'
    rw [← zMP] at hR
    refine zBA ?_
    refine zC6 0 9 (zBr T n T.l.length).length [] J (zAZ zOA) J (Nat.le_refl _) trivial ?_
    refine rn0 ?_
    exact zL hR J J
  ·have hA := newA_no hz
   rw [hA] at cn
   rw [hF0 (by rw [hE]; exact hz), hE] at hR
   refine rn6 ?_
   refine zP J J J cn ?_
   refine rn3 ?_
   refine zF J (fun _ => ?_) (fun d => ?_)
   rotate_left
   ·exact absurd hz d
   refine rn7 ?_
   refine zBB 4 (.ro (zCD []) 0 0) J AEq.nil ?_
   refine rn2 ?_
   exact zL hR J J
def zHQ (x : zBg) : List AV := [.int .i64 x.1.fr, .int .i64 x.1.to, .int .i64 x.1.pc, z6 x.2]
abbrev zHs (l : List zBg) : Cells := zCk zBD 4 zHQ l
abbrev zB9 (l : List zBg) : AV := .ro (zHs l) 0 l.length
theorem zK2 (a : zBg) (j k : Nat) (hj : j < 4) : ((zHQ a).getD j .any).forget k = (zHQ a).getD j .any := by
 match j, hj with
 | 0, _ => rfl
 | 1, _ => rfl
 | 2, _ => rfl
 | 3, _ => rfl
theorem zL6 (a : zBg) (j : Nat) (hj : j < 4) : noRef ((zHQ a).getD j .any) = true := by
 match j, hj with
 | 0, _ => rfl
 | 1, _ => rfl
 | 2, _ => rfl
 | 3, _ => rfl
theorem zCy : zl Tryz.prog 68 [] (ruA three) := by
 refine zd.value0 (zN (P := Tryz.prog) (fn := Tryz.f68) J J (by kernel_rfl) J (fun c hR hfix => ?_)) (fix := fun _ => False) (fun _ h => h) J J
 refine rn8 ?_
 refine zAt 6 (ruA three) J (zM6 ⟨AEq.rfl', AEq.rfl', AEq.rfl', AEq.ro_in J (fun d j hd hj => by
  have hd : d < 1 := hd
  obtain rfl : d = 0 := by omega
  have hj : j < 4 := hj
  match j, hj with
  | 0, _ => exact AEq.rfl'
  | 1, _ => exact AEq.rfl'
  | 2, _ => exact AEq.rfl'
  | 3, _ => exact AEq.nil
  ), AEq.ro rfl (fun d j hd hj => by
  have hj : j < 1 := hj
  obtain rfl : j = 0 := by omega
  match d, hd with
  | 0, _ => rfl
  | 1, _ => rfl
  | 2, _ => rfl
  ), AEq.rfl', AEq.rfl', AEq.ro_in rfl (fun d j hd hj => by
  have hd : d < 1 := hd
  obtain rfl : d = 0 := by omega
  have hj : j < 4 := hj
  match j, hj with
  | 0, _ => exact AEq.rfl'
  | 1, _ => exact AEq.rfl'
  | 2, _ => exact AEq.rfl'
  | 3, _ => exact AEq.rfl'
  ), AEq.rfl', AEq.rfl', AEq.rfl', trivial⟩) ?_
 refine zb (ruC three) J J J J J J J ?_
 refine rn0 ?_
 exact zL hR J J
theorem zED : zl Tryz.prog 69 [] (poA (zAI three)) := by
 refine zd.value0 (zN (P := Tryz.prog) (fn := Tryz.f69) J J (by kernel_rfl) J (fun c hR hfix => ?_)) (fix := fun _ => False) (fun _ h => h) J J
 refine rn8 ?_
 refine zAt 5 (poA (zAI three)) J (zM6 ⟨AEq.ro J (fun d j hd hj => by
  have hj : j < 1 := hj
  obtain rfl : j = 0 := by omega
  match d, hd with
  | 0, _ => rfl
  | 1, _ => rfl
  | 2, _ => rfl
  ), AEq.ro rfl (fun d j hd hj => by
  have hj : j < 1 := hj
  obtain rfl : j = 0 := by omega
  match d, hd with
  | 0, _ => rfl
  ), AEq.ro rfl (fun d j hd hj => by
  have hj : j < 1 := hj
  obtain rfl : j = 0 := by omega
  match d, hd with
  | 0, _ => rfl
  ), AEq.rfl', AEq.rfl', trivial⟩) ?_
 refine zb (poC (zAI three)) J J J J J J J ?_
 refine rn0 ?_
 exact zL hR J J
def zMa (r : Go.Ax.Gm.Rules) (p : Pos) : Bool := if whW r > 9 then false else decide (zAp r p ≠ 0) || decide (((if zAp r p ≠ 0 then [] else zx r p).length : Int) ≤ 12)
/-- is there little to search? -/
theorem light_ok (r : Go.Ax.Gm.Rules) (hr : Lens r) (p : Pos) (hp : LenP p) : zl Tryz.prog 35 [ruA r, poA p] (.bool (zMa r p)) := by
 refine zd.value0 (zN (P := Tryz.prog) (fn := Tryz.f35) J J (by kernel_rfl) J (fun c hR hfix => ?_)) (fix := fun _ => False) (fun _ h => h) J J
 have hB : zMa r p = if whW r > 9 then false else decide (zAp r p ≠ 0) || decide (((if zAp r p ≠ 0 then [] else zx r p).length : Int) ≤ 12) := rfl
 have ca := all_ok r hr p hp
 have hlen : (if zAp r p ≠ 0 then [] else zx r p).length ≤ 10000 := by
  split
  ·exact Nat.zero_le _
  ·rename_i h; obtain ⟨hz, S⟩ := zCw (Classical.not_not.1 h); exact zDb (zAu hz) S
 generalize hL : (if zAp r p ≠ 0 then [] else zx r p) = L at *
 refine rn6 ?_
 refine zA (q_arith J J J) ?_
 refine rn6 ?_
 refine zF J (fun q => ?_) (fun q => ?_)
 ·have q : whW r > 9 := q
  rw [if_pos q] at hB
  rw [hB] at hR
  refine rn2 ?_
  exact zL hR J J
 ·have q : ¬ whW r > 9 := q
  rw [if_neg q] at hB
  rw [hB] at hR
  refine rn6 ?_
  refine zP J J J ca ?_
  refine rn3 ?_
  refine zo J J (fun q1 => ?_) (fun q1 => ?_)
  ·rw [decide_eq_true q1] at hR
   refine rn6 ?_
   exact zL hR J J
  ·rw [decide_eq_false q1] at hR
   refine rn8 ?_
   exact zL hR J J
abbrev solC (r : Go.Ax.Gm.Rules) (x : AV) : List AV := [.str r.name, .int .i64 r.w, .int .i64 r.h, .ro (zAi r.pcs) 0 r.pcs.length, z6 r.start, .bool r.falls, .bool r.keeps, .ro (zE8 r.ends) 0 r.ends.length, .int .i64 r.blocked, .int .i64 r.quiet, .int .i64 r.rep, x]
abbrev solB (r : Go.Ax.Gm.Rules) (x : AV) : Option AObj := some ⟨124, .box (solC r x)⟩
abbrev stpO (S : List zBg) : Option AObj := some ⟨80, zHs S⟩
abbrev zC2 (r : Go.Ax.Gm.Rules) (n : Nat) (S : List zBg) : zQ := [solB r (.sl 1 0 n), stpO S]
abbrev mvO (l : List AV) : Option AObj := some ⟨58, .box l⟩
abbrev poO (l : List AV) : Option AObj := some ⟨35, .box l⟩
abbrev inO (l : List Int) : Option AObj := some ⟨3, .ints .i64 l⟩
abbrev mvZ : List AV := [.int .i64 0, .int .i64 0, .int .i64 0]
abbrev poZZ : List AV := [.nil, .nil, .nil, .int .i64 0, .int .i64 0]
theorem zIG {n : Nat} (l : List zBg) : zAo n (zHs l) := fun i j _ hj => by
 have hj : j < 4 := hj
 match j, hj with
 | 0, _ => rfl
 | 1, _ => rfl
 | 2, _ => rfl
 | 3, _ => rfl
theorem zGU (a : zBg) (j k : Nat) : ((zHQ a).getD j .any).forget k = (zHQ a).getD j .any := by
 match j with
 | 0 => rfl
 | 1 => rfl
 | 2 => rfl
 | 3 => rfl
 | j + 4 => rfl
theorem zEO (r : Go.Ax.Gm.Rules) (n : Nat) (S : List zBg) : ∀ (h : Nat) (o : AObj), (zC2 r n S)[h]? = some (some o) → zAo (zC2 r n S).length o.c :=
 zBo (zGP rfl) (zBo (zIG S) zBK)
theorem zJL (r : Go.Ax.Gm.Rules) (n : Nat) (S : List zBg) (A : List Int) : ∀ (h : Nat) (o : AObj), (zC2 r n S ++ [inO A])[h]? = some (some o) → zAo (zC2 r n S ++ [inO A]).length o.c :=
 zBo (zGP rfl) (zBo (zIG S) (zBo (fun i j _ _ => rfl) zBK))
def GrowK (r : Go.Ax.Gm.Rules) (k : Nat) (p : Pos) (S : List zBg) (E : zQ → Prop) (v : AV) (H : zQ) : Prop :=
 (S.length + (zAE r k p S.length).length ≤ 256 → v = .bool true ∧ ∃ x, E x ∧ H = zC2 r (S.length + (zAE r k p S.length).length) (S ++ zAE r k p S.length) ++ x) ∧
 (256 < S.length + (zAE r k p S.length).length → v = .bool false ∧ ∃ x, E x ∧ H = [none, none] ++ x)
def zK9 (r : Go.Ax.Gm.Rules) (k : Nat) : Prop := ∀ (p : Pos) (_ : Go.Ax.Gm.Checked r p k) (_ : zBN r k p ≠ []) (S : List zBg), S.length ≤ 256 →
 zd Tryz.prog 73 [.ptr 0 0 0, poA p, .int .i64 (zCh k)] (zC2 r S.length S) (fun h => h < 1) (GrowK r k p S (fun x => x = []))
theorem step_set (S : List zBg) (m : Mv) (A : List Int) (T : List zBg) (i j : Nat) : (zHQ ((S ++ (m, A) :: T).getD i zBD)).getD j .any = bif Nat.beq i S.length && Nat.beq j 3 then z6 A else (zHQ ((S ++ [(m, [])] ++ T).getD i zBD)).getD j .any := by
 have e : S ++ [(m, [])] ++ T = S ++ (m, []) :: T := by simp
 rw [e]
 by_cases hi : i = S.length
 ·subst hi
  have g : ∀ x : zBg, (S ++ x :: T).getD S.length zBD = x := fun x => by simp [List.getD]
  rw [g, g, Nat.beq_refl]
  match j with
  | 0 => rfl
  | 1 => rfl
  | 2 => rfl
  | 3 => rfl
  | j + 4 => rfl
 ·rw [zBQ hi]
  have g : ∀ x : zBg, (S ++ x :: T).getD i zBD = if i < S.length then S.getD i zBD else T.getD (i - S.length - 1) zBD := fun x => by
   by_cases h : i < S.length
   ·rw [if_pos h]; simp [List.getD, List.getElem?_append_left h]
   ·rw [if_neg h]
    obtain ⟨d, rfl⟩ : ∃ d, i = S.length + (d + 1) := ⟨i - S.length - 1, by omega⟩
    simp only [List.getD]
    rw [List.getElem?_append_right (by omega), show S.length + (d + 1) - S.length = d + 1 by omega, List.getElem?_cons_succ]
    rfl
  rw [g, g]; rfl
theorem zOS (r : Go.Ax.Gm.Rules) (k : Nat) (hrec : k = 0 ∨ ∃ k', k = k' + 1 ∧ zK9 r k') (p : Pos) (h : Go.Ax.Gm.Checked r p k) (hw : zBN r k p ≠ []) (S : List zBg) (hS : S.length ≤ 256) :
 zd Tryz.prog 73 [.ptr 0 0 0, poA p, .int .i64 (zCh k)] (zC2 r S.length S) (fun h => h < 1) (GrowK r k p S (fun _ => True)) := by
 have hv := h.v
 have Sp := h.S
 have hk2 := h.k2
 have ht := Sp.tn
 have call := zNB r hv k (by omega) p Sp
 have hw0 : 0 < (zBN r k p).length := List.length_pos_iff.2 hw
 obtain ⟨hfm, hfw⟩ := zIn hw
 have hlen := zMy r k p S.length
 have htl := zJP r k p S.length
 have hk0 : k = 0 → zAD r (zZ r p (zA0 r k p)) = [] := fun e => by
  subst e
  rw [zBp, decide_eq_true_eq] at hfw
  unfold zAD
  rw [if_pos (by rw [hfw]; omega)]
 have htk := zOW (b := S.length) hk0
 have cmk := zDw r hv p Sp (zA0 r k p) (Go.Ax.Gm.list_ok hv Sp hfm)
 have Sq := zB7 hv Sp hfm
 have hchk : ∀ k', k = k' + 1 → zp r (zZ r p (zA0 r k p)) = 0 → ∀ a ∈ zx r (zZ r p (zA0 r k p)), zp r (zZ r (zZ r p (zA0 r k p)) a) = 0 → Go.Ax.Gm.Checked r (zZ r (zZ r p (zA0 r k p)) a) k' ∧ zBN r k' (zZ r (zZ r p (zA0 r k p)) a) ≠ [] := fun k' e hq a ha hs => by
  subst e
  refine ⟨h.down hfm hq ha hs, ?_⟩
  rcases ans_of hfw hq a ha with q | q
  ·rw [hs] at q
   rcases ht with t | t <;> (rw [t] at q; exact absurd q (by decide))
  ·exact q.2
 have hpl : 1 ≤ zCh k ∧ zCh k ≤ 1000 := ⟨by show (1:Int) ≤ 2 * (k : Int) + 1; omega, by show 2 * (k : Int) + 1 ≤ (1000 : Int); omega⟩
 have e3 : ∀ k', k = k' + 1 → zCh k - 2 = zCh k' := fun k' h => by subst h; show 2 * ((k' + 1 : Nat) : Int) + 1 - 2 = 2 * (k' : Int) + 1; omega
 obtain ⟨m, hm⟩ : ∃ m, zA0 r k p = m := ⟨_, rfl⟩
 rw [hm] at htl htk cmk Sq hchk hk0
 generalize hQ : zZ r p m = Q at htk cmk Sq hchk hk0
 refine zN (P := Tryz.prog) (fn := Tryz.f73) J J (by kernel_rfl) J (fun c hR hfix => ?_)
 have nofix1 : ¬ c.fix 1 := by rw [hfix]; exact fun q => absurd q (by show ¬ (1 < 1); omega)
 have nofix2 : ¬ c.fix 2 := by rw [hfix]; exact fun q => absurd q (by show ¬ (2 < 1); omega)
 have nofix : ∀ h n, c.fix h → h < n + 1 := fun h n q => by
  rw [hfix] at q
  have q : h < 1 := q
  omega
 generalize hN : zCh k = N at *
 refine zY ?_
 repeat (first | refine zA (zO rfl) ?_ | refine zC ?_ | refine zB ?_ | refine zJ rfl ?_ | refine zAO rfl rfl ?_)
 refine zCa (zC2 r S.length S) 4 [(0, .ptr 0 0 0), (2, .int .i64 N)] J J ⟨J, J, trivial⟩ ⟨J, J, J, trivial⟩ (zEO _ _ _) J (fun h q => nofix h _ q) ?_
 refine rn8 ?_
 refine zF J (fun q => ?_) (fun q => ?_)
 ·refine zNF [none, none] (zAs.drop (zAs.drop zAs.nil)) ?_
  refine rn2 ?_
  exact zL hR J ⟨fun c => absurd c (by omega), fun c => ⟨J, [], trivial, J⟩⟩
 have hS' : S.length < 256 := by omega
 refine rn1 ?_
 refine ze (by kernel_rfl) ?_
 refine zDV (fuel := 0) [0, 1, 2, 3, 4, 5, 6, 7, 8, 9, 10] [9, 10] (fun j => [zC2 r S.length S, zC2 r S.length S ++ [mvO mvZ], zC2 r S.length S ++ [mvO (mvC m)]].getD j []) [(4, .rp (.box (poC p)) 0 0), (0, .ptr 0 0 0), (2, .int .i64 N), (7, iN S.length)] ⟨J, J, J, J, trivial⟩ (by kernel_rfl) (by kernel_rfl) J (by decide) J J ?_
 refine zCK J J J (fun _ => zG J) ?_
 refine zCK J J J (fun _ => zT J) ?_
 refine zCK J J J (fun _ => zM J J J J J J) ?_
 refine pm_qs [0, 1] J J J (by kernel_rfl) ⟨qpp J J J J J J J, qpp J J J J J J J, trivial⟩ ?_
 refine zCK J J J (fun _ => zf J J J J J J) ?_
 refine zCK J J J (fun _ => zG J) ?_
 refine pm_v J J J J J J call ?_
 refine zCK J J J (fun _ => zh J J J J (by first | (simp only [Nat.zero_add, Int.toNat_natCast, Int.toNat_zero]; exact J) | exact J) (by omega)) ?_
 refine zCK J J J (fun _ => zf J J J J J J) ?_
 refine zFo (j := 0) J J J (by kernel_rfl) J J J J J ?_
 refine zDc (j := 1) (mvC m) J J J (by kernel_rfl) J J J J J (by rw [← hm]; rfl) J J ?_
 refine zHK ?_
 refine zW (by kernel_rfl) ?_
 refine rn0 ?_
 refine zCa (zC2 r S.length S) 8 [(4, .rp (.box (poC p)) 0 0), (0, .ptr 0 0 0), (2, .int .i64 N), (7, iN S.length)] J J ⟨J, J, J, J, trivial⟩ ⟨J, J, J, J, J, trivial⟩ (zEO _ _ _) J (fun h q => nofix h _ q) ?_
 refine ze (by kernel_rfl) ?_
 refine zV 0 J (by kernel_rfl) (by kernel_rfl) (by kernel_rfl) J (zG J) J ?_
 refine zV 1 J (by kernel_rfl) (by kernel_rfl) (by kernel_rfl) J (zG J) J ?_
 refine zV 2 J (by kernel_rfl) (by kernel_rfl) (by kernel_rfl) J (zT J) J ?_
 refine zV 3 J (by kernel_rfl) (by kernel_rfl) (by kernel_rfl) J (zM J J J J J J) J ?_
 refine zm (fuel := 4) [4, 5, 6, 7] [(33, .ptr 0 0 11), (30, .ptr 0 0 0), (8, .rp (.box (mvC m)) 0 0), (4, .rp (.box (poC p)) 0 0), (0, .ptr 0 0 0), (2, .int .i64 N), (7, iN S.length)] ⟨J, J, J, J, J, J, J, trivial⟩ (by kernel_rfl) (by decide) J J ?_
 refine zI J J (zU J J J J J) ?_
 refine zI J J (zf J J J J J J) ?_
 refine zI J J (zCW J J J J J J) ?_
 refine px_b J J J J J J J J J J J J J ?_
 refine zu ?_
 refine zH (is := [8]) (by kernel_rfl) (by simp) J ⟨fun o ho => ?_, trivial⟩
 all_goals (cases ho)
 refine zAt 37 (.ro (zCk zBD 4 zHQ [(m, [])]) 0 1) J (AEq.ro_in J (fun d j hd hj => ?_)) ?_
 ·have hd : d < 1 := hd
  obtain rfl : d = 0 := by omega
  have hj : j < 4 := hj
  match j, hj with
  | 0, _ => exact AEq.rfl'
  | 1, _ => exact AEq.rfl'
  | 2, _ => exact AEq.rfl'
  | 3, _ => exact AEq.nil
 refine zBV [(m, [])] J J J J J J J J J J J J J (by show 0 + 1 ≤ 1; omega) (fun k j _ _ => by rw [Nat.zero_add]; rfl) (by show (S.length + 1) * 48 ≤ _ ∧ _; omega) zK2 nofix1 ?_
 refine zAU [solB r .any, stpO (S ++ [(m, [])])] J ?_
 refine rn1 ?_
 refine zH (is := [9]) (by kernel_rfl) (by simp) J ⟨fun o ho => ?_, trivial⟩
 all_goals (cases ho)
 refine rn7 ?_
 refine zH (is := [10]) (by kernel_rfl) (by simp) J ⟨fun o ho => ?_, trivial⟩
 all_goals (cases ho)
 refine rn5 ?_
 refine zH (is := [11]) (by kernel_rfl) (by simp) J ⟨fun o ho => ?_, trivial⟩
 all_goals (cases ho)
 refine rn9 ?_
 refine zW (by kernel_rfl) ?_
 refine rn0 ?_
 refine zAS (zC2 r (S.length + 1) (S ++ [(m, [])])) J ?_
 refine ze (by kernel_rfl) ?_
 refine zDV (fuel := 0) [0, 1, 2, 3, 4, 5, 6, 7, 8] [7, 8] (fun j => [zC2 r (S.length + 1) (S ++ [(m, [])]), zC2 r (S.length + 1) (S ++ [(m, [])]) ++ [poO poZZ], zC2 r (S.length + 1) (S ++ [(m, [])]) ++ [poO (poC Q)]].getD j []) [(8, .rp (.box (mvC m)) 0 0), (4, .rp (.box (poC p)) 0 0), (0, .ptr 0 0 0), (2, .int .i64 N), (7, iN S.length)] ⟨J, J, J, J, J, trivial⟩ (by kernel_rfl) (by kernel_rfl) J (by decide) J J ?_
 refine zCK J J J (fun _ => zG J) ?_
 refine zCK J J J (fun _ => zT J) ?_
 refine zCK J J J (fun _ => zM J J J J J J) ?_
 refine pm_qs [0, 1] J J J (by kernel_rfl) ⟨qpp J J J J J J J, qpp J J J J J J J, trivial⟩ ?_
 refine zCK J J J (fun _ => zf J J J J J J) ?_
 refine zCK J J J (fun _ => zf J J J J J J) ?_
 refine pm_v J J J J J J cmk ?_
 refine zFo (j := 0) J J J (by kernel_rfl) J J J J J ?_
 refine zDc (j := 1) (poC Q) J J J (by kernel_rfl) J J J J J J J J ?_
 refine zHK ?_
 refine zW (by kernel_rfl) ?_
 refine rn0 ?_
 refine zCa (zC2 r (S.length + 1) (S ++ [(m, [])])) 9 [(0, .ptr 0 0 0), (2, .int .i64 N), (7, iN S.length), (10, .nil)] J J ⟨J, J, J, J, trivial⟩ ⟨J, J, J, J, J, trivial⟩ (zEO _ _ _) J (fun h q => nofix h _ q) ?_
 refine zBq 10 ⟨3, .ints .i64 []⟩ J J ?_
 skip
 have cem := zEW r hv Q Sq
 have hml := zD1 hv Sq
 have hms : ∀ a ∈ zAD r Q, zp r Q = 0 ∧ a ∈ zx r Q := fun a ha => by
  unfold zAD at ha
  split at ha
  ·simp at ha
  ·rename_i q; exact ⟨Classical.not_not.1 q, ha⟩
 generalize hMs : zAD r Q = ms at *
 refine ze (by kernel_rfl) ?_
 refine zm (fuel := 0) [0, 1, 2, 3, 4, 5, 6, 7] [(9, .rp (.box (poC Q)) 0 0), (0, .ptr 0 0 0), (2, .int .i64 N), (7, iN S.length), (10, .sl 2 0 0)] ⟨J, J, J, J, J, trivial⟩ (by kernel_rfl) (by decide) J J ?_
 refine zI J J (zG J) ?_
 refine zI J J (zT J) ?_
 refine zI J J (zM J J J J J J) ?_
 refine zI J J (qpp J J J J J J J) ?_
 refine zI J J (zf J J J J J J) ?_
 refine zCL J J J J J cem ?_
 refine zI J J (zAx J J J) ?_
 refine zI J J (zG J) ?_
 refine zu ?_
 refine zW (by kernel_rfl) ?_
 refine rn1 ?_
 refine z8 (ι := Nat × List Int × List zBg) (fun x => [(0, .ptr 0 0 0), (2, .int .i64 N), (7, iN S.length), (9, .rp (.box (poC Q)) 0 0), (10, .sl 2 0 x.1), (53, zBC ms), (54, iN ms.length), (55, iN x.1)]) (fun x => zC2 r (S.length + 1 + x.2.2.length) (S ++ [(m, [])] ++ x.2.2) ++ [inO x.2.1]) (fun x => x.1 ≤ ms.length ∧ zA7 r (zGY r k) Q (ms.take x.1) (S.length + 1) = (x.2.1, x.2.2) ∧ S.length + 1 + x.2.2.length ≤ 256) (fun x => ms.length - x.1) (0, [], []) ⟨⟨J, J, J, J, J, J, J, J, trivial⟩, by simp only [List.append_nil]; rfl, Nat.zero_le _, J, by show S.length + 1 + 0 ≤ 256; omega⟩ ?_
 rintro ⟨j, A, T⟩ ⟨hj, hkj, hf⟩
 have hj : j ≤ ms.length := hj
 have hkj : zA7 r (zGY r k) Q (ms.take j) (S.length + 1) = (A, T) := hkj
 have hf : S.length + 1 + T.length ≤ 256 := hf
 have hAl : A.length = j := by
  have := zHF r (zGY r k) Q (ms.take j) (S.length + 1)
  rw [hkj, List.length_take] at this
  have this : A.length = min j ms.length := this
  omega
 change Ax _ _ _ _ [(0, .ptr 0 0 0), (2, .int .i64 N), (7, iN S.length), (9, .rp (.box (poC Q)) 0 0), (10, .sl 2 0 j), (53, zBC ms), (54, iN ms.length), (55, iN j)] (zC2 r (S.length + 1 + T.length) (S ++ [(m, [])] ++ T) ++ [inO A])
 have hUl : (S ++ [(m, [])] ++ T).length = S.length + 1 + T.length := by rw [List.length_append, List.length_append]; rfl
 obtain ⟨n, hn⟩ : ∃ n, S.length + 1 + T.length = n := ⟨_, rfl⟩
 obtain ⟨U, hU⟩ : ∃ U, S ++ [(m, [])] ++ T = U := ⟨_, rfl⟩
 rw [hn, hU]
 rw [hn, hU] at hUl
 refine rn4 ?_
 refine zF J (fun g => ?_) (fun g => ?_)
 ·have hj' : j < ms.length := by omega
  have hmem := zAN mv0 hj'
  obtain ⟨a, ha⟩ : ∃ a, ms.getD j mv0 = a := ⟨_, rfl⟩
  rw [ha] at hmem
  obtain ⟨hq0, haL⟩ := hms a hmem
  have hMa := Go.Ax.Gm.list_ok hv Sq haL
  have Ss := zB7 hv Sq haL
  have hts : ms.take (j + 1) = ms.take j ++ [a] := by rw [zz ms mv0 j hj', ha]
  have hsn := zGE r (zGY r k) Q a (ms.take j) (S.length + 1)
  rw [← hts, hkj] at hsn
  simp only [hn] at hsn
  have hkt := zNw r (zGY r k) Q (S.length + 1) ms (j + 1)
  have cmk2 := zDw r hv Q Sq a hMa
  have hck := fun k' e => hchk k' e hq0 a haL
  generalize hSS : zZ r Q a = s at *
  have cres := zCH r hv s Ss
  refine zFu ?_
  repeat (refine zAK rfl rfl rfl ?_)
  refine zb (mvC a) J J J J J (by rw [← ha]; rfl) J ?_
  refine rn0 ?_
  refine zCa (zC2 r n U ++ [inO A]) 12 [(0, .ptr 0 0 0), (2, .int .i64 N), (7, iN S.length), (9, .rp (.box (poC Q)) 0 0), (10, .sl 2 0 j), (53, zBC ms), (54, iN ms.length), (55, iN j)] J J ⟨J, J, J, J, J, J, J, J, trivial⟩ ⟨J, J, J, J, J, J, J, J, J, trivial⟩ (zJL _ _ _ _) J (fun h q => nofix h _ q) ?_
  refine ze (by kernel_rfl) ?_
  refine zDV (fuel := 0) [0, 1, 2, 3, 4, 5, 6, 7, 8] [7, 8] (fun j => [zC2 r n U ++ [inO A], zC2 r n U ++ [inO A, poO poZZ], zC2 r n U ++ [inO A, poO (poC s)]].getD j []) [(12, .rp (.box (mvC a)) 0 0), (0, .ptr 0 0 0), (2, .int .i64 N), (7, iN S.length), (9, .rp (.box (poC Q)) 0 0), (10, .sl 2 0 j), (53, zBC ms), (54, iN ms.length), (55, iN j)] ⟨J, J, J, J, J, J, J, J, J, trivial⟩ (by kernel_rfl) (by kernel_rfl) J (by decide) J J ?_
  refine zCK J J J (fun _ => zG J) ?_
  refine zCK J J J (fun _ => zT J) ?_
  refine zCK J J J (fun _ => zM J J J J J J) ?_
  refine pm_qs [0, 1] J J J (by kernel_rfl) ⟨qpp J J J J J J J, qpp J J J J J J J, trivial⟩ ?_
  refine zCK J J J (fun _ => zf J J J J J J) ?_
  refine zCK J J J (fun _ => zf J J J J J J) ?_
  refine pm_v J J J J J J cmk2 ?_
  refine zFo (j := 0) J J J (by kernel_rfl) J J J J J ?_
  refine zDc (j := 1) (poC s) J J J (by kernel_rfl) J J J J J J J J ?_
  refine zHK ?_
  refine zW (by kernel_rfl) ?_
  refine rn0 ?_
  refine zCa (zC2 r n U ++ [inO A]) 13 [(0, .ptr 0 0 0), (2, .int .i64 N), (7, iN S.length), (9, .rp (.box (poC Q)) 0 0), (10, .sl 2 0 j), (53, zBC ms), (54, iN ms.length), (55, iN j)] J J ⟨J, J, J, J, J, J, J, J, trivial⟩ ⟨J, J, J, J, J, J, J, J, J, trivial⟩ (zJL _ _ _ _) J (fun h q => nofix h _ q) ?_
  refine ze (by kernel_rfl) ?_
  refine zm (fuel := 0) [0, 1, 2, 3, 4, 5, 6] [(13, .rp (.box (poC s)) 0 0), (0, .ptr 0 0 0), (2, .int .i64 N), (7, iN S.length), (9, .rp (.box (poC Q)) 0 0), (10, .sl 2 0 j), (53, zBC ms), (54, iN ms.length), (55, iN j)] ⟨J, J, J, J, J, J, J, J, J, trivial⟩ (by kernel_rfl) (by decide) J J ?_
  refine zI J J (zG J) ?_
  refine zI J J (zT J) ?_
  refine zI J J (zM J J J J J J) ?_
  refine zI J J (qpp J J J J J J J) ?_
  refine zI J J (zf J J J J J J) ?_
  refine zCL J J J J J cres ?_
  refine zI J J (zBl J J) ?_
  refine zu ?_
  refine zW (by kernel_rfl) ?_
  repeat (refine zB ?_)
  refine zF J (fun w => ?_) (fun w => ?_)
  ·rw [if_pos w] at hsn
   refine rn3 ?_
   refine zAj J J J J J J J J J hAl J J (by show 0 + 1 ≤ 1; omega) J (by show (j + 1) * 8 ≤ _ ∧ _; omega) (fun i j _ _ => rfl) nofix2 ?_
   refine zAU (zC2 r n U ++ [inO (A ++ [-1])]) ?_ ?_
   ·show [some (AObj.mk _ ((Cells.box _).forget 2)), some (AObj.mk _ ((zHs U).forget 2)), _] = _
    rw [zBm (fun a j => zGU a j 2)]; rfl
   refine rn5 ?_
   exact zR ⟨(j + 1, A ++ [-1], T), ⟨by show j + 1 ≤ ms.length; omega, hsn, hf⟩, by show ms.length - (j + 1) < ms.length - j; omega, ⟨rfl, rfl, rfl, rfl, rfl, rfl, rfl, rfl, trivial⟩, by subst hn; subst hU; rfl⟩
  have w := Classical.not_not.1 w
  rw [if_neg (fun c => c w)] at hsn
  obtain ⟨k', hk', ih⟩ : ∃ k', k = k' + 1 ∧ zK9 r k' := hrec.elim (fun e => by rw [hk0 e] at hj'; exact absurd hj' (Nat.not_lt_zero _)) id
  obtain ⟨hc1, hc2⟩ := hck k' hk' w
  have hb : zGY r k s n = zAE r k' s n := by subst hk'; rfl
  have ihs := ih s hc1 hc2 U (by omega)
  rw [← e3 k' hk', hUl] at ihs
  have ihf := zd.frame [inO (A ++ [(n : Int)])] (K' := GrowK r k' s U (fun x => x = [inO (A ++ [(n : Int)])])) ihs (fun h q => by have q : h < 1 := q; show h < 2; omega) rfl (zEO _ _ _) (zEN zAR) (fun v H' hK => by
   by_cases hfit : U.length + (zAE r k' s U.length).length ≤ 256
   ·obtain ⟨h1, x, h2, h3⟩ := hK.1 hfit
    subst h2; subst h3
    exact ⟨J, fun _ => ⟨h1, _, J, J⟩, fun c => absurd c (by omega)⟩
   ·obtain ⟨h1, x, h2, h3⟩ := hK.2 (by omega)
    subst h2; subst h3
    exact ⟨J, fun c => absurd c hfit, fun _ => ⟨h1, _, J, J⟩⟩)
  rw [hb] at hsn
  refine rn8 ?_
  refine zAj J J J J J J J J J hAl J J (by show 0 + 1 ≤ 1; omega) J (by show (j + 1) * 8 ≤ _ ∧ _; omega) (fun i j _ _ => rfl) nofix2 ?_
  refine zAU (zC2 r n U ++ [inO (A ++ [(n : Int)])]) ?_ ?_
  ·show [some (AObj.mk _ ((Cells.box _).forget 2)), some (AObj.mk _ ((zHs U).forget 2)), _] = _
   rw [zBm (fun a j => zGU a j 2)]; rfl
  refine zFu ?_
  refine zD4 1 J J J ihf (fun h q1 q2 => ?_) (fun h q => ?_) nofix1 ?_
  ·have q1 : h < 3 := q1
   show h < 1 ∨ (2 ≤ h ∧ h < 2 + 1)
   omega
  ·have q : h < 1 ∨ (2 ≤ h ∧ h < 2 + 1) := q
   show h < 3
   omega
  intro v H' hK
  by_cases hfit : U.length + (zAE r k' s U.length).length ≤ 256
  ·obtain ⟨h1, x, h2, h3⟩ := hK.1 hfit
   subst h1; subst h2; subst h3
   rw [hUl] at hfit ⊢
   refine ⟨by show 3 ≤ 3; omega, ?_⟩
   refine rn5 ?_
   exact zR ⟨(j + 1, A ++ [(n : Int)], T ++ zAE r k' s n), ⟨by show j + 1 ≤ ms.length; omega, hsn, by show S.length + 1 + (T ++ zAE r k' s n).length ≤ 256; rw [List.length_append]; omega⟩, by show ms.length - (j + 1) < ms.length - j; omega, ⟨J, J, J, J, J, J, J, J, trivial⟩, by
    show zC2 r (n + (zAE r k' s n).length) (U ++ zAE r k' s n) ++ _ = zC2 r (S.length + 1 + (T ++ zAE r k' s n).length) (S ++ [(m, [])] ++ (T ++ zAE r k' s n)) ++ _
    rw [List.length_append, ← Nat.add_assoc, hn, ← hU, List.append_assoc, List.append_assoc]
    first | done | rfl⟩
  ·obtain ⟨h1, x, h2, h3⟩ := hK.2 (by omega)
   subst h1; subst h2; subst h3
   refine ⟨by show 3 ≤ 3; omega, ?_⟩
   rw [hUl] at hfit
   rw [hsn, ← htk] at hkt
   have hkt : (T ++ zAE r k' s n).length ≤ (zL9 r k p S.length).2.length := hkt
   rw [List.length_append] at hkt
   refine rn6 ?_
   exact zL hR J ⟨fun c => absurd c (by omega), fun c => ⟨J, _, trivial, J⟩⟩
 ·have hj' : j = ms.length := by omega
  rw [List.take_of_length_le (by omega), ← htk] at hkj
  rw [hkj] at htl hlen
  have htl : zAE r k p S.length = (m, A) :: T := htl
  have hlen : (zAE r k p S.length).length = 1 + T.length := hlen
  subst hAl
  refine zBA ?_
  refine zC6 2 10 A.length [(0, .ptr 0 0 0), (7, iN S.length)] J zAR J (Nat.le_refl _) ⟨J, J, trivial⟩ ?_
  refine zJ J ?_
  repeat (first | refine zA (zG rfl) ?_ | refine zC ?_ | refine zB ?_ | refine zY ?_ | refine zA (zU rfl rfl rfl rfl rfl) ?_ | refine zA (zn rfl rfl rfl rfl rfl (by first | (simp only [Nat.zero_add, Int.toNat_natCast, Int.toNat_zero]; exact rfl) | exact rfl) (by omega)) ?_ | refine zA (zT rfl) ?_ | refine zA (zM rfl rfl rfl rfl rfl rfl) ?_ | refine zAF rfl rfl rfl rfl rfl rfl rfl (by first | assumption | (show _ < List.length _; first | assumption | omega)) ?_)
  refine zNF [solB r (.sl 1 0 n), stpO (S ++ (m, A) :: T), none] (zAs.same (zAs.eqv ⟨?_, J, fun i j hi hj => ?_⟩ (zAs.same zAs.nil))) ?_
  ·show (S ++ (m, A) :: T).length = U.length
   rw [← hU]; simp
  ·subst hU
   exact step_set S m A T i j
  refine rn0 ?_
  exact zL hR J ⟨fun c => ⟨J, [none], trivial, by rw [hlen, htl, ← hn, Nat.add_assoc]; rfl⟩, fun c => absurd c (by omega)⟩
theorem step_ok (r : Go.Ax.Gm.Rules) : ∀ (k : Nat), zK9 r k := by
 have key : ∀ (k : Nat), (k = 0 ∨ ∃ k', k = k' + 1 ∧ zK9 r k') → zK9 r k := fun k hrec p h hw S hS =>
  zd.cutR (zOS r k hrec p h hw S hS) (fun v H hK => by
   by_cases hfit : S.length + (zAE r k p S.length).length ≤ 256
   ·obtain ⟨h1, x, _, h3⟩ := hK.1 hfit
    subst h1; subst h3
    exact ⟨_, x, J, fun h q => by have q : h < 1 := q; show h < 2; omega, zEO _ _ _, J, fun _ => ⟨J, [], J, (List.append_nil _).symm⟩, fun c => absurd c (by omega)⟩
   ·obtain ⟨h1, x, _, h3⟩ := hK.2 (by omega)
    subst h1; subst h3
    exact ⟨[none, none], x, J, fun h q => by have q : h < 1 := q; show h < 2; omega, bl_n (bl_n zBK), J, fun c => absurd c hfit, fun _ => ⟨J, [], J, J⟩⟩)
 intro k
 induction k with
 | zero => exact key 0 (.inl rfl)
 | succ k ih => exact key (k + 1) (.inr ⟨k, rfl, ih⟩)
/-- puzzle.Solution -/
theorem zID (r : Go.Ax.Gm.Rules) (hr : Lens r) (p : Pos) (hp : LenP p) (n : Int) : zl Tryz.prog 42 [ruA r, poA p, .int .i64 n] (.tup [zB9 (zGr r p n), .int .i64 (zEm r p n)]) := by
 refine zd.value0 (zN (P := Tryz.prog) (fn := Tryz.f42) J J (by kernel_rfl) J (fun c hR hfix => ?_)) (fix := fun _ => False) (fun _ h => h) J J
 have hE : zEm r p n = if zAC r p n ≠ 0 then zAC r p n else if (zBN r (zBy n) p).length = 0 then 8 else if 256 < (zAE r (zBy n) p 0).length then 2 else 0 := rfl
 have hL : zGr r p n = if zEm r p n ≠ 0 then [] else zAE r (zBy n) p 0 := rfl
 have hwl := zGO r p n
 refine zY ?_
 repeat (first | refine zA (zO rfl) ?_ | refine zC ?_ | refine zB ?_ | refine zJ rfl ?_ | refine zAO rfl rfl ?_)
 refine zCn 3 4 [(2, .int .i64 n), (6, .nil), (7, .int .i64 0)] J J J J ⟨J, J, J, trivial⟩ ⟨J, J, J, J, J, trivial⟩ J hfix ?_
 refine rn6 ?_
 refine zP J J J (zF4 r hr p hp n) ?_
 refine rn3 ?_
 refine zF J (fun q => ?_) (fun q => ?_)
 ·have q : zAC r p n ≠ 0 := q
  rw [if_pos q] at hE
  rw [if_pos (by rw [hE]; exact q)] at hL
  rw [hE, hL] at hR
  refine rn7 ?_
  refine zBB 6 (zB9 []) J AEq.nil ?_
  refine rn2 ?_
  exact zL hR J J
 have q : zAC r p n = 0 := Classical.not_not.1 q
 obtain ⟨k, e, hc⟩ := zFa q
 have eh : zBy n = k := by rw [e, zHC]
 have e2 : zC1 r p n = zBN r k p := by unfold zC1; rw [if_neg (fun d => d q), eh]
 rw [if_neg (fun d => d q), eh] at hE
 rw [eh] at hL
 rw [e2] at hwl ⊢
 refine rn4 ?_
 refine zF J (fun q2 => ?_) (fun q2 => ?_)
 ·rw [if_pos (by omega)] at hE
  rw [if_pos (by rw [hE]; decide)] at hL
  rw [hE, hL] at hR
  refine rn7 ?_
  refine zBB 6 (zB9 []) J AEq.nil ?_
  refine rn2 ?_
  exact zL hR J J
 rw [if_neg (by omega)] at hE
 have hw : zBN r k p ≠ [] := fun d => q2 (by rw [d]; rfl)
 have cs := step_ok r k p hc hw [] (Nat.zero_le _)
 rw [show zCh k = n from e.symm] at cs
 refine rn20 ?_
 refine zJ J ?_
 repeat (first | refine zA (zO rfl) ?_ | refine zC ?_ | refine zB ?_ | refine zY ?_ | refine zA (zCW rfl rfl rfl rfl rfl rfl) ?_ | refine zA (zf rfl rfl rfl rfl rfl rfl) ?_ | refine zAO rfl rfl ?_)
 refine zAS [solB r .nil] J ?_
 refine zDK 0 ⟨80, zHs []⟩ (.box (solC r (.sl 1 0 0))) J J J J (fun i j hi hj => by
  obtain rfl : i = 0 := Nat.lt_one_iff.1 hi
  have hj : j < 12 := hj
  match j, hj with
  | 0, _ => exact .inl rfl
  | 1, _ => exact .inl rfl
  | 2, _ => exact .inl rfl
  | 3, _ => exact .inl rfl
  | 4, _ => exact .inl rfl
  | 5, _ => exact .inl rfl
  | 6, _ => exact .inl rfl
  | 7, _ => exact .inl rfl
  | 8, _ => exact .inl rfl
  | 9, _ => exact .inl rfl
  | 10, _ => exact .inl rfl
  | 11, _ => exact .inr ⟨rfl, rfl⟩) ?_
 refine zAS (zC2 r 0 []) J ?_
 refine rn6 ?_
 refine zD4 1 J J J cs (fun h q1 q2 => ?_) (fun h q => ?_) (by rw [hfix]; exact fun h => h) ?_
 ·have q1 : h < 2 := q1
  show h < 1
  omega
 ·have q : h < 1 := q
  show h < 2
  omega
 intro v H' hK
 by_cases hfit : (zAE r k p 0).length ≤ 256
 ·obtain ⟨h1, x, h2, h3⟩ := hK.1 (by show 0 + (zAE r k p 0).length ≤ 256; omega)
  have h3 : H' = zC2 r (0 + (zAE r k p 0).length) (zAE r k p 0) ++ x := h3
  rw [Nat.zero_add] at h3
  subst h1; subst h2; subst h3
  rw [if_neg (by omega)] at hE
  rw [if_neg (by rw [hE]; decide)] at hL
  rw [hE, hL] at hR
  refine ⟨by show 2 ≤ 2; omega, ?_⟩
  generalize hX : zAE r k p 0 = X at hR hfit ⊢
  repeat (first | refine zA (zG rfl) ?_ | refine zA (zO rfl) ?_ | refine zC ?_ | refine zB ?_ | refine zY ?_ | refine zJ rfl ?_ | refine zAf rfl ?_ | refine zAQ ?_ | refine zA (zU rfl rfl rfl rfl rfl) ?_ | refine zA (zEK rfl) ?_ | refine zA (zT rfl) ?_ | refine zA (zM rfl rfl rfl rfl rfl rfl) ?_)
  refine zC6 1 6 X.length [(7, .int .i64 0)] J (zAZ zL6) J (Nat.le_refl _) ⟨J, trivial⟩ ?_
  repeat (refine zAA ?_)
  exact zL hR J J
 ·obtain ⟨h1, x, h2, h3⟩ := hK.2 (by show 256 < 0 + (zAE r k p 0).length; omega)
  subst h1; subst h2; subst h3
  rw [if_pos (by omega)] at hE
  rw [if_pos (by rw [hE]; decide)] at hL
  rw [hE, hL] at hR
  refine ⟨by show 2 ≤ 2; omega, ?_⟩
  refine rn9 ?_
  refine zBB 6 (zB9 []) J AEq.nil ?_
  refine rn2 ?_
  exact zL hR J J
theorem zH8 (r : Go.Ax.Gm.Rules) (hv : ValidR r) (l : List zBg) (hl : l.length ≤ 256) (hL : ∀ i, (l.getD i zBD).2.length ≤ 1000000) (k : Nat) (hrec : k = 0 ∨ ∃ k', k = k' + 1 ∧ ∀ (p : Pos) (S : Sound r p) (j : Int), zl Tryz.prog 74 [ruA r, poA p, .int .i64 (zCh k'), zB9 l, .int .i64 j] (.bool (zBI r l k' p j))) (hk : k ≤ 100) (p : Pos) (S : Sound r p) (j : Int) : zl Tryz.prog 74 [ruA r, poA p, .int .i64 (zCh k), zB9 l, .int .i64 j] (.bool (zBI r l k p j)) := by
 have hp := zEx r l k p j
 have hpl : 1 ≤ zCh k ∧ zCh k ≤ 1000 := ⟨by show (1:Int) ≤ 2 * (k : Int) + 1; omega, by show 2 * (k : Int) + 1 ≤ (1000 : Int); omega⟩
 have e3 : ∀ k', k = k' + 1 → zCh k - 2 = zCh k' := fun k' h => by subst h; show 2 * ((k' + 1 : Nat) : Int) + 1 - 2 = 2 * (k' : Int) + 1; omega
 have e4 : zCh k < 3 ↔ k = 0 := by show 2 * (k : Int) + 1 < 3 ↔ _; omega
 refine zd.value0 (zN (P := Tryz.prog) (fn := Tryz.f74) J J (by kernel_rfl) J (fun c hR hfix => ?_)) (fix := fun _ => False) (fun _ h => h) J J
 generalize hN : zCh k = N at hpl e3 e4 hR ⊢
 refine zY ?_
 repeat (first | refine zA (zO rfl) ?_ | refine zC ?_ | refine zB ?_ | refine zJ rfl ?_ | refine zAO rfl rfl ?_)
 refine zCn 5 6 [(2, .int .i64 N), (3, zB9 l), (4, .int .i64 j)] J J J J ⟨J, J, J, trivial⟩ ⟨J, J, J, J, J, trivial⟩ J hfix ?_
 repeat (refine zY ?_)
 refine ze (by kernel_rfl) ?_
 refine zm (fuel := 0) [0, 1, 2, 3, 4, 5, 6, 7, 8, 9, 10, 11, 12, 13, 14, 15, 16, 17, 18, 19, 20, 21, 22, 23] [(5, .rp (.box (ruC r)) 0 0), (6, .rp (.box (poC p)) 0 0), (2, .int .i64 N), (3, zB9 l), (4, .int .i64 j)] ⟨J, J, J, J, J, trivial⟩ (by kernel_rfl) (by decide) J J ?_
 refine zI J J (zG J) ?_
 refine zI J J (zCE J J) ?_
 by_cases h1 : j < 0
 ·rw [decide_eq_true h1]
  rw [if_pos (.inl h1)] at hp
  rw [hp] at hR
  refine zI J J (zG J) ?_
  refine zj J J J J J ?_
  refine zj J J J J J ?_
  refine zj J J J J J ?_
  refine zj J J J J J ?_
  refine zI J J (zg J J) ?_
  refine zI J J (zG J) ?_
  refine zj J J J J J ?_
  refine zj J J J J J ?_
  refine zI J J (zg J J) ?_
  refine zI J J (zG J) ?_
  refine zj J J J J J ?_
  refine zj J J J J J ?_
  refine zj J J J J J ?_
  refine zj J J J J J ?_
  refine zj J J J J J ?_
  refine zj J J J J J ?_
  refine zj J J J J J ?_
  refine zj J J J J J ?_
  refine zj J J J J J ?_
  refine zj J J J J J ?_
  refine zI J J (zg J J) ?_
  refine zu ?_
  refine zW (by kernel_rfl) ?_
  refine rn5 ?_
  exact zL hR J J
 rw [decide_eq_false h1]
 obtain ⟨i, rfl⟩ : ∃ i : Nat, j = i := ⟨j.toNat, by omega⟩
 by_cases h2 : l.length ≤ i
 ·rw [if_pos (.inr (.inl (by omega)))] at hp
  rw [hp] at hR
  refine zI J J (zG J) ?_
  refine zi J J J J (zG J) ?_
  refine zi J J J J (zG J) ?_
  refine zi J J J J (zAx J J J) ?_
  refine zi J J J J (zDs J J) ?_
  rw [decide_eq_true (by omega)]
  refine zI J J (zg J J) ?_
  refine zI J J (zG J) ?_
  refine zj J J J J J ?_
  refine zj J J J J J ?_
  refine zI J J (zg J J) ?_
  refine zI J J (zG J) ?_
  refine zj J J J J J ?_
  refine zj J J J J J ?_
  refine zj J J J J J ?_
  refine zj J J J J J ?_
  refine zj J J J J J ?_
  refine zj J J J J J ?_
  refine zj J J J J J ?_
  refine zj J J J J J ?_
  refine zj J J J J J ?_
  refine zj J J J J J ?_
  refine zI J J (zg J J) ?_
  refine zu ?_
  refine zW (by kernel_rfl) ?_
  refine rn5 ?_
  exact zL hR J J
 have h2 : i < l.length := by omega
 have hM : zx r p = zx r p := rfl
 have hlen := zDb hv S
 have cl := list_ok r hv p S
 have hLi := hL i
 rw [show ((i : Nat) : Int).toNat = i from rfl] at hp
 obtain ⟨st, hst⟩ : ∃ st, l.getD i zBD = st := ⟨_, rfl⟩
 rw [hst] at hp hLi
 have cc := zNf (zx r p) st.1 (by omega)
 rw [any_isM, ← hst] at cc
 refine zI J J (zG J) ?_
 refine zi J J J J (zG J) ?_
 refine zi J J J J (zG J) ?_
 refine zi J J J J (zAx J J J) ?_
 refine zi J J J J (zDs J J) ?_
 rw [decide_eq_false (by omega)]
 refine zI J J (zg J J) ?_
 refine zI J J (zG J) ?_
 refine zi J J J J (zG J) ?_
 refine zi J J J J (zCE J J) ?_
 rw [decide_eq_false (by omega)]
 refine zI J J (zg J J) ?_
 refine zI J J (zG J) ?_
 refine zi J J J J (zf J J J J J J) ?_
 refine zi J J J J (zf J J J J J J) ?_
 refine zBb J J J J J J J cl ?_
 refine zi J J J J (zG J) ?_
 refine zi J J J J (zG J) ?_
 refine zi J J J J (zh J J J J (by first | (simp only [Nat.zero_add, Int.toNat_natCast, Int.toNat_zero]; exact J) | exact J) (by omega)) ?_
 refine zi J J J J (zK J J J J J J) ?_
 refine zi J J J J (zCi J J J J J J) ?_
 refine zBb J J J J J J J cc ?_
 refine zi J J J J (zEK J) ?_
 refine zI J J (zg J J) ?_
 refine zu ?_
 refine zW (by kernel_rfl) ?_
 rw [hst]
 by_cases h3 : st.1 ∈ zx r p
 rotate_left
 ·rw [if_pos (.inr (.inr h3))] at hp
  rw [hp] at hR
  rw [decide_eq_false h3]
  refine rn5 ?_
  exact zL hR J J
 rw [if_neg (fun d => d.elim (fun d => h1 d) (fun d => d.elim (fun d => by omega) (fun d => d h3)))] at hp
 rw [decide_eq_true h3]
 have cmk := zDw r hv p S st.1 (Go.Ax.Gm.list_ok hv S h3)
 have Sq := zB7 hv S h3
 have ht := S.tn
 have hrest0 : k = 0 → zLz r l k p i = false := fun h => by subst h; rfl
 have hrestS : ∀ k', k = k' + 1 → zLz r l k p i = (decide (st.2.length = (zx r (zZ r p st.1)).length) && ((zx r (zZ r p st.1)).zip st.2).all (zEu r (zBI r l k') (1 + p.turn) (zZ r p st.1) i)) := fun k' h => by
  subst h; rw [zLz, show ((i : Nat) : Int).toNat = i from rfl, hst]
 rw [← hst] at cmk
 generalize hQ : zZ r p (l.getD i zBD).1 = Q at cmk
 rw [hst] at hQ
 simp only [hQ] at Sq hp hrestS
 refine zBx ?_
 refine ze (by kernel_rfl) ?_
 refine zDV (fuel := 0) [0, 1, 2, 3, 4, 5, 6, 7, 8, 9] [8, 9] (fun j => [[], [some ⟨35, .box [.nil, .nil, .nil, .int .i64 0, .int .i64 0]⟩], [some ⟨35, .box (poC Q)⟩]].getD j []) [(5, .rp (.box (ruC r)) 0 0), (6, .rp (.box (poC p)) 0 0), (2, .int .i64 N), (3, zB9 l), (4, iN i), (11, .int .i64 (1 + p.turn))] ⟨J, J, J, J, J, J, trivial⟩ (by kernel_rfl) (by kernel_rfl) J (by decide) J J ?_
 refine zCK J J J (fun _ => zf J J J J J J) ?_
 refine zCK J J J (fun _ => zf J J J J J J) ?_
 refine zCK J J J (fun _ => zG J) ?_
 refine zCK J J J (fun _ => zG J) ?_
 refine zCK J J J (fun _ => zh J J J J (by first | (simp only [Nat.zero_add, Int.toNat_natCast, Int.toNat_zero]; exact J) | exact J) (by omega)) ?_
 refine zCK J J J (fun _ => zK J J J J J J) ?_
 refine zCK J J J (fun _ => zCi J J J J J J) ?_
 refine pm_v J J J J J J cmk ?_
 refine zFo (j := 0) J J J (by kernel_rfl) J J J J J ?_
 refine zDc (j := 1) (poC Q) J J J (by kernel_rfl) J J J J J J J J ?_
 refine zHK ?_
 refine zW (by kernel_rfl) ?_
 refine zBA ?_
 have cres := zCH r hv Q Sq
 have hnx : (l.getD i zBD).2 = st.2 := by rw [hst]
 refine zB0 12 [(5, .rp (.box (ruC r)) 0 0), (2, .int .i64 N), (3, zB9 l), (4, iN i), (11, .int .i64 (1 + p.turn))] J ⟨J, J, J, J, J, J, trivial⟩ ⟨J, J, J, J, J, trivial⟩ J hfix ?_
 refine rn6 ?_
 refine zP J J J cres ?_
 refine rn3 ?_
 refine zF J (fun q => ?_) (fun q => ?_)
 ·rw [if_pos q] at hp
  rw [hp] at hR
  refine rn4 ?_
  refine zo J J (fun q1 => ?_) (fun q1 => ?_)
  ·rw [decide_eq_true q1] at hR
   repeat (first | refine zA (zG rfl) ?_ | refine zA (zO rfl) ?_ | refine zC ?_ | refine zB ?_ | refine zr rfl rfl ?_ | refine zAA ?_ | refine zA6 ?_ | refine zA (zAm rfl rfl rfl rfl) ?_ | refine zA (zBR rfl rfl) ?_ | refine zA (zg rfl rfl) ?_ | refine zA (zAx rfl rfl rfl) ?_ | refine zA (zh rfl rfl rfl rfl (by first | (simp only [Nat.zero_add, Int.toNat_natCast, Int.toNat_zero]; exact rfl) | exact rfl) (by omega)) ?_ | refine zA (zK rfl rfl rfl rfl rfl rfl) ?_)
   refine zL hR J ?_
   show AV.bool (decide (((l.getD i zBD).2.length : Int) = 0)) = _
   rw [hnx]
   congr 1
   exact decide_eq_decide.2 (by omega)
  ·rw [decide_eq_false q1] at hR
   refine rn6 ?_
   exact zL hR J J
 rw [if_neg q] at hp
 have q := Classical.not_not.1 q
 have cl2 := list_ok r hv Q Sq
 have hlen2 := zDb hv Sq
 have hms : ∀ a ∈ zx r Q, MvOK r Q a ∧ Sound r (zZ r Q a) := fun a ha => ⟨Go.Ax.Gm.list_ok hv Sq ha, zB7 hv Sq ha⟩
 generalize hMs : zx r Q = ms at *
 refine rn6 ?_
 refine zP J J J cl2 ?_
 refine rn4 ?_
 refine zo J J (fun q1 => ?_) (fun q1 => ?_)
 ·rw [hp, hrest0 (e4.1 q1)] at hR
  refine rn6 ?_
  exact zL hR J J
 obtain ⟨k', hk', ih⟩ : ∃ k', k = k' + 1 ∧ ∀ (p : Pos) (S : Sound r p) (j : Int), zl Tryz.prog 74 [ruA r, poA p, .int .i64 (zCh k'), zB9 l, .int .i64 j] (.bool (zBI r l k' p j)) := hrec.elim (fun h => absurd (e4.2 h) q1) id
 have hrest := hrestS k' hk'
 repeat (first | refine zA (zG rfl) ?_ | refine zC ?_ | refine zB ?_ | refine zr rfl rfl ?_ | refine zA (zAm rfl rfl rfl rfl) ?_ | refine zA (zBl rfl rfl) ?_ | refine zA (zg rfl rfl) ?_ | refine zA (zAx rfl rfl rfl) ?_ | refine zA (zh rfl rfl rfl rfl (by first | (simp only [Nat.zero_add, Int.toNat_natCast, Int.toNat_zero]; exact rfl) | exact rfl) (by omega)) ?_ | refine zA (zK rfl rfl rfl rfl rfl rfl) ?_)
 refine zF J (fun q2 => ?_) (fun q2 => ?_)
 ·rw [hnx] at q2
  rw [decide_eq_false (by omega), Bool.false_and] at hrest
  rw [hp, hrest] at hR
  refine rn2 ?_
  exact zL hR J J
 rw [hnx] at q2
 have q2 : st.2.length = ms.length := by omega
 rw [decide_eq_true q2, Bool.true_and] at hrest
 have hzl : (ms.zip st.2).length = ms.length := by rw [List.length_zip]; omega
 have e3 := e3 k' hk'
 refine rn3 ?_
 refine z8 (ι := Nat) (fun j => [(12, .rp (.box (poC Q)) 0 0), (5, .rp (.box (ruC r)) 0 0), (2, .int .i64 N), (3, zB9 l), (4, iN i), (11, .int .i64 (1 + p.turn)), (87, zBC ms), (88, iN ms.length), (89, iN j)]) (fun _ => []) (fun j => j ≤ ms.length ∧ ((ms.zip st.2).take j).all (zEu r (zBI r l k') (1 + p.turn) Q i) = true) (fun j => ms.length - j) 0 ⟨⟨J, J, J, J, J, J, J, J, J, trivial⟩, J, Nat.zero_le _, J⟩ ?_
 intro j ⟨hj, hall2⟩
 refine rn4 ?_
 refine zF J (fun g => ?_) (fun g => ?_)
 ·have hj' : j < ms.length := by omega
  have hmem := zAN mv0 hj'
  have hzg : (ms.zip st.2).getD j (mv0, 0) = (ms.getD j mv0, st.2.getD j 0) := by
   simp only [List.getD, List.getElem?_eq_getElem (show j < (ms.zip st.2).length by omega), List.getElem?_eq_getElem hj', List.getElem?_eq_getElem (show j < st.2.length by omega), Option.getD_some, List.getElem_zip]
  have hst2 : ((ms.zip st.2).take (j + 1)).all (zEu r (zBI r l k') (1 + p.turn) Q i) = zEu r (zBI r l k') (1 + p.turn) Q i (ms.getD j mv0, st.2.getD j 0) := by
   rw [zz (ms.zip st.2) (mv0, 0) j (by omega), List.all_append, hall2, hzg]; simp
  have hno : zEu r (zBI r l k') (1 + p.turn) Q i (ms.getD j mv0, st.2.getD j 0) = false → (ms.zip st.2).all (zEu r (zBI r l k') (1 + p.turn) Q i) = false := fun c => by
   rw [← Bool.not_eq_true, List.all_eq_true]
   intro d
   have := d _ (hzg ▸ zAN (mv0, 0) (show j < (ms.zip st.2).length by omega))
   rw [c] at this; cases this
  obtain ⟨a, ha⟩ : ∃ a, ms.getD j mv0 = a := ⟨_, rfl⟩
  rw [ha] at hmem hst2 hno
  obtain ⟨ha1, ha2⟩ := hms a hmem
  refine zFu ?_
  refine rn4 ?_
  refine zb (mvC a) J J J J J (by rw [← ha]; rfl) J ?_
  refine rn0 ?_
  have hjn : j < (l.getD i zBD).2.length := by rw [hnx]; omega
  have cmk2 := zDw r hv Q Sq a ha1
  generalize hSS : zZ r Q a = s at *
  refine zB0 16 [(12, .rp (.box (poC Q)) 0 0), (5, .rp (.box (ruC r)) 0 0), (2, .int .i64 N), (3, zB9 l), (4, iN i), (11, .int .i64 (1 + p.turn)), (87, zBC ms), (88, iN ms.length), (89, iN j), (15, iN j)] J ⟨J, J, J, J, J, J, J, J, J, J, J, trivial⟩ ⟨J, J, J, J, J, J, J, J, J, J, trivial⟩ J hfix ?_
  refine ze (by kernel_rfl) ?_
  refine zDV (fuel := 0) [0, 1, 2, 3, 4, 5, 6, 7, 8, 9, 10, 11, 12, 13, 14] [12, 13] (fun j => [[], [some ⟨35, .box [.nil, .nil, .nil, .int .i64 0, .int .i64 0]⟩], [some ⟨35, .box (poC s)⟩]].getD j []) [(12, .rp (.box (poC Q)) 0 0), (5, .rp (.box (ruC r)) 0 0), (2, .int .i64 N), (3, zB9 l), (4, iN i), (11, .int .i64 (1 + p.turn)), (87, zBC ms), (88, iN ms.length), (89, iN j), (15, iN j), (16, .rp (.box (mvC a)) 0 0)] ⟨J, J, J, J, J, J, J, J, J, J, J, trivial⟩ (by kernel_rfl) (by kernel_rfl) J (by decide) J J ?_
  refine zCK J J J (fun _ => zf J J J J J J) ?_
  refine zCK J J J (fun _ => zf J J J J J J) ?_
  refine zCK J J J (fun _ => zf J J J J J J) ?_
  refine pm_v J J J J J J cmk2 ?_
  refine zCK J J J (fun _ => zG J) ?_
  refine zCK J J J (fun _ => zG J) ?_
  refine zCK J J J (fun _ => zh J J J J (by first | (simp only [Nat.zero_add, Int.toNat_natCast, Int.toNat_zero]; exact J) | exact J) (by omega)) ?_
  refine zCK J J J (fun _ => zK J J J J J J) ?_
  refine zCK J J J (fun _ => zAm J J J J) ?_
  refine zCK J J J (fun _ => zG J) ?_
  refine zCK J J J (fun _ => zh J J J J (by first | (simp only [Nat.zero_add, Int.toNat_natCast, Int.toNat_zero]; exact J) | exact J) (by omega)) ?_
  refine zCK J J J (fun _ => zBZ J J J) ?_
  refine zFo (j := 0) J J J (by kernel_rfl) J J J J J ?_
  refine zDc (j := 1) (poC s) J J J (by kernel_rfl) J J J J J J J J ?_
  refine zCK J J J (fun _ => zO J) ?_
  refine zHK ?_
  refine zW (by kernel_rfl) ?_
  refine zBA ?_
  refine zB0 17 [(12, .rp (.box (poC Q)) 0 0), (5, .rp (.box (ruC r)) 0 0), (2, .int .i64 N), (3, zB9 l), (4, iN i), (11, .int .i64 (1 + p.turn)), (87, zBC ms), (88, iN ms.length), (89, iN j), (18, .int .i64 ((l.getD i zBD).2.getD j 0))] J ⟨J, J, J, J, J, J, J, J, J, J, J, trivial⟩ ⟨J, J, J, J, J, J, J, J, J, J, trivial⟩ J hfix ?_
  rw [hnx]
  have cres2 := zCH r hv s ha2
  generalize hto : st.2.getD j 0 = to at *
  have hlk : zEu r (zBI r l k') (1 + p.turn) Q i (a, to) = if zp r s = 1 + p.turn then decide (to = -1) else if zp r s = 0 then decide ((i : Int) < to) && zBI r l k' s to else false := by
   rw [zEu, hSS]
  have ihs := ih s ha2 to
  rw [← e3] at ihs
  generalize hpv : zBI r l k' s to = pv at hlk ihs
  refine rn6 ?_
  refine zP J J J cres2 ?_
  refine rn4 ?_
  refine zF J (fun w1 => ?_) (fun w1 => ?_)
  ·rw [if_pos w1] at hlk
   refine rn3 ?_
   refine zF J (fun w2 => ?_) (fun w2 => ?_)
   ·rw [decide_eq_false w2] at hlk
    rw [hp, hrest, hno hlk] at hR
    refine rn6 ?_
    exact zL hR J J
   ·rw [decide_eq_true (Classical.not_not.1 w2)] at hlk
    refine rn5 ?_
    exact zR ⟨j + 1, ⟨by omega, by rw [hst2, hlk]⟩, by omega, ⟨J, J, J, J, J, J, J, J, J, trivial⟩, J⟩
  rw [if_neg w1] at hlk
  refine rn4 ?_
  refine zF J (fun w2 => ?_) (fun w2 => ?_)
  ·rw [if_pos w2] at hlk
   refine rn8 ?_
   refine zo J J (fun w3 => ?_) (fun w3 => ?_)
   ·rw [decide_eq_false (by omega), Bool.false_and] at hlk
    rw [hp, hrest, hno hlk] at hR
    refine rn6 ?_
    exact zL hR J J
   ·rw [decide_eq_true (by omega), Bool.true_and] at hlk
    refine zFu ?_
    refine zP J J J ihs ?_
    cases pv with
    | true =>
     refine rn5 ?_
     exact zR ⟨j + 1, ⟨by omega, by rw [hst2, hlk]⟩, by omega, ⟨J, J, J, J, J, J, J, J, J, trivial⟩, J⟩
    | false =>
     rw [hp, hrest, hno hlk] at hR
     refine rn6 ?_
     exact zL hR J J
  ·rw [if_neg w2] at hlk
   rw [hp, hrest, hno hlk] at hR
   refine rn6 ?_
   exact zL hR J J
 ·have hj' : j = ms.length := by omega
  subst hj'
  rw [List.take_of_length_le (by omega)] at hall2
  rw [hp, hrest, hall2] at hR
  refine rn5 ?_
  exact zL hR J J
theorem zKI (r : Go.Ax.Gm.Rules) (hv : ValidR r) (l : List zBg) (hl : l.length ≤ 256) (hL : ∀ i, (l.getD i zBD).2.length ≤ 1000000) : ∀ (k : Nat) (hk : k ≤ 100) (p : Pos) (S : Sound r p) (j : Int), zl Tryz.prog 74 [ruA r, poA p, .int .i64 (zCh k), zB9 l, .int .i64 j] (.bool (zBI r l k p j))
 | 0, hk, p, S, j => zH8 r hv l hl hL 0 (.inl rfl) hk p S j
 | k + 1, hk, p, S, j => zH8 r hv l hl hL (k + 1) (.inr ⟨k, rfl, fun p S j => zKI r hv l hl hL k (by omega) p S j⟩) hk p S j
/-- puzzle.Verify -/
theorem zHu (r : Go.Ax.Gm.Rules) (hr : Lens r) (p : Pos) (hp : LenP p) (n : Int) (l : List zBg) (hl : l.length ≤ 1000000) (hL : ∀ i, (l.getD i zBD).2.length ≤ 1000000) : zl Tryz.prog 43 [ruA r, poA p, .int .i64 n, zB9 l] (.int .i64 (zDF r p n l)) := by
 refine zd.value0 (zN (P := Tryz.prog) (fn := Tryz.f43) J J (by kernel_rfl) J (fun c hR hfix => ?_)) (fix := fun _ => False) (fun _ h => h) J J
 have hE : zDF r p n l = if zAC r p n ≠ 0 then zAC r p n else if 256 < l.length then 2 else if zBI r l (zBy n) p 0 = false then 16 else 0 := rfl
 refine rn6 ?_
 refine zP J J J (zF6 r hr p hp n) ?_
 refine rn3 ?_
 refine zF J (fun q => ?_) (fun q => ?_)
 ·have q : zAC r p n ≠ 0 := q
  rw [if_pos q] at hE
  rw [hE] at hR
  refine rn2 ?_
  exact zL hR J J
 have q : zAC r p n = 0 := Classical.not_not.1 q
 rw [if_neg (fun d => d q)] at hE
 obtain ⟨k, e, hc⟩ := zFa q
 refine rn6 ?_
 refine zF J (fun q2 => ?_) (fun q2 => ?_)
 ·rw [if_pos (by omega)] at hE
  rw [hE] at hR
  refine rn2 ?_
  exact zL hR J J
 rw [if_neg (by omega)] at hE
 have cp := zKI r hc.v l (by omega) hL k (Nat.le_trans hc.k2 (by omega)) p hc.S 0
 have e3 : zCh k = n := e.symm
 have e4 : zBy n = k := by rw [e, zHC]
 rw [e3] at cp
 rw [e4] at hE
 generalize zBI r l k p 0 = b at hE cp
 refine rn6 ?_
 refine zP J J J cp ?_
 refine rn5 ?_
 cases b with
 | false =>
  rw [if_pos rfl] at hE
  rw [hE] at hR
  refine rn5 ?_
  exact zL hR J J
 | true =>
  rw [if_neg (by decide)] at hE
  rw [hE] at hR
  refine rn4 ?_
  exact zL hR J J
abbrev zE0 : Mv := ⟨-1, 2, 0⟩
theorem zCR : Lens Go.Ax.Gm.three := ⟨by decide, by decide, by decide, by decide, by decide⟩
theorem zFz : zD8 Go.Ax.Gm.three 1 = 0 ∧ zDX Go.Ax.Gm.three 1 = [zAI Go.Ax.Gm.three] := by
 have e : zD8 Go.Ax.Gm.three 1 = 0 := by
  unfold zD8
  rw [if_neg (fun d => d zCz), if_neg (by decide), zOY]
 refine ⟨e, ?_⟩
 unfold zDX
 rw [if_neg (fun d => d e), zJU]
 show zD9 (zFP Go.Ax.Gm.three (threeL, zJT)) 1 = _
 rw [zOZ, zJi]
theorem equalW : zl Tryz.prog 27 [zBC [zE0], .ro (zGT 1 3 [.int .i64 (-1), .int .i64 2, .int .i64 0]) 0 1] (.bool true) := fun H =>
 zd.args (equalMv [zE0] [zE0] (by decide) (by decide) H) ⟨AEq.rfl', AEq.ro rfl (fun d j hd hj => by
  have hd : d < 1 := hd
  obtain rfl : d = 0 := by omega
  have hj : j < 3 := hj
  match j, hj with
  | 0, _ => rfl
  | 1, _ => rfl
  | 2, _ => rfl), trivial⟩
/-- puzzleFact -/
theorem zLt : zl Tryz.prog 34 [] (.bool true) := by
 refine zd.value0 (zN (P := Tryz.prog) (fn := Tryz.f34) J J (by kernel_rfl) J (fun c hR hfix => ?_)) (fix := fun _ => False) (fun _ h => h) J J
 have hl1 : ([(zE0, [])] : List zBg).length = 1 := rfl
 have hl : LenP (zAI Go.Ax.Gm.three) := (zBT three_checked.v three_checked.S).len
 have cw := zF4 Go.Ax.Gm.three zCR (zAI Go.Ax.Gm.three) hl 1
 rw [zM1, zCU] at cw
 have cl := least_ok Go.Ax.Gm.three zCR (zAI Go.Ax.Gm.three) hl
 rw [zMC] at cl
 have cs := zKN Go.Ax.Gm.three zCR (zAI Go.Ax.Gm.three) hl 1
 rw [zHR.1, zHR.2] at cs
 have co := zID Go.Ax.Gm.three zCR (zAI Go.Ax.Gm.three) hl 1
 rw [zIJ.1, zIJ.2] at co
 have cc := zMS Go.Ax.Gm.three zCR 1
 rw [zFz.1, zFz.2] at cc
 have cv := zHu Go.Ax.Gm.three zCR (zAI Go.Ax.Gm.three) hl 1 [(zE0, [])] (by decide) (fun i => by
  match i with
  | 0 => exact Nat.zero_le _
  | i + 1 => exact Nat.zero_le _)
 rw [zK4] at cv
 have cn := zHu Go.Ax.Gm.three zCR (zAI Go.Ax.Gm.three) hl 1 [] (by decide) (fun i => Nat.zero_le _)
 rw [zMA] at cn
 have cn : zl Tryz.prog 43 [ruA Go.Ax.Gm.three, poA (zAI Go.Ax.Gm.three), .int .i64 1, .nil] (.int .i64 16) := fun H => zd.args (cn H) ⟨AEq.rfl', AEq.rfl', AEq.rfl', AEq.nil, trivial⟩
 have ck := zF6 Go.Ax.Gm.three zCR (zAI Go.Ax.Gm.three) hl 2
 rw [zK3] at ck
 refine rn0 ?_
 refine zP J J J zCy ?_
 skip
 refine zP J J J zED ?_
 skip
 refine zP J J J cw ?_
 refine rn2 ?_
 refine zP J J J zCy ?_
 skip
 refine zP J J J zED ?_
 skip
 refine zP J J J cl ?_
 refine rn2 ?_
 refine zP J J J zCy ?_
 skip
 refine zP J J J zED ?_
 skip
 refine zP J J J cs ?_
 refine rn4 ?_
 refine zb (mvC zE0) J J J J J J J ?_
 refine rn0 ?_
 refine zP J J J zCy ?_
 skip
 refine zP J J J zED ?_
 skip
 refine zP J J J co ?_
 refine rn2 ?_
 refine zP J J J zCy ?_
 skip
 refine zP J J J cc ?_
 refine rn9 ?_
 refine zb (mvC zE0) J J J J J J J ?_
 refine rn0 ?_
 refine zCn 5 11 [(1, zBC [zE0]), (2, .int .i64 0), (3, .int .i64 1), (4, .int .i64 0), (6, .int .i64 0), (7, zB9 [(zE0, [])]), (8, .int .i64 0), (9, .ro (zCD [zAI Go.Ax.Gm.three]) 0 1), (10, .int .i64 0)] J J J J ⟨J, J, J, J, J, J, J, J, J, trivial⟩ ⟨J, J, J, J, J, J, J, J, J, J, J, trivial⟩ J hfix ?_
 refine ze (by kernel_rfl) ?_
 refine zm (fuel := 0) [0, 1, 2, 3, 4, 5, 6, 7, 8, 9, 10, 11, 12, 13, 14, 15, 16, 17, 18, 19, 20, 21, 22, 23, 24, 25, 26, 27, 28, 29, 30, 31, 32, 33, 34, 35, 36, 37, 38, 39, 40, 41, 42, 43, 44, 45, 46, 47, 48, 49, 50, 51, 52, 53, 54, 55, 56, 57, 58, 59] [(5, .rp (.box (mvC zE0)) 0 0), (11, .rp (.box (mvC zE0)) 0 0), (1, zBC [zE0]), (2, .int .i64 0), (3, .int .i64 1), (4, .int .i64 0), (6, .int .i64 0), (7, zB9 [(zE0, [])]), (8, .int .i64 0), (9, .ro (zCD [zAI Go.Ax.Gm.three]) 0 1), (10, .int .i64 0)] ⟨J, J, J, J, J, J, J, J, J, J, J, trivial⟩ (by kernel_rfl) (by decide) J J ?_
 refine zI J J (zG J) ?_
 refine zI J J (zG J) ?_
 refine zI J J (zG J) ?_
 refine zI J J (zG J) ?_
 refine zI J J (zG J) ?_
 refine px_b J J J J J J J J J J J J J ?_
 refine zCL J J J J J (fineI [0, 0, 0, 0, 0] (by decide)) ?_
 refine zI J J (zG J) ?_
 refine zi J J J J (zG J) ?_
 refine zi J J J J (zf J J J J J J) ?_
 refine px_gb J J J J J J J J J J J J J J J ?_
 refine zBb J J J J J J J equalW ?_
 refine zI J J (zg J J) ?_
 refine zI J J (zG J) ?_
 refine zi J J J J (zG J) ?_
 refine zi J J J J (zBR J J) ?_
 refine zI J J (zg J J) ?_
 refine zI J J (zG J) ?_
 refine zi J J J J (zf J J J J J J) ?_
 refine zi J J J J (zf J J J J J J) ?_
 refine zi J J J J (zEM J J J (by kernel_rfl) (by kernel_rfl) (by kernel_rfl) J) ?_
 refine zI J J (zg J J) ?_
 refine zI J J (zG J) ?_
 refine zi J J J J (zG J) ?_
 refine zi J J J J (zAx J J J) ?_
 refine zi J J J J (zBR J J) ?_
 refine zI J J (zg J J) ?_
 refine zI J J (zG J) ?_
 refine zi J J J J (zG J) ?_
 refine zi J J J J (zh J J J J (by first | (simp only [Nat.zero_add, Int.toNat_natCast, Int.toNat_zero]; exact J) | exact J) (by omega)) ?_
 refine zi J J J J (zK J J J J J J) ?_
 refine zi J J J J (zCi J J J J J J) ?_
 refine zi J J J J (zf J J J J J J) ?_
 refine zi J J J J (zEM J J J (by kernel_rfl) (by kernel_rfl) (by kernel_rfl) J) ?_
 refine zI J J (zg J J) ?_
 refine zI J J (zG J) ?_
 refine zi J J J J (zG J) ?_
 refine zi J J J J (zAx J J J) ?_
 refine zi J J J J (zBR J J) ?_
 refine zI J J (zg J J) ?_
 refine zI J J (zG J) ?_
 refine zBb J J J J J J J zCy ?_
 refine zBb J J J J J J J zED ?_
 refine zi J J J J (zG J) ?_
 refine zBb J J J J J J J cv ?_
 refine zi J J J J (zBR J J) ?_
 refine zI J J (zg J J) ?_
 refine zI J J (zG J) ?_
 refine zBb J J J J J J J zCy ?_
 refine zBb J J J J J J J zED ?_
 refine zBb J J J J J J J cn ?_
 refine zi J J J J (zBR J J) ?_
 refine zI J J (zg J J) ?_
 refine zI J J (zG J) ?_
 refine zBb J J J J J J J zCy ?_
 refine zBb J J J J J J J zED ?_
 refine zBb J J J J J J J ck ?_
 refine zi J J J J (zBR J J) ?_
 refine zI J J (zg J J) ?_
 refine zI J J (zO J) ?_
 refine zu ?_
 refine zW (by kernel_rfl) ?_
 refine rn0 ?_
 exact zL hR J J
end Go.Proofs.YtiifcejepaeepaaGreatDoor
namespace Go.Proofs.YtiifcejepaeepaaGreatDoor
open Go.Ax Go.Ax.Idx
attribute [local irreducible] Ax zCM QOp zd
end Go.Proofs.YtiifcejepaeepaaGreatDoor
namespace Go.Proofs.YtiifcejepaeepaaGreatDoor
open Go.Ax Go.Ax.Gm Go.RowKit Go.Ax.Idx Go.Ax.Cd
attribute [local irreducible] Ax zCM QOp zd
theorem winsL_no {r : Go.Ax.Gm.Rules} {p : Pos} {n : Int} (h : zAC r p n ≠ 0) : zC1 r p n = [] := by unfold zC1; rw [if_pos h]
theorem zMv {r : Go.Ax.Gm.Rules} {p : Pos} {n : Int} (h : zAC r p n ≠ 0) : zDT r p n = zAC r p n := by unfold zDT; rw [if_pos h]
theorem zKO {r : Go.Ax.Gm.Rules} {p : Pos} {n : Int} (h : zAC r p n ≠ 0) : zEm r p n = zAC r p n := by unfold zEm; rw [if_pos h]
theorem zOM {r : Go.Ax.Gm.Rules} {p : Pos} {n : Int} (h : zAC r p n ≠ 0) : zGr r p n = [] := by unfold zGr; rw [if_pos (by rw [zKO h]; exact h)]
theorem zM2 {r : Go.Ax.Gm.Rules} {p : Pos} {n : Int} {l : List zBg} (h : zAC r p n ≠ 0) : zDF r p n l = zAC r p n := by unfold zDF; rw [if_pos h]
theorem zMG {r : Go.Ax.Gm.Rules} {p : Pos} {n : Int} (h : zAC r p n = 0) : zDF r p n [] = 16 := by
 unfold zDF
 rw [if_neg (fun d => d h), if_neg (by decide), if_pos]
 rw [zEx, if_pos (.inr (.inl (by decide)))]
theorem zM3 (r : Go.Ax.Gm.Rules) (hr : Lens r) (p : Pos) (hp : LenP p) (n : Int) : zl Tryz.prog 43 [ruA r, poA p, .int .i64 n, .nil] (.int .i64 (zDF r p n [])) := fun H =>
 zd.args (zHu r hr p hp n [] (by decide) (fun i => Nat.zero_le _) H) ⟨AEq.rfl', AEq.rfl', AEq.rfl', AEq.nil, trivial⟩
/-- PuzzleChecks -/
theorem zHX (r : Go.Ax.Gm.Rules) (p : Pos) (n : Int) (hr : Lens r) (hp : LenP p) : zl Tryz.prog 11 [ruA r, poA p, .int .i64 n] (.bool true) := by
 refine zd.value0 (zN (P := Tryz.prog) (fn := Tryz.f11) J J (by kernel_rfl) J (fun c hR hfix => ?_)) (fix := fun _ => False) (fun _ h => h) J J
 obtain ⟨m, hm⟩ : ∃ m : Int, (if n > 3 then 7 else n) = m := ⟨_, rfl⟩
 have hm5 : m = 7 ∨ m ≤ 3 := by
  rw [← hm]; split
  ·exact .inl J
  ·exact .inr (by omega)
 have cl := light_ok r hr p hp
 generalize zMa r p = lb at cl
 refine zY ?_
 repeat (first | refine zA (zO rfl) ?_ | refine zC ?_ | refine zB ?_ | refine zJ rfl ?_ | refine zAO rfl rfl ?_)
 refine zCn 3 4 [(2, .int .i64 n)] J J J J ⟨J, trivial⟩ ⟨J, J, J, trivial⟩ J hfix ?_
 refine rn0 ?_
 refine zP J J J zLt ?_
 refine rn6 ?_
 refine zP J J J cl ?_
 cases lb with
 | false =>
  refine rn5 ?_
  exact zL hR J J
 | true =>
 refine rn6 ?_
 apply zAJ (H := []) [(3, .rp (.box (ruC r)) 0 0), (4, .rp (.box (poC p)) 0 0), (2, .int .i64 m)]
 ·intro fin
  refine zF J (fun t1 => ?_) (fun t1 => ?_)
  ·repeat (first | refine zA (zO rfl) ?_ | refine zC ?_ | refine zB ?_ | refine zJ rfl ?_)
   exact fin _ ⟨J, J, by rw [← hm, if_pos t1]; rfl, trivial⟩
  ·refine zFt ?_
   exact fin _ ⟨J, J, by rw [← hm, if_neg t1]; rfl, trivial⟩
 have c1 := zF6 r hr p hp m
 have c2 := zF4 r hr p hp m
 have c3 := zKN r hr p hp m
 have c4 := zID r hr p hp m
 have c5 := zM3 r hr p hp m
 by_cases he : zAC r p m = 0
 ·obtain ⟨k, e1, hc⟩ := zFa he
  have hk : k = 0 ∨ k = 1 := by have := hc.k2; omega
  have c6 := endOf_ok r hr p hp
  have hpz : zAp r p = 0 := zGi hc.z hc.S
  rw [hpz, if_neg (fun d => d rfl), hc.o] at c6
  rw [he] at c1 c2
  rw [zMG he] at c5
  have hwl := zGO r p m
  generalize zC1 r p m = wl at c2 hwl
  generalize zDT r p m = sE at c3
  generalize zGL r p m = sM at c3
  generalize zEm r p m = oE at c4
  generalize zGr r p m = oL at c4
  have hm1 : m = 1 ∨ m = 3 := by omega
  clear e1 he hm hm5
  refine rn6 ?_
  refine zP J J J c1 ?_
  refine rn6 ?_
  refine zP J J J c2 ?_
  refine rn6 ?_
  refine zP J J J c3 ?_
  refine rn4 ?_
  refine zb (mvC sM) J J J J J J J ?_
  refine rn6 ?_
  refine zP J J J c4 ?_
  refine rn6 ?_
  refine zP J J J c5 ?_
  rcases hm1 with rfl | rfl
  ·refine rn6 ?_
   refine zP J J J c6 ?_
   refine rn6 ?_
   exact zL hR J J
  ·refine rn6 ?_
   refine zP J J J c6 ?_
   refine rn4 ?_
   exact zL hR J J
 ·rw [winsL_no he] at c2
  rw [zMv he] at c3
  rw [zKO he, zOM he] at c4
  rw [zM2 he] at c5
  generalize zAC r p m = e at c1 c2 c3 c4 c5 he
  have z1 : ([] : List Mv).length = 0 := rfl
  have z2 : ([] : List zBg).length = 0 := rfl
  generalize zGL r p m = sM at c3
  refine rn6 ?_
  refine zP J J J c1 ?_
  refine rn6 ?_
  refine zP J J J c2 ?_
  refine rn6 ?_
  refine zP J J J c3 ?_
  refine rn4 ?_
  refine zb (mvC sM) J J J J J J J ?_
  refine rn6 ?_
  refine zP J J J c4 ?_
  refine rn6 ?_
  refine zP J J J c5 ?_
  refine rn3 ?_
  refine zF J (fun q => ?_) (fun q => ?_)
  rotate_left
  ·exact absurd he q
  refine rn4 ?_
  rw [decide_eq_true (rfl : e = e)]
  refine rn4 ?_
  rw [decide_eq_true (rfl : e = e)]
  refine rn4 ?_
  rw [decide_eq_true (rfl : e = e)]
  refine rn4 ?_
  rw [decide_eq_true (rfl : e = e)]
  refine rn4 ?_
  exact zL hR J J
end Go.Proofs.YtiifcejepaeepaaGreatDoor
namespace Go.Proofs.YtiifcejepaeepaaGreatDoor
open Go.Ax Go.Ax.Gm Go.RowKit
theorem rdWay {H : Type} {enc : TypeId × Value → H} {W : World} : Rd enc Tryz.prog W 143 4 zF3 (fun _ => True) :=
 (Rd.struct Tryz.underlying143 (by kernel_rfl) (RdF.cons rfl rfl (Rd.int Tryz.underlying3) (RdF.cons rfl rfl (Rd.int Tryz.underlying3) (RdF.cons rfl rfl (Rd.int Tryz.underlying3) (RdF.cons rfl rfl (Rd.int Tryz.underlying3) RdF.nil))))).map
  (fun a => (⟨a.1, a.2.1, a.2.2.1, a.2.2.2.1⟩ : Go.Ax.Gm.Way)) (fun a h => trivial) (fun a => rfl) (fun a i hi => AEq.rfl')
theorem rdPc {H : Type} {enc : TypeId × Value → H} {W : World} : Rd enc Tryz.prog W 114 4 pcC (fun p => p.ways.length ≤ 9223372036854775807) :=
 (Rd.struct Tryz.underlying114 (by kernel_rfl) (RdF.cons rfl rfl (Rd.int Tryz.underlying5) (RdF.cons rfl rfl (Rd.int Tryz.underlying3) (RdF.cons rfl rfl (Rd.int Tryz.underlying3) (RdF.cons rfl rfl (Rd.slice way0 Tryz.underlying112 (by kernel_rfl) rfl rdWay) RdF.nil))))).map
  (fun a => (⟨a.1, a.2.1, a.2.2.1, a.2.2.2.1⟩ : Go.Ax.Gm.Pc)) (fun a h => h.2.2.2.1.1) (fun a => rfl) (fun a i hi => AEq.rfl')
theorem rdEn {H : Type} {enc : TypeId × Value → H} {W : World} : Rd enc Tryz.prog W 132 4 enC (fun _ => True) :=
 (Rd.struct Tryz.underlying132 (by kernel_rfl) (RdF.cons rfl rfl (Rd.int Tryz.underlying3) (RdF.cons rfl rfl (Rd.int Tryz.underlying3) (RdF.cons rfl rfl (Rd.int Tryz.underlying3) (RdF.cons rfl rfl (Rd.bool Tryz.underlying4) RdF.nil))))).map
  (fun a => (⟨a.1, a.2.1, a.2.2.1, a.2.2.2.1⟩ : Go.Ax.Gm.En)) (fun a h => trivial) (fun a => rfl) (fun a i hi => AEq.rfl')
theorem rdRules {H : Type} {enc : TypeId × Value → H} {W : World} : Rd enc Tryz.prog W 26 11 ruC Lens :=
 (Rd.struct Tryz.underlying26 (by kernel_rfl) (RdF.cons rfl rfl (Rd.str Tryz.underlying9) (RdF.cons rfl rfl (Rd.int Tryz.underlying3) (RdF.cons rfl rfl (Rd.int Tryz.underlying3) (RdF.cons rfl rfl (Rd.slice pc0 Tryz.underlying22 (by kernel_rfl) rfl rdPc) (RdF.cons rfl rfl (Rd.ints Tryz.underlying23 (by kernel_rfl) Tryz.underlying3) (RdF.cons rfl rfl (Rd.bool Tryz.underlying4) (RdF.cons rfl rfl (Rd.bool Tryz.underlying4) (RdF.cons rfl rfl (Rd.slice en0 Tryz.underlying24 (by kernel_rfl) rfl rdEn) (RdF.cons rfl rfl (Rd.int Tryz.underlying3) (RdF.cons rfl rfl (Rd.int Tryz.underlying3) (RdF.cons rfl rfl (Rd.int Tryz.underlying3) RdF.nil)))))))))))).map
  (fun a => (⟨a.1, a.2.1, a.2.2.1, a.2.2.2.1, a.2.2.2.2.1, a.2.2.2.2.2.1, a.2.2.2.2.2.2.1, a.2.2.2.2.2.2.2.1, a.2.2.2.2.2.2.2.2.1, a.2.2.2.2.2.2.2.2.2.1, a.2.2.2.2.2.2.2.2.2.2.1⟩ : Go.Ax.Gm.Rules))
  (fun a h => ⟨h.1, h.2.2.2.1.1, h.2.2.2.1.2, h.2.2.2.2.1.1, h.2.2.2.2.2.2.2.1.1⟩) (fun a => rfl) (fun a i hi => AEq.rfl')
theorem rdPos {H : Type} {enc : TypeId × Value → H} {W : World} : Rd enc Tryz.prog W 35 5 poC LenP :=
 (Rd.struct Tryz.underlying35 (by kernel_rfl) (RdF.cons rfl rfl (Rd.ints Tryz.underlying23 (by kernel_rfl) Tryz.underlying3) (RdF.cons rfl rfl (Rd.arr2 Tryz.underlying33 (by kernel_rfl) (by kernel_rfl) (Rd.ints Tryz.underlying23 (by kernel_rfl) Tryz.underlying3)) (RdF.cons rfl rfl (Rd.int Tryz.underlying3) (RdF.cons rfl rfl (Rd.int Tryz.underlying3) RdF.nil))))).map
  (fun a => (⟨a.1, a.2.1.1, a.2.1.2, a.2.2.1, a.2.2.2.1⟩ : Go.Ax.Gm.Pos)) (fun a h => ⟨h.1.1, h.2.1.1.1, h.2.1.2.1⟩) (fun a => rfl) (fun a i hi => AEq.rfl')
end Go.Proofs.YtiifcejepaeepaaGreatDoor
