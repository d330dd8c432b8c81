import Derived.Laws.Bits64
import Derived.Test.YtiifcejepaeepaaGreatDoorY6
set_option linter.unusedVariables false
set_option linter.unusedSimpArgs false
set_option maxRecDepth 100000
set_option maxHeartbeats 4000000
namespace Go.Proofs.YtiifcejepaeepaaGreatDoor
open Go.Ax Go.Ax.Gm Go.RowKit Go.Ax.Idx Go.Ax.Cd
attribute [local irreducible] Ax zCT QOp zb
def zCV (T : Tab) (i : Nat) (ms : List Mv) (k : Nat) : List Mv := ((List.range k).filter (fun k => decide (zBN T ((T.nx.getD i []).getD k 0) = zDZ (zBN T i)))).map (fun k => ms.getD k mv0)
theorem zL1 (T : Tab) (i : Nat) (ms : List Mv) (k : Nat) : zCV T i ms (k + 1) = if zBN T ((T.nx.getD i []).getD k 0) = zDZ (zBN T i) then zCV T i ms k ++ [ms.getD k mv0] else zCV T i ms k := by
 unfold zCV
 rw [List.range_succ, List.filter_append, List.map_append]
 by_cases h : zBN T ((T.nx.getD i []).getD k 0) = zDZ (zBN T i)
 ·rw [if_pos h, List.filter_cons_of_pos (p := fun k => decide (zBN T ((T.nx.getD i []).getD k 0) = zDZ (zBN T i))) (decide_eq_true h)]; rfl
 ·rw [if_neg h, List.filter_cons_of_neg (p := fun k => decide (zBN T ((T.nx.getD i []).getD k 0) = zDZ (zBN T i))) (by rw [decide_eq_true_eq]; exact h)]; simp
theorem zI6 (T : Tab) (i : Nat) (ms : List Mv) (k : Nat) : (zCV T i ms k).length ≤ k := by
 unfold zCV
 rw [List.length_map]
 exact Nat.le_trans (List.length_filter_le ..) (by rw [List.length_range]; exact Nat.le_refl _)
theorem mapI_get (l : List Nat) (k : Nat) : (l.map Int.ofNat).getD k 0 = ((l.getD k 0 : Nat) : Int) := by
 rw [List.getD, List.getElem?_map, List.getD]
 cases l[k]? <;> rfl
theorem zN7 {T : Tab} {p : Pos} (h : zCX T p = 0) : zAs T.r p = 0 ∧ zAu T.l p < T.l.length := by
 unfold zCX at h
 split at h
 ·rename_i h1; exact absurd h h1
 ·rename_i h1
  split at h
  ·exact ⟨Classical.not_not.1 h1, by assumption⟩
  ·cases h
theorem next_lt {T : Tab} (h : TabOK T) {i k : Nat} (hi : i < T.l.length) (hk : k < (z8 T.r (T.l.getD i zu)).length) : k < (T.nx.getD i []).length ∧ (T.nx.getD i []).getD k 0 < T.l.length := by
 have := h.G.nxl i hi
 exact ⟨by omega, (h.G.nxt i hi k hk).1⟩
theorem zN5 (x y : Ent) : (decide (x.1 = y.1) && (decide (x.2 = y.2) && true)) = decide (x = y) := by
 by_cases h : x = y
 ·subst h; simp
 ·rw [decide_eq_false h]
  by_cases h1 : x.1 = y.1
  ·rw [decide_eq_true h1, decide_eq_false (fun q => h (Prod.ext h1 q))]; rfl
  ·rw [decide_eq_false h1]; rfl
/-- (*retro.Table).Best -/
theorem best_ok (T : Tab) (h : TabOK T) (hr : Lens T.r) (p : Pos) (hp : LenP p) : zj Tryz.prog 26 [zD4 T, poA p] (.tup [zAy (zC8 T p), .int .i64 (zEj T p)]) := by
 refine zb.value0 (zM (P := Tryz.prog) (fn := Tryz.f26) rfl rfl (by kernel_rfl) rfl (fun c hR hfix => ?_)) (fix := fun _ => False) (fun _ h => h) rfl rfl
 have hEl := h.len
 have hmost := h.G.most
 refine zZ ?_
 repeat (first | refine zA (zP rfl) ?_ | refine zC ?_ | refine zB ?_ | refine zK rfl ?_ | refine zAQ rfl rfl ?_)
 refine zB1 3 [(0, zD4 T)] rfl ⟨rfl, rfl, trivial⟩ ⟨rfl, trivial⟩ rfl hfix ?_
 refine rn6 ?_
 refine zN rfl rfl rfl (find_ok T h hr p hp) ?_
 refine rn3 ?_
 refine zD rfl (fun q => ?_) (fun q => ?_)
 ·have q : zCX T p ≠ 0 := q
  have e : zEj T p = zCX T p := by unfold zEj; rw [if_pos q]
  have e2 : zC8 T p = [] := by unfold zC8; rw [e, if_pos q]
  rw [e, e2] at hR
  refine rn7 ?_
  refine zBM 4 (zAy []) rfl AEq.nil ?_
  refine rn2 ?_
  exact zJ hR rfl rfl
 have q2 : zCX T p = 0 := Classical.not_not.1 q
 obtain ⟨hz, hi⟩ := zN7 q2
 have eb : zEj T p = if (zDg T p).length = 0 then 14 else 0 := by unfold zEj; rw [if_neg q]
 have ebl : zEj T p = 0 → zC8 T p = zCV T (zAu T.l p) (zDg T p) (zDg T p).length := fun e => by unfold zC8; rw [if_neg (fun c => c e)]; rfl
 rw [if_neg q]
 have hmt : zDg T p = z8 T.r (T.l.getD (zAu T.l p) zu) := rfl
 have S := (h.sound hi).1
 have hml := zEI h.v S
 have hnx := fun k => next_lt h (k := k) hi
 have hpl := h.plies hi
 have hpu := h.plies_le hi
 have hnlen : T.nx.length = T.l.length := h.G.len
 rw [← hmt] at hml
 simp only [← hmt] at hnx
 have cm := zEl T.r h.v (T.l.getD (zAu T.l p) zu) S
 rw [← hmt] at cm
 generalize hix : zAu T.l p = ix at hi hml hnx hpl hpu ebl cm
 generalize hms : zDg T p = ms at hml hnx eb ebl cm
 refine rn1 ?_
 refine zg (by kernel_rfl) ?_
 refine zq (fuel := 0) [0, 1, 2, 3, 4, 5, 6, 7, 8, 9, 10, 11, 12] [(0, zD4 T), (6, iN ix)] ⟨rfl, rfl, trivial⟩ (by kernel_rfl) (by decide) rfl rfl ?_
 refine zI rfl rfl (zG rfl) ?_
 refine zI rfl rfl (zAZ rfl) ?_
 refine zI rfl rfl (zL rfl rfl rfl rfl rfl rfl) ?_
 refine zI rfl rfl (zCv rfl rfl rfl rfl rfl rfl) ?_
 refine zI rfl rfl (zG rfl) ?_
 refine zI rfl rfl (zAZ rfl) ?_
 refine zI rfl rfl (zL rfl rfl rfl rfl rfl rfl) ?_
 refine zI rfl rfl (zF rfl rfl rfl rfl) ?_
 refine zI rfl rfl (zG rfl) ?_
 refine zI rfl rfl (zi rfl rfl rfl rfl (by first | (simp only [Nat.zero_add, Int.toNat_natCast, Int.toNat_zero]; exact rfl) | exact rfl) (by omega)) ?_
 refine zI rfl rfl (zf rfl rfl rfl rfl rfl rfl) ?_
 refine zCS rfl rfl rfl rfl rfl cm ?_
 refine zI rfl rfl (zP rfl) ?_
 refine z7 ?_
 refine zX (by kernel_rfl) ?_
 refine rn4 ?_
 refine zD rfl (fun z => ?_) (fun z => ?_)
 ·rw [if_pos (by omega)] at eb
  have e2 : zC8 T p = [] := by unfold zC8; rw [eb, if_pos (by decide)]
  rw [eb, e2] at hR
  refine rn7 ?_
  refine zBM 4 (zAy []) rfl AEq.nil ?_
  refine rn2 ?_
  exact zJ hR rfl rfl
 rw [if_neg (by omega)] at eb
 have ebl := ebl eb
 rw [eb, ebl] at hR
 repeat (first | refine zA (zG rfl) ?_ | refine zB ?_ | refine zZ ?_ | refine zK rfl ?_ | refine zAO ?_ | refine zA (zi rfl rfl rfl rfl (by first | (simp only [Nat.zero_add, Int.toNat_natCast, Int.toNat_zero]; exact rfl) | exact rfl) (by omega)) ?_ | refine zA (zF rfl rfl rfl rfl) ?_ | refine zA (zAZ rfl) ?_ | refine zA (zL rfl rfl rfl rfl rfl rfl) ?_ | refine zA (zf rfl rfl rfl rfl rfl rfl) ?_ | refine zAG rfl rfl rfl ?_)
 refine zd (zC7 (zBN T ix)) rfl rfl rfl rfl rfl rfl rfl ?_
 repeat (first | refine zC ?_ | refine zB ?_ | refine zZ ?_ | refine zK rfl ?_ | refine zA (zV rfl rfl rfl rfl rfl) ?_ | refine zA (zBj rfl rfl) ?_ | refine zA (zO rfl rfl rfl rfl rfl rfl) ?_)
 apply zAP (H := [some ⟨37, .box (zC7 (zDZ (zBN T ix)))⟩]) [(0, zD4 T), (6, iN ix), (8, zAy ms), (9, .ptr 0 0 0)]
 ·intro fin
  refine zD rfl (fun d => ?_) (fun d => ?_)
  ·have d : (zBN T ix).1 ≠ 3 := d
   have ew : zDZ (zBN T ix) = ((zBN T ix).1, (zBN T ix).2 - 1) := by unfold zDZ; rw [if_pos d]
   rw [ew] at fin
   repeat (first | refine zC ?_ | refine zB ?_ | refine zK rfl ?_ | refine zA (zV rfl rfl rfl rfl rfl) ?_ | refine zA (zBR rfl rfl (by omega)) ?_ | refine zA (zO rfl rfl rfl rfl rfl rfl) ?_ | refine zAH rfl rfl rfl rfl rfl rfl rfl Nat.zero_lt_one ?_)
   exact fin _ ⟨rfl, rfl, rfl, rfl, trivial⟩
  ·have d : ¬ (zBN T ix).1 ≠ 3 := d
   have ew : zDZ (zBN T ix) = zBN T ix := by unfold zDZ; rw [if_neg d]
   rw [ew] at fin
   refine zGn ?_
   exact fin _ ⟨rfl, rfl, rfl, rfl, trivial⟩
 refine zB1 9 [(0, zD4 T), (6, iN ix), (8, zAy ms)] rfl ⟨rfl, rfl, rfl, rfl, trivial⟩ ⟨rfl, rfl, rfl, trivial⟩ rfl hfix ?_
 repeat (refine zZ ?_)
 refine zK rfl ?_
 refine zBC ?_
 refine zBp 10 ⟨58, zA2 []⟩ rfl rfl ?_
 refine rn3 ?_
 refine zAA (ι := Nat) (fun k => [(0, zD4 T), (6, iN ix), (8, zAy ms), (9, .rp (.box (zC7 (zDZ (zBN T ix)))) 0 0), (10, .sl 0 0 (zCV T ix ms k).length), (51, zAy ms), (52, iN ms.length), (53, iN k)]) (fun k => [some ⟨58, zA2 (zCV T ix ms k)⟩]) (fun k => k ≤ ms.length) (fun k => ms.length - k) 0 ⟨⟨rfl, rfl, rfl, rfl, rfl, rfl, rfl, rfl, trivial⟩, rfl, Nat.zero_le _⟩ ?_
 intro k hk
 have hbl := zI6 T ix ms k
 refine rn4 ?_
 refine zD rfl (fun g => ?_) (fun g => ?_)
 ·have hk' : k < ms.length := by omega
  obtain ⟨n1, n2⟩ := hnx k hk'
  have hbs := zL1 T ix ms k
  have hgi : ((T.nx.getD ix []).map Int.ofNat).getD k 0 = (((T.nx.getD ix []).getD k 0 : Nat) : Int) := mapI_get _ _
  have hgl : ((T.nx.getD ix []).map Int.ofNat).length = (T.nx.getD ix []).length := List.length_map ..
  generalize hj : (T.nx.getD ix []).getD k 0 = j at n2 hgi hbs
  generalize hmk : ms.getD k mv0 = m at hbs
  refine zFc ?_
  refine rn4 ?_
  refine zd (mvC m) rfl rfl rfl rfl rfl (by rw [← hmk]; rfl) rfl ?_
  refine rn0 ?_
  refine zCU [some ⟨58, zA2 (zCV T ix ms k)⟩] 12 [(0, zD4 T), (6, iN ix), (8, zAy ms), (9, .rp (.box (zC7 (zDZ (zBN T ix)))) 0 0), (10, .sl 0 0 (zCV T ix ms k).length), (51, zAy ms), (52, iN ms.length), (53, iN k), (11, iN k)] rfl rfl ⟨rfl, rfl, rfl, rfl, rfl, rfl, rfl, rfl, rfl, trivial⟩ ⟨rfl, rfl, rfl, rfl, rfl, rfl, rfl, rfl, rfl, rfl, trivial⟩ (zBs (zFE _) zBP) rfl (fun h q => by rw [hfix] at q; exact q.elim) ?_
  refine zg (by kernel_rfl) ?_
  refine zq (fuel := 0) [0, 1, 2, 3, 4, 5, 6, 7, 8, 9, 10, 11, 12, 13, 14, 15, 16, 17] [(12, .rp (.box (mvC m)) 0 0), (0, zD4 T), (6, iN ix), (8, zAy ms), (9, .rp (.box (zC7 (zDZ (zBN T ix)))) 0 0), (10, .sl 0 0 (zCV T ix ms k).length), (51, zAy ms), (52, iN ms.length), (53, iN k), (11, iN k)] ⟨rfl, rfl, rfl, rfl, rfl, rfl, rfl, rfl, rfl, rfl, trivial⟩ (by kernel_rfl) (by decide) rfl rfl ?_
  refine zI rfl rfl (zG rfl) ?_
  refine zI rfl rfl (zAZ rfl) ?_
  refine zI rfl rfl (zL rfl rfl rfl rfl rfl rfl) ?_
  refine zI rfl rfl (zF rfl rfl rfl rfl) ?_
  refine zI rfl rfl (zG rfl) ?_
  refine zI rfl rfl (zAZ rfl) ?_
  refine zI rfl rfl (zL rfl rfl rfl rfl rfl rfl) ?_
  refine zI rfl rfl (zF rfl rfl rfl rfl) ?_
  refine zI rfl rfl (zG rfl) ?_
  refine zI rfl rfl (zi rfl rfl rfl rfl (by first | (simp only [Nat.zero_add, Int.toNat_natCast, Int.toNat_zero]; exact rfl) | exact rfl) (by omega)) ?_
  refine zI rfl rfl (zAt rfl rfl rfl rfl) ?_
  refine zI rfl rfl (zG rfl) ?_
  refine zI rfl rfl (zi rfl rfl rfl rfl (by first | (simp only [Nat.zero_add, Int.toNat_natCast, Int.toNat_zero]; exact rfl) | exact rfl) (by omega)) ?_
  refine zI rfl rfl (zBi rfl rfl rfl) ?_
  rw [hgi]
  refine zI rfl rfl (zi rfl rfl rfl rfl (by first | (simp only [Nat.zero_add, Int.toNat_natCast, Int.toNat_zero]; exact rfl) | exact rfl) (by omega)) ?_
  refine zI rfl rfl (zf rfl rfl rfl rfl rfl rfl) ?_
  refine zI rfl rfl (zf rfl rfl rfl rfl rfl rfl) ?_
  refine zI rfl rfl (zEc rfl rfl rfl (by kernel_rfl) (by kernel_rfl) (by kernel_rfl) rfl) ?_
  refine z7 ?_
  refine zX (by kernel_rfl) ?_
  repeat (refine zB ?_)
  refine zAR (b := decide (zBN T j = zDZ (zBN T ix))) (by rw [← zN5]; rfl) (fun g2 => ?_) (fun g2 => ?_)
  ·have g2 := of_decide_eq_true g2
   rw [if_pos g2] at hbs
   have hnl : (zCV T ix ms (k + 1)).length = (zCV T ix ms k).length + 1 := by rw [hbs, List.length_append]; rfl
   refine rn6 ?_
   refine zBW [m] rfl rfl rfl rfl rfl rfl rfl rfl rfl rfl rfl rfl rfl (by show 0 + 1 ≤ 1; omega) (fun k' j' hk' hj' => ?_) (by show ((zCV T ix ms k).length + 1) * 24 ≤ _ ∧ _; omega) zFY (by rw [hfix]; exact fun h => h) ?_
   ·obtain rfl : k' = 0 := Nat.lt_one_iff.1 hk'
    match j', hj' with
    | 0, _ => rfl
    | 1, _ => rfl
    | 2, _ => rfl
   refine rn5 ?_
   refine zS ⟨k + 1, by omega, by omega, ⟨rfl, rfl, rfl, rfl, ?_, rfl, rfl, rfl, trivial⟩, ?_⟩
   ·rw [hnl]; rfl
   ·rw [hbs]; rfl
  ·have g2 := of_decide_eq_false g2
   rw [if_neg g2] at hbs
   refine rn5 ?_
   refine zS ⟨k + 1, by omega, by omega, ⟨rfl, rfl, rfl, rfl, ?_, rfl, rfl, rfl, trivial⟩, ?_⟩
   ·rw [hbs]; rfl
   ·rw [hbs]
 ·have hk' : k = ms.length := by omega
  subst hk'
  refine zBC ?_
  refine zCj 0 10 (zCV T ix ms ms.length).length [] rfl (zAV zDA) rfl (Nat.le_refl _) trivial ?_
  refine rn0 ?_
  exact zJ hR rfl rfl
def isM (m x : Mv) : Bool := decide (x = m)
theorem indexMv (l : List Mv) (m : Mv) (hlen : l.length ≤ 1000000) : zj Tryz.prog 72 [zAy l, mvA m] (.int .i64 (zDf (isM m) l)) := by
 refine zb.value0 (zM (P := Tryz.prog) (fn := Tryz.f72) rfl rfl (by kernel_rfl) rfl (fun c hR hfix => ?_)) (fix := fun _ => False) (fun _ h => h) rfl rfl
 refine zZ ?_
 repeat (first | refine zA (zP rfl) ?_ | refine zC ?_ | refine zB ?_ | refine zK rfl ?_ | refine zAQ rfl rfl ?_)
 refine zB1 3 [(0, zAy l)] rfl ⟨rfl, rfl, trivial⟩ ⟨rfl, trivial⟩ rfl hfix ?_
 refine rn3 ?_
 refine zAA (ι := Nat) (fun k => [(0, zAy l), (3, .rp (.box (mvC m)) 0 0), (7, iN l.length), (8, iN k)]) (fun _ => [])
  (fun k => k ≤ l.length ∧ (l.take k).any (isM m) = false) (fun k => l.length - k) 0 ⟨⟨rfl, rfl, rfl, rfl, trivial⟩, rfl, Nat.zero_le _, rfl⟩ ?_
 intro k ⟨hk, hany⟩
 refine rn4 ?_
 refine zD rfl (fun h => ?_) (fun h => ?_)
 ·have hk' : k < l.length := by omega
  have hanys := zBw (isM m) l mv0 k hk'
  refine rn1 ?_
  refine zg (by kernel_rfl) ?_
  refine zq (fuel := 0) [0, 1, 2, 3, 4, 5] [(0, zAy l), (3, .rp (.box (mvC m)) 0 0), (7, iN l.length), (8, iN k), (5, iN k)] ⟨rfl, rfl, rfl, rfl, rfl, trivial⟩ (by kernel_rfl) (by decide) rfl rfl ?_
  refine zI rfl rfl (zf rfl rfl rfl rfl rfl rfl) ?_
  refine zI rfl rfl (zG rfl) ?_
  refine zI rfl rfl (zG rfl) ?_
  refine zI rfl rfl (zi rfl rfl rfl rfl (by first | (simp only [Nat.zero_add, Int.toNat_natCast, Int.toNat_zero]; exact rfl) | exact rfl) (by omega)) ?_
  refine zI rfl rfl (zf rfl rfl rfl rfl rfl rfl) ?_
  refine zI rfl rfl (zEc rfl rfl rfl (by kernel_rfl) (by kernel_rfl) (by kernel_rfl) rfl) ?_
  refine z7 ?_
  refine zX (by kernel_rfl) ?_
  repeat (refine zB ?_)
  refine zAR (b := isM m (l.getD k mv0)) (by unfold isM; rw [← eqMv]; rfl) (fun h2 => ?_) (fun h2 => ?_)
  ·refine rn6 ?_
   refine zJ hR rfl ?_
   have := zBr (isM m) l k hany hk
   rw [zEH l mv0 k hk'] at this
   simp only [zDf, h2, if_true] at this
   rw [this]; simp [zDG]
  ·refine rn5 ?_
   refine zS ⟨k + 1, ⟨by omega, by rw [hanys, hany, h2]; rfl⟩, by omega, ⟨rfl, rfl, rfl, rfl, trivial⟩, rfl⟩
 ·have hk' : k = l.length := by omega
  subst hk'
  refine rn5 ?_
  refine zJ hR rfl ?_
  have := zBr (isM m) l l.length hany hk
  rw [List.drop_length] at this
  rw [this]; rfl
theorem zHz (l : List Mv) (m : Mv) (hlen : l.length ≤ 1000000) : zj Tryz.prog 40 [zAy l, mvA m] (.bool (l.any (isM m))) := by
 refine zb.value0 (zM (P := Tryz.prog) (fn := Tryz.f40) rfl rfl (by kernel_rfl) rfl (fun c hR hfix => ?_)) (fix := fun _ => False) (fun _ h => h) rfl rfl
 refine rn6 ?_
 refine zN rfl rfl rfl (indexMv l m hlen) ?_
 refine rn8 ?_
 refine zJ hR rfl ?_
 simp only [zDG, zF3]
theorem zNw {l : List Mv} {m : Mv} : l.any (isM m) = decide (m ∈ l) := by
 by_cases h : m ∈ l
 ·rw [decide_eq_true h, List.any_eq_true]; exact ⟨m, h, decide_eq_true rfl⟩
 ·rw [decide_eq_false h, ← Bool.not_eq_true, List.any_eq_true]
  rintro ⟨x, hx, e⟩
  exact h (by rw [← of_decide_eq_true e]; exact hx)
theorem zN6 (a b : List Mv) (hlen : a.length ≤ 1000000) (hlb : b.length ≤ 1000000) : zj Tryz.prog 27 [zAy a, zAy b] (.bool (decide (a = b))) := by
 refine zb.value0 (zM (P := Tryz.prog) (fn := Tryz.f27) rfl rfl (by kernel_rfl) rfl (fun c hR hfix => ?_)) (fix := fun _ => False) (fun _ h => h) rfl rfl
 refine rn3 ?_
 refine zD rfl (fun h => ?_) (fun h => ?_)
 ·refine rn2 ?_
  refine zJ hR rfl ?_
  have : ¬ a = b := by rintro rfl; exact h rfl
  simp [zDG, this]
 have hab : a.length = b.length := by omega
 refine rn3 ?_
 refine zAA (ι := Nat) (fun k => [(0, zAy a), (1, zAy b), (12, iN a.length), (13, iN k)]) (fun _ => [])
  (fun k => k ≤ a.length ∧ a.take k = b.take k) (fun k => a.length - k) 0 ⟨⟨rfl, rfl, rfl, rfl, trivial⟩, rfl, Nat.zero_le _, rfl⟩ ?_
 intro k ⟨hk, heq⟩
 refine rn4 ?_
 refine zD rfl (fun h2 => ?_) (fun h2 => ?_)
 ·have hk' : k < a.length := by omega
  have ha := zz a mv0 k hk'
  have hb := zz b mv0 k (by omega)
  refine rn1 ?_
  refine zg (by kernel_rfl) ?_
  refine zq (fuel := 0) [0, 1, 2, 3, 4, 5, 6, 7, 8] [(0, zAy a), (1, zAy b), (12, iN a.length), (13, iN k), (5, iN k)] ⟨rfl, rfl, rfl, rfl, rfl, trivial⟩ (by kernel_rfl) (by decide) rfl rfl ?_
  refine zI rfl rfl (zG rfl) ?_
  refine zI rfl rfl (zG rfl) ?_
  refine zI rfl rfl (zi rfl rfl rfl rfl (by first | (simp only [Nat.zero_add, Int.toNat_natCast, Int.toNat_zero]; exact rfl) | exact rfl) (by omega)) ?_
  refine zI rfl rfl (zf rfl rfl rfl rfl rfl rfl) ?_
  refine zI rfl rfl (zG rfl) ?_
  refine zI rfl rfl (zG rfl) ?_
  refine zI rfl rfl (zi rfl rfl rfl rfl (by first | (simp only [Nat.zero_add, Int.toNat_natCast, Int.toNat_zero]; exact rfl) | exact rfl) (by omega)) ?_
  refine zI rfl rfl (zf rfl rfl rfl rfl rfl rfl) ?_
  refine zI rfl rfl (zGF rfl rfl rfl (by kernel_rfl) (by kernel_rfl) (by kernel_rfl) rfl) ?_
  refine z7 ?_
  refine zX (by kernel_rfl) ?_
  repeat (refine zB ?_)
  refine zAR (b := !(decide (b.getD k mv0 = a.getD k mv0))) (by rw [← eqMv]; rfl) (fun h3 => ?_) (fun h3 => ?_)
  ·refine rn6 ?_
   refine zJ hR rfl ?_
   rw [Bool.not_eq_true', decide_eq_false_iff_not] at h3
   have : ¬ a = b := by rintro rfl; exact h3 rfl
   simp [zDG, this]
  ·rw [Bool.not_eq_false', decide_eq_true_eq] at h3
   refine rn5 ?_
   exact zS ⟨k + 1, ⟨by omega, by rw [ha, hb, heq, h3]⟩, by omega, ⟨rfl, rfl, rfl, rfl, trivial⟩, rfl⟩
 ·have hk' : k = a.length := by omega
  subst hk'
  rw [List.take_length, hab, List.take_length] at heq
  refine rn5 ?_
  refine zJ hR rfl ?_
  simp [zDG, heq]
/-- moves.Legal -/
theorem legal_ok (r : Go.Ax.Gm.Rules) (hr : Lens r) (p : Pos) (hp : LenP p) (m : Mv) (hl : zAs r p = 0) : zj Tryz.prog 66 [ruA r, poA p, mvA m] (.tup [.bool (decide (m ∈ zo r p)), .int .i64 0]) := by
 refine zb.value0 (zM (P := Tryz.prog) (fn := Tryz.f66) rfl rfl (by kernel_rfl) rfl (fun c hR hfix => ?_)) (fix := fun _ => False) (fun _ h => h) rfl rfl
 obtain ⟨hz, S⟩ := zCe hl
 have ca := zK7 r hr p hp
 rw [hl, if_neg (by decide)] at ca
 have cc := zHz (zo r p) m (by have := zCc (zAp hz) S; omega)
 rw [zNw] at cc
 refine rn6 ?_
 refine zN rfl rfl rfl ca ?_
 refine rn6 ?_
 refine zN rfl rfl rfl cc ?_
 refine rn0 ?_
 exact zJ hR rfl rfl
/-- moves.After, a legal move -/
theorem zLq (r : Go.Ax.Gm.Rules) (hr : Lens r) (p : Pos) (m : Mv) (hz : zAY r = 0) (S : Sound r p) (hm : m ∈ zo r p) : zj Tryz.prog 33 [ruA r, poA p, mvA m] (.tup [poA (zQ r p m), .int .i64 0]) := by
 refine zb.value0 (zM (P := Tryz.prog) (fn := Tryz.f33) rfl rfl (by kernel_rfl) rfl (fun c hR hfix => ?_)) (fix := fun _ => False) (fun _ h => h) rfl rfl
 have hv := zAp hz
 have cl := legal_ok r hr p (zAv hv S).len m (zCD hz S)
 rw [decide_eq_true hm] at cl
 refine rn6 ?_
 refine zN rfl rfl rfl cl ?_
 refine rn6 ?_
 refine zN rfl rfl rfl (zDm r hv p S m (Go.Ax.Gm.list_ok hv S hm)) ?_
 skip
 refine zd (poC (zQ r p m)) rfl rfl rfl rfl rfl rfl rfl ?_
 refine rn0 ?_
 exact zJ hR rfl rfl
/-- winner -/
theorem zPW (t : Int) (ht : t = 0 ∨ t = 1) : zj Tryz.prog 60 [.int .i64 t] (.int .i64 (1 + t)) := by
 refine zb.value0 (zM (P := Tryz.prog) (fn := Tryz.f60) rfl rfl (by kernel_rfl) rfl (fun c hR hfix => ?_)) (fix := fun _ => False) (fun _ h => h) rfl rfl
 rcases ht with rfl | rfl
 ·refine rn5 ?_
  exact zJ hR rfl rfl
 ·refine rn4 ?_
  exact zJ hR rfl rfl
def whW (r : Go.Ax.Gm.Rules) : Int := IntKind.i64.wrap (r.w * r.h)
/-- is there a table of at most so many positions? -/
structure HasT (r : Go.Ax.Gm.Rules) (most : Int) (x : List Pos × List (List Nat)) : Prop where
 wh : ¬ whW r > 9
 pc : ¬ (r.pcs.length : Int) > 3
 e : zDX r = 0
 g : zEz r = some x
 len : ¬ (x.1.length : Int) > most
theorem HasT.tab {r : Go.Ax.Gm.Rules} {most : Int} {x : List Pos × List (List Nat)} (h : HasT r most x) : TabOK (zEF r x) := by
 obtain ⟨h1, h2, _⟩ := zIA h.e
 exact zOF h1 h2 h.g
theorem zOE {r : Go.Ax.Gm.Rules} (h : zDX r ≠ 0) : zF8 r = .nilp := by unfold zF8; rw [if_pos h]
theorem zJZ {r : Go.Ax.Gm.Rules} {x : List Pos × List (List Nat)} (h : zDX r = 0) (g : zEz r = some x) : zF8 r = zD4 (zEF r x) := by unfold zF8; rw [if_neg (fun c => c h), g]
theorem zPE (r : Go.Ax.Gm.Rules) (most : Int) (h : whW r > 9) : zj Tryz.prog 14 [ruA r, .int .i64 most] (.tup [.nilp, .bool false]) := by
 refine zb.value0 (zM (P := Tryz.prog) (fn := Tryz.f14) rfl rfl (by kernel_rfl) rfl (fun c hR hfix => ?_)) (fix := fun _ => False) (fun _ h => h) rfl rfl
 refine rn6 ?_
 refine zA (zGd rfl rfl rfl) ?_
 refine rn6 ?_
 refine zn rfl rfl (fun q => ?_) (fun q => absurd h q)
 refine rn6 ?_
 exact zJ hR rfl rfl
theorem zPD (r : Go.Ax.Gm.Rules) (hr : Lens r) (most : Int) (h : ¬ whW r > 9) (h2 : (r.pcs.length : Int) > 3) : zj Tryz.prog 14 [ruA r, .int .i64 most] (.tup [.nilp, .bool false]) := by
 refine zb.value0 (zM (P := Tryz.prog) (fn := Tryz.f14) rfl rfl (by kernel_rfl) rfl (fun c hR hfix => ?_)) (fix := fun _ => False) (fun _ h => h) rfl rfl
 have hpl := hr.pcs
 refine rn6 ?_
 refine zA (zGd rfl rfl rfl) ?_
 refine rn6 ?_
 refine zn rfl rfl (fun q => absurd q h) (fun q => ?_)
 refine rn6 ?_
 refine zD rfl (fun q => ?_) (fun q => absurd h2 q)
 refine rn2 ?_
 exact zJ hR rfl rfl
theorem zNj (r : Go.Ax.Gm.Rules) (hr : Lens r) (most : Int) (h : ¬ whW r > 9) (h2 : ¬ (r.pcs.length : Int) > 3) (h3 : zDX r ≠ 0) : zj Tryz.prog 14 [ruA r, .int .i64 most] (.tup [.nilp, .bool false]) := by
 refine zb.value0 (zM (P := Tryz.prog) (fn := Tryz.f14) rfl rfl (by kernel_rfl) rfl (fun c hR hfix => ?_)) (fix := fun _ => False) (fun _ h => h) rfl rfl
 have hpl := hr.pcs
 have cn := zLS r hr
 rw [zOE h3] at cn
 refine rn6 ?_
 refine zA (zGd rfl rfl rfl) ?_
 refine rn6 ?_
 refine zn rfl rfl (fun q => absurd q h) (fun q => ?_)
 refine rn6 ?_
 refine zD rfl (fun q => absurd q h2) (fun q => ?_)
 refine rn6 ?_
 refine zN rfl rfl rfl cn ?_
 refine rn3 ?_
 refine zn rfl rfl (fun q => ?_) (fun q => absurd h3 q)
 refine rn6 ?_
 exact zJ hR rfl rfl
theorem zNi (r : Go.Ax.Gm.Rules) (hr : Lens r) (most : Int) (x : List Pos × List (List Nat)) (h : ¬ whW r > 9) (h2 : ¬ (r.pcs.length : Int) > 3) (h3 : zDX r = 0) (h4 : zEz r = some x) (h5 : (x.1.length : Int) > most) : zj Tryz.prog 14 [ruA r, .int .i64 most] (.tup [.nilp, .bool false]) := by
 refine zb.value0 (zM (P := Tryz.prog) (fn := Tryz.f14) rfl rfl (by kernel_rfl) rfl (fun c hR hfix => ?_)) (fix := fun _ => False) (fun _ h => h) rfl rfl
 have hpl := hr.pcs
 have cn := zLS r hr
 rw [zJZ h3 h4, h3] at cn
 refine rn6 ?_
 refine zA (zGd rfl rfl rfl) ?_
 refine rn6 ?_
 refine zn rfl rfl (fun q => absurd q h) (fun q => ?_)
 refine rn6 ?_
 refine zD rfl (fun q => absurd q h2) (fun q => ?_)
 refine rn6 ?_
 refine zN rfl rfl rfl cn ?_
 repeat (first | refine zA (zG rfl) ?_ | refine zA (zP rfl) ?_ | refine zC ?_ | refine zB ?_ | refine zZ ?_ | refine zK rfl ?_ | refine zw rfl rfl ?_ | refine zA (zBj rfl rfl) ?_ | refine zA (zh rfl rfl) ?_ | refine zA (zA5 rfl rfl) ?_ | refine zA (zOJ rfl rfl rfl rfl) ?_)
 refine zN rfl rfl rfl (zLg (zEF r x)) ?_
 refine rn6 ?_
 refine zD rfl (fun q => ?_) (fun q => absurd h5 q)
 refine rn2 ?_
 exact zJ hR rfl rfl
theorem zNk (r : Go.Ax.Gm.Rules) (hr : Lens r) (most : Int) (x : List Pos × List (List Nat)) (h : HasT r most x) : zj Tryz.prog 14 [ruA r, .int .i64 most] (.tup [zD4 (zEF r x), .bool true]) := by
 refine zb.value0 (zM (P := Tryz.prog) (fn := Tryz.f14) rfl rfl (by kernel_rfl) rfl (fun c hR hfix => ?_)) (fix := fun _ => False) (fun _ h => h) rfl rfl
 obtain ⟨h, h2, h3, h4, h5⟩ := h
 have hpl := hr.pcs
 have cn := zLS r hr
 rw [zJZ h3 h4, h3] at cn
 refine rn6 ?_
 refine zA (zGd rfl rfl rfl) ?_
 refine rn6 ?_
 refine zn rfl rfl (fun q => absurd q h) (fun q => ?_)
 refine rn6 ?_
 refine zD rfl (fun q => absurd q h2) (fun q => ?_)
 refine rn6 ?_
 refine zN rfl rfl rfl cn ?_
 repeat (first | refine zA (zG rfl) ?_ | refine zA (zP rfl) ?_ | refine zC ?_ | refine zB ?_ | refine zZ ?_ | refine zK rfl ?_ | refine zw rfl rfl ?_ | refine zA (zBj rfl rfl) ?_ | refine zA (zh rfl rfl) ?_ | refine zA (zA5 rfl rfl) ?_ | refine zA (zOJ rfl rfl rfl rfl) ?_)
 refine zN rfl rfl rfl (zLg (zEF r x)) ?_
 refine rn6 ?_
 refine zD rfl (fun q => absurd q h5) (fun q => ?_)
 refine rn1 ?_
 exact zJ hR rfl rfl
/-- solved: no table, or one -/
theorem solved_ok (r : Go.Ax.Gm.Rules) (hr : Lens r) (most : Int) : zj Tryz.prog 14 [ruA r, .int .i64 most] (.tup [.nilp, .bool false]) ∨ ∃ x, HasT r most x ∧ zj Tryz.prog 14 [ruA r, .int .i64 most] (.tup [zD4 (zEF r x), .bool true]) := by
 by_cases h : whW r > 9
 ·exact .inl (zPE r most h)
 by_cases h2 : (r.pcs.length : Int) > 3
 ·exact .inl (zPD r hr most h h2)
 by_cases h3 : zDX r = 0
 ·obtain ⟨_, _, x, h4⟩ := zIA h3
  by_cases h5 : (x.1.length : Int) > most
  ·exact .inl (zNi r hr most x h h2 h3 h4 h5)
  ·exact .inr ⟨x, ⟨h, h2, h3, h4, h5⟩, zNk r hr most x ⟨h, h2, h3, h4, h5⟩⟩
 ·exact .inl (zNj r hr most h h2 h3)
def zF6 (r : Go.Ax.Gm.Rules) : Nat → Pos → Nat
 | 0, _ => 1
 | d + 1, p => ((z8 r p).map (fun m => zF6 r d (zQ r p m))).sum
theorem zMv {α : Type} (f : α → Nat) (z : α) (l : List α) {k : Nat} (h : k < l.length) : ((l.take (k + 1)).map f).sum = ((l.take k).map f).sum + f (l.getD k z) := by
 rw [zz l z k h, List.map_append, List.sum_append]; simp
theorem zIh {α : Type} (f : α → Nat) (l : List α) (k : Nat) : ((l.take k).map f).sum ≤ (l.map f).sum := by
 conv => rhs; rw [← List.take_append_drop k l]
 rw [List.map_append, List.sum_append]; omega
abbrev ctrO (r : Go.Ax.Gm.Rules) (a b : Int) : Option AObj := some ⟨169, .box [.str r.name, .int .i64 r.w, .int .i64 r.h, .ro (zAn r.pcs) 0 r.pcs.length, zAB r.start, .bool r.falls, .bool r.keeps, .ro (zFT r.ends) 0 r.ends.length, .int .i64 r.blocked, .int .i64 r.quiet, .int .i64 r.rep, .int .i64 a, .int .i64 b]⟩
def WalkK (r : Go.Ax.Gm.Rules) (a b : Int) (c l : Nat) (v : AV) (H : zR) : Prop :=
 v = .bool (decide (a + (c : Nat) ≤ 50000)) ∧ ∃ a' b', H = [ctrO r a' b'] ∧ 0 ≤ b' ∧ b' ≤ a' ∧ (a + (c : Nat) ≤ 50000 → a' = a + (c : Nat) ∧ b' = b + (l : Nat))
/-- perft's walk -/
theorem walk_ok (r : Go.Ax.Gm.Rules) (hv : ValidR r) : ∀ (d : Nat) (p : Pos) (S : Sound r p) (a b : Int) (hb : 0 ≤ b ∧ b ≤ a ∧ a ≤ 50000) (hd : d ≤ 12),
 zb Tryz.prog 123 [.ptr 0 0 0, poA p, iN d] [ctrO r a b] (fun h => h < 1) (WalkK r a b (zCk r d p) (zF6 r d p)) := by
 intro d
 induction d with
 | zero =>
  intro p S a b hb hd
  refine zM (P := Tryz.prog) (fn := Tryz.f123) rfl rfl (by kernel_rfl) rfl (fun c hR hfix => ?_)
  have hc : zCk r 0 p = 1 := rfl
  have hl : zF6 r 0 p = 1 := rfl
  rw [hc, hl] at hR
  refine zZ ?_
  repeat (first | refine zA (zP rfl) ?_ | refine zC ?_ | refine zB ?_ | refine zK rfl ?_ | refine zAQ rfl rfl ?_)
  refine zCU [ctrO r a b] 4 [(0, .ptr 0 0 0), (2, .int .i64 ((0 : Nat) : Int))] rfl rfl ⟨rfl, rfl, trivial⟩ ⟨rfl, rfl, rfl, trivial⟩ (zBs (zGl rfl) zBP) rfl (fun h q => by rw [hfix] at q; exact q) ?_
  repeat (first | refine zA (zG rfl) ?_ | refine zC ?_ | refine zB ?_ | refine zZ ?_ | refine zK rfl ?_ | refine zA (zV rfl rfl rfl rfl rfl) ?_ | refine zA (zCo rfl rfl) ?_ | refine zA (zBA rfl rfl (by omega)) ?_ | refine zA (zU rfl) ?_ | refine zA (zO rfl rfl rfl rfl rfl rfl) ?_ | refine zAH rfl rfl rfl rfl rfl rfl rfl Nat.zero_lt_one ?_)
  refine zD rfl (fun q => ?_) (fun q => ?_)
  ·refine rn2 ?_
   refine zJ hR rfl ⟨?_, a + 1, b, rfl, hb.1, by omega, fun c => absurd c (by omega)⟩
   rw [decide_eq_false (by omega)]; rfl
  ·repeat (first | refine zA (zG rfl) ?_ | refine zA (zP rfl) ?_ | refine zC ?_ | refine zB ?_ | refine zZ ?_ | refine zK rfl ?_ | refine zAj rfl ?_ | refine zAO ?_ | refine zAC ?_ | refine zBJ ?_ | refine zA (zV rfl rfl rfl rfl rfl) ?_ | refine zA (zBb rfl rfl) ?_ | refine zA (zBA rfl rfl (by omega)) ?_ | refine zA (zU rfl) ?_ | refine zA (zO rfl rfl rfl rfl rfl rfl) ?_ | refine zAH rfl rfl rfl rfl rfl rfl rfl Nat.zero_lt_one ?_)
   refine zJ hR rfl ⟨?_, a + 1, b + 1, rfl, by omega, by omega, fun c => ⟨rfl, rfl⟩⟩
   rw [decide_eq_true (by omega)]; rfl
 | succ d ih =>
  intro p S a b hb hd
  refine zM (P := Tryz.prog) (fn := Tryz.f123) rfl rfl (by kernel_rfl) rfl (fun c hR hfix => ?_)
  have hml := zEI hv S
  have hok : ∀ m ∈ z8 r p, MvOK r p m ∧ Sound r (zQ r p m) := fun m hm => ⟨zFD hv S hm, zEW hv S (zFD hv S hm)⟩
  have hc : zCk r (d + 1) p = 1 + ((z8 r p).map (fun m => zCk r d (zQ r p m))).sum := rfl
  have hl : zF6 r (d + 1) p = ((z8 r p).map (fun m => zF6 r d (zQ r p m))).sum := rfl
  have cm := zEl r hv p S
  generalize hM : z8 r p = ms at *
  rw [hc, hl] at hR
  have e1 : ((d + 1 : Nat) : Int) - 1 = (d : Nat) := by omega
  refine zZ ?_
  repeat (first | refine zA (zP rfl) ?_ | refine zC ?_ | refine zB ?_ | refine zK rfl ?_ | refine zAQ rfl rfl ?_)
  refine zCU [ctrO r a b] 4 [(0, .ptr 0 0 0), (2, .int .i64 ((d + 1 : Nat) : Int))] rfl rfl ⟨rfl, rfl, trivial⟩ ⟨rfl, rfl, rfl, trivial⟩ (zBs (zGl rfl) zBP) rfl (fun h q => by rw [hfix] at q; exact q) ?_
  repeat (first | refine zA (zG rfl) ?_ | refine zC ?_ | refine zB ?_ | refine zZ ?_ | refine zK rfl ?_ | refine zA (zV rfl rfl rfl rfl rfl) ?_ | refine zA (zCo rfl rfl) ?_ | refine zA (zBA rfl rfl (by omega)) ?_ | refine zA (zU rfl) ?_ | refine zA (zO rfl rfl rfl rfl rfl rfl) ?_ | refine zAH rfl rfl rfl rfl rfl rfl rfl Nat.zero_lt_one ?_)
  refine zD rfl (fun q => ?_) (fun q => ?_)
  ·refine rn2 ?_
   refine zJ hR rfl ⟨?_, a + 1, b, rfl, hb.1, by omega, fun c => absurd c (by omega)⟩
   rw [decide_eq_false (by omega)]; rfl
  refine rn4 ?_
  refine zg (by kernel_rfl) ?_
  refine zq (fuel := 0) [0, 1, 2, 3, 4, 5, 6, 7] [(4, .rp (.box (poC p)) 0 0), (0, .ptr 0 0 0), (2, .int .i64 ((d + 1 : Nat) : Int))] ⟨rfl, rfl, rfl, trivial⟩ (by kernel_rfl) (by decide) rfl rfl ?_
  refine zI rfl rfl (zG rfl) ?_
  refine zI rfl rfl (zU rfl) ?_
  refine zI rfl rfl (zO rfl rfl rfl rfl rfl rfl) ?_
  refine zI rfl rfl (qpp rfl rfl rfl rfl rfl rfl rfl) ?_
  refine zI rfl rfl (zf rfl rfl rfl rfl rfl rfl) ?_
  refine zCS rfl rfl rfl rfl rfl cm ?_
  refine zI rfl rfl (zBB rfl rfl rfl) ?_
  refine zI rfl rfl (zG rfl) ?_
  refine z7 ?_
  refine zX (by kernel_rfl) ?_
  refine rn1 ?_
  refine zAA (ι := Nat × Int × Int) (fun x => [(4, .rp (.box (poC p)) 0 0), (0, .ptr 0 0 0), (2, .int .i64 ((d + 1 : Nat) : Int)), (35, zAy ms), (36, iN ms.length), (37, iN x.1)]) (fun x => [ctrO r x.2.1 x.2.2]) (fun x => x.1 ≤ ms.length ∧ x.2.1 = a + 1 + ((((ms.take x.1).map (fun m => zCk r d (zQ r p m))).sum : Nat) : Int) ∧ x.2.2 = b + ((((ms.take x.1).map (fun m => zF6 r d (zQ r p m))).sum : Nat) : Int) ∧ x.2.1 ≤ 50000 ∧ 0 ≤ x.2.2 ∧ x.2.2 ≤ x.2.1) (fun x => ms.length - x.1) (0, a + 1, b) ⟨⟨rfl, rfl, rfl, rfl, rfl, rfl, trivial⟩, rfl, Nat.zero_le _, ?_, ?_, by show a + 1 ≤ 50000; omega, hb.1, by show b ≤ a + 1; omega⟩ ?_
  ·show a + 1 = a + 1 + ((0 : Nat) : Int); omega
  ·show b = b + ((0 : Nat) : Int); omega
  rintro ⟨k, n, l⟩ ⟨i1, i2, i3, i4, i5, i6⟩
  have i1 : k ≤ ms.length := i1
  have i2 : n = a + 1 + ((((ms.take k).map (fun m => zCk r d (zQ r p m))).sum : Nat) : Int) := i2
  have i3 : l = b + ((((ms.take k).map (fun m => zF6 r d (zQ r p m))).sum : Nat) : Int) := i3
  have i4 : n ≤ 50000 := i4
  have i5 : 0 ≤ l := i5
  have i6 : l ≤ n := i6
  change Ax _ _ _ _ [(4, .rp (.box (poC p)) 0 0), (0, .ptr 0 0 0), (2, .int .i64 ((d + 1 : Nat) : Int)), (35, zAy ms), (36, iN ms.length), (37, iN k)] [ctrO r n l]
  refine rn4 ?_
  refine zD rfl (fun g => ?_) (fun g => ?_)
  ·have hk' : k < ms.length := by omega
   have hs1 := zMv (fun m => zCk r d (zQ r p m)) mv0 ms hk'
   have hs2 := zMv (fun m => zF6 r d (zQ r p m)) mv0 ms hk'
   have hs3 := zIh (fun m => zCk r d (zQ r p m)) ms (k + 1)
   have hmm := hok _ (zAL mv0 hk')
   obtain ⟨m, hm⟩ : ∃ m, ms.getD k mv0 = m := ⟨_, rfl⟩
   rw [hm] at hs1 hs2 hmm
   have cw := ih (zQ r p m) hmm.2 n l ⟨i5, i6, i4⟩ (by omega)
   generalize hcm : zCk r d (zQ r p m) = cm at hs1 cw
   generalize hlm : zF6 r d (zQ r p m) = lm at hs2 cw
   refine zFc ?_
   repeat (refine zAG rfl rfl rfl ?_)
   refine zd (mvC m) rfl rfl rfl rfl rfl (by rw [← hm]; rfl) rfl ?_
   refine rn0 ?_
   refine zCU [ctrO r n l] 8 [(4, .rp (.box (poC p)) 0 0), (0, .ptr 0 0 0), (2, .int .i64 ((d + 1 : Nat) : Int)), (35, zAy ms), (36, iN ms.length), (37, iN k)] rfl rfl ⟨rfl, rfl, rfl, rfl, rfl, rfl, trivial⟩ ⟨rfl, rfl, rfl, rfl, rfl, rfl, rfl, trivial⟩ (zBs (zGl rfl) zBP) rfl (fun h q => by rw [hfix] at q; exact q) ?_
   refine zg (by kernel_rfl) ?_
   refine zq (fuel := 2) [0, 1, 2, 3, 4, 5, 6, 7, 8, 9] [(8, .rp (.box (mvC m)) 0 0), (4, .rp (.box (poC p)) 0 0), (0, .ptr 0 0 0), (2, .int .i64 ((d + 1 : Nat) : Int)), (35, zAy ms), (36, iN ms.length), (37, iN k)] ⟨rfl, rfl, rfl, rfl, rfl, rfl, rfl, trivial⟩ (by kernel_rfl) (by decide) rfl rfl ?_
   refine zI rfl rfl (zG rfl) ?_
   refine zI rfl rfl (zG rfl) ?_
   refine zI rfl rfl (zU rfl) ?_
   refine zI rfl rfl (zO rfl rfl rfl rfl rfl rfl) ?_
   refine zI rfl rfl (qpp rfl rfl rfl rfl rfl rfl rfl) ?_
   refine zI rfl rfl (zf rfl rfl rfl rfl rfl rfl) ?_
   refine zI rfl rfl (zf rfl rfl rfl rfl rfl rfl) ?_
   refine zCS rfl rfl rfl rfl rfl (zDm r hv p S m hmm.1) ?_
   refine zI rfl rfl (zG rfl) ?_
   refine zI rfl rfl (zBR rfl rfl (by omega)) ?_
   rw [e1]
   refine z7 ?_
   refine zH (is := [10]) (by kernel_rfl) (by simp) rfl ⟨fun o ho => ?_, trivial⟩
   all_goals (cases ho)
   refine zCG rfl rfl rfl cw (fun h q => q) (fun h q => q) ?_
   rintro v H ⟨rfl, a', b', rfl, j1, j2, j3⟩
   refine rn1 ?_
   refine zH (is := [11]) (by kernel_rfl) (by simp) rfl ⟨fun o ho => ?_, trivial⟩
   all_goals (cases ho)
   refine rn5 ?_
   refine zX (by kernel_rfl) ?_
   by_cases hf : n + (cm : Nat) ≤ 50000
   ·rw [decide_eq_true hf]
    obtain ⟨j4, j5⟩ := j3 hf
    refine rn5 ?_
    refine zS ⟨(k + 1, a', b'), ⟨by show k + 1 ≤ ms.length; omega, ?_, ?_, by show a' ≤ 50000; omega, j1, j2⟩, by show ms.length - (k + 1) < ms.length - k; omega, ⟨rfl, rfl, rfl, rfl, rfl, rfl, trivial⟩, rfl⟩
    ·show a' = a + 1 + ((((ms.take (k + 1)).map (fun m => zCk r d (zQ r p m))).sum : Nat) : Int)
     rw [hs1]; omega
    ·show b' = b + ((((ms.take (k + 1)).map (fun m => zF6 r d (zQ r p m))).sum : Nat) : Int)
     rw [hs2]; omega
   ·rw [decide_eq_false hf]
    refine rn6 ?_
    refine zJ hR rfl ⟨?_, a', b', rfl, j1, j2, fun c => absurd c (by omega)⟩
    rw [decide_eq_false (by omega)]; rfl
  ·have hk' : k = ms.length := by omega
   subst hk'
   rw [List.take_length] at i2 i3
   refine rn5 ?_
   refine zJ hR rfl ⟨?_, n, l, rfl, i5, i6, fun c => ⟨by omega, i3⟩⟩
   rw [decide_eq_true (by omega)]; rfl
/-- perft.Check -/
theorem zOx (r : Go.Ax.Gm.Rules) (hr : Lens r) (p : Pos) (hp : LenP p) (d : Int) : ∃ x y, zj Tryz.prog 105 [ruA r, poA p, .int .i64 d] (.tup [.int .i64 x, .int .i64 y, .int .i64 (zDh r p d)]) := by
 by_cases h1 : zAs r p = 0
 ·obtain ⟨hz, S⟩ := zCe h1
  have hv := zAp hz
  have cc := zCN r hr p hp
  rw [h1] at cc
  by_cases h2 : d < 0 ∨ 12 < d
  ·have e : zDh r p d = 1 := by unfold zDh; rw [if_neg (fun c => c h1), if_pos h2]
   refine ⟨0, 0, ?_⟩
   rw [e]
   refine zb.value0 (zM (P := Tryz.prog) (fn := Tryz.f105) rfl rfl (by kernel_rfl) rfl (fun c hR hfix => ?_)) (fix := fun _ => False) (fun _ h => h) rfl rfl
   refine rn6 ?_
   refine zN rfl rfl rfl cc ?_
   refine rn4 ?_
   refine zn rfl rfl (fun q => ?_) (fun q => ?_)
   ·refine rn6 ?_
    exact zJ hR rfl rfl
   ·refine rn6 ?_
    refine zD rfl (fun q2 => ?_) (fun q2 => ?_)
    ·refine rn2 ?_
     exact zJ hR rfl rfl
    ·exact absurd h2 (by omega)
  obtain ⟨n, rfl⟩ : ∃ n : Nat, d = (n : Int) := ⟨d.toNat, by omega⟩
  have hn : n ≤ 12 := by omega
  have cw := walk_ok r hv n p S 0 0 ⟨Int.le_refl _, Int.le_refl _, by decide⟩ hn
  have e : zDh r p (n : Int) = if 50000 < zCk r n p then 17 else 0 := by unfold zDh; rw [if_neg (fun c => c h1), if_neg h2, Int.toNat_natCast]
  by_cases h3 : 50000 < zCk r n p
  ·rw [if_pos h3] at e
   refine ⟨0, 0, ?_⟩
   rw [e]
   refine zb.value0 (zM (P := Tryz.prog) (fn := Tryz.f105) rfl rfl (by kernel_rfl) rfl (fun c hR hfix => ?_)) (fix := fun _ => False) (fun _ h => h) rfl rfl
   refine zZ ?_
   repeat (first | refine zA (zP rfl) ?_ | refine zC ?_ | refine zB ?_ | refine zK rfl ?_ | refine zAQ rfl rfl ?_)
   refine zC0 3 4 [(2, iN n)] rfl rfl rfl rfl ⟨rfl, trivial⟩ ⟨rfl, rfl, rfl, trivial⟩ rfl hfix ?_
   refine rn6 ?_
   refine zN rfl rfl rfl cc ?_
   refine rn6 ?_
   refine zD rfl (fun q => ?_) (fun q => ?_)
   ·exact absurd q (by omega)
   refine rn20 ?_
   refine zK rfl ?_
   repeat (first | refine zA (zP rfl) ?_ | refine zC ?_ | refine zB ?_ | refine zZ ?_ | refine zA (zCm rfl rfl rfl rfl rfl rfl) ?_ | refine zA (zf rfl rfl rfl rfl rfl rfl) ?_ | refine zAQ rfl rfl ?_)
   refine zAU [ctrO r 0 0] rfl ?_
   refine rn6 ?_
   refine zCG rfl rfl rfl cw (fun h q => q) (fun h q => q) ?_
   rintro v H ⟨rfl, a', b', rfl, j1, j2, j3⟩
   rw [decide_eq_false (by omega)]
   refine rn5 ?_
   exact zJ hR rfl rfl
  ·rw [if_neg h3] at e
   refine ⟨(zCk r n p : Nat), (zF6 r n p : Nat), ?_⟩
   rw [e]
   refine zb.value0 (zM (P := Tryz.prog) (fn := Tryz.f105) rfl rfl (by kernel_rfl) rfl (fun c hR hfix => ?_)) (fix := fun _ => False) (fun _ h => h) rfl rfl
   refine zZ ?_
   repeat (first | refine zA (zP rfl) ?_ | refine zC ?_ | refine zB ?_ | refine zK rfl ?_ | refine zAQ rfl rfl ?_)
   refine zC0 3 4 [(2, iN n)] rfl rfl rfl rfl ⟨rfl, trivial⟩ ⟨rfl, rfl, rfl, trivial⟩ rfl hfix ?_
   refine rn6 ?_
   refine zN rfl rfl rfl cc ?_
   refine rn6 ?_
   refine zD rfl (fun q => ?_) (fun q => ?_)
   ·exact absurd q (by omega)
   refine rn20 ?_
   refine zK rfl ?_
   repeat (first | refine zA (zP rfl) ?_ | refine zC ?_ | refine zB ?_ | refine zZ ?_ | refine zA (zCm rfl rfl rfl rfl rfl rfl) ?_ | refine zA (zf rfl rfl rfl rfl rfl rfl) ?_ | refine zAQ rfl rfl ?_)
   refine zAU [ctrO r 0 0] rfl ?_
   refine rn6 ?_
   refine zCG rfl rfl rfl cw (fun h q => q) (fun h q => q) ?_
   rintro v H ⟨rfl, a', b', rfl, j1, j2, j3⟩
   obtain ⟨j4, j5⟩ := j3 (by omega)
   rw [decide_eq_true (by omega)]
   rw [Int.zero_add] at j4 j5
   subst j4 j5
   refine rn5 ?_
   refine zg (by kernel_rfl) ?_
   refine zW 0 rfl (by kernel_rfl) (by kernel_rfl) (by kernel_rfl) rfl (zG rfl) rfl ?_
   refine zW 1 rfl (by kernel_rfl) (by kernel_rfl) (by kernel_rfl) rfl (zU rfl) rfl ?_
   refine zW 2 rfl (by kernel_rfl) (by kernel_rfl) (by kernel_rfl) rfl (zO rfl rfl rfl rfl rfl rfl) rfl ?_
   refine zW 4 rfl (by kernel_rfl) (by kernel_rfl) (by kernel_rfl) rfl (zG rfl) rfl ?_
   refine zW 5 rfl (by kernel_rfl) (by kernel_rfl) (by kernel_rfl) rfl (zU rfl) rfl ?_
   refine zW 6 rfl (by kernel_rfl) (by kernel_rfl) (by kernel_rfl) rfl (zO rfl rfl rfl rfl rfl rfl) rfl ?_
   refine zH (is := [3, 7]) (by kernel_rfl) (by simp) rfl ⟨fun o ho => ?_, fun o ho => ?_, trivial⟩
   all_goals (cases ho)
   ·refine rn4 ?_
    refine zW 8 rfl (by kernel_rfl) (by kernel_rfl) (by kernel_rfl) rfl (zP rfl) rfl ?_
    refine zH (is := [7]) (by kernel_rfl) (by simp) rfl ⟨fun o ho => ?_, trivial⟩
    all_goals (cases ho)
    refine rn4 ?_
    refine zW 9 rfl (by kernel_rfl) (by kernel_rfl) (by kernel_rfl) rfl (zP rfl) rfl ?_
    refine zW 10 rfl (by kernel_rfl) (by kernel_rfl) (by kernel_rfl) rfl (zP rfl) rfl ?_
    refine zX (by kernel_rfl) ?_
    refine rn0 ?_
    exact zJ hR rfl rfl
   ·refine rn4 ?_
    refine zH (is := [3]) (by kernel_rfl) (by simp) rfl ⟨fun o ho => ?_, trivial⟩
    all_goals (cases ho)
    refine rn4 ?_
    refine zW 8 rfl (by kernel_rfl) (by kernel_rfl) (by kernel_rfl) rfl (zP rfl) rfl ?_
    refine zW 9 rfl (by kernel_rfl) (by kernel_rfl) (by kernel_rfl) rfl (zP rfl) rfl ?_
    refine zW 10 rfl (by kernel_rfl) (by kernel_rfl) (by kernel_rfl) rfl (zP rfl) rfl ?_
    refine zX (by kernel_rfl) ?_
    refine rn0 ?_
    exact zJ hR rfl rfl
 ·have e : zDh r p d = zAs r p := by unfold zDh; rw [if_pos h1]
  refine ⟨0, 0, ?_⟩
  rw [e]
  refine zb.value0 (zM (P := Tryz.prog) (fn := Tryz.f105) rfl rfl (by kernel_rfl) rfl (fun c hR hfix => ?_)) (fix := fun _ => False) (fun _ h => h) rfl rfl
  refine rn6 ?_
  refine zN rfl rfl rfl (zCN r hr p hp) ?_
  refine rn3 ?_
  refine zD rfl (fun q => ?_) (fun q => absurd h1 q)
  refine rn2 ?_
  exact zJ hR rfl rfl
/-- perft.Tree -/
theorem tree_ok (r : Go.Ax.Gm.Rules) (hr : Lens r) (p : Pos) (hp : LenP p) (d : Int) : ∃ x, zj Tryz.prog 76 [ruA r, poA p, .int .i64 d] (.tup [.int .i64 x, .int .i64 (zDh r p d)]) := by
 obtain ⟨x, y, hc⟩ := zOx r hr p hp d
 refine ⟨x, ?_⟩
 refine zb.value0 (zM (P := Tryz.prog) (fn := Tryz.f76) rfl rfl (by kernel_rfl) rfl (fun c hR hfix => ?_)) (fix := fun _ => False) (fun _ h => h) rfl rfl
 refine rn6 ?_
 refine zN rfl rfl rfl hc ?_
 refine rn2 ?_
 exact zJ hR rfl rfl
theorem odd_ok (n : Int) : zj Tryz.prog 75 [.int .i64 n] (.bool (zJa n)) := by
 refine zb.value0 (zM (P := Tryz.prog) (fn := Tryz.f75) rfl rfl (by kernel_rfl) rfl (fun c hR hfix => ?_)) (fix := fun _ => False) (fun _ h => h) rfl rfl
 have hb : zJa n = (decide (1 ≤ n) && (decide (n ≤ 5) && decide (n.tmod 2 = 1))) := rfl
 refine rn7 ?_
 refine zn rfl rfl (fun q => ?_) (fun q => ?_)
 ·have q : 1 ≤ n := q
  rw [decide_eq_true q, Bool.true_and] at hb
  refine rn8 ?_
  refine zn rfl rfl (fun q2 => ?_) (fun q2 => ?_)
  ·have q2 : n ≤ 5 := q2
   rw [decide_eq_true q2, Bool.true_and, Int.tmod_eq_emod_of_nonneg (by omega)] at hb
   repeat (first | refine zA (zG rfl) ?_ | refine zA (zP rfl) ?_ | refine zC ?_ | refine zB ?_ | refine zw rfl rfl ?_ | refine zAC ?_ | refine zA (zBb rfl rfl) ?_ | refine zA (zh rfl rfl) ?_ | refine zA (zJg rfl rfl (by omega)) ?_)
   refine zJ hR rfl ?_
   rw [hb]; rfl
  ·have q2 : ¬ n ≤ 5 := q2
   rw [decide_eq_false q2, Bool.false_and] at hb
   refine rn6 ?_
   refine zJ hR rfl ?_
   rw [hb]; rfl
 ·have q : ¬ 1 ≤ n := q
  rw [decide_eq_false q, Bool.false_and] at hb
  refine rn6 ?_
  refine zJ hR rfl ?_
  rw [hb]; rfl
/-- puzzle.Check -/
theorem zHy (r : Go.Ax.Gm.Rules) (hr : Lens r) (p : Pos) (hp : LenP p) (n : Int) : zj Tryz.prog 46 [ruA r, poA p, .int .i64 n] (.int .i64 (zAF r p n)) := by
 refine zb.value0 (zM (P := Tryz.prog) (fn := Tryz.f46) rfl rfl (by kernel_rfl) rfl (fun c hR hfix => ?_)) (fix := fun _ => False) (fun _ h => h) rfl rfl
 obtain ⟨x, ct⟩ := tree_ok r hr p hp n
 refine rn6 ?_
 refine zN rfl rfl rfl (zCN r hr p hp) ?_
 refine rn3 ?_
 refine zD rfl (fun q => ?_) (fun q => ?_)
 ·have e : zAF r p n = zAs r p := by unfold zAF; rw [if_pos q]
  rw [e] at hR
  refine rn2 ?_
  exact zJ hR rfl rfl
 have q2 : zAs r p = 0 := Classical.not_not.1 q
 obtain ⟨hz, S⟩ := zCe q2
 refine rn1 ?_
 refine zN rfl rfl rfl (odd_ok n) ?_
 cases ho : zJa n with
 | false =>
  have e : zAF r p n = 4 := by unfold zAF; rw [if_neg q, if_pos ho]
  rw [e] at hR
  refine rn5 ?_
  exact zJ hR rfl rfl
 | true =>
  refine rn6 ?_
  refine zN rfl rfl rfl (zCO r (zAp hz) p S) ?_
  refine rn3 ?_
  refine zD rfl (fun q3 => ?_) (fun q3 => ?_)
  ·have e : zAF r p n = 14 := by unfold zAF; rw [if_neg q, if_neg (by rw [ho]; decide), if_pos q3]
   rw [e] at hR
   refine rn2 ?_
   exact zJ hR rfl rfl
  ·have e : zAF r p n = zDh r p n := by unfold zAF; rw [if_neg q, if_neg (by rw [ho]; decide), if_neg q3]
   rw [e] at hR
   refine rn6 ?_
   refine zN rfl rfl rfl ct ?_
   refine rn2 ?_
   exact zJ hR rfl rfl
def zDR (q : Mv → Bool) (l : List Mv) : List Mv := l.filter (fun x => !(q x))
theorem zKm (q : Mv → Bool) (l : List Mv) {j : Nat} (h : j < l.length) : zDR q (l.take (j + 1)) = if q (l.getD j mv0) = true then zDR q (l.take j) else zDR q (l.take j) ++ [l.getD j mv0] := by
 unfold zDR
 rw [zz l mv0 j h, List.filter_append]
 cases hq : q (l.getD j mv0) with
 | true => rw [if_pos rfl, List.filter_cons_of_neg (by rw [hq]; decide)]; simp
 | false => rw [if_neg (by decide), List.filter_cons_of_pos (by rw [hq]; rfl)]; rfl
theorem zMR (q : Mv → Bool) {l : List Mv} (h : ∀ x ∈ l, q x = false) : zDR q l = l := by
 unfold zDR
 rw [List.filter_eq_self]
 intro a ha
 rw [h a ha]; rfl
theorem keep_len (q : Mv → Bool) (l : List Mv) : (zDR q l).length ≤ l.length := List.length_filter_le ..
/-- slices.DeleteFunc of moves -/
theorem zOV (l : List Mv) (g : FuncId) (X Y Z : Cells) (q : Mv → Bool) (hl : l.length ≤ 100000) (hq : ∀ x ∈ l, zj Tryz.prog g ([mvA x] ++ [.rp X 0 0, .rp Y 0 0, .rp Z 0 0]) (.bool (q x))) :
 zb Tryz.prog 102 [.sl 0 0 l.length, .fn g [.rp X 0 0, .rp Y 0 0, .rp Z 0 0]] [some ⟨58, zA2 l⟩] (fun h => h < 1) (fun r H => r = .sl 0 0 (zDR q l).length ∧ H = [some ⟨58, zA2 (zDR q l ++ List.replicate (l.length - (zDR q l).length) mv0)⟩]) := by
 have ci := zIS l l.length g [.rp X 0 0, .rp Y 0 0, .rp Z 0 0] q (Nat.le_refl _) rfl (by omega) hq
 rw [List.take_length, zJL] at ci
 refine zM (P := Tryz.prog) (fn := Tryz.f102) rfl rfl (by kernel_rfl) rfl (fun c hR hfix => ?_)
 by_cases hi : l.findIdx q < l.length
 ·rw [if_pos hi] at ci
  have hqi : q (l.getD (l.findIdx q) mv0) = true := by rw [zDP mv0 hi]; exact List.findIdx_getElem (w := hi)
  have hpre : zDR q (l.take (l.findIdx q)) = l.take (l.findIdx q) := zMR q (fun x hx => by
   obtain ⟨j, hj, rfl⟩ := List.mem_iff_getElem.1 hx
   rw [List.length_take] at hj
   rw [List.getElem_take]
   have := List.not_of_lt_findIdx (p := q) (xs := l) (i := j) (by omega)
   simpa using this)
  have hpl : (l.take (l.findIdx q)).length = l.findIdx q := by rw [List.length_take]; omega
  have hst := zKm q l hi
  rw [if_pos hqi, hpre] at hst
  generalize hI : l.findIdx q = i at *
  refine rn0 ?_
  refine zLv rfl rfl rfl rfl ci (zEd (zAV zDA)) ⟨fun o ho => by cases ho; show 0 + l.length ≤ l.length; omega, ⟨trivial, trivial, trivial, trivial⟩, trivial⟩ rfl rfl rfl ?_
  refine rn4 ?_
  refine zAA (ι := Nat) (fun j => [(0, .sl 0 0 l.length), (1, .fn g [.rp X 0 0, .rp Y 0 0, .rp Z 0 0]), (5, .int .i64 ((zDR q (l.take j)).length : Nat)), (6, iN j)]) (fun j => [some ⟨58, zA2 (zDR q (l.take j) ++ l.drop (zDR q (l.take j)).length)⟩]) (fun j => j ≤ l.length ∧ (zDR q (l.take j)).length < j) (fun j => l.length - j) (i + 1) ⟨⟨rfl, rfl, ?_, ?_, trivial⟩, ?_, by omega, ?_⟩ ?_
  ·rw [hst, hpl]; rfl
  ·show some (AV.int .i64 _) = some (AV.int .i64 _)
   congr 2
  ·rw [hst, hpl, List.take_append_drop]
  ·rw [hst, hpl]; omega
  intro j ⟨hj, hjc⟩
  have hsu := fun (h : j < l.length) => zKm q l h
  have hKl := keep_len q l
  obtain ⟨A, hA⟩ : ∃ A, zDR q (l.take j) = A := ⟨_, rfl⟩
  rw [hA] at hjc hsu ⊢
  have hXl : (A ++ l.drop A.length).length = l.length := by rw [List.length_append, List.length_drop]; omega
  have hXg : ∀ i, A.length ≤ i → (A ++ l.drop A.length).getD i mv0 = l.getD i mv0 := fun i q => by rw [zKi q, zFU]; congr 1; omega
  obtain ⟨B, hB⟩ : ∃ B, A ++ l.drop A.length = B := ⟨_, rfl⟩
  rw [hB] at hXl hXg ⊢
  refine rn4 ?_
  refine zD rfl (fun q2 => ?_) (fun q2 => ?_)
  ·have hj' : j < l.length := by omega
   have hsu := hsu hj'
   have hgj := hXg j (by omega)
   have cq := hq (l.getD j mv0) (zAL mv0 hj')
   obtain ⟨m, hm⟩ : ∃ m, l.getD j mv0 = m := ⟨_, rfl⟩
   rw [hm] at hsu hgj cq
   have hjB : j < B.length := by omega
   repeat (first | refine zA (zG rfl) ?_ | refine zB ?_ | refine zZ ?_ | refine zK rfl ?_ | refine zAe ?_ | refine zAO ?_ | refine zA (zr rfl rfl rfl rfl rfl (by first | (simp only [Nat.zero_add, Int.toNat_natCast, Int.toNat_zero]; exact rfl) | exact rfl) (by omega)) ?_ | refine zA (qpp rfl rfl rfl rfl rfl rfl rfl) ?_)
   repeat (refine zAG rfl rfl rfl ?_)
   refine zd (mvC m) rfl rfl rfl rfl rfl (by rw [← hgj]; rfl) rfl ?_
   refine zBC ?_
   refine zCU [some ⟨58, zA2 B⟩] 7 [(0, .sl 0 0 l.length), (1, .fn g [.rp X 0 0, .rp Y 0 0, .rp Z 0 0]), (5, iN A.length), (6, iN j)] rfl rfl ⟨rfl, rfl, rfl, rfl, trivial⟩ ⟨rfl, rfl, rfl, rfl, rfl, trivial⟩ (zBs (zFE _) zBP) rfl (fun h q => by rw [hfix] at q; exact q) ?_
   refine rn6 ?_
   refine zN rfl rfl rfl cq ?_
   refine rn5 ?_
   cases hqm : q m with
   | true =>
    rw [if_pos hqm] at hsu
    refine rn5 ?_
    exact zS ⟨j + 1, ⟨by omega, by rw [hsu]; omega⟩, by omega, ⟨rfl, rfl, by rw [hsu]; rfl, rfl, trivial⟩, by rw [hsu, hB]⟩
   | false =>
    rw [if_neg (by rw [hqm]; decide)] at hsu
    have hAB : A.length < B.length := by omega
    have hnl : (A ++ [m]).length = A.length + 1 := by rw [List.length_append]; rfl
    refine rn6 ?_
    refine zDp (c' := zA2 ((A ++ [m]) ++ l.drop (A.length + 1))) rfl rfl rfl rfl rfl hAB ?_ rfl (fun i' j' hi' hj' => ?_) ?_
    ·show ((A ++ [m]) ++ l.drop (A.length + 1)).length = B.length
     rw [List.length_append, hnl, List.length_drop]; omega
    ·have hj' : j' < 3 := hj'
     show (mvC (((A ++ [m]) ++ l.drop (A.length + 1)).getD i' mv0)).getD j' .any = _
     rw [zKz, hB]
     by_cases e : i' = A.length
     ·rw [if_pos e, if_pos e]
      match j', hj' with
      | 0, _ => rfl
      | 1, _ => rfl
      | 2, _ => rfl
     ·rw [if_neg e, if_neg e]; rfl
    refine rn5 ?_
    refine zS ⟨j + 1, ⟨by omega, by rw [hsu, hnl]; omega⟩, by omega, ⟨rfl, rfl, ?_, rfl, trivial⟩, ?_⟩
    ·show some (AV.int .i64 _) = some (AV.int .i64 _)
     congr 2; rw [hsu, hnl]; omega
    ·rw [hsu, hnl]; rfl
  ·have hj' : j = l.length := by omega
   subst hj'
   rw [List.take_length] at hA
   have hAk : A.length < l.length := by omega
   refine rn17 ?_
   refine zA4 38 (.sl 0 A.length (l.length - A.length)) rfl (AEq.of_eq (by congr 1 <;> omega)) ?_
   refine zKS (zs := [.int .i64 0, .int .i64 0, .int .i64 0]) (s := 3) (c' := zA2 (A ++ List.replicate (l.length - A.length) mv0)) rfl rfl rfl rfl rfl rfl rfl (fun j' hj' w S σ => ?_) rfl (by omega) rfl (by show A.length + (l.length - A.length) ≤ B.length; omega) ?_ rfl (fun i' j' hi' hj' => ?_) ?_
   ·match j', hj' with
    | 0, _ => exact .int _ _ _
    | 1, _ => exact .int _ _ _
    | 2, _ => exact .int _ _ _
   ·show (A ++ List.replicate (l.length - A.length) mv0).length = B.length
    rw [List.length_append, List.length_replicate]; omega
   ·have hj' : j' < 3 := hj'
    have hi' : i' < B.length := hi'
    show (mvC ((A ++ List.replicate (l.length - A.length) mv0).getD i' mv0)).getD j' .any = _
    by_cases e : i' < A.length
    ·rw [if_neg (by omega), zBf, if_pos e]
     show _ = (mvC (B.getD i' mv0)).getD j' .any
     rw [← hB, zBf, if_pos e]
    ·rw [if_pos (by omega), zBf, if_neg e, zLZ]
     match j', hj' with
     | 0, _ => rfl
     | 1, _ => rfl
     | 2, _ => rfl
   refine rn0 ?_
   refine zA (zMl rfl rfl rfl rfl rfl rfl rfl rfl (by omega)) ?_
   refine rn0 ?_
   refine zJ hR rfl ⟨?_, ?_⟩
   ·rw [hA]; rfl
   ·rw [hA]; rfl
 ·rw [if_neg hi] at ci
  have hk : zDR q l = l := zMR q (fun x hx => by
   rw [← Bool.not_eq_true]
   intro c
   exact hi (List.findIdx_lt_length_of_exists ⟨x, hx, c⟩))
  rw [hk] at hR
  refine rn0 ?_
  refine zLv rfl rfl rfl rfl ci (zEd (zAV zDA)) ⟨fun o ho => by cases ho; show 0 + l.length ≤ l.length; omega, ⟨trivial, trivial, trivial, trivial⟩, trivial⟩ rfl rfl rfl ?_
  refine rn5 ?_
  exact zJ hR rfl ⟨rfl, by rw [Nat.sub_self]; simp⟩
abbrev zBY (k : Nat) : Int := 2 * (k : Int) + 1
/-- the closure of puzzle.all -/
theorem allc_ok (r : Go.Ax.Gm.Rules) (p : Pos) (m : Mv) (n : Int) (b : Bool) (hw : zj Tryz.prog 104 [ruA r, poA p, mvA m, .int .i64 n] (.bool b)) :
 zj Tryz.prog 103 [mvA m, .rp (.box (ruC r)) 0 0, .rp (.box (poC p)) 0 0, .rp (.box [.int .i64 n]) 0 0] (.bool (!b)) := by
 refine zb.value0 (zM (P := Tryz.prog) (fn := Tryz.f103) rfl rfl (by kernel_rfl) rfl (fun c hR hfix => ?_)) (fix := fun _ => False) (fun _ h => h) rfl rfl
 repeat (first | refine zA (zP rfl) ?_ | refine zC ?_ | refine zB ?_ | refine zZ ?_ | refine zK rfl ?_ | refine zA (zF rfl rfl rfl rfl) ?_ | refine zA (zf rfl rfl rfl rfl rfl rfl) ?_ | refine zA (qpp rfl rfl rfl rfl rfl rfl rfl) ?_ | refine zAQ rfl rfl ?_)
 refine zN rfl rfl rfl hw ?_
 refine rn5 ?_
 exact zJ hR rfl rfl
/-- puzzle.all, from puzzle.wins -/
theorem zNu (r : Go.Ax.Gm.Rules) (hv : ValidR r) (k : Nat) (p : Pos) (S : Sound r p) (hw : ∀ m ∈ zo r p, zj Tryz.prog 104 [ruA r, poA p, mvA m, .int .i64 (zBY k)] (.bool (zAT r k p m))) :
 zj Tryz.prog 70 [ruA r, poA p, .int .i64 (zBY k)] (zAy (zAr r k p)) := by
 have hml := zCc hv S
 have hk : zDR (fun m => !(zAT r k p m)) (zo r p) = zAr r k p := by
  unfold zDR zAr
  refine List.filter_congr (fun m _ => ?_)
  rw [Bool.not_not]
 have cd := zOV (zo r p) 103 (.box (ruC r)) (.box (poC p)) (.box [.int .i64 (zBY k)]) (fun m => !(zAT r k p m)) (by omega) (fun m hm => allc_ok r p m (zBY k) _ (hw m hm))
 rw [hk] at cd
 refine zb.value (K := fun v H => v = .sl 0 0 (zAr r k p).length ∧ H = [some ⟨58, zA2 (zAr r k p)⟩]) (zM (P := Tryz.prog) (fn := Tryz.f70) rfl rfl (by kernel_rfl) rfl (fun c hR hfix => ?_)) (fix := fun _ => False) (fun _ h => h) rfl ?_
 ·refine zZ ?_
  repeat (first | refine zA (zP rfl) ?_ | refine zC ?_ | refine zB ?_ | refine zK rfl ?_ | refine zAQ rfl rfl ?_)
  refine zFs [(3, .rp (.box (ruC r)) 0 0), (4, .rp (.box (poC p)) 0 0), (5, .rp (.box [.int .i64 (zBY k)]) 0 0)] (zBz (zt rfl) (zBz (zt rfl) (zBz (zt rfl) zCg))) ⟨⟨_, rfl, .inr (.inr ⟨rfl, fun o ho => by cases ho; exact Nat.zero_lt_one⟩)⟩, ⟨_, rfl, .inr (.inr ⟨rfl, fun o ho => by cases ho; exact Nat.zero_lt_one⟩)⟩, ⟨_, rfl, .inr (.inr ⟨rfl, fun o ho => by cases ho; exact Nat.zero_lt_one⟩)⟩, trivial⟩ ⟨rfl, rfl, rfl, trivial⟩ rfl hfix ?_
  refine rn6 ?_
  refine zEK rfl rfl rfl (listF_ok r hv p S) ?_
  repeat (refine zA (zCw rfl) ?_)
  refine zCG rfl rfl rfl cd (fun _ h => h) (fun _ h => h) ?_
  rintro r' H' ⟨rfl, rfl⟩
  refine rn7 ?_
  refine zLz 0 (zA2 (zAr r k p)) rfl ⟨?_, rfl, fun i j hi hj => ?_⟩ ?_
  ·show (zAr r k p).length ≤ (zAr r k p ++ List.replicate ((zo r p).length - (zAr r k p).length) mv0).length
   rw [List.length_append]; omega
  ·show (mvC ((zAr r k p).getD i mv0)).getD j .any = (mvC ((zAr r k p ++ List.replicate ((zo r p).length - (zAr r k p).length) mv0).getD i mv0)).getD j .any
   have hi : i < (zAr r k p).length := hi
   rw [zBf, if_pos hi]
  repeat (refine zAC ?_)
  exact zJ hR rfl ⟨rfl, rfl⟩
 ·rintro v H ⟨rfl, rfl⟩
  refine ⟨rfl, ?_, fun h o ho => zEd (zAV zDA) h o ho⟩
  intro o ho; simp at ho; subst ho; show 0 + (zAr r k p).length ≤ (zAr r k p).length; omega
/-- puzzle.wins -/
theorem wins_ok' (r : Go.Ax.Gm.Rules) (hv : ValidR r) : ∀ (k : Nat) (hk : k ≤ 100) (p : Pos) (S : Sound r p) (m : Mv) (hm : m ∈ zo r p), zj Tryz.prog 104 [ruA r, poA p, mvA m, .int .i64 (zBY k)] (.bool (zAT r k p m)) := by
 intro k
 induction k with
 | zero =>
  intro hk p S m hm
  have Sq := zBg hv S hm
  have ht := S.tn
  refine zb.value0 (zM (P := Tryz.prog) (fn := Tryz.f104) rfl rfl (by kernel_rfl) rfl (fun c hR hfix => ?_)) (fix := fun _ => False) (fun _ h => h) rfl rfl
  refine rn6 ?_
  refine zN rfl rfl rfl (zDm r hv p S m (Go.Ax.Gm.list_ok hv S hm)) ?_
  repeat (refine zAG rfl rfl rfl ?_)
  refine zd (poC (zQ r p m)) rfl rfl rfl rfl rfl rfl rfl ?_
  refine rn6 ?_
  refine zN rfl rfl rfl (zCO r hv (zQ r p m) Sq) ?_
  refine rn3 ?_
  refine zD rfl (fun q => ?_) (fun q => ?_)
  ·have e := zDI (k := 0) (m := m) q
   rw [e] at hR
   refine rn4 ?_
   exact zJ hR rfl rfl
  ·have e := zFj (m := m) ht (Classical.not_not.1 q)
   rw [e] at hR
   refine rn5 ?_
   exact zJ hR rfl rfl
 | succ k ih =>
  intro hk p S m hm
  have Sq := zBg hv S hm
  have ht := S.tn
  have e2 : zBY (k + 1) - 2 = zBY k := by show 2 * ((k + 1 : Nat) : Int) + 1 - 2 = 2 * (k : Int) + 1; omega
  have hall : ∀ s, Sound r s → zj Tryz.prog 70 [ruA r, poA s, .int .i64 (zBY k)] (zAy (zAr r k s)) := fun s Ss => zNu r hv k s Ss (fun x hx => ih (by omega) s Ss x hx)
  have hpl : zBY (k + 1) = 2 * ((k + 1 : Nat) : Int) + 1 := rfl
  generalize hN : zBY (k + 1) = N at e2 hpl
  refine zb.value0 (zM (P := Tryz.prog) (fn := Tryz.f104) rfl rfl (by kernel_rfl) rfl (fun c hR hfix => ?_)) (fix := fun _ => False) (fun _ h => h) rfl rfl
  refine zZ ?_
  repeat (first | refine zA (zP rfl) ?_ | refine zC ?_ | refine zB ?_ | refine zK rfl ?_ | refine zAQ rfl rfl ?_)
  refine zFs [(4, .rp (.box (ruC r)) 0 0), (5, .rp (.box (poC p)) 0 0), (6, .rp (.box (mvC m)) 0 0), (3, .int .i64 N)] (zBz (zt rfl) (zBz (zt rfl) (zBz (zt rfl) zCg))) ⟨⟨_, rfl, .inr (.inr ⟨rfl, fun o ho => by cases ho; exact Nat.zero_lt_one⟩)⟩, ⟨_, rfl, .inr (.inr ⟨rfl, fun o ho => by cases ho; exact Nat.zero_lt_one⟩)⟩, ⟨_, rfl, .inr (.inr ⟨rfl, fun o ho => by cases ho; exact Nat.zero_lt_one⟩)⟩, ⟨_, rfl, .inl rfl⟩, trivial⟩ ⟨rfl, rfl, rfl, rfl, trivial⟩ rfl hfix ?_
  repeat (first | refine zA (zP rfl) ?_ | refine zC ?_ | refine zB ?_ | refine zZ ?_ | refine zK rfl ?_ | refine zA (zBA rfl rfl (by omega)) ?_ | refine zA (zF rfl rfl rfl rfl) ?_ | refine zA (zL rfl rfl rfl rfl rfl rfl) ?_ | refine zA (zf rfl rfl rfl rfl rfl rfl) ?_)
  refine zN rfl rfl rfl (zDm r hv p S m (Go.Ax.Gm.list_ok hv S hm)) ?_
  repeat (refine zAG rfl rfl rfl ?_)
  refine zd (poC (zQ r p m)) rfl rfl rfl rfl rfl rfl rfl ?_
  refine zBC ?_
  have hW : ze r (zQ r p m) = 0 → zAT r (k + 1) p m = (zo r (zQ r p m)).all (zE3 r (zAT r k) (1 + p.turn) (zQ r p m)) := fun c => by rw [zAT, if_neg (fun d => d c)]
  have hOv := fun c => zDI (r := r) (k := k + 1) (p := p) (m := m) c
  generalize hQ : zQ r p m = Q at *
  refine zB1 10 [(4, .rp (.box (ruC r)) 0 0), (3, .int .i64 N), (9, .int .i64 (1 + p.turn))] rfl ⟨rfl, rfl, rfl, rfl, trivial⟩ ⟨rfl, rfl, rfl, trivial⟩ rfl hfix ?_
  refine rn6 ?_
  refine zN rfl rfl rfl (zCO r hv Q Sq) ?_
  refine rn3 ?_
  refine zD rfl (fun q => ?_) (fun q => ?_)
  ·rw [hOv q] at hR
   refine rn4 ?_
   exact zJ hR rfl rfl
  have q := Classical.not_not.1 q
  have hW := hW q
  refine rn4 ?_
  refine zD rfl (fun q3 => ?_) (fun q3 => ?_)
  ·exact absurd q3 (by omega)
  have hml := zCc hv Sq
  have cl := list_ok r hv Q Sq
  have hms : ∀ a ∈ zo r Q, MvOK r Q a ∧ Sound r (zQ r Q a) := fun a ha => ⟨Go.Ax.Gm.list_ok hv Sq ha, zBg hv Sq ha⟩
  generalize hM : zo r Q = ms at *
  refine rn6 ?_
  refine zN rfl rfl rfl cl ?_
  refine rn3 ?_
  refine zAA (ι := Nat) (fun j => [(10, .rp (.box (poC Q)) 0 0), (4, .rp (.box (ruC r)) 0 0), (3, .int .i64 N), (9, .int .i64 (1 + p.turn)), (34, zAy ms), (35, iN ms.length), (36, iN j)]) (fun _ => []) (fun j => j ≤ ms.length ∧ (ms.take j).all (zE3 r (zAT r k) (1 + p.turn) Q) = true) (fun j => ms.length - j) 0 ⟨⟨rfl, rfl, rfl, rfl, rfl, rfl, rfl, trivial⟩, rfl, Nat.zero_le _, rfl⟩ ?_
  intro j ⟨hj, hall2⟩
  refine rn4 ?_
  refine zD rfl (fun g => ?_) (fun g => ?_)
  ·have hj' : j < ms.length := by omega
   have hmem := zAL mv0 hj'
   have hst : (ms.take (j + 1)).all (zE3 r (zAT r k) (1 + p.turn) Q) = zE3 r (zAT r k) (1 + p.turn) Q (ms.getD j mv0) := by
    rw [zz ms mv0 j hj', List.all_append, hall2]; simp
   have hno : zE3 r (zAT r k) (1 + p.turn) Q (ms.getD j mv0) = false → ms.all (zE3 r (zAT r k) (1 + p.turn) Q) = false := fun c => by
    rw [← Bool.not_eq_true, List.all_eq_true]
    intro d
    rw [d _ hmem] at c; cases c
   obtain ⟨a, ha⟩ : ∃ a, ms.getD j mv0 = a := ⟨_, rfl⟩
   rw [ha] at hmem hst hno
   obtain ⟨ha1, ha2⟩ := hms a hmem
   have hans : zE3 r (zAT r k) (1 + p.turn) Q a = if ze r (zQ r Q a) = 1 + p.turn then true else if ze r (zQ r Q a) = 0 then (zo r (zQ r Q a)).any (zAT r k (zQ r Q a)) else false := rfl
   have cs := hall (zQ r Q a) ha2
   have cres := zCO r hv (zQ r Q a) ha2
   have cmk := zDm r hv Q Sq a ha1
   have hal : (zAr r k (zQ r Q a)).length ≤ 10000 := Nat.le_trans (List.length_filter_le ..) (zCc hv ha2)
   have hne := zK6 (r := r) (k := k) (p := zQ r Q a)
   generalize hSS : zQ r Q a = s at *
   refine zFc ?_
   repeat (refine zAG rfl rfl rfl ?_)
   refine zd (mvC a) rfl rfl rfl rfl rfl (by rw [← ha]; rfl) rfl ?_
   refine rn6 ?_
   refine zN rfl rfl rfl cmk ?_
   repeat (refine zAG rfl rfl rfl ?_)
   refine zd (poC s) rfl rfl rfl rfl rfl rfl rfl ?_
   refine rn6 ?_
   refine zN rfl rfl rfl cres ?_
   refine rn4 ?_
   refine zD rfl (fun h1 => ?_) (fun h1 => ?_)
   ·rw [if_pos h1] at hans
    refine zJl ?_
    refine zB ?_
    refine zBZ [] [some ⟨58, .box (mvC a)⟩, some ⟨35, .box (poC s)⟩] [(10, .rp (.box (poC Q)) 0 0), (4, .rp (.box (ruC r)) 0 0), (3, .int .i64 N), (9, .int .i64 (1 + p.turn)), (34, zAy ms), (35, iN ms.length), (36, iN j)] rfl ⟨rfl, rfl, rfl, rfl, rfl, rfl, rfl, trivial⟩ (fun h hh => by rw [hfix] at hh; exact absurd hh id) (fun h o ho => by simp at ho) rfl ?_
    refine rn3 ?_
    exact zS ⟨j + 1, ⟨by omega, by rw [hst, hans]⟩, by omega, ⟨rfl, rfl, rfl, rfl, rfl, rfl, rfl, trivial⟩, rfl⟩
   rw [if_neg h1] at hans
   refine rn4 ?_
   refine zD rfl (fun h2 => ?_) (fun h2 => ?_)
   ·rw [if_pos h2] at hans
    repeat (first | refine zA (zG rfl) ?_ | refine zZ ?_ | refine zK rfl ?_ | refine zA (zBR rfl rfl (by omega)) ?_ | refine zA (zf rfl rfl rfl rfl rfl rfl) ?_ | refine zA (qpp rfl rfl rfl rfl rfl rfl rfl) ?_)
    rw [e2]
    skip
    refine zN rfl rfl rfl cs ?_
    refine rn4 ?_
    refine zD rfl (fun h3 => ?_) (fun h3 => ?_)
    ·have h3 : zAr r k s = [] := List.length_eq_zero_iff.mp (by omega)
     have hf : (zo r s).any (zAT r k s) = false := by
      rw [← Bool.not_eq_true, ← hne, h3]; exact fun d => d rfl
     rw [hf] at hans
     refine rn6 ?_
     rw [hW, hno hans] at hR
     exact zJ hR rfl rfl
    ·have h3 : zAr r k s ≠ [] := fun d => h3 (by rw [d]; rfl)
     rw [hne.1 h3] at hans
     refine zJl ?_
     refine zB ?_
     refine zBZ [] [some ⟨58, .box (mvC a)⟩, some ⟨35, .box (poC s)⟩] [(10, .rp (.box (poC Q)) 0 0), (4, .rp (.box (ruC r)) 0 0), (3, .int .i64 N), (9, .int .i64 (1 + p.turn)), (34, zAy ms), (35, iN ms.length), (36, iN j)] rfl ⟨rfl, rfl, rfl, rfl, rfl, rfl, rfl, trivial⟩ (fun h hh => by rw [hfix] at hh; exact absurd hh id) (fun h o ho => by simp at ho) rfl ?_
     refine rn3 ?_
     exact zS ⟨j + 1, ⟨by omega, by rw [hst, hans]⟩, by omega, ⟨rfl, rfl, rfl, rfl, rfl, rfl, rfl, trivial⟩, rfl⟩
   ·rw [if_neg h2] at hans
    refine rn6 ?_
    rw [hW, hno hans] at hR
    exact zJ hR rfl rfl
  ·have hj' : j = ms.length := by omega
   subst hj'
   rw [List.take_length] at hall2
   rw [hW, hall2] at hR
   refine rn5 ?_
   exact zJ hR rfl rfl
theorem zNv (r : Go.Ax.Gm.Rules) (hv : ValidR r) (k : Nat) (hk : k ≤ 100) (p : Pos) (S : Sound r p) : zj Tryz.prog 70 [ruA r, poA p, .int .i64 (zBY k)] (zAy (zAr r k p)) :=
 zNu r hv k p S (fun x hx => wins_ok' r hv k hk p S x hx)
theorem zLr {r : Go.Ax.Gm.Rules} (hv : ValidR r) (k : Nat) {p : Pos} (S : Sound r p) : (zAr r k p).length ≤ 10000 := Nat.le_trans (List.length_filter_le ..) (zCc hv S)
theorem zII (r : Go.Ax.Gm.Rules) (p : Pos) (n : Int) : (zCi r p n).length ≤ 10000 := by
 unfold zCi
 split
 ·exact Nat.zero_le _
 ·rename_i h
  obtain ⟨k, e, hc⟩ := zFv (Classical.not_not.1 h)
  exact zLr hc.v _ hc.S
/-- puzzle.Wins -/
theorem zFM (r : Go.Ax.Gm.Rules) (hr : Lens r) (p : Pos) (hp : LenP p) (n : Int) : zj Tryz.prog 36 [ruA r, poA p, .int .i64 n] (.tup [zAy (zCi r p n), .int .i64 (zAF r p n)]) := by
 refine zb.value0 (zM (P := Tryz.prog) (fn := Tryz.f36) rfl rfl (by kernel_rfl) rfl (fun c hR hfix => ?_)) (fix := fun _ => False) (fun _ h => h) rfl rfl
 refine rn6 ?_
 refine zN rfl rfl rfl (zHy r hr p hp n) ?_
 refine rn3 ?_
 refine zD rfl (fun q => ?_) (fun q => ?_)
 ·have q : zAF r p n ≠ 0 := q
  have e : zCi r p n = [] := by unfold zCi; rw [if_pos q]
  rw [e] at hR
  refine rn7 ?_
  refine zBM 6 (zAy []) rfl AEq.nil ?_
  refine rn2 ?_
  exact zJ hR rfl rfl
 ·have q : zAF r p n = 0 := Classical.not_not.1 q
  obtain ⟨k, e, hc⟩ := zFv q
  have e2 : zCi r p n = zAr r k p := by unfold zCi; rw [if_neg (fun d => d q), e, zFA]
  rw [e2, q] at hR
  have ca := zNv r hc.v k (Nat.le_trans hc.k2 (by omega)) p hc.S
  have e3 : zBY k = n := e.symm
  rw [e3] at ca
  refine rn6 ?_
  refine zN rfl rfl rfl ca ?_
  refine rn0 ?_
  exact zJ hR rfl rfl
/-- puzzle.Single -/
theorem zPB (r : Go.Ax.Gm.Rules) (hr : Lens r) (p : Pos) (hp : LenP p) (n : Int) : zj Tryz.prog 37 [ruA r, poA p, .int .i64 n] (.tup [mvA (zIx r p n), .int .i64 (zFh r p n)]) := by
 refine zb.value0 (zM (P := Tryz.prog) (fn := Tryz.f37) rfl rfl (by kernel_rfl) rfl (fun c hR hfix => ?_)) (fix := fun _ => False) (fun _ h => h) rfl rfl
 have hl := zII r p n
 have hwl : zAF r p n = 0 → zCi r p n = zAr r (zBy n) p := fun q => by unfold zCi; rw [if_neg (fun d => d q)]
 have hE : zFh r p n = if zAF r p n ≠ 0 then zAF r p n else if (zAr r (zBy n) p).length = 0 then 8 else if 1 < (zAr r (zBy n) p).length then 7 else 0 := rfl
 have hM : zIx r p n = if zFh r p n ≠ 0 then mv0 else (zAr r (zBy n) p).getD 0 mv0 := rfl
 refine rn6 ?_
 refine zN rfl rfl rfl (zFM r hr p hp n) ?_
 refine rn3 ?_
 refine zD rfl (fun q => ?_) (fun q => ?_)
 ·have q : zAF r p n ≠ 0 := q
  rw [if_pos q] at hE
  rw [if_pos (by rw [hE]; exact q)] at hM
  rw [hE, hM] at hR
  refine rn8 ?_
  refine zd (mvC mv0) rfl rfl rfl rfl rfl rfl rfl ?_
  refine rn6 ?_
  exact zJ hR rfl rfl
 have q : zAF r p n = 0 := Classical.not_not.1 q
 rw [if_neg (fun d => d q), ← hwl q] at hE
 rw [← hwl q] at hM
 generalize hW : zCi r p n = w at *
 refine rn4 ?_
 refine zD rfl (fun q2 => ?_) (fun q2 => ?_)
 ·rw [if_pos (by omega)] at hE
  rw [if_pos (by rw [hE]; decide)] at hM
  rw [hE, hM] at hR
  refine rn8 ?_
  refine zd (mvC mv0) rfl rfl rfl rfl rfl rfl rfl ?_
  refine rn6 ?_
  exact zJ hR rfl rfl
 rw [if_neg (by omega)] at hE
 refine rn6 ?_
 refine zD rfl (fun q3 => ?_) (fun q3 => ?_)
 ·rw [if_pos (by omega)] at hE
  rw [if_pos (by rw [hE]; decide)] at hM
  rw [hE, hM] at hR
  refine rn8 ?_
  refine zd (mvC mv0) rfl rfl rfl rfl rfl rfl rfl ?_
  refine rn6 ?_
  exact zJ hR rfl rfl
 rw [if_neg (by omega)] at hE
 rw [if_neg (by rw [hE]; decide)] at hM
 rw [hE, hM] at hR
 refine rn6 ?_
 refine zd (mvC (w.getD 0 mv0)) rfl rfl rfl rfl rfl rfl rfl ?_
 refine rn0 ?_
 exact zJ hR rfl rfl
/-- puzzle.Least -/
theorem least_ok (r : Go.Ax.Gm.Rules) (hr : Lens r) (p : Pos) (hp : LenP p) : zj Tryz.prog 41 [ruA r, poA p] (.tup [.int .i64 (zJP r p).1, .int .i64 (zJP r p).2]) := by
 refine zb.value0 (zM (P := Tryz.prog) (fn := Tryz.f41) rfl rfl (by kernel_rfl) rfl (fun c hR hfix => ?_)) (fix := fun _ => False) (fun _ h => h) rfl rfl
 refine zZ ?_
 repeat (first | refine zA (zP rfl) ?_ | refine zC ?_ | refine zB ?_ | refine zK rfl ?_ | refine zAQ rfl rfl ?_)
 refine zC0 2 3 [] rfl rfl rfl rfl trivial ⟨rfl, rfl, trivial⟩ rfl hfix ?_
 refine rn1 ?_
 refine zAA (ι := Nat) (fun k => [(2, .rp (.box (ruC r)) 0 0), (3, .rp (.box (poC p)) 0 0), (6, .int .i64 (2 * (k : Nat) + 1))]) (fun _ => []) (fun k => k ≤ 3 ∧ zJP r p = zH6 r p (3 - k) k) (fun k => 3 - k) 0 ⟨⟨rfl, rfl, rfl, trivial⟩, rfl, by omega, rfl⟩ ?_
 intro k ⟨hk, hL⟩
 refine rn8 ?_
 refine zD rfl (fun g => ?_) (fun g => ?_)
 ·have hk3 : k < 3 := by omega
  rw [show 3 - k = (3 - (k + 1)) + 1 by omega, zH6] at hL
  have hwl : zAF r p (2 * (k : Int) + 1) = 0 → zCi r p (2 * (k : Int) + 1) = zAr r k p := fun q => by unfold zCi; rw [if_neg (fun d => d q), zFA]
  have hl := zII r p (2 * (k : Int) + 1)
  refine rn6 ?_
  refine zN rfl rfl rfl (zFM r hr p hp (2 * (k : Int) + 1)) ?_
  refine rn3 ?_
  refine zD rfl (fun q => ?_) (fun q => ?_)
  ·have q : zAF r p (2 * (k : Int) + 1) ≠ 0 := q
   rw [if_pos q] at hL
   rw [hL] at hR
   refine rn6 ?_
   exact zJ hR rfl rfl
  have q : zAF r p (2 * (k : Int) + 1) = 0 := Classical.not_not.1 q
  rw [if_neg (fun d => d q), ← hwl q] at hL
  generalize hW : zCi r p (2 * (k : Int) + 1) = w at *
  refine rn6 ?_
  refine zD rfl (fun q2 => ?_) (fun q2 => ?_)
  ·rw [if_pos (by omega)] at hL
   rw [hL] at hR
   refine rn6 ?_
   exact zJ hR rfl rfl
  ·rw [if_neg (by omega)] at hL
   refine rn5 ?_
   have e : (2 * (k : Int) + 1 + 2) = 2 * ((k + 1 : Nat) : Int) + 1 := by omega
   exact zS ⟨k + 1, ⟨by omega, hL⟩, by omega, ⟨rfl, rfl, by rw [← e]; rfl, trivial⟩, rfl⟩
 ·have hk3 : k = 3 := by omega
  subst hk3
  rw [show zH6 r p (3 - 3) 3 = (0, 8) from rfl] at hL
  rw [hL] at hR
  refine rn5 ?_
  exact zJ hR rfl rfl
def zEO (r : Go.Ax.Gm.Rules) (n : Int) : Int := if zAY r ≠ 0 then zAY r else if zJa n = false then 4 else zDX r
def zDq (r : Go.Ax.Gm.Rules) (n : Int) : List Pos := if zEO r n ≠ 0 then [] else match zEz r with
 | some x => zDN (zEF r x) n
 | none => []
theorem zO0 (a : Pos) (j : Nat) (hj : j < 5) : noRef ((poC a).getD j .any) = true := by
 match j, hj with
 | 0, _ => rfl
 | 1, _ => rfl
 | 2, _ => rfl
 | 3, _ => rfl
 | 4, _ => rfl
def zB2 (T : Tab) (n : Int) (k : Nat) : List Pos := (T.l.take k).filter (fun p => decide (zDW T p = (1 + p.turn, n)) && decide ((zC8 T p).length = 1))
theorem zMB {T : Tab} (h : TabOK T) (n : Int) {k : Nat} (hk : k < T.l.length) : zB2 T n (k + 1) = if zBN T k = (1 + (T.l.getD k zu).turn, n) ∧ (zC8 T (T.l.getD k zu)).length = 1 then zB2 T n k ++ [T.l.getD k zu] else zB2 T n k := by
 have e := (h.in_at hk).2
 unfold zB2
 rw [zz _ zu k hk, List.filter_append]
 generalize hP : T.l.getD k zu = P at *
 by_cases c : zBN T k = (1 + P.turn, n) ∧ (zC8 T P).length = 1
 ·rw [if_pos c, List.filter_cons_of_pos (by rw [e, decide_eq_true c.1, decide_eq_true c.2]; rfl)]; rfl
 ·rw [if_neg c, List.filter_cons_of_neg (by rw [e, Bool.and_eq_true, decide_eq_true_eq, decide_eq_true_eq]; exact c)]; simp
theorem zNE (T : Tab) (n : Int) (k : Nat) : (zB2 T n k).length ≤ k := by
 unfold zB2
 exact Nat.le_trans (List.length_filter_le ..) (by rw [List.length_take]; omega)
theorem zND (T : Tab) (n : Int) : zB2 T n T.l.length = zDN T n := by
 unfold zB2 zDN; rw [List.take_length]
theorem zOR {T : Tab} (h : TabOK T) (p : Pos) : (zC8 T p).length ≤ 100000 := by
 by_cases q : zEj T p = 0
 ·have ebl : zC8 T p = zCV T (zAu T.l p) (zDg T p) (zDg T p).length := by unfold zC8; rw [if_neg (fun c => c q)]; rfl
  have hq : zCX T p = 0 := by
   refine Classical.byContradiction (fun c => ?_)
   unfold zEj at q; rw [if_pos c] at q; exact c q
  have hml := zEI h.v (h.sound (zN7 hq).2).1
  rw [ebl]
  exact Nat.le_trans (zI6 ..) (Nat.le_trans hml (by decide))
 ·unfold zC8; rw [if_pos q]; exact Nat.zero_le _
/-- puzzle.Compose -/
theorem zNG (r : Go.Ax.Gm.Rules) (hr : Lens r) (n : Int) : zj Tryz.prog 45 [ruA r, .int .i64 n] (.tup [.ro (zCJ (zDq r n)) 0 (zDq r n).length, .int .i64 (zEO r n)]) := by
 refine zb.value0 (zM (P := Tryz.prog) (fn := Tryz.f45) rfl rfl (by kernel_rfl) rfl (fun c hR hfix => ?_)) (fix := fun _ => False) (fun _ h => h) rfl rfl
 have hE : zEO r n = if zAY r ≠ 0 then zAY r else if zJa n = false then 4 else zDX r := rfl
 have hF0 : zEO r n ≠ 0 → zDq r n = [] := fun q => by unfold zDq; rw [if_pos q]
 refine rn6 ?_
 refine zN rfl rfl rfl (zHN r hr) ?_
 refine rn3 ?_
 refine zD rfl (fun q => ?_) (fun q => ?_)
 ·have q : zAY r ≠ 0 := q
  rw [if_pos q] at hE
  rw [hF0 (by rw [hE]; exact q), hE] at hR
  refine rn7 ?_
  refine zBM 4 (.ro (zCJ []) 0 0) rfl AEq.nil ?_
  refine rn2 ?_
  exact zJ hR rfl rfl
 have q : zAY r = 0 := Classical.not_not.1 q
 rw [if_neg (fun d => d q)] at hE
 refine rn1 ?_
 refine zN rfl rfl rfl (odd_ok n) ?_
 refine rn5 ?_
 cases ho : zJa n with
 | false =>
  rw [if_pos ho] at hE
  rw [hF0 (by rw [hE]; decide), hE] at hR
  refine rn9 ?_
  refine zBM 4 (.ro (zCJ []) 0 0) rfl AEq.nil ?_
  refine rn2 ?_
  exact zJ hR rfl rfl
 | true =>
  rw [if_neg (by rw [ho]; decide)] at hE
  have cn := zLS r hr
  by_cases hz : zDX r = 0
  ·obtain ⟨hz1, hz2, x, hg⟩ := zIA hz
   rw [zJZ hz hg, hz] at cn
   have hT := zOF hz1 hz2 hg
   have hF : zDq r n = zDN (zEF r x) n := by unfold zDq; rw [if_neg (by rw [hE, hz]; decide), hg]
   rw [hF, hE, hz] at hR
   have cs := zLg (zEF r x)
   have ca := fun i => at_ok (zEF r x) hT i
   have hLr : Lens (zEF r x).r := hr
   have cb := fun p hp => best_ok (zEF r x) hT hLr p hp
   have hmost := hT.G.most
   generalize hTT : zEF r x = T at *
   refine rn6 ?_
   refine zN rfl rfl rfl cn ?_
   refine zBC ?_
   refine zBZ [] [some ⟨26, .box (ruC r)⟩] [(1, .int .i64 n), (7, zD4 T), (8, .int .i64 0)] rfl ⟨rfl, rfl, rfl, trivial⟩ (fun h hh => by rw [hfix] at hh; exact absurd hh id) (fun h o ho => by simp at ho) rfl ?_
   refine zK rfl ?_
   repeat (first | refine zA (zG rfl) ?_ | refine zC ?_ | refine zB ?_ | refine zZ ?_ | refine zAh rfl ?_ | refine zAO ?_ | refine zA (zBj rfl rfl) ?_)
   refine zK rfl ?_
   refine zBC ?_
   refine zBp 9 ⟨35, zCJ []⟩ rfl rfl ?_
   refine rn0 ?_
   refine zN rfl rfl rfl cs ?_
   refine rn1 ?_
   refine zAA (ι := Nat) (fun k => [(1, .int .i64 n), (7, zD4 T), (9, .sl 0 0 (zB2 T n k).length), (33, iN T.l.length), (34, iN k)]) (fun k => [some ⟨35, zCJ (zB2 T n k)⟩]) (fun k => k ≤ T.l.length) (fun k => T.l.length - k) 0 ⟨⟨rfl, rfl, rfl, rfl, rfl, trivial⟩, rfl, Nat.zero_le _⟩ ?_
   intro k hk
   have hcl := zNE T n k
   refine rn4 ?_
   refine zD rfl (fun g => ?_) (fun g => ?_)
   ·have hk' : k < T.l.length := by omega
    have hcs := zMB hT n hk'
    have ca := ca (k : Nat)
    have e0 : atE T (k : Nat) = 0 := by unfold atE; rw [if_neg (by omega)]
    have e1 : atP T (k : Nat) = T.l.getD k zu := by unfold atP; rw [if_neg (fun d => d e0)]; rfl
    have e2 : atX T (k : Nat) = zBN T k := by unfold atX; rw [if_neg (fun d => d e0)]; rfl
    rw [e0, e1, e2] at ca
    have cb := cb (T.l.getD k zu) (zGc hT hk').len
    have hturn := hT.turn01 (hT.in_at hk').1
    have hbl : (zC8 T (T.l.getD k zu)).length ≤ 100000 := zOR hT _
    generalize hP : T.l.getD k zu = P at *
    generalize hX : zBN T k = X at *
    refine rn1 ?_
    refine zN rfl rfl rfl ca ?_
    refine rn4 ?_
    refine zd (poC P) rfl rfl rfl rfl rfl rfl rfl ?_
    skip
    refine zd (zC7 X) rfl rfl rfl rfl rfl rfl rfl ?_
    repeat (first | refine zA (zG rfl) ?_ | refine zA (zP rfl) ?_ | refine zC ?_ | refine zB ?_ | refine zZ ?_ | refine zK rfl ?_ | refine zA (zV rfl rfl rfl rfl rfl) ?_ | refine zA (zBA rfl rfl (by omega)) ?_ | refine zA (zCm rfl rfl rfl rfl rfl rfl) ?_ | refine zA (zO rfl rfl rfl rfl rfl rfl) ?_ | refine zA (zGF rfl rfl rfl (by kernel_rfl) (by kernel_rfl) (by kernel_rfl) rfl) ?_ | refine zA (qpp rfl rfl rfl rfl rfl rfl rfl) ?_)
    refine zAR (b := !decide (X = (1 + P.turn, n))) (by rw [← zN5]; rfl) (fun g2 => ?_) (fun g2 => ?_)
    ·have g2 : ¬ X = (1 + P.turn, n) := by rw [Bool.not_eq_true'] at g2; exact of_decide_eq_false g2
     rw [if_neg (fun d => g2 d.1)] at hcs
     refine zJl ?_
     refine zB ?_
     refine zBZ [some ⟨35, zCJ (zB2 T n k)⟩] [some ⟨35, .box (poC P)⟩, some ⟨37, .box (zC7 X)⟩] [(1, .int .i64 n), (7, zD4 T), (9, .sl 0 0 (zB2 T n k).length), (33, iN T.l.length), (34, iN k)] rfl ⟨rfl, rfl, rfl, rfl, rfl, trivial⟩ (fun h hh => by rw [hfix] at hh; exact hh.elim) (zBs (zFH _) zBP) rfl ?_
     refine rn3 ?_
     refine zS ⟨k + 1, by omega, by omega, ⟨rfl, rfl, ?_, rfl, rfl, trivial⟩, ?_⟩
     ·rw [hcs]; rfl
     ·rw [hcs]
    have g2 : X = (1 + P.turn, n) := by rw [Bool.not_eq_false'] at g2; exact of_decide_eq_true g2
    refine rn6 ?_
    refine zN rfl rfl rfl cb ?_
    refine rn4 ?_
    refine zD rfl (fun g3 => ?_) (fun g3 => ?_)
    ·rw [if_pos ⟨g2, by omega⟩] at hcs
     have hnl : (zB2 T n k ++ [P]).length = (zB2 T n k).length + 1 := by rw [List.length_append]; rfl
     refine rn6 ?_
     refine zBW [P] rfl rfl rfl rfl rfl rfl rfl rfl rfl rfl rfl rfl rfl (by show 0 + 1 ≤ 1; omega) (fun k' j' hk' hj' => ?_) (by show ((zB2 T n k).length + 1) * 88 ≤ _ ∧ _; omega) (fun a j k _ => zDu a j k) (by rw [hfix]; exact fun h => h) ?_
     ·obtain rfl : k' = 0 := Nat.lt_one_iff.1 hk'
      match j', hj' with
      | 0, _ => rfl
      | 1, _ => rfl
      | 2, _ => rfl
      | 3, _ => rfl
      | 4, _ => rfl
     refine zJl ?_
     refine zB ?_
     refine zBZ [some ⟨35, zCJ (zB2 T n k ++ [P])⟩] [some ⟨35, .box (poC P)⟩, some ⟨37, .box (zC7 X)⟩] [(1, .int .i64 n), (7, zD4 T), (9, .sl 0 0 (zB2 T n k ++ [P]).length), (33, iN T.l.length), (34, iN k)] rfl ⟨rfl, rfl, by rw [hnl]; rfl, rfl, rfl, trivial⟩ (fun h hh => by rw [hfix] at hh; exact hh.elim) (zBs (zFH _) zBP) rfl ?_
     refine rn3 ?_
     refine zS ⟨k + 1, by omega, by omega, ⟨rfl, rfl, ?_, rfl, rfl, trivial⟩, ?_⟩
     ·rw [hcs]; rfl
     ·rw [hcs]
    ·rw [if_neg (fun d => g3 (by rw [d.2]; rfl))] at hcs
     refine zJl ?_
     refine zB ?_
     refine zBZ [some ⟨35, zCJ (zB2 T n k)⟩] [some ⟨35, .box (poC P)⟩, some ⟨37, .box (zC7 X)⟩] [(1, .int .i64 n), (7, zD4 T), (9, .sl 0 0 (zB2 T n k).length), (33, iN T.l.length), (34, iN k)] rfl ⟨rfl, rfl, rfl, rfl, rfl, trivial⟩ (fun h hh => by rw [hfix] at hh; exact hh.elim) (zBs (zFH _) zBP) rfl ?_
     refine rn3 ?_
     refine zS ⟨k + 1, by omega, by omega, ⟨rfl, rfl, ?_, rfl, rfl, trivial⟩, ?_⟩
     ·rw [hcs]; rfl
     ·rw [hcs]
   ·have hk' : k = T.l.length := by omega
    subst hk'
    rw [← zND] at hR
    refine zBC ?_
    refine zCj 0 9 (zB2 T n T.l.length).length [] rfl (zAV zO0) rfl (Nat.le_refl _) trivial ?_
    refine rn0 ?_
    exact zJ hR rfl rfl
  ·have hA := zOE hz
   rw [hA] at cn
   rw [hF0 (by rw [hE]; exact hz), hE] at hR
   refine rn6 ?_
   refine zN rfl rfl rfl cn ?_
   refine rn3 ?_
   refine zD rfl (fun _ => ?_) (fun d => ?_)
   rotate_left
   ·exact absurd hz d
   refine rn7 ?_
   refine zBM 4 (.ro (zCJ []) 0 0) rfl AEq.nil ?_
   refine rn2 ?_
   exact zJ hR rfl rfl
def zHm (x : zBl) : List AV := [.int .i64 x.1.fr, .int .i64 x.1.to, .int .i64 x.1.pc, zAB x.2]
abbrev zIE (l : List zBl) : Cells := zCx zAz 4 zHm l
abbrev zCF (l : List zBl) : AV := .ro (zIE l) 0 l.length
theorem zLi (a : zBl) (j k : Nat) (hj : j < 4) : ((zHm a).getD j .any).forget k = (zHm a).getD j .any := by
 match j, hj with
 | 0, _ => rfl
 | 1, _ => rfl
 | 2, _ => rfl
 | 3, _ => rfl
theorem zMt (a : zBl) (j : Nat) (hj : j < 4) : noRef ((zHm a).getD j .any) = true := by
 match j, hj with
 | 0, _ => rfl
 | 1, _ => rfl
 | 2, _ => rfl
 | 3, _ => rfl
theorem containsFMv (l : List Mv) (m : Nat) (g : FuncId) (caps : List AV) (p : Mv → Bool) (hm : m ≤ l.length) (hc : noRef.noRefs caps = true) (hlen : l.length ≤ 9223372036854775807) (hp : ∀ x ∈ l, zj Tryz.prog g ([.agg (mvC x)] ++ caps) (.bool (p x))) :
 zj Tryz.prog 38 [.ro (zA2 l) 0 m, .fn g caps] (.bool ((l.take m).any p)) := by
 refine zb.value0 (zM (P := Tryz.prog) (fn := Tryz.f38) rfl rfl (by kernel_rfl) rfl (fun c hR hfix => ?_)) (fix := fun _ => False) (fun _ h => h) (by simp [noRef.noRefs, noRef, hc]) rfl
 refine rn0 ?_
 refine zN rfl rfl rfl (zIS l m g caps p hm hc hlen hp) ?_
 refine rn8 ?_
 refine zJ hR rfl ?_
 simp only [zDG, zF3]
/-- is a move not among those? -/
theorem single1_ok (l : List Mv) (hl : l.length ≤ 1000000) (m : Mv) : zj Tryz.prog 39 [mvA m, .rp (.box [zAy l]) 0 0] (.bool (!(l.any (isM m)))) := by
 refine zb.value0 (zM (P := Tryz.prog) (fn := Tryz.f39) rfl rfl (by kernel_rfl) rfl (fun c hR hfix => ?_)) (fix := fun _ => False) (fun _ h => h) rfl rfl
 repeat (first | refine zA (zP rfl) ?_ | refine zC ?_ | refine zB ?_ | refine zZ ?_ | refine zK rfl ?_ | refine zA (zF rfl rfl rfl rfl) ?_ | refine zA (qpp rfl rfl rfl rfl rfl rfl rfl) ?_ | refine zAQ rfl rfl ?_)
 refine zN rfl rfl rfl (zHz l m hl) ?_
 refine rn5 ?_
 exact zJ hR rfl rfl
theorem zDE : zj Tryz.prog 68 [] (ruA three) := by
 refine zb.value0 (zM (P := Tryz.prog) (fn := Tryz.f68) rfl rfl (by kernel_rfl) rfl (fun c hR hfix => ?_)) (fix := fun _ => False) (fun _ h => h) rfl rfl
 refine rn8 ?_
 refine zA4 6 (ruA three) rfl (zNr ⟨AEq.rfl', AEq.rfl', AEq.rfl', AEq.ro_in rfl (fun d j hd hj => by
  have hd : d < 1 := hd
  obtain rfl : d = 0 := by omega
  have hj : j < 4 := hj
  match j, hj with
  | 0, _ => exact AEq.rfl'
  | 1, _ => exact AEq.rfl'
  | 2, _ => exact AEq.rfl'
  | 3, _ => exact AEq.nil
  ), AEq.ro rfl (fun d j hd hj => by
  have hj : j < 1 := hj
  obtain rfl : j = 0 := by omega
  match d, hd with
  | 0, _ => rfl
  | 1, _ => rfl
  | 2, _ => rfl
  ), AEq.rfl', AEq.rfl', AEq.ro_in rfl (fun d j hd hj => by
  have hd : d < 1 := hd
  obtain rfl : d = 0 := by omega
  have hj : j < 4 := hj
  match j, hj with
  | 0, _ => exact AEq.rfl'
  | 1, _ => exact AEq.rfl'
  | 2, _ => exact AEq.rfl'
  | 3, _ => exact AEq.rfl'
  ), AEq.rfl', AEq.rfl', AEq.rfl', trivial⟩) ?_
 refine zd (ruC three) rfl rfl rfl rfl rfl rfl rfl ?_
 refine rn0 ?_
 exact zJ hR rfl rfl
theorem zET : zj Tryz.prog 69 [] (poA (zAK three)) := by
 refine zb.value0 (zM (P := Tryz.prog) (fn := Tryz.f69) rfl rfl (by kernel_rfl) rfl (fun c hR hfix => ?_)) (fix := fun _ => False) (fun _ h => h) rfl rfl
 refine rn8 ?_
 refine zA4 5 (poA (zAK three)) rfl (zNr ⟨AEq.ro rfl (fun d j hd hj => by
  have hj : j < 1 := hj
  obtain rfl : j = 0 := by omega
  match d, hd with
  | 0, _ => rfl
  | 1, _ => rfl
  | 2, _ => rfl
  ), AEq.ro rfl (fun d j hd hj => by
  have hj : j < 1 := hj
  obtain rfl : j = 0 := by omega
  match d, hd with
  | 0, _ => rfl
  ), AEq.ro rfl (fun d j hd hj => by
  have hj : j < 1 := hj
  obtain rfl : j = 0 := by omega
  match d, hd with
  | 0, _ => rfl
  ), AEq.rfl', AEq.rfl', trivial⟩) ?_
 refine zd (poC (zAK three)) rfl rfl rfl rfl rfl rfl rfl ?_
 refine rn0 ?_
 exact zJ hR rfl rfl
def zNO (r : Go.Ax.Gm.Rules) (p : Pos) : Bool := if whW r > 9 then false else decide (zAs r p ≠ 0) || decide (((if zAs r p ≠ 0 then [] else zo r p).length : Int) ≤ 12)
/-- is there little to search? -/
theorem light_ok (r : Go.Ax.Gm.Rules) (hr : Lens r) (p : Pos) (hp : LenP p) : zj Tryz.prog 35 [ruA r, poA p] (.bool (zNO r p)) := by
 refine zb.value0 (zM (P := Tryz.prog) (fn := Tryz.f35) rfl rfl (by kernel_rfl) rfl (fun c hR hfix => ?_)) (fix := fun _ => False) (fun _ h => h) rfl rfl
 have hB : zNO r p = if whW r > 9 then false else decide (zAs r p ≠ 0) || decide (((if zAs r p ≠ 0 then [] else zo r p).length : Int) ≤ 12) := rfl
 have ca := zK7 r hr p hp
 have hlen : (if zAs r p ≠ 0 then [] else zo r p).length ≤ 10000 := by
  split
  ·exact Nat.zero_le _
  ·rename_i h; obtain ⟨hz, S⟩ := zCe (Classical.not_not.1 h); exact zCc (zAp hz) S
 generalize hL : (if zAs r p ≠ 0 then [] else zo r p) = L at *
 refine rn6 ?_
 refine zA (zGd rfl rfl rfl) ?_
 refine rn6 ?_
 refine zD rfl (fun q => ?_) (fun q => ?_)
 ·have q : whW r > 9 := q
  rw [if_pos q] at hB
  rw [hB] at hR
  refine rn2 ?_
  exact zJ hR rfl rfl
 ·have q : ¬ whW r > 9 := q
  rw [if_neg q] at hB
  rw [hB] at hR
  refine rn6 ?_
  refine zN rfl rfl rfl ca ?_
  refine rn3 ?_
  refine zn rfl rfl (fun q1 => ?_) (fun q1 => ?_)
  ·rw [decide_eq_true q1] at hR
   refine rn6 ?_
   exact zJ hR rfl rfl
  ·rw [decide_eq_false q1] at hR
   refine rn8 ?_
   exact zJ hR rfl rfl
/-- forces: is a move one that wins? (where all can be searched) -/
theorem zOe (r : Go.Ax.Gm.Rules) (hr : Lens r) (k : Nat) (p : Pos) (h : Go.Ax.Gm.Checked r p k) (m : Mv) (hm : m ∈ zo r p) : zj Tryz.prog 47 [ruA r, poA p, mvA m, .int .i64 (zBY k)] (.tup [.bool (zAT r k p m), .bool true]) := by
 have hv := h.v
 have S := h.S
 have Sq := zBg hv S hm
 have ht := S.tn
 have caf := zLq r hr p m h.z S hm
 have cof := zMI r hr (zQ r p m) (zAv hv Sq).len
 have hpz := zCD h.z Sq
 rw [hpz, if_neg (fun c => c rfl)] at cof
 have call := zK7 r hr (zQ r p m) (zAv hv Sq).len
 rw [hpz, if_neg (fun c => c rfl)] at call
 have cw := zPW p.turn ht
 have hk2 := h.k2
 have e3 : zBY k < 3 ↔ k = 0 := by show 2 * (k : Int) + 1 < 3 ↔ _; omega
 have hpl : 1 ≤ zBY k ∧ zBY k ≤ 1000 := ⟨by show (1:Int) ≤ 2 * (k : Int) + 1; omega, by show 2 * (k : Int) + 1 ≤ (1000 : Int); omega⟩
 have e2 : ∀ k', k = k' + 1 → zBY k - 2 = zBY k' := fun k' h => by subst h; show 2 * ((k' + 1 : Nat) : Int) + 1 - 2 = 2 * (k' : Int) + 1; omega
 have hOv := fun c => zDI (r := r) (k := k) (p := p) (m := m) c
 have hO0 := fun c => zFj (r := r) (p := p) (m := m) ht c
 have hW : ∀ k', k = k' + 1 → ze r (zQ r p m) = 0 → zAT r k p m = (zo r (zQ r p m)).all (zE3 r (zAT r k') (1 + p.turn) (zQ r p m)) := fun k' e c => by subst e; rw [zAT, if_neg (fun d => d c)]
 have hdn : ∀ k', k = k' + 1 → ze r (zQ r p m) = 0 → ∀ a ∈ zo r (zQ r p m), ze r (zQ r (zQ r p m) a) = 0 → Go.Ax.Gm.Checked r (zQ r (zQ r p m) a) k' := fun k' e hq a ha hs => by subst e; exact h.down hm hq ha hs
 refine zb.value0 (zM (P := Tryz.prog) (fn := Tryz.f47) rfl rfl (by kernel_rfl) rfl (fun c hR hfix => ?_)) (fix := fun _ => False) (fun _ h => h) rfl rfl
 generalize hN : zBY k = N at *
 generalize hQ : zQ r p m = Q at *
 refine zZ ?_
 repeat (first | refine zA (zP rfl) ?_ | refine zC ?_ | refine zB ?_ | refine zK rfl ?_ | refine zAQ rfl rfl ?_)
 refine zFs [(4, .rp (.box (ruC r)) 0 0), (5, .rp (.box (poC p)) 0 0), (6, .rp (.box (mvC m)) 0 0), (3, .int .i64 N)] (zBz (zt rfl) (zBz (zt rfl) (zBz (zt rfl) zCg))) ⟨⟨_, rfl, .inr (.inr ⟨rfl, fun o ho => by cases ho; exact Nat.zero_lt_one⟩)⟩, ⟨_, rfl, .inr (.inr ⟨rfl, fun o ho => by cases ho; exact Nat.zero_lt_one⟩)⟩, ⟨_, rfl, .inr (.inr ⟨rfl, fun o ho => by cases ho; exact Nat.zero_lt_one⟩)⟩, ⟨_, rfl, .inl rfl⟩, trivial⟩ ⟨rfl, rfl, rfl, rfl, trivial⟩ rfl hfix ?_
 refine rn6 ?_
 refine zN rfl rfl rfl caf ?_
 refine rn4 ?_
 refine zd (poC Q) rfl rfl rfl rfl rfl rfl rfl ?_
 refine zBC ?_
 refine zB1 10 [(4, .rp (.box (ruC r)) 0 0), (5, .rp (.box (poC p)) 0 0), (3, .int .i64 N), (11, .int .i64 0)] rfl ⟨rfl, rfl, rfl, rfl, rfl, trivial⟩ ⟨rfl, rfl, rfl, rfl, trivial⟩ rfl hfix ?_
 refine rn6 ?_
 refine zN rfl rfl rfl cof ?_
 refine rn3 ?_
 refine zN rfl rfl rfl (fineI [0, 0] (by decide)) ?_
 refine rn5 ?_
 refine zD rfl (fun q => ?_) (fun q => ?_)
 ·rw [hOv q] at hR
  refine zB0 ?_
  refine zN rfl rfl rfl cw ?_
  refine rn4 ?_
  exact zJ hR rfl rfl
 have q := Classical.not_not.1 q
 have hO0 := hO0 q
 refine rn4 ?_
 refine zD rfl (fun q3 => ?_) (fun q3 => ?_)
 ·have k0 := e3.1 q3
  rw [k0, hO0] at hR
  refine rn2 ?_
  exact zJ hR rfl rfl
 obtain ⟨k', hk'⟩ : ∃ k', k = k' + 1 := ⟨k - 1, by omega⟩
 have hW := hW k' hk' q
 have hdn := hdn k' hk' q
 have e2 := e2 k' hk'
 have hml := zCc hv Sq
 have hms : ∀ a ∈ zo r Q, Sound r (zQ r Q a) := fun a ha => zBg hv Sq ha
 have caft := fun a ha => zLq r hr Q a h.z Sq ha
 generalize hM : zo r Q = ms at *
 refine rn6 ?_
 refine zN rfl rfl rfl call ?_
 refine rn4 ?_
 refine zAA (ι := Nat) (fun j => [(10, .rp (.box (poC Q)) 0 0), (4, .rp (.box (ruC r)) 0 0), (5, .rp (.box (poC p)) 0 0), (3, .int .i64 N), (59, zAy ms), (60, iN ms.length), (61, iN j)]) (fun _ => []) (fun j => j ≤ ms.length ∧ (ms.take j).all (zE3 r (zAT r k') (1 + p.turn) Q) = true) (fun j => ms.length - j) 0 ⟨⟨rfl, rfl, rfl, rfl, rfl, rfl, rfl, trivial⟩, rfl, Nat.zero_le _, rfl⟩ ?_
 intro j ⟨hj, hall2⟩
 refine rn4 ?_
 refine zD rfl (fun g => ?_) (fun g => ?_)
 ·have hj' : j < ms.length := by omega
  have hmem := zAL mv0 hj'
  have hst : (ms.take (j + 1)).all (zE3 r (zAT r k') (1 + p.turn) Q) = zE3 r (zAT r k') (1 + p.turn) Q (ms.getD j mv0) := by
   rw [zz ms mv0 j hj', List.all_append, hall2]; simp
  have hno : zE3 r (zAT r k') (1 + p.turn) Q (ms.getD j mv0) = false → ms.all (zE3 r (zAT r k') (1 + p.turn) Q) = false := fun c => by
   rw [← Bool.not_eq_true, List.all_eq_true]
   intro d
   rw [d _ hmem] at c; cases c
  obtain ⟨a, ha⟩ : ∃ a, ms.getD j mv0 = a := ⟨_, rfl⟩
  rw [ha] at hmem hst hno
  have ha2 := hms a hmem
  have hans : zE3 r (zAT r k') (1 + p.turn) Q a = if ze r (zQ r Q a) = 1 + p.turn then true else if ze r (zQ r Q a) = 0 then (zo r (zQ r Q a)).any (zAT r k' (zQ r Q a)) else false := rfl
  have ca1 := caft a hmem
  have ca2 := zMI r hr (zQ r Q a) (zAv hv ha2).len
  have ca3 := zFM r hr (zQ r Q a) (zAv hv ha2).len (zBY k')
  have hpz2 := zCD h.z ha2
  rw [hpz2, if_neg (fun c => c rfl)] at ca2
  have hne := zK6 (r := r) (k := k') (p := zQ r Q a)
  have hdd := hdn a hmem
  have hal : (zAr r k' (zQ r Q a)).length ≤ 10000 := zLr hv k' ha2
  have hwl : ze r (zQ r Q a) = 0 → zCi r (zQ r Q a) (zBY k') = zAr r k' (zQ r Q a) ∧ zAF r (zQ r Q a) (zBY k') = 0 := fun e => by
   have c := zL4 (hdd e)
   have c : zAF r (zQ r Q a) (zBY k') = 0 := c
   refine ⟨?_, c⟩
   unfold zCi
   rw [if_neg (fun d => d c)]
   show zAr r (zBy (2 * (k' : Int) + 1)) _ = _
   rw [zFA]
  generalize hSS : zQ r Q a = s at *
  refine zFc ?_
  repeat (refine zAG rfl rfl rfl ?_)
  refine zd (mvC a) rfl rfl rfl rfl rfl (by rw [← ha]; rfl) rfl ?_
  refine rn6 ?_
  refine zN rfl rfl rfl ca1 ?_
  refine rn4 ?_
  refine zd (poC s) rfl rfl rfl rfl rfl rfl rfl ?_
  refine rn6 ?_
  refine zN rfl rfl rfl ca2 ?_
  refine rn3 ?_
  refine zN rfl rfl rfl (fineI [0, 0] (by decide)) ?_
  refine rn5 ?_
  refine zD rfl (fun h1 => ?_) (fun h1 => ?_)
  ·refine zB0 ?_
   refine zN rfl rfl rfl cw ?_
   refine rn3 ?_
   refine zD rfl (fun h2 => ?_) (fun h2 => ?_)
   ·rw [if_neg h2, if_neg h1] at hans
    rw [hW, hno hans] at hR
    refine rn6 ?_
    exact zJ hR rfl rfl
   ·have h2 := Classical.not_not.1 h2
    rw [if_pos h2] at hans
    repeat (refine zAO ?_)
    refine zB ?_
    refine zBZ [] [some ⟨58, .box (mvC a)⟩, some ⟨35, .box (poC s)⟩] [(10, .rp (.box (poC Q)) 0 0), (4, .rp (.box (ruC r)) 0 0), (5, .rp (.box (poC p)) 0 0), (3, .int .i64 N), (59, zAy ms), (60, iN ms.length), (61, iN j)] rfl ⟨rfl, rfl, rfl, rfl, rfl, rfl, rfl, trivial⟩ (fun h hh => by rw [hfix] at hh; exact absurd hh id) (fun h o ho => by simp at ho) rfl ?_
    refine rn5 ?_
    exact zS ⟨j + 1, ⟨by omega, by rw [hst, hans]⟩, by omega, ⟨rfl, rfl, rfl, rfl, rfl, rfl, rfl, trivial⟩, rfl⟩
  have h1 := Classical.not_not.1 h1
  rw [h1, if_neg (by omega), if_pos rfl] at hans
  obtain ⟨hw1, hw2⟩ := hwl h1
  rw [hw1, hw2] at ca3
  repeat (first | refine zA (zG rfl) ?_ | refine zB ?_ | refine zZ ?_ | refine zK rfl ?_ | refine zAO ?_ | refine zA (zBR rfl rfl (by omega)) ?_ | refine zA (zf rfl rfl rfl rfl rfl rfl) ?_ | refine zA (qpp rfl rfl rfl rfl rfl rfl rfl) ?_)
  rw [e2]
  skip
  refine zN rfl rfl rfl ca3 ?_
  refine rn4 ?_
  refine zD rfl (fun h3 => ?_) (fun h3 => ?_)
  ·have h3 : zAr r k' s = [] := List.length_eq_zero_iff.mp (by omega)
   have hf : (zo r s).any (zAT r k' s) = false := by
    rw [← Bool.not_eq_true, ← hne, h3]; exact fun d => d rfl
   rw [hf] at hans
   rw [hW, hno hans] at hR
   refine rn6 ?_
   exact zJ hR rfl rfl
  ·have h3 : zAr r k' s ≠ [] := fun d => h3 (by rw [d]; rfl)
   rw [hne.1 h3] at hans
   refine zJl ?_
   refine zB ?_
   refine zBZ [] [some ⟨58, .box (mvC a)⟩, some ⟨35, .box (poC s)⟩] [(10, .rp (.box (poC Q)) 0 0), (4, .rp (.box (ruC r)) 0 0), (5, .rp (.box (poC p)) 0 0), (3, .int .i64 N), (59, zAy ms), (60, iN ms.length), (61, iN j)] rfl ⟨rfl, rfl, rfl, rfl, rfl, rfl, rfl, trivial⟩ (fun h hh => by rw [hfix] at hh; exact absurd hh id) (fun h o ho => by simp at ho) rfl ?_
   refine rn3 ?_
   exact zS ⟨j + 1, ⟨by omega, by rw [hst, hans]⟩, by omega, ⟨rfl, rfl, rfl, rfl, rfl, rfl, rfl, trivial⟩, rfl⟩
 ·have hj' : j = ms.length := by omega
  subst hj'
  rw [List.take_length] at hall2
  rw [hW, hall2] at hR
  refine rn5 ?_
  exact zJ hR rfl rfl
abbrev solC (r : Go.Ax.Gm.Rules) (x : AV) : List AV := [.str r.name, .int .i64 r.w, .int .i64 r.h, .ro (zAn r.pcs) 0 r.pcs.length, zAB r.start, .bool r.falls, .bool r.keeps, .ro (zFT r.ends) 0 r.ends.length, .int .i64 r.blocked, .int .i64 r.quiet, .int .i64 r.rep, x]
abbrev solB (r : Go.Ax.Gm.Rules) (x : AV) : Option AObj := some ⟨124, .box (solC r x)⟩
abbrev stpO (S : List zBl) : Option AObj := some ⟨80, zIE S⟩
abbrev zDJ (r : Go.Ax.Gm.Rules) (n : Nat) (S : List zBl) : zR := [solB r (.sl 1 0 n), stpO S]
abbrev mvO (l : List AV) : Option AObj := some ⟨58, .box l⟩
abbrev poO (l : List AV) : Option AObj := some ⟨35, .box l⟩
abbrev inO (l : List Int) : Option AObj := some ⟨3, .ints .i64 l⟩
abbrev mvZ : List AV := [.int .i64 0, .int .i64 0, .int .i64 0]
abbrev poZZ : List AV := [.nil, .nil, .nil, .int .i64 0, .int .i64 0]
theorem zIf {n : Nat} (l : List zBl) : zAx n (zIE l) := fun i j _ hj => by
 have hj : j < 4 := hj
 match j, hj with
 | 0, _ => rfl
 | 1, _ => rfl
 | 2, _ => rfl
 | 3, _ => rfl
theorem zGr (a : zBl) (j k : Nat) : ((zHm a).getD j .any).forget k = (zHm a).getD j .any := by
 match j with
 | 0 => rfl
 | 1 => rfl
 | 2 => rfl
 | 3 => rfl
 | j + 4 => rfl
theorem zEe (r : Go.Ax.Gm.Rules) (n : Nat) (S : List zBl) : ∀ (h : Nat) (o : AObj), (zDJ r n S)[h]? = some (some o) → zAx (zDJ r n S).length o.c :=
 zBs (zGl rfl) (zBs (zIf S) zBP)
theorem zJt (r : Go.Ax.Gm.Rules) (n : Nat) (S : List zBl) (A : List Int) : ∀ (h : Nat) (o : AObj), (zDJ r n S ++ [inO A])[h]? = some (some o) → zAx (zDJ r n S ++ [inO A]).length o.c :=
 zBs (zGl rfl) (zBs (zIf S) (zBs (fun i j _ _ => rfl) zBP))
def GrowK (r : Go.Ax.Gm.Rules) (k : Nat) (p : Pos) (S : List zBl) (E : zR → Prop) (v : AV) (H : zR) : Prop :=
 (S.length + (zx r k p S.length).length ≤ 256 → v = .bool true ∧ ∃ x, E x ∧ H = zDJ r (S.length + (zx r k p S.length).length) (S ++ zx r k p S.length) ++ x) ∧
 (256 < S.length + (zx r k p S.length).length → v = .bool false ∧ ∃ x, E x ∧ H = [none, none] ++ x)
def zLp (r : Go.Ax.Gm.Rules) (k : Nat) : Prop := ∀ (p : Pos) (_ : Go.Ax.Gm.Checked r p k) (_ : zAr r k p ≠ []) (S : List zBl), S.length ≤ 256 →
 zb Tryz.prog 73 [.ptr 0 0 0, poA p, .int .i64 (zBY k)] (zDJ r S.length S) (fun h => h < 1) (GrowK r k p S (fun x => x = []))
theorem step_set (S : List zBl) (m : Mv) (A : List Int) (T : List zBl) (i j : Nat) : (zHm ((S ++ (m, A) :: T).getD i zAz)).getD j .any = bif Nat.beq i S.length && Nat.beq j 3 then zAB A else (zHm ((S ++ [(m, [])] ++ T).getD i zAz)).getD j .any := by
 have e : S ++ [(m, [])] ++ T = S ++ (m, []) :: T := by simp
 rw [e]
 by_cases hi : i = S.length
 ·subst hi
  have g : ∀ x : zBl, (S ++ x :: T).getD S.length zAz = x := fun x => by simp [List.getD]
  rw [g, g, Nat.beq_refl]
  match j with
  | 0 => rfl
  | 1 => rfl
  | 2 => rfl
  | 3 => rfl
  | j + 4 => rfl
 ·rw [zBa hi]
  have g : ∀ x : zBl, (S ++ x :: T).getD i zAz = if i < S.length then S.getD i zAz else T.getD (i - S.length - 1) zAz := fun x => by
   by_cases h : i < S.length
   ·rw [if_pos h]; simp [List.getD, List.getElem?_append_left h]
   ·rw [if_neg h]
    obtain ⟨d, rfl⟩ : ∃ d, i = S.length + (d + 1) := ⟨i - S.length - 1, by omega⟩
    simp only [List.getD]
    rw [List.getElem?_append_right (by omega), show S.length + (d + 1) - S.length = d + 1 by omega, List.getElem?_cons_succ]
    rfl
  rw [g, g]; rfl
theorem zPK (r : Go.Ax.Gm.Rules) (k : Nat) (hrec : k = 0 ∨ ∃ k', k = k' + 1 ∧ zLp r k') (p : Pos) (h : Go.Ax.Gm.Checked r p k) (hw : zAr r k p ≠ []) (S : List zBl) (hS : S.length ≤ 256) :
 zb Tryz.prog 73 [.ptr 0 0 0, poA p, .int .i64 (zBY k)] (zDJ r S.length S) (fun h => h < 1) (GrowK r k p S (fun _ => True)) := by
 have hv := h.v
 have Sp := h.S
 have hk2 := h.k2
 have ht := Sp.tn
 have call := zNv r hv k (by omega) p Sp
 have hw0 : 0 < (zAr r k p).length := List.length_pos_iff.2 hw
 obtain ⟨hfm, hfw⟩ := zJG hw
 have hlen := zNm r k p S.length
 have htl := zJ0 r k p S.length
 have hk0 : k = 0 → z8 r (zQ r p (zA8 r k p)) = [] := fun e => by
  subst e
  rw [zAT, decide_eq_true_eq] at hfw
  unfold z8
  rw [if_pos (by rw [hfw]; omega)]
 have htk := zPP (b := S.length) hk0
 have cmk := zDm r hv p Sp (zA8 r k p) (Go.Ax.Gm.list_ok hv Sp hfm)
 have Sq := zBg hv Sp hfm
 have hchk : ∀ k', k = k' + 1 → ze r (zQ r p (zA8 r k p)) = 0 → ∀ a ∈ zo r (zQ r p (zA8 r k p)), ze r (zQ r (zQ r p (zA8 r k p)) a) = 0 → Go.Ax.Gm.Checked r (zQ r (zQ r p (zA8 r k p)) a) k' ∧ zAr r k' (zQ r (zQ r p (zA8 r k p)) a) ≠ [] := fun k' e hq a ha hs => by
  subst e
  refine ⟨h.down hfm hq ha hs, ?_⟩
  rcases ans_of hfw hq a ha with q | q
  ·rw [hs] at q
   rcases ht with t | t <;> (rw [t] at q; exact absurd q (by decide))
  ·exact q.2
 have hpl : 1 ≤ zBY k ∧ zBY k ≤ 1000 := ⟨by show (1:Int) ≤ 2 * (k : Int) + 1; omega, by show 2 * (k : Int) + 1 ≤ (1000 : Int); omega⟩
 have e3 : ∀ k', k = k' + 1 → zBY k - 2 = zBY k' := fun k' h => by subst h; show 2 * ((k' + 1 : Nat) : Int) + 1 - 2 = 2 * (k' : Int) + 1; omega
 obtain ⟨m, hm⟩ : ∃ m, zA8 r k p = m := ⟨_, rfl⟩
 rw [hm] at htl htk cmk Sq hchk hk0
 generalize hQ : zQ r p m = Q at htk cmk Sq hchk hk0
 refine zM (P := Tryz.prog) (fn := Tryz.f73) rfl rfl (by kernel_rfl) rfl (fun c hR hfix => ?_)
 have nofix1 : ¬ c.fix 1 := by rw [hfix]; exact fun q => absurd q (by show ¬ (1 < 1); omega)
 have nofix2 : ¬ c.fix 2 := by rw [hfix]; exact fun q => absurd q (by show ¬ (2 < 1); omega)
 have nofix : ∀ h n, c.fix h → h < n + 1 := fun h n q => by
  rw [hfix] at q
  have q : h < 1 := q
  omega
 generalize hN : zBY k = N at *
 refine zZ ?_
 repeat (first | refine zA (zP rfl) ?_ | refine zC ?_ | refine zB ?_ | refine zK rfl ?_ | refine zAQ rfl rfl ?_)
 refine zCU (zDJ r S.length S) 4 [(0, .ptr 0 0 0), (2, .int .i64 N)] rfl rfl ⟨rfl, rfl, trivial⟩ ⟨rfl, rfl, rfl, trivial⟩ (zEe _ _ _) rfl (fun h q => nofix h _ q) ?_
 refine rn8 ?_
 refine zD rfl (fun q => ?_) (fun q => ?_)
 ·refine zN0 [none, none] (zA3.drop (zA3.drop zA3.nil)) ?_
  refine rn2 ?_
  exact zJ hR rfl ⟨fun c => absurd c (by omega), fun c => ⟨rfl, [], trivial, rfl⟩⟩
 have hS' : S.length < 256 := by omega
 refine rn1 ?_
 refine zg (by kernel_rfl) ?_
 refine zDo (fuel := 0) [0, 1, 2, 3, 4, 5, 6, 7, 8, 9, 10] [9, 10] (fun j => [zDJ r S.length S, zDJ r S.length S ++ [mvO mvZ], zDJ r S.length S ++ [mvO (mvC m)]].getD j []) [(4, .rp (.box (poC p)) 0 0), (0, .ptr 0 0 0), (2, .int .i64 N), (7, iN S.length)] ⟨rfl, rfl, rfl, rfl, trivial⟩ (by kernel_rfl) (by kernel_rfl) rfl (by decide) rfl rfl ?_
 refine zCR rfl rfl rfl (fun _ => zG rfl) ?_
 refine zCR rfl rfl rfl (fun _ => zU rfl) ?_
 refine zCR rfl rfl rfl (fun _ => zO rfl rfl rfl rfl rfl rfl) ?_
 refine pm_qs [0, 1] rfl rfl rfl (by kernel_rfl) ⟨qpp rfl rfl rfl rfl rfl rfl rfl, qpp rfl rfl rfl rfl rfl rfl rfl, trivial⟩ ?_
 refine zCR rfl rfl rfl (fun _ => zf rfl rfl rfl rfl rfl rfl) ?_
 refine zCR rfl rfl rfl (fun _ => zG rfl) ?_
 refine pm_v rfl rfl rfl rfl rfl rfl call ?_
 refine zCR rfl rfl rfl (fun _ => zi rfl rfl rfl rfl (by first | (simp only [Nat.zero_add, Int.toNat_natCast, Int.toNat_zero]; exact rfl) | exact rfl) (by omega)) ?_
 refine zCR rfl rfl rfl (fun _ => zf rfl rfl rfl rfl rfl rfl) ?_
 refine zGB (j := 0) rfl rfl rfl (by kernel_rfl) rfl rfl rfl rfl rfl ?_
 refine zDt (j := 1) (mvC m) rfl rfl rfl (by kernel_rfl) rfl rfl rfl rfl rfl (by rw [← hm]; rfl) rfl rfl ?_
 refine zHf ?_
 refine zX (by kernel_rfl) ?_
 refine rn0 ?_
 refine zCU (zDJ r S.length S) 8 [(4, .rp (.box (poC p)) 0 0), (0, .ptr 0 0 0), (2, .int .i64 N), (7, iN S.length)] rfl rfl ⟨rfl, rfl, rfl, rfl, trivial⟩ ⟨rfl, rfl, rfl, rfl, rfl, trivial⟩ (zEe _ _ _) rfl (fun h q => nofix h _ q) ?_
 refine zg (by kernel_rfl) ?_
 refine zW 0 rfl (by kernel_rfl) (by kernel_rfl) (by kernel_rfl) rfl (zG rfl) rfl ?_
 refine zW 1 rfl (by kernel_rfl) (by kernel_rfl) (by kernel_rfl) rfl (zG rfl) rfl ?_
 refine zW 2 rfl (by kernel_rfl) (by kernel_rfl) (by kernel_rfl) rfl (zU rfl) rfl ?_
 refine zW 3 rfl (by kernel_rfl) (by kernel_rfl) (by kernel_rfl) rfl (zO rfl rfl rfl rfl rfl rfl) rfl ?_
 refine zq (fuel := 4) [4, 5, 6, 7] [(33, .ptr 0 0 11), (30, .ptr 0 0 0), (8, .rp (.box (mvC m)) 0 0), (4, .rp (.box (poC p)) 0 0), (0, .ptr 0 0 0), (2, .int .i64 N), (7, iN S.length)] ⟨rfl, rfl, rfl, rfl, rfl, rfl, rfl, trivial⟩ (by kernel_rfl) (by decide) rfl rfl ?_
 refine zI rfl rfl (zV rfl rfl rfl rfl rfl) ?_
 refine zI rfl rfl (zf rfl rfl rfl rfl rfl rfl) ?_
 refine zI rfl rfl (zCm rfl rfl rfl rfl rfl rfl) ?_
 refine px_b rfl rfl rfl rfl rfl rfl rfl rfl rfl rfl rfl rfl rfl ?_
 refine z7 ?_
 refine zH (is := [8]) (by kernel_rfl) (by simp) rfl ⟨fun o ho => ?_, trivial⟩
 all_goals (cases ho)
 refine zA4 37 (.ro (zCx zAz 4 zHm [(m, [])]) 0 1) rfl (AEq.ro_in rfl (fun d j hd hj => ?_)) ?_
 ·have hd : d < 1 := hd
  obtain rfl : d = 0 := by omega
  have hj : j < 4 := hj
  match j, hj with
  | 0, _ => exact AEq.rfl'
  | 1, _ => exact AEq.rfl'
  | 2, _ => exact AEq.rfl'
  | 3, _ => exact AEq.nil
 refine zBW [(m, [])] rfl rfl rfl rfl rfl rfl rfl rfl rfl rfl rfl rfl rfl (by show 0 + 1 ≤ 1; omega) (fun k j _ _ => by rw [Nat.zero_add]; rfl) (by show (S.length + 1) * 48 ≤ _ ∧ _; omega) zLi nofix1 ?_
 refine zAX [solB r .any, stpO (S ++ [(m, [])])] rfl ?_
 refine rn1 ?_
 refine zH (is := [9]) (by kernel_rfl) (by simp) rfl ⟨fun o ho => ?_, trivial⟩
 all_goals (cases ho)
 refine rn7 ?_
 refine zH (is := [10]) (by kernel_rfl) (by simp) rfl ⟨fun o ho => ?_, trivial⟩
 all_goals (cases ho)
 refine rn5 ?_
 refine zH (is := [11]) (by kernel_rfl) (by simp) rfl ⟨fun o ho => ?_, trivial⟩
 all_goals (cases ho)
 refine rn9 ?_
 refine zX (by kernel_rfl) ?_
 refine rn0 ?_
 refine zAU (zDJ r (S.length + 1) (S ++ [(m, [])])) rfl ?_
 refine zg (by kernel_rfl) ?_
 refine zDo (fuel := 0) [0, 1, 2, 3, 4, 5, 6, 7, 8] [7, 8] (fun j => [zDJ r (S.length + 1) (S ++ [(m, [])]), zDJ r (S.length + 1) (S ++ [(m, [])]) ++ [poO poZZ], zDJ r (S.length + 1) (S ++ [(m, [])]) ++ [poO (poC Q)]].getD j []) [(8, .rp (.box (mvC m)) 0 0), (4, .rp (.box (poC p)) 0 0), (0, .ptr 0 0 0), (2, .int .i64 N), (7, iN S.length)] ⟨rfl, rfl, rfl, rfl, rfl, trivial⟩ (by kernel_rfl) (by kernel_rfl) rfl (by decide) rfl rfl ?_
 refine zCR rfl rfl rfl (fun _ => zG rfl) ?_
 refine zCR rfl rfl rfl (fun _ => zU rfl) ?_
 refine zCR rfl rfl rfl (fun _ => zO rfl rfl rfl rfl rfl rfl) ?_
 refine pm_qs [0, 1] rfl rfl rfl (by kernel_rfl) ⟨qpp rfl rfl rfl rfl rfl rfl rfl, qpp rfl rfl rfl rfl rfl rfl rfl, trivial⟩ ?_
 refine zCR rfl rfl rfl (fun _ => zf rfl rfl rfl rfl rfl rfl) ?_
 refine zCR rfl rfl rfl (fun _ => zf rfl rfl rfl rfl rfl rfl) ?_
 refine pm_v rfl rfl rfl rfl rfl rfl cmk ?_
 refine zGB (j := 0) rfl rfl rfl (by kernel_rfl) rfl rfl rfl rfl rfl ?_
 refine zDt (j := 1) (poC Q) rfl rfl rfl (by kernel_rfl) rfl rfl rfl rfl rfl rfl rfl rfl ?_
 refine zHf ?_
 refine zX (by kernel_rfl) ?_
 refine rn0 ?_
 refine zCU (zDJ r (S.length + 1) (S ++ [(m, [])])) 9 [(0, .ptr 0 0 0), (2, .int .i64 N), (7, iN S.length), (10, .nil)] rfl rfl ⟨rfl, rfl, rfl, rfl, trivial⟩ ⟨rfl, rfl, rfl, rfl, rfl, trivial⟩ (zEe _ _ _) rfl (fun h q => nofix h _ q) ?_
 refine zBp 10 ⟨3, .ints .i64 []⟩ rfl rfl ?_
 skip
 have cem := zEl r hv Q Sq
 have hml := zEI hv Sq
 have hms : ∀ a ∈ z8 r Q, ze r Q = 0 ∧ a ∈ zo r Q := fun a ha => by
  unfold z8 at ha
  split at ha
  ·simp at ha
  ·rename_i q; exact ⟨Classical.not_not.1 q, ha⟩
 generalize hMs : z8 r Q = ms at *
 refine zg (by kernel_rfl) ?_
 refine zq (fuel := 0) [0, 1, 2, 3, 4, 5, 6, 7] [(9, .rp (.box (poC Q)) 0 0), (0, .ptr 0 0 0), (2, .int .i64 N), (7, iN S.length), (10, .sl 2 0 0)] ⟨rfl, rfl, rfl, rfl, rfl, trivial⟩ (by kernel_rfl) (by decide) rfl rfl ?_
 refine zI rfl rfl (zG rfl) ?_
 refine zI rfl rfl (zU rfl) ?_
 refine zI rfl rfl (zO rfl rfl rfl rfl rfl rfl) ?_
 refine zI rfl rfl (qpp rfl rfl rfl rfl rfl rfl rfl) ?_
 refine zI rfl rfl (zf rfl rfl rfl rfl rfl rfl) ?_
 refine zCS rfl rfl rfl rfl rfl cem ?_
 refine zI rfl rfl (zBB rfl rfl rfl) ?_
 refine zI rfl rfl (zG rfl) ?_
 refine z7 ?_
 refine zX (by kernel_rfl) ?_
 refine rn1 ?_
 refine zAA (ι := Nat × List Int × List zBl) (fun x => [(0, .ptr 0 0 0), (2, .int .i64 N), (7, iN S.length), (9, .rp (.box (poC Q)) 0 0), (10, .sl 2 0 x.1), (53, zAy ms), (54, iN ms.length), (55, iN x.1)]) (fun x => zDJ r (S.length + 1 + x.2.2.length) (S ++ [(m, [])] ++ x.2.2) ++ [inO x.2.1]) (fun x => x.1 ≤ ms.length ∧ zAi r (zGx r k) Q (ms.take x.1) (S.length + 1) = (x.2.1, x.2.2) ∧ S.length + 1 + x.2.2.length ≤ 256) (fun x => ms.length - x.1) (0, [], []) ⟨⟨rfl, rfl, rfl, rfl, rfl, rfl, rfl, rfl, trivial⟩, by simp only [List.append_nil]; rfl, Nat.zero_le _, rfl, by show S.length + 1 + 0 ≤ 256; omega⟩ ?_
 rintro ⟨j, A, T⟩ ⟨hj, hkj, hf⟩
 have hj : j ≤ ms.length := hj
 have hkj : zAi r (zGx r k) Q (ms.take j) (S.length + 1) = (A, T) := hkj
 have hf : S.length + 1 + T.length ≤ 256 := hf
 have hAl : A.length = j := by
  have := zHa r (zGx r k) Q (ms.take j) (S.length + 1)
  rw [hkj, List.length_take] at this
  have this : A.length = min j ms.length := this
  omega
 change Ax _ _ _ _ [(0, .ptr 0 0 0), (2, .int .i64 N), (7, iN S.length), (9, .rp (.box (poC Q)) 0 0), (10, .sl 2 0 j), (53, zAy ms), (54, iN ms.length), (55, iN j)] (zDJ r (S.length + 1 + T.length) (S ++ [(m, [])] ++ T) ++ [inO A])
 have hUl : (S ++ [(m, [])] ++ T).length = S.length + 1 + T.length := by rw [List.length_append, List.length_append]; rfl
 obtain ⟨n, hn⟩ : ∃ n, S.length + 1 + T.length = n := ⟨_, rfl⟩
 obtain ⟨U, hU⟩ : ∃ U, S ++ [(m, [])] ++ T = U := ⟨_, rfl⟩
 rw [hn, hU]
 rw [hn, hU] at hUl
 refine rn4 ?_
 refine zD rfl (fun g => ?_) (fun g => ?_)
 ·have hj' : j < ms.length := by omega
  have hmem := zAL mv0 hj'
  obtain ⟨a, ha⟩ : ∃ a, ms.getD j mv0 = a := ⟨_, rfl⟩
  rw [ha] at hmem
  obtain ⟨hq0, haL⟩ := hms a hmem
  have hMa := Go.Ax.Gm.list_ok hv Sq haL
  have Ss := zBg hv Sq haL
  have hts : ms.take (j + 1) = ms.take j ++ [a] := by rw [zz ms mv0 j hj', ha]
  have hsn := zGY r (zGx r k) Q a (ms.take j) (S.length + 1)
  rw [← hts, hkj] at hsn
  simp only [hn] at hsn
  have hkt := zOm r (zGx r k) Q (S.length + 1) ms (j + 1)
  have cmk2 := zDm r hv Q Sq a hMa
  have hck := fun k' e => hchk k' e hq0 a haL
  generalize hSS : zQ r Q a = s at *
  have cres := zCO r hv s Ss
  refine zFc ?_
  repeat (refine zAG rfl rfl rfl ?_)
  refine zd (mvC a) rfl rfl rfl rfl rfl (by rw [← ha]; rfl) rfl ?_
  refine rn0 ?_
  refine zCU (zDJ r n U ++ [inO A]) 12 [(0, .ptr 0 0 0), (2, .int .i64 N), (7, iN S.length), (9, .rp (.box (poC Q)) 0 0), (10, .sl 2 0 j), (53, zAy ms), (54, iN ms.length), (55, iN j)] rfl rfl ⟨rfl, rfl, rfl, rfl, rfl, rfl, rfl, rfl, trivial⟩ ⟨rfl, rfl, rfl, rfl, rfl, rfl, rfl, rfl, rfl, trivial⟩ (zJt _ _ _ _) rfl (fun h q => nofix h _ q) ?_
  refine zg (by kernel_rfl) ?_
  refine zDo (fuel := 0) [0, 1, 2, 3, 4, 5, 6, 7, 8] [7, 8] (fun j => [zDJ r n U ++ [inO A], zDJ r n U ++ [inO A, poO poZZ], zDJ r n U ++ [inO A, poO (poC s)]].getD j []) [(12, .rp (.box (mvC a)) 0 0), (0, .ptr 0 0 0), (2, .int .i64 N), (7, iN S.length), (9, .rp (.box (poC Q)) 0 0), (10, .sl 2 0 j), (53, zAy ms), (54, iN ms.length), (55, iN j)] ⟨rfl, rfl, rfl, rfl, rfl, rfl, rfl, rfl, rfl, trivial⟩ (by kernel_rfl) (by kernel_rfl) rfl (by decide) rfl rfl ?_
  refine zCR rfl rfl rfl (fun _ => zG rfl) ?_
  refine zCR rfl rfl rfl (fun _ => zU rfl) ?_
  refine zCR rfl rfl rfl (fun _ => zO rfl rfl rfl rfl rfl rfl) ?_
  refine pm_qs [0, 1] rfl rfl rfl (by kernel_rfl) ⟨qpp rfl rfl rfl rfl rfl rfl rfl, qpp rfl rfl rfl rfl rfl rfl rfl, trivial⟩ ?_
  refine zCR rfl rfl rfl (fun _ => zf rfl rfl rfl rfl rfl rfl) ?_
  refine zCR rfl rfl rfl (fun _ => zf rfl rfl rfl rfl rfl rfl) ?_
  refine pm_v rfl rfl rfl rfl rfl rfl cmk2 ?_
  refine zGB (j := 0) rfl rfl rfl (by kernel_rfl) rfl rfl rfl rfl rfl ?_
  refine zDt (j := 1) (poC s) rfl rfl rfl (by kernel_rfl) rfl rfl rfl rfl rfl rfl rfl rfl ?_
  refine zHf ?_
  refine zX (by kernel_rfl) ?_
  refine rn0 ?_
  refine zCU (zDJ r n U ++ [inO A]) 13 [(0, .ptr 0 0 0), (2, .int .i64 N), (7, iN S.length), (9, .rp (.box (poC Q)) 0 0), (10, .sl 2 0 j), (53, zAy ms), (54, iN ms.length), (55, iN j)] rfl rfl ⟨rfl, rfl, rfl, rfl, rfl, rfl, rfl, rfl, trivial⟩ ⟨rfl, rfl, rfl, rfl, rfl, rfl, rfl, rfl, rfl, trivial⟩ (zJt _ _ _ _) rfl (fun h q => nofix h _ q) ?_
  refine zg (by kernel_rfl) ?_
  refine zq (fuel := 0) [0, 1, 2, 3, 4, 5, 6] [(13, .rp (.box (poC s)) 0 0), (0, .ptr 0 0 0), (2, .int .i64 N), (7, iN S.length), (9, .rp (.box (poC Q)) 0 0), (10, .sl 2 0 j), (53, zAy ms), (54, iN ms.length), (55, iN j)] ⟨rfl, rfl, rfl, rfl, rfl, rfl, rfl, rfl, rfl, trivial⟩ (by kernel_rfl) (by decide) rfl rfl ?_
  refine zI rfl rfl (zG rfl) ?_
  refine zI rfl rfl (zU rfl) ?_
  refine zI rfl rfl (zO rfl rfl rfl rfl rfl rfl) ?_
  refine zI rfl rfl (qpp rfl rfl rfl rfl rfl rfl rfl) ?_
  refine zI rfl rfl (zf rfl rfl rfl rfl rfl rfl) ?_
  refine zCS rfl rfl rfl rfl rfl cres ?_
  refine zI rfl rfl (zBj rfl rfl) ?_
  refine z7 ?_
  refine zX (by kernel_rfl) ?_
  repeat (refine zB ?_)
  refine zD rfl (fun w => ?_) (fun w => ?_)
  ·rw [if_pos w] at hsn
   refine rn3 ?_
   refine zAo rfl rfl rfl rfl rfl rfl rfl rfl rfl hAl rfl rfl (by show 0 + 1 ≤ 1; omega) rfl (by show (j + 1) * 8 ≤ _ ∧ _; omega) (fun i j _ _ => rfl) nofix2 ?_
   refine zAX (zDJ r n U ++ [inO (A ++ [-1])]) ?_ ?_
   ·show [some (AObj.mk _ ((Cells.box _).forget 2)), some (AObj.mk _ ((zIE U).forget 2)), _] = _
    rw [zBv (fun a j => zGr a j 2)]; rfl
   refine rn5 ?_
   exact zS ⟨(j + 1, A ++ [-1], T), ⟨by show j + 1 ≤ ms.length; omega, hsn, hf⟩, by show ms.length - (j + 1) < ms.length - j; omega, ⟨rfl, rfl, rfl, rfl, rfl, rfl, rfl, rfl, trivial⟩, by subst hn; subst hU; rfl⟩
  have w := Classical.not_not.1 w
  rw [if_neg (fun c => c w)] at hsn
  obtain ⟨k', hk', ih⟩ : ∃ k', k = k' + 1 ∧ zLp r k' := hrec.elim (fun e => by rw [hk0 e] at hj'; exact absurd hj' (Nat.not_lt_zero _)) id
  obtain ⟨hc1, hc2⟩ := hck k' hk' w
  have hb : zGx r k s n = zx r k' s n := by subst hk'; rfl
  have ihs := ih s hc1 hc2 U (by omega)
  rw [← e3 k' hk', hUl] at ihs
  have ihf := zb.frame [inO (A ++ [(n : Int)])] (K' := GrowK r k' s U (fun x => x = [inO (A ++ [(n : Int)])])) ihs (fun h q => by have q : h < 1 := q; show h < 2; omega) rfl (zEe _ _ _) (zEd zAS) (fun v H' hK => by
   by_cases hfit : U.length + (zx r k' s U.length).length ≤ 256
   ·obtain ⟨h1, x, h2, h3⟩ := hK.1 hfit
    subst h2; subst h3
    exact ⟨rfl, fun _ => ⟨h1, _, rfl, rfl⟩, fun c => absurd c (by omega)⟩
   ·obtain ⟨h1, x, h2, h3⟩ := hK.2 (by omega)
    subst h2; subst h3
    exact ⟨rfl, fun c => absurd c hfit, fun _ => ⟨h1, _, rfl, rfl⟩⟩)
  rw [hb] at hsn
  refine rn8 ?_
  refine zAo rfl rfl rfl rfl rfl rfl rfl rfl rfl hAl rfl rfl (by show 0 + 1 ≤ 1; omega) rfl (by show (j + 1) * 8 ≤ _ ∧ _; omega) (fun i j _ _ => rfl) nofix2 ?_
  refine zAX (zDJ r n U ++ [inO (A ++ [(n : Int)])]) ?_ ?_
  ·show [some (AObj.mk _ ((Cells.box _).forget 2)), some (AObj.mk _ ((zIE U).forget 2)), _] = _
   rw [zBv (fun a j => zGr a j 2)]; rfl
  refine zFc ?_
  refine zEL 1 rfl rfl rfl ihf (fun h q1 q2 => ?_) (fun h q => ?_) nofix1 ?_
  ·have q1 : h < 3 := q1
   show h < 1 ∨ (2 ≤ h ∧ h < 2 + 1)
   omega
  ·have q : h < 1 ∨ (2 ≤ h ∧ h < 2 + 1) := q
   show h < 3
   omega
  intro v H' hK
  by_cases hfit : U.length + (zx r k' s U.length).length ≤ 256
  ·obtain ⟨h1, x, h2, h3⟩ := hK.1 hfit
   subst h1; subst h2; subst h3
   rw [hUl] at hfit ⊢
   refine ⟨by show 3 ≤ 3; omega, ?_⟩
   refine rn5 ?_
   exact zS ⟨(j + 1, A ++ [(n : Int)], T ++ zx r k' s n), ⟨by show j + 1 ≤ ms.length; omega, hsn, by show S.length + 1 + (T ++ zx r k' s n).length ≤ 256; rw [List.length_append]; omega⟩, by show ms.length - (j + 1) < ms.length - j; omega, ⟨rfl, rfl, rfl, rfl, rfl, rfl, rfl, rfl, trivial⟩, by
    show zDJ r (n + (zx r k' s n).length) (U ++ zx r k' s n) ++ _ = zDJ r (S.length + 1 + (T ++ zx r k' s n).length) (S ++ [(m, [])] ++ (T ++ zx r k' s n)) ++ _
    rw [List.length_append, ← Nat.add_assoc, hn, ← hU, List.append_assoc, List.append_assoc]
    first | done | rfl⟩
  ·obtain ⟨h1, x, h2, h3⟩ := hK.2 (by omega)
   subst h1; subst h2; subst h3
   refine ⟨by show 3 ≤ 3; omega, ?_⟩
   rw [hUl] at hfit
   rw [hsn, ← htk] at hkt
   have hkt : (T ++ zx r k' s n).length ≤ (zMw r k p S.length).2.length := hkt
   rw [List.length_append] at hkt
   refine rn6 ?_
   exact zJ hR rfl ⟨fun c => absurd c (by omega), fun c => ⟨rfl, _, trivial, rfl⟩⟩
 ·have hj' : j = ms.length := by omega
  rw [List.take_of_length_le (by omega), ← htk] at hkj
  rw [hkj] at htl hlen
  have htl : zx r k p S.length = (m, A) :: T := htl
  have hlen : (zx r k p S.length).length = 1 + T.length := hlen
  subst hAl
  refine zBC ?_
  refine zCj 2 10 A.length [(0, .ptr 0 0 0), (7, iN S.length)] rfl zAS rfl (Nat.le_refl _) ⟨rfl, rfl, trivial⟩ ?_
  refine zK rfl ?_
  repeat (first | refine zA (zG rfl) ?_ | refine zC ?_ | refine zB ?_ | refine zZ ?_ | refine zA (zV rfl rfl rfl rfl rfl) ?_ | refine zA (zr rfl rfl rfl rfl rfl (by first | (simp only [Nat.zero_add, Int.toNat_natCast, Int.toNat_zero]; exact rfl) | exact rfl) (by omega)) ?_ | refine zA (zU rfl) ?_ | refine zA (zO rfl rfl rfl rfl rfl rfl) ?_ | refine zAH rfl rfl rfl rfl rfl rfl rfl (by first | assumption | (show _ < List.length _; first | assumption | omega)) ?_)
  refine zN0 [solB r (.sl 1 0 n), stpO (S ++ (m, A) :: T), none] (zA3.same (zA3.eqv ⟨?_, rfl, fun i j hi hj => ?_⟩ (zA3.same zA3.nil))) ?_
  ·show (S ++ (m, A) :: T).length = U.length
   rw [← hU]; simp
  ·subst hU
   exact step_set S m A T i j
  refine rn0 ?_
  exact zJ hR rfl ⟨fun c => ⟨rfl, [none], trivial, by rw [hlen, htl, ← hn, Nat.add_assoc]; rfl⟩, fun c => absurd c (by omega)⟩
theorem step_ok (r : Go.Ax.Gm.Rules) : ∀ (k : Nat), zLp r k := by
 have key : ∀ (k : Nat), (k = 0 ∨ ∃ k', k = k' + 1 ∧ zLp r k') → zLp r k := fun k hrec p h hw S hS =>
  zb.cutR (zPK r k hrec p h hw S hS) (fun v H hK => by
   by_cases hfit : S.length + (zx r k p S.length).length ≤ 256
   ·obtain ⟨h1, x, _, h3⟩ := hK.1 hfit
    subst h1; subst h3
    exact ⟨_, x, rfl, fun h q => by have q : h < 1 := q; show h < 2; omega, zEe _ _ _, rfl, fun _ => ⟨rfl, [], rfl, (List.append_nil _).symm⟩, fun c => absurd c (by omega)⟩
   ·obtain ⟨h1, x, _, h3⟩ := hK.2 (by omega)
    subst h1; subst h3
    exact ⟨[none, none], x, rfl, fun h q => by have q : h < 1 := q; show h < 2; omega, bl_n (bl_n zBP), rfl, fun c => absurd c hfit, fun _ => ⟨rfl, [], rfl, rfl⟩⟩)
 intro k
 induction k with
 | zero => exact key 0 (.inl rfl)
 | succ k ih => exact key (k + 1) (.inr ⟨k, rfl, ih⟩)
/-- puzzle.Solution -/
theorem zMp (r : Go.Ax.Gm.Rules) (hr : Lens r) (p : Pos) (hp : LenP p) (n : Int) : zj Tryz.prog 42 [ruA r, poA p, .int .i64 n] (.tup [zCF (zLh r p n), .int .i64 (zHD r p n)]) := by
 refine zb.value0 (zM (P := Tryz.prog) (fn := Tryz.f42) rfl rfl (by kernel_rfl) rfl (fun c hR hfix => ?_)) (fix := fun _ => False) (fun _ h => h) rfl rfl
 have hE : zHD r p n = if zAF r p n ≠ 0 then zAF r p n else if (zAr r (zBy n) p).length = 0 then 8 else if 256 < (zx r (zBy n) p 0).length then 2 else 0 := rfl
 have hL : zLh r p n = if zHD r p n ≠ 0 then [] else zx r (zBy n) p 0 := rfl
 have hwl := zII r p n
 refine zZ ?_
 repeat (first | refine zA (zP rfl) ?_ | refine zC ?_ | refine zB ?_ | refine zK rfl ?_ | refine zAQ rfl rfl ?_)
 refine zC0 3 4 [(2, .int .i64 n), (6, .nil), (7, .int .i64 0)] rfl rfl rfl rfl ⟨rfl, rfl, rfl, trivial⟩ ⟨rfl, rfl, rfl, rfl, rfl, trivial⟩ rfl hfix ?_
 refine rn6 ?_
 refine zN rfl rfl rfl (zFM r hr p hp n) ?_
 refine rn3 ?_
 refine zD rfl (fun q => ?_) (fun q => ?_)
 ·have q : zAF r p n ≠ 0 := q
  rw [if_pos q] at hE
  rw [if_pos (by rw [hE]; exact q)] at hL
  rw [hE, hL] at hR
  refine rn7 ?_
  refine zBM 6 (zCF []) rfl AEq.nil ?_
  refine rn2 ?_
  exact zJ hR rfl rfl
 have q : zAF r p n = 0 := Classical.not_not.1 q
 obtain ⟨k, e, hc⟩ := zFv q
 have eh : zBy n = k := by rw [e, zFA]
 have e2 : zCi r p n = zAr r k p := by unfold zCi; rw [if_neg (fun d => d q), eh]
 rw [if_neg (fun d => d q), eh] at hE
 rw [eh] at hL
 rw [e2] at hwl ⊢
 refine rn4 ?_
 refine zD rfl (fun q2 => ?_) (fun q2 => ?_)
 ·rw [if_pos (by omega)] at hE
  rw [if_pos (by rw [hE]; decide)] at hL
  rw [hE, hL] at hR
  refine rn7 ?_
  refine zBM 6 (zCF []) rfl AEq.nil ?_
  refine rn2 ?_
  exact zJ hR rfl rfl
 rw [if_neg (by omega)] at hE
 have hw : zAr r k p ≠ [] := fun d => q2 (by rw [d]; rfl)
 have cs := step_ok r k p hc hw [] (Nat.zero_le _)
 rw [show zBY k = n from e.symm] at cs
 refine rn20 ?_
 refine zK rfl ?_
 repeat (first | refine zA (zP rfl) ?_ | refine zC ?_ | refine zB ?_ | refine zZ ?_ | refine zA (zCm rfl rfl rfl rfl rfl rfl) ?_ | refine zA (zf rfl rfl rfl rfl rfl rfl) ?_ | refine zAQ rfl rfl ?_)
 refine zAU [solB r .nil] rfl ?_
 refine zDc 0 ⟨80, zIE []⟩ (.box (solC r (.sl 1 0 0))) rfl rfl rfl rfl (fun i j hi hj => by
  obtain rfl : i = 0 := Nat.lt_one_iff.1 hi
  have hj : j < 12 := hj
  match j, hj with
  | 0, _ => exact .inl rfl
  | 1, _ => exact .inl rfl
  | 2, _ => exact .inl rfl
  | 3, _ => exact .inl rfl
  | 4, _ => exact .inl rfl
  | 5, _ => exact .inl rfl
  | 6, _ => exact .inl rfl
  | 7, _ => exact .inl rfl
  | 8, _ => exact .inl rfl
  | 9, _ => exact .inl rfl
  | 10, _ => exact .inl rfl
  | 11, _ => exact .inr ⟨rfl, rfl⟩) ?_
 refine zAU (zDJ r 0 []) rfl ?_
 refine rn6 ?_
 refine zEL 1 rfl rfl rfl cs (fun h q1 q2 => ?_) (fun h q => ?_) (by rw [hfix]; exact fun h => h) ?_
 ·have q1 : h < 2 := q1
  show h < 1
  omega
 ·have q : h < 1 := q
  show h < 2
  omega
 intro v H' hK
 by_cases hfit : (zx r k p 0).length ≤ 256
 ·obtain ⟨h1, x, h2, h3⟩ := hK.1 (by show 0 + (zx r k p 0).length ≤ 256; omega)
  have h3 : H' = zDJ r (0 + (zx r k p 0).length) (zx r k p 0) ++ x := h3
  rw [Nat.zero_add] at h3
  subst h1; subst h2; subst h3
  rw [if_neg (by omega)] at hE
  rw [if_neg (by rw [hE]; decide)] at hL
  rw [hE, hL] at hR
  refine ⟨by show 2 ≤ 2; omega, ?_⟩
  generalize hX : zx r k p 0 = X at hR hfit ⊢
  repeat (first | refine zA (zG rfl) ?_ | refine zA (zP rfl) ?_ | refine zC ?_ | refine zB ?_ | refine zZ ?_ | refine zK rfl ?_ | refine zAh rfl ?_ | refine zAO ?_ | refine zA (zV rfl rfl rfl rfl rfl) ?_ | refine zA (zEa rfl) ?_ | refine zA (zU rfl) ?_ | refine zA (zO rfl rfl rfl rfl rfl rfl) ?_)
  refine zCj 1 6 X.length [(7, .int .i64 0)] rfl (zAV zMt) rfl (Nat.le_refl _) ⟨rfl, trivial⟩ ?_
  repeat (refine zAC ?_)
  exact zJ hR rfl rfl
 ·obtain ⟨h1, x, h2, h3⟩ := hK.2 (by show 256 < 0 + (zx r k p 0).length; omega)
  subst h1; subst h2; subst h3
  rw [if_pos (by omega)] at hE
  rw [if_pos (by rw [hE]; decide)] at hL
  rw [hE, hL] at hR
  refine ⟨by show 2 ≤ 2; omega, ?_⟩
  refine rn9 ?_
  refine zBM 6 (zCF []) rfl AEq.nil ?_
  refine rn2 ?_
  exact zJ hR rfl rfl
theorem zIW (r : Go.Ax.Gm.Rules) (hv : ValidR r) (l : List zBl) (hl : l.length ≤ 256) (hL : ∀ i, (l.getD i zAz).2.length ≤ 1000000) (k : Nat) (hrec : k = 0 ∨ ∃ k', k = k' + 1 ∧ ∀ (p : Pos) (S : Sound r p) (j : Int), zj Tryz.prog 74 [ruA r, poA p, .int .i64 (zBY k'), zCF l, .int .i64 j] (.bool (zA6 r l k' p j))) (hk : k ≤ 100) (p : Pos) (S : Sound r p) (j : Int) : zj Tryz.prog 74 [ruA r, poA p, .int .i64 (zBY k), zCF l, .int .i64 j] (.bool (zA6 r l k p j)) := by
 have hp := zDB r l k p j
 have hpl : 1 ≤ zBY k ∧ zBY k ≤ 1000 := ⟨by show (1:Int) ≤ 2 * (k : Int) + 1; omega, by show 2 * (k : Int) + 1 ≤ (1000 : Int); omega⟩
 have e3 : ∀ k', k = k' + 1 → zBY k - 2 = zBY k' := fun k' h => by subst h; show 2 * ((k' + 1 : Nat) : Int) + 1 - 2 = 2 * (k' : Int) + 1; omega
 have e4 : zBY k < 3 ↔ k = 0 := by show 2 * (k : Int) + 1 < 3 ↔ _; omega
 refine zb.value0 (zM (P := Tryz.prog) (fn := Tryz.f74) rfl rfl (by kernel_rfl) rfl (fun c hR hfix => ?_)) (fix := fun _ => False) (fun _ h => h) rfl rfl
 generalize hN : zBY k = N at hpl e3 e4 hR ⊢
 refine zZ ?_
 repeat (first | refine zA (zP rfl) ?_ | refine zC ?_ | refine zB ?_ | refine zK rfl ?_ | refine zAQ rfl rfl ?_)
 refine zC0 5 6 [(2, .int .i64 N), (3, zCF l), (4, .int .i64 j)] rfl rfl rfl rfl ⟨rfl, rfl, rfl, trivial⟩ ⟨rfl, rfl, rfl, rfl, rfl, trivial⟩ rfl hfix ?_
 repeat (refine zZ ?_)
 refine zg (by kernel_rfl) ?_
 refine zq (fuel := 0) [0, 1, 2, 3, 4, 5, 6, 7, 8, 9, 10, 11, 12, 13, 14, 15, 16, 17, 18, 19, 20, 21, 22, 23] [(5, .rp (.box (ruC r)) 0 0), (6, .rp (.box (poC p)) 0 0), (2, .int .i64 N), (3, zCF l), (4, .int .i64 j)] ⟨rfl, rfl, rfl, rfl, rfl, trivial⟩ (by kernel_rfl) (by decide) rfl rfl ?_
 refine zI rfl rfl (zG rfl) ?_
 refine zI rfl rfl (zCK rfl rfl) ?_
 by_cases h1 : j < 0
 ·rw [decide_eq_true h1]
  rw [if_pos (.inl h1)] at hp
  rw [hp] at hR
  refine zI rfl rfl (zG rfl) ?_
  refine zp rfl rfl rfl rfl rfl ?_
  refine zp rfl rfl rfl rfl rfl ?_
  refine zp rfl rfl rfl rfl rfl ?_
  refine zp rfl rfl rfl rfl rfl ?_
  refine zI rfl rfl (zh rfl rfl) ?_
  refine zI rfl rfl (zG rfl) ?_
  refine zp rfl rfl rfl rfl rfl ?_
  refine zp rfl rfl rfl rfl rfl ?_
  refine zI rfl rfl (zh rfl rfl) ?_
  refine zI rfl rfl (zG rfl) ?_
  refine zp rfl rfl rfl rfl rfl ?_
  refine zp rfl rfl rfl rfl rfl ?_
  refine zp rfl rfl rfl rfl rfl ?_
  refine zp rfl rfl rfl rfl rfl ?_
  refine zp rfl rfl rfl rfl rfl ?_
  refine zp rfl rfl rfl rfl rfl ?_
  refine zp rfl rfl rfl rfl rfl ?_
  refine zp rfl rfl rfl rfl rfl ?_
  refine zp rfl rfl rfl rfl rfl ?_
  refine zp rfl rfl rfl rfl rfl ?_
  refine zI rfl rfl (zh rfl rfl) ?_
  refine z7 ?_
  refine zX (by kernel_rfl) ?_
  refine rn5 ?_
  exact zJ hR rfl rfl
 rw [decide_eq_false h1]
 obtain ⟨i, rfl⟩ : ∃ i : Nat, j = i := ⟨j.toNat, by omega⟩
 by_cases h2 : l.length ≤ i
 ·rw [if_pos (.inr (.inl (by omega)))] at hp
  rw [hp] at hR
  refine zI rfl rfl (zG rfl) ?_
  refine zl rfl rfl rfl rfl (zG rfl) ?_
  refine zl rfl rfl rfl rfl (zG rfl) ?_
  refine zl rfl rfl rfl rfl (zBB rfl rfl rfl) ?_
  refine zl rfl rfl rfl rfl (zD9 rfl rfl) ?_
  rw [decide_eq_true (by omega)]
  refine zI rfl rfl (zh rfl rfl) ?_
  refine zI rfl rfl (zG rfl) ?_
  refine zp rfl rfl rfl rfl rfl ?_
  refine zp rfl rfl rfl rfl rfl ?_
  refine zI rfl rfl (zh rfl rfl) ?_
  refine zI rfl rfl (zG rfl) ?_
  refine zp rfl rfl rfl rfl rfl ?_
  refine zp rfl rfl rfl rfl rfl ?_
  refine zp rfl rfl rfl rfl rfl ?_
  refine zp rfl rfl rfl rfl rfl ?_
  refine zp rfl rfl rfl rfl rfl ?_
  refine zp rfl rfl rfl rfl rfl ?_
  refine zp rfl rfl rfl rfl rfl ?_
  refine zp rfl rfl rfl rfl rfl ?_
  refine zp rfl rfl rfl rfl rfl ?_
  refine zp rfl rfl rfl rfl rfl ?_
  refine zI rfl rfl (zh rfl rfl) ?_
  refine z7 ?_
  refine zX (by kernel_rfl) ?_
  refine rn5 ?_
  exact zJ hR rfl rfl
 have h2 : i < l.length := by omega
 have hM : zo r p = zo r p := rfl
 have hlen := zCc hv S
 have cl := list_ok r hv p S
 have hLi := hL i
 rw [show ((i : Nat) : Int).toNat = i from rfl] at hp
 obtain ⟨st, hst⟩ : ∃ st, l.getD i zAz = st := ⟨_, rfl⟩
 rw [hst] at hp hLi
 have cc := zHz (zo r p) st.1 (by omega)
 rw [zNw, ← hst] at cc
 refine zI rfl rfl (zG rfl) ?_
 refine zl rfl rfl rfl rfl (zG rfl) ?_
 refine zl rfl rfl rfl rfl (zG rfl) ?_
 refine zl rfl rfl rfl rfl (zBB rfl rfl rfl) ?_
 refine zl rfl rfl rfl rfl (zD9 rfl rfl) ?_
 rw [decide_eq_false (by omega)]
 refine zI rfl rfl (zh rfl rfl) ?_
 refine zI rfl rfl (zG rfl) ?_
 refine zl rfl rfl rfl rfl (zG rfl) ?_
 refine zl rfl rfl rfl rfl (zCK rfl rfl) ?_
 rw [decide_eq_false (by omega)]
 refine zI rfl rfl (zh rfl rfl) ?_
 refine zI rfl rfl (zG rfl) ?_
 refine zl rfl rfl rfl rfl (zf rfl rfl rfl rfl rfl rfl) ?_
 refine zl rfl rfl rfl rfl (zf rfl rfl rfl rfl rfl rfl) ?_
 refine zBm rfl rfl rfl rfl rfl rfl rfl cl ?_
 refine zl rfl rfl rfl rfl (zG rfl) ?_
 refine zl rfl rfl rfl rfl (zG rfl) ?_
 refine zl rfl rfl rfl rfl (zi rfl rfl rfl rfl (by first | (simp only [Nat.zero_add, Int.toNat_natCast, Int.toNat_zero]; exact rfl) | exact rfl) (by omega)) ?_
 refine zl rfl rfl rfl rfl (zL rfl rfl rfl rfl rfl rfl) ?_
 refine zl rfl rfl rfl rfl (zCv rfl rfl rfl rfl rfl rfl) ?_
 refine zBm rfl rfl rfl rfl rfl rfl rfl cc ?_
 refine zl rfl rfl rfl rfl (zEa rfl) ?_
 refine zI rfl rfl (zh rfl rfl) ?_
 refine z7 ?_
 refine zX (by kernel_rfl) ?_
 rw [hst]
 by_cases h3 : st.1 ∈ zo r p
 rotate_left
 ·rw [if_pos (.inr (.inr h3))] at hp
  rw [hp] at hR
  rw [decide_eq_false h3]
  refine rn5 ?_
  exact zJ hR rfl rfl
 rw [if_neg (fun d => d.elim (fun d => h1 d) (fun d => d.elim (fun d => by omega) (fun d => d h3)))] at hp
 rw [decide_eq_true h3]
 have cmk := zDm r hv p S st.1 (Go.Ax.Gm.list_ok hv S h3)
 have Sq := zBg hv S h3
 have ht := S.tn
 have hrest0 : k = 0 → zJj r l k p i = false := fun h => by subst h; rfl
 have hrestS : ∀ k', k = k' + 1 → zJj r l k p i = (decide (st.2.length = (zo r (zQ r p st.1)).length) && ((zo r (zQ r p st.1)).zip st.2).all (zD7 r (zA6 r l k') (1 + p.turn) (zQ r p st.1) i)) := fun k' h => by
  subst h; rw [zJj, show ((i : Nat) : Int).toNat = i from rfl, hst]
 rw [← hst] at cmk
 generalize hQ : zQ r p (l.getD i zAz).1 = Q at cmk
 rw [hst] at hQ
 simp only [hQ] at Sq hp hrestS
 refine zB0 ?_
 refine zg (by kernel_rfl) ?_
 refine zDo (fuel := 0) [0, 1, 2, 3, 4, 5, 6, 7, 8, 9] [8, 9] (fun j => [[], [some ⟨35, .box [.nil, .nil, .nil, .int .i64 0, .int .i64 0]⟩], [some ⟨35, .box (poC Q)⟩]].getD j []) [(5, .rp (.box (ruC r)) 0 0), (6, .rp (.box (poC p)) 0 0), (2, .int .i64 N), (3, zCF l), (4, iN i), (11, .int .i64 (1 + p.turn))] ⟨rfl, rfl, rfl, rfl, rfl, rfl, trivial⟩ (by kernel_rfl) (by kernel_rfl) rfl (by decide) rfl rfl ?_
 refine zCR rfl rfl rfl (fun _ => zf rfl rfl rfl rfl rfl rfl) ?_
 refine zCR rfl rfl rfl (fun _ => zf rfl rfl rfl rfl rfl rfl) ?_
 refine zCR rfl rfl rfl (fun _ => zG rfl) ?_
 refine zCR rfl rfl rfl (fun _ => zG rfl) ?_
 refine zCR rfl rfl rfl (fun _ => zi rfl rfl rfl rfl (by first | (simp only [Nat.zero_add, Int.toNat_natCast, Int.toNat_zero]; exact rfl) | exact rfl) (by omega)) ?_
 refine zCR rfl rfl rfl (fun _ => zL rfl rfl rfl rfl rfl rfl) ?_
 refine zCR rfl rfl rfl (fun _ => zCv rfl rfl rfl rfl rfl rfl) ?_
 refine pm_v rfl rfl rfl rfl rfl rfl cmk ?_
 refine zGB (j := 0) rfl rfl rfl (by kernel_rfl) rfl rfl rfl rfl rfl ?_
 refine zDt (j := 1) (poC Q) rfl rfl rfl (by kernel_rfl) rfl rfl rfl rfl rfl rfl rfl rfl ?_
 refine zHf ?_
 refine zX (by kernel_rfl) ?_
 refine zBC ?_
 have cres := zCO r hv Q Sq
 have hnx : (l.getD i zAz).2 = st.2 := by rw [hst]
 refine zB1 12 [(5, .rp (.box (ruC r)) 0 0), (2, .int .i64 N), (3, zCF l), (4, iN i), (11, .int .i64 (1 + p.turn))] rfl ⟨rfl, rfl, rfl, rfl, rfl, rfl, trivial⟩ ⟨rfl, rfl, rfl, rfl, rfl, trivial⟩ rfl hfix ?_
 refine rn6 ?_
 refine zN rfl rfl rfl cres ?_
 refine rn3 ?_
 refine zD rfl (fun q => ?_) (fun q => ?_)
 ·rw [if_pos q] at hp
  rw [hp] at hR
  refine rn4 ?_
  refine zn rfl rfl (fun q1 => ?_) (fun q1 => ?_)
  ·rw [decide_eq_true q1] at hR
   repeat (first | refine zA (zG rfl) ?_ | refine zA (zP rfl) ?_ | refine zC ?_ | refine zB ?_ | refine zw rfl rfl ?_ | refine zAC ?_ | refine zBJ ?_ | refine zA (zAt rfl rfl rfl rfl) ?_ | refine zA (zBb rfl rfl) ?_ | refine zA (zh rfl rfl) ?_ | refine zA (zBB rfl rfl rfl) ?_ | refine zA (zi rfl rfl rfl rfl (by first | (simp only [Nat.zero_add, Int.toNat_natCast, Int.toNat_zero]; exact rfl) | exact rfl) (by omega)) ?_ | refine zA (zL rfl rfl rfl rfl rfl rfl) ?_)
   refine zJ hR rfl ?_
   show AV.bool (decide (((l.getD i zAz).2.length : Int) = 0)) = _
   rw [hnx]
   congr 1
   exact decide_eq_decide.2 (by omega)
  ·rw [decide_eq_false q1] at hR
   refine rn6 ?_
   exact zJ hR rfl rfl
 rw [if_neg q] at hp
 have q := Classical.not_not.1 q
 have cl2 := list_ok r hv Q Sq
 have hlen2 := zCc hv Sq
 have hms : ∀ a ∈ zo r Q, MvOK r Q a ∧ Sound r (zQ r Q a) := fun a ha => ⟨Go.Ax.Gm.list_ok hv Sq ha, zBg hv Sq ha⟩
 generalize hMs : zo r Q = ms at *
 refine rn6 ?_
 refine zN rfl rfl rfl cl2 ?_
 refine rn4 ?_
 refine zn rfl rfl (fun q1 => ?_) (fun q1 => ?_)
 ·rw [hp, hrest0 (e4.1 q1)] at hR
  refine rn6 ?_
  exact zJ hR rfl rfl
 obtain ⟨k', hk', ih⟩ : ∃ k', k = k' + 1 ∧ ∀ (p : Pos) (S : Sound r p) (j : Int), zj Tryz.prog 74 [ruA r, poA p, .int .i64 (zBY k'), zCF l, .int .i64 j] (.bool (zA6 r l k' p j)) := hrec.elim (fun h => absurd (e4.2 h) q1) id
 have hrest := hrestS k' hk'
 repeat (first | refine zA (zG rfl) ?_ | refine zC ?_ | refine zB ?_ | refine zw rfl rfl ?_ | refine zA (zAt rfl rfl rfl rfl) ?_ | refine zA (zBj rfl rfl) ?_ | refine zA (zh rfl rfl) ?_ | refine zA (zBB rfl rfl rfl) ?_ | refine zA (zi rfl rfl rfl rfl (by first | (simp only [Nat.zero_add, Int.toNat_natCast, Int.toNat_zero]; exact rfl) | exact rfl) (by omega)) ?_ | refine zA (zL rfl rfl rfl rfl rfl rfl) ?_)
 refine zD rfl (fun q2 => ?_) (fun q2 => ?_)
 ·rw [hnx] at q2
  rw [decide_eq_false (by omega), Bool.false_and] at hrest
  rw [hp, hrest] at hR
  refine rn2 ?_
  exact zJ hR rfl rfl
 rw [hnx] at q2
 have q2 : st.2.length = ms.length := by omega
 rw [decide_eq_true q2, Bool.true_and] at hrest
 have hzl : (ms.zip st.2).length = ms.length := by rw [List.length_zip]; omega
 have e3 := e3 k' hk'
 refine rn3 ?_
 refine zAA (ι := Nat) (fun j => [(12, .rp (.box (poC Q)) 0 0), (5, .rp (.box (ruC r)) 0 0), (2, .int .i64 N), (3, zCF l), (4, iN i), (11, .int .i64 (1 + p.turn)), (87, zAy ms), (88, iN ms.length), (89, iN j)]) (fun _ => []) (fun j => j ≤ ms.length ∧ ((ms.zip st.2).take j).all (zD7 r (zA6 r l k') (1 + p.turn) Q i) = true) (fun j => ms.length - j) 0 ⟨⟨rfl, rfl, rfl, rfl, rfl, rfl, rfl, rfl, rfl, trivial⟩, rfl, Nat.zero_le _, rfl⟩ ?_
 intro j ⟨hj, hall2⟩
 refine rn4 ?_
 refine zD rfl (fun g => ?_) (fun g => ?_)
 ·have hj' : j < ms.length := by omega
  have hmem := zAL mv0 hj'
  have hzg : (ms.zip st.2).getD j (mv0, 0) = (ms.getD j mv0, st.2.getD j 0) := by
   simp only [List.getD, List.getElem?_eq_getElem (show j < (ms.zip st.2).length by omega), List.getElem?_eq_getElem hj', List.getElem?_eq_getElem (show j < st.2.length by omega), Option.getD_some, List.getElem_zip]
  have hst2 : ((ms.zip st.2).take (j + 1)).all (zD7 r (zA6 r l k') (1 + p.turn) Q i) = zD7 r (zA6 r l k') (1 + p.turn) Q i (ms.getD j mv0, st.2.getD j 0) := by
   rw [zz (ms.zip st.2) (mv0, 0) j (by omega), List.all_append, hall2, hzg]; simp
  have hno : zD7 r (zA6 r l k') (1 + p.turn) Q i (ms.getD j mv0, st.2.getD j 0) = false → (ms.zip st.2).all (zD7 r (zA6 r l k') (1 + p.turn) Q i) = false := fun c => by
   rw [← Bool.not_eq_true, List.all_eq_true]
   intro d
   have := d _ (hzg ▸ zAL (mv0, 0) (show j < (ms.zip st.2).length by omega))
   rw [c] at this; cases this
  obtain ⟨a, ha⟩ : ∃ a, ms.getD j mv0 = a := ⟨_, rfl⟩
  rw [ha] at hmem hst2 hno
  obtain ⟨ha1, ha2⟩ := hms a hmem
  refine zFc ?_
  refine rn4 ?_
  refine zd (mvC a) rfl rfl rfl rfl rfl (by rw [← ha]; rfl) rfl ?_
  refine rn0 ?_
  have hjn : j < (l.getD i zAz).2.length := by rw [hnx]; omega
  have cmk2 := zDm r hv Q Sq a ha1
  generalize hSS : zQ r Q a = s at *
  refine zB1 16 [(12, .rp (.box (poC Q)) 0 0), (5, .rp (.box (ruC r)) 0 0), (2, .int .i64 N), (3, zCF l), (4, iN i), (11, .int .i64 (1 + p.turn)), (87, zAy ms), (88, iN ms.length), (89, iN j), (15, iN j)] rfl ⟨rfl, rfl, rfl, rfl, rfl, rfl, rfl, rfl, rfl, rfl, rfl, trivial⟩ ⟨rfl, rfl, rfl, rfl, rfl, rfl, rfl, rfl, rfl, rfl, trivial⟩ rfl hfix ?_
  refine zg (by kernel_rfl) ?_
  refine zDo (fuel := 0) [0, 1, 2, 3, 4, 5, 6, 7, 8, 9, 10, 11, 12, 13, 14] [12, 13] (fun j => [[], [some ⟨35, .box [.nil, .nil, .nil, .int .i64 0, .int .i64 0]⟩], [some ⟨35, .box (poC s)⟩]].getD j []) [(12, .rp (.box (poC Q)) 0 0), (5, .rp (.box (ruC r)) 0 0), (2, .int .i64 N), (3, zCF l), (4, iN i), (11, .int .i64 (1 + p.turn)), (87, zAy ms), (88, iN ms.length), (89, iN j), (15, iN j), (16, .rp (.box (mvC a)) 0 0)] ⟨rfl, rfl, rfl, rfl, rfl, rfl, rfl, rfl, rfl, rfl, rfl, trivial⟩ (by kernel_rfl) (by kernel_rfl) rfl (by decide) rfl rfl ?_
  refine zCR rfl rfl rfl (fun _ => zf rfl rfl rfl rfl rfl rfl) ?_
  refine zCR rfl rfl rfl (fun _ => zf rfl rfl rfl rfl rfl rfl) ?_
  refine zCR rfl rfl rfl (fun _ => zf rfl rfl rfl rfl rfl rfl) ?_
  refine pm_v rfl rfl rfl rfl rfl rfl cmk2 ?_
  refine zCR rfl rfl rfl (fun _ => zG rfl) ?_
  refine zCR rfl rfl rfl (fun _ => zG rfl) ?_
  refine zCR rfl rfl rfl (fun _ => zi rfl rfl rfl rfl (by first | (simp only [Nat.zero_add, Int.toNat_natCast, Int.toNat_zero]; exact rfl) | exact rfl) (by omega)) ?_
  refine zCR rfl rfl rfl (fun _ => zL rfl rfl rfl rfl rfl rfl) ?_
  refine zCR rfl rfl rfl (fun _ => zAt rfl rfl rfl rfl) ?_
  refine zCR rfl rfl rfl (fun _ => zG rfl) ?_
  refine zCR rfl rfl rfl (fun _ => zi rfl rfl rfl rfl (by first | (simp only [Nat.zero_add, Int.toNat_natCast, Int.toNat_zero]; exact rfl) | exact rfl) (by omega)) ?_
  refine zCR rfl rfl rfl (fun _ => zBi rfl rfl rfl) ?_
  refine zGB (j := 0) rfl rfl rfl (by kernel_rfl) rfl rfl rfl rfl rfl ?_
  refine zDt (j := 1) (poC s) rfl rfl rfl (by kernel_rfl) rfl rfl rfl rfl rfl rfl rfl rfl ?_
  refine zCR rfl rfl rfl (fun _ => zP rfl) ?_
  refine zHf ?_
  refine zX (by kernel_rfl) ?_
  refine zBC ?_
  refine zB1 17 [(12, .rp (.box (poC Q)) 0 0), (5, .rp (.box (ruC r)) 0 0), (2, .int .i64 N), (3, zCF l), (4, iN i), (11, .int .i64 (1 + p.turn)), (87, zAy ms), (88, iN ms.length), (89, iN j), (18, .int .i64 ((l.getD i zAz).2.getD j 0))] rfl ⟨rfl, rfl, rfl, rfl, rfl, rfl, rfl, rfl, rfl, rfl, rfl, trivial⟩ ⟨rfl, rfl, rfl, rfl, rfl, rfl, rfl, rfl, rfl, rfl, trivial⟩ rfl hfix ?_
  rw [hnx]
  have cres2 := zCO r hv s ha2
  generalize hto : st.2.getD j 0 = to at *
  have hlk : zD7 r (zA6 r l k') (1 + p.turn) Q i (a, to) = if ze r s = 1 + p.turn then decide (to = -1) else if ze r s = 0 then decide ((i : Int) < to) && zA6 r l k' s to else false := by
   rw [zD7, hSS]
  have ihs := ih s ha2 to
  rw [← e3] at ihs
  generalize hpv : zA6 r l k' s to = pv at hlk ihs
  refine rn6 ?_
  refine zN rfl rfl rfl cres2 ?_
  refine rn4 ?_
  refine zD rfl (fun w1 => ?_) (fun w1 => ?_)
  ·rw [if_pos w1] at hlk
   refine rn3 ?_
   refine zD rfl (fun w2 => ?_) (fun w2 => ?_)
   ·rw [decide_eq_false w2] at hlk
    rw [hp, hrest, hno hlk] at hR
    refine rn6 ?_
    exact zJ hR rfl rfl
   ·rw [decide_eq_true (Classical.not_not.1 w2)] at hlk
    refine rn5 ?_
    exact zS ⟨j + 1, ⟨by omega, by rw [hst2, hlk]⟩, by omega, ⟨rfl, rfl, rfl, rfl, rfl, rfl, rfl, rfl, rfl, trivial⟩, rfl⟩
  rw [if_neg w1] at hlk
  refine rn4 ?_
  refine zD rfl (fun w2 => ?_) (fun w2 => ?_)
  ·rw [if_pos w2] at hlk
   refine rn8 ?_
   refine zn rfl rfl (fun w3 => ?_) (fun w3 => ?_)
   ·rw [decide_eq_false (by omega), Bool.false_and] at hlk
    rw [hp, hrest, hno hlk] at hR
    refine rn6 ?_
    exact zJ hR rfl rfl
   ·rw [decide_eq_true (by omega), Bool.true_and] at hlk
    refine zFc ?_
    refine zN rfl rfl rfl ihs ?_
    cases pv with
    | true =>
     refine rn5 ?_
     exact zS ⟨j + 1, ⟨by omega, by rw [hst2, hlk]⟩, by omega, ⟨rfl, rfl, rfl, rfl, rfl, rfl, rfl, rfl, rfl, trivial⟩, rfl⟩
    | false =>
     rw [hp, hrest, hno hlk] at hR
     refine rn6 ?_
     exact zJ hR rfl rfl
  ·rw [if_neg w2] at hlk
   rw [hp, hrest, hno hlk] at hR
   refine rn6 ?_
   exact zJ hR rfl rfl
 ·have hj' : j = ms.length := by omega
  subst hj'
  rw [List.take_of_length_le (by omega)] at hall2
  rw [hp, hrest, hall2] at hR
  refine rn5 ?_
  exact zJ hR rfl rfl
theorem zKw (r : Go.Ax.Gm.Rules) (hv : ValidR r) (l : List zBl) (hl : l.length ≤ 256) (hL : ∀ i, (l.getD i zAz).2.length ≤ 1000000) : ∀ (k : Nat) (hk : k ≤ 100) (p : Pos) (S : Sound r p) (j : Int), zj Tryz.prog 74 [ruA r, poA p, .int .i64 (zBY k), zCF l, .int .i64 j] (.bool (zA6 r l k p j))
 | 0, hk, p, S, j => zIW r hv l hl hL 0 (.inl rfl) hk p S j
 | k + 1, hk, p, S, j => zIW r hv l hl hL (k + 1) (.inr ⟨k, rfl, fun p S j => zKw r hv l hl hL k (by omega) p S j⟩) hk p S j
/-- puzzle.Verify -/
theorem zK2 (r : Go.Ax.Gm.Rules) (hr : Lens r) (p : Pos) (hp : LenP p) (n : Int) (l : List zBl) (hl : l.length ≤ 1000000) (hL : ∀ i, (l.getD i zAz).2.length ≤ 1000000) : zj Tryz.prog 43 [ruA r, poA p, .int .i64 n, zCF l] (.int .i64 (zGj r p n l)) := by
 refine zb.value0 (zM (P := Tryz.prog) (fn := Tryz.f43) rfl rfl (by kernel_rfl) rfl (fun c hR hfix => ?_)) (fix := fun _ => False) (fun _ h => h) rfl rfl
 have hE : zGj r p n l = if zAF r p n ≠ 0 then zAF r p n else if 256 < l.length then 2 else if zA6 r l (zBy n) p 0 = false then 16 else 0 := rfl
 refine rn6 ?_
 refine zN rfl rfl rfl (zHy r hr p hp n) ?_
 refine rn3 ?_
 refine zD rfl (fun q => ?_) (fun q => ?_)
 ·have q : zAF r p n ≠ 0 := q
  rw [if_pos q] at hE
  rw [hE] at hR
  refine rn2 ?_
  exact zJ hR rfl rfl
 have q : zAF r p n = 0 := Classical.not_not.1 q
 rw [if_neg (fun d => d q)] at hE
 obtain ⟨k, e, hc⟩ := zFv q
 refine rn6 ?_
 refine zD rfl (fun q2 => ?_) (fun q2 => ?_)
 ·rw [if_pos (by omega)] at hE
  rw [hE] at hR
  refine rn2 ?_
  exact zJ hR rfl rfl
 rw [if_neg (by omega)] at hE
 have cp := zKw r hc.v l (by omega) hL k (Nat.le_trans hc.k2 (by omega)) p hc.S 0
 have e3 : zBY k = n := e.symm
 have e4 : zBy n = k := by rw [e, zFA]
 rw [e3] at cp
 rw [e4] at hE
 generalize zA6 r l k p 0 = b at hE cp
 refine rn6 ?_
 refine zN rfl rfl rfl cp ?_
 refine rn5 ?_
 cases b with
 | false =>
  rw [if_pos rfl] at hE
  rw [hE] at hR
  refine rn5 ?_
  exact zJ hR rfl rfl
 | true =>
  rw [if_neg (by decide)] at hE
  rw [hE] at hR
  refine rn4 ?_
  exact zJ hR rfl rfl
abbrev zFK : Mv := ⟨-1, 2, 0⟩
theorem zCa : Lens Go.Ax.Gm.three := ⟨by decide, by decide, by decide, by decide, by decide⟩
theorem zGK : zEO Go.Ax.Gm.three 1 = 0 ∧ zDq Go.Ax.Gm.three 1 = [zAK Go.Ax.Gm.three] := by
 have e : zEO Go.Ax.Gm.three 1 = 0 := by
  unfold zEO
  rw [if_neg (fun d => d zDF), if_neg (by decide), zPS]
 refine ⟨e, ?_⟩
 unfold zDq
 rw [if_neg (fun d => d e), zJ6]
 show zDN (zEF Go.Ax.Gm.three (threeL, zJ5)) 1 = _
 rw [zPT, zKM]
theorem equalW : zj Tryz.prog 27 [zAy [zFK], .ro (zGq 1 3 [.int .i64 (-1), .int .i64 2, .int .i64 0]) 0 1] (.bool true) := fun H =>
 zb.args (zN6 [zFK] [zFK] (by decide) (by decide) H) ⟨AEq.rfl', AEq.ro rfl (fun d j hd hj => by
  have hd : d < 1 := hd
  obtain rfl : d = 0 := by omega
  have hj : j < 3 := hj
  match j, hj with
  | 0, _ => rfl
  | 1, _ => rfl
  | 2, _ => rfl), trivial⟩
/-- puzzleFact -/
theorem zMf : zj Tryz.prog 34 [] (.bool true) := by
 refine zb.value0 (zM (P := Tryz.prog) (fn := Tryz.f34) rfl rfl (by kernel_rfl) rfl (fun c hR hfix => ?_)) (fix := fun _ => False) (fun _ h => h) rfl rfl
 have hl1 : ([(zFK, [])] : List zBl).length = 1 := rfl
 have hl : LenP (zAK Go.Ax.Gm.three) := (zAv three_checked.v three_checked.S).len
 have cw := zFM Go.Ax.Gm.three zCa (zAK Go.Ax.Gm.three) hl 1
 rw [zNp, zCh] at cw
 have cl := least_ok Go.Ax.Gm.three zCa (zAK Go.Ax.Gm.three) hl
 rw [zMz] at cl
 have cs := zPB Go.Ax.Gm.three zCa (zAK Go.Ax.Gm.three) hl 1
 rw [zHn.1, zHn.2] at cs
 have co := zMp Go.Ax.Gm.three zCa (zAK Go.Ax.Gm.three) hl 1
 rw [zIi.1, zIi.2] at co
 have cc := zNG Go.Ax.Gm.three zCa 1
 rw [zGK.1, zGK.2] at cc
 have cv := zK2 Go.Ax.Gm.three zCa (zAK Go.Ax.Gm.three) hl 1 [(zFK, [])] (by decide) (fun i => by
  match i with
  | 0 => exact Nat.zero_le _
  | i + 1 => exact Nat.zero_le _)
 rw [zLk] at cv
 have cn := zK2 Go.Ax.Gm.three zCa (zAK Go.Ax.Gm.three) hl 1 [] (by decide) (fun i => Nat.zero_le _)
 rw [zMx] at cn
 have cn : zj Tryz.prog 43 [ruA Go.Ax.Gm.three, poA (zAK Go.Ax.Gm.three), .int .i64 1, .nil] (.int .i64 16) := fun H => zb.args (cn H) ⟨AEq.rfl', AEq.rfl', AEq.rfl', AEq.nil, trivial⟩
 have ck := zHy Go.Ax.Gm.three zCa (zAK Go.Ax.Gm.three) hl 2
 rw [zLj] at ck
 refine rn0 ?_
 refine zN rfl rfl rfl zDE ?_
 skip
 refine zN rfl rfl rfl zET ?_
 skip
 refine zN rfl rfl rfl cw ?_
 refine rn2 ?_
 refine zN rfl rfl rfl zDE ?_
 skip
 refine zN rfl rfl rfl zET ?_
 skip
 refine zN rfl rfl rfl cl ?_
 refine rn2 ?_
 refine zN rfl rfl rfl zDE ?_
 skip
 refine zN rfl rfl rfl zET ?_
 skip
 refine zN rfl rfl rfl cs ?_
 refine rn4 ?_
 refine zd (mvC zFK) rfl rfl rfl rfl rfl rfl rfl ?_
 refine rn0 ?_
 refine zN rfl rfl rfl zDE ?_
 skip
 refine zN rfl rfl rfl zET ?_
 skip
 refine zN rfl rfl rfl co ?_
 refine rn2 ?_
 refine zN rfl rfl rfl zDE ?_
 skip
 refine zN rfl rfl rfl cc ?_
 refine rn9 ?_
 refine zd (mvC zFK) rfl rfl rfl rfl rfl rfl rfl ?_
 refine rn0 ?_
 refine zC0 5 11 [(1, zAy [zFK]), (2, .int .i64 0), (3, .int .i64 1), (4, .int .i64 0), (6, .int .i64 0), (7, zCF [(zFK, [])]), (8, .int .i64 0), (9, .ro (zCJ [zAK Go.Ax.Gm.three]) 0 1), (10, .int .i64 0)] rfl rfl rfl rfl ⟨rfl, rfl, rfl, rfl, rfl, rfl, rfl, rfl, rfl, trivial⟩ ⟨rfl, rfl, rfl, rfl, rfl, rfl, rfl, rfl, rfl, rfl, rfl, trivial⟩ rfl hfix ?_
 refine zg (by kernel_rfl) ?_
 refine zq (fuel := 0) [0, 1, 2, 3, 4, 5, 6, 7, 8, 9, 10, 11, 12, 13, 14, 15, 16, 17, 18, 19, 20, 21, 22, 23, 24, 25, 26, 27, 28, 29, 30, 31, 32, 33, 34, 35, 36, 37, 38, 39, 40, 41, 42, 43, 44, 45, 46, 47, 48, 49, 50, 51, 52, 53, 54, 55, 56, 57, 58, 59] [(5, .rp (.box (mvC zFK)) 0 0), (11, .rp (.box (mvC zFK)) 0 0), (1, zAy [zFK]), (2, .int .i64 0), (3, .int .i64 1), (4, .int .i64 0), (6, .int .i64 0), (7, zCF [(zFK, [])]), (8, .int .i64 0), (9, .ro (zCJ [zAK Go.Ax.Gm.three]) 0 1), (10, .int .i64 0)] ⟨rfl, rfl, rfl, rfl, rfl, rfl, rfl, rfl, rfl, rfl, rfl, trivial⟩ (by kernel_rfl) (by decide) rfl rfl ?_
 refine zI rfl rfl (zG rfl) ?_
 refine zI rfl rfl (zG rfl) ?_
 refine zI rfl rfl (zG rfl) ?_
 refine zI rfl rfl (zG rfl) ?_
 refine zI rfl rfl (zG rfl) ?_
 refine px_b rfl rfl rfl rfl rfl rfl rfl rfl rfl rfl rfl rfl rfl ?_
 refine zCS rfl rfl rfl rfl rfl (fineI [0, 0, 0, 0, 0] (by decide)) ?_
 refine zI rfl rfl (zG rfl) ?_
 refine zl rfl rfl rfl rfl (zG rfl) ?_
 refine zl rfl rfl rfl rfl (zf rfl rfl rfl rfl rfl rfl) ?_
 refine px_gb rfl rfl rfl rfl rfl rfl rfl rfl rfl rfl rfl rfl rfl rfl rfl ?_
 refine zBm rfl rfl rfl rfl rfl rfl rfl equalW ?_
 refine zI rfl rfl (zh rfl rfl) ?_
 refine zI rfl rfl (zG rfl) ?_
 refine zl rfl rfl rfl rfl (zG rfl) ?_
 refine zl rfl rfl rfl rfl (zBb rfl rfl) ?_
 refine zI rfl rfl (zh rfl rfl) ?_
 refine zI rfl rfl (zG rfl) ?_
 refine zl rfl rfl rfl rfl (zf rfl rfl rfl rfl rfl rfl) ?_
 refine zl rfl rfl rfl rfl (zf rfl rfl rfl rfl rfl rfl) ?_
 refine zl rfl rfl rfl rfl (zEc rfl rfl rfl (by kernel_rfl) (by kernel_rfl) (by kernel_rfl) rfl) ?_
 refine zI rfl rfl (zh rfl rfl) ?_
 refine zI rfl rfl (zG rfl) ?_
 refine zl rfl rfl rfl rfl (zG rfl) ?_
 refine zl rfl rfl rfl rfl (zBB rfl rfl rfl) ?_
 refine zl rfl rfl rfl rfl (zBb rfl rfl) ?_
 refine zI rfl rfl (zh rfl rfl) ?_
 refine zI rfl rfl (zG rfl) ?_
 refine zl rfl rfl rfl rfl (zG rfl) ?_
 refine zl rfl rfl rfl rfl (zi rfl rfl rfl rfl (by first | (simp only [Nat.zero_add, Int.toNat_natCast, Int.toNat_zero]; exact rfl) | exact rfl) (by omega)) ?_
 refine zl rfl rfl rfl rfl (zL rfl rfl rfl rfl rfl rfl) ?_
 refine zl rfl rfl rfl rfl (zCv rfl rfl rfl rfl rfl rfl) ?_
 refine zl rfl rfl rfl rfl (zf rfl rfl rfl rfl rfl rfl) ?_
 refine zl rfl rfl rfl rfl (zEc rfl rfl rfl (by kernel_rfl) (by kernel_rfl) (by kernel_rfl) rfl) ?_
 refine zI rfl rfl (zh rfl rfl) ?_
 refine zI rfl rfl (zG rfl) ?_
 refine zl rfl rfl rfl rfl (zG rfl) ?_
 refine zl rfl rfl rfl rfl (zBB rfl rfl rfl) ?_
 refine zl rfl rfl rfl rfl (zBb rfl rfl) ?_
 refine zI rfl rfl (zh rfl rfl) ?_
 refine zI rfl rfl (zG rfl) ?_
 refine zBm rfl rfl rfl rfl rfl rfl rfl zDE ?_
 refine zBm rfl rfl rfl rfl rfl rfl rfl zET ?_
 refine zl rfl rfl rfl rfl (zG rfl) ?_
 refine zBm rfl rfl rfl rfl rfl rfl rfl cv ?_
 refine zl rfl rfl rfl rfl (zBb rfl rfl) ?_
 refine zI rfl rfl (zh rfl rfl) ?_
 refine zI rfl rfl (zG rfl) ?_
 refine zBm rfl rfl rfl rfl rfl rfl rfl zDE ?_
 refine zBm rfl rfl rfl rfl rfl rfl rfl zET ?_
 refine zBm rfl rfl rfl rfl rfl rfl rfl cn ?_
 refine zl rfl rfl rfl rfl (zBb rfl rfl) ?_
 refine zI rfl rfl (zh rfl rfl) ?_
 refine zI rfl rfl (zG rfl) ?_
 refine zBm rfl rfl rfl rfl rfl rfl rfl zDE ?_
 refine zBm rfl rfl rfl rfl rfl rfl rfl zET ?_
 refine zBm rfl rfl rfl rfl rfl rfl rfl ck ?_
 refine zl rfl rfl rfl rfl (zBb rfl rfl) ?_
 refine zI rfl rfl (zh rfl rfl) ?_
 refine zI rfl rfl (zP rfl) ?_
 refine z7 ?_
 refine zX (by kernel_rfl) ?_
 refine rn0 ?_
 exact zJ hR rfl rfl
end Go.Proofs.YtiifcejepaeepaaGreatDoor
namespace Go.Proofs.YtiifcejepaeepaaGreatDoor
open Go.Ax Go.Ax.Idx
attribute [local irreducible] Ax zCT QOp zb
def zIV (a n : Int) : Int := IntKind.u64.wrap a % n
theorem zMa (a n : Int) (hn : 0 < n) : 0 ≤ zIV a n ∧ zIV a n < n := ⟨Int.emod_nonneg _ (by omega), Int.emod_lt_of_pos _ hn⟩
theorem pick (a n : Int) (hn : 0 < n ∧ n ≤ 1000000) : zj Tryz.prog 25 [.int .i64 a, .int .i64 n] (.int .i64 (zIV a n)) := by
 refine zb.value0 (zM (P := Tryz.prog) (fn := Tryz.f25) rfl rfl (by kernel_rfl) rfl (fun c hR hfix => ?_)) (fix := fun _ => False) (fun _ h => h) rfl rfl
 have hw : 0 ≤ IntKind.u64.wrap a := by rw [IntKind.wrap_u64]; omega
 have hwn : IntKind.u64.wrap n = n := by rw [IntKind.wrap_u64]; omega
 have hb := zMa a n hn.1
 refine rn0 ?_
 refine zA (zJe (k' := .u64) rfl rfl rfl) ?_
 repeat (refine zA (zG rfl) ?_)
 refine zA (zJe (k' := .u64) rfl rfl rfl) ?_
 rw [hwn]
 generalize hz : IntKind.u64.wrap a = z at *
 have hpf : zIV a n = z % n := by unfold zIV; rw [hz]
 refine zA (zJg rfl rfl (by omega)) ?_
 rw [← hpf]
 refine zA (zMh rfl rfl rfl (by omega)) ?_
 refine rn0 ?_
 exact zJ hR rfl rfl
theorem pickN (a : Int) (n : Nat) (h : 0 < n ∧ n ≤ 1000000) : ∃ x : Nat, x < n ∧ zj Tryz.prog 25 [.int .i64 a, .int .i64 (n : Nat)] (.int .i64 (x : Nat)) := by
 have hb := zMa a n (by omega)
 refine ⟨(zIV a n).toNat, by omega, ?_⟩
 have := pick a n (by omega)
 rwa [show ((zIV a n).toNat : Int) = zIV a n by omega]
end Go.Proofs.YtiifcejepaeepaaGreatDoor
