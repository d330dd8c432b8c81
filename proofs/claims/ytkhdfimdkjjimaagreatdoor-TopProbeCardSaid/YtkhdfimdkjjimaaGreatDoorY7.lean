import Derived.Laws.Bits64
import Derived.Test.YtkhdfimdkjjimaaGreatDoorY6
set_option linter.unusedVariables false
set_option linter.unusedSimpArgs false
set_option maxRecDepth 100000
set_option maxHeartbeats 4000000
namespace Go.Proofs.YtkhdfimdkjjimaaGreatDoor
open Go.Ax Go.Ax.Gm Go.RowKit Go.Ax.Idx Go.Ax.Cd
attribute [local irreducible] Ax zCT QOp zd
def zCf (T : Tab) (i : Nat) (ms : List Mv) (k : Nat) : List Mv := ((List.range k).filter (fun k => decide (zAx T ((T.nx.getD i []).getD k 0) = zCb (zAx T i)))).map (fun k => ms.getD k mv0)
theorem zLX (T : Tab) (i : Nat) (ms : List Mv) (k : Nat) : zCf T i ms (k + 1) = if zAx T ((T.nx.getD i []).getD k 0) = zCb (zAx T i) then zCf T i ms k ++ [ms.getD k mv0] else zCf T i ms k := by
 unfold zCf
 rw [List.range_succ, List.filter_append, List.map_append]
 by_cases h : zAx T ((T.nx.getD i []).getD k 0) = zCb (zAx T i)
 ·rw [if_pos h, List.filter_cons_of_pos (p := fun k => decide (zAx T ((T.nx.getD i []).getD k 0) = zCb (zAx T i))) (decide_eq_true h)]; rfl
 ·rw [if_neg h, List.filter_cons_of_neg (p := fun k => decide (zAx T ((T.nx.getD i []).getD k 0) = zCb (zAx T i))) (by rw [decide_eq_true_eq]; exact h)]; simp
theorem zMc (T : Tab) (i : Nat) (ms : List Mv) (k : Nat) : (zCf T i ms k).length ≤ k := by
 unfold zCf
 rw [List.length_map]
 exact Nat.le_trans (List.length_filter_le ..) (by rw [List.length_range]; exact Nat.le_refl _)
theorem mapI_get (l : List Nat) (k : Nat) : (l.map Int.ofNat).getD k 0 = ((l.getD k 0 : Nat) : Int) := by
 rw [List.getD, List.getElem?_map, List.getD]
 cases l[k]? <;> rfl
theorem find_is {T : Tab} {p : Pos} (h : zCJ T p = 0) : zBC T.r p = 0 ∧ zAp T.l p < T.l.length := by
 unfold zCJ at h
 split at h
 ·rename_i h1; exact absurd h h1
 ·rename_i h1
  split at h
  ·exact ⟨Classical.not_not.1 h1, by assumption⟩
  ·cases h
theorem next_lt {T : Tab} (h : TabOK T) {i k : Nat} (hi : i < T.l.length) (hk : k < (zAW T.r (T.l.getD i zq)).length) : k < (T.nx.getD i []).length ∧ (T.nx.getD i []).getD k 0 < T.l.length := by
 have := h.G.nxl i hi
 exact ⟨by omega, (h.G.nxt i hi k hk).1⟩
theorem ent_eqA (x y : Ent) : (decide (x.1 = y.1) && (decide (x.2 = y.2) && true)) = decide (x = y) := by
 by_cases h : x = y
 ·subst h; simp
 ·rw [decide_eq_false h]
  by_cases h1 : x.1 = y.1
  ·rw [decide_eq_true h1, decide_eq_false (fun q => h (Prod.ext h1 q))]; rfl
  ·rw [decide_eq_false h1]; rfl
/-- (*retro.Table).Best -/
theorem best_ok (T : Tab) (h : TabOK T) (hr : Lens T.r) (p : Pos) (hp : LenP p) : zl Tryz.prog 29 [zDx T, poA p] (.tup [zBP (zCZ T p), .int .i64 (zEq T p)]) := by
 refine zd.value0 (zL (P := Tryz.prog) (fn := Tryz.f29) U U (by kernel_rfl) U (fun c hR hfix => ?_)) (fix := fun _ => False) (fun _ h => h) U U
 have hEl := h.len
 have hmost := h.G.most
 refine zY ?_
 repeat (first | refine zA (zM rfl) ?_ | refine zC ?_ | refine zB ?_ | refine zJ rfl ?_ | refine zAO rfl rfl ?_)
 refine zBi 3 [(0, zDx T)] U ⟨U, U, trivial⟩ ⟨U, trivial⟩ U hfix ?_
 refine rn6 ?_
 refine zQ U U U (zNU T h hr p hp) ?_
 refine rn3 ?_
 refine zF U (fun q => ?_) (fun q => ?_)
 ·have q : zCJ T p ≠ 0 := q
  have e : zEq T p = zCJ T p := by unfold zEq; rw [if_pos q]
  have e2 : zCZ T p = [] := by unfold zCZ; rw [e, if_pos q]
  rw [e, e2] at hR
  refine rn7 ?_
  refine zBu 4 (zBP []) U AEq.nil ?_
  refine rn2 ?_
  exact zN hR U U
 have q2 : zCJ T p = 0 := Classical.not_not.1 q
 obtain ⟨hz, hi⟩ := find_is q2
 have eb : zEq T p = if (zEG T p).length = 0 then 14 else 0 := by unfold zEq; rw [if_neg q]
 have ebl : zEq T p = 0 → zCZ T p = zCf T (zAp T.l p) (zEG T p) (zEG T p).length := fun e => by unfold zCZ; rw [if_neg (fun c => c e)]; rfl
 rw [if_neg q]
 have hmt : zEG T p = zAW T.r (T.l.getD (zAp T.l p) zq) := rfl
 have S := (h.sound hi).1
 have hml := zGH h.v S
 have hnx := fun k => next_lt h (k := k) hi
 have hpl := h.plies hi
 have hpu := h.plies_le hi
 have hnlen : T.nx.length = T.l.length := h.G.len
 rw [← hmt] at hml
 simp only [← hmt] at hnx
 have cm := zFj T.r h.v (T.l.getD (zAp T.l p) zq) S
 rw [← hmt] at cm
 generalize hix : zAp T.l p = ix at hi hml hnx hpl hpu ebl cm
 generalize hms : zEG T p = ms at hml hnx eb ebl cm
 refine rn1 ?_
 refine ze (by kernel_rfl) ?_
 refine zh (fuel := 0) [0, 1, 2, 3, 4, 5, 6, 7, 8, 9, 10, 11, 12] [(0, zDx T), (6, iN ix)] ⟨U, U, trivial⟩ (by kernel_rfl) (by decide) U U ?_
 refine zI U U (zG U) ?_
 refine zI U U (zAH U) ?_
 refine zI U U (zK U U U U U U) ?_
 refine zI U U (zEm U U U U U U) ?_
 refine zI U U (zG U) ?_
 refine zI U U (zAH U) ?_
 refine zI U U (zK U U U U U U) ?_
 refine zI U U (zD U U U U) ?_
 refine zI U U (zG U) ?_
 refine zI U U (zn U U U U (by first | (simp only [Nat.zero_add, Int.toNat_natCast, Int.toNat_zero]; exact U) | exact U) (by omega)) ?_
 refine zI U U (zm U U U U U U) ?_
 refine zBS U U U U U cm ?_
 refine zI U U (zM U) ?_
 refine zw ?_
 refine zW (by kernel_rfl) ?_
 refine rn4 ?_
 refine zF U (fun z => ?_) (fun z => ?_)
 ·rw [if_pos (by omega)] at eb
  have e2 : zCZ T p = [] := by unfold zCZ; rw [eb, if_pos (by decide)]
  rw [eb, e2] at hR
  refine rn7 ?_
  refine zBu 4 (zBP []) U AEq.nil ?_
  refine rn2 ?_
  exact zN hR U U
 rw [if_neg (by omega)] at eb
 have ebl := ebl eb
 rw [eb, ebl] at hR
 repeat (first | refine zA (zG rfl) ?_ | refine zB ?_ | refine zY ?_ | refine zJ rfl ?_ | refine zAP ?_ | refine zA (zn rfl rfl rfl rfl (by first | (simp only [Nat.zero_add, Int.toNat_natCast, Int.toNat_zero]; exact rfl) | exact rfl) (by omega)) ?_ | refine zA (zD rfl rfl rfl rfl) ?_ | refine zA (zAH rfl) ?_ | refine zA (zK rfl rfl rfl rfl rfl rfl) ?_ | refine zA (zm rfl rfl rfl rfl rfl rfl) ?_ | refine zAI rfl rfl rfl ?_)
 refine zZ (zB6 (zAx T ix)) U U U U U U U ?_
 repeat (first | refine zC ?_ | refine zB ?_ | refine zY ?_ | refine zJ rfl ?_ | refine zA (zU rfl rfl rfl rfl rfl) ?_ | refine zA (zBh rfl rfl) ?_ | refine zA (zO rfl rfl rfl rfl rfl rfl) ?_)
 apply zAL (H := [some ⟨35, .box (zB6 (zCb (zAx T ix)))⟩]) [(0, zDx T), (6, iN ix), (8, zBP ms), (9, .ptr 0 0 0)]
 ·intro fin
  refine zF U (fun d => ?_) (fun d => ?_)
  ·have d : (zAx T ix).1 ≠ 3 := d
   have ew : zCb (zAx T ix) = ((zAx T ix).1, (zAx T ix).2 - 1) := by unfold zCb; rw [if_pos d]
   rw [ew] at fin
   repeat (first | refine zC ?_ | refine zB ?_ | refine zJ rfl ?_ | refine zA (zU rfl rfl rfl rfl rfl) ?_ | refine zA (zA1 rfl rfl (by omega)) ?_ | refine zA (zO rfl rfl rfl rfl rfl rfl) ?_ | refine zAJ rfl rfl rfl rfl rfl rfl rfl Nat.zero_lt_one ?_)
   exact fin _ ⟨U, U, U, U, trivial⟩
  ·have d : ¬ (zAx T ix).1 ≠ 3 := d
   have ew : zCb (zAx T ix) = zAx T ix := by unfold zCb; rw [if_neg d]
   rw [ew] at fin
   refine zE6 ?_
   exact fin _ ⟨U, U, U, U, trivial⟩
 refine zBi 9 [(0, zDx T), (6, iN ix), (8, zBP ms)] U ⟨U, U, U, U, trivial⟩ ⟨U, U, U, trivial⟩ U hfix ?_
 repeat (refine zY ?_)
 refine zJ U ?_
 refine zBG ?_
 refine zCF 10 ⟨85, zAv []⟩ U U ?_
 refine rn3 ?_
 refine zAA (ι := Nat) (fun k => [(0, zDx T), (6, iN ix), (8, zBP ms), (9, .rp (.box (zB6 (zCb (zAx T ix)))) 0 0), (10, .sl 0 0 (zCf T ix ms k).length), (51, zBP ms), (52, iN ms.length), (53, iN k)]) (fun k => [some ⟨85, zAv (zCf T ix ms k)⟩]) (fun k => k ≤ ms.length) (fun k => ms.length - k) 0 ⟨⟨U, U, U, U, U, U, U, U, trivial⟩, U, Nat.zero_le _⟩ ?_
 intro k hk
 have hbl := zMc T ix ms k
 refine rn4 ?_
 refine zF U (fun g => ?_) (fun g => ?_)
 ·have hk' : k < ms.length := by omega
  obtain ⟨n1, n2⟩ := hnx k hk'
  have hbs := zLX T ix ms k
  have hgi : ((T.nx.getD ix []).map Int.ofNat).getD k 0 = (((T.nx.getD ix []).getD k 0 : Nat) : Int) := mapI_get _ _
  have hgl : ((T.nx.getD ix []).map Int.ofNat).length = (T.nx.getD ix []).length := List.length_map ..
  generalize hj : (T.nx.getD ix []).getD k 0 = j at n2 hgi hbs
  generalize hmk : ms.getD k mv0 = m at hbs
  refine zGo ?_
  refine rn4 ?_
  refine zZ (mvC m) U U U U U (by rw [← hmk]; rfl) U ?_
  refine rn0 ?_
  refine zDL [some ⟨85, zAv (zCf T ix ms k)⟩] 12 [(0, zDx T), (6, iN ix), (8, zBP ms), (9, .rp (.box (zB6 (zCb (zAx T ix)))) 0 0), (10, .sl 0 0 (zCf T ix ms k).length), (51, zBP ms), (52, iN ms.length), (53, iN k), (11, iN k)] U U ⟨U, U, U, U, U, U, U, U, U, trivial⟩ ⟨U, U, U, U, U, U, U, U, U, U, trivial⟩ (zBY (zE2 _) zBZ) U (fun h q => by rw [hfix] at q; exact q.elim) ?_
  refine ze (by kernel_rfl) ?_
  refine zh (fuel := 0) [0, 1, 2, 3, 4, 5, 6, 7, 8, 9, 10, 11, 12, 13, 14, 15, 16, 17] [(12, .rp (.box (mvC m)) 0 0), (0, zDx T), (6, iN ix), (8, zBP ms), (9, .rp (.box (zB6 (zCb (zAx T ix)))) 0 0), (10, .sl 0 0 (zCf T ix ms k).length), (51, zBP ms), (52, iN ms.length), (53, iN k), (11, iN k)] ⟨U, U, U, U, U, U, U, U, U, U, trivial⟩ (by kernel_rfl) (by decide) U U ?_
  refine zI U U (zG U) ?_
  refine zI U U (zAH U) ?_
  refine zI U U (zK U U U U U U) ?_
  refine zI U U (zD U U U U) ?_
  refine zI U U (zG U) ?_
  refine zI U U (zAH U) ?_
  refine zI U U (zK U U U U U U) ?_
  refine zI U U (zD U U U U) ?_
  refine zI U U (zG U) ?_
  refine zI U U (zn U U U U (by first | (simp only [Nat.zero_add, Int.toNat_natCast, Int.toNat_zero]; exact U) | exact U) (by omega)) ?_
  refine zI U U (zBF U U U U) ?_
  refine zI U U (zG U) ?_
  refine zI U U (zn U U U U (by first | (simp only [Nat.zero_add, Int.toNat_natCast, Int.toNat_zero]; exact U) | exact U) (by omega)) ?_
  refine zI U U (zBs U U U) ?_
  rw [hgi]
  refine zI U U (zn U U U U (by first | (simp only [Nat.zero_add, Int.toNat_natCast, Int.toNat_zero]; exact U) | exact U) (by omega)) ?_
  refine zI U U (zm U U U U U U) ?_
  refine zI U U (zm U U U U U U) ?_
  refine zI U U (zGn U U U (by kernel_rfl) (by kernel_rfl) (by kernel_rfl) U) ?_
  refine zw ?_
  refine zW (by kernel_rfl) ?_
  repeat (refine zB ?_)
  refine zAQ (b := decide (zAx T j = zCb (zAx T ix))) (by rw [← ent_eqA]; rfl) (fun g2 => ?_) (fun g2 => ?_)
  ·have g2 := of_decide_eq_true g2
   rw [if_pos g2] at hbs
   have hnl : (zCf T ix ms (k + 1)).length = (zCf T ix ms k).length + 1 := by rw [hbs, List.length_append]; rfl
   refine rn6 ?_
   refine zBN [m] U U U U U U U U U U U U U (by show 0 + 1 ≤ 1; omega) (fun k' j' hk' hj' => ?_) (by show ((zCf T ix ms k).length + 1) * 24 ≤ _ ∧ _; omega) zEH (by rw [hfix]; exact fun h => h) ?_
   ·obtain rfl : k' = 0 := Nat.lt_one_iff.1 hk'
    match j', hj' with
    | 0, _ => rfl
    | 1, _ => rfl
    | 2, _ => rfl
   refine rn5 ?_
   refine zR ⟨k + 1, by omega, by omega, ⟨U, U, U, U, ?_, U, U, U, trivial⟩, ?_⟩
   ·rw [hnl]; rfl
   ·rw [hbs]; rfl
  ·have g2 := of_decide_eq_false g2
   rw [if_neg g2] at hbs
   refine rn5 ?_
   refine zR ⟨k + 1, by omega, by omega, ⟨U, U, U, U, ?_, U, U, U, trivial⟩, ?_⟩
   ·rw [hbs]; rfl
   ·rw [hbs]
 ·have hk' : k = ms.length := by omega
  subst hk'
  refine zBG ?_
  refine zDq 0 10 (zCf T ix ms ms.length).length [] U (zAc zCW) U (Nat.le_refl _) trivial ?_
  refine rn0 ?_
  exact zN hR U U
def isM (m x : Mv) : Bool := decide (x = m)
theorem indexMv (l : List Mv) (m : Mv) (hlen : l.length ≤ 1000000) : zl Tryz.prog 88 [zBP l, mvA m] (.int .i64 (zDP (isM m) l)) := by
 refine zd.value0 (zL (P := Tryz.prog) (fn := Tryz.f88) U U (by kernel_rfl) U (fun c hR hfix => ?_)) (fix := fun _ => False) (fun _ h => h) U U
 refine zY ?_
 repeat (first | refine zA (zM rfl) ?_ | refine zC ?_ | refine zB ?_ | refine zJ rfl ?_ | refine zAO rfl rfl ?_)
 refine zBi 3 [(0, zBP l)] U ⟨U, U, trivial⟩ ⟨U, trivial⟩ U hfix ?_
 refine rn3 ?_
 refine zAA (ι := Nat) (fun k => [(0, zBP l), (3, .rp (.box (mvC m)) 0 0), (7, iN l.length), (8, iN k)]) (fun _ => [])
  (fun k => k ≤ l.length ∧ (l.take k).any (isM m) = false) (fun k => l.length - k) 0 ⟨⟨rfl, rfl, rfl, rfl, trivial⟩, rfl, Nat.zero_le _, rfl⟩ ?_
 intro k ⟨hk, hany⟩
 refine rn4 ?_
 refine zF U (fun h => ?_) (fun h => ?_)
 ·have hk' : k < l.length := by omega
  have hanys := zBr (isM m) l mv0 k hk'
  refine rn1 ?_
  refine ze (by kernel_rfl) ?_
  refine zh (fuel := 0) [0, 1, 2, 3, 4, 5] [(0, zBP l), (3, .rp (.box (mvC m)) 0 0), (7, iN l.length), (8, iN k), (5, iN k)] ⟨U, U, U, U, U, trivial⟩ (by kernel_rfl) (by decide) U U ?_
  refine zI U U (zm U U U U U U) ?_
  refine zI U U (zG U) ?_
  refine zI U U (zG U) ?_
  refine zI U U (zn U U U U (by first | (simp only [Nat.zero_add, Int.toNat_natCast, Int.toNat_zero]; exact U) | exact U) (by omega)) ?_
  refine zI U U (zm U U U U U U) ?_
  refine zI U U (zGn U U U (by kernel_rfl) (by kernel_rfl) (by kernel_rfl) U) ?_
  refine zw ?_
  refine zW (by kernel_rfl) ?_
  repeat (refine zB ?_)
  refine zAQ (b := isM m (l.getD k mv0)) (by unfold isM; rw [← eqMv]; rfl) (fun h2 => ?_) (fun h2 => ?_)
  ·refine rn6 ?_
   refine zN hR U ?_
   have := zBl (isM m) l k hany hk
   rw [zDz l mv0 k hk'] at this
   simp only [zDP, h2, if_true] at this
   rw [this]; simp [zDo]
  ·refine rn5 ?_
   refine zR ⟨k + 1, ⟨by omega, by rw [hanys, hany, h2]; rfl⟩, by omega, ⟨U, U, U, U, trivial⟩, U⟩
 ·have hk' : k = l.length := by omega
  subst hk'
  refine rn5 ?_
  refine zN hR U ?_
  have := zBl (isM m) l l.length hany hk
  rw [List.drop_length] at this
  rw [this]; rfl
theorem zNu (l : List Mv) (m : Mv) (hlen : l.length ≤ 1000000) : zl Tryz.prog 59 [zBP l, mvA m] (.bool (l.any (isM m))) := by
 refine zd.value0 (zL (P := Tryz.prog) (fn := Tryz.f59) U U (by kernel_rfl) U (fun c hR hfix => ?_)) (fix := fun _ => False) (fun _ h => h) U U
 refine rn6 ?_
 refine zQ U U U (indexMv l m hlen) ?_
 refine rn8 ?_
 refine zN hR U ?_
 simp only [zDo, zHB]
theorem any_isM {l : List Mv} {m : Mv} : l.any (isM m) = decide (m ∈ l) := by
 by_cases h : m ∈ l
 ·rw [decide_eq_true h, List.any_eq_true]; exact ⟨m, h, decide_eq_true rfl⟩
 ·rw [decide_eq_false h, ← Bool.not_eq_true, List.any_eq_true]
  rintro ⟨x, hx, e⟩
  exact h (by rw [← of_decide_eq_true e]; exact hx)
def whW (r : Go.Ax.Gm.Rules) : Int := IntKind.i64.wrap (r.w * r.h)
theorem newA_no {r : Go.Ax.Gm.Rules} (h : zDv r ≠ 0) : zFt r = .nilp := by unfold zFt; rw [if_pos h]
theorem zI8 {r : Go.Ax.Gm.Rules} {x : List Pos × List (List Nat)} (h : zDv r = 0) (g : zE4 r = some x) : zFt r = zDx (zDd r x) := by unfold zFt; rw [if_neg (fun c => c h), g]
theorem zDW : Lens two := ⟨by decide, by decide, by decide, by decide, by decide⟩
def zFr (r : Go.Ax.Gm.Rules) : Nat → Pos → Nat
 | 0, _ => 1
 | d + 1, p => ((zAW r p).map (fun m => zFr r d (zf r p m))).sum
theorem zMR {α : Type} (f : α → Nat) (z : α) (l : List α) {k : Nat} (h : k < l.length) : ((l.take (k + 1)).map f).sum = ((l.take k).map f).sum + f (l.getD k z) := by
 rw [zAE l z k h, List.map_append, List.sum_append]; simp
theorem zIJ {α : Type} (f : α → Nat) (l : List α) (k : Nat) : ((l.take k).map f).sum ≤ (l.map f).sum := by
 conv => rhs; rw [← List.take_append_drop k l]
 rw [List.map_append, List.sum_append]; omega
abbrev ctrO (r : Go.Ax.Gm.Rules) (a b : Int) : Option AObj := some ⟨144, .box [.str r.name, .int .i64 r.w, .int .i64 r.h, .ro (zAj r.pcs) 0 r.pcs.length, z8 r.start, .bool r.falls, .bool r.keeps, .ro (zEv r.ends) 0 r.ends.length, .int .i64 r.blocked, .int .i64 r.quiet, .int .i64 r.rep, .int .i64 a, .int .i64 b]⟩
def WalkK (r : Go.Ax.Gm.Rules) (a b : Int) (c l : Nat) (v : AV) (H : zP) : Prop :=
 v = .bool (decide (a + (c : Nat) ≤ 50000)) ∧ ∃ a' b', H = [ctrO r a' b'] ∧ 0 ≤ b' ∧ b' ≤ a' ∧ (a + (c : Nat) ≤ 50000 → a' = a + (c : Nat) ∧ b' = b + (l : Nat))
/-- perft's walk -/
theorem walk_ok (r : Go.Ax.Gm.Rules) (hv : ValidR r) : ∀ (d : Nat) (p : Pos) (S : Sound r p) (a b : Int) (hb : 0 ≤ b ∧ b ≤ a ∧ a ≤ 50000) (hd : d ≤ 12),
 zd Tryz.prog 86 [.ptr 0 0 0, poA p, iN d] [ctrO r a b] (fun h => h < 1) (WalkK r a b (zC2 r d p) (zFr r d p)) := by
 intro d
 induction d with
 | zero =>
  intro p S a b hb hd
  refine zL (P := Tryz.prog) (fn := Tryz.f86) U U (by kernel_rfl) U (fun c hR hfix => ?_)
  have hc : zC2 r 0 p = 1 := rfl
  have hl : zFr r 0 p = 1 := rfl
  rw [hc, hl] at hR
  refine zY ?_
  repeat (first | refine zA (zM rfl) ?_ | refine zC ?_ | refine zB ?_ | refine zJ rfl ?_ | refine zAO rfl rfl ?_)
  refine zDL [ctrO r a b] 4 [(0, .ptr 0 0 0), (2, .int .i64 ((0 : Nat) : Int))] U U ⟨U, U, trivial⟩ ⟨U, U, U, trivial⟩ (zBY (zDr U) zBZ) U (fun h q => by rw [hfix] at q; exact q) ?_
  repeat (first | refine zA (zG rfl) ?_ | refine zC ?_ | refine zB ?_ | refine zY ?_ | refine zJ rfl ?_ | refine zA (zU rfl rfl rfl rfl rfl) ?_ | refine zA (zCa rfl rfl) ?_ | refine zA (zA4 rfl rfl (by omega)) ?_ | refine zA (zV rfl) ?_ | refine zA (zO rfl rfl rfl rfl rfl rfl) ?_ | refine zAJ rfl rfl rfl rfl rfl rfl rfl Nat.zero_lt_one ?_)
  refine zF U (fun q => ?_) (fun q => ?_)
  ·refine rn2 ?_
   refine zN hR U ⟨?_, a + 1, b, U, hb.1, by omega, fun c => absurd c (by omega)⟩
   rw [decide_eq_false (by omega)]; rfl
  ·repeat (first | refine zA (zG rfl) ?_ | refine zA (zM rfl) ?_ | refine zC ?_ | refine zB ?_ | refine zY ?_ | refine zJ rfl ?_ | refine zAi rfl ?_ | refine zAP ?_ | refine z6 ?_ | refine zA9 ?_ | refine zA (zU rfl rfl rfl rfl rfl) ?_ | refine zA (zBp rfl rfl) ?_ | refine zA (zA4 rfl rfl (by omega)) ?_ | refine zA (zV rfl) ?_ | refine zA (zO rfl rfl rfl rfl rfl rfl) ?_ | refine zAJ rfl rfl rfl rfl rfl rfl rfl Nat.zero_lt_one ?_)
   refine zN hR U ⟨?_, a + 1, b + 1, U, by omega, by omega, fun c => ⟨U, U⟩⟩
   rw [decide_eq_true (by omega)]; rfl
 | succ d ih =>
  intro p S a b hb hd
  refine zL (P := Tryz.prog) (fn := Tryz.f86) U U (by kernel_rfl) U (fun c hR hfix => ?_)
  have hml := zGH hv S
  have hok : ∀ m ∈ zAW r p, MvOK r p m ∧ Sound r (zf r p m) := fun m hm => ⟨zE1 hv S hm, zEF hv S (zE1 hv S hm)⟩
  have hc : zC2 r (d + 1) p = 1 + ((zAW r p).map (fun m => zC2 r d (zf r p m))).sum := rfl
  have hl : zFr r (d + 1) p = ((zAW r p).map (fun m => zFr r d (zf r p m))).sum := rfl
  have cm := zFj r hv p S
  generalize hM : zAW r p = ms at *
  rw [hc, hl] at hR
  have e1 : ((d + 1 : Nat) : Int) - 1 = (d : Nat) := by omega
  refine zY ?_
  repeat (first | refine zA (zM rfl) ?_ | refine zC ?_ | refine zB ?_ | refine zJ rfl ?_ | refine zAO rfl rfl ?_)
  refine zDL [ctrO r a b] 4 [(0, .ptr 0 0 0), (2, .int .i64 ((d + 1 : Nat) : Int))] U U ⟨U, U, trivial⟩ ⟨U, U, U, trivial⟩ (zBY (zDr U) zBZ) U (fun h q => by rw [hfix] at q; exact q) ?_
  repeat (first | refine zA (zG rfl) ?_ | refine zC ?_ | refine zB ?_ | refine zY ?_ | refine zJ rfl ?_ | refine zA (zU rfl rfl rfl rfl rfl) ?_ | refine zA (zCa rfl rfl) ?_ | refine zA (zA4 rfl rfl (by omega)) ?_ | refine zA (zV rfl) ?_ | refine zA (zO rfl rfl rfl rfl rfl rfl) ?_ | refine zAJ rfl rfl rfl rfl rfl rfl rfl Nat.zero_lt_one ?_)
  refine zF U (fun q => ?_) (fun q => ?_)
  ·refine rn2 ?_
   refine zN hR U ⟨?_, a + 1, b, U, hb.1, by omega, fun c => absurd c (by omega)⟩
   rw [decide_eq_false (by omega)]; rfl
  refine rn4 ?_
  refine ze (by kernel_rfl) ?_
  refine zh (fuel := 0) [0, 1, 2, 3, 4, 5, 6, 7] [(4, .rp (.box (poC p)) 0 0), (0, .ptr 0 0 0), (2, .int .i64 ((d + 1 : Nat) : Int))] ⟨U, U, U, trivial⟩ (by kernel_rfl) (by decide) U U ?_
  refine zI U U (zG U) ?_
  refine zI U U (zV U) ?_
  refine zI U U (zO U U U U U U) ?_
  refine zI U U (qpp U U U U U U U) ?_
  refine zI U U (zm U U U U U U) ?_
  refine zBS U U U U U cm ?_
  refine zI U U (zBK U U U) ?_
  refine zI U U (zG U) ?_
  refine zw ?_
  refine zW (by kernel_rfl) ?_
  refine rn1 ?_
  refine zAA (ι := Nat × Int × Int) (fun x => [(4, .rp (.box (poC p)) 0 0), (0, .ptr 0 0 0), (2, .int .i64 ((d + 1 : Nat) : Int)), (35, zBP ms), (36, iN ms.length), (37, iN x.1)]) (fun x => [ctrO r x.2.1 x.2.2]) (fun x => x.1 ≤ ms.length ∧ x.2.1 = a + 1 + ((((ms.take x.1).map (fun m => zC2 r d (zf r p m))).sum : Nat) : Int) ∧ x.2.2 = b + ((((ms.take x.1).map (fun m => zFr r d (zf r p m))).sum : Nat) : Int) ∧ x.2.1 ≤ 50000 ∧ 0 ≤ x.2.2 ∧ x.2.2 ≤ x.2.1) (fun x => ms.length - x.1) (0, a + 1, b) ⟨⟨U, U, U, U, U, U, trivial⟩, U, Nat.zero_le _, ?_, ?_, by show a + 1 ≤ 50000; omega, hb.1, by show b ≤ a + 1; omega⟩ ?_
  ·show a + 1 = a + 1 + ((0 : Nat) : Int); omega
  ·show b = b + ((0 : Nat) : Int); omega
  rintro ⟨k, n, l⟩ ⟨i1, i2, i3, i4, i5, i6⟩
  have i1 : k ≤ ms.length := i1
  have i2 : n = a + 1 + ((((ms.take k).map (fun m => zC2 r d (zf r p m))).sum : Nat) : Int) := i2
  have i3 : l = b + ((((ms.take k).map (fun m => zFr r d (zf r p m))).sum : Nat) : Int) := i3
  have i4 : n ≤ 50000 := i4
  have i5 : 0 ≤ l := i5
  have i6 : l ≤ n := i6
  change Ax _ _ _ _ [(4, .rp (.box (poC p)) 0 0), (0, .ptr 0 0 0), (2, .int .i64 ((d + 1 : Nat) : Int)), (35, zBP ms), (36, iN ms.length), (37, iN k)] [ctrO r n l]
  refine rn4 ?_
  refine zF U (fun g => ?_) (fun g => ?_)
  ·have hk' : k < ms.length := by omega
   have hs1 := zMR (fun m => zC2 r d (zf r p m)) mv0 ms hk'
   have hs2 := zMR (fun m => zFr r d (zf r p m)) mv0 ms hk'
   have hs3 := zIJ (fun m => zC2 r d (zf r p m)) ms (k + 1)
   have hmm := hok _ (zAR mv0 hk')
   obtain ⟨m, hm⟩ : ∃ m, ms.getD k mv0 = m := ⟨_, rfl⟩
   rw [hm] at hs1 hs2 hmm
   have cw := ih (zf r p m) hmm.2 n l ⟨i5, i6, i4⟩ (by omega)
   generalize hcm : zC2 r d (zf r p m) = cm at hs1 cw
   generalize hlm : zFr r d (zf r p m) = lm at hs2 cw
   refine zGo ?_
   repeat (refine zAI rfl rfl rfl ?_)
   refine zZ (mvC m) U U U U U (by rw [← hm]; rfl) U ?_
   refine rn0 ?_
   refine zDL [ctrO r n l] 8 [(4, .rp (.box (poC p)) 0 0), (0, .ptr 0 0 0), (2, .int .i64 ((d + 1 : Nat) : Int)), (35, zBP ms), (36, iN ms.length), (37, iN k)] U U ⟨U, U, U, U, U, U, trivial⟩ ⟨U, U, U, U, U, U, U, trivial⟩ (zBY (zDr U) zBZ) U (fun h q => by rw [hfix] at q; exact q) ?_
   refine ze (by kernel_rfl) ?_
   refine zh (fuel := 2) [0, 1, 2, 3, 4, 5, 6, 7, 8, 9] [(8, .rp (.box (mvC m)) 0 0), (4, .rp (.box (poC p)) 0 0), (0, .ptr 0 0 0), (2, .int .i64 ((d + 1 : Nat) : Int)), (35, zBP ms), (36, iN ms.length), (37, iN k)] ⟨U, U, U, U, U, U, U, trivial⟩ (by kernel_rfl) (by decide) U U ?_
   refine zI U U (zG U) ?_
   refine zI U U (zG U) ?_
   refine zI U U (zV U) ?_
   refine zI U U (zO U U U U U U) ?_
   refine zI U U (qpp U U U U U U U) ?_
   refine zI U U (zm U U U U U U) ?_
   refine zI U U (zm U U U U U U) ?_
   refine zBS U U U U U (zEW r hv p S m hmm.1) ?_
   refine zI U U (zG U) ?_
   refine zI U U (zA1 U U (by omega)) ?_
   rw [e1]
   refine zw ?_
   refine zH (is := [10]) (by kernel_rfl) (by simp) U ⟨fun o ho => ?_, trivial⟩
   all_goals (cases ho)
   refine zBR U U U cw (fun h q => q) (fun h q => q) ?_
   rintro v H ⟨rfl, a', b', rfl, j1, j2, j3⟩
   refine rn1 ?_
   refine zH (is := [11]) (by kernel_rfl) (by simp) U ⟨fun o ho => ?_, trivial⟩
   all_goals (cases ho)
   refine rn5 ?_
   refine zW (by kernel_rfl) ?_
   by_cases hf : n + (cm : Nat) ≤ 50000
   ·rw [decide_eq_true hf]
    obtain ⟨j4, j5⟩ := j3 hf
    refine rn5 ?_
    refine zR ⟨(k + 1, a', b'), ⟨by show k + 1 ≤ ms.length; omega, ?_, ?_, by show a' ≤ 50000; omega, j1, j2⟩, by show ms.length - (k + 1) < ms.length - k; omega, ⟨U, U, U, U, U, U, trivial⟩, U⟩
    ·show a' = a + 1 + ((((ms.take (k + 1)).map (fun m => zC2 r d (zf r p m))).sum : Nat) : Int)
     rw [hs1]; omega
    ·show b' = b + ((((ms.take (k + 1)).map (fun m => zFr r d (zf r p m))).sum : Nat) : Int)
     rw [hs2]; omega
   ·rw [decide_eq_false hf]
    refine rn6 ?_
    refine zN hR U ⟨?_, a', b', U, j1, j2, fun c => absurd c (by omega)⟩
    rw [decide_eq_false (by omega)]; rfl
  ·have hk' : k = ms.length := by omega
   subst hk'
   rw [List.take_length] at i2 i3
   refine rn5 ?_
   refine zN hR U ⟨?_, n, l, U, i5, i6, fun c => ⟨by omega, i3⟩⟩
   rw [decide_eq_true (by omega)]; rfl
/-- perft.Check -/
theorem zOM (r : Go.Ax.Gm.Rules) (hr : Lens r) (p : Pos) (hp : LenP p) (d : Int) : ∃ x y, zl Tryz.prog 52 [ruA r, poA p, .int .i64 d] (.tup [.int .i64 x, .int .i64 y, .int .i64 (zBT r p d)]) := by
 by_cases h1 : zBC r p = 0
 ·obtain ⟨hz, S⟩ := zDZ h1
  have hv := zAm hz
  have cc := zCG r hr p hp
  rw [h1] at cc
  by_cases h2 : d < 0 ∨ 12 < d
  ·have e : zBT r p d = 1 := by unfold zBT; rw [if_neg (fun c => c h1), if_pos h2]
   refine ⟨0, 0, ?_⟩
   rw [e]
   refine zd.value0 (zL (P := Tryz.prog) (fn := Tryz.f52) U U (by kernel_rfl) U (fun c hR hfix => ?_)) (fix := fun _ => False) (fun _ h => h) U U
   refine rn6 ?_
   refine zQ U U U cc ?_
   refine rn4 ?_
   refine zj U U (fun q => ?_) (fun q => ?_)
   ·refine rn6 ?_
    exact zN hR U U
   ·refine rn6 ?_
    refine zF U (fun q2 => ?_) (fun q2 => ?_)
    ·refine rn2 ?_
     exact zN hR U U
    ·exact absurd h2 (by omega)
  obtain ⟨n, rfl⟩ : ∃ n : Nat, d = (n : Int) := ⟨d.toNat, by omega⟩
  have hn : n ≤ 12 := by omega
  have cw := walk_ok r hv n p S 0 0 ⟨Int.le_refl _, Int.le_refl _, by decide⟩ hn
  have e : zBT r p (n : Int) = if 50000 < zC2 r n p then 17 else 0 := by unfold zBT; rw [if_neg (fun c => c h1), if_neg h2, Int.toNat_natCast]
  by_cases h3 : 50000 < zC2 r n p
  ·rw [if_pos h3] at e
   refine ⟨0, 0, ?_⟩
   rw [e]
   refine zd.value0 (zL (P := Tryz.prog) (fn := Tryz.f52) U U (by kernel_rfl) U (fun c hR hfix => ?_)) (fix := fun _ => False) (fun _ h => h) U U
   refine zY ?_
   repeat (first | refine zA (zM rfl) ?_ | refine zC ?_ | refine zB ?_ | refine zJ rfl ?_ | refine zAO rfl rfl ?_)
   refine zCp 3 4 [(2, iN n)] U U U U ⟨U, trivial⟩ ⟨U, U, U, trivial⟩ U hfix ?_
   refine rn6 ?_
   refine zQ U U U cc ?_
   refine rn6 ?_
   refine zF U (fun q => ?_) (fun q => ?_)
   ·exact absurd q (by omega)
   refine rn20 ?_
   refine zJ U ?_
   repeat (first | refine zA (zM rfl) ?_ | refine zC ?_ | refine zB ?_ | refine zY ?_ | refine zA (zDE rfl rfl rfl rfl rfl rfl) ?_ | refine zA (zm rfl rfl rfl rfl rfl rfl) ?_ | refine zAO rfl rfl ?_)
   refine zAK [ctrO r 0 0] U ?_
   refine rn6 ?_
   refine zBR U U U cw (fun h q => q) (fun h q => q) ?_
   rintro v H ⟨rfl, a', b', rfl, j1, j2, j3⟩
   rw [decide_eq_false (by omega)]
   refine rn5 ?_
   exact zN hR U U
  ·rw [if_neg h3] at e
   refine ⟨(zC2 r n p : Nat), (zFr r n p : Nat), ?_⟩
   rw [e]
   refine zd.value0 (zL (P := Tryz.prog) (fn := Tryz.f52) U U (by kernel_rfl) U (fun c hR hfix => ?_)) (fix := fun _ => False) (fun _ h => h) U U
   refine zY ?_
   repeat (first | refine zA (zM rfl) ?_ | refine zC ?_ | refine zB ?_ | refine zJ rfl ?_ | refine zAO rfl rfl ?_)
   refine zCp 3 4 [(2, iN n)] U U U U ⟨U, trivial⟩ ⟨U, U, U, trivial⟩ U hfix ?_
   refine rn6 ?_
   refine zQ U U U cc ?_
   refine rn6 ?_
   refine zF U (fun q => ?_) (fun q => ?_)
   ·exact absurd q (by omega)
   refine rn20 ?_
   refine zJ U ?_
   repeat (first | refine zA (zM rfl) ?_ | refine zC ?_ | refine zB ?_ | refine zY ?_ | refine zA (zDE rfl rfl rfl rfl rfl rfl) ?_ | refine zA (zm rfl rfl rfl rfl rfl rfl) ?_ | refine zAO rfl rfl ?_)
   refine zAK [ctrO r 0 0] U ?_
   refine rn6 ?_
   refine zBR U U U cw (fun h q => q) (fun h q => q) ?_
   rintro v H ⟨rfl, a', b', rfl, j1, j2, j3⟩
   obtain ⟨j4, j5⟩ := j3 (by omega)
   rw [decide_eq_true (by omega)]
   rw [Int.zero_add] at j4 j5
   subst j4 j5
   refine rn5 ?_
   refine ze (by kernel_rfl) ?_
   refine zS 0 U (by kernel_rfl) (by kernel_rfl) (by kernel_rfl) U (zG U) U ?_
   refine zS 1 U (by kernel_rfl) (by kernel_rfl) (by kernel_rfl) U (zV U) U ?_
   refine zS 2 U (by kernel_rfl) (by kernel_rfl) (by kernel_rfl) U (zO U U U U U U) U ?_
   refine zS 4 U (by kernel_rfl) (by kernel_rfl) (by kernel_rfl) U (zG U) U ?_
   refine zS 5 U (by kernel_rfl) (by kernel_rfl) (by kernel_rfl) U (zV U) U ?_
   refine zS 6 U (by kernel_rfl) (by kernel_rfl) (by kernel_rfl) U (zO U U U U U U) U ?_
   refine zH (is := [3, 7]) (by kernel_rfl) (by simp) U ⟨fun o ho => ?_, fun o ho => ?_, trivial⟩
   all_goals (cases ho)
   ·refine rn4 ?_
    refine zS 8 U (by kernel_rfl) (by kernel_rfl) (by kernel_rfl) U (zM U) U ?_
    refine zH (is := [7]) (by kernel_rfl) (by simp) U ⟨fun o ho => ?_, trivial⟩
    all_goals (cases ho)
    refine rn4 ?_
    refine zS 9 U (by kernel_rfl) (by kernel_rfl) (by kernel_rfl) U (zM U) U ?_
    refine zS 10 U (by kernel_rfl) (by kernel_rfl) (by kernel_rfl) U (zM U) U ?_
    refine zW (by kernel_rfl) ?_
    refine rn0 ?_
    exact zN hR U U
   ·refine rn4 ?_
    refine zH (is := [3]) (by kernel_rfl) (by simp) U ⟨fun o ho => ?_, trivial⟩
    all_goals (cases ho)
    refine rn4 ?_
    refine zS 8 U (by kernel_rfl) (by kernel_rfl) (by kernel_rfl) U (zM U) U ?_
    refine zS 9 U (by kernel_rfl) (by kernel_rfl) (by kernel_rfl) U (zM U) U ?_
    refine zS 10 U (by kernel_rfl) (by kernel_rfl) (by kernel_rfl) U (zM U) U ?_
    refine zW (by kernel_rfl) ?_
    refine rn0 ?_
    exact zN hR U U
 ·have e : zBT r p d = zBC r p := by unfold zBT; rw [if_pos h1]
  refine ⟨0, 0, ?_⟩
  rw [e]
  refine zd.value0 (zL (P := Tryz.prog) (fn := Tryz.f52) U U (by kernel_rfl) U (fun c hR hfix => ?_)) (fix := fun _ => False) (fun _ h => h) U U
  refine rn6 ?_
  refine zQ U U U (zCG r hr p hp) ?_
  refine rn3 ?_
  refine zF U (fun q => ?_) (fun q => absurd h1 q)
  refine rn2 ?_
  exact zN hR U U
/-- perft.Tree -/
theorem zNi (r : Go.Ax.Gm.Rules) (hr : Lens r) (p : Pos) (hp : LenP p) (d : Int) : ∃ x, zl Tryz.prog 23 [ruA r, poA p, .int .i64 d] (.tup [.int .i64 x, .int .i64 (zBT r p d)]) := by
 obtain ⟨x, y, hc⟩ := zOM r hr p hp d
 refine ⟨x, ?_⟩
 refine zd.value0 (zL (P := Tryz.prog) (fn := Tryz.f23) U U (by kernel_rfl) U (fun c hR hfix => ?_)) (fix := fun _ => False) (fun _ h => h) U U
 refine rn6 ?_
 refine zQ U U U hc ?_
 refine rn2 ?_
 exact zN hR U U
theorem odd_ok (n : Int) : zl Tryz.prog 92 [.int .i64 n] (.bool (oddB n)) := by
 refine zd.value0 (zL (P := Tryz.prog) (fn := Tryz.f92) U U (by kernel_rfl) U (fun c hR hfix => ?_)) (fix := fun _ => False) (fun _ h => h) U U
 have hb : oddB n = (decide (1 ≤ n) && (decide (n ≤ 5) && decide (n.tmod 2 = 1))) := rfl
 refine rn7 ?_
 refine zj U U (fun q => ?_) (fun q => ?_)
 ·have q : 1 ≤ n := q
  rw [decide_eq_true q, Bool.true_and] at hb
  refine rn8 ?_
  refine zj U U (fun q2 => ?_) (fun q2 => ?_)
  ·have q2 : n ≤ 5 := q2
   rw [decide_eq_true q2, Bool.true_and, Int.tmod_eq_emod_of_nonneg (by omega)] at hb
   repeat (first | refine zA (zG rfl) ?_ | refine zA (zM rfl) ?_ | refine zC ?_ | refine zB ?_ | refine zx rfl rfl ?_ | refine z6 ?_ | refine zA (zBp rfl rfl) ?_ | refine zA (zi rfl rfl) ?_ | refine zA (zJF rfl rfl (by omega)) ?_)
   refine zN hR U ?_
   rw [hb]; rfl
  ·have q2 : ¬ n ≤ 5 := q2
   rw [decide_eq_false q2, Bool.false_and] at hb
   refine rn6 ?_
   refine zN hR U ?_
   rw [hb]; rfl
 ·have q : ¬ 1 ≤ n := q
  rw [decide_eq_false q, Bool.false_and] at hb
  refine rn6 ?_
  refine zN hR U ?_
  rw [hb]; rfl
/-- puzzle.Check -/
theorem zNs (r : Go.Ax.Gm.Rules) (hr : Lens r) (p : Pos) (hp : LenP p) (n : Int) : zl Tryz.prog 68 [ruA r, poA p, .int .i64 n] (.int .i64 (zBb r p n)) := by
 refine zd.value0 (zL (P := Tryz.prog) (fn := Tryz.f68) U U (by kernel_rfl) U (fun c hR hfix => ?_)) (fix := fun _ => False) (fun _ h => h) U U
 obtain ⟨x, ct⟩ := zNi r hr p hp n
 refine rn6 ?_
 refine zQ U U U (zCG r hr p hp) ?_
 refine rn3 ?_
 refine zF U (fun q => ?_) (fun q => ?_)
 ·have e : zBb r p n = zBC r p := by unfold zBb; rw [if_pos q]
  rw [e] at hR
  refine rn2 ?_
  exact zN hR U U
 have q2 : zBC r p = 0 := Classical.not_not.1 q
 obtain ⟨hz, S⟩ := zDZ q2
 refine rn1 ?_
 refine zQ U U U (odd_ok n) ?_
 cases ho : oddB n with
 | false =>
  have e : zBb r p n = 4 := by unfold zBb; rw [if_neg q, if_pos ho]
  rw [e] at hR
  refine rn5 ?_
  exact zN hR U U
 | true =>
  refine rn6 ?_
  refine zQ U U U (zCX r (zAm hz) p S) ?_
  refine rn3 ?_
  refine zF U (fun q3 => ?_) (fun q3 => ?_)
  ·have e : zBb r p n = 14 := by unfold zBb; rw [if_neg q, if_neg (by rw [ho]; decide), if_pos q3]
   rw [e] at hR
   refine rn2 ?_
   exact zN hR U U
  ·have e : zBb r p n = zBT r p n := by unfold zBb; rw [if_neg q, if_neg (by rw [ho]; decide), if_neg q3]
   rw [e] at hR
   refine rn6 ?_
   refine zQ U U U ct ?_
   refine rn2 ?_
   exact zN hR U U
def zDA (q : Mv → Bool) (l : List Mv) : List Mv := l.filter (fun x => !(q x))
theorem zKH (q : Mv → Bool) (l : List Mv) {j : Nat} (h : j < l.length) : zDA q (l.take (j + 1)) = if q (l.getD j mv0) = true then zDA q (l.take j) else zDA q (l.take j) ++ [l.getD j mv0] := by
 unfold zDA
 rw [zAE l mv0 j h, List.filter_append]
 cases hq : q (l.getD j mv0) with
 | true => rw [if_pos rfl, List.filter_cons_of_neg (by rw [hq]; decide)]; simp
 | false => rw [if_neg (by decide), List.filter_cons_of_pos (by rw [hq]; rfl)]; rfl
theorem zLy (q : Mv → Bool) {l : List Mv} (h : ∀ x ∈ l, q x = false) : zDA q l = l := by
 unfold zDA
 rw [List.filter_eq_self]
 intro a ha
 rw [h a ha]; rfl
theorem keep_len (q : Mv → Bool) (l : List Mv) : (zDA q l).length ≤ l.length := List.length_filter_le ..
/-- slices.DeleteFunc of moves -/
theorem zNv (l : List Mv) (g : FuncId) (X Y Z : Cells) (q : Mv → Bool) (hl : l.length ≤ 100000) (hq : ∀ x ∈ l, zl Tryz.prog g ([mvA x] ++ [.rp X 0 0, .rp Y 0 0, .rp Z 0 0]) (.bool (q x))) :
 zd Tryz.prog 93 [.sl 0 0 l.length, .fn g [.rp X 0 0, .rp Y 0 0, .rp Z 0 0]] [some ⟨85, zAv l⟩] (fun h => h < 1) (fun r H => r = .sl 0 0 (zDA q l).length ∧ H = [some ⟨85, zAv (zDA q l ++ List.replicate (l.length - (zDA q l).length) mv0)⟩]) := by
 have ci := zLv l l.length g [.rp X 0 0, .rp Y 0 0, .rp Z 0 0] q (Nat.le_refl _) rfl (by omega) hq
 rw [List.take_length, zIw] at ci
 refine zL (P := Tryz.prog) (fn := Tryz.f93) U U (by kernel_rfl) U (fun c hR hfix => ?_)
 by_cases hi : l.findIdx q < l.length
 ·rw [if_pos hi] at ci
  have hqi : q (l.getD (l.findIdx q) mv0) = true := by rw [zCq mv0 hi]; exact List.findIdx_getElem (w := hi)
  have hpre : zDA q (l.take (l.findIdx q)) = l.take (l.findIdx q) := zLy q (fun x hx => by
   obtain ⟨j, hj, rfl⟩ := List.mem_iff_getElem.1 hx
   rw [List.length_take] at hj
   rw [List.getElem_take]
   have := List.not_of_lt_findIdx (p := q) (xs := l) (i := j) (by omega)
   simpa using this)
  have hpl : (l.take (l.findIdx q)).length = l.findIdx q := by rw [List.length_take]; omega
  have hst := zKH q l hi
  rw [if_pos hqi, hpre] at hst
  generalize hI : l.findIdx q = i at *
  refine rn0 ?_
  refine zLT rfl rfl rfl rfl ci (zEN (zAc zCW)) ⟨fun o ho => by cases ho; show 0 + l.length ≤ l.length; omega, ⟨trivial, trivial, trivial, trivial⟩, trivial⟩ rfl rfl rfl ?_
  refine rn4 ?_
  refine zAA (ι := Nat) (fun j => [(0, .sl 0 0 l.length), (1, .fn g [.rp X 0 0, .rp Y 0 0, .rp Z 0 0]), (5, .int .i64 ((zDA q (l.take j)).length : Nat)), (6, iN j)]) (fun j => [some ⟨85, zAv (zDA q (l.take j) ++ l.drop (zDA q (l.take j)).length)⟩]) (fun j => j ≤ l.length ∧ (zDA q (l.take j)).length < j) (fun j => l.length - j) (i + 1) ⟨⟨U, U, ?_, ?_, trivial⟩, ?_, by omega, ?_⟩ ?_
  ·rw [hst, hpl]; rfl
  ·show some (AV.int .i64 _) = some (AV.int .i64 _)
   congr 2
  ·rw [hst, hpl, List.take_append_drop]
  ·rw [hst, hpl]; omega
  intro j ⟨hj, hjc⟩
  have hsu := fun (h : j < l.length) => zKH q l h
  have hKl := keep_len q l
  obtain ⟨A, hA⟩ : ∃ A, zDA q (l.take j) = A := ⟨_, rfl⟩
  rw [hA] at hjc hsu ⊢
  have hXl : (A ++ l.drop A.length).length = l.length := by rw [List.length_append, List.length_drop]; omega
  have hXg : ∀ i, A.length ≤ i → (A ++ l.drop A.length).getD i mv0 = l.getD i mv0 := fun i q => by rw [zKE q, zFH]; congr 1; omega
  obtain ⟨B, hB⟩ : ∃ B, A ++ l.drop A.length = B := ⟨_, rfl⟩
  rw [hB] at hXl hXg ⊢
  refine rn4 ?_
  refine zF U (fun q2 => ?_) (fun q2 => ?_)
  ·have hj' : j < l.length := by omega
   have hsu := hsu hj'
   have hgj := hXg j (by omega)
   have cq := hq (l.getD j mv0) (zAR mv0 hj')
   obtain ⟨m, hm⟩ : ∃ m, l.getD j mv0 = m := ⟨_, rfl⟩
   rw [hm] at hsu hgj cq
   have hjB : j < B.length := by omega
   repeat (first | refine zA (zG rfl) ?_ | refine zB ?_ | refine zY ?_ | refine zJ rfl ?_ | refine zAX ?_ | refine zAP ?_ | refine zA (zo rfl rfl rfl rfl rfl (by first | (simp only [Nat.zero_add, Int.toNat_natCast, Int.toNat_zero]; exact rfl) | exact rfl) (by omega)) ?_ | refine zA (qpp rfl rfl rfl rfl rfl rfl rfl) ?_)
   repeat (refine zAI rfl rfl rfl ?_)
   refine zZ (mvC m) U U U U U (by rw [← hgj]; rfl) U ?_
   refine zBG ?_
   refine zDL [some ⟨85, zAv B⟩] 7 [(0, .sl 0 0 l.length), (1, .fn g [.rp X 0 0, .rp Y 0 0, .rp Z 0 0]), (5, iN A.length), (6, iN j)] U U ⟨U, U, U, U, trivial⟩ ⟨U, U, U, U, U, trivial⟩ (zBY (zE2 _) zBZ) U (fun h q => by rw [hfix] at q; exact q) ?_
   refine rn6 ?_
   refine zQ U U U cq ?_
   refine rn5 ?_
   cases hqm : q m with
   | true =>
    rw [if_pos hqm] at hsu
    refine rn5 ?_
    exact zR ⟨j + 1, ⟨by omega, by rw [hsu]; omega⟩, by omega, ⟨U, U, by rw [hsu]; rfl, U, trivial⟩, by rw [hsu, hB]⟩
   | false =>
    rw [if_neg (by rw [hqm]; decide)] at hsu
    have hAB : A.length < B.length := by omega
    have hnl : (A ++ [m]).length = A.length + 1 := by rw [List.length_append]; rfl
    refine rn6 ?_
    refine zDT (c' := zAv ((A ++ [m]) ++ l.drop (A.length + 1))) U U U U U hAB ?_ U (fun i' j' hi' hj' => ?_) ?_
    ·show ((A ++ [m]) ++ l.drop (A.length + 1)).length = B.length
     rw [List.length_append, hnl, List.length_drop]; omega
    ·have hj' : j' < 3 := hj'
     show (mvC (((A ++ [m]) ++ l.drop (A.length + 1)).getD i' mv0)).getD j' .any = _
     rw [zKW, hB]
     by_cases e : i' = A.length
     ·rw [if_pos e, if_pos e]
      match j', hj' with
      | 0, _ => rfl
      | 1, _ => rfl
      | 2, _ => rfl
     ·rw [if_neg e, if_neg e]; rfl
    refine rn5 ?_
    refine zR ⟨j + 1, ⟨by omega, by rw [hsu, hnl]; omega⟩, by omega, ⟨U, U, ?_, U, trivial⟩, ?_⟩
    ·show some (AV.int .i64 _) = some (AV.int .i64 _)
     congr 2; rw [hsu, hnl]; omega
    ·rw [hsu, hnl]; rfl
  ·have hj' : j = l.length := by omega
   subst hj'
   rw [List.take_length] at hA
   have hAk : A.length < l.length := by omega
   refine rn17 ?_
   refine zBI 38 (.sl 0 A.length (l.length - A.length)) U (AEq.of_eq (by congr 1 <;> omega)) ?_
   refine zJy (zs := [.int .i64 0, .int .i64 0, .int .i64 0]) (s := 3) (c' := zAv (A ++ List.replicate (l.length - A.length) mv0)) U U U U U U U (fun j' hj' w S σ => ?_) U (by omega) U (by show A.length + (l.length - A.length) ≤ B.length; omega) ?_ U (fun i' j' hi' hj' => ?_) ?_
   ·match j', hj' with
    | 0, _ => exact .int _ _ _
    | 1, _ => exact .int _ _ _
    | 2, _ => exact .int _ _ _
   ·show (A ++ List.replicate (l.length - A.length) mv0).length = B.length
    rw [List.length_append, List.length_replicate]; omega
   ·have hj' : j' < 3 := hj'
    have hi' : i' < B.length := hi'
    show (mvC ((A ++ List.replicate (l.length - A.length) mv0).getD i' mv0)).getD j' .any = _
    by_cases e : i' < A.length
    ·rw [if_neg (by omega), zBc, if_pos e]
     show _ = (mvC (B.getD i' mv0)).getD j' .any
     rw [← hB, zBc, if_pos e]
    ·rw [if_pos (by omega), zBc, if_neg e, zK9]
     match j', hj' with
     | 0, _ => rfl
     | 1, _ => rfl
     | 2, _ => rfl
   refine rn0 ?_
   refine zA (zMJ U U U U U U U U (by omega)) ?_
   refine rn0 ?_
   refine zN hR U ⟨?_, ?_⟩
   ·rw [hA]; rfl
   ·rw [hA]; rfl
 ·rw [if_neg hi] at ci
  have hk : zDA q l = l := zLy q (fun x hx => by
   rw [← Bool.not_eq_true]
   intro c
   exact hi (List.findIdx_lt_length_of_exists ⟨x, hx, c⟩))
  rw [hk] at hR
  refine rn0 ?_
  refine zLT rfl rfl rfl rfl ci (zEN (zAc zCW)) ⟨fun o ho => by cases ho; show 0 + l.length ≤ l.length; omega, ⟨trivial, trivial, trivial, trivial⟩, trivial⟩ rfl rfl rfl ?_
  refine rn5 ?_
  exact zN hR U ⟨U, by rw [Nat.sub_self]; simp⟩
abbrev zHp (k : Nat) : Int := 2 * (k : Int) + 1
/-- the closure of puzzle.all -/
theorem allc_ok (r : Go.Ax.Gm.Rules) (p : Pos) (m : Mv) (n : Int) (b : Bool) (hw : zl Tryz.prog 95 [ruA r, poA p, mvA m, .int .i64 n] (.bool b)) :
 zl Tryz.prog 94 [mvA m, .rp (.box (ruC r)) 0 0, .rp (.box (poC p)) 0 0, .rp (.box [.int .i64 n]) 0 0] (.bool (!b)) := by
 refine zd.value0 (zL (P := Tryz.prog) (fn := Tryz.f94) U U (by kernel_rfl) U (fun c hR hfix => ?_)) (fix := fun _ => False) (fun _ h => h) U U
 repeat (first | refine zA (zM rfl) ?_ | refine zC ?_ | refine zB ?_ | refine zY ?_ | refine zJ rfl ?_ | refine zA (zD rfl rfl rfl rfl) ?_ | refine zA (zm rfl rfl rfl rfl rfl rfl) ?_ | refine zA (qpp rfl rfl rfl rfl rfl rfl rfl) ?_ | refine zAO rfl rfl ?_)
 refine zQ U U U hw ?_
 refine rn5 ?_
 exact zN hR U U
/-- puzzle.all, from puzzle.wins -/
theorem zNL (r : Go.Ax.Gm.Rules) (hv : ValidR r) (k : Nat) (p : Pos) (S : Sound r p) (hw : ∀ m ∈ zr r p, zl Tryz.prog 95 [ruA r, poA p, mvA m, .int .i64 (zHp k)] (.bool (zCE r k p m))) :
 zl Tryz.prog 69 [ruA r, poA p, .int .i64 (zHp k)] (zBP (zC7 r k p)) := by
 have hml := zDX hv S
 have hk : zDA (fun m => !(zCE r k p m)) (zr r p) = zC7 r k p := by
  unfold zDA zC7
  refine List.filter_congr (fun m _ => ?_)
  rw [Bool.not_not]
 have cd := zNv (zr r p) 94 (.box (ruC r)) (.box (poC p)) (.box [.int .i64 (zHp k)]) (fun m => !(zCE r k p m)) (by omega) (fun m hm => allc_ok r p m (zHp k) _ (hw m hm))
 rw [hk] at cd
 refine zd.value (K := fun v H => v = .sl 0 0 (zC7 r k p).length ∧ H = [some ⟨85, zAv (zC7 r k p)⟩]) (zL (P := Tryz.prog) (fn := Tryz.f69) U U (by kernel_rfl) U (fun c hR hfix => ?_)) (fix := fun _ => False) (fun _ h => h) U ?_
 ·refine zY ?_
  repeat (first | refine zA (zM rfl) ?_ | refine zC ?_ | refine zB ?_ | refine zJ rfl ?_ | refine zAO rfl rfl ?_)
  refine zGZ [(3, .rp (.box (ruC r)) 0 0), (4, .rp (.box (poC p)) 0 0), (5, .rp (.box [.int .i64 (zHp k)]) 0 0)] (zCA (zu rfl) (zCA (zu rfl) (zCA (zu rfl) zCi))) ⟨⟨_, rfl, .inr (.inr ⟨rfl, fun o ho => by cases ho; exact Nat.zero_lt_one⟩)⟩, ⟨_, rfl, .inr (.inr ⟨rfl, fun o ho => by cases ho; exact Nat.zero_lt_one⟩)⟩, ⟨_, rfl, .inr (.inr ⟨rfl, fun o ho => by cases ho; exact Nat.zero_lt_one⟩)⟩, trivial⟩ ⟨rfl, rfl, rfl, trivial⟩ rfl hfix ?_
  refine rn6 ?_
  refine zD4 U U U (listF_ok r hv p S) ?_
  repeat (refine zA (zCn rfl) ?_)
  refine zBR U U U cd (fun _ h => h) (fun _ h => h) ?_
  rintro r' H' ⟨rfl, rfl⟩
  refine rn7 ?_
  refine zLW 0 (zAv (zC7 r k p)) U ⟨?_, U, fun i j hi hj => ?_⟩ ?_
  ·show (zC7 r k p).length ≤ (zC7 r k p ++ List.replicate ((zr r p).length - (zC7 r k p).length) mv0).length
   rw [List.length_append]; omega
  ·show (mvC ((zC7 r k p).getD i mv0)).getD j .any = (mvC ((zC7 r k p ++ List.replicate ((zr r p).length - (zC7 r k p).length) mv0).getD i mv0)).getD j .any
   have hi : i < (zC7 r k p).length := hi
   rw [zBc, if_pos hi]
  repeat (refine z6 ?_)
  exact zN hR U ⟨U, U⟩
 ·rintro v H ⟨rfl, rfl⟩
  refine ⟨U, ?_, fun h o ho => zEN (zAc zCW) h o ho⟩
  intro o ho; simp at ho; subst ho; show 0 + (zC7 r k p).length ≤ (zC7 r k p).length; omega
/-- puzzle.wins -/
theorem wins_ok' (r : Go.Ax.Gm.Rules) (hv : ValidR r) : ∀ (k : Nat) (hk : k ≤ 100) (p : Pos) (S : Sound r p) (m : Mv) (hm : m ∈ zr r p), zl Tryz.prog 95 [ruA r, poA p, mvA m, .int .i64 (zHp k)] (.bool (zCE r k p m)) := by
 intro k
 induction k with
 | zero =>
  intro hk p S m hm
  have Sq := zCw hv S hm
  have ht := S.tn
  refine zd.value0 (zL (P := Tryz.prog) (fn := Tryz.f95) U U (by kernel_rfl) U (fun c hR hfix => ?_)) (fix := fun _ => False) (fun _ h => h) U U
  refine rn6 ?_
  refine zQ U U U (zEW r hv p S m (Go.Ax.Gm.list_ok hv S hm)) ?_
  repeat (refine zAI rfl rfl rfl ?_)
  refine zZ (poC (zf r p m)) U U U U U U U ?_
  refine rn6 ?_
  refine zQ U U U (zCX r hv (zf r p m) Sq) ?_
  refine rn3 ?_
  refine zF U (fun q => ?_) (fun q => ?_)
  ·have e := zHx (k := 0) (m := m) q
   rw [e] at hR
   refine rn4 ?_
   exact zN hR U U
  ·have e := zJf (m := m) ht (Classical.not_not.1 q)
   rw [e] at hR
   refine rn5 ?_
   exact zN hR U U
 | succ k ih =>
  intro hk p S m hm
  have Sq := zCw hv S hm
  have ht := S.tn
  have e2 : zHp (k + 1) - 2 = zHp k := by show 2 * ((k + 1 : Nat) : Int) + 1 - 2 = 2 * (k : Int) + 1; omega
  have hall : ∀ s, Sound r s → zl Tryz.prog 69 [ruA r, poA s, .int .i64 (zHp k)] (zBP (zC7 r k s)) := fun s Ss => zNL r hv k s Ss (fun x hx => ih (by omega) s Ss x hx)
  have hpl : zHp (k + 1) = 2 * ((k + 1 : Nat) : Int) + 1 := rfl
  generalize hN : zHp (k + 1) = N at e2 hpl
  refine zd.value0 (zL (P := Tryz.prog) (fn := Tryz.f95) U U (by kernel_rfl) U (fun c hR hfix => ?_)) (fix := fun _ => False) (fun _ h => h) U U
  refine zY ?_
  repeat (first | refine zA (zM rfl) ?_ | refine zC ?_ | refine zB ?_ | refine zJ rfl ?_ | refine zAO rfl rfl ?_)
  refine zGZ [(4, .rp (.box (ruC r)) 0 0), (5, .rp (.box (poC p)) 0 0), (6, .rp (.box (mvC m)) 0 0), (3, .int .i64 N)] (zCA (zu rfl) (zCA (zu rfl) (zCA (zu rfl) zCi))) ⟨⟨_, rfl, .inr (.inr ⟨rfl, fun o ho => by cases ho; exact Nat.zero_lt_one⟩)⟩, ⟨_, rfl, .inr (.inr ⟨rfl, fun o ho => by cases ho; exact Nat.zero_lt_one⟩)⟩, ⟨_, rfl, .inr (.inr ⟨rfl, fun o ho => by cases ho; exact Nat.zero_lt_one⟩)⟩, ⟨_, rfl, .inl rfl⟩, trivial⟩ ⟨rfl, rfl, rfl, rfl, trivial⟩ rfl hfix ?_
  repeat (first | refine zA (zM rfl) ?_ | refine zC ?_ | refine zB ?_ | refine zY ?_ | refine zJ rfl ?_ | refine zA (zA4 rfl rfl (by omega)) ?_ | refine zA (zD rfl rfl rfl rfl) ?_ | refine zA (zK rfl rfl rfl rfl rfl rfl) ?_ | refine zA (zm rfl rfl rfl rfl rfl rfl) ?_)
  refine zQ U U U (zEW r hv p S m (Go.Ax.Gm.list_ok hv S hm)) ?_
  repeat (refine zAI rfl rfl rfl ?_)
  refine zZ (poC (zf r p m)) U U U U U U U ?_
  refine zBG ?_
  have hW : zb r (zf r p m) = 0 → zCE r (k + 1) p m = (zr r (zf r p m)).all (ansB r (zCE r k) (1 + p.turn) (zf r p m)) := fun c => by rw [zCE, if_neg (fun d => d c)]
  have hOv := fun c => zHx (r := r) (k := k + 1) (p := p) (m := m) c
  generalize hQ : zf r p m = Q at *
  refine zBi 10 [(4, .rp (.box (ruC r)) 0 0), (3, .int .i64 N), (9, .int .i64 (1 + p.turn))] U ⟨U, U, U, U, trivial⟩ ⟨U, U, U, trivial⟩ U hfix ?_
  refine rn6 ?_
  refine zQ U U U (zCX r hv Q Sq) ?_
  refine rn3 ?_
  refine zF U (fun q => ?_) (fun q => ?_)
  ·rw [hOv q] at hR
   refine rn4 ?_
   exact zN hR U U
  have q := Classical.not_not.1 q
  have hW := hW q
  refine rn4 ?_
  refine zF U (fun q3 => ?_) (fun q3 => ?_)
  ·exact absurd q3 (by omega)
  have hml := zDX hv Sq
  have cl := list_ok r hv Q Sq
  have hms : ∀ a ∈ zr r Q, MvOK r Q a ∧ Sound r (zf r Q a) := fun a ha => ⟨Go.Ax.Gm.list_ok hv Sq ha, zCw hv Sq ha⟩
  generalize hM : zr r Q = ms at *
  refine rn6 ?_
  refine zQ U U U cl ?_
  refine rn3 ?_
  refine zAA (ι := Nat) (fun j => [(10, .rp (.box (poC Q)) 0 0), (4, .rp (.box (ruC r)) 0 0), (3, .int .i64 N), (9, .int .i64 (1 + p.turn)), (34, zBP ms), (35, iN ms.length), (36, iN j)]) (fun _ => []) (fun j => j ≤ ms.length ∧ (ms.take j).all (ansB r (zCE r k) (1 + p.turn) Q) = true) (fun j => ms.length - j) 0 ⟨⟨U, U, U, U, U, U, U, trivial⟩, U, Nat.zero_le _, U⟩ ?_
  intro j ⟨hj, hall2⟩
  refine rn4 ?_
  refine zF U (fun g => ?_) (fun g => ?_)
  ·have hj' : j < ms.length := by omega
   have hmem := zAR mv0 hj'
   have hst : (ms.take (j + 1)).all (ansB r (zCE r k) (1 + p.turn) Q) = ansB r (zCE r k) (1 + p.turn) Q (ms.getD j mv0) := by
    rw [zAE ms mv0 j hj', List.all_append, hall2]; simp
   have hno : ansB r (zCE r k) (1 + p.turn) Q (ms.getD j mv0) = false → ms.all (ansB r (zCE r k) (1 + p.turn) Q) = false := fun c => by
    rw [← Bool.not_eq_true, List.all_eq_true]
    intro d
    rw [d _ hmem] at c; cases c
   obtain ⟨a, ha⟩ : ∃ a, ms.getD j mv0 = a := ⟨_, rfl⟩
   rw [ha] at hmem hst hno
   obtain ⟨ha1, ha2⟩ := hms a hmem
   have hans : ansB r (zCE r k) (1 + p.turn) Q a = if zb r (zf r Q a) = 1 + p.turn then true else if zb r (zf r Q a) = 0 then (zr r (zf r Q a)).any (zCE r k (zf r Q a)) else false := rfl
   have cs := hall (zf r Q a) ha2
   have cres := zCX r hv (zf r Q a) ha2
   have cmk := zEW r hv Q Sq a ha1
   have hal : (zC7 r k (zf r Q a)).length ≤ 10000 := Nat.le_trans (List.length_filter_le ..) (zDX hv ha2)
   have hne := all_any (r := r) (k := k) (p := zf r Q a)
   generalize hSS : zf r Q a = s at *
   refine zGo ?_
   repeat (refine zAI rfl rfl rfl ?_)
   refine zZ (mvC a) U U U U U (by rw [← ha]; rfl) U ?_
   refine rn6 ?_
   refine zQ U U U cmk ?_
   repeat (refine zAI rfl rfl rfl ?_)
   refine zZ (poC s) U U U U U U U ?_
   refine rn6 ?_
   refine zQ U U U cres ?_
   refine rn4 ?_
   refine zF U (fun h1 => ?_) (fun h1 => ?_)
   ·rw [if_pos h1] at hans
    refine rn10 ?_
    refine zB ?_
    refine zB2 [] [some ⟨85, .box (mvC a)⟩, some ⟨33, .box (poC s)⟩] [(10, .rp (.box (poC Q)) 0 0), (4, .rp (.box (ruC r)) 0 0), (3, .int .i64 N), (9, .int .i64 (1 + p.turn)), (34, zBP ms), (35, iN ms.length), (36, iN j)] U ⟨U, U, U, U, U, U, U, trivial⟩ (fun h hh => by rw [hfix] at hh; exact absurd hh id) (fun h o ho => by simp at ho) U ?_
    refine rn3 ?_
    exact zR ⟨j + 1, ⟨by omega, by rw [hst, hans]⟩, by omega, ⟨U, U, U, U, U, U, U, trivial⟩, U⟩
   rw [if_neg h1] at hans
   refine rn4 ?_
   refine zF U (fun h2 => ?_) (fun h2 => ?_)
   ·rw [if_pos h2] at hans
    repeat (first | refine zA (zG rfl) ?_ | refine zY ?_ | refine zJ rfl ?_ | refine zA (zA1 rfl rfl (by omega)) ?_ | refine zA (zm rfl rfl rfl rfl rfl rfl) ?_ | refine zA (qpp rfl rfl rfl rfl rfl rfl rfl) ?_)
    rw [e2]
    skip
    refine zQ U U U cs ?_
    refine rn4 ?_
    refine zF U (fun h3 => ?_) (fun h3 => ?_)
    ·have h3 : zC7 r k s = [] := List.length_eq_zero_iff.mp (by omega)
     have hf : (zr r s).any (zCE r k s) = false := by
      rw [← Bool.not_eq_true, ← hne, h3]; exact fun d => d rfl
     rw [hf] at hans
     refine rn6 ?_
     rw [hW, hno hans] at hR
     exact zN hR U U
    ·have h3 : zC7 r k s ≠ [] := fun d => h3 (by rw [d]; rfl)
     rw [hne.1 h3] at hans
     refine rn10 ?_
     refine zB ?_
     refine zB2 [] [some ⟨85, .box (mvC a)⟩, some ⟨33, .box (poC s)⟩] [(10, .rp (.box (poC Q)) 0 0), (4, .rp (.box (ruC r)) 0 0), (3, .int .i64 N), (9, .int .i64 (1 + p.turn)), (34, zBP ms), (35, iN ms.length), (36, iN j)] U ⟨U, U, U, U, U, U, U, trivial⟩ (fun h hh => by rw [hfix] at hh; exact absurd hh id) (fun h o ho => by simp at ho) U ?_
     refine rn3 ?_
     exact zR ⟨j + 1, ⟨by omega, by rw [hst, hans]⟩, by omega, ⟨U, U, U, U, U, U, U, trivial⟩, U⟩
   ·rw [if_neg h2] at hans
    refine rn6 ?_
    rw [hW, hno hans] at hR
    exact zN hR U U
  ·have hj' : j = ms.length := by omega
   subst hj'
   rw [List.take_length] at hall2
   rw [hW, hall2] at hR
   refine rn5 ?_
   exact zN hR U U
theorem all_okP (r : Go.Ax.Gm.Rules) (hv : ValidR r) (k : Nat) (hk : k ≤ 100) (p : Pos) (S : Sound r p) : zl Tryz.prog 69 [ruA r, poA p, .int .i64 (zHp k)] (zBP (zC7 r k p)) :=
 zNL r hv k p S (fun x hx => wins_ok' r hv k hk p S x hx)
theorem allP_len {r : Go.Ax.Gm.Rules} (hv : ValidR r) (k : Nat) {p : Pos} (S : Sound r p) : (zC7 r k p).length ≤ 10000 := Nat.le_trans (List.length_filter_le ..) (zDX hv S)
theorem zOr (r : Go.Ax.Gm.Rules) (p : Pos) (n : Int) : (zGW r p n).length ≤ 10000 := by
 unfold zGW
 split
 ·exact Nat.zero_le _
 ·rename_i h
  obtain ⟨k, e, hc⟩ := zLb (Classical.not_not.1 h)
  exact allP_len hc.v _ hc.S
/-- puzzle.Wins -/
theorem winsF_ok (r : Go.Ax.Gm.Rules) (hr : Lens r) (p : Pos) (hp : LenP p) (n : Int) : zl Tryz.prog 39 [ruA r, poA p, .int .i64 n] (.tup [zBP (zGW r p n), .int .i64 (zBb r p n)]) := by
 refine zd.value0 (zL (P := Tryz.prog) (fn := Tryz.f39) U U (by kernel_rfl) U (fun c hR hfix => ?_)) (fix := fun _ => False) (fun _ h => h) U U
 refine rn6 ?_
 refine zQ U U U (zNs r hr p hp n) ?_
 refine rn3 ?_
 refine zF U (fun q => ?_) (fun q => ?_)
 ·have q : zBb r p n ≠ 0 := q
  have e : zGW r p n = [] := by unfold zGW; rw [if_pos q]
  rw [e] at hR
  refine rn7 ?_
  refine zBu 6 (zBP []) U AEq.nil ?_
  refine rn2 ?_
  exact zN hR U U
 ·have q : zBb r p n = 0 := Classical.not_not.1 q
  obtain ⟨k, e, hc⟩ := zLb q
  have e2 : zGW r p n = zC7 r k p := by unfold zGW; rw [if_neg (fun d => d q), e, zLr]
  rw [e2, q] at hR
  have ca := all_okP r hc.v k (Nat.le_trans hc.k2 (by omega)) p hc.S
  have e3 : zHp k = n := e.symm
  rw [e3] at ca
  refine rn6 ?_
  refine zQ U U U ca ?_
  refine rn0 ?_
  exact zN hR U U
/-- puzzle.Single -/
theorem least_ok (r : Go.Ax.Gm.Rules) (hr : Lens r) (p : Pos) (hp : LenP p) : zl Tryz.prog 18 [ruA r, poA p] (.tup [.int .i64 (zKt r p).1, .int .i64 (zKt r p).2]) := by
 refine zd.value0 (zL (P := Tryz.prog) (fn := Tryz.f18) U U (by kernel_rfl) U (fun c hR hfix => ?_)) (fix := fun _ => False) (fun _ h => h) U U
 refine zY ?_
 repeat (first | refine zA (zM rfl) ?_ | refine zC ?_ | refine zB ?_ | refine zJ rfl ?_ | refine zAO rfl rfl ?_)
 refine zCp 2 3 [] U U U U trivial ⟨U, U, trivial⟩ U hfix ?_
 refine rn1 ?_
 refine zAA (ι := Nat) (fun k => [(2, .rp (.box (ruC r)) 0 0), (3, .rp (.box (poC p)) 0 0), (6, .int .i64 (2 * (k : Nat) + 1))]) (fun _ => []) (fun k => k ≤ 3 ∧ zKt r p = zEi r p (3 - k) k) (fun k => 3 - k) 0 ⟨⟨U, U, U, trivial⟩, U, by omega, U⟩ ?_
 intro k ⟨hk, hL⟩
 refine rn8 ?_
 refine zF U (fun g => ?_) (fun g => ?_)
 ·have hk3 : k < 3 := by omega
  rw [show 3 - k = (3 - (k + 1)) + 1 by omega, zEi] at hL
  have hwl : zBb r p (2 * (k : Int) + 1) = 0 → zGW r p (2 * (k : Int) + 1) = zC7 r k p := fun q => by unfold zGW; rw [if_neg (fun d => d q), zLr]
  have hl := zOr r p (2 * (k : Int) + 1)
  refine rn6 ?_
  refine zQ U U U (winsF_ok r hr p hp (2 * (k : Int) + 1)) ?_
  refine rn3 ?_
  refine zF U (fun q => ?_) (fun q => ?_)
  ·have q : zBb r p (2 * (k : Int) + 1) ≠ 0 := q
   rw [if_pos q] at hL
   rw [hL] at hR
   refine rn6 ?_
   exact zN hR U U
  have q : zBb r p (2 * (k : Int) + 1) = 0 := Classical.not_not.1 q
  rw [if_neg (fun d => d q), ← hwl q] at hL
  generalize hW : zGW r p (2 * (k : Int) + 1) = w at *
  refine rn6 ?_
  refine zF U (fun q2 => ?_) (fun q2 => ?_)
  ·rw [if_pos (by omega)] at hL
   rw [hL] at hR
   refine rn6 ?_
   exact zN hR U U
  ·rw [if_neg (by omega)] at hL
   refine rn5 ?_
   have e : (2 * (k : Int) + 1 + 2) = 2 * ((k + 1 : Nat) : Int) + 1 := by omega
   exact zR ⟨k + 1, ⟨by omega, hL⟩, by omega, ⟨U, U, by rw [← e]; rfl, trivial⟩, U⟩
 ·have hk3 : k = 3 := by omega
  subst hk3
  rw [show zEi r p (3 - 3) 3 = (0, 8) from rfl] at hL
  rw [hL] at hR
  refine rn5 ?_
  exact zN hR U U
/-- minimax.Nearer -/
theorem zOG (n : Int) (hn : -2000 ≤ n ∧ n ≤ 2000) : zl Tryz.prog 87 [.int .i64 n] (.int .i64 (zCP n)) := by
 refine zd.value0 (zL (P := Tryz.prog) (fn := Tryz.f87) U U (by kernel_rfl) U (fun c hR hfix => ?_)) (fix := fun _ => False) (fun _ h => h) U U
 have e : zCP n = if 0 < n then n - 1 else if n < 0 then n + 1 else 0 := rfl
 refine rn6 ?_
 refine zF U (fun q => ?_) (fun q => ?_)
 ·rw [if_pos q] at e
  rw [e] at hR
  repeat (first | refine zA (zG rfl) ?_ | refine zA (zM rfl) ?_ | refine zC ?_ | refine zB ?_ | refine zY ?_ | refine zJ rfl ?_ | refine z6 ?_ | refine zA9 ?_ | refine zD5 ?_ | refine zA (zA1 rfl rfl (by omega)) ?_)
  exact zN hR U U
 rw [if_neg q] at e
 refine rn4 ?_
 refine zF U (fun q2 => ?_) (fun q2 => ?_)
 ·rw [if_pos q2] at e
  rw [e] at hR
  refine rn6 ?_
  exact zN hR U U
 ·rw [if_neg q2] at e
  rw [e] at hR
  refine rn5 ?_
  exact zN hR U U
/-- minimax.Over -/
theorem over_ok (p : Pos) (ht : p.turn = 0 ∨ p.turn = 1) (x : Int) : zl Tryz.prog 53 [poA p, .int .i64 x] (.int .i64 (zGS p x)) := by
 refine zd.value0 (zL (P := Tryz.prog) (fn := Tryz.f53) U U (by kernel_rfl) U (fun c hR hfix => ?_)) (fix := fun _ => False) (fun _ h => h) U U
 have e : zGS p x = if x = 1 + p.turn then 1000 else if x = 2 - p.turn then -1000 else 0 := rfl
 refine zY ?_
 repeat (first | refine zA (zM rfl) ?_ | refine zC ?_ | refine zB ?_ | refine zJ rfl ?_ | refine zAO rfl rfl ?_)
 refine zBi 2 [(1, .int .i64 x)] U ⟨U, U, trivial⟩ ⟨U, trivial⟩ U hfix ?_
 refine zBz ?_
 refine zF U (fun q => ?_) (fun q => ?_)
 ·have q : x = 1 + p.turn := q
  rw [if_pos q] at e
  rw [e] at hR
  refine rn6 ?_
  exact zN hR U U
 have q : ¬ x = 1 + p.turn := q
 rw [if_neg q] at e
 repeat (first | refine zA (zM rfl) ?_ | refine zC ?_ | refine zB ?_ | refine zY ?_ | refine zJ rfl ?_ | refine zA (zBp rfl rfl) ?_ | refine zA (zA1 rfl rfl (by omega)) ?_ | refine zA (zD rfl rfl rfl rfl) ?_ | refine zA (zK rfl rfl rfl rfl rfl rfl) ?_)
 refine zF U (fun q2 => ?_) (fun q2 => ?_)
 ·have q2 : x = 2 - p.turn := q2
  rw [if_pos q2] at e
  rw [e] at hR
  refine rn6 ?_
  exact zN hR U U
 ·have q2 : ¬ x = 2 - p.turn := q2
  rw [if_neg q2] at e
  rw [e] at hR
  refine rn5 ?_
  exact zN hR U U
def OfK (r : Go.Ax.Gm.Rules) (d : Nat) : Prop := ∀ (p : Pos), Sound r p → zl Tryz.prog 24 [ruA r, poA p, iN d] (.int .i64 (zAg r d p))
abbrev ruO (r : Go.Ax.Gm.Rules) : Option AObj := some ⟨26, .box (ruC r)⟩
abbrev poO (p : Pos) : Option AObj := some ⟨33, .box (poC p)⟩
abbrev mvO (m : Mv) : Option AObj := some ⟨85, .box (mvC m)⟩
/-- minimax.First -/
theorem zN3 (r : Go.Ax.Gm.Rules) (hv : ValidR r) (d : Nat) (hd : d ≤ 1000) (hof : OfK r d) (p : Pos) (S : Sound r p) : zl Tryz.prog 54 [ruA r, poA p, .int .i64 ((d + 1 : Nat) : Int)] (.tup [mvA (zGc r d p).1, .int .i64 (zGc r d p).2]) := by
 refine zd.value0 (zL (P := Tryz.prog) (fn := Tryz.f54) U U (by kernel_rfl) U (fun c hR hfix => ?_)) (fix := fun _ => False) (fun _ h => h) U U
 have cl := list_ok r hv p S
 have hml := zDX hv S
 have hms : ∀ a ∈ zr r p, MvOK r p a ∧ Sound r (zf r p a) := fun a ha => ⟨Go.Ax.Gm.list_ok hv S ha, zCw hv S ha⟩
 have hF : zGc r d p = zB8 (zDC r d p) (zr r p) (mv0, -2000) := rfl
 rw [hF] at hR
 clear hF
 generalize zr r p = ms at *
 refine rn6 ?_
 refine zQ U U U cl ?_
 refine rn3 ?_
 refine zAK [ruO r, poO p, mvO mv0, mvO mv0] U ?_
 refine zAA (ι := Nat) (fun j => [(3, .ptr 0 0 0), (4, .ptr 1 0 0), (6, .ptr 2 0 0), (8, .ptr 3 0 0), (2, .int .i64 ((d + 1 : Nat) : Int)), (9, .int .i64 (zB8 (zDC r d p) (ms.take j) (mv0, -2000)).2), (15, zBP ms), (16, iN ms.length), (17, iN j)]) (fun j => [ruO r, poO p, mvO mv0, mvO (zB8 (zDC r d p) (ms.take j) (mv0, -2000)).1]) (fun j => j ≤ ms.length) (fun j => ms.length - j) 0 ⟨⟨U, U, U, U, U, U, U, U, U, trivial⟩, U, Nat.zero_le _⟩ ?_
 intro j hj
 refine rn4 ?_
 refine zF U (fun g => ?_) (fun g => ?_)
 ·have hj' : j < ms.length := by omega
  have hmem := zAR mv0 hj'
  obtain ⟨a, ha⟩ : ∃ a, ms.getD j mv0 = a := ⟨_, rfl⟩
  rw [ha] at hmem
  obtain ⟨h1, h2⟩ := hms a hmem
  have cmk := zEW r hv p S a h1
  have cof := hof _ h2
  have hsb := zIE r d (zf r p a)
  have cnr := zOG (-(zAg r d (zf r p a))) (by omega)
  have hsn : zB8 (zDC r d p) (ms.take (j + 1)) (mv0, -2000) = if (zB8 (zDC r d p) (ms.take j) (mv0, -2000)).2 < zDC r d p a then (a, zDC r d p a) else zB8 (zDC r d p) (ms.take j) (mv0, -2000) := by
   rw [zAE ms mv0 j hj', ha, zKp]
  have hns : zCP (-(zAg r d (zf r p a))) = zDC r d p a := rfl
  rw [hns] at cnr
  generalize zDC r d p a = na at *
  generalize zf r p a = s at *
  generalize zAg r d s = sc at *
  generalize zB8 (zDC r d p) (ms.take j) (mv0, -2000) = B at *
  refine zGo ?_
  repeat (refine zAI rfl rfl rfl ?_)
  refine zZ (mvC a) U U U U U (by rw [← ha]; rfl) U ?_
  refine rn0 ?_
  refine ze (by kernel_rfl) ?_
  refine zh (fuel := 0) [0, 1, 2, 3, 4, 5, 6, 7, 8, 9, 10] [(3, .ptr 0 0 0), (4, .ptr 1 0 0), (6, .ptr 2 0 0), (8, .ptr 3 0 0), (11, .ptr 4 0 0), (2, .int .i64 ((d + 1 : Nat) : Int)), (9, .int .i64 B.2), (15, zBP ms), (16, iN ms.length), (17, iN j)] ⟨U, U, U, U, U, U, U, U, U, U, trivial⟩ (by kernel_rfl) (by decide) U U ?_
  refine zI U U (qpp U U U U U U U) ?_
  refine zI U U (qpp U U U U U U U) ?_
  refine zI U U (qpp U U U U U U U) ?_
  refine zI U U (qpp U U U U U U U) ?_
  refine zBS U U U U U cmk ?_
  refine zI U U (zG U) ?_
  refine zI U U (zA1 U U (by omega)) ?_
  rw [show ((d + 1 : Nat) : Int) - 1 = (d : Nat) by omega]
  refine zBS U U U U U cof ?_
  refine zI U U (q_neg U (by omega)) ?_
  refine zBS U U U U U cnr ?_
  refine zI U U (zM U) ?_
  refine zw ?_
  refine zW (by kernel_rfl) ?_
  refine rn6 ?_
  refine zF U (fun w => ?_) (fun w => ?_)
  ·rw [if_pos w] at hsn
   refine rn6 ?_
   refine zZ (mvC a) U U U U U U U ?_
   refine rn10 ?_
   refine zB ?_
   refine zB2 [ruO r, poO p, mvO mv0, mvO a] [mvO a] [(3, .ptr 0 0 0), (4, .ptr 1 0 0), (6, .ptr 2 0 0), (8, .ptr 3 0 0), (2, .int .i64 ((d + 1 : Nat) : Int)), (9, .int .i64 na), (15, zBP ms), (16, iN ms.length), (17, iN j)] U ⟨U, U, U, U, U, U, U, U, U, trivial⟩ (fun h hh => by rw [hfix] at hh; exact hh.elim) (zBY (zDr U) (zBY (zDr U) (zBY (zDr U) (zBY (zDr U) zBZ)))) U ?_
   refine rn3 ?_
   exact zR ⟨j + 1, by omega, by omega, ⟨U, U, U, U, U, by rw [hsn]; rfl, U, U, U, trivial⟩, by rw [hsn]⟩
  ·rw [if_neg w] at hsn
   refine rn10 ?_
   refine zB ?_
   refine zB2 [ruO r, poO p, mvO mv0, mvO B.1] [mvO a] [(3, .ptr 0 0 0), (4, .ptr 1 0 0), (6, .ptr 2 0 0), (8, .ptr 3 0 0), (2, .int .i64 ((d + 1 : Nat) : Int)), (9, .int .i64 B.2), (15, zBP ms), (16, iN ms.length), (17, iN j)] U ⟨U, U, U, U, U, U, U, U, U, trivial⟩ (fun h hh => by rw [hfix] at hh; exact hh.elim) (zBY (zDr U) (zBY (zDr U) (zBY (zDr U) (zBY (zDr U) zBZ)))) U ?_
   refine rn3 ?_
   exact zR ⟨j + 1, by omega, by omega, ⟨U, U, U, U, U, by rw [hsn]; rfl, U, U, U, trivial⟩, by rw [hsn]⟩
 ·have hj' : j = ms.length := by omega
  rw [hj', List.take_length]
  refine rn6 ?_
  refine zZ (mvC (zB8 (zDC r d p) ms (mv0, -2000)).1) U U U U U U U ?_
  refine rn0 ?_
  exact zN hR U U
theorem zNb (r : Go.Ax.Gm.Rules) (hv : ValidR r) (d : Nat) (hd : d ≤ 1000) (hrec : d = 0 ∨ ∃ e, d = e + 1 ∧ OfK r e) : OfK r d := by
 intro p S
 refine zd.value0 (zL (P := Tryz.prog) (fn := Tryz.f24) U U (by kernel_rfl) U (fun c hR hfix => ?_)) (fix := fun _ => False) (fun _ h => h) U U
 have cr := zCX r hv p S
 have cov := over_ok p S.tn (zb r p)
 have h1 : zb r p ≠ 0 → zAg r d p = zGS p (zb r p) := fun q => by cases d <;> rw [zAg, if_pos q]
 have h0 : zb r p = 0 → d = 0 → zAg r d p = 0 := fun q e => by subst e; rw [zAg, if_neg (fun c => c q)]
 have hS : zb r p = 0 → ∀ e, d = e + 1 → zAg r d p = (zGc r e p).2 := fun q e h => by rw [h, zMj r e p q]
 generalize zb r p = x at *
 generalize zAg r d p = V at *
 refine zY ?_
 repeat (first | refine zA (zM rfl) ?_ | refine zC ?_ | refine zB ?_ | refine zJ rfl ?_ | refine zAO rfl rfl ?_)
 refine zCp 3 4 [(2, iN d)] U U U U ⟨U, trivial⟩ ⟨U, U, U, trivial⟩ U hfix ?_
 refine rn6 ?_
 refine zQ U U U cr ?_
 refine rn3 ?_
 refine zF U (fun q => ?_) (fun q => ?_)
 ·rw [h1 q] at hR
  refine rn6 ?_
  refine zQ U U U cov ?_
  refine rn2 ?_
  exact zN hR U U
 have q := Classical.not_not.1 q
 refine rn4 ?_
 refine zF U (fun q2 => ?_) (fun q2 => ?_)
 ·rw [h0 q (by omega)] at hR
  refine rn2 ?_
  exact zN hR U U
 obtain ⟨e, he, hof⟩ : ∃ e, d = e + 1 ∧ OfK r e := hrec.elim (fun h => absurd (show ((d : Nat) : Int) = 0 by omega) q2) id
 have cf := zN3 r hv e (by omega) hof p S
 rw [hS q e he] at hR
 subst he
 generalize (zGc r e p).1 = m at *
 generalize (zGc r e p).2 = n at *
 refine rn6 ?_
 refine zQ U U U cf ?_
 refine rn4 ?_
 refine zZ (mvC m) U U U U U U U ?_
 refine rn0 ?_
 exact zN hR U U
theorem ofS_ok (r : Go.Ax.Gm.Rules) (hv : ValidR r) : ∀ d : Nat, d ≤ 1000 → OfK r d
 | 0, h => zNb r hv 0 h (.inl rfl)
 | d + 1, h => zNb r hv (d + 1) h (.inr ⟨d, rfl, ofS_ok r hv d (by omega)⟩)
/-- minimax.Score -/
theorem zML (r : Go.Ax.Gm.Rules) (hr : Lens r) (p : Pos) (hp : LenP p) (d : Nat) (hd : d ≤ 12) (h : zBC r p = 0) : zl Tryz.prog 11 [ruA r, poA p, iN d] (.tup [.int .i64 (zFP r p (d : Nat)).1, .int .i64 (zFP r p (d : Nat)).2]) := by
 refine zd.value0 (zL (P := Tryz.prog) (fn := Tryz.f11) U U (by kernel_rfl) U (fun c hR hfix => ?_)) (fix := fun _ => False) (fun _ h => h) U U
 obtain ⟨x, ct⟩ := zNi r hr p hp (d : Nat)
 obtain ⟨hz, S⟩ := zMA h
 have hv : ValidR r := zAm hz
 have hE : zFP r p (d : Nat) = if zBT r p (d : Nat) ≠ 0 then (0, zBT r p (d : Nat)) else (zAg r d p, 0) := rfl
 have cof := ofS_ok r hv d (by omega) p S
 refine zY ?_
 repeat (first | refine zA (zM rfl) ?_ | refine zC ?_ | refine zB ?_ | refine zJ rfl ?_ | refine zAO rfl rfl ?_)
 refine zCp 3 4 [(2, iN d)] U U U U ⟨U, trivial⟩ ⟨U, U, U, trivial⟩ U hfix ?_
 refine rn6 ?_
 refine zQ U U U ct ?_
 refine rn3 ?_
 refine zF U (fun q => ?_) (fun q => ?_)
 ·rw [if_pos q] at hE
  rw [hE] at hR
  refine rn2 ?_
  exact zN hR U U
 rw [if_neg q] at hE
 rw [hE] at hR
 refine rn6 ?_
 refine zQ U U U cof ?_
 refine rn0 ?_
 exact zN hR U U
theorem zL4 (a : Mv) (j k : Nat) : ((mvC a).getD j .any).forget k = (mvC a).getD j .any := by
 match j with
 | 0 => rfl
 | 1 => rfl
 | 2 => rfl
 | j + 3 => rfl
abbrev gmC (r : Go.Ax.Gm.Rules) (x y : AV) : List AV := [.str r.name, .int .i64 r.w, .int .i64 r.h, .ro (zAj r.pcs) 0 r.pcs.length, z8 r.start, .bool r.falls, .bool r.keeps, .ro (zEv r.ends) 0 r.ends.length, .int .i64 r.blocked, .int .i64 r.quiet, .int .i64 r.rep, x, y]
abbrev gmO (r : Go.Ax.Gm.Rules) (x y : AV) : Option AObj := some ⟨122, .box (gmC r x y)⟩
abbrev psO (L : List Pos) : Option AObj := some ⟨33, zCg L⟩
abbrev msO (M : List Mv) : Option AObj := some ⟨85, zAv M⟩
abbrev pzO : Option AObj := some ⟨33, .box [.nil, .nil, .nil, .int .i64 0, .int .i64 0]⟩
abbrev gmH (r : Go.Ax.Gm.Rules) (n : Nat) (L : List Pos) (m : Nat) (M : List Mv) : zP := [none, pzO, psO L, gmO r (.sl 2 0 n) (.sl 4 0 m), msO M]
abbrev zB0 (L : List Pos) : Pos := L.getD (L.length - 1) zq
theorem zEx (r : Go.Ax.Gm.Rules) (n : Nat) (L : List Pos) (m : Nat) (M : List Mv) : ∀ (h : Nat) (o : AObj), (gmH r n L m M)[h]? = some (some o) → zAz (gmH r n L m M).length o.c :=
 bl_n (zBY (zDr rfl) (zBY (zHq L) (zBY (zDr rfl) (zBY (zE2 M) zBZ))))
/-- (*plain.Game).now -/
theorem zMr (r : Go.Ax.Gm.Rules) (L : List Pos) (m : Nat) (M : List Mv) (hL : 0 < L.length ∧ L.length ≤ 1000) :
 zd Tryz.prog 60 [.ptr 3 0 0] (gmH r L.length L m M) (fun h => h < (gmH r L.length L m M).length) (fun v H => v = poA (zB0 L) ∧ H = gmH r L.length L m M) := by
 have hc : zd Tryz.prog 60 [.ptr 3 0 0] (gmH r L.length L m M) (fun h => h < (gmH r L.length L m M).length) (fun v H => v = poA (zB0 L) ∧ ∃ x, H = gmH r L.length L m M ++ x) := by
  refine zL (P := Tryz.prog) (fn := Tryz.f60) U U (by kernel_rfl) U (fun c hR hfix => ?_)
  obtain ⟨p, hp⟩ : ∃ p, zB0 L = p := ⟨_, rfl⟩
  rw [hp] at hR
  have e1 : ((L.length : Nat) : Int) - 1 = ((L.length - 1 : Nat) : Int) := by omega
  have h1 : L.length - 1 < L.length := by omega
  refine rn4 ?_
  refine ze (by kernel_rfl) ?_
  refine zFd (fuel := 0) [0, 1, 2, 3, 4, 5, 6, 7, 8, 9, 10, 11, 12] [12] (fun j => [gmH r L.length L m M ++ [pzO], gmH r L.length L m M ++ [poO p]].getD j []) [(0, .ptr 3 0 0), (2, .ptr 5 0 0)] ⟨U, U, trivial⟩ (by kernel_rfl) (by kernel_rfl) U (by decide) U U ?_
  refine zEl U U U (fun _ => zG U) ?_
  refine zEl U U U (fun _ => zV U) ?_
  refine zEl U U U (fun _ => zO U U U U U U) ?_
  refine zMC [0] U U U (by kernel_rfl) ⟨zU U U U U U, trivial⟩ ?_
  refine zEl U U U (fun _ => zG U) ?_
  refine zEl U U U (fun _ => zV U) ?_
  refine zEl U U U (fun _ => zO U U U U U U) ?_
  refine zMC [0] U U U (by kernel_rfl) ⟨zU U U U U U, trivial⟩ ?_
  refine zEl U U U (fun _ => zBK U U U) ?_
  refine zEl U U U (fun _ => zA1 U U (by omega)) ?_
  rw [e1]
  refine zMC [0] U U U (by kernel_rfl) ⟨zo U U U U U (by first | (simp only [Nat.zero_add, Int.toNat_natCast, Int.toNat_zero]; exact U) | exact U) (by omega), trivial⟩ ?_
  refine zMC [0] U U U (by kernel_rfl) ⟨qpp U U U U U U U, trivial⟩ ?_
  refine zH9 (j := 0) (poC p) U U U (by kernel_rfl) U U U U U (by rw [← hp]; rfl) U U ?_
  refine zK4 ?_
  refine zW (by kernel_rfl) ?_
  refine rn0 ?_
  exact zN hR U ⟨U, _, U⟩
 exact zd.cutR hc (fun v H ⟨e, x, e2⟩ => ⟨_, x, e2, fun h q => q, zEx _ _ _ _ _, e ▸ U, e, U⟩)
/-- (*plain.Game).Result, without a rule of repetition -/
theorem zNZ (r : Go.Ax.Gm.Rules) (hv : ValidR r) (hrep : r.rep = 0) (L : List Pos) (m : Nat) (M : List Mv) (hL : 0 < L.length ∧ L.length ≤ 1000) (S : Sound r (zB0 L)) :
 zd Tryz.prog 34 [.ptr 3 0 0] (gmH r L.length L m M) (fun h => h < (gmH r L.length L m M).length) (fun v H => v = .int .i64 (zb r (zB0 L)) ∧ H = gmH r L.length L m M) := by
 refine zL (P := Tryz.prog) (fn := Tryz.f34) U U (by kernel_rfl) U (fun c hR hfix => ?_)
 have cn := zMr r L m M hL
 have cr := zCX r hv (zB0 L) S
 generalize zB0 L = p at *
 generalize zb r p = x at *
 refine rn0 ?_
 refine ze (by kernel_rfl) ?_
 refine zh (fuel := 0) [0, 1, 2, 3, 4, 5, 6, 7] [(0, .ptr 3 0 0)] ⟨U, trivial⟩ (by kernel_rfl) (by decide) U U ?_
 refine zI U U (zG U) ?_
 refine zI U U (zV U) ?_
 refine zI U U (zO U U U U U U) ?_
 refine zI U U (qpp U U U U U U U) ?_
 refine zI U U (zG U) ?_
 refine px_c U U U U U cn ?_
 refine zBS U U U U U cr ?_
 refine zI U U (zM U) ?_
 refine zw ?_
 refine zW (by kernel_rfl) ?_
 refine rn0 ?_
 refine ze (by kernel_rfl) ?_
 refine zh (fuel := 0) [0, 1, 2, 3, 4, 5, 6, 7, 8, 9, 10, 11, 12, 13, 14, 15, 16, 17, 18, 19] [(0, .ptr 3 0 0), (3, .int .i64 x)] ⟨U, U, trivial⟩ (by kernel_rfl) (by decide) U U ?_
 refine zI U U (zG U) ?_
 refine zI U U (zBp U U) ?_
 by_cases hx : x = 0
 ·rw [decide_eq_true hx]
  refine zI U U (zG U) ?_
  refine zt U U U U (zG U) ?_
  refine zt U U U U (zV U) ?_
  refine zt U U U U (zO U U U U U U) ?_
  refine zt U U U U (zO U U U U U U) ?_
  refine zt U U U U (zU U U U U U) ?_
  refine zt U U U U (zBh U U) ?_
  rw [decide_eq_false (show ¬ ¬ r.rep = 0 from fun d => d hrep)]
  refine zI U U (zi U U) ?_
  refine zI U U (zG U) ?_
  refine zp U U U U U ?_
  refine zp U U U U U ?_
  refine zp U U U U U ?_
  refine zp U U U U U ?_
  refine zp U U U U U ?_
  refine zp U U U U U ?_
  refine zp U U U U U ?_
  refine zp U U U U U ?_
  refine zI U U (zi U U) ?_
  refine zw ?_
  refine zW (by kernel_rfl) ?_
  refine rn4 ?_
  exact zN hR U ⟨U, U⟩
 ·rw [decide_eq_false hx]
  refine zI U U (zG U) ?_
  refine zp U U U U U ?_
  refine zp U U U U U ?_
  refine zp U U U U U ?_
  refine zp U U U U U ?_
  refine zp U U U U U ?_
  refine zp U U U U U ?_
  refine zI U U (zi U U) ?_
  refine zI U U (zG U) ?_
  refine zp U U U U U ?_
  refine zp U U U U U ?_
  refine zp U U U U U ?_
  refine zp U U U U U ?_
  refine zp U U U U U ?_
  refine zp U U U U U ?_
  refine zp U U U U U ?_
  refine zp U U U U U ?_
  refine zI U U (zi U U) ?_
  refine zw ?_
  refine zW (by kernel_rfl) ?_
  refine rn4 ?_
  exact zN hR U ⟨U, U⟩
/-- (*plain.Game).Position -/
theorem gpos_ok (r : Go.Ax.Gm.Rules) (hv : ValidR r) (L : List Pos) (m : Nat) (M : List Mv) (hL : 0 < L.length ∧ L.length ≤ 1000) (S : Sound r (zB0 L)) :
 zd Tryz.prog 33 [.ptr 3 0 0] (gmH r L.length L m M) (fun h => h < (gmH r L.length L m M).length) (fun v H => v = poA (zB0 L) ∧ H = gmH r L.length L m M) := by
 have hc : zd Tryz.prog 33 [.ptr 3 0 0] (gmH r L.length L m M) (fun h => h < (gmH r L.length L m M).length) (fun v H => v = poA (zB0 L) ∧ ∃ x, H = gmH r L.length L m M ++ x) := by
  refine zL (P := Tryz.prog) (fn := Tryz.f33) U U (by kernel_rfl) U (fun c hR hfix => ?_)
  have cn := zd.frame [pzO] (K' := fun v H => v = poA (zB0 L) ∧ H = gmH r L.length L m M ++ [pzO]) (zMr r L m M hL) (fun h q => q) rfl (zEx _ _ _ _ _) (zEN (zu rfl)) (fun v H' ⟨e1, e2⟩ => by subst e2; exact ⟨rfl, e1, rfl⟩)
  have cc := zG2 (zB0 L) (zA5 hv S)
  generalize zB0 L = p at *
  refine rn4 ?_
  refine zBR U U U cn (fun h q => ?_) (fun h q => ?_) ?_
  ·have q : h < 6 := q
   show h < 5 ∨ (5 ≤ h ∧ h < 5 + 1)
   omega
  ·have q : h < 5 ∨ (5 ≤ h ∧ h < 5 + 1) := q
   show h < 6
   omega
  rintro v H ⟨rfl, rfl⟩
  skip
  refine zQ U U U cc ?_
  skip
  refine zZ (poC p) U U U U U U U ?_
  refine rn0 ?_
  exact zN hR U ⟨U, [poO p], U⟩
 exact zd.cutR hc (fun v H ⟨e, x, e2⟩ => ⟨_, x, e2, fun h q => q, zEx _ _ _ _ _, e ▸ U, e, U⟩)
/-- (*plain.Game).Play of a move that can be played -/
theorem play_ok (r : Go.Ax.Gm.Rules) (hv : ValidR r) (hrep : r.rep = 0) (L : List Pos) (M : List Mv) (hL : 0 < L.length ∧ L.length ≤ 300) (hM : M.length ≤ 300) (S : Sound r (zB0 L)) (h0 : zb r (zB0 L) = 0) (a : Mv) (ha : a ∈ zr r (zB0 L)) :
 zd Tryz.prog 32 [.ptr 3 0 0, mvA a] (gmH r L.length L M.length M) (fun h => h = 0 ∨ h = 1 ∨ h = 3) (fun v H => v = .int .i64 0 ∧ H = gmH r (L.length + 1) (L ++ [zf r (zB0 L) a]) (M.length + 1) (M ++ [a])) := by
 refine zL (P := Tryz.prog) (fn := Tryz.f32) U U (by kernel_rfl) U (fun c hR hfix => ?_)
 have nofix2 : ¬ c.fix 2 := by
  rw [hfix]
  intro q
  have q : 2 = 0 ∨ 2 = 1 ∨ 2 = 3 := q
  omega
 have nofix4 : ¬ c.fix 4 := by
  rw [hfix]
  intro q
  have q : 4 = 0 ∨ 4 = 1 ∨ 4 = 3 := q
  omega
 have nofix : ∀ h, c.fix h → h < 5 := fun h q => by
  rw [hfix] at q
  have q : h = 0 ∨ h = 1 ∨ h = 3 := q
  omega
 have cn := zMr r L M.length M ⟨hL.1, by omega⟩
 have cg := zNZ r hv hrep L M.length M ⟨hL.1, by omega⟩ S
 have cl := list_ok r hv (zB0 L) S
 have hml := zDX hv S
 have cc := zNu (zr r (zB0 L)) a (by omega)
 rw [any_isM, decide_eq_true ha] at cc
 have cmk := zEW r hv (zB0 L) S a (Go.Ax.Gm.list_ok hv S ha)
 rw [h0] at cg
 generalize zB0 L = p at *
 generalize zf r p a = q at *
 generalize zr r p = ms at *
 refine zY ?_
 repeat (first | refine zA (zM rfl) ?_ | refine zC ?_ | refine zB ?_ | refine zJ rfl ?_ | refine zAO rfl rfl ?_)
 refine zDL (gmH r L.length L M.length M) 3 [(0, .ptr 3 0 0)] U U ⟨U, trivial⟩ ⟨U, U, trivial⟩ (zEx _ _ _ _ _) U (fun h q => nofix h q) ?_
 refine rn1 ?_
 refine zBR U U U cg (fun h q => q) (fun h q => q) ?_
 rintro v H ⟨rfl, rfl⟩
 refine rn4 ?_
 refine ze (by kernel_rfl) ?_
 refine zh (fuel := 0) [0, 1, 2, 3, 4, 5, 6, 7, 8, 9, 10] [(3, .rp (.box (mvC a)) 0 0), (0, .ptr 3 0 0)] ⟨U, U, trivial⟩ (by kernel_rfl) (by decide) U U ?_
 refine zI U U (zG U) ?_
 refine zI U U (zV U) ?_
 refine zI U U (zO U U U U U U) ?_
 refine zI U U (qpp U U U U U U U) ?_
 refine zI U U (zG U) ?_
 refine px_c U U U U U cn ?_
 refine zBS U U U U U cl ?_
 refine zI U U (zm U U U U U U) ?_
 refine zBS U U U U U cc ?_
 refine zI U U (zDl U) ?_
 refine zI U U (zM U) ?_
 refine zw ?_
 refine zW (by kernel_rfl) ?_
 refine rn8 ?_
 refine zF U (fun q400 => ?_) (fun _ => ?_)
 ·exact absurd q400 (by omega)
 refine rn5 ?_
 refine ze (by kernel_rfl) ?_
 refine zS 0 U (by kernel_rfl) (by kernel_rfl) (by kernel_rfl) U (zG U) U ?_
 refine zS 1 U (by kernel_rfl) (by kernel_rfl) (by kernel_rfl) U (zG U) U ?_
 refine zS 2 U (by kernel_rfl) (by kernel_rfl) (by kernel_rfl) U (zV U) U ?_
 refine zS 3 U (by kernel_rfl) (by kernel_rfl) (by kernel_rfl) U (zO U U U U U U) U ?_
 refine zS 5 U (by kernel_rfl) (by kernel_rfl) (by kernel_rfl) U (zG U) U ?_
 refine zS 6 U (by kernel_rfl) (by kernel_rfl) (by kernel_rfl) U (zV U) U ?_
 refine zS 7 U (by kernel_rfl) (by kernel_rfl) (by kernel_rfl) U (zO U U U U U U) U ?_
 refine zS 9 U (by kernel_rfl) (by kernel_rfl) (by kernel_rfl) U (zG U) U ?_
 refine zh (fuel := 4) [4, 8, 10, 11, 12, 13] [(27, .ptr 3 0 0), (30, .ptr 3 0 11), (34, .ptr 3 0 0), (36, .ptr 3 0 0), (3, .rp (.box (mvC a)) 0 0), (0, .ptr 3 0 0)] ⟨U, U, U, U, U, U, trivial⟩ (by kernel_rfl) (by decide) U U ?_
 refine zI U U (zU U U U U U) ?_
 refine zI U U (qpp U U U U U U U) ?_
 refine px_c U U U U U cn ?_
 refine zI U U (zm U U U U U U) ?_
 refine zBS U U U U U cmk ?_
 refine px_b U U U U U U U U U U U U U ?_
 refine zw ?_
 refine zH (is := [14]) (by kernel_rfl) (by simp) U ⟨fun o ho => ?_, trivial⟩
 all_goals (cases ho)
 refine zBN [q] U U U U U U U U U U U U U (by show 0 + 1 ≤ 1; omega) (fun k' j' hk' hj' => ?_) (by show (L.length + 1) * 88 ≤ _ ∧ _; omega) (fun b j k _ => zCy b j k) nofix2 ?_
 ·obtain rfl : k' = 0 := Nat.lt_one_iff.1 hk'
  match j', hj' with
  | 0, _ => rfl
  | 1, _ => rfl
  | 2, _ => rfl
  | 3, _ => rfl
  | 4, _ => rfl
 refine zAT [none, pzO, psO (L ++ [q]), gmO r .any (.sl 4 0 M.length), msO M] ?_ ?_
 ·show [none, some (AObj.mk _ ((Cells.box _).forget 2)), _, some (AObj.mk _ ((Cells.box _).forget 2)), some (AObj.mk _ ((zAv M).forget 2))] = _
  rw [zBq (fun a j => zL4 a j 2)]; rfl
 refine rn1 ?_
 refine zH (is := [15]) (by kernel_rfl) (by simp) U ⟨fun o ho => ?_, trivial⟩
 all_goals (cases ho)
 refine rn7 ?_
 refine zH (is := [16]) (by kernel_rfl) (by simp) U ⟨fun o ho => ?_, trivial⟩
 all_goals (cases ho)
 refine rn5 ?_
 refine zH (is := [17]) (by kernel_rfl) (by simp) U ⟨fun o ho => ?_, trivial⟩
 all_goals (cases ho)
 refine rn9 ?_
 refine zW (by kernel_rfl) ?_
 refine rn0 ?_
 refine zAK (gmH r (L.length + 1) (L ++ [q]) M.length M) U ?_
 refine ze (by kernel_rfl) ?_
 refine zS 0 U (by kernel_rfl) (by kernel_rfl) (by kernel_rfl) U (zG U) U ?_
 refine zS 1 U (by kernel_rfl) (by kernel_rfl) (by kernel_rfl) U (zG U) U ?_
 refine zS 2 U (by kernel_rfl) (by kernel_rfl) (by kernel_rfl) U (zV U) U ?_
 refine zS 3 U (by kernel_rfl) (by kernel_rfl) (by kernel_rfl) U (zO U U U U U U) U ?_
 refine zh (fuel := 4) [4, 5, 6] [(44, .ptr 3 0 0), (47, .ptr 3 0 12), (3, .rp (.box (mvC a)) 0 0), (0, .ptr 3 0 0)] ⟨U, U, U, U, trivial⟩ (by kernel_rfl) (by decide) U U ?_
 refine zI U U (zU U U U U U) ?_
 refine zI U U (zm U U U U U U) ?_
 refine px_b U U U U U U U U U U U U U ?_
 refine zw ?_
 refine zH (is := [7]) (by kernel_rfl) (by simp) U ⟨fun o ho => ?_, trivial⟩
 all_goals (cases ho)
 refine zBN [a] U U U U U U U U U U U U U (by show 0 + 1 ≤ 1; omega) (fun k' j' hk' hj' => ?_) (by show (M.length + 1) * 24 ≤ _ ∧ _; omega) zEH nofix4 ?_
 ·obtain rfl : k' = 0 := Nat.lt_one_iff.1 hk'
  match j', hj' with
  | 0, _ => rfl
  | 1, _ => rfl
  | 2, _ => rfl
 refine zAT [none, pzO, psO (L ++ [q]), gmO r (.sl 2 0 (L.length + 1)) .any, msO (M ++ [a])] ?_ ?_
 ·show [none, some (AObj.mk _ ((Cells.box _).forget 4)), some (AObj.mk _ ((zCg (L ++ [q])).forget 4)), some (AObj.mk _ ((Cells.box _).forget 4)), _] = _
  rw [zBq (fun a j => zCy a j 4)]; rfl
 refine rn1 ?_
 refine zH (is := [8]) (by kernel_rfl) (by simp) U ⟨fun o ho => ?_, trivial⟩
 all_goals (cases ho)
 refine rn7 ?_
 refine zH (is := [9]) (by kernel_rfl) (by simp) U ⟨fun o ho => ?_, trivial⟩
 all_goals (cases ho)
 refine rn5 ?_
 refine zH (is := [10]) (by kernel_rfl) (by simp) U ⟨fun o ho => ?_, trivial⟩
 all_goals (cases ho)
 refine rn9 ?_
 refine zW (by kernel_rfl) ?_
 refine rn0 ?_
 exact zN hR U ⟨U, U⟩
theorem zJ9 (r : Go.Ax.Gm.Rules) (m : Mv) : ∀ (l : List Mv) (p : Pos), zEu r (l ++ [m]) p = zf r (zEu r l p) m
 | [], p => rfl
 | x :: l, p => zJ9 r m l (zf r p x)
theorem zNd {r : Go.Ax.Gm.Rules} (hv : ValidR r) : ∀ (l : List Mv) (p : Pos), Sound r p → zMB r l p → ∀ j, (j ≤ l.length → Sound r (zEu r (l.take j) p)) ∧ (j < l.length → zb r (zEu r (l.take j) p) = 0 ∧ l.getD j mv0 ∈ zr r (zEu r (l.take j) p))
 | [], p, S, h, j => ⟨fun _ => by cases j <;> exact S, fun c => absurd c (Nat.not_lt_zero _)⟩
 | x :: l, p, S, h, 0 => ⟨fun _ => S, fun _ => ⟨h.1, h.2.1⟩⟩
 | x :: l, p, S, h, j + 1 => by
  obtain ⟨h1, h2⟩ := zNd hv l (zf r p x) (zCw hv S h.2.1) h.2.2 j
  exact ⟨fun c => h1 (Nat.le_of_succ_le_succ c), fun c => h2 (Nat.lt_of_succ_lt_succ c)⟩
theorem zMx (p : Pos) : CEq (zFW 1 5 (poC p)) (zCg [p]) := ⟨rfl, rfl, fun i j hi hj => by
 have hi : i < 1 := hi
 obtain rfl : i = 0 := by omega
 have hj : j < 5 := hj
 match j, hj with
 | 0, _ => rfl
 | 1, _ => rfl
 | 2, _ => rfl
 | 3, _ => rfl
 | 4, _ => rfl⟩
theorem zK5 (p : Pos) : CEq ((zCg [p]).shift 2) (zCg [p]) := ⟨rfl, rfl, fun i j hi hj => by
 have hi : i < 1 := hi
 obtain rfl : i = 0 := by omega
 have hj : j < 5 := hj
 match j, hj with
 | 0, _ => rfl
 | 1, _ => rfl
 | 2, _ => rfl
 | 3, _ => rfl
 | 4, _ => rfl⟩
/-- plain.New -/
theorem gnew_ok (r : Go.Ax.Gm.Rules) (hr : Lens r) (hz : zAl r = 0) : MCall Tryz.prog 31 [ruA r] (.tup [.ptr 1 0 0, .int .i64 0]) [psO [z7 r], gmO r (.sl 0 0 1) .nil] := by
 refine zd.many (zL (P := Tryz.prog) (fn := Tryz.f31) U U (by kernel_rfl) U (fun c hR hfix => ?_)) (fix := fun _ => False) (fun _ h => h) U
 have cb := zIb r hr hz
 have cc := zIn r (zHQ (zAm hz))
 generalize z7 r = p at *
 refine zY ?_
 repeat (first | refine zA (zM rfl) ?_ | refine zC ?_ | refine zB ?_ | refine zJ rfl ?_ | refine zAO rfl rfl ?_)
 refine zBi 1 [] U ⟨U, trivial⟩ trivial U hfix ?_
 refine rn6 ?_
 refine zQ U U U cb ?_
 refine rn4 ?_
 refine zZ (poC p) U U U U U U U ?_
 refine rn4 ?_
 refine zBi 4 [(1, .rp (.box (ruC r)) 0 0)] U ⟨U, U, trivial⟩ ⟨U, trivial⟩ U hfix ?_
 refine ze (by kernel_rfl) ?_
 refine zFd (fuel := 0) [0, 1, 2, 3, 4, 5, 6, 7] [3, 5] (fun j => [[], [some ⟨33, zFW 1 5 (poC p)⟩], [some ⟨33, zFW 1 5 (poC p)⟩, gmO r (.sl 0 0 1) .nil]].getD j []) [(4, .rp (.box (poC p)) 0 0), (1, .rp (.box (ruC r)) 0 0)] ⟨U, U, trivial⟩ (by kernel_rfl) (by kernel_rfl) U (by decide) U U ?_
 refine zEl U U U (fun _ => zm U U U U U U) ?_
 refine pm_v U U U U U U cc ?_
 refine zEl U U U (fun _ => zm U U U U U U) ?_
 refine pm_bs (j := 0) U U U (by kernel_rfl) U U U U U U U U U U U U ?_
 refine zEl U U U (fun _ => zDE U U U U U U) ?_
 refine pm_box (j := 1) U U U (by kernel_rfl) U U U U ?_
 refine zEl U U U (fun _ => zM U) ?_
 refine zEl U U U (fun _ => zM U) ?_
 refine zK4 ?_
 refine zW (by kernel_rfl) ?_
 repeat (refine zB ?_)
 refine zKc [psO [p], gmO r (.sl 0 0 1) .nil] (zAs.eqv (zMx p) (zAs.same zAs.nil)) ?_
 repeat (refine z6 ?_)
 exact zN hR U ⟨U, U⟩
/-- plain.Run of moves that can be played -/
theorem grun_ok (r : Go.Ax.Gm.Rules) (hr : Lens r) (hz : zAl r = 0) (hrep : r.rep = 0) (l : List Mv) (hl : l.length ≤ 200) (hp : zMB r l (z7 r)) :
 zl Tryz.prog 15 [ruA r, zBP l] (.tup [poA (zEu r l (z7 r)), .int .i64 (zb r (zEu r l (z7 r))), .int .i64 0]) := by
 refine zd.value0 (zL (P := Tryz.prog) (fn := Tryz.f15) U U (by kernel_rfl) U (fun c hR hfix => ?_)) (fix := fun _ => False) (fun _ h => h) U U
 have hv : ValidR r := zAm hz
 have hpa := zNd hv l (z7 r) (zER hv) hp
 have nofix : ∀ h, ¬ c.fix h := fun h => by rw [hfix]; exact fun q => q
 have cn := gnew_ok r hr hz
 generalize z7 r = p at *
 refine rn6 ?_
 refine zIZ (.tup [.ptr 3 0 0, .int .i64 0]) _ U U U cn U U ?_
 refine rn4 ?_
 refine zAK [ruO r, pzO, some ⟨33, (zCg [p]).shift 2⟩, gmO r (.sl 2 0 1) .nil] U ?_
 refine zKc [none, pzO, psO [p], gmO r (.sl 2 0 1) .nil] (zAs.drop (zAs.same (zAs.eqv (zK5 p) (zAs.same zAs.nil)))) ?_
 refine zDM 3 ⟨85, zAv []⟩ (.box (gmC r (.sl 2 0 1) (.sl 4 0 0))) U U U U (fun i j hi hj => by
  obtain rfl : i = 0 := Nat.lt_one_iff.1 hi
  have hj : j < 13 := hj
  match j, hj with
  | 0, _ => exact .inl rfl
  | 1, _ => exact .inl rfl
  | 2, _ => exact .inl rfl
  | 3, _ => exact .inl rfl
  | 4, _ => exact .inl rfl
  | 5, _ => exact .inl rfl
  | 6, _ => exact .inl rfl
  | 7, _ => exact .inl rfl
  | 8, _ => exact .inl rfl
  | 9, _ => exact .inl rfl
  | 10, _ => exact .inl rfl
  | 11, _ => exact .inl rfl
  | 12, _ => exact .inr ⟨rfl, rfl⟩) ?_
 refine zAK (gmH r 1 [p] 0 []) U ?_
 refine zAA (ι := Nat × List Pos × List Mv) (fun x => [(4, .ptr 1 0 0), (7, .ptr 3 0 0), (21, zBP l), (22, iN l.length), (23, iN x.1)]) (fun x => gmH r x.2.1.length x.2.1 x.2.2.length x.2.2) (fun x => x.1 ≤ l.length ∧ x.2.1.length = x.1 + 1 ∧ x.2.2.length = x.1 ∧ zB0 x.2.1 = zEu r (l.take x.1) p) (fun x => l.length - x.1) (0, [p], []) ⟨⟨U, U, U, U, U, trivial⟩, U, Nat.zero_le _, U, U, U⟩ ?_
 rintro ⟨j, L, M⟩ ⟨hj, hL, hM, hE⟩
 have hj : j ≤ l.length := hj
 have hL : L.length = j + 1 := hL
 have hM : M.length = j := hM
 have hE : zB0 L = zEu r (l.take j) p := hE
 change Ax _ _ _ _ [(4, .ptr 1 0 0), (7, .ptr 3 0 0), (21, zBP l), (22, iN l.length), (23, iN j)] (gmH r L.length L M.length M)
 obtain ⟨g1, g2⟩ := hpa j
 have S := g1 hj
 rw [← hE] at S
 refine rn4 ?_
 refine zF U (fun g => ?_) (fun g => ?_)
 ·have hj' : j < l.length := by omega
  obtain ⟨g3, g4⟩ := g2 hj'
  rw [← hE] at g3 g4
  obtain ⟨a, ha⟩ : ∃ a, l.getD j mv0 = a := ⟨_, rfl⟩
  rw [ha] at g4
  have cpl := play_ok r hv hrep L M (by omega) (by omega) S g3 a g4
  have hE2 : zf r (zB0 L) a = zEu r (l.take (j + 1)) p := by
   rw [zAE l mv0 j hj', ha, zJ9, ← hE]
  rw [hE2] at cpl
  refine zGo ?_
  repeat (refine zAI rfl rfl rfl ?_)
  refine zZ (mvC a) U U U U U (by rw [← ha]; rfl) U ?_
  refine zBG ?_
  refine zDL (gmH r L.length L M.length M) 10 [(4, .ptr 1 0 0), (7, .ptr 3 0 0), (21, zBP l), (22, iN l.length), (23, iN j)] U U ⟨U, U, U, U, U, trivial⟩ ⟨U, U, U, U, U, U, trivial⟩ (zEx _ _ _ _ _) U (fun h q => absurd q (nofix h)) ?_
  refine rn6 ?_
  refine zNp 2 4 U U U cpl (fun h q1 q2 q3 => ?_) (fun h q => ?_) (nofix 2) (nofix 4) ?_
  ·have q1 : h < 5 := q1
   show h = 0 ∨ h = 1 ∨ h = 3
   omega
  ·have q : h = 0 ∨ h = 1 ∨ h = 3 := q
   show h < 5
   omega
  rintro v H ⟨rfl, rfl⟩
  refine ⟨Nat.le_refl _, ?_⟩
  refine rn5 ?_
  refine zR ⟨(j + 1, L ++ [zEu r (l.take (j + 1)) p], M ++ [a]), ⟨by show j + 1 ≤ l.length; omega, by show (L ++ [_]).length = j + 1 + 1; rw [List.length_append, hL]; rfl, by show (M ++ [_]).length = j + 1; rw [List.length_append, hM]; rfl, ?_⟩, by show l.length - (j + 1) < l.length - j; omega, ⟨U, U, U, U, U, trivial⟩, ?_⟩
  ·show zB0 (L ++ [zEu r (l.take (j + 1)) p]) = zEu r (l.take (j + 1)) p
   unfold zB0
   rw [List.length_append]
   simp [List.getD]
  ·show _ = gmH r (L ++ [_]).length _ (M ++ [_]).length _
   rw [List.length_append, List.length_append]; rfl
 ·have hj' : j = l.length := by omega
  rw [hj', List.take_length] at hE
  have cpo := gpos_ok r hv L M.length M ⟨by omega, by omega⟩ S
  have cre := zNZ r hv hrep L M.length M ⟨by omega, by omega⟩ S
  rw [hE] at cpo cre
  generalize zEu r l p = e at *
  refine rn5 ?_
  refine zBR U U U cpo (fun h q => q) (fun h q => q) ?_
  rintro v H ⟨rfl, rfl⟩
  repeat (refine zA (zG rfl) ?_)
  refine zBR U U U cre (fun h q => q) (fun h q => q) ?_
  rintro v H ⟨rfl, rfl⟩
  skip
  refine zZ (poC e) U U U U U U U ?_
  refine rn0 ?_
  exact zN hR U U
abbrev readC (r : Go.Ax.Gm.Rules) (T : Tab) : List AV := [.str r.name, .int .i64 r.w, .int .i64 r.h, .ro (zAj r.pcs) 0 r.pcs.length, z8 r.start, .bool r.falls, .bool r.keeps, .ro (zEv r.ends) 0 r.ends.length, .int .i64 r.blocked, .int .i64 r.quiet, .int .i64 r.rep, zDx T, .int .i64 0]
abbrev zFz (T : Tab) : AV := .rp (.box (readC T.r T)) 0 0
/-- probe.New, where there is a table -/
theorem pnew_ok (r : Go.Ax.Gm.Rules) (hr : Lens r) (x : List Pos × List (List Nat)) (h3 : zDv r = 0) (h4 : zE4 r = some x) : zl Tryz.prog 13 [ruA r] (.tup [zFz (zDd r x), .int .i64 0]) := by
 refine zd.value0 (zL (P := Tryz.prog) (fn := Tryz.f13) U U (by kernel_rfl) U (fun c hR hfix => ?_)) (fix := fun _ => False) (fun _ h => h) U U
 have cn := zMp r hr
 rw [zI8 h3 h4, h3] at cn
 have cc := zIn r (zHQ (zAm (zHn h3).1))
 have hT : (zDd r x).r = r := rfl
 rw [show zFz (zDd r x) = .rp (.box (readC r (zDd r x))) 0 0 from rfl] at hR
 generalize zDd r x = T at *
 refine zY ?_
 repeat (first | refine zA (zM rfl) ?_ | refine zC ?_ | refine zB ?_ | refine zJ rfl ?_ | refine zAO rfl rfl ?_)
 refine zBi 1 [] U ⟨U, trivial⟩ trivial U hfix ?_
 refine rn6 ?_
 refine zQ U U U cn ?_
 refine rn6 ?_
 refine zQ U U U cc ?_
 refine rn15 ?_
 refine zAK [some ⟨80, .box (readC r T)⟩] U ?_
 refine zBi 2 [(3, .int .i64 0)] U ⟨U, U, trivial⟩ ⟨U, trivial⟩ U hfix ?_
 repeat (refine z6 ?_)
 exact zN hR U U
/-- (*probe.Reader).Line of a position of the table -/
theorem pline_ok (T : Tab) (h : TabOK T) (hr : Lens T.r) (p : Pos) (S : Sound T.r p) (I : inT T p) (n : Nat) (hn : n ≤ 256) : zl Tryz.prog 14 [zFz T, poA p, iN n] (.tup [zBP (zBo T n p), .int .i64 0]) := by
 refine zd.value0 (zL (P := Tryz.prog) (fn := Tryz.f14) U U (by kernel_rfl) U (fun c hR hfix => ?_)) (fix := fun _ => False) (fun _ h => h) U U
 have hv := h.v
 have nofix : ∀ h, ¬ c.fix h := fun h => by rw [hfix]; exact fun q => q
 have cof := of_ok T h hr p (zA5 hv S).len
 rw [h.find_in S I] at cof
 generalize ofT T p = E at cof
 refine rn6 ?_
 refine ze (by kernel_rfl) ?_
 refine zFd (fuel := 0) [0, 1, 2, 3, 4, 5, 6, 7, 8, 9, 10, 11] [9, 10] (fun j => [[poO p], [poO p, some ⟨35, .box [.int .i64 0, .int .i64 0]⟩], [poO p, some ⟨35, .box (zB6 E)⟩]].getD j []) [(0, zFz T), (2, iN n), (4, .ptr 0 0 0)] ⟨U, U, U, trivial⟩ (by kernel_rfl) (by kernel_rfl) U (by decide) U U ?_
 refine zEl U U U (fun _ => zG U) ?_
 refine zEl U U U (fun _ => zAH U) ?_
 refine zEl U U U (fun _ => zK U U U U U U) ?_
 refine zEl U U U (fun _ => zD U U U U) ?_
 refine zMC [0, 1] U U U (by kernel_rfl) ⟨qpp U U U U U U U, qpp U U U U U U U, trivial⟩ ?_
 refine pm_v U U U U U U cof ?_
 refine zEl U U U (fun _ => zG U) ?_
 refine zEl U U U (fun _ => zAC U U) ?_
 refine zEl U U U (fun _ => zAC U U) ?_
 refine pm_alloc (j := 0) U U U (by kernel_rfl) U U U U U ?_
 refine zH9 (j := 1) (zB6 E) U U U (by kernel_rfl) U U U U U U U U ?_
 refine zEl U U U (fun _ => zM U) ?_
 refine zK4 ?_
 refine zW (by kernel_rfl) ?_
 refine rn6 ?_
 refine zF U (fun q => absurd q (by omega)) (fun _ => ?_)
 refine rn1 ?_
 refine zKc [poO p, none] (zAs.same (zAs.drop zAs.nil)) ?_
 refine zCF 10 ⟨85, zAv []⟩ U U ?_
 refine zAA (ι := Nat × Pos × List Mv) (fun x => [(0, zFz T), (4, .ptr 0 0 0), (10, .sl 2 0 x.2.2.length), (31, iN n), (32, iN x.1)]) (fun x => [poO x.2.1, none, msO x.2.2]) (fun x => x.1 ≤ n ∧ zBo T n p = x.2.2 ++ zBo T (n - x.1) x.2.1 ∧ Sound T.r x.2.1 ∧ inT T x.2.1 ∧ x.2.2.length = x.1) (fun x => n - x.1) (0, p, []) ⟨⟨U, U, U, U, U, trivial⟩, U, Nat.zero_le _, U, S, I, U⟩ ?_
 clear S I cof
 rintro ⟨j, q, O⟩ ⟨hj, hline, S, I, hO⟩
 have hj : j ≤ n := hj
 have hline : zBo T n p = O ++ zBo T (n - j) q := hline
 have S : Sound T.r q := S
 have I : inT T q := I
 have hO : O.length = j := hO
 change Ax _ _ _ _ [(0, zFz T), (4, .ptr 0 0 0), (10, .sl 2 0 O.length), (31, iN n), (32, iN j)] [poO q, none, msO O]
 refine rn4 ?_
 refine zF U (fun g => ?_) (fun g => ?_)
 ·have cb := best_ok T h hr q (zA5 hv S).len
  have hnj : ∃ d, n - j = d + 1 := ⟨n - j - 1, by omega⟩
  obtain ⟨d, hd⟩ := hnj
  rw [hd, zBo] at hline
  refine rn1 ?_
  refine ze (by kernel_rfl) ?_
  refine zh (fuel := 0) [0, 1, 2, 3, 4, 5, 6, 7, 8, 9, 10] [(0, zFz T), (4, .ptr 0 0 0), (10, .sl 2 0 O.length), (31, iN n), (32, iN j)] ⟨U, U, U, U, U, trivial⟩ (by kernel_rfl) (by decide) U U ?_
  refine zI U U (zG U) ?_
  refine zI U U (zAH U) ?_
  refine zI U U (zK U U U U U U) ?_
  refine zI U U (zD U U U U) ?_
  refine zI U U (qpp U U U U U U U) ?_
  refine zBS U U U U U cb ?_
  refine zI U U (zG U) ?_
  refine zI U U (zAC U U) ?_
  refine zI U U (zAC U U) ?_
  refine zI U U (zM U) ?_
  refine zI U U (zM U) ?_
  refine zw ?_
  refine zW (by kernel_rfl) ?_
  refine rn3 ?_
  refine zF U (fun w => ?_) (fun w => ?_)
  ·rw [if_pos w, List.append_nil] at hline
   rw [hline] at hR
   repeat (first | refine zB ?_ | refine zY ?_ | refine zCU ?_ | refine zAr ?_ | refine zAq ?_ | refine zAw ?_ | refine zFC rfl ?_)
   refine zDq 2 10 O.length [] U (zAc zCW) U (Nat.le_refl _) trivial ?_
   refine rn0 ?_
   exact zN hR U U
  have w := Classical.not_not.1 w
  rw [if_neg (fun c => c w)] at hline
  have hres : zb T.r q = 0 := Classical.byContradiction (fun c => by
   rw [h.best_over S I c] at w
   exact absurd w (by decide))
  obtain ⟨b1, _, b3⟩ := h.best_some S I hres
  have hb0 : 0 < (zCZ T q).length := List.length_pos_iff.2 b3
  obtain ⟨m, hm⟩ : ∃ m, (zCZ T q).getD 0 mv0 = m := ⟨_, rfl⟩
  rw [hm] at b1 hline
  have cmk := zEW T.r hv q S m (Go.Ax.Gm.list_ok hv S b1)
  have S2 := zCw hv S b1
  have I2 := h.in_next I hres b1
  generalize zf T.r q m = q2 at *
  generalize zCZ T q = B at *
  refine rn6 ?_
  refine zBN [m] U U U U U U U U U U U U U (by show 0 + 1 ≤ 1; omega) (fun k' j' hk' hj' => ?_) (by show (O.length + 1) * 24 ≤ _ ∧ _; omega) zEH (nofix 2) ?_
  ·obtain rfl : k' = 0 := Nat.lt_one_iff.1 hk'
   match j', hj' with
   | 0, _ => rw [← hm]; rfl
   | 1, _ => rw [← hm]; rfl
   | 2, _ => rw [← hm]; rfl
  refine zAT [poO q, none, msO (O ++ [m])] U ?_
  refine rn0 ?_
  refine ze (by kernel_rfl) ?_
  refine zh (fuel := 1) [0, 1, 2, 3, 4, 5, 6, 7, 8] [(0, zFz T), (4, .ptr 0 0 0), (10, .sl 2 0 (O.length + 1)), (11, zBP B), (31, iN n), (32, iN j)] ⟨U, U, U, U, U, U, trivial⟩ (by kernel_rfl) (by decide) U U ?_
  refine zI U U (zG U) ?_
  refine zI U U (zAH U) ?_
  refine zI U U (zK U U U U U U) ?_
  refine zI U U (zEm U U U U U U) ?_
  refine zI U U (qpp U U U U U U U) ?_
  refine zI U U (zG U) ?_
  refine zI U U (zn U U U U (by first | (simp only [Nat.zero_add, Int.toNat_natCast, Int.toNat_zero]; exact U) | exact U) (by omega)) ?_
  refine zI (v := mvA m) U U (by
   rw [← hm]
   exact zm U U U U U U) ?_
  refine zBS U U U U U cmk ?_
  refine zw ?_
  refine zH (is := [9]) (by kernel_rfl) (by simp) U ⟨fun o ho => ?_, trivial⟩
  all_goals (cases ho)
  refine zZ (poC q2) U U U U U U U ?_
  refine rn1 ?_
  refine zW (by kernel_rfl) ?_
  refine rn5 ?_
  refine zR ⟨(j + 1, q2, O ++ [m]), ⟨by show j + 1 ≤ n; omega, ?_, S2, I2, by show (O ++ [m]).length = j + 1; rw [List.length_append, hO]; rfl⟩, by show n - (j + 1) < n - j; omega, ⟨U, U, ?_, U, U, trivial⟩, U⟩
  ·show zBo T n p = (O ++ [m]) ++ zBo T (n - (j + 1)) q2
   rw [hline, show n - (j + 1) = d by omega, List.append_assoc]; rfl
  ·show some (AV.sl 2 0 (O.length + 1)) = some (AV.sl 2 0 (O ++ [m]).length)
   rw [List.length_append]; rfl
 ·have hj' : j = n := by omega
  rw [hj', Nat.sub_self] at hline
  have hline : zBo T n p = O ++ [] := hline
  rw [List.append_nil] at hline
  rw [hline] at hR
  refine zBG ?_
  refine zDq 2 10 O.length [] U (zAc zCW) U (Nat.le_refl _) trivial ?_
  refine rn0 ?_
  exact zN hR U U
/-- shownTable: no table, or one -/
structure ShT (r : Go.Ax.Gm.Rules) (x : List Pos × List (List Nat)) : Prop where
 e : zDv r = 0
 g : zE4 r = some x
 len : x.1.length ≤ 500
theorem ShT.tab {r : Go.Ax.Gm.Rules} {x : List Pos × List (List Nat)} (h : ShT r x) : TabOK (zDd r x) := by
 obtain ⟨h1, h2, _⟩ := zHn h.e
 exact zKz h1 h2 h.g
theorem shown_ok (r : Go.Ax.Gm.Rules) (hr : Lens r) : zl Tryz.prog 6 [ruA r] (.tup [.nilp, .bool false]) ∨ ∃ x, ShT r x ∧ zl Tryz.prog 6 [ruA r] (.tup [zDx (zDd r x), .bool true]) := by
 have hpl := hr.pcs
 have cn := zMp r hr
 by_cases h : whW r > 9
 ·left
  refine zd.value0 (zL (P := Tryz.prog) (fn := Tryz.f6) U U (by kernel_rfl) U (fun c hR hfix => ?_)) (fix := fun _ => False) (fun _ h => h) U U
  refine rn6 ?_
  refine zA (zHI U U U) ?_
  refine rn6 ?_
  refine zj U U (fun q => ?_) (fun q => absurd h q)
  refine rn6 ?_
  exact zN hR U U
 by_cases h2 : (r.pcs.length : Int) > 3
 ·left
  refine zd.value0 (zL (P := Tryz.prog) (fn := Tryz.f6) U U (by kernel_rfl) U (fun c hR hfix => ?_)) (fix := fun _ => False) (fun _ h => h) U U
  refine rn6 ?_
  refine zA (zHI U U U) ?_
  refine rn6 ?_
  refine zj U U (fun q => absurd q h) (fun q => ?_)
  refine rn6 ?_
  refine zF U (fun q => ?_) (fun q => absurd h2 q)
  refine rn2 ?_
  exact zN hR U U
 by_cases h3 : zDv r = 0
 rotate_left
 ·left
  refine zd.value0 (zL (P := Tryz.prog) (fn := Tryz.f6) U U (by kernel_rfl) U (fun c hR hfix => ?_)) (fix := fun _ => False) (fun _ h => h) U U
  rw [newA_no h3] at cn
  refine rn6 ?_
  refine zA (zHI U U U) ?_
  refine rn6 ?_
  refine zj U U (fun q => absurd q h) (fun q => ?_)
  refine rn6 ?_
  refine zF U (fun q => absurd q h2) (fun q => ?_)
  refine rn6 ?_
  refine zQ U U U cn ?_
  refine rn3 ?_
  refine zj U U (fun q => ?_) (fun q => absurd h3 q)
  refine rn6 ?_
  exact zN hR U U
 obtain ⟨z1, z2, x, h4⟩ := zHn h3
 have hT := zKz z1 z2 h4
 have h0 : 0 < (zDd r x).l.length := hT.G.fst.2
 rw [zI8 h3 h4, h3] at cn
 by_cases h5 : (((zDd r x).l.length : Nat) : Int) > 500
 ·left
  refine zd.value0 (zL (P := Tryz.prog) (fn := Tryz.f6) U U (by kernel_rfl) U (fun c hR hfix => ?_)) (fix := fun _ => False) (fun _ h => h) U U
  refine rn6 ?_
  refine zA (zHI U U U) ?_
  refine rn6 ?_
  refine zj U U (fun q => absurd q h) (fun q => ?_)
  refine rn6 ?_
  refine zF U (fun q => absurd q h2) (fun q => ?_)
  refine rn6 ?_
  refine zQ U U U cn ?_
  repeat (first | refine zA (zG rfl) ?_ | refine zA (zM rfl) ?_ | refine zC ?_ | refine zB ?_ | refine zY ?_ | refine zJ rfl ?_ | refine zx rfl rfl ?_ | refine zA (zBh rfl rfl) ?_ | refine zA (zi rfl rfl) ?_ | refine zA (zAC rfl rfl) ?_ | refine zA (zK7 rfl rfl rfl rfl) ?_)
  refine zQ U U U (zHP (zDd r x)) ?_
  refine rn4 ?_
  refine zj U U (fun q => absurd q (by omega)) (fun q => ?_)
  refine rn2 ?_
  refine zQ U U U (zHP (zDd r x)) ?_
  refine rn6 ?_
  refine zF U (fun q => ?_) (fun q => absurd h5 q)
  refine rn2 ?_
  exact zN hR U U
 ·right
  refine ⟨x, ⟨h3, h4, by have h5 : ¬ ((x.1.length : Nat) : Int) > 500 := h5; omega⟩, ?_⟩
  refine zd.value0 (zL (P := Tryz.prog) (fn := Tryz.f6) U U (by kernel_rfl) U (fun c hR hfix => ?_)) (fix := fun _ => False) (fun _ h => h) U U
  refine rn6 ?_
  refine zA (zHI U U U) ?_
  refine rn6 ?_
  refine zj U U (fun q => absurd q h) (fun q => ?_)
  refine rn6 ?_
  refine zF U (fun q => absurd q h2) (fun q => ?_)
  refine rn6 ?_
  refine zQ U U U cn ?_
  repeat (first | refine zA (zG rfl) ?_ | refine zA (zM rfl) ?_ | refine zC ?_ | refine zB ?_ | refine zY ?_ | refine zJ rfl ?_ | refine zx rfl rfl ?_ | refine zA (zBh rfl rfl) ?_ | refine zA (zi rfl rfl) ?_ | refine zA (zAC rfl rfl) ?_ | refine zA (zK7 rfl rfl rfl rfl) ?_)
  refine zQ U U U (zHP (zDd r x)) ?_
  refine rn4 ?_
  refine zj U U (fun q => absurd q (by omega)) (fun q => ?_)
  refine rn2 ?_
  refine zQ U U U (zHP (zDd r x)) ?_
  refine rn6 ?_
  refine zF U (fun q => absurd q h5) (fun q => ?_)
  refine rn1 ?_
  exact zN hR U U
theorem zEO : zl Tryz.prog 16 [] (ruA two) := by
 refine zd.value0 (zL (P := Tryz.prog) (fn := Tryz.f16) U U (by kernel_rfl) U (fun c hR hfix => ?_)) (fix := fun _ => False) (fun _ h => h) U U
 refine rn8 ?_
 refine zBI 6 (ruA two) U (AEq_agg ⟨AEq.rfl', AEq.rfl', AEq.rfl', AEq.ro_in U (fun d j hd hj => by
  have hd : d < 1 := hd
  obtain rfl : d = 0 := by omega
  have hj : j < 4 := hj
  match j, hj with
  | 0, _ => exact AEq.rfl'
  | 1, _ => exact AEq.rfl'
  | 2, _ => exact AEq.rfl'
  | 3, _ => exact AEq.nil
  ), AEq.ro rfl (fun d j hd hj => by
  have hj : j < 1 := hj
  obtain rfl : j = 0 := by omega
  match d, hd with
  | 0, _ => rfl
  | 1, _ => rfl
  ), AEq.rfl', AEq.rfl', AEq.ro_in rfl (fun d j hd hj => by
  have hd : d < 1 := hd
  obtain rfl : d = 0 := by omega
  have hj : j < 4 := hj
  match j, hj with
  | 0, _ => exact AEq.rfl'
  | 1, _ => exact AEq.rfl'
  | 2, _ => exact AEq.rfl'
  | 3, _ => exact AEq.rfl'
  ), AEq.rfl', AEq.rfl', AEq.rfl', trivial⟩) ?_
 refine zZ (ruC two) U U U U U U U ?_
 refine rn0 ?_
 exact zN hR U U
def zEf (a n : Int) : Int := IntKind.u64.wrap a % n
theorem zKV (a n : Int) (hn : 0 < n) : 0 ≤ zEf a n ∧ zEf a n < n := ⟨Int.emod_nonneg _ (by omega), Int.emod_lt_of_pos _ hn⟩
theorem shPick (a n : Int) (hn : 0 < n ∧ n ≤ 1000000) : zl Tryz.prog 8 [.int .i64 a, .int .i64 n] (.int .i64 (zEf a n)) := by
 refine zd.value0 (zL (P := Tryz.prog) (fn := Tryz.f8) U U (by kernel_rfl) U (fun c hR hfix => ?_)) (fix := fun _ => False) (fun _ h => h) U U
 have hw : 0 ≤ IntKind.u64.wrap a := by rw [IntKind.wrap_u64]; omega
 have hwn : IntKind.u64.wrap n = n := by rw [IntKind.wrap_u64]; omega
 have hb := zKV a n hn.1
 refine rn0 ?_
 refine zA (zJD (k' := .u64) U U U) ?_
 repeat (refine zA (zG rfl) ?_)
 refine zA (zJD (k' := .u64) U U U) ?_
 rw [hwn]
 generalize hz : IntKind.u64.wrap a = z at *
 have hpf : zEf a n = z % n := by unfold zEf; rw [hz]
 refine zA (zJF U U (by omega)) ?_
 rw [← hpf]
 refine zA (zMG U U U (by omega)) ?_
 refine rn0 ?_
 exact zN hR U U
theorem shPickN (a : Int) (n : Nat) (h : 0 < n ∧ n ≤ 1000000) : ∃ x : Nat, x < n ∧ zl Tryz.prog 8 [.int .i64 a, .int .i64 (n : Nat)] (.int .i64 (x : Nat)) := by
 have hb := zKV a n (by omega)
 refine ⟨(zEf a n).toNat, by omega, ?_⟩
 have := shPick a n (by omega)
 rwa [show ((zEf a n).toNat : Int) = zEf a n by omega]
theorem shIdxE (l : List Int) (g : FuncId) (caps : List AV) (p : Int → Bool) (hc : noRef.noRefs caps = true) (hlen : l.length ≤ 9223372036854775807) (hp : ∀ x ∈ l, zl Tryz.prog g ([.int .i64 x] ++ caps) (.bool (p x))) :
 zl Tryz.prog 55 [.ro (.ints .i64 l) 0 l.length, .fn g caps] (.int .i64 (zDP p l)) := by
 refine zd.value0 (zL (P := Tryz.prog) (fn := Tryz.f55) U U (by kernel_rfl) U (fun c hR hfix => ?_)) (fix := fun _ => False) (fun _ h => h) (by simp [noRef.noRefs, noRef, hc]) U
 refine rn3 ?_
 refine zAA (ι := Nat) (fun k => [(0, .ro (.ints .i64 l) 0 l.length), (1, .fn g caps), (7, .int .i64 (l.length : Nat)), (8, .int .i64 (k : Nat))]) (fun _ => [])
  (fun k => k ≤ l.length ∧ (l.take k).any p = false) (fun k => l.length - k) 0 ⟨⟨rfl, rfl, rfl, rfl, trivial⟩, rfl, Nat.zero_le _, rfl⟩ ?_
 intro k ⟨hk, hany⟩
 refine rn4 ?_
 refine zF U (fun h => ?_) (fun h => ?_)
 ·have hk' : k < l.length := by omega
  have hanys := zBr p l 0 k hk'
  refine rn6 ?_
  refine zQ U U U (hp _ (zAR 0 hk')) ?_
  refine rn0 ?_
  refine zAQ U (fun h2 => ?_) (fun h2 => ?_)
  ·refine rn6 ?_
   refine zN hR U ?_
   have := zBl p l k hany hk
   rw [zDz l 0 k hk'] at this
   simp only [zDP, h2, if_true] at this
   rw [this]; simp [zDo]
  ·refine rn5 ?_
   refine zR ⟨k + 1, ⟨by omega, by rw [hanys, hany, h2]; rfl⟩, by omega, ⟨U, U, U, U, trivial⟩, U⟩
 ·have hk' : k = l.length := by omega
  subst hk'
  refine rn5 ?_
  refine zN hR U ?_
  have := zBl p l l.length hany hk
  rw [List.drop_length] at this
  rw [this]; rfl
theorem shConE (l : List Int) (g : FuncId) (caps : List AV) (p : Int → Bool) (hc : noRef.noRefs caps = true) (hlen : l.length ≤ 9223372036854775807) (hp : ∀ x ∈ l, zl Tryz.prog g ([.int .i64 x] ++ caps) (.bool (p x))) :
 zl Tryz.prog 25 [.ro (.ints .i64 l) 0 l.length, .fn g caps] (.bool (l.any p)) := by
 refine zd.value0 (zL (P := Tryz.prog) (fn := Tryz.f25) U U (by kernel_rfl) U (fun c hR hfix => ?_)) (fix := fun _ => False) (fun _ h => h) (by simp [noRef.noRefs, noRef, hc]) U
 refine rn0 ?_
 refine zQ U U U (shIdxE l g caps p hc hlen hp) ?_
 refine rn8 ?_
 refine zN hR U ?_
 simp only [zDo, zHB]
def shBad (e : Int) : Bool := decide (e ≠ 0)
theorem shFine1 (n : Int) : zl Tryz.prog 26 [.int .i64 n] (.bool (shBad n)) := by
 refine zd.value0 (zL (P := Tryz.prog) (fn := Tryz.f26) U U (by kernel_rfl) U (fun c hR hfix => ?_)) (fix := fun _ => False) (fun _ h => h) U U
 refine rn3 ?_
 refine zN hR U ?_
 simp [zDo, shBad]
theorem zM7 (l : List Int) (hlen : l.length ≤ 1000) : zl Tryz.prog 12 [.ro (.ints .i64 l) 0 l.length] (.bool (!(l.any shBad))) := by
 refine zd.value0 (zL (P := Tryz.prog) (fn := Tryz.f12) U U (by kernel_rfl) U (fun c hR hfix => ?_)) (fix := fun _ => False) (fun _ h => h) U U
 refine rn0 ?_
 refine zQ U U U (shConE l 26 [] shBad U (by omega) (fun x _ => shFine1 x)) ?_
 refine rn5 ?_
 exact zN hR U U
/-- shownSolved -/
theorem zJQ : zl Tryz.prog 5 [] (.bool true) := by
 refine zd.value0 (zL (P := Tryz.prog) (fn := Tryz.f5) U U (by kernel_rfl) U (fun c hR hfix => ?_)) (fix := fun _ => False) (fun _ h => h) U U
 have hl : LenP (z7 two) := (zA5 two_ok.v zHU).len
 have cpn := pnew_ok two zDW (twoL, twoN) zLJ zHS
 rw [zLL] at cpn
 have cn := zMp two zDW
 rw [zI8 zLJ zHS, zLJ, zLL] at cn
 have ca := at_ok twoT two_ok 0
 have e0 : atE twoT 0 = 0 := by decide
 have e1 : atP twoT 0 = z7 two := by unfold atP; rw [e0]; rfl
 have e2 : atX twoT 0 = (2, 2) := by unfold atX; rw [e0]; rfl
 rw [e0, e1, e2] at ca
 have cs : zl Tryz.prog 11 [ruA two, poA (z7 two), .int .i64 2] (.tup [.int .i64 (-998), .int .i64 0]) := by
  have h := zML two zDW (z7 two) hl 2 (by decide) zGO
  rw [show ((2 : Nat) : Int) = 2 from rfl, zOn] at h
  exact h
 have cl : zl Tryz.prog 14 [zFz twoT, poA (z7 two), .int .i64 9] (.tup [zBP (zBo twoT 9 (z7 two)), .int .i64 0]) := pline_ok twoT two_ok zDW (z7 two) zHU zJa 9 (by decide)
 obtain ⟨t1, t2, t3⟩ := two_line
 have cr := grun_ok two zDW zD2 rfl (zBo twoT 9 (z7 two)) (by omega) t1
 rw [t3] at cr
 have cle := least_ok two zDW (z7 two) hl
 rw [zOm] at cle
 have ce := endOf_ok two zDW (z7 two) hl
 rw [zGO, if_neg (fun d => d rfl), zHT] at ce
 have cm := all_ok two zDW (z7 two) hl
 rw [zGO, if_neg (fun d => d rfl), show zr two (z7 two) = [⟨-1, 0, 0⟩, ⟨-1, 1, 0⟩] from zLI] at cm
 have hT : ((Lx : List Mv) → Lx.length = 2 → ((Lx.length : Nat) : Int) = 2) := fun Lx h => by rw [h]; rfl
 have t2' := hT _ t2
 generalize zBo twoT 9 (z7 two) = X at *
 generalize zEu two X (z7 two) = q at *
 refine rn0 ?_
 refine zQ U U U zEO ?_
 skip
 refine zQ U U U cpn ?_
 refine rn2 ?_
 refine zQ U U U zEO ?_
 skip
 refine zQ U U U cn ?_
 refine rn3 ?_
 refine zQ U U U (zM7 [0, 0] (by decide)) ?_
 repeat (first | refine zA (zG rfl) ?_ | refine zC ?_ | refine zB ?_ | refine zY ?_ | refine zJ rfl ?_ | refine zx rfl rfl ?_ | refine zAV rfl ?_ | refine zAP ?_ | refine zA (zDl rfl) ?_ | refine zA (zi rfl rfl) ?_ | refine zA (zK7 rfl rfl rfl rfl) ?_)
 refine zQ U U U ca ?_
 refine rn4 ?_
 refine zZ (poC (z7 two)) U U U U U U U ?_
 skip
 refine zZ (zB6 (2, 2)) U U U U U U U ?_
 refine rn0 ?_
 refine zAK [poO (z7 two), some ⟨35, .box (zB6 (2, 2))⟩] U ?_
 refine zCp 5 6 [(1, zFz twoT), (7, .int .i64 0)] U U U U ⟨U, U, trivial⟩ ⟨U, U, U, U, trivial⟩ U hfix ?_
 refine ze (by kernel_rfl) ?_
 refine zh (fuel := 0) [0, 1, 2, 3, 4, 5, 6, 7] [(5, .rp (.box (poC (z7 two))) 0 0), (6, .rp (.box (zB6 (2, 2))) 0 0), (1, zFz twoT), (7, .int .i64 0)] ⟨U, U, U, U, trivial⟩ (by kernel_rfl) (by decide) U U ?_
 refine zBS U U U U U zEO ?_
 refine zI U U (zm U U U U U U) ?_
 refine zBS U U U U U cs ?_
 refine zI U U (zG U) ?_
 refine zI U U (zAC U U) ?_
 refine zI U U (zAC U U) ?_
 refine zI U U (zM U) ?_
 refine zI U U (zM U) ?_
 refine zw ?_
 refine zW (by kernel_rfl) ?_
 refine rn6 ?_
 refine zQ U U U cl ?_
 refine rn2 ?_
 refine zQ U U U zEO ?_
 repeat (refine zA (zG rfl) ?_)
 refine zQ U U U cr ?_
 refine rn4 ?_
 refine zZ (poC q) U U U U U U U ?_
 refine rn0 ?_
 refine ze (by kernel_rfl) ?_
 refine zh (fuel := 0) [0, 1, 2, 3, 4, 5, 6, 7] [(5, .rp (.box (poC (z7 two))) 0 0), (6, .rp (.box (zB6 (2, 2))) 0 0), (7, .int .i64 0), (8, .int .i64 (-998)), (9, .int .i64 0), (10, zBP X), (11, .int .i64 0), (13, .int .i64 2), (14, .int .i64 0)] ⟨U, U, U, U, U, U, U, U, U, trivial⟩ (by kernel_rfl) (by decide) U U ?_
 refine zBS U U U U U zEO ?_
 refine zI U U (zm U U U U U U) ?_
 refine zBS U U U U U cle ?_
 refine zI U U (zG U) ?_
 refine zI U U (zAC U U) ?_
 refine zI U U (zAC U U) ?_
 refine zI U U (zM U) ?_
 refine zI U U (zM U) ?_
 refine zw ?_
 refine zW (by kernel_rfl) ?_
 refine rn0 ?_
 refine ze (by kernel_rfl) ?_
 refine zh (fuel := 0) [0, 1, 2, 3, 4, 5, 6, 7] [(5, .rp (.box (poC (z7 two))) 0 0), (6, .rp (.box (zB6 (2, 2))) 0 0), (7, .int .i64 0), (8, .int .i64 (-998)), (9, .int .i64 0), (10, zBP X), (11, .int .i64 0), (13, .int .i64 2), (14, .int .i64 0), (15, .int .i64 0), (16, .int .i64 8)] ⟨U, U, U, U, U, U, U, U, U, U, U, trivial⟩ (by kernel_rfl) (by decide) U U ?_
 refine zBS U U U U U zEO ?_
 refine zI U U (zm U U U U U U) ?_
 refine zBS U U U U U ce ?_
 refine zI U U (zG U) ?_
 refine zI U U (zAC U U) ?_
 refine zI U U (zAC U U) ?_
 refine zI U U (zM U) ?_
 refine zI U U (zM U) ?_
 refine zw ?_
 refine zW (by kernel_rfl) ?_
 refine rn0 ?_
 refine ze (by kernel_rfl) ?_
 refine zh (fuel := 0) [0, 1, 2, 3, 4, 5, 6, 7] [(5, .rp (.box (poC (z7 two))) 0 0), (6, .rp (.box (zB6 (2, 2))) 0 0), (7, .int .i64 0), (8, .int .i64 (-998)), (9, .int .i64 0), (10, zBP X), (11, .int .i64 0), (13, .int .i64 2), (14, .int .i64 0), (15, .int .i64 0), (16, .int .i64 8), (17, .int .i64 0), (18, .int .i64 0)] ⟨U, U, U, U, U, U, U, U, U, U, U, U, U, trivial⟩ (by kernel_rfl) (by decide) U U ?_
 refine zBS U U U U U zEO ?_
 refine zI U U (zm U U U U U U) ?_
 refine zBS U U U U U cm ?_
 refine zI U U (zG U) ?_
 refine zI U U (zAC U U) ?_
 refine zI U U (zAC U U) ?_
 refine zI U U (zM U) ?_
 refine zI U U (zM U) ?_
 refine zw ?_
 refine zW (by kernel_rfl) ?_
 refine rn3 ?_
 refine zQ U U U (zM7 [0, 0, 0, 0, 0, 0] (by decide)) ?_
 refine zBG ?_
 rw [decide_eq_true t2']
 refine rn4 ?_
 exact zN hR U U
end Go.Proofs.YtkhdfimdkjjimaaGreatDoor
