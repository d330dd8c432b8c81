import Derived.Test.YtnkealfaldjipaaGreatDoorY4
set_option linter.unusedVariables false
set_option linter.unusedSimpArgs false
namespace Go.Proofs.YtnkealfaldjipaaGreatDoor
open Go.Ax Go.Ax.Bg Go.Ax.Rt Go.RowKit Go.Ax.Idx Go.Ax.Cd
attribute [local irreducible] Ax zBE QOp zV zAz
set_option maxRecDepth 100000
set_option maxHeartbeats 4000000
def zFV (s : RSeq) : List AV := [.int .i64 s.info, .int .i64 s.choice, .int .i64 s.before]
abbrev zBW (l : List RSeq) : Cells := zCg seq0 3 zFV l
theorem zMb (s : RSeq) (j h : Nat) (hj : j < 3) : ((zFV s).getD j .any).forget h = (zFV s).getD j .any := by
 match j, hj with
 | 0, _ => rfl
 | 1, _ => rfl
 | 2, _ => rfl
theorem zMi (s : RSeq) (j : Nat) : noRef ((zFV s).getD j .any) = true := by
 match j with
 | 0 => rfl
 | 1 => rfl
 | 2 => rfl
 | _ + 3 => rfl
theorem zH2 (l : List RSeq) : zAA (zBW l) := by
 intro i j _ hj
 exact zMi _ j
theorem rowS3 (s : RSeq) (j : Nat) (hj : j < 3) : (zEQ 1 3 [.int .i64 s.info, .int .i64 s.choice, .int .i64 s.before]).at 0 j = (zFV s).getD j .any := by
 match j, hj with
 | 0, _ => rfl
 | 1, _ => rfl
 | 2, _ => rfl
abbrev formB (n N : Nat) : Cells := .box [.sl 0 0 n, .sl 1 0 N]
abbrev zCy (N : Nat) (f : RForm) (L : zZ) : zZ := some ⟨174, zBW f.seqs⟩ :: some ⟨3, .ints .i64 f.pos⟩ :: some ⟨169, formB f.seqs.length N⟩ :: some ⟨123, zHN f.first⟩ :: L
theorem add_len (p : Int) (n : TNode) (i : Nat) (f : RForm) : f.seqs.length ≤ (zAW p n i f).seqs.length := by
 unfold zAW
 split
 · show _ ≤ (_ ++ _ : List RSeq).length
   rw [List.length_append]; omega
 · exact Nat.le_refl _
theorem zLI (t : zQ) (p : Int) (i : Nat) : ∀ e, (zAM t p i).seqs.length ≤ (zAM t p (i + e)).seqs.length
 | 0 => Nat.le_refl _
 | e + 1 => by
   rw [← Nat.add_assoc, zAM, zJP]
   exact Nat.le_trans (zLI t p i e) (add_len _ _ _ _)
theorem zNp {t : zQ} (hv : Valid t) (p : Int) {i : Nat} (hi : i ≤ t.length) : (zAM t p i).seqs.length ≤ 61 := by
 have h1 := zLI t p i (t.length - i)
 rw [show i + (t.length - i) = t.length by omega] at h1
 exact Nat.le_trans h1 (zKn hv p)
theorem zO1 (l : List RSeq) (n : Nat) : zA2 n (zBW l) := by
 intro i j _ hj
 have hj : j < 3 := hj
 match j, hj with
 | 0, _ => rfl
 | 1, _ => rfl
 | 2, _ => rfl
theorem zHv (N : Nat) (f : RForm) : ∀ (h : Nat) (o : AObj), (zCy N f [])[h]? = some (some o) → zA2 4 o.c := by
 intro h o ho
 match h, ho with
 | 0, ho => cases ho; exact zO1 _ _
 | 1, ho => cases ho; exact zC9 _ _ _
 | 2, ho =>
   cases ho
   intro i j _ hj
   have hj : j < 2 := hj
   match j, hj with
   | 0, _ => rfl
   | 1, _ => rfl
 | 3, ho => cases ho; exact zFf _ _
 | _ + 4, ho => simp at ho
theorem add_yes {p : Int} {n : TNode} {i : Nat} {f : RForm} (h1 : own p n = true) (h2 : zBX f.first n.info = none) : zAW p n i f = ⟨f.seqs ++ zB7 n (f.pos.getD i 0), f.pos, f.first ++ [(n.info, f.seqs.length)]⟩ := by unfold zAW; rw [if_pos ⟨h1, h2⟩]
theorem add_old {p : Int} {n : TNode} {i : Nat} {f : RForm} {s : Nat} (h2 : zBX f.first n.info = some s) : zAW p n i f = f := by unfold zAW; rw [if_neg (by rintro ⟨_, q⟩; rw [h2] at q; cases q)]
theorem add_not {p : Int} {n : TNode} {i : Nat} {f : RForm} (h1 : own p n = false) : zAW p n i f = f := by unfold zAW; rw [if_neg (by rintro ⟨q, _⟩; rw [h1] at q; cases q)]
theorem zGt {α : Type} {h : Nat} {f : α → AV} (hf : ∀ x, (f x).forget h = f x) : ∀ l : List α, AV.forgets h (l.map f) = l.map f
 | [] => rfl
 | a :: r => by
   show (f a).forget h :: AV.forgets h (r.map f) = f a :: r.map f
   rw [hf a, zGt hf r]
theorem zOw (F : List (Int × Nat)) (h : Nat) : CEq ((zHN F).forget h) (zHN F) := by
 have e : (zHN F).forget h = zHN F := by
   show Cells.mp (AV.forgets h _) (AV.forgets h _) = _
   rw [zGt (fun _ => rfl), zGt (fun _ => rfl)]
 rw [e]; exact CEq.refl _
def zIY (n : TNode) (b : Int) (k : Nat) : List RSeq := (List.range k).map (fun k : Nat => ⟨n.info, (k : Int), b⟩)
theorem zRO (n : TNode) (b : Int) (k : Nat) : zIY n b (k + 1) = zIY n b k ++ [⟨n.info, (k : Int), b⟩] := by
 unfold zIY; rw [List.range_succ, List.map_append]; rfl
theorem form_new (N : Nat) (f : RForm) (nf : Int) (n : TNode) (b : Int) (L : zZ) : zCy N ⟨f.seqs ++ zIY n b 0, f.pos, f.first ++ [(nf, f.seqs.length)]⟩ L = some ⟨174, zBW f.seqs⟩ :: some ⟨3, .ints .i64 f.pos⟩ :: some ⟨169, formB f.seqs.length N⟩ :: some ⟨123, .mp (f.first.map (fun x => .int .i64 x.1) ++ [.int .i64 nf]) (f.first.map (fun x => .int .i64 (x.2 : Nat)) ++ [.int .i64 (f.seqs.length : Nat)])⟩ :: L := by
 have e : f.seqs ++ zIY n b 0 = f.seqs := List.append_nil _
 simp only [zCy, e, zHN, List.map_append, List.map_cons, List.map_nil]
theorem newK_len (n : TNode) (b : Int) (k : Nat) : (zIY n b k).length = k := by simp [zIY]
theorem of_ok (t : zQ) (p : Int) (hT : ShortT t) (hv : Valid t) : zV Tryz.prog 106 [.ro (zc t) 0 t.length, .int .i64 p] [] (fun _ => False) (fun r H' => r = .ptr 2 0 0 ∧ H' = zCy t.length (zAM t p t.length) []) := by
 have hlen := hT.len
 have h120 := hv.le
 have hN0 := hv.ne
 refine zG (P := Tryz.prog) (fn := Tryz.f106) Y Y (by kernel_rfl) Y (fun c hR hfix => ?_)
 repeat (first | refine zD (zL rfl) ?_ | refine zB ?_ | refine zA ?_ | refine zW ?_ | refine zK rfl ?_ | refine zD (zAR rfl rfl rfl rfl rfl rfl) ?_)
 refine zD0 Y Y Y Y Y Y Y Y Y Y ?_
 refine rn3 ?_
 refine zB6 Y Y Y Y Y Y Y Y (by show 0 ≤ _ ∧ _ ≤ _ ∧ (8 : Int) * _ ≤ _ ∧ _; omega) ?_
 repeat (first | refine zD (zL rfl) ?_ | refine zB ?_ | refine zA ?_ | refine zW ?_ | refine zK rfl ?_ | refine zD (zAR rfl rfl rfl rfl rfl rfl) ?_ | refine zFR rfl rfl ?_)
 refine zE6 ?_
 refine zAp (zCy t.length (zAM t p 0) []) ?_ ?_
 · refine z6.eqv ⟨Y, Y, fun i j hi hj => ?_⟩ (z6.eqv (CEq.refl _) (z6.eqv (CEq.refl _) (z6.eqv (CEq.refl _) z6.nil)))
   have hj : j < 3 := hj
   obtain rfl := Nat.lt_one_iff.1 (show i < 1 from hi)
   match j, hj with
   | 0, _ => rfl
   | 1, _ => rfl
   | 2, _ => rfl
 refine rn3 ?_
 refine zi (ι := Nat) (fun i => [(0, .ro (zc t) 0 t.length), (1, .int .i64 p), (5, .ptr 2 0 0), (6, .mp 3), (23, .ro (zc t) 0 t.length), (24, .int .i64 (t.length : Nat)), (25, .int .i64 (i : Nat))]) (fun i => zCy t.length (zAM t p i) [])
   (fun i => i ≤ t.length) (fun i => t.length - i) 0 ⟨⟨rfl, rfl, rfl, rfl, rfl, rfl, rfl, trivial⟩, rfl, Nat.zero_le _⟩ ?_
 intro i hi
 refine rn4 ?_
 refine zE Y (fun h => ?_) (fun h => ?_)
 · have hi' : i < t.length := by omega
   have hsn := hT.node _ (zBR node0 hi')
   have hbh := hv.behind hi'
   have hwf := hv.few hi'
   have hRI := RI.all_n hv p i hi
   obtain ⟨_, _, _, _, _, _, _, a8, _, a10⟩ := RI.add hv hRI hi' hRI hRI.s0.1
   have hfl := zNp hv p hi
   have hgf := zNp hv p (show i + 1 ≤ t.length by omega)
   have hfl2 := zEq t p i
   have hnx : zAM t p (i + 1) = ⟨(zAW p (t.getD i node0) i (zAM t p i)).seqs, zAx (zHS p (t.getD i node0) i (zAW p (t.getD i node0) i (zAM t p i))) (t.getD i node0).next 0 (zAW p (t.getD i node0) i (zAM t p i)).pos, (zAW p (t.getD i node0) i (zAM t p i)).first⟩ := by rw [zAM, zJP, zIc]
   have hgl : (zAW p (t.getD i node0) i (zAM t p i)).pos.length = t.length := by rw [zGm]; exact hfl2
   rw [hnx] at hgf
   simp only at hgf
   obtain ⟨s1, s2, s3, s4⟩ := hsn
   refine rn6 ?_
   refine zN 29 (.agg (zBn (t.getD i node0))) Y (AEq.of_eq Y) ?_
   generalize t.getD i node0 = n at *
   generalize zAM t p i = f at *
   obtain ⟨kd, pl, nf, nx, od, py⟩ := n
   simp only at *
   refine zP (c' := .box [.int .i64 kd, .int .i64 pl, .int .i64 nf, .ro (.ints .i64 nx) 0 nx.length, .ro (.strs od) 0 od.length, .str py]) Y Y Y Y Y Nat.zero_lt_one Y Y (fun i' j' hi' hj' => ?_) ?_
   · rw [if_pos (Nat.lt_one_iff.1 hi')]; rfl
   refine zAf (zCy t.length f [some ⟨40, .box [.int .i64 kd, .int .i64 pl, .int .i64 nf, .ro (.ints .i64 nx) 0 nx.length, .ro (.strs od) 0 od.length, .str py]⟩]) Y ?_
   refine zN 8 (.ptr 4 0 0) Y (AEq.of_eq Y) ?_
   have hown : own p ⟨kd, pl, nf, nx, od, py⟩ = (decide (kd = 2) && decide (pl = p)) := rfl
   generalize hv' : zHS p ⟨kd, pl, nf, nx, od, py⟩ i (zAW p ⟨kd, pl, nf, nx, od, py⟩ i f) = v at *
   have hvv : ∀ k, v k = if own p ⟨kd, pl, nf, nx, od, py⟩ = true then (((zBX (zAW p ⟨kd, pl, nf, nx, od, py⟩ i f).first nf).getD 0 : Nat) : Int) + (k : Int) else (zAW p ⟨kd, pl, nf, nx, od, py⟩ i f).pos.getD i 0 := fun k => by rw [← hv']; rfl
   have hay := @add_yes p ⟨kd, pl, nf, nx, od, py⟩ i f
   have hao := @add_old p ⟨kd, pl, nf, nx, od, py⟩ i f
   have han := @add_not p ⟨kd, pl, nf, nx, od, py⟩ i f
   generalize hb : own p ⟨kd, pl, nf, nx, od, py⟩ = b at *
   apply zAw (H := zCy t.length f [some ⟨40, .box [.int .i64 kd, .int .i64 pl, .int .i64 nf, .ro (.ints .i64 nx) 0 nx.length, .ro (.strs od) 0 od.length, .str py]⟩]) [(0, .ro (zc t) 0 t.length), (1, .int .i64 p), (5, .ptr 2 0 0), (6, .mp 3), (7, .int .i64 (i : Nat)), (8, .ptr 4 0 0), (9, .bool b), (23, .ro (zc t) 0 t.length), (24, .int .i64 (t.length : Nat)), (25, .int .i64 (i : Nat))]
   · intro fin
     refine rn5 ?_
     refine zAE Y Y (fun g1 => ?_) (fun g1 => ?_)
     · repeat (first | refine zD (zH rfl) ?_ | refine zD (zL rfl) ?_ | refine zB ?_ | refine zAI rfl rfl ?_ | refine zD (zS rfl rfl rfl rfl rfl) ?_ | refine zD (zEk rfl rfl) ?_ | refine zD (zAg rfl rfl) ?_ | refine zD (zO rfl rfl rfl rfl rfl rfl) ?_)
       refine zA ?_
       refine z7 9 (.bool b) Y (AEq.of_eq (by rw [hown, decide_eq_true g1, Bool.true_and])) ?_
       exact fin _ ⟨Y, Y, Y, Y, Y, Y, Y, Y, Y, Y, trivial⟩
     · repeat (first | refine zD (zL rfl) ?_ | refine zB ?_ | refine zAo rfl rfl rfl ?_ | refine zD (zAg rfl rfl) ?_)
       refine zA ?_
       refine z7 9 (.bool b) Y (AEq.of_eq (by rw [hown, decide_eq_false g1, Bool.false_and])) ?_
       exact fin _ ⟨Y, Y, Y, Y, Y, Y, Y, Y, Y, Y, trivial⟩
   cases b
   · have hg := han rfl
     generalize zAW p ⟨kd, pl, nf, nx, od, py⟩ i f = g at *
     subst hg
     simp only [Bool.false_eq_true, if_false] at hvv
     refine rn5 ?_
     refine zi (ι := Nat) (fun k => [(0, .ro (zc t) 0 t.length), (1, .int .i64 p), (5, .ptr 2 0 0), (6, .mp 3), (7, .int .i64 (i : Nat)), (8, .ptr 4 0 0), (9, .bool false), (23, .ro (zc t) 0 t.length), (24, .int .i64 (t.length : Nat)), (25, .int .i64 (i : Nat)), (85, .ro (.ints .i64 nx) 0 nx.length), (86, .int .i64 (nx.length : Nat)), (87, .int .i64 (k : Nat))]) (fun k => zCy t.length ⟨g.seqs, zAx v (nx.take k) 0 g.pos, g.first⟩ [some ⟨40, .box [.int .i64 kd, .int .i64 pl, .int .i64 nf, .ro (.ints .i64 nx) 0 nx.length, .ro (.strs od) 0 od.length, .str py]⟩])
       (fun k => k ≤ nx.length) (fun k => nx.length - k) 0 ⟨⟨rfl, rfl, rfl, rfl, rfl, rfl, rfl, rfl, rfl, rfl, rfl, rfl, rfl, trivial⟩, rfl, Nat.zero_le _⟩ ?_
     intro k hk
     refine rn4 ?_
     refine zE Y (fun h5 => ?_) (fun h5 => ?_)
     · have hk' : k < nx.length := by omega
       obtain ⟨b1, b2⟩ := hbh _ (zAP 0 hk')
       have hAl : (zAx v (nx.take k) 0 g.pos).length = t.length := by rw [zDJ]; exact hgl
       have hAi : (zAx v (nx.take k) 0 g.pos).getD i 0 = g.pos.getD i 0 := zBm v 0 _ _ _ (fun c hc => by have := hbh c (List.mem_of_mem_take hc); omega)
       have hst : zAx v (nx.take (k + 1)) 0 g.pos = (zAx v (nx.take k) 0 g.pos).set (nx.getD k 0).toNat (v k) := by
         rw [zDA hk', zDc, List.length_take, Nat.min_eq_left hk, Nat.zero_add]
       have hvk := hvv k
       generalize hA2 : zAx v (nx.take (k + 1)) 0 g.pos = A2 at *
       generalize zAx v (nx.take k) 0 g.pos = A at *
       obtain ⟨x, hx⟩ := Int.eq_ofNat_of_zero_le (show 0 ≤ nx.getD k 0 by omega)
       have hxn : (nx.getD k 0).toNat = x := by rw [hx, Int.toNat_natCast]
       rw [hx] at b1 b2
       rw [hxn] at hst
       have hxl : x < A.length := by omega
       have hil : i < A.length := by omega
       have hxl2 : x < (A.set x (A.getD i 0)).length := by rw [List.length_set]; exact hxl
       refine rn6 ?_
       refine z7 14 (.int .i64 (x : Nat)) Y (AEq.of_eq (by rw [hx])) ?_
       refine zl (by kernel_rfl) ?_
       refine zt (fuel := 1) [0, 1, 2, 3, 4, 5, 6, 7, 8, 9, 10, 11, 12] [(0, .ro (zc t) 0 t.length), (1, .int .i64 p), (5, .ptr 2 0 0), (6, .mp 3), (7, .int .i64 (i : Nat)), (8, .ptr 4 0 0), (9, .bool false), (23, .ro (zc t) 0 t.length), (24, .int .i64 (t.length : Nat)), (25, .int .i64 (i : Nat)), (85, .ro (.ints .i64 nx) 0 nx.length), (86, .int .i64 (nx.length : Nat)), (87, .int .i64 (k : Nat)), (13, .int .i64 (k : Nat)), (14, .int .i64 (x : Nat))] ⟨Y, Y, Y, Y, Y, Y, Y, Y, Y, Y, Y, Y, Y, Y, Y, trivial⟩ (by kernel_rfl) (by decide) Y Y ?_
       refine zU Y Y (zH Y) ?_
       refine zU Y Y (zAk Y) ?_
       refine zU Y Y (zO Y Y Y Y Y Y) ?_
       refine zU Y Y (zS Y Y Y Y Y) ?_
       refine zU Y Y (zH Y) ?_
       refine zU Y Y (zH Y) ?_
       refine zU Y Y (zAk Y) ?_
       refine zU Y Y (zO Y Y Y Y Y Y) ?_
       refine zU Y Y (zS Y Y Y Y Y) ?_
       refine zU Y Y (zH Y) ?_
       refine zU Y Y (zb Y Y Y Y Y (by first | (simp only [Nat.zero_add, Int.toNat_natCast, Int.toNat_zero]; exact Y) | exact Y) (by omega)) ?_
       refine zU Y Y (zAQ Y Y Y Y (by first | assumption | omega)) ?_
       refine zU Y Y (zb Y Y Y Y Y (by first | (simp only [Nat.zero_add, Int.toNat_natCast, Int.toNat_zero]; exact Y) | exact Y) (by omega)) ?_
       refine zAc ?_
       refine zF (is := [13]) (by kernel_rfl) (by simp) Y ⟨fun o ho => ?_, trivial⟩
       all_goals (cases ho)
       repeat (first | refine zB ?_ | refine zn ?_ | refine zAr rfl rfl rfl rfl rfl rfl rfl (by first | assumption | (show _ < List.length _; first | assumption | omega)) ?_)
       refine zh (by kernel_rfl) ?_
       refine rn5 ?_
       exact zM ⟨k + 1, by omega, by omega, ⟨Y, Y, Y, Y, Y, Y, Y, Y, Y, Y, Y, Y, Y, trivial⟩, by rw [hA2, hst, hvk, ← hAi]; rfl⟩
     · have hke : k = nx.length := by omega
       subst hke
       rw [List.take_length]
       repeat (first | refine zd ?_ | refine zAj ?_ | refine zp ?_ | refine zo ?_ | refine zAB ?_)
       refine zA ?_
       refine zAb (zCy t.length ⟨g.seqs, zAx v nx 0 g.pos, g.first⟩ []) [some ⟨40, .box [.int .i64 kd, .int .i64 pl, .int .i64 nf, .ro (.ints .i64 nx) 0 nx.length, .ro (.strs od) 0 od.length, .str py]⟩] [(0, .ro (zc t) 0 t.length), (1, .int .i64 p), (5, .ptr 2 0 0), (6, .mp 3), (23, .ro (zc t) 0 t.length), (24, .int .i64 (t.length : Nat)), (25, .int .i64 (i : Nat))] Y ⟨Y, Y, Y, Y, Y, Y, Y, trivial⟩ (fun h hh => by rw [hfix] at hh; exact absurd hh id) (zHv _ _) Y ?_
       refine rn3 ?_
       exact zM ⟨i + 1, by omega, by omega, ⟨Y, Y, Y, Y, Y, Y, Y, trivial⟩, by rw [hnx]⟩
   · obtain ⟨s, hs⟩ := a10 rfl
     obtain ⟨jj, i1, i2⟩ := zDp hs
     have hsl := (a8 _ (zCJ hs)).2.1
     simp only at hsl
     simp only [if_true] at hvv
     rw [hs] at hvv
     simp only [Option.getD_some] at hvv
     refine rn5 ?_
     cases hL : zBX f.first nf with
     | some s0 =>
       have hg := hao hL
       refine zD (zBh Y (.int Y) Y Y Y Y (zI6 f.first) (zDp hL).choose (zDp hL).choose_spec.1 (zDp hL).choose_spec.2) ?_
       generalize zAW p ⟨kd, pl, nf, nx, od, py⟩ i f = g at *
       subst hg
       obtain ⟨jj, i1, i2⟩ := zDp hs
       refine rn5 ?_
       refine zi (ι := Nat) (fun k => [(0, .ro (zc t) 0 t.length), (1, .int .i64 p), (5, .ptr 2 0 0), (6, .mp 3), (7, .int .i64 (i : Nat)), (8, .ptr 4 0 0), (9, .bool true), (23, .ro (zc t) 0 t.length), (24, .int .i64 (t.length : Nat)), (25, .int .i64 (i : Nat)), (85, .ro (.ints .i64 nx) 0 nx.length), (86, .int .i64 (nx.length : Nat)), (87, .int .i64 (k : Nat))]) (fun k => zCy t.length ⟨g.seqs, zAx v (nx.take k) 0 g.pos, g.first⟩ [some ⟨40, .box [.int .i64 kd, .int .i64 pl, .int .i64 nf, .ro (.ints .i64 nx) 0 nx.length, .ro (.strs od) 0 od.length, .str py]⟩])
         (fun k => k ≤ nx.length) (fun k => nx.length - k) 0 ⟨⟨rfl, rfl, rfl, rfl, rfl, rfl, rfl, rfl, rfl, rfl, rfl, rfl, rfl, trivial⟩, rfl, Nat.zero_le _⟩ ?_
       intro k hk
       refine rn4 ?_
       refine zE Y (fun h5 => ?_) (fun h5 => ?_)
       · have hk' : k < nx.length := by omega
         obtain ⟨b1, b2⟩ := hbh _ (zAP 0 hk')
         have hAl : (zAx v (nx.take k) 0 g.pos).length = t.length := by rw [zDJ]; exact hgl
         have hAi : (zAx v (nx.take k) 0 g.pos).getD i 0 = g.pos.getD i 0 := zBm v 0 _ _ _ (fun c hc => by have := hbh c (List.mem_of_mem_take hc); omega)
         have hst : zAx v (nx.take (k + 1)) 0 g.pos = (zAx v (nx.take k) 0 g.pos).set (nx.getD k 0).toNat (v k) := by
           rw [zDA hk', zDc, List.length_take, Nat.min_eq_left hk, Nat.zero_add]
         have hvk := hvv k
         generalize hA2 : zAx v (nx.take (k + 1)) 0 g.pos = A2 at *
         generalize zAx v (nx.take k) 0 g.pos = A at *
         obtain ⟨x, hx⟩ := Int.eq_ofNat_of_zero_le (show 0 ≤ nx.getD k 0 by omega)
         have hxn : (nx.getD k 0).toNat = x := by rw [hx, Int.toNat_natCast]
         rw [hx] at b1 b2
         rw [hxn] at hst
         have hxl : x < A.length := by omega
         have hil : i < A.length := by omega
         have hxl2 : x < (A.set x (A.getD i 0)).length := by rw [List.length_set]; exact hxl
         refine rn6 ?_
         refine z7 14 (.int .i64 (x : Nat)) Y (AEq.of_eq (by rw [hx])) ?_
         refine zl (by kernel_rfl) ?_
         refine zt (fuel := 1) [0, 1, 2, 3, 4, 5, 6, 7, 8, 9, 10, 11, 12] [(0, .ro (zc t) 0 t.length), (1, .int .i64 p), (5, .ptr 2 0 0), (6, .mp 3), (7, .int .i64 (i : Nat)), (8, .ptr 4 0 0), (9, .bool true), (23, .ro (zc t) 0 t.length), (24, .int .i64 (t.length : Nat)), (25, .int .i64 (i : Nat)), (85, .ro (.ints .i64 nx) 0 nx.length), (86, .int .i64 (nx.length : Nat)), (87, .int .i64 (k : Nat)), (13, .int .i64 (k : Nat)), (14, .int .i64 (x : Nat))] ⟨Y, Y, Y, Y, Y, Y, Y, Y, Y, Y, Y, Y, Y, Y, Y, trivial⟩ (by kernel_rfl) (by decide) Y Y ?_
         refine zU Y Y (zH Y) ?_
         refine zU Y Y (zAk Y) ?_
         refine zU Y Y (zO Y Y Y Y Y Y) ?_
         refine zU Y Y (zS Y Y Y Y Y) ?_
         refine zU Y Y (zH Y) ?_
         refine zU Y Y (zH Y) ?_
         refine zU Y Y (zAk Y) ?_
         refine zU Y Y (zO Y Y Y Y Y Y) ?_
         refine zU Y Y (zS Y Y Y Y Y) ?_
         refine zU Y Y (zH Y) ?_
         refine zU Y Y (zb Y Y Y Y Y (by first | (simp only [Nat.zero_add, Int.toNat_natCast, Int.toNat_zero]; exact Y) | exact Y) (by omega)) ?_
         refine zU Y Y (zAQ Y Y Y Y (by first | assumption | omega)) ?_
         refine zU Y Y (zb Y Y Y Y Y (by first | (simp only [Nat.zero_add, Int.toNat_natCast, Int.toNat_zero]; exact Y) | exact Y) (by omega)) ?_
         refine zAc ?_
         refine zF (is := [13]) (by kernel_rfl) (by simp) Y ⟨fun o ho => ?_, trivial⟩
         all_goals (cases ho)
         repeat (first | refine zB ?_ | refine zn ?_ | refine zAr rfl rfl rfl rfl rfl rfl rfl (by first | assumption | (show _ < List.length _; first | assumption | omega)) ?_)
         refine zGj (zCy t.length ⟨g.seqs, A.set x (A.getD i 0), g.first⟩ [some ⟨40, .box [.int .i64 kd, .int .i64 pl, .int .i64 nf, .ro (.ints .i64 nx) 0 nx.length, .ro (.strs od) 0 od.length, .str py]⟩]) (z6.refl _) ?_
         refine zh (by kernel_rfl) ?_
         refine rn5 ?_
         refine zl (by kernel_rfl) ?_
         refine zt (fuel := 1) [0, 1, 2, 3, 4, 5, 6, 7, 8, 9, 10, 11] [(0, .ro (zc t) 0 t.length), (1, .int .i64 p), (5, .ptr 2 0 0), (6, .mp 3), (7, .int .i64 (i : Nat)), (8, .ptr 4 0 0), (9, .bool true), (23, .ro (zc t) 0 t.length), (24, .int .i64 (t.length : Nat)), (25, .int .i64 (i : Nat)), (85, .ro (.ints .i64 nx) 0 nx.length), (86, .int .i64 (nx.length : Nat)), (87, .int .i64 (k : Nat)), (13, .int .i64 (k : Nat)), (14, .int .i64 (x : Nat))] ⟨Y, Y, Y, Y, Y, Y, Y, Y, Y, Y, Y, Y, Y, Y, Y, trivial⟩ (by kernel_rfl) (by decide) Y Y ?_
         refine zU Y Y (zH Y) ?_
         refine zU Y Y (zAk Y) ?_
         refine zU Y Y (zO Y Y Y Y Y Y) ?_
         refine zU Y Y (zS Y Y Y Y Y) ?_
         refine zU Y Y (zH Y) ?_
         refine zU Y Y (zH Y) ?_
         refine zU Y Y (zO Y Y Y Y Y Y) ?_
         refine zU Y Y (zS Y Y Y Y Y) ?_
         refine zU Y Y (zBh Y (.int Y) Y Y Y Y (zI6 g.first) jj i1 i2) ?_
         refine zU Y Y (zH Y) ?_
         refine zU Y Y (zDO Y Y (by omega)) ?_
         refine zU Y Y (zb Y Y Y Y Y (by first | (simp only [Nat.zero_add, Int.toNat_natCast, Int.toNat_zero]; exact Y) | exact Y) (by omega)) ?_
         refine zAc ?_
         refine zF (is := [12]) (by kernel_rfl) (by simp) Y ⟨fun o ho => ?_, trivial⟩
         all_goals (cases ho)
         repeat (first | refine zB ?_ | refine zn ?_ | refine zAr rfl rfl rfl rfl rfl rfl rfl (by first | assumption | (show _ < List.length _; first | assumption | omega)) ?_)
         refine zh (by kernel_rfl) ?_
         refine rn5 ?_
         exact zM ⟨k + 1, by omega, by omega, ⟨Y, Y, Y, Y, Y, Y, Y, Y, Y, Y, Y, Y, Y, trivial⟩, by rw [hA2, hst, hvk]; exact congrArg (fun l => zCy t.length ⟨g.seqs, l, g.first⟩ [some ⟨40, .box [.int .i64 kd, .int .i64 pl, .int .i64 nf, .ro (.ints .i64 nx) 0 nx.length, .ro (.strs od) 0 od.length, .str py]⟩]) (List.set_set ..)⟩
       · have hke : k = nx.length := by omega
         subst hke
         rw [List.take_length]
         repeat (first | refine zd ?_ | refine zAj ?_ | refine zp ?_ | refine zo ?_ | refine zAB ?_)
         refine zA ?_
         refine zAb (zCy t.length ⟨g.seqs, zAx v nx 0 g.pos, g.first⟩ []) [some ⟨40, .box [.int .i64 kd, .int .i64 pl, .int .i64 nf, .ro (.ints .i64 nx) 0 nx.length, .ro (.strs od) 0 od.length, .str py]⟩] [(0, .ro (zc t) 0 t.length), (1, .int .i64 p), (5, .ptr 2 0 0), (6, .mp 3), (23, .ro (zc t) 0 t.length), (24, .int .i64 (t.length : Nat)), (25, .int .i64 (i : Nat))] Y ⟨Y, Y, Y, Y, Y, Y, Y, trivial⟩ (fun h hh => by rw [hfix] at hh; exact absurd hh id) (zHv _ _) Y ?_
         refine rn3 ?_
         exact zM ⟨i + 1, by omega, by omega, ⟨Y, Y, Y, Y, Y, Y, Y, trivial⟩, by rw [hnx]⟩
     | none =>
       have hg := hay rfl hL
       refine zD (zFT Y (.int Y) Y Y Y Y Y Y Y Y (zI6 f.first) (zG6 hL)) ?_
       generalize zAW p ⟨kd, pl, nf, nx, od, py⟩ i f = g at *
       obtain ⟨jj, i1, i2⟩ := zDp hs
       simp only at hg
       have hgs : g.seqs.length = f.seqs.length + nx.length := by rw [hg]; simp [zB7]
       have hil : i < f.pos.length := by omega
       refine rn5 ?_
       refine zl (by kernel_rfl) ?_
       refine zt (fuel := 1) [0, 1, 2, 3, 4, 5, 6, 7] [(0, .ro (zc t) 0 t.length), (1, .int .i64 p), (5, .ptr 2 0 0), (6, .mp 3), (7, .int .i64 (i : Nat)), (8, .ptr 4 0 0), (9, .bool true), (23, .ro (zc t) 0 t.length), (24, .int .i64 (t.length : Nat)), (25, .int .i64 (i : Nat))] ⟨Y, Y, Y, Y, Y, Y, Y, Y, Y, Y, trivial⟩ (by kernel_rfl) (by decide) Y Y ?_
       refine zU Y Y (zH Y) ?_
       refine zU Y Y (zO Y Y Y Y Y Y) ?_
       refine zU Y Y (zS Y Y Y Y Y) ?_
       refine zU Y Y (zH Y) ?_
       refine zU Y Y (zAk Y) ?_
       refine zU Y Y (zO Y Y Y Y Y Y) ?_
       refine zU Y Y (zS Y Y Y Y Y) ?_
       refine zU Y Y (zA6 Y Y Y) ?_
       refine zAc ?_
       refine zF (is := [8]) (by kernel_rfl) (by simp) Y ⟨fun o ho => ?_, trivial⟩
       all_goals (cases ho)
       refine zCq Y (.int Y) Y Y Y Y Y (zI6 f.first) (zG6 hL) ?_
       refine rn1 ?_
       refine zh (by kernel_rfl) ?_
       refine rn5 ?_
       refine zi (ι := Nat) (fun k => [(0, .ro (zc t) 0 t.length), (1, .int .i64 p), (5, .ptr 2 0 0), (6, .mp 3), (7, .int .i64 (i : Nat)), (8, .ptr 4 0 0), (9, .bool true), (23, .ro (zc t) 0 t.length), (24, .int .i64 (t.length : Nat)), (25, .int .i64 (i : Nat)), (58, .ro (.ints .i64 nx) 0 nx.length), (59, .int .i64 (nx.length : Nat)), (60, .int .i64 (k : Nat))]) (fun k => zCy t.length ⟨f.seqs ++ zIY ⟨kd, pl, nf, nx, od, py⟩ (f.pos.getD i 0) k, f.pos, f.first ++ [(nf, f.seqs.length)]⟩ [some ⟨40, .box [.int .i64 kd, .int .i64 pl, .int .i64 nf, .ro (.ints .i64 nx) 0 nx.length, .ro (.strs od) 0 od.length, .str py]⟩])
         (fun k => k ≤ nx.length) (fun k => nx.length - k) 0 ⟨⟨rfl, rfl, rfl, rfl, rfl, rfl, rfl, rfl, rfl, rfl, rfl, rfl, rfl, trivial⟩, (form_new t.length f nf ⟨kd, pl, nf, nx, od, py⟩ (f.pos.getD i 0) [some ⟨40, .box [.int .i64 kd, .int .i64 pl, .int .i64 nf, .ro (.ints .i64 nx) 0 nx.length, .ro (.strs od) 0 od.length, .str py]⟩]).symm, Nat.zero_le _⟩ ?_
       intro k hk
       refine rn4 ?_
       refine zE Y (fun h5 => ?_) (fun h5 => ?_)
       · have hk' : k < nx.length := by omega
         have hks := zRO ⟨kd, pl, nf, nx, od, py⟩ (f.pos.getD i 0) k
         have hSl : (f.seqs ++ zIY ⟨kd, pl, nf, nx, od, py⟩ (f.pos.getD i 0) k).length ≤ 61 := by rw [List.length_append, newK_len]; omega
         have hS2 : f.seqs ++ zIY ⟨kd, pl, nf, nx, od, py⟩ (f.pos.getD i 0) (k + 1) = (f.seqs ++ zIY ⟨kd, pl, nf, nx, od, py⟩ (f.pos.getD i 0) k) ++ [(⟨nf, (k : Int), f.pos.getD i 0⟩ : RSeq)] := by rw [hks, List.append_assoc]
         generalize hS2' : f.seqs ++ zIY ⟨kd, pl, nf, nx, od, py⟩ (f.pos.getD i 0) (k + 1) = S2 at *
         generalize f.seqs ++ zIY ⟨kd, pl, nf, nx, od, py⟩ (f.pos.getD i 0) k = S at *
         refine rn1 ?_
         refine zl (by kernel_rfl) ?_
         apply zCl (H := zCy t.length ⟨S, f.pos, f.first ++ [(nf, f.seqs.length)]⟩ [some ⟨40, .box [.int .i64 kd, .int .i64 pl, .int .i64 nf, .ro (.ints .i64 nx) 0 nx.length, .ro (.strs od) 0 od.length, .str py]⟩]) [(0, .ro (zc t) 0 t.length), (1, .int .i64 p), (5, .ptr 2 0 0), (6, .mp 3), (7, .int .i64 (i : Nat)), (8, .ptr 4 0 0), (9, .bool true), (23, .ro (zc t) 0 t.length), (24, .int .i64 (t.length : Nat)), (25, .int .i64 (i : Nat)), (58, .ro (.ints .i64 nx) 0 nx.length), (59, .int .i64 (nx.length : Nat)), (60, .int .i64 (k : Nat)), (12, .int .i64 (k : Nat)), (63, .ptr 2 0 0), (67, .sl 0 0 S.length), (79, .ro (zEQ 1 3 [.int .i64 nf, .int .i64 (k : Nat), .int .i64 (f.pos.getD i 0)]) 0 1)]
         · intro fin2
           refine zR 0 Y (by kernel_rfl) (by kernel_rfl) (by kernel_rfl) Y (zH Y) Y ?_
           refine zR 1 Y (by kernel_rfl) (by kernel_rfl) (by kernel_rfl) Y (zH Y) Y ?_
           refine zR 5 Y (by kernel_rfl) (by kernel_rfl) (by kernel_rfl) Y (zO Y Y Y Y Y Y) Y ?_
           refine zR 7 Y (by kernel_rfl) (by kernel_rfl) (by kernel_rfl) Y (zH Y) Y ?_
           refine zR 8 Y (by kernel_rfl) (by kernel_rfl) (by kernel_rfl) Y (zH Y) Y ?_
           refine zR 12 Y (by kernel_rfl) (by kernel_rfl) (by kernel_rfl) Y (zH Y) Y ?_
           refine zR 2 Y (by kernel_rfl) (by kernel_rfl) (by kernel_rfl) Y (zAk Y) Y ?_
           refine zR 9 Y (by kernel_rfl) (by kernel_rfl) (by kernel_rfl) Y (zAk Y) Y ?_
           refine zR 3 Y (by kernel_rfl) (by kernel_rfl) (by kernel_rfl) Y (zO Y Y Y Y Y Y) Y ?_
           refine zR 10 Y (by kernel_rfl) (by kernel_rfl) (by kernel_rfl) Y (zO Y Y Y Y Y Y) Y ?_
           refine zF (is := [4, 6, 11]) (by kernel_rfl) (by simp) Y ⟨fun o ho => ?_, fun o ho => ?_, fun o ho => ?_, trivial⟩
           all_goals (cases ho)
           · refine rn4 ?_
             refine zF (is := [6, 11]) (by kernel_rfl) (by simp) Y ⟨fun o ho => ?_, fun o ho => ?_, trivial⟩
             all_goals (cases ho)
             · refine rn4 ?_
               refine zF (is := [11]) (by kernel_rfl) (by simp) Y ⟨fun o ho => ?_, trivial⟩
               all_goals (cases ho)
               refine rn4 ?_
               refine zR 13 Y (by kernel_rfl) (by kernel_rfl) (by kernel_rfl) Y (zb Y Y Y Y Y (by first | (simp only [Nat.zero_add, Int.toNat_natCast, Int.toNat_zero]; exact Y) | exact Y) (by omega)) Y ?_
               refine zF (is := [14]) (by kernel_rfl) (by simp) Y ⟨fun o ho => ?_, trivial⟩
               all_goals (cases ho)
               repeat (first | refine zB ?_ | refine zn ?_ | refine zD (zAQ rfl rfl rfl rfl (by first | assumption | omega)) ?_)
               refine zR 15 Y (by kernel_rfl) (by kernel_rfl) (by kernel_rfl) Y (zAR Y Y Y Y Y Y) Y ?_
               refine zF (is := [16]) (by kernel_rfl) (by simp) Y ⟨fun o ho => ?_, trivial⟩
               all_goals (cases ho)
               refine rn3 ?_
               exact fin2 _ ⟨Y, Y, Y, Y, Y, Y, Y, Y, Y, Y, Y, Y, Y, Y, Y, Y, Y, trivial⟩
             · refine rn4 ?_
               refine zR 13 Y (by kernel_rfl) (by kernel_rfl) (by kernel_rfl) Y (zb Y Y Y Y Y (by first | (simp only [Nat.zero_add, Int.toNat_natCast, Int.toNat_zero]; exact Y) | exact Y) (by omega)) Y ?_
               refine zF (is := [6, 14]) (by kernel_rfl) (by simp) Y ⟨fun o ho => ?_, fun o ho => ?_, trivial⟩
               all_goals (cases ho)
               · refine rn4 ?_
                 refine zF (is := [14]) (by kernel_rfl) (by simp) Y ⟨fun o ho => ?_, trivial⟩
                 all_goals (cases ho)
                 repeat (first | refine zB ?_ | refine zn ?_ | refine zD (zAQ rfl rfl rfl rfl (by first | assumption | omega)) ?_)
                 refine zR 15 Y (by kernel_rfl) (by kernel_rfl) (by kernel_rfl) Y (zAR Y Y Y Y Y Y) Y ?_
                 refine zF (is := [16]) (by kernel_rfl) (by simp) Y ⟨fun o ho => ?_, trivial⟩
                 all_goals (cases ho)
                 refine rn3 ?_
                 exact fin2 _ ⟨Y, Y, Y, Y, Y, Y, Y, Y, Y, Y, Y, Y, Y, Y, Y, Y, Y, trivial⟩
               · repeat (first | refine zB ?_ | refine zn ?_ | refine zD (zAQ rfl rfl rfl rfl (by first | assumption | omega)) ?_)
                 refine zF (is := [6]) (by kernel_rfl) (by simp) Y ⟨fun o ho => ?_, trivial⟩
                 all_goals (cases ho)
                 refine rn4 ?_
                 refine zR 15 Y (by kernel_rfl) (by kernel_rfl) (by kernel_rfl) Y (zAR Y Y Y Y Y Y) Y ?_
                 refine zF (is := [16]) (by kernel_rfl) (by simp) Y ⟨fun o ho => ?_, trivial⟩
                 all_goals (cases ho)
                 refine rn3 ?_
                 exact fin2 _ ⟨Y, Y, Y, Y, Y, Y, Y, Y, Y, Y, Y, Y, Y, Y, Y, Y, Y, trivial⟩
           · refine rn4 ?_
             refine zF (is := [4, 11]) (by kernel_rfl) (by simp) Y ⟨fun o ho => ?_, fun o ho => ?_, trivial⟩
             all_goals (cases ho)
             · refine rn4 ?_
               refine zF (is := [11]) (by kernel_rfl) (by simp) Y ⟨fun o ho => ?_, trivial⟩
               all_goals (cases ho)
               refine rn4 ?_
               refine zR 13 Y (by kernel_rfl) (by kernel_rfl) (by kernel_rfl) Y (zb Y Y Y Y Y (by first | (simp only [Nat.zero_add, Int.toNat_natCast, Int.toNat_zero]; exact Y) | exact Y) (by omega)) Y ?_
               refine zF (is := [14]) (by kernel_rfl) (by simp) Y ⟨fun o ho => ?_, trivial⟩
               all_goals (cases ho)
               repeat (first | refine zB ?_ | refine zn ?_ | refine zD (zAQ rfl rfl rfl rfl (by first | assumption | omega)) ?_)
               refine zR 15 Y (by kernel_rfl) (by kernel_rfl) (by kernel_rfl) Y (zAR Y Y Y Y Y Y) Y ?_
               refine zF (is := [16]) (by kernel_rfl) (by simp) Y ⟨fun o ho => ?_, trivial⟩
               all_goals (cases ho)
               refine rn3 ?_
               exact fin2 _ ⟨Y, Y, Y, Y, Y, Y, Y, Y, Y, Y, Y, Y, Y, Y, Y, Y, Y, trivial⟩
             · refine rn4 ?_
               refine zR 13 Y (by kernel_rfl) (by kernel_rfl) (by kernel_rfl) Y (zb Y Y Y Y Y (by first | (simp only [Nat.zero_add, Int.toNat_natCast, Int.toNat_zero]; exact Y) | exact Y) (by omega)) Y ?_
               refine zF (is := [4, 14]) (by kernel_rfl) (by simp) Y ⟨fun o ho => ?_, fun o ho => ?_, trivial⟩
               all_goals (cases ho)
               · refine rn4 ?_
                 refine zF (is := [14]) (by kernel_rfl) (by simp) Y ⟨fun o ho => ?_, trivial⟩
                 all_goals (cases ho)
                 repeat (first | refine zB ?_ | refine zn ?_ | refine zD (zAQ rfl rfl rfl rfl (by first | assumption | omega)) ?_)
                 refine zR 15 Y (by kernel_rfl) (by kernel_rfl) (by kernel_rfl) Y (zAR Y Y Y Y Y Y) Y ?_
                 refine zF (is := [16]) (by kernel_rfl) (by simp) Y ⟨fun o ho => ?_, trivial⟩
                 all_goals (cases ho)
                 refine rn3 ?_
                 exact fin2 _ ⟨Y, Y, Y, Y, Y, Y, Y, Y, Y, Y, Y, Y, Y, Y, Y, Y, Y, trivial⟩
               · repeat (first | refine zB ?_ | refine zn ?_ | refine zD (zAQ rfl rfl rfl rfl (by first | assumption | omega)) ?_)
                 refine zR 15 Y (by kernel_rfl) (by kernel_rfl) (by kernel_rfl) Y (zAR Y Y Y Y Y Y) Y ?_
                 refine zF (is := [4, 16]) (by kernel_rfl) (by simp) Y ⟨fun o ho => ?_, fun o ho => ?_, trivial⟩
                 all_goals (cases ho)
                 · refine rn4 ?_
                   refine zF (is := [16]) (by kernel_rfl) (by simp) Y ⟨fun o ho => ?_, trivial⟩
                   all_goals (cases ho)
                   refine rn3 ?_
                   exact fin2 _ ⟨Y, Y, Y, Y, Y, Y, Y, Y, Y, Y, Y, Y, Y, Y, Y, Y, Y, trivial⟩
                 · refine rn3 ?_
                   refine zF (is := [4]) (by kernel_rfl) (by simp) Y ⟨fun o ho => ?_, trivial⟩
                   all_goals (cases ho)
                   refine rn4 ?_
                   exact fin2 _ ⟨Y, Y, Y, Y, Y, Y, Y, Y, Y, Y, Y, Y, Y, Y, Y, Y, Y, trivial⟩
           · refine rn4 ?_
             refine zR 13 Y (by kernel_rfl) (by kernel_rfl) (by kernel_rfl) Y (zb Y Y Y Y Y (by first | (simp only [Nat.zero_add, Int.toNat_natCast, Int.toNat_zero]; exact Y) | exact Y) (by omega)) Y ?_
             refine zF (is := [4, 6, 14]) (by kernel_rfl) (by simp) Y ⟨fun o ho => ?_, fun o ho => ?_, fun o ho => ?_, trivial⟩
             all_goals (cases ho)
             · refine rn4 ?_
               refine zF (is := [6, 14]) (by kernel_rfl) (by simp) Y ⟨fun o ho => ?_, fun o ho => ?_, trivial⟩
               all_goals (cases ho)
               · refine rn4 ?_
                 refine zF (is := [14]) (by kernel_rfl) (by simp) Y ⟨fun o ho => ?_, trivial⟩
                 all_goals (cases ho)
                 repeat (first | refine zB ?_ | refine zn ?_ | refine zD (zAQ rfl rfl rfl rfl (by first | assumption | omega)) ?_)
                 refine zR 15 Y (by kernel_rfl) (by kernel_rfl) (by kernel_rfl) Y (zAR Y Y Y Y Y Y) Y ?_
                 refine zF (is := [16]) (by kernel_rfl) (by simp) Y ⟨fun o ho => ?_, trivial⟩
                 all_goals (cases ho)
                 refine rn3 ?_
                 exact fin2 _ ⟨Y, Y, Y, Y, Y, Y, Y, Y, Y, Y, Y, Y, Y, Y, Y, Y, Y, trivial⟩
               · repeat (first | refine zB ?_ | refine zn ?_ | refine zD (zAQ rfl rfl rfl rfl (by first | assumption | omega)) ?_)
                 refine zF (is := [6]) (by kernel_rfl) (by simp) Y ⟨fun o ho => ?_, trivial⟩
                 all_goals (cases ho)
                 refine rn4 ?_
                 refine zR 15 Y (by kernel_rfl) (by kernel_rfl) (by kernel_rfl) Y (zAR Y Y Y Y Y Y) Y ?_
                 refine zF (is := [16]) (by kernel_rfl) (by simp) Y ⟨fun o ho => ?_, trivial⟩
                 all_goals (cases ho)
                 refine rn3 ?_
                 exact fin2 _ ⟨Y, Y, Y, Y, Y, Y, Y, Y, Y, Y, Y, Y, Y, Y, Y, Y, Y, trivial⟩
             · refine rn4 ?_
               refine zF (is := [4, 14]) (by kernel_rfl) (by simp) Y ⟨fun o ho => ?_, fun o ho => ?_, trivial⟩
               all_goals (cases ho)
               · refine rn4 ?_
                 refine zF (is := [14]) (by kernel_rfl) (by simp) Y ⟨fun o ho => ?_, trivial⟩
                 all_goals (cases ho)
                 repeat (first | refine zB ?_ | refine zn ?_ | refine zD (zAQ rfl rfl rfl rfl (by first | assumption | omega)) ?_)
                 refine zR 15 Y (by kernel_rfl) (by kernel_rfl) (by kernel_rfl) Y (zAR Y Y Y Y Y Y) Y ?_
                 refine zF (is := [16]) (by kernel_rfl) (by simp) Y ⟨fun o ho => ?_, trivial⟩
                 all_goals (cases ho)
                 refine rn3 ?_
                 exact fin2 _ ⟨Y, Y, Y, Y, Y, Y, Y, Y, Y, Y, Y, Y, Y, Y, Y, Y, Y, trivial⟩
               · repeat (first | refine zB ?_ | refine zn ?_ | refine zD (zAQ rfl rfl rfl rfl (by first | assumption | omega)) ?_)
                 refine zR 15 Y (by kernel_rfl) (by kernel_rfl) (by kernel_rfl) Y (zAR Y Y Y Y Y Y) Y ?_
                 refine zF (is := [4, 16]) (by kernel_rfl) (by simp) Y ⟨fun o ho => ?_, fun o ho => ?_, trivial⟩
                 all_goals (cases ho)
                 · refine rn4 ?_
                   refine zF (is := [16]) (by kernel_rfl) (by simp) Y ⟨fun o ho => ?_, trivial⟩
                   all_goals (cases ho)
                   refine rn3 ?_
                   exact fin2 _ ⟨Y, Y, Y, Y, Y, Y, Y, Y, Y, Y, Y, Y, Y, Y, Y, Y, Y, trivial⟩
                 · refine rn3 ?_
                   refine zF (is := [4]) (by kernel_rfl) (by simp) Y ⟨fun o ho => ?_, trivial⟩
                   all_goals (cases ho)
                   refine rn4 ?_
                   exact fin2 _ ⟨Y, Y, Y, Y, Y, Y, Y, Y, Y, Y, Y, Y, Y, Y, Y, Y, Y, trivial⟩
             · repeat (first | refine zB ?_ | refine zn ?_ | refine zD (zAQ rfl rfl rfl rfl (by first | assumption | omega)) ?_)
               refine zF (is := [4, 6]) (by kernel_rfl) (by simp) Y ⟨fun o ho => ?_, fun o ho => ?_, trivial⟩
               all_goals (cases ho)
               · refine rn4 ?_
                 refine zF (is := [6]) (by kernel_rfl) (by simp) Y ⟨fun o ho => ?_, trivial⟩
                 all_goals (cases ho)
                 refine rn4 ?_
                 refine zR 15 Y (by kernel_rfl) (by kernel_rfl) (by kernel_rfl) Y (zAR Y Y Y Y Y Y) Y ?_
                 refine zF (is := [16]) (by kernel_rfl) (by simp) Y ⟨fun o ho => ?_, trivial⟩
                 all_goals (cases ho)
                 refine rn3 ?_
                 exact fin2 _ ⟨Y, Y, Y, Y, Y, Y, Y, Y, Y, Y, Y, Y, Y, Y, Y, Y, Y, trivial⟩
               · refine rn4 ?_
                 refine zR 15 Y (by kernel_rfl) (by kernel_rfl) (by kernel_rfl) Y (zAR Y Y Y Y Y Y) Y ?_
                 refine zF (is := [4, 16]) (by kernel_rfl) (by simp) Y ⟨fun o ho => ?_, fun o ho => ?_, trivial⟩
                 all_goals (cases ho)
                 · refine rn4 ?_
                   refine zF (is := [16]) (by kernel_rfl) (by simp) Y ⟨fun o ho => ?_, trivial⟩
                   all_goals (cases ho)
                   refine rn3 ?_
                   exact fin2 _ ⟨Y, Y, Y, Y, Y, Y, Y, Y, Y, Y, Y, Y, Y, Y, Y, Y, Y, trivial⟩
                 · refine rn3 ?_
                   refine zF (is := [4]) (by kernel_rfl) (by simp) Y ⟨fun o ho => ?_, trivial⟩
                   all_goals (cases ho)
                   refine rn4 ?_
                   exact fin2 _ ⟨Y, Y, Y, Y, Y, Y, Y, Y, Y, Y, Y, Y, Y, Y, Y, Y, Y, trivial⟩
         · refine zF (is := [17]) (by kernel_rfl) (by simp) Y ⟨fun o ho => ?_, trivial⟩
           all_goals (cases ho)
           refine zr Y Y Y Y Y Y Y Y Y Y Y Y (by show 0 + 1 ≤ 1; omega) Y (by show (S.length + 1) * 24 ≤ _ ∧ _; omega) ?_ (by rw [hfix]; exact fun h => h) ?_
           · intro i' j' hi' hj'
             exact zDC seq0 3 zFV zMb S ⟨nf, (k : Int), f.pos.getD i 0⟩ _ (rowS3 ⟨nf, (k : Int), f.pos.getD i 0⟩) 0 i' j' hi' hj'
           refine zAp [some ⟨174, zBW (S ++ [(⟨nf, (k : Int), f.pos.getD i 0⟩ : RSeq)])⟩, some ⟨3, .ints .i64 f.pos⟩, some ⟨169, .box [.any, .sl 1 0 t.length]⟩, some ⟨123, zHN (f.first ++ [(nf, f.seqs.length)])⟩, some ⟨40, .box [.int .i64 kd, .int .i64 pl, .int .i64 nf, .ro (.ints .i64 nx) 0 nx.length, .ro (.strs od) 0 od.length, .str py]⟩] (z6.eqv (zCx seq0 3 zFV S ⟨nf, (k : Int), f.pos.getD i 0⟩ _ (rowS3 ⟨nf, (k : Int), f.pos.getD i 0⟩)) (z6.eqv (CEq.refl _) (z6.eqv (CEq.refl _) (z6.eqv (zOw _ _) (z6.eqv (CEq.refl _) z6.nil))))) ?_
           refine rn1 ?_
           refine zR 18 Y (by kernel_rfl) (by kernel_rfl) (by kernel_rfl) Y (zAk Y) Y ?_
           refine zR 19 Y (by kernel_rfl) (by kernel_rfl) (by kernel_rfl) Y (zO Y Y Y Y Y Y) Y ?_
           refine zF (is := [20]) (by kernel_rfl) (by simp) Y ⟨fun o ho => ?_, trivial⟩
           all_goals (cases ho)
           repeat (first | refine zB ?_ | refine zn ?_ | refine zAr rfl rfl rfl rfl rfl rfl rfl Nat.zero_lt_one ?_)
           refine zGj (zCy t.length ⟨S ++ [(⟨nf, (k : Int), f.pos.getD i 0⟩ : RSeq)], f.pos, f.first ++ [(nf, f.seqs.length)]⟩ [some ⟨40, .box [.int .i64 kd, .int .i64 pl, .int .i64 nf, .ro (.ints .i64 nx) 0 nx.length, .ro (.strs od) 0 od.length, .str py]⟩]) (z6.eqv (CEq.refl _) (z6.eqv (CEq.refl _) (z6.eqv (by show CEq (formB (S.length + 1) t.length) (formB (S ++ [(⟨nf, (k : Int), f.pos.getD i 0⟩ : RSeq)]).length t.length); rw [List.length_append]; exact CEq.refl _) (z6.refl _)))) ?_
           refine zh (by kernel_rfl) ?_
           refine rn5 ?_
           exact zM ⟨k + 1, by omega, by omega, ⟨Y, Y, Y, Y, Y, Y, Y, Y, Y, Y, Y, Y, Y, trivial⟩, by rw [hS2', hS2]⟩
       · have hke : k = nx.length := by omega
         subst hke
         refine rn5 ?_
         refine zBb (zCy t.length g [some ⟨40, .box [.int .i64 kd, .int .i64 pl, .int .i64 nf, .ro (.ints .i64 nx) 0 nx.length, .ro (.strs od) 0 od.length, .str py]⟩]) (by rw [hg]; rfl) ?_
         refine zi (ι := Nat) (fun k => [(0, .ro (zc t) 0 t.length), (1, .int .i64 p), (5, .ptr 2 0 0), (6, .mp 3), (7, .int .i64 (i : Nat)), (8, .ptr 4 0 0), (9, .bool true), (23, .ro (zc t) 0 t.length), (24, .int .i64 (t.length : Nat)), (25, .int .i64 (i : Nat)), (85, .ro (.ints .i64 nx) 0 nx.length), (86, .int .i64 (nx.length : Nat)), (87, .int .i64 (k : Nat))]) (fun k => zCy t.length ⟨g.seqs, zAx v (nx.take k) 0 g.pos, g.first⟩ [some ⟨40, .box [.int .i64 kd, .int .i64 pl, .int .i64 nf, .ro (.ints .i64 nx) 0 nx.length, .ro (.strs od) 0 od.length, .str py]⟩])
           (fun k => k ≤ nx.length) (fun k => nx.length - k) 0 ⟨⟨rfl, rfl, rfl, rfl, rfl, rfl, rfl, rfl, rfl, rfl, rfl, rfl, rfl, trivial⟩, rfl, Nat.zero_le _⟩ ?_
         intro k hk
         refine rn4 ?_
         refine zE Y (fun h5 => ?_) (fun h5 => ?_)
         · have hk' : k < nx.length := by omega
           obtain ⟨b1, b2⟩ := hbh _ (zAP 0 hk')
           have hAl : (zAx v (nx.take k) 0 g.pos).length = t.length := by rw [zDJ]; exact hgl
           have hAi : (zAx v (nx.take k) 0 g.pos).getD i 0 = g.pos.getD i 0 := zBm v 0 _ _ _ (fun c hc => by have := hbh c (List.mem_of_mem_take hc); omega)
           have hst : zAx v (nx.take (k + 1)) 0 g.pos = (zAx v (nx.take k) 0 g.pos).set (nx.getD k 0).toNat (v k) := by
             rw [zDA hk', zDc, List.length_take, Nat.min_eq_left hk, Nat.zero_add]
           have hvk := hvv k
           generalize hA2 : zAx v (nx.take (k + 1)) 0 g.pos = A2 at *
           generalize zAx v (nx.take k) 0 g.pos = A at *
           obtain ⟨x, hx⟩ := Int.eq_ofNat_of_zero_le (show 0 ≤ nx.getD k 0 by omega)
           have hxn : (nx.getD k 0).toNat = x := by rw [hx, Int.toNat_natCast]
           rw [hx] at b1 b2
           rw [hxn] at hst
           have hxl : x < A.length := by omega
           have hil : i < A.length := by omega
           have hxl2 : x < (A.set x (A.getD i 0)).length := by rw [List.length_set]; exact hxl
           refine rn6 ?_
           refine z7 14 (.int .i64 (x : Nat)) Y (AEq.of_eq (by rw [hx])) ?_
           refine zl (by kernel_rfl) ?_
           refine zt (fuel := 1) [0, 1, 2, 3, 4, 5, 6, 7, 8, 9, 10, 11, 12] [(0, .ro (zc t) 0 t.length), (1, .int .i64 p), (5, .ptr 2 0 0), (6, .mp 3), (7, .int .i64 (i : Nat)), (8, .ptr 4 0 0), (9, .bool true), (23, .ro (zc t) 0 t.length), (24, .int .i64 (t.length : Nat)), (25, .int .i64 (i : Nat)), (85, .ro (.ints .i64 nx) 0 nx.length), (86, .int .i64 (nx.length : Nat)), (87, .int .i64 (k : Nat)), (13, .int .i64 (k : Nat)), (14, .int .i64 (x : Nat))] ⟨Y, Y, Y, Y, Y, Y, Y, Y, Y, Y, Y, Y, Y, Y, Y, trivial⟩ (by kernel_rfl) (by decide) Y Y ?_
           refine zU Y Y (zH Y) ?_
           refine zU Y Y (zAk Y) ?_
           refine zU Y Y (zO Y Y Y Y Y Y) ?_
           refine zU Y Y (zS Y Y Y Y Y) ?_
           refine zU Y Y (zH Y) ?_
           refine zU Y Y (zH Y) ?_
           refine zU Y Y (zAk Y) ?_
           refine zU Y Y (zO Y Y Y Y Y Y) ?_
           refine zU Y Y (zS Y Y Y Y Y) ?_
           refine zU Y Y (zH Y) ?_
           refine zU Y Y (zb Y Y Y Y Y (by first | (simp only [Nat.zero_add, Int.toNat_natCast, Int.toNat_zero]; exact Y) | exact Y) (by omega)) ?_
           refine zU Y Y (zAQ Y Y Y Y (by first | assumption | omega)) ?_
           refine zU Y Y (zb Y Y Y Y Y (by first | (simp only [Nat.zero_add, Int.toNat_natCast, Int.toNat_zero]; exact Y) | exact Y) (by omega)) ?_
           refine zAc ?_
           refine zF (is := [13]) (by kernel_rfl) (by simp) Y ⟨fun o ho => ?_, trivial⟩
           all_goals (cases ho)
           repeat (first | refine zB ?_ | refine zn ?_ | refine zAr rfl rfl rfl rfl rfl rfl rfl (by first | assumption | (show _ < List.length _; first | assumption | omega)) ?_)
           refine zGj (zCy t.length ⟨g.seqs, A.set x (A.getD i 0), g.first⟩ [some ⟨40, .box [.int .i64 kd, .int .i64 pl, .int .i64 nf, .ro (.ints .i64 nx) 0 nx.length, .ro (.strs od) 0 od.length, .str py]⟩]) (z6.refl _) ?_
           refine zh (by kernel_rfl) ?_
           refine rn5 ?_
           refine zl (by kernel_rfl) ?_
           refine zt (fuel := 1) [0, 1, 2, 3, 4, 5, 6, 7, 8, 9, 10, 11] [(0, .ro (zc t) 0 t.length), (1, .int .i64 p), (5, .ptr 2 0 0), (6, .mp 3), (7, .int .i64 (i : Nat)), (8, .ptr 4 0 0), (9, .bool true), (23, .ro (zc t) 0 t.length), (24, .int .i64 (t.length : Nat)), (25, .int .i64 (i : Nat)), (85, .ro (.ints .i64 nx) 0 nx.length), (86, .int .i64 (nx.length : Nat)), (87, .int .i64 (k : Nat)), (13, .int .i64 (k : Nat)), (14, .int .i64 (x : Nat))] ⟨Y, Y, Y, Y, Y, Y, Y, Y, Y, Y, Y, Y, Y, Y, Y, trivial⟩ (by kernel_rfl) (by decide) Y Y ?_
           refine zU Y Y (zH Y) ?_
           refine zU Y Y (zAk Y) ?_
           refine zU Y Y (zO Y Y Y Y Y Y) ?_
           refine zU Y Y (zS Y Y Y Y Y) ?_
           refine zU Y Y (zH Y) ?_
           refine zU Y Y (zH Y) ?_
           refine zU Y Y (zO Y Y Y Y Y Y) ?_
           refine zU Y Y (zS Y Y Y Y Y) ?_
           refine zU Y Y (zBh Y (.int Y) Y Y Y Y (zI6 g.first) jj i1 i2) ?_
           refine zU Y Y (zH Y) ?_
           refine zU Y Y (zDO Y Y (by omega)) ?_
           refine zU Y Y (zb Y Y Y Y Y (by first | (simp only [Nat.zero_add, Int.toNat_natCast, Int.toNat_zero]; exact Y) | exact Y) (by omega)) ?_
           refine zAc ?_
           refine zF (is := [12]) (by kernel_rfl) (by simp) Y ⟨fun o ho => ?_, trivial⟩
           all_goals (cases ho)
           repeat (first | refine zB ?_ | refine zn ?_ | refine zAr rfl rfl rfl rfl rfl rfl rfl (by first | assumption | (show _ < List.length _; first | assumption | omega)) ?_)
           refine zh (by kernel_rfl) ?_
           refine rn5 ?_
           exact zM ⟨k + 1, by omega, by omega, ⟨Y, Y, Y, Y, Y, Y, Y, Y, Y, Y, Y, Y, Y, trivial⟩, by rw [hA2, hst, hvk]; exact congrArg (fun l => zCy t.length ⟨g.seqs, l, g.first⟩ [some ⟨40, .box [.int .i64 kd, .int .i64 pl, .int .i64 nf, .ro (.ints .i64 nx) 0 nx.length, .ro (.strs od) 0 od.length, .str py]⟩]) (List.set_set ..)⟩
         · have hke : k = nx.length := by omega
           subst hke
           rw [List.take_length]
           repeat (first | refine zd ?_ | refine zAj ?_ | refine zp ?_ | refine zo ?_ | refine zAB ?_)
           refine zA ?_
           refine zAb (zCy t.length ⟨g.seqs, zAx v nx 0 g.pos, g.first⟩ []) [some ⟨40, .box [.int .i64 kd, .int .i64 pl, .int .i64 nf, .ro (.ints .i64 nx) 0 nx.length, .ro (.strs od) 0 od.length, .str py]⟩] [(0, .ro (zc t) 0 t.length), (1, .int .i64 p), (5, .ptr 2 0 0), (6, .mp 3), (23, .ro (zc t) 0 t.length), (24, .int .i64 (t.length : Nat)), (25, .int .i64 (i : Nat))] Y ⟨Y, Y, Y, Y, Y, Y, Y, trivial⟩ (fun h hh => by rw [hfix] at hh; exact absurd hh id) (zHv _ _) Y ?_
           refine rn3 ?_
           exact zM ⟨i + 1, by omega, by omega, ⟨Y, Y, Y, Y, Y, Y, Y, trivial⟩, by rw [hnx]⟩
 · have hie : i = t.length := by omega
   subst hie
   refine rn5 ?_
   exact zI hR Y ⟨Y, Y⟩
end Go.Proofs.YtnkealfaldjipaaGreatDoor
namespace Go.Ax.Rt
open Go.Ax.Bg Go.Ax.Idx
structure TChoice where
 info : Int
 odds : List zBI
 deriving DecidableEq
def ch0 : TChoice := ⟨0, []⟩
abbrev zAL := List TChoice
def zEh (I Z : List Int) : Nat → zAL → Int
 | _, [] => 0
 | k, c :: r => if c.info ≠ I.getD k 0 ∨ ((c.odds.length : Nat) : Int) ≠ Z.getD k 0 then 3 else if zC5 c.odds ≠ 0 then zC5 c.odds else zEh I Z (k + 1) r
/-- recall.Strategy -/
def zAl (t : zQ) (p : Int) (s : zAL) : Int := if s.length ≠ (zJ t p).length then 3 else zEh (zJ t p) (zz t p) 0 s
theorem zMt {I Z : List Int} {s : zAL} {k : Nat} (hk : k < s.length) : zEh I Z k (s.drop k) = if (s.getD k ch0).info ≠ I.getD k 0 ∨ (((s.getD k ch0).odds.length : Nat) : Int) ≠ Z.getD k 0 then 3 else if zC5 (s.getD k ch0).odds ≠ 0 then zC5 (s.getD k ch0).odds else zEh I Z (k + 1) (s.drop (k + 1)) := by
 rw [List.drop_eq_getElem_cons hk, ← zAC ch0 hk, zEh]
theorem zJL {I Z : List Int} : ∀ {s : zAL} {k : Nat}, zEh I Z k s = 0 → ∀ j, j < s.length → (s.getD j ch0).info = I.getD (k + j) 0 ∧ (((s.getD j ch0).odds.length : Nat) : Int) = Z.getD (k + j) 0 ∧ zC5 (s.getD j ch0).odds = 0
 | [], k, h, j, hj => absurd hj (Nat.not_lt_zero _)
 | c :: r, k, h, j, hj => by
   rw [zEh] at h
   split at h
   · cases h
   rename_i h1
   simp only [not_or, Classical.not_not] at h1
   split at h
   · rename_i h2; exact absurd h h2
   rename_i h2
   cases j with
   | zero => exact ⟨h1.1, h1.2, Classical.not_not.1 h2⟩
   | succ j =>
     have := zJL h j (by simpa using hj)
     rw [show k + (j + 1) = k + 1 + j by omega]
     exact this
structure OkS (t : zQ) (p : Int) (s : zAL) : Prop where
 infos : s.map TChoice.info = zJ t p
 wid : ∀ j, j < s.length → (s.getD j ch0).odds.length = zT t p (s.getD j ch0).info
 odds : ∀ c ∈ s, zC5 c.odds = 0
theorem zEg {t : zQ} {p : Int} {s : zAL} (h : zAl t p s = 0) : OkS t p s := by
 unfold zAl at h
 split at h
 · cases h
 rename_i h1
 have h1 := Classical.not_not.1 h1
 have h2 := zJL h
 have e1 : ∀ j, j < s.length → (s.getD j ch0).info = (zJ t p).getD j 0 := fun j hj => by
   have := (h2 j hj).1; rwa [Nat.zero_add] at this
 refine ⟨?_, fun j hj => ?_, fun c hc => ?_⟩
 · apply List.ext_getElem (by rw [List.length_map]; exact h1)
   intro j hj1 hj2
   have hj : j < s.length := by simpa using hj1
   have := e1 j hj
   rw [zAC ch0 hj, zAC 0 hj2] at this
   rw [List.getElem_map]; exact this
 · have := (h2 j hj).2.1
   rw [Nat.zero_add] at this
   have hj2 : j < (zJ t p).length := by omega
   unfold zz at this
   rw [zBB _ _ 0 _ _ hj2, ← e1 j hj] at this
   omega
 · obtain ⟨j, hj, rfl⟩ := List.getElem_of_mem hc
   have := (h2 j hj).2.2
   rwa [zAC ch0 hj] at this
theorem zJx : ∀ (qs : List Rat) (acc : Rat), (zId acc qs).2 = 0 → (zId acc qs).1 = zAK acc qs
 | [], acc, _ => rfl
 | q :: r, acc, h => by
   rw [zId] at h ⊢
   rw [zAK]
   split at h
   · rename_i hf
     rw [if_pos hf]
     exact zJx r _ h
   · cases h
theorem zBu {l : List zBI} (h : zC5 l = 0) : l.length ≤ 256 ∧ (∀ s ∈ l, zDa s = 0) ∧ zAK 0 (l.map zAT) = 1 ∧ ∀ q ∈ l.map zAT, 0 ≤ q ∧ D 2000 q := by
 unfold zC5 at h
 split at h
 case isFalse h1 => exact absurd h h1
 rename_i h1
 split at h
 case isFalse => cases h
 rename_i h2
 unfold posE at h1
 split at h1
 · cases h1
 rename_i h3
 have h4 : l.any zDD = false := by
   cases hb : l.any zDD
   · rfl
   · exact absurd ⟨h1, hb⟩ h3
 unfold zHb at h1 h2
 split at h1
 · cases h1
 rename_i h5
 split at h1
 case isFalse h6 => exact absurd h1 h6
 rename_i h6
 rw [if_neg h5, if_pos h6] at h2
 have h7 := zGc h6
 refine ⟨by omega, h7, ?_, fun q hq => ?_⟩
 · have := zJx _ _ h1
   rw [this] at h2
   unfold cmpQ at h2
   split at h2
   · cases h2
   · split at h2
     · rename_i e; exact e
     · cases h2
 · obtain ⟨s, hs, rfl⟩ := List.mem_map.1 hq
   have hn := (zL8 (h7 s hs)).1 (by rw [List.any_eq_false] at h4; simpa using h4 s hs)
   refine ⟨hn, ?_⟩
   have hf := (IsQ.self (h7 s hs)).fit
   unfold zBP at hf
   rw [Bool.and_eq_true, decide_eq_true_eq, decide_eq_true_eq] at hf
   exact dig_D hf.1 hf.2
/-- the probabilities by information sets -/
def zCZ (s : zAL) (x : Int) : List Rat := ((s.find? (fun c => decide (c.info = x))).map (fun c => c.odds.map zAT)).getD []
theorem zKY {s : zAL} (hn : (s.map TChoice.info).Nodup) {c : TChoice} (hc : c ∈ s) : zCZ s c.info = c.odds.map zAT := by
 unfold zCZ
 induction s with
 | nil => simp at hc
 | cons a r ih =>
   rw [List.map_cons, List.nodup_cons] at hn
   rw [List.find?_cons]
   rcases List.mem_cons.1 hc with e | q
   · subst e; simp
   · have : ¬ a.info = c.info := fun e => hn.1 (List.mem_map.2 ⟨c, q, e.symm⟩)
     rw [decide_eq_false this]
     exact ih hn.2 q
theorem OkS.at' {t : zQ} {p : Int} {s : zAL} (h : OkS t p s) {x : Int} (hx : x ∈ zJ t p) : ∃ c ∈ s, c.info = x ∧ zCZ s x = c.odds.map zAT ∧ c.odds.length = zT t p x ∧ zC5 c.odds = 0 := by
 have hn : (s.map TChoice.info).Nodup := by rw [h.infos]; exact zBz t p
 rw [← h.infos] at hx
 obtain ⟨c, hc, rfl⟩ := List.mem_map.1 hx
 obtain ⟨j, hj, e⟩ := List.getElem_of_mem hc
 have hw := h.wid j hj
 rw [zAC ch0 hj, e] at hw
 exact ⟨c, hc, Y, zKY hn hc, hw, h.odds c hc⟩
theorem OkS.strat {t : zQ} {p : Int} {s : zAL} (h : OkS t p s) : Strat t p (zCZ s) 2000 := by
 refine ⟨fun x hx => ?_, fun x hx => ?_, fun x hx => ?_, fun x hx => ?_⟩ <;> obtain ⟨c, c1, c2, c3, c4, c5⟩ := h.at' hx <;> obtain ⟨o1, o2, o3, o4⟩ := zBu c5 <;> rw [c3]
 · rw [List.length_map]; exact c4
 · exact o3
 · exact fun q hq => (o4 q hq).1
 · exact fun q hq => (o4 q hq).2
/-- with short texts -/
theorem OkS.strat12 {t : zQ} {p : Int} {s : zAL} (h : OkS t p s) (hs : ∀ c ∈ s, ∀ r ∈ c.odds, r.length ≤ 12) : Strat t p (zCZ s) 12 := by
 have g := h.strat
 refine ⟨g.len, g.sum, g.nn, fun x hx q hq => ?_⟩
 obtain ⟨c, c1, c2, c3, c4, c5⟩ := h.at' hx
 obtain ⟨o1, o2, o3, o4⟩ := zBu c5
 rw [c3] at hq
 obtain ⟨s', hs', rfl⟩ := List.mem_map.1 hq
 exact (IsQ.self (o2 s' hs')).dig (hs c c1 s' hs') (by decide)
end Go.Ax.Rt
namespace Go.Proofs.YtnkealfaldjipaaGreatDoor
open Go.Ax Go.Ax.Bg Go.Ax.Rt Go.RowKit Go.Ax.Idx Go.Ax.Cd
attribute [local irreducible] Ax zBE QOp zV zAz
set_option maxRecDepth 100000
set_option maxHeartbeats 4000000
theorem zMH {t : zQ} {p : Int} (h : zAZ t p = 0) : Valid t := by
 unfold zAZ at h
 split at h
 · rename_i h1; exact absurd h h1
 · rename_i h1; exact zH0 (Classical.not_not.1 h1)
def zKa (t : zQ) (p : Int) : Bool × Int := if zAZ t p ≠ 0 then (false, zAZ t p) else (zBL t p, 0)
theorem zOP (t : zQ) (p : Int) (hT : ShortT t) : zX Tryz.prog 37 [.ro (zc t) 0 t.length, .int .i64 p] (.tup [.bool (zKa t p).1, .int .i64 (zKa t p).2]) := by
 have cp := zIm t p hT
 refine zV.value0 (zG (P := Tryz.prog) (fn := Tryz.f37) Y Y (by kernel_rfl) Y (fun c hR hfix => ?_)) (fix := fun _ => False) (fun _ h => h) Y Y
 unfold zKa at hR
 refine rn0 ?_
 refine zC Y Y Y cp ?_
 refine rn3 ?_
 refine zE Y (fun h1 => ?_) (fun h1 => ?_)
 · rw [if_pos h1] at hR
   refine rn2 ?_
   exact zI hR Y Y
 rw [if_neg h1] at hR
 have ci := zIe t p hT (zMH (Classical.not_not.1 h1))
 refine rn1 ?_
 refine zC Y Y Y ci ?_
 refine rn0 ?_
 exact zI hR Y Y
def zFa (t : zQ) (p : Int) : (List Int × List Int) × Int := if zAZ t p ≠ 0 then (([], []), zAZ t p) else ((zJ t p, zz t p), 0)
theorem zJ6 (t : zQ) (p : Int) (hT : ShortT t) : zX Tryz.prog 102 [.ro (zc t) 0 t.length, .int .i64 p] (.tup [.ro (.ints .i64 (zFa t p).1.1) 0 (zFa t p).1.1.length, .ro (.ints .i64 (zFa t p).1.2) 0 (zFa t p).1.2.length, .int .i64 (zFa t p).2]) := by
 have cp := zIm t p hT
 have cs := zIF t p hT.len
 refine zV.value0 (zG (P := Tryz.prog) (fn := Tryz.f102) Y Y (by kernel_rfl) Y (fun c hR hfix => ?_)) (fix := fun _ => False) (fun _ h => h) Y Y
 unfold zFa at hR
 refine rn0 ?_
 refine zC Y Y Y cp ?_
 refine rn3 ?_
 refine zE Y (fun h1 => ?_) (fun h1 => ?_)
 · rw [if_pos h1] at hR
   repeat (first | refine zD (zH rfl) ?_ | refine zD (zL rfl) ?_ | refine zB ?_ | refine zA ?_ | refine zW ?_ | refine zK rfl ?_)
   refine z7 4 (.ro (.ints .i64 []) 0 0) Y AEq.nil ?_
   refine z7 5 (.ro (.ints .i64 []) 0 0) Y AEq.nil ?_
   refine rn2 ?_
   exact zI hR Y Y
 rw [if_neg h1] at hR
 refine rn1 ?_
 refine zC Y Y Y cs ?_
 refine rn2 ?_
 exact zI hR Y Y
end Go.Proofs.YtnkealfaldjipaaGreatDoor
namespace Go.Proofs.YtnkealfaldjipaaGreatDoor
open Go.Ax Go.Ax.Bg Go.Ax.Rt Go.RowKit Go.Ax.Idx Go.Ax.Cd
set_option maxRecDepth 100000
set_option maxHeartbeats 4000000
def cellsC (c : TChoice) : List AV := [.int .i64 c.info, .ro (.strs c.odds) 0 c.odds.length]
abbrev zm (s : zAL) : Cells := zCg ch0 2 cellsC s
structure ShortC (c : TChoice) : Prop where
 odds : c.odds.length ≤ 9223372036854775807
 each : ∀ s ∈ c.odds, s.length ≤ 9223372036854775807
theorem rdNode {H : Type} {enc : TypeId × Value → H} {W : World} : Rd enc Tryz.prog W 40 6 zBn ShortN :=
 (Rd.struct Tryz.underlying40 (by kernel_rfl) (RdF.cons rfl rfl (Rd.int Tryz.underlying3) (RdF.cons rfl rfl (Rd.int Tryz.underlying3) (RdF.cons rfl rfl (Rd.int Tryz.underlying3) (RdF.cons rfl rfl (Rd.ints Tryz.underlying38 (by kernel_rfl) Tryz.underlying3) (RdF.cons rfl rfl (Rd.strs Tryz.underlying35 (by kernel_rfl) Tryz.underlying27) (RdF.cons rfl rfl (Rd.str Tryz.underlying27) RdF.nil))))))).map
   (fun a => (⟨a.1, a.2.1, a.2.2.1, a.2.2.2.1, a.2.2.2.2.1, a.2.2.2.2.2.1⟩ : TNode)) (fun a h => ⟨h.2.2.2.1.1, h.2.2.2.2.1.1, h.2.2.2.2.1.2, h.2.2.2.2.2.1⟩) (fun a => rfl) (fun a i hi => AEq.rfl')
theorem zNA {H : Type} {enc : TypeId × Value → H} {W : World} : Rd enc Tryz.prog W 67 2 cellsC ShortC :=
 (Rd.struct Tryz.underlying67 (by kernel_rfl) (RdF.cons rfl rfl (Rd.int Tryz.underlying3) (RdF.cons rfl rfl (Rd.strs Tryz.underlying35 (by kernel_rfl) Tryz.underlying27) RdF.nil))).map
   (fun a => (⟨a.1, a.2.1⟩ : TChoice)) (fun a h => ⟨h.2.1.1, h.2.1.2⟩) (fun a => rfl) (fun a i hi => AEq.rfl')
end Go.Proofs.YtnkealfaldjipaaGreatDoor
namespace Go.Proofs.YtnkealfaldjipaaGreatDoor
open Go.Ax Go.Ax.Bg Go.Ax.Rt Go.RowKit Go.Ax.Idx Go.Ax.Cd
attribute [local irreducible] Ax zBE QOp zV zAz
set_option maxRecDepth 100000
set_option maxHeartbeats 4000000
structure ShortS (s : zAL) : Prop where
 len : s.length ≤ 9223372036854775807
 each : ∀ c ∈ s, ShortC c
theorem zED (t : zQ) (p : Int) (s : zAL) (hlen : t.length ≤ 9223372036854775807) (hs : ShortS s) : zX Tryz.prog 38 [.ro (zc t) 0 t.length, .int .i64 p, .ro (zm s) 0 s.length] (.int .i64 (zAl t p s)) := by
 have cs := zIF t p hlen
 have hsl := hs.len
 have hzl : (zz t p).length = (zJ t p).length := by unfold zz; simp
 refine zV.value0 (zG (P := Tryz.prog) (fn := Tryz.f38) Y Y (by kernel_rfl) Y (fun c hR hfix => ?_)) (fix := fun _ => False) (fun _ h => h) Y Y
 unfold zAl at hR
 generalize zJ t p = I at *
 generalize zz t p = Z at *
 refine rn0 ?_
 refine zC Y Y Y cs ?_
 refine rn3 ?_
 refine zE Y (fun h1 => ?_) (fun h1 => ?_)
 · rw [if_pos (by omega)] at hR
   refine rn2 ?_
   exact zI hR Y Y
 rw [if_neg (by omega)] at hR
 have hl : s.length = I.length := by omega
 refine rn3 ?_
 refine zi (ι := Nat) (fun i => [(0, .ro (zc t) 0 t.length), (7, .ro (.ints .i64 I) 0 I.length), (8, .ro (.ints .i64 Z) 0 Z.length), (23, .ro (zm s) 0 s.length), (24, .int .i64 (s.length : Nat)), (25, .int .i64 (i : Nat))]) (fun _ => [])
   (fun i => i ≤ s.length ∧ zEh I Z 0 s = zEh I Z i (s.drop i)) (fun i => s.length - i) 0 ⟨⟨rfl, rfl, rfl, rfl, rfl, rfl, trivial⟩, rfl, Nat.zero_le _, by rw [List.drop_zero]⟩ ?_
 rintro i ⟨hi, hE⟩
 refine rn4 ?_
 refine zE Y (fun h => ?_) (fun h => ?_)
 · have hi' : i < s.length := by omega
   have hc := hs.each _ (zBR ch0 hi')
   rw [zMt hi'] at hE
   have co := zMM (s.getD i ch0).odds hc.odds hc.each
   have hol := hc.odds
   refine rn6 ?_
   refine zN 29 (.agg (cellsC (s.getD i ch0))) Y (AEq.of_eq Y) ?_
   generalize s.getD i ch0 = x at *
   obtain ⟨nf, od⟩ := x
   simp only at *
   refine zP (c' := .box [.int .i64 nf, .ro (.strs od) 0 od.length]) Y Y Y Y Y Nat.zero_lt_one Y Y (fun i' j' hi' hj' => ?_) ?_
   · rw [if_pos (Nat.lt_one_iff.1 hi')]; rfl
   have hiI : i < I.length := by omega
   have hiZ : i < Z.length := by omega
   refine rn0 ?_
   refine zl (by kernel_rfl) ?_
   by_cases g1 : nf = I.getD i 0
   case neg =>
     rw [if_pos (.inl g1)] at hE
     rw [hE] at hR
     refine zt (fuel := 0) [0, 1, 2, 3, 4, 5, 6, 7, 8, 9, 10, 11, 12, 13, 14, 15, 16] [(0, .ro (zc t) 0 t.length), (7, .ro (.ints .i64 I) 0 I.length), (8, .ro (.ints .i64 Z) 0 Z.length), (23, .ro (zm s) 0 s.length), (24, .int .i64 (s.length : Nat)), (25, .int .i64 (i : Nat)), (9, .int .i64 (i : Nat)), (10, .ptr 0 0 0)] ⟨Y, Y, Y, Y, Y, Y, Y, Y, trivial⟩ (by kernel_rfl) (by decide) Y Y ?_
     refine zU Y Y (zO Y Y Y Y Y Y) ?_
     refine zU Y Y (zS Y Y Y Y Y) ?_
     refine zU Y Y (zH Y) ?_
     refine zU Y Y (zH Y) ?_
     refine zU Y Y (zf Y Y Y Y (by first | (simp only [Nat.zero_add, Int.toNat_natCast, Int.toNat_zero]; exact Y) | exact Y) (by omega)) ?_
     refine zU Y Y (zAn Y Y Y) ?_
     refine zU Y Y (zD6 Y Y) ?_
     rw [decide_eq_true g1]
     refine zU Y Y (zH Y) ?_
     refine zCe Y Y Y Y Y ?_
     refine zCe Y Y Y Y Y ?_
     refine zCe Y Y Y Y Y ?_
     refine zCe Y Y Y Y Y ?_
     refine zCe Y Y Y Y Y ?_
     refine zCe Y Y Y Y Y ?_
     refine zCe Y Y Y Y Y ?_
     refine zCe Y Y Y Y Y ?_
     refine zU Y Y (zAg Y Y) ?_
     refine zAc ?_
     refine zh (by kernel_rfl) ?_
     refine rn6 ?_
     exact zI hR Y Y
   refine zt (fuel := 0) [0, 1, 2, 3, 4, 5, 6, 7, 8, 9, 10, 11, 12, 13, 14, 15, 16] [(0, .ro (zc t) 0 t.length), (7, .ro (.ints .i64 I) 0 I.length), (8, .ro (.ints .i64 Z) 0 Z.length), (23, .ro (zm s) 0 s.length), (24, .int .i64 (s.length : Nat)), (25, .int .i64 (i : Nat)), (9, .int .i64 (i : Nat)), (10, .ptr 0 0 0)] ⟨Y, Y, Y, Y, Y, Y, Y, Y, trivial⟩ (by kernel_rfl) (by decide) Y Y ?_
   refine zU Y Y (zO Y Y Y Y Y Y) ?_
   refine zU Y Y (zS Y Y Y Y Y) ?_
   refine zU Y Y (zH Y) ?_
   refine zU Y Y (zH Y) ?_
   refine zU Y Y (zf Y Y Y Y (by first | (simp only [Nat.zero_add, Int.toNat_natCast, Int.toNat_zero]; exact Y) | exact Y) (by omega)) ?_
   refine zU Y Y (zAn Y Y Y) ?_
   refine zU Y Y (zD6 Y Y) ?_
   rw [decide_eq_false (fun q => q g1)]
   refine zU Y Y (zH Y) ?_
   refine zD7 Y Y Y Y (zO Y Y Y Y Y Y) ?_
   refine zD7 Y Y Y Y (zS Y Y Y Y Y) ?_
   refine zD7 Y Y Y Y (zA6 Y Y Y) ?_
   refine zD7 Y Y Y Y (zH Y) ?_
   refine zD7 Y Y Y Y (zH Y) ?_
   refine zD7 Y Y Y Y (zf Y Y Y Y (by first | (simp only [Nat.zero_add, Int.toNat_natCast, Int.toNat_zero]; exact Y) | exact Y) (by omega)) ?_
   refine zD7 Y Y Y Y (zAn Y Y Y) ?_
   refine zD7 Y Y Y Y (zD6 Y Y) ?_
   refine zU Y Y (zAg Y Y) ?_
   refine zAc ?_
   refine zh (by kernel_rfl) ?_
   repeat (refine zA ?_)
   refine zE Y (fun g2 => ?_) (fun g2 => ?_)
   · rw [if_pos (.inr g2)] at hE
     rw [hE] at hR
     refine rn6 ?_
     exact zI hR Y Y
   rw [if_neg (by
     rintro (q | q)
     · exact q g1
     · exact g2 q)] at hE
   refine rn5 ?_
   refine zC Y Y Y co ?_
   refine rn3 ?_
   refine zE Y (fun g3 => ?_) (fun g3 => ?_)
   · rw [if_pos g3] at hE
     rw [hE] at hR
     refine rn6 ?_
     exact zI hR Y Y
   rw [if_neg g3] at hE
   repeat (first | refine zd ?_ | refine zk ?_)
   refine zA ?_
   refine zAb [] [some ⟨67, .box [.int .i64 nf, .ro (.strs od) 0 od.length]⟩] [(0, .ro (zc t) 0 t.length), (7, .ro (.ints .i64 I) 0 I.length), (8, .ro (.ints .i64 Z) 0 Z.length), (23, .ro (zm s) 0 s.length), (24, .int .i64 (s.length : Nat)), (25, .int .i64 (i : Nat))] Y ⟨Y, Y, Y, Y, Y, Y, trivial⟩ (fun h hh => by rw [hfix] at hh; exact absurd hh id) (fun h o ho => by simp at ho) Y ?_
   refine rn3 ?_
   exact zM ⟨i + 1, ⟨by omega, hE⟩, by omega, ⟨Y, Y, Y, Y, Y, Y, trivial⟩, Y⟩
 · have hie : i = s.length := by omega
   subst hie
   rw [List.drop_length] at hE
   rw [hE] at hR
   refine rn5 ?_
   exact zI hR Y Y
end Go.Proofs.YtnkealfaldjipaaGreatDoor
namespace Go.Ax
variable [Pins]
open Go.RowKit
section
variable {P : Program} {fn : Func} {c : Ctx} {fr : Fr} {H : zZ} {k : List It}
/-- A constant of which nothing is said (a map that is nil). -/
theorem zH1 {ind : Bool} {d : Option Nat} {ty : TypeId} {pos : String} {after : Array Edge} {g : Option (Nat × Bool)} {x : Operand} : QOp ind P fn c fr H ⟨d, .assign x, ty, pos, after, g⟩ .any :=
 fun _ a _ _ _ => ⟨a.eval x, .any _ _, fun _ _ => rfl⟩
end
end Go.Ax
namespace Go.Proofs.YtnkealfaldjipaaGreatDoor
open Go.Ax Go.Ax.Bg Go.Ax.Rt Go.RowKit Go.Ax.Idx Go.Ax.Cd
attribute [local irreducible] Ax zBE QOp zV zAz
set_option maxRecDepth 100000
set_option maxHeartbeats 4000000
def keyC (c : TChoice) : AV := .int .i64 c.info
def valC (c : TChoice) : AV := .ro (qsC (c.odds.map zAT)) 0 (c.odds.map zAT).length
abbrev oddC (s : zAL) : Cells := .mp (s.map keyC) (s.map valC)
theorem keysC (s : zAL) : ∀ x ∈ s.map keyC, zDL (.int .i64) x = true := by
 intro x hx
 obtain ⟨e, _, rfl⟩ := List.mem_map.1 hx
 rfl
theorem zRg (s : zAL) (n : Nat) : zA2 n (oddC s) := by
 exact ⟨zCO (fun _ => rfl) s, zCO (fun _ => rfl) s⟩
theorem zOC (s : zAL) : zAA (oddC s) := ⟨zE3 (fun _ => rfl) s, zE3 (fun _ => rfl) s⟩
theorem odds_ok' (s : zAL) (hs : ShortS s) (hn : (s.map TChoice.info).Nodup) (hv : ∀ c ∈ s, c.odds.length ≤ 256 ∧ ∀ r ∈ c.odds, zDa r = 0) : zX Tryz.prog 132 [.ro (zm s) 0 s.length] (.rom (s.map keyC) (s.map valC)) := by
 have hsl := hs.len
 refine zV.value (K := fun r H => r = .mp 0 ∧ H = [some ⟨209, oddC s⟩]) (zG (P := Tryz.prog) (fn := Tryz.f132) Y Y (by kernel_rfl) Y (fun c hR hfix => ?_)) (fix := fun _ => False) (fun _ h => h) Y ?_
 · refine rn0 ?_
   refine zD zH1 ?_
   refine rn0 ?_
   refine zE6 ?_
   refine rn3 ?_
   refine zi (ι := Nat) (fun i => [(3, .mp 0), (7, .ro (zm s) 0 s.length), (8, .int .i64 (s.length : Nat)), (9, .int .i64 (i : Nat))]) (fun i => [some ⟨209, oddC (s.take i)⟩])
     (fun i => i ≤ s.length) (fun i => s.length - i) 0 ⟨⟨rfl, rfl, rfl, rfl, trivial⟩, rfl, Nat.zero_le _⟩ ?_
   intro i hi
   refine rn4 ?_
   refine zE Y (fun h => ?_) (fun h => ?_)
   · have hi' : i < s.length := by omega
     have hm := zBR ch0 hi'
     have hc := hs.each _ hm
     obtain ⟨v1, v2⟩ := hv _ hm
     have cin := zOQ (s.getD i ch0).odds (by omega) (fun r hr => ⟨hc.each r hr, v2 r hr⟩)
     have hol := hc.odds
     have htk : s.take (i + 1) = s.take i ++ [s.getD i ch0] := by rw [List.take_succ_eq_append_getElem hi', zAC ch0 hi']
     have hnew : AV.int .i64 (s.getD i ch0).info ∉ (s.take i).map keyC := by
       intro hmem
       obtain ⟨c, hc1, hc2⟩ := List.mem_map.1 hmem
       injection hc2 with e1 e2
       obtain ⟨j, hj, rfl⟩ := List.getElem_of_mem hc1
       rw [List.length_take] at hj
       rw [List.getElem_take] at e2
       have hp := List.pairwise_iff_getElem.1 hn j i (by simpa using (show j < s.length by omega)) (by simpa using hi') (by omega)
       rw [List.getElem_map, List.getElem_map] at hp
       rw [zAC ch0 hi'] at e2
       exact hp e2
     refine rn6 ?_
     refine zN 12 (.agg (cellsC (s.getD i ch0))) Y (AEq.of_eq Y) ?_
     generalize s.getD i ch0 = x at *
     obtain ⟨nf, od⟩ := x
     simp only at *
     refine zP (c' := .box [.int .i64 nf, .ro (.strs od) 0 od.length]) Y Y Y Y Y Nat.zero_lt_one Y Y (fun i' j' hi' hj' => ?_) ?_
     · rw [if_pos (Nat.lt_one_iff.1 hi')]; rfl
     refine rn0 ?_
     refine zl (by kernel_rfl) ?_
     refine zt (fuel := 1) [0, 1, 2, 3, 4, 5] [(3, .mp 0), (5, .ptr 1 0 0), (7, .ro (zm s) 0 s.length), (8, .int .i64 (s.length : Nat)), (9, .int .i64 (i : Nat))] ⟨Y, Y, Y, Y, Y, trivial⟩ (by kernel_rfl) (by decide) Y Y ?_
     refine zU Y Y (zH Y) ?_
     refine zU Y Y (zO Y Y Y Y Y Y) ?_
     refine zU Y Y (zS Y Y Y Y Y) ?_
     refine zU Y Y (zO Y Y Y Y Y Y) ?_
     refine zU Y Y (zS Y Y Y Y Y) ?_
     refine zBc Y Y Y Y Y cin ?_
     refine zAc ?_
     refine zF (is := [6]) (by kernel_rfl) (by simp) Y ⟨fun o ho => ?_, trivial⟩
     all_goals (cases ho)
     refine zCq Y (.int Y) Y Y Y Y Y (keysC _) hnew ?_
     refine rn1 ?_
     refine zh (by kernel_rfl) ?_
     repeat (refine zd ?_)
     refine zA ?_
     refine zBb [some ⟨209, oddC (s.take (i + 1))⟩, some ⟨67, .box [.int .i64 nf, .ro (.strs od) 0 od.length]⟩] (by rw [htk]; unfold oddC; rw [List.map_append, List.map_append]; rfl) ?_
     refine zAb [some ⟨209, oddC (s.take (i + 1))⟩] [some ⟨67, .box [.int .i64 nf, .ro (.strs od) 0 od.length]⟩] [(3, .mp 0), (7, .ro (zm s) 0 s.length), (8, .int .i64 (s.length : Nat)), (9, .int .i64 (i : Nat))] Y ⟨Y, Y, Y, Y, trivial⟩ (fun h hh => by rw [hfix] at hh; exact absurd hh id) (zBs (zRg _ _)) Y ?_
     refine rn3 ?_
     exact zM ⟨i + 1, by omega, by omega, ⟨Y, Y, Y, Y, trivial⟩, Y⟩
   · have hie : i = s.length := by omega
     subst hie
     rw [List.take_length]
     refine rn5 ?_
     exact zI hR Y ⟨Y, Y⟩
 · rintro r H ⟨rfl, rfl⟩
   exact ⟨Y, trivial, fun h o ho => zFq (zOC s) h o ho⟩
theorem zLO {s : zAL} {c : TChoice} (hc : c ∈ s) : ∃ j : Nat, (s.map keyC)[j]? = some (.int .i64 c.info) ∧ (s.map valC)[j]? = some (.ro (qsC (c.odds.map zAT)) 0 (c.odds.map zAT).length) := by
 obtain ⟨j, hj⟩ := List.getElem?_of_mem hc
 exact ⟨j, by rw [List.getElem?_map, hj]; rfl, by rw [List.getElem?_map, hj]; rfl⟩
theorem zNS (l : List Rat) (n : Nat) : zA2 n (qsC l) := by
 intro i j _ hj
 have hj : j < 3 := hj
 match j, hj with
 | 0, _ => rfl
 | 1, _ => rfl
 | 2, _ => rfl
end Go.Proofs.YtnkealfaldjipaaGreatDoor
namespace Go.Ax.Rt
open Go.Ax.Bg
def zCL (o : Option (List Rat)) (q : Option Rat) (k : Nat) : Option Rat := some (zMZ o (q.getD 0) k)
def zDE (t : zQ) (o : zAJ) : Nat → List (Option Rat)
 | 0 => (List.replicate t.length none).set 0 (some 1)
 | i + 1 => zAx (zCL (o i) ((zDE t o i).getD i none)) (t.getD i node0).next 0 (zDE t o i)
theorem zDo (t : zQ) (o : zAJ) : ∀ i, (zDE t o i).length = t.length
 | 0 => by simp [zDE]
 | i + 1 => by rw [zDE, zDJ, zDo t o i]
theorem Valid.known {t : zQ} (h : Valid t) {i : Nat} (hi : i < t.length) : i = 0 ∨ ∃ a, a < i ∧ kid t a i := by
 by_cases h0 : i = 0
 · exact .inl h0
 · obtain ⟨a, ha, hk⟩ := h.has hi h0
   exact .inr ⟨a, (h.kid_lt ha hk).1, hk⟩
theorem zIs {t : zQ} (h : Valid t) (o : zAJ) : ∀ i, i ≤ t.length → ∀ j, j < t.length → (j = 0 ∨ ∃ a, a < i ∧ kid t a j) → (zDE t o i).getD j none = some ((ze t o).getD j 0)
 | 0, _, j, hj, hk => by
   rcases hk with rfl | ⟨a, ha, _⟩
   · rw [zDf h, zDE, Go.Ax.Dt.getD_set, if_pos ⟨rfl, by simpa using hj⟩]
   · omega
 | i + 1, hi, j, hj, hk => by
   have hi' : i < t.length := by omega
   have ih := zIs h o i (by omega)
   rw [zDE]
   by_cases hki : kid t i j
   · obtain ⟨m, hm, rfl⟩ := zKg h hi' hki
     rw [zMl _ _ _ _ _ _ hm (h.kids_nodup hi') (fun c hc => by rw [zDo]; have := h.behind hi' c hc; omega), Nat.zero_add, zEd h o hi' hm]
     unfold zCL
     rw [ih i hi' (h.known hi')]
     rfl
   · have hne : ∀ c ∈ (t.getD i node0).next, c.toNat ≠ j := fun c hc e => by
       have := h.behind hi' c hc
       apply hki
       show (j : Int) ∈ _
       rw [← e, Int.toNat_of_nonneg (by omega)]
       exact hc
     rw [zBm _ _ _ _ _ hne]
     refine ih j hj ?_
     rcases hk with rfl | ⟨a, ha, hka⟩
     · exact .inl Y
     · refine .inr ⟨a, ?_, hka⟩
       have : a ≠ i := fun e => hki (e ▸ hka)
       omega
theorem zO5 {t : zQ} (h : Valid t) (o : zAJ) : zDE t o t.length = (ze t o).map some := by
 have hl : (ze t o).length = t.length := zDB t o _
 apply List.ext_getElem
 · rw [zDo, List.length_map, hl]
 · intro j h1 h2
   rw [zDo] at h1
   have := zIs h o t.length (Nat.le_refl _) j h1 (by
     rcases h.known h1 with e | ⟨a, ha, hk⟩
     · exact .inl e
     · exact .inr ⟨a, by omega, hk⟩)
   rw [List.getElem_map]
   rw [List.getD_eq_getElem?_getD, List.getElem?_eq_getElem (by rw [zDo]; exact h1), List.getD_eq_getElem?_getD, List.getElem?_eq_getElem (by omega)] at this
   exact this
end Go.Ax.Rt
namespace Go.Ax
open Go
variable [Pins]
theorem zEx {P : Program} (w : World) {t e : TypeId} (a : Option Addr) (n c : Nat) (h : P.underlying t = some (.slice e)) : (binOp .neq t (.slice a n c) (.slice none 0 0)).run P w = .ok (.bool (!a.isNone)) w := by
 have _pin := (inferInstance : Pins)
 have h1 : ∀ d : Nat, (Op.equalIn (d + 1) t (.slice a n c) (.slice none 0 0)).run P w = .ok a.isNone w := fun d => by
   cases a with
   | none => simp [Op.equalIn, run_underlying h]
   | some a => simp [Op.equalIn, run_underlying h]
 simp only [binOp]
 simp [Op.equal, Op.maxDepth, h1 9999]
section
variable {P : Program} {fn : Func} {c : Ctx} {fr : Fr} {H : zZ} {k : List It} {ind : Bool} {d : Option Nat} {ty : TypeId} {pos : String} {after : Array Edge} {g : Option (Nat × Bool)}
theorem zM4 {x y : Operand} {t t' e : TypeId} (ht : P.underlying t = some (.slice e)) (hx : ev fr x = some .nil) (hy : ev fr y = some .nil) : QOp ind P fn c fr H ⟨d, .binOp .neq t x y t', ty, pos, after, g⟩ (.bool false) := by
 intro w a σ S hr
 have h1 := hr.evAt hx
 have h2 := hr.evAt hy
 generalize hz : a.eval x = z at h1
 generalize hzy : a.eval y = zy at h2
 cases h1
 cases h2
 refine ⟨_, .bool _ _, fun w' _ => ?_⟩
 have hb := zEx (P := P) w' none 0 0 ht
 simp only [execOp, hz, hzy, Sem.run_bind, zCj, Result.andThen_ok, hb]
 rfl
theorem q_neqnil {x y : Operand} {t t' e : TypeId} {cl : Cells} {i n : Nat} (ht : P.underlying t = some (.slice e)) (hx : ev fr x = some (.ro cl i n)) (hy : ev fr y = some .nil) (hn : 0 < n) : QOp ind P fn c fr H ⟨d, .binOp .neq t x y t', ty, pos, after, g⟩ (.bool true) := by
 intro w a σ S hr
 have h1 := hr.evAt hx
 have h2 := hr.evAt hy
 generalize hz : a.eval x = z at h1
 generalize hzy : a.eval y = zy at h2
 cases h2
 cases h1 with
 | ro0 _ _ _ ad cap => exact absurd hn (Nat.lt_irrefl _)
 | ro _ _ _ _ b o cap val hS hlen hc hv h1' =>
   refine ⟨_, .bool _ _, fun w' _ => ?_⟩
   have hb := zEx (P := P) w' (some ⟨b, o, none⟩) n cap ht
   simp only [execOp, hz, hzy, Sem.run_bind, zCj, Result.andThen_ok, hb]
   rfl
end
end Go.Ax
namespace Go.Proofs.YtnkealfaldjipaaGreatDoor
open Go.Ax Go.Ax.Bg Go.Ax.Rt Go.RowKit Go.Ax.Idx Go.Ax.Cd
attribute [local irreducible] Ax zBE QOp zV zAz
set_option maxRecDepth 100000
set_option maxHeartbeats 4000000
def lA (o : Option (List Rat)) : AV := match o with
 | none => .nil
 | some l => .ro (qsC l) 0 l.length
structure OddsG (t : zQ) (o : zAJ) : Prop where
 chance : ∀ i, i < t.length → (t.getD i node0).kind = 1 → o i = some ((t.getD i node0).odds.map zAT)
 ends : ∀ i, i < t.length → (t.getD i node0).kind = 0 → o i = none
 some : ∀ i, i < t.length → ∀ l, o i = some l → (t.getD i node0).next.length ≤ l.length ∧ 0 < l.length ∧ l.length ≤ 1000000 ∧ ∀ q ∈ l, Sz 100000 q
 reach : ∀ j, j < t.length → Sz 100000 ((ze t o).getD j 0)
theorem zNU {t : zQ} (hv : Valid t) {i : Nat} (hi : i < t.length) (hk : (t.getD i node0).kind = 1) : zC5 (t.getD i node0).odds = 0 := by
 have h := hv.nodes i hi
 unfold zER at h
 rw [if_neg (by omega), if_pos hk] at h
 split at h
 · cases h
 split at h
 · rename_i h1; exact absurd h h1
 split at h
 · cases h
 exact h
theorem zOd {t : zQ} (hv : Valid t) {i : Nat} (hi : i < t.length) : (t.getD i node0).kind = 0 ∨ (t.getD i node0).kind = 1 ∨ (t.getD i node0).kind = 2 := by
 rcases hv.child hi with h | h
 · exact .inl h.1
 · exact .inr h.1
theorem zMk (l : List Rat) : CEq (zsC (l.map some)) (qsC l) := by
 refine ⟨by simp [zCg, Cells.len], Y, fun i j hi hj => ?_⟩
 have hi : i < l.length := by simpa [zCg, Cells.len] using hi
 show (zu (l.getD i 0)).getD j .any = (zBS ((l.map some).getD i none)).getD j .any
 rw [zBB some l 0 none i hi]
 rfl
theorem zD8 (l : List (Option Rat)) (n : Nat) : zA2 n (zsC l) := by
 intro i j _ hj
 show zC1 n ((zBS (l.getD i none)).getD j .any) = true
 have hj : j < 3 := hj
 cases l.getD i none with
 | none => match j, hj with
   | 0, _ => rfl
   | 1, _ => rfl
   | 2, _ => rfl
 | some q => match j, hj with
   | 0, _ => rfl
   | 1, _ => rfl
   | 2, _ => rfl
theorem zNb (t : zQ) (o : zAJ) (g : FuncId) (caps : List AV) (hcp : noRef.noRefs caps = true) (hcb : zCC 1 caps = true) (hT : ShortT t) (hv : Valid t) (hG : OddsG t o)
   (hg : ∀ i, i < t.length → (t.getD i node0).kind = 2 → zX Tryz.prog g ([.agg (zBn (t.getD i node0))] ++ caps) (lA (o i))) :
   zX Tryz.prog 133 [.ro (zc t) 0 t.length, .fn g caps] (.ro (qsC (ze t o)) 0 t.length) := by
 have hlen := hT.len
 have h120 := hv.le
 have hne := hv.ne
 have hrep : (List.replicate t.length (none : Option Rat)).length = t.length := List.length_replicate
 refine zV.value0 (zG (P := Tryz.prog) (fn := Tryz.f133) Y Y (by kernel_rfl) Y (fun c hR hfix => ?_)) (fix := fun _ => False) (fun _ h => h) (by simp [noRef.noRefs, noRef, hcp]) Y
 refine rn3 ?_
 refine zB6 Y Y Y Y Y Y Y Y (by show (0 : Int) ≤ _ ∧ _ ≤ _ ∧ (56 : Int) * _ ≤ _ ∧ _; omega) ?_
 refine rn0 ?_
 refine zC Y Y Y zKk ?_
 unfold qA
 refine zAp [some ⟨122, zsC (List.replicate t.length none)⟩] (z6.eqv (zJa _) z6.nil) ?_
 have hz0 : 0 < (zsC (List.replicate t.length none)).len := by show 0 < (List.replicate t.length (none : Option Rat)).length; omega
 repeat (refine zD (zb rfl rfl rfl rfl rfl (by first | (simp only [Nat.zero_add, Int.toNat_natCast, Int.toNat_zero]; exact rfl) | exact rfl) (by omega)) ?_)
 refine zP (c' := zsC ((List.replicate t.length none).set 0 (some 1))) Y Y Y Y Y hz0 (by show (List.set _ 0 _).length = (List.replicate _ _).length; simp) Y (fun i' j' hi' hj' => zCY none 3 zBS _ 0 (some 1) hz0 i' j' hi' hj') ?_
 refine rn3 ?_
 refine zi (ι := Nat) (fun i => [(0, .ro (zc t) 0 t.length), (1, .fn g caps), (5, .sl 0 0 t.length), (17, .ro (zc t) 0 t.length), (18, .int .i64 (t.length : Nat)), (19, .int .i64 (i : Nat))]) (fun i => [some ⟨122, zsC (zDE t o i)⟩])
   (fun i => i ≤ t.length) (fun i => t.length - i) 0 ⟨⟨rfl, rfl, rfl, rfl, rfl, rfl, trivial⟩, rfl, Nat.zero_le _⟩ ?_
 intro i hi
 refine rn4 ?_
 refine zE Y (fun h => ?_) (fun h => ?_)
 · have hi' : i < t.length := by omega
   have hsn := hT.node _ (zBR node0 hi')
   have hbh := hv.behind hi'
   have hWl := zDo t o i
   have hat := zIs hv o i hi i hi' (hv.known hi')
   have hri := hG.reach i hi'
   have hk3 := zOd hv hi'
   have hch := fun hk => zNU hv hi' hk
   have hgc := hG.chance i hi'
   have hge := hG.ends i hi'
   have hgs := hG.some i hi'
   have hgg := hg i hi'
   have hnx : zDE t o (i + 1) = zAx (zCL (o i) ((zDE t o i).getD i none)) (t.getD i node0).next 0 (zDE t o i) := rfl
   generalize hW2 : zDE t o (i + 1) = W2 at *
   generalize zDE t o i = W at *
   generalize hoi : o i = oi at *
   generalize (ze t o).getD i 0 = ri at *
   rw [hat] at hnx
   obtain ⟨s1, s2, s3, s4⟩ := hsn
   refine rn6 ?_
   refine zN 23 (.agg (zBn (t.getD i node0))) Y (AEq.of_eq Y) ?_
   generalize hn : t.getD i node0 = n at *
   obtain ⟨kd, pl, nf, nx, od, py⟩ := n
   simp only at *
   refine zP (c' := .box [.int .i64 kd, .int .i64 pl, .int .i64 nf, .ro (.ints .i64 nx) 0 nx.length, .ro (.strs od) 0 od.length, .str py]) Y Y Y Y Y Nat.zero_lt_one Y Y (fun i' j' hi' hj' => ?_) ?_
   · rw [if_pos (Nat.lt_one_iff.1 hi')]; rfl
   refine zAf [some ⟨122, zsC (W)⟩, some ⟨40, .box [.int .i64 kd, .int .i64 pl, .int .i64 nf, .ro (.ints .i64 nx) 0 nx.length, .ro (.strs od) 0 od.length, .str py]⟩] Y ?_
   refine zN 7 (.ptr 1 0 0) Y (AEq.of_eq Y) ?_
   apply zAw (H := [some ⟨122, zsC (W)⟩, some ⟨40, .box [.int .i64 kd, .int .i64 pl, .int .i64 nf, .ro (.ints .i64 nx) 0 nx.length, .ro (.strs od) 0 od.length, .str py]⟩]) [(0, .ro (zc t) 0 t.length), (1, .fn g caps), (5, .sl 0 0 t.length), (6, .int .i64 (i : Nat)), (7, .ptr 1 0 0), (8, lA oi), (17, .ro (zc t) 0 t.length), (18, .int .i64 (t.length : Nat)), (19, .int .i64 (i : Nat)), (37, .ro (.ints .i64 nx) 0 nx.length), (38, .int .i64 (nx.length : Nat)), (39, .int .i64 0)]
   · intro fin
     refine rn5 ?_
     rcases hk3 with hk | hk | hk
     · have := hge hk
       subst this
       subst hk
       refine rn5 ?_
       exact fin _ ⟨Y, Y, Y, Y, Y, Y, Y, Y, Y, Y, Y, Y, trivial⟩
     · have h1 := hgc hk
       have h2 := hch hk
       subst hk
       subst h1
       obtain ⟨v1, v2, _, _⟩ := zBu h2
       have cin := zOQ od (by omega) (fun r hr => ⟨s3 r hr, v2 r hr⟩)
       refine rn5 ?_
       refine zC Y Y Y cin ?_
       refine rn5 ?_
       exact fin _ ⟨Y, Y, Y, Y, Y, Y, Y, Y, Y, Y, Y, Y, trivial⟩
     · have h1 := hgg hk
       subst hk
       refine rn6 ?_
       refine zN 34 (.agg (zBn ⟨2, pl, nf, nx, od, py⟩)) Y (AEq.of_eq Y) ?_
       refine zC Y Y Y h1 ?_
       refine rn5 ?_
       exact fin _ ⟨Y, Y, Y, Y, Y, Y, Y, Y, Y, Y, Y, Y, trivial⟩
   cases oi with
   | none =>
     refine zi (ι := Nat) (fun j => [(0, .ro (zc t) 0 t.length), (1, .fn g caps), (5, .sl 0 0 t.length), (6, .int .i64 (i : Nat)), (7, .ptr 1 0 0), (8, .nil), (17, .ro (zc t) 0 t.length), (18, .int .i64 (t.length : Nat)), (19, .int .i64 (i : Nat)), (37, .ro (.ints .i64 nx) 0 nx.length), (38, .int .i64 (nx.length : Nat)), (39, .int .i64 (j : Nat))]) (fun j => [some ⟨122, zsC (zAx (zCL none (some ri)) (nx.take j) 0 W)⟩, some ⟨40, .box [.int .i64 kd, .int .i64 pl, .int .i64 nf, .ro (.ints .i64 nx) 0 nx.length, .ro (.strs od) 0 od.length, .str py]⟩])
       (fun j => j ≤ nx.length) (fun j => nx.length - j) 0 ⟨⟨rfl, rfl, rfl, rfl, rfl, rfl, rfl, rfl, rfl, rfl, rfl, rfl, trivial⟩, rfl, Nat.zero_le _⟩ ?_
     intro j hj
     refine rn4 ?_
     refine zE Y (fun h5 => ?_) (fun h5 => ?_)
     · have hj' : j < nx.length := by omega
       obtain ⟨b1, b2⟩ := hbh _ (zAP 0 hj')
       have hAl : (zAx (zCL none (some ri)) (nx.take j) 0 W).length = t.length := by rw [zDJ]; exact hWl
       have hAi : (zAx (zCL none (some ri)) (nx.take j) 0 W).getD i none = some ri := (zBm _ none _ _ _ (fun c hc => by have := hbh c (List.mem_of_mem_take hc); omega)).trans hat
       have hst : zAx (zCL none (some ri)) (nx.take (j + 1)) 0 W = (zAx (zCL none (some ri)) (nx.take j) 0 W).set (nx.getD j 0).toNat (zCL none (some ri) j) := by
         rw [zDA hj', zDc, List.length_take, Nat.min_eq_left hj, Nat.zero_add]
       generalize hA2 : zAx (zCL none (some ri)) (nx.take (j + 1)) 0 W = A2 at *
       generalize zAx (zCL none (some ri)) (nx.take j) 0 W = A at *
       obtain ⟨x, hx⟩ := Int.eq_ofNat_of_zero_le (show 0 ≤ nx.getD j 0 by omega)
       have hxn : (nx.getD j 0).toNat = x := by rw [hx, Int.toNat_natCast]
       rw [hx] at b1 b2
       rw [hxn] at hst
       have hxl : x < A.length := by omega
       have gi : i < (zsC A).len := by show i < A.length; omega
       have gx : x < (zsC A).len := hxl
       have hA1i : (A.set x (some ri)).getD i none = some ri := by rw [Go.Ax.Dt.getD_set, if_neg (by omega)]; exact hAi
       have gi1 : i < (zsC (A.set x (some ri))).len := by show i < (A.set x (some ri)).length; rw [List.length_set]; omega
       have gx1 : x < (zsC (A.set x (some ri))).len := by show x < (A.set x (some ri)).length; rw [List.length_set]; omega
       repeat (first | refine zA ?_ | refine zW ?_ | refine zw ?_ | refine zk ?_)
       refine zK Y ?_
       repeat (first | refine zD (zH rfl) ?_ | refine zD (zL rfl) ?_ | refine zD (zAn rfl rfl rfl) ?_ | refine zB ?_ | refine zA ?_ | refine zW ?_ | refine zD (zf rfl rfl rfl rfl (by first | (simp only [Nat.zero_add, Int.toNat_natCast, Int.toNat_zero]; exact rfl) | exact rfl) (by omega)) ?_)
       refine z7 10 (.int .i64 (x : Nat)) Y (AEq.of_eq (by rw [hx])) ?_
       refine rn6 ?_
       refine zN 49 (.agg (zu ri)) Y (AEq.of_eq (show AV.agg [(zBS (A.getD i none)).getD 0 .any, (zBS (A.getD i none)).getD 1 .any, (zBS (A.getD i none)).getD 2 .any] = _ by rw [hAi]; rfl)) ?_
       refine zP (c' := zsC (A.set x (some ri))) Y Y Y Y Y hxl (by show (A.set x (some ri)).length = A.length; simp) Y (fun i' j' hi' hj' => zCY none 3 zBS A x (some ri) hxl i' j' hi' hj') ?_
       refine rn0 ?_
       refine zD (zM4 Y Y Y) ?_
       refine rn5 ?_
       exact zM ⟨j + 1, by omega, by omega, ⟨Y, Y, Y, Y, Y, Y, Y, Y, Y, Y, Y, Y, trivial⟩, by rw [hA2, hst]; rfl⟩
     · have hje : j = nx.length := by omega
       subst hje
       rw [List.take_length, ← hnx]
       repeat (first | refine zd ?_ | refine zAj ?_ | refine zp ?_ | refine zo ?_ | refine zAB ?_)
       refine zA ?_
       refine zAb [some ⟨122, zsC (W2)⟩] [some ⟨40, .box [.int .i64 kd, .int .i64 pl, .int .i64 nf, .ro (.ints .i64 nx) 0 nx.length, .ro (.strs od) 0 od.length, .str py]⟩] [(0, .ro (zc t) 0 t.length), (1, .fn g caps), (5, .sl 0 0 t.length), (17, .ro (zc t) 0 t.length), (18, .int .i64 (t.length : Nat)), (19, .int .i64 (i : Nat))] Y ⟨Y, Y, Y, Y, Y, Y, trivial⟩ (fun h hh => by rw [hfix] at hh; exact absurd hh id) (zBs (zD8 _ _)) (by show (true && (zCC 1 caps && _)) = true; rw [hcb]; rfl) ?_
       refine rn3 ?_
       exact zM ⟨i + 1, by omega, by omega, ⟨Y, Y, Y, Y, Y, Y, trivial⟩, by rw [hW2]⟩
   | some l =>
     obtain ⟨l1, l2, l3, l4⟩ := hgs l rfl
     refine zi (ι := Nat) (fun j => [(0, .ro (zc t) 0 t.length), (1, .fn g caps), (5, .sl 0 0 t.length), (6, .int .i64 (i : Nat)), (7, .ptr 1 0 0), (8, .ro (qsC l) 0 l.length), (17, .ro (zc t) 0 t.length), (18, .int .i64 (t.length : Nat)), (19, .int .i64 (i : Nat)), (37, .ro (.ints .i64 nx) 0 nx.length), (38, .int .i64 (nx.length : Nat)), (39, .int .i64 (j : Nat))]) (fun j => [some ⟨122, zsC (zAx (zCL (some l) (some ri)) (nx.take j) 0 W)⟩, some ⟨40, .box [.int .i64 kd, .int .i64 pl, .int .i64 nf, .ro (.ints .i64 nx) 0 nx.length, .ro (.strs od) 0 od.length, .str py]⟩])
       (fun j => j ≤ nx.length) (fun j => nx.length - j) 0 ⟨⟨rfl, rfl, rfl, rfl, rfl, rfl, rfl, rfl, rfl, rfl, rfl, rfl, trivial⟩, rfl, Nat.zero_le _⟩ ?_
     intro j hj
     refine rn4 ?_
     refine zE Y (fun h5 => ?_) (fun h5 => ?_)
     · have hj' : j < nx.length := by omega
       obtain ⟨b1, b2⟩ := hbh _ (zAP 0 hj')
       have hAl : (zAx (zCL (some l) (some ri)) (nx.take j) 0 W).length = t.length := by rw [zDJ]; exact hWl
       have hAi : (zAx (zCL (some l) (some ri)) (nx.take j) 0 W).getD i none = some ri := (zBm _ none _ _ _ (fun c hc => by have := hbh c (List.mem_of_mem_take hc); omega)).trans hat
       have hst : zAx (zCL (some l) (some ri)) (nx.take (j + 1)) 0 W = (zAx (zCL (some l) (some ri)) (nx.take j) 0 W).set (nx.getD j 0).toNat (zCL (some l) (some ri) j) := by
         rw [zDA hj', zDc, List.length_take, Nat.min_eq_left hj, Nat.zero_add]
       generalize hA2 : zAx (zCL (some l) (some ri)) (nx.take (j + 1)) 0 W = A2 at *
       generalize zAx (zCL (some l) (some ri)) (nx.take j) 0 W = A at *
       obtain ⟨x, hx⟩ := Int.eq_ofNat_of_zero_le (show 0 ≤ nx.getD j 0 by omega)
       have hxn : (nx.getD j 0).toNat = x := by rw [hx, Int.toNat_natCast]
       rw [hx] at b1 b2
       rw [hxn] at hst
       have hxl : x < A.length := by omega
       have gi : i < (zsC A).len := by show i < A.length; omega
       have gx : x < (zsC A).len := hxl
       have hA1i : (A.set x (some ri)).getD i none = some ri := by rw [Go.Ax.Dt.getD_set, if_neg (by omega)]; exact hAi
       have gi1 : i < (zsC (A.set x (some ri))).len := by show i < (A.set x (some ri)).length; rw [List.length_set]; omega
       have gx1 : x < (zsC (A.set x (some ri))).len := by show x < (A.set x (some ri)).length; rw [List.length_set]; omega
       repeat (first | refine zA ?_ | refine zW ?_ | refine zw ?_ | refine zk ?_)
       refine zK Y ?_
       repeat (first | refine zD (zH rfl) ?_ | refine zD (zL rfl) ?_ | refine zD (zAn rfl rfl rfl) ?_ | refine zB ?_ | refine zA ?_ | refine zW ?_ | refine zD (zf rfl rfl rfl rfl (by first | (simp only [Nat.zero_add, Int.toNat_natCast, Int.toNat_zero]; exact rfl) | exact rfl) (by omega)) ?_)
       refine z7 10 (.int .i64 (x : Nat)) Y (AEq.of_eq (by rw [hx])) ?_
       refine rn6 ?_
       refine zN 49 (.agg (zu ri)) Y (AEq.of_eq (show AV.agg [(zBS (A.getD i none)).getD 0 .any, (zBS (A.getD i none)).getD 1 .any, (zBS (A.getD i none)).getD 2 .any] = _ by rw [hAi]; rfl)) ?_
       refine zP (c' := zsC (A.set x (some ri))) Y Y Y Y Y hxl (by show (A.set x (some ri)).length = A.length; simp) Y (fun i' j' hi' hj' => zCY none 3 zBS A x (some ri) hxl i' j' hi' hj') ?_
       refine rn0 ?_
       refine zD (q_neqnil Y Y Y l2) ?_
       refine rn5 ?_
       have hjl : j < l.length := by omega
       have cmul : zX Tryz.prog 105 [.agg [(zBS ((A.set x (some ri)).getD i none)).getD 0 .any, (zBS ((A.set x (some ri)).getD i none)).getD 1 .any, (zBS ((A.set x (some ri)).getD i none)).getD 2 .any], qA (l.getD j 0)] (qA (ri * l.getD j 0)) := by
         rw [hA1i]
         exact zHJ ri (l.getD j 0) hri (l4 _ (zAP 0 hjl))
       refine zl (by kernel_rfl) ?_
       refine zt (fuel := 1) [0, 1, 2, 3, 4, 5, 6, 7, 8, 9, 10, 11] [(0, .ro (zc t) 0 t.length), (1, .fn g caps), (5, .sl 0 0 t.length), (6, .int .i64 (i : Nat)), (7, .ptr 1 0 0), (8, .ro (qsC l) 0 l.length), (17, .ro (zc t) 0 t.length), (18, .int .i64 (t.length : Nat)), (19, .int .i64 (i : Nat)), (37, .ro (.ints .i64 nx) 0 nx.length), (38, .int .i64 (nx.length : Nat)), (39, .int .i64 (j : Nat)), (9, .int .i64 (j : Nat)), (10, .int .i64 (x : Nat))] ⟨Y, Y, Y, Y, Y, Y, Y, Y, Y, Y, Y, Y, Y, Y, trivial⟩ (by kernel_rfl) (by decide) Y Y ?_
       refine zU Y Y (zH Y) ?_
       refine zU Y Y (zH Y) ?_
       refine zU Y Y (zH Y) ?_
       refine zU Y Y (zH Y) ?_
       refine zU Y Y (zb Y Y Y Y Y (by first | (simp only [Nat.zero_add, Int.toNat_natCast, Int.toNat_zero]; exact Y) | exact Y) (by omega)) ?_
       refine zU Y Y (zq Y Y Y Y Y Y Y (by first | exact Nat.zero_lt_one | assumption | omega)) ?_
       refine zU Y Y (zH Y) ?_
       refine zU Y Y (zH Y) ?_
       refine zU Y Y (zf Y Y Y Y (by first | (simp only [Nat.zero_add, Int.toNat_natCast, Int.toNat_zero]; exact Y) | exact Y) (by omega)) ?_
       refine zU Y Y (zBi Y Y Y Y Y Y) ?_
       refine zBc Y Y Y Y Y cmul ?_
       refine zU Y Y (zb Y Y Y Y Y (by first | (simp only [Nat.zero_add, Int.toNat_natCast, Int.toNat_zero]; exact Y) | exact Y) (by omega)) ?_
       refine zAc ?_
       refine zF (is := [12]) (by kernel_rfl) (by simp) Y ⟨fun o ho => ?_, trivial⟩
       all_goals (cases ho)
       skip
       unfold qA
       refine zP (c' := zsC ((A.set x (some ri)).set x (some (ri * l.getD j 0)))) Y Y Y Y Y gx1 (by show (List.set _ x _).length = (A.set x (some ri)).length; simp) Y (fun i' j' hi' hj' => zCY none 3 zBS (A.set x (some ri)) x (some (ri * l.getD j 0)) gx1 i' j' hi' hj') ?_
       refine rn1 ?_
       refine zh (by kernel_rfl) ?_
       refine rn5 ?_
       exact zM ⟨j + 1, by omega, by omega, ⟨Y, Y, Y, Y, Y, Y, Y, Y, Y, Y, Y, Y, trivial⟩, by rw [hA2, hst]; exact congrArg (fun z => [some (AObj.mk 122 (zsC z)), some (AObj.mk 40 (.box [.int .i64 kd, .int .i64 pl, .int .i64 nf, .ro (.ints .i64 nx) 0 nx.length, .ro (.strs od) 0 od.length, .str py]))]) (List.set_set ..)⟩
     · have hje : j = nx.length := by omega
       subst hje
       rw [List.take_length, ← hnx]
       repeat (first | refine zd ?_ | refine zAj ?_ | refine zp ?_ | refine zo ?_ | refine zAB ?_)
       refine zA ?_
       refine zAb [some ⟨122, zsC (W2)⟩] [some ⟨40, .box [.int .i64 kd, .int .i64 pl, .int .i64 nf, .ro (.ints .i64 nx) 0 nx.length, .ro (.strs od) 0 od.length, .str py]⟩] [(0, .ro (zc t) 0 t.length), (1, .fn g caps), (5, .sl 0 0 t.length), (17, .ro (zc t) 0 t.length), (18, .int .i64 (t.length : Nat)), (19, .int .i64 (i : Nat))] Y ⟨Y, Y, Y, Y, Y, Y, trivial⟩ (fun h hh => by rw [hfix] at hh; exact absurd hh id) (zBs (zD8 _ _)) (by show (true && (zCC 1 caps && _)) = true; rw [hcb]; rfl) ?_
       refine rn3 ?_
       exact zM ⟨i + 1, by omega, by omega, ⟨Y, Y, Y, Y, Y, Y, trivial⟩, by rw [hW2]⟩
 · have hie : i = t.length := by omega
   subst hie
   rw [zO5 hv]
   repeat (first | refine zA ?_ | refine zW ?_ | refine zAj ?_ | refine zp ?_ | refine zo ?_ | refine zAB ?_)
   refine zBg [some ⟨122, qsC (ze t o)⟩] (z6.eqv (zMk _) z6.nil) ?_
   refine zAU 0 5 t.length [] Y (zEo _) Y (by show t.length ≤ (ze t o).length; rw [show (ze t o).length = t.length from zDB t o _]; exact Nat.le_refl _) trivial ?_
   refine rn0 ?_
   exact zI hR Y Y
end Go.Proofs.YtnkealfaldjipaaGreatDoor
namespace Go.Ax.Rt
open Go.Ax.Bg
theorem le_num {q : Rat} {M : Nat} (h : q ≤ (M : Rat)) : q.num ≤ M * q.den := by
 have h2 := Rat.not_lt.2 h
 rw [Rat.lt_iff] at h2
 rw [Rat.num_natCast, Rat.den_natCast] at h2
 have : ¬ ((M : Int) * (q.den : Int) < q.num * 1) := h2
 omega
theorem num_le {q : Rat} {M : Nat} (h : q.num ≤ M * q.den) : q ≤ (M : Rat) := by
 refine Rat.not_lt.1 (fun h2 => ?_)
 rw [Rat.lt_iff, Rat.num_natCast, Rat.den_natCast] at h2
 have : (M : Int) * (q.den : Int) < q.num * 1 := h2
 omega
theorem D_le {k : Nat} {q : Rat} (h : D k q) : q ≤ ((10 ^ k : Nat) : Rat) ∧ -q ≤ ((10 ^ k : Nat) : Rat) := by
 have h1 := h.1
 have h2 := q.den_pos
 generalize 10 ^ k = T at *
 have h3 : (T : Int) * 1 ≤ T * q.den := Int.mul_le_mul_of_nonneg_left (by omega) (by omega)
 refine ⟨num_le (by omega), num_le ?_⟩
 show -q.num ≤ (T : Int) * (q.den : Int)
 omega
theorem bnd_D {B K M : Nat} {q : Rat} (h : Dv B q) (hB : B ≠ 0) (h1 : q ≤ (M : Rat)) (h2 : -q ≤ (M : Rat)) (hM : M * B < 10 ^ K) (hK : B < 10 ^ K) : D K q := by
 have hd := Nat.le_of_dvd (by omega) (h.den hB)
 refine ⟨?_, by omega⟩
 have a1 := le_num h1
 have a2 := le_num h2
 have a2 : -q.num ≤ (M : Int) * (q.den : Int) := a2
 have a3 : M * q.den ≤ M * B := Nat.mul_le_mul_left _ hd
 have a4 : ((M * q.den : Nat) : Int) = (M : Int) * (q.den : Int) := Int.natCast_mul _ _
 omega
theorem Dv.sum {B : Nat} {l : List Rat} : (∀ q ∈ l, Dv B q) → ∀ {acc : Rat}, Dv B acc → Dv B (zAK acc l) := by
 induction l with
 | nil => intro _ acc h; exact h
 | cons a r ih => intro h acc ha; exact ih (fun q hq => h q (by simp [hq])) (ha.add (h a (by simp)))
theorem zLa (f : Nat → Rat) (c : Rat) : ∀ ks : List Nat, zAK 0 (ks.map (fun i => f i * c)) = zAK 0 (ks.map f) * c
 | [] => by rw [List.map_nil, List.map_nil, zAK, Rat.zero_mul]
 | a :: r => by
   rw [List.map_cons, List.map_cons, zAK, zAK, zBD, zBD (r.map f), zLa f c r, Rat.zero_add, Rat.zero_add, Rat.add_mul]
theorem zMW {f g : Nat → Rat} : ∀ {ks : List Nat}, (∀ i ∈ ks, f i ≤ g i) → zAK 0 (ks.map f) ≤ zAK 0 (ks.map g)
 | [], _ => Rat.le_refl
 | a :: r, h => by
   rw [List.map_cons, List.map_cons, zAK, zAK, zBD, zBD (r.map g), Rat.zero_add, Rat.zero_add]
   have h1 := (Rat.add_le_add_right (c := zAK 0 (r.map f))).2 (h a (by simp))
   have h2 := (Rat.add_le_add_left (c := g a)).2 (zMW (ks := r) (fun i hi => h i (by simp [hi])))
   exact Rat.le_trans h1 h2
/-- the product of the denominators of the payments -/
def payB (t : zQ) : Nat := zEz (t.map (fun n => if n.kind = 0 then (zAT n.pay).den else 1))
theorem zKq (t : zQ) : 0 < payB t := by
 refine zHL (fun x hx => ?_)
 obtain ⟨n, _, rfl⟩ := List.mem_map.1 hx
 split
 · exact Rat.den_pos _
 · exact Nat.one_pos
structure Pays (t : zQ) (d : Nat) : Prop where
 dig : ∀ i, i < t.length → (t.getD i node0).kind = 0 → D d (zAT (t.getD i node0).pay)
theorem zPs {t : zQ} {d : Nat} (h : Pays t d) : payB t ≤ 10 ^ (d * t.length) := by
 have h1 := zIN (l := t.map (fun n => if n.kind = 0 then (zAT n.pay).den else 1)) (d := d) (fun x hx => by
   obtain ⟨n, hn, rfl⟩ := List.mem_map.1 hx
   obtain ⟨i, hi, rfl⟩ := List.getElem_of_mem hn
   split
   · rename_i h2
     have := h.dig i hi (by rw [zAC node0 hi]; exact h2)
     rw [zAC node0 hi] at this
     exact Nat.le_of_lt this.2
   · exact Nat.pow_pos (by decide))
 rwa [List.length_map] at h1
theorem zNg {t : zQ} {i : Nat} (hi : i < t.length) (hk : (t.getD i node0).kind = 0) : (zAT (t.getD i node0).pay).den ∣ payB t := by
 refine zHI (List.mem_map.2 ⟨t.getD i node0, zAP node0 hi, ?_⟩)
 rw [if_pos hk]
theorem value_Dv {t : zQ} (h : Valid t) {o : zAJ} {d : Nat} (ho : OddsAll t o d) (hn : t.length ≤ 40) : Dv (Bd o t.length * payB t) (zA3 t o) := by
 refine Dv.sum (fun q hq => ?_) (Dv.zero _)
 obtain ⟨i, hi, rfl⟩ := List.mem_map.1 hq
 obtain ⟨i1, i2⟩ := zDQ hi
 exact (zPl h ho hn i1).1.mul (Dv.of_den.mono (zNg i1 i2))
theorem value_le {t : zQ} (h : Valid t) {o : zAJ} {d : Nat} (ho : OddsAll t o d) {e : Nat} (hp : Pays t e) : zA3 t o ≤ ((10 ^ e : Nat) : Rat) ∧ -(zA3 t o) ≤ ((10 ^ e : Nat) : Rat) := by
 have hs := ends_sum h ho.toOddsOK
 have one : zAK 0 ((zAH t).map (fun j => (ze t o).getD j 0 * ((10 ^ e : Nat) : Rat))) = ((10 ^ e : Nat) : Rat) := by
   rw [zLa, hs, Rat.one_mul]
 constructor
 · rw [← one]
   refine zMW (fun i hi => ?_)
   obtain ⟨i1, i2⟩ := zDQ hi
   exact Rat.mul_le_mul_of_nonneg_left (D_le (hp.dig i i1 i2)).1 (zHq h ho i i1).2
 · unfold zA3
   rw [← zKU, ← one]
   refine zMW (fun i hi => ?_)
   obtain ⟨i1, i2⟩ := zDQ hi
   unfold zFb
   rw [← Rat.mul_neg]
   exact Rat.mul_le_mul_of_nonneg_left (D_le (hp.dig i i1 i2)).2 (zHq h ho i i1).2
theorem value_D' {t : zQ} (h : Valid t) {o : zAJ} (ho : OddsAll t o 12) (hn : t.length ≤ 40) (hp : Pays t 12) {E1 E2 W : Nat} (hB : Bd o t.length < 10 ^ E1) (hP : payB t ≤ 10 ^ E2) (hW : 12 + (E1 + E2) ≤ W) : D W (zA3 t o) := by
 have e1 : Bd o t.length * payB t < 10 ^ E1 * 10 ^ E2 := by
   refine Nat.lt_of_lt_of_le ((Nat.mul_lt_mul_right (zKq t)).2 hB) ?_
   exact Nat.mul_le_mul_left _ hP
 rw [← Nat.pow_add] at e1
 obtain ⟨v1, v2⟩ := value_le h ho hp
 have hpos : 0 < Bd o t.length * payB t := Nat.mul_pos (zMm o _) (zKq t)
 refine bnd_D (value_Dv h ho hn) (by omega) v1 v2 ?_ ?_
 · have := (Nat.mul_lt_mul_left (a := 10 ^ 12) (Nat.pow_pos (by decide))).2 e1
   rw [← Nat.pow_add] at this
   exact Nat.lt_of_lt_of_le this (Nat.pow_le_pow_right (by decide) hW)
 · exact Nat.lt_of_lt_of_le e1 (Nat.pow_le_pow_right (by decide) (by omega))
/-- The value of a game with short zAv is short. -/
theorem zIM {t : zQ} (h : Valid t) {o : zAJ} (ho : OddsAll t o 12) (hn : t.length ≤ 40) (hp : Pays t 12) : D 974 (zA3 t o) := by
 obtain ⟨_, hB⟩ := zPl h ho hn (show 0 < t.length by have := h.ne; omega)
 have hP := zPs hp
 refine value_D' h ho hn hp (E1 := 12 * 40 + 1) (E2 := 12 * t.length) hB hP ?_
 omega
/-- the probabilities of chance and of both players -/
def zDF (t : zQ) (a b : Int → List Rat) : zAJ := fun i =>
 if (t.getD i node0).kind = 1 then some ((t.getD i node0).odds.map zAT)
 else if (t.getD i node0).kind = 2 then some (if (t.getD i node0).player = 0 then a (t.getD i node0).info else b (t.getD i node0).info) else none
/-- the probabilities of chance and of the other player -/
def zGn (t : zQ) (p : Int) (u : Int → List Rat) : zAJ := fun i =>
 if (t.getD i node0).kind = 1 then some ((t.getD i node0).odds.map zAT)
 else if (t.getD i node0).kind = 2 then (if (t.getD i node0).player = p then none else some (u (t.getD i node0).info)) else none
theorem zJ7 (t : zQ) (p : Int) (u : Int → List Rat) : ∀ i, i < t.length → own p (t.getD i node0) = true → zGn t p u i = none := by
 intro i hi h
 unfold own at h
 rw [Bool.and_eq_true, decide_eq_true_eq, decide_eq_true_eq] at h
 unfold zGn
 rw [if_neg (by omega), if_pos h.1, if_pos h.2]
theorem zJG {t : zQ} {o o' : zAJ} (h : ∀ i, i < t.length → o i = o' i) : ∀ i, i ≤ t.length → zCB t o i = zCB t o' i
 | 0, _ => rfl
 | i + 1, hi => by rw [zCB, zCB, zJG h i (by omega), h i (by omega)]
theorem zFJ {t : zQ} {o o' : zAJ} (h : ∀ i, i < t.length → o i = o' i) : zA3 t o = zA3 t o' := by
 unfold zA3 ze
 rw [zJG h t.length (Nat.le_refl _)]
theorem zDS {t : zQ} (hv : Valid t) {i : Nat} (hi : i < t.length) (hk : (t.getD i node0).kind = 2) : (t.getD i node0).player = 0 ∨ (t.getD i node0).player = 1 := by
 have h := hv.nodes i hi
 unfold zER at h
 rw [if_neg (by omega), if_neg (by omega), if_pos hk] at h
 split at h
 · cases h
 split at h
 · cases h
 rename_i h1
 omega
theorem zGF {p : Int} {n : TNode} : own p n = true ↔ n.kind = 2 ∧ n.player = p := by
 unfold own
 rw [Bool.and_eq_true, decide_eq_true_eq, decide_eq_true_eq]
theorem both0 {t : zQ} (hv : Valid t) (a b : Int → List Rat) : ∀ i, i < t.length → zES t 0 a (zGn t 0 b) i = zDF t a b i := by
 intro i hi
 unfold zES zGn zDF
 by_cases h : own 0 (t.getD i node0) = true
 · obtain ⟨h1, h2⟩ := zGF.1 h
   rw [if_pos h, if_neg (by omega), if_pos h1, if_pos h2]
 · rw [if_neg h]
   split
   · rfl
   split
   · rename_i h1 h2
     have h3 : ¬ (t.getD i node0).player = 0 := fun e => h (zGF.2 ⟨h2, e⟩)
     rw [if_neg h3, if_neg h3]
   · rfl
theorem both1 {t : zQ} (hv : Valid t) (a b : Int → List Rat) : ∀ i, i < t.length → zES t 1 b (zGn t 1 a) i = zDF t a b i := by
 intro i hi
 unfold zES zGn zDF
 by_cases h : own 1 (t.getD i node0) = true
 · obtain ⟨h1, h2⟩ := zGF.1 h
   rw [if_pos h, if_neg (by omega), if_pos h1, if_neg (by omega)]
 · rw [if_neg h]
   split
   · rfl
   split
   · rename_i h1 h2
     have h3 : ¬ (t.getD i node0).player = 1 := fun e => h (zGF.2 ⟨h2, e⟩)
     rw [if_neg h3, if_pos (by have := zDS hv hi h2; omega)]
   · rfl
/-- A game with few nodes and short zAv. -/
structure Modest (t : zQ) : Prop where
 len : t.length ≤ 40
 pay : ∀ n ∈ t, n.pay.length ≤ 12
 odds : ∀ n ∈ t, ∀ r ∈ n.odds, r.length ≤ 12
theorem zI2 {t : zQ} (hv : Valid t) {i : Nat} (hi : i < t.length) (hk : (t.getD i node0).kind = 0) : zDa (t.getD i node0).pay = 0 := by
 have h := hv.nodes i hi
 unfold zER at h
 rw [if_pos hk] at h
 split at h
 · cases h
 · exact h
theorem zMA {t : zQ} (hv : Valid t) {i : Nat} (hi : i < t.length) (hk : (t.getD i node0).kind = 1) : (t.getD i node0).odds.length = (t.getD i node0).next.length ∧ zC5 (t.getD i node0).odds = 0 := by
 have h := hv.nodes i hi
 unfold zER at h
 rw [if_neg (by omega), if_pos hk] at h
 split at h
 · cases h
 split at h
 · rename_i h1; exact absurd h h1
 split at h
 · cases h
 · rename_i h1
   exact ⟨Classical.not_not.1 h1, h⟩
theorem Modest.pays {t : zQ} (hm : Modest t) (hv : Valid t) : Pays t 12 :=
 ⟨fun i hi hk => (IsQ.self (zI2 hv hi hk)).dig (hm.pay _ (zAP node0 hi)) (by decide)⟩
theorem Modest.chance {t : zQ} (hm : Modest t) (hv : Valid t) {i : Nat} (hi : i < t.length) (hk : (t.getD i node0).kind = 1) : ((t.getD i node0).odds.map zAT).length = (t.getD i node0).next.length ∧ zAK 0 ((t.getD i node0).odds.map zAT) = 1 ∧ ∀ q ∈ (t.getD i node0).odds.map zAT, 0 ≤ q ∧ D 12 q := by
 obtain ⟨h1, h2⟩ := zMA hv hi hk
 obtain ⟨o1, o2, o3, o4⟩ := zBu h2
 refine ⟨by rw [List.length_map]; exact h1, o3, fun q hq => ⟨(o4 q hq).1, ?_⟩⟩
 obtain ⟨s, hs, rfl⟩ := List.mem_map.1 hq
 exact (IsQ.self (o2 s hs)).dig (hm.odds _ (zAP node0 hi) s hs) (by decide)
theorem Strat.node {t : zQ} (hv : Valid t) {p : Int} {u : Int → List Rat} {d : Nat} (h : Strat t p u d) {i : Nat} (hi : i < t.length) (hk : (t.getD i node0).kind = 2) (hp : (t.getD i node0).player = p) :
   (u (t.getD i node0).info).length = (t.getD i node0).next.length ∧ zAK 0 (u (t.getD i node0).info) = 1 ∧ ∀ q ∈ u (t.getD i node0).info, 0 ≤ q ∧ D d q := by
 have hs : zBJ p (t.getD i node0).info (t.getD i node0) = true := by
   unfold zBJ
   rw [zGF.2 ⟨hk, hp⟩, decide_eq_true rfl]; rfl
 have hx : (t.getD i node0).info ∈ zJ t p := (zBa hv).2 ⟨i, hi, hs⟩
 exact ⟨by rw [h.len _ hx, zCp hv hi hs], h.sum _ hx, fun q hq => ⟨h.nn _ hx q hq, h.dig _ hx q hq⟩⟩
theorem zFh {t : zQ} (hv : Valid t) (hm : Modest t) {a b : Int → List Rat} (ha : Strat t 0 a 12) (hb : Strat t 1 b 12) : OddsAll t (zDF t a b) 12 := by
 refine ⟨⟨fun i hi hk => ?_⟩, fun i hi hk => ?_⟩
 · by_cases h1 : (t.getD i node0).kind = 1
   · obtain ⟨c1, c2, c3⟩ := hm.chance hv hi h1
     refine ⟨_, ?_, c1, c2, c3⟩
     unfold zDF; rw [if_pos h1]
   · have h2 : (t.getD i node0).kind = 2 := by
       rcases hv.child hi with h | h
       · exact absurd h.1 hk
       · omega
     by_cases h3 : (t.getD i node0).player = 0
     · obtain ⟨c1, c2, c3⟩ := ha.node hv hi h2 h3
       refine ⟨_, ?_, c1, c2, c3⟩
       unfold zDF; rw [if_neg h1, if_pos h2, if_pos h3]
     · have h4 : (t.getD i node0).player = 1 := by have := zDS hv hi h2; omega
       obtain ⟨c1, c2, c3⟩ := hb.node hv hi h2 h4
       refine ⟨_, ?_, c1, c2, c3⟩
       unfold zDF; rw [if_neg h1, if_pos h2, if_neg h3]
 · unfold zDF; rw [if_neg (by omega), if_neg (by omega)]
theorem zK2 {t : zQ} (hv : Valid t) (p : Int) (o : zAJ) : Strat t p (zGR t p o) 12 := by
 have hm := best_mix hv p o
 refine ⟨hm.len, hm.sum, hm.nn, fun x hx q hq => ?_⟩
 obtain ⟨c, h1, h2, _⟩ := zIo hv o hx
 have e : zGR t p o x = zA4 (zT t p x) c := by unfold zGR; rw [h1]; rfl
 rw [e] at hq
 exact ((zCo h2).2.2 q hq).2.mono (by decide)
/-- the best value of a player -/
def bestV (t : zQ) (p : Int) (u : Int → List Rat) : Rat := (zBV t p (zGn t p u)).2.1.getD 0 0
theorem best0 {t : zQ} (hv : Valid t) (hp : zBL t 0 = true) (b : Int → List Rat) : bestV t 0 b = zA3 t (zDF t (zGR t 0 (zGn t 0 b)) b) := by
 have h := zK6 hv hp (zJ7 t 0 b)
 rw [if_neg (by decide), zFJ (both0 hv _ b)] at h
 exact h.symm
theorem best1 {t : zQ} (hv : Valid t) (hp : zBL t 1 = true) (a : Int → List Rat) : bestV t 1 a = -(zA3 t (zDF t a (zGR t 1 (zGn t 1 a)))) := by
 have h := zK6 hv hp (zJ7 t 1 a)
 rw [if_pos rfl, zFJ (both1 hv a _)] at h
 exact h.symm
theorem bestV_D0 {t : zQ} (hv : Valid t) (hm : Modest t) (hp : zBL t 0 = true) {b : Int → List Rat} (hb : Strat t 1 b 12) : D 974 (bestV t 0 b) := by
 rw [best0 hv hp]
 exact zIM hv (zFh hv hm (zK2 hv 0 _) hb) hm.len (hm.pays hv)
theorem bestV_D1 {t : zQ} (hv : Valid t) (hm : Modest t) (hp : zBL t 1 = true) {a : Int → List Rat} (ha : Strat t 0 a 12) : D 974 (bestV t 1 a) := by
 rw [best1 hv hp]
 exact (zIM hv (zFh hv hm ha (zK2 hv 1 _)) hm.len (hm.pays hv)).neg
structure OddsW (t : zQ) (o : zAJ) (d : Nat) : Prop where
 some : ∀ i, i < t.length → ∀ l, o i = some l → l.length = (t.getD i node0).next.length ∧ ∀ q ∈ l, 0 ≤ q ∧ q ≤ 1 ∧ D d q
theorem zP0 {t : zQ} (h : Valid t) {o : zAJ} {d : Nat} (ho : OddsW t o d) : ∀ j, j < t.length → Dv (Bd o j) ((ze t o).getD j 0) ∧ 0 ≤ (ze t o).getD j 0 ∧ (ze t o).getD j 0 ≤ 1 := by
 intro j
 induction j using Nat.strongRecOn with
 | ind j ih =>
   intro hj
   by_cases h0 : j = 0
   · subst h0
     rw [zDf h]
     exact ⟨Dv.one _, by decide +kernel, Rat.le_refl⟩
   · obtain ⟨i, hi, hk⟩ := h.has hj h0
     have hlt := h.kid_lt hi hk
     obtain ⟨m, hm, he⟩ := zKg h hi hk
     have hr := zEd h o hi hm
     rw [he] at hr
     obtain ⟨g1, g2, g3⟩ := ih i (by omega) hi
     cases hoi : o i with
     | none =>
       rw [hoi] at hr
       have hr : (ze t o).getD j 0 = (ze t o).getD i 0 := hr
       rw [hr]
       have h6 := zHn o (i := i) (j - i)
       rw [show i + (j - i) = j by omega] at h6
       exact ⟨g1.mono h6, g2, g3⟩
     | some l =>
       obtain ⟨l2, l4⟩ := ho.some i hi l hoi
       rw [hoi] at hr
       have hr : (ze t o).getD j 0 = (ze t o).getD i 0 * l.getD m 0 := hr
       obtain ⟨q1, q2, q3⟩ := l4 (l.getD m 0) (zAP 0 (by omega))
       rw [hr]
       refine ⟨?_, Rat.mul_nonneg g2 q1, ?_⟩
       · have h5 : Dv (Bd o (i + 1)) ((ze t o).getD i 0 * l.getD m 0) := by
           refine (g1.mul (Dv.of_den (q := l.getD m 0))).mono ?_
           show _ ∣ Bd o i * pden (o i)
           rw [hoi]
           exact Nat.mul_dvd_mul (Nat.dvd_refl _) (zHI (List.mem_map.2 ⟨_, zAP 0 (by omega), Y⟩))
         have h6 := zHn o (i := i + 1) (j - (i + 1))
         rw [show i + 1 + (j - (i + 1)) = j by omega] at h6
         exact h5.mono h6
       · have h7 := Rat.mul_le_mul_of_nonneg_left q2 g2
         rw [Rat.mul_one] at h7
         exact Rat.le_trans h7 g3
theorem Bd_w {t : zQ} {o : zAJ} {d : Nat} (ho : OddsW t o d) : ∀ i, i ≤ t.length → Bd o i ≤ 10 ^ (d * ((t.take i).flatMap TNode.next).length)
 | 0, _ => by simp [Bd]
 | i + 1, hi => by
   have ih := Bd_w ho i (by omega)
   have hi' : i < t.length := by omega
   have hp : pden (o i) ≤ 10 ^ (d * (t.getD i node0).next.length) := by
     cases hoi : o i with
     | none => exact Nat.pow_pos (by decide)
     | some l =>
       obtain ⟨l2, l4⟩ := ho.some i hi' l hoi
       rw [← l2]
       have := zIN (l := l.map Rat.den) (d := d) (fun x hx => by
         obtain ⟨q, hq, rfl⟩ := List.mem_map.1 hx
         exact Nat.le_of_lt (l4 q hq).2.2.2)
       rwa [List.length_map] at this
   rw [Bd, List.take_succ_eq_append_getElem hi', List.flatMap_append, List.length_append, Nat.mul_add, Nat.pow_add]
   refine Nat.mul_le_mul ih ?_
   rw [zAC node0 hi'] at hp
   simpa using hp
theorem zFs {t : zQ} (h : Valid t) {o : zAJ} {d : Nat} (ho : OddsW t o d) (hn : t.length ≤ 40) {j : Nat} (hj : j < t.length) : D (d * 40 + 1) ((ze t o).getD j 0) := by
 obtain ⟨g1, g2, g3⟩ := zP0 h ho j hj
 have h6 := zHn o (i := j) (t.length - j)
 rw [show j + (t.length - j) = t.length by omega] at h6
 have h7 := Bd_w ho t.length (Nat.le_refl _)
 rw [List.take_length] at h7
 have h8 := zJo h
 have h9 : d * (t.flatMap TNode.next).length ≤ d * 40 := Nat.mul_le_mul_left _ (by omega)
 have h10 : 10 ^ (d * (t.flatMap TNode.next).length) ≤ 10 ^ (d * 40) := Nat.pow_le_pow_right (by decide) h9
 have h11 : 0 < 10 ^ (d * 40) := Nat.pow_pos (by decide)
 have hpos := zMm o t.length
 refine unit_D (g1.mono h6) (by omega) g2 g3 ?_
 rw [Nat.pow_succ]
 omega
theorem zMF {l : List Rat} (hs : zAK 0 l = 1) (h0 : ∀ q ∈ l, 0 ≤ q) : ∀ q ∈ l, q ≤ 1 := by
 have key : ∀ (l : List Rat) (x : Rat), (∀ q ∈ l, 0 ≤ q) → x ∈ l → x ≤ zAK 0 l := by
   intro l
   induction l with
   | nil => intro x _ hx; simp at hx
   | cons a r ihl =>
     intro x hq hx
     rw [zAK, zBD, Rat.zero_add]
     have ha := hq a (by simp)
     have hr := zMa r 0 (fun y hy => hq y (by simp [hy]))
     rcases List.mem_cons.1 hx with rfl | hx
     · have := (Rat.add_le_add_left (c := x)).2 hr
       rwa [Rat.add_zero] at this
     · have h1 := ihl x (fun q hq' => hq q (by simp [hq'])) hx
       have := (Rat.add_le_add_right (c := zAK 0 r)).2 ha
       rw [Rat.zero_add] at this
       exact Rat.le_trans h1 this
 intro q hq
 rw [← hs]
 exact key l q h0 hq
theorem OddsAll.w {t : zQ} {o : zAJ} {d : Nat} (h : OddsAll t o d) : OddsW t o d := by
 refine ⟨fun i hi l hl => ?_⟩
 by_cases hk : (t.getD i node0).kind = 0
 · rw [h.none i hi hk] at hl; cases hl
 · obtain ⟨l', h1, h2, h3, h4⟩ := h.at' i hi hk
   rw [hl] at h1
   obtain rfl := Option.some.inj h1
   have := zMF h3 (fun q hq => (h4 q hq).1)
   exact ⟨h2, fun q hq => ⟨(h4 q hq).1, this q hq, (h4 q hq).2⟩⟩
theorem one_w {t : zQ} (hv : Valid t) (hm : Modest t) {p : Int} {u : Int → List Rat} (hp : p = 0 ∨ p = 1) (hu : Strat t (1 - p) u 12) : OddsW t (zGn t p u) 12 := by
 refine ⟨fun i hi l hl => ?_⟩
 unfold zGn at hl
 by_cases h1 : (t.getD i node0).kind = 1
 · rw [if_pos h1] at hl
   obtain rfl := Option.some.inj hl
   obtain ⟨c1, c2, c3⟩ := hm.chance hv hi h1
   have := zMF c2 (fun q hq => (c3 q hq).1)
   exact ⟨c1, fun q hq => ⟨(c3 q hq).1, this q hq, (c3 q hq).2⟩⟩
 · rw [if_neg h1] at hl
   by_cases h2 : (t.getD i node0).kind = 2
   · rw [if_pos h2] at hl
     by_cases h3 : (t.getD i node0).player = p
     · rw [if_pos h3] at hl; cases hl
     · rw [if_neg h3] at hl
       obtain rfl := Option.some.inj hl
       obtain ⟨c1, c2, c3⟩ := hu.node hv hi h2 (by have := zDS hv hi h2; omega)
       have := zMF c2 (fun q hq => (c3 q hq).1)
       exact ⟨c1, fun q hq => ⟨(c3 q hq).1, this q hq, (c3 q hq).2⟩⟩
   · rw [if_neg h2] at hl; cases hl
theorem zPW {t : zQ} (hv : Valid t) (hm : Modest t) {a b : Int → List Rat} (ha : Strat t 0 a 12) (hb : Strat t 1 b 12) : OddsW t (zDF t a b) 12 := (zFh hv hm ha hb).w
/-- the ends before a node -/
def zA0 (t : zQ) (i : Nat) : List Int := ((List.range i).filter (fun j => decide ((t.getD j node0).kind = 0))).map (fun j : Nat => (j : Int))
theorem zJ2 (t : zQ) (i : Nat) : zA0 t (i + 1) = if (t.getD i node0).kind = 0 then zA0 t i ++ [(i : Int)] else zA0 t i := by
 unfold zA0
 rw [List.range_succ, List.filter_append, List.map_append]
 by_cases h : (t.getD i node0).kind = 0
 · rw [if_pos h, List.filter_cons_of_pos (by simpa using h)]; rfl
 · rw [if_neg h, List.filter_cons_of_neg (by simpa using h)]; simp
theorem zG5 (t : zQ) : ∀ i, (zA0 t i).length ≤ i
 | 0 => Nat.le_refl _
 | i + 1 => by
   have := zG5 t i
   rw [zJ2]
   split
   · rw [List.length_append]; show _ + 1 ≤ _; omega
   · omega
theorem zIu (t : zQ) : zA0 t t.length = (zAH t).map (fun j : Nat => (j : Int)) := rfl
theorem zLx (t : zQ) {k : Nat} (hk : k < (zAH t).length) : (zA0 t t.length).getD k 0 = (((zAH t).getD k 0 : Nat) : Int) := by
 rw [zIu, zBB _ _ 0 _ _ hk]
/-- the sum so far -/
def zKO (t : zQ) (o : zAJ) (k : Nat) : Rat := zAK 0 (((zAH t).take k).map (zFb t (ze t o)))
theorem zRS (t : zQ) (o : zAJ) {k : Nat} (hk : k < (zAH t).length) : zKO t o (k + 1) = zKO t o k + zFb t (ze t o) ((zAH t).getD k 0) := by
 unfold zKO
 rw [List.take_succ_eq_append_getElem hk, List.map_append, List.map_singleton, zEe, zAC 0 hk]
theorem valK_all (t : zQ) (o : zAJ) : zKO t o (zAH t).length = zA3 t o := by
 unfold zKO zA3; rw [List.take_length]
end Go.Ax.Rt
namespace Go.Proofs.YtnkealfaldjipaaGreatDoor
open Go.Ax Go.Ax.Bg Go.Ax.Rt Go.RowKit Go.Ax.Idx Go.Ax.Cd
attribute [local irreducible] Ax zBE QOp zV zAz
set_option maxRecDepth 100000
set_option maxHeartbeats 4000000
theorem zPe {t : zQ} (hv : Valid t) (hlen : t.length ≤ 40) {o : zAJ} (ho : OddsW t o 12) (hc : ∀ i, i < t.length → (t.getD i node0).kind = 1 → o i = some ((t.getD i node0).odds.map zAT)) (he : ∀ i, i < t.length → (t.getD i node0).kind = 0 → o i = none) : OddsG t o := by
 refine ⟨hc, he, fun i hi l hl => ?_, fun j hj => zCw ((zFs hv ho hlen hj).mono (by decide))⟩
 obtain ⟨h1, h2⟩ := ho.some i hi l hl
 have hk : (t.getD i node0).kind ≠ 0 := fun e => by rw [he i hi e] at hl; cases hl
 have hn : 1 ≤ (t.getD i node0).next.length ∧ (t.getD i node0).next.length ≤ 6 := by
   rcases hv.child hi with h | h
   · exact absurd h.1 hk
   · exact ⟨(zCD h.2).1, (zCD h.2).2.1⟩
 exact ⟨by omega, by omega, by omega, fun q hq => zCw ((h2 q hq).2.2.mono (by decide))⟩
theorem zQF (t : zQ) (hlen : t.length ≤ 1000000) : zX Tryz.prog 135 [.ro (zc t) 0 t.length] (.ro (.ints .i64 (zA0 t t.length)) 0 (zA0 t t.length).length) := by
 refine zV.value0 (zG (P := Tryz.prog) (fn := Tryz.f135) Y Y (by kernel_rfl) Y (fun c hR hfix => ?_)) (fix := fun _ => False) (fun _ h => h) Y Y
 repeat (first | refine zD (zH rfl) ?_ | refine zD (zL rfl) ?_ | refine zB ?_ | refine zA ?_ | refine zW ?_ | refine zK rfl ?_ | refine zD (zA6 rfl rfl rfl) ?_)
 refine zA5 3 ⟨3, .ints .i64 []⟩ Y Y ?_
 repeat (refine zw ?_)
 refine zi (ι := Nat) (fun i => [(3, .sl 0 0 (zA0 t i).length), (6, .ro (zc t) 0 t.length), (7, .int .i64 (t.length : Nat)), (8, .int .i64 (i : Nat))]) (fun i => [some ⟨3, .ints .i64 (zA0 t i)⟩])
   (fun i => i ≤ t.length) (fun i => t.length - i) 0 ⟨⟨rfl, rfl, rfl, rfl, trivial⟩, rfl, Nat.zero_le _⟩ ?_
 intro i hi
 refine rn4 ?_
 refine zE Y (fun h => ?_) (fun h => ?_)
 · have hi' : i < t.length := by omega
   have hsn := zJ2 t i
   have hel := zG5 t i
   generalize hI2 : zA0 t (i + 1) = I2 at *
   generalize zA0 t i = I at *
   refine rn6 ?_
   refine zN 12 (.agg (zBn (t.getD i node0))) Y (AEq.of_eq Y) ?_
   generalize t.getD i node0 = n at *
   obtain ⟨kd, pl, nf, nx, od, py⟩ := n
   simp only at *
   refine zP (c' := .box [.int .i64 kd, .int .i64 pl, .int .i64 nf, .ro (.ints .i64 nx) 0 nx.length, .ro (.strs od) 0 od.length, .str py]) Y Y Y Y Y Nat.zero_lt_one Y Y (fun i' j' hi' hj' => ?_) ?_
   · rw [if_pos (Nat.lt_one_iff.1 hi')]; rfl
   refine zAf [some ⟨3, .ints .i64 I⟩, some ⟨40, .box [.int .i64 kd, .int .i64 pl, .int .i64 nf, .ro (.ints .i64 nx) 0 nx.length, .ro (.strs od) 0 od.length, .str py]⟩] Y ?_
   refine zN 5 (.ptr 1 0 0) Y (AEq.of_eq Y) ?_
   refine rn5 ?_
   refine zE Y (fun h1 => ?_) (fun h1 => ?_)
   · rw [if_pos h1] at hsn
     refine rn3 ?_
     refine zr Y Y Y Y Y Y Y Y Y Y Y Y (by show 0 + 1 ≤ 1; omega) Y (by show (I.length + 1) * 8 ≤ _ ∧ _; omega) (fun i j _ _ => rfl) (by rw [hfix]; exact fun h => h) ?_
     repeat (first | refine zD (zL rfl) ?_ | refine zB ?_ | refine zd ?_)
     refine zA ?_
     refine zAb [some ⟨3, .ints .i64 (I ++ [(i : Int)])⟩] [some ⟨40, .box [.int .i64 kd, .int .i64 pl, .int .i64 nf, .ro (.ints .i64 nx) 0 nx.length, .ro (.strs od) 0 od.length, .str py]⟩] [(3, .sl 0 0 (I.length + 1)), (6, .ro (zc t) 0 t.length), (7, .int .i64 (t.length : Nat)), (8, .int .i64 (i : Nat))] Y ⟨Y, Y, Y, Y, trivial⟩ (fun h hh => by rw [hfix] at hh; exact absurd hh id) (zBs (zC9 _ _ _)) Y ?_
     refine rn3 ?_
     exact zM ⟨i + 1, by omega, by omega, ⟨by rw [hI2, hsn, List.length_append]; rfl, Y, Y, Y, trivial⟩, by rw [hI2, hsn]⟩
   · rw [if_neg h1] at hsn
     repeat (first | refine zd ?_ | refine zk ?_)
     refine zA ?_
     refine zAb [some ⟨3, .ints .i64 I⟩] [some ⟨40, .box [.int .i64 kd, .int .i64 pl, .int .i64 nf, .ro (.ints .i64 nx) 0 nx.length, .ro (.strs od) 0 od.length, .str py]⟩] [(3, .sl 0 0 I.length), (6, .ro (zc t) 0 t.length), (7, .int .i64 (t.length : Nat)), (8, .int .i64 (i : Nat))] Y ⟨Y, Y, Y, Y, trivial⟩ (fun h hh => by rw [hfix] at hh; exact absurd hh id) (zBs (zC9 _ _ _)) Y ?_
     refine rn3 ?_
     exact zM ⟨i + 1, by omega, by omega, ⟨by rw [hI2, hsn]; rfl, Y, Y, Y, trivial⟩, by rw [hI2, hsn]⟩
 · have hie : i = t.length := by omega
   subst hie
   repeat (first | refine zA ?_ | refine zW ?_ | refine zAj ?_ | refine zp ?_ | refine zo ?_ | refine zAB ?_)
   refine zAU 0 3 (zA0 t t.length).length [] Y zAY Y (by show (zA0 t t.length).length ≤ (zA0 t t.length).length; exact Nat.le_refl _) trivial ?_
   refine rn0 ?_
   exact zI hR Y Y
abbrev zDi (s : zAL) : AV := .rom (s.map keyC) (s.map valC)
theorem zL7 (n : TNode) (a b : zAL) (hp : n.player = 0 ∨ n.player = 1) (c : TChoice) (hc : c ∈ (if n.player = 0 then a else b)) (hi : c.info = n.info) : zX Tryz.prog 141 [.agg (zBn n), .rp (.box [zDi a, zDi b]) 0 0] (.ro (qsC (c.odds.map zAT)) 0 (c.odds.map zAT).length) := by
 obtain ⟨jj, i1, i2⟩ := zLO hc
 rw [hi] at i1
 obtain ⟨kd, pl, nf, nx, od, py⟩ := n
 simp only at *
 refine zV.value0 (zG (P := Tryz.prog) (fn := Tryz.f141) Y Y (by kernel_rfl) Y (fun c hR hfix => ?_)) (fix := fun _ => False) (fun _ h => h) Y Y
 unfold zBn
 simp only
 refine rn6 ?_
 refine zl (by kernel_rfl) ?_
 rcases hp with hp | hp
 · subst hp
   rw [if_pos rfl] at i1 i2
   refine zt (fuel := 0) [0, 1, 2, 3, 4, 5, 6, 7] [(1, .rp (.box [zDi a, zDi b]) 0 0), (2, .ptr 0 0 0)] ⟨Y, Y, trivial⟩ (by kernel_rfl) (by decide) Y Y ?_
   refine zU Y Y (zO Y Y Y Y Y Y) ?_
   refine zU Y Y (zS Y Y Y Y Y) ?_
   refine zU Y Y (zGx Y Y Y Y (by first | (simp only [Nat.zero_add, Int.toNat_natCast]; exact Y) | exact Y) (by omega)) ?_
   refine zU Y Y (zAh Y Y Y Y) ?_
   refine zU Y Y (zO Y Y Y Y Y Y) ?_
   refine zU Y Y (zS Y Y Y Y Y) ?_
   refine zU Y Y (zBh Y (.int Y) Y Y Y Y (keysC a) jj i1 i2) ?_
   refine zU Y Y (zL Y) ?_
   refine zAc ?_
   refine zh (by kernel_rfl) ?_
   refine rn0 ?_
   exact zI hR Y Y
 · subst hp
   rw [if_neg (by decide)] at i1 i2
   refine zt (fuel := 0) [0, 1, 2, 3, 4, 5, 6, 7] [(1, .rp (.box [zDi a, zDi b]) 0 0), (2, .ptr 0 0 0)] ⟨Y, Y, trivial⟩ (by kernel_rfl) (by decide) Y Y ?_
   refine zU Y Y (zO Y Y Y Y Y Y) ?_
   refine zU Y Y (zS Y Y Y Y Y) ?_
   refine zU Y Y (zGx Y Y Y Y (by first | (simp only [Nat.zero_add, Int.toNat_natCast]; exact Y) | exact Y) (by omega)) ?_
   refine zU Y Y (zAh Y Y Y Y) ?_
   refine zU Y Y (zO Y Y Y Y Y Y) ?_
   refine zU Y Y (zS Y Y Y Y Y) ?_
   refine zU Y Y (zBh Y (.int Y) Y Y Y Y (keysC b) jj i1 i2) ?_
   refine zU Y Y (zL Y) ?_
   refine zAc ?_
   refine zh (by kernel_rfl) ?_
   refine rn0 ?_
   exact zI hR Y Y
end Go.Proofs.YtnkealfaldjipaaGreatDoor
namespace Go.Ax
variable [Pins]
open Go.RowKit
def sclM (x : Value) : Option AV := match x with
 | .map none => some .any
 | v => scl v
theorem vr_sclM {w : World} {S : Nat → Prop} {σ : Nat → Option Blk} {x : Value} {v : AV} (h : sclM x = some v) : VR w S σ v x ∧ x.oneCell' = true := by
 unfold sclM at h
 split at h
 · cases h; exact ⟨.any _ _, rfl⟩
 · exact zMN h
def zavM (v : Value) : Option (List AV) := v.cells.toList.mapM fun x => sclM x
theorem zLy {w : World} {S : Nat → Prop} {σ : Nat → Option Blk} {z : Value} {zs : List AV} (h : zavM z = some zs) : z.cells.size = zs.length ∧ ∀ j, j < zs.length → VR w S σ (zs.getD j .any) (z.cells.getD j undef) ∧ (z.cells.getD j undef).oneCell' = true := by
 unfold zavM at h
 have key : ∀ (l : List Value) (zs : List AV), l.mapM (fun x => sclM x) = some zs → l.length = zs.length ∧ ∀ j, j < zs.length → VR w S σ (zs.getD j .any) (l.getD j undef) ∧ (l.getD j undef).oneCell' = true := by
   intro l
   induction l with
   | nil => intro zs h; simp at h; subst h; exact ⟨rfl, fun j hj => by simp at hj⟩
   | cons x r ih =>
     intro zs h
     simp only [List.mapM_cons] at h
     cases h1 : sclM x with
     | none => simp [h1] at h
     | some y =>
       cases h2 : r.mapM (fun x => sclM x) with
       | none => simp [h1, h2] at h
       | some ys =>
         simp [h1, h2] at h
         subst h
         obtain ⟨i1, i2⟩ := ih ys h2
         refine ⟨by simp [i1], fun j hj => ?_⟩
         cases j with
         | zero => exact vr_sclM h1
         | succ j => simpa using i2 j (by simpa using hj)
 obtain ⟨k1, k2⟩ := key _ _ h
 refine ⟨by simpa using k1, fun j hj => ?_⟩
 have := k2 j hj
 have e : z.cells.toList.getD j undef = z.cells.getD j undef := by
   have hlt : j < z.cells.size := by simp at k1; omega
   simp [List.getD, Array.getD, hlt]
 rwa [e] at this
section
variable {P : Program} {fn : Func} {c : Ctx} {fr : Fr} {H : zZ} {k : List It}
/-- A struct's or an array's value. -/
theorem q_buildM {ind : Bool} {d : Option Nat} {ty : TypeId} {pos : String} {after : Array Edge} {g : Option (Nat × Bool)} {t : TypeId} {parts : List (Nat × Operand)} {it : TypeInfo} {z : Value} {zs L : List AV} {l : List (Nat × AV)} {pl : Nat → Option (Nat × Nat)}
   (hi : P.info? t = some it) (hz : it.zero = some z) (hzs : zavM z = some zs) (hpl : zH6 P t = some pl) (hl : zDw fr parts = some l) (hf : zGQ pl zs l = some L) :
   QOp ind P fn c fr H ⟨d, .build t parts.toArray, ty, pos, after, g⟩ (.agg L) := by
 intro w a σ S hr
 obtain ⟨y1, y2⟩ := zLy (w := w) (S := S) (σ := σ) hzs
 obtain ⟨cs', g1, g2⟩ := zG9 l _ z.cells zs L ⟨y1, y2⟩ (zEV hr parts l hl) hf
 refine ⟨.agg cs', .agg _ _ _ g2.1 (fun i hi => (g2.2 i hi).1) (fun i hi => (g2.2 i hi).2), fun w' _ => ?_⟩
 have hb : P.built t ((parts.toArray.map fun (i, x) => (i, a.eval x)).toList) = some cs' := by
   have e : (parts.toArray.map fun (i, x) => (i, a.eval x)).toList = parts.map fun (i, x) => (i, a.eval x) := by simp
   rw [e]
   unfold zH6 at hpl
   unfold Program.built
   cases hu : P.underlying t with
   | none => simp [hu] at hpl
   | some u =>
     cases u with
     | array nn e' =>
       simp only [hu] at hpl
       cases he : P.info? e' with
       | none => simp [he] at hpl
       | some ie =>
         simp only [he, Option.some.injEq] at hpl
         subst hpl
         simp only [hi, hz, he]
         exact g1
     | struct fields =>
       simp only [hu] at hpl
       cases he : fields.toList.mapM (fun f => (P.info? f.type).map fun i => (f.offset, i.size)) with
       | none => simp [he] at hpl
       | some places =>
         simp only [he, Option.some.injEq] at hpl
         subst hpl
         simp only [hi, hz, he]
         exact g1
     | _ => simp [hu] at hpl
 have hrun := run_build (P := P) w' t (parts.toArray.map fun (i, x) => (i, a.eval x)) cs' hb
 simp only [execOp, Sem.run_bind, hrun, Result.andThen_ok]
 rfl
theorem zL3 {all : Array Oper} {d : Nat} {t : TypeId} {ty : TypeId} {pos : String} {after : Array Edge} {rest : List Oper} {inf : TypeInfo} {z : Value} {zs : List AV}
   (hi : P.info? t = some inf) (hz : inf.zero = some z) (hzs : zavM z = some zs)
   (hk : Ax P fn c (.ops false all rest k) ((d, .ptr H.length 0 0) :: fr) (H ++ [some ⟨t, .box zs⟩])) : Ax P fn c (.ops false all (⟨some d, .alloc t, ty, pos, after, none⟩ :: rest) k) fr H := by
 refine zJU (fun w a σ S hr => ?_) hk
 have ha : Arr w S σ z.cells zs := zLy hzs
 have hrun : (execOp a.eval ⟨some d, .alloc t, ty, pos, after, none⟩).run P w = .ok (.value (.pointer (some ⟨w.heap.size, 0, none⟩))) (w.alloc (.cells z.cells t (0, 0))) := by
   simp [execOp, Instr.alloc, newVar, newRow, zeroValue, typeInfo, hi, hz]
 refine ⟨_, _, _, S, hrun, hr.alloc (o := ⟨t, .box zs⟩) (C := 1) (cur := z.cells) (Nat.le_refl _) (by unfold maxLen; omega) (by simp [Cells.sz, ha.1]) (zIl ha), ?_⟩
 have := VR.ptr (w := w.alloc (.cells z.cells t (0, 0))) (S := S) (upσ σ H.length (.at w.heap.size (Cells.box zs).sz 1)) H.length 0 0 w.heap.size (Cells.box zs).sz 1 (by simp [upσ])
 simpa using this
end
end Go.Ax
namespace Go.Proofs.YtnkealfaldjipaaGreatDoor
open Go.Ax Go.Ax.Bg Go.Ax.Rt Go.RowKit Go.Ax.Idx Go.Ax.Cd
attribute [local irreducible] Ax zBE QOp zV zAz
set_option maxRecDepth 100000
set_option maxHeartbeats 4000000
structure StrS (t : zQ) (p : Int) (s : zAL) : Prop where
 short : ShortS s
 ok : OkS t p s
 dig : ∀ c ∈ s, ∀ r ∈ c.odds, r.length ≤ 12
theorem StrS.nd {t : zQ} {p : Int} {s : zAL} (h : StrS t p s) : (s.map TChoice.info).Nodup := by rw [h.ok.infos]; exact zBz t p
theorem StrS.str {t : zQ} {p : Int} {s : zAL} (h : StrS t p s) : Strat t p (zCZ s) 12 := h.ok.strat12 h.dig
theorem StrS.call {t : zQ} {p : Int} {s : zAL} (h : StrS t p s) : zX Tryz.prog 132 [.ro (zm s) 0 s.length] (zDi s) :=
 odds_ok' s h.short h.nd (fun c hc => ⟨(zBu (h.ok.odds c hc)).1, (zBu (h.ok.odds c hc)).2.1⟩)
theorem StrS.node {t : zQ} {p : Int} {s : zAL} (h : StrS t p s) (hv : Valid t) {i : Nat} (hi : i < t.length) (hk : (t.getD i node0).kind = 2) (hp : (t.getD i node0).player = p) : ∃ c ∈ s, c.info = (t.getD i node0).info ∧ zCZ s (t.getD i node0).info = c.odds.map zAT := by
 have hs : zBJ p (t.getD i node0).info (t.getD i node0) = true := by
   unfold zBJ
   rw [zGF.2 ⟨hk, hp⟩, decide_eq_true rfl]; rfl
 obtain ⟨c, c1, c2, c3, _⟩ := h.ok.at' ((zBa hv).2 ⟨i, hi, hs⟩)
 exact ⟨c, c1, c2, c3⟩
def zBF (t : zQ) (a b : zAL) : zAJ := zDF t (zCZ a) (zCZ b)
theorem playS_G {t : zQ} (hv : Valid t) (hm : Go.Ax.Rt.Modest t) {a b : zAL} (ha : StrS t 0 a) (hb : StrS t 1 b) : OddsG t (zBF t a b) :=
 zPe hv hm.len (zPW hv hm ha.str hb.str) (fun i hi hk => by unfold zBF zDF; rw [if_pos hk]) (fun i hi hk => by unfold zBF zDF; rw [if_neg (by omega), if_neg (by omega)])
theorem zMe (a b : zAL) : zAA (.box [zDi a, zDi b]) := by
 intro i j _ hj
 have hj : j < 2 := hj
 match j, hj with
 | 0, _ => rfl
 | 1, _ => rfl
theorem zLK (t : zQ) (a b : zAL) (hT : ShortT t) (hv : Valid t) (hm : Go.Ax.Rt.Modest t) (ha : StrS t 0 a) (hb : StrS t 1 b) :
   zX Tryz.prog 81 [.ro (zc t) 0 t.length, .ro (zm a) 0 a.length, .ro (zm b) 0 b.length] (.ro (qsC (ze t (zBF t a b))) 0 t.length) := by
 have h1 := zNb t (zBF t a b) 141 [.rp (.box [zDi a, zDi b]) 0 0] rfl rfl hT hv (playS_G hv hm ha hb) (fun i hi hk => by
   have hp := zDS hv hi hk
   rcases hp with hp | hp
   · obtain ⟨c, c1, c2, c3⟩ := ha.node hv hi hk hp
     have := zL7 (t.getD i node0) a b (.inl hp) c (by rw [if_pos hp]; exact c1) c2
     have e : zBF t a b i = some (c.odds.map zAT) := by unfold zBF zDF; rw [if_neg (by omega), if_pos hk, if_pos hp, c3]
     rw [e]; exact this
   · obtain ⟨c, c1, c2, c3⟩ := hb.node hv hi hk hp
     have := zL7 (t.getD i node0) a b (.inr hp) c (by rw [if_neg (by omega)]; exact c1) c2
     have e : zBF t a b i = some (c.odds.map zAT) := by unfold zBF zDF; rw [if_neg (by omega), if_pos hk, if_neg (by omega), c3]
     rw [e]; exact this)
 have ca := ha.call
 have cb := hb.call
 refine zV.value0 (zG (P := Tryz.prog) (fn := Tryz.f81) Y Y (by kernel_rfl) Y (fun c hR hfix => ?_)) (fix := fun _ => False) (fun _ h => h) Y Y
 refine rn0 ?_
 refine zC Y Y Y ca ?_
 repeat (refine zD (zH rfl) ?_)
 refine zC Y Y Y cb ?_
 skip
 refine zD (q_buildM Y Y Y Y Y Y) ?_
 skip
 refine zL3 Y Y Y ?_
 skip
 refine zP (c' := .box [zDi a, zDi b]) Y Y Y Y Y Nat.zero_lt_one Y Y (fun i' j' hi' hj' => ?_) ?_
 · rw [if_pos (Nat.lt_one_iff.1 hi')]; rfl
 repeat (first | refine zB ?_ | refine zA ?_ | refine zW ?_)
 refine zBb [some ⟨219, .box [zDi a, zDi b]⟩] Y ?_
 refine zNm (o := ⟨219, .box [zDi a, zDi b]⟩) (v := .ptr 0 0 0) 7 [(0, .ro (zc t) 0 t.length)] (.rp (.box [zDi a, zDi b]) 0 0) (zMe a b) rfl rfl (fun o ho => by simp at ho; subst ho; exact Nat.zero_lt_one) rfl ⟨rfl, rfl, trivial⟩ ⟨rfl, trivial⟩ rfl (by rw [hfix]; exact fun h hh => hh) ?_
 repeat (first | refine zD (zH rfl) ?_ | refine zK rfl ?_ | refine zD (zIH rfl) ?_)
 refine zC Y Y Y h1 ?_
 refine rn0 ?_
 exact zI hR Y Y
theorem zOS (t : zQ) (a b : zAL) (hT : ShortT t) (hv : Valid t) (hm : Go.Ax.Rt.Modest t) (ha : StrS t 0 a) (hb : StrS t 1 b) :
   zX Tryz.prog 77 [.ro (zc t) 0 t.length, .ro (zm a) 0 a.length, .ro (zm b) 0 b.length] (qA (zA3 t (zBF t a b))) := by
 have h1 := zLK t a b hT hv hm ha hb
 have hml := hm.len
 have h2 := zQF t (by omega)
 have hel := zG5 t t.length
 have hw := zPW hv hm ha.str hb.str
 have hrl : (ze t (zBF t a b)).length = t.length := zDB t _ _
 refine zV.value0 (zG (P := Tryz.prog) (fn := Tryz.f77) Y Y (by kernel_rfl) Y (fun c hR hfix => ?_)) (fix := fun _ => False) (fun _ h => h) Y Y
 refine rn4 ?_
 refine zC Y Y Y h1 ?_
 refine rn0 ?_
 refine zC Y Y Y zFC ?_
 repeat (refine zBK rfl rfl rfl ?_)
 refine zP (c' := .box (zu 0)) Y Y Y Y Y Nat.zero_lt_one Y Y (fun i' j' hi' hj' => ?_) ?_
 · rw [if_pos (Nat.lt_one_iff.1 hi')]; rfl
 refine rn0 ?_
 refine zC Y Y Y h2 ?_
 refine rn3 ?_
 have hEl : (zA0 t t.length).length = (zAH t).length := by rw [zIu, List.length_map]
 refine zi (ι := Nat) (fun k => [(0, .ro (zc t) 0 t.length), (6, .ptr 0 0 0), (7, .ro (qsC (ze t (zBF t a b))) 0 t.length), (8, .ptr 1 0 0), (17, .ro (.ints .i64 (zA0 t t.length)) 0 (zA0 t t.length).length), (18, .int .i64 ((zA0 t t.length).length : Nat)), (19, .int .i64 (k : Nat))]) (fun k => [some ⟨122, .box [.bool false, .nil, .nil]⟩, some ⟨122, .box (zu (zKO t (zBF t a b) k))⟩])
   (fun k => k ≤ (zA0 t t.length).length) (fun k => (zA0 t t.length).length - k) 0 ⟨⟨rfl, rfl, rfl, rfl, rfl, rfl, rfl, trivial⟩, rfl, Nat.zero_le _⟩ ?_
 intro k hk
 refine rn4 ?_
 refine zE Y (fun h => ?_) (fun h => ?_)
 · have hk' : k < (zAH t).length := by omega
   have hi0 := zLx t hk'
   obtain ⟨i1, i2⟩ := zDQ (zAP (l := zAH t) 0 hk')
   have hsuc := zRS t (zBF t a b) hk'
   have hpay := zI2 hv i1 i2
   have hpl := (hT.node _ (zAP node0 i1)).pay
   have cp := zE0 (t.getD ((zAH t).getD k 0) node0).pay hpl hpay
   have dr := zFs hv hw hml i1
   have dp := (hm.pays hv).dig _ i1 i2
   have hsum : D (1 + k * 494) (zKO t (zBF t a b) k) := by
     unfold zKO
     refine (zME (k := 493) (l := ((zAH t).take k).map (zFb t (ze t (zBF t a b)))) (fun q hq => ?_) (j := 1) (acc := 0) ⟨by decide, by decide⟩).mono ?_
     · obtain ⟨x, hx, rfl⟩ := List.mem_map.1 hq
       obtain ⟨x1, x2⟩ := zDQ (List.mem_of_mem_take hx)
       exact ((zFs hv hw hml x1).mul ((hm.pays hv).dig _ x1 x2)).mono (by decide)
     · rw [List.length_map, List.length_take]
       have : min k (zAH t).length * 494 ≤ k * 494 := Nat.mul_le_mul_right _ (Nat.min_le_left _ _)
       omega
   have cm := zHJ _ _ (zCw (dr.mono (show 12 * 40 + 1 ≤ 9 * 100000 by decide))) (zCw (dp.mono (by decide)))
   have hend : zFb t (ze t (zBF t a b)) ((zAH t).getD k 0) = (ze t (zBF t a b)).getD ((zAH t).getD k 0) 0 * zAT (t.getD ((zAH t).getD k 0) node0).pay := rfl
   have cm : zX Tryz.prog 105 [qA ((ze t (zBF t a b)).getD ((zAH t).getD k 0) 0), qA (zAT (t.getD ((zAH t).getD k 0) node0).pay)] (qA (zFb t (ze t (zBF t a b)) ((zAH t).getD k 0))) := cm
   have ca := zGA (zKO t (zBF t a b) k) (zFb t (ze t (zBF t a b)) ((zAH t).getD k 0)) (zCw (hsum.mono (by omega))) (by
     rw [hend]; exact zCw ((dr.mul dp).mono (by decide)))
   rw [← hsuc] at ca
   have hdk : k < (zA0 t t.length).length := by omega
   generalize hV2 : zKO t (zBF t a b) (k + 1) = V2 at *
   generalize zKO t (zBF t a b) k = V at *
   generalize hE : zFb t (ze t (zBF t a b)) ((zAH t).getD k 0) = E at *
   generalize (zAH t).getD k 0 = i at *
   repeat (first | refine zA ?_ | refine zW ?_ | refine zw ?_ | refine zk ?_)
   refine zK Y ?_
   repeat (first | refine zD (zL rfl) ?_ | refine zD (zAn rfl rfl rfl) ?_ | refine zB ?_ | refine zA ?_ | refine zD (zf rfl rfl rfl rfl (by first | (simp only [Nat.zero_add, Int.toNat_natCast, Int.toNat_zero]; exact rfl) | exact rfl) (by omega)) ?_)
   refine z7 10 (.int .i64 (i : Nat)) Y (AEq.of_eq (by rw [← hi0])) ?_
   skip
   refine zl (by kernel_rfl) ?_
   refine zt (fuel := 1) [0, 1, 2, 3, 4, 5, 6, 7, 8, 9, 10, 11, 12] [(10, .int .i64 (i : Nat)), (0, .ro (zc t) 0 t.length), (6, .ptr 0 0 0), (7, .ro (qsC (ze t (zBF t a b))) 0 t.length), (8, .ptr 1 0 0), (17, .ro (.ints .i64 (zA0 t t.length)) 0 (zA0 t t.length).length), (18, .int .i64 ((zA0 t t.length).length : Nat)), (19, .int .i64 (k : Nat))] ⟨Y, Y, Y, Y, Y, Y, Y, Y, trivial⟩ (by kernel_rfl) (by decide) Y Y ?_
   refine zU Y Y (zq Y Y Y Y Y Y Y (by first | exact Nat.zero_lt_one | assumption | omega)) ?_
   refine zU Y Y (zH Y) ?_
   refine zU Y Y (zH Y) ?_
   refine zU Y Y (zf Y Y Y Y (by first | (simp only [Nat.zero_add, Int.toNat_natCast, Int.toNat_zero]; exact Y) | exact Y) (by omega)) ?_
   refine zU Y Y (zBi Y Y Y Y Y Y) ?_
   refine zU Y Y (zH Y) ?_
   refine zU Y Y (zH Y) ?_
   refine zU Y Y (zf Y Y Y Y (by first | (simp only [Nat.zero_add, Int.toNat_natCast, Int.toNat_zero]; exact Y) | exact Y) (by omega)) ?_
   refine zU Y Y (zAu Y Y Y Y Y Y) ?_
   refine zU Y Y (zBl Y Y Y Y) ?_
   refine zBc Y Y Y Y Y cp ?_
   refine zBc Y Y Y Y Y cm ?_
   refine zBc Y Y Y Y Y ca ?_
   refine zAc ?_
   refine zF (is := [13]) (by kernel_rfl) (by simp) Y ⟨fun o ho => ?_, trivial⟩
   all_goals (cases ho)
   unfold qA
   refine zP (c' := .box (zu V2)) Y Y Y Y Y Nat.zero_lt_one Y Y (fun i' j' hi' hj' => ?_) ?_
   · rw [if_pos (Nat.lt_one_iff.1 hi')]; rfl
   refine rn1 ?_
   refine zh (by kernel_rfl) ?_
   refine rn5 ?_
   exact zM ⟨k + 1, by omega, by omega, ⟨Y, Y, Y, Y, Y, Y, Y, trivial⟩, by rw [hV2]; rfl⟩
 · have hie : k = (zA0 t t.length).length := by omega
   subst hie
   rw [hEl, valK_all]
   refine rn6 ?_
   refine zP (c' := .box (zu (zA3 t (zBF t a b)))) Y Y Y Y Y Nat.zero_lt_one Y Y (fun i' j' hi' hj' => ?_) ?_
   · rw [if_pos (Nat.lt_one_iff.1 hi')]; rfl
   refine rn0 ?_
   exact zI hR Y Y
def zEH (t : zQ) (a b : zAL) : Int := if zFB t ≠ 0 then zFB t else if zAl t 0 a ≠ 0 then zAl t 0 a else zAl t 1 b
theorem zJR {t : zQ} {a b : zAL} (h : zEH t a b = 0) : Valid t ∧ zAl t 0 a = 0 ∧ zAl t 1 b = 0 := by
 unfold zEH at h
 by_cases h1 : zFB t ≠ 0
 · rw [if_pos h1] at h; exact absurd h h1
 · rw [if_neg h1] at h
   by_cases h2 : zAl t 0 a ≠ 0
   · rw [if_pos h2] at h; exact absurd h h2
   · rw [if_neg h2] at h
     exact ⟨zH0 (Classical.not_not.1 h1), Classical.not_not.1 h2, h⟩
theorem zHs (t : zQ) (a b : zAL) (hT : ShortT t) (ha : ShortS a) (hb : ShortS b) : zX Tryz.prog 63 [.ro (zc t) 0 t.length, .ro (zm a) 0 a.length, .ro (zm b) 0 b.length] (.int .i64 (zEH t a b)) := by
 have c1 := zLl t hT
 have c2 := zED t 0 a hT.len ha
 have c3 := zED t 1 b hT.len hb
 refine zV.value0 (zG (P := Tryz.prog) (fn := Tryz.f63) Y Y (by kernel_rfl) Y (fun c hR hfix => ?_)) (fix := fun _ => False) (fun _ h => h) Y Y
 unfold zEH at hR
 generalize zFB t = e1 at *
 generalize zAl t 0 a = e2 at *
 generalize zAl t 1 b = e3 at *
 refine rn0 ?_
 refine zC Y Y Y c1 ?_
 refine rn3 ?_
 refine zE Y (fun h1 => ?_) (fun h1 => ?_)
 · rw [if_pos h1] at hR
   refine rn2 ?_
   exact zI hR Y Y
 rw [if_neg h1] at hR
 refine rn1 ?_
 refine zC Y Y Y c2 ?_
 refine rn3 ?_
 refine zE Y (fun h2 => ?_) (fun h2 => ?_)
 · rw [if_pos h2] at hR
   refine rn2 ?_
   exact zI hR Y Y
 rw [if_neg h2] at hR
 refine rn1 ?_
 refine zC Y Y Y c3 ?_
 refine rn0 ?_
 exact zI hR Y Y
/-- few nodes, short texts -/
structure Small (t : zQ) (a : List zAL) : Prop where
 sh : ShortT t
 m : Go.Ax.Rt.Modest t
 s : ∀ x ∈ a, ShortS x
 d : ∀ x ∈ a, ∀ c ∈ x, ∀ r ∈ c.odds, r.length ≤ 12
theorem Small.str {t : zQ} {l : List zAL} (h : Small t l) {s : zAL} (hs : s ∈ l) {p : Int} (he : zAl t p s = 0) : StrS t p s := ⟨h.s s hs, zEg he, h.d s hs⟩
def zHp (t : zQ) (a b : zAL) : zBI × Int := if zEH t a b ≠ 0 then ([], zEH t a b) else zHM (zA3 t (zBF t a b))
def zIL (t : zQ) (a b : zAL) : List zBI × Int := if zEH t a b ≠ 0 then ([], zEH t a b) else zB5 (ze t (zBF t a b))
theorem zLS (t : zQ) (a b : zAL) (h : Small t [a, b]) : zX Tryz.prog 19 [.ro (zc t) 0 t.length, .ro (zm a) 0 a.length, .ro (zm b) 0 b.length] (zNr (zHp t a b)) := by
 have c1 := zHs t a b h.sh (h.s a (by simp)) (h.s b (by simp))
 refine zV.value0 (zG (P := Tryz.prog) (fn := Tryz.f19) Y Y (by kernel_rfl) Y (fun c hR hfix => ?_)) (fix := fun _ => False) (fun _ h => h) Y Y
 unfold zHp at hR
 refine rn0 ?_
 refine zC Y Y Y c1 ?_
 refine rn3 ?_
 refine zE Y (fun h1 => ?_) (fun h1 => ?_)
 · rw [if_pos h1] at hR
   refine rn2 ?_
   exact zI hR Y Y
 rw [if_neg h1] at hR
 obtain ⟨hv, ea, eb⟩ := zJR (Classical.not_not.1 h1)
 have sa := h.str (s := a) (by simp) ea
 have sb := h.str (s := b) (by simp) eb
 have c2 := zOS t a b h.sh hv h.m sa sb
 have c3 := zMC (zA3 t (zBF t a b)) (zCw ((zIM hv (zFh hv h.m sa.str sb.str) h.m.len (h.m.pays hv)).mono (show 974 ≤ 9 * 100000 by decide)))
 generalize zA3 t (zBF t a b) = q at *
 refine rn1 ?_
 refine zC Y Y Y c2 ?_
 skip
 refine zC Y Y Y c3 ?_
 refine rn2 ?_
 exact zI hR Y Y
theorem rodds_ok (t : zQ) (a b : zAL) (h : Small t [a, b]) : zX Tryz.prog 21 [.ro (zc t) 0 t.length, .ro (zm a) 0 a.length, .ro (zm b) 0 b.length] (vecP (zIL t a b)) := by
 have c1 := zHs t a b h.sh (h.s a (by simp)) (h.s b (by simp))
 refine zV.value0 (zG (P := Tryz.prog) (fn := Tryz.f21) Y Y (by kernel_rfl) Y (fun c hR hfix => ?_)) (fix := fun _ => False) (fun _ h => h) Y Y
 unfold zIL at hR
 refine rn0 ?_
 refine zC Y Y Y c1 ?_
 refine rn3 ?_
 refine zE Y (fun h1 => ?_) (fun h1 => ?_)
 · rw [if_pos h1] at hR
   repeat (first | refine zD (zH rfl) ?_ | refine zD (zL rfl) ?_ | refine zB ?_ | refine zA ?_ | refine zW ?_ | refine zK rfl ?_)
   refine z7 6 (.ro (.strs []) 0 0) Y AEq.nil ?_
   refine rn2 ?_
   exact zI hR Y Y
 rw [if_neg h1] at hR
 obtain ⟨hv, ea, eb⟩ := zJR (Classical.not_not.1 h1)
 have sa := h.str (s := a) (by simp) ea
 have sb := h.str (s := b) (by simp) eb
 have hml := h.m.len
 have c2 := zLK t a b h.sh hv h.m sa sb
 have hrl : (ze t (zBF t a b)).length = t.length := zDB t _ _
 obtain ⟨r, c3, hrq⟩ := zLr (ze t (zBF t a b)) (by omega) (fun q hq => by
   obtain ⟨i, hi, rfl⟩ := List.getElem_of_mem hq
   have := zFs hv (zPW hv h.m sa.str sb.str) hml (j := i) (by omega)
   have e : (ze t (zBF t a b)).getD i 0 = (ze t (zBF t a b))[i] := zAC 0 hi
   rw [← e]
   exact zCw (this.mono (by decide)))
 rw [hrl] at c3
 generalize ze t (zBF t a b) = R at *
 refine rn1 ?_
 refine zC Y Y Y c2 ?_
 skip
 refine zC Y Y Y c3 ?_
 repeat (first | refine zD (zL rfl) ?_ | refine zB ?_ | refine zA ?_ | refine zD (zBM rfl rfl) ?_)
 refine z7 6 (.ro (.strs (zB5 R).1) 0 (zB5 R).1.length) Y hrq ?_
 repeat (refine zAX ?_)
 exact zI hR Y Y
end Go.Proofs.YtnkealfaldjipaaGreatDoor
namespace Go.Ax.Rt
open Go.Ax.Bg
def upd (u : Int → List Rat) (x : Int) (v : List Rat) : Int → List Rat := fun y => if y = x then v else u y
theorem upd_at (u : Int → List Rat) (x : Int) (v : List Rat) : upd u x v x = v := if_pos rfl
theorem zPC (u : Int → List Rat) {x y : Int} (v : List Rat) (h : y ≠ x) : upd u x v y = u y := if_neg h
theorem zPj {w c m : Nat} (hc : c < w) : (zA4 w c).getD m 0 = if m = c then 1 else 0 := by
 unfold zA4
 rw [Go.Ax.Dt.getD_set, List.length_replicate]
 by_cases h : m = c
 · subst h; rw [if_pos ⟨rfl, hc⟩, if_pos rfl]
 · rw [if_neg (fun q => h q.1), if_neg h]
   simp only [List.getD, List.getElem?_replicate]
   split <;> rfl
theorem zEY {t : zQ} {p : Int} (u : Int → List Rat) {k b : Nat} {x : Int × Nat} (x2 : x.2 ≤ k) (x3 : k < x.2 + zT t p x.1) (x4 : b < x.2) (x6 : x.2 + zT t p x.1 ≤ (zY t p).length)
   (x7 : ∀ c, c < zT t p x.1 → (zY t p).getD (x.2 + c) seq0 = ⟨x.1, (c : Int), (b : Int)⟩) : (zAi t p u).getD k 0 = (zAi t p u).getD b 0 * (u x.1).getD (k - x.2) 0 := by
 have hs := x7 (k - x.2) (by omega)
 rw [show x.2 + (k - x.2) = k by omega] at hs
 unfold zAi
 rw [zDn _ _ (show k < (zY t p).length by omega), hs]
 unfold zEA
 simp only
 rw [if_neg (by omega), Int.toNat_natCast, Int.toNat_natCast, zHj _ _ (show b < (zY t p).length by omega) (show b < k by omega)]
/-- What stands before an information set does not hang on it. -/
theorem zQo {t : zQ} (hv : Valid t) {p : Int} (u : Int → List Rat) (y : Int) (v : List Rat) {x : Int × Nat} (hx : x ∈ (zAM t p t.length).first) (hy : x.1 = y) : ∀ k, k < x.2 → k < (zY t p).length → (zAi t p (upd u y v)).getD k 0 = (zAi t p u).getD k 0 := by
 have hnd := (RI.all_n hv p t.length (Nat.le_refl _)).nd
 intro k
 induction k using Nat.strongRecOn with
 | ind k ih =>
   intro hk hkl
   rcases Nat.eq_zero_or_pos k with e | e
   · subst e; rw [zCA hv, zCA hv]
   · obtain ⟨x', b, y0, y1, y2, y3, y4, y5, y6, y7⟩ := zHo hv e hkl
     have hne : x'.1 ≠ y := fun h => by
       have := zMn hnd y0 hx (by rw [h, hy])
       subst this
       omega
     rw [zEY (upd u y v) y2 y3 y4 y6 y7, zEY u y2 y3 y4 y6 y7, zPC u v hne, ih b (by omega) (by omega) (by omega)]
theorem plan_lin {t : zQ} (hv : Valid t) {p : Int} (u : Int → List Rat) {y : Int} (hsum : zBH (fun c => (u y).getD c 0) (zT t p y) = 1) : ∀ k, k < (zY t p).length →
   (zAi t p u).getD k 0 = zBH (fun c => (u y).getD c 0 * (zAi t p (upd u y (zA4 (zT t p y) c))).getD k 0) (zT t p y) := by
 intro k
 induction k using Nat.strongRecOn with
 | ind k ih =>
   intro hkl
   rcases Nat.eq_zero_or_pos k with e | e
   · subst e
     rw [zCA hv, ← hsum]
     exact zAy (fun c _ => by rw [zCA hv, Rat.mul_one])
   · obtain ⟨x, b, y0, y1, y2, y3, y4, y5, y6, y7⟩ := zHo hv e hkl
     by_cases hxy : x.1 = y
     · rw [zEY u y2 y3 y4 y6 y7]
       have h1 : ∀ c, c < zT t p y → (u y).getD c 0 * (zAi t p (upd u y (zA4 (zT t p y) c))).getD k 0 = if c = k - x.2 then (zAi t p u).getD b 0 * (u y).getD c 0 else 0 := fun c hc => by
         rw [zEY _ y2 y3 y4 y6 y7, zQo hv u y _ y0 hxy b y4 (by omega), hxy, upd_at, zPj hc]
         by_cases h : c = k - x.2
         · rw [if_pos h.symm, if_pos h, Rat.mul_one, Rat.mul_comm]
         · rw [if_neg (fun q => h q.symm), if_neg h, Rat.mul_zero, Rat.mul_zero]
       rw [zAy h1, zDq (f := fun c => (zAi t p u).getD b 0 * (u y).getD c 0) (by rw [← hxy]; omega), hxy]
     · rw [zEY u y2 y3 y4 y6 y7, ih b (by omega) (by omega), ← zLw]
       refine zAy (fun c hc => ?_)
       rw [zEY _ y2 y3 y4 y6 y7, zPC _ _ hxy, Rat.mul_assoc]
/-- the pure strategies in their order -/
def zD5 (out : List (List Int)) (n : Nat) : List (List Int) := out.flatMap (fun l => (List.range n).map (fun k : Nat => l ++ [(k : Int)]))
def zCT (w : List Nat) : List (List Int) := w.foldl zD5 [[]]
theorem zFx (w : List Nat) (n : Nat) : zCT (w ++ [n]) = zD5 (zCT w) n := by unfold zCT; rw [List.foldl_append]; rfl
/-- the probability of a pure strategy -/
def zIP : List (List Rat) → List Int → Rat → Rat
 | o :: os, c :: cs, q => zIP os cs (q * o.getD c.toNat 0)
 | _, _, q => q
theorem zKy (o : List Rat) (c : Int) : ∀ (os : List (List Rat)) (cs : List Int) (q : Rat), os.length = cs.length → zIP (os ++ [o]) (cs ++ [c]) q = zIP os cs q * o.getD c.toNat 0
 | [], [], q, _ => rfl
 | a :: r, b :: s, q, h => by
   show zIP (r ++ [o]) (s ++ [c]) _ = zIP r s _ * _
   exact zKy o c r s _ (by simpa using h)
 | [], _ :: _, _, h => by simp at h
 | _ :: _, [], _, h => by simp at h
/-- a strategy with some information sets made pure -/
def zDb (t : zQ) (p : Int) : (Int → List Rat) → List Int → List Int → Int → List Rat
 | u, x :: xs, c :: cs => zDb t p (upd u x (zA4 (zT t p x) c.toNat)) xs cs
 | u, _, _ => u
theorem zKs (t : zQ) (p : Int) (x c : Int) : ∀ (xs cs : List Int) (u : Int → List Rat), xs.length = cs.length → zDb t p u (xs ++ [x]) (cs ++ [c]) = upd (zDb t p u xs cs) x (zA4 (zT t p x) c.toNat)
 | [], [], u, _ => rfl
 | a :: r, b :: s, u, h => zKs t p x c r s _ (by simpa using h)
 | [], _ :: _, _, h => by simp at h
 | _ :: _, [], _, h => by simp at h
theorem zIg (t : zQ) (p : Int) {y : Int} : ∀ (xs cs : List Int) (u : Int → List Rat), y ∉ xs → zDb t p u xs cs y = u y
 | [], cs, u, _ => by cases cs <;> rfl
 | a :: r, [], u, _ => rfl
 | a :: r, b :: s, u, h => by
   show zDb t p _ r s y = _
   rw [zIg t p r s _ (fun q => h (by simp [q])), zPC _ _ (fun q => h (by simp [q]))]
theorem next_len {l : List Int} {out : List (List Int)} {n m : Nat} (ho : ∀ a ∈ out, a.length = m) (h : l ∈ zD5 out n) : l.length = m + 1 := by
 obtain ⟨l', h1, h2⟩ := List.mem_flatMap.1 h
 obtain ⟨k, _, rfl⟩ := List.mem_map.1 h2
 rw [List.length_append, ho l' h1]; rfl
theorem zF1 (w : List Nat) : ∀ m, m ≤ w.length → ∀ l ∈ zCT (w.take m), l.length = m
 | 0, _, l, h => by
   rw [List.take_zero] at h
   simp [zCT] at h; subst h; rfl
 | m + 1, hm, l, h => by
   rw [List.take_succ_eq_append_getElem (by omega), zFx] at h
   exact next_len (zF1 w m (by omega)) h
theorem zQS (w : List Nat) : ∀ m, m ≤ w.length → ∀ l ∈ zCT (w.take m), ∀ k, k < m → 0 ≤ l.getD k 0 ∧ (l.getD k 0).toNat < w.getD k 0
 | 0, _, l, h => fun k hk => absurd hk (Nat.not_lt_zero _)
 | m + 1, hm, l, h => by
   intro k hk
   rw [List.take_succ_eq_append_getElem (by omega), zFx] at h
   obtain ⟨l', h1, h2⟩ := List.mem_flatMap.1 h
   obtain ⟨j, hj, rfl⟩ := List.mem_map.1 h2
   have hl := zF1 w m (by omega) l' h1
   by_cases e : k = m
   · subst e
     have : (l' ++ [(j : Int)]).getD k 0 = (j : Int) := by
       have h3 := zP5 (l := l') (x := (j : Int)) (d := 0)
       rwa [hl] at h3
     rw [this]
     have := List.mem_range.1 hj
     rw [zAC 0 (by omega)]
     omega
   · rw [zFK 0 (by omega)]
     exact zQS w m (by omega) l' h1 k (by omega)
theorem zQ0 (f : List Int → Rat) (n : Nat) (g : List Int → Nat → Rat) (out : List (List Int)) (hg : ∀ l ∈ out, f l = zBH (g l) n) : zAK 0 (out.map f) = zAK 0 (out.flatMap (fun l => (List.range n).map (g l))) := by
 induction out with
 | nil => rfl
 | cons l r ihr =>
   have key : ∀ m, zAK 0 ((List.range m).map (g l)) = zBH (g l) m := by
     intro m
     induction m with
     | zero => rfl
     | succ m ih => rw [List.range_succ, List.map_append, List.map_singleton, zEe, ih]; rfl
   have app : ∀ (a b : List Rat) (x : Rat), zAK x (a ++ b) = zAK (zAK x a) b := by
     intro a
     induction a with
     | nil => intro b x; rfl
     | cons y a ih => intro b x; exact ih b (x + y)
   rw [List.map_cons, List.flatMap_cons, app, key, zBD _ (zBH _ _), ← ihr (fun a ha => hg a (by simp [ha])), ← hg l (by simp)]
   show zAK (0 + f l) (r.map f) = _
   rw [zBD, Rat.zero_add]
/-- The probability of a sequence is the sum over the pure strategies. -/
theorem zOD {t : zQ} (hv : Valid t) {p : Int} {u : Int → List Rat} (hu : Mix t p u) {k : Nat} (hk : k < (zY t p).length) : ∀ m, m ≤ (zJ t p).length →
   (zAi t p u).getD k 0 = zAK 0 ((zCT (((zJ t p).take m).map (zT t p))).map (fun l => zIP (((zJ t p).take m).map u) l 1 * (zAi t p (zDb t p u ((zJ t p).take m) l)).getD k 0))
 | 0, _ => by
   show _ = 0 + (1 * (zAi t p u).getD k 0)
   rw [Rat.one_mul, Rat.zero_add]
 | m + 1, hm => by
   have hm' : m < (zJ t p).length := by omega
   have hnd := zBz t p
   have hy : (zJ t p)[m] ∈ zJ t p := List.getElem_mem _
   have hnot : (zJ t p)[m] ∉ (zJ t p).take m := by
     intro h
     obtain ⟨i, hi, he⟩ := List.getElem_of_mem h
     rw [List.getElem_take] at he
     have hi2 : i < m := by simpa using (by simpa using hi : i < min m (zJ t p).length) |> fun q => by omega
     have hp := List.pairwise_iff_getElem.1 (List.nodup_iff_pairwise_ne.1 hnd)
     exact hp i m (by omega) hm' hi2 he
   rw [List.take_succ_eq_append_getElem hm']
   generalize hye : (zJ t p)[m] = y at *
   rw [zOD hv hu hk m (by omega), List.map_append, List.map_append, List.map_singleton, List.map_singleton, zFx]
   have hlen : ∀ l ∈ zCT (((zJ t p).take m).map (zT t p)), l.length = ((zJ t p).take m).length := fun l hl => by
     have h1 := zF1 (((zJ t p).take m).map (zT t p)) ((zJ t p).take m).length (by rw [List.length_map]; exact Nat.le_refl _) l (by rw [List.take_of_length_le (by rw [List.length_map]; exact Nat.le_refl _)]; exact hl)
     exact h1
   unfold zD5
   rw [List.map_flatMap]
   refine Eq.trans (zQ0 _ (zT t p y) (fun l c => zIP (((zJ t p).take m).map u ++ [u y]) (l ++ [(c : Int)]) 1 * (zAi t p (zDb t p u ((zJ t p).take m ++ [y]) (l ++ [(c : Int)]))).getD k 0) _ (fun l hl => ?_)) ?_
   · have hll := hlen l hl
     have hvy : zDb t p u ((zJ t p).take m) l y = u y := zIg t p _ l u hnot
     have hlin := plan_lin hv (p := p) (zDb t p u ((zJ t p).take m) l) (y := y) (by rw [hvy]; exact mix_sum hu hy) k hk
     rw [hlin, ← zIV]
     refine zAy (fun c hc => ?_)
     rw [zKy _ _ _ _ _ (by rw [List.length_map, hll]), zKs _ _ _ _ _ _ _ hll.symm, Int.toNat_natCast, hvy, Rat.mul_assoc]
   · refine congrArg (zAK 0) ?_
     refine congrArg (fun f => List.flatMap f _) (funext fun l => ?_)
     rw [List.map_map]
     rfl
def befOf (t : zQ) (p : Int) (s : Nat) : Nat := ((zY t p).getD s seq0).before.toNat
structure BlkX (t : zQ) (p x : Int) (s b : Nat) : Prop where
 mem : (x, s) ∈ (zAM t p t.length).first
 start : zDW t p x = s
 bef : befOf t p s = b
 one : 1 ≤ s
 w1 : 1 ≤ zT t p x
 fin : s + zT t p x ≤ (zY t p).length
 lt : b < s
 seqs : ∀ c, c < zT t p x → (zY t p).getD (s + c) seq0 = ⟨x, (c : Int), (b : Int)⟩
theorem zKX {t : zQ} (hv : Valid t) {p x : Int} (hx : x ∈ zJ t p) : ∃ s b, BlkX t p x s b := by
 have h := RI.all_n hv p t.length (Nat.le_refl _)
 obtain ⟨j, hj, hs⟩ := (zBa hv).1 hx
 have hk := (h.keys x).2 ⟨j, hj, hs⟩
 have hw : 1 ≤ zT t p x := by
   rw [zCp hv hj hs]
   unfold zBJ at hs
   rw [Bool.and_eq_true] at hs
   have ho := (zGF.1 hs.1).1
   rcases hv.child hj with q | q
   · have := q.1; omega
   · exact (zCD q.2).1
 cases hl : zBX (zAM t p t.length).first x with
 | none => exact absurd hk (zF5 hl)
 | some s =>
   have hm := zCJ hl
   obtain ⟨y1, y2, b, b1, b2, b3⟩ := h.fst (x, s) hm
   obtain ⟨n, rfl⟩ := Int.eq_ofNat_of_zero_le b1
   simp only at y1 y2 b2 b3
   refine ⟨s, n, hm, by unfold zDW zHu; rw [hl]; rfl, ?_, y1, hw, y2, by omega, b3⟩
   have := b3 0 (by omega)
   unfold befOf
   rw [Nat.add_zero] at this
   rw [show (zY t p).getD s seq0 = _ from this]
   exact Int.toNat_natCast n
theorem zLz {α : Type} (f g : α → Rat) : ∀ l : List α, zAK 0 (l.map (fun a => f a + g a)) = zAK 0 (l.map f) + zAK 0 (l.map g)
 | [] => by simp [zAK]; decide +kernel
 | a :: r => by
   rw [List.map_cons, List.map_cons, List.map_cons, zAK, zAK, zAK, zBD _ (0 + (f a + g a)), zBD _ (0 + f a), zBD _ (0 + g a), zLz f g r]
   grind
theorem zLQ {α : Type} (F : α → Nat → Rat) : ∀ (n : Nat) (l : List α), zBH (fun c => zAK 0 (l.map (fun a => F a c))) n = zAK 0 (l.map (fun a => zBH (F a) n))
 | 0, l => by
   show (0 : Rat) = zAK 0 (l.map (fun _ => 0))
   induction l with
   | nil => rfl
   | cons a r ih => rw [List.map_cons, zAK, Rat.add_zero]; exact ih
 | n + 1, l => by
   show zBH _ n + _ = _
   rw [zLQ F n l, ← zLz]
   rfl
/-- the strategy of a flow -/
def zE7 (t : zQ) (p : Int) (W : Nat → Rat) (x : Int) : List Rat :=
 if 0 < W (befOf t p (zDW t p x)) then (List.range (zT t p x)).map (fun c => W (zDW t p x + c) / W (befOf t p (zDW t p x))) else zA4 (zT t p x) 0
theorem behU_get {t : zQ} {p x : Int} {s b : Nat} (h : BlkX t p x s b) (W : Nat → Rat) (hW : 0 < W b) {c : Nat} (hc : c < zT t p x) : (zE7 t p W x).getD c 0 = W (s + c) / W b := by
 unfold zE7
 rw [h.start, h.bef, if_pos hW, zBB _ _ 0 0 c (by rw [List.length_range]; exact hc), zAC 0 (by rw [List.length_range]; exact hc), List.getElem_range]
/-- the value of a strategy of a player against the other one's -/
def valP (t : zQ) (p : Int) (u v : Int → List Rat) : Rat := if p = 1 then zA3 t (zDF t v u) else zA3 t (zDF t u v)
theorem zNj {t : zQ} (hv : Valid t) {p : Int} (hp : p = 0 ∨ p = 1) (hpf : zBL t p = true) (u v : Int → List Rat) : valP t p u v = (if p = 1 then (-1 : Rat) else 1) * zFi (zAi t p u) (zGU t p (zGn t p v)) (zY t p).length := by
 have h := zJJ hv hpf u (zJ7 t p v)
 rw [h]
 unfold valP
 rcases hp with rfl | rfl
 · rw [if_neg (by decide), if_neg (by decide), if_neg (by decide), zFJ (both0 hv u v), Rat.one_mul]
 · rw [if_pos rfl, if_pos rfl, if_pos rfl, zFJ (both1 hv v u)]
   grind
theorem zIp {α : Type} (f : α → Rat) (c : Rat) : ∀ l : List α, zAK 0 (l.map (fun a => c * f a)) = c * zAK 0 (l.map f)
 | [] => by show (0 : Rat) = c * 0; rw [Rat.mul_zero]
 | a :: r => by
   rw [List.map_cons, List.map_cons, zAK, zAK, zBD _ (0 + c * f a), zBD _ (0 + f a), zIp f c r]
   grind
theorem zOh {α : Type} (f : α → Rat) (c : Rat) (l : List α) : zAK 0 (l.map (fun a => f a * c)) = zAK 0 (l.map f) * c := by
 rw [Rat.mul_comm, ← zIp]
 exact congrArg (zAK 0) (List.map_congr_left (fun a _ => Rat.mul_comm _ _))
theorem dot_mix {α : Type} {l : List α} {w : α → Rat} {P : α → List Rat} {Q S : List Rat} {n : Nat} (h : ∀ k, k < n → Q.getD k 0 = zAK 0 (l.map (fun a => w a * (P a).getD k 0))) : zFi Q S n = zAK 0 (l.map (fun a => w a * zFi (P a) S n)) := by
 unfold zFi
 rw [zAy (g := fun k => zAK 0 (l.map (fun a => w a * ((P a).getD k 0 * S.getD k 0)))) (fun k hk => by
   rw [h k hk, ← zOh]
   exact congrArg (zAK 0) (List.map_congr_left (fun a _ => Rat.mul_assoc _ _ _)))]
 rw [zLQ (fun a k => w a * ((P a).getD k 0 * S.getD k 0))]
 exact congrArg (zAK 0) (List.map_congr_left (fun a _ => zIV _ _ _))
/-- The mixture's pay is that of the strategy with its probabilities of sequences. -/
theorem pay_mix {α : Type} {t : zQ} (hv : Valid t) {p : Int} (hp : p = 0 ∨ p = 1) (hpf : zBL t p = true) {l : List α} {w : α → Rat} {U : α → Int → List Rat} {u : Int → List Rat} (v : Int → List Rat)
   (h : ∀ k, k < (zY t p).length → (zAi t p u).getD k 0 = zAK 0 (l.map (fun a => w a * (zAi t p (U a)).getD k 0))) : valP t p u v = zAK 0 (l.map (fun a => w a * valP t p (U a) v)) := by
 rw [zNj hv hp hpf, dot_mix h, ← zIp]
 refine congrArg (zAK 0) (List.map_congr_left (fun a _ => ?_))
 rw [zNj hv hp hpf (U a) v]
 grind
/-- Terms without weight can be left out. -/
theorem zFI {α : Type} (f : α → Rat) (q : α → Bool) : ∀ l : List α, (∀ a ∈ l, q a = false → f a = 0) → zAK 0 (l.map f) = zAK 0 ((l.filter q).map f)
 | [], _ => rfl
 | a :: r, h => by
   have ih := zFI f q r (fun x hx => h x (by simp [hx]))
   rw [List.map_cons, zAK, zBD, ih]
   cases hq : q a
   · rw [List.filter_cons_of_neg (by simp [hq]), h a (by simp) hq]
     grind
   · rw [List.filter_cons_of_pos hq, List.map_cons, zAK, zBD (List.map f (List.filter q r)) (0 + f a)]
/-- Probabilities of sequences hang on the information sets of the player alone. -/
theorem zRG {t : zQ} (hv : Valid t) {p : Int} {u v : Int → List Rat} (h : ∀ x ∈ zJ t p, u x = v x) : ∀ k, k < (zY t p).length → (zAi t p u).getD k 0 = (zAi t p v).getD k 0 := by
 intro k
 induction k using Nat.strongRecOn with
 | ind k ih =>
   intro hk
   rcases Nat.eq_zero_or_pos k with e | e
   · subst e; rw [zCA hv, zCA hv]
   · obtain ⟨x, b, y0, y1, y2, y3, y4, y5, y6, y7⟩ := zHo hv e hk
     rw [zEY u y2 y3 y4 y6 y7, zEY v y2 y3 y4 y6 y7, h x.1 y1, ih b (by omega) (by omega)]
theorem zJ0 (t : zQ) (p : Int) : ∀ (I cs : List Int) (u : Int → List Rat) (m : Nat), I.Nodup → cs.length = I.length → m < I.length → zDb t p u I cs (I.getD m 0) = zA4 (zT t p (I.getD m 0)) (cs.getD m 0).toNat
 | [], _, _, _, _, _, hm => absurd hm (Nat.not_lt_zero _)
 | a :: r, [], _, _, _, hl, _ => by simp at hl
 | a :: r, b :: s, u, 0, hn, hl, hm => by
   show zDb t p (upd u a _) r s a = _
   rw [zIg t p r s _ (List.nodup_cons.1 hn).1, upd_at]; rfl
 | a :: r, b :: s, u, m + 1, hn, hl, hm => by
   show zDb t p (upd u a _) r s (r.getD m 0) = _
   exact zJ0 t p r s _ m (List.nodup_cons.1 hn).2 (by simpa using hl) (by simpa using hm)
/-- the choices from a sequence back to the first one -/
def zCI (pos : Int → Nat) (cs : List Int) (sq : List RSeq) : Nat → Nat → Bool
 | 0, _ => true
 | f + 1, i => if (sq.getD i seq0).before < 0 then true else if cs.getD (pos (sq.getD i seq0).info) 0 = (sq.getD i seq0).choice then zCI pos cs sq f (sq.getD i seq0).before.toNat else false
theorem zPK {t : zQ} (hv : Valid t) {p : Int} {pos : Int → Nat} {cs : List Int} (u : Int → List Rat) (hpos : ∀ m, m < (zJ t p).length → pos ((zJ t p).getD m 0) = m) (hl : cs.length = (zJ t p).length)
   (hc : ∀ m, m < cs.length → 0 ≤ cs.getD m 0 ∧ (cs.getD m 0).toNat < zT t p ((zJ t p).getD m 0)) : ∀ k f, k < (zY t p).length → k < f →
   (zAi t p (zDb t p u (zJ t p) cs)).getD k 0 = if zCI pos cs (zY t p) f k = true then 1 else 0 := by
 intro k
 induction k using Nat.strongRecOn with
 | ind k ih =>
   intro f hk hf
   obtain ⟨f, rfl⟩ : ∃ g, f = g + 1 := ⟨f - 1, by omega⟩
   rcases Nat.eq_zero_or_pos k with e | e
   · subst e
     have h0 := (zAv hv p).2.1
     unfold zCI
     rw [zCA hv, h0, if_pos (show seq0.before < 0 by decide), if_pos rfl]
   · obtain ⟨x, b, y0, y1, y2, y3, y4, y5, y6, y7⟩ := zHo hv e hk
     have hs := y7 (k - x.2) (by omega)
     rw [show x.2 + (k - x.2) = k by omega] at hs
     obtain ⟨m, hm, hmx⟩ := List.getElem_of_mem y1
     have hmg : (zJ t p).getD m 0 = x.1 := by rw [zAC 0 hm, hmx]
     have hat := zJ0 t p (zJ t p) cs u m (zBz t p) hl hm
     rw [hmg] at hat
     have hcm := hc m (by omega)
     rw [hmg] at hcm
     rw [zEY _ y2 y3 y4 y6 y7, hat, zPj hcm.2, ih b (by omega) f (by omega) (by omega)]
     unfold zCI
     rw [hs]
     simp only
     have hp := hpos m hm
     rw [hmg] at hp
     rw [if_neg (show ¬ ((b : Int) < 0) by omega), hp, Int.toNat_natCast]
     by_cases h : k - x.2 = (cs.getD m 0).toNat
     · rw [if_pos h, if_pos (show cs.getD m 0 = ((k - x.2 : Nat) : Int) by omega), Rat.mul_one]
       cases f <;> rfl
     · rw [if_neg h, if_neg (show ¬ cs.getD m 0 = ((k - x.2 : Nat) : Int) by omega), Rat.mul_zero]
       rfl
/-- slices.Compare -/
def zEL : List Int → List Int → Int
 | [], [] => 0
 | [], _ :: _ => -1
 | _ :: _, [] => 1
 | a :: r, b :: s => if a < b then -1 else if b < a then 1 else zEL r s
theorem zLZ (a b : Int) : ∀ l : List Int, a < b → zEL (l ++ [a]) (l ++ [b]) = -1
 | [], h => by show (if a < b then (-1 : Int) else _) = -1; rw [if_pos h]
 | c :: r, h => by
   show (if c < c then (-1 : Int) else if c < c then 1 else zEL (r ++ [a]) (r ++ [b])) = -1
   rw [if_neg (by omega), if_neg (by omega), zLZ a b r h]
theorem zM0 : ∀ (l m x y : List Int), l.length = m.length → zEL l m = -1 → zEL (l ++ x) (m ++ y) = -1
 | [], [], _, _, _, h => by exact absurd h (by decide)
 | [], _ :: _, _, _, hl, _ => by simp at hl
 | _ :: _, [], _, _, hl, _ => by simp at hl
 | a :: r, b :: s, x, y, hl, h => by
   have h' : (if a < b then (-1 : Int) else if b < a then 1 else zEL r s) = -1 := h
   show (if a < b then (-1 : Int) else if b < a then 1 else zEL (r ++ x) (s ++ y)) = -1
   by_cases h1 : a < b
   · rw [if_pos h1]
   · rw [if_neg h1] at h' ⊢
     by_cases h2 : b < a
     · rw [if_pos h2] at h'; exact absurd h' (by decide)
     · rw [if_neg h2] at h' ⊢
       exact zM0 r s x y (by simpa using hl) h'
/-- The pure strategies are in order. -/
theorem zJA (w : List Nat) : ∀ m, m ≤ w.length → (zCT (w.take m)).Pairwise (fun a b => zEL a b = -1)
 | 0, _ => by rw [List.take_zero]; exact List.pairwise_singleton _ _
 | m + 1, hm => by
   have ih := zJA w m (by omega)
   have hlen := zF1 w m (by omega)
   rw [List.take_succ_eq_append_getElem (by omega), zFx]
   generalize zCT (w.take m) = out at *
   generalize w[m] = n
   unfold zD5
   rw [List.flatMap, List.pairwise_flatten]
   refine ⟨fun l hl => ?_, ?_⟩
   · obtain ⟨a, ha, rfl⟩ := List.mem_map.1 hl
     rw [List.pairwise_map]
     refine List.Pairwise.imp (fun {i j} hij => ?_) (List.pairwise_lt_range)
     exact zLZ _ _ a (by omega)
   · rw [List.pairwise_map]
     refine List.Pairwise.imp_of_mem (fun {a b} ha hb hab => ?_) ih
     intro x hx y hy
     obtain ⟨i, _, rfl⟩ := List.mem_map.1 hx
     obtain ⟨j, _, rfl⟩ := List.mem_map.1 hy
     exact zM0 a b _ _ (by rw [hlen a ha, hlen b hb]) hab
theorem zQv {B K : Nat} (hB : B ≠ 0) (hK : B < 10 ^ K) (hK2 : K ≤ 2000) {qs : List Rat} (hn : qs.length ≤ 256) (h : ∀ q ∈ qs, Dv B q ∧ 0 ≤ q ∧ zBP q = true) (h1 : zAK 0 qs ≤ 1) : zHb (qs.map zAG) = (zAK 0 qs, 0) := by
 have v1 : (qs.map zAG).map zAT = qs := by
   rw [List.map_map]
   conv => rhs; rw [← List.map_id qs]
   exact List.map_congr_left (fun q hq => (zOt (h q hq).2.2).2)
 have v2 : zFP (qs.map zAG) = 0 := zQK (fun s hs => by
   obtain ⟨q, hq, rfl⟩ := List.mem_map.1 hs
   exact (zOt (h q hq).2.2).1)
 have v3 := zNF hB hK hK2 qs 0 (Dv.zero B) Rat.le_refl (fun q hq => ⟨(h q hq).1, (h q hq).2.1⟩) h1
 have v4 := zJx qs 0 v3
 unfold zHb
 rw [if_neg (by rw [List.length_map]; omega), if_pos v2, v1]
 exact Prod.ext v4 v3
theorem zKi {B K : Nat} (hB : B ≠ 0) (hK : B < 10 ^ K) (hK2 : K ≤ 2000) {qs : List Rat} (hn : qs.length ≤ 256) (h : ∀ q ∈ qs, Dv B q ∧ 0 ≤ q ∧ zBP q = true) (h1 : zAK 0 qs = 1) : zC5 (qs.map zAG) = 0 := by
 have hs := zQv hB hK hK2 hn h (by rw [h1]; exact Rat.le_refl)
 have hneg : (qs.map zAG).any zDD = false := by
   rw [List.any_eq_false]
   intro s hs
   obtain ⟨q, hq, rfl⟩ := List.mem_map.1 hs
   have hi := zOt (h q hq).2.2
   have := (zL8 hi.1).2 (by rw [hi.2]; exact (h q hq).2.1)
   rw [this]; simp
 have hp : posE (qs.map zAG) = 0 := by
   unfold posE
   rw [hs]
   show (if ((0 : Int) = 0 ∧ (qs.map zAG).any zDD = true) then _ else _) = _
   rw [if_neg (fun q => by rw [hneg] at q; exact absurd q.2 (by decide))]
 unfold zC5
 rw [if_pos hp, hs, h1]
 rfl
def zKo (os : List (List Rat)) : Nat := zEz (os.map (fun o => zEz (o.map Rat.den)))
theorem denO_pos (os : List (List Rat)) : 0 < zKo os := zHL (fun x hx => by
 obtain ⟨o, _, rfl⟩ := List.mem_map.1 hx
 exact zHL (fun y hy => by obtain ⟨q, _, rfl⟩ := List.mem_map.1 hy; exact q.den_pos))
theorem wgt_Dv : ∀ (os : List (List Rat)) (cs : List Int) (q : Rat) (A : Nat), Dv A q → cs.length = os.length → (∀ m, m < os.length → (cs.getD m 0).toNat < (os.getD m []).length) → Dv (A * zKo os) (zIP os cs q)
 | [], [], q, A, h, _, _ => by
   show Dv (A * 1) q
   rw [Nat.mul_one]; exact h
 | [], _ :: _, _, _, _, hl, _ => by simp at hl
 | _ :: _, [], _, _, _, hl, _ => by simp at hl
 | o :: os, c :: cs, q, A, h, hl, hc => by
   show Dv (A * (zEz (o.map Rat.den) * zKo os)) (zIP os cs (q * o.getD c.toNat 0))
   have h0 := hc 0 (by simp)
   have h0 : c.toNat < o.length := h0
   have hd : Dv (zEz (o.map Rat.den)) (o.getD c.toNat 0) := Dv.of_den.mono (zHI (List.mem_map.2 ⟨_, zAP 0 h0, rfl⟩))
   rw [← Nat.mul_assoc]
   exact wgt_Dv os cs _ _ (h.mul hd) (by simpa using hl) (fun m hm => by have := hc (m + 1) (by simpa using hm); simpa using this)
theorem wgt_nn : ∀ (os : List (List Rat)) (cs : List Int) (q : Rat), 0 ≤ q → (∀ o ∈ os, ∀ x ∈ o, 0 ≤ x) → 0 ≤ zIP os cs q
 | [], [], q, h, _ => h
 | [], _ :: _, q, h, _ => h
 | _ :: _, [], q, h, _ => h
 | o :: os, c :: cs, q, h, ho => wgt_nn os cs _ (Rat.mul_nonneg h (by
   by_cases hc : c.toNat < o.length
   · exact ho o (by simp) _ (zAP 0 hc)
   · simp only [List.getD, List.getElem?_eq_none (by omega : o.length ≤ c.toNat)]; exact Rat.le_refl)) (fun o' h' => ho o' (by simp [h']))
theorem zPf {d : Nat} : ∀ (os : List (List Rat)), (∀ o ∈ os, ∀ x ∈ o, D d x) → zKo os ≤ 10 ^ (d * (os.map List.length).sum)
 | [], _ => by show 1 ≤ _; exact Nat.pow_pos (by decide)
 | o :: os, h => by
   show zEz (o.map Rat.den) * zKo os ≤ _
   have h1 := zIN (l := o.map Rat.den) (d := d) (fun x hx => by
     obtain ⟨q, hq, rfl⟩ := List.mem_map.1 hx
     exact Nat.le_of_lt (h o (by simp) q hq).2)
   rw [List.length_map] at h1
   have h2 := zPf os (fun o' h' => h o' (by simp [h']))
   rw [List.map_cons, List.sum_cons, Nat.mul_add, Nat.pow_add]
   exact Nat.mul_le_mul h1 h2
structure CPlan where
 choices : List Int
 odds : zBI
 deriving DecidableEq
def cp0 : CPlan := ⟨[], []⟩
abbrev zB2 := List CPlan
def zAS (t : zQ) (p : Int) : List Nat := (zJ t p).map (zT t p)
/-- convert.all -/
def zHQ : List Nat → List (List Int) → Option (List (List Int))
 | [], out => some out
 | n :: r, out => if 128 < out.length * n then none else zHQ r (zD5 out n)
theorem zIx (out : List (List Int)) (n : Nat) : (zD5 out n).length = out.length * n := by
 unfold zD5
 induction out with
 | nil => simp
 | cons a r ih => rw [List.flatMap_cons, List.length_append, ih, List.length_map, List.length_range, List.length_cons, Nat.succ_mul]; omega
theorem zL6 : ∀ (w : List Nat) (out o : List (List Int)), zHQ w out = some o → out.length ≤ 128 → o = w.foldl zD5 out ∧ o.length ≤ 128
 | [], out, o, h, hl => by cases h; exact ⟨rfl, hl⟩
 | n :: r, out, o, h, hl => by
   rw [zHQ] at h
   split at h
   · cases h
   · rename_i h1
     have := zL6 r _ o h (by rw [zIx]; omega)
     exact this
theorem zNh {w : List Nat} {o : List (List Int)} (h : zHQ w [[]] = some o) : o = zCT w ∧ o.length ≤ 128 := zL6 w [[]] o h (by decide)
/-- the weight of a pure strategy -/
def zBo (s : zAL) : List (List Rat) := s.map (fun x => x.odds.map zAT)
def zCX (s : zAL) (c : List Int) : Rat := zIP (zBo s) c 1
def zCN (s : zAL) (l : List (List Int)) : List (List Int) := l.filter (fun c => decide (zCX s c ≠ 0))
def zC2 (s : zAL) (l : List (List Int)) : zB2 × Int := if (zCN s l).all (fun c => zBP (zCX s c)) then ((zCN s l).map (fun c => ⟨c, zAG (zCX s c)⟩), 0) else ([], 2)
/-- convert.Mixed -/
def zBr (t : zQ) (p : Int) (s : zAL) : zB2 × Int := if zAZ t p ≠ 0 then ([], zAZ t p) else if zAl t p s ≠ 0 then ([], zAl t p s) else match zHQ (zAS t p) [[]] with | none => ([], 2) | some l => zC2 s l
/-- convert.Pure -/
def zOI (t : zQ) (p : Int) : List (List Int) × Int := if zAZ t p ≠ 0 then ([], zAZ t p) else match zHQ (zAS t p) [[]] with | none => ([], 2) | some l => (l, 0)
def inW : List Nat → List Int → Bool
 | w :: ws, c :: cs => decide (0 ≤ c ∧ c < (w : Int)) && inW ws cs
 | _, _ => true
def zDd (w : List Nat) (q : Option (List Int)) (c : List Int) : Int :=
 if c.length ≠ w.length then 3 else if inW w c = false then 4 else match q with | none => 0 | some b => if zEL b c < 0 then 0 else 7
def zEI (w : List Nat) : Option (List Int) → zB2 → Int
 | _, [] => 0
 | q, a :: r => if zDd w q a.choices ≠ 0 then zDd w q a.choices else zEI w (some a.choices) r
/-- convert.Check -/
def zC6 (t : zQ) (p : Int) (l : zB2) : Int := if zAZ t p ≠ 0 then zAZ t p else if 128 < l.length then 2 else if zEI (zAS t p) none l ≠ 0 then zEI (zAS t p) none l else zC5 (l.map CPlan.odds)
def zJt (t : zQ) (p x : Int) : Nat := (zJ t p).findIdx (fun y => decide (y = x))
/-- the weight of a sequence -/
def zCt (t : zQ) (p : Int) (l : zB2) (k : Nat) : Rat := zAK 0 ((l.filter (fun a => zCI (zJt t p) a.choices (zY t p) (zY t p).length k)).map (fun a => zAT a.odds))
def behS (t : zQ) (p : Int) (W : Nat → Rat) : zAL := (zJ t p).map (fun x => ⟨x, (zE7 t p W x).map zAG⟩)
/-- convert.Behaviour -/
def behR (t : zQ) (p : Int) (l : zB2) : zAL × Int := if zC6 t p l ≠ 0 then ([], zC6 t p l) else if zBL t p = true then (if (zJ t p).all (fun x => (zE7 t p (zCt t p l) x).all zBP) then (behS t p (zCt t p l), 0) else ([], 2)) else ([], 10)
/-- a pure strategy's texts -/
def zH3 (w c : Nat) : List zBI := (List.replicate w [48]).set c [49]
def zCF (t : zQ) (p : Int) (cs : List Int) : zAL := (zJ t p).map (fun x => ⟨x, zH3 (zT t p x) (cs.getD (zJt t p x) 0).toNat⟩)
def zCz (p : Int) (s o : zAL) : zAL := if p = 1 then o else s
def zC0 (p : Int) (s o : zAL) : zAL := if p = 1 then s else o
def zOL (t : zQ) (a b : zAL) : zAJ := zDF t (zCZ a) (zCZ b)
def zJT (t : zQ) (p : Int) (o : zAL) (a : CPlan) : Rat := zA3 t (zOL t (zCz p (zCF t p a.choices) o) (zC0 p (zCF t p a.choices) o)) * zAT a.odds
def payQ (t : zQ) (p : Int) (l : zB2) (o : zAL) : Rat := zAK 0 (l.map (zJT t p o))
/-- convert.Pay -/
def payR (t : zQ) (p : Int) (l : zB2) (o : zAL) : zBI × Int := if zC6 t p l ≠ 0 then ([], zC6 t p l) else if zAl t (1 - p) o ≠ 0 then ([], zAl t (1 - p) o) else zHM (payQ t p l o)
structure OkM (t : zQ) (p : Int) (l : zB2) : Prop where
 len : ∀ a ∈ l, a.choices.length = (zJ t p).length
 ran : ∀ a ∈ l, ∀ m, m < (zJ t p).length → 0 ≤ a.choices.getD m 0 ∧ (a.choices.getD m 0).toNat < zT t p ((zJ t p).getD m 0)
 odds : zC5 (l.map CPlan.odds) = 0
theorem zC7 (t : zQ) (p : Int) : (zAS t p).length = (zJ t p).length := by unfold zAS; rw [List.length_map]
theorem zMR {t : zQ} {p : Int} {m : Nat} (hm : m < (zJ t p).length) : (zAS t p).getD m 0 = zT t p ((zJ t p).getD m 0) := zBB _ _ 0 0 m hm
theorem zOn : ∀ (w : List Nat) (c : List Int), c.length = w.length → (inW w c = true ↔ ∀ m, m < w.length → 0 ≤ c.getD m 0 ∧ c.getD m 0 < (w.getD m 0 : Int))
 | [], c, _ => by constructor <;> intro _ <;> first | rfl | (intro m hm; exact absurd hm (Nat.not_lt_zero _))
 | a :: r, [], hl => by simp at hl
 | a :: r, b :: s, hl => by
   have ih := zOn r s (by simpa using hl)
   rw [inW, Bool.and_eq_true, decide_eq_true_eq, ih]
   constructor
   · rintro ⟨h1, h2⟩ m hm
     cases m with
     | zero => exact h1
     | succ m => exact h2 m (by simpa using hm)
   · intro h
     exact ⟨h 0 (by simp), fun m hm => h (m + 1) (by simpa using hm)⟩
theorem zI3 {w : List Nat} : ∀ {l : zB2} {q : Option (List Int)}, zEI w q l = 0 → ∀ a ∈ l, a.choices.length = w.length ∧ inW w a.choices = true
 | [], _, _, a, ha => by simp at ha
 | b :: r, q, h, a, ha => by
   rw [zEI] at h
   split at h
   · rename_i h1; exact absurd h h1
   · rename_i h1
     rcases List.mem_cons.1 ha with rfl | ha
     · have h1 := Classical.not_not.1 h1
       unfold zDd at h1
       split at h1
       · cases h1
       · rename_i h2
         split at h1
         · cases h1
         · rename_i h3
           exact ⟨Classical.not_not.1 h2, by simpa using h3⟩
     · exact zI3 h a ha
theorem zEb {t : zQ} {p : Int} {l : zB2} (h : zC6 t p l = 0) : zAZ t p = 0 ∧ OkM t p l := by
 unfold zC6 at h
 split at h
 · rename_i h1; exact absurd h h1
 rename_i h1
 split at h
 · cases h
 split at h
 · rename_i h2; exact absurd h h2
 rename_i h2
 have h3 := zI3 (Classical.not_not.1 h2)
 refine ⟨Classical.not_not.1 h1, fun a ha => ?_, fun a ha m hm => ?_, h⟩
 · rw [(h3 a ha).1, zC7]
 · have := ((zOn _ _ (h3 a ha).1).1 (h3 a ha).2) m (by rw [zC7]; exact hm)
   rw [zMR hm] at this
   omega
/-- sorted plans in range are accepted -/
theorem zLk {w : List Nat} : ∀ {l : zB2} {q : Option (List Int)}, (∀ a ∈ l, a.choices.length = w.length ∧ inW w a.choices = true) → l.Pairwise (fun a b => zEL a.choices b.choices = -1) → (∀ b, q = some b → ∀ a ∈ l, zEL b a.choices = -1) → zEI w q l = 0
 | [], _, _, _, _ => rfl
 | a :: r, q, h1, h2, h3 => by
   have ha := h1 a (by simp)
   have hz : zDd w q a.choices = 0 := by
     unfold zDd
     rw [if_neg (by rw [ha.1]; exact fun h => h rfl), if_neg (by rw [ha.2]; decide)]
     cases q with
     | none => rfl
     | some b =>
       show (if zEL b a.choices < 0 then (0 : Int) else 7) = 0
       rw [h3 b rfl a (by simp), if_pos (by decide)]
   rw [zEI, if_neg (by rw [hz]; exact fun h => h rfl)]
   rw [List.pairwise_cons] at h2
   exact zLk (fun b hb => h1 b (by simp [hb])) h2.2 (fun b hb c hc => by cases hb; exact h2.1 c hc)
theorem zO2 (t : zQ) (p : Int) {m : Nat} (hm : m < (zJ t p).length) : zJt t p ((zJ t p).getD m 0) = m := by
 unfold zJt
 have hn := zBz t p
 have h1 : (zJ t p).getD m 0 = (zJ t p)[m] := zAC 0 hm
 rw [h1]
 have hex : ∃ y ∈ zJ t p, decide (y = (zJ t p)[m]) = true := ⟨_, List.getElem_mem hm, by simp⟩
 have hlt : (zJ t p).findIdx (fun y => decide (y = (zJ t p)[m])) < (zJ t p).length := List.findIdx_lt_length_of_exists hex
 have hf := List.findIdx_getElem (w := hlt)
 simp only [decide_eq_true_eq] at hf
 exact (List.getElem_inj hn).1 hf
theorem OkM.wgt {t : zQ} {p : Int} {l : zB2} (h : OkM t p l) : (∀ a ∈ l, zDa a.odds = 0 ∧ 0 ≤ zAT a.odds ∧ D 2000 (zAT a.odds)) ∧ zAK 0 (l.map (fun a => zAT a.odds)) = 1 ∧ l.length ≤ 256 := by
 obtain ⟨h1, h2, h3, h4⟩ := zBu h.odds
 rw [List.length_map] at h1
 rw [List.map_map] at h3 h4
 exact ⟨fun a ha => ⟨h2 _ (List.mem_map.2 ⟨a, ha, Y⟩), h4 _ (List.mem_map.2 ⟨a, ha, Y⟩)⟩, h3, h1⟩
theorem zL1 {t : zQ} (hv : Valid t) {p : Int} {l : zB2} (h : OkM t p l) (u : Int → List Rat) {k : Nat} (hk : k < (zY t p).length) :
   zCt t p l k = zAK 0 (l.map (fun a => zAT a.odds * (zAi t p (zDb t p u (zJ t p) a.choices)).getD k 0)) := by
 have hp : ∀ a ∈ l, (zAi t p (zDb t p u (zJ t p) a.choices)).getD k 0 = if zCI (zJt t p) a.choices (zY t p) (zY t p).length k = true then 1 else 0 := fun a ha =>
   zPK hv u (fun m hm => zO2 t p hm) (h.len a ha) (fun m hm => h.ran a ha m (by rw [← h.len a ha]; exact hm)) k _ hk hk
 rw [zFI _ (fun a => zCI (zJt t p) a.choices (zY t p) (zY t p).length k) l (fun a ha hq => by rw [hp a ha, if_neg (by rw [hq]; decide), Rat.mul_zero])]
 unfold zCt
 refine congrArg (zAK 0) (List.map_congr_left (fun a ha => ?_))
 rw [List.mem_filter] at ha
 rw [hp a ha.1, if_pos ha.2, Rat.mul_one]
theorem zLN {I Z : List Int} : ∀ {s : zAL} {k : Nat}, (∀ j, j < s.length → (s.getD j ch0).info = I.getD (k + j) 0 ∧ (((s.getD j ch0).odds.length : Nat) : Int) = Z.getD (k + j) 0 ∧ zC5 (s.getD j ch0).odds = 0) → zEh I Z k s = 0
 | [], k, h => rfl
 | c :: r, k, h => by
   have h0 := h 0 (by simp)
   rw [zEh, if_neg (by rintro (q | q); exact q h0.1; exact q h0.2.1), if_neg (fun q => q h0.2.2)]
   exact zLN (fun j hj => by have := h (j + 1) (by simpa using hj); rwa [show k + (j + 1) = k + 1 + j by omega] at this)
theorem strat_of {t : zQ} {p : Int} {f : Int → List zBI} (h : ∀ x ∈ zJ t p, (f x).length = zT t p x ∧ zC5 (f x) = 0) : zAl t p ((zJ t p).map (fun x => ⟨x, f x⟩)) = 0 := by
 unfold zAl
 rw [List.length_map, if_neg (fun q => q rfl)]
 refine zLN (fun j hj => ?_)
 rw [List.length_map] at hj
 rw [zBB _ _ 0 _ _ hj, Nat.zero_add]
 have hx : (zJ t p).getD j 0 ∈ zJ t p := zAP 0 hj
 refine ⟨Y, ?_, (h _ hx).2⟩
 unfold zz
 rw [zBB _ _ 0 _ _ hj, (h _ hx).1]
theorem odds_at {t : zQ} {p : Int} {f : Int → List zBI} {x : Int} (hx : x ∈ zJ t p) : zCZ ((zJ t p).map (fun x => ⟨x, f x⟩)) x = (f x).map zAT := by
 have hm : ((zJ t p).map (fun x => (⟨x, f x⟩ : TChoice))).map TChoice.info = zJ t p := by
   rw [List.map_map]; exact List.map_id _
 exact zKY (c := ⟨x, f x⟩) (by rw [hm]; exact zBz t p) (List.mem_map.2 ⟨x, hx, Y⟩)
theorem zCd {t : zQ} {p : Int} (h : zAZ t p = 0) : Valid t ∧ (p = 0 ∨ p = 1) := by
 unfold zAZ at h
 split at h
 · rename_i h1; exact absurd h h1
 · rename_i h1
   split at h
   · cases h
   · rename_i h2
     refine ⟨zH0 (Classical.not_not.1 h1), ?_⟩
     by_cases h3 : p = 0
     · exact .inl h3
     · exact .inr (Classical.not_not.1 (fun q => h2 ⟨h3, q⟩))
theorem zDm {t : zQ} {p : Int} {s : zAL} (h : OkS t p s) : zBo s = (zJ t p).map (zCZ s) := by
 have hn : (s.map TChoice.info).Nodup := by rw [h.infos]; exact zBz t p
 unfold zBo
 rw [← h.infos, List.map_map]
 exact List.map_congr_left (fun c hc => (zKY hn hc).symm)
theorem OkS.mix {t : zQ} {p : Int} {s : zAL} (h : OkS t p s) : Mix t p (zCZ s) := ⟨h.strat.len, h.strat.sum, h.strat.nn⟩
theorem zLb {t : zQ} {p : Int} {s : zAL} (hv : Valid t) (h : OkS t p s) {k : Nat} (hk : k < (zY t p).length) :
   (zAi t p (zCZ s)).getD k 0 = zAK 0 ((zCT (zAS t p)).map (fun l => zCX s l * (zAi t p (zDb t p (zCZ s) (zJ t p) l)).getD k 0)) := by
 have := zOD hv h.mix hk (zJ t p).length (Nat.le_refl _)
 rw [List.take_length] at this
 rw [this]
 unfold zCX zAS
 rw [zDm h]
theorem wids_sum {t : zQ} (hv : Valid t) (p : Int) : (zAS t p).sum ≤ 60 := by
 have h1 : (zJ t p).length ≤ 10 := by
   unfold zJ
   refine Nat.le_trans (List.length_filter_le _ _) (by simp)
 have h2 : ∀ x ∈ zAS t p, x ≤ 6 := by
   intro x hx
   obtain ⟨y, hy, rfl⟩ := List.mem_map.1 hx
   obtain ⟨j, hj, hs⟩ := (zBa hv).1 hy
   rw [zCp hv hj hs]
   exact (zHg (hv.nodes j hj)).2
 have key : ∀ l : List Nat, (∀ x ∈ l, x ≤ 6) → l.sum ≤ 6 * l.length := by
   intro l
   induction l with
   | nil => intro _; simp
   | cons a r ih =>
     intro h
     have := ih (fun x hx => h x (by simp [hx]))
     have := h a (by simp)
     rw [List.sum_cons, List.length_cons]; omega
 have := key _ h2
 rw [zC7] at this
 omega
theorem zKt {w : List Nat} {c : List Int} (h : c ∈ zCT w) : c.length = w.length ∧ ∀ k, k < w.length → 0 ≤ c.getD k 0 ∧ (c.getD k 0).toNat < w.getD k 0 := by
 have h' : c ∈ zCT (w.take w.length) := by rw [List.take_length]; exact h
 exact ⟨zF1 w _ (Nat.le_refl _) c h', zQS w _ (Nat.le_refl _) c h'⟩
theorem den_lt {os : List (List Rat)} {d K : Nat} (hd : ∀ o ∈ os, ∀ x ∈ o, D d x) (h : d * (os.map List.length).sum < K) : zKo os < 10 ^ K := Nat.lt_of_le_of_lt (zPf os hd) (Nat.pow_lt_pow_right (by decide) h)
structure MixOf (t : zQ) (p : Int) (s : zAL) (m : zB2) : Prop where
 valid : Valid t
 pl : p = 0 ∨ p = 1
 strat : zAl t p s = 0
 conv : zC6 t p m = 0
 den : ∃ B, B ≠ 0 ∧ B < 10 ^ 721 ∧ ∀ a ∈ m, Dv B (zAT a.odds)
 plan : ∀ k, k < (zY t p).length → zCt t p m k = (zAi t p (zCZ s)).getD k 0
theorem zIz {t : zQ} {p : Int} {s : zAL} (hs : ∀ c ∈ s, ∀ r ∈ c.odds, r.length ≤ 12) (h : (zBr t p s).2 = 0) : MixOf t p s (zBr t p s).1 := by
 unfold zBr at h ⊢
 by_cases h1 : zAZ t p ≠ 0
 · rw [if_pos h1] at h; exact absurd h h1
 rw [if_neg h1] at h ⊢
 by_cases h2 : zAl t p s ≠ 0
 · rw [if_pos h2] at h; exact absurd h h2
 rw [if_neg h2] at h ⊢
 have h1 := Classical.not_not.1 h1
 have h2 := Classical.not_not.1 h2
 obtain ⟨hv, hp⟩ := zCd h1
 have hk := zEg h2
 cases ha : zHQ (zAS t p) [[]] with
 | none => rw [ha] at h; cases h
 | some l =>
   rw [ha] at h
   obtain ⟨rfl, hl⟩ := zNh ha
   show MixOf t p s (zC2 s (zCT (zAS t p))).1
   have h : (zC2 s (zCT (zAS t p))).2 = 0 := h
   unfold zC2 at h ⊢
   by_cases h3 : ((zCN s (zCT (zAS t p))).all (fun c => zBP (zCX s c))) = true
   case neg => rw [if_neg h3] at h; cases h
   rw [if_pos h3]
   rw [List.all_eq_true] at h3
   clear h ha
   have hnn : ∀ c, 0 ≤ zCX s c := fun c => wgt_nn _ _ _ (by decide +kernel) (fun o ho x hx => by
     obtain ⟨y, hy, rfl⟩ := List.mem_map.1 ho
     exact ((zBu (hk.odds y hy)).2.2.2 x hx).1)
   have hone : zAK 0 ((zCT (zAS t p)).map (zCX s)) = 1 := by
     have h0 := zLb hv hk (zAv hv p).2.2.1
     rw [zCA hv] at h0
     rw [h0]
     refine congrArg (zAK 0) (List.map_congr_left (fun c hc => ?_))
     rw [zCA hv, Rat.mul_one]
   have hone' : zAK 0 ((zCN s (zCT (zAS t p))).map (zCX s)) = 1 := by
     rw [← hone]
     exact (zFI _ _ _ (fun a _ hq => by simpa using hq)).symm
   have hlen : (zCN s (zCT (zAS t p))).length ≤ 128 := Nat.le_trans (List.length_filter_le _ _) hl
   have hmem : ∀ c ∈ zCN s (zCT (zAS t p)), c ∈ zCT (zAS t p) := fun c hc => (List.mem_filter.1 hc).1
   have hB0 : zKo (zBo s) ≠ 0 := Nat.pos_iff_ne_zero.1 (denO_pos (zBo s))
   have hB : zKo (zBo s) < 10 ^ 721 := by
     have hd : ∀ o ∈ zBo s, ∀ x ∈ o, D 12 x := fun o ho x hx => by
       obtain ⟨y, hy, rfl⟩ := List.mem_map.1 ho
       obtain ⟨r, hr, rfl⟩ := List.mem_map.1 hx
       exact (IsQ.self ((zBu (hk.odds y hy)).2.1 r hr)).dig (hs y hy r hr) (by decide)
     have h5 : ((zBo s).map List.length).sum ≤ 60 := by
       have e : (zBo s).map List.length = zAS t p := by
         rw [zDm hk, List.map_map]
         exact List.map_congr_left (fun x hx => hk.mix.len x hx)
       rw [e]; exact wids_sum hv p
     exact den_lt (K := 721) hd (by omega)
   have hDv : ∀ c ∈ zCT (zAS t p), Dv (zKo (zBo s)) (zCX s c) := fun c hc => by
     have hc' := zKt hc
     have hol : (zBo s).length = (zAS t p).length := by rw [zDm hk, List.length_map, zC7]
     have := wgt_Dv (zBo s) c 1 1 (Dv.one 1) (by rw [hc'.1, hol]) (fun m hm => by
       have h8 := (hc'.2 m (by omega)).2
       rw [zMR (by rw [hol, zC7] at hm; exact hm)] at h8
       have hx : (zJ t p).getD m 0 ∈ zJ t p := zAP 0 (by rw [hol, zC7] at hm; exact hm)
       rw [zDm hk, zBB _ _ 0 _ _ (by rw [hol, zC7] at hm; exact hm), hk.mix.len _ hx]
       exact h8)
     rwa [Nat.one_mul] at this
   have hval : ∀ c ∈ zCN s (zCT (zAS t p)), zAT (zAG (zCX s c)) = zCX s c := fun c hc => (rat_of (h3 c hc)).2
   have hconv : zC6 t p ((zCN s (zCT (zAS t p))).map (fun c => ⟨c, zAG (zCX s c)⟩)) = 0 := by
     unfold zC6
     rw [if_neg (fun q => q h1), if_neg (by rw [List.length_map]; omega)]
     rw [zLk (fun a ha => by
       obtain ⟨c, hc, rfl⟩ := List.mem_map.1 ha
       have hc' := zKt (hmem c hc)
       exact ⟨hc'.1, (zOn _ _ hc'.1).2 (fun m hm => by have := hc'.2 m hm; omega)⟩) (by
       rw [List.pairwise_map]
       have hs := zJA (zAS t p) _ (Nat.le_refl _)
       rw [List.take_length] at hs
       exact List.Pairwise.filter _ hs) (fun b hb => by cases hb)]
     rw [if_neg (fun q => q rfl), List.map_map]
     have e : (zCN s (zCT (zAS t p))).map (CPlan.odds ∘ fun c => (⟨c, zAG (zCX s c)⟩ : CPlan)) = ((zCN s (zCT (zAS t p))).map (zCX s)).map zAG := by rw [List.map_map]; rfl
     rw [e]
     refine zKi (B := zKo (zBo s)) (K := 721) hB0 hB (by decide) (by rw [List.length_map]; omega) (fun q hq => ?_) hone'
     obtain ⟨c, hc, rfl⟩ := List.mem_map.1 hq
     exact ⟨hDv c (hmem c hc), hnn c, h3 c hc⟩
   refine ⟨hv, hp, h2, hconv, ⟨zKo (zBo s), hB0, hB, fun a ha => ?_⟩, fun k hk' => ?_⟩
   · obtain ⟨c, hc, rfl⟩ := List.mem_map.1 ha
     show Dv _ (zAT (zAG (zCX s c)))
     rw [hval c hc]
     exact hDv c (hmem c hc)
   · rw [zL1 hv (zEb hconv).2 (zCZ s) hk', List.map_map, zLb hv hk hk', zFI _ (fun c => decide (zCX s c ≠ 0)) (zCT (zAS t p)) (fun a _ hq => by
       have : zCX s a = 0 := by simpa using hq
       rw [this, Rat.zero_mul])]
     refine congrArg (zAK 0) (List.map_congr_left (fun c hc => ?_))
     show zAT (zAG (zCX s c)) * _ = _
     rw [hval c hc]
theorem zRi (w c : Nat) : (zH3 w c).map zAT = zA4 w c := by
 unfold zH3 zA4
 rw [List.map_set, List.map_replicate, show zAT [48] = 0 by decide +kernel, show zAT [49] = 1 by decide +kernel]
theorem zOq (w c : Nat) : (zA4 w c).map zAG = zH3 w c := by
 unfold zH3 zA4
 rw [List.map_set, List.map_replicate, show zAG 0 = [48] by decide +kernel, show zAG 1 = [49] by decide +kernel]
theorem zOb {w c : Nat} (hc : c < w) (hw : w ≤ 256) : zC5 (zH3 w c) = 0 := by
 rw [← zOq]
 obtain ⟨h1, h2, h3⟩ := zCo hc
 refine zKi (B := 1) (K := 1) (by decide) (by decide) (by decide) (by omega) (fun q hq => ?_) h2
 have e : q = 0 ∨ q = 1 := by
   unfold zA4 at hq
   rcases List.mem_or_eq_of_mem_set hq with h | h
   · exact .inl (List.eq_of_mem_replicate h)
   · exact .inr h
 rcases e with rfl | rfl
 · exact ⟨Dv.zero 1, by decide +kernel, by decide +kernel⟩
 · exact ⟨Dv.one 1, by decide +kernel, by decide +kernel⟩
theorem zIQ {t : zQ} (hv : Valid t) {p x : Int} (hx : x ∈ zJ t p) : zT t p x ≤ 6 := by
 obtain ⟨j, hj, hs⟩ := (zBa hv).1 hx
 rw [zCp hv hj hs]
 exact (zHg (hv.nodes j hj)).2
theorem zNI {t : zQ} {p : Int} {l : zB2} (hv : Valid t) (hO : OkM t p l) {a : CPlan} (ha : a ∈ l) : zAl t p (zCF t p a.choices) = 0 ∧ (∀ c ∈ zCF t p a.choices, ∀ r ∈ c.odds, r.length ≤ 12) ∧
   ∀ x ∈ zJ t p, zCZ (zCF t p a.choices) x = zDb t p (fun _ => []) (zJ t p) a.choices x := by
 have key : ∀ x ∈ zJ t p, (a.choices.getD (zJt t p x) 0).toNat < zT t p x ∧ zDb t p (fun _ => []) (zJ t p) a.choices x = zA4 (zT t p x) (a.choices.getD (zJt t p x) 0).toNat := by
   intro x hx
   obtain ⟨m, hm, rfl⟩ := List.getElem_of_mem hx
   have e : (zJ t p).getD m 0 = (zJ t p)[m] := zAC 0 hm
   have h1 := zJ0 t p (zJ t p) a.choices (fun _ => []) m (zBz t p) (hO.len a ha) hm
   have h2 := hO.ran a ha m hm
   have h3 := zO2 t p hm
   rw [e] at h1 h2 h3
   rw [h3]
   exact ⟨h2.2, h1⟩
 refine ⟨strat_of (fun x hx => ⟨by unfold zH3; rw [List.length_set, List.length_replicate], zOb (key x hx).1 (by have := zIQ hv hx; omega)⟩), fun c hc r hr => ?_, fun x hx => ?_⟩
 · obtain ⟨x, hx, rfl⟩ := List.mem_map.1 hc
   have hr : r ∈ zH3 _ _ := hr
   unfold zH3 at hr
   rcases List.mem_or_eq_of_mem_set hr with h | h
   · rw [List.eq_of_mem_replicate h]; decide
   · rw [h]; decide
 · unfold zCF
   rw [odds_at hx, zRi, (key x hx).2]
theorem zLp {t : zQ} {p : Int} (hp : p = 0 ∨ p = 1) (s o : zAL) : zA3 t (zOL t (zCz p s o) (zC0 p s o)) = valP t p (zCZ s) (zCZ o) := by
 unfold valP zOL zCz zC0
 rcases hp with rfl | rfl
 · rw [if_neg (by decide), if_neg (by decide), if_neg (by decide)]
 · rw [if_pos rfl, if_pos rfl, if_pos rfl]
/-- What a mixture receives. -/
theorem pay_plan {t : zQ} {p : Int} {l : zB2} {u : zAL} (o : zAL) (hv : Valid t) (hp : p = 0 ∨ p = 1) (hpf : zBL t p = true) (hO : OkM t p l) (hu : ∀ k, k < (zY t p).length → (zAi t p (zCZ u)).getD k 0 = zCt t p l k) :
   payQ t p l o = zA3 t (zOL t (zCz p u o) (zC0 p u o)) := by
 rw [zLp hp, pay_mix hv hp hpf (l := l) (w := fun a => zAT a.odds) (U := fun a => zCZ (zCF t p a.choices)) (zCZ o) (fun k hk => ?_)]
 · unfold payQ
   refine congrArg (zAK 0) (List.map_congr_left (fun a ha => ?_))
   unfold zJT
   rw [zLp hp, Rat.mul_comm]
 · rw [hu k hk, zL1 hv hO (fun _ => []) hk]
   refine congrArg (zAK 0) (List.map_congr_left (fun a ha => ?_))
   rw [zRG hv (zNI hv hO ha).2.2 k hk]
/-- ConvertPays -/
theorem zO6 {t : zQ} {p : Int} {s o : zAL} (hs : ∀ c ∈ s, ∀ r ∈ c.odds, r.length ≤ 12) (h : (zBr t p s).2 = 0) (hp : zBL t p = true) :
   payQ t p (zBr t p s).1 o = zA3 t (zOL t (zCz p s o) (zC0 p s o)) := by
 have hM := zIz hs h
 exact pay_plan o hM.valid hM.pl hp (zEb hM.conv).2 (fun k hk => (hM.plan k hk).symm)
end Go.Ax.Rt
namespace Go.Proofs.YtnkealfaldjipaaGreatDoor
open Go.Ax Go.Ax.Bg Go.Ax.Rt Go.RowKit Go.Ax.Idx Go.Ax.Cd
attribute [local irreducible] Ax zBE QOp zV zAz
set_option maxRecDepth 100000
set_option maxHeartbeats 4000000
theorem zM3 (n : Int) : zX Tryz.prog 208 [.int .i64 n] (.bool false) := by
 refine zV.value0 (zG (P := Tryz.prog) (fn := Tryz.f208) Y Y (by kernel_rfl) Y (fun c hR hfix => ?_)) (fix := fun _ => False) (fun _ h => h) Y Y
 refine rn3 ?_
 refine zI hR Y ?_
 simp [zBQ]
def cmpO (x y : Int) : Int := if x < y then -1 else if y < x then 1 else 0
theorem cmpO_ok (x y : Int) : zX Tryz.prog 162 [.int .i64 x, .int .i64 y] (.int .i64 (cmpO x y)) := by
 refine zV.value0 (zG (P := Tryz.prog) (fn := Tryz.f162) Y Y (by kernel_rfl) Y (fun c hR hfix => ?_)) (fix := fun _ => False) (fun _ h => h) Y Y
 unfold cmpO at hR
 refine rn0 ?_
 refine zC Y Y Y (zM3 x) ?_
 refine rn0 ?_
 refine zC Y Y Y (zM3 y) ?_
 refine rn4 ?_
 refine zE Y (fun h => ?_) (fun h => ?_)
 · rw [if_pos h] at hR
   refine rn2 ?_
   exact zI hR Y Y
 · rw [if_neg h] at hR
   refine rn6 ?_
   refine zE Y (fun h2 => ?_) (fun h2 => ?_)
   · rw [if_pos h2] at hR
     refine rn2 ?_
     exact zI hR Y Y
   · rw [if_neg h2] at hR
     refine rn1 ?_
     exact zI hR Y Y
theorem cmpL_at {a b : List Int} {k : Nat} (ha : k < a.length) (hb : k < b.length) : zEL (a.drop k) (b.drop k) = if cmpO (a.getD k 0) (b.getD k 0) ≠ 0 then cmpO (a.getD k 0) (b.getD k 0) else zEL (a.drop (k + 1)) (b.drop (k + 1)) := by
 rw [List.drop_eq_getElem_cons ha, List.drop_eq_getElem_cons hb, ← zAC 0 ha, ← zAC 0 hb]
 show (if a.getD k 0 < b.getD k 0 then (-1 : Int) else if b.getD k 0 < a.getD k 0 then 1 else zEL (a.drop (k + 1)) (b.drop (k + 1))) = _
 unfold cmpO
 by_cases h1 : a.getD k 0 < b.getD k 0
 · rw [if_pos h1, if_pos h1, if_pos (by decide)]
 · rw [if_neg h1, if_neg h1]
   by_cases h2 : b.getD k 0 < a.getD k 0
   · rw [if_pos h2, if_pos h2, if_pos (by decide)]
   · rw [if_neg h2, if_neg h2, if_neg (by decide)]
theorem zQj {a b : List Int} {k : Nat} (ha : k < a.length) (hb : b.length ≤ k) : zEL (a.drop k) (b.drop k) = 1 := by
 rw [List.drop_eq_getElem_cons ha, List.drop_eq_nil_of_le hb]; rfl
theorem zQm {a b : List Int} {k : Nat} (ha : a.length ≤ k) (hb : k < b.length) : zEL (a.drop k) (b.drop k) = -1 := by
 rw [List.drop_eq_getElem_cons hb, List.drop_eq_nil_of_le ha]; rfl
theorem zRI {a b : List Int} {k : Nat} (ha : a.length ≤ k) (hb : b.length ≤ k) : zEL (a.drop k) (b.drop k) = 0 := by
 rw [List.drop_eq_nil_of_le ha, List.drop_eq_nil_of_le hb]; rfl
theorem zO4 (a b : List Int) (ha : a.length ≤ 9223372036854775807) (hb : b.length ≤ 9223372036854775807) : zX Tryz.prog 112 [.ro (.ints .i64 a) 0 a.length, .ro (.ints .i64 b) 0 b.length] (.int .i64 (zEL a b)) := by
 refine zV.value0 (zG (P := Tryz.prog) (fn := Tryz.f112) Y Y (by kernel_rfl) Y (fun c hR hfix => ?_)) (fix := fun _ => False) (fun _ h => h) Y Y
 refine rn3 ?_
 refine zi (ι := Nat) (fun k => [(0, .ro (.ints .i64 a) 0 a.length), (1, .ro (.ints .i64 b) 0 b.length), (9, .ro (.ints .i64 a) 0 a.length), (10, .int .i64 (a.length : Nat)), (11, .int .i64 (k : Nat))]) (fun _ => [])
   (fun k => k ≤ a.length ∧ k ≤ b.length ∧ zEL a b = zEL (a.drop k) (b.drop k)) (fun k => a.length - k) 0 ⟨⟨rfl, rfl, rfl, rfl, rfl, trivial⟩, rfl, Nat.zero_le _, Nat.zero_le _, rfl⟩ ?_
 rintro k ⟨hk, hkb, hE⟩
 refine rn4 ?_
 refine zE Y (fun h => ?_) (fun h => ?_)
 · have hk' : k < a.length := by omega
   repeat (first | refine zD (zH rfl) ?_ | refine zD (zL rfl) ?_ | refine zD (zAn rfl rfl rfl) ?_ | refine zB ?_ | refine zA ?_ | refine zW ?_ | refine zK rfl ?_ | refine zw ?_ | refine zk ?_ | refine zD (zCr rfl rfl) ?_ | refine zD (zA6 rfl rfl rfl) ?_ | refine zD (zf rfl rfl rfl rfl (by first | (simp only [Nat.zero_add, Int.toNat_natCast, Int.toNat_zero]; exact rfl) | exact rfl) (by omega)) ?_)
   refine zE Y (fun h2 => ?_) (fun h2 => ?_)
   · rw [zQj hk' (by omega)] at hE
     rw [hE] at hR
     refine rn6 ?_
     exact zI hR Y Y
   have hk2 : k < b.length := by omega
   rw [cmpL_at hk' hk2] at hE
   have cc := cmpO_ok (a.getD k 0) (b.getD k 0)
   generalize cmpO (a.getD k 0) (b.getD k 0) = z at *
   refine rn6 ?_
   refine zC Y Y Y cc ?_
   refine rn3 ?_
   refine zE Y (fun h3 => ?_) (fun h3 => ?_)
   · rw [if_pos h3] at hE
     rw [hE] at hR
     refine rn6 ?_
     exact zI hR Y Y
   · rw [if_neg h3] at hE
     refine rn5 ?_
     exact zM ⟨k + 1, ⟨by omega, by omega, hE⟩, by omega, ⟨Y, Y, Y, Y, Y, trivial⟩, Y⟩
 · have hke : k = a.length := by omega
   subst hke
   refine rn5 ?_
   refine zE Y (fun h2 => ?_) (fun h2 => ?_)
   · rw [zQm (Nat.le_refl _) (by omega)] at hE
     rw [hE] at hR
     refine rn2 ?_
     exact zI hR Y Y
   · rw [zRI (Nat.le_refl _) (by omega)] at hE
     rw [hE] at hR
     refine rn1 ?_
     exact zI hR Y Y
def allA (o : Option (List (List Int))) : AV := match o with
 | none => .tup [.ro (zBC []) 0 0, .bool false]
 | some l => .tup [.ro (zBC l) 0 l.length, .bool true]
def zE9 (w : List Nat) : List Int := w.map (fun n : Nat => (n : Int))
theorem allG_at {w : List Nat} {out : List (List Int)} {i : Nat} (hi : i < w.length) : zHQ (w.drop i) out = if 128 < out.length * w.getD i 0 then none else zHQ (w.drop (i + 1)) (zD5 out (w.getD i 0)) := by
 rw [List.drop_eq_getElem_cons hi, ← zAC 0 hi]; rfl
def zHU (out : List (List Int)) (n j k : Nat) : List (List Int) := zD5 (out.take j) n ++ (List.range k).map (fun c : Nat => out.getD j [] ++ [(c : Int)])
theorem zPB (out : List (List Int)) (n j k : Nat) : zHU out n j (k + 1) = zHU out n j k ++ [out.getD j [] ++ [(k : Int)]] := by
 unfold zHU
 rw [List.range_succ, List.map_append, ← List.append_assoc]; rfl
theorem zPD {out : List (List Int)} {n j : Nat} (hj : j < out.length) : zHU out n j n = zD5 (out.take (j + 1)) n := by
 unfold zHU zD5
 rw [List.take_succ_eq_append_getElem hj, List.flatMap_append, ← zAC [] hj]
 simp
theorem zPE (out : List (List Int)) (n j : Nat) : zHU out n j 0 = zD5 (out.take j) n := by
 unfold zHU; simp
theorem zRe (out : List (List Int)) {n j k : Nat} (hj : j ≤ out.length) : (zHU out n j k).length = j * n + k := by
 unfold zHU
 rw [List.length_append, zIx, List.length_take, List.length_map, List.length_range, Nat.min_eq_left hj]
theorem zLG (ls : List (List Int)) : zAA (zBC ls) := fun _ _ _ _ => rfl
theorem zHx (ls : List (List Int)) (h : Nat) : CEq ((zBC ls).forget h) (zBC ls) := ⟨rfl, rfl, fun _ _ _ _ => rfl⟩
theorem all_ok (w : List Nat) (hl : w.length ≤ 100000) (hw : ∀ n ∈ w, n ≤ 100000) : zX Tryz.prog 103 [.ro (.ints .i64 (zE9 w)) 0 w.length] (allA (zHQ w [[]])) := by
 have hnl : (zE9 w).length = w.length := List.length_map _
 refine zV.value0 (zG (P := Tryz.prog) (fn := Tryz.f103) Y Y (by kernel_rfl) Y (fun c hR hfix => ?_)) (fix := fun _ => False) (fun _ h => h) Y (by unfold allA; split <;> rfl)
 refine rn0 ?_
 refine zj Y Y Y Y Y Y Y Y Y Y Y ?_
 refine zN 11 (.ro (.ints .i64 []) 0 0) Y (AEq.ro Y (fun d j hd _ => absurd hd (Nat.not_lt_zero _))) ?_
 refine rn3 ?_
 refine z7 4 (.ro (zBC [[]]) 0 1) Y (AEq.ro Y (fun d j hd hj => by
   obtain rfl := Nat.lt_one_iff.1 hd
   obtain rfl := Nat.lt_one_iff.1 (show j < 1 from hj)
   rfl)) ?_
 refine zi (ι := Nat) (fun i => [(4, .ro (zBC (zCT (w.take i))) 0 (zCT (w.take i)).length), (13, .ro (.ints .i64 (zE9 w)) 0 w.length), (14, .int .i64 (w.length : Nat)), (15, .int .i64 (i : Nat))]) (fun _ => [])
   (fun i => i ≤ w.length ∧ (zCT (w.take i)).length ≤ 128 ∧ zHQ w [[]] = zHQ (w.drop i) (zCT (w.take i))) (fun i => w.length - i) 0 ⟨⟨rfl, rfl, rfl, rfl, trivial⟩, rfl, Nat.zero_le _, by show 1 ≤ 128; decide, rfl⟩ ?_
 rintro i ⟨hi, ho, hE⟩
 have hal := zF1 w i hi
 refine rn4 ?_
 refine zE Y (fun h => ?_) (fun h => ?_)
 · have hi' : i < w.length := by omega
   have hz : (zE9 w).getD i 0 = ((w.getD i 0 : Nat) : Int) := zBB _ _ 0 _ _ hi'
   have hn5 := hw _ (zAP 0 hi')
   rw [allG_at hi'] at hE
   have hnx : zCT (w.take (i + 1)) = zD5 (zCT (w.take i)) (w.getD i 0) := by rw [List.take_succ_eq_append_getElem hi', zFx, ← zAC 0 hi']
   generalize hnxd : zCT (w.take (i + 1)) = nx at *
   generalize zCT (w.take i) = out at *
   have hin : i < (zE9 w).length := by omega
   have hmul : ((out.length : Nat) : Int) * ((w.getD i 0 : Nat) : Int) = ((out.length * w.getD i 0 : Nat) : Int) := by rw [Int.natCast_mul]
   generalize w.getD i 0 = n at *
   have hmb : out.length * n ≤ 128 * 100000 := Nat.mul_le_mul ho hn5
   repeat (first | refine zA ?_ | refine zW ?_ | refine zw ?_ | refine zk ?_)
   refine zK Y ?_
   repeat (first | refine zD (zL rfl) ?_ | refine zD (zAn rfl rfl rfl) ?_ | refine zB ?_ | refine zA ?_ | refine zW ?_ | refine zD (zf rfl rfl rfl rfl (by first | (simp only [Nat.zero_add, Int.toNat_natCast, Int.toNat_zero]; exact rfl) | exact rfl) (by omega)) ?_)
   refine z7 6 (.int .i64 (n : Nat)) Y (AEq.of_eq (by rw [hz])) ?_
   have hnl2 := zIx out n
   generalize hM : out.length * n = M at *
   refine rn3 ?_
   refine zD (q_mul Y Y (by rw [hmul]; omega)) ?_
   refine zN 22 (.int .i64 (M : Nat)) Y (AEq.of_eq (by rw [hmul])) ?_
   refine rn6 ?_
   refine zE Y (fun h2 => ?_) (fun h2 => ?_)
   · rw [if_pos (by omega)] at hE
     rw [hE] at hR
     repeat (first | refine zD (zL rfl) ?_ | refine zB ?_ | refine zA ?_ | refine zW ?_ | refine zK rfl ?_)
     refine z7 2 (.ro (zBC []) 0 0) Y AEq.nil ?_
     refine rn6 ?_
     exact zI hR Y Y
   rw [if_neg (by omega)] at hE
   repeat (first | refine zD (zH rfl) ?_ | refine zD (zL rfl) ?_ | refine zB ?_ | refine zA ?_ | refine zW ?_ | refine zK rfl ?_ | refine zk ?_ | refine zD (zA6 rfl rfl rfl) ?_)
   refine zA5 7 ⟨38, zBC []⟩ Y Y ?_
   repeat (refine zw ?_)
   refine zi (ι := Nat) (fun j => [(6, .int .i64 (n : Nat)), (13, .ro (.ints .i64 (zE9 w)) 0 w.length), (14, .int .i64 (w.length : Nat)), (15, .int .i64 (i : Nat)), (24, .ro (zBC out) 0 out.length), (25, .int .i64 (out.length : Nat)), (26, .int .i64 (j : Nat)), (7, .sl 0 0 (zD5 (out.take j) n).length)]) (fun j => [some ⟨38, zBC (zD5 (out.take j) n)⟩])
     (fun j => j ≤ out.length) (fun j => out.length - j) 0 ⟨⟨rfl, rfl, rfl, rfl, rfl, rfl, rfl, rfl, trivial⟩, rfl, Nat.zero_le _⟩ ?_
   intro j hj
   refine rn4 ?_
   refine zE Y (fun h3 => ?_) (fun h3 => ?_)
   · have hj' : j < out.length := by omega
     have hel := hal _ (zAP [] hj')
     have hfull := zPD (n := n) hj'
     have hzero := zPE out n j
     have hsucc := zPB out n j
     have hkl := fun k => zRe out (n := n) (k := k) hj
     have hjm : j * n + n ≤ M := by
       rw [← hM, ← Nat.succ_mul]; exact Nat.mul_le_mul_right _ hj'
     rw [← hzero]
     generalize zHU out n j = NK at *
     refine rn6 ?_
     generalize hcs : out.getD j [] = cs at *
     refine zi (ι := Nat) (fun k => [(6, .int .i64 (n : Nat)), (13, .ro (.ints .i64 (zE9 w)) 0 w.length), (14, .int .i64 (w.length : Nat)), (15, .int .i64 (i : Nat)), (24, .ro (zBC out) 0 out.length), (25, .int .i64 (out.length : Nat)), (26, .int .i64 (j : Nat)), (7, .sl 0 0 (NK k).length), (9, .ro (.ints .i64 cs) 0 cs.length), (30, .int .i64 (n : Nat)), (31, .int .i64 (k : Nat))]) (fun k => [some ⟨38, zBC (NK k)⟩])
       (fun k => k ≤ n) (fun k => n - k) 0 ⟨⟨rfl, rfl, rfl, rfl, rfl, rfl, rfl, rfl, rfl, rfl, rfl, trivial⟩, rfl, Nat.zero_le _⟩ ?_
     intro k hk
     refine rn4 ?_
     refine zE Y (fun h4 => ?_) (fun h4 => ?_)
     · have hk' : k < n := by omega
       have hs := hsucc k
       have hlk := hkl k
       have hlk1 := hkl (k + 1)
       have ccl := clone cs (by omega)
       refine rn1 ?_
       refine zB0 Y Y Y ccl ?_
       refine rn3 ?_
       refine zr Y Y Y Y Y Y Y Y Y Y Y Y (by show 0 + 1 ≤ 1; omega) Y (by show (cs.length + 1) * 8 ≤ _ ∧ _; omega) (fun i j _ _ => rfl) (by rw [hfix]; exact fun h => h) ?_
       refine zC8 1 39 (cs.length + 1) [(6, .int .i64 (n : Nat)), (7, .sl 0 0 (NK k).length), (9, .ro (.ints .i64 cs) 0 cs.length), (13, .ro (.ints .i64 (zE9 w)) 0 w.length), (14, .int .i64 (w.length : Nat)), (15, .int .i64 (i : Nat)), (24, .ro (zBC out) 0 out.length), (25, .int .i64 (out.length : Nat)), (26, .int .i64 (j : Nat)), (30, .int .i64 (n : Nat)), (31, .int .i64 (k : Nat)), (34, .sl 0 0 (NK k).length)] Y zAY Y (by show cs.length + 1 ≤ (cs ++ _).length; simp) ⟨Y, Y, Y, Y, Y, Y, Y, Y, Y, Y, Y, Y, trivial⟩ ?_
       refine zN 39 (.ro (.ints .i64 (cs ++ [(k : Int)])) 0 (cs ++ [(k : Int)]).length) Y (AEq.of_eq (by rw [List.length_append]; rfl)) ?_
       refine zAp [some ⟨38, zBC (NK k)⟩, none] (z6.eqv ((zHx _ _)) (z6.drop z6.nil)) ?_
       generalize cs ++ [(k : Int)] = cs2 at *
       repeat (refine zj rfl rfl rfl rfl rfl rfl rfl rfl rfl rfl rfl ?_)
       refine zr Y Y Y Y Y Y Y Y Y Y Y Y (by show 0 + 1 ≤ 1; omega) Y (by show ((NK k).length + 1) * 24 ≤ _ ∧ _; omega) ?_ (by rw [hfix]; exact fun h => h) ?_
       · intro i' j' hi1 hj1
         exact zMz (NK k) cs2 _ Y 0 i' j' hi1 hj1
       repeat (first | refine zD (zL rfl) ?_ | refine zB ?_ | refine zd ?_)
       refine zA ?_
       refine zBg ([some ⟨38, zBC (NK (k + 1))⟩] ++ [none]) ?_ ?_
       · rw [hs]
         exact z6.eqv (zPP (NK k) cs2 _ Y) (z6.drop z6.nil)
       refine zDv (H1 := [some ⟨38, zBC (NK (k + 1))⟩]) Y (by rw [hfix]; exact fun h => h) ?_
       refine zBg [some ⟨38, zBC (NK (k + 1))⟩] (z6.eqv (zHx _ _) z6.nil) ?_
       refine rn3 ?_
       exact zM ⟨k + 1, by omega, by omega, ⟨Y, Y, Y, Y, Y, Y, Y, by rw [hs, List.length_append]; rfl, Y, Y, Y, trivial⟩, Y⟩
     · have hke : k = n := by omega
       subst hke
       rw [hfull]
       refine rn5 ?_
       exact zM ⟨j + 1, by omega, by omega, ⟨Y, Y, Y, Y, Y, Y, Y, Y, trivial⟩, Y⟩
   · have hje : j = out.length := by omega
     subst hje
     rw [List.take_length]
     rw [← hnx] at *
     repeat (first | refine zA ?_ | refine zAj ?_ | refine zp ?_ | refine zo ?_ | refine zAB ?_)
     refine zAU 0 7 nx.length [(13, .ro (.ints .i64 (zE9 w)) 0 w.length), (14, .int .i64 (w.length : Nat)), (15, .int .i64 (i : Nat))] Y (zLG _) Y (Nat.le_refl _) ⟨Y, Y, Y, trivial⟩ ?_
     repeat (first | refine zD (zH rfl) ?_ | refine zD (zL rfl) ?_ | refine zB ?_ | refine zK rfl ?_ | refine zd ?_)
     refine zA ?_
     refine zDv (H1 := []) Y (by rw [hfix]; exact fun h => h) ?_
     refine rn3 ?_
     subst hnxd
     exact zM ⟨i + 1, ⟨by omega, by omega, hE⟩, by omega, ⟨Y, Y, Y, Y, trivial⟩, Y⟩
 · have hie : i = w.length := by omega
   subst hie
   rw [List.drop_length, List.take_length] at hE
   rw [List.take_length]
   rw [hE] at hR
   have hR : c.R = fun r' x => r' = .tup [.ro (zBC (zCT w)) 0 (zCT w).length, .bool true] := hR
   generalize zCT w = L at *
   refine rn5 ?_
   exact zI hR Y Y
structure SeqOk (I : List Int) (sq : List RSeq) : Prop where
 bef : ∀ i, i < sq.length → 0 ≤ (sq.getD i seq0).before → (sq.getD i seq0).before < (i : Int)
 inf : ∀ i, i < sq.length → 0 ≤ (sq.getD i seq0).before → (sq.getD i seq0).info ∈ I
theorem zJB {pos : Int → Nat} {cs I : List Int} {sq : List RSeq} (h : SeqOk I sq) : ∀ b f g, b < f → b < g → b < sq.length → zCI pos cs sq f b = zCI pos cs sq g b := by
 intro b
 induction b using Nat.strongRecOn with
 | ind b ih =>
   intro f g hf hg hb
   obtain ⟨f, rfl⟩ : ∃ k, f = k + 1 := ⟨f - 1, by omega⟩
   obtain ⟨g, rfl⟩ : ∃ k, g = k + 1 := ⟨g - 1, by omega⟩
   rw [zCI, zCI]
   by_cases h1 : (sq.getD b seq0).before < 0
   · rw [if_pos h1, if_pos h1]
   · rw [if_neg h1, if_neg h1]
     have h2 := h.bef b hb (by omega)
     split
     · exact ih _ (by omega) f g (by omega) (by omega) (by omega)
     · rfl
theorem zMf (a b d : Int) : zAA (.box [.int .i64 a, .int .i64 b, .int .i64 d]) := by
 intro i j _ hj
 have hj : j < 3 := hj
 match j, hj with
 | 0, _ => rfl
 | 1, _ => rfl
 | 2, _ => rfl
theorem makes_ok (I cs : List Int) (sq : List RSeq) (N i : Nat) (hI : I.length ≤ 1000000) (hcs : cs.length = I.length) (hsl : sq.length ≤ 1000000) (hi : i < sq.length) (hiN : i < N) (hs : SeqOk I sq) :
   zX Tryz.prog 107 [.ro (.ints .i64 I) 0 I.length, .ro (.ints .i64 cs) 0 cs.length, .ro (zBW sq) 0 sq.length, .int .i64 (i : Nat)] (.bool (zCI (fun x => I.findIdx (eqp x)) cs sq N i)) := by
 refine zV.value0 (zG (P := Tryz.prog) (fn := Tryz.f107) Y Y (by kernel_rfl) Y (fun c hR hfix => ?_)) (fix := fun _ => False) (fun _ h => h) Y Y
 rw [zJB hs i N (i + 1) hiN (by omega) hi] at hR
 generalize hpos : (fun x => I.findIdx (eqp x)) = pos at *
 refine rn6 ?_
 refine zP (c' := .box [.int .i64 (sq.getD i seq0).info, .int .i64 (sq.getD i seq0).choice, .int .i64 (sq.getD i seq0).before]) Y Y Y Y Y Nat.zero_lt_one Y Y (fun i' j' hi' hj' => ?_) ?_
 · rw [if_pos (Nat.lt_one_iff.1 hi')]; rfl
 refine rn1 ?_
 refine zi (ι := Nat) (fun k => [(9, .ptr 0 0 0), (0, .ro (.ints .i64 I) 0 I.length), (1, .ro (.ints .i64 cs) 0 cs.length), (2, .ro (zBW sq) 0 sq.length)]) (fun k => [some ⟨174, .box [.int .i64 (sq.getD k seq0).info, .int .i64 (sq.getD k seq0).choice, .int .i64 (sq.getD k seq0).before]⟩])
   (fun k => k < sq.length ∧ zCI pos cs sq (i + 1) i = zCI pos cs sq (k + 1) k) (fun k => k) i ⟨⟨rfl, rfl, rfl, rfl, trivial⟩, rfl, hi, rfl⟩ ?_
 rintro k ⟨hk, hE⟩
 have hbf := hs.bef k hk
 have hif := hs.inf k hk
 have hst : zCI pos cs sq (k + 1) k = if (sq.getD k seq0).before < 0 then true else if cs.getD (pos (sq.getD k seq0).info) 0 = (sq.getD k seq0).choice then zCI pos cs sq k (sq.getD k seq0).before.toNat else false := rfl
 rw [hst] at hE
 clear hst
 generalize hx : sq.getD k seq0 = x at *
 obtain ⟨nf, ch, bf⟩ := x
 simp only at *
 refine zNm (o := ⟨174, .box [.int .i64 nf, .int .i64 ch, .int .i64 bf]⟩) (v := .ptr 0 0 0) 9 [(0, .ro (.ints .i64 I) 0 I.length), (1, .ro (.ints .i64 cs) 0 cs.length), (2, .ro (zBW sq) 0 sq.length)] (.rp (.box [.int .i64 nf, .int .i64 ch, .int .i64 bf]) 0 0) (zMf _ _ _) rfl rfl (fun o ho => by simp at ho; subst ho; exact Nat.zero_lt_one) rfl ⟨rfl, rfl, rfl, rfl, trivial⟩ ⟨rfl, rfl, rfl, trivial⟩ rfl (by rw [hfix]; exact fun h hh => hh) ?_
 repeat (first | refine zB ?_ | refine zA ?_ | refine zW ?_ | refine zK rfl ?_ | refine zD (zCr rfl rfl) ?_ | refine zD (zAh rfl rfl rfl rfl) ?_ | refine zD (zAu rfl rfl rfl rfl rfl rfl) ?_)
 refine zE Y (fun h => ?_) (fun h => ?_)
 · rw [if_neg (by omega)] at hE
   obtain ⟨b, rfl⟩ := Int.eq_ofNat_of_zero_le (show 0 ≤ bf by omega)
   have hbk : b < k := by have := hbf (by omega); omega
   have hbl : b < sq.length := by omega
   have hex : ∃ y ∈ I, eqp nf y = true := ⟨nf, hif (by omega), by simp [eqp]⟩
   have hlt : I.findIdx (eqp nf) < I.length := List.findIdx_lt_length_of_exists hex
   have ci := indexI I nf (by omega)
   rw [zI1 (eqp nf) I (List.any_eq_true.2 hex)] at ci
   have hpn : pos nf = I.findIdx (eqp nf) := by rw [← hpos]
   rw [hpn, Int.toNat_natCast] at hE
   generalize I.findIdx (eqp nf) = m at *
   have hmc : m < cs.length := by omega
   refine rn1 ?_
   refine zl (by kernel_rfl) ?_
   refine zt (fuel := 0) [0, 1, 2, 3, 4, 5, 6, 7, 8, 9] [(9, .rp (.box [.int .i64 nf, .int .i64 ch, .int .i64 (b : Nat)]) 0 0), (0, .ro (.ints .i64 I) 0 I.length), (1, .ro (.ints .i64 cs) 0 cs.length), (2, .ro (zBW sq) 0 sq.length)] ⟨Y, Y, Y, Y, trivial⟩ (by kernel_rfl) (by decide) Y Y ?_
   refine zU Y Y (zH Y) ?_
   refine zU Y Y (zH Y) ?_
   refine zU Y Y (zAu Y Y Y Y Y Y) ?_
   refine zU Y Y (zAh Y Y Y Y) ?_
   refine zBc Y Y Y Y Y ci ?_
   refine zU Y Y (zf Y Y Y Y (by first | (simp only [Nat.zero_add, Int.toNat_natCast, Int.toNat_zero]; exact Y) | exact Y) (by omega)) ?_
   refine zU Y Y (zAn Y Y Y) ?_
   refine zU Y Y (zAu Y Y Y Y Y Y) ?_
   refine zU Y Y (zAh Y Y Y Y) ?_
   refine zU Y Y (zD6 Y Y) ?_
   refine zAc ?_
   refine zh (by kernel_rfl) ?_
   repeat (refine zA ?_)
   refine zE Y (fun h2 => ?_) (fun h2 => ?_)
   · rw [if_neg (by simpa using h2)] at hE
     rw [hE] at hR
     refine rn6 ?_
     exact zI hR Y Y
   rw [if_pos (by simpa using h2)] at hE
   refine rn6 ?_
   refine zP (c' := .box [.int .i64 nf, .int .i64 ch, .int .i64 (b : Nat)]) Y Y Y Y Y Nat.zero_lt_one Y Y (fun i' j' hi' hj' => ?_) ?_
   · rw [if_pos (Nat.lt_one_iff.1 hi')]; rfl
   refine rn6 ?_
   refine zP (c' := .box [.int .i64 (sq.getD b seq0).info, .int .i64 (sq.getD b seq0).choice, .int .i64 (sq.getD b seq0).before]) Y Y Y Y Y Nat.zero_lt_one Y Y (fun i' j' hi' hj' => ?_) ?_
   · rw [if_pos (Nat.lt_one_iff.1 hi')]; rfl
   repeat (refine zB ?_)
   have hgg : zCI pos cs sq k b = zCI pos cs sq (b + 1) b := zJB hs b k (b + 1) hbk (by omega) hbl
   exact zM ⟨b, ⟨hbl, by rw [hE]; exact hgg⟩, hbk, ⟨Y, Y, Y, Y, trivial⟩, Y⟩
 · rw [if_pos (by omega)] at hE
   rw [hE] at hR
   refine rn5 ?_
   exact zI hR Y Y
theorem zCK (c : TChoice) (j h : Nat) (hj : j < 2) : ((cellsC c).getD j .any).forget h = (cellsC c).getD j .any := by
 match j, hj with
 | 0, _ => rfl
 | 1, _ => rfl
theorem zCS (s : zAL) : zAA (zm s) := by
 intro i j _ hj
 have hj : j < 2 := hj
 match j, hj with
 | 0, _ => rfl
 | 1, _ => rfl
theorem growC (n : Int) (h0 : 0 ≤ n) (h1 : n ≤ 4398046511104) : zHY Tryz.prog 129 [.nil, .int .i64 n] (fun N => .sl N 0 0) ⟨67, zm []⟩ := by
 refine zV.fresh (K := fun r H => r = .sl 0 0 0 ∧ H = [some ⟨67, zm []⟩]) (zG (P := Tryz.prog) (fn := Tryz.f129) Y Y (by kernel_rfl) Y (fun c hR hfix => ?_)) (fix := fun _ => False) (fun _ h => h) Y (fun H => ⟨Y, by simp [zG1, inB]⟩) ?_
 · refine rn4 ?_
   refine zE Y (fun h => absurd h (by omega)) (fun h => ?_)
   repeat (first | refine zD (zH rfl) ?_ | refine zD (zL rfl) ?_ | refine zB ?_ | refine zA ?_ | refine zW ?_ | refine zK rfl ?_ | refine zk ?_ | refine zD (zIT rfl rfl) ?_ | refine zD (zA6 rfl rfl rfl) ?_ | refine zD (zBe rfl rfl (by omega)) ?_ | refine zD (zIR rfl rfl) ?_)
   refine zE Y (fun h => ?_) (fun h => ?_)
   rotate_left
   · repeat (first | refine zD (zH rfl) ?_ | refine zD (zL rfl) ?_ | refine zB ?_ | refine zA ?_ | refine zW ?_ | refine zK rfl ?_ | refine zk ?_)
     refine zA5 4 ⟨67, zm []⟩ Y Y ?_
     repeat (refine zAX ?_)
     exact zI hR Y ⟨Y, Y⟩
   repeat (first | refine zD (zH rfl) ?_ | refine zK rfl ?_ | refine zD (zIR rfl rfl) ?_ | refine zD (zKz rfl rfl rfl rfl rfl rfl rfl) ?_)
   refine ax_growz Y Y Y Y Y Y Y Y Y (by show 0 < _ ∧ _ * 32 ≤ _ ∧ _; omega) ?_
   refine rn3 ?_
   refine zD (zGv Y Y Y Y Y Y Y Y (by omega)) ?_
   refine zIB 0 (zm []) Y ⟨Nat.zero_le _, Y, fun i j hi => absurd hi (Nat.not_lt_zero _)⟩ ?_
   refine rn0 ?_
   exact zI hR Y ⟨Y, Y⟩
 · rintro r H ⟨rfl, rfl⟩
   refine ⟨?_, fun h o ho => zFq (zCS _) h o ho, 0, Y, fun n => rfl⟩
   intro o ho; simp at ho; subst ho; exact Nat.zero_le _
def cellL (s : zAL) : List AV := [.ro (zm s) 0 s.length]
abbrev zFX (l : List zAL) : Cells := zCg [] 1 cellL l
def zCi (ls : List zAL) : Int := (ls.map fun l => (l.length : Int)).sum
theorem zGN (ls : List zAL) (k : Nat) (h : k < ls.length) : zCi (ls.take (k + 1)) = zCi (ls.take k) + ((ls.getD k []).length : Int) := by
 unfold zCi
 rw [zAm ls [] k h, List.map_append, List.sum_append]
 simp
theorem zBO (ls : List zAL) : zCi ls = (ls.flatten.length : Int) := by
 induction ls with
 | nil => rfl
 | cons l r ih => unfold zCi at ih ⊢; simp [ih]
theorem zCs (ls : List zAL) (k : Nat) : 0 ≤ zCi (ls.take k) ∧ zCi (ls.take k) ≤ zCi ls := by
 have h : ls.flatten = (ls.take k).flatten ++ (ls.drop k).flatten := by rw [← List.flatten_append, List.take_append_drop]
 rw [zBO, zBO, h, List.length_append]; omega
theorem zHT (ls : List zAL) (k : Nat) (h : k < ls.length) : (ls.take (k + 1)).flatten = (ls.take k).flatten ++ ls.getD k [] := by
 rw [zAm ls [] k h, List.flatten_append]; simp
theorem concatC (ls : List zAL) (hlen : ls.length ≤ 1000000) (hs : zCi ls ≤ 4398046511104) :
   zHY Tryz.prog 68 [.ro (zFX ls) 0 ls.length] (fun N => .sl N 0 ls.flatten.length) ⟨67, zm ls.flatten⟩ := by
 refine zV.fresh (K := fun r H => r = .sl 0 0 ls.flatten.length ∧ H = [some ⟨67, zm ls.flatten⟩]) (zG (P := Tryz.prog) (fn := Tryz.f68) Y Y (by kernel_rfl) Y (fun c hR hfix => ?_)) (fix := fun _ => False) (fun _ h => h) Y (fun H => ⟨Y, by simp [zG1, inB]⟩) ?_
 · refine rn3 ?_
   refine zi (ι := Nat) (fun k => [(0, .ro (zFX ls) 0 ls.length), (3, .int .i64 (zCi (ls.take k))), (9, .ro (zFX ls) 0 ls.length), (10, .int .i64 (ls.length : Nat)), (11, .int .i64 (k : Nat))]) (fun _ => [])
     (fun k => k ≤ ls.length) (fun k => ls.length - k) 0 ⟨⟨rfl, rfl, rfl, rfl, rfl, trivial⟩, rfl, Nat.zero_le _⟩ ?_
   intro k hk
   refine rn4 ?_
   refine zE Y (fun h1 => ?_) (fun h1 => ?_)
   · have hk' : k < ls.length := by omega
     have hsum := zGN ls k hk'
     have hb := zCs ls (k + 1)
     have hb0 := zCs ls k
     refine rn6 ?_
     refine zE Y (fun h2 => absurd h2 (by omega)) (fun h2 => ?_)
     refine rn5 ?_
     exact zM ⟨k + 1, by omega, by omega, ⟨Y, by rw [hsum]; rfl, Y, Y, Y, trivial⟩, Y⟩
   · have hk' : k = ls.length := by omega
     subst hk'
     simp only [List.take_length] at *
     have hfl := zBO ls
     refine rn5 ?_
     refine zB0 Y Y Y (growC (zCi ls) (by omega) hs) ?_
     refine rn3 ?_
     refine zi (ι := Nat) (fun k => [(6, .sl 0 0 (ls.take k).flatten.length), (25, .ro (zFX ls) 0 ls.length), (26, .int .i64 (ls.length : Nat)), (27, .int .i64 (k : Nat))]) (fun k => [some ⟨67, zm (ls.take k).flatten⟩])
       (fun k => k ≤ ls.length) (fun k => ls.length - k) 0 ⟨⟨rfl, rfl, rfl, rfl, trivial⟩, rfl, Nat.zero_le _⟩ ?_
     intro k hk
     refine rn4 ?_
     refine zE Y (fun h1 => ?_) (fun h1 => ?_)
     · have hk' : k < ls.length := by omega
       have hfs := zHT ls k hk'
       have hb := zCs ls (k + 1)
       have hsl := zGN ls k hk'
       have hb0 := zCs ls k
       have hfl0 := zBO (ls.take k)
       refine rn6 ?_
       refine zr Y Y Y Y Y Y Y Y Y Y Y Y (by show 0 + (ls.getD k []).length ≤ (ls.getD k []).length; omega) Y (by show ((ls.take k).flatten.length + (ls.getD k []).length) * 32 ≤ _ ∧ _; omega) ?_ (by rw [hfix]; exact fun h => h) ?_
       · intro i' j' hi' hj'
         have q := (zIC ch0 2 cellsC (ls.take k).flatten (ls.getD k [])).2.2 i' j' hi' hj'
         exact (congrArg (AV.forget 0) q.symm).trans ((zCK _ j' 0 hj').trans q)
       refine zAp [some ⟨67, zm (ls.take (k + 1)).flatten⟩] ?_ ?_
       · rw [hfs]
         exact z6.eqv (zIC ch0 2 cellsC (ls.take k).flatten (ls.getD k [])) z6.nil
       refine rn5 ?_
       refine zM ⟨k + 1, by omega, by omega, ⟨?_, Y, Y, Y, trivial⟩, Y⟩
       show some (AV.sl 0 0 ((ls.take k).flatten.length + (ls.getD k []).length)) = _
       rw [hfs, List.length_append]
     · have hk' : k = ls.length := by omega
       subst hk'
       simp only [List.take_length] at *
       refine rn5 ?_
       exact zI hR Y ⟨Y, Y⟩
 · rintro r H ⟨rfl, rfl⟩
   refine ⟨?_, fun h o ho => zFq (zCS _) h o ho, 0, Y, fun n => rfl⟩
   intro o ho; simp at ho; subst ho; show 0 + ls.flatten.length ≤ ls.flatten.length; omega
theorem zOV (l : zAL) (g : FuncId) (caps : List AV) (p : TChoice → Bool) (hc : noRef.noRefs caps = true) (hlen : l.length ≤ 9223372036854775807) (hp : ∀ x ∈ l, zX Tryz.prog g ([.agg (cellsC x)] ++ caps) (.bool (p x))) :
   zX Tryz.prog 109 [.ro (zm l) 0 l.length, .fn g caps] (.int .i64 (zDZ p l)) := by
 refine zV.value0 (zG (P := Tryz.prog) (fn := Tryz.f109) Y Y (by kernel_rfl) Y (fun c hR hfix => ?_)) (fix := fun _ => False) (fun _ h => h) (by simp [noRef.noRefs, noRef, hc]) Y
 refine rn3 ?_
 refine zi (ι := Nat) (fun k => [(0, .ro (zm l) 0 l.length), (1, .fn g caps), (7, .int .i64 (l.length : Nat)), (8, .int .i64 (k : Nat))]) (fun _ => [])
   (fun k => k ≤ l.length ∧ (l.take k).any p = false) (fun k => l.length - k) 0 ⟨⟨rfl, rfl, rfl, rfl, trivial⟩, rfl, Nat.zero_le _, rfl⟩ ?_
 intro k ⟨hk, hany⟩
 refine rn4 ?_
 refine zE Y (fun h => ?_) (fun h => ?_)
 · have hk' : k < l.length := by omega
   have hanys := zCa p l ch0 k hk'
   refine rn6 ?_
   refine zN 15 (.agg (cellsC (l.getD k ch0))) Y (AEq.of_eq Y) ?_
   refine zC Y Y Y (hp _ (zBR ch0 hk')) ?_
   refine rn0 ?_
   refine zDK Y (fun h2 => ?_) (fun h2 => ?_)
   · refine rn6 ?_
     refine zI hR Y ?_
     have := zBt p l k hany hk
     rw [zB9 l ch0 k hk'] at this
     simp only [zDZ, h2, if_true] at this
     rw [this]; simp [zBQ]
   · refine rn5 ?_
     refine zM ⟨k + 1, ⟨by omega, by rw [hanys, hany, h2]; rfl⟩, by omega, ⟨Y, Y, Y, Y, trivial⟩, Y⟩
 · have hk' : k = l.length := by omega
   subst hk'
   refine rn5 ?_
   refine zI hR Y ?_
   have := zBt p l l.length hany hk
   rw [List.drop_length] at this
   rw [this]; rfl
theorem zQq (l : zAL) (g : FuncId) (caps : List AV) (p : TChoice → Bool) (hc : noRef.noRefs caps = true) (hlen : l.length ≤ 9223372036854775807) (hp : ∀ x ∈ l, zX Tryz.prog g ([.agg (cellsC x)] ++ caps) (.bool (p x))) :
   zX Tryz.prog 39 [.ro (zm l) 0 l.length, .fn g caps] (.bool (l.any p)) := by
 refine zV.value0 (zG (P := Tryz.prog) (fn := Tryz.f39) Y Y (by kernel_rfl) Y (fun c hR hfix => ?_)) (fix := fun _ => False) (fun _ h => h) (by simp [noRef.noRefs, noRef, hc]) Y
 refine rn0 ?_
 refine zC Y Y Y (zOV l g caps p hc hlen hp) ?_
 repeat (first | refine zD (zL rfl) ?_ | refine zB ?_ | refine zA ?_ | refine zAX ?_ | refine zD (zCr rfl rfl) ?_)
 refine zI hR Y ?_
 simp only [zBQ, zFl]
def zNu (c : TChoice) : Bool := c.odds.any (fun s => decide (12 < (s.length : Int)))
theorem plain11 (s : zBI) (hs : s.length ≤ 9223372036854775807) : zX Tryz.prog 70 [.str s] (.bool (decide (12 < (s.length : Int)))) := by
 refine zV.value0 (zG (P := Tryz.prog) (fn := Tryz.f70) Y Y (by kernel_rfl) Y (fun c hR hfix => ?_)) (fix := fun _ => False) (fun _ h => h) Y Y
 refine rn6 ?_
 exact zI hR Y Y
theorem plain1 (c : TChoice) (hc : ShortC c) : zX Tryz.prog 69 [.agg (cellsC c)] (.bool (zNu c)) := by
 obtain ⟨h1, h2⟩ := hc
 have cc := zIf c.odds 70 [] (fun s => decide (12 < (s.length : Int))) rfl h1 (fun s hs => plain11 s (h2 s hs))
 refine zV.value0 (zG (P := Tryz.prog) (fn := Tryz.f69) Y Y (by kernel_rfl) Y (fun c hR hfix => ?_)) (fix := fun _ => False) (fun _ h => h) Y Y
 obtain ⟨nf, od⟩ := c
 unfold zNu at hR
 unfold cellsC
 simp only at *
 refine rn6 ?_
 refine zC Y Y Y cc ?_
 refine rn0 ?_
 exact zI hR Y Y
def zKd (ls : List zAL) : Bool := !(ls.flatten.any zNu)
end Go.Proofs.YtnkealfaldjipaaGreatDoor
namespace Go.Ax
variable [Pins]
open Go.RowKit
theorem px_gv {P : Program} {fn : Func} {c : Ctx} {H : zZ} {all : Array Oper} {K0 : Fr} {i : Nat} {r : List Nat} {st : Steps} {G : Steps → Prop} {d : Nat} {g : Operand} {args : List Operand} {ats : Array TypeId} {ty : TypeId} {pos : String} {after : Array Edge} {f : FuncId} {caps ags ags' : List AV} {v : AV} {K : Fr} {j t : Nat} {p : Bool}
   (hi : all[i]? = some ⟨some d, .call { callee := .value g, args := args.toArray, argTypes := ats }, ty, pos, after, some (j, p)⟩)
   (hK : zIJ st K0 ⟨some d, .call { callee := .value g, args := args.toArray, argTypes := ats }, ty, pos, after, some (j, p)⟩ = K) (hy : zFy all j = some t) (hb : zA7 t K = some (.bool p)) (hg : ev K g = some (.fn f caps)) (ha : evs K args = some ags) (has : ags ++ caps = ags') (hcall : zX P f ags' v)
   (h : zHO P fn c H all K0 r ((i, d, v) :: st) G) : zHO P fn c H all K0 (i :: r) st G :=
 ⟨_, _, _, hi, rfl, hK ▸ zL5 hy hb (pure_v hg ha has hcall), h⟩
end Go.Ax
namespace Go.Proofs.YtnkealfaldjipaaGreatDoor
open Go.Ax Go.Ax.Bg Go.Ax.Rt Go.RowKit Go.Ax.Idx Go.Ax.Cd
attribute [local irreducible] Ax zBE QOp zV zAz
set_option maxRecDepth 100000
set_option maxHeartbeats 4000000
theorem q_pred {ind : Bool} {P : Program} {fn : Func} {c : Ctx} {fr : Fr} {H : zZ} {d : Option Nat} {ty : TypeId} {pos : String} {after : Array Edge} {g : Option (Nat × Bool)} {x y : Operand} {t t' : TypeId} {k : Nat} (hx : ev fr x = some (.int .i64 ((k + 1 : Nat) : Int))) (hy : ev fr y = some (.int .i64 1)) (hb : k ≤ 9223372036854775806) :
   QOp ind P fn c fr H ⟨d, .binOp .sub t x y t', ty, pos, after, g⟩ (.int .i64 (k : Nat)) := by
 have h := zBe (ind := ind) (P := P) (fn := fn) (c := c) (H := H) (d := d) (ty := ty) (pos := pos) (after := after) (g := g) (t := t) (t' := t') hx hy (by omega)
 rwa [show ((k + 1 : Nat) : Int) - 1 = (k : Nat) by omega] at h
theorem zJM (l : List zBI) (n : Nat) : zA2 n (.strs l) := fun _ _ _ _ => rfl
def zDN (a : CPlan) : List AV := [.ro (.ints .i64 a.choices) 0 a.choices.length, .str a.odds]
abbrev mxC (l : zB2) : Cells := zCg cp0 2 zDN l
theorem zLC (a : CPlan) (j h : Nat) (hj : j < 2) : ((zDN a).getD j .any).forget h = (zDN a).getD j .any := by
 match j, hj with
 | 0, _ => rfl
 | 1, _ => rfl
theorem zO7 (l : zB2) : zAA (mxC l) := by
 intro i j _ hj
 have hj : j < 2 := hj
 show noRef ((zDN (l.getD i cp0)).getD j .any) = true
 match j, hj with
 | 0, _ => rfl
 | 1, _ => rfl
theorem zE4 (t : zQ) (p : Int) : zz t p = zE9 (zAS t p) := by
 unfold zz zE9 zAS
 rw [List.map_map]; rfl
theorem zGq {t : zQ} {p : Int} (h : zAZ t p = 0) : zFa t p = ((zJ t p, zz t p), 0) := by
 unfold zFa
 rw [if_neg (fun q => q h)]
theorem zHl {t : zQ} {p : Int} (h : zAZ t p ≠ 0) : zFa t p = (([], []), zAZ t p) := by
 unfold zFa
 rw [if_pos h]
theorem zPt {t : zQ} (hv : Valid t) (p : Int) : ∀ n ∈ zAS t p, n ≤ 6 := by
 intro n hn
 obtain ⟨x, hx, rfl⟩ := List.mem_map.1 hn
 exact zIQ hv hx
theorem zJq (t : zQ) (p : Int) : (zAS t p).length ≤ 10 := by
 rw [zC7]
 unfold zJ
 refine Nat.le_trans (List.length_filter_le _ _) (by simp)
theorem cpure_ok (t : zQ) (p : Int) (hT : ShortT t) : zX Tryz.prog 100 [.ro (zc t) 0 t.length, .int .i64 p] (.tup [.ro (zBC (zOI t p).1) 0 (zOI t p).1.length, .int .i64 (zOI t p).2]) := by
 have c1 := zJ6 t p hT
 refine zV.value0 (zG (P := Tryz.prog) (fn := Tryz.f100) Y Y (by kernel_rfl) Y (fun c hR hfix => ?_)) (fix := fun _ => False) (fun _ h => h) Y Y
 unfold zOI at hR
 by_cases h1 : zAZ t p = 0
 case neg =>
   rw [zHl h1] at c1
   rw [if_pos h1] at hR
   generalize zAZ t p = e at *
   refine rn0 ?_
   refine zC Y Y Y c1 ?_
   refine rn3 ?_
   rw [decide_eq_true (show ¬ e = 0 from h1)]
   repeat (first | refine zD (zH rfl) ?_ | refine zD (zL rfl) ?_ | refine zB ?_ | refine zA ?_ | refine zW ?_ | refine zK rfl ?_ | refine zAV rfl ?_)
   refine z7 4 (.ro (zBC []) 0 0) Y AEq.nil ?_
   refine rn2 ?_
   exact zI hR Y Y
 obtain ⟨hv, _⟩ := zCd h1
 rw [zGq h1] at c1
 rw [if_neg (fun q => q h1)] at hR
 have c2 := all_ok (zAS t p) (by have := zJq t p; omega) (fun n hn => by have := zPt hv p n hn; omega)
 rw [← zE4] at c2
 have hzl : (zz t p).length = (zAS t p).length := by rw [zE4]; exact List.length_map _
 cases ha : zHQ (zAS t p) [[]] with
 | none =>
   rw [ha] at c2 hR
   refine rn0 ?_
   refine zC Y Y Y c1 ?_
   refine rn4 ?_
   refine zN 22 (.ro (.ints .i64 (zz t p)) 0 (zAS t p).length) Y (AEq.of_eq (by rw [hzl])) ?_
   refine zC Y Y Y c2 ?_
   repeat (first | refine zD (zH rfl) ?_ | refine zD (zL rfl) ?_ | refine zB ?_ | refine zA ?_ | refine zW ?_ | refine zK rfl ?_ | refine zAV rfl ?_ | refine zD (zEE rfl) ?_ | refine zD (zBM rfl rfl) ?_)
   refine z7 4 (.ro (zBC []) 0 0) Y AEq.nil ?_
   refine rn2 ?_
   exact zI hR Y Y
 | some l =>
   rw [ha] at c2 hR
   refine rn0 ?_
   refine zC Y Y Y c1 ?_
   refine rn4 ?_
   refine zN 22 (.ro (.ints .i64 (zz t p)) 0 (zAS t p).length) Y (AEq.of_eq (by rw [hzl])) ?_
   refine zC Y Y Y c2 ?_
   refine rn5 ?_
   exact zI hR Y Y
structure ShortX (l : zB2) : Prop where
 len : l.length ≤ 9223372036854775807
 ch : ∀ a ∈ l, a.choices.length ≤ 9223372036854775807
 od : ∀ a ∈ l, a.odds.length ≤ 9223372036854775807
def zJC (l : zB2) (i : Nat) : Option (List Int) := if i = 0 then none else some (l.getD (i - 1) cp0).choices
theorem zQp {w : List Nat} {l : zB2} {i : Nat} (hi : i < l.length) : zEI w (zJC l i) (l.drop i) = if zDd w (zJC l i) (l.getD i cp0).choices ≠ 0 then zDd w (zJC l i) (l.getD i cp0).choices else zEI w (zJC l (i + 1)) (l.drop (i + 1)) := by
 rw [List.drop_eq_getElem_cons hi, ← zAC cp0 hi]
 unfold zJC
 rw [if_neg (Nat.succ_ne_zero i), Nat.add_sub_cancel]
 rfl
def prevE (q : Option (List Int)) (cs : List Int) : Int := match q with
 | none => 0
 | some b => if zEL b cs < 0 then 0 else 7
theorem zNf {w : List Nat} {q : Option (List Int)} {cs : List Int} (h : cs.length ≠ w.length) : zDd w q cs = 3 := by unfold zDd; rw [if_pos h]
theorem zKl {w : List Nat} {q : Option (List Int)} {cs : List Int} (h : cs.length = w.length) (hw : inW w cs = false) : zDd w q cs = 4 := by unfold zDd; rw [if_neg (fun q => q h), if_pos hw]
theorem zRE {w : List Nat} {q : Option (List Int)} {cs : List Int} (h : cs.length = w.length) (hw : inW w cs = true) : zDd w q cs = prevE q cs := by
 unfold zDd
 rw [if_neg (fun q => q h), if_neg (by rw [hw]; decide)]
 cases q <;> rfl
theorem inW_step {w : List Nat} {cs : List Int} {m : Nat} (h1 : m < w.length) (h2 : m < cs.length) : inW (w.drop m) (cs.drop m) = (decide (0 ≤ cs.getD m 0 ∧ cs.getD m 0 < (w.getD m 0 : Int)) && inW (w.drop (m + 1)) (cs.drop (m + 1))) := by
 rw [List.drop_eq_getElem_cons h1, List.drop_eq_getElem_cons h2, ← zAC 0 h1, ← zAC 0 h2]; rfl
theorem zHB (t : zQ) (p : Int) (l : zB2) (hT : ShortT t) (hl : ShortX l) : zX Tryz.prog 48 [.ro (zc t) 0 t.length, .int .i64 p, .ro (mxC l) 0 l.length] (.int .i64 (zC6 t p l)) := by
 have c1 := zJ6 t p hT
 have hll := hl.len
 refine zV.value0 (zG (P := Tryz.prog) (fn := Tryz.f48) Y Y (by kernel_rfl) Y (fun c hR hfix => ?_)) (fix := fun _ => False) (fun _ h => h) Y Y
 unfold zC6 at hR
 by_cases h1 : zAZ t p = 0
 case neg =>
   rw [zHl h1] at c1
   rw [if_pos h1] at hR
   generalize zAZ t p = e at *
   refine rn0 ?_
   refine zC Y Y Y c1 ?_
   refine rn3 ?_
   rw [decide_eq_true (show ¬ e = 0 from h1)]
   refine rn5 ?_
   exact zI hR Y Y
 obtain ⟨hv, _⟩ := zCd h1
 rw [zGq h1] at c1
 rw [if_neg (fun q => q h1)] at hR
 rw [zE4] at c1
 have hz10 := zJq t p
 have hnl : (zE9 (zAS t p)).length = (zAS t p).length := List.length_map _
 have hnat : ∀ m, m < (zAS t p).length → (zE9 (zAS t p)).getD m 0 = (((zAS t p).getD m 0 : Nat) : Int) := fun m hm => zBB _ _ 0 _ _ hm
 generalize zAS t p = w at *
 rw [hnl] at c1
 generalize zE9 w = Z at *
 generalize zJ t p = I at *
 refine rn0 ?_
 refine zC Y Y Y c1 ?_
 refine rn6 ?_
 refine zE Y (fun h2 => ?_) (fun h2 => ?_)
 · rw [if_pos (by omega)] at hR
   refine rn2 ?_
   exact zI hR Y Y
 rw [if_neg (by omega)] at hR
 repeat (first | refine zD (zH rfl) ?_ | refine zD (zL rfl) ?_ | refine zB ?_ | refine zA ?_ | refine zW ?_ | refine zK rfl ?_ | refine zk ?_ | refine zD (zA6 rfl rfl rfl) ?_)
 refine zA5 10 ⟨27, .strs []⟩ Y Y ?_
 repeat (refine zw ?_)
 refine zi (ι := Nat) (fun i => [(2, .ro (mxC l) 0 l.length), (8, .ro (.ints .i64 Z) 0 w.length), (10, .sl 0 0 i), (28, .ro (mxC l) 0 l.length), (29, .int .i64 (l.length : Nat)), (30, .int .i64 (i : Nat))]) (fun i => [some ⟨27, .strs ((l.take i).map CPlan.odds)⟩])
   (fun i => i ≤ l.length ∧ zEI w none l = zEI w (zJC l i) (l.drop i)) (fun i => l.length - i) 0 ⟨⟨rfl, rfl, rfl, rfl, rfl, rfl, trivial⟩, rfl, Nat.zero_le _, rfl⟩ ?_
 rintro i ⟨hi, hE⟩
 refine rn4 ?_
 refine zE Y (fun h3 => ?_) (fun h3 => ?_)
 · have hi' : i < l.length := by omega
   have hch := hl.ch _ (zAP cp0 hi')
   have hod := hl.od _ (zAP cp0 hi')
   have htk : (l.take (i + 1)).map CPlan.odds = (l.take i).map CPlan.odds ++ [(l.getD i cp0).odds] := by rw [List.take_succ_eq_append_getElem hi', List.map_append, ← zAC cp0 hi']; rfl
   have hml : ((l.take i).map CPlan.odds).length = i := by rw [List.length_map, List.length_take]; omega
   rw [zQp hi'] at hE
   generalize (l.take i).map CPlan.odds = O at *
   refine rn6 ?_
   refine zN 34 (.agg (zDN (l.getD i cp0))) Y (AEq.of_eq Y) ?_
   generalize hcc : l.getD i cp0 = a at *
   obtain ⟨cs, od⟩ := a
   simp only at *
   refine zP (c' := .box [.ro (.ints .i64 cs) 0 cs.length, .str od]) Y Y Y Y Y Nat.zero_lt_one Y Y (fun i' j' hi' hj' => ?_) ?_
   · rw [if_pos (Nat.lt_one_iff.1 hi')]; rfl
   refine rn5 ?_
   refine zE Y (fun h4 => ?_) (fun h4 => ?_)
   · rw [zNf (by omega), if_pos (by decide)] at hE
     rw [hE] at hR
     refine rn6 ?_
     exact zI hR Y Y
   have hcl : cs.length = w.length := by omega
   refine rn5 ?_
   refine zBb [some ⟨27, .strs O⟩, some ⟨75, .box [.ro (.ints .i64 cs) 0 cs.length, .str od]⟩] Y ?_
   refine zi (ι := Nat) (fun m => [(2, .ro (mxC l) 0 l.length), (8, .ro (.ints .i64 Z) 0 w.length), (10, .sl 0 0 i), (11, .int .i64 (i : Nat)), (12, .ptr 1 0 0), (28, .ro (mxC l) 0 l.length), (29, .int .i64 (l.length : Nat)), (30, .int .i64 (i : Nat)), (42, .ro (.ints .i64 cs) 0 cs.length), (43, .int .i64 (cs.length : Nat)), (44, .int .i64 (m : Nat))]) (fun _ => [some ⟨27, .strs O⟩, some ⟨75, .box [.ro (.ints .i64 cs) 0 cs.length, .str od]⟩])
     (fun m => m ≤ cs.length ∧ inW w cs = inW (w.drop m) (cs.drop m)) (fun m => cs.length - m) 0 ⟨⟨rfl, rfl, rfl, rfl, rfl, rfl, rfl, rfl, rfl, rfl, rfl, trivial⟩, rfl, Nat.zero_le _, rfl⟩ ?_
   rintro m ⟨hm, hW⟩
   refine rn4 ?_
   refine zE Y (fun h5 => ?_) (fun h5 => ?_)
   · have hm' : m < cs.length := by omega
     have hmw : m < w.length := by omega
     have hzm := hnat m hmw
     rw [inW_step hmw hm'] at hW
     have hmz : m < Z.length := by omega
     refine rn6 ?_
     generalize cs.getD m 0 = x at *
     by_cases hx0 : x < 0
     · rw [decide_eq_true hx0]
       rw [decide_eq_false (show ¬ (0 ≤ x ∧ x < _) by omega), Bool.false_and] at hW
       rw [zKl hcl hW, if_pos (by decide)] at hE
       rw [hE] at hR
       refine rn6 ?_
       exact zI hR Y Y
     rw [decide_eq_false hx0]
     repeat (first | refine zD (zH rfl) ?_ | refine zD (zAn rfl rfl rfl) ?_ | refine zB ?_ | refine zA ?_ | refine zAI rfl rfl ?_ | refine zD (zCr rfl rfl) ?_ | refine zD (zAg rfl rfl) ?_ | refine zD (zf rfl rfl rfl rfl (by first | (simp only [Nat.zero_add, Int.toNat_natCast, Int.toNat_zero]; exact rfl) | exact rfl) (by omega)) ?_)
     refine zE Y (fun h6 => ?_) (fun h6 => ?_)
     · rw [decide_eq_false (show ¬ (0 ≤ x ∧ x < _) by omega), Bool.false_and] at hW
       rw [zKl hcl hW, if_pos (by decide)] at hE
       rw [hE] at hR
       refine rn6 ?_
       exact zI hR Y Y
     rw [decide_eq_true (show 0 ≤ x ∧ x < ((w.getD m 0 : Nat) : Int) by omega), Bool.true_and] at hW
     refine rn5 ?_
     exact zM ⟨m + 1, ⟨by omega, hW⟩, by omega, ⟨Y, Y, Y, Y, Y, Y, Y, Y, Y, Y, Y, trivial⟩, Y⟩
   · have hme : m = cs.length := by omega
     subst hme
     have hW : inW w cs = true := by
       rw [hW, List.drop_length]
       cases w.drop cs.length <;> rfl
     rw [zRE hcl hW] at hE
     refine rn5 ?_
     rcases Nat.eq_zero_or_pos i with hi0 | hi0
     · subst hi0
       have hp0 : prevE (zJC l 0) cs = 0 := rfl
       rw [hp0, if_neg (fun q => q rfl)] at hE
       refine zl (by kernel_rfl) ?_
       refine zt (fuel := 0) [0, 1, 2, 3, 4, 5, 6, 7, 8, 9, 10, 11, 12, 13] [(2, .ro (mxC l) 0 l.length), (8, .ro (.ints .i64 Z) 0 w.length), (10, .sl 0 0 0), (11, .int .i64 (0 : Nat)), (12, .ptr 1 0 0), (28, .ro (mxC l) 0 l.length), (29, .int .i64 (l.length : Nat)), (30, .int .i64 (0 : Nat))] ⟨Y, Y, Y, Y, Y, Y, Y, Y, trivial⟩ (by kernel_rfl) (by decide) Y Y ?_
       refine zU Y Y (zH Y) ?_
       refine zU Y Y (zIT Y Y) ?_
       refine zU Y Y (zH Y) ?_
       refine zCe Y Y Y Y Y ?_
       refine zCe Y Y Y Y Y ?_
       refine zCe Y Y Y Y Y ?_
       refine zCe Y Y Y Y Y ?_
       refine zCe Y Y Y Y Y ?_
       refine zCe Y Y Y Y Y ?_
       refine zCe Y Y Y Y Y ?_
       refine zCe Y Y Y Y Y ?_
       refine zCe Y Y Y Y Y ?_
       refine zCe Y Y Y Y Y ?_
       refine zU Y Y (zAg Y Y) ?_
       refine zAc ?_
       refine zh (by kernel_rfl) ?_
       refine rn5 ?_
       refine zr Y Y Y Y Y Y Y Y Y hml Y Y (by show 0 + 1 ≤ 1; omega) Y (by show (0 + 1) * 16 ≤ _ ∧ _; omega) (fun i j _ _ => rfl) (by rw [hfix]; exact fun h => h) ?_
       repeat (first | refine zD (zL rfl) ?_ | refine zB ?_ | refine zd ?_)
       refine zA ?_
       refine zAb [some ⟨27, .strs (O ++ [od])⟩] [some ⟨75, .box [.ro (.ints .i64 cs) 0 cs.length, .str od]⟩] [(2, .ro (mxC l) 0 l.length), (8, .ro (.ints .i64 Z) 0 w.length), (10, .sl 0 0 (0 + 1)), (28, .ro (mxC l) 0 l.length), (29, .int .i64 (l.length : Nat)), (30, .int .i64 (0 : Nat))] Y ⟨Y, Y, Y, Y, Y, Y, trivial⟩ (fun h hh => by rw [hfix] at hh; exact absurd hh id) (zBs (zJM _ _)) Y ?_
       refine rn3 ?_
       exact zM ⟨0 + 1, ⟨by omega, hE⟩, by omega, ⟨Y, Y, Y, Y, Y, Y, trivial⟩, by rw [htk]⟩
     obtain ⟨k, rfl⟩ : ∃ k, i = k + 1 := ⟨i - 1, by omega⟩
     have hkl : k < l.length := by omega
     have hpk : prevE (zJC l (k + 1)) cs = if zEL (l.getD k cp0).choices cs < 0 then 0 else 7 := rfl
     have hch0 := hl.ch _ (zAP cp0 hkl)
     have cc := zO4 (l.getD k cp0).choices cs hch0 hch
     rw [hpk] at hE
     refine zl (by kernel_rfl) ?_
     refine zt (fuel := 0) [0, 1, 2, 3, 4, 5, 6, 7, 8, 9, 10, 11, 12, 13] [(2, .ro (mxC l) 0 l.length), (8, .ro (.ints .i64 Z) 0 w.length), (10, .sl 0 0 (k + 1)), (11, .int .i64 ((k + 1 : Nat) : Int)), (12, .ptr 1 0 0), (28, .ro (mxC l) 0 l.length), (29, .int .i64 (l.length : Nat)), (30, .int .i64 ((k + 1 : Nat) : Int))] ⟨Y, Y, Y, Y, Y, Y, Y, Y, trivial⟩ (by kernel_rfl) (by decide) Y Y ?_
     refine zU Y Y (zH Y) ?_
     refine zU Y Y (zIT Y Y) ?_
     rw [decide_eq_true (show ((0 : Int)) < ((k + 1 : Nat) : Int) by omega)]
     refine zU Y Y (zH Y) ?_
     refine zD7 Y Y Y Y (zH Y) ?_
     refine zD7 Y Y Y Y (zH Y) ?_
     refine zD7 Y Y Y Y (q_pred Y Y (by omega)) ?_
     refine zD7 Y Y Y Y (zf Y Y Y Y (by first | (simp only [Nat.zero_add, Int.toNat_natCast, Int.toNat_zero]; exact Y) | exact Y) (by omega)) ?_
     refine zD7 Y Y Y Y (zAu Y Y Y Y Y Y) ?_
     refine zD7 Y Y Y Y (zBl Y Y Y Y) ?_
     refine zD7 Y Y Y Y (zO Y Y Y Y Y Y) ?_
     refine zD7 Y Y Y Y (zS Y Y Y Y Y) ?_
     refine px_gv Y Y Y Y Y Y Y cc ?_
     refine zD7 Y Y Y Y (zCr Y Y) ?_
     refine zU Y Y (zAg Y Y) ?_
     refine zAc ?_
     refine zh (by kernel_rfl) ?_
     repeat (refine zA ?_)
     refine zE Y (fun h7 => ?_) (fun h7 => ?_)
     · rw [show (if zEL (l.getD k cp0).choices cs < 0 then (0 : Int) else 7) = 7 from if_neg (by omega), if_pos (by decide)] at hE
       rw [hE] at hR
       refine rn6 ?_
       exact zI hR Y Y
     rw [show (if zEL (l.getD k cp0).choices cs < 0 then (0 : Int) else 7) = 0 from if_pos (by omega), if_neg (by decide)] at hE
     refine rn5 ?_
     refine zr Y Y Y Y Y Y Y Y Y hml Y Y (by show 0 + 1 ≤ 1; omega) Y (by show ((k + 1) + 1) * 16 ≤ _ ∧ _; omega) (fun i j _ _ => rfl) (by rw [hfix]; exact fun h => h) ?_
     repeat (first | refine zD (zL rfl) ?_ | refine zB ?_ | refine zd ?_)
     refine zA ?_
     refine zAb [some ⟨27, .strs (O ++ [od])⟩] [some ⟨75, .box [.ro (.ints .i64 cs) 0 cs.length, .str od]⟩] [(2, .ro (mxC l) 0 l.length), (8, .ro (.ints .i64 Z) 0 w.length), (10, .sl 0 0 ((k + 1) + 1)), (28, .ro (mxC l) 0 l.length), (29, .int .i64 (l.length : Nat)), (30, .int .i64 ((k + 1) : Nat))] Y ⟨Y, Y, Y, Y, Y, Y, trivial⟩ (fun h hh => by rw [hfix] at hh; exact absurd hh id) (zBs (zJM _ _)) Y ?_
     refine rn3 ?_
     exact zM ⟨(k + 1) + 1, ⟨by omega, hE⟩, by omega, ⟨Y, Y, Y, Y, Y, Y, trivial⟩, by rw [htk]⟩
 · have hie : i = l.length := by omega
   subst hie
   rw [List.drop_length] at hE
   rw [List.take_length]
   have hE : zEI w none l = 0 := hE
   rw [if_neg (fun q => q hE)] at hR
   have hol : (l.map CPlan.odds).length = l.length := List.length_map _
   have co := zMM (l.map CPlan.odds) (by omega) (fun s hs => by
     obtain ⟨a, ha, rfl⟩ := List.mem_map.1 hs
     exact hl.od a ha)
   generalize l.map CPlan.odds = O at *
   repeat (first | refine zA ?_ | refine zW ?_ | refine zAj ?_ | refine zp ?_ | refine zo ?_ | refine zAB ?_)
   refine zAU 0 10 l.length [] Y zDP Y (by show _ ≤ O.length; omega) trivial ?_
   refine z7 10 (.ro (.strs O) 0 O.length) Y (AEq.of_eq (by rw [hol])) ?_
   refine rn0 ?_
   refine zC Y Y Y co ?_
   refine rn0 ?_
   exact zI hR Y Y
end Go.Proofs.YtnkealfaldjipaaGreatDoor
