import Derived.Test.YtnkealfaldjipaaGreatDoorY4
set_option linter.unusedVariables false
set_option linter.unusedSimpArgs false
namespace Go.Proofs.YtnkealfaldjipaaGreatDoor
open Go.Ax Go.Ax.Bg Go.Ax.Rt Go.RowKit Go.Ax.Idx Go.Ax.Cd
attribute [local irreducible] Ax zBG QOp zV zA0
set_option maxRecDepth 100000
set_option maxHeartbeats 4000000
def zFE (s : RSeq) : List AV := [.int .i64 s.info, .int .i64 s.choice, .int .i64 s.before]
abbrev zBa (l : List RSeq) : Cells := zC3 seq0 3 zFE l
theorem zMY (s : RSeq) (j h : Nat) (hj : j < 3) : ((zFE s).getD j .any).forget h = (zFE s).getD j .any := by
 match j, hj with
 | 0, _ => rfl
 | 1, _ => rfl
 | 2, _ => rfl
theorem zMN (s : RSeq) (j : Nat) : noRef ((zFE s).getD j .any) = true := by
 match j with
 | 0 => rfl
 | 1 => rfl
 | 2 => rfl
 | _ + 3 => rfl
theorem zH2 (l : List RSeq) : zAC (zBa l) := by
 intro i j _ hj
 exact zMN _ j
theorem rowS3 (s : RSeq) (j : Nat) (hj : j < 3) : (zEG 1 3 [.int .i64 s.info, .int .i64 s.choice, .int .i64 s.before]).at 0 j = (zFE s).getD j .any := by
 match j, hj with
 | 0, _ => rfl
 | 1, _ => rfl
 | 2, _ => rfl
abbrev formB (n N : Nat) : Cells := .box [.sl 0 0 n, .sl 1 0 N]
abbrev zCy (N : Nat) (f : RForm) (L : zZ) : zZ := some ⟨174, zBa f.seqs⟩ :: some ⟨3, .ints .i64 f.pos⟩ :: some ⟨169, formB f.seqs.length N⟩ :: some ⟨123, zHN f.first⟩ :: L
theorem add_len (p : Int) (n : TNode) (i : Nat) (f : RForm) : f.seqs.length ≤ (zAY p n i f).seqs.length := by
 unfold zAY
 split
 · show _ ≤ (_ ++ _ : List RSeq).length
   rw [List.length_append]; omega
 · exact Nat.le_refl _
theorem zLk (t : zQ) (p : Int) (i : Nat) : ∀ e, (zAN t p i).seqs.length ≤ (zAN t p (i + e)).seqs.length
 | 0 => Nat.le_refl _
 | e + 1 => by
   rw [← Nat.add_assoc, zAN, zJW]
   exact Nat.le_trans (zLk t p i e) (add_len _ _ _ _)
theorem zND {t : zQ} (hv : Valid t) (p : Int) {i : Nat} (hi : i ≤ t.length) : (zAN t p i).seqs.length ≤ 61 := by
 have h1 := zLk t p i (t.length - i)
 rw [show i + (t.length - i) = t.length by omega] at h1
 exact Nat.le_trans h1 (zH5 hv p)
theorem zOR (l : List RSeq) (n : Nat) : zA2 n (zBa l) := by
 intro i j _ hj
 have hj : j < 3 := hj
 match j, hj with
 | 0, _ => rfl
 | 1, _ => rfl
 | 2, _ => rfl
theorem zHV (N : Nat) (f : RForm) : ∀ (h : Nat) (o : AObj), (zCy N f [])[h]? = some (some o) → zA2 4 o.c := by
 intro h o ho
 match h, ho with
 | 0, ho => cases ho; exact zOR _ _
 | 1, ho => cases ho; exact zDC _ _ _
 | 2, ho =>
   cases ho
   intro i j _ hj
   have hj : j < 2 := hj
   match j, hj with
   | 0, _ => rfl
   | 1, _ => rfl
 | 3, ho => cases ho; exact zFV _ _
 | _ + 4, ho => simp at ho
theorem add_yes {p : Int} {n : TNode} {i : Nat} {f : RForm} (h1 : own p n = true) (h2 : zBb f.first n.info = none) : zAY p n i f = ⟨f.seqs ++ zB9 n (f.pos.getD i 0), f.pos, f.first ++ [(n.info, f.seqs.length)]⟩ := by unfold zAY; rw [if_pos ⟨h1, h2⟩]
theorem add_old {p : Int} {n : TNode} {i : Nat} {f : RForm} {s : Nat} (h2 : zBb f.first n.info = some s) : zAY p n i f = f := by unfold zAY; rw [if_neg (by rintro ⟨_, q⟩; rw [h2] at q; cases q)]
theorem add_not {p : Int} {n : TNode} {i : Nat} {f : RForm} (h1 : own p n = false) : zAY p n i f = f := by unfold zAY; rw [if_neg (by rintro ⟨q, _⟩; rw [h1] at q; cases q)]
theorem zGx {α : Type} {h : Nat} {f : α → AV} (hf : ∀ x, (f x).forget h = f x) : ∀ l : List α, AV.forgets h (l.map f) = l.map f
 | [] => rfl
 | a :: r => by
   show (f a).forget h :: AV.forgets h (r.map f) = f a :: r.map f
   rw [hf a, zGx hf r]
theorem zPH (F : List (Int × Nat)) (h : Nat) : CEq ((zHN F).forget h) (zHN F) := by
 have e : (zHN F).forget h = zHN F := by
   show Cells.mp (AV.forgets h _) (AV.forgets h _) = _
   rw [zGx (fun _ => rfl), zGx (fun _ => rfl)]
 rw [e]; exact CEq.refl _
def zIo (n : TNode) (b : Int) (k : Nat) : List RSeq := (List.range k).map (fun k : Nat => ⟨n.info, (k : Int), b⟩)
theorem zRd (n : TNode) (b : Int) (k : Nat) : zIo n b (k + 1) = zIo n b k ++ [⟨n.info, (k : Int), b⟩] := by
 unfold zIo; rw [List.range_succ, List.map_append]; rfl
theorem form_new (N : Nat) (f : RForm) (nf : Int) (n : TNode) (b : Int) (L : zZ) : zCy N ⟨f.seqs ++ zIo n b 0, f.pos, f.first ++ [(nf, f.seqs.length)]⟩ L = some ⟨174, zBa f.seqs⟩ :: some ⟨3, .ints .i64 f.pos⟩ :: some ⟨169, formB f.seqs.length N⟩ :: some ⟨123, .mp (f.first.map (fun x => .int .i64 x.1) ++ [.int .i64 nf]) (f.first.map (fun x => .int .i64 (x.2 : Nat)) ++ [.int .i64 (f.seqs.length : Nat)])⟩ :: L := by
 have e : f.seqs ++ zIo n b 0 = f.seqs := List.append_nil _
 simp only [zCy, e, zHN, List.map_append, List.map_cons, List.map_nil]
theorem newK_len (n : TNode) (b : Int) (k : Nat) : (zIo n b k).length = k := by simp [zIo]
theorem of_ok (t : zQ) (p : Int) (hT : ShortT t) (hv : Valid t) : zV Tryz.prog 106 [.ro (zc t) 0 t.length, .int .i64 p] [] (fun _ => False) (fun r H' => r = .ptr 2 0 0 ∧ H' = zCy t.length (zAN t p t.length) []) := by
 have hlen := hT.len
 have h120 := hv.le
 have hN0 := hv.ne
 refine zG (P := Tryz.prog) (fn := Tryz.f106) Y Y (by kernel_rfl) Y (fun c hR hfix => ?_)
 repeat (first | refine zD (zL rfl) ?_ | refine zC ?_ | refine zA ?_ | refine zX ?_ | refine zK rfl ?_ | refine zD (zAU rfl rfl rfl rfl rfl rfl) ?_)
 refine zDs Y Y Y Y Y Y Y Y Y Y ?_
 refine rn3 ?_
 refine zCB Y Y Y Y Y Y Y Y (by show 0 ≤ _ ∧ _ ≤ _ ∧ (8 : Int) * _ ≤ _ ∧ _; omega) ?_
 repeat (first | refine zD (zL rfl) ?_ | refine zC ?_ | refine zA ?_ | refine zX ?_ | refine zK rfl ?_ | refine zD (zAU rfl rfl rfl rfl rfl rfl) ?_ | refine zFP rfl rfl ?_)
 refine zEg ?_
 refine zAs (zCy t.length (zAN t p 0) []) ?_ ?_
 · refine zAB.eqv ⟨Y, Y, fun i j hi hj => ?_⟩ (zAB.eqv (CEq.refl _) (zAB.eqv (CEq.refl _) (zAB.eqv (CEq.refl _) zAB.nil)))
   have hj : j < 3 := hj
   obtain rfl := Nat.lt_one_iff.1 (show i < 1 from hi)
   match j, hj with
   | 0, _ => rfl
   | 1, _ => rfl
   | 2, _ => rfl
 refine rn3 ?_
 refine zi (ι := Nat) (fun i => [(0, .ro (zc t) 0 t.length), (1, .int .i64 p), (5, .ptr 2 0 0), (6, .mp 3), (23, .ro (zc t) 0 t.length), (24, .int .i64 (t.length : Nat)), (25, .int .i64 (i : Nat))]) (fun i => zCy t.length (zAN t p i) [])
   (fun i => i ≤ t.length) (fun i => t.length - i) 0 ⟨⟨rfl, rfl, rfl, rfl, rfl, rfl, rfl, trivial⟩, rfl, Nat.zero_le _⟩ ?_
 intro i hi
 refine rn4 ?_
 refine zE Y (fun h => ?_) (fun h => ?_)
 · have hi' : i < t.length := by omega
   have hsn := hT.node _ (zBM node0 hi')
   have hbh := hv.behind hi'
   have hwf := hv.few hi'
   have hRI := RI.all_n hv p i hi
   obtain ⟨_, _, _, _, _, _, _, a8, _, a10⟩ := RI.add hv hRI hi' hRI hRI.s0.1
   have hfl := zND hv p hi
   have hgf := zND hv p (show i + 1 ≤ t.length by omega)
   have hfl2 := zEu t p i
   have hnx : zAN t p (i + 1) = ⟨(zAY p (t.getD i node0) i (zAN t p i)).seqs, zAy (zHR p (t.getD i node0) i (zAY p (t.getD i node0) i (zAN t p i))) (t.getD i node0).next 0 (zAY p (t.getD i node0) i (zAN t p i)).pos, (zAY p (t.getD i node0) i (zAN t p i)).first⟩ := by rw [zAN, zJW, zIU]
   have hgl : (zAY p (t.getD i node0) i (zAN t p i)).pos.length = t.length := by rw [zG0]; exact hfl2
   rw [hnx] at hgf
   simp only at hgf
   obtain ⟨s1, s2, s3, s4⟩ := hsn
   refine rn6 ?_
   refine zN 29 (.agg (zBs (t.getD i node0))) Y (AEq.of_eq Y) ?_
   generalize t.getD i node0 = n at *
   generalize zAN t p i = f at *
   obtain ⟨kd, pl, nf, nx, od, py⟩ := n
   simp only at *
   refine zO (c' := .box [.int .i64 kd, .int .i64 pl, .int .i64 nf, .ro (.ints .i64 nx) 0 nx.length, .ro (.strs od) 0 od.length, .str py]) Y Y Y Y Y Nat.zero_lt_one Y Y (fun i' j' hi' hj' => ?_) ?_
   · rw [if_pos (Nat.lt_one_iff.1 hi')]; rfl
   refine zAd (zCy t.length f [some ⟨40, .box [.int .i64 kd, .int .i64 pl, .int .i64 nf, .ro (.ints .i64 nx) 0 nx.length, .ro (.strs od) 0 od.length, .str py]⟩]) Y ?_
   refine zN 8 (.ptr 4 0 0) Y (AEq.of_eq Y) ?_
   have hown : own p ⟨kd, pl, nf, nx, od, py⟩ = (decide (kd = 2) && decide (pl = p)) := rfl
   generalize hv' : zHR p ⟨kd, pl, nf, nx, od, py⟩ i (zAY p ⟨kd, pl, nf, nx, od, py⟩ i f) = v at *
   have hvv : ∀ k, v k = if own p ⟨kd, pl, nf, nx, od, py⟩ = true then (((zBb (zAY p ⟨kd, pl, nf, nx, od, py⟩ i f).first nf).getD 0 : Nat) : Int) + (k : Int) else (zAY p ⟨kd, pl, nf, nx, od, py⟩ i f).pos.getD i 0 := fun k => by rw [← hv']; rfl
   have hay := @add_yes p ⟨kd, pl, nf, nx, od, py⟩ i f
   have hao := @add_old p ⟨kd, pl, nf, nx, od, py⟩ i f
   have han := @add_not p ⟨kd, pl, nf, nx, od, py⟩ i f
   generalize hb : own p ⟨kd, pl, nf, nx, od, py⟩ = b at *
   apply zAu (H := zCy t.length f [some ⟨40, .box [.int .i64 kd, .int .i64 pl, .int .i64 nf, .ro (.ints .i64 nx) 0 nx.length, .ro (.strs od) 0 od.length, .str py]⟩]) [(0, .ro (zc t) 0 t.length), (1, .int .i64 p), (5, .ptr 2 0 0), (6, .mp 3), (7, .int .i64 (i : Nat)), (8, .ptr 4 0 0), (9, .bool b), (23, .ro (zc t) 0 t.length), (24, .int .i64 (t.length : Nat)), (25, .int .i64 (i : Nat))]
   · intro fin
     refine rn5 ?_
     refine zAF Y Y (fun g1 => ?_) (fun g1 => ?_)
     · repeat (first | refine zD (zH rfl) ?_ | refine zD (zL rfl) ?_ | refine zC ?_ | refine zAL rfl rfl ?_ | refine zD (zT rfl rfl rfl rfl rfl) ?_ | refine zD (zEf rfl rfl) ?_ | refine zD (zAg rfl rfl) ?_ | refine zD (zP rfl rfl rfl rfl rfl rfl) ?_)
       refine zA ?_
       refine z7 9 (.bool b) Y (AEq.of_eq (by rw [hown, decide_eq_true g1, Bool.true_and])) ?_
       exact fin _ ⟨Y, Y, Y, Y, Y, Y, Y, Y, Y, Y, trivial⟩
     · repeat (first | refine zD (zL rfl) ?_ | refine zC ?_ | refine zAn rfl rfl rfl ?_ | refine zD (zAg rfl rfl) ?_)
       refine zA ?_
       refine z7 9 (.bool b) Y (AEq.of_eq (by rw [hown, decide_eq_false g1, Bool.false_and])) ?_
       exact fin _ ⟨Y, Y, Y, Y, Y, Y, Y, Y, Y, Y, trivial⟩
   cases b
   · have hg := han rfl
     generalize zAY p ⟨kd, pl, nf, nx, od, py⟩ i f = g at *
     subst hg
     simp only [Bool.false_eq_true, if_false] at hvv
     refine rn5 ?_
     refine zi (ι := Nat) (fun k => [(0, .ro (zc t) 0 t.length), (1, .int .i64 p), (5, .ptr 2 0 0), (6, .mp 3), (7, .int .i64 (i : Nat)), (8, .ptr 4 0 0), (9, .bool false), (23, .ro (zc t) 0 t.length), (24, .int .i64 (t.length : Nat)), (25, .int .i64 (i : Nat)), (85, .ro (.ints .i64 nx) 0 nx.length), (86, .int .i64 (nx.length : Nat)), (87, .int .i64 (k : Nat))]) (fun k => zCy t.length ⟨g.seqs, zAy v (nx.take k) 0 g.pos, g.first⟩ [some ⟨40, .box [.int .i64 kd, .int .i64 pl, .int .i64 nf, .ro (.ints .i64 nx) 0 nx.length, .ro (.strs od) 0 od.length, .str py]⟩])
       (fun k => k ≤ nx.length) (fun k => nx.length - k) 0 ⟨⟨rfl, rfl, rfl, rfl, rfl, rfl, rfl, rfl, rfl, rfl, rfl, rfl, rfl, trivial⟩, rfl, Nat.zero_le _⟩ ?_
     intro k hk
     refine rn4 ?_
     refine zE Y (fun h5 => ?_) (fun h5 => ?_)
     · have hk' : k < nx.length := by omega
       obtain ⟨b1, b2⟩ := hbh _ (zAQ 0 hk')
       have hAl : (zAy v (nx.take k) 0 g.pos).length = t.length := by rw [zDQ]; exact hgl
       have hAi : (zAy v (nx.take k) 0 g.pos).getD i 0 = g.pos.getD i 0 := zBt v 0 _ _ _ (fun c hc => by have := hbh c (List.mem_of_mem_take hc); omega)
       have hst : zAy v (nx.take (k + 1)) 0 g.pos = (zAy v (nx.take k) 0 g.pos).set (nx.getD k 0).toNat (v k) := by
         rw [zDD hk', zDh, List.length_take, Nat.min_eq_left hk, Nat.zero_add]
       have hvk := hvv k
       generalize hA2 : zAy v (nx.take (k + 1)) 0 g.pos = A2 at *
       generalize zAy v (nx.take k) 0 g.pos = A at *
       obtain ⟨x, hx⟩ := Int.eq_ofNat_of_zero_le (show 0 ≤ nx.getD k 0 by omega)
       have hxn : (nx.getD k 0).toNat = x := by rw [hx, Int.toNat_natCast]
       rw [hx] at b1 b2
       rw [hxn] at hst
       have hxl : x < A.length := by omega
       have hil : i < A.length := by omega
       have hxl2 : x < (A.set x (A.getD i 0)).length := by rw [List.length_set]; exact hxl
       refine rn6 ?_
       refine z7 14 (.int .i64 (x : Nat)) Y (AEq.of_eq (by rw [hx])) ?_
       refine zk (by kernel_rfl) ?_
       refine zt (fuel := 1) [0, 1, 2, 3, 4, 5, 6, 7, 8, 9, 10, 11, 12] [(0, .ro (zc t) 0 t.length), (1, .int .i64 p), (5, .ptr 2 0 0), (6, .mp 3), (7, .int .i64 (i : Nat)), (8, .ptr 4 0 0), (9, .bool false), (23, .ro (zc t) 0 t.length), (24, .int .i64 (t.length : Nat)), (25, .int .i64 (i : Nat)), (85, .ro (.ints .i64 nx) 0 nx.length), (86, .int .i64 (nx.length : Nat)), (87, .int .i64 (k : Nat)), (13, .int .i64 (k : Nat)), (14, .int .i64 (x : Nat))] ⟨Y, Y, Y, Y, Y, Y, Y, Y, Y, Y, Y, Y, Y, Y, Y, trivial⟩ (by kernel_rfl) (by decide) Y Y ?_
       refine zU Y Y (zH Y) ?_
       refine zU Y Y (zAl Y) ?_
       refine zU Y Y (zP Y Y Y Y Y Y) ?_
       refine zU Y Y (zT Y Y Y Y Y) ?_
       refine zU Y Y (zH Y) ?_
       refine zU Y Y (zH Y) ?_
       refine zU Y Y (zAl Y) ?_
       refine zU Y Y (zP Y Y Y Y Y Y) ?_
       refine zU Y Y (zT Y Y Y Y Y) ?_
       refine zU Y Y (zH Y) ?_
       refine zU Y Y (zd Y Y Y Y Y (by first | (simp only [Nat.zero_add, Int.toNat_natCast, Int.toNat_zero]; exact Y) | exact Y) (by omega)) ?_
       refine zU Y Y (zAT Y Y Y Y (by first | assumption | omega)) ?_
       refine zU Y Y (zd Y Y Y Y Y (by first | (simp only [Nat.zero_add, Int.toNat_natCast, Int.toNat_zero]; exact Y) | exact Y) (by omega)) ?_
       refine zAZ ?_
       refine zF (is := [13]) (by kernel_rfl) (by simp) Y ⟨fun o ho => ?_, trivial⟩
       all_goals (cases ho)
       repeat (first | refine zC ?_ | refine zo ?_ | refine zAp rfl rfl rfl rfl rfl rfl rfl (by first | assumption | (show _ < List.length _; first | assumption | omega)) ?_)
       refine zh (by kernel_rfl) ?_
       refine rn5 ?_
       exact zM ⟨k + 1, by omega, by omega, ⟨Y, Y, Y, Y, Y, Y, Y, Y, Y, Y, Y, Y, Y, trivial⟩, by rw [hA2, hst, hvk, ← hAi]; rfl⟩
     · have hke : k = nx.length := by omega
       subst hke
       rw [List.take_length]
       repeat (first | refine zf ?_ | refine zAm ?_ | refine zr ?_ | refine zq ?_ | refine zAD ?_)
       refine zA ?_
       refine zAa (zCy t.length ⟨g.seqs, zAy v nx 0 g.pos, g.first⟩ []) [some ⟨40, .box [.int .i64 kd, .int .i64 pl, .int .i64 nf, .ro (.ints .i64 nx) 0 nx.length, .ro (.strs od) 0 od.length, .str py]⟩] [(0, .ro (zc t) 0 t.length), (1, .int .i64 p), (5, .ptr 2 0 0), (6, .mp 3), (23, .ro (zc t) 0 t.length), (24, .int .i64 (t.length : Nat)), (25, .int .i64 (i : Nat))] Y ⟨Y, Y, Y, Y, Y, Y, Y, trivial⟩ (fun h hh => by rw [hfix] at hh; exact absurd hh id) (zHV _ _) Y ?_
       refine rn3 ?_
       exact zM ⟨i + 1, by omega, by omega, ⟨Y, Y, Y, Y, Y, Y, Y, trivial⟩, by rw [hnx]⟩
   · obtain ⟨s, hs⟩ := a10 rfl
     obtain ⟨jj, i1, i2⟩ := zDb hs
     have hsl := (a8 _ (zCP hs)).2.1
     simp only at hsl
     simp only [if_true] at hvv
     rw [hs] at hvv
     simp only [Option.getD_some] at hvv
     refine rn5 ?_
     cases hL : zBb f.first nf with
     | some s0 =>
       have hg := hao hL
       refine zD (zBk Y (.int Y) Y Y Y Y (zI9 f.first) (zDb hL).choose (zDb hL).choose_spec.1 (zDb hL).choose_spec.2) ?_
       generalize zAY p ⟨kd, pl, nf, nx, od, py⟩ i f = g at *
       subst hg
       obtain ⟨jj, i1, i2⟩ := zDb hs
       refine rn5 ?_
       refine zi (ι := Nat) (fun k => [(0, .ro (zc t) 0 t.length), (1, .int .i64 p), (5, .ptr 2 0 0), (6, .mp 3), (7, .int .i64 (i : Nat)), (8, .ptr 4 0 0), (9, .bool true), (23, .ro (zc t) 0 t.length), (24, .int .i64 (t.length : Nat)), (25, .int .i64 (i : Nat)), (85, .ro (.ints .i64 nx) 0 nx.length), (86, .int .i64 (nx.length : Nat)), (87, .int .i64 (k : Nat))]) (fun k => zCy t.length ⟨g.seqs, zAy v (nx.take k) 0 g.pos, g.first⟩ [some ⟨40, .box [.int .i64 kd, .int .i64 pl, .int .i64 nf, .ro (.ints .i64 nx) 0 nx.length, .ro (.strs od) 0 od.length, .str py]⟩])
         (fun k => k ≤ nx.length) (fun k => nx.length - k) 0 ⟨⟨rfl, rfl, rfl, rfl, rfl, rfl, rfl, rfl, rfl, rfl, rfl, rfl, rfl, trivial⟩, rfl, Nat.zero_le _⟩ ?_
       intro k hk
       refine rn4 ?_
       refine zE Y (fun h5 => ?_) (fun h5 => ?_)
       · have hk' : k < nx.length := by omega
         obtain ⟨b1, b2⟩ := hbh _ (zAQ 0 hk')
         have hAl : (zAy v (nx.take k) 0 g.pos).length = t.length := by rw [zDQ]; exact hgl
         have hAi : (zAy v (nx.take k) 0 g.pos).getD i 0 = g.pos.getD i 0 := zBt v 0 _ _ _ (fun c hc => by have := hbh c (List.mem_of_mem_take hc); omega)
         have hst : zAy v (nx.take (k + 1)) 0 g.pos = (zAy v (nx.take k) 0 g.pos).set (nx.getD k 0).toNat (v k) := by
           rw [zDD hk', zDh, List.length_take, Nat.min_eq_left hk, Nat.zero_add]
         have hvk := hvv k
         generalize hA2 : zAy v (nx.take (k + 1)) 0 g.pos = A2 at *
         generalize zAy v (nx.take k) 0 g.pos = A at *
         obtain ⟨x, hx⟩ := Int.eq_ofNat_of_zero_le (show 0 ≤ nx.getD k 0 by omega)
         have hxn : (nx.getD k 0).toNat = x := by rw [hx, Int.toNat_natCast]
         rw [hx] at b1 b2
         rw [hxn] at hst
         have hxl : x < A.length := by omega
         have hil : i < A.length := by omega
         have hxl2 : x < (A.set x (A.getD i 0)).length := by rw [List.length_set]; exact hxl
         refine rn6 ?_
         refine z7 14 (.int .i64 (x : Nat)) Y (AEq.of_eq (by rw [hx])) ?_
         refine zk (by kernel_rfl) ?_
         refine zt (fuel := 1) [0, 1, 2, 3, 4, 5, 6, 7, 8, 9, 10, 11, 12] [(0, .ro (zc t) 0 t.length), (1, .int .i64 p), (5, .ptr 2 0 0), (6, .mp 3), (7, .int .i64 (i : Nat)), (8, .ptr 4 0 0), (9, .bool true), (23, .ro (zc t) 0 t.length), (24, .int .i64 (t.length : Nat)), (25, .int .i64 (i : Nat)), (85, .ro (.ints .i64 nx) 0 nx.length), (86, .int .i64 (nx.length : Nat)), (87, .int .i64 (k : Nat)), (13, .int .i64 (k : Nat)), (14, .int .i64 (x : Nat))] ⟨Y, Y, Y, Y, Y, Y, Y, Y, Y, Y, Y, Y, Y, Y, Y, trivial⟩ (by kernel_rfl) (by decide) Y Y ?_
         refine zU Y Y (zH Y) ?_
         refine zU Y Y (zAl Y) ?_
         refine zU Y Y (zP Y Y Y Y Y Y) ?_
         refine zU Y Y (zT Y Y Y Y Y) ?_
         refine zU Y Y (zH Y) ?_
         refine zU Y Y (zH Y) ?_
         refine zU Y Y (zAl Y) ?_
         refine zU Y Y (zP Y Y Y Y Y Y) ?_
         refine zU Y Y (zT Y Y Y Y Y) ?_
         refine zU Y Y (zH Y) ?_
         refine zU Y Y (zd Y Y Y Y Y (by first | (simp only [Nat.zero_add, Int.toNat_natCast, Int.toNat_zero]; exact Y) | exact Y) (by omega)) ?_
         refine zU Y Y (zAT Y Y Y Y (by first | assumption | omega)) ?_
         refine zU Y Y (zd Y Y Y Y Y (by first | (simp only [Nat.zero_add, Int.toNat_natCast, Int.toNat_zero]; exact Y) | exact Y) (by omega)) ?_
         refine zAZ ?_
         refine zF (is := [13]) (by kernel_rfl) (by simp) Y ⟨fun o ho => ?_, trivial⟩
         all_goals (cases ho)
         repeat (first | refine zC ?_ | refine zo ?_ | refine zAp rfl rfl rfl rfl rfl rfl rfl (by first | assumption | (show _ < List.length _; first | assumption | omega)) ?_)
         refine zGt (zCy t.length ⟨g.seqs, A.set x (A.getD i 0), g.first⟩ [some ⟨40, .box [.int .i64 kd, .int .i64 pl, .int .i64 nf, .ro (.ints .i64 nx) 0 nx.length, .ro (.strs od) 0 od.length, .str py]⟩]) (zAB.refl _) ?_
         refine zh (by kernel_rfl) ?_
         refine rn5 ?_
         refine zk (by kernel_rfl) ?_
         refine zt (fuel := 1) [0, 1, 2, 3, 4, 5, 6, 7, 8, 9, 10, 11] [(0, .ro (zc t) 0 t.length), (1, .int .i64 p), (5, .ptr 2 0 0), (6, .mp 3), (7, .int .i64 (i : Nat)), (8, .ptr 4 0 0), (9, .bool true), (23, .ro (zc t) 0 t.length), (24, .int .i64 (t.length : Nat)), (25, .int .i64 (i : Nat)), (85, .ro (.ints .i64 nx) 0 nx.length), (86, .int .i64 (nx.length : Nat)), (87, .int .i64 (k : Nat)), (13, .int .i64 (k : Nat)), (14, .int .i64 (x : Nat))] ⟨Y, Y, Y, Y, Y, Y, Y, Y, Y, Y, Y, Y, Y, Y, Y, trivial⟩ (by kernel_rfl) (by decide) Y Y ?_
         refine zU Y Y (zH Y) ?_
         refine zU Y Y (zAl Y) ?_
         refine zU Y Y (zP Y Y Y Y Y Y) ?_
         refine zU Y Y (zT Y Y Y Y Y) ?_
         refine zU Y Y (zH Y) ?_
         refine zU Y Y (zH Y) ?_
         refine zU Y Y (zP Y Y Y Y Y Y) ?_
         refine zU Y Y (zT Y Y Y Y Y) ?_
         refine zU Y Y (zBk Y (.int Y) Y Y Y Y (zI9 g.first) jj i1 i2) ?_
         refine zU Y Y (zH Y) ?_
         refine zU Y Y (zDZ Y Y (by omega)) ?_
         refine zU Y Y (zd Y Y Y Y Y (by first | (simp only [Nat.zero_add, Int.toNat_natCast, Int.toNat_zero]; exact Y) | exact Y) (by omega)) ?_
         refine zAZ ?_
         refine zF (is := [12]) (by kernel_rfl) (by simp) Y ⟨fun o ho => ?_, trivial⟩
         all_goals (cases ho)
         repeat (first | refine zC ?_ | refine zo ?_ | refine zAp rfl rfl rfl rfl rfl rfl rfl (by first | assumption | (show _ < List.length _; first | assumption | omega)) ?_)
         refine zh (by kernel_rfl) ?_
         refine rn5 ?_
         exact zM ⟨k + 1, by omega, by omega, ⟨Y, Y, Y, Y, Y, Y, Y, Y, Y, Y, Y, Y, Y, trivial⟩, by rw [hA2, hst, hvk]; exact congrArg (fun l => zCy t.length ⟨g.seqs, l, g.first⟩ [some ⟨40, .box [.int .i64 kd, .int .i64 pl, .int .i64 nf, .ro (.ints .i64 nx) 0 nx.length, .ro (.strs od) 0 od.length, .str py]⟩]) (List.set_set ..)⟩
       · have hke : k = nx.length := by omega
         subst hke
         rw [List.take_length]
         repeat (first | refine zf ?_ | refine zAm ?_ | refine zr ?_ | refine zq ?_ | refine zAD ?_)
         refine zA ?_
         refine zAa (zCy t.length ⟨g.seqs, zAy v nx 0 g.pos, g.first⟩ []) [some ⟨40, .box [.int .i64 kd, .int .i64 pl, .int .i64 nf, .ro (.ints .i64 nx) 0 nx.length, .ro (.strs od) 0 od.length, .str py]⟩] [(0, .ro (zc t) 0 t.length), (1, .int .i64 p), (5, .ptr 2 0 0), (6, .mp 3), (23, .ro (zc t) 0 t.length), (24, .int .i64 (t.length : Nat)), (25, .int .i64 (i : Nat))] Y ⟨Y, Y, Y, Y, Y, Y, Y, trivial⟩ (fun h hh => by rw [hfix] at hh; exact absurd hh id) (zHV _ _) Y ?_
         refine rn3 ?_
         exact zM ⟨i + 1, by omega, by omega, ⟨Y, Y, Y, Y, Y, Y, Y, trivial⟩, by rw [hnx]⟩
     | none =>
       have hg := hay rfl hL
       refine zD (zFF Y (.int Y) Y Y Y Y Y Y Y Y (zI9 f.first) (zG3 hL)) ?_
       generalize zAY p ⟨kd, pl, nf, nx, od, py⟩ i f = g at *
       obtain ⟨jj, i1, i2⟩ := zDb hs
       simp only at hg
       have hgs : g.seqs.length = f.seqs.length + nx.length := by rw [hg]; simp [zB9]
       have hil : i < f.pos.length := by omega
       refine rn5 ?_
       refine zk (by kernel_rfl) ?_
       refine zt (fuel := 1) [0, 1, 2, 3, 4, 5, 6, 7] [(0, .ro (zc t) 0 t.length), (1, .int .i64 p), (5, .ptr 2 0 0), (6, .mp 3), (7, .int .i64 (i : Nat)), (8, .ptr 4 0 0), (9, .bool true), (23, .ro (zc t) 0 t.length), (24, .int .i64 (t.length : Nat)), (25, .int .i64 (i : Nat))] ⟨Y, Y, Y, Y, Y, Y, Y, Y, Y, Y, trivial⟩ (by kernel_rfl) (by decide) Y Y ?_
       refine zU Y Y (zH Y) ?_
       refine zU Y Y (zP Y Y Y Y Y Y) ?_
       refine zU Y Y (zT Y Y Y Y Y) ?_
       refine zU Y Y (zH Y) ?_
       refine zU Y Y (zAl Y) ?_
       refine zU Y Y (zP Y Y Y Y Y Y) ?_
       refine zU Y Y (zT Y Y Y Y Y) ?_
       refine zU Y Y (zA9 Y Y Y) ?_
       refine zAZ ?_
       refine zF (is := [8]) (by kernel_rfl) (by simp) Y ⟨fun o ho => ?_, trivial⟩
       all_goals (cases ho)
       refine zCq Y (.int Y) Y Y Y Y Y (zI9 f.first) (zG3 hL) ?_
       refine rn1 ?_
       refine zh (by kernel_rfl) ?_
       refine rn5 ?_
       refine zi (ι := Nat) (fun k => [(0, .ro (zc t) 0 t.length), (1, .int .i64 p), (5, .ptr 2 0 0), (6, .mp 3), (7, .int .i64 (i : Nat)), (8, .ptr 4 0 0), (9, .bool true), (23, .ro (zc t) 0 t.length), (24, .int .i64 (t.length : Nat)), (25, .int .i64 (i : Nat)), (58, .ro (.ints .i64 nx) 0 nx.length), (59, .int .i64 (nx.length : Nat)), (60, .int .i64 (k : Nat))]) (fun k => zCy t.length ⟨f.seqs ++ zIo ⟨kd, pl, nf, nx, od, py⟩ (f.pos.getD i 0) k, f.pos, f.first ++ [(nf, f.seqs.length)]⟩ [some ⟨40, .box [.int .i64 kd, .int .i64 pl, .int .i64 nf, .ro (.ints .i64 nx) 0 nx.length, .ro (.strs od) 0 od.length, .str py]⟩])
         (fun k => k ≤ nx.length) (fun k => nx.length - k) 0 ⟨⟨rfl, rfl, rfl, rfl, rfl, rfl, rfl, rfl, rfl, rfl, rfl, rfl, rfl, trivial⟩, (form_new t.length f nf ⟨kd, pl, nf, nx, od, py⟩ (f.pos.getD i 0) [some ⟨40, .box [.int .i64 kd, .int .i64 pl, .int .i64 nf, .ro (.ints .i64 nx) 0 nx.length, .ro (.strs od) 0 od.length, .str py]⟩]).symm, Nat.zero_le _⟩ ?_
       intro k hk
       refine rn4 ?_
       refine zE Y (fun h5 => ?_) (fun h5 => ?_)
       · have hk' : k < nx.length := by omega
         have hks := zRd ⟨kd, pl, nf, nx, od, py⟩ (f.pos.getD i 0) k
         have hSl : (f.seqs ++ zIo ⟨kd, pl, nf, nx, od, py⟩ (f.pos.getD i 0) k).length ≤ 61 := by rw [List.length_append, newK_len]; omega
         have hS2 : f.seqs ++ zIo ⟨kd, pl, nf, nx, od, py⟩ (f.pos.getD i 0) (k + 1) = (f.seqs ++ zIo ⟨kd, pl, nf, nx, od, py⟩ (f.pos.getD i 0) k) ++ [(⟨nf, (k : Int), f.pos.getD i 0⟩ : RSeq)] := by rw [hks, List.append_assoc]
         generalize hS2' : f.seqs ++ zIo ⟨kd, pl, nf, nx, od, py⟩ (f.pos.getD i 0) (k + 1) = S2 at *
         generalize f.seqs ++ zIo ⟨kd, pl, nf, nx, od, py⟩ (f.pos.getD i 0) k = S at *
         refine rn1 ?_
         refine zk (by kernel_rfl) ?_
         apply zCo (H := zCy t.length ⟨S, f.pos, f.first ++ [(nf, f.seqs.length)]⟩ [some ⟨40, .box [.int .i64 kd, .int .i64 pl, .int .i64 nf, .ro (.ints .i64 nx) 0 nx.length, .ro (.strs od) 0 od.length, .str py]⟩]) [(0, .ro (zc t) 0 t.length), (1, .int .i64 p), (5, .ptr 2 0 0), (6, .mp 3), (7, .int .i64 (i : Nat)), (8, .ptr 4 0 0), (9, .bool true), (23, .ro (zc t) 0 t.length), (24, .int .i64 (t.length : Nat)), (25, .int .i64 (i : Nat)), (58, .ro (.ints .i64 nx) 0 nx.length), (59, .int .i64 (nx.length : Nat)), (60, .int .i64 (k : Nat)), (12, .int .i64 (k : Nat)), (63, .ptr 2 0 0), (67, .sl 0 0 S.length), (79, .ro (zEG 1 3 [.int .i64 nf, .int .i64 (k : Nat), .int .i64 (f.pos.getD i 0)]) 0 1)]
         · intro fin2
           refine zS 0 Y (by kernel_rfl) (by kernel_rfl) (by kernel_rfl) Y (zH Y) Y ?_
           refine zS 1 Y (by kernel_rfl) (by kernel_rfl) (by kernel_rfl) Y (zH Y) Y ?_
           refine zS 5 Y (by kernel_rfl) (by kernel_rfl) (by kernel_rfl) Y (zP Y Y Y Y Y Y) Y ?_
           refine zS 7 Y (by kernel_rfl) (by kernel_rfl) (by kernel_rfl) Y (zH Y) Y ?_
           refine zS 8 Y (by kernel_rfl) (by kernel_rfl) (by kernel_rfl) Y (zH Y) Y ?_
           refine zS 12 Y (by kernel_rfl) (by kernel_rfl) (by kernel_rfl) Y (zH Y) Y ?_
           refine zS 2 Y (by kernel_rfl) (by kernel_rfl) (by kernel_rfl) Y (zAl Y) Y ?_
           refine zS 9 Y (by kernel_rfl) (by kernel_rfl) (by kernel_rfl) Y (zAl Y) Y ?_
           refine zS 3 Y (by kernel_rfl) (by kernel_rfl) (by kernel_rfl) Y (zP Y Y Y Y Y Y) Y ?_
           refine zS 10 Y (by kernel_rfl) (by kernel_rfl) (by kernel_rfl) Y (zP Y Y Y Y Y Y) Y ?_
           refine zF (is := [4, 6, 11]) (by kernel_rfl) (by simp) Y ⟨fun o ho => ?_, fun o ho => ?_, fun o ho => ?_, trivial⟩
           all_goals (cases ho)
           · refine rn4 ?_
             refine zF (is := [6, 11]) (by kernel_rfl) (by simp) Y ⟨fun o ho => ?_, fun o ho => ?_, trivial⟩
             all_goals (cases ho)
             · refine rn4 ?_
               refine zF (is := [11]) (by kernel_rfl) (by simp) Y ⟨fun o ho => ?_, trivial⟩
               all_goals (cases ho)
               refine rn4 ?_
               refine zS 13 Y (by kernel_rfl) (by kernel_rfl) (by kernel_rfl) Y (zd Y Y Y Y Y (by first | (simp only [Nat.zero_add, Int.toNat_natCast, Int.toNat_zero]; exact Y) | exact Y) (by omega)) Y ?_
               refine zF (is := [14]) (by kernel_rfl) (by simp) Y ⟨fun o ho => ?_, trivial⟩
               all_goals (cases ho)
               repeat (first | refine zC ?_ | refine zo ?_ | refine zD (zAT rfl rfl rfl rfl (by first | assumption | omega)) ?_)
               refine zS 15 Y (by kernel_rfl) (by kernel_rfl) (by kernel_rfl) Y (zAU Y Y Y Y Y Y) Y ?_
               refine zF (is := [16]) (by kernel_rfl) (by simp) Y ⟨fun o ho => ?_, trivial⟩
               all_goals (cases ho)
               refine rn3 ?_
               exact fin2 _ ⟨Y, Y, Y, Y, Y, Y, Y, Y, Y, Y, Y, Y, Y, Y, Y, Y, Y, trivial⟩
             · refine rn4 ?_
               refine zS 13 Y (by kernel_rfl) (by kernel_rfl) (by kernel_rfl) Y (zd Y Y Y Y Y (by first | (simp only [Nat.zero_add, Int.toNat_natCast, Int.toNat_zero]; exact Y) | exact Y) (by omega)) Y ?_
               refine zF (is := [6, 14]) (by kernel_rfl) (by simp) Y ⟨fun o ho => ?_, fun o ho => ?_, trivial⟩
               all_goals (cases ho)
               · refine rn4 ?_
                 refine zF (is := [14]) (by kernel_rfl) (by simp) Y ⟨fun o ho => ?_, trivial⟩
                 all_goals (cases ho)
                 repeat (first | refine zC ?_ | refine zo ?_ | refine zD (zAT rfl rfl rfl rfl (by first | assumption | omega)) ?_)
                 refine zS 15 Y (by kernel_rfl) (by kernel_rfl) (by kernel_rfl) Y (zAU Y Y Y Y Y Y) Y ?_
                 refine zF (is := [16]) (by kernel_rfl) (by simp) Y ⟨fun o ho => ?_, trivial⟩
                 all_goals (cases ho)
                 refine rn3 ?_
                 exact fin2 _ ⟨Y, Y, Y, Y, Y, Y, Y, Y, Y, Y, Y, Y, Y, Y, Y, Y, Y, trivial⟩
               · repeat (first | refine zC ?_ | refine zo ?_ | refine zD (zAT rfl rfl rfl rfl (by first | assumption | omega)) ?_)
                 refine zF (is := [6]) (by kernel_rfl) (by simp) Y ⟨fun o ho => ?_, trivial⟩
                 all_goals (cases ho)
                 refine rn4 ?_
                 refine zS 15 Y (by kernel_rfl) (by kernel_rfl) (by kernel_rfl) Y (zAU Y Y Y Y Y Y) Y ?_
                 refine zF (is := [16]) (by kernel_rfl) (by simp) Y ⟨fun o ho => ?_, trivial⟩
                 all_goals (cases ho)
                 refine rn3 ?_
                 exact fin2 _ ⟨Y, Y, Y, Y, Y, Y, Y, Y, Y, Y, Y, Y, Y, Y, Y, Y, Y, trivial⟩
           · refine rn4 ?_
             refine zF (is := [4, 11]) (by kernel_rfl) (by simp) Y ⟨fun o ho => ?_, fun o ho => ?_, trivial⟩
             all_goals (cases ho)
             · refine rn4 ?_
               refine zF (is := [11]) (by kernel_rfl) (by simp) Y ⟨fun o ho => ?_, trivial⟩
               all_goals (cases ho)
               refine rn4 ?_
               refine zS 13 Y (by kernel_rfl) (by kernel_rfl) (by kernel_rfl) Y (zd Y Y Y Y Y (by first | (simp only [Nat.zero_add, Int.toNat_natCast, Int.toNat_zero]; exact Y) | exact Y) (by omega)) Y ?_
               refine zF (is := [14]) (by kernel_rfl) (by simp) Y ⟨fun o ho => ?_, trivial⟩
               all_goals (cases ho)
               repeat (first | refine zC ?_ | refine zo ?_ | refine zD (zAT rfl rfl rfl rfl (by first | assumption | omega)) ?_)
               refine zS 15 Y (by kernel_rfl) (by kernel_rfl) (by kernel_rfl) Y (zAU Y Y Y Y Y Y) Y ?_
               refine zF (is := [16]) (by kernel_rfl) (by simp) Y ⟨fun o ho => ?_, trivial⟩
               all_goals (cases ho)
               refine rn3 ?_
               exact fin2 _ ⟨Y, Y, Y, Y, Y, Y, Y, Y, Y, Y, Y, Y, Y, Y, Y, Y, Y, trivial⟩
             · refine rn4 ?_
               refine zS 13 Y (by kernel_rfl) (by kernel_rfl) (by kernel_rfl) Y (zd Y Y Y Y Y (by first | (simp only [Nat.zero_add, Int.toNat_natCast, Int.toNat_zero]; exact Y) | exact Y) (by omega)) Y ?_
               refine zF (is := [4, 14]) (by kernel_rfl) (by simp) Y ⟨fun o ho => ?_, fun o ho => ?_, trivial⟩
               all_goals (cases ho)
               · refine rn4 ?_
                 refine zF (is := [14]) (by kernel_rfl) (by simp) Y ⟨fun o ho => ?_, trivial⟩
                 all_goals (cases ho)
                 repeat (first | refine zC ?_ | refine zo ?_ | refine zD (zAT rfl rfl rfl rfl (by first | assumption | omega)) ?_)
                 refine zS 15 Y (by kernel_rfl) (by kernel_rfl) (by kernel_rfl) Y (zAU Y Y Y Y Y Y) Y ?_
                 refine zF (is := [16]) (by kernel_rfl) (by simp) Y ⟨fun o ho => ?_, trivial⟩
                 all_goals (cases ho)
                 refine rn3 ?_
                 exact fin2 _ ⟨Y, Y, Y, Y, Y, Y, Y, Y, Y, Y, Y, Y, Y, Y, Y, Y, Y, trivial⟩
               · repeat (first | refine zC ?_ | refine zo ?_ | refine zD (zAT rfl rfl rfl rfl (by first | assumption | omega)) ?_)
                 refine zS 15 Y (by kernel_rfl) (by kernel_rfl) (by kernel_rfl) Y (zAU Y Y Y Y Y Y) Y ?_
                 refine zF (is := [4, 16]) (by kernel_rfl) (by simp) Y ⟨fun o ho => ?_, fun o ho => ?_, trivial⟩
                 all_goals (cases ho)
                 · refine rn4 ?_
                   refine zF (is := [16]) (by kernel_rfl) (by simp) Y ⟨fun o ho => ?_, trivial⟩
                   all_goals (cases ho)
                   refine rn3 ?_
                   exact fin2 _ ⟨Y, Y, Y, Y, Y, Y, Y, Y, Y, Y, Y, Y, Y, Y, Y, Y, Y, trivial⟩
                 · refine rn3 ?_
                   refine zF (is := [4]) (by kernel_rfl) (by simp) Y ⟨fun o ho => ?_, trivial⟩
                   all_goals (cases ho)
                   refine rn4 ?_
                   exact fin2 _ ⟨Y, Y, Y, Y, Y, Y, Y, Y, Y, Y, Y, Y, Y, Y, Y, Y, Y, trivial⟩
           · refine rn4 ?_
             refine zS 13 Y (by kernel_rfl) (by kernel_rfl) (by kernel_rfl) Y (zd Y Y Y Y Y (by first | (simp only [Nat.zero_add, Int.toNat_natCast, Int.toNat_zero]; exact Y) | exact Y) (by omega)) Y ?_
             refine zF (is := [4, 6, 14]) (by kernel_rfl) (by simp) Y ⟨fun o ho => ?_, fun o ho => ?_, fun o ho => ?_, trivial⟩
             all_goals (cases ho)
             · refine rn4 ?_
               refine zF (is := [6, 14]) (by kernel_rfl) (by simp) Y ⟨fun o ho => ?_, fun o ho => ?_, trivial⟩
               all_goals (cases ho)
               · refine rn4 ?_
                 refine zF (is := [14]) (by kernel_rfl) (by simp) Y ⟨fun o ho => ?_, trivial⟩
                 all_goals (cases ho)
                 repeat (first | refine zC ?_ | refine zo ?_ | refine zD (zAT rfl rfl rfl rfl (by first | assumption | omega)) ?_)
                 refine zS 15 Y (by kernel_rfl) (by kernel_rfl) (by kernel_rfl) Y (zAU Y Y Y Y Y Y) Y ?_
                 refine zF (is := [16]) (by kernel_rfl) (by simp) Y ⟨fun o ho => ?_, trivial⟩
                 all_goals (cases ho)
                 refine rn3 ?_
                 exact fin2 _ ⟨Y, Y, Y, Y, Y, Y, Y, Y, Y, Y, Y, Y, Y, Y, Y, Y, Y, trivial⟩
               · repeat (first | refine zC ?_ | refine zo ?_ | refine zD (zAT rfl rfl rfl rfl (by first | assumption | omega)) ?_)
                 refine zF (is := [6]) (by kernel_rfl) (by simp) Y ⟨fun o ho => ?_, trivial⟩
                 all_goals (cases ho)
                 refine rn4 ?_
                 refine zS 15 Y (by kernel_rfl) (by kernel_rfl) (by kernel_rfl) Y (zAU Y Y Y Y Y Y) Y ?_
                 refine zF (is := [16]) (by kernel_rfl) (by simp) Y ⟨fun o ho => ?_, trivial⟩
                 all_goals (cases ho)
                 refine rn3 ?_
                 exact fin2 _ ⟨Y, Y, Y, Y, Y, Y, Y, Y, Y, Y, Y, Y, Y, Y, Y, Y, Y, trivial⟩
             · refine rn4 ?_
               refine zF (is := [4, 14]) (by kernel_rfl) (by simp) Y ⟨fun o ho => ?_, fun o ho => ?_, trivial⟩
               all_goals (cases ho)
               · refine rn4 ?_
                 refine zF (is := [14]) (by kernel_rfl) (by simp) Y ⟨fun o ho => ?_, trivial⟩
                 all_goals (cases ho)
                 repeat (first | refine zC ?_ | refine zo ?_ | refine zD (zAT rfl rfl rfl rfl (by first | assumption | omega)) ?_)
                 refine zS 15 Y (by kernel_rfl) (by kernel_rfl) (by kernel_rfl) Y (zAU Y Y Y Y Y Y) Y ?_
                 refine zF (is := [16]) (by kernel_rfl) (by simp) Y ⟨fun o ho => ?_, trivial⟩
                 all_goals (cases ho)
                 refine rn3 ?_
                 exact fin2 _ ⟨Y, Y, Y, Y, Y, Y, Y, Y, Y, Y, Y, Y, Y, Y, Y, Y, Y, trivial⟩
               · repeat (first | refine zC ?_ | refine zo ?_ | refine zD (zAT rfl rfl rfl rfl (by first | assumption | omega)) ?_)
                 refine zS 15 Y (by kernel_rfl) (by kernel_rfl) (by kernel_rfl) Y (zAU Y Y Y Y Y Y) Y ?_
                 refine zF (is := [4, 16]) (by kernel_rfl) (by simp) Y ⟨fun o ho => ?_, fun o ho => ?_, trivial⟩
                 all_goals (cases ho)
                 · refine rn4 ?_
                   refine zF (is := [16]) (by kernel_rfl) (by simp) Y ⟨fun o ho => ?_, trivial⟩
                   all_goals (cases ho)
                   refine rn3 ?_
                   exact fin2 _ ⟨Y, Y, Y, Y, Y, Y, Y, Y, Y, Y, Y, Y, Y, Y, Y, Y, Y, trivial⟩
                 · refine rn3 ?_
                   refine zF (is := [4]) (by kernel_rfl) (by simp) Y ⟨fun o ho => ?_, trivial⟩
                   all_goals (cases ho)
                   refine rn4 ?_
                   exact fin2 _ ⟨Y, Y, Y, Y, Y, Y, Y, Y, Y, Y, Y, Y, Y, Y, Y, Y, Y, trivial⟩
             · repeat (first | refine zC ?_ | refine zo ?_ | refine zD (zAT rfl rfl rfl rfl (by first | assumption | omega)) ?_)
               refine zF (is := [4, 6]) (by kernel_rfl) (by simp) Y ⟨fun o ho => ?_, fun o ho => ?_, trivial⟩
               all_goals (cases ho)
               · refine rn4 ?_
                 refine zF (is := [6]) (by kernel_rfl) (by simp) Y ⟨fun o ho => ?_, trivial⟩
                 all_goals (cases ho)
                 refine rn4 ?_
                 refine zS 15 Y (by kernel_rfl) (by kernel_rfl) (by kernel_rfl) Y (zAU Y Y Y Y Y Y) Y ?_
                 refine zF (is := [16]) (by kernel_rfl) (by simp) Y ⟨fun o ho => ?_, trivial⟩
                 all_goals (cases ho)
                 refine rn3 ?_
                 exact fin2 _ ⟨Y, Y, Y, Y, Y, Y, Y, Y, Y, Y, Y, Y, Y, Y, Y, Y, Y, trivial⟩
               · refine rn4 ?_
                 refine zS 15 Y (by kernel_rfl) (by kernel_rfl) (by kernel_rfl) Y (zAU Y Y Y Y Y Y) Y ?_
                 refine zF (is := [4, 16]) (by kernel_rfl) (by simp) Y ⟨fun o ho => ?_, fun o ho => ?_, trivial⟩
                 all_goals (cases ho)
                 · refine rn4 ?_
                   refine zF (is := [16]) (by kernel_rfl) (by simp) Y ⟨fun o ho => ?_, trivial⟩
                   all_goals (cases ho)
                   refine rn3 ?_
                   exact fin2 _ ⟨Y, Y, Y, Y, Y, Y, Y, Y, Y, Y, Y, Y, Y, Y, Y, Y, Y, trivial⟩
                 · refine rn3 ?_
                   refine zF (is := [4]) (by kernel_rfl) (by simp) Y ⟨fun o ho => ?_, trivial⟩
                   all_goals (cases ho)
                   refine rn4 ?_
                   exact fin2 _ ⟨Y, Y, Y, Y, Y, Y, Y, Y, Y, Y, Y, Y, Y, Y, Y, Y, Y, trivial⟩
         · refine zF (is := [17]) (by kernel_rfl) (by simp) Y ⟨fun o ho => ?_, trivial⟩
           all_goals (cases ho)
           refine zp Y Y Y Y Y Y Y Y Y Y Y Y (by show 0 + 1 ≤ 1; omega) Y (by show (S.length + 1) * 24 ≤ _ ∧ _; omega) ?_ (by rw [hfix]; exact fun h => h) ?_
           · intro i' j' hi' hj'
             exact zDA seq0 3 zFE zMY S ⟨nf, (k : Int), f.pos.getD i 0⟩ _ (rowS3 ⟨nf, (k : Int), f.pos.getD i 0⟩) 0 i' j' hi' hj'
           refine zAs [some ⟨174, zBa (S ++ [(⟨nf, (k : Int), f.pos.getD i 0⟩ : RSeq)])⟩, some ⟨3, .ints .i64 f.pos⟩, some ⟨169, .box [.any, .sl 1 0 t.length]⟩, some ⟨123, zHN (f.first ++ [(nf, f.seqs.length)])⟩, some ⟨40, .box [.int .i64 kd, .int .i64 pl, .int .i64 nf, .ro (.ints .i64 nx) 0 nx.length, .ro (.strs od) 0 od.length, .str py]⟩] (zAB.eqv (zCx seq0 3 zFE S ⟨nf, (k : Int), f.pos.getD i 0⟩ _ (rowS3 ⟨nf, (k : Int), f.pos.getD i 0⟩)) (zAB.eqv (CEq.refl _) (zAB.eqv (CEq.refl _) (zAB.eqv (zPH _ _) (zAB.eqv (CEq.refl _) zAB.nil))))) ?_
           refine rn1 ?_
           refine zS 18 Y (by kernel_rfl) (by kernel_rfl) (by kernel_rfl) Y (zAl Y) Y ?_
           refine zS 19 Y (by kernel_rfl) (by kernel_rfl) (by kernel_rfl) Y (zP Y Y Y Y Y Y) Y ?_
           refine zF (is := [20]) (by kernel_rfl) (by simp) Y ⟨fun o ho => ?_, trivial⟩
           all_goals (cases ho)
           repeat (first | refine zC ?_ | refine zo ?_ | refine zAp rfl rfl rfl rfl rfl rfl rfl Nat.zero_lt_one ?_)
           refine zGt (zCy t.length ⟨S ++ [(⟨nf, (k : Int), f.pos.getD i 0⟩ : RSeq)], f.pos, f.first ++ [(nf, f.seqs.length)]⟩ [some ⟨40, .box [.int .i64 kd, .int .i64 pl, .int .i64 nf, .ro (.ints .i64 nx) 0 nx.length, .ro (.strs od) 0 od.length, .str py]⟩]) (zAB.eqv (CEq.refl _) (zAB.eqv (CEq.refl _) (zAB.eqv (by show CEq (formB (S.length + 1) t.length) (formB (S ++ [(⟨nf, (k : Int), f.pos.getD i 0⟩ : RSeq)]).length t.length); rw [List.length_append]; exact CEq.refl _) (zAB.refl _)))) ?_
           refine zh (by kernel_rfl) ?_
           refine rn5 ?_
           exact zM ⟨k + 1, by omega, by omega, ⟨Y, Y, Y, Y, Y, Y, Y, Y, Y, Y, Y, Y, Y, trivial⟩, by rw [hS2', hS2]⟩
       · have hke : k = nx.length := by omega
         subst hke
         refine rn5 ?_
         refine zBQ (zCy t.length g [some ⟨40, .box [.int .i64 kd, .int .i64 pl, .int .i64 nf, .ro (.ints .i64 nx) 0 nx.length, .ro (.strs od) 0 od.length, .str py]⟩]) (by rw [hg]; rfl) ?_
         refine zi (ι := Nat) (fun k => [(0, .ro (zc t) 0 t.length), (1, .int .i64 p), (5, .ptr 2 0 0), (6, .mp 3), (7, .int .i64 (i : Nat)), (8, .ptr 4 0 0), (9, .bool true), (23, .ro (zc t) 0 t.length), (24, .int .i64 (t.length : Nat)), (25, .int .i64 (i : Nat)), (85, .ro (.ints .i64 nx) 0 nx.length), (86, .int .i64 (nx.length : Nat)), (87, .int .i64 (k : Nat))]) (fun k => zCy t.length ⟨g.seqs, zAy v (nx.take k) 0 g.pos, g.first⟩ [some ⟨40, .box [.int .i64 kd, .int .i64 pl, .int .i64 nf, .ro (.ints .i64 nx) 0 nx.length, .ro (.strs od) 0 od.length, .str py]⟩])
           (fun k => k ≤ nx.length) (fun k => nx.length - k) 0 ⟨⟨rfl, rfl, rfl, rfl, rfl, rfl, rfl, rfl, rfl, rfl, rfl, rfl, rfl, trivial⟩, rfl, Nat.zero_le _⟩ ?_
         intro k hk
         refine rn4 ?_
         refine zE Y (fun h5 => ?_) (fun h5 => ?_)
         · have hk' : k < nx.length := by omega
           obtain ⟨b1, b2⟩ := hbh _ (zAQ 0 hk')
           have hAl : (zAy v (nx.take k) 0 g.pos).length = t.length := by rw [zDQ]; exact hgl
           have hAi : (zAy v (nx.take k) 0 g.pos).getD i 0 = g.pos.getD i 0 := zBt v 0 _ _ _ (fun c hc => by have := hbh c (List.mem_of_mem_take hc); omega)
           have hst : zAy v (nx.take (k + 1)) 0 g.pos = (zAy v (nx.take k) 0 g.pos).set (nx.getD k 0).toNat (v k) := by
             rw [zDD hk', zDh, List.length_take, Nat.min_eq_left hk, Nat.zero_add]
           have hvk := hvv k
           generalize hA2 : zAy v (nx.take (k + 1)) 0 g.pos = A2 at *
           generalize zAy v (nx.take k) 0 g.pos = A at *
           obtain ⟨x, hx⟩ := Int.eq_ofNat_of_zero_le (show 0 ≤ nx.getD k 0 by omega)
           have hxn : (nx.getD k 0).toNat = x := by rw [hx, Int.toNat_natCast]
           rw [hx] at b1 b2
           rw [hxn] at hst
           have hxl : x < A.length := by omega
           have hil : i < A.length := by omega
           have hxl2 : x < (A.set x (A.getD i 0)).length := by rw [List.length_set]; exact hxl
           refine rn6 ?_
           refine z7 14 (.int .i64 (x : Nat)) Y (AEq.of_eq (by rw [hx])) ?_
           refine zk (by kernel_rfl) ?_
           refine zt (fuel := 1) [0, 1, 2, 3, 4, 5, 6, 7, 8, 9, 10, 11, 12] [(0, .ro (zc t) 0 t.length), (1, .int .i64 p), (5, .ptr 2 0 0), (6, .mp 3), (7, .int .i64 (i : Nat)), (8, .ptr 4 0 0), (9, .bool true), (23, .ro (zc t) 0 t.length), (24, .int .i64 (t.length : Nat)), (25, .int .i64 (i : Nat)), (85, .ro (.ints .i64 nx) 0 nx.length), (86, .int .i64 (nx.length : Nat)), (87, .int .i64 (k : Nat)), (13, .int .i64 (k : Nat)), (14, .int .i64 (x : Nat))] ⟨Y, Y, Y, Y, Y, Y, Y, Y, Y, Y, Y, Y, Y, Y, Y, trivial⟩ (by kernel_rfl) (by decide) Y Y ?_
           refine zU Y Y (zH Y) ?_
           refine zU Y Y (zAl Y) ?_
           refine zU Y Y (zP Y Y Y Y Y Y) ?_
           refine zU Y Y (zT Y Y Y Y Y) ?_
           refine zU Y Y (zH Y) ?_
           refine zU Y Y (zH Y) ?_
           refine zU Y Y (zAl Y) ?_
           refine zU Y Y (zP Y Y Y Y Y Y) ?_
           refine zU Y Y (zT Y Y Y Y Y) ?_
           refine zU Y Y (zH Y) ?_
           refine zU Y Y (zd Y Y Y Y Y (by first | (simp only [Nat.zero_add, Int.toNat_natCast, Int.toNat_zero]; exact Y) | exact Y) (by omega)) ?_
           refine zU Y Y (zAT Y Y Y Y (by first | assumption | omega)) ?_
           refine zU Y Y (zd Y Y Y Y Y (by first | (simp only [Nat.zero_add, Int.toNat_natCast, Int.toNat_zero]; exact Y) | exact Y) (by omega)) ?_
           refine zAZ ?_
           refine zF (is := [13]) (by kernel_rfl) (by simp) Y ⟨fun o ho => ?_, trivial⟩
           all_goals (cases ho)
           repeat (first | refine zC ?_ | refine zo ?_ | refine zAp rfl rfl rfl rfl rfl rfl rfl (by first | assumption | (show _ < List.length _; first | assumption | omega)) ?_)
           refine zGt (zCy t.length ⟨g.seqs, A.set x (A.getD i 0), g.first⟩ [some ⟨40, .box [.int .i64 kd, .int .i64 pl, .int .i64 nf, .ro (.ints .i64 nx) 0 nx.length, .ro (.strs od) 0 od.length, .str py]⟩]) (zAB.refl _) ?_
           refine zh (by kernel_rfl) ?_
           refine rn5 ?_
           refine zk (by kernel_rfl) ?_
           refine zt (fuel := 1) [0, 1, 2, 3, 4, 5, 6, 7, 8, 9, 10, 11] [(0, .ro (zc t) 0 t.length), (1, .int .i64 p), (5, .ptr 2 0 0), (6, .mp 3), (7, .int .i64 (i : Nat)), (8, .ptr 4 0 0), (9, .bool true), (23, .ro (zc t) 0 t.length), (24, .int .i64 (t.length : Nat)), (25, .int .i64 (i : Nat)), (85, .ro (.ints .i64 nx) 0 nx.length), (86, .int .i64 (nx.length : Nat)), (87, .int .i64 (k : Nat)), (13, .int .i64 (k : Nat)), (14, .int .i64 (x : Nat))] ⟨Y, Y, Y, Y, Y, Y, Y, Y, Y, Y, Y, Y, Y, Y, Y, trivial⟩ (by kernel_rfl) (by decide) Y Y ?_
           refine zU Y Y (zH Y) ?_
           refine zU Y Y (zAl Y) ?_
           refine zU Y Y (zP Y Y Y Y Y Y) ?_
           refine zU Y Y (zT Y Y Y Y Y) ?_
           refine zU Y Y (zH Y) ?_
           refine zU Y Y (zH Y) ?_
           refine zU Y Y (zP Y Y Y Y Y Y) ?_
           refine zU Y Y (zT Y Y Y Y Y) ?_
           refine zU Y Y (zBk Y (.int Y) Y Y Y Y (zI9 g.first) jj i1 i2) ?_
           refine zU Y Y (zH Y) ?_
           refine zU Y Y (zDZ Y Y (by omega)) ?_
           refine zU Y Y (zd Y Y Y Y Y (by first | (simp only [Nat.zero_add, Int.toNat_natCast, Int.toNat_zero]; exact Y) | exact Y) (by omega)) ?_
           refine zAZ ?_
           refine zF (is := [12]) (by kernel_rfl) (by simp) Y ⟨fun o ho => ?_, trivial⟩
           all_goals (cases ho)
           repeat (first | refine zC ?_ | refine zo ?_ | refine zAp rfl rfl rfl rfl rfl rfl rfl (by first | assumption | (show _ < List.length _; first | assumption | omega)) ?_)
           refine zh (by kernel_rfl) ?_
           refine rn5 ?_
           exact zM ⟨k + 1, by omega, by omega, ⟨Y, Y, Y, Y, Y, Y, Y, Y, Y, Y, Y, Y, Y, trivial⟩, by rw [hA2, hst, hvk]; exact congrArg (fun l => zCy t.length ⟨g.seqs, l, g.first⟩ [some ⟨40, .box [.int .i64 kd, .int .i64 pl, .int .i64 nf, .ro (.ints .i64 nx) 0 nx.length, .ro (.strs od) 0 od.length, .str py]⟩]) (List.set_set ..)⟩
         · have hke : k = nx.length := by omega
           subst hke
           rw [List.take_length]
           repeat (first | refine zf ?_ | refine zAm ?_ | refine zr ?_ | refine zq ?_ | refine zAD ?_)
           refine zA ?_
           refine zAa (zCy t.length ⟨g.seqs, zAy v nx 0 g.pos, g.first⟩ []) [some ⟨40, .box [.int .i64 kd, .int .i64 pl, .int .i64 nf, .ro (.ints .i64 nx) 0 nx.length, .ro (.strs od) 0 od.length, .str py]⟩] [(0, .ro (zc t) 0 t.length), (1, .int .i64 p), (5, .ptr 2 0 0), (6, .mp 3), (23, .ro (zc t) 0 t.length), (24, .int .i64 (t.length : Nat)), (25, .int .i64 (i : Nat))] Y ⟨Y, Y, Y, Y, Y, Y, Y, trivial⟩ (fun h hh => by rw [hfix] at hh; exact absurd hh id) (zHV _ _) Y ?_
           refine rn3 ?_
           exact zM ⟨i + 1, by omega, by omega, ⟨Y, Y, Y, Y, Y, Y, Y, trivial⟩, by rw [hnx]⟩
 · have hie : i = t.length := by omega
   subst hie
   refine rn5 ?_
   exact zI hR Y ⟨Y, Y⟩
end Go.Proofs.YtnkealfaldjipaaGreatDoor
namespace Go.Ax.Rt
open Go.Ax.Bg Go.Ax.Idx
structure TChoice where
 info : Int
 odds : List zBJ
 deriving DecidableEq
def ch0 : TChoice := ⟨0, []⟩
abbrev zAK := List TChoice
def zEq (I Z : List Int) : Nat → zAK → Int
 | _, [] => 0
 | k, c :: r => if c.info ≠ I.getD k 0 ∨ ((c.odds.length : Nat) : Int) ≠ Z.getD k 0 then 3 else if zCz c.odds ≠ 0 then zCz c.odds else zEq I Z (k + 1) r
/-- recall.Strategy -/
def zAe (t : zQ) (p : Int) (s : zAK) : Int := if s.length ≠ (zJ t p).length then 3 else zEq (zJ t p) (zz t p) 0 s
theorem zN0 {I Z : List Int} {s : zAK} {k : Nat} (hk : k < s.length) : zEq I Z k (s.drop k) = if (s.getD k ch0).info ≠ I.getD k 0 ∨ (((s.getD k ch0).odds.length : Nat) : Int) ≠ Z.getD k 0 then 3 else if zCz (s.getD k ch0).odds ≠ 0 then zCz (s.getD k ch0).odds else zEq I Z (k + 1) (s.drop (k + 1)) := by
 rw [List.drop_eq_getElem_cons hk, ← z8 ch0 hk, zEq]
theorem zJX {I Z : List Int} : ∀ {s : zAK} {k : Nat}, zEq I Z k s = 0 → ∀ j, j < s.length → (s.getD j ch0).info = I.getD (k + j) 0 ∧ (((s.getD j ch0).odds.length : Nat) : Int) = Z.getD (k + j) 0 ∧ zCz (s.getD j ch0).odds = 0
 | [], k, h, j, hj => absurd hj (Nat.not_lt_zero _)
 | c :: r, k, h, j, hj => by
   rw [zEq] at h
   split at h
   · cases h
   rename_i h1
   simp only [not_or, Classical.not_not] at h1
   split at h
   · rename_i h2; exact absurd h h2
   rename_i h2
   cases j with
   | zero => exact ⟨h1.1, h1.2, Classical.not_not.1 h2⟩
   | succ j =>
     have := zJX h j (by simpa using hj)
     rw [show k + (j + 1) = k + 1 + j by omega]
     exact this
structure OkS (t : zQ) (p : Int) (s : zAK) : Prop where
 infos : s.map TChoice.info = zJ t p
 wid : ∀ j, j < s.length → (s.getD j ch0).odds.length = zR t p (s.getD j ch0).info
 odds : ∀ c ∈ s, zCz c.odds = 0
theorem zCs {t : zQ} {p : Int} {s : zAK} (h : zAe t p s = 0) : OkS t p s := by
 unfold zAe at h
 split at h
 · cases h
 rename_i h1
 have h1 := Classical.not_not.1 h1
 have h2 := zJX h
 have e1 : ∀ j, j < s.length → (s.getD j ch0).info = (zJ t p).getD j 0 := fun j hj => by
   have := (h2 j hj).1; rwa [Nat.zero_add] at this
 refine ⟨?_, fun j hj => ?_, fun c hc => ?_⟩
 · apply List.ext_getElem (by rw [List.length_map]; exact h1)
   intro j hj1 hj2
   have hj : j < s.length := by simpa using hj1
   have := e1 j hj
   rw [z8 ch0 hj, z8 0 hj2] at this
   rw [List.getElem_map]; exact this
 · have := (h2 j hj).2.1
   rw [Nat.zero_add] at this
   have hj2 : j < (zJ t p).length := by omega
   unfold zz at this
   rw [zBV _ _ 0 _ _ hj2, ← e1 j hj] at this
   omega
 · obtain ⟨j, hj, rfl⟩ := List.getElem_of_mem hc
   have := (h2 j hj).2.2
   rwa [z8 ch0 hj] at this
theorem zKw : ∀ (qs : List Rat) (acc : Rat), (zIh acc qs).2 = 0 → (zIh acc qs).1 = zAH acc qs
 | [], acc, _ => rfl
 | q :: r, acc, h => by
   rw [zIh] at h ⊢
   rw [zAH]
   split at h
   · rename_i hf
     rw [if_pos hf]
     exact zKw r _ h
   · cases h
theorem zBh {l : List zBJ} (h : zCz l = 0) : l.length ≤ 256 ∧ (∀ s ∈ l, zDa s = 0) ∧ zAH 0 (l.map zAM) = 1 ∧ ∀ q ∈ l.map zAM, 0 ≤ q ∧ D 2000 q := by
 unfold zCz at h
 split at h
 case isFalse h1 => exact absurd h h1
 rename_i h1
 split at h
 case isFalse => cases h
 rename_i h2
 unfold posE at h1
 split at h1
 · cases h1
 rename_i h3
 have h4 : l.any zDB = false := by
   cases hb : l.any zDB
   · rfl
   · exact absurd ⟨h1, hb⟩ h3
 unfold zHh at h1 h2
 split at h1
 · cases h1
 rename_i h5
 split at h1
 case isFalse h6 => exact absurd h1 h6
 rename_i h6
 rw [if_neg h5, if_pos h6] at h2
 have h7 := zGi h6
 refine ⟨by omega, h7, ?_, fun q hq => ?_⟩
 · have := zKw _ _ h1
   rw [this] at h2
   unfold cmpQ at h2
   split at h2
   · cases h2
   · split at h2
     · rename_i e; exact e
     · cases h2
 · obtain ⟨s, hs, rfl⟩ := List.mem_map.1 hq
   have hn := (zLR (h7 s hs)).1 (by rw [List.any_eq_false] at h4; simpa using h4 s hs)
   refine ⟨hn, ?_⟩
   have hf := (IsQ.self (h7 s hs)).fit
   unfold zBK at hf
   rw [Bool.and_eq_true, decide_eq_true_eq, decide_eq_true_eq] at hf
   exact dig_D hf.1 hf.2
/-- the probabilities by information sets -/
def zCG (s : zAK) (x : Int) : List Rat := ((s.find? (fun c => decide (c.info = x))).map (fun c => c.odds.map zAM)).getD []
theorem zK0 {s : zAK} (hn : (s.map TChoice.info).Nodup) {c : TChoice} (hc : c ∈ s) : zCG s c.info = c.odds.map zAM := by
 unfold zCG
 induction s with
 | nil => simp at hc
 | cons a r ih =>
   rw [List.map_cons, List.nodup_cons] at hn
   rw [List.find?_cons]
   rcases List.mem_cons.1 hc with e | q
   · subst e; simp
   · have : ¬ a.info = c.info := fun e => hn.1 (List.mem_map.2 ⟨c, q, e.symm⟩)
     rw [decide_eq_false this]
     exact ih hn.2 q
theorem OkS.at' {t : zQ} {p : Int} {s : zAK} (h : OkS t p s) {x : Int} (hx : x ∈ zJ t p) : ∃ c ∈ s, c.info = x ∧ zCG s x = c.odds.map zAM ∧ c.odds.length = zR t p x ∧ zCz c.odds = 0 := by
 have hn : (s.map TChoice.info).Nodup := by rw [h.infos]; exact zBn t p
 rw [← h.infos] at hx
 obtain ⟨c, hc, rfl⟩ := List.mem_map.1 hx
 obtain ⟨j, hj, e⟩ := List.getElem_of_mem hc
 have hw := h.wid j hj
 rw [z8 ch0 hj, e] at hw
 exact ⟨c, hc, Y, zK0 hn hc, hw, h.odds c hc⟩
theorem OkS.strat {t : zQ} {p : Int} {s : zAK} (h : OkS t p s) : Strat t p (zCG s) 2000 := by
 refine ⟨fun x hx => ?_, fun x hx => ?_, fun x hx => ?_, fun x hx => ?_⟩ <;> obtain ⟨c, c1, c2, c3, c4, c5⟩ := h.at' hx <;> obtain ⟨o1, o2, o3, o4⟩ := zBh c5 <;> rw [c3]
 · rw [List.length_map]; exact c4
 · exact o3
 · exact fun q hq => (o4 q hq).1
 · exact fun q hq => (o4 q hq).2
/-- with short texts -/
theorem OkS.strat12 {t : zQ} {p : Int} {s : zAK} (h : OkS t p s) (hs : ∀ c ∈ s, ∀ r ∈ c.odds, r.length ≤ 12) : Strat t p (zCG s) 12 := by
 have g := h.strat
 refine ⟨g.len, g.sum, g.nn, fun x hx q hq => ?_⟩
 obtain ⟨c, c1, c2, c3, c4, c5⟩ := h.at' hx
 obtain ⟨o1, o2, o3, o4⟩ := zBh c5
 rw [c3] at hq
 obtain ⟨s', hs', rfl⟩ := List.mem_map.1 hq
 exact (IsQ.self (o2 s' hs')).dig (hs c c1 s' hs') (by decide)
end Go.Ax.Rt
namespace Go.Proofs.YtnkealfaldjipaaGreatDoor
open Go.Ax Go.Ax.Bg Go.Ax.Rt Go.RowKit Go.Ax.Idx Go.Ax.Cd
attribute [local irreducible] Ax zBG QOp zV zA0
set_option maxRecDepth 100000
set_option maxHeartbeats 4000000
def zFQ (t : zQ) (p : Int) : (List Int × List Int) × Int := if zAv t p ≠ 0 then (([], []), zAv t p) else ((zJ t p, zz t p), 0)
theorem zJr (t : zQ) (p : Int) (hT : ShortT t) : zW Tryz.prog 102 [.ro (zc t) 0 t.length, .int .i64 p] (.tup [.ro (.ints .i64 (zFQ t p).1.1) 0 (zFQ t p).1.1.length, .ro (.ints .i64 (zFQ t p).1.2) 0 (zFQ t p).1.2.length, .int .i64 (zFQ t p).2]) := by
 have cp := zLj t p hT
 have cs := zIJ t p hT.len
 refine zV.value0 (zG (P := Tryz.prog) (fn := Tryz.f102) Y Y (by kernel_rfl) Y (fun c hR hfix => ?_)) (fix := fun _ => False) (fun _ h => h) Y Y
 unfold zFQ at hR
 refine rn0 ?_
 refine zB Y Y Y cp ?_
 refine rn3 ?_
 refine zE Y (fun h1 => ?_) (fun h1 => ?_)
 · rw [if_pos h1] at hR
   repeat (first | refine zD (zH rfl) ?_ | refine zD (zL rfl) ?_ | refine zC ?_ | refine zA ?_ | refine zX ?_ | refine zK rfl ?_)
   refine z7 4 (.ro (.ints .i64 []) 0 0) Y AEq.nil ?_
   refine z7 5 (.ro (.ints .i64 []) 0 0) Y AEq.nil ?_
   refine rn2 ?_
   exact zI hR Y Y
 rw [if_neg h1] at hR
 refine rn1 ?_
 refine zB Y Y Y cs ?_
 refine rn2 ?_
 exact zI hR Y Y
end Go.Proofs.YtnkealfaldjipaaGreatDoor
namespace Go.Proofs.YtnkealfaldjipaaGreatDoor
open Go.Ax Go.Ax.Bg Go.Ax.Rt Go.RowKit Go.Ax.Idx Go.Ax.Cd
set_option maxRecDepth 100000
set_option maxHeartbeats 4000000
def cellsC (c : TChoice) : List AV := [.int .i64 c.info, .ro (.strs c.odds) 0 c.odds.length]
abbrev zm (s : zAK) : Cells := zC3 ch0 2 cellsC s
structure ShortC (c : TChoice) : Prop where
 odds : c.odds.length ≤ 9223372036854775807
 each : ∀ s ∈ c.odds, s.length ≤ 9223372036854775807
theorem rdNode {H : Type} {enc : TypeId × Value → H} {W : World} : Rd enc Tryz.prog W 40 6 zBs ShortN :=
 (Rd.struct Tryz.underlying40 (by kernel_rfl) (RdF.cons rfl rfl (Rd.int Tryz.underlying3) (RdF.cons rfl rfl (Rd.int Tryz.underlying3) (RdF.cons rfl rfl (Rd.int Tryz.underlying3) (RdF.cons rfl rfl (Rd.ints Tryz.underlying38 (by kernel_rfl) Tryz.underlying3) (RdF.cons rfl rfl (Rd.strs Tryz.underlying35 (by kernel_rfl) Tryz.underlying27) (RdF.cons rfl rfl (Rd.str Tryz.underlying27) RdF.nil))))))).map
   (fun a => (⟨a.1, a.2.1, a.2.2.1, a.2.2.2.1, a.2.2.2.2.1, a.2.2.2.2.2.1⟩ : TNode)) (fun a h => ⟨h.2.2.2.1.1, h.2.2.2.2.1.1, h.2.2.2.2.1.2, h.2.2.2.2.2.1⟩) (fun a => rfl) (fun a i hi => AEq.rfl')
theorem rdChoice {H : Type} {enc : TypeId × Value → H} {W : World} : Rd enc Tryz.prog W 67 2 cellsC ShortC :=
 (Rd.struct Tryz.underlying67 (by kernel_rfl) (RdF.cons rfl rfl (Rd.int Tryz.underlying3) (RdF.cons rfl rfl (Rd.strs Tryz.underlying35 (by kernel_rfl) Tryz.underlying27) RdF.nil))).map
   (fun a => (⟨a.1, a.2.1⟩ : TChoice)) (fun a h => ⟨h.2.1.1, h.2.1.2⟩) (fun a => rfl) (fun a i hi => AEq.rfl')
end Go.Proofs.YtnkealfaldjipaaGreatDoor
namespace Go.Proofs.YtnkealfaldjipaaGreatDoor
open Go.Ax Go.Ax.Bg Go.Ax.Rt Go.RowKit Go.Ax.Idx Go.Ax.Cd
attribute [local irreducible] Ax zBG QOp zV zA0
set_option maxRecDepth 100000
set_option maxHeartbeats 4000000
structure ShortS (s : zAK) : Prop where
 len : s.length ≤ 9223372036854775807
 each : ∀ c ∈ s, ShortC c
theorem zD8 (t : zQ) (p : Int) (s : zAK) (hlen : t.length ≤ 9223372036854775807) (hs : ShortS s) : zW Tryz.prog 38 [.ro (zc t) 0 t.length, .int .i64 p, .ro (zm s) 0 s.length] (.int .i64 (zAe t p s)) := by
 have cs := zIJ t p hlen
 have hsl := hs.len
 have hzl : (zz t p).length = (zJ t p).length := by unfold zz; simp
 refine zV.value0 (zG (P := Tryz.prog) (fn := Tryz.f38) Y Y (by kernel_rfl) Y (fun c hR hfix => ?_)) (fix := fun _ => False) (fun _ h => h) Y Y
 unfold zAe at hR
 generalize zJ t p = I at *
 generalize zz t p = Z at *
 refine rn0 ?_
 refine zB Y Y Y cs ?_
 refine rn3 ?_
 refine zE Y (fun h1 => ?_) (fun h1 => ?_)
 · rw [if_pos (by omega)] at hR
   refine rn2 ?_
   exact zI hR Y Y
 rw [if_neg (by omega)] at hR
 have hl : s.length = I.length := by omega
 refine rn3 ?_
 refine zi (ι := Nat) (fun i => [(0, .ro (zc t) 0 t.length), (7, .ro (.ints .i64 I) 0 I.length), (8, .ro (.ints .i64 Z) 0 Z.length), (23, .ro (zm s) 0 s.length), (24, .int .i64 (s.length : Nat)), (25, .int .i64 (i : Nat))]) (fun _ => [])
   (fun i => i ≤ s.length ∧ zEq I Z 0 s = zEq I Z i (s.drop i)) (fun i => s.length - i) 0 ⟨⟨rfl, rfl, rfl, rfl, rfl, rfl, trivial⟩, rfl, Nat.zero_le _, by rw [List.drop_zero]⟩ ?_
 rintro i ⟨hi, hE⟩
 refine rn4 ?_
 refine zE Y (fun h => ?_) (fun h => ?_)
 · have hi' : i < s.length := by omega
   have hc := hs.each _ (zBM ch0 hi')
   rw [zN0 hi'] at hE
   have co := zL9 (s.getD i ch0).odds hc.odds hc.each
   have hol := hc.odds
   refine rn6 ?_
   refine zN 29 (.agg (cellsC (s.getD i ch0))) Y (AEq.of_eq Y) ?_
   generalize s.getD i ch0 = x at *
   obtain ⟨nf, od⟩ := x
   simp only at *
   refine zO (c' := .box [.int .i64 nf, .ro (.strs od) 0 od.length]) Y Y Y Y Y Nat.zero_lt_one Y Y (fun i' j' hi' hj' => ?_) ?_
   · rw [if_pos (Nat.lt_one_iff.1 hi')]; rfl
   have hiI : i < I.length := by omega
   have hiZ : i < Z.length := by omega
   refine rn0 ?_
   refine zk (by kernel_rfl) ?_
   by_cases g1 : nf = I.getD i 0
   case neg =>
     rw [if_pos (.inl g1)] at hE
     rw [hE] at hR
     refine zt (fuel := 0) [0, 1, 2, 3, 4, 5, 6, 7, 8, 9, 10, 11, 12, 13, 14, 15, 16] [(0, .ro (zc t) 0 t.length), (7, .ro (.ints .i64 I) 0 I.length), (8, .ro (.ints .i64 Z) 0 Z.length), (23, .ro (zm s) 0 s.length), (24, .int .i64 (s.length : Nat)), (25, .int .i64 (i : Nat)), (9, .int .i64 (i : Nat)), (10, .ptr 0 0 0)] ⟨Y, Y, Y, Y, Y, Y, Y, Y, trivial⟩ (by kernel_rfl) (by decide) Y Y ?_
     refine zU Y Y (zP Y Y Y Y Y Y) ?_
     refine zU Y Y (zT Y Y Y Y Y) ?_
     refine zU Y Y (zH Y) ?_
     refine zU Y Y (zH Y) ?_
     refine zU Y Y (ze Y Y Y Y (by first | (simp only [Nat.zero_add, Int.toNat_natCast, Int.toNat_zero]; exact Y) | exact Y) (by omega)) ?_
     refine zU Y Y (zAi Y Y Y) ?_
     refine zU Y Y (zD6 Y Y) ?_
     rw [decide_eq_true g1]
     refine zU Y Y (zH Y) ?_
     refine zCg Y Y Y Y Y ?_
     refine zCg Y Y Y Y Y ?_
     refine zCg Y Y Y Y Y ?_
     refine zCg Y Y Y Y Y ?_
     refine zCg Y Y Y Y Y ?_
     refine zCg Y Y Y Y Y ?_
     refine zCg Y Y Y Y Y ?_
     refine zCg Y Y Y Y Y ?_
     refine zU Y Y (zAg Y Y) ?_
     refine zAZ ?_
     refine zh (by kernel_rfl) ?_
     refine rn6 ?_
     exact zI hR Y Y
   refine zt (fuel := 0) [0, 1, 2, 3, 4, 5, 6, 7, 8, 9, 10, 11, 12, 13, 14, 15, 16] [(0, .ro (zc t) 0 t.length), (7, .ro (.ints .i64 I) 0 I.length), (8, .ro (.ints .i64 Z) 0 Z.length), (23, .ro (zm s) 0 s.length), (24, .int .i64 (s.length : Nat)), (25, .int .i64 (i : Nat)), (9, .int .i64 (i : Nat)), (10, .ptr 0 0 0)] ⟨Y, Y, Y, Y, Y, Y, Y, Y, trivial⟩ (by kernel_rfl) (by decide) Y Y ?_
   refine zU Y Y (zP Y Y Y Y Y Y) ?_
   refine zU Y Y (zT Y Y Y Y Y) ?_
   refine zU Y Y (zH Y) ?_
   refine zU Y Y (zH Y) ?_
   refine zU Y Y (ze Y Y Y Y (by first | (simp only [Nat.zero_add, Int.toNat_natCast, Int.toNat_zero]; exact Y) | exact Y) (by omega)) ?_
   refine zU Y Y (zAi Y Y Y) ?_
   refine zU Y Y (zD6 Y Y) ?_
   rw [decide_eq_false (fun q => q g1)]
   refine zU Y Y (zH Y) ?_
   refine zD3 Y Y Y Y (zP Y Y Y Y Y Y) ?_
   refine zD3 Y Y Y Y (zT Y Y Y Y Y) ?_
   refine zD3 Y Y Y Y (zA9 Y Y Y) ?_
   refine zD3 Y Y Y Y (zH Y) ?_
   refine zD3 Y Y Y Y (zH Y) ?_
   refine zD3 Y Y Y Y (ze Y Y Y Y (by first | (simp only [Nat.zero_add, Int.toNat_natCast, Int.toNat_zero]; exact Y) | exact Y) (by omega)) ?_
   refine zD3 Y Y Y Y (zAi Y Y Y) ?_
   refine zD3 Y Y Y Y (zD6 Y Y) ?_
   refine zU Y Y (zAg Y Y) ?_
   refine zAZ ?_
   refine zh (by kernel_rfl) ?_
   repeat (refine zA ?_)
   refine zE Y (fun g2 => ?_) (fun g2 => ?_)
   · rw [if_pos (.inr g2)] at hE
     rw [hE] at hR
     refine rn6 ?_
     exact zI hR Y Y
   rw [if_neg (by
     rintro (q | q)
     · exact q g1
     · exact g2 q)] at hE
   refine rn5 ?_
   refine zB Y Y Y co ?_
   refine rn3 ?_
   refine zE Y (fun g3 => ?_) (fun g3 => ?_)
   · rw [if_pos g3] at hE
     rw [hE] at hR
     refine rn6 ?_
     exact zI hR Y Y
   rw [if_neg g3] at hE
   repeat (first | refine zf ?_ | refine zl ?_)
   refine zA ?_
   refine zAa [] [some ⟨67, .box [.int .i64 nf, .ro (.strs od) 0 od.length]⟩] [(0, .ro (zc t) 0 t.length), (7, .ro (.ints .i64 I) 0 I.length), (8, .ro (.ints .i64 Z) 0 Z.length), (23, .ro (zm s) 0 s.length), (24, .int .i64 (s.length : Nat)), (25, .int .i64 (i : Nat))] Y ⟨Y, Y, Y, Y, Y, Y, trivial⟩ (fun h hh => by rw [hfix] at hh; exact absurd hh id) (fun h o ho => by simp at ho) Y ?_
   refine rn3 ?_
   exact zM ⟨i + 1, ⟨by omega, hE⟩, by omega, ⟨Y, Y, Y, Y, Y, Y, trivial⟩, Y⟩
 · have hie : i = s.length := by omega
   subst hie
   rw [List.drop_length] at hE
   rw [hE] at hR
   refine rn5 ?_
   exact zI hR Y Y
end Go.Proofs.YtnkealfaldjipaaGreatDoor
namespace Go.Ax
variable [Pins]
open Go.RowKit
section
variable {P : Program} {fn : Func} {c : Ctx} {fr : Fr} {H : zZ} {k : List It}
/-- A constant of which nothing is said (a map that is nil). -/
theorem zIB {ind : Bool} {d : Option Nat} {ty : TypeId} {pos : String} {after : Array Edge} {g : Option (Nat × Bool)} {x : Operand} : QOp ind P fn c fr H ⟨d, .assign x, ty, pos, after, g⟩ .any :=
 fun _ a _ _ _ => ⟨a.eval x, .any _ _, fun _ _ => rfl⟩
end
end Go.Ax
namespace Go.Proofs.YtnkealfaldjipaaGreatDoor
open Go.Ax Go.Ax.Bg Go.Ax.Rt Go.RowKit Go.Ax.Idx Go.Ax.Cd
attribute [local irreducible] Ax zBG QOp zV zA0
set_option maxRecDepth 100000
set_option maxHeartbeats 4000000
def keyC (c : TChoice) : AV := .int .i64 c.info
def valC (c : TChoice) : AV := .ro (qsC (c.odds.map zAM)) 0 (c.odds.map zAM).length
abbrev oddC (s : zAK) : Cells := .mp (s.map keyC) (s.map valC)
theorem keysC (s : zAK) : ∀ x ∈ s.map keyC, zDP (.int .i64) x = true := by
 intro x hx
 obtain ⟨e, _, rfl⟩ := List.mem_map.1 hx
 rfl
theorem zQw (s : zAK) (n : Nat) : zA2 n (oddC s) := by
 exact ⟨zCX (fun _ => rfl) s, zCX (fun _ => rfl) s⟩
theorem zMw (s : zAK) : zAC (oddC s) := ⟨zEj (fun _ => rfl) s, zEj (fun _ => rfl) s⟩
theorem zNj (s : zAK) (hs : ShortS s) (hn : (s.map TChoice.info).Nodup) (hv : ∀ c ∈ s, c.odds.length ≤ 256 ∧ ∀ r ∈ c.odds, zDa r = 0) : zW Tryz.prog 132 [.ro (zm s) 0 s.length] (.rom (s.map keyC) (s.map valC)) := by
 have hsl := hs.len
 refine zV.value (K := fun r H => r = .mp 0 ∧ H = [some ⟨209, oddC s⟩]) (zG (P := Tryz.prog) (fn := Tryz.f132) Y Y (by kernel_rfl) Y (fun c hR hfix => ?_)) (fix := fun _ => False) (fun _ h => h) Y ?_
 · refine rn0 ?_
   refine zD zIB ?_
   refine rn0 ?_
   refine zEg ?_
   refine rn3 ?_
   refine zi (ι := Nat) (fun i => [(3, .mp 0), (7, .ro (zm s) 0 s.length), (8, .int .i64 (s.length : Nat)), (9, .int .i64 (i : Nat))]) (fun i => [some ⟨209, oddC (s.take i)⟩])
     (fun i => i ≤ s.length) (fun i => s.length - i) 0 ⟨⟨rfl, rfl, rfl, rfl, trivial⟩, rfl, Nat.zero_le _⟩ ?_
   intro i hi
   refine rn4 ?_
   refine zE Y (fun h => ?_) (fun h => ?_)
   · have hi' : i < s.length := by omega
     have hm := zBM ch0 hi'
     have hc := hs.each _ hm
     obtain ⟨v1, v2⟩ := hv _ hm
     have cin := zOv (s.getD i ch0).odds (by omega) (fun r hr => ⟨hc.each r hr, v2 r hr⟩)
     have hol := hc.odds
     have htk : s.take (i + 1) = s.take i ++ [s.getD i ch0] := by rw [List.take_succ_eq_append_getElem hi', z8 ch0 hi']
     have hnew : AV.int .i64 (s.getD i ch0).info ∉ (s.take i).map keyC := by
       intro hmem
       obtain ⟨c, hc1, hc2⟩ := List.mem_map.1 hmem
       injection hc2 with e1 e2
       obtain ⟨j, hj, rfl⟩ := List.getElem_of_mem hc1
       rw [List.length_take] at hj
       rw [List.getElem_take] at e2
       have hp := List.pairwise_iff_getElem.1 hn j i (by simpa using (show j < s.length by omega)) (by simpa using hi') (by omega)
       rw [List.getElem_map, List.getElem_map] at hp
       rw [z8 ch0 hi'] at e2
       exact hp e2
     refine rn6 ?_
     refine zN 12 (.agg (cellsC (s.getD i ch0))) Y (AEq.of_eq Y) ?_
     generalize s.getD i ch0 = x at *
     obtain ⟨nf, od⟩ := x
     simp only at *
     refine zO (c' := .box [.int .i64 nf, .ro (.strs od) 0 od.length]) Y Y Y Y Y Nat.zero_lt_one Y Y (fun i' j' hi' hj' => ?_) ?_
     · rw [if_pos (Nat.lt_one_iff.1 hi')]; rfl
     refine rn0 ?_
     refine zk (by kernel_rfl) ?_
     refine zt (fuel := 1) [0, 1, 2, 3, 4, 5] [(3, .mp 0), (5, .ptr 1 0 0), (7, .ro (zm s) 0 s.length), (8, .int .i64 (s.length : Nat)), (9, .int .i64 (i : Nat))] ⟨Y, Y, Y, Y, Y, trivial⟩ (by kernel_rfl) (by decide) Y Y ?_
     refine zU Y Y (zH Y) ?_
     refine zU Y Y (zP Y Y Y Y Y Y) ?_
     refine zU Y Y (zT Y Y Y Y Y) ?_
     refine zU Y Y (zP Y Y Y Y Y Y) ?_
     refine zU Y Y (zT Y Y Y Y Y) ?_
     refine zBR Y Y Y Y Y cin ?_
     refine zAZ ?_
     refine zF (is := [6]) (by kernel_rfl) (by simp) Y ⟨fun o ho => ?_, trivial⟩
     all_goals (cases ho)
     refine zCq Y (.int Y) Y Y Y Y Y (keysC _) hnew ?_
     refine rn1 ?_
     refine zh (by kernel_rfl) ?_
     repeat (refine zf ?_)
     refine zA ?_
     refine zBQ [some ⟨209, oddC (s.take (i + 1))⟩, some ⟨67, .box [.int .i64 nf, .ro (.strs od) 0 od.length]⟩] (by rw [htk]; unfold oddC; rw [List.map_append, List.map_append]; rfl) ?_
     refine zAa [some ⟨209, oddC (s.take (i + 1))⟩] [some ⟨67, .box [.int .i64 nf, .ro (.strs od) 0 od.length]⟩] [(3, .mp 0), (7, .ro (zm s) 0 s.length), (8, .int .i64 (s.length : Nat)), (9, .int .i64 (i : Nat))] Y ⟨Y, Y, Y, Y, trivial⟩ (fun h hh => by rw [hfix] at hh; exact absurd hh id) (zBw (zQw _ _)) Y ?_
     refine rn3 ?_
     exact zM ⟨i + 1, by omega, by omega, ⟨Y, Y, Y, Y, trivial⟩, Y⟩
   · have hie : i = s.length := by omega
     subst hie
     rw [List.take_length]
     refine rn5 ?_
     exact zI hR Y ⟨Y, Y⟩
 · rintro r H ⟨rfl, rfl⟩
   exact ⟨Y, trivial, fun h o ho => zGX (zMw s) h o ho⟩
theorem zLe {s : zAK} {c : TChoice} (hc : c ∈ s) : ∃ j : Nat, (s.map keyC)[j]? = some (.int .i64 c.info) ∧ (s.map valC)[j]? = some (.ro (qsC (c.odds.map zAM)) 0 (c.odds.map zAM).length) := by
 obtain ⟨j, hj⟩ := List.getElem?_of_mem hc
 exact ⟨j, by rw [List.getElem?_map, hj]; rfl, by rw [List.getElem?_map, hj]; rfl⟩
theorem zM2 (l : List Rat) (n : Nat) : zA2 n (qsC l) := by
 intro i j _ hj
 have hj : j < 3 := hj
 match j, hj with
 | 0, _ => rfl
 | 1, _ => rfl
 | 2, _ => rfl
end Go.Proofs.YtnkealfaldjipaaGreatDoor
namespace Go.Ax.Rt
open Go.Ax.Bg
def zCU (o : Option (List Rat)) (q : Option Rat) (k : Nat) : Option Rat := some (zMd o (q.getD 0) k)
def zDE (t : zQ) (o : zAI) : Nat → List (Option Rat)
 | 0 => (List.replicate t.length none).set 0 (some 1)
 | i + 1 => zAy (zCU (o i) ((zDE t o i).getD i none)) (t.getD i node0).next 0 (zDE t o i)
theorem zDm (t : zQ) (o : zAI) : ∀ i, (zDE t o i).length = t.length
 | 0 => by simp [zDE]
 | i + 1 => by rw [zDE, zDQ, zDm t o i]
theorem Valid.known {t : zQ} (h : Valid t) {i : Nat} (hi : i < t.length) : i = 0 ∨ ∃ a, a < i ∧ kid t a i := by
 by_cases h0 : i = 0
 · exact .inl h0
 · obtain ⟨a, ha, hk⟩ := h.has hi h0
   exact .inr ⟨a, (h.kid_lt ha hk).1, hk⟩
theorem zI3 {t : zQ} (h : Valid t) (o : zAI) : ∀ i, i ≤ t.length → ∀ j, j < t.length → (j = 0 ∨ ∃ a, a < i ∧ kid t a j) → (zDE t o i).getD j none = some ((zb t o).getD j 0)
 | 0, _, j, hj, hk => by
   rcases hk with rfl | ⟨a, ha, _⟩
   · rw [zDo h, zDE, Go.Ax.Dt.getD_set, if_pos ⟨rfl, by simpa using hj⟩]
   · omega
 | i + 1, hi, j, hj, hk => by
   have hi' : i < t.length := by omega
   have ih := zI3 h o i (by omega)
   rw [zDE]
   by_cases hki : kid t i j
   · obtain ⟨m, hm, rfl⟩ := zKg h hi' hki
     rw [zME _ _ _ _ _ _ hm (h.kids_nodup hi') (fun c hc => by rw [zDm]; have := h.behind hi' c hc; omega), Nat.zero_add, zEU h o hi' hm]
     unfold zCU
     rw [ih i hi' (h.known hi')]
     rfl
   · have hne : ∀ c ∈ (t.getD i node0).next, c.toNat ≠ j := fun c hc e => by
       have := h.behind hi' c hc
       apply hki
       show (j : Int) ∈ _
       rw [← e, Int.toNat_of_nonneg (by omega)]
       exact hc
     rw [zBt _ _ _ _ _ hne]
     refine ih j hj ?_
     rcases hk with rfl | ⟨a, ha, hka⟩
     · exact .inl Y
     · refine .inr ⟨a, ?_, hka⟩
       have : a ≠ i := fun e => hki (e ▸ hka)
       omega
theorem zOW {t : zQ} (h : Valid t) (o : zAI) : zDE t o t.length = (zb t o).map some := by
 have hl : (zb t o).length = t.length := zCp t o _
 apply List.ext_getElem
 · rw [zDm, List.length_map, hl]
 · intro j h1 h2
   rw [zDm] at h1
   have := zI3 h o t.length (Nat.le_refl _) j h1 (by
     rcases h.known h1 with e | ⟨a, ha, hk⟩
     · exact .inl e
     · exact .inr ⟨a, by omega, hk⟩)
   rw [List.getElem_map]
   rw [List.getD_eq_getElem?_getD, List.getElem?_eq_getElem (by rw [zDm]; exact h1), List.getD_eq_getElem?_getD, List.getElem?_eq_getElem (by omega)] at this
   exact this
end Go.Ax.Rt
namespace Go.Ax
open Go
variable [Pins]
theorem zEb {P : Program} (w : World) {t e : TypeId} (a : Option Addr) (n c : Nat) (h : P.underlying t = some (.slice e)) : (binOp .neq t (.slice a n c) (.slice none 0 0)).run P w = .ok (.bool (!a.isNone)) w := by
 have _pin := (inferInstance : Pins)
 have h1 : ∀ d : Nat, (Op.equalIn (d + 1) t (.slice a n c) (.slice none 0 0)).run P w = .ok a.isNone w := fun d => by
   cases a with
   | none => simp [Op.equalIn, run_underlying h]
   | some a => simp [Op.equalIn, run_underlying h]
 simp only [binOp]
 simp [Op.equal, Op.maxDepth, h1 9999]
section
variable {P : Program} {fn : Func} {c : Ctx} {fr : Fr} {H : zZ} {k : List It} {ind : Bool} {d : Option Nat} {ty : TypeId} {pos : String} {after : Array Edge} {g : Option (Nat × Bool)}
theorem zOD {x y : Operand} {t t' e : TypeId} (ht : P.underlying t = some (.slice e)) (hx : ev fr x = some .nil) (hy : ev fr y = some .nil) : QOp ind P fn c fr H ⟨d, .binOp .neq t x y t', ty, pos, after, g⟩ (.bool false) := by
 intro w a σ S hr
 have h1 := hr.evAt hx
 have h2 := hr.evAt hy
 generalize hz : a.eval x = z at h1
 generalize hzy : a.eval y = zy at h2
 cases h1
 cases h2
 refine ⟨_, .bool _ _, fun w' _ => ?_⟩
 have hb := zEb (P := P) w' none 0 0 ht
 simp only [execOp, hz, hzy, Sem.run_bind, zCl, Result.andThen_ok, hb]
 rfl
theorem q_neqnil {x y : Operand} {t t' e : TypeId} {cl : Cells} {i n : Nat} (ht : P.underlying t = some (.slice e)) (hx : ev fr x = some (.ro cl i n)) (hy : ev fr y = some .nil) (hn : 0 < n) : QOp ind P fn c fr H ⟨d, .binOp .neq t x y t', ty, pos, after, g⟩ (.bool true) := by
 intro w a σ S hr
 have h1 := hr.evAt hx
 have h2 := hr.evAt hy
 generalize hz : a.eval x = z at h1
 generalize hzy : a.eval y = zy at h2
 cases h2
 cases h1 with
 | ro0 _ _ _ ad cap => exact absurd hn (Nat.lt_irrefl _)
 | ro _ _ _ _ b o cap val hS hlen hc hv h1' =>
   refine ⟨_, .bool _ _, fun w' _ => ?_⟩
   have hb := zEb (P := P) w' (some ⟨b, o, none⟩) n cap ht
   simp only [execOp, hz, hzy, Sem.run_bind, zCl, Result.andThen_ok, hb]
   rfl
end
end Go.Ax
namespace Go.Proofs.YtnkealfaldjipaaGreatDoor
open Go.Ax Go.Ax.Bg Go.Ax.Rt Go.RowKit Go.Ax.Idx Go.Ax.Cd
attribute [local irreducible] Ax zBG QOp zV zA0
set_option maxRecDepth 100000
set_option maxHeartbeats 4000000
def lA (o : Option (List Rat)) : AV := match o with
 | none => .nil
 | some l => .ro (qsC l) 0 l.length
structure OddsG (t : zQ) (o : zAI) : Prop where
 chance : ∀ i, i < t.length → (t.getD i node0).kind = 1 → o i = some ((t.getD i node0).odds.map zAM)
 ends : ∀ i, i < t.length → (t.getD i node0).kind = 0 → o i = none
 some : ∀ i, i < t.length → ∀ l, o i = some l → (t.getD i node0).next.length ≤ l.length ∧ 0 < l.length ∧ l.length ≤ 1000000 ∧ ∀ q ∈ l, Sz 100000 q
 reach : ∀ j, j < t.length → Sz 100000 ((zb t o).getD j 0)
theorem zNR {t : zQ} (hv : Valid t) {i : Nat} (hi : i < t.length) (hk : (t.getD i node0).kind = 1) : zCz (t.getD i node0).odds = 0 := by
 have h := hv.nodes i hi
 unfold zEI at h
 rw [if_neg (by omega), if_pos hk] at h
 split at h
 · cases h
 split at h
 · rename_i h1; exact absurd h h1
 split at h
 · cases h
 exact h
theorem zOr {t : zQ} (hv : Valid t) {i : Nat} (hi : i < t.length) : (t.getD i node0).kind = 0 ∨ (t.getD i node0).kind = 1 ∨ (t.getD i node0).kind = 2 := by
 rcases hv.child hi with h | h
 · exact .inl h.1
 · exact .inr h.1
theorem zL8 (l : List Rat) : CEq (zsC (l.map some)) (qsC l) := by
 refine ⟨by simp [zC3, Cells.len], Y, fun i j hi hj => ?_⟩
 have hi : i < l.length := by simpa [zC3, Cells.len] using hi
 show (zu (l.getD i 0)).getD j .any = (zBY ((l.map some).getD i none)).getD j .any
 rw [zBV some l 0 none i hi]
 rfl
theorem zDz (l : List (Option Rat)) (n : Nat) : zA2 n (zsC l) := by
 intro i j _ hj
 show zC2 n ((zBY (l.getD i none)).getD j .any) = true
 have hj : j < 3 := hj
 cases l.getD i none with
 | none => match j, hj with
   | 0, _ => rfl
   | 1, _ => rfl
   | 2, _ => rfl
 | some q => match j, hj with
   | 0, _ => rfl
   | 1, _ => rfl
   | 2, _ => rfl
theorem zJz (t : zQ) (o : zAI) (g : FuncId) (caps : List AV) (hcp : noRef.noRefs caps = true) (hcb : zCD 1 caps = true) (hT : ShortT t) (hv : Valid t) (hG : OddsG t o)
   (hg : ∀ i, i < t.length → (t.getD i node0).kind = 2 → zW Tryz.prog g ([.agg (zBs (t.getD i node0))] ++ caps) (lA (o i))) :
   zW Tryz.prog 133 [.ro (zc t) 0 t.length, .fn g caps] (.ro (qsC (zb t o)) 0 t.length) := by
 have hlen := hT.len
 have h120 := hv.le
 have hne := hv.ne
 have hrep : (List.replicate t.length (none : Option Rat)).length = t.length := List.length_replicate
 refine zV.value0 (zG (P := Tryz.prog) (fn := Tryz.f133) Y Y (by kernel_rfl) Y (fun c hR hfix => ?_)) (fix := fun _ => False) (fun _ h => h) (by simp [noRef.noRefs, noRef, hcp]) Y
 refine rn3 ?_
 refine zCB Y Y Y Y Y Y Y Y (by show (0 : Int) ≤ _ ∧ _ ≤ _ ∧ (56 : Int) * _ ≤ _ ∧ _; omega) ?_
 refine rn0 ?_
 refine zB Y Y Y zKv ?_
 unfold qA
 refine zAs [some ⟨122, zsC (List.replicate t.length none)⟩] (zAB.eqv (zJi _) zAB.nil) ?_
 have hz0 : 0 < (zsC (List.replicate t.length none)).len := by show 0 < (List.replicate t.length (none : Option Rat)).length; omega
 repeat (refine zD (zd rfl rfl rfl rfl rfl (by first | (simp only [Nat.zero_add, Int.toNat_natCast, Int.toNat_zero]; exact rfl) | exact rfl) (by omega)) ?_)
 refine zO (c' := zsC ((List.replicate t.length none).set 0 (some 1))) Y Y Y Y Y hz0 (by show (List.set _ 0 _).length = (List.replicate _ _).length; simp) Y (fun i' j' hi' hj' => zCb none 3 zBY _ 0 (some 1) hz0 i' j' hi' hj') ?_
 refine rn3 ?_
 refine zi (ι := Nat) (fun i => [(0, .ro (zc t) 0 t.length), (1, .fn g caps), (5, .sl 0 0 t.length), (17, .ro (zc t) 0 t.length), (18, .int .i64 (t.length : Nat)), (19, .int .i64 (i : Nat))]) (fun i => [some ⟨122, zsC (zDE t o i)⟩])
   (fun i => i ≤ t.length) (fun i => t.length - i) 0 ⟨⟨rfl, rfl, rfl, rfl, rfl, rfl, trivial⟩, rfl, Nat.zero_le _⟩ ?_
 intro i hi
 refine rn4 ?_
 refine zE Y (fun h => ?_) (fun h => ?_)
 · have hi' : i < t.length := by omega
   have hsn := hT.node _ (zBM node0 hi')
   have hbh := hv.behind hi'
   have hWl := zDm t o i
   have hat := zI3 hv o i hi i hi' (hv.known hi')
   have hri := hG.reach i hi'
   have hk3 := zOr hv hi'
   have hch := fun hk => zNR hv hi' hk
   have hgc := hG.chance i hi'
   have hge := hG.ends i hi'
   have hgs := hG.some i hi'
   have hgg := hg i hi'
   have hnx : zDE t o (i + 1) = zAy (zCU (o i) ((zDE t o i).getD i none)) (t.getD i node0).next 0 (zDE t o i) := rfl
   generalize hW2 : zDE t o (i + 1) = W2 at *
   generalize zDE t o i = W at *
   generalize hoi : o i = oi at *
   generalize (zb t o).getD i 0 = ri at *
   rw [hat] at hnx
   obtain ⟨s1, s2, s3, s4⟩ := hsn
   refine rn6 ?_
   refine zN 23 (.agg (zBs (t.getD i node0))) Y (AEq.of_eq Y) ?_
   generalize hn : t.getD i node0 = n at *
   obtain ⟨kd, pl, nf, nx, od, py⟩ := n
   simp only at *
   refine zO (c' := .box [.int .i64 kd, .int .i64 pl, .int .i64 nf, .ro (.ints .i64 nx) 0 nx.length, .ro (.strs od) 0 od.length, .str py]) Y Y Y Y Y Nat.zero_lt_one Y Y (fun i' j' hi' hj' => ?_) ?_
   · rw [if_pos (Nat.lt_one_iff.1 hi')]; rfl
   refine zAd [some ⟨122, zsC (W)⟩, some ⟨40, .box [.int .i64 kd, .int .i64 pl, .int .i64 nf, .ro (.ints .i64 nx) 0 nx.length, .ro (.strs od) 0 od.length, .str py]⟩] Y ?_
   refine zN 7 (.ptr 1 0 0) Y (AEq.of_eq Y) ?_
   apply zAu (H := [some ⟨122, zsC (W)⟩, some ⟨40, .box [.int .i64 kd, .int .i64 pl, .int .i64 nf, .ro (.ints .i64 nx) 0 nx.length, .ro (.strs od) 0 od.length, .str py]⟩]) [(0, .ro (zc t) 0 t.length), (1, .fn g caps), (5, .sl 0 0 t.length), (6, .int .i64 (i : Nat)), (7, .ptr 1 0 0), (8, lA oi), (17, .ro (zc t) 0 t.length), (18, .int .i64 (t.length : Nat)), (19, .int .i64 (i : Nat)), (37, .ro (.ints .i64 nx) 0 nx.length), (38, .int .i64 (nx.length : Nat)), (39, .int .i64 0)]
   · intro fin
     refine rn5 ?_
     rcases hk3 with hk | hk | hk
     · have := hge hk
       subst this
       subst hk
       refine rn5 ?_
       exact fin _ ⟨Y, Y, Y, Y, Y, Y, Y, Y, Y, Y, Y, Y, trivial⟩
     · have h1 := hgc hk
       have h2 := hch hk
       subst hk
       subst h1
       obtain ⟨v1, v2, _, _⟩ := zBh h2
       have cin := zOv od (by omega) (fun r hr => ⟨s3 r hr, v2 r hr⟩)
       refine rn5 ?_
       refine zB Y Y Y cin ?_
       refine rn5 ?_
       exact fin _ ⟨Y, Y, Y, Y, Y, Y, Y, Y, Y, Y, Y, Y, trivial⟩
     · have h1 := hgg hk
       subst hk
       refine rn6 ?_
       refine zN 34 (.agg (zBs ⟨2, pl, nf, nx, od, py⟩)) Y (AEq.of_eq Y) ?_
       refine zB Y Y Y h1 ?_
       refine rn5 ?_
       exact fin _ ⟨Y, Y, Y, Y, Y, Y, Y, Y, Y, Y, Y, Y, trivial⟩
   cases oi with
   | none =>
     refine zi (ι := Nat) (fun j => [(0, .ro (zc t) 0 t.length), (1, .fn g caps), (5, .sl 0 0 t.length), (6, .int .i64 (i : Nat)), (7, .ptr 1 0 0), (8, .nil), (17, .ro (zc t) 0 t.length), (18, .int .i64 (t.length : Nat)), (19, .int .i64 (i : Nat)), (37, .ro (.ints .i64 nx) 0 nx.length), (38, .int .i64 (nx.length : Nat)), (39, .int .i64 (j : Nat))]) (fun j => [some ⟨122, zsC (zAy (zCU none (some ri)) (nx.take j) 0 W)⟩, some ⟨40, .box [.int .i64 kd, .int .i64 pl, .int .i64 nf, .ro (.ints .i64 nx) 0 nx.length, .ro (.strs od) 0 od.length, .str py]⟩])
       (fun j => j ≤ nx.length) (fun j => nx.length - j) 0 ⟨⟨rfl, rfl, rfl, rfl, rfl, rfl, rfl, rfl, rfl, rfl, rfl, rfl, trivial⟩, rfl, Nat.zero_le _⟩ ?_
     intro j hj
     refine rn4 ?_
     refine zE Y (fun h5 => ?_) (fun h5 => ?_)
     · have hj' : j < nx.length := by omega
       obtain ⟨b1, b2⟩ := hbh _ (zAQ 0 hj')
       have hAl : (zAy (zCU none (some ri)) (nx.take j) 0 W).length = t.length := by rw [zDQ]; exact hWl
       have hAi : (zAy (zCU none (some ri)) (nx.take j) 0 W).getD i none = some ri := (zBt _ none _ _ _ (fun c hc => by have := hbh c (List.mem_of_mem_take hc); omega)).trans hat
       have hst : zAy (zCU none (some ri)) (nx.take (j + 1)) 0 W = (zAy (zCU none (some ri)) (nx.take j) 0 W).set (nx.getD j 0).toNat (zCU none (some ri) j) := by
         rw [zDD hj', zDh, List.length_take, Nat.min_eq_left hj, Nat.zero_add]
       generalize hA2 : zAy (zCU none (some ri)) (nx.take (j + 1)) 0 W = A2 at *
       generalize zAy (zCU none (some ri)) (nx.take j) 0 W = A at *
       obtain ⟨x, hx⟩ := Int.eq_ofNat_of_zero_le (show 0 ≤ nx.getD j 0 by omega)
       have hxn : (nx.getD j 0).toNat = x := by rw [hx, Int.toNat_natCast]
       rw [hx] at b1 b2
       rw [hxn] at hst
       have hxl : x < A.length := by omega
       have gi : i < (zsC A).len := by show i < A.length; omega
       have gx : x < (zsC A).len := hxl
       have hA1i : (A.set x (some ri)).getD i none = some ri := by rw [Go.Ax.Dt.getD_set, if_neg (by omega)]; exact hAi
       have gi1 : i < (zsC (A.set x (some ri))).len := by show i < (A.set x (some ri)).length; rw [List.length_set]; omega
       have gx1 : x < (zsC (A.set x (some ri))).len := by show x < (A.set x (some ri)).length; rw [List.length_set]; omega
       repeat (first | refine zA ?_ | refine zX ?_ | refine zx ?_ | refine zl ?_)
       refine zK Y ?_
       repeat (first | refine zD (zH rfl) ?_ | refine zD (zL rfl) ?_ | refine zD (zAi rfl rfl rfl) ?_ | refine zC ?_ | refine zA ?_ | refine zX ?_ | refine zD (ze rfl rfl rfl rfl (by first | (simp only [Nat.zero_add, Int.toNat_natCast, Int.toNat_zero]; exact rfl) | exact rfl) (by omega)) ?_)
       refine z7 10 (.int .i64 (x : Nat)) Y (AEq.of_eq (by rw [hx])) ?_
       refine rn6 ?_
       refine zN 49 (.agg (zu ri)) Y (AEq.of_eq (show AV.agg [(zBY (A.getD i none)).getD 0 .any, (zBY (A.getD i none)).getD 1 .any, (zBY (A.getD i none)).getD 2 .any] = _ by rw [hAi]; rfl)) ?_
       refine zO (c' := zsC (A.set x (some ri))) Y Y Y Y Y hxl (by show (A.set x (some ri)).length = A.length; simp) Y (fun i' j' hi' hj' => zCb none 3 zBY A x (some ri) hxl i' j' hi' hj') ?_
       refine rn0 ?_
       refine zD (zOD Y Y Y) ?_
       refine rn5 ?_
       exact zM ⟨j + 1, by omega, by omega, ⟨Y, Y, Y, Y, Y, Y, Y, Y, Y, Y, Y, Y, trivial⟩, by rw [hA2, hst]; rfl⟩
     · have hje : j = nx.length := by omega
       subst hje
       rw [List.take_length, ← hnx]
       repeat (first | refine zf ?_ | refine zAm ?_ | refine zr ?_ | refine zq ?_ | refine zAD ?_)
       refine zA ?_
       refine zAa [some ⟨122, zsC (W2)⟩] [some ⟨40, .box [.int .i64 kd, .int .i64 pl, .int .i64 nf, .ro (.ints .i64 nx) 0 nx.length, .ro (.strs od) 0 od.length, .str py]⟩] [(0, .ro (zc t) 0 t.length), (1, .fn g caps), (5, .sl 0 0 t.length), (17, .ro (zc t) 0 t.length), (18, .int .i64 (t.length : Nat)), (19, .int .i64 (i : Nat))] Y ⟨Y, Y, Y, Y, Y, Y, trivial⟩ (fun h hh => by rw [hfix] at hh; exact absurd hh id) (zBw (zDz _ _)) (by show (true && (zCD 1 caps && _)) = true; rw [hcb]; rfl) ?_
       refine rn3 ?_
       exact zM ⟨i + 1, by omega, by omega, ⟨Y, Y, Y, Y, Y, Y, trivial⟩, by rw [hW2]⟩
   | some l =>
     obtain ⟨l1, l2, l3, l4⟩ := hgs l rfl
     refine zi (ι := Nat) (fun j => [(0, .ro (zc t) 0 t.length), (1, .fn g caps), (5, .sl 0 0 t.length), (6, .int .i64 (i : Nat)), (7, .ptr 1 0 0), (8, .ro (qsC l) 0 l.length), (17, .ro (zc t) 0 t.length), (18, .int .i64 (t.length : Nat)), (19, .int .i64 (i : Nat)), (37, .ro (.ints .i64 nx) 0 nx.length), (38, .int .i64 (nx.length : Nat)), (39, .int .i64 (j : Nat))]) (fun j => [some ⟨122, zsC (zAy (zCU (some l) (some ri)) (nx.take j) 0 W)⟩, some ⟨40, .box [.int .i64 kd, .int .i64 pl, .int .i64 nf, .ro (.ints .i64 nx) 0 nx.length, .ro (.strs od) 0 od.length, .str py]⟩])
       (fun j => j ≤ nx.length) (fun j => nx.length - j) 0 ⟨⟨rfl, rfl, rfl, rfl, rfl, rfl, rfl, rfl, rfl, rfl, rfl, rfl, trivial⟩, rfl, Nat.zero_le _⟩ ?_
     intro j hj
     refine rn4 ?_
     refine zE Y (fun h5 => ?_) (fun h5 => ?_)
     · have hj' : j < nx.length := by omega
       obtain ⟨b1, b2⟩ := hbh _ (zAQ 0 hj')
       have hAl : (zAy (zCU (some l) (some ri)) (nx.take j) 0 W).length = t.length := by rw [zDQ]; exact hWl
       have hAi : (zAy (zCU (some l) (some ri)) (nx.take j) 0 W).getD i none = some ri := (zBt _ none _ _ _ (fun c hc => by have := hbh c (List.mem_of_mem_take hc); omega)).trans hat
       have hst : zAy (zCU (some l) (some ri)) (nx.take (j + 1)) 0 W = (zAy (zCU (some l) (some ri)) (nx.take j) 0 W).set (nx.getD j 0).toNat (zCU (some l) (some ri) j) := by
         rw [zDD hj', zDh, List.length_take, Nat.min_eq_left hj, Nat.zero_add]
       generalize hA2 : zAy (zCU (some l) (some ri)) (nx.take (j + 1)) 0 W = A2 at *
       generalize zAy (zCU (some l) (some ri)) (nx.take j) 0 W = A at *
       obtain ⟨x, hx⟩ := Int.eq_ofNat_of_zero_le (show 0 ≤ nx.getD j 0 by omega)
       have hxn : (nx.getD j 0).toNat = x := by rw [hx, Int.toNat_natCast]
       rw [hx] at b1 b2
       rw [hxn] at hst
       have hxl : x < A.length := by omega
       have gi : i < (zsC A).len := by show i < A.length; omega
       have gx : x < (zsC A).len := hxl
       have hA1i : (A.set x (some ri)).getD i none = some ri := by rw [Go.Ax.Dt.getD_set, if_neg (by omega)]; exact hAi
       have gi1 : i < (zsC (A.set x (some ri))).len := by show i < (A.set x (some ri)).length; rw [List.length_set]; omega
       have gx1 : x < (zsC (A.set x (some ri))).len := by show x < (A.set x (some ri)).length; rw [List.length_set]; omega
       repeat (first | refine zA ?_ | refine zX ?_ | refine zx ?_ | refine zl ?_)
       refine zK Y ?_
       repeat (first | refine zD (zH rfl) ?_ | refine zD (zL rfl) ?_ | refine zD (zAi rfl rfl rfl) ?_ | refine zC ?_ | refine zA ?_ | refine zX ?_ | refine zD (ze rfl rfl rfl rfl (by first | (simp only [Nat.zero_add, Int.toNat_natCast, Int.toNat_zero]; exact rfl) | exact rfl) (by omega)) ?_)
       refine z7 10 (.int .i64 (x : Nat)) Y (AEq.of_eq (by rw [hx])) ?_
       refine rn6 ?_
       refine zN 49 (.agg (zu ri)) Y (AEq.of_eq (show AV.agg [(zBY (A.getD i none)).getD 0 .any, (zBY (A.getD i none)).getD 1 .any, (zBY (A.getD i none)).getD 2 .any] = _ by rw [hAi]; rfl)) ?_
       refine zO (c' := zsC (A.set x (some ri))) Y Y Y Y Y hxl (by show (A.set x (some ri)).length = A.length; simp) Y (fun i' j' hi' hj' => zCb none 3 zBY A x (some ri) hxl i' j' hi' hj') ?_
       refine rn0 ?_
       refine zD (q_neqnil Y Y Y l2) ?_
       refine rn5 ?_
       have hjl : j < l.length := by omega
       have cmul : zW Tryz.prog 105 [.agg [(zBY ((A.set x (some ri)).getD i none)).getD 0 .any, (zBY ((A.set x (some ri)).getD i none)).getD 1 .any, (zBY ((A.set x (some ri)).getD i none)).getD 2 .any], qA (l.getD j 0)] (qA (ri * l.getD j 0)) := by
         rw [hA1i]
         exact zFx ri (l.getD j 0) hri (l4 _ (zAQ 0 hjl))
       refine zk (by kernel_rfl) ?_
       refine zt (fuel := 1) [0, 1, 2, 3, 4, 5, 6, 7, 8, 9, 10, 11] [(0, .ro (zc t) 0 t.length), (1, .fn g caps), (5, .sl 0 0 t.length), (6, .int .i64 (i : Nat)), (7, .ptr 1 0 0), (8, .ro (qsC l) 0 l.length), (17, .ro (zc t) 0 t.length), (18, .int .i64 (t.length : Nat)), (19, .int .i64 (i : Nat)), (37, .ro (.ints .i64 nx) 0 nx.length), (38, .int .i64 (nx.length : Nat)), (39, .int .i64 (j : Nat)), (9, .int .i64 (j : Nat)), (10, .int .i64 (x : Nat))] ⟨Y, Y, Y, Y, Y, Y, Y, Y, Y, Y, Y, Y, Y, Y, trivial⟩ (by kernel_rfl) (by decide) Y Y ?_
       refine zU Y Y (zH Y) ?_
       refine zU Y Y (zH Y) ?_
       refine zU Y Y (zH Y) ?_
       refine zU Y Y (zH Y) ?_
       refine zU Y Y (zd Y Y Y Y Y (by first | (simp only [Nat.zero_add, Int.toNat_natCast, Int.toNat_zero]; exact Y) | exact Y) (by omega)) ?_
       refine zU Y Y (zn Y Y Y Y Y Y Y (by first | exact Nat.zero_lt_one | assumption | omega)) ?_
       refine zU Y Y (zH Y) ?_
       refine zU Y Y (zH Y) ?_
       refine zU Y Y (ze Y Y Y Y (by first | (simp only [Nat.zero_add, Int.toNat_natCast, Int.toNat_zero]; exact Y) | exact Y) (by omega)) ?_
       refine zU Y Y (zBS Y Y Y Y Y Y) ?_
       refine zBR Y Y Y Y Y cmul ?_
       refine zU Y Y (zd Y Y Y Y Y (by first | (simp only [Nat.zero_add, Int.toNat_natCast, Int.toNat_zero]; exact Y) | exact Y) (by omega)) ?_
       refine zAZ ?_
       refine zF (is := [12]) (by kernel_rfl) (by simp) Y ⟨fun o ho => ?_, trivial⟩
       all_goals (cases ho)
       skip
       unfold qA
       refine zO (c' := zsC ((A.set x (some ri)).set x (some (ri * l.getD j 0)))) Y Y Y Y Y gx1 (by show (List.set _ x _).length = (A.set x (some ri)).length; simp) Y (fun i' j' hi' hj' => zCb none 3 zBY (A.set x (some ri)) x (some (ri * l.getD j 0)) gx1 i' j' hi' hj') ?_
       refine rn1 ?_
       refine zh (by kernel_rfl) ?_
       refine rn5 ?_
       exact zM ⟨j + 1, by omega, by omega, ⟨Y, Y, Y, Y, Y, Y, Y, Y, Y, Y, Y, Y, trivial⟩, by rw [hA2, hst]; exact congrArg (fun z => [some (AObj.mk 122 (zsC z)), some (AObj.mk 40 (.box [.int .i64 kd, .int .i64 pl, .int .i64 nf, .ro (.ints .i64 nx) 0 nx.length, .ro (.strs od) 0 od.length, .str py]))]) (List.set_set ..)⟩
     · have hje : j = nx.length := by omega
       subst hje
       rw [List.take_length, ← hnx]
       repeat (first | refine zf ?_ | refine zAm ?_ | refine zr ?_ | refine zq ?_ | refine zAD ?_)
       refine zA ?_
       refine zAa [some ⟨122, zsC (W2)⟩] [some ⟨40, .box [.int .i64 kd, .int .i64 pl, .int .i64 nf, .ro (.ints .i64 nx) 0 nx.length, .ro (.strs od) 0 od.length, .str py]⟩] [(0, .ro (zc t) 0 t.length), (1, .fn g caps), (5, .sl 0 0 t.length), (17, .ro (zc t) 0 t.length), (18, .int .i64 (t.length : Nat)), (19, .int .i64 (i : Nat))] Y ⟨Y, Y, Y, Y, Y, Y, trivial⟩ (fun h hh => by rw [hfix] at hh; exact absurd hh id) (zBw (zDz _ _)) (by show (true && (zCD 1 caps && _)) = true; rw [hcb]; rfl) ?_
       refine rn3 ?_
       exact zM ⟨i + 1, by omega, by omega, ⟨Y, Y, Y, Y, Y, Y, trivial⟩, by rw [hW2]⟩
 · have hie : i = t.length := by omega
   subst hie
   rw [zOW hv]
   repeat (first | refine zA ?_ | refine zX ?_ | refine zAm ?_ | refine zr ?_ | refine zq ?_ | refine zAD ?_)
   refine zBu [some ⟨122, qsC (zb t o)⟩] (zAB.eqv (zL8 _) zAB.nil) ?_
   refine zAV 0 5 t.length [] Y (zEp _) Y (by show t.length ≤ (zb t o).length; rw [show (zb t o).length = t.length from zCp t o _]; exact Nat.le_refl _) trivial ?_
   refine rn0 ?_
   exact zI hR Y Y
end Go.Proofs.YtnkealfaldjipaaGreatDoor
namespace Go.Ax.Rt
open Go.Ax.Bg
theorem le_num {q : Rat} {M : Nat} (h : q ≤ (M : Rat)) : q.num ≤ M * q.den := by
 have h2 := Rat.not_lt.2 h
 rw [Rat.lt_iff] at h2
 rw [Rat.num_natCast, Rat.den_natCast] at h2
 have : ¬ ((M : Int) * (q.den : Int) < q.num * 1) := h2
 omega
theorem num_le {q : Rat} {M : Nat} (h : q.num ≤ M * q.den) : q ≤ (M : Rat) := by
 refine Rat.not_lt.1 (fun h2 => ?_)
 rw [Rat.lt_iff, Rat.num_natCast, Rat.den_natCast] at h2
 have : (M : Int) * (q.den : Int) < q.num * 1 := h2
 omega
theorem D_le {k : Nat} {q : Rat} (h : D k q) : q ≤ ((10 ^ k : Nat) : Rat) ∧ -q ≤ ((10 ^ k : Nat) : Rat) := by
 have h1 := h.1
 have h2 := q.den_pos
 generalize 10 ^ k = T at *
 have h3 : (T : Int) * 1 ≤ T * q.den := Int.mul_le_mul_of_nonneg_left (by omega) (by omega)
 refine ⟨num_le (by omega), num_le ?_⟩
 show -q.num ≤ (T : Int) * (q.den : Int)
 omega
theorem bnd_D {B K M : Nat} {q : Rat} (h : Dv B q) (hB : B ≠ 0) (h1 : q ≤ (M : Rat)) (h2 : -q ≤ (M : Rat)) (hM : M * B < 10 ^ K) (hK : B < 10 ^ K) : D K q := by
 have hd := Nat.le_of_dvd (by omega) (h.den hB)
 refine ⟨?_, by omega⟩
 have a1 := le_num h1
 have a2 := le_num h2
 have a2 : -q.num ≤ (M : Int) * (q.den : Int) := a2
 have a3 : M * q.den ≤ M * B := Nat.mul_le_mul_left _ hd
 have a4 : ((M * q.den : Nat) : Int) = (M : Int) * (q.den : Int) := Int.natCast_mul _ _
 omega
theorem Dv.sum {B : Nat} {l : List Rat} : (∀ q ∈ l, Dv B q) → ∀ {acc : Rat}, Dv B acc → Dv B (zAH acc l) := by
 induction l with
 | nil => intro _ acc h; exact h
 | cons a r ih => intro h acc ha; exact ih (fun q hq => h q (by simp [hq])) (ha.add (h a (by simp)))
theorem zLm (f : Nat → Rat) (c : Rat) : ∀ ks : List Nat, zAH 0 (ks.map (fun i => f i * c)) = zAH 0 (ks.map f) * c
 | [] => by rw [List.map_nil, List.map_nil, zAH, Rat.zero_mul]
 | a :: r => by
   rw [List.map_cons, List.map_cons, zAH, zAH, zBF, zBF (r.map f), zLm f c r, Rat.zero_add, Rat.zero_add, Rat.add_mul]
theorem zMO {f g : Nat → Rat} : ∀ {ks : List Nat}, (∀ i ∈ ks, f i ≤ g i) → zAH 0 (ks.map f) ≤ zAH 0 (ks.map g)
 | [], _ => Rat.le_refl
 | a :: r, h => by
   rw [List.map_cons, List.map_cons, zAH, zAH, zBF, zBF (r.map g), Rat.zero_add, Rat.zero_add]
   have h1 := (Rat.add_le_add_right (c := zAH 0 (r.map f))).2 (h a (by simp))
   have h2 := (Rat.add_le_add_left (c := g a)).2 (zMO (ks := r) (fun i hi => h i (by simp [hi])))
   exact Rat.le_trans h1 h2
/-- the product of the denominators of the payments -/
def payB (t : zQ) : Nat := zFc (t.map (fun n => if n.kind = 0 then (zAM n.pay).den else 1))
theorem zKk (t : zQ) : 0 < payB t := by
 refine zIx (fun x hx => ?_)
 obtain ⟨n, _, rfl⟩ := List.mem_map.1 hx
 split
 · exact Rat.den_pos _
 · exact Nat.one_pos
structure Pays (t : zQ) (d : Nat) : Prop where
 dig : ∀ i, i < t.length → (t.getD i node0).kind = 0 → D d (zAM (t.getD i node0).pay)
theorem zP3 {t : zQ} {d : Nat} (h : Pays t d) : payB t ≤ 10 ^ (d * t.length) := by
 have h1 := zHz (l := t.map (fun n => if n.kind = 0 then (zAM n.pay).den else 1)) (d := d) (fun x hx => by
   obtain ⟨n, hn, rfl⟩ := List.mem_map.1 hx
   obtain ⟨i, hi, rfl⟩ := List.getElem_of_mem hn
   split
   · rename_i h2
     have := h.dig i hi (by rw [z8 node0 hi]; exact h2)
     rw [z8 node0 hi] at this
     exact Nat.le_of_lt this.2
   · exact Nat.pow_pos (by decide))
 rwa [List.length_map] at h1
theorem zNh {t : zQ} {i : Nat} (hi : i < t.length) (hk : (t.getD i node0).kind = 0) : (zAM (t.getD i node0).pay).den ∣ payB t := by
 refine zG9 (List.mem_map.2 ⟨t.getD i node0, zAQ node0 hi, ?_⟩)
 rw [if_pos hk]
theorem value_Dv {t : zQ} (h : Valid t) {o : zAI} {d : Nat} (ho : OddsAll t o d) (hn : t.length ≤ 40) : Dv (Bd o t.length * payB t) (zAj t o) := by
 refine Dv.sum (fun q hq => ?_) (Dv.zero _)
 obtain ⟨i, hi, rfl⟩ := List.mem_map.1 hq
 obtain ⟨i1, i2⟩ := zCc hi
 exact (zPk h ho hn i1).1.mul (Dv.of_den.mono (zNh i1 i2))
theorem value_le {t : zQ} (h : Valid t) {o : zAI} {d : Nat} (ho : OddsAll t o d) {e : Nat} (hp : Pays t e) : zAj t o ≤ ((10 ^ e : Nat) : Rat) ∧ -(zAj t o) ≤ ((10 ^ e : Nat) : Rat) := by
 have hs := ends_sum h ho.toOddsOK
 have one : zAH 0 ((zw t).map (fun j => (zb t o).getD j 0 * ((10 ^ e : Nat) : Rat))) = ((10 ^ e : Nat) : Rat) := by
   rw [zLm, hs, Rat.one_mul]
 constructor
 · rw [← one]
   refine zMO (fun i hi => ?_)
   obtain ⟨i1, i2⟩ := zCc hi
   exact Rat.mul_le_mul_of_nonneg_left (D_le (hp.dig i i1 i2)).1 (zHX h ho i i1).2
 · unfold zAj
   rw [← zKa, ← one]
   refine zMO (fun i hi => ?_)
   obtain ⟨i1, i2⟩ := zCc hi
   unfold zDe
   rw [← Rat.mul_neg]
   exact Rat.mul_le_mul_of_nonneg_left (D_le (hp.dig i i1 i2)).2 (zHX h ho i i1).2
theorem value_D' {t : zQ} (h : Valid t) {o : zAI} (ho : OddsAll t o 12) (hn : t.length ≤ 40) (hp : Pays t 12) {E1 E2 W : Nat} (hB : Bd o t.length < 10 ^ E1) (hP : payB t ≤ 10 ^ E2) (hW : 12 + (E1 + E2) ≤ W) : D W (zAj t o) := by
 have e1 : Bd o t.length * payB t < 10 ^ E1 * 10 ^ E2 := by
   refine Nat.lt_of_lt_of_le ((Nat.mul_lt_mul_right (zKk t)).2 hB) ?_
   exact Nat.mul_le_mul_left _ hP
 rw [← Nat.pow_add] at e1
 obtain ⟨v1, v2⟩ := value_le h ho hp
 have hpos : 0 < Bd o t.length * payB t := Nat.mul_pos (zMH o _) (zKk t)
 refine bnd_D (value_Dv h ho hn) (by omega) v1 v2 ?_ ?_
 · have := (Nat.mul_lt_mul_left (a := 10 ^ 12) (Nat.pow_pos (by decide))).2 e1
   rw [← Nat.pow_add] at this
   exact Nat.lt_of_lt_of_le this (Nat.pow_le_pow_right (by decide) hW)
 · exact Nat.lt_of_lt_of_le e1 (Nat.pow_le_pow_right (by decide) (by omega))
/-- The value of a game with short zAw is short. -/
theorem zIK {t : zQ} (h : Valid t) {o : zAI} (ho : OddsAll t o 12) (hn : t.length ≤ 40) (hp : Pays t 12) : D 974 (zAj t o) := by
 obtain ⟨_, hB⟩ := zPk h ho hn (show 0 < t.length by have := h.ne; omega)
 have hP := zP3 hp
 refine value_D' h ho hn hp (E1 := 12 * 40 + 1) (E2 := 12 * t.length) hB hP ?_
 omega
/-- the probabilities of chance and of both players -/
def zCM (t : zQ) (a b : Int → List Rat) : zAI := fun i =>
 if (t.getD i node0).kind = 1 then some ((t.getD i node0).odds.map zAM)
 else if (t.getD i node0).kind = 2 then some (if (t.getD i node0).player = 0 then a (t.getD i node0).info else b (t.getD i node0).info) else none
/-- the probabilities of chance and of the other player -/
def zGj (t : zQ) (p : Int) (u : Int → List Rat) : zAI := fun i =>
 if (t.getD i node0).kind = 1 then some ((t.getD i node0).odds.map zAM)
 else if (t.getD i node0).kind = 2 then (if (t.getD i node0).player = p then none else some (u (t.getD i node0).info)) else none
theorem zKh (t : zQ) (p : Int) (u : Int → List Rat) : ∀ i, i < t.length → own p (t.getD i node0) = true → zGj t p u i = none := by
 intro i hi h
 unfold own at h
 rw [Bool.and_eq_true, decide_eq_true_eq, decide_eq_true_eq] at h
 unfold zGj
 rw [if_neg (by omega), if_pos h.1, if_pos h.2]
theorem zJG {t : zQ} {o o' : zAI} (h : ∀ i, i < t.length → o i = o' i) : ∀ i, i ≤ t.length → zCF t o i = zCF t o' i
 | 0, _ => rfl
 | i + 1, hi => by rw [zCF, zCF, zJG h i (by omega), h i (by omega)]
theorem zEx {t : zQ} {o o' : zAI} (h : ∀ i, i < t.length → o i = o' i) : zAj t o = zAj t o' := by
 unfold zAj zb
 rw [zJG h t.length (Nat.le_refl _)]
theorem zCO {t : zQ} (hv : Valid t) {i : Nat} (hi : i < t.length) (hk : (t.getD i node0).kind = 2) : (t.getD i node0).player = 0 ∨ (t.getD i node0).player = 1 := by
 have h := hv.nodes i hi
 unfold zEI at h
 rw [if_neg (by omega), if_neg (by omega), if_pos hk] at h
 split at h
 · cases h
 split at h
 · cases h
 rename_i h1
 omega
theorem zE1 {p : Int} {n : TNode} : own p n = true ↔ n.kind = 2 ∧ n.player = p := by
 unfold own
 rw [Bool.and_eq_true, decide_eq_true_eq, decide_eq_true_eq]
theorem both0 {t : zQ} (hv : Valid t) (a b : Int → List Rat) : ∀ i, i < t.length → zEH t 0 a (zGj t 0 b) i = zCM t a b i := by
 intro i hi
 unfold zEH zGj zCM
 by_cases h : own 0 (t.getD i node0) = true
 · obtain ⟨h1, h2⟩ := zE1.1 h
   rw [if_pos h, if_neg (by omega), if_pos h1, if_pos h2]
 · rw [if_neg h]
   split
   · rfl
   split
   · rename_i h1 h2
     have h3 : ¬ (t.getD i node0).player = 0 := fun e => h (zE1.2 ⟨h2, e⟩)
     rw [if_neg h3, if_neg h3]
   · rfl
theorem both1 {t : zQ} (hv : Valid t) (a b : Int → List Rat) : ∀ i, i < t.length → zEH t 1 b (zGj t 1 a) i = zCM t a b i := by
 intro i hi
 unfold zEH zGj zCM
 by_cases h : own 1 (t.getD i node0) = true
 · obtain ⟨h1, h2⟩ := zE1.1 h
   rw [if_pos h, if_neg (by omega), if_pos h1, if_neg (by omega)]
 · rw [if_neg h]
   split
   · rfl
   split
   · rename_i h1 h2
     have h3 : ¬ (t.getD i node0).player = 1 := fun e => h (zE1.2 ⟨h2, e⟩)
     rw [if_neg h3, if_pos (by have := zCO hv hi h2; omega)]
   · rfl
/-- A game with few nodes and short zAw. -/
structure Modest (t : zQ) : Prop where
 len : t.length ≤ 40
 pay : ∀ n ∈ t, n.pay.length ≤ 12
 odds : ∀ n ∈ t, ∀ r ∈ n.odds, r.length ≤ 12
theorem zHJ {t : zQ} (hv : Valid t) {i : Nat} (hi : i < t.length) (hk : (t.getD i node0).kind = 0) : zDa (t.getD i node0).pay = 0 := by
 have h := hv.nodes i hi
 unfold zEI at h
 rw [if_pos hk] at h
 split at h
 · cases h
 · exact h
theorem zMV {t : zQ} (hv : Valid t) {i : Nat} (hi : i < t.length) (hk : (t.getD i node0).kind = 1) : (t.getD i node0).odds.length = (t.getD i node0).next.length ∧ zCz (t.getD i node0).odds = 0 := by
 have h := hv.nodes i hi
 unfold zEI at h
 rw [if_neg (by omega), if_pos hk] at h
 split at h
 · cases h
 split at h
 · rename_i h1; exact absurd h h1
 split at h
 · cases h
 · rename_i h1
   exact ⟨Classical.not_not.1 h1, h⟩
theorem Modest.pays {t : zQ} (hm : Modest t) (hv : Valid t) : Pays t 12 :=
 ⟨fun i hi hk => (IsQ.self (zHJ hv hi hk)).dig (hm.pay _ (zAQ node0 hi)) (by decide)⟩
theorem Modest.chance {t : zQ} (hm : Modest t) (hv : Valid t) {i : Nat} (hi : i < t.length) (hk : (t.getD i node0).kind = 1) : ((t.getD i node0).odds.map zAM).length = (t.getD i node0).next.length ∧ zAH 0 ((t.getD i node0).odds.map zAM) = 1 ∧ ∀ q ∈ (t.getD i node0).odds.map zAM, 0 ≤ q ∧ D 12 q := by
 obtain ⟨h1, h2⟩ := zMV hv hi hk
 obtain ⟨o1, o2, o3, o4⟩ := zBh h2
 refine ⟨by rw [List.length_map]; exact h1, o3, fun q hq => ⟨(o4 q hq).1, ?_⟩⟩
 obtain ⟨s, hs, rfl⟩ := List.mem_map.1 hq
 exact (IsQ.self (o2 s hs)).dig (hm.odds _ (zAQ node0 hi) s hs) (by decide)
theorem Strat.node {t : zQ} (hv : Valid t) {p : Int} {u : Int → List Rat} {d : Nat} (h : Strat t p u d) {i : Nat} (hi : i < t.length) (hk : (t.getD i node0).kind = 2) (hp : (t.getD i node0).player = p) :
   (u (t.getD i node0).info).length = (t.getD i node0).next.length ∧ zAH 0 (u (t.getD i node0).info) = 1 ∧ ∀ q ∈ u (t.getD i node0).info, 0 ≤ q ∧ D d q := by
 have hs : zBB p (t.getD i node0).info (t.getD i node0) = true := by
   unfold zBB
   rw [zE1.2 ⟨hk, hp⟩, decide_eq_true rfl]; rfl
 have hx : (t.getD i node0).info ∈ zJ t p := (zBg hv).2 ⟨i, hi, hs⟩
 exact ⟨by rw [h.len _ hx, zC4 hv hi hs], h.sum _ hx, fun q hq => ⟨h.nn _ hx q hq, h.dig _ hx q hq⟩⟩
theorem zFa {t : zQ} (hv : Valid t) (hm : Modest t) {a b : Int → List Rat} (ha : Strat t 0 a 12) (hb : Strat t 1 b 12) : OddsAll t (zCM t a b) 12 := by
 refine ⟨⟨fun i hi hk => ?_⟩, fun i hi hk => ?_⟩
 · by_cases h1 : (t.getD i node0).kind = 1
   · obtain ⟨c1, c2, c3⟩ := hm.chance hv hi h1
     refine ⟨_, ?_, c1, c2, c3⟩
     unfold zCM; rw [if_pos h1]
   · have h2 : (t.getD i node0).kind = 2 := by
       rcases hv.child hi with h | h
       · exact absurd h.1 hk
       · omega
     by_cases h3 : (t.getD i node0).player = 0
     · obtain ⟨c1, c2, c3⟩ := ha.node hv hi h2 h3
       refine ⟨_, ?_, c1, c2, c3⟩
       unfold zCM; rw [if_neg h1, if_pos h2, if_pos h3]
     · have h4 : (t.getD i node0).player = 1 := by have := zCO hv hi h2; omega
       obtain ⟨c1, c2, c3⟩ := hb.node hv hi h2 h4
       refine ⟨_, ?_, c1, c2, c3⟩
       unfold zCM; rw [if_neg h1, if_pos h2, if_neg h3]
 · unfold zCM; rw [if_neg (by omega), if_neg (by omega)]
theorem zKO {t : zQ} (hv : Valid t) (p : Int) (o : zAI) : Strat t p (zGJ t p o) 12 := by
 have hm := best_mix hv p o
 refine ⟨hm.len, hm.sum, hm.nn, fun x hx q hq => ?_⟩
 obtain ⟨c, h1, h2, _⟩ := zIl hv o hx
 have e : zGJ t p o x = zA1 (zR t p x) c := by unfold zGJ; rw [h1]; rfl
 rw [e] at hq
 exact ((zBX h2).2.2 q hq).2.mono (by decide)
/-- the best value of a player -/
def bestV (t : zQ) (p : Int) (u : Int → List Rat) : Rat := (zBW t p (zGj t p u)).2.1.getD 0 0
theorem best0 {t : zQ} (hv : Valid t) (hp : zBd t 0 = true) (b : Int → List Rat) : bestV t 0 b = zAj t (zCM t (zGJ t 0 (zGj t 0 b)) b) := by
 have h := zJs hv hp (zKh t 0 b)
 rw [if_neg (by decide), zEx (both0 hv _ b)] at h
 exact h.symm
theorem best1 {t : zQ} (hv : Valid t) (hp : zBd t 1 = true) (a : Int → List Rat) : bestV t 1 a = -(zAj t (zCM t a (zGJ t 1 (zGj t 1 a)))) := by
 have h := zJs hv hp (zKh t 1 a)
 rw [if_pos rfl, zEx (both1 hv a _)] at h
 exact h.symm
theorem bestV_D0 {t : zQ} (hv : Valid t) (hm : Modest t) (hp : zBd t 0 = true) {b : Int → List Rat} (hb : Strat t 1 b 12) : D 974 (bestV t 0 b) := by
 rw [best0 hv hp]
 exact zIK hv (zFa hv hm (zKO hv 0 _) hb) hm.len (hm.pays hv)
theorem bestV_D1 {t : zQ} (hv : Valid t) (hm : Modest t) (hp : zBd t 1 = true) {a : Int → List Rat} (ha : Strat t 0 a 12) : D 974 (bestV t 1 a) := by
 rw [best1 hv hp]
 exact (zIK hv (zFa hv hm ha (zKO hv 1 _)) hm.len (hm.pays hv)).neg
structure OddsW (t : zQ) (o : zAI) (d : Nat) : Prop where
 some : ∀ i, i < t.length → ∀ l, o i = some l → l.length = (t.getD i node0).next.length ∧ ∀ q ∈ l, 0 ≤ q ∧ q ≤ 1 ∧ D d q
theorem zP7 {t : zQ} (h : Valid t) {o : zAI} {d : Nat} (ho : OddsW t o d) : ∀ j, j < t.length → Dv (Bd o j) ((zb t o).getD j 0) ∧ 0 ≤ (zb t o).getD j 0 ∧ (zb t o).getD j 0 ≤ 1 := by
 intro j
 induction j using Nat.strongRecOn with
 | ind j ih =>
   intro hj
   by_cases h0 : j = 0
   · subst h0
     rw [zDo h]
     exact ⟨Dv.one _, by decide +kernel, Rat.le_refl⟩
   · obtain ⟨i, hi, hk⟩ := h.has hj h0
     have hlt := h.kid_lt hi hk
     obtain ⟨m, hm, he⟩ := zKg h hi hk
     have hr := zEU h o hi hm
     rw [he] at hr
     obtain ⟨g1, g2, g3⟩ := ih i (by omega) hi
     cases hoi : o i with
     | none =>
       rw [hoi] at hr
       have hr : (zb t o).getD j 0 = (zb t o).getD i 0 := hr
       rw [hr]
       have h6 := zHd o (i := i) (j - i)
       rw [show i + (j - i) = j by omega] at h6
       exact ⟨g1.mono h6, g2, g3⟩
     | some l =>
       obtain ⟨l2, l4⟩ := ho.some i hi l hoi
       rw [hoi] at hr
       have hr : (zb t o).getD j 0 = (zb t o).getD i 0 * l.getD m 0 := hr
       obtain ⟨q1, q2, q3⟩ := l4 (l.getD m 0) (zAQ 0 (by omega))
       rw [hr]
       refine ⟨?_, Rat.mul_nonneg g2 q1, ?_⟩
       · have h5 : Dv (Bd o (i + 1)) ((zb t o).getD i 0 * l.getD m 0) := by
           refine (g1.mul (Dv.of_den (q := l.getD m 0))).mono ?_
           show _ ∣ Bd o i * pden (o i)
           rw [hoi]
           exact Nat.mul_dvd_mul (Nat.dvd_refl _) (zG9 (List.mem_map.2 ⟨_, zAQ 0 (by omega), Y⟩))
         have h6 := zHd o (i := i + 1) (j - (i + 1))
         rw [show i + 1 + (j - (i + 1)) = j by omega] at h6
         exact h5.mono h6
       · have h7 := Rat.mul_le_mul_of_nonneg_left q2 g2
         rw [Rat.mul_one] at h7
         exact Rat.le_trans h7 g3
theorem Bd_w {t : zQ} {o : zAI} {d : Nat} (ho : OddsW t o d) : ∀ i, i ≤ t.length → Bd o i ≤ 10 ^ (d * ((t.take i).flatMap TNode.next).length)
 | 0, _ => by simp [Bd]
 | i + 1, hi => by
   have ih := Bd_w ho i (by omega)
   have hi' : i < t.length := by omega
   have hp : pden (o i) ≤ 10 ^ (d * (t.getD i node0).next.length) := by
     cases hoi : o i with
     | none => exact Nat.pow_pos (by decide)
     | some l =>
       obtain ⟨l2, l4⟩ := ho.some i hi' l hoi
       rw [← l2]
       have := zHz (l := l.map Rat.den) (d := d) (fun x hx => by
         obtain ⟨q, hq, rfl⟩ := List.mem_map.1 hx
         exact Nat.le_of_lt (l4 q hq).2.2.2)
       rwa [List.length_map] at this
   rw [Bd, List.take_succ_eq_append_getElem hi', List.flatMap_append, List.length_append, Nat.mul_add, Nat.pow_add]
   refine Nat.mul_le_mul ih ?_
   rw [z8 node0 hi'] at hp
   simpa using hp
theorem zCw {t : zQ} (h : Valid t) {o : zAI} {d : Nat} (ho : OddsW t o d) (hn : t.length ≤ 40) {j : Nat} (hj : j < t.length) : D (d * 40 + 1) ((zb t o).getD j 0) := by
 obtain ⟨g1, g2, g3⟩ := zP7 h ho j hj
 have h6 := zHd o (i := j) (t.length - j)
 rw [show j + (t.length - j) = t.length by omega] at h6
 have h7 := Bd_w ho t.length (Nat.le_refl _)
 rw [List.take_length] at h7
 have h8 := zKl h
 have h9 : d * (t.flatMap TNode.next).length ≤ d * 40 := Nat.mul_le_mul_left _ (by omega)
 have h10 : 10 ^ (d * (t.flatMap TNode.next).length) ≤ 10 ^ (d * 40) := Nat.pow_le_pow_right (by decide) h9
 have h11 : 0 < 10 ^ (d * 40) := Nat.pow_pos (by decide)
 have hpos := zMH o t.length
 refine zMQ (g1.mono h6) (by omega) g2 g3 ?_
 rw [Nat.pow_succ]
 omega
theorem zHG {l : List Rat} (hs : zAH 0 l = 1) (h0 : ∀ q ∈ l, 0 ≤ q) : ∀ q ∈ l, q ≤ 1 := by
 have key : ∀ (l : List Rat) (x : Rat), (∀ q ∈ l, 0 ≤ q) → x ∈ l → x ≤ zAH 0 l := by
   intro l
   induction l with
   | nil => intro x _ hx; simp at hx
   | cons a r ihl =>
     intro x hq hx
     rw [zAH, zBF, Rat.zero_add]
     have ha := hq a (by simp)
     have hr := zHu r 0 (fun y hy => hq y (by simp [hy]))
     rcases List.mem_cons.1 hx with rfl | hx
     · have := (Rat.add_le_add_left (c := x)).2 hr
       rwa [Rat.add_zero] at this
     · have h1 := ihl x (fun q hq' => hq q (by simp [hq'])) hx
       have := (Rat.add_le_add_right (c := zAH 0 r)).2 ha
       rw [Rat.zero_add] at this
       exact Rat.le_trans h1 this
 intro q hq
 rw [← hs]
 exact key l q h0 hq
theorem OddsAll.w {t : zQ} {o : zAI} {d : Nat} (h : OddsAll t o d) : OddsW t o d := by
 refine ⟨fun i hi l hl => ?_⟩
 by_cases hk : (t.getD i node0).kind = 0
 · rw [h.none i hi hk] at hl; cases hl
 · obtain ⟨l', h1, h2, h3, h4⟩ := h.at' i hi hk
   rw [hl] at h1
   obtain rfl := Option.some.inj h1
   have := zHG h3 (fun q hq => (h4 q hq).1)
   exact ⟨h2, fun q hq => ⟨(h4 q hq).1, this q hq, (h4 q hq).2⟩⟩
theorem one_w {t : zQ} (hv : Valid t) (hm : Modest t) {p : Int} {u : Int → List Rat} (hp : p = 0 ∨ p = 1) (hu : Strat t (1 - p) u 12) : OddsW t (zGj t p u) 12 := by
 refine ⟨fun i hi l hl => ?_⟩
 unfold zGj at hl
 by_cases h1 : (t.getD i node0).kind = 1
 · rw [if_pos h1] at hl
   obtain rfl := Option.some.inj hl
   obtain ⟨c1, c2, c3⟩ := hm.chance hv hi h1
   have := zHG c2 (fun q hq => (c3 q hq).1)
   exact ⟨c1, fun q hq => ⟨(c3 q hq).1, this q hq, (c3 q hq).2⟩⟩
 · rw [if_neg h1] at hl
   by_cases h2 : (t.getD i node0).kind = 2
   · rw [if_pos h2] at hl
     by_cases h3 : (t.getD i node0).player = p
     · rw [if_pos h3] at hl; cases hl
     · rw [if_neg h3] at hl
       obtain rfl := Option.some.inj hl
       obtain ⟨c1, c2, c3⟩ := hu.node hv hi h2 (by have := zCO hv hi h2; omega)
       have := zHG c2 (fun q hq => (c3 q hq).1)
       exact ⟨c1, fun q hq => ⟨(c3 q hq).1, this q hq, (c3 q hq).2⟩⟩
   · rw [if_neg h2] at hl; cases hl
theorem zOx {t : zQ} (hv : Valid t) (hm : Modest t) {a b : Int → List Rat} (ha : Strat t 0 a 12) (hb : Strat t 1 b 12) : OddsW t (zCM t a b) 12 := (zFa hv hm ha hb).w
/-- the ends before a node -/
def zAf (t : zQ) (i : Nat) : List Int := ((List.range i).filter (fun j => decide ((t.getD j node0).kind = 0))).map (fun j : Nat => (j : Int))
theorem zKD (t : zQ) (i : Nat) : zAf t (i + 1) = if (t.getD i node0).kind = 0 then zAf t i ++ [(i : Int)] else zAf t i := by
 unfold zAf
 rw [List.range_succ, List.filter_append, List.map_append]
 by_cases h : (t.getD i node0).kind = 0
 · rw [if_pos h, List.filter_cons_of_pos (by simpa using h)]; rfl
 · rw [if_neg h, List.filter_cons_of_neg (by simpa using h)]; simp
theorem zFv (t : zQ) : ∀ i, (zAf t i).length ≤ i
 | 0 => Nat.le_refl _
 | i + 1 => by
   have := zFv t i
   rw [zKD]
   split
   · rw [List.length_append]; show _ + 1 ≤ _; omega
   · omega
theorem zG4 (t : zQ) : zAf t t.length = (zw t).map (fun j : Nat => (j : Int)) := rfl
theorem zIs (t : zQ) {k : Nat} (hk : k < (zw t).length) : (zAf t t.length).getD k 0 = (((zw t).getD k 0 : Nat) : Int) := by
 rw [zG4, zBV _ _ 0 _ _ hk]
/-- the sum so far -/
def zGQ (t : zQ) (o : zAI) (k : Nat) : Rat := zAH 0 (((zw t).take k).map (zDe t (zb t o)))
theorem zLY (t : zQ) (o : zAI) {k : Nat} (hk : k < (zw t).length) : zGQ t o (k + 1) = zGQ t o k + zDe t (zb t o) ((zw t).getD k 0) := by
 unfold zGQ
 rw [List.take_succ_eq_append_getElem hk, List.map_append, List.map_singleton, zFn, z8 0 hk]
theorem zJ0 (t : zQ) (o : zAI) : zGQ t o (zw t).length = zAj t o := by
 unfold zGQ zAj; rw [List.take_length]
end Go.Ax.Rt
namespace Go.Proofs.YtnkealfaldjipaaGreatDoor
open Go.Ax Go.Ax.Bg Go.Ax.Rt Go.RowKit Go.Ax.Idx Go.Ax.Cd
attribute [local irreducible] Ax zBG QOp zV zA0
set_option maxRecDepth 100000
set_option maxHeartbeats 4000000
theorem zPu {t : zQ} (hv : Valid t) (hlen : t.length ≤ 40) {o : zAI} (ho : OddsW t o 12) (hc : ∀ i, i < t.length → (t.getD i node0).kind = 1 → o i = some ((t.getD i node0).odds.map zAM)) (he : ∀ i, i < t.length → (t.getD i node0).kind = 0 → o i = none) : OddsG t o := by
 refine ⟨hc, he, fun i hi l hl => ?_, fun j hj => zCE ((zCw hv ho hlen hj).mono (by decide))⟩
 obtain ⟨h1, h2⟩ := ho.some i hi l hl
 have hk : (t.getD i node0).kind ≠ 0 := fun e => by rw [he i hi e] at hl; cases hl
 have hn : 1 ≤ (t.getD i node0).next.length ∧ (t.getD i node0).next.length ≤ 6 := by
   rcases hv.child hi with h | h
   · exact absurd h.1 hk
   · exact ⟨(zBp h.2).1, (zBp h.2).2.1⟩
 exact ⟨by omega, by omega, by omega, fun q hq => zCE ((h2 q hq).2.2.mono (by decide))⟩
theorem zMk (t : zQ) (hlen : t.length ≤ 1000000) : zW Tryz.prog 135 [.ro (zc t) 0 t.length] (.ro (.ints .i64 (zAf t t.length)) 0 (zAf t t.length).length) := by
 refine zV.value0 (zG (P := Tryz.prog) (fn := Tryz.f135) Y Y (by kernel_rfl) Y (fun c hR hfix => ?_)) (fix := fun _ => False) (fun _ h => h) Y Y
 repeat (first | refine zD (zH rfl) ?_ | refine zD (zL rfl) ?_ | refine zC ?_ | refine zA ?_ | refine zX ?_ | refine zK rfl ?_ | refine zD (zA9 rfl rfl rfl) ?_)
 refine zA4 3 ⟨3, .ints .i64 []⟩ Y Y ?_
 repeat (refine zx ?_)
 refine zi (ι := Nat) (fun i => [(3, .sl 0 0 (zAf t i).length), (6, .ro (zc t) 0 t.length), (7, .int .i64 (t.length : Nat)), (8, .int .i64 (i : Nat))]) (fun i => [some ⟨3, .ints .i64 (zAf t i)⟩])
   (fun i => i ≤ t.length) (fun i => t.length - i) 0 ⟨⟨rfl, rfl, rfl, rfl, trivial⟩, rfl, Nat.zero_le _⟩ ?_
 intro i hi
 refine rn4 ?_
 refine zE Y (fun h => ?_) (fun h => ?_)
 · have hi' : i < t.length := by omega
   have hsn := zKD t i
   have hel := zFv t i
   generalize hI2 : zAf t (i + 1) = I2 at *
   generalize zAf t i = I at *
   refine rn6 ?_
   refine zN 12 (.agg (zBs (t.getD i node0))) Y (AEq.of_eq Y) ?_
   generalize t.getD i node0 = n at *
   obtain ⟨kd, pl, nf, nx, od, py⟩ := n
   simp only at *
   refine zO (c' := .box [.int .i64 kd, .int .i64 pl, .int .i64 nf, .ro (.ints .i64 nx) 0 nx.length, .ro (.strs od) 0 od.length, .str py]) Y Y Y Y Y Nat.zero_lt_one Y Y (fun i' j' hi' hj' => ?_) ?_
   · rw [if_pos (Nat.lt_one_iff.1 hi')]; rfl
   refine zAd [some ⟨3, .ints .i64 I⟩, some ⟨40, .box [.int .i64 kd, .int .i64 pl, .int .i64 nf, .ro (.ints .i64 nx) 0 nx.length, .ro (.strs od) 0 od.length, .str py]⟩] Y ?_
   refine zN 5 (.ptr 1 0 0) Y (AEq.of_eq Y) ?_
   refine rn5 ?_
   refine zE Y (fun h1 => ?_) (fun h1 => ?_)
   · rw [if_pos h1] at hsn
     refine rn3 ?_
     refine zp Y Y Y Y Y Y Y Y Y Y Y Y (by show 0 + 1 ≤ 1; omega) Y (by show (I.length + 1) * 8 ≤ _ ∧ _; omega) (fun i j _ _ => rfl) (by rw [hfix]; exact fun h => h) ?_
     repeat (first | refine zD (zL rfl) ?_ | refine zC ?_ | refine zf ?_)
     refine zA ?_
     refine zAa [some ⟨3, .ints .i64 (I ++ [(i : Int)])⟩] [some ⟨40, .box [.int .i64 kd, .int .i64 pl, .int .i64 nf, .ro (.ints .i64 nx) 0 nx.length, .ro (.strs od) 0 od.length, .str py]⟩] [(3, .sl 0 0 (I.length + 1)), (6, .ro (zc t) 0 t.length), (7, .int .i64 (t.length : Nat)), (8, .int .i64 (i : Nat))] Y ⟨Y, Y, Y, Y, trivial⟩ (fun h hh => by rw [hfix] at hh; exact absurd hh id) (zBw (zDC _ _ _)) Y ?_
     refine rn3 ?_
     exact zM ⟨i + 1, by omega, by omega, ⟨by rw [hI2, hsn, List.length_append]; rfl, Y, Y, Y, trivial⟩, by rw [hI2, hsn]⟩
   · rw [if_neg h1] at hsn
     repeat (first | refine zf ?_ | refine zl ?_)
     refine zA ?_
     refine zAa [some ⟨3, .ints .i64 I⟩] [some ⟨40, .box [.int .i64 kd, .int .i64 pl, .int .i64 nf, .ro (.ints .i64 nx) 0 nx.length, .ro (.strs od) 0 od.length, .str py]⟩] [(3, .sl 0 0 I.length), (6, .ro (zc t) 0 t.length), (7, .int .i64 (t.length : Nat)), (8, .int .i64 (i : Nat))] Y ⟨Y, Y, Y, Y, trivial⟩ (fun h hh => by rw [hfix] at hh; exact absurd hh id) (zBw (zDC _ _ _)) Y ?_
     refine rn3 ?_
     exact zM ⟨i + 1, by omega, by omega, ⟨by rw [hI2, hsn]; rfl, Y, Y, Y, trivial⟩, by rw [hI2, hsn]⟩
 · have hie : i = t.length := by omega
   subst hie
   repeat (first | refine zA ?_ | refine zX ?_ | refine zAm ?_ | refine zr ?_ | refine zq ?_ | refine zAD ?_)
   refine zAV 0 3 (zAf t t.length).length [] Y zAW Y (by show (zAf t t.length).length ≤ (zAf t t.length).length; exact Nat.le_refl _) trivial ?_
   refine rn0 ?_
   exact zI hR Y Y
abbrev zCa (s : zAK) : AV := .rom (s.map keyC) (s.map valC)
theorem zG2 (n : TNode) (a b : zAK) (hp : n.player = 0 ∨ n.player = 1) (c : TChoice) (hc : c ∈ (if n.player = 0 then a else b)) (hi : c.info = n.info) : zW Tryz.prog 141 [.agg (zBs n), .rp (.box [zCa a, zCa b]) 0 0] (.ro (qsC (c.odds.map zAM)) 0 (c.odds.map zAM).length) := by
 obtain ⟨jj, i1, i2⟩ := zLe hc
 rw [hi] at i1
 obtain ⟨kd, pl, nf, nx, od, py⟩ := n
 simp only at *
 refine zV.value0 (zG (P := Tryz.prog) (fn := Tryz.f141) Y Y (by kernel_rfl) Y (fun c hR hfix => ?_)) (fix := fun _ => False) (fun _ h => h) Y Y
 unfold zBs
 simp only
 refine rn6 ?_
 refine zk (by kernel_rfl) ?_
 rcases hp with hp | hp
 · subst hp
   rw [if_pos rfl] at i1 i2
   refine zt (fuel := 0) [0, 1, 2, 3, 4, 5, 6, 7] [(1, .rp (.box [zCa a, zCa b]) 0 0), (2, .ptr 0 0 0)] ⟨Y, Y, trivial⟩ (by kernel_rfl) (by decide) Y Y ?_
   refine zU Y Y (zP Y Y Y Y Y Y) ?_
   refine zU Y Y (zT Y Y Y Y Y) ?_
   refine zU Y Y (zGe Y Y Y Y (by first | (simp only [Nat.zero_add, Int.toNat_natCast]; exact Y) | exact Y) (by omega)) ?_
   refine zU Y Y (zAh Y Y Y Y) ?_
   refine zU Y Y (zP Y Y Y Y Y Y) ?_
   refine zU Y Y (zT Y Y Y Y Y) ?_
   refine zU Y Y (zBk Y (.int Y) Y Y Y Y (keysC a) jj i1 i2) ?_
   refine zU Y Y (zL Y) ?_
   refine zAZ ?_
   refine zh (by kernel_rfl) ?_
   refine rn0 ?_
   exact zI hR Y Y
 · subst hp
   rw [if_neg (by decide)] at i1 i2
   refine zt (fuel := 0) [0, 1, 2, 3, 4, 5, 6, 7] [(1, .rp (.box [zCa a, zCa b]) 0 0), (2, .ptr 0 0 0)] ⟨Y, Y, trivial⟩ (by kernel_rfl) (by decide) Y Y ?_
   refine zU Y Y (zP Y Y Y Y Y Y) ?_
   refine zU Y Y (zT Y Y Y Y Y) ?_
   refine zU Y Y (zGe Y Y Y Y (by first | (simp only [Nat.zero_add, Int.toNat_natCast]; exact Y) | exact Y) (by omega)) ?_
   refine zU Y Y (zAh Y Y Y Y) ?_
   refine zU Y Y (zP Y Y Y Y Y Y) ?_
   refine zU Y Y (zT Y Y Y Y Y) ?_
   refine zU Y Y (zBk Y (.int Y) Y Y Y Y (keysC b) jj i1 i2) ?_
   refine zU Y Y (zL Y) ?_
   refine zAZ ?_
   refine zh (by kernel_rfl) ?_
   refine rn0 ?_
   exact zI hR Y Y
end Go.Proofs.YtnkealfaldjipaaGreatDoor
namespace Go.Ax
variable [Pins]
open Go.RowKit
def sclM (x : Value) : Option AV := match x with
 | .map none => some .any
 | v => scl v
theorem vr_sclM {w : World} {S : Nat → Prop} {σ : Nat → Option Blk} {x : Value} {v : AV} (h : sclM x = some v) : VR w S σ v x ∧ x.oneCell' = true := by
 unfold sclM at h
 split at h
 · cases h; exact ⟨.any _ _, rfl⟩
 · exact zMJ h
def zavM (v : Value) : Option (List AV) := v.cells.toList.mapM fun x => sclM x
theorem zLg {w : World} {S : Nat → Prop} {σ : Nat → Option Blk} {z : Value} {zs : List AV} (h : zavM z = some zs) : z.cells.size = zs.length ∧ ∀ j, j < zs.length → VR w S σ (zs.getD j .any) (z.cells.getD j undef) ∧ (z.cells.getD j undef).oneCell' = true := by
 unfold zavM at h
 have key : ∀ (l : List Value) (zs : List AV), l.mapM (fun x => sclM x) = some zs → l.length = zs.length ∧ ∀ j, j < zs.length → VR w S σ (zs.getD j .any) (l.getD j undef) ∧ (l.getD j undef).oneCell' = true := by
   intro l
   induction l with
   | nil => intro zs h; simp at h; subst h; exact ⟨rfl, fun j hj => by simp at hj⟩
   | cons x r ih =>
     intro zs h
     simp only [List.mapM_cons] at h
     cases h1 : sclM x with
     | none => simp [h1] at h
     | some y =>
       cases h2 : r.mapM (fun x => sclM x) with
       | none => simp [h1, h2] at h
       | some ys =>
         simp [h1, h2] at h
         subst h
         obtain ⟨i1, i2⟩ := ih ys h2
         refine ⟨by simp [i1], fun j hj => ?_⟩
         cases j with
         | zero => exact vr_sclM h1
         | succ j => simpa using i2 j (by simpa using hj)
 obtain ⟨k1, k2⟩ := key _ _ h
 refine ⟨by simpa using k1, fun j hj => ?_⟩
 have := k2 j hj
 have e : z.cells.toList.getD j undef = z.cells.getD j undef := by
   have hlt : j < z.cells.size := by simp at k1; omega
   simp [List.getD, Array.getD, hlt]
 rwa [e] at this
section
variable {P : Program} {fn : Func} {c : Ctx} {fr : Fr} {H : zZ} {k : List It}
/-- A struct's or an array's value. -/
theorem zNd {ind : Bool} {d : Option Nat} {ty : TypeId} {pos : String} {after : Array Edge} {g : Option (Nat × Bool)} {t : TypeId} {parts : List (Nat × Operand)} {it : TypeInfo} {z : Value} {zs L : List AV} {l : List (Nat × AV)} {pl : Nat → Option (Nat × Nat)}
   (hi : P.info? t = some it) (hz : it.zero = some z) (hzs : zavM z = some zs) (hpl : zH9 P t = some pl) (hl : zDv fr parts = some l) (hf : zGI pl zs l = some L) :
   QOp ind P fn c fr H ⟨d, .build t parts.toArray, ty, pos, after, g⟩ (.agg L) := by
 intro w a σ S hr
 obtain ⟨y1, y2⟩ := zLg (w := w) (S := S) (σ := σ) hzs
 obtain ⟨cs', g1, g2⟩ := zG5 l _ z.cells zs L ⟨y1, y2⟩ (zEL hr parts l hl) hf
 refine ⟨.agg cs', .agg _ _ _ g2.1 (fun i hi => (g2.2 i hi).1) (fun i hi => (g2.2 i hi).2), fun w' _ => ?_⟩
 have hb : P.built t ((parts.toArray.map fun (i, x) => (i, a.eval x)).toList) = some cs' := by
   have e : (parts.toArray.map fun (i, x) => (i, a.eval x)).toList = parts.map fun (i, x) => (i, a.eval x) := by simp
   rw [e]
   unfold zH9 at hpl
   unfold Program.built
   cases hu : P.underlying t with
   | none => simp [hu] at hpl
   | some u =>
     cases u with
     | array nn e' =>
       simp only [hu] at hpl
       cases he : P.info? e' with
       | none => simp [he] at hpl
       | some ie =>
         simp only [he, Option.some.injEq] at hpl
         subst hpl
         simp only [hi, hz, he]
         exact g1
     | struct fields =>
       simp only [hu] at hpl
       cases he : fields.toList.mapM (fun f => (P.info? f.type).map fun i => (f.offset, i.size)) with
       | none => simp [he] at hpl
       | some places =>
         simp only [he, Option.some.injEq] at hpl
         subst hpl
         simp only [hi, hz, he]
         exact g1
     | _ => simp [hu] at hpl
 have hrun := run_build (P := P) w' t (parts.toArray.map fun (i, x) => (i, a.eval x)) cs' hb
 simp only [execOp, Sem.run_bind, hrun, Result.andThen_ok]
 rfl
theorem zIz {all : Array Oper} {d : Nat} {t : TypeId} {ty : TypeId} {pos : String} {after : Array Edge} {rest : List Oper} {inf : TypeInfo} {z : Value} {zs : List AV}
   (hi : P.info? t = some inf) (hz : inf.zero = some z) (hzs : zavM z = some zs)
   (hk : Ax P fn c (.ops false all rest k) ((d, .ptr H.length 0 0) :: fr) (H ++ [some ⟨t, .box zs⟩])) : Ax P fn c (.ops false all (⟨some d, .alloc t, ty, pos, after, none⟩ :: rest) k) fr H := by
 refine ax_w (fun w a σ S hr => ?_) hk
 have ha : Arr w S σ z.cells zs := zLg hzs
 have hrun : (execOp a.eval ⟨some d, .alloc t, ty, pos, after, none⟩).run P w = .ok (.value (.pointer (some ⟨w.heap.size, 0, none⟩))) (w.alloc (.cells z.cells t (0, 0))) := by
   simp [execOp, Instr.alloc, newVar, newRow, zeroValue, typeInfo, hi, hz]
 refine ⟨_, _, _, S, hrun, hr.alloc (o := ⟨t, .box zs⟩) (C := 1) (cur := z.cells) (Nat.le_refl _) (by unfold maxLen; omega) (by simp [Cells.sz, ha.1]) (zI2 ha), ?_⟩
 have := VR.ptr (w := w.alloc (.cells z.cells t (0, 0))) (S := S) (upσ σ H.length (.at w.heap.size (Cells.box zs).sz 1)) H.length 0 0 w.heap.size (Cells.box zs).sz 1 (by simp [upσ])
 simpa using this
end
end Go.Ax
namespace Go.Proofs.YtnkealfaldjipaaGreatDoor
open Go.Ax Go.Ax.Bg Go.Ax.Rt Go.RowKit Go.Ax.Idx Go.Ax.Cd
attribute [local irreducible] Ax zBG QOp zV zA0
set_option maxRecDepth 100000
set_option maxHeartbeats 4000000
structure StrS (t : zQ) (p : Int) (s : zAK) : Prop where
 short : ShortS s
 ok : OkS t p s
 dig : ∀ c ∈ s, ∀ r ∈ c.odds, r.length ≤ 12
theorem StrS.nd {t : zQ} {p : Int} {s : zAK} (h : StrS t p s) : (s.map TChoice.info).Nodup := by rw [h.ok.infos]; exact zBn t p
theorem StrS.str {t : zQ} {p : Int} {s : zAK} (h : StrS t p s) : Strat t p (zCG s) 12 := h.ok.strat12 h.dig
theorem StrS.call {t : zQ} {p : Int} {s : zAK} (h : StrS t p s) : zW Tryz.prog 132 [.ro (zm s) 0 s.length] (zCa s) :=
 zNj s h.short h.nd (fun c hc => ⟨(zBh (h.ok.odds c hc)).1, (zBh (h.ok.odds c hc)).2.1⟩)
theorem StrS.node {t : zQ} {p : Int} {s : zAK} (h : StrS t p s) (hv : Valid t) {i : Nat} (hi : i < t.length) (hk : (t.getD i node0).kind = 2) (hp : (t.getD i node0).player = p) : ∃ c ∈ s, c.info = (t.getD i node0).info ∧ zCG s (t.getD i node0).info = c.odds.map zAM := by
 have hs : zBB p (t.getD i node0).info (t.getD i node0) = true := by
   unfold zBB
   rw [zE1.2 ⟨hk, hp⟩, decide_eq_true rfl]; rfl
 obtain ⟨c, c1, c2, c3, _⟩ := h.ok.at' ((zBg hv).2 ⟨i, hi, hs⟩)
 exact ⟨c, c1, c2, c3⟩
def zAR (t : zQ) (a b : zAK) : zAI := zCM t (zCG a) (zCG b)
theorem playS_G {t : zQ} (hv : Valid t) (hm : Go.Ax.Rt.Modest t) {a b : zAK} (ha : StrS t 0 a) (hb : StrS t 1 b) : OddsG t (zAR t a b) :=
 zPu hv hm.len (zOx hv hm ha.str hb.str) (fun i hi hk => by unfold zAR zCM; rw [if_pos hk]) (fun i hi hk => by unfold zAR zCM; rw [if_neg (by omega), if_neg (by omega)])
theorem zH4 (a b : zAK) : zAC (.box [zCa a, zCa b]) := by
 intro i j _ hj
 have hj : j < 2 := hj
 match j, hj with
 | 0, _ => rfl
 | 1, _ => rfl
theorem zLT (t : zQ) (a b : zAK) (hT : ShortT t) (hv : Valid t) (hm : Go.Ax.Rt.Modest t) (ha : StrS t 0 a) (hb : StrS t 1 b) :
   zW Tryz.prog 81 [.ro (zc t) 0 t.length, .ro (zm a) 0 a.length, .ro (zm b) 0 b.length] (.ro (qsC (zb t (zAR t a b))) 0 t.length) := by
 have h1 := zJz t (zAR t a b) 141 [.rp (.box [zCa a, zCa b]) 0 0] rfl rfl hT hv (playS_G hv hm ha hb) (fun i hi hk => by
   have hp := zCO hv hi hk
   rcases hp with hp | hp
   · obtain ⟨c, c1, c2, c3⟩ := ha.node hv hi hk hp
     have := zG2 (t.getD i node0) a b (.inl hp) c (by rw [if_pos hp]; exact c1) c2
     have e : zAR t a b i = some (c.odds.map zAM) := by unfold zAR zCM; rw [if_neg (by omega), if_pos hk, if_pos hp, c3]
     rw [e]; exact this
   · obtain ⟨c, c1, c2, c3⟩ := hb.node hv hi hk hp
     have := zG2 (t.getD i node0) a b (.inr hp) c (by rw [if_neg (by omega)]; exact c1) c2
     have e : zAR t a b i = some (c.odds.map zAM) := by unfold zAR zCM; rw [if_neg (by omega), if_pos hk, if_neg (by omega), c3]
     rw [e]; exact this)
 have ca := ha.call
 have cb := hb.call
 refine zV.value0 (zG (P := Tryz.prog) (fn := Tryz.f81) Y Y (by kernel_rfl) Y (fun c hR hfix => ?_)) (fix := fun _ => False) (fun _ h => h) Y Y
 refine rn0 ?_
 refine zB Y Y Y ca ?_
 repeat (refine zD (zH rfl) ?_)
 refine zB Y Y Y cb ?_
 skip
 refine zD (zNd Y Y Y Y Y Y) ?_
 skip
 refine zIz Y Y Y ?_
 skip
 refine zO (c' := .box [zCa a, zCa b]) Y Y Y Y Y Nat.zero_lt_one Y Y (fun i' j' hi' hj' => ?_) ?_
 · rw [if_pos (Nat.lt_one_iff.1 hi')]; rfl
 repeat (first | refine zC ?_ | refine zA ?_ | refine zX ?_)
 refine zBQ [some ⟨219, .box [zCa a, zCa b]⟩] Y ?_
 refine zKT (o := ⟨219, .box [zCa a, zCa b]⟩) (v := .ptr 0 0 0) 7 [(0, .ro (zc t) 0 t.length)] (.rp (.box [zCa a, zCa b]) 0 0) (zH4 a b) rfl rfl (fun o ho => by simp at ho; subst ho; exact Nat.zero_lt_one) rfl ⟨rfl, rfl, trivial⟩ ⟨rfl, trivial⟩ rfl (by rw [hfix]; exact fun h hh => hh) ?_
 repeat (first | refine zD (zH rfl) ?_ | refine zK rfl ?_ | refine zD (zGv rfl) ?_)
 refine zB Y Y Y h1 ?_
 refine rn0 ?_
 exact zI hR Y Y
theorem zOT (t : zQ) (a b : zAK) (hT : ShortT t) (hv : Valid t) (hm : Go.Ax.Rt.Modest t) (ha : StrS t 0 a) (hb : StrS t 1 b) :
   zW Tryz.prog 77 [.ro (zc t) 0 t.length, .ro (zm a) 0 a.length, .ro (zm b) 0 b.length] (qA (zAj t (zAR t a b))) := by
 have h1 := zLT t a b hT hv hm ha hb
 have hml := hm.len
 have h2 := zMk t (by omega)
 have hel := zFv t t.length
 have hw := zOx hv hm ha.str hb.str
 have hrl : (zb t (zAR t a b)).length = t.length := zCp t _ _
 refine zV.value0 (zG (P := Tryz.prog) (fn := Tryz.f77) Y Y (by kernel_rfl) Y (fun c hR hfix => ?_)) (fix := fun _ => False) (fun _ h => h) Y Y
 refine rn4 ?_
 refine zB Y Y Y h1 ?_
 refine rn0 ?_
 refine zB Y Y Y zEP ?_
 repeat (refine zBD rfl rfl rfl ?_)
 refine zO (c' := .box (zu 0)) Y Y Y Y Y Nat.zero_lt_one Y Y (fun i' j' hi' hj' => ?_) ?_
 · rw [if_pos (Nat.lt_one_iff.1 hi')]; rfl
 refine rn0 ?_
 refine zB Y Y Y h2 ?_
 refine rn3 ?_
 have hEl : (zAf t t.length).length = (zw t).length := by rw [zG4, List.length_map]
 refine zi (ι := Nat) (fun k => [(0, .ro (zc t) 0 t.length), (6, .ptr 0 0 0), (7, .ro (qsC (zb t (zAR t a b))) 0 t.length), (8, .ptr 1 0 0), (17, .ro (.ints .i64 (zAf t t.length)) 0 (zAf t t.length).length), (18, .int .i64 ((zAf t t.length).length : Nat)), (19, .int .i64 (k : Nat))]) (fun k => [some ⟨122, .box [.bool false, .nil, .nil]⟩, some ⟨122, .box (zu (zGQ t (zAR t a b) k))⟩])
   (fun k => k ≤ (zAf t t.length).length) (fun k => (zAf t t.length).length - k) 0 ⟨⟨rfl, rfl, rfl, rfl, rfl, rfl, rfl, trivial⟩, rfl, Nat.zero_le _⟩ ?_
 intro k hk
 refine rn4 ?_
 refine zE Y (fun h => ?_) (fun h => ?_)
 · have hk' : k < (zw t).length := by omega
   have hi0 := zIs t hk'
   obtain ⟨i1, i2⟩ := zCc (zAQ (l := zw t) 0 hk')
   have hsuc := zLY t (zAR t a b) hk'
   have hpay := zHJ hv i1 i2
   have hpl := (hT.node _ (zAQ node0 i1)).pay
   have cp := zD5 (t.getD ((zw t).getD k 0) node0).pay hpl hpay
   have dr := zCw hv hw hml i1
   have dp := (hm.pays hv).dig _ i1 i2
   have hsum : D (1 + k * 494) (zGQ t (zAR t a b) k) := by
     unfold zGQ
     refine (zHx (k := 493) (l := ((zw t).take k).map (zDe t (zb t (zAR t a b)))) (fun q hq => ?_) (j := 1) (acc := 0) ⟨by decide, by decide⟩).mono ?_
     · obtain ⟨x, hx, rfl⟩ := List.mem_map.1 hq
       obtain ⟨x1, x2⟩ := zCc (List.mem_of_mem_take hx)
       exact ((zCw hv hw hml x1).mul ((hm.pays hv).dig _ x1 x2)).mono (by decide)
     · rw [List.length_map, List.length_take]
       have : min k (zw t).length * 494 ≤ k * 494 := Nat.mul_le_mul_right _ (Nat.min_le_left _ _)
       omega
   have cm := zFx _ _ (zCE (dr.mono (show 12 * 40 + 1 ≤ 9 * 100000 by decide))) (zCE (dp.mono (by decide)))
   have hend : zDe t (zb t (zAR t a b)) ((zw t).getD k 0) = (zb t (zAR t a b)).getD ((zw t).getD k 0) 0 * zAM (t.getD ((zw t).getD k 0) node0).pay := rfl
   have cm : zW Tryz.prog 105 [qA ((zb t (zAR t a b)).getD ((zw t).getD k 0) 0), qA (zAM (t.getD ((zw t).getD k 0) node0).pay)] (qA (zDe t (zb t (zAR t a b)) ((zw t).getD k 0))) := cm
   have ca := zE7 (zGQ t (zAR t a b) k) (zDe t (zb t (zAR t a b)) ((zw t).getD k 0)) (zCE (hsum.mono (by omega))) (by
     rw [hend]; exact zCE ((dr.mul dp).mono (by decide)))
   rw [← hsuc] at ca
   have hdk : k < (zAf t t.length).length := by omega
   generalize hV2 : zGQ t (zAR t a b) (k + 1) = V2 at *
   generalize zGQ t (zAR t a b) k = V at *
   generalize hE : zDe t (zb t (zAR t a b)) ((zw t).getD k 0) = E at *
   generalize (zw t).getD k 0 = i at *
   repeat (first | refine zA ?_ | refine zX ?_ | refine zx ?_ | refine zl ?_)
   refine zK Y ?_
   repeat (first | refine zD (zL rfl) ?_ | refine zD (zAi rfl rfl rfl) ?_ | refine zC ?_ | refine zA ?_ | refine zD (ze rfl rfl rfl rfl (by first | (simp only [Nat.zero_add, Int.toNat_natCast, Int.toNat_zero]; exact rfl) | exact rfl) (by omega)) ?_)
   refine z7 10 (.int .i64 (i : Nat)) Y (AEq.of_eq (by rw [← hi0])) ?_
   skip
   refine zk (by kernel_rfl) ?_
   refine zt (fuel := 1) [0, 1, 2, 3, 4, 5, 6, 7, 8, 9, 10, 11, 12] [(10, .int .i64 (i : Nat)), (0, .ro (zc t) 0 t.length), (6, .ptr 0 0 0), (7, .ro (qsC (zb t (zAR t a b))) 0 t.length), (8, .ptr 1 0 0), (17, .ro (.ints .i64 (zAf t t.length)) 0 (zAf t t.length).length), (18, .int .i64 ((zAf t t.length).length : Nat)), (19, .int .i64 (k : Nat))] ⟨Y, Y, Y, Y, Y, Y, Y, Y, trivial⟩ (by kernel_rfl) (by decide) Y Y ?_
   refine zU Y Y (zn Y Y Y Y Y Y Y (by first | exact Nat.zero_lt_one | assumption | omega)) ?_
   refine zU Y Y (zH Y) ?_
   refine zU Y Y (zH Y) ?_
   refine zU Y Y (ze Y Y Y Y (by first | (simp only [Nat.zero_add, Int.toNat_natCast, Int.toNat_zero]; exact Y) | exact Y) (by omega)) ?_
   refine zU Y Y (zBS Y Y Y Y Y Y) ?_
   refine zU Y Y (zH Y) ?_
   refine zU Y Y (zH Y) ?_
   refine zU Y Y (ze Y Y Y Y (by first | (simp only [Nat.zero_add, Int.toNat_natCast, Int.toNat_zero]; exact Y) | exact Y) (by omega)) ?_
   refine zU Y Y (zAo Y Y Y Y Y Y) ?_
   refine zU Y Y (zBj Y Y Y Y) ?_
   refine zBR Y Y Y Y Y cp ?_
   refine zBR Y Y Y Y Y cm ?_
   refine zBR Y Y Y Y Y ca ?_
   refine zAZ ?_
   refine zF (is := [13]) (by kernel_rfl) (by simp) Y ⟨fun o ho => ?_, trivial⟩
   all_goals (cases ho)
   unfold qA
   refine zO (c' := .box (zu V2)) Y Y Y Y Y Nat.zero_lt_one Y Y (fun i' j' hi' hj' => ?_) ?_
   · rw [if_pos (Nat.lt_one_iff.1 hi')]; rfl
   refine rn1 ?_
   refine zh (by kernel_rfl) ?_
   refine rn5 ?_
   exact zM ⟨k + 1, by omega, by omega, ⟨Y, Y, Y, Y, Y, Y, Y, trivial⟩, by rw [hV2]; rfl⟩
 · have hie : k = (zAf t t.length).length := by omega
   subst hie
   rw [hEl, zJ0]
   refine rn6 ?_
   refine zO (c' := .box (zu (zAj t (zAR t a b)))) Y Y Y Y Y Nat.zero_lt_one Y Y (fun i' j' hi' hj' => ?_) ?_
   · rw [if_pos (Nat.lt_one_iff.1 hi')]; rfl
   refine rn0 ?_
   exact zI hR Y Y
def zDN (t : zQ) (a b : zAK) : Int := if zEz t ≠ 0 then zEz t else if zAe t 0 a ≠ 0 then zAe t 0 a else zAe t 1 b
theorem zGw {t : zQ} {a b : zAK} (h : zDN t a b = 0) : Valid t ∧ zAe t 0 a = 0 ∧ zAe t 1 b = 0 := by
 unfold zDN at h
 by_cases h1 : zEz t ≠ 0
 · rw [if_pos h1] at h; exact absurd h h1
 · rw [if_neg h1] at h
   by_cases h2 : zAe t 0 a ≠ 0
   · rw [if_pos h2] at h; exact absurd h h2
   · rw [if_neg h2] at h
     exact ⟨zKY (Classical.not_not.1 h1), Classical.not_not.1 h2, h⟩
theorem zF0 (t : zQ) (a b : zAK) (hT : ShortT t) (ha : ShortS a) (hb : ShortS b) : zW Tryz.prog 63 [.ro (zc t) 0 t.length, .ro (zm a) 0 a.length, .ro (zm b) 0 b.length] (.int .i64 (zDN t a b)) := by
 have c1 := zL1 t hT
 have c2 := zD8 t 0 a hT.len ha
 have c3 := zD8 t 1 b hT.len hb
 refine zV.value0 (zG (P := Tryz.prog) (fn := Tryz.f63) Y Y (by kernel_rfl) Y (fun c hR hfix => ?_)) (fix := fun _ => False) (fun _ h => h) Y Y
 unfold zDN at hR
 generalize zEz t = e1 at *
 generalize zAe t 0 a = e2 at *
 generalize zAe t 1 b = e3 at *
 refine rn0 ?_
 refine zB Y Y Y c1 ?_
 refine rn3 ?_
 refine zE Y (fun h1 => ?_) (fun h1 => ?_)
 · rw [if_pos h1] at hR
   refine rn2 ?_
   exact zI hR Y Y
 rw [if_neg h1] at hR
 refine rn1 ?_
 refine zB Y Y Y c2 ?_
 refine rn3 ?_
 refine zE Y (fun h2 => ?_) (fun h2 => ?_)
 · rw [if_pos h2] at hR
   refine rn2 ?_
   exact zI hR Y Y
 rw [if_neg h2] at hR
 refine rn1 ?_
 refine zB Y Y Y c3 ?_
 refine rn0 ?_
 exact zI hR Y Y
/-- few nodes, short texts -/
structure Small (t : zQ) (a : List zAK) : Prop where
 sh : ShortT t
 m : Go.Ax.Rt.Modest t
 s : ∀ x ∈ a, ShortS x
 d : ∀ x ∈ a, ∀ c ∈ x, ∀ r ∈ c.odds, r.length ≤ 12
theorem Small.str {t : zQ} {l : List zAK} (h : Small t l) {s : zAK} (hs : s ∈ l) {p : Int} (he : zAe t p s = 0) : StrS t p s := ⟨h.s s hs, zCs he, h.d s hs⟩
def zMD (t : zQ) (a b : zAK) : zBJ × Int := if zDN t a b ≠ 0 then ([], zDN t a b) else zEZ (zAj t (zAR t a b))
def zIO (t : zQ) (a b : zAK) : List zBJ × Int := if zDN t a b ≠ 0 then ([], zDN t a b) else zCA (zb t (zAR t a b))
theorem zQu (t : zQ) (a b : zAK) (h : Small t [a, b]) : zW Tryz.prog 19 [.ro (zc t) 0 t.length, .ro (zm a) 0 a.length, .ro (zm b) 0 b.length] (zJB (zMD t a b)) := by
 have c1 := zF0 t a b h.sh (h.s a (by simp)) (h.s b (by simp))
 refine zV.value0 (zG (P := Tryz.prog) (fn := Tryz.f19) Y Y (by kernel_rfl) Y (fun c hR hfix => ?_)) (fix := fun _ => False) (fun _ h => h) Y Y
 unfold zMD at hR
 refine rn0 ?_
 refine zB Y Y Y c1 ?_
 refine rn3 ?_
 refine zE Y (fun h1 => ?_) (fun h1 => ?_)
 · rw [if_pos h1] at hR
   refine rn2 ?_
   exact zI hR Y Y
 rw [if_neg h1] at hR
 obtain ⟨hv, ea, eb⟩ := zGw (Classical.not_not.1 h1)
 have sa := h.str (s := a) (by simp) ea
 have sb := h.str (s := b) (by simp) eb
 have c2 := zOT t a b h.sh hv h.m sa sb
 have c3 := zJ2 (zAj t (zAR t a b)) (zCE ((zIK hv (zFa hv h.m sa.str sb.str) h.m.len (h.m.pays hv)).mono (show 974 ≤ 9 * 100000 by decide)))
 generalize zAj t (zAR t a b) = q at *
 refine rn1 ?_
 refine zB Y Y Y c2 ?_
 skip
 refine zB Y Y Y c3 ?_
 refine rn2 ?_
 exact zI hR Y Y
theorem rodds_ok (t : zQ) (a b : zAK) (h : Small t [a, b]) : zW Tryz.prog 21 [.ro (zc t) 0 t.length, .ro (zm a) 0 a.length, .ro (zm b) 0 b.length] (vecP (zIO t a b)) := by
 have c1 := zF0 t a b h.sh (h.s a (by simp)) (h.s b (by simp))
 refine zV.value0 (zG (P := Tryz.prog) (fn := Tryz.f21) Y Y (by kernel_rfl) Y (fun c hR hfix => ?_)) (fix := fun _ => False) (fun _ h => h) Y Y
 unfold zIO at hR
 refine rn0 ?_
 refine zB Y Y Y c1 ?_
 refine rn3 ?_
 refine zE Y (fun h1 => ?_) (fun h1 => ?_)
 · rw [if_pos h1] at hR
   repeat (first | refine zD (zH rfl) ?_ | refine zD (zL rfl) ?_ | refine zC ?_ | refine zA ?_ | refine zX ?_ | refine zK rfl ?_)
   refine z7 6 (.ro (.strs []) 0 0) Y AEq.nil ?_
   refine rn2 ?_
   exact zI hR Y Y
 rw [if_neg h1] at hR
 obtain ⟨hv, ea, eb⟩ := zGw (Classical.not_not.1 h1)
 have sa := h.str (s := a) (by simp) ea
 have sb := h.str (s := b) (by simp) eb
 have hml := h.m.len
 have c2 := zLT t a b h.sh hv h.m sa sb
 have hrl : (zb t (zAR t a b)).length = t.length := zCp t _ _
 obtain ⟨r, c3, hrq⟩ := zLS (zb t (zAR t a b)) (by omega) (fun q hq => by
   obtain ⟨i, hi, rfl⟩ := List.getElem_of_mem hq
   have := zCw hv (zOx hv h.m sa.str sb.str) hml (j := i) (by omega)
   have e : (zb t (zAR t a b)).getD i 0 = (zb t (zAR t a b))[i] := z8 0 hi
   rw [← e]
   exact zCE (this.mono (by decide)))
 rw [hrl] at c3
 generalize zb t (zAR t a b) = R at *
 refine rn1 ?_
 refine zB Y Y Y c2 ?_
 skip
 refine zB Y Y Y c3 ?_
 repeat (first | refine zD (zL rfl) ?_ | refine zC ?_ | refine zA ?_ | refine zD (zBN rfl rfl) ?_)
 refine z7 6 (.ro (.strs (zCA R).1) 0 (zCA R).1.length) Y hrq ?_
 repeat (refine zAS ?_)
 exact zI hR Y Y
end Go.Proofs.YtnkealfaldjipaaGreatDoor
namespace Go.Ax.Rt
open Go.Ax.Bg
def upd (u : Int → List Rat) (x : Int) (v : List Rat) : Int → List Rat := fun y => if y = x then v else u y
theorem upd_at (u : Int → List Rat) (x : Int) (v : List Rat) : upd u x v x = v := if_pos rfl
theorem upd_ne (u : Int → List Rat) {x y : Int} (v : List Rat) (h : y ≠ x) : upd u x v y = u y := if_neg h
theorem zQH {w c m : Nat} (hc : c < w) : (zA1 w c).getD m 0 = if m = c then 1 else 0 := by
 unfold zA1
 rw [Go.Ax.Dt.getD_set, List.length_replicate]
 by_cases h : m = c
 · subst h; rw [if_pos ⟨rfl, hc⟩, if_pos rfl]
 · rw [if_neg (fun q => h q.1), if_neg h]
   simp only [List.getD, List.getElem?_replicate]
   split <;> rfl
theorem zJj {t : zQ} {p : Int} (u : Int → List Rat) {k b : Nat} {x : Int × Nat} (x2 : x.2 ≤ k) (x3 : k < x.2 + zR t p x.1) (x4 : b < x.2) (x6 : x.2 + zR t p x.1 ≤ (zY t p).length)
   (x7 : ∀ c, c < zR t p x.1 → (zY t p).getD (x.2 + c) seq0 = ⟨x.1, (c : Int), (b : Int)⟩) : (zAx t p u).getD k 0 = (zAx t p u).getD b 0 * (u x.1).getD (k - x.2) 0 := by
 have hs := x7 (k - x.2) (by omega)
 rw [show x.2 + (k - x.2) = k by omega] at hs
 unfold zAx
 rw [zDG _ _ (show k < (zY t p).length by omega), hs]
 unfold zDR
 simp only
 rw [if_neg (by omega), Int.toNat_natCast, Int.toNat_natCast, zF8 _ _ (show b < (zY t p).length by omega) (show b < k by omega)]
/-- the pure strategies in their order -/
def zEl (out : List (List Int)) (n : Nat) : List (List Int) := out.flatMap (fun l => (List.range n).map (fun k : Nat => l ++ [(k : Int)]))
def zFo (w : List Nat) : List (List Int) := w.foldl zEl [[]]
theorem zI0 (w : List Nat) (n : Nat) : zFo (w ++ [n]) = zEl (zFo w) n := by unfold zFo; rw [List.foldl_append]; rfl
/-- the probability of a pure strategy -/
def wgtC : List (List Rat) → List Int → Rat → Rat
 | o :: os, c :: cs, q => wgtC os cs (q * o.getD c.toNat 0)
 | _, _, q => q
theorem zMn (o : List Rat) (c : Int) : ∀ (os : List (List Rat)) (cs : List Int) (q : Rat), os.length = cs.length → wgtC (os ++ [o]) (cs ++ [c]) q = wgtC os cs q * o.getD c.toNat 0
 | [], [], q, _ => rfl
 | a :: r, b :: s, q, h => by
   show wgtC (r ++ [o]) (s ++ [c]) _ = wgtC r s _ * _
   exact zMn o c r s _ (by simpa using h)
 | [], _ :: _, _, h => by simp at h
 | _ :: _, [], _, h => by simp at h
/-- a strategy with some information sets made pure -/
def zE5 (t : zQ) (p : Int) : (Int → List Rat) → List Int → List Int → Int → List Rat
 | u, x :: xs, c :: cs => zE5 t p (upd u x (zA1 (zR t p x) c.toNat)) xs cs
 | u, _, _ => u
theorem zLo (t : zQ) (p : Int) {y : Int} : ∀ (xs cs : List Int) (u : Int → List Rat), y ∉ xs → zE5 t p u xs cs y = u y
 | [], cs, u, _ => by cases cs <;> rfl
 | a :: r, [], u, _ => rfl
 | a :: r, b :: s, u, h => by
   show zE5 t p _ r s y = _
   rw [zLo t p r s _ (fun q => h (by simp [q])), upd_ne _ _ (fun q => h (by simp [q]))]
theorem next_len {l : List Int} {out : List (List Int)} {n m : Nat} (ho : ∀ a ∈ out, a.length = m) (h : l ∈ zEl out n) : l.length = m + 1 := by
 obtain ⟨l', h1, h2⟩ := List.mem_flatMap.1 h
 obtain ⟨k, _, rfl⟩ := List.mem_map.1 h2
 rw [List.length_append, ho l' h1]; rfl
theorem zHw (w : List Nat) : ∀ m, m ≤ w.length → ∀ l ∈ zFo (w.take m), l.length = m
 | 0, _, l, h => by
   rw [List.take_zero] at h
   simp [zFo] at h; subst h; rfl
 | m + 1, hm, l, h => by
   rw [List.take_succ_eq_append_getElem (by omega), zI0] at h
   exact next_len (zHw w m (by omega)) h
theorem zPh (w : List Nat) : ∀ m, m ≤ w.length → ∀ l ∈ zFo (w.take m), ∀ k, k < m → 0 ≤ l.getD k 0 ∧ (l.getD k 0).toNat < w.getD k 0
 | 0, _, l, h => fun k hk => absurd hk (Nat.not_lt_zero _)
 | m + 1, hm, l, h => by
   intro k hk
   rw [List.take_succ_eq_append_getElem (by omega), zI0] at h
   obtain ⟨l', h1, h2⟩ := List.mem_flatMap.1 h
   obtain ⟨j, hj, rfl⟩ := List.mem_map.1 h2
   have hl := zHw w m (by omega) l' h1
   by_cases e : k = m
   · subst e
     have : (l' ++ [(j : Int)]).getD k 0 = (j : Int) := by
       have h3 := zPT (l := l') (x := (j : Int)) (d := 0)
       rwa [hl] at h3
     rw [this]
     have := List.mem_range.1 hj
     rw [z8 0 (by omega)]
     omega
   · rw [zG6 0 (by omega)]
     exact zPh w m (by omega) l' h1 k (by omega)
def zN8 (t : zQ) (p : Int) (s : Nat) : Nat := ((zY t p).getD s seq0).before.toNat
structure BlkX (t : zQ) (p x : Int) (s b : Nat) : Prop where
 mem : (x, s) ∈ (zAN t p t.length).first
 start : zCm t p x = s
 bef : zN8 t p s = b
 one : 1 ≤ s
 w1 : 1 ≤ zR t p x
 fin : s + zR t p x ≤ (zY t p).length
 lt : b < s
 seqs : ∀ c, c < zR t p x → (zY t p).getD (s + c) seq0 = ⟨x, (c : Int), (b : Int)⟩
theorem zFM {t : zQ} (hv : Valid t) {p x : Int} (hx : x ∈ zJ t p) : ∃ s b, BlkX t p x s b := by
 have h := RI.all_n hv p t.length (Nat.le_refl _)
 obtain ⟨j, hj, hs⟩ := (zBg hv).1 hx
 have hk := (h.keys x).2 ⟨j, hj, hs⟩
 have hw : 1 ≤ zR t p x := by
   rw [zC4 hv hj hs]
   unfold zBB at hs
   rw [Bool.and_eq_true] at hs
   have ho := (zE1.1 hs.1).1
   rcases hv.child hj with q | q
   · have := q.1; omega
   · exact (zBp q.2).1
 cases hl : zBb (zAN t p t.length).first x with
 | none => exact absurd hk (zF5 hl)
 | some s =>
   have hm := zCP hl
   obtain ⟨y1, y2, b, b1, b2, b3⟩ := h.fst (x, s) hm
   obtain ⟨n, rfl⟩ := Int.eq_ofNat_of_zero_le b1
   simp only at y1 y2 b2 b3
   refine ⟨s, n, hm, by unfold zCm zHf; rw [hl]; rfl, ?_, y1, hw, y2, by omega, b3⟩
   have := b3 0 (by omega)
   unfold zN8
   rw [Nat.add_zero] at this
   rw [show (zY t p).getD s seq0 = _ from this]
   exact Int.toNat_natCast n
structure Flow (t : zQ) (p : Int) (W : Nat → Rat) : Prop where
 root : W 0 = 1
 nn : ∀ k, k < (zY t p).length → 0 ≤ W k
 sum : ∀ x ∈ zJ t p, zBA (fun c => W (zCm t p x + c)) (zR t p x) = W (zN8 t p (zCm t p x))
theorem zNF {t : zQ} {p x : Int} {s b : Nat} (h : BlkX t p x s b) (u : Int → List Rat) {c : Nat} (hc : c < zR t p x) : (zAx t p u).getD (s + c) 0 = (zAx t p u).getD b 0 * (u x).getD c 0 := by
 have := zJj (t := t) (p := p) u (k := s + c) (b := b) (x := (x, s)) (by show s ≤ s + c; omega) (by show s + c < s + zR t p x; omega) h.lt h.fin h.seqs
 rw [this]
 show _ * (u x).getD (s + c - s) 0 = _
 rw [show s + c - s = c by omega]
theorem zQ4 {t : zQ} (hv : Valid t) {p : Int} {u : Int → List Rat} (hu : Mix t p u) : Flow t p (fun k => (zAx t p u).getD k 0) := by
 refine ⟨zDF hv p u, plan_nn hv hu, fun x hx => ?_⟩
 obtain ⟨s, b, h⟩ := zFM hv hx
 rw [h.start, h.bef]
 rw [zAz (fun c hc => zNF h u hc), zGp, mix_sum hu hx, Rat.mul_one]
theorem zLJ {α : Type} (f g : α → Rat) : ∀ l : List α, zAH 0 (l.map (fun a => f a + g a)) = zAH 0 (l.map f) + zAH 0 (l.map g)
 | [] => by simp [zAH]; decide +kernel
 | a :: r => by
   rw [List.map_cons, List.map_cons, List.map_cons, zAH, zAH, zAH, zBF _ (0 + (f a + g a)), zBF _ (0 + f a), zBF _ (0 + g a), zLJ f g r]
   grind
theorem zId {α : Type} (F : α → Nat → Rat) : ∀ (n : Nat) (l : List α), zBA (fun c => zAH 0 (l.map (fun a => F a c))) n = zAH 0 (l.map (fun a => zBA (F a) n))
 | 0, l => by
   show (0 : Rat) = zAH 0 (l.map (fun _ => 0))
   induction l with
   | nil => rfl
   | cons a r ih => rw [List.map_cons, zAH, Rat.add_zero]; exact ih
 | n + 1, l => by
   show zBA _ n + _ = _
   rw [zId F n l, ← zLJ]
   rfl
theorem zPa {α : Type} {f : α → Rat} {l : List α} (h : ∀ a ∈ l, 0 ≤ f a) : 0 ≤ zAH 0 (l.map f) :=
 zHu _ 0 (fun q hq => by obtain ⟨a, ha, rfl⟩ := List.mem_map.1 hq; exact h a ha)
theorem Flow.mixed {α : Type} {t : zQ} (hv : Valid t) {p : Int} {l : List α} {w : α → Rat} {F : α → Nat → Rat} (hw : ∀ a ∈ l, 0 ≤ w a) (h1 : zAH 0 (l.map w) = 1) (hF : ∀ a ∈ l, Flow t p (F a)) : Flow t p (fun k => zAH 0 (l.map (fun a => w a * F a k))) := by
 refine ⟨?_, fun k hk => zPa (fun a ha => Rat.mul_nonneg (hw a ha) ((hF a ha).nn k hk)), fun x hx => ?_⟩
 · rw [← h1]
   refine congrArg (zAH 0) (List.map_congr_left (fun a ha => ?_))
   rw [(hF a ha).root, Rat.mul_one]
 · rw [zId (fun a c => w a * F a (zCm t p x + c))]
   refine congrArg (zAH 0) (List.map_congr_left (fun a ha => ?_))
   rw [zGp, (hF a ha).sum x hx]
/-- the strategy of a flow -/
def zBe (t : zQ) (p : Int) (W : Nat → Rat) (x : Int) : List Rat :=
 if 0 < W (zN8 t p (zCm t p x)) then (List.range (zR t p x)).map (fun c => W (zCm t p x + c) / W (zN8 t p (zCm t p x))) else zA1 (zR t p x) 0
theorem zGc {t : zQ} {p x : Int} {s b : Nat} (h : BlkX t p x s b) (W : Nat → Rat) (hW : 0 < W b) {c : Nat} (hc : c < zR t p x) : (zBe t p W x).getD c 0 = W (s + c) / W b := by
 unfold zBe
 rw [h.start, h.bef, if_pos hW, zBV _ _ 0 0 c (by rw [List.length_range]; exact hc), z8 0 (by rw [List.length_range]; exact hc), List.getElem_range]
theorem sumN_get {f g : Nat → Rat} {n m : Nat} (h : ∀ c, c < n → 0 ≤ f c) (h0 : zBA f n = 0) (hm : m < n) : f m = 0 := by
 have key : ∀ n, (∀ c, c < n → 0 ≤ f c) → ∀ m, m < n → f m ≤ zBA f n := by
   intro n
   induction n with
   | zero => intro _ m hm; exact absurd hm (Nat.not_lt_zero _)
   | succ n ih =>
     intro hn m hm
     show f m ≤ zBA f n + f n
     have h1 := zJF (f := f) (n := n) (fun i hi => hn i (by omega))
     have h2 := hn n (by omega)
     by_cases e : m = n
     · subst e; grind
     · have := ih (fun c hc => hn c (by omega)) m (by omega)
       grind
 have h1 := key n h m hm
 have h2 := h m hm
 rw [h0] at h1
 exact Rat.le_antisymm h1 h2
theorem zNG {t : zQ} (hv : Valid t) {p : Int} {W : Nat → Rat} (hW : Flow t p W) : Mix t p (zBe t p W) := by
 have key : ∀ x ∈ zJ t p, (zBe t p W x).length = zR t p x ∧ zAH 0 (zBe t p W x) = 1 ∧ ∀ q ∈ zBe t p W x, 0 ≤ q := by
   intro x hx
   obtain ⟨s, b, h⟩ := zFM hv hx
   by_cases hb : 0 < W b
   · have hl : (zBe t p W x).length = zR t p x := by
       unfold zBe
       rw [h.start, h.bef, if_pos hb, List.length_map, List.length_range]
     refine ⟨hl, ?_, fun q hq => ?_⟩
     · have h1 := zHF (zR t p x) (zBe t p W x) (by omega)
       rw [List.take_of_length_le (by omega)] at h1
       rw [← h1, zAz (fun c hc => zGc h W hb hc)]
       have h2 := hW.sum x hx
       rw [h.start, h.bef] at h2
       have h3 : zBA (fun c => W (s + c) / W b) (zR t p x) = zBA (fun c => W (s + c) * (W b)⁻¹) (zR t p x) := zAz (fun c _ => Rat.div_def _ _)
       rw [h3, zLW, h2]
       exact Rat.mul_inv_cancel _ (by grind)
     · obtain ⟨c, hc, rfl⟩ := List.getElem_of_mem hq
       have e : (zBe t p W x).getD c 0 = (zBe t p W x)[c] := z8 0 hc
       rw [← e, zGc h W hb (by omega), Rat.div_def]
       have h4 := hW.nn (s + c) (by have := h.fin; omega)
       exact Rat.mul_nonneg h4 (Rat.le_of_lt (Rat.inv_pos.2 hb))
   · have e : zBe t p W x = zA1 (zR t p x) 0 := by unfold zBe; rw [h.start, h.bef, if_neg hb]
     rw [e]
     obtain ⟨u1, u2, u3⟩ := zBX (w := zR t p x) (c := 0) h.w1
     exact ⟨u1, u2, fun q hq => (u3 q hq).1⟩
 exact ⟨fun x hx => (key x hx).1, fun x hx => (key x hx).2.1, fun x hx => (key x hx).2.2⟩
theorem zQ5 {t : zQ} (hv : Valid t) {p : Int} {W : Nat → Rat} (hW : Flow t p W) : ∀ k, k < (zY t p).length → (zAx t p (zBe t p W)).getD k 0 = W k := by
 intro k
 induction k using Nat.strongRecOn with
 | ind k ih =>
   intro hk
   rcases Nat.eq_zero_or_pos k with e | e
   · subst e; rw [zDF hv, hW.root]
   · obtain ⟨x, b, y0, y1, y2, y3, y4, y5, y6, y7⟩ := zHk hv e hk
     obtain ⟨s, b', h⟩ := zFM hv y1
     have hxs : x = (x.1, s) := zMP (RI.all_n hv p t.length (Nat.le_refl _)).nd y0 h.mem rfl
     have hs : x.2 = s := congrArg Prod.snd hxs
     have hbb : b = b' := by
       have e1 := y7 0 (by omega)
       have e2 := h.seqs 0 (by omega)
       rw [hs, e2] at e1
       have := congrArg RSeq.before e1
       have : ((b' : Nat) : Int) = ((b : Nat) : Int) := this
       omega
     subst hbb
     rw [hs] at y2 y3
     have hb := ih b (by have := h.lt; omega) (by have := h.lt; omega)
     have hks : k = s + (k - s) := by omega
     have hc : k - s < zR t p x.1 := by omega
     rw [hks, zNF h (zBe t p W) hc, hb]
     by_cases hWb : 0 < W b
     · rw [zGc h W hWb hc, Rat.mul_comm, Rat.div_mul_cancel (by grind)]
     · have h0 : W b = 0 := Rat.le_antisymm (Rat.not_lt.1 hWb) (hW.nn b (by have := h.lt; omega))
       have h2 := hW.sum x.1 y1
       rw [h.start, h.bef, h0] at h2
       have h3 := sumN_get (g := fun _ => 0) (f := fun c => W (s + c)) (n := zR t p x.1) (m := k - s) (fun c hc => hW.nn (s + c) (by have := h.fin; omega)) h2 hc
       rw [h0, Rat.zero_mul]
       exact h3.symm
/-- the value of a strategy of a player against the other one's -/
def valP (t : zQ) (p : Int) (u v : Int → List Rat) : Rat := if p = 1 then zAj t (zCM t v u) else zAj t (zCM t u v)
theorem zNv {t : zQ} (hv : Valid t) {p : Int} (hp : p = 0 ∨ p = 1) (hpf : zBd t p = true) (u v : Int → List Rat) : valP t p u v = (if p = 1 then (-1 : Rat) else 1) * zFf (zAx t p u) (zGM t p (zGj t p v)) (zY t p).length := by
 have h := zJR hv hpf u (zKh t p v)
 rw [h]
 unfold valP
 rcases hp with rfl | rfl
 · rw [if_neg (by decide), if_neg (by decide), if_neg (by decide), zEx (both0 hv u v), Rat.one_mul]
 · rw [if_pos rfl, if_pos rfl, if_pos rfl, zEx (both1 hv v u)]
   grind
theorem zIi {α : Type} (f : α → Rat) (c : Rat) : ∀ l : List α, zAH 0 (l.map (fun a => c * f a)) = c * zAH 0 (l.map f)
 | [] => by show (0 : Rat) = c * 0; rw [Rat.mul_zero]
 | a :: r => by
   rw [List.map_cons, List.map_cons, zAH, zAH, zBF _ (0 + c * f a), zBF _ (0 + f a), zIi f c r]
   grind
theorem zOO {α : Type} (f : α → Rat) (c : Rat) (l : List α) : zAH 0 (l.map (fun a => f a * c)) = zAH 0 (l.map f) * c := by
 rw [Rat.mul_comm, ← zIi]
 exact congrArg (zAH 0) (List.map_congr_left (fun a _ => Rat.mul_comm _ _))
theorem dot_mix {α : Type} {l : List α} {w : α → Rat} {P : α → List Rat} {Q S : List Rat} {n : Nat} (h : ∀ k, k < n → Q.getD k 0 = zAH 0 (l.map (fun a => w a * (P a).getD k 0))) : zFf Q S n = zAH 0 (l.map (fun a => w a * zFf (P a) S n)) := by
 unfold zFf
 rw [zAz (g := fun k => zAH 0 (l.map (fun a => w a * ((P a).getD k 0 * S.getD k 0)))) (fun k hk => by
   rw [h k hk, ← zOO]
   exact congrArg (zAH 0) (List.map_congr_left (fun a _ => Rat.mul_assoc _ _ _)))]
 rw [zId (fun a k => w a * ((P a).getD k 0 * S.getD k 0))]
 exact congrArg (zAH 0) (List.map_congr_left (fun a _ => zGp _ _ _))
/-- The mixture's pay is that of the strategy with its probabilities of sequences. -/
theorem pay_mix {α : Type} {t : zQ} (hv : Valid t) {p : Int} (hp : p = 0 ∨ p = 1) (hpf : zBd t p = true) {l : List α} {w : α → Rat} {U : α → Int → List Rat} {u : Int → List Rat} (v : Int → List Rat)
   (h : ∀ k, k < (zY t p).length → (zAx t p u).getD k 0 = zAH 0 (l.map (fun a => w a * (zAx t p (U a)).getD k 0))) : valP t p u v = zAH 0 (l.map (fun a => w a * valP t p (U a) v)) := by
 rw [zNv hv hp hpf, dot_mix h, ← zIi]
 refine congrArg (zAH 0) (List.map_congr_left (fun a _ => ?_))
 rw [zNv hv hp hpf (U a) v]
 grind
/-- Terms without weight can be left out. -/
theorem zJL {α : Type} (f : α → Rat) (q : α → Bool) : ∀ l : List α, (∀ a ∈ l, q a = false → f a = 0) → zAH 0 (l.map f) = zAH 0 ((l.filter q).map f)
 | [], _ => rfl
 | a :: r, h => by
   have ih := zJL f q r (fun x hx => h x (by simp [hx]))
   rw [List.map_cons, zAH, zBF, ih]
   cases hq : q a
   · rw [List.filter_cons_of_neg (by simp [hq]), h a (by simp) hq]
     grind
   · rw [List.filter_cons_of_pos hq, List.map_cons, zAH, zBF (List.map f (List.filter q r)) (0 + f a)]
/-- Probabilities of sequences hang on the information sets of the player alone. -/
theorem zL2 {t : zQ} (hv : Valid t) {p : Int} {u v : Int → List Rat} (h : ∀ x ∈ zJ t p, u x = v x) : ∀ k, k < (zY t p).length → (zAx t p u).getD k 0 = (zAx t p v).getD k 0 := by
 intro k
 induction k using Nat.strongRecOn with
 | ind k ih =>
   intro hk
   rcases Nat.eq_zero_or_pos k with e | e
   · subst e; rw [zDF hv, zDF hv]
   · obtain ⟨x, b, y0, y1, y2, y3, y4, y5, y6, y7⟩ := zHk hv e hk
     rw [zJj u y2 y3 y4 y6 y7, zJj v y2 y3 y4 y6 y7, h x.1 y1, ih b (by omega) (by omega)]
theorem zH8 (t : zQ) (p : Int) : ∀ (I cs : List Int) (u : Int → List Rat) (m : Nat), I.Nodup → cs.length = I.length → m < I.length → zE5 t p u I cs (I.getD m 0) = zA1 (zR t p (I.getD m 0)) (cs.getD m 0).toNat
 | [], _, _, _, _, _, hm => absurd hm (Nat.not_lt_zero _)
 | a :: r, [], _, _, _, hl, _ => by simp at hl
 | a :: r, b :: s, u, 0, hn, hl, hm => by
   show zE5 t p (upd u a _) r s a = _
   rw [zLo t p r s _ (List.nodup_cons.1 hn).1, upd_at]; rfl
 | a :: r, b :: s, u, m + 1, hn, hl, hm => by
   show zE5 t p (upd u a _) r s (r.getD m 0) = _
   exact zH8 t p r s _ m (List.nodup_cons.1 hn).2 (by simpa using hl) (by simpa using hm)
/-- the choices from a sequence back to the first one -/
def zCC (pos : Int → Nat) (cs : List Int) (sq : List RSeq) : Nat → Nat → Bool
 | 0, _ => true
 | f + 1, i => if (sq.getD i seq0).before < 0 then true else if cs.getD (pos (sq.getD i seq0).info) 0 = (sq.getD i seq0).choice then zCC pos cs sq f (sq.getD i seq0).before.toNat else false
theorem zOz {t : zQ} (hv : Valid t) {p : Int} {pos : Int → Nat} {cs : List Int} (u : Int → List Rat) (hpos : ∀ m, m < (zJ t p).length → pos ((zJ t p).getD m 0) = m) (hl : cs.length = (zJ t p).length)
   (hc : ∀ m, m < cs.length → 0 ≤ cs.getD m 0 ∧ (cs.getD m 0).toNat < zR t p ((zJ t p).getD m 0)) : ∀ k f, k < (zY t p).length → k < f →
   (zAx t p (zE5 t p u (zJ t p) cs)).getD k 0 = if zCC pos cs (zY t p) f k = true then 1 else 0 := by
 intro k
 induction k using Nat.strongRecOn with
 | ind k ih =>
   intro f hk hf
   obtain ⟨f, rfl⟩ : ∃ g, f = g + 1 := ⟨f - 1, by omega⟩
   rcases Nat.eq_zero_or_pos k with e | e
   · subst e
     have h0 := (zAw hv p).2.1
     unfold zCC
     rw [zDF hv, h0, if_pos (show seq0.before < 0 by decide), if_pos rfl]
   · obtain ⟨x, b, y0, y1, y2, y3, y4, y5, y6, y7⟩ := zHk hv e hk
     have hs := y7 (k - x.2) (by omega)
     rw [show x.2 + (k - x.2) = k by omega] at hs
     obtain ⟨m, hm, hmx⟩ := List.getElem_of_mem y1
     have hmg : (zJ t p).getD m 0 = x.1 := by rw [z8 0 hm, hmx]
     have hat := zH8 t p (zJ t p) cs u m (zBn t p) hl hm
     rw [hmg] at hat
     have hcm := hc m (by omega)
     rw [hmg] at hcm
     rw [zJj _ y2 y3 y4 y6 y7, hat, zQH hcm.2, ih b (by omega) f (by omega) (by omega)]
     unfold zCC
     rw [hs]
     simp only
     have hp := hpos m hm
     rw [hmg] at hp
     rw [if_neg (show ¬ ((b : Int) < 0) by omega), hp, Int.toNat_natCast]
     by_cases h : k - x.2 = (cs.getD m 0).toNat
     · rw [if_pos h, if_pos (show cs.getD m 0 = ((k - x.2 : Nat) : Int) by omega), Rat.mul_one]
       cases f <;> rfl
     · rw [if_neg h, if_neg (show ¬ cs.getD m 0 = ((k - x.2 : Nat) : Int) by omega), Rat.mul_zero]
       rfl
/-- slices.Compare -/
def zHi : List Int → List Int → Int
 | [], [] => 0
 | [], _ :: _ => -1
 | _ :: _, [] => 1
 | a :: r, b :: s => if a < b then -1 else if b < a then 1 else zHi r s
theorem zQf {B K : Nat} (hB : B ≠ 0) (hK : B < 10 ^ K) (hK2 : K ≤ 2000) {qs : List Rat} (hn : qs.length ≤ 256) (h : ∀ q ∈ qs, Dv B q ∧ 0 ≤ q ∧ zBK q = true) (h1 : zAH 0 qs ≤ 1) : zHh (qs.map zAJ) = (zAH 0 qs, 0) := by
 have v1 : (qs.map zAJ).map zAM = qs := by
   rw [List.map_map]
   conv => rhs; rw [← List.map_id qs]
   exact List.map_congr_left (fun q hq => (zKn (h q hq).2.2).2)
 have v2 : zFJ (qs.map zAJ) = 0 := zPS (fun s hs => by
   obtain ⟨q, hq, rfl⟩ := List.mem_map.1 hs
   exact (zKn (h q hq).2.2).1)
 have v3 := zNT hB hK hK2 qs 0 (Dv.zero B) Rat.le_refl (fun q hq => ⟨(h q hq).1, (h q hq).2.1⟩) h1
 have v4 := zKw qs 0 v3
 unfold zHh
 rw [if_neg (by rw [List.length_map]; omega), if_pos v2, v1]
 exact Prod.ext v4 v3
theorem zKU {B K : Nat} (hB : B ≠ 0) (hK : B < 10 ^ K) (hK2 : K ≤ 2000) {qs : List Rat} (hn : qs.length ≤ 256) (h : ∀ q ∈ qs, Dv B q ∧ 0 ≤ q ∧ zBK q = true) (h1 : zAH 0 qs = 1) : zCz (qs.map zAJ) = 0 := by
 have hs := zQf hB hK hK2 hn h (by rw [h1]; exact Rat.le_refl)
 have hneg : (qs.map zAJ).any zDB = false := by
   rw [List.any_eq_false]
   intro s hs
   obtain ⟨q, hq, rfl⟩ := List.mem_map.1 hs
   have hi := zKn (h q hq).2.2
   have := (zLR hi.1).2 (by rw [hi.2]; exact (h q hq).2.1)
   rw [this]; simp
 have hp : posE (qs.map zAJ) = 0 := by
   unfold posE
   rw [hs]
   show (if ((0 : Int) = 0 ∧ (qs.map zAJ).any zDB = true) then _ else _) = _
   rw [if_neg (fun q => by rw [hneg] at q; exact absurd q.2 (by decide))]
 unfold zCz
 rw [if_pos hp, hs, h1]
 rfl
theorem zIj (a : Rat) (l : List Rat) : zAH 0 (a :: l) = a + zAH 0 l := by rw [zAH, zBF, Rat.zero_add]
/-- Sums of shares of a whole stay short. -/
theorem share_D {α : Type} {B K : Nat} (hB : B ≠ 0) (hK : B < 10 ^ K) {l : List α} {w : α → Rat} (hw : ∀ a ∈ l, Dv B (w a) ∧ 0 ≤ w a) (h1 : zAH 0 (l.map w) ≤ 1) (q : α → Bool) : Dv B (zAH 0 ((l.filter q).map w)) ∧ 0 ≤ zAH 0 ((l.filter q).map w) ∧ zAH 0 ((l.filter q).map w) ≤ 1 ∧ D K (zAH 0 ((l.filter q).map w)) := by
 have hd : ∀ m : List α, (∀ a ∈ m, Dv B (w a) ∧ 0 ≤ w a) → Dv B (zAH 0 (m.map w)) := by
   intro m
   induction m with
   | nil => intro _; exact Dv.zero B
   | cons a r ih =>
     intro h
     rw [List.map_cons, zAH, zBF, Rat.zero_add]
     exact (h a (by simp)).1.add (ih (fun x hx => h x (by simp [hx])))
 have hle : ∀ m : List α, (∀ a ∈ m, Dv B (w a) ∧ 0 ≤ w a) → zAH 0 ((m.filter q).map w) ≤ zAH 0 (m.map w) := by
   intro m
   induction m with
   | nil => intro _; exact Rat.le_refl
   | cons a r ih =>
     intro h
     have h2 := ih (fun x hx => h x (by simp [hx]))
     have h3 := (h a (by simp)).2
     rw [List.map_cons, zIj]
     cases hq : q a
     · rw [List.filter_cons_of_neg (by simp [hq])]
       clear ih h hd h1 hw hK
       grind
     · rw [List.filter_cons_of_pos hq, List.map_cons, zIj]
       clear ih h hd h1 hw hK
       grind
 have g1 := hd (l.filter q) (fun a ha => hw a (List.mem_filter.1 ha).1)
 have g2 : 0 ≤ zAH 0 ((l.filter q).map w) := zPa (fun a ha => (hw a (List.mem_filter.1 ha).1).2)
 have g3 := Rat.le_trans (hle l hw) h1
 exact ⟨g1, g2, g3, zMQ g1 hB g2 g3 hK⟩
theorem zQm {l : List Rat} (h : ∀ q ∈ l, 0 ≤ q) {x : Rat} (hx : x ∈ l) : x ≤ zAH 0 l := by
 induction l with
 | nil => simp at hx
 | cons a r ih =>
   rw [zIj]
   have ha := h a (by simp)
   have hr := zHu r 0 (fun y hy => h y (by simp [hy]))
   rcases List.mem_cons.1 hx with rfl | hx
   · clear ih h; grind
   · have := ih (fun q hq => h q (by simp [hq])) hx
     clear ih h; grind
theorem beh_fit {t : zQ} (hv : Valid t) {p : Int} {W : Nat → Rat} (hW : Flow t p W) {B K : Nat} (hB : B ≠ 0) (hK : B < 10 ^ K) (h1K : 1 ≤ K) (hK2 : K ≤ 2000) (hD : ∀ k, k < (zY t p).length → Dv B (W k)) (h1 : ∀ k, k < (zY t p).length → W k ≤ 1) {x : Int} (hx : x ∈ zJ t p) :
   (∀ q ∈ zBe t p W x, 0 ≤ q ∧ q ≤ 1 ∧ D K q ∧ zBK q = true) ∧ zCz ((zBe t p W x).map zAJ) = 0 := by
 obtain ⟨s, b, h⟩ := zFM hv hx
 have hmix := zNG hv hW
 have hsum := hmix.sum x hx
 have hnn := hmix.nn x hx
 have hlen := hmix.len x hx
 have hle : ∀ q ∈ zBe t p W x, q ≤ 1 := fun q hq => by rw [← hsum]; exact zQm hnn hq
 have hw6 : zR t p x ≤ 256 := by
   have h61 := zH5 hv p
   have := h.fin
   omega
 have key : ∃ A : Nat, A ≠ 0 ∧ A < 10 ^ K ∧ ∀ q ∈ zBe t p W x, Dv A q := by
   by_cases hb : 0 < W b
   · obtain ⟨z, hz⟩ := hD b (by have := h.lt; have := h.fin; omega)
     have hB0 : (0 : Rat) < (B : Rat) := by
       have : ((0 : Nat) : Rat) < (B : Rat) := by exact_mod_cast Nat.pos_of_ne_zero hB
       exact this
     have hz0 : 0 < z := by
       have h2 := Rat.mul_pos hb hB0
       rw [hz] at h2
       exact_mod_cast h2
     have hzB : z ≤ B := by
       have h2 := Rat.mul_le_mul_of_nonneg_right (h1 b (by have := h.lt; have := h.fin; omega)) (Rat.le_of_lt hB0)
       rw [hz, Rat.one_mul] at h2
       exact_mod_cast h2
     refine ⟨z.toNat, by omega, by omega, fun q hq => ?_⟩
     obtain ⟨c, hc, rfl⟩ := List.getElem_of_mem hq
     have e : (zBe t p W x).getD c 0 = (zBe t p W x)[c] := z8 0 hc
     obtain ⟨z', hz'⟩ := hD (s + c) (by have := h.fin; omega)
     refine ⟨z', ?_⟩
     have hzz : ((z.toNat : Nat) : Rat) = (z : Rat) := by
       rw [← Rat.intCast_natCast, Int.toNat_of_nonneg (by omega)]
     rw [← e, zGc h W hb (by omega), hzz, ← hz, ← hz', Rat.div_def, Rat.mul_assoc, ← Rat.mul_assoc (W b)⁻¹, Rat.inv_mul_cancel _ (by grind), Rat.one_mul]
   · have e : zBe t p W x = zA1 (zR t p x) 0 := by unfold zBe; rw [h.start, h.bef, if_neg hb]
     refine ⟨1, by decide, Nat.lt_of_lt_of_le (by decide : 1 < 10 ^ 1) (Nat.pow_le_pow_right (by decide) h1K), fun q hq => ?_⟩
     rw [e] at hq
     obtain ⟨c, hc, rfl⟩ := List.getElem_of_mem hq
     have e2 : (zA1 (zR t p x) 0).getD c 0 = (zA1 (zR t p x) 0)[c] := z8 0 hc
     rw [← e2, zQH h.w1]
     split
     · exact Dv.one 1
     · exact Dv.zero 1
 obtain ⟨A, a1, a2, a3⟩ := key
 have hd : ∀ q ∈ zBe t p W x, D K q := fun q hq => zMQ (a3 q hq) a1 (hnn q hq) (hle q hq) a2
 have hf : ∀ q ∈ zBe t p W x, zBK q = true := fun q hq => (D.out (hd q hq) hK2).2.fit
 exact ⟨fun q hq => ⟨hnn q hq, hle q hq, hd q hq, hf q hq⟩, zKU a1 a2 hK2 (by omega) (fun q hq => ⟨a3 q hq, hnn q hq, hf q hq⟩) hsum⟩
structure CPlan where
 choices : List Int
 odds : zBJ
 deriving DecidableEq
def cp0 : CPlan := ⟨[], []⟩
abbrev zBr := List CPlan
def zBI (t : zQ) (p : Int) : List Nat := (zJ t p).map (zR t p)
/-- convert.all -/
def zIS : List Nat → List (List Int) → Option (List (List Int))
 | [], out => some out
 | n :: r, out => if 128 < out.length * n then none else zIS r (zEl out n)
theorem zIe (out : List (List Int)) (n : Nat) : (zEl out n).length = out.length * n := by
 unfold zEl
 induction out with
 | nil => simp
 | cons a r ih => rw [List.flatMap_cons, List.length_append, ih, List.length_map, List.length_range, List.length_cons, Nat.succ_mul]; omega
theorem zLX : ∀ (w : List Nat) (out o : List (List Int)), zIS w out = some o → out.length ≤ 128 → o = w.foldl zEl out ∧ o.length ≤ 128
 | [], out, o, h, hl => by cases h; exact ⟨rfl, hl⟩
 | n :: r, out, o, h, hl => by
   rw [zIS] at h
   split at h
   · cases h
   · rename_i h1
     have := zLX r _ o h (by rw [zIe]; omega)
     exact this
theorem allG_all {w : List Nat} {o : List (List Int)} (h : zIS w [[]] = some o) : o = zFo w ∧ o.length ≤ 128 := zLX w [[]] o h (by decide)
/-- the weight of a pure strategy -/
def zDH (s : zAK) : List (List Rat) := s.map (fun x => x.odds.map zAM)
def zEw (s : zAK) (c : List Int) : Rat := wgtC (zDH s) c 1
def zEd (s : zAK) (l : List (List Int)) : List (List Int) := l.filter (fun c => decide (zEw s c ≠ 0))
def zFS (s : zAK) (l : List (List Int)) : zBr × Int := if (zEd s l).all (fun c => zBK (zEw s c)) then ((zEd s l).map (fun c => ⟨c, zAJ (zEw s c)⟩), 0) else ([], 2)
/-- convert.Mixed -/
def zIV (t : zQ) (p : Int) (s : zAK) : zBr × Int := if zAv t p ≠ 0 then ([], zAv t p) else if zAe t p s ≠ 0 then ([], zAe t p s) else match zIS (zBI t p) [[]] with | none => ([], 2) | some l => zFS s l
/-- convert.Pure -/
def zOE (t : zQ) (p : Int) : List (List Int) × Int := if zAv t p ≠ 0 then ([], zAv t p) else match zIS (zBI t p) [[]] with | none => ([], 2) | some l => (l, 0)
def inW : List Nat → List Int → Bool
 | w :: ws, c :: cs => decide (0 ≤ c ∧ c < (w : Int)) && inW ws cs
 | _, _ => true
def zEk (w : List Nat) (q : Option (List Int)) (c : List Int) : Int :=
 if c.length ≠ w.length then 3 else if inW w c = false then 4 else match q with | none => 0 | some b => if zHi b c < 0 then 0 else 7
def zFI (w : List Nat) : Option (List Int) → zBr → Int
 | _, [] => 0
 | q, a :: r => if zEk w q a.choices ≠ 0 then zEk w q a.choices else zFI w (some a.choices) r
/-- convert.Check -/
def zDJ (t : zQ) (p : Int) (l : zBr) : Int := if zAv t p ≠ 0 then zAv t p else if 128 < l.length then 2 else if zFI (zBI t p) none l ≠ 0 then zFI (zBI t p) none l else zCz (l.map CPlan.odds)
def zJa (t : zQ) (p x : Int) : Nat := (zJ t p).findIdx (fun y => decide (y = x))
/-- the weight of a sequence -/
def zBP (t : zQ) (p : Int) (l : zBr) (k : Nat) : Rat := zAH 0 ((l.filter (fun a => zCC (zJa t p) a.choices (zY t p) (zY t p).length k)).map (fun a => zAM a.odds))
def zKQ (t : zQ) (p : Int) (W : Nat → Rat) : zAK := (zJ t p).map (fun x => ⟨x, (zBe t p W x).map zAJ⟩)
/-- convert.Behaviour -/
def zIL (t : zQ) (p : Int) (l : zBr) : zAK × Int := if zDJ t p l ≠ 0 then ([], zDJ t p l) else if zBd t p = true then (if (zJ t p).all (fun x => (zBe t p (zBP t p l) x).all zBK) then (zKQ t p (zBP t p l), 0) else ([], 2)) else ([], 10)
/-- a pure strategy's texts -/
def zIA (w c : Nat) : List zBJ := (List.replicate w [48]).set c [49]
def zCK (t : zQ) (p : Int) (cs : List Int) : zAK := (zJ t p).map (fun x => ⟨x, zIA (zR t p x) (cs.getD (zJa t p x) 0).toNat⟩)
def zC0 (p : Int) (s o : zAK) : zAK := if p = 1 then o else s
def zC1 (p : Int) (s o : zAK) : zAK := if p = 1 then s else o
def zLa (t : zQ) (a b : zAK) : zAI := zCM t (zCG a) (zCG b)
def zJY (t : zQ) (p : Int) (o : zAK) (a : CPlan) : Rat := zAj t (zLa t (zC0 p (zCK t p a.choices) o) (zC1 p (zCK t p a.choices) o)) * zAM a.odds
def payQ (t : zQ) (p : Int) (l : zBr) (o : zAK) : Rat := zAH 0 (l.map (zJY t p o))
/-- convert.Pay -/
def zIf (t : zQ) (p : Int) (l : zBr) (o : zAK) : zBJ × Int := if zDJ t p l ≠ 0 then ([], zDJ t p l) else if zAe t (1 - p) o ≠ 0 then ([], zAe t (1 - p) o) else zEZ (payQ t p l o)
structure OkM (t : zQ) (p : Int) (l : zBr) : Prop where
 len : ∀ a ∈ l, a.choices.length = (zJ t p).length
 ran : ∀ a ∈ l, ∀ m, m < (zJ t p).length → 0 ≤ a.choices.getD m 0 ∧ (a.choices.getD m 0).toNat < zR t p ((zJ t p).getD m 0)
 odds : zCz (l.map CPlan.odds) = 0
theorem zGW (t : zQ) (p : Int) : (zBI t p).length = (zJ t p).length := by unfold zBI; rw [List.length_map]
theorem zQR {t : zQ} {p : Int} {m : Nat} (hm : m < (zJ t p).length) : (zBI t p).getD m 0 = zR t p ((zJ t p).getD m 0) := zBV _ _ 0 0 m hm
theorem inW_at : ∀ (w : List Nat) (c : List Int), c.length = w.length → (inW w c = true ↔ ∀ m, m < w.length → 0 ≤ c.getD m 0 ∧ c.getD m 0 < (w.getD m 0 : Int))
 | [], c, _ => by constructor <;> intro _ <;> first | rfl | (intro m hm; exact absurd hm (Nat.not_lt_zero _))
 | a :: r, [], hl => by simp at hl
 | a :: r, b :: s, hl => by
   have ih := inW_at r s (by simpa using hl)
   rw [inW, Bool.and_eq_true, decide_eq_true_eq, ih]
   constructor
   · rintro ⟨h1, h2⟩ m hm
     cases m with
     | zero => exact h1
     | succ m => exact h2 m (by simpa using hm)
   · intro h
     exact ⟨h 0 (by simp), fun m hm => h (m + 1) (by simpa using hm)⟩
theorem zJD {w : List Nat} : ∀ {l : zBr} {q : Option (List Int)}, zFI w q l = 0 → ∀ a ∈ l, a.choices.length = w.length ∧ inW w a.choices = true
 | [], _, _, a, ha => by simp at ha
 | b :: r, q, h, a, ha => by
   rw [zFI] at h
   split at h
   · rename_i h1; exact absurd h h1
   · rename_i h1
     rcases List.mem_cons.1 ha with rfl | ha
     · have h1 := Classical.not_not.1 h1
       unfold zEk at h1
       split at h1
       · cases h1
       · rename_i h2
         split at h1
         · cases h1
         · rename_i h3
           exact ⟨Classical.not_not.1 h2, by simpa using h3⟩
     · exact zJD h a ha
theorem zFg {t : zQ} {p : Int} {l : zBr} (h : zDJ t p l = 0) : zAv t p = 0 ∧ OkM t p l := by
 unfold zDJ at h
 split at h
 · rename_i h1; exact absurd h h1
 rename_i h1
 split at h
 · cases h
 split at h
 · rename_i h2; exact absurd h h2
 rename_i h2
 have h3 := zJD (Classical.not_not.1 h2)
 refine ⟨Classical.not_not.1 h1, fun a ha => ?_, fun a ha m hm => ?_, h⟩
 · rw [(h3 a ha).1, zGW]
 · have := ((inW_at _ _ (h3 a ha).1).1 (h3 a ha).2) m (by rw [zGW]; exact hm)
   rw [zQR hm] at this
   omega
theorem zOS (t : zQ) (p : Int) {m : Nat} (hm : m < (zJ t p).length) : zJa t p ((zJ t p).getD m 0) = m := by
 unfold zJa
 have hn := zBn t p
 have h1 : (zJ t p).getD m 0 = (zJ t p)[m] := z8 0 hm
 rw [h1]
 have hex : ∃ y ∈ zJ t p, decide (y = (zJ t p)[m]) = true := ⟨_, List.getElem_mem hm, by simp⟩
 have hlt : (zJ t p).findIdx (fun y => decide (y = (zJ t p)[m])) < (zJ t p).length := List.findIdx_lt_length_of_exists hex
 have hf := List.findIdx_getElem (w := hlt)
 simp only [decide_eq_true_eq] at hf
 exact (List.getElem_inj hn).1 hf
theorem pure_mix {t : zQ} (hv : Valid t) {p : Int} (u : Int → List Rat) {cs : List Int} (hl : cs.length = (zJ t p).length) (hc : ∀ m, m < (zJ t p).length → 0 ≤ cs.getD m 0 ∧ (cs.getD m 0).toNat < zR t p ((zJ t p).getD m 0)) : Mix t p (zE5 t p u (zJ t p) cs) := by
 have key : ∀ x ∈ zJ t p, ∃ c, c < zR t p x ∧ zE5 t p u (zJ t p) cs x = zA1 (zR t p x) c := by
   intro x hx
   obtain ⟨m, hm, rfl⟩ := List.getElem_of_mem hx
   have h1 := zH8 t p (zJ t p) cs u m (zBn t p) hl hm
   have e : (zJ t p).getD m 0 = (zJ t p)[m] := z8 0 hm
   have h2 := hc m hm
   rw [e] at h1 h2
   exact ⟨_, h2.2, h1⟩
 refine ⟨fun x hx => ?_, fun x hx => ?_, fun x hx => ?_⟩ <;> obtain ⟨c, c1, c2⟩ := key x hx <;> rw [c2]
 · exact (zBX c1).1
 · exact (zBX c1).2.1
 · exact fun q hq => ((zBX c1).2.2 q hq).1
theorem OkM.wgt {t : zQ} {p : Int} {l : zBr} (h : OkM t p l) : (∀ a ∈ l, zDa a.odds = 0 ∧ 0 ≤ zAM a.odds ∧ D 2000 (zAM a.odds)) ∧ zAH 0 (l.map (fun a => zAM a.odds)) = 1 ∧ l.length ≤ 256 := by
 obtain ⟨h1, h2, h3, h4⟩ := zBh h.odds
 rw [List.length_map] at h1
 rw [List.map_map] at h3 h4
 exact ⟨fun a ha => ⟨h2 _ (List.mem_map.2 ⟨a, ha, Y⟩), h4 _ (List.mem_map.2 ⟨a, ha, Y⟩)⟩, h3, h1⟩
theorem zLM {t : zQ} (hv : Valid t) {p : Int} {l : zBr} (h : OkM t p l) (u : Int → List Rat) {k : Nat} (hk : k < (zY t p).length) :
   zBP t p l k = zAH 0 (l.map (fun a => zAM a.odds * (zAx t p (zE5 t p u (zJ t p) a.choices)).getD k 0)) := by
 have hp : ∀ a ∈ l, (zAx t p (zE5 t p u (zJ t p) a.choices)).getD k 0 = if zCC (zJa t p) a.choices (zY t p) (zY t p).length k = true then 1 else 0 := fun a ha =>
   zOz hv u (fun m hm => zOS t p hm) (h.len a ha) (fun m hm => h.ran a ha m (by rw [← h.len a ha]; exact hm)) k _ hk hk
 rw [zJL _ (fun a => zCC (zJa t p) a.choices (zY t p) (zY t p).length k) l (fun a ha hq => by rw [hp a ha, if_neg (by rw [hq]; decide), Rat.mul_zero])]
 unfold zBP
 refine congrArg (zAH 0) (List.map_congr_left (fun a ha => ?_))
 rw [List.mem_filter] at ha
 rw [hp a ha.1, if_pos ha.2, Rat.mul_one]
theorem Flow.congr {t : zQ} (hv : Valid t) {p : Int} {W V : Nat → Rat} (h : Flow t p V) (e : ∀ k, k < (zY t p).length → W k = V k) : Flow t p W := by
 refine ⟨?_, fun k hk => by rw [e k hk]; exact h.nn k hk, fun x hx => ?_⟩
 · rw [e 0 (zAw hv p).2.2.1, h.root]
 · obtain ⟨s, b, g⟩ := zFM hv hx
   have := h.sum x hx
   rw [g.start, g.bef] at this ⊢
   rw [e b (by have := g.lt; have := g.fin; have := g.w1; omega), ← this]
   exact zAz (fun c hc => e _ (by have := g.fin; omega))
theorem zOL {t : zQ} (hv : Valid t) {p : Int} {l : zBr} (h : OkM t p l) : Flow t p (zBP t p l) := by
 obtain ⟨h1, h2, h3⟩ := h.wgt
 have hf := Flow.mixed hv (l := l) (w := fun a => zAM a.odds) (F := fun a k => (zAx t p (zE5 t p (fun _ => []) (zJ t p) a.choices)).getD k 0) (fun a ha => (h1 a ha).2.1) h2
   (fun a ha => zQ4 hv (pure_mix hv _ (h.len a ha) (h.ran a ha)))
 exact hf.congr hv (fun k hk => zLM hv h _ hk)
theorem zLh {I Z : List Int} : ∀ {s : zAK} {k : Nat}, (∀ j, j < s.length → (s.getD j ch0).info = I.getD (k + j) 0 ∧ (((s.getD j ch0).odds.length : Nat) : Int) = Z.getD (k + j) 0 ∧ zCz (s.getD j ch0).odds = 0) → zEq I Z k s = 0
 | [], k, h => rfl
 | c :: r, k, h => by
   have h0 := h 0 (by simp)
   rw [zEq, if_neg (by rintro (q | q); exact q h0.1; exact q h0.2.1), if_neg (fun q => q h0.2.2)]
   exact zLh (fun j hj => by have := h (j + 1) (by simpa using hj); rwa [show k + (j + 1) = k + 1 + j by omega] at this)
theorem zMo {t : zQ} {p : Int} {f : Int → List zBJ} (h : ∀ x ∈ zJ t p, (f x).length = zR t p x ∧ zCz (f x) = 0) : zAe t p ((zJ t p).map (fun x => ⟨x, f x⟩)) = 0 := by
 unfold zAe
 rw [List.length_map, if_neg (fun q => q rfl)]
 refine zLh (fun j hj => ?_)
 rw [List.length_map] at hj
 rw [zBV _ _ 0 _ _ hj, Nat.zero_add]
 have hx : (zJ t p).getD j 0 ∈ zJ t p := zAQ 0 hj
 refine ⟨Y, ?_, (h _ hx).2⟩
 unfold zz
 rw [zBV _ _ 0 _ _ hj, (h _ hx).1]
theorem zQQ {t : zQ} {p : Int} {f : Int → List zBJ} {x : Int} (hx : x ∈ zJ t p) : zCG ((zJ t p).map (fun x => ⟨x, f x⟩)) x = (f x).map zAM := by
 have hm : ((zJ t p).map (fun x => (⟨x, f x⟩ : TChoice))).map TChoice.info = zJ t p := by
   rw [List.map_map]; exact List.map_id _
 exact zK0 (c := ⟨x, f x⟩) (by rw [hm]; exact zBn t p) (List.mem_map.2 ⟨x, hx, Y⟩)
/-- The strategy of a mixture. -/
theorem beh_all {t : zQ} {p : Int} {l : zBr} (hv : Valid t) (hc : zDJ t p l = 0) (hp : zBd t p = true) {B K : Nat} (hB : B ≠ 0) (hK : B < 10 ^ K) (h1K : 1 ≤ K) (hK2 : K ≤ 2000) (hD : ∀ a ∈ l, Dv B (zAM a.odds)) :
   zIL t p l = (zKQ t p (zBP t p l), 0) ∧ zAe t p (zKQ t p (zBP t p l)) = 0 ∧ (∀ x ∈ zJ t p, zCG (zKQ t p (zBP t p l)) x = zBe t p (zBP t p l) x) ∧
   (∀ c ∈ zKQ t p (zBP t p l), ∀ q ∈ c.odds.map zAM, D K q) ∧ (∀ k, k < (zY t p).length → (zAx t p (zCG (zKQ t p (zBP t p l)))).getD k 0 = zBP t p l k) := by
 have hO := (zFg hc).2
 obtain ⟨h1, h2, h3⟩ := hO.wgt
 have hF := zOL hv hO
 have hsh := fun k => share_D hB hK (l := l) (w := fun a => zAM a.odds) (fun a ha => ⟨hD a ha, (h1 a ha).2.1⟩) (by rw [h2]; exact Rat.le_refl) (fun a => zCC (zJa t p) a.choices (zY t p) (zY t p).length k)
 have hfit := fun x (hx : x ∈ zJ t p) => beh_fit hv hF hB hK h1K hK2 (fun k _ => (hsh k).1) (fun k _ => (hsh k).2.2.1) hx
 have hmix := zNG hv hF
 have hall : (zJ t p).all (fun x => (zBe t p (zBP t p l) x).all zBK) = true := by
   rw [List.all_eq_true]
   intro x hx
   rw [List.all_eq_true]
   exact fun q hq => ((hfit x hx).1 q hq).2.2.2
 have hq : ∀ x ∈ zJ t p, ((zBe t p (zBP t p l) x).map zAJ).map zAM = zBe t p (zBP t p l) x := fun x hx => by
   rw [List.map_map]
   conv => rhs; rw [← List.map_id (zBe t p (zBP t p l) x)]
   exact List.map_congr_left (fun q hq => (rat_of ((hfit x hx).1 q hq).2.2.2).2)
 have ho : ∀ x ∈ zJ t p, zCG (zKQ t p (zBP t p l)) x = zBe t p (zBP t p l) x := fun x hx => by
   unfold zKQ
   rw [zQQ hx]
   exact hq x hx
 refine ⟨?_, ?_, ho, fun c hc' q hq' => ?_, fun k hk => ?_⟩
 · unfold zIL
   rw [if_neg (fun q => q hc), if_pos hp, if_pos hall]
 · exact zMo (fun x hx => ⟨by rw [List.length_map, hmix.len x hx], (hfit x hx).2⟩)
 · obtain ⟨x, hx, rfl⟩ := List.mem_map.1 hc'
   have hq' : q ∈ ((zBe t p (zBP t p l) x).map zAJ).map zAM := hq'
   rw [hq x hx] at hq'
   exact ((hfit x hx).1 q hq').2.2.1
 · rw [zL2 hv ho k hk, zQ5 hv hF k hk]
theorem zB6 {t : zQ} {p : Int} (h : zAv t p = 0) : Valid t ∧ (p = 0 ∨ p = 1) := by
 unfold zAv at h
 split at h
 · rename_i h1; exact absurd h h1
 · rename_i h1
   split at h
   · cases h
   · rename_i h2
     refine ⟨zKY (Classical.not_not.1 h1), ?_⟩
     by_cases h3 : p = 0
     · exact .inl h3
     · exact .inr (Classical.not_not.1 (fun q => h2 ⟨h3, q⟩))
theorem zIa {t : zQ} {p : Int} {s : zAK} (h : OkS t p s) : zDH s = (zJ t p).map (zCG s) := by
 have hn : (s.map TChoice.info).Nodup := by rw [h.infos]; exact zBn t p
 unfold zDH
 rw [← h.infos, List.map_map]
 exact List.map_congr_left (fun c hc => (zK0 hn hc).symm)
theorem OkS.mix {t : zQ} {p : Int} {s : zAK} (h : OkS t p s) : Mix t p (zCG s) := ⟨h.strat.len, h.strat.sum, h.strat.nn⟩
theorem allC_all {w : List Nat} {c : List Int} (h : c ∈ zFo w) : c.length = w.length ∧ ∀ k, k < w.length → 0 ≤ c.getD k 0 ∧ (c.getD k 0).toNat < w.getD k 0 := by
 have h' : c ∈ zFo (w.take w.length) := by rw [List.take_length]; exact h
 exact ⟨zHw w _ (Nat.le_refl _) c h', zPh w _ (Nat.le_refl _) c h'⟩
theorem prod_lt {l : List Nat} {d K : Nat} (hd : ∀ x ∈ l, x ≤ 10 ^ d) (h : d * l.length < K) : zFc l < 10 ^ K := Nat.lt_of_le_of_lt (zHz hd) (Nat.pow_lt_pow_right (by decide) h)
theorem zRi (w c : Nat) : (zIA w c).map zAM = zA1 w c := by
 unfold zIA zA1
 rw [List.map_set, List.map_replicate, show zAM [48] = 0 by decide +kernel, show zAM [49] = 1 by decide +kernel]
theorem zOw (w c : Nat) : (zA1 w c).map zAJ = zIA w c := by
 unfold zIA zA1
 rw [List.map_set, List.map_replicate, show zAJ 0 = [48] by decide +kernel, show zAJ 1 = [49] by decide +kernel]
theorem zOQ {w c : Nat} (hc : c < w) (hw : w ≤ 256) : zCz (zIA w c) = 0 := by
 rw [← zOw]
 obtain ⟨h1, h2, h3⟩ := zBX hc
 refine zKU (B := 1) (K := 1) (by decide) (by decide) (by decide) (by omega) (fun q hq => ?_) h2
 have e : q = 0 ∨ q = 1 := by
   unfold zA1 at hq
   rcases List.mem_or_eq_of_mem_set hq with h | h
   · exact .inl (List.eq_of_mem_replicate h)
   · exact .inr h
 rcases e with rfl | rfl
 · exact ⟨Dv.zero 1, by decide +kernel, by decide +kernel⟩
 · exact ⟨Dv.one 1, by decide +kernel, by decide +kernel⟩
theorem zH6 {t : zQ} (hv : Valid t) {p x : Int} (hx : x ∈ zJ t p) : zR t p x ≤ 6 := by
 obtain ⟨j, hj, hs⟩ := (zBg hv).1 hx
 rw [zC4 hv hj hs]
 exact (zKR (hv.nodes j hj)).2
theorem zNf {t : zQ} {p : Int} {l : zBr} (hv : Valid t) (hO : OkM t p l) {a : CPlan} (ha : a ∈ l) : zAe t p (zCK t p a.choices) = 0 ∧ (∀ c ∈ zCK t p a.choices, ∀ r ∈ c.odds, r.length ≤ 12) ∧
   ∀ x ∈ zJ t p, zCG (zCK t p a.choices) x = zE5 t p (fun _ => []) (zJ t p) a.choices x := by
 have key : ∀ x ∈ zJ t p, (a.choices.getD (zJa t p x) 0).toNat < zR t p x ∧ zE5 t p (fun _ => []) (zJ t p) a.choices x = zA1 (zR t p x) (a.choices.getD (zJa t p x) 0).toNat := by
   intro x hx
   obtain ⟨m, hm, rfl⟩ := List.getElem_of_mem hx
   have e : (zJ t p).getD m 0 = (zJ t p)[m] := z8 0 hm
   have h1 := zH8 t p (zJ t p) a.choices (fun _ => []) m (zBn t p) (hO.len a ha) hm
   have h2 := hO.ran a ha m hm
   have h3 := zOS t p hm
   rw [e] at h1 h2 h3
   rw [h3]
   exact ⟨h2.2, h1⟩
 refine ⟨zMo (fun x hx => ⟨by unfold zIA; rw [List.length_set, List.length_replicate], zOQ (key x hx).1 (by have := zH6 hv hx; omega)⟩), fun c hc r hr => ?_, fun x hx => ?_⟩
 · obtain ⟨x, hx, rfl⟩ := List.mem_map.1 hc
   have hr : r ∈ zIA _ _ := hr
   unfold zIA at hr
   rcases List.mem_or_eq_of_mem_set hr with h | h
   · rw [List.eq_of_mem_replicate h]; decide
   · rw [h]; decide
 · unfold zCK
   rw [zQQ hx, zRi, (key x hx).2]
theorem zLp {t : zQ} {p : Int} (hp : p = 0 ∨ p = 1) (s o : zAK) : zAj t (zLa t (zC0 p s o) (zC1 p s o)) = valP t p (zCG s) (zCG o) := by
 unfold valP zLa zC0 zC1
 rcases hp with rfl | rfl
 · rw [if_neg (by decide), if_neg (by decide), if_neg (by decide)]
 · rw [if_pos rfl, if_pos rfl, if_pos rfl]
/-- What a mixture receives. -/
theorem pay_plan {t : zQ} {p : Int} {l : zBr} {u : zAK} (o : zAK) (hv : Valid t) (hp : p = 0 ∨ p = 1) (hpf : zBd t p = true) (hO : OkM t p l) (hu : ∀ k, k < (zY t p).length → (zAx t p (zCG u)).getD k 0 = zBP t p l k) :
   payQ t p l o = zAj t (zLa t (zC0 p u o) (zC1 p u o)) := by
 rw [zLp hp, pay_mix hv hp hpf (l := l) (w := fun a => zAM a.odds) (U := fun a => zCG (zCK t p a.choices)) (zCG o) (fun k hk => ?_)]
 · unfold payQ
   refine congrArg (zAH 0) (List.map_congr_left (fun a ha => ?_))
   unfold zJY
   rw [zLp hp, Rat.mul_comm]
 · rw [hu k hk, zLM hv hO (fun _ => []) hk]
   refine congrArg (zAH 0) (List.map_congr_left (fun a ha => ?_))
   rw [zL2 hv (zNf hv hO ha).2.2 k hk]
/-- ConvertEqual -/
theorem zM6 {t : zQ} {p : Int} {l : zBr} {o : zAK} (hc : zDJ t p l = 0) (hp : zBd t p = true) (hl : l.length ≤ 20) (hd : ∀ a ∈ l, a.odds.length ≤ 12) :
   ∃ u, zIL t p l = (u, 0) ∧ zAe t p u = 0 ∧ (∀ c ∈ u, ∀ q ∈ c.odds.map zAM, D 241 q) ∧ payQ t p l o = zAj t (zLa t (zC0 p u o) (zC1 p u o)) := by
 obtain ⟨h1, hO⟩ := zFg hc
 obtain ⟨hv, hp1⟩ := zB6 h1
 have hw := hO.wgt
 have hB : zFc (l.map (fun a => (zAM a.odds).den)) < 10 ^ 241 := by
   refine prod_lt (d := 12) (K := 241) (fun x hx => ?_) (by rw [List.length_map]; omega)
   obtain ⟨a, ha, rfl⟩ := List.mem_map.1 hx
   exact Nat.le_of_lt ((IsQ.self (hw.1 a ha).1).dig (hd a ha) (by decide)).2
 have hpos := zIx (l := l.map (fun a => (zAM a.odds).den)) (fun x hx => by
   obtain ⟨a, ha, rfl⟩ := List.mem_map.1 hx
   exact (zAM a.odds).den_pos)
 obtain ⟨b1, b2, b3, b4, b5⟩ := beh_all hv hc hp (B := zFc (l.map (fun a => (zAM a.odds).den))) (by omega) hB (by decide) (by decide) (fun a ha => (Dv.of_den (q := zAM a.odds)).mono (zG9 (List.mem_map.2 ⟨a, ha, rfl⟩)))
 exact ⟨_, b1, b2, b4, pay_plan o hv hp1 hp hO b5⟩
end Go.Ax.Rt
namespace Go.Proofs.YtnkealfaldjipaaGreatDoor
open Go.Ax Go.Ax.Bg Go.Ax.Rt Go.RowKit Go.Ax.Idx Go.Ax.Cd
attribute [local irreducible] Ax zBG QOp zV zA0
set_option maxRecDepth 100000
set_option maxHeartbeats 4000000
theorem zOC (n : Int) : zW Tryz.prog 208 [.int .i64 n] (.bool false) := by
 refine zV.value0 (zG (P := Tryz.prog) (fn := Tryz.f208) Y Y (by kernel_rfl) Y (fun c hR hfix => ?_)) (fix := fun _ => False) (fun _ h => h) Y Y
 refine rn3 ?_
 refine zI hR Y ?_
 simp [zBL]
def cmpO (x y : Int) : Int := if x < y then -1 else if y < x then 1 else 0
theorem cmpO_ok (x y : Int) : zW Tryz.prog 162 [.int .i64 x, .int .i64 y] (.int .i64 (cmpO x y)) := by
 refine zV.value0 (zG (P := Tryz.prog) (fn := Tryz.f162) Y Y (by kernel_rfl) Y (fun c hR hfix => ?_)) (fix := fun _ => False) (fun _ h => h) Y Y
 unfold cmpO at hR
 refine rn0 ?_
 refine zB Y Y Y (zOC x) ?_
 refine rn0 ?_
 refine zB Y Y Y (zOC y) ?_
 refine rn4 ?_
 refine zE Y (fun h => ?_) (fun h => ?_)
 · rw [if_pos h] at hR
   refine rn2 ?_
   exact zI hR Y Y
 · rw [if_neg h] at hR
   refine rn6 ?_
   refine zE Y (fun h2 => ?_) (fun h2 => ?_)
   · rw [if_pos h2] at hR
     refine rn2 ?_
     exact zI hR Y Y
   · rw [if_neg h2] at hR
     refine rn1 ?_
     exact zI hR Y Y
theorem cmpL_at {a b : List Int} {k : Nat} (ha : k < a.length) (hb : k < b.length) : zHi (a.drop k) (b.drop k) = if cmpO (a.getD k 0) (b.getD k 0) ≠ 0 then cmpO (a.getD k 0) (b.getD k 0) else zHi (a.drop (k + 1)) (b.drop (k + 1)) := by
 rw [List.drop_eq_getElem_cons ha, List.drop_eq_getElem_cons hb, ← z8 0 ha, ← z8 0 hb]
 show (if a.getD k 0 < b.getD k 0 then (-1 : Int) else if b.getD k 0 < a.getD k 0 then 1 else zHi (a.drop (k + 1)) (b.drop (k + 1))) = _
 unfold cmpO
 by_cases h1 : a.getD k 0 < b.getD k 0
 · rw [if_pos h1, if_pos h1, if_pos (by decide)]
 · rw [if_neg h1, if_neg h1]
   by_cases h2 : b.getD k 0 < a.getD k 0
   · rw [if_pos h2, if_pos h2, if_pos (by decide)]
   · rw [if_neg h2, if_neg h2, if_neg (by decide)]
theorem zRQ {a b : List Int} {k : Nat} (ha : k < a.length) (hb : b.length ≤ k) : zHi (a.drop k) (b.drop k) = 1 := by
 rw [List.drop_eq_getElem_cons ha, List.drop_eq_nil_of_le hb]; rfl
theorem zRT {a b : List Int} {k : Nat} (ha : a.length ≤ k) (hb : k < b.length) : zHi (a.drop k) (b.drop k) = -1 := by
 rw [List.drop_eq_getElem_cons hb, List.drop_eq_nil_of_le ha]; rfl
theorem zQi {a b : List Int} {k : Nat} (ha : a.length ≤ k) (hb : b.length ≤ k) : zHi (a.drop k) (b.drop k) = 0 := by
 rw [List.drop_eq_nil_of_le ha, List.drop_eq_nil_of_le hb]; rfl
theorem zOZ (a b : List Int) (ha : a.length ≤ 9223372036854775807) (hb : b.length ≤ 9223372036854775807) : zW Tryz.prog 112 [.ro (.ints .i64 a) 0 a.length, .ro (.ints .i64 b) 0 b.length] (.int .i64 (zHi a b)) := by
 refine zV.value0 (zG (P := Tryz.prog) (fn := Tryz.f112) Y Y (by kernel_rfl) Y (fun c hR hfix => ?_)) (fix := fun _ => False) (fun _ h => h) Y Y
 refine rn3 ?_
 refine zi (ι := Nat) (fun k => [(0, .ro (.ints .i64 a) 0 a.length), (1, .ro (.ints .i64 b) 0 b.length), (9, .ro (.ints .i64 a) 0 a.length), (10, .int .i64 (a.length : Nat)), (11, .int .i64 (k : Nat))]) (fun _ => [])
   (fun k => k ≤ a.length ∧ k ≤ b.length ∧ zHi a b = zHi (a.drop k) (b.drop k)) (fun k => a.length - k) 0 ⟨⟨rfl, rfl, rfl, rfl, rfl, trivial⟩, rfl, Nat.zero_le _, Nat.zero_le _, rfl⟩ ?_
 rintro k ⟨hk, hkb, hE⟩
 refine rn4 ?_
 refine zE Y (fun h => ?_) (fun h => ?_)
 · have hk' : k < a.length := by omega
   repeat (first | refine zD (zH rfl) ?_ | refine zD (zL rfl) ?_ | refine zD (zAi rfl rfl rfl) ?_ | refine zC ?_ | refine zA ?_ | refine zX ?_ | refine zK rfl ?_ | refine zx ?_ | refine zl ?_ | refine zD (zCk rfl rfl) ?_ | refine zD (zA9 rfl rfl rfl) ?_ | refine zD (ze rfl rfl rfl rfl (by first | (simp only [Nat.zero_add, Int.toNat_natCast, Int.toNat_zero]; exact rfl) | exact rfl) (by omega)) ?_)
   refine zE Y (fun h2 => ?_) (fun h2 => ?_)
   · rw [zRQ hk' (by omega)] at hE
     rw [hE] at hR
     refine rn6 ?_
     exact zI hR Y Y
   have hk2 : k < b.length := by omega
   rw [cmpL_at hk' hk2] at hE
   have cc := cmpO_ok (a.getD k 0) (b.getD k 0)
   generalize cmpO (a.getD k 0) (b.getD k 0) = z at *
   refine rn6 ?_
   refine zB Y Y Y cc ?_
   refine rn3 ?_
   refine zE Y (fun h3 => ?_) (fun h3 => ?_)
   · rw [if_pos h3] at hE
     rw [hE] at hR
     refine rn6 ?_
     exact zI hR Y Y
   · rw [if_neg h3] at hE
     refine rn5 ?_
     exact zM ⟨k + 1, ⟨by omega, by omega, hE⟩, by omega, ⟨Y, Y, Y, Y, Y, trivial⟩, Y⟩
 · have hke : k = a.length := by omega
   subst hke
   refine rn5 ?_
   refine zE Y (fun h2 => ?_) (fun h2 => ?_)
   · rw [zRT (Nat.le_refl _) (by omega)] at hE
     rw [hE] at hR
     refine rn2 ?_
     exact zI hR Y Y
   · rw [zQi (Nat.le_refl _) (by omega)] at hE
     rw [hE] at hR
     refine rn1 ?_
     exact zI hR Y Y
def allA (o : Option (List (List Int))) : AV := match o with
 | none => .tup [.ro (zBE []) 0 0, .bool false]
 | some l => .tup [.ro (zBE l) 0 l.length, .bool true]
def zE9 (w : List Nat) : List Int := w.map (fun n : Nat => (n : Int))
theorem allG_at {w : List Nat} {out : List (List Int)} {i : Nat} (hi : i < w.length) : zIS (w.drop i) out = if 128 < out.length * w.getD i 0 then none else zIS (w.drop (i + 1)) (zEl out (w.getD i 0)) := by
 rw [List.drop_eq_getElem_cons hi, ← z8 0 hi]; rfl
def zHQ (out : List (List Int)) (n j k : Nat) : List (List Int) := zEl (out.take j) n ++ (List.range k).map (fun c : Nat => out.getD j [] ++ [(c : Int)])
theorem zO8 (out : List (List Int)) (n j k : Nat) : zHQ out n j (k + 1) = zHQ out n j k ++ [out.getD j [] ++ [(k : Int)]] := by
 unfold zHQ
 rw [List.range_succ, List.map_append, ← List.append_assoc]; rfl
theorem zPK {out : List (List Int)} {n j : Nat} (hj : j < out.length) : zHQ out n j n = zEl (out.take (j + 1)) n := by
 unfold zHQ zEl
 rw [List.take_succ_eq_append_getElem hj, List.flatMap_append, ← z8 [] hj]
 simp
theorem zO9 (out : List (List Int)) (n j : Nat) : zHQ out n j 0 = zEl (out.take j) n := by
 unfold zHQ; simp
theorem zRg (out : List (List Int)) {n j k : Nat} (hj : j ≤ out.length) : (zHQ out n j k).length = j * n + k := by
 unfold zHQ
 rw [List.length_append, zIe, List.length_take, List.length_map, List.length_range, Nat.min_eq_left hj]
theorem zK9 (ls : List (List Int)) : zAC (zBE ls) := fun _ _ _ _ => rfl
theorem zIP (ls : List (List Int)) (h : Nat) : CEq ((zBE ls).forget h) (zBE ls) := ⟨rfl, rfl, fun _ _ _ _ => rfl⟩
theorem all_ok (w : List Nat) (hl : w.length ≤ 100000) (hw : ∀ n ∈ w, n ≤ 100000) : zW Tryz.prog 103 [.ro (.ints .i64 (zE9 w)) 0 w.length] (allA (zIS w [[]])) := by
 have hnl : (zE9 w).length = w.length := List.length_map _
 refine zV.value0 (zG (P := Tryz.prog) (fn := Tryz.f103) Y Y (by kernel_rfl) Y (fun c hR hfix => ?_)) (fix := fun _ => False) (fun _ h => h) Y (by unfold allA; split <;> rfl)
 refine rn0 ?_
 refine zj Y Y Y Y Y Y Y Y Y Y Y ?_
 refine zN 11 (.ro (.ints .i64 []) 0 0) Y (AEq.ro Y (fun d j hd _ => absurd hd (Nat.not_lt_zero _))) ?_
 refine rn3 ?_
 refine z7 4 (.ro (zBE [[]]) 0 1) Y (AEq.ro Y (fun d j hd hj => by
   obtain rfl := Nat.lt_one_iff.1 hd
   obtain rfl := Nat.lt_one_iff.1 (show j < 1 from hj)
   rfl)) ?_
 refine zi (ι := Nat) (fun i => [(4, .ro (zBE (zFo (w.take i))) 0 (zFo (w.take i)).length), (13, .ro (.ints .i64 (zE9 w)) 0 w.length), (14, .int .i64 (w.length : Nat)), (15, .int .i64 (i : Nat))]) (fun _ => [])
   (fun i => i ≤ w.length ∧ (zFo (w.take i)).length ≤ 128 ∧ zIS w [[]] = zIS (w.drop i) (zFo (w.take i))) (fun i => w.length - i) 0 ⟨⟨rfl, rfl, rfl, rfl, trivial⟩, rfl, Nat.zero_le _, by show 1 ≤ 128; decide, rfl⟩ ?_
 rintro i ⟨hi, ho, hE⟩
 have hal := zHw w i hi
 refine rn4 ?_
 refine zE Y (fun h => ?_) (fun h => ?_)
 · have hi' : i < w.length := by omega
   have hz : (zE9 w).getD i 0 = ((w.getD i 0 : Nat) : Int) := zBV _ _ 0 _ _ hi'
   have hn5 := hw _ (zAQ 0 hi')
   rw [allG_at hi'] at hE
   have hnx : zFo (w.take (i + 1)) = zEl (zFo (w.take i)) (w.getD i 0) := by rw [List.take_succ_eq_append_getElem hi', zI0, ← z8 0 hi']
   generalize hnxd : zFo (w.take (i + 1)) = nx at *
   generalize zFo (w.take i) = out at *
   have hin : i < (zE9 w).length := by omega
   have hmul : ((out.length : Nat) : Int) * ((w.getD i 0 : Nat) : Int) = ((out.length * w.getD i 0 : Nat) : Int) := by rw [Int.natCast_mul]
   generalize w.getD i 0 = n at *
   have hmb : out.length * n ≤ 128 * 100000 := Nat.mul_le_mul ho hn5
   repeat (first | refine zA ?_ | refine zX ?_ | refine zx ?_ | refine zl ?_)
   refine zK Y ?_
   repeat (first | refine zD (zL rfl) ?_ | refine zD (zAi rfl rfl rfl) ?_ | refine zC ?_ | refine zA ?_ | refine zX ?_ | refine zD (ze rfl rfl rfl rfl (by first | (simp only [Nat.zero_add, Int.toNat_natCast, Int.toNat_zero]; exact rfl) | exact rfl) (by omega)) ?_)
   refine z7 6 (.int .i64 (n : Nat)) Y (AEq.of_eq (by rw [hz])) ?_
   have hnl2 := zIe out n
   generalize hM : out.length * n = M at *
   refine rn3 ?_
   refine zD (q_mul Y Y (by rw [hmul]; omega)) ?_
   refine zN 22 (.int .i64 (M : Nat)) Y (AEq.of_eq (by rw [hmul])) ?_
   refine rn6 ?_
   refine zE Y (fun h2 => ?_) (fun h2 => ?_)
   · rw [if_pos (by omega)] at hE
     rw [hE] at hR
     repeat (first | refine zD (zL rfl) ?_ | refine zC ?_ | refine zA ?_ | refine zX ?_ | refine zK rfl ?_)
     refine z7 2 (.ro (zBE []) 0 0) Y AEq.nil ?_
     refine rn6 ?_
     exact zI hR Y Y
   rw [if_neg (by omega)] at hE
   repeat (first | refine zD (zH rfl) ?_ | refine zD (zL rfl) ?_ | refine zC ?_ | refine zA ?_ | refine zX ?_ | refine zK rfl ?_ | refine zl ?_ | refine zD (zA9 rfl rfl rfl) ?_)
   refine zA4 7 ⟨38, zBE []⟩ Y Y ?_
   repeat (refine zx ?_)
   refine zi (ι := Nat) (fun j => [(6, .int .i64 (n : Nat)), (13, .ro (.ints .i64 (zE9 w)) 0 w.length), (14, .int .i64 (w.length : Nat)), (15, .int .i64 (i : Nat)), (24, .ro (zBE out) 0 out.length), (25, .int .i64 (out.length : Nat)), (26, .int .i64 (j : Nat)), (7, .sl 0 0 (zEl (out.take j) n).length)]) (fun j => [some ⟨38, zBE (zEl (out.take j) n)⟩])
     (fun j => j ≤ out.length) (fun j => out.length - j) 0 ⟨⟨rfl, rfl, rfl, rfl, rfl, rfl, rfl, rfl, trivial⟩, rfl, Nat.zero_le _⟩ ?_
   intro j hj
   refine rn4 ?_
   refine zE Y (fun h3 => ?_) (fun h3 => ?_)
   · have hj' : j < out.length := by omega
     have hel := hal _ (zAQ [] hj')
     have hfull := zPK (n := n) hj'
     have hzero := zO9 out n j
     have hsucc := zO8 out n j
     have hkl := fun k => zRg out (n := n) (k := k) hj
     have hjm : j * n + n ≤ M := by
       rw [← hM, ← Nat.succ_mul]; exact Nat.mul_le_mul_right _ hj'
     rw [← hzero]
     generalize zHQ out n j = NK at *
     refine rn6 ?_
     generalize hcs : out.getD j [] = cs at *
     refine zi (ι := Nat) (fun k => [(6, .int .i64 (n : Nat)), (13, .ro (.ints .i64 (zE9 w)) 0 w.length), (14, .int .i64 (w.length : Nat)), (15, .int .i64 (i : Nat)), (24, .ro (zBE out) 0 out.length), (25, .int .i64 (out.length : Nat)), (26, .int .i64 (j : Nat)), (7, .sl 0 0 (NK k).length), (9, .ro (.ints .i64 cs) 0 cs.length), (30, .int .i64 (n : Nat)), (31, .int .i64 (k : Nat))]) (fun k => [some ⟨38, zBE (NK k)⟩])
       (fun k => k ≤ n) (fun k => n - k) 0 ⟨⟨rfl, rfl, rfl, rfl, rfl, rfl, rfl, rfl, rfl, rfl, rfl, trivial⟩, rfl, Nat.zero_le _⟩ ?_
     intro k hk
     refine rn4 ?_
     refine zE Y (fun h4 => ?_) (fun h4 => ?_)
     · have hk' : k < n := by omega
       have hs := hsucc k
       have hlk := hkl k
       have hlk1 := hkl (k + 1)
       have ccl := clone cs (by omega)
       refine rn1 ?_
       refine zCH Y Y Y ccl ?_
       refine rn3 ?_
       refine zp Y Y Y Y Y Y Y Y Y Y Y Y (by show 0 + 1 ≤ 1; omega) Y (by show (cs.length + 1) * 8 ≤ _ ∧ _; omega) (fun i j _ _ => rfl) (by rw [hfix]; exact fun h => h) ?_
       refine zC7 1 39 (cs.length + 1) [(6, .int .i64 (n : Nat)), (7, .sl 0 0 (NK k).length), (9, .ro (.ints .i64 cs) 0 cs.length), (13, .ro (.ints .i64 (zE9 w)) 0 w.length), (14, .int .i64 (w.length : Nat)), (15, .int .i64 (i : Nat)), (24, .ro (zBE out) 0 out.length), (25, .int .i64 (out.length : Nat)), (26, .int .i64 (j : Nat)), (30, .int .i64 (n : Nat)), (31, .int .i64 (k : Nat)), (34, .sl 0 0 (NK k).length)] Y zAW Y (by show cs.length + 1 ≤ (cs ++ _).length; simp) ⟨Y, Y, Y, Y, Y, Y, Y, Y, Y, Y, Y, Y, trivial⟩ ?_
       refine zN 39 (.ro (.ints .i64 (cs ++ [(k : Int)])) 0 (cs ++ [(k : Int)]).length) Y (AEq.of_eq (by rw [List.length_append]; rfl)) ?_
       refine zAs [some ⟨38, zBE (NK k)⟩, none] (zAB.eqv ((zIP _ _)) (zAB.drop zAB.nil)) ?_
       generalize cs ++ [(k : Int)] = cs2 at *
       repeat (refine zj rfl rfl rfl rfl rfl rfl rfl rfl rfl rfl rfl ?_)
       refine zp Y Y Y Y Y Y Y Y Y Y Y Y (by show 0 + 1 ≤ 1; omega) Y (by show ((NK k).length + 1) * 24 ≤ _ ∧ _; omega) ?_ (by rw [hfix]; exact fun h => h) ?_
       · intro i' j' hi1 hj1
         exact zNY (NK k) cs2 _ Y 0 i' j' hi1 hj1
       repeat (first | refine zD (zL rfl) ?_ | refine zC ?_ | refine zf ?_)
       refine zA ?_
       refine zBu ([some ⟨38, zBE (NK (k + 1))⟩] ++ [none]) ?_ ?_
       · rw [hs]
         exact zAB.eqv (zOn (NK k) cs2 _ Y) (zAB.drop zAB.nil)
       refine zDq (H1 := [some ⟨38, zBE (NK (k + 1))⟩]) Y (by rw [hfix]; exact fun h => h) ?_
       refine zBu [some ⟨38, zBE (NK (k + 1))⟩] (zAB.eqv (zIP _ _) zAB.nil) ?_
       refine rn3 ?_
       exact zM ⟨k + 1, by omega, by omega, ⟨Y, Y, Y, Y, Y, Y, Y, by rw [hs, List.length_append]; rfl, Y, Y, Y, trivial⟩, Y⟩
     · have hke : k = n := by omega
       subst hke
       rw [hfull]
       refine rn5 ?_
       exact zM ⟨j + 1, by omega, by omega, ⟨Y, Y, Y, Y, Y, Y, Y, Y, trivial⟩, Y⟩
   · have hje : j = out.length := by omega
     subst hje
     rw [List.take_length]
     rw [← hnx] at *
     repeat (first | refine zA ?_ | refine zAm ?_ | refine zr ?_ | refine zq ?_ | refine zAD ?_)
     refine zAV 0 7 nx.length [(13, .ro (.ints .i64 (zE9 w)) 0 w.length), (14, .int .i64 (w.length : Nat)), (15, .int .i64 (i : Nat))] Y (zK9 _) Y (Nat.le_refl _) ⟨Y, Y, Y, trivial⟩ ?_
     repeat (first | refine zD (zH rfl) ?_ | refine zD (zL rfl) ?_ | refine zC ?_ | refine zK rfl ?_ | refine zf ?_)
     refine zA ?_
     refine zDq (H1 := []) Y (by rw [hfix]; exact fun h => h) ?_
     refine rn3 ?_
     subst hnxd
     exact zM ⟨i + 1, ⟨by omega, by omega, hE⟩, by omega, ⟨Y, Y, Y, Y, trivial⟩, Y⟩
 · have hie : i = w.length := by omega
   subst hie
   rw [List.drop_length, List.take_length] at hE
   rw [List.take_length]
   rw [hE] at hR
   have hR : c.R = fun r' x => r' = .tup [.ro (zBE (zFo w)) 0 (zFo w).length, .bool true] := hR
   generalize zFo w = L at *
   refine rn5 ?_
   exact zI hR Y Y
structure SeqOk (I : List Int) (sq : List RSeq) : Prop where
 bef : ∀ i, i < sq.length → 0 ≤ (sq.getD i seq0).before → (sq.getD i seq0).before < (i : Int)
 inf : ∀ i, i < sq.length → 0 ≤ (sq.getD i seq0).before → (sq.getD i seq0).info ∈ I
theorem zJK {pos : Int → Nat} {cs I : List Int} {sq : List RSeq} (h : SeqOk I sq) : ∀ b f g, b < f → b < g → b < sq.length → zCC pos cs sq f b = zCC pos cs sq g b := by
 intro b
 induction b using Nat.strongRecOn with
 | ind b ih =>
   intro f g hf hg hb
   obtain ⟨f, rfl⟩ : ∃ k, f = k + 1 := ⟨f - 1, by omega⟩
   obtain ⟨g, rfl⟩ : ∃ k, g = k + 1 := ⟨g - 1, by omega⟩
   rw [zCC, zCC]
   by_cases h1 : (sq.getD b seq0).before < 0
   · rw [if_pos h1, if_pos h1]
   · rw [if_neg h1, if_neg h1]
     have h2 := h.bef b hb (by omega)
     split
     · exact ih _ (by omega) f g (by omega) (by omega) (by omega)
     · rfl
theorem zMg (a b d : Int) : zAC (.box [.int .i64 a, .int .i64 b, .int .i64 d]) := by
 intro i j _ hj
 have hj : j < 3 := hj
 match j, hj with
 | 0, _ => rfl
 | 1, _ => rfl
 | 2, _ => rfl
theorem makes_ok (I cs : List Int) (sq : List RSeq) (N i : Nat) (hI : I.length ≤ 1000000) (hcs : cs.length = I.length) (hsl : sq.length ≤ 1000000) (hi : i < sq.length) (hiN : i < N) (hs : SeqOk I sq) :
   zW Tryz.prog 107 [.ro (.ints .i64 I) 0 I.length, .ro (.ints .i64 cs) 0 cs.length, .ro (zBa sq) 0 sq.length, .int .i64 (i : Nat)] (.bool (zCC (fun x => I.findIdx (eqp x)) cs sq N i)) := by
 refine zV.value0 (zG (P := Tryz.prog) (fn := Tryz.f107) Y Y (by kernel_rfl) Y (fun c hR hfix => ?_)) (fix := fun _ => False) (fun _ h => h) Y Y
 rw [zJK hs i N (i + 1) hiN (by omega) hi] at hR
 generalize hpos : (fun x => I.findIdx (eqp x)) = pos at *
 refine rn6 ?_
 refine zO (c' := .box [.int .i64 (sq.getD i seq0).info, .int .i64 (sq.getD i seq0).choice, .int .i64 (sq.getD i seq0).before]) Y Y Y Y Y Nat.zero_lt_one Y Y (fun i' j' hi' hj' => ?_) ?_
 · rw [if_pos (Nat.lt_one_iff.1 hi')]; rfl
 refine rn1 ?_
 refine zi (ι := Nat) (fun k => [(9, .ptr 0 0 0), (0, .ro (.ints .i64 I) 0 I.length), (1, .ro (.ints .i64 cs) 0 cs.length), (2, .ro (zBa sq) 0 sq.length)]) (fun k => [some ⟨174, .box [.int .i64 (sq.getD k seq0).info, .int .i64 (sq.getD k seq0).choice, .int .i64 (sq.getD k seq0).before]⟩])
   (fun k => k < sq.length ∧ zCC pos cs sq (i + 1) i = zCC pos cs sq (k + 1) k) (fun k => k) i ⟨⟨rfl, rfl, rfl, rfl, trivial⟩, rfl, hi, rfl⟩ ?_
 rintro k ⟨hk, hE⟩
 have hbf := hs.bef k hk
 have hif := hs.inf k hk
 have hst : zCC pos cs sq (k + 1) k = if (sq.getD k seq0).before < 0 then true else if cs.getD (pos (sq.getD k seq0).info) 0 = (sq.getD k seq0).choice then zCC pos cs sq k (sq.getD k seq0).before.toNat else false := rfl
 rw [hst] at hE
 clear hst
 generalize hx : sq.getD k seq0 = x at *
 obtain ⟨nf, ch, bf⟩ := x
 simp only at *
 refine zKT (o := ⟨174, .box [.int .i64 nf, .int .i64 ch, .int .i64 bf]⟩) (v := .ptr 0 0 0) 9 [(0, .ro (.ints .i64 I) 0 I.length), (1, .ro (.ints .i64 cs) 0 cs.length), (2, .ro (zBa sq) 0 sq.length)] (.rp (.box [.int .i64 nf, .int .i64 ch, .int .i64 bf]) 0 0) (zMg _ _ _) rfl rfl (fun o ho => by simp at ho; subst ho; exact Nat.zero_lt_one) rfl ⟨rfl, rfl, rfl, rfl, trivial⟩ ⟨rfl, rfl, rfl, trivial⟩ rfl (by rw [hfix]; exact fun h hh => hh) ?_
 repeat (first | refine zC ?_ | refine zA ?_ | refine zX ?_ | refine zK rfl ?_ | refine zD (zCk rfl rfl) ?_ | refine zD (zAh rfl rfl rfl rfl) ?_ | refine zD (zAo rfl rfl rfl rfl rfl rfl) ?_)
 refine zE Y (fun h => ?_) (fun h => ?_)
 · rw [if_neg (by omega)] at hE
   obtain ⟨b, rfl⟩ := Int.eq_ofNat_of_zero_le (show 0 ≤ bf by omega)
   have hbk : b < k := by have := hbf (by omega); omega
   have hbl : b < sq.length := by omega
   have hex : ∃ y ∈ I, eqp nf y = true := ⟨nf, hif (by omega), by simp [eqp]⟩
   have hlt : I.findIdx (eqp nf) < I.length := List.findIdx_lt_length_of_exists hex
   have ci := indexI I nf (by omega)
   rw [zIg (eqp nf) I (List.any_eq_true.2 hex)] at ci
   have hpn : pos nf = I.findIdx (eqp nf) := by rw [← hpos]
   rw [hpn, Int.toNat_natCast] at hE
   generalize I.findIdx (eqp nf) = m at *
   have hmc : m < cs.length := by omega
   refine rn1 ?_
   refine zk (by kernel_rfl) ?_
   refine zt (fuel := 0) [0, 1, 2, 3, 4, 5, 6, 7, 8, 9] [(9, .rp (.box [.int .i64 nf, .int .i64 ch, .int .i64 (b : Nat)]) 0 0), (0, .ro (.ints .i64 I) 0 I.length), (1, .ro (.ints .i64 cs) 0 cs.length), (2, .ro (zBa sq) 0 sq.length)] ⟨Y, Y, Y, Y, trivial⟩ (by kernel_rfl) (by decide) Y Y ?_
   refine zU Y Y (zH Y) ?_
   refine zU Y Y (zH Y) ?_
   refine zU Y Y (zAo Y Y Y Y Y Y) ?_
   refine zU Y Y (zAh Y Y Y Y) ?_
   refine zBR Y Y Y Y Y ci ?_
   refine zU Y Y (ze Y Y Y Y (by first | (simp only [Nat.zero_add, Int.toNat_natCast, Int.toNat_zero]; exact Y) | exact Y) (by omega)) ?_
   refine zU Y Y (zAi Y Y Y) ?_
   refine zU Y Y (zAo Y Y Y Y Y Y) ?_
   refine zU Y Y (zAh Y Y Y Y) ?_
   refine zU Y Y (zD6 Y Y) ?_
   refine zAZ ?_
   refine zh (by kernel_rfl) ?_
   repeat (refine zA ?_)
   refine zE Y (fun h2 => ?_) (fun h2 => ?_)
   · rw [if_neg (by simpa using h2)] at hE
     rw [hE] at hR
     refine rn6 ?_
     exact zI hR Y Y
   rw [if_pos (by simpa using h2)] at hE
   refine rn6 ?_
   refine zO (c' := .box [.int .i64 nf, .int .i64 ch, .int .i64 (b : Nat)]) Y Y Y Y Y Nat.zero_lt_one Y Y (fun i' j' hi' hj' => ?_) ?_
   · rw [if_pos (Nat.lt_one_iff.1 hi')]; rfl
   refine rn6 ?_
   refine zO (c' := .box [.int .i64 (sq.getD b seq0).info, .int .i64 (sq.getD b seq0).choice, .int .i64 (sq.getD b seq0).before]) Y Y Y Y Y Nat.zero_lt_one Y Y (fun i' j' hi' hj' => ?_) ?_
   · rw [if_pos (Nat.lt_one_iff.1 hi')]; rfl
   repeat (refine zC ?_)
   have hgg : zCC pos cs sq k b = zCC pos cs sq (b + 1) b := zJK hs b k (b + 1) hbk (by omega) hbl
   exact zM ⟨b, ⟨hbl, by rw [hE]; exact hgg⟩, hbk, ⟨Y, Y, Y, Y, trivial⟩, Y⟩
 · rw [if_pos (by omega)] at hE
   rw [hE] at hR
   refine rn5 ?_
   exact zI hR Y Y
theorem zCT (c : TChoice) (j h : Nat) (hj : j < 2) : ((cellsC c).getD j .any).forget h = (cellsC c).getD j .any := by
 match j, hj with
 | 0, _ => rfl
 | 1, _ => rfl
theorem zCu (s : zAK) : zAC (zm s) := by
 intro i j _ hj
 have hj : j < 2 := hj
 match j, hj with
 | 0, _ => rfl
 | 1, _ => rfl
theorem growC (n : Int) (h0 : 0 ≤ n) (h1 : n ≤ 4398046511104) : zJI Tryz.prog 129 [.nil, .int .i64 n] (fun N => .sl N 0 0) ⟨67, zm []⟩ := by
 refine zV.fresh (K := fun r H => r = .sl 0 0 0 ∧ H = [some ⟨67, zm []⟩]) (zG (P := Tryz.prog) (fn := Tryz.f129) Y Y (by kernel_rfl) Y (fun c hR hfix => ?_)) (fix := fun _ => False) (fun _ h => h) Y (fun H => ⟨Y, by simp [zHp, inB]⟩) ?_
 · refine rn4 ?_
   refine zE Y (fun h => absurd h (by omega)) (fun h => ?_)
   repeat (first | refine zD (zH rfl) ?_ | refine zD (zL rfl) ?_ | refine zC ?_ | refine zA ?_ | refine zX ?_ | refine zK rfl ?_ | refine zl ?_ | refine zD (zJO rfl rfl) ?_ | refine zD (zA9 rfl rfl rfl) ?_ | refine zD (zBo rfl rfl (by omega)) ?_ | refine zD (zNM rfl rfl) ?_)
   refine zE Y (fun h => ?_) (fun h => ?_)
   rotate_left
   · repeat (first | refine zD (zH rfl) ?_ | refine zD (zL rfl) ?_ | refine zC ?_ | refine zA ?_ | refine zX ?_ | refine zK rfl ?_ | refine zl ?_)
     refine zA4 4 ⟨67, zm []⟩ Y Y ?_
     repeat (refine zAS ?_)
     exact zI hR Y ⟨Y, Y⟩
   repeat (first | refine zD (zH rfl) ?_ | refine zK rfl ?_ | refine zD (zNM rfl rfl) ?_ | refine zD (zPI rfl rfl rfl rfl rfl rfl rfl) ?_)
   refine ax_growz Y Y Y Y Y Y Y Y Y (by show 0 < _ ∧ _ * 32 ≤ _ ∧ _; omega) ?_
   refine rn3 ?_
   refine zD (zI5 Y Y Y Y Y Y Y Y (by omega)) ?_
   refine zHs 0 (zm []) Y ⟨Nat.zero_le _, Y, fun i j hi => absurd hi (Nat.not_lt_zero _)⟩ ?_
   refine rn0 ?_
   exact zI hR Y ⟨Y, Y⟩
 · rintro r H ⟨rfl, rfl⟩
   refine ⟨?_, fun h o ho => zGX (zCu _) h o ho, 0, Y, fun n => rfl⟩
   intro o ho; simp at ho; subst ho; exact Nat.zero_le _
def cellL (s : zAK) : List AV := [.ro (zm s) 0 s.length]
abbrev zIv (l : List zAK) : Cells := zC3 [] 1 cellL l
def zC8 (ls : List zAK) : Int := (ls.map fun l => (l.length : Int)).sum
theorem zIM (ls : List zAK) (k : Nat) (h : k < ls.length) : zC8 (ls.take (k + 1)) = zC8 (ls.take k) + ((ls.getD k []).length : Int) := by
 unfold zC8
 rw [zAk ls [] k h, List.map_append, List.sum_append]
 simp
theorem zCZ (ls : List zAK) : zC8 ls = (ls.flatten.length : Int) := by
 induction ls with
 | nil => rfl
 | cons l r ih => unfold zC8 at ih ⊢; simp [ih]
theorem zF9 (ls : List zAK) (k : Nat) : 0 ≤ zC8 (ls.take k) ∧ zC8 (ls.take k) ≤ zC8 ls := by
 have h : ls.flatten = (ls.take k).flatten ++ (ls.drop k).flatten := by rw [← List.flatten_append, List.take_append_drop]
 rw [zCZ, zCZ, h, List.length_append]; omega
theorem zLA (ls : List zAK) (k : Nat) (h : k < ls.length) : (ls.take (k + 1)).flatten = (ls.take k).flatten ++ ls.getD k [] := by
 rw [zAk ls [] k h, List.flatten_append]; simp
theorem concatC (ls : List zAK) (hlen : ls.length ≤ 1000000) (hs : zC8 ls ≤ 4398046511104) :
   zJI Tryz.prog 68 [.ro (zIv ls) 0 ls.length] (fun N => .sl N 0 ls.flatten.length) ⟨67, zm ls.flatten⟩ := by
 refine zV.fresh (K := fun r H => r = .sl 0 0 ls.flatten.length ∧ H = [some ⟨67, zm ls.flatten⟩]) (zG (P := Tryz.prog) (fn := Tryz.f68) Y Y (by kernel_rfl) Y (fun c hR hfix => ?_)) (fix := fun _ => False) (fun _ h => h) Y (fun H => ⟨Y, by simp [zHp, inB]⟩) ?_
 · refine rn3 ?_
   refine zi (ι := Nat) (fun k => [(0, .ro (zIv ls) 0 ls.length), (3, .int .i64 (zC8 (ls.take k))), (9, .ro (zIv ls) 0 ls.length), (10, .int .i64 (ls.length : Nat)), (11, .int .i64 (k : Nat))]) (fun _ => [])
     (fun k => k ≤ ls.length) (fun k => ls.length - k) 0 ⟨⟨rfl, rfl, rfl, rfl, rfl, trivial⟩, rfl, Nat.zero_le _⟩ ?_
   intro k hk
   refine rn4 ?_
   refine zE Y (fun h1 => ?_) (fun h1 => ?_)
   · have hk' : k < ls.length := by omega
     have hsum := zIM ls k hk'
     have hb := zF9 ls (k + 1)
     have hb0 := zF9 ls k
     refine rn6 ?_
     refine zE Y (fun h2 => absurd h2 (by omega)) (fun h2 => ?_)
     refine rn5 ?_
     exact zM ⟨k + 1, by omega, by omega, ⟨Y, by rw [hsum]; rfl, Y, Y, Y, trivial⟩, Y⟩
   · have hk' : k = ls.length := by omega
     subst hk'
     simp only [List.take_length] at *
     have hfl := zCZ ls
     refine rn5 ?_
     refine zCH Y Y Y (growC (zC8 ls) (by omega) hs) ?_
     refine rn3 ?_
     refine zi (ι := Nat) (fun k => [(6, .sl 0 0 (ls.take k).flatten.length), (25, .ro (zIv ls) 0 ls.length), (26, .int .i64 (ls.length : Nat)), (27, .int .i64 (k : Nat))]) (fun k => [some ⟨67, zm (ls.take k).flatten⟩])
       (fun k => k ≤ ls.length) (fun k => ls.length - k) 0 ⟨⟨rfl, rfl, rfl, rfl, trivial⟩, rfl, Nat.zero_le _⟩ ?_
     intro k hk
     refine rn4 ?_
     refine zE Y (fun h1 => ?_) (fun h1 => ?_)
     · have hk' : k < ls.length := by omega
       have hfs := zLA ls k hk'
       have hb := zF9 ls (k + 1)
       have hsl := zIM ls k hk'
       have hb0 := zF9 ls k
       have hfl0 := zCZ (ls.take k)
       refine rn6 ?_
       refine zp Y Y Y Y Y Y Y Y Y Y Y Y (by show 0 + (ls.getD k []).length ≤ (ls.getD k []).length; omega) Y (by show ((ls.take k).flatten.length + (ls.getD k []).length) * 32 ≤ _ ∧ _; omega) ?_ (by rw [hfix]; exact fun h => h) ?_
       · intro i' j' hi' hj'
         have q := (zIG ch0 2 cellsC (ls.take k).flatten (ls.getD k [])).2.2 i' j' hi' hj'
         exact (congrArg (AV.forget 0) q.symm).trans ((zCT _ j' 0 hj').trans q)
       refine zAs [some ⟨67, zm (ls.take (k + 1)).flatten⟩] ?_ ?_
       · rw [hfs]
         exact zAB.eqv (zIG ch0 2 cellsC (ls.take k).flatten (ls.getD k [])) zAB.nil
       refine rn5 ?_
       refine zM ⟨k + 1, by omega, by omega, ⟨?_, Y, Y, Y, trivial⟩, Y⟩
       show some (AV.sl 0 0 ((ls.take k).flatten.length + (ls.getD k []).length)) = _
       rw [hfs, List.length_append]
     · have hk' : k = ls.length := by omega
       subst hk'
       simp only [List.take_length] at *
       refine rn5 ?_
       exact zI hR Y ⟨Y, Y⟩
 · rintro r H ⟨rfl, rfl⟩
   refine ⟨?_, fun h o ho => zGX (zCu _) h o ho, 0, Y, fun n => rfl⟩
   intro o ho; simp at ho; subst ho; show 0 + ls.flatten.length ≤ ls.flatten.length; omega
theorem zOi (l : zAK) (g : FuncId) (caps : List AV) (p : TChoice → Bool) (hc : noRef.noRefs caps = true) (hlen : l.length ≤ 9223372036854775807) (hp : ∀ x ∈ l, zW Tryz.prog g ([.agg (cellsC x)] ++ caps) (.bool (p x))) :
   zW Tryz.prog 109 [.ro (zm l) 0 l.length, .fn g caps] (.int .i64 (zDM p l)) := by
 refine zV.value0 (zG (P := Tryz.prog) (fn := Tryz.f109) Y Y (by kernel_rfl) Y (fun c hR hfix => ?_)) (fix := fun _ => False) (fun _ h => h) (by simp [noRef.noRefs, noRef, hc]) Y
 refine rn3 ?_
 refine zi (ι := Nat) (fun k => [(0, .ro (zm l) 0 l.length), (1, .fn g caps), (7, .int .i64 (l.length : Nat)), (8, .int .i64 (k : Nat))]) (fun _ => [])
   (fun k => k ≤ l.length ∧ (l.take k).any p = false) (fun k => l.length - k) 0 ⟨⟨rfl, rfl, rfl, rfl, trivial⟩, rfl, Nat.zero_le _, rfl⟩ ?_
 intro k ⟨hk, hany⟩
 refine rn4 ?_
 refine zE Y (fun h => ?_) (fun h => ?_)
 · have hk' : k < l.length := by omega
   have hanys := zB4 p l ch0 k hk'
   refine rn6 ?_
   refine zN 15 (.agg (cellsC (l.getD k ch0))) Y (AEq.of_eq Y) ?_
   refine zB Y Y Y (hp _ (zBM ch0 hk')) ?_
   refine rn0 ?_
   refine zC9 Y (fun h2 => ?_) (fun h2 => ?_)
   · refine rn6 ?_
     refine zI hR Y ?_
     have := zBf p l k hany hk
     rw [zBy l ch0 k hk'] at this
     simp only [zDM, h2, if_true] at this
     rw [this]; simp [zBL]
   · refine rn5 ?_
     refine zM ⟨k + 1, ⟨by omega, by rw [hanys, hany, h2]; rfl⟩, by omega, ⟨Y, Y, Y, Y, trivial⟩, Y⟩
 · have hk' : k = l.length := by omega
   subst hk'
   refine rn5 ?_
   refine zI hR Y ?_
   have := zBf p l l.length hany hk
   rw [List.drop_length] at this
   rw [this]; rfl
theorem zRU (l : zAK) (g : FuncId) (caps : List AV) (p : TChoice → Bool) (hc : noRef.noRefs caps = true) (hlen : l.length ≤ 9223372036854775807) (hp : ∀ x ∈ l, zW Tryz.prog g ([.agg (cellsC x)] ++ caps) (.bool (p x))) :
   zW Tryz.prog 39 [.ro (zm l) 0 l.length, .fn g caps] (.bool (l.any p)) := by
 refine zV.value0 (zG (P := Tryz.prog) (fn := Tryz.f39) Y Y (by kernel_rfl) Y (fun c hR hfix => ?_)) (fix := fun _ => False) (fun _ h => h) (by simp [noRef.noRefs, noRef, hc]) Y
 refine rn0 ?_
 refine zB Y Y Y (zOi l g caps p hc hlen hp) ?_
 repeat (first | refine zD (zL rfl) ?_ | refine zC ?_ | refine zA ?_ | refine zAS ?_ | refine zD (zCk rfl rfl) ?_)
 refine zI hR Y ?_
 simp only [zBL, zEt]
def zNg (c : TChoice) : Bool := c.odds.any (fun s => decide (12 < (s.length : Int)))
theorem plain11 (s : zBJ) (hs : s.length ≤ 9223372036854775807) : zW Tryz.prog 70 [.str s] (.bool (decide (12 < (s.length : Int)))) := by
 refine zV.value0 (zG (P := Tryz.prog) (fn := Tryz.f70) Y Y (by kernel_rfl) Y (fun c hR hfix => ?_)) (fix := fun _ => False) (fun _ h => h) Y Y
 refine rn6 ?_
 exact zI hR Y Y
theorem plain1 (c : TChoice) (hc : ShortC c) : zW Tryz.prog 69 [.agg (cellsC c)] (.bool (zNg c)) := by
 obtain ⟨h1, h2⟩ := hc
 have cc := zIw c.odds 70 [] (fun s => decide (12 < (s.length : Int))) rfl h1 (fun s hs => plain11 s (h2 s hs))
 refine zV.value0 (zG (P := Tryz.prog) (fn := Tryz.f69) Y Y (by kernel_rfl) Y (fun c hR hfix => ?_)) (fix := fun _ => False) (fun _ h => h) Y Y
 obtain ⟨nf, od⟩ := c
 unfold zNg at hR
 unfold cellsC
 simp only at *
 refine rn6 ?_
 refine zB Y Y Y cc ?_
 refine rn0 ?_
 exact zI hR Y Y
def zKb (ls : List zAK) : Bool := !(ls.flatten.any zNg)
theorem plain_ok (ls : List zAK) (hlen : ls.length ≤ 1000000) (hs : zC8 ls ≤ 4398046511104) (hc : ∀ s ∈ ls, ∀ c ∈ s, ShortC c) : zW Tryz.prog 17 [.ro (zIv ls) 0 ls.length] (.bool (zKb ls)) := by
 have hfl := zCZ ls
 have cc := zRU ls.flatten 69 [] zNg rfl (by omega) (fun c hm => by
   obtain ⟨s, h1, h2⟩ := List.mem_flatten.1 hm
   exact plain1 c (hc s h1 c h2))
 refine zV.value0 (zG (P := Tryz.prog) (fn := Tryz.f17) Y Y (by kernel_rfl) Y (fun c hR hfix => ?_)) (fix := fun _ => False) (fun _ h => h) Y Y
 unfold zKb at hR
 refine rn0 ?_
 refine zCH Y Y Y (concatC ls hlen hs) ?_
 skip
 refine zGU rfl rfl rfl rfl cc (zGX (o1 := ⟨67, zm ls.flatten⟩) (zCu _)) ⟨fun o ho => by simp at ho; subst ho; show 0 + ls.flatten.length ≤ ls.flatten.length; omega, trivial, trivial⟩ rfl rfl rfl ?_
 refine rn5 ?_
 exact zI hR Y Y
end Go.Proofs.YtnkealfaldjipaaGreatDoor
namespace Go.Ax
variable [Pins]
open Go.RowKit
theorem px_gv {P : Program} {fn : Func} {c : Ctx} {H : zZ} {all : Array Oper} {K0 : Fr} {i : Nat} {r : List Nat} {st : Steps} {G : Steps → Prop} {d : Nat} {g : Operand} {args : List Operand} {ats : Array TypeId} {ty : TypeId} {pos : String} {after : Array Edge} {f : FuncId} {caps ags ags' : List AV} {v : AV} {K : Fr} {j t : Nat} {p : Bool}
   (hi : all[i]? = some ⟨some d, .call { callee := .value g, args := args.toArray, argTypes := ats }, ty, pos, after, some (j, p)⟩)
   (hK : zH7 st K0 ⟨some d, .call { callee := .value g, args := args.toArray, argTypes := ats }, ty, pos, after, some (j, p)⟩ = K) (hy : zFs all j = some t) (hb : zA5 t K = some (.bool p)) (hg : ev K g = some (.fn f caps)) (ha : evs K args = some ags) (has : ags ++ caps = ags') (hcall : zW P f ags' v)
   (h : zHM P fn c H all K0 r ((i, d, v) :: st) G) : zHM P fn c H all K0 (i :: r) st G :=
 ⟨_, _, _, hi, rfl, hK ▸ zLn hy hb (pure_v hg ha has hcall), h⟩
end Go.Ax
namespace Go.Proofs.YtnkealfaldjipaaGreatDoor
open Go.Ax Go.Ax.Bg Go.Ax.Rt Go.RowKit Go.Ax.Idx Go.Ax.Cd
attribute [local irreducible] Ax zBG QOp zV zA0
set_option maxRecDepth 100000
set_option maxHeartbeats 4000000
theorem q_pred {ind : Bool} {P : Program} {fn : Func} {c : Ctx} {fr : Fr} {H : zZ} {d : Option Nat} {ty : TypeId} {pos : String} {after : Array Edge} {g : Option (Nat × Bool)} {x y : Operand} {t t' : TypeId} {k : Nat} (hx : ev fr x = some (.int .i64 ((k + 1 : Nat) : Int))) (hy : ev fr y = some (.int .i64 1)) (hb : k ≤ 9223372036854775806) :
   QOp ind P fn c fr H ⟨d, .binOp .sub t x y t', ty, pos, after, g⟩ (.int .i64 (k : Nat)) := by
 have h := zBo (ind := ind) (P := P) (fn := fn) (c := c) (H := H) (d := d) (ty := ty) (pos := pos) (after := after) (g := g) (t := t) (t' := t') hx hy (by omega)
 rwa [show ((k + 1 : Nat) : Int) - 1 = (k : Nat) by omega] at h
theorem zJA (l : List zBJ) (n : Nat) : zA2 n (.strs l) := fun _ _ _ _ => rfl
def zB3 (a : CPlan) : List AV := [.ro (.ints .i64 a.choices) 0 a.choices.length, .str a.odds]
abbrev mxC (l : zBr) : Cells := zC3 cp0 2 zB3 l
theorem zLF (a : CPlan) (j h : Nat) (hj : j < 2) : ((zB3 a).getD j .any).forget h = (zB3 a).getD j .any := by
 match j, hj with
 | 0, _ => rfl
 | 1, _ => rfl
theorem zOh (l : zBr) : zAC (mxC l) := by
 intro i j _ hj
 have hj : j < 2 := hj
 show noRef ((zB3 (l.getD i cp0)).getD j .any) = true
 match j, hj with
 | 0, _ => rfl
 | 1, _ => rfl
theorem zEY (t : zQ) (p : Int) : zz t p = zE9 (zBI t p) := by
 unfold zz zE9 zBI
 rw [List.map_map]; rfl
theorem zGy {t : zQ} {p : Int} (h : zAv t p = 0) : zFQ t p = ((zJ t p, zz t p), 0) := by
 unfold zFQ
 rw [if_neg (fun q => q h)]
theorem zHl {t : zQ} {p : Int} (h : zAv t p ≠ 0) : zFQ t p = (([], []), zAv t p) := by
 unfold zFQ
 rw [if_pos h]
theorem zPP {t : zQ} (hv : Valid t) (p : Int) : ∀ n ∈ zBI t p, n ≤ 6 := by
 intro n hn
 obtain ⟨x, hx, rfl⟩ := List.mem_map.1 hn
 exact zH6 hv hx
theorem zKt (t : zQ) (p : Int) : (zBI t p).length ≤ 10 := by
 rw [zGW]
 unfold zJ
 refine Nat.le_trans (List.length_filter_le _ _) (by simp)
theorem cpure_ok (t : zQ) (p : Int) (hT : ShortT t) : zW Tryz.prog 100 [.ro (zc t) 0 t.length, .int .i64 p] (.tup [.ro (zBE (zOE t p).1) 0 (zOE t p).1.length, .int .i64 (zOE t p).2]) := by
 have c1 := zJr t p hT
 refine zV.value0 (zG (P := Tryz.prog) (fn := Tryz.f100) Y Y (by kernel_rfl) Y (fun c hR hfix => ?_)) (fix := fun _ => False) (fun _ h => h) Y Y
 unfold zOE at hR
 by_cases h1 : zAv t p = 0
 case neg =>
   rw [zHl h1] at c1
   rw [if_pos h1] at hR
   generalize zAv t p = e at *
   refine rn0 ?_
   refine zB Y Y Y c1 ?_
   refine rn3 ?_
   rw [decide_eq_true (show ¬ e = 0 from h1)]
   repeat (first | refine zD (zH rfl) ?_ | refine zD (zL rfl) ?_ | refine zC ?_ | refine zA ?_ | refine zX ?_ | refine zK rfl ?_ | refine zAX rfl ?_)
   refine z7 4 (.ro (zBE []) 0 0) Y AEq.nil ?_
   refine rn2 ?_
   exact zI hR Y Y
 obtain ⟨hv, _⟩ := zB6 h1
 rw [zGy h1] at c1
 rw [if_neg (fun q => q h1)] at hR
 have c2 := all_ok (zBI t p) (by have := zKt t p; omega) (fun n hn => by have := zPP hv p n hn; omega)
 rw [← zEY] at c2
 have hzl : (zz t p).length = (zBI t p).length := by rw [zEY]; exact List.length_map _
 cases ha : zIS (zBI t p) [[]] with
 | none =>
   rw [ha] at c2 hR
   refine rn0 ?_
   refine zB Y Y Y c1 ?_
   refine rn4 ?_
   refine zN 22 (.ro (.ints .i64 (zz t p)) 0 (zBI t p).length) Y (AEq.of_eq (by rw [hzl])) ?_
   refine zB Y Y Y c2 ?_
   repeat (first | refine zD (zH rfl) ?_ | refine zD (zL rfl) ?_ | refine zC ?_ | refine zA ?_ | refine zX ?_ | refine zK rfl ?_ | refine zAX rfl ?_ | refine zD (zDy rfl) ?_ | refine zD (zBN rfl rfl) ?_)
   refine z7 4 (.ro (zBE []) 0 0) Y AEq.nil ?_
   refine rn2 ?_
   exact zI hR Y Y
 | some l =>
   rw [ha] at c2 hR
   refine rn0 ?_
   refine zB Y Y Y c1 ?_
   refine rn4 ?_
   refine zN 22 (.ro (.ints .i64 (zz t p)) 0 (zBI t p).length) Y (AEq.of_eq (by rw [hzl])) ?_
   refine zB Y Y Y c2 ?_
   refine rn5 ?_
   exact zI hR Y Y
structure ShortX (l : zBr) : Prop where
 len : l.length ≤ 9223372036854775807
 ch : ∀ a ∈ l, a.choices.length ≤ 9223372036854775807
 od : ∀ a ∈ l, a.odds.length ≤ 9223372036854775807
def zJQ (l : zBr) (i : Nat) : Option (List Int) := if i = 0 then none else some (l.getD (i - 1) cp0).choices
theorem zQX {w : List Nat} {l : zBr} {i : Nat} (hi : i < l.length) : zFI w (zJQ l i) (l.drop i) = if zEk w (zJQ l i) (l.getD i cp0).choices ≠ 0 then zEk w (zJQ l i) (l.getD i cp0).choices else zFI w (zJQ l (i + 1)) (l.drop (i + 1)) := by
 rw [List.drop_eq_getElem_cons hi, ← z8 cp0 hi]
 unfold zJQ
 rw [if_neg (Nat.succ_ne_zero i), Nat.add_sub_cancel]
 rfl
def prevE (q : Option (List Int)) (cs : List Int) : Int := match q with
 | none => 0
 | some b => if zHi b cs < 0 then 0 else 7
theorem zNt {w : List Nat} {q : Option (List Int)} {cs : List Int} (h : cs.length ≠ w.length) : zEk w q cs = 3 := by unfold zEk; rw [if_pos h]
theorem zJt {w : List Nat} {q : Option (List Int)} {cs : List Int} (h : cs.length = w.length) (hw : inW w cs = false) : zEk w q cs = 4 := by unfold zEk; rw [if_neg (fun q => q h), if_pos hw]
theorem zQ2 {w : List Nat} {q : Option (List Int)} {cs : List Int} (h : cs.length = w.length) (hw : inW w cs = true) : zEk w q cs = prevE q cs := by
 unfold zEk
 rw [if_neg (fun q => q h), if_neg (by rw [hw]; decide)]
 cases q <;> rfl
theorem inW_step {w : List Nat} {cs : List Int} {m : Nat} (h1 : m < w.length) (h2 : m < cs.length) : inW (w.drop m) (cs.drop m) = (decide (0 ≤ cs.getD m 0 ∧ cs.getD m 0 < (w.getD m 0 : Int)) && inW (w.drop (m + 1)) (cs.drop (m + 1))) := by
 rw [List.drop_eq_getElem_cons h1, List.drop_eq_getElem_cons h2, ← z8 0 h1, ← z8 0 h2]; rfl
theorem zIm (t : zQ) (p : Int) (l : zBr) (hT : ShortT t) (hl : ShortX l) : zW Tryz.prog 48 [.ro (zc t) 0 t.length, .int .i64 p, .ro (mxC l) 0 l.length] (.int .i64 (zDJ t p l)) := by
 have c1 := zJr t p hT
 have hll := hl.len
 refine zV.value0 (zG (P := Tryz.prog) (fn := Tryz.f48) Y Y (by kernel_rfl) Y (fun c hR hfix => ?_)) (fix := fun _ => False) (fun _ h => h) Y Y
 unfold zDJ at hR
 by_cases h1 : zAv t p = 0
 case neg =>
   rw [zHl h1] at c1
   rw [if_pos h1] at hR
   generalize zAv t p = e at *
   refine rn0 ?_
   refine zB Y Y Y c1 ?_
   refine rn3 ?_
   rw [decide_eq_true (show ¬ e = 0 from h1)]
   refine rn5 ?_
   exact zI hR Y Y
 obtain ⟨hv, _⟩ := zB6 h1
 rw [zGy h1] at c1
 rw [if_neg (fun q => q h1)] at hR
 rw [zEY] at c1
 have hz10 := zKt t p
 have hnl : (zE9 (zBI t p)).length = (zBI t p).length := List.length_map _
 have hnat : ∀ m, m < (zBI t p).length → (zE9 (zBI t p)).getD m 0 = (((zBI t p).getD m 0 : Nat) : Int) := fun m hm => zBV _ _ 0 _ _ hm
 generalize zBI t p = w at *
 rw [hnl] at c1
 generalize zE9 w = Z at *
 generalize zJ t p = I at *
 refine rn0 ?_
 refine zB Y Y Y c1 ?_
 refine rn6 ?_
 refine zE Y (fun h2 => ?_) (fun h2 => ?_)
 · rw [if_pos (by omega)] at hR
   refine rn2 ?_
   exact zI hR Y Y
 rw [if_neg (by omega)] at hR
 repeat (first | refine zD (zH rfl) ?_ | refine zD (zL rfl) ?_ | refine zC ?_ | refine zA ?_ | refine zX ?_ | refine zK rfl ?_ | refine zl ?_ | refine zD (zA9 rfl rfl rfl) ?_)
 refine zA4 10 ⟨27, .strs []⟩ Y Y ?_
 repeat (refine zx ?_)
 refine zi (ι := Nat) (fun i => [(2, .ro (mxC l) 0 l.length), (8, .ro (.ints .i64 Z) 0 w.length), (10, .sl 0 0 i), (28, .ro (mxC l) 0 l.length), (29, .int .i64 (l.length : Nat)), (30, .int .i64 (i : Nat))]) (fun i => [some ⟨27, .strs ((l.take i).map CPlan.odds)⟩])
   (fun i => i ≤ l.length ∧ zFI w none l = zFI w (zJQ l i) (l.drop i)) (fun i => l.length - i) 0 ⟨⟨rfl, rfl, rfl, rfl, rfl, rfl, trivial⟩, rfl, Nat.zero_le _, rfl⟩ ?_
 rintro i ⟨hi, hE⟩
 refine rn4 ?_
 refine zE Y (fun h3 => ?_) (fun h3 => ?_)
 · have hi' : i < l.length := by omega
   have hch := hl.ch _ (zAQ cp0 hi')
   have hod := hl.od _ (zAQ cp0 hi')
   have htk : (l.take (i + 1)).map CPlan.odds = (l.take i).map CPlan.odds ++ [(l.getD i cp0).odds] := by rw [List.take_succ_eq_append_getElem hi', List.map_append, ← z8 cp0 hi']; rfl
   have hml : ((l.take i).map CPlan.odds).length = i := by rw [List.length_map, List.length_take]; omega
   rw [zQX hi'] at hE
   generalize (l.take i).map CPlan.odds = O at *
   refine rn6 ?_
   refine zN 34 (.agg (zB3 (l.getD i cp0))) Y (AEq.of_eq Y) ?_
   generalize hcc : l.getD i cp0 = a at *
   obtain ⟨cs, od⟩ := a
   simp only at *
   refine zO (c' := .box [.ro (.ints .i64 cs) 0 cs.length, .str od]) Y Y Y Y Y Nat.zero_lt_one Y Y (fun i' j' hi' hj' => ?_) ?_
   · rw [if_pos (Nat.lt_one_iff.1 hi')]; rfl
   refine rn5 ?_
   refine zE Y (fun h4 => ?_) (fun h4 => ?_)
   · rw [zNt (by omega), if_pos (by decide)] at hE
     rw [hE] at hR
     refine rn6 ?_
     exact zI hR Y Y
   have hcl : cs.length = w.length := by omega
   refine rn5 ?_
   refine zBQ [some ⟨27, .strs O⟩, some ⟨75, .box [.ro (.ints .i64 cs) 0 cs.length, .str od]⟩] Y ?_
   refine zi (ι := Nat) (fun m => [(2, .ro (mxC l) 0 l.length), (8, .ro (.ints .i64 Z) 0 w.length), (10, .sl 0 0 i), (11, .int .i64 (i : Nat)), (12, .ptr 1 0 0), (28, .ro (mxC l) 0 l.length), (29, .int .i64 (l.length : Nat)), (30, .int .i64 (i : Nat)), (42, .ro (.ints .i64 cs) 0 cs.length), (43, .int .i64 (cs.length : Nat)), (44, .int .i64 (m : Nat))]) (fun _ => [some ⟨27, .strs O⟩, some ⟨75, .box [.ro (.ints .i64 cs) 0 cs.length, .str od]⟩])
     (fun m => m ≤ cs.length ∧ inW w cs = inW (w.drop m) (cs.drop m)) (fun m => cs.length - m) 0 ⟨⟨rfl, rfl, rfl, rfl, rfl, rfl, rfl, rfl, rfl, rfl, rfl, trivial⟩, rfl, Nat.zero_le _, rfl⟩ ?_
   rintro m ⟨hm, hW⟩
   refine rn4 ?_
   refine zE Y (fun h5 => ?_) (fun h5 => ?_)
   · have hm' : m < cs.length := by omega
     have hmw : m < w.length := by omega
     have hzm := hnat m hmw
     rw [inW_step hmw hm'] at hW
     have hmz : m < Z.length := by omega
     refine rn6 ?_
     generalize cs.getD m 0 = x at *
     by_cases hx0 : x < 0
     · rw [decide_eq_true hx0]
       rw [decide_eq_false (show ¬ (0 ≤ x ∧ x < _) by omega), Bool.false_and] at hW
       rw [zJt hcl hW, if_pos (by decide)] at hE
       rw [hE] at hR
       refine rn6 ?_
       exact zI hR Y Y
     rw [decide_eq_false hx0]
     repeat (first | refine zD (zH rfl) ?_ | refine zD (zAi rfl rfl rfl) ?_ | refine zC ?_ | refine zA ?_ | refine zAL rfl rfl ?_ | refine zD (zCk rfl rfl) ?_ | refine zD (zAg rfl rfl) ?_ | refine zD (ze rfl rfl rfl rfl (by first | (simp only [Nat.zero_add, Int.toNat_natCast, Int.toNat_zero]; exact rfl) | exact rfl) (by omega)) ?_)
     refine zE Y (fun h6 => ?_) (fun h6 => ?_)
     · rw [decide_eq_false (show ¬ (0 ≤ x ∧ x < _) by omega), Bool.false_and] at hW
       rw [zJt hcl hW, if_pos (by decide)] at hE
       rw [hE] at hR
       refine rn6 ?_
       exact zI hR Y Y
     rw [decide_eq_true (show 0 ≤ x ∧ x < ((w.getD m 0 : Nat) : Int) by omega), Bool.true_and] at hW
     refine rn5 ?_
     exact zM ⟨m + 1, ⟨by omega, hW⟩, by omega, ⟨Y, Y, Y, Y, Y, Y, Y, Y, Y, Y, Y, trivial⟩, Y⟩
   · have hme : m = cs.length := by omega
     subst hme
     have hW : inW w cs = true := by
       rw [hW, List.drop_length]
       cases w.drop cs.length <;> rfl
     rw [zQ2 hcl hW] at hE
     refine rn5 ?_
     rcases Nat.eq_zero_or_pos i with hi0 | hi0
     · subst hi0
       have hp0 : prevE (zJQ l 0) cs = 0 := rfl
       rw [hp0, if_neg (fun q => q rfl)] at hE
       refine zk (by kernel_rfl) ?_
       refine zt (fuel := 0) [0, 1, 2, 3, 4, 5, 6, 7, 8, 9, 10, 11, 12, 13] [(2, .ro (mxC l) 0 l.length), (8, .ro (.ints .i64 Z) 0 w.length), (10, .sl 0 0 0), (11, .int .i64 (0 : Nat)), (12, .ptr 1 0 0), (28, .ro (mxC l) 0 l.length), (29, .int .i64 (l.length : Nat)), (30, .int .i64 (0 : Nat))] ⟨Y, Y, Y, Y, Y, Y, Y, Y, trivial⟩ (by kernel_rfl) (by decide) Y Y ?_
       refine zU Y Y (zH Y) ?_
       refine zU Y Y (zJO Y Y) ?_
       refine zU Y Y (zH Y) ?_
       refine zCg Y Y Y Y Y ?_
       refine zCg Y Y Y Y Y ?_
       refine zCg Y Y Y Y Y ?_
       refine zCg Y Y Y Y Y ?_
       refine zCg Y Y Y Y Y ?_
       refine zCg Y Y Y Y Y ?_
       refine zCg Y Y Y Y Y ?_
       refine zCg Y Y Y Y Y ?_
       refine zCg Y Y Y Y Y ?_
       refine zCg Y Y Y Y Y ?_
       refine zU Y Y (zAg Y Y) ?_
       refine zAZ ?_
       refine zh (by kernel_rfl) ?_
       refine rn5 ?_
       refine zp Y Y Y Y Y Y Y Y Y hml Y Y (by show 0 + 1 ≤ 1; omega) Y (by show (0 + 1) * 16 ≤ _ ∧ _; omega) (fun i j _ _ => rfl) (by rw [hfix]; exact fun h => h) ?_
       repeat (first | refine zD (zL rfl) ?_ | refine zC ?_ | refine zf ?_)
       refine zA ?_
       refine zAa [some ⟨27, .strs (O ++ [od])⟩] [some ⟨75, .box [.ro (.ints .i64 cs) 0 cs.length, .str od]⟩] [(2, .ro (mxC l) 0 l.length), (8, .ro (.ints .i64 Z) 0 w.length), (10, .sl 0 0 (0 + 1)), (28, .ro (mxC l) 0 l.length), (29, .int .i64 (l.length : Nat)), (30, .int .i64 (0 : Nat))] Y ⟨Y, Y, Y, Y, Y, Y, trivial⟩ (fun h hh => by rw [hfix] at hh; exact absurd hh id) (zBw (zJA _ _)) Y ?_
       refine rn3 ?_
       exact zM ⟨0 + 1, ⟨by omega, hE⟩, by omega, ⟨Y, Y, Y, Y, Y, Y, trivial⟩, by rw [htk]⟩
     obtain ⟨k, rfl⟩ : ∃ k, i = k + 1 := ⟨i - 1, by omega⟩
     have hkl : k < l.length := by omega
     have hpk : prevE (zJQ l (k + 1)) cs = if zHi (l.getD k cp0).choices cs < 0 then 0 else 7 := rfl
     have hch0 := hl.ch _ (zAQ cp0 hkl)
     have cc := zOZ (l.getD k cp0).choices cs hch0 hch
     rw [hpk] at hE
     refine zk (by kernel_rfl) ?_
     refine zt (fuel := 0) [0, 1, 2, 3, 4, 5, 6, 7, 8, 9, 10, 11, 12, 13] [(2, .ro (mxC l) 0 l.length), (8, .ro (.ints .i64 Z) 0 w.length), (10, .sl 0 0 (k + 1)), (11, .int .i64 ((k + 1 : Nat) : Int)), (12, .ptr 1 0 0), (28, .ro (mxC l) 0 l.length), (29, .int .i64 (l.length : Nat)), (30, .int .i64 ((k + 1 : Nat) : Int))] ⟨Y, Y, Y, Y, Y, Y, Y, Y, trivial⟩ (by kernel_rfl) (by decide) Y Y ?_
     refine zU Y Y (zH Y) ?_
     refine zU Y Y (zJO Y Y) ?_
     rw [decide_eq_true (show ((0 : Int)) < ((k + 1 : Nat) : Int) by omega)]
     refine zU Y Y (zH Y) ?_
     refine zD3 Y Y Y Y (zH Y) ?_
     refine zD3 Y Y Y Y (zH Y) ?_
     refine zD3 Y Y Y Y (q_pred Y Y (by omega)) ?_
     refine zD3 Y Y Y Y (ze Y Y Y Y (by first | (simp only [Nat.zero_add, Int.toNat_natCast, Int.toNat_zero]; exact Y) | exact Y) (by omega)) ?_
     refine zD3 Y Y Y Y (zAo Y Y Y Y Y Y) ?_
     refine zD3 Y Y Y Y (zBj Y Y Y Y) ?_
     refine zD3 Y Y Y Y (zP Y Y Y Y Y Y) ?_
     refine zD3 Y Y Y Y (zT Y Y Y Y Y) ?_
     refine px_gv Y Y Y Y Y Y Y cc ?_
     refine zD3 Y Y Y Y (zCk Y Y) ?_
     refine zU Y Y (zAg Y Y) ?_
     refine zAZ ?_
     refine zh (by kernel_rfl) ?_
     repeat (refine zA ?_)
     refine zE Y (fun h7 => ?_) (fun h7 => ?_)
     · rw [show (if zHi (l.getD k cp0).choices cs < 0 then (0 : Int) else 7) = 7 from if_neg (by omega), if_pos (by decide)] at hE
       rw [hE] at hR
       refine rn6 ?_
       exact zI hR Y Y
     rw [show (if zHi (l.getD k cp0).choices cs < 0 then (0 : Int) else 7) = 0 from if_pos (by omega), if_neg (by decide)] at hE
     refine rn5 ?_
     refine zp Y Y Y Y Y Y Y Y Y hml Y Y (by show 0 + 1 ≤ 1; omega) Y (by show ((k + 1) + 1) * 16 ≤ _ ∧ _; omega) (fun i j _ _ => rfl) (by rw [hfix]; exact fun h => h) ?_
     repeat (first | refine zD (zL rfl) ?_ | refine zC ?_ | refine zf ?_)
     refine zA ?_
     refine zAa [some ⟨27, .strs (O ++ [od])⟩] [some ⟨75, .box [.ro (.ints .i64 cs) 0 cs.length, .str od]⟩] [(2, .ro (mxC l) 0 l.length), (8, .ro (.ints .i64 Z) 0 w.length), (10, .sl 0 0 ((k + 1) + 1)), (28, .ro (mxC l) 0 l.length), (29, .int .i64 (l.length : Nat)), (30, .int .i64 ((k + 1) : Nat))] Y ⟨Y, Y, Y, Y, Y, Y, trivial⟩ (fun h hh => by rw [hfix] at hh; exact absurd hh id) (zBw (zJA _ _)) Y ?_
     refine rn3 ?_
     exact zM ⟨(k + 1) + 1, ⟨by omega, hE⟩, by omega, ⟨Y, Y, Y, Y, Y, Y, trivial⟩, by rw [htk]⟩
 · have hie : i = l.length := by omega
   subst hie
   rw [List.drop_length] at hE
   rw [List.take_length]
   have hE : zFI w none l = 0 := hE
   rw [if_neg (fun q => q hE)] at hR
   have hol : (l.map CPlan.odds).length = l.length := List.length_map _
   have co := zL9 (l.map CPlan.odds) (by omega) (fun s hs => by
     obtain ⟨a, ha, rfl⟩ := List.mem_map.1 hs
     exact hl.od a ha)
   generalize l.map CPlan.odds = O at *
   repeat (first | refine zA ?_ | refine zX ?_ | refine zAm ?_ | refine zr ?_ | refine zq ?_ | refine zAD ?_)
   refine zAV 0 10 l.length [] Y zDX Y (by show _ ≤ O.length; omega) trivial ?_
   refine z7 10 (.ro (.strs O) 0 O.length) Y (AEq.of_eq (by rw [hol])) ?_
   refine rn0 ?_
   refine zB Y Y Y co ?_
   refine rn0 ?_
   exact zI hR Y Y
end Go.Proofs.YtnkealfaldjipaaGreatDoor
