import Derived.Test.YtnkealfaldjipaaGreatDoorY4
set_option linter.unusedVariables false
set_option linter.unusedSimpArgs false
namespace Go.Proofs.YtnkealfaldjipaaGreatDoor
open Go.Ax Go.Ax.Bg Go.Ax.Rt Go.RowKit Go.Ax.Idx Go.Ax.Cd
attribute [local irreducible] Ax zAM QOp zM zp
set_option maxRecDepth 100000
set_option maxHeartbeats 4000000
abbrev zGt (F : List (Int × Nat)) : Cells := .mp (F.map (fun x => .int .i64 x.1)) (F.map (fun x => .int .i64 (x.2 : Nat)))
theorem zIb (F : List (Int × Nat)) : ∀ x ∈ F.map (fun x : Int × Nat => AV.int .i64 x.1), zC0 (.int .i64) x = true := by
 intro x hx
 obtain ⟨e, _, rfl⟩ := List.mem_map.1 hx
 rfl
theorem zDN {m : List (Int × Nat)} {k : Int} {s : Nat} (h : zBI m k = some s) : ∃ j : Nat, (m.map (fun x : Int × Nat => AV.int .i64 x.1))[j]? = some (.int .i64 k) ∧ (m.map (fun x : Int × Nat => AV.int .i64 (x.2 : Nat)))[j]? = some (.int .i64 (s : Nat)) := by
 obtain ⟨j, hj⟩ := List.getElem?_of_mem (zCJ h)
 exact ⟨j, by rw [List.getElem?_map, hj]; rfl, by rw [List.getElem?_map, hj]; rfl⟩
theorem zGn {m : List (Int × Nat)} {k : Int} (h : zBI m k = none) : AV.int .i64 k ∉ m.map (fun x : Int × Nat => AV.int .i64 x.1) := by
 intro hm
 obtain ⟨x, hx, e⟩ := List.mem_map.1 hm
 have := zHC h
 injection e with e1 e2
 exact this (List.mem_map.2 ⟨x, hx, e2⟩)
theorem zE3 (F : List (Int × Nat)) (n : Nat) : zA0 n (zGt F) := ⟨zBu (fun _ => rfl) F, zBu (fun _ => rfl) F⟩
theorem zNq {p : Int} {kd pl nf : Int} {nx : List Int} {od : List zAG} {py : zAG} : own p ⟨kd, pl, nf, nx, od, py⟩ = (decide (kd = 2) && decide (pl = p)) := rfl
theorem zPv (t : zT) (p : Int) (hT : ShortT t) (hv : Valid t) : zW Tryz.prog 72 [.ro (zZ t) 0 t.length, .int .i64 p] (.bool (zCL t p)) := by
 have hlen := hT.len
 have h120 := hv.le
 have cw := ways_ok t p hT hv
 have hWl : (zDh t p).length = t.length := zE0 t p t.length
 have hWs := zNA hv p
 have hmono : ∀ n i, i ≤ n → zEi t p (zDh t p) i = false → zEi t p (zDh t p) n = false := by
   intro n
   induction n with
   | zero => intro i hi h; obtain rfl : i = 0 := by omega
             exact h
   | succ n ih =>
     intro i hi h
     by_cases e : i = n + 1
     · subst e; exact h
     · rw [zEi, ih i (by omega) h]; rfl
 refine zM.value0 (zG (P := Tryz.prog) (fn := Tryz.f72) rfl rfl (by kernel_rfl) rfl (fun c hR hfix => ?_)) (fix := fun _ => False) (fun _ h => h) rfl rfl
 have hR : c.R = fun r' _ => r' = .bool (zEi t p (zDh t p) t.length) := hR
 generalize zDh t p = W at *
 refine rn0 ?_
 refine zF rfl rfl rfl cw ?_
 refine rn0 ?_
 refine zEW ?_
 refine rn3 ?_
 refine zj (ι := Nat) (fun i => [(0, .ro (zZ t) 0 t.length), (1, .int .i64 p), (5, .ro (zBq W) 0 t.length), (6, .mp 0), (15, .ro (zZ t) 0 t.length), (16, .int .i64 (t.length : Nat)), (17, .int .i64 (i : Nat))]) (fun i => [some ⟨123, zGt (zAv t p i)⟩])
   (fun i => i ≤ t.length ∧ zEi t p W i = true) (fun i => t.length - i) 0 ⟨⟨rfl, rfl, rfl, rfl, rfl, rfl, rfl, trivial⟩, rfl, Nat.zero_le _, rfl⟩ ?_
 rintro i ⟨hi, hP⟩
 refine rn4 ?_
 refine zE rfl (fun h => ?_) (fun h => ?_)
 · have hi' : i < t.length := by omega
   have hfs : zAv t p (i + 1) = if own p (t.getD i node0) = true ∧ zBI (zAv t p i) (t.getD i node0).info = none then zAv t p i ++ [((t.getD i node0).info, i)] else zAv t p i := rfl
   have hps : zEi t p W (i + 1) = (zEi t p W i && (if own p (t.getD i node0) = true then (match zBI (zAv t p i) (t.getD i node0).info with | none => true | some k => decide (W.getD i [] = W.getD k [])) else true)) := rfl
   have hff : ∀ x ∈ zAv t p i, x.2 < i := fun x hx => (zEc hx).1
   have hno := hmono t.length (i + 1) (by omega)
   rw [hP, Bool.true_and] at hps
   generalize hF2 : zAv t p (i + 1) = F2 at *
   generalize zAv t p i = F at *
   generalize hP2 : zEi t p W (i + 1) = P2 at *
   refine rn6 ?_
   refine zL 21 (.agg (zBO (t.getD i node0))) rfl (AEq.of_eq rfl) ?_
   generalize t.getD i node0 = n at *
   obtain ⟨kd, pl, nf, nx, od, py⟩ := n
   simp only at *
   refine zQ (c' := .box [.int .i64 kd, .int .i64 pl, .int .i64 nf, .ro (.ints .i64 nx) 0 nx.length, .ro (.strs od) 0 od.length, .str py]) rfl rfl rfl rfl rfl Nat.zero_lt_one rfl rfl (fun i' j' hi' hj' => ?_) ?_
   · rw [if_pos (Nat.lt_one_iff.1 hi')]; rfl
   refine zAZ [some ⟨123, zGt F⟩, some ⟨40, .box [.int .i64 kd, .int .i64 pl, .int .i64 nf, .ro (.ints .i64 nx) 0 nx.length, .ro (.strs od) 0 od.length, .str py]⟩] rfl ?_
   refine rn5 ?_
   refine zu rfl rfl (fun g1 => ?_) (fun g1 => ?_)
   · rw [zNq, decide_eq_false g1, Bool.false_and] at hfs hps
     rw [if_neg (by rintro ⟨q, _⟩; cases q)] at hfs
     rw [if_neg (by decide)] at hps
     repeat (first | refine zC ?_ | refine zAo rfl rfl rfl ?_ | refine zB (zAW rfl rfl) ?_)
     refine zA ?_
     repeat (first | refine zBB rfl ?_ | refine zAs ?_ | refine zq ?_ | refine zr ?_)
     refine zA ?_
     refine zAt [some ⟨123, zGt (F)⟩] [some ⟨40, .box [.int .i64 kd, .int .i64 pl, .int .i64 nf, .ro (.ints .i64 nx) 0 nx.length, .ro (.strs od) 0 od.length, .str py]⟩] [(0, .ro (zZ t) 0 t.length), (1, .int .i64 p), (5, .ro (zBq W) 0 t.length), (6, .mp 0), (15, .ro (zZ t) 0 t.length), (16, .int .i64 (t.length : Nat)), (17, .int .i64 (i : Nat))] rfl ⟨rfl, rfl, rfl, rfl, rfl, rfl, rfl, trivial⟩ (fun h hh => by rw [hfix] at hh; exact absurd hh id) (zCi (zE3 _ _)) rfl ?_
     refine rn3 ?_
     exact zN ⟨i + 1, ⟨by omega, by rw [hP2, hps]⟩, by omega, ⟨rfl, rfl, rfl, rfl, rfl, rfl, rfl, trivial⟩, by rw [hF2, hfs]⟩
   have g1 := Classical.not_not.1 g1
   refine rn5 ?_
   refine zE rfl (fun g2 => ?_) (fun g2 => ?_)
   · rw [zNq, decide_eq_true g1, decide_eq_false g2, Bool.true_and] at hfs hps
     rw [if_neg (by rintro ⟨q, _⟩; cases q)] at hfs
     rw [if_neg (by decide)] at hps
     repeat (first | refine zAs ?_ | refine zq ?_ | refine zr ?_)
     refine zA ?_
     refine zAt [some ⟨123, zGt (F)⟩] [some ⟨40, .box [.int .i64 kd, .int .i64 pl, .int .i64 nf, .ro (.ints .i64 nx) 0 nx.length, .ro (.strs od) 0 od.length, .str py]⟩] [(0, .ro (zZ t) 0 t.length), (1, .int .i64 p), (5, .ro (zBq W) 0 t.length), (6, .mp 0), (15, .ro (zZ t) 0 t.length), (16, .int .i64 (t.length : Nat)), (17, .int .i64 (i : Nat))] rfl ⟨rfl, rfl, rfl, rfl, rfl, rfl, rfl, trivial⟩ (fun h hh => by rw [hfix] at hh; exact absurd hh id) (zCi (zE3 _ _)) rfl ?_
     refine rn3 ?_
     exact zN ⟨i + 1, ⟨by omega, by rw [hP2, hps]⟩, by omega, ⟨rfl, rfl, rfl, rfl, rfl, rfl, rfl, trivial⟩, by rw [hF2, hfs]⟩
   have g2 := Classical.not_not.1 g2
   rw [zNq, decide_eq_true g1, decide_eq_true g2, Bool.true_and] at hfs hps
   rw [if_pos rfl] at hps
   refine rn5 ?_
   cases hL : zBI F nf with
   | none =>
     rw [hL, if_pos ⟨rfl, rfl⟩] at hfs
     rw [hL] at hps
     simp only at hps
     refine zB (zEn rfl (.int rfl) rfl rfl rfl rfl rfl rfl rfl rfl (zIb F) (zGn hL)) ?_
     refine rn5 ?_
     refine zCS rfl (.int rfl) rfl rfl rfl rfl rfl (zIb F) (zGn hL) ?_
     refine zAZ [some ⟨123, zGt (F ++ [(nf, i)])⟩, some ⟨40, .box [.int .i64 kd, .int .i64 pl, .int .i64 nf, .ro (.ints .i64 nx) 0 nx.length, .ro (.strs od) 0 od.length, .str py]⟩] (by unfold zGt; rw [List.map_append, List.map_append]; rfl) ?_
     repeat (refine zC ?_)
     refine zA ?_
     refine zAt [some ⟨123, zGt (F ++ [(nf, i)])⟩] [some ⟨40, .box [.int .i64 kd, .int .i64 pl, .int .i64 nf, .ro (.ints .i64 nx) 0 nx.length, .ro (.strs od) 0 od.length, .str py]⟩] [(0, .ro (zZ t) 0 t.length), (1, .int .i64 p), (5, .ro (zBq W) 0 t.length), (6, .mp 0), (15, .ro (zZ t) 0 t.length), (16, .int .i64 (t.length : Nat)), (17, .int .i64 (i : Nat))] rfl ⟨rfl, rfl, rfl, rfl, rfl, rfl, rfl, trivial⟩ (fun h hh => by rw [hfix] at hh; exact absurd hh id) (zCi (zE3 _ _)) rfl ?_
     refine rn5 ?_
     exact zN ⟨i + 1, ⟨by omega, by rw [hP2, hps]⟩, by omega, ⟨rfl, rfl, rfl, rfl, rfl, rfl, rfl, trivial⟩, by rw [hF2, hfs]⟩
   | some k0 =>
     rw [hL, if_neg (by rintro ⟨_, q⟩; cases q)] at hfs
     rw [hL] at hps
     simp only at hps
     obtain ⟨jj, i1, i2⟩ := zDN hL
     have hk0 := hff _ (zCJ hL)
     simp only at hk0
     have hk0' : k0 < t.length := by omega
     have hw0 : ∀ z, (W.getD z []).length ≤ 9223372036854775807 := fun z => zJJ (P := fun w : zCH => w.length ≤ 9223372036854775807) (fun w hw => Nat.le_trans (hWs w hw) (by decide)) (Nat.zero_le _) z
     have ceq := equalP (W.getD i []) (W.getD k0 []) (hw0 i) (hw0 k0)
     refine zB (zBQ rfl (.int rfl) rfl rfl rfl rfl (zIb F) jj i1 i2) ?_
     refine rn5 ?_
     refine zm (by kernel_rfl) ?_
     refine z8 (fuel := 0) [0, 1, 2, 3, 4, 5, 6, 7, 8, 9] [(0, .ro (zZ t) 0 t.length), (1, .int .i64 p), (5, .ro (zBq W) 0 t.length), (6, .mp 0), (15, .ro (zZ t) 0 t.length), (16, .int .i64 (t.length : Nat)), (17, .int .i64 (i : Nat)), (7, .int .i64 (i : Nat)), (8, .ptr 1 0 0), (9, .int .i64 (k0 : Nat))] ⟨rfl, rfl, rfl, rfl, rfl, rfl, rfl, rfl, rfl, rfl, trivial⟩ (by kernel_rfl) (by decide) rfl rfl ?_
     refine zX rfl rfl (zH rfl) ?_
     refine zX rfl rfl (zH rfl) ?_
     refine zX rfl rfl (ze rfl rfl rfl rfl (by first | (simp only [Nat.zero_add, Int.toNat_natCast, Int.toNat_zero]; exact rfl) | exact rfl) (by omega)) ?_
     refine zX rfl rfl (zCT rfl rfl rfl rfl) ?_
     refine zX rfl rfl (zH rfl) ?_
     refine zX rfl rfl (zH rfl) ?_
     refine zX rfl rfl (ze rfl rfl rfl rfl (by first | (simp only [Nat.zero_add, Int.toNat_natCast, Int.toNat_zero]; exact rfl) | exact rfl) (by omega)) ?_
     refine zX rfl rfl (zCT rfl rfl rfl rfl) ?_
     refine zCV rfl rfl rfl rfl rfl ceq ?_
     refine zX rfl rfl (zE9 rfl) ?_
     refine zAj ?_
     refine zh (by kernel_rfl) ?_
     repeat (refine zA ?_)
     by_cases he : W.getD i [] = W.getD k0 []
     · rw [decide_eq_true he] at hps ⊢
       repeat (first | refine zAN rfl ?_ | refine zg ?_ | refine zl ?_)
       refine zA ?_
       refine zAt [some ⟨123, zGt (F)⟩] [some ⟨40, .box [.int .i64 kd, .int .i64 pl, .int .i64 nf, .ro (.ints .i64 nx) 0 nx.length, .ro (.strs od) 0 od.length, .str py]⟩] [(0, .ro (zZ t) 0 t.length), (1, .int .i64 p), (5, .ro (zBq W) 0 t.length), (6, .mp 0), (15, .ro (zZ t) 0 t.length), (16, .int .i64 (t.length : Nat)), (17, .int .i64 (i : Nat))] rfl ⟨rfl, rfl, rfl, rfl, rfl, rfl, rfl, trivial⟩ (fun h hh => by rw [hfix] at hh; exact absurd hh id) (zCi (zE3 _ _)) rfl ?_
       refine rn3 ?_
       exact zN ⟨i + 1, ⟨by omega, by rw [hP2, hps]⟩, by omega, ⟨rfl, rfl, rfl, rfl, rfl, rfl, rfl, trivial⟩, by rw [hF2, hfs]⟩
     · rw [decide_eq_false he] at hps ⊢
       rw [hno hps] at hR
       refine rn6 ?_
       exact zI hR rfl rfl
 · have hie : i = t.length := by omega
   subst hie
   rw [hP] at hR
   refine rn5 ?_
   exact zI hR rfl rfl
end Go.Proofs.YtnkealfaldjipaaGreatDoor
namespace Go.Proofs.YtnkealfaldjipaaGreatDoor
open Go.Ax Go.Ax.Bg Go.Ax.Rt Go.RowKit Go.Ax.Idx Go.Ax.Cd
attribute [local irreducible] Ax zAM QOp zM zp
set_option maxRecDepth 100000
set_option maxHeartbeats 4000000
def zFL (s : RSeq) : List AV := [.int .i64 s.info, .int .i64 s.choice, .int .i64 s.before]
abbrev zIL (l : List RSeq) : Cells := zB4 zBY 3 zFL l
theorem zK4 (s : RSeq) (j h : Nat) (hj : j < 3) : ((zFL s).getD j .any).forget h = (zFL s).getD j .any := by
 match j, hj with
 | 0, _ => rfl
 | 1, _ => rfl
 | 2, _ => rfl
theorem zLi (s : RSeq) (j : Nat) : noRef ((zFL s).getD j .any) = true := by
 match j with
 | 0 => rfl
 | 1 => rfl
 | 2 => rfl
 | _ + 3 => rfl
theorem zLD (l : List RSeq) : z6 (zIL l) := by
 intro i j _ hj
 exact zLi _ j
theorem rowS3 (s : RSeq) (j : Nat) (hj : j < 3) : (zEb 1 3 [.int .i64 s.info, .int .i64 s.choice, .int .i64 s.before]).at 0 j = (zFL s).getD j .any := by
 match j, hj with
 | 0, _ => rfl
 | 1, _ => rfl
 | 2, _ => rfl
abbrev formB (n N : Nat) : Cells := .box [.sl 0 0 n, .sl 1 0 N]
abbrev zCZ (N : Nat) (f : RForm) (L : zR) : zR := some ⟨174, zIL f.seqs⟩ :: some ⟨3, .ints .i64 f.pos⟩ :: some ⟨169, formB f.seqs.length N⟩ :: some ⟨123, zGt f.first⟩ :: L
theorem add_len (p : Int) (n : TNode) (i : Nat) (f : RForm) : f.seqs.length ≤ (zAJ p n i f).seqs.length := by
 unfold zAJ
 split
 · show _ ≤ (_ ++ _ : List RSeq).length
   rw [List.length_append]; omega
 · exact Nat.le_refl _
theorem zKw (t : zT) (p : Int) (i : Nat) : ∀ e, (zAD t p i).seqs.length ≤ (zAD t p (i + e)).seqs.length
 | 0 => Nat.le_refl _
 | e + 1 => by
   rw [← Nat.add_assoc, zAD, zId]
   exact Nat.le_trans (zKw t p i e) (add_len _ _ _ _)
theorem zLl {t : zT} (hv : Valid t) (p : Int) {i : Nat} (hi : i ≤ t.length) : (zAD t p i).seqs.length ≤ 61 := by
 have h1 := zKw t p i (t.length - i)
 rw [show i + (t.length - i) = t.length by omega] at h1
 exact Nat.le_trans h1 (zMd hv p)
theorem zNI (l : List RSeq) (n : Nat) : zA0 n (zIL l) := by
 intro i j _ hj
 have hj : j < 3 := hj
 match j, hj with
 | 0, _ => rfl
 | 1, _ => rfl
 | 2, _ => rfl
theorem zG6 (N : Nat) (f : RForm) : ∀ (h : Nat) (o : AObj), (zCZ N f [])[h]? = some (some o) → zA0 4 o.c := by
 intro h o ho
 match h, ho with
 | 0, ho => cases ho; exact zNI _ _
 | 1, ho => cases ho; exact zCj _ _ _
 | 2, ho =>
   cases ho
   intro i j _ hj
   have hj : j < 2 := hj
   match j, hj with
   | 0, _ => rfl
   | 1, _ => rfl
 | 3, ho => cases ho; exact zE3 _ _
 | _ + 4, ho => simp at ho
theorem add_yes {p : Int} {n : TNode} {i : Nat} {f : RForm} (h1 : own p n = true) (h2 : zBI f.first n.info = none) : zAJ p n i f = ⟨f.seqs ++ zBj n (f.pos.getD i 0), f.pos, f.first ++ [(n.info, f.seqs.length)]⟩ := by unfold zAJ; rw [if_pos ⟨h1, h2⟩]
theorem add_old {p : Int} {n : TNode} {i : Nat} {f : RForm} {s : Nat} (h2 : zBI f.first n.info = some s) : zAJ p n i f = f := by unfold zAJ; rw [if_neg (by rintro ⟨_, q⟩; rw [h2] at q; cases q)]
theorem add_not {p : Int} {n : TNode} {i : Nat} {f : RForm} (h1 : own p n = false) : zAJ p n i f = f := by unfold zAJ; rw [if_neg (by rintro ⟨q, _⟩; rw [h1] at q; cases q)]
theorem zGP {α : Type} {h : Nat} {f : α → AV} (hf : ∀ x, (f x).forget h = f x) : ∀ l : List α, AV.forgets h (l.map f) = l.map f
 | [] => rfl
 | a :: r => by
   show (f a).forget h :: AV.forgets h (r.map f) = f a :: r.map f
   rw [hf a, zGP hf r]
theorem zM8 (F : List (Int × Nat)) (h : Nat) : CEq ((zGt F).forget h) (zGt F) := by
 have e : (zGt F).forget h = zGt F := by
   show Cells.mp (AV.forgets h _) (AV.forgets h _) = _
   rw [zGP (fun _ => rfl), zGP (fun _ => rfl)]
 rw [e]; exact CEq.refl _
def zH4 (n : TNode) (b : Int) (k : Nat) : List RSeq := (List.range k).map (fun k : Nat => ⟨n.info, (k : Int), b⟩)
theorem zPJ (n : TNode) (b : Int) (k : Nat) : zH4 n b (k + 1) = zH4 n b k ++ [⟨n.info, (k : Int), b⟩] := by
 unfold zH4; rw [List.range_succ, List.map_append]; rfl
theorem form_new (N : Nat) (f : RForm) (nf : Int) (n : TNode) (b : Int) (L : zR) : zCZ N ⟨f.seqs ++ zH4 n b 0, f.pos, f.first ++ [(nf, f.seqs.length)]⟩ L = some ⟨174, zIL f.seqs⟩ :: some ⟨3, .ints .i64 f.pos⟩ :: some ⟨169, formB f.seqs.length N⟩ :: some ⟨123, .mp (f.first.map (fun x => .int .i64 x.1) ++ [.int .i64 nf]) (f.first.map (fun x => .int .i64 (x.2 : Nat)) ++ [.int .i64 (f.seqs.length : Nat)])⟩ :: L := by
 have e : f.seqs ++ zH4 n b 0 = f.seqs := List.append_nil _
 simp only [zCZ, e, zGt, List.map_append, List.map_cons, List.map_nil]
theorem newK_len (n : TNode) (b : Int) (k : Nat) : (zH4 n b k).length = k := by simp [zH4]
theorem of_ok (t : zT) (p : Int) (hT : ShortT t) (hv : Valid t) : zM Tryz.prog 106 [.ro (zZ t) 0 t.length, .int .i64 p] [] (fun _ => False) (fun r H' => r = .ptr 2 0 0 ∧ H' = zCZ t.length (zAD t p t.length) []) := by
 have hlen := hT.len
 have h120 := hv.le
 have hN0 := hv.ne
 refine zG (P := Tryz.prog) (fn := Tryz.f106) rfl rfl (by kernel_rfl) rfl (fun c hR hfix => ?_)
 repeat (first | refine zB (zK rfl) ?_ | refine zC ?_ | refine zA ?_ | refine zY ?_ | refine zJ rfl ?_ | refine zB (zAR rfl rfl rfl rfl rfl rfl) ?_)
 refine zEr rfl rfl rfl rfl rfl rfl rfl rfl rfl rfl ?_
 refine rn3 ?_
 refine zCB rfl rfl rfl rfl rfl rfl rfl rfl (by show 0 ≤ _ ∧ _ ≤ _ ∧ (8 : Int) * _ ≤ _ ∧ _; omega) ?_
 repeat (first | refine zB (zK rfl) ?_ | refine zC ?_ | refine zA ?_ | refine zY ?_ | refine zJ rfl ?_ | refine zB (zAR rfl rfl rfl rfl rfl rfl) ?_ | refine zEq rfl rfl ?_)
 refine zEW ?_
 refine zAy (zCZ t.length (zAD t p 0) []) ?_ ?_
 · refine zAL.eqv ⟨rfl, rfl, fun i j hi hj => ?_⟩ (zAL.eqv (CEq.refl _) (zAL.eqv (CEq.refl _) (zAL.eqv (CEq.refl _) zAL.nil)))
   have hj : j < 3 := hj
   obtain rfl := Nat.lt_one_iff.1 (show i < 1 from hi)
   match j, hj with
   | 0, _ => rfl
   | 1, _ => rfl
   | 2, _ => rfl
 refine rn3 ?_
 refine zj (ι := Nat) (fun i => [(0, .ro (zZ t) 0 t.length), (1, .int .i64 p), (5, .ptr 2 0 0), (6, .mp 3), (23, .ro (zZ t) 0 t.length), (24, .int .i64 (t.length : Nat)), (25, .int .i64 (i : Nat))]) (fun i => zCZ t.length (zAD t p i) [])
   (fun i => i ≤ t.length) (fun i => t.length - i) 0 ⟨⟨rfl, rfl, rfl, rfl, rfl, rfl, rfl, trivial⟩, rfl, Nat.zero_le _⟩ ?_
 intro i hi
 refine rn4 ?_
 refine zE rfl (fun h => ?_) (fun h => ?_)
 · have hi' : i < t.length := by omega
   have hsn := hT.node _ (zAz node0 hi')
   have hbh := hv.behind hi'
   have hwf := hv.few hi'
   have hRI := RI.all_n hv p i hi
   obtain ⟨_, _, _, _, _, _, _, a8, _, a10⟩ := RI.add hv hRI hi' hRI hRI.s0.1
   have hfl := zLl hv p hi
   have hgf := zLl hv p (show i + 1 ≤ t.length by omega)
   have hfl2 := zEM t p i
   have hnx : zAD t p (i + 1) = ⟨(zAJ p (t.getD i node0) i (zAD t p i)).seqs, zAl (zGw p (t.getD i node0) i (zAJ p (t.getD i node0) i (zAD t p i))) (t.getD i node0).next 0 (zAJ p (t.getD i node0) i (zAD t p i)).pos, (zAJ p (t.getD i node0) i (zAD t p i)).first⟩ := by rw [zAD, zId, zH6]
   have hgl : (zAJ p (t.getD i node0) i (zAD t p i)).pos.length = t.length := by rw [zF5]; exact hfl2
   rw [hnx] at hgf
   simp only at hgf
   obtain ⟨s1, s2, s3, s4⟩ := hsn
   refine rn6 ?_
   refine zL 29 (.agg (zBO (t.getD i node0))) rfl (AEq.of_eq rfl) ?_
   generalize t.getD i node0 = n at *
   generalize zAD t p i = f at *
   obtain ⟨kd, pl, nf, nx, od, py⟩ := n
   simp only at *
   refine zQ (c' := .box [.int .i64 kd, .int .i64 pl, .int .i64 nf, .ro (.ints .i64 nx) 0 nx.length, .ro (.strs od) 0 od.length, .str py]) rfl rfl rfl rfl rfl Nat.zero_lt_one rfl rfl (fun i' j' hi' hj' => ?_) ?_
   · rw [if_pos (Nat.lt_one_iff.1 hi')]; rfl
   refine zAZ (zCZ t.length f [some ⟨40, .box [.int .i64 kd, .int .i64 pl, .int .i64 nf, .ro (.ints .i64 nx) 0 nx.length, .ro (.strs od) 0 od.length, .str py]⟩]) rfl ?_
   refine zL 8 (.ptr 4 0 0) rfl (AEq.of_eq rfl) ?_
   have hown : own p ⟨kd, pl, nf, nx, od, py⟩ = (decide (kd = 2) && decide (pl = p)) := rfl
   generalize hv' : zGw p ⟨kd, pl, nf, nx, od, py⟩ i (zAJ p ⟨kd, pl, nf, nx, od, py⟩ i f) = v at *
   have hvv : ∀ k, v k = if own p ⟨kd, pl, nf, nx, od, py⟩ = true then (((zBI (zAJ p ⟨kd, pl, nf, nx, od, py⟩ i f).first nf).getD 0 : Nat) : Int) + (k : Int) else (zAJ p ⟨kd, pl, nf, nx, od, py⟩ i f).pos.getD i 0 := fun k => by rw [← hv']; rfl
   have hay := @add_yes p ⟨kd, pl, nf, nx, od, py⟩ i f
   have hao := @add_old p ⟨kd, pl, nf, nx, od, py⟩ i f
   have han := @add_not p ⟨kd, pl, nf, nx, od, py⟩ i f
   generalize hb : own p ⟨kd, pl, nf, nx, od, py⟩ = b at *
   apply zAh (H := zCZ t.length f [some ⟨40, .box [.int .i64 kd, .int .i64 pl, .int .i64 nf, .ro (.ints .i64 nx) 0 nx.length, .ro (.strs od) 0 od.length, .str py]⟩]) [(0, .ro (zZ t) 0 t.length), (1, .int .i64 p), (5, .ptr 2 0 0), (6, .mp 3), (7, .int .i64 (i : Nat)), (8, .ptr 4 0 0), (9, .bool b), (23, .ro (zZ t) 0 t.length), (24, .int .i64 (t.length : Nat)), (25, .int .i64 (i : Nat))]
   · intro fin
     refine rn5 ?_
     refine zu rfl rfl (fun g1 => ?_) (fun g1 => ?_)
     · repeat (first | refine zB (zH rfl) ?_ | refine zB (zK rfl) ?_ | refine zC ?_ | refine zAA rfl rfl ?_ | refine zB (zS rfl rfl rfl rfl rfl) ?_ | refine zB (zEe rfl rfl) ?_ | refine zB (zAW rfl rfl) ?_ | refine zB (zP rfl rfl rfl rfl rfl rfl) ?_)
       refine zA ?_
       refine zAc 9 (.bool b) rfl (AEq.of_eq (by rw [hown, decide_eq_true g1, Bool.true_and])) ?_
       exact fin _ ⟨rfl, rfl, rfl, rfl, rfl, rfl, rfl, rfl, rfl, rfl, trivial⟩
     · repeat (first | refine zB (zK rfl) ?_ | refine zC ?_ | refine zAo rfl rfl rfl ?_ | refine zB (zAW rfl rfl) ?_)
       refine zA ?_
       refine zAc 9 (.bool b) rfl (AEq.of_eq (by rw [hown, decide_eq_false g1, Bool.false_and])) ?_
       exact fin _ ⟨rfl, rfl, rfl, rfl, rfl, rfl, rfl, rfl, rfl, rfl, trivial⟩
   cases b
   · have hg := han rfl
     generalize zAJ p ⟨kd, pl, nf, nx, od, py⟩ i f = g at *
     subst hg
     simp only [Bool.false_eq_true, if_false] at hvv
     refine rn5 ?_
     refine zj (ι := Nat) (fun k => [(0, .ro (zZ t) 0 t.length), (1, .int .i64 p), (5, .ptr 2 0 0), (6, .mp 3), (7, .int .i64 (i : Nat)), (8, .ptr 4 0 0), (9, .bool false), (23, .ro (zZ t) 0 t.length), (24, .int .i64 (t.length : Nat)), (25, .int .i64 (i : Nat)), (85, .ro (.ints .i64 nx) 0 nx.length), (86, .int .i64 (nx.length : Nat)), (87, .int .i64 (k : Nat))]) (fun k => zCZ t.length ⟨g.seqs, zAl v (nx.take k) 0 g.pos, g.first⟩ [some ⟨40, .box [.int .i64 kd, .int .i64 pl, .int .i64 nf, .ro (.ints .i64 nx) 0 nx.length, .ro (.strs od) 0 od.length, .str py]⟩])
       (fun k => k ≤ nx.length) (fun k => nx.length - k) 0 ⟨⟨rfl, rfl, rfl, rfl, rfl, rfl, rfl, rfl, rfl, rfl, rfl, rfl, rfl, trivial⟩, rfl, Nat.zero_le _⟩ ?_
     intro k hk
     refine rn4 ?_
     refine zE rfl (fun h5 => ?_) (fun h5 => ?_)
     · have hk' : k < nx.length := by omega
       obtain ⟨b1, b2⟩ := hbh _ (zAr 0 hk')
       have hAl : (zAl v (nx.take k) 0 g.pos).length = t.length := by rw [zCs]; exact hgl
       have hAi : (zAl v (nx.take k) 0 g.pos).getD i 0 = g.pos.getD i 0 := zBV v 0 _ _ _ (fun c hc => by have := hbh c (List.mem_of_mem_take hc); omega)
       have hst : zAl v (nx.take (k + 1)) 0 g.pos = (zAl v (nx.take k) 0 g.pos).set (nx.getD k 0).toNat (v k) := by
         rw [zCh hk', zDI, List.length_take, Nat.min_eq_left hk, Nat.zero_add]
       have hvk := hvv k
       generalize hA2 : zAl v (nx.take (k + 1)) 0 g.pos = A2 at *
       generalize zAl v (nx.take k) 0 g.pos = A at *
       obtain ⟨x, hx⟩ := Int.eq_ofNat_of_zero_le (show 0 ≤ nx.getD k 0 by omega)
       have hxn : (nx.getD k 0).toNat = x := by rw [hx, Int.toNat_natCast]
       rw [hx] at b1 b2
       rw [hxn] at hst
       have hxl : x < A.length := by omega
       have hil : i < A.length := by omega
       have hxl2 : x < (A.set x (A.getD i 0)).length := by rw [List.length_set]; exact hxl
       refine rn6 ?_
       refine zAc 14 (.int .i64 (x : Nat)) rfl (AEq.of_eq (by rw [hx])) ?_
       refine zm (by kernel_rfl) ?_
       refine z8 (fuel := 1) [0, 1, 2, 3, 4, 5, 6, 7, 8, 9, 10, 11, 12] [(0, .ro (zZ t) 0 t.length), (1, .int .i64 p), (5, .ptr 2 0 0), (6, .mp 3), (7, .int .i64 (i : Nat)), (8, .ptr 4 0 0), (9, .bool false), (23, .ro (zZ t) 0 t.length), (24, .int .i64 (t.length : Nat)), (25, .int .i64 (i : Nat)), (85, .ro (.ints .i64 nx) 0 nx.length), (86, .int .i64 (nx.length : Nat)), (87, .int .i64 (k : Nat)), (13, .int .i64 (k : Nat)), (14, .int .i64 (x : Nat))] ⟨rfl, rfl, rfl, rfl, rfl, rfl, rfl, rfl, rfl, rfl, rfl, rfl, rfl, rfl, rfl, trivial⟩ (by kernel_rfl) (by decide) rfl rfl ?_
       refine zX rfl rfl (zH rfl) ?_
       refine zX rfl rfl (zAa rfl) ?_
       refine zX rfl rfl (zP rfl rfl rfl rfl rfl rfl) ?_
       refine zX rfl rfl (zS rfl rfl rfl rfl rfl) ?_
       refine zX rfl rfl (zH rfl) ?_
       refine zX rfl rfl (zH rfl) ?_
       refine zX rfl rfl (zAa rfl) ?_
       refine zX rfl rfl (zP rfl rfl rfl rfl rfl rfl) ?_
       refine zX rfl rfl (zS rfl rfl rfl rfl rfl) ?_
       refine zX rfl rfl (zH rfl) ?_
       refine zX rfl rfl (za rfl rfl rfl rfl rfl (by first | (simp only [Nat.zero_add, Int.toNat_natCast, Int.toNat_zero]; exact rfl) | exact rfl) (by omega)) ?_
       refine zX rfl rfl (zAH rfl rfl rfl rfl (by first | assumption | omega)) ?_
       refine zX rfl rfl (za rfl rfl rfl rfl rfl (by first | (simp only [Nat.zero_add, Int.toNat_natCast, Int.toNat_zero]; exact rfl) | exact rfl) (by omega)) ?_
       refine zAj ?_
       refine zD (is := [13]) (by kernel_rfl) (by simp) rfl ⟨fun o ho => ?_, trivial⟩
       all_goals (cases ho)
       repeat (first | refine zC ?_ | refine zi ?_ | refine zAi rfl rfl rfl rfl rfl rfl rfl (by first | assumption | (show _ < List.length _; first | assumption | omega)) ?_)
       refine zh (by kernel_rfl) ?_
       refine rn5 ?_
       exact zN ⟨k + 1, by omega, by omega, ⟨rfl, rfl, rfl, rfl, rfl, rfl, rfl, rfl, rfl, rfl, rfl, rfl, rfl, trivial⟩, by rw [hA2, hst, hvk, ← hAi]; rfl⟩
     · have hke : k = nx.length := by omega
       subst hke
       rw [List.take_length]
       repeat (first | refine zg ?_ | refine zAs ?_ | refine zq ?_ | refine zr ?_ | refine zAF ?_)
       refine zA ?_
       refine zAt (zCZ t.length ⟨g.seqs, zAl v nx 0 g.pos, g.first⟩ []) [some ⟨40, .box [.int .i64 kd, .int .i64 pl, .int .i64 nf, .ro (.ints .i64 nx) 0 nx.length, .ro (.strs od) 0 od.length, .str py]⟩] [(0, .ro (zZ t) 0 t.length), (1, .int .i64 p), (5, .ptr 2 0 0), (6, .mp 3), (23, .ro (zZ t) 0 t.length), (24, .int .i64 (t.length : Nat)), (25, .int .i64 (i : Nat))] rfl ⟨rfl, rfl, rfl, rfl, rfl, rfl, rfl, trivial⟩ (fun h hh => by rw [hfix] at hh; exact absurd hh id) (zG6 _ _) rfl ?_
       refine rn3 ?_
       exact zN ⟨i + 1, by omega, by omega, ⟨rfl, rfl, rfl, rfl, rfl, rfl, rfl, trivial⟩, by rw [hnx]⟩
   · obtain ⟨s, hs⟩ := a10 rfl
     obtain ⟨jj, i1, i2⟩ := zDN hs
     have hsl := (a8 _ (zCJ hs)).2.1
     simp only at hsl
     simp only [if_true] at hvv
     rw [hs] at hvv
     simp only [Option.getD_some] at hvv
     refine rn5 ?_
     cases hL : zBI f.first nf with
     | some s0 =>
       have hg := hao hL
       refine zB (zBQ rfl (.int rfl) rfl rfl rfl rfl (zIb f.first) (zDN hL).choose (zDN hL).choose_spec.1 (zDN hL).choose_spec.2) ?_
       generalize zAJ p ⟨kd, pl, nf, nx, od, py⟩ i f = g at *
       subst hg
       obtain ⟨jj, i1, i2⟩ := zDN hs
       refine rn5 ?_
       refine zj (ι := Nat) (fun k => [(0, .ro (zZ t) 0 t.length), (1, .int .i64 p), (5, .ptr 2 0 0), (6, .mp 3), (7, .int .i64 (i : Nat)), (8, .ptr 4 0 0), (9, .bool true), (23, .ro (zZ t) 0 t.length), (24, .int .i64 (t.length : Nat)), (25, .int .i64 (i : Nat)), (85, .ro (.ints .i64 nx) 0 nx.length), (86, .int .i64 (nx.length : Nat)), (87, .int .i64 (k : Nat))]) (fun k => zCZ t.length ⟨g.seqs, zAl v (nx.take k) 0 g.pos, g.first⟩ [some ⟨40, .box [.int .i64 kd, .int .i64 pl, .int .i64 nf, .ro (.ints .i64 nx) 0 nx.length, .ro (.strs od) 0 od.length, .str py]⟩])
         (fun k => k ≤ nx.length) (fun k => nx.length - k) 0 ⟨⟨rfl, rfl, rfl, rfl, rfl, rfl, rfl, rfl, rfl, rfl, rfl, rfl, rfl, trivial⟩, rfl, Nat.zero_le _⟩ ?_
       intro k hk
       refine rn4 ?_
       refine zE rfl (fun h5 => ?_) (fun h5 => ?_)
       · have hk' : k < nx.length := by omega
         obtain ⟨b1, b2⟩ := hbh _ (zAr 0 hk')
         have hAl : (zAl v (nx.take k) 0 g.pos).length = t.length := by rw [zCs]; exact hgl
         have hAi : (zAl v (nx.take k) 0 g.pos).getD i 0 = g.pos.getD i 0 := zBV v 0 _ _ _ (fun c hc => by have := hbh c (List.mem_of_mem_take hc); omega)
         have hst : zAl v (nx.take (k + 1)) 0 g.pos = (zAl v (nx.take k) 0 g.pos).set (nx.getD k 0).toNat (v k) := by
           rw [zCh hk', zDI, List.length_take, Nat.min_eq_left hk, Nat.zero_add]
         have hvk := hvv k
         generalize hA2 : zAl v (nx.take (k + 1)) 0 g.pos = A2 at *
         generalize zAl v (nx.take k) 0 g.pos = A at *
         obtain ⟨x, hx⟩ := Int.eq_ofNat_of_zero_le (show 0 ≤ nx.getD k 0 by omega)
         have hxn : (nx.getD k 0).toNat = x := by rw [hx, Int.toNat_natCast]
         rw [hx] at b1 b2
         rw [hxn] at hst
         have hxl : x < A.length := by omega
         have hil : i < A.length := by omega
         have hxl2 : x < (A.set x (A.getD i 0)).length := by rw [List.length_set]; exact hxl
         refine rn6 ?_
         refine zAc 14 (.int .i64 (x : Nat)) rfl (AEq.of_eq (by rw [hx])) ?_
         refine zm (by kernel_rfl) ?_
         refine z8 (fuel := 1) [0, 1, 2, 3, 4, 5, 6, 7, 8, 9, 10, 11, 12] [(0, .ro (zZ t) 0 t.length), (1, .int .i64 p), (5, .ptr 2 0 0), (6, .mp 3), (7, .int .i64 (i : Nat)), (8, .ptr 4 0 0), (9, .bool true), (23, .ro (zZ t) 0 t.length), (24, .int .i64 (t.length : Nat)), (25, .int .i64 (i : Nat)), (85, .ro (.ints .i64 nx) 0 nx.length), (86, .int .i64 (nx.length : Nat)), (87, .int .i64 (k : Nat)), (13, .int .i64 (k : Nat)), (14, .int .i64 (x : Nat))] ⟨rfl, rfl, rfl, rfl, rfl, rfl, rfl, rfl, rfl, rfl, rfl, rfl, rfl, rfl, rfl, trivial⟩ (by kernel_rfl) (by decide) rfl rfl ?_
         refine zX rfl rfl (zH rfl) ?_
         refine zX rfl rfl (zAa rfl) ?_
         refine zX rfl rfl (zP rfl rfl rfl rfl rfl rfl) ?_
         refine zX rfl rfl (zS rfl rfl rfl rfl rfl) ?_
         refine zX rfl rfl (zH rfl) ?_
         refine zX rfl rfl (zH rfl) ?_
         refine zX rfl rfl (zAa rfl) ?_
         refine zX rfl rfl (zP rfl rfl rfl rfl rfl rfl) ?_
         refine zX rfl rfl (zS rfl rfl rfl rfl rfl) ?_
         refine zX rfl rfl (zH rfl) ?_
         refine zX rfl rfl (za rfl rfl rfl rfl rfl (by first | (simp only [Nat.zero_add, Int.toNat_natCast, Int.toNat_zero]; exact rfl) | exact rfl) (by omega)) ?_
         refine zX rfl rfl (zAH rfl rfl rfl rfl (by first | assumption | omega)) ?_
         refine zX rfl rfl (za rfl rfl rfl rfl rfl (by first | (simp only [Nat.zero_add, Int.toNat_natCast, Int.toNat_zero]; exact rfl) | exact rfl) (by omega)) ?_
         refine zAj ?_
         refine zD (is := [13]) (by kernel_rfl) (by simp) rfl ⟨fun o ho => ?_, trivial⟩
         all_goals (cases ho)
         repeat (first | refine zC ?_ | refine zi ?_ | refine zAi rfl rfl rfl rfl rfl rfl rfl (by first | assumption | (show _ < List.length _; first | assumption | omega)) ?_)
         refine zGS (zCZ t.length ⟨g.seqs, A.set x (A.getD i 0), g.first⟩ [some ⟨40, .box [.int .i64 kd, .int .i64 pl, .int .i64 nf, .ro (.ints .i64 nx) 0 nx.length, .ro (.strs od) 0 od.length, .str py]⟩]) (zAL.refl _) ?_
         refine zh (by kernel_rfl) ?_
         refine rn5 ?_
         refine zm (by kernel_rfl) ?_
         refine z8 (fuel := 1) [0, 1, 2, 3, 4, 5, 6, 7, 8, 9, 10, 11] [(0, .ro (zZ t) 0 t.length), (1, .int .i64 p), (5, .ptr 2 0 0), (6, .mp 3), (7, .int .i64 (i : Nat)), (8, .ptr 4 0 0), (9, .bool true), (23, .ro (zZ t) 0 t.length), (24, .int .i64 (t.length : Nat)), (25, .int .i64 (i : Nat)), (85, .ro (.ints .i64 nx) 0 nx.length), (86, .int .i64 (nx.length : Nat)), (87, .int .i64 (k : Nat)), (13, .int .i64 (k : Nat)), (14, .int .i64 (x : Nat))] ⟨rfl, rfl, rfl, rfl, rfl, rfl, rfl, rfl, rfl, rfl, rfl, rfl, rfl, rfl, rfl, trivial⟩ (by kernel_rfl) (by decide) rfl rfl ?_
         refine zX rfl rfl (zH rfl) ?_
         refine zX rfl rfl (zAa rfl) ?_
         refine zX rfl rfl (zP rfl rfl rfl rfl rfl rfl) ?_
         refine zX rfl rfl (zS rfl rfl rfl rfl rfl) ?_
         refine zX rfl rfl (zH rfl) ?_
         refine zX rfl rfl (zH rfl) ?_
         refine zX rfl rfl (zP rfl rfl rfl rfl rfl rfl) ?_
         refine zX rfl rfl (zS rfl rfl rfl rfl rfl) ?_
         refine zX rfl rfl (zBQ rfl (.int rfl) rfl rfl rfl rfl (zIb g.first) jj i1 i2) ?_
         refine zX rfl rfl (zH rfl) ?_
         refine zX rfl rfl (zCz rfl rfl (by omega)) ?_
         refine zX rfl rfl (za rfl rfl rfl rfl rfl (by first | (simp only [Nat.zero_add, Int.toNat_natCast, Int.toNat_zero]; exact rfl) | exact rfl) (by omega)) ?_
         refine zAj ?_
         refine zD (is := [12]) (by kernel_rfl) (by simp) rfl ⟨fun o ho => ?_, trivial⟩
         all_goals (cases ho)
         repeat (first | refine zC ?_ | refine zi ?_ | refine zAi rfl rfl rfl rfl rfl rfl rfl (by first | assumption | (show _ < List.length _; first | assumption | omega)) ?_)
         refine zh (by kernel_rfl) ?_
         refine rn5 ?_
         exact zN ⟨k + 1, by omega, by omega, ⟨rfl, rfl, rfl, rfl, rfl, rfl, rfl, rfl, rfl, rfl, rfl, rfl, rfl, trivial⟩, by rw [hA2, hst, hvk]; exact congrArg (fun l => zCZ t.length ⟨g.seqs, l, g.first⟩ [some ⟨40, .box [.int .i64 kd, .int .i64 pl, .int .i64 nf, .ro (.ints .i64 nx) 0 nx.length, .ro (.strs od) 0 od.length, .str py]⟩]) (List.set_set ..)⟩
       · have hke : k = nx.length := by omega
         subst hke
         rw [List.take_length]
         repeat (first | refine zg ?_ | refine zAs ?_ | refine zq ?_ | refine zr ?_ | refine zAF ?_)
         refine zA ?_
         refine zAt (zCZ t.length ⟨g.seqs, zAl v nx 0 g.pos, g.first⟩ []) [some ⟨40, .box [.int .i64 kd, .int .i64 pl, .int .i64 nf, .ro (.ints .i64 nx) 0 nx.length, .ro (.strs od) 0 od.length, .str py]⟩] [(0, .ro (zZ t) 0 t.length), (1, .int .i64 p), (5, .ptr 2 0 0), (6, .mp 3), (23, .ro (zZ t) 0 t.length), (24, .int .i64 (t.length : Nat)), (25, .int .i64 (i : Nat))] rfl ⟨rfl, rfl, rfl, rfl, rfl, rfl, rfl, trivial⟩ (fun h hh => by rw [hfix] at hh; exact absurd hh id) (zG6 _ _) rfl ?_
         refine rn3 ?_
         exact zN ⟨i + 1, by omega, by omega, ⟨rfl, rfl, rfl, rfl, rfl, rfl, rfl, trivial⟩, by rw [hnx]⟩
     | none =>
       have hg := hay rfl hL
       refine zB (zEn rfl (.int rfl) rfl rfl rfl rfl rfl rfl rfl rfl (zIb f.first) (zGn hL)) ?_
       generalize zAJ p ⟨kd, pl, nf, nx, od, py⟩ i f = g at *
       obtain ⟨jj, i1, i2⟩ := zDN hs
       simp only at hg
       have hgs : g.seqs.length = f.seqs.length + nx.length := by rw [hg]; simp [zBj]
       have hil : i < f.pos.length := by omega
       refine rn5 ?_
       refine zm (by kernel_rfl) ?_
       refine z8 (fuel := 1) [0, 1, 2, 3, 4, 5, 6, 7] [(0, .ro (zZ t) 0 t.length), (1, .int .i64 p), (5, .ptr 2 0 0), (6, .mp 3), (7, .int .i64 (i : Nat)), (8, .ptr 4 0 0), (9, .bool true), (23, .ro (zZ t) 0 t.length), (24, .int .i64 (t.length : Nat)), (25, .int .i64 (i : Nat))] ⟨rfl, rfl, rfl, rfl, rfl, rfl, rfl, rfl, rfl, rfl, trivial⟩ (by kernel_rfl) (by decide) rfl rfl ?_
       refine zX rfl rfl (zH rfl) ?_
       refine zX rfl rfl (zP rfl rfl rfl rfl rfl rfl) ?_
       refine zX rfl rfl (zS rfl rfl rfl rfl rfl) ?_
       refine zX rfl rfl (zH rfl) ?_
       refine zX rfl rfl (zAa rfl) ?_
       refine zX rfl rfl (zP rfl rfl rfl rfl rfl rfl) ?_
       refine zX rfl rfl (zS rfl rfl rfl rfl rfl) ?_
       refine zX rfl rfl (zA8 rfl rfl rfl) ?_
       refine zAj ?_
       refine zD (is := [8]) (by kernel_rfl) (by simp) rfl ⟨fun o ho => ?_, trivial⟩
       all_goals (cases ho)
       refine zCS rfl (.int rfl) rfl rfl rfl rfl rfl (zIb f.first) (zGn hL) ?_
       refine rn1 ?_
       refine zh (by kernel_rfl) ?_
       refine rn5 ?_
       refine zj (ι := Nat) (fun k => [(0, .ro (zZ t) 0 t.length), (1, .int .i64 p), (5, .ptr 2 0 0), (6, .mp 3), (7, .int .i64 (i : Nat)), (8, .ptr 4 0 0), (9, .bool true), (23, .ro (zZ t) 0 t.length), (24, .int .i64 (t.length : Nat)), (25, .int .i64 (i : Nat)), (58, .ro (.ints .i64 nx) 0 nx.length), (59, .int .i64 (nx.length : Nat)), (60, .int .i64 (k : Nat))]) (fun k => zCZ t.length ⟨f.seqs ++ zH4 ⟨kd, pl, nf, nx, od, py⟩ (f.pos.getD i 0) k, f.pos, f.first ++ [(nf, f.seqs.length)]⟩ [some ⟨40, .box [.int .i64 kd, .int .i64 pl, .int .i64 nf, .ro (.ints .i64 nx) 0 nx.length, .ro (.strs od) 0 od.length, .str py]⟩])
         (fun k => k ≤ nx.length) (fun k => nx.length - k) 0 ⟨⟨rfl, rfl, rfl, rfl, rfl, rfl, rfl, rfl, rfl, rfl, rfl, rfl, rfl, trivial⟩, (form_new t.length f nf ⟨kd, pl, nf, nx, od, py⟩ (f.pos.getD i 0) [some ⟨40, .box [.int .i64 kd, .int .i64 pl, .int .i64 nf, .ro (.ints .i64 nx) 0 nx.length, .ro (.strs od) 0 od.length, .str py]⟩]).symm, Nat.zero_le _⟩ ?_
       intro k hk
       refine rn4 ?_
       refine zE rfl (fun h5 => ?_) (fun h5 => ?_)
       · have hk' : k < nx.length := by omega
         have hks := zPJ ⟨kd, pl, nf, nx, od, py⟩ (f.pos.getD i 0) k
         have hSl : (f.seqs ++ zH4 ⟨kd, pl, nf, nx, od, py⟩ (f.pos.getD i 0) k).length ≤ 61 := by rw [List.length_append, newK_len]; omega
         have hS2 : f.seqs ++ zH4 ⟨kd, pl, nf, nx, od, py⟩ (f.pos.getD i 0) (k + 1) = (f.seqs ++ zH4 ⟨kd, pl, nf, nx, od, py⟩ (f.pos.getD i 0) k) ++ [(⟨nf, (k : Int), f.pos.getD i 0⟩ : RSeq)] := by rw [hks, List.append_assoc]
         generalize hS2' : f.seqs ++ zH4 ⟨kd, pl, nf, nx, od, py⟩ (f.pos.getD i 0) (k + 1) = S2 at *
         generalize f.seqs ++ zH4 ⟨kd, pl, nf, nx, od, py⟩ (f.pos.getD i 0) k = S at *
         refine rn1 ?_
         refine zm (by kernel_rfl) ?_
         apply zCM (H := zCZ t.length ⟨S, f.pos, f.first ++ [(nf, f.seqs.length)]⟩ [some ⟨40, .box [.int .i64 kd, .int .i64 pl, .int .i64 nf, .ro (.ints .i64 nx) 0 nx.length, .ro (.strs od) 0 od.length, .str py]⟩]) [(0, .ro (zZ t) 0 t.length), (1, .int .i64 p), (5, .ptr 2 0 0), (6, .mp 3), (7, .int .i64 (i : Nat)), (8, .ptr 4 0 0), (9, .bool true), (23, .ro (zZ t) 0 t.length), (24, .int .i64 (t.length : Nat)), (25, .int .i64 (i : Nat)), (58, .ro (.ints .i64 nx) 0 nx.length), (59, .int .i64 (nx.length : Nat)), (60, .int .i64 (k : Nat)), (12, .int .i64 (k : Nat)), (63, .ptr 2 0 0), (67, .sl 0 0 S.length), (79, .ro (zEb 1 3 [.int .i64 nf, .int .i64 (k : Nat), .int .i64 (f.pos.getD i 0)]) 0 1)]
         · intro fin2
           refine zO 0 rfl (by kernel_rfl) (by kernel_rfl) (by kernel_rfl) rfl (zH rfl) rfl ?_
           refine zO 1 rfl (by kernel_rfl) (by kernel_rfl) (by kernel_rfl) rfl (zH rfl) rfl ?_
           refine zO 5 rfl (by kernel_rfl) (by kernel_rfl) (by kernel_rfl) rfl (zP rfl rfl rfl rfl rfl rfl) rfl ?_
           refine zO 7 rfl (by kernel_rfl) (by kernel_rfl) (by kernel_rfl) rfl (zH rfl) rfl ?_
           refine zO 8 rfl (by kernel_rfl) (by kernel_rfl) (by kernel_rfl) rfl (zH rfl) rfl ?_
           refine zO 12 rfl (by kernel_rfl) (by kernel_rfl) (by kernel_rfl) rfl (zH rfl) rfl ?_
           refine zO 2 rfl (by kernel_rfl) (by kernel_rfl) (by kernel_rfl) rfl (zAa rfl) rfl ?_
           refine zO 9 rfl (by kernel_rfl) (by kernel_rfl) (by kernel_rfl) rfl (zAa rfl) rfl ?_
           refine zO 3 rfl (by kernel_rfl) (by kernel_rfl) (by kernel_rfl) rfl (zP rfl rfl rfl rfl rfl rfl) rfl ?_
           refine zO 10 rfl (by kernel_rfl) (by kernel_rfl) (by kernel_rfl) rfl (zP rfl rfl rfl rfl rfl rfl) rfl ?_
           refine zD (is := [4, 6, 11]) (by kernel_rfl) (by simp) rfl ⟨fun o ho => ?_, fun o ho => ?_, fun o ho => ?_, trivial⟩
           all_goals (cases ho)
           · refine rn4 ?_
             refine zD (is := [6, 11]) (by kernel_rfl) (by simp) rfl ⟨fun o ho => ?_, fun o ho => ?_, trivial⟩
             all_goals (cases ho)
             · refine rn4 ?_
               refine zD (is := [11]) (by kernel_rfl) (by simp) rfl ⟨fun o ho => ?_, trivial⟩
               all_goals (cases ho)
               refine rn4 ?_
               refine zO 13 rfl (by kernel_rfl) (by kernel_rfl) (by kernel_rfl) rfl (za rfl rfl rfl rfl rfl (by first | (simp only [Nat.zero_add, Int.toNat_natCast, Int.toNat_zero]; exact rfl) | exact rfl) (by omega)) rfl ?_
               refine zD (is := [14]) (by kernel_rfl) (by simp) rfl ⟨fun o ho => ?_, trivial⟩
               all_goals (cases ho)
               repeat (first | refine zC ?_ | refine zi ?_ | refine zB (zAH rfl rfl rfl rfl (by first | assumption | omega)) ?_)
               refine zO 15 rfl (by kernel_rfl) (by kernel_rfl) (by kernel_rfl) rfl (zAR rfl rfl rfl rfl rfl rfl) rfl ?_
               refine zD (is := [16]) (by kernel_rfl) (by simp) rfl ⟨fun o ho => ?_, trivial⟩
               all_goals (cases ho)
               refine rn3 ?_
               exact fin2 _ ⟨rfl, rfl, rfl, rfl, rfl, rfl, rfl, rfl, rfl, rfl, rfl, rfl, rfl, rfl, rfl, rfl, rfl, trivial⟩
             · refine rn4 ?_
               refine zO 13 rfl (by kernel_rfl) (by kernel_rfl) (by kernel_rfl) rfl (za rfl rfl rfl rfl rfl (by first | (simp only [Nat.zero_add, Int.toNat_natCast, Int.toNat_zero]; exact rfl) | exact rfl) (by omega)) rfl ?_
               refine zD (is := [6, 14]) (by kernel_rfl) (by simp) rfl ⟨fun o ho => ?_, fun o ho => ?_, trivial⟩
               all_goals (cases ho)
               · refine rn4 ?_
                 refine zD (is := [14]) (by kernel_rfl) (by simp) rfl ⟨fun o ho => ?_, trivial⟩
                 all_goals (cases ho)
                 repeat (first | refine zC ?_ | refine zi ?_ | refine zB (zAH rfl rfl rfl rfl (by first | assumption | omega)) ?_)
                 refine zO 15 rfl (by kernel_rfl) (by kernel_rfl) (by kernel_rfl) rfl (zAR rfl rfl rfl rfl rfl rfl) rfl ?_
                 refine zD (is := [16]) (by kernel_rfl) (by simp) rfl ⟨fun o ho => ?_, trivial⟩
                 all_goals (cases ho)
                 refine rn3 ?_
                 exact fin2 _ ⟨rfl, rfl, rfl, rfl, rfl, rfl, rfl, rfl, rfl, rfl, rfl, rfl, rfl, rfl, rfl, rfl, rfl, trivial⟩
               · repeat (first | refine zC ?_ | refine zi ?_ | refine zB (zAH rfl rfl rfl rfl (by first | assumption | omega)) ?_)
                 refine zD (is := [6]) (by kernel_rfl) (by simp) rfl ⟨fun o ho => ?_, trivial⟩
                 all_goals (cases ho)
                 refine rn4 ?_
                 refine zO 15 rfl (by kernel_rfl) (by kernel_rfl) (by kernel_rfl) rfl (zAR rfl rfl rfl rfl rfl rfl) rfl ?_
                 refine zD (is := [16]) (by kernel_rfl) (by simp) rfl ⟨fun o ho => ?_, trivial⟩
                 all_goals (cases ho)
                 refine rn3 ?_
                 exact fin2 _ ⟨rfl, rfl, rfl, rfl, rfl, rfl, rfl, rfl, rfl, rfl, rfl, rfl, rfl, rfl, rfl, rfl, rfl, trivial⟩
           · refine rn4 ?_
             refine zD (is := [4, 11]) (by kernel_rfl) (by simp) rfl ⟨fun o ho => ?_, fun o ho => ?_, trivial⟩
             all_goals (cases ho)
             · refine rn4 ?_
               refine zD (is := [11]) (by kernel_rfl) (by simp) rfl ⟨fun o ho => ?_, trivial⟩
               all_goals (cases ho)
               refine rn4 ?_
               refine zO 13 rfl (by kernel_rfl) (by kernel_rfl) (by kernel_rfl) rfl (za rfl rfl rfl rfl rfl (by first | (simp only [Nat.zero_add, Int.toNat_natCast, Int.toNat_zero]; exact rfl) | exact rfl) (by omega)) rfl ?_
               refine zD (is := [14]) (by kernel_rfl) (by simp) rfl ⟨fun o ho => ?_, trivial⟩
               all_goals (cases ho)
               repeat (first | refine zC ?_ | refine zi ?_ | refine zB (zAH rfl rfl rfl rfl (by first | assumption | omega)) ?_)
               refine zO 15 rfl (by kernel_rfl) (by kernel_rfl) (by kernel_rfl) rfl (zAR rfl rfl rfl rfl rfl rfl) rfl ?_
               refine zD (is := [16]) (by kernel_rfl) (by simp) rfl ⟨fun o ho => ?_, trivial⟩
               all_goals (cases ho)
               refine rn3 ?_
               exact fin2 _ ⟨rfl, rfl, rfl, rfl, rfl, rfl, rfl, rfl, rfl, rfl, rfl, rfl, rfl, rfl, rfl, rfl, rfl, trivial⟩
             · refine rn4 ?_
               refine zO 13 rfl (by kernel_rfl) (by kernel_rfl) (by kernel_rfl) rfl (za rfl rfl rfl rfl rfl (by first | (simp only [Nat.zero_add, Int.toNat_natCast, Int.toNat_zero]; exact rfl) | exact rfl) (by omega)) rfl ?_
               refine zD (is := [4, 14]) (by kernel_rfl) (by simp) rfl ⟨fun o ho => ?_, fun o ho => ?_, trivial⟩
               all_goals (cases ho)
               · refine rn4 ?_
                 refine zD (is := [14]) (by kernel_rfl) (by simp) rfl ⟨fun o ho => ?_, trivial⟩
                 all_goals (cases ho)
                 repeat (first | refine zC ?_ | refine zi ?_ | refine zB (zAH rfl rfl rfl rfl (by first | assumption | omega)) ?_)
                 refine zO 15 rfl (by kernel_rfl) (by kernel_rfl) (by kernel_rfl) rfl (zAR rfl rfl rfl rfl rfl rfl) rfl ?_
                 refine zD (is := [16]) (by kernel_rfl) (by simp) rfl ⟨fun o ho => ?_, trivial⟩
                 all_goals (cases ho)
                 refine rn3 ?_
                 exact fin2 _ ⟨rfl, rfl, rfl, rfl, rfl, rfl, rfl, rfl, rfl, rfl, rfl, rfl, rfl, rfl, rfl, rfl, rfl, trivial⟩
               · repeat (first | refine zC ?_ | refine zi ?_ | refine zB (zAH rfl rfl rfl rfl (by first | assumption | omega)) ?_)
                 refine zO 15 rfl (by kernel_rfl) (by kernel_rfl) (by kernel_rfl) rfl (zAR rfl rfl rfl rfl rfl rfl) rfl ?_
                 refine zD (is := [4, 16]) (by kernel_rfl) (by simp) rfl ⟨fun o ho => ?_, fun o ho => ?_, trivial⟩
                 all_goals (cases ho)
                 · refine rn4 ?_
                   refine zD (is := [16]) (by kernel_rfl) (by simp) rfl ⟨fun o ho => ?_, trivial⟩
                   all_goals (cases ho)
                   refine rn3 ?_
                   exact fin2 _ ⟨rfl, rfl, rfl, rfl, rfl, rfl, rfl, rfl, rfl, rfl, rfl, rfl, rfl, rfl, rfl, rfl, rfl, trivial⟩
                 · refine rn3 ?_
                   refine zD (is := [4]) (by kernel_rfl) (by simp) rfl ⟨fun o ho => ?_, trivial⟩
                   all_goals (cases ho)
                   refine rn4 ?_
                   exact fin2 _ ⟨rfl, rfl, rfl, rfl, rfl, rfl, rfl, rfl, rfl, rfl, rfl, rfl, rfl, rfl, rfl, rfl, rfl, trivial⟩
           · refine rn4 ?_
             refine zO 13 rfl (by kernel_rfl) (by kernel_rfl) (by kernel_rfl) rfl (za rfl rfl rfl rfl rfl (by first | (simp only [Nat.zero_add, Int.toNat_natCast, Int.toNat_zero]; exact rfl) | exact rfl) (by omega)) rfl ?_
             refine zD (is := [4, 6, 14]) (by kernel_rfl) (by simp) rfl ⟨fun o ho => ?_, fun o ho => ?_, fun o ho => ?_, trivial⟩
             all_goals (cases ho)
             · refine rn4 ?_
               refine zD (is := [6, 14]) (by kernel_rfl) (by simp) rfl ⟨fun o ho => ?_, fun o ho => ?_, trivial⟩
               all_goals (cases ho)
               · refine rn4 ?_
                 refine zD (is := [14]) (by kernel_rfl) (by simp) rfl ⟨fun o ho => ?_, trivial⟩
                 all_goals (cases ho)
                 repeat (first | refine zC ?_ | refine zi ?_ | refine zB (zAH rfl rfl rfl rfl (by first | assumption | omega)) ?_)
                 refine zO 15 rfl (by kernel_rfl) (by kernel_rfl) (by kernel_rfl) rfl (zAR rfl rfl rfl rfl rfl rfl) rfl ?_
                 refine zD (is := [16]) (by kernel_rfl) (by simp) rfl ⟨fun o ho => ?_, trivial⟩
                 all_goals (cases ho)
                 refine rn3 ?_
                 exact fin2 _ ⟨rfl, rfl, rfl, rfl, rfl, rfl, rfl, rfl, rfl, rfl, rfl, rfl, rfl, rfl, rfl, rfl, rfl, trivial⟩
               · repeat (first | refine zC ?_ | refine zi ?_ | refine zB (zAH rfl rfl rfl rfl (by first | assumption | omega)) ?_)
                 refine zD (is := [6]) (by kernel_rfl) (by simp) rfl ⟨fun o ho => ?_, trivial⟩
                 all_goals (cases ho)
                 refine rn4 ?_
                 refine zO 15 rfl (by kernel_rfl) (by kernel_rfl) (by kernel_rfl) rfl (zAR rfl rfl rfl rfl rfl rfl) rfl ?_
                 refine zD (is := [16]) (by kernel_rfl) (by simp) rfl ⟨fun o ho => ?_, trivial⟩
                 all_goals (cases ho)
                 refine rn3 ?_
                 exact fin2 _ ⟨rfl, rfl, rfl, rfl, rfl, rfl, rfl, rfl, rfl, rfl, rfl, rfl, rfl, rfl, rfl, rfl, rfl, trivial⟩
             · refine rn4 ?_
               refine zD (is := [4, 14]) (by kernel_rfl) (by simp) rfl ⟨fun o ho => ?_, fun o ho => ?_, trivial⟩
               all_goals (cases ho)
               · refine rn4 ?_
                 refine zD (is := [14]) (by kernel_rfl) (by simp) rfl ⟨fun o ho => ?_, trivial⟩
                 all_goals (cases ho)
                 repeat (first | refine zC ?_ | refine zi ?_ | refine zB (zAH rfl rfl rfl rfl (by first | assumption | omega)) ?_)
                 refine zO 15 rfl (by kernel_rfl) (by kernel_rfl) (by kernel_rfl) rfl (zAR rfl rfl rfl rfl rfl rfl) rfl ?_
                 refine zD (is := [16]) (by kernel_rfl) (by simp) rfl ⟨fun o ho => ?_, trivial⟩
                 all_goals (cases ho)
                 refine rn3 ?_
                 exact fin2 _ ⟨rfl, rfl, rfl, rfl, rfl, rfl, rfl, rfl, rfl, rfl, rfl, rfl, rfl, rfl, rfl, rfl, rfl, trivial⟩
               · repeat (first | refine zC ?_ | refine zi ?_ | refine zB (zAH rfl rfl rfl rfl (by first | assumption | omega)) ?_)
                 refine zO 15 rfl (by kernel_rfl) (by kernel_rfl) (by kernel_rfl) rfl (zAR rfl rfl rfl rfl rfl rfl) rfl ?_
                 refine zD (is := [4, 16]) (by kernel_rfl) (by simp) rfl ⟨fun o ho => ?_, fun o ho => ?_, trivial⟩
                 all_goals (cases ho)
                 · refine rn4 ?_
                   refine zD (is := [16]) (by kernel_rfl) (by simp) rfl ⟨fun o ho => ?_, trivial⟩
                   all_goals (cases ho)
                   refine rn3 ?_
                   exact fin2 _ ⟨rfl, rfl, rfl, rfl, rfl, rfl, rfl, rfl, rfl, rfl, rfl, rfl, rfl, rfl, rfl, rfl, rfl, trivial⟩
                 · refine rn3 ?_
                   refine zD (is := [4]) (by kernel_rfl) (by simp) rfl ⟨fun o ho => ?_, trivial⟩
                   all_goals (cases ho)
                   refine rn4 ?_
                   exact fin2 _ ⟨rfl, rfl, rfl, rfl, rfl, rfl, rfl, rfl, rfl, rfl, rfl, rfl, rfl, rfl, rfl, rfl, rfl, trivial⟩
             · repeat (first | refine zC ?_ | refine zi ?_ | refine zB (zAH rfl rfl rfl rfl (by first | assumption | omega)) ?_)
               refine zD (is := [4, 6]) (by kernel_rfl) (by simp) rfl ⟨fun o ho => ?_, fun o ho => ?_, trivial⟩
               all_goals (cases ho)
               · refine rn4 ?_
                 refine zD (is := [6]) (by kernel_rfl) (by simp) rfl ⟨fun o ho => ?_, trivial⟩
                 all_goals (cases ho)
                 refine rn4 ?_
                 refine zO 15 rfl (by kernel_rfl) (by kernel_rfl) (by kernel_rfl) rfl (zAR rfl rfl rfl rfl rfl rfl) rfl ?_
                 refine zD (is := [16]) (by kernel_rfl) (by simp) rfl ⟨fun o ho => ?_, trivial⟩
                 all_goals (cases ho)
                 refine rn3 ?_
                 exact fin2 _ ⟨rfl, rfl, rfl, rfl, rfl, rfl, rfl, rfl, rfl, rfl, rfl, rfl, rfl, rfl, rfl, rfl, rfl, trivial⟩
               · refine rn4 ?_
                 refine zO 15 rfl (by kernel_rfl) (by kernel_rfl) (by kernel_rfl) rfl (zAR rfl rfl rfl rfl rfl rfl) rfl ?_
                 refine zD (is := [4, 16]) (by kernel_rfl) (by simp) rfl ⟨fun o ho => ?_, fun o ho => ?_, trivial⟩
                 all_goals (cases ho)
                 · refine rn4 ?_
                   refine zD (is := [16]) (by kernel_rfl) (by simp) rfl ⟨fun o ho => ?_, trivial⟩
                   all_goals (cases ho)
                   refine rn3 ?_
                   exact fin2 _ ⟨rfl, rfl, rfl, rfl, rfl, rfl, rfl, rfl, rfl, rfl, rfl, rfl, rfl, rfl, rfl, rfl, rfl, trivial⟩
                 · refine rn3 ?_
                   refine zD (is := [4]) (by kernel_rfl) (by simp) rfl ⟨fun o ho => ?_, trivial⟩
                   all_goals (cases ho)
                   refine rn4 ?_
                   exact fin2 _ ⟨rfl, rfl, rfl, rfl, rfl, rfl, rfl, rfl, rfl, rfl, rfl, rfl, rfl, rfl, rfl, rfl, rfl, trivial⟩
         · refine zD (is := [17]) (by kernel_rfl) (by simp) rfl ⟨fun o ho => ?_, trivial⟩
           all_goals (cases ho)
           refine zn rfl rfl rfl rfl rfl rfl rfl rfl rfl rfl rfl rfl (by show 0 + 1 ≤ 1; omega) rfl (by show (S.length + 1) * 24 ≤ _ ∧ _; omega) ?_ (by rw [hfix]; exact fun h => h) ?_
           · intro i' j' hi' hj'
             exact zG4 zBY 3 zFL zK4 S ⟨nf, (k : Int), f.pos.getD i 0⟩ _ (rowS3 ⟨nf, (k : Int), f.pos.getD i 0⟩) 0 i' j' hi' hj'
           refine zAy [some ⟨174, zIL (S ++ [(⟨nf, (k : Int), f.pos.getD i 0⟩ : RSeq)])⟩, some ⟨3, .ints .i64 f.pos⟩, some ⟨169, .box [.any, .sl 1 0 t.length]⟩, some ⟨123, zGt (f.first ++ [(nf, f.seqs.length)])⟩, some ⟨40, .box [.int .i64 kd, .int .i64 pl, .int .i64 nf, .ro (.ints .i64 nx) 0 nx.length, .ro (.strs od) 0 od.length, .str py]⟩] (zAL.eqv (zFG zBY 3 zFL S ⟨nf, (k : Int), f.pos.getD i 0⟩ _ (rowS3 ⟨nf, (k : Int), f.pos.getD i 0⟩)) (zAL.eqv (CEq.refl _) (zAL.eqv (CEq.refl _) (zAL.eqv (zM8 _ _) (zAL.eqv (CEq.refl _) zAL.nil))))) ?_
           refine rn1 ?_
           refine zO 18 rfl (by kernel_rfl) (by kernel_rfl) (by kernel_rfl) rfl (zAa rfl) rfl ?_
           refine zO 19 rfl (by kernel_rfl) (by kernel_rfl) (by kernel_rfl) rfl (zP rfl rfl rfl rfl rfl rfl) rfl ?_
           refine zD (is := [20]) (by kernel_rfl) (by simp) rfl ⟨fun o ho => ?_, trivial⟩
           all_goals (cases ho)
           repeat (first | refine zC ?_ | refine zi ?_ | refine zAi rfl rfl rfl rfl rfl rfl rfl Nat.zero_lt_one ?_)
           refine zGS (zCZ t.length ⟨S ++ [(⟨nf, (k : Int), f.pos.getD i 0⟩ : RSeq)], f.pos, f.first ++ [(nf, f.seqs.length)]⟩ [some ⟨40, .box [.int .i64 kd, .int .i64 pl, .int .i64 nf, .ro (.ints .i64 nx) 0 nx.length, .ro (.strs od) 0 od.length, .str py]⟩]) (zAL.eqv (CEq.refl _) (zAL.eqv (CEq.refl _) (zAL.eqv (by show CEq (formB (S.length + 1) t.length) (formB (S ++ [(⟨nf, (k : Int), f.pos.getD i 0⟩ : RSeq)]).length t.length); rw [List.length_append]; exact CEq.refl _) (zAL.refl _)))) ?_
           refine zh (by kernel_rfl) ?_
           refine rn5 ?_
           exact zN ⟨k + 1, by omega, by omega, ⟨rfl, rfl, rfl, rfl, rfl, rfl, rfl, rfl, rfl, rfl, rfl, rfl, rfl, trivial⟩, by rw [hS2', hS2]⟩
       · have hke : k = nx.length := by omega
         subst hke
         refine rn5 ?_
         refine zCl (zCZ t.length g [some ⟨40, .box [.int .i64 kd, .int .i64 pl, .int .i64 nf, .ro (.ints .i64 nx) 0 nx.length, .ro (.strs od) 0 od.length, .str py]⟩]) (by rw [hg]; rfl) ?_
         refine zj (ι := Nat) (fun k => [(0, .ro (zZ t) 0 t.length), (1, .int .i64 p), (5, .ptr 2 0 0), (6, .mp 3), (7, .int .i64 (i : Nat)), (8, .ptr 4 0 0), (9, .bool true), (23, .ro (zZ t) 0 t.length), (24, .int .i64 (t.length : Nat)), (25, .int .i64 (i : Nat)), (85, .ro (.ints .i64 nx) 0 nx.length), (86, .int .i64 (nx.length : Nat)), (87, .int .i64 (k : Nat))]) (fun k => zCZ t.length ⟨g.seqs, zAl v (nx.take k) 0 g.pos, g.first⟩ [some ⟨40, .box [.int .i64 kd, .int .i64 pl, .int .i64 nf, .ro (.ints .i64 nx) 0 nx.length, .ro (.strs od) 0 od.length, .str py]⟩])
           (fun k => k ≤ nx.length) (fun k => nx.length - k) 0 ⟨⟨rfl, rfl, rfl, rfl, rfl, rfl, rfl, rfl, rfl, rfl, rfl, rfl, rfl, trivial⟩, rfl, Nat.zero_le _⟩ ?_
         intro k hk
         refine rn4 ?_
         refine zE rfl (fun h5 => ?_) (fun h5 => ?_)
         · have hk' : k < nx.length := by omega
           obtain ⟨b1, b2⟩ := hbh _ (zAr 0 hk')
           have hAl : (zAl v (nx.take k) 0 g.pos).length = t.length := by rw [zCs]; exact hgl
           have hAi : (zAl v (nx.take k) 0 g.pos).getD i 0 = g.pos.getD i 0 := zBV v 0 _ _ _ (fun c hc => by have := hbh c (List.mem_of_mem_take hc); omega)
           have hst : zAl v (nx.take (k + 1)) 0 g.pos = (zAl v (nx.take k) 0 g.pos).set (nx.getD k 0).toNat (v k) := by
             rw [zCh hk', zDI, List.length_take, Nat.min_eq_left hk, Nat.zero_add]
           have hvk := hvv k
           generalize hA2 : zAl v (nx.take (k + 1)) 0 g.pos = A2 at *
           generalize zAl v (nx.take k) 0 g.pos = A at *
           obtain ⟨x, hx⟩ := Int.eq_ofNat_of_zero_le (show 0 ≤ nx.getD k 0 by omega)
           have hxn : (nx.getD k 0).toNat = x := by rw [hx, Int.toNat_natCast]
           rw [hx] at b1 b2
           rw [hxn] at hst
           have hxl : x < A.length := by omega
           have hil : i < A.length := by omega
           have hxl2 : x < (A.set x (A.getD i 0)).length := by rw [List.length_set]; exact hxl
           refine rn6 ?_
           refine zAc 14 (.int .i64 (x : Nat)) rfl (AEq.of_eq (by rw [hx])) ?_
           refine zm (by kernel_rfl) ?_
           refine z8 (fuel := 1) [0, 1, 2, 3, 4, 5, 6, 7, 8, 9, 10, 11, 12] [(0, .ro (zZ t) 0 t.length), (1, .int .i64 p), (5, .ptr 2 0 0), (6, .mp 3), (7, .int .i64 (i : Nat)), (8, .ptr 4 0 0), (9, .bool true), (23, .ro (zZ t) 0 t.length), (24, .int .i64 (t.length : Nat)), (25, .int .i64 (i : Nat)), (85, .ro (.ints .i64 nx) 0 nx.length), (86, .int .i64 (nx.length : Nat)), (87, .int .i64 (k : Nat)), (13, .int .i64 (k : Nat)), (14, .int .i64 (x : Nat))] ⟨rfl, rfl, rfl, rfl, rfl, rfl, rfl, rfl, rfl, rfl, rfl, rfl, rfl, rfl, rfl, trivial⟩ (by kernel_rfl) (by decide) rfl rfl ?_
           refine zX rfl rfl (zH rfl) ?_
           refine zX rfl rfl (zAa rfl) ?_
           refine zX rfl rfl (zP rfl rfl rfl rfl rfl rfl) ?_
           refine zX rfl rfl (zS rfl rfl rfl rfl rfl) ?_
           refine zX rfl rfl (zH rfl) ?_
           refine zX rfl rfl (zH rfl) ?_
           refine zX rfl rfl (zAa rfl) ?_
           refine zX rfl rfl (zP rfl rfl rfl rfl rfl rfl) ?_
           refine zX rfl rfl (zS rfl rfl rfl rfl rfl) ?_
           refine zX rfl rfl (zH rfl) ?_
           refine zX rfl rfl (za rfl rfl rfl rfl rfl (by first | (simp only [Nat.zero_add, Int.toNat_natCast, Int.toNat_zero]; exact rfl) | exact rfl) (by omega)) ?_
           refine zX rfl rfl (zAH rfl rfl rfl rfl (by first | assumption | omega)) ?_
           refine zX rfl rfl (za rfl rfl rfl rfl rfl (by first | (simp only [Nat.zero_add, Int.toNat_natCast, Int.toNat_zero]; exact rfl) | exact rfl) (by omega)) ?_
           refine zAj ?_
           refine zD (is := [13]) (by kernel_rfl) (by simp) rfl ⟨fun o ho => ?_, trivial⟩
           all_goals (cases ho)
           repeat (first | refine zC ?_ | refine zi ?_ | refine zAi rfl rfl rfl rfl rfl rfl rfl (by first | assumption | (show _ < List.length _; first | assumption | omega)) ?_)
           refine zGS (zCZ t.length ⟨g.seqs, A.set x (A.getD i 0), g.first⟩ [some ⟨40, .box [.int .i64 kd, .int .i64 pl, .int .i64 nf, .ro (.ints .i64 nx) 0 nx.length, .ro (.strs od) 0 od.length, .str py]⟩]) (zAL.refl _) ?_
           refine zh (by kernel_rfl) ?_
           refine rn5 ?_
           refine zm (by kernel_rfl) ?_
           refine z8 (fuel := 1) [0, 1, 2, 3, 4, 5, 6, 7, 8, 9, 10, 11] [(0, .ro (zZ t) 0 t.length), (1, .int .i64 p), (5, .ptr 2 0 0), (6, .mp 3), (7, .int .i64 (i : Nat)), (8, .ptr 4 0 0), (9, .bool true), (23, .ro (zZ t) 0 t.length), (24, .int .i64 (t.length : Nat)), (25, .int .i64 (i : Nat)), (85, .ro (.ints .i64 nx) 0 nx.length), (86, .int .i64 (nx.length : Nat)), (87, .int .i64 (k : Nat)), (13, .int .i64 (k : Nat)), (14, .int .i64 (x : Nat))] ⟨rfl, rfl, rfl, rfl, rfl, rfl, rfl, rfl, rfl, rfl, rfl, rfl, rfl, rfl, rfl, trivial⟩ (by kernel_rfl) (by decide) rfl rfl ?_
           refine zX rfl rfl (zH rfl) ?_
           refine zX rfl rfl (zAa rfl) ?_
           refine zX rfl rfl (zP rfl rfl rfl rfl rfl rfl) ?_
           refine zX rfl rfl (zS rfl rfl rfl rfl rfl) ?_
           refine zX rfl rfl (zH rfl) ?_
           refine zX rfl rfl (zH rfl) ?_
           refine zX rfl rfl (zP rfl rfl rfl rfl rfl rfl) ?_
           refine zX rfl rfl (zS rfl rfl rfl rfl rfl) ?_
           refine zX rfl rfl (zBQ rfl (.int rfl) rfl rfl rfl rfl (zIb g.first) jj i1 i2) ?_
           refine zX rfl rfl (zH rfl) ?_
           refine zX rfl rfl (zCz rfl rfl (by omega)) ?_
           refine zX rfl rfl (za rfl rfl rfl rfl rfl (by first | (simp only [Nat.zero_add, Int.toNat_natCast, Int.toNat_zero]; exact rfl) | exact rfl) (by omega)) ?_
           refine zAj ?_
           refine zD (is := [12]) (by kernel_rfl) (by simp) rfl ⟨fun o ho => ?_, trivial⟩
           all_goals (cases ho)
           repeat (first | refine zC ?_ | refine zi ?_ | refine zAi rfl rfl rfl rfl rfl rfl rfl (by first | assumption | (show _ < List.length _; first | assumption | omega)) ?_)
           refine zh (by kernel_rfl) ?_
           refine rn5 ?_
           exact zN ⟨k + 1, by omega, by omega, ⟨rfl, rfl, rfl, rfl, rfl, rfl, rfl, rfl, rfl, rfl, rfl, rfl, rfl, trivial⟩, by rw [hA2, hst, hvk]; exact congrArg (fun l => zCZ t.length ⟨g.seqs, l, g.first⟩ [some ⟨40, .box [.int .i64 kd, .int .i64 pl, .int .i64 nf, .ro (.ints .i64 nx) 0 nx.length, .ro (.strs od) 0 od.length, .str py]⟩]) (List.set_set ..)⟩
         · have hke : k = nx.length := by omega
           subst hke
           rw [List.take_length]
           repeat (first | refine zg ?_ | refine zAs ?_ | refine zq ?_ | refine zr ?_ | refine zAF ?_)
           refine zA ?_
           refine zAt (zCZ t.length ⟨g.seqs, zAl v nx 0 g.pos, g.first⟩ []) [some ⟨40, .box [.int .i64 kd, .int .i64 pl, .int .i64 nf, .ro (.ints .i64 nx) 0 nx.length, .ro (.strs od) 0 od.length, .str py]⟩] [(0, .ro (zZ t) 0 t.length), (1, .int .i64 p), (5, .ptr 2 0 0), (6, .mp 3), (23, .ro (zZ t) 0 t.length), (24, .int .i64 (t.length : Nat)), (25, .int .i64 (i : Nat))] rfl ⟨rfl, rfl, rfl, rfl, rfl, rfl, rfl, trivial⟩ (fun h hh => by rw [hfix] at hh; exact absurd hh id) (zG6 _ _) rfl ?_
           refine rn3 ?_
           exact zN ⟨i + 1, by omega, by omega, ⟨rfl, rfl, rfl, rfl, rfl, rfl, rfl, trivial⟩, by rw [hnx]⟩
 · have hie : i = t.length := by omega
   subst hie
   refine rn5 ?_
   exact zI hR rfl ⟨rfl, rfl⟩
end Go.Proofs.YtnkealfaldjipaaGreatDoor
namespace Go.Ax.Rt
open Go.Ax.Bg Go.Ax.Idx
structure TChoice where
 info : Int
 odds : List zAG
 deriving DecidableEq
def ch0 : TChoice := ⟨0, []⟩
abbrev zAX := List TChoice
def zFe (I Z : List Int) : Nat → zAX → Int
 | _, [] => 0
 | k, c :: r => if c.info ≠ I.getD k 0 ∨ ((c.odds.length : Nat) : Int) ≠ Z.getD k 0 then 3 else if zCm c.odds ≠ 0 then zCm c.odds else zFe I Z (k + 1) r
/-- recall.Strategy -/
def zCW (t : zT) (p : Int) (s : zAX) : Int := if s.length ≠ (zd t p).length then 3 else zFe (zd t p) (zBW t p) 0 s
theorem zLp {I Z : List Int} {s : zAX} {k : Nat} (hk : k < s.length) : zFe I Z k (s.drop k) = if (s.getD k ch0).info ≠ I.getD k 0 ∨ (((s.getD k ch0).odds.length : Nat) : Int) ≠ Z.getD k 0 then 3 else if zCm (s.getD k ch0).odds ≠ 0 then zCm (s.getD k ch0).odds else zFe I Z (k + 1) (s.drop (k + 1)) := by
 rw [List.drop_eq_getElem_cons hk, ← zAe ch0 hk, zFe]
theorem zIR {I Z : List Int} : ∀ {s : zAX} {k : Nat}, zFe I Z k s = 0 → ∀ j, j < s.length → (s.getD j ch0).info = I.getD (k + j) 0 ∧ (((s.getD j ch0).odds.length : Nat) : Int) = Z.getD (k + j) 0 ∧ zCm (s.getD j ch0).odds = 0
 | [], k, h, j, hj => absurd hj (Nat.not_lt_zero _)
 | c :: r, k, h, j, hj => by
   rw [zFe] at h
   split at h
   · cases h
   rename_i h1
   simp only [not_or, Classical.not_not] at h1
   split at h
   · rename_i h2; exact absurd h h2
   rename_i h2
   cases j with
   | zero => exact ⟨h1.1, h1.2, Classical.not_not.1 h2⟩
   | succ j =>
     have := zIR h j (by simpa using hj)
     rw [show k + (j + 1) = k + 1 + j by omega]
     exact this
structure OkS (t : zT) (p : Int) (s : zAX) : Prop where
 infos : s.map TChoice.info = zd t p
 wid : ∀ j, j < s.length → (s.getD j ch0).odds.length = zc t p (s.getD j ch0).info
 odds : ∀ c ∈ s, zCm c.odds = 0
theorem zNP {t : zT} {p : Int} {s : zAX} (h : zCW t p s = 0) : OkS t p s := by
 unfold zCW at h
 split at h
 · cases h
 rename_i h1
 have h1 := Classical.not_not.1 h1
 have h2 := zIR h
 have e1 : ∀ j, j < s.length → (s.getD j ch0).info = (zd t p).getD j 0 := fun j hj => by
   have := (h2 j hj).1; rwa [Nat.zero_add] at this
 refine ⟨?_, fun j hj => ?_, fun c hc => ?_⟩
 · apply List.ext_getElem (by rw [List.length_map]; exact h1)
   intro j hj1 hj2
   have hj : j < s.length := by simpa using hj1
   have := e1 j hj
   rw [zAe ch0 hj, zAe 0 hj2] at this
   rw [List.getElem_map]; exact this
 · have := (h2 j hj).2.1
   rw [Nat.zero_add] at this
   have hj2 : j < (zd t p).length := by omega
   unfold zBW at this
   rw [zCt _ _ 0 _ _ hj2, ← e1 j hj] at this
   omega
 · obtain ⟨j, hj, rfl⟩ := List.getElem_of_mem hc
   have := (h2 j hj).2.2
   rwa [zAe ch0 hj] at this
theorem zJY : ∀ (qs : List Rat) (acc : Rat), (zHu acc qs).2 = 0 → (zHu acc qs).1 = zAk acc qs
 | [], acc, _ => rfl
 | q :: r, acc, h => by
   rw [zHu] at h ⊢
   rw [zAk]
   split at h
   · rename_i hf
     rw [if_pos hf]
     exact zJY r _ h
   · cases h
theorem zD2 {l : List zAG} (h : zCm l = 0) : l.length ≤ 256 ∧ (∀ s ∈ l, zCq s = 0) ∧ zAk 0 (l.map zAU) = 1 ∧ ∀ q ∈ l.map zAU, 0 ≤ q ∧ D 2000 q := by
 unfold zCm at h
 split at h
 case isFalse h1 => exact absurd h h1
 rename_i h1
 split at h
 case isFalse => cases h
 rename_i h2
 unfold zJK at h1
 split at h1
 · cases h1
 rename_i h3
 have h4 : l.any zCf = false := by
   cases hb : l.any zCf
   · rfl
   · exact absurd ⟨h1, hb⟩ h3
 unfold zDi at h1 h2
 split at h1
 · cases h1
 rename_i h5
 split at h1
 case isFalse h6 => exact absurd h1 h6
 rename_i h6
 rw [if_neg h5, if_pos h6] at h2
 have h7 := zF1 h6
 refine ⟨by omega, h7, ?_, fun q hq => ?_⟩
 · have := zJY _ _ h1
   rw [this] at h2
   unfold zI1 at h2
   split at h2
   · cases h2
   · split at h2
     · rename_i e; exact e
     · cases h2
 · obtain ⟨s, hs, rfl⟩ := List.mem_map.1 hq
   have hn := (zKL (h7 s hs)).1 (by rw [List.any_eq_false] at h4; simpa using h4 s hs)
   refine ⟨hn, ?_⟩
   have hf := (IsQ.self (h7 s hs)).fit
   unfold zBp at hf
   rw [Bool.and_eq_true, decide_eq_true_eq, decide_eq_true_eq] at hf
   exact dig_D hf.1 hf.2
/-- the probabilities by information sets -/
def zGG (s : zAX) (x : Int) : List Rat := ((s.find? (fun c => decide (c.info = x))).map (fun c => c.odds.map zAU)).getD []
theorem oddsQ_at {s : zAX} (hn : (s.map TChoice.info).Nodup) {c : TChoice} (hc : c ∈ s) : zGG s c.info = c.odds.map zAU := by
 unfold zGG
 induction s with
 | nil => simp at hc
 | cons a r ih =>
   rw [List.map_cons, List.nodup_cons] at hn
   rw [List.find?_cons]
   rcases List.mem_cons.1 hc with e | q
   · subst e; simp
   · have : ¬ a.info = c.info := fun e => hn.1 (List.mem_map.2 ⟨c, q, e.symm⟩)
     rw [decide_eq_false this]
     exact ih hn.2 q
theorem OkS.at' {t : zT} {p : Int} {s : zAX} (h : OkS t p s) {x : Int} (hx : x ∈ zd t p) : ∃ c ∈ s, c.info = x ∧ zGG s x = c.odds.map zAU ∧ c.odds.length = zc t p x ∧ zCm c.odds = 0 := by
 have hn : (s.map TChoice.info).Nodup := by rw [h.infos]; exact zGK t p
 rw [← h.infos] at hx
 obtain ⟨c, hc, rfl⟩ := List.mem_map.1 hx
 obtain ⟨j, hj, e⟩ := List.getElem_of_mem hc
 have hw := h.wid j hj
 rw [zAe ch0 hj, e] at hw
 exact ⟨c, hc, rfl, oddsQ_at hn hc, hw, h.odds c hc⟩
theorem OkS.strat {t : zT} {p : Int} {s : zAX} (h : OkS t p s) : Strat t p (zGG s) 2000 := by
 refine ⟨fun x hx => ?_, fun x hx => ?_, fun x hx => ?_, fun x hx => ?_⟩ <;> obtain ⟨c, c1, c2, c3, c4, c5⟩ := h.at' hx <;> obtain ⟨o1, o2, o3, o4⟩ := zD2 c5 <;> rw [c3]
 · rw [List.length_map]; exact c4
 · exact o3
 · exact fun q hq => (o4 q hq).1
 · exact fun q hq => (o4 q hq).2
/-- with short texts -/
theorem OkS.strat12 {t : zT} {p : Int} {s : zAX} (h : OkS t p s) (hs : ∀ c ∈ s, ∀ r ∈ c.odds, r.length ≤ 12) : Strat t p (zGG s) 12 := by
 have g := h.strat
 refine ⟨g.len, g.sum, g.nn, fun x hx q hq => ?_⟩
 obtain ⟨c, c1, c2, c3, c4, c5⟩ := h.at' hx
 obtain ⟨o1, o2, o3, o4⟩ := zD2 c5
 rw [c3] at hq
 obtain ⟨s', hs', rfl⟩ := List.mem_map.1 hq
 exact (IsQ.self (o2 s' hs')).dig (hs c c1 s' hs') (by decide)
/-- recall.Plan -/
def planE (t : zT) (p : Int) : Int := if zCe t p ≠ 0 then zCe t p else if zCL t p = true then 0 else 10
def planR (t : zT) (p : Int) (s : zAX) : List zAG × Int := if planE t p ≠ 0 then ([], planE t p) else if zCW t p s ≠ 0 then ([], zCW t p s) else zA2 (zCK t p (zGG s))
def seqsR (t : zT) (p : Int) : List RSeq × Int := if planE t p ≠ 0 then ([], planE t p) else (zf t p, 0)
end Go.Ax.Rt
namespace Go.Proofs.YtnkealfaldjipaaGreatDoor
open Go.Ax Go.Ax.Bg Go.Ax.Rt Go.RowKit Go.Ax.Idx Go.Ax.Cd
attribute [local irreducible] Ax zAM QOp zM zp
set_option maxRecDepth 100000
set_option maxHeartbeats 4000000
def perfR (t : zT) (p : Int) : Bool × Int := if zCe t p ≠ 0 then (false, zCe t p) else (zCL t p, 0)
def infosR (t : zT) (p : Int) : (List Int × List Int) × Int := if zCe t p ≠ 0 then (([], []), zCe t p) else ((zd t p, zBW t p), 0)
end Go.Proofs.YtnkealfaldjipaaGreatDoor
namespace Go.Proofs.YtnkealfaldjipaaGreatDoor
open Go.Ax Go.Ax.Bg Go.Ax.Rt Go.RowKit Go.Ax.Idx Go.Ax.Cd
set_option maxRecDepth 100000
set_option maxHeartbeats 4000000
def cellsC (c : TChoice) : List AV := [.int .i64 c.info, .ro (.strs c.odds) 0 c.odds.length]
abbrev zAO (s : zAX) : Cells := zB4 ch0 2 cellsC s
structure ShortC (c : TChoice) : Prop where
 odds : c.odds.length ≤ 9223372036854775807
 each : ∀ s ∈ c.odds, s.length ≤ 9223372036854775807
theorem rdNode {H : Type} {enc : TypeId × Value → H} {W : World} : Rd enc Tryz.prog W 40 6 zBO ShortN :=
 (Rd.struct Tryz.underlying40 (by kernel_rfl) (RdF.cons rfl rfl (Rd.int Tryz.underlying3) (RdF.cons rfl rfl (Rd.int Tryz.underlying3) (RdF.cons rfl rfl (Rd.int Tryz.underlying3) (RdF.cons rfl rfl (Rd.ints Tryz.underlying38 (by kernel_rfl) Tryz.underlying3) (RdF.cons rfl rfl (Rd.strs Tryz.underlying35 (by kernel_rfl) Tryz.underlying27) (RdF.cons rfl rfl (Rd.str Tryz.underlying27) RdF.nil))))))).map
   (fun a => (⟨a.1, a.2.1, a.2.2.1, a.2.2.2.1, a.2.2.2.2.1, a.2.2.2.2.2.1⟩ : TNode)) (fun a h => ⟨h.2.2.2.1.1, h.2.2.2.2.1.1, h.2.2.2.2.1.2, h.2.2.2.2.2.1⟩) (fun a => rfl) (fun a i hi => AEq.rfl')
theorem zL4 {H : Type} {enc : TypeId × Value → H} {W : World} : Rd enc Tryz.prog W 67 2 cellsC ShortC :=
 (Rd.struct Tryz.underlying67 (by kernel_rfl) (RdF.cons rfl rfl (Rd.int Tryz.underlying3) (RdF.cons rfl rfl (Rd.strs Tryz.underlying35 (by kernel_rfl) Tryz.underlying27) RdF.nil))).map
   (fun a => (⟨a.1, a.2.1⟩ : TChoice)) (fun a h => ⟨h.2.1.1, h.2.1.2⟩) (fun a => rfl) (fun a i hi => AEq.rfl')
end Go.Proofs.YtnkealfaldjipaaGreatDoor
namespace Go.Proofs.YtnkealfaldjipaaGreatDoor
open Go.Ax Go.Ax.Bg Go.Ax.Rt Go.RowKit Go.Ax.Idx Go.Ax.Cd
attribute [local irreducible] Ax zAM QOp zM zp
set_option maxRecDepth 100000
set_option maxHeartbeats 4000000
structure ShortS (s : zAX) : Prop where
 len : s.length ≤ 9223372036854775807
 each : ∀ c ∈ s, ShortC c
theorem zF4 (t : zT) (p : Int) (s : zAX) (hlen : t.length ≤ 9223372036854775807) (hs : ShortS s) : zW Tryz.prog 38 [.ro (zZ t) 0 t.length, .int .i64 p, .ro (zAO s) 0 s.length] (.int .i64 (zCW t p s)) := by
 have cs := zON t p hlen
 have hsl := hs.len
 have hzl : (zBW t p).length = (zd t p).length := by unfold zBW; simp
 refine zM.value0 (zG (P := Tryz.prog) (fn := Tryz.f38) rfl rfl (by kernel_rfl) rfl (fun c hR hfix => ?_)) (fix := fun _ => False) (fun _ h => h) rfl rfl
 unfold zCW at hR
 generalize zd t p = I at *
 generalize zBW t p = Z at *
 refine rn0 ?_
 refine zF rfl rfl rfl cs ?_
 refine rn3 ?_
 refine zE rfl (fun h1 => ?_) (fun h1 => ?_)
 · rw [if_pos (by omega)] at hR
   refine rn2 ?_
   exact zI hR rfl rfl
 rw [if_neg (by omega)] at hR
 have hl : s.length = I.length := by omega
 refine rn3 ?_
 refine zj (ι := Nat) (fun i => [(0, .ro (zZ t) 0 t.length), (7, .ro (.ints .i64 I) 0 I.length), (8, .ro (.ints .i64 Z) 0 Z.length), (23, .ro (zAO s) 0 s.length), (24, .int .i64 (s.length : Nat)), (25, .int .i64 (i : Nat))]) (fun _ => [])
   (fun i => i ≤ s.length ∧ zFe I Z 0 s = zFe I Z i (s.drop i)) (fun i => s.length - i) 0 ⟨⟨rfl, rfl, rfl, rfl, rfl, rfl, trivial⟩, rfl, Nat.zero_le _, by rw [List.drop_zero]⟩ ?_
 rintro i ⟨hi, hE⟩
 refine rn4 ?_
 refine zE rfl (fun h => ?_) (fun h => ?_)
 · have hi' : i < s.length := by omega
   have hc := hs.each _ (zAz ch0 hi')
   rw [zLp hi'] at hE
   have co := zLI (s.getD i ch0).odds hc.odds hc.each
   have hol := hc.odds
   refine rn6 ?_
   refine zL 29 (.agg (cellsC (s.getD i ch0))) rfl (AEq.of_eq rfl) ?_
   generalize s.getD i ch0 = x at *
   obtain ⟨nf, od⟩ := x
   simp only at *
   refine zQ (c' := .box [.int .i64 nf, .ro (.strs od) 0 od.length]) rfl rfl rfl rfl rfl Nat.zero_lt_one rfl rfl (fun i' j' hi' hj' => ?_) ?_
   · rw [if_pos (Nat.lt_one_iff.1 hi')]; rfl
   have hiI : i < I.length := by omega
   have hiZ : i < Z.length := by omega
   refine rn0 ?_
   refine zm (by kernel_rfl) ?_
   by_cases g1 : nf = I.getD i 0
   case neg =>
     rw [if_pos (.inl g1)] at hE
     rw [hE] at hR
     refine z8 (fuel := 0) [0, 1, 2, 3, 4, 5, 6, 7, 8, 9, 10, 11, 12, 13, 14, 15, 16] [(0, .ro (zZ t) 0 t.length), (7, .ro (.ints .i64 I) 0 I.length), (8, .ro (.ints .i64 Z) 0 Z.length), (23, .ro (zAO s) 0 s.length), (24, .int .i64 (s.length : Nat)), (25, .int .i64 (i : Nat)), (9, .int .i64 (i : Nat)), (10, .ptr 0 0 0)] ⟨rfl, rfl, rfl, rfl, rfl, rfl, rfl, rfl, trivial⟩ (by kernel_rfl) (by decide) rfl rfl ?_
     refine zX rfl rfl (zP rfl rfl rfl rfl rfl rfl) ?_
     refine zX rfl rfl (zS rfl rfl rfl rfl rfl) ?_
     refine zX rfl rfl (zH rfl) ?_
     refine zX rfl rfl (zH rfl) ?_
     refine zX rfl rfl (ze rfl rfl rfl rfl (by first | (simp only [Nat.zero_add, Int.toNat_natCast, Int.toNat_zero]; exact rfl) | exact rfl) (by omega)) ?_
     refine zX rfl rfl (zA3 rfl rfl rfl) ?_
     refine zX rfl rfl (zGE rfl rfl) ?_
     rw [decide_eq_true g1]
     refine zX rfl rfl (zH rfl) ?_
     refine zGQ rfl rfl rfl rfl rfl ?_
     refine zGQ rfl rfl rfl rfl rfl ?_
     refine zGQ rfl rfl rfl rfl rfl ?_
     refine zGQ rfl rfl rfl rfl rfl ?_
     refine zGQ rfl rfl rfl rfl rfl ?_
     refine zGQ rfl rfl rfl rfl rfl ?_
     refine zGQ rfl rfl rfl rfl rfl ?_
     refine zGQ rfl rfl rfl rfl rfl ?_
     refine zX rfl rfl (zAW rfl rfl) ?_
     refine zAj ?_
     refine zh (by kernel_rfl) ?_
     refine rn6 ?_
     exact zI hR rfl rfl
   refine z8 (fuel := 0) [0, 1, 2, 3, 4, 5, 6, 7, 8, 9, 10, 11, 12, 13, 14, 15, 16] [(0, .ro (zZ t) 0 t.length), (7, .ro (.ints .i64 I) 0 I.length), (8, .ro (.ints .i64 Z) 0 Z.length), (23, .ro (zAO s) 0 s.length), (24, .int .i64 (s.length : Nat)), (25, .int .i64 (i : Nat)), (9, .int .i64 (i : Nat)), (10, .ptr 0 0 0)] ⟨rfl, rfl, rfl, rfl, rfl, rfl, rfl, rfl, trivial⟩ (by kernel_rfl) (by decide) rfl rfl ?_
   refine zX rfl rfl (zP rfl rfl rfl rfl rfl rfl) ?_
   refine zX rfl rfl (zS rfl rfl rfl rfl rfl) ?_
   refine zX rfl rfl (zH rfl) ?_
   refine zX rfl rfl (zH rfl) ?_
   refine zX rfl rfl (ze rfl rfl rfl rfl (by first | (simp only [Nat.zero_add, Int.toNat_natCast, Int.toNat_zero]; exact rfl) | exact rfl) (by omega)) ?_
   refine zX rfl rfl (zA3 rfl rfl rfl) ?_
   refine zX rfl rfl (zGE rfl rfl) ?_
   rw [decide_eq_false (fun q => q g1)]
   refine zX rfl rfl (zH rfl) ?_
   refine zIM rfl rfl rfl rfl (zP rfl rfl rfl rfl rfl rfl) ?_
   refine zIM rfl rfl rfl rfl (zS rfl rfl rfl rfl rfl) ?_
   refine zIM rfl rfl rfl rfl (zA8 rfl rfl rfl) ?_
   refine zIM rfl rfl rfl rfl (zH rfl) ?_
   refine zIM rfl rfl rfl rfl (zH rfl) ?_
   refine zIM rfl rfl rfl rfl (ze rfl rfl rfl rfl (by first | (simp only [Nat.zero_add, Int.toNat_natCast, Int.toNat_zero]; exact rfl) | exact rfl) (by omega)) ?_
   refine zIM rfl rfl rfl rfl (zA3 rfl rfl rfl) ?_
   refine zIM rfl rfl rfl rfl (zGE rfl rfl) ?_
   refine zX rfl rfl (zAW rfl rfl) ?_
   refine zAj ?_
   refine zh (by kernel_rfl) ?_
   repeat (refine zA ?_)
   refine zE rfl (fun g2 => ?_) (fun g2 => ?_)
   · rw [if_pos (.inr g2)] at hE
     rw [hE] at hR
     refine rn6 ?_
     exact zI hR rfl rfl
   rw [if_neg (by
     rintro (q | q)
     · exact q g1
     · exact g2 q)] at hE
   refine rn5 ?_
   refine zF rfl rfl rfl co ?_
   refine rn3 ?_
   refine zE rfl (fun g3 => ?_) (fun g3 => ?_)
   · rw [if_pos g3] at hE
     rw [hE] at hR
     refine rn6 ?_
     exact zI hR rfl rfl
   rw [if_neg g3] at hE
   repeat (first | refine zg ?_ | refine zl ?_)
   refine zA ?_
   refine zAt [] [some ⟨67, .box [.int .i64 nf, .ro (.strs od) 0 od.length]⟩] [(0, .ro (zZ t) 0 t.length), (7, .ro (.ints .i64 I) 0 I.length), (8, .ro (.ints .i64 Z) 0 Z.length), (23, .ro (zAO s) 0 s.length), (24, .int .i64 (s.length : Nat)), (25, .int .i64 (i : Nat))] rfl ⟨rfl, rfl, rfl, rfl, rfl, rfl, trivial⟩ (fun h hh => by rw [hfix] at hh; exact absurd hh id) (fun h o ho => by simp at ho) rfl ?_
   refine rn3 ?_
   exact zN ⟨i + 1, ⟨by omega, hE⟩, by omega, ⟨rfl, rfl, rfl, rfl, rfl, rfl, trivial⟩, rfl⟩
 · have hie : i = s.length := by omega
   subst hie
   rw [List.drop_length] at hE
   rw [hE] at hR
   refine rn5 ?_
   exact zI hR rfl rfl
end Go.Proofs.YtnkealfaldjipaaGreatDoor
namespace Go.Ax
variable [Pins]
open Go.RowKit
/-- Does operation j wait, at last, for operation i? -/
def needs (all : Array Oper) (idx : List Nat) : Nat → Nat → Nat → Bool
 | 0, _, _ => false
 | n + 1, j, i => match all[j]? with
   | some o => o.after.toList.any (fun e => Region.binds .any e && Nat.beq e.on i) || o.after.toList.any (fun e => Region.binds .any e && (idx.contains e.on && needs all idx n e.on i))
   | none => false
/-- May these operations run in any order, ahead of all others? -/
def okRunT (all : Array Oper) (listed : Array Bool) (idx : List Nat) (k0 : List Nat) : Bool :=
 (idx.all fun i => !listed.getD i true && (match all[i]? with
   | some o => (match o.dst with | some d => !k0.contains d | none => false) && o.after.toList.all (fun e => !Region.binds .any e || (Nat.blt e.on i && (idx.contains e.on || listed.getD e.on false)))
   | none => false)) &&
 ((List.range all.size).all fun j => idx.contains j || listed.getD j true || idx.all (fun i => needs all idx (idx.length + 1) j i)) &&
 (idx.all fun i => idx.all fun j => Nat.beq i j || !(match all[i]?, all[j]? with | some o, some o' => o.dst == o'.dst | _, _ => false))
section
variable {P : Program} {fn : Func} {c : Ctx} {fr : Fr} {H : zR} {k : List It}
/-- A constant of which nothing is said (a map that is nil). -/
theorem zHp {ind : Bool} {d : Option Nat} {ty : TypeId} {pos : String} {after : Array Edge} {g : Option (Nat × Bool)} {x : Operand} : QOp ind P fn c fr H ⟨d, .assign x, ty, pos, after, g⟩ .any :=
 fun _ a _ _ _ => ⟨a.eval x, .any _ _, fun _ _ => rfl⟩
end
end Go.Ax
namespace Go.Proofs.YtnkealfaldjipaaGreatDoor
open Go.Ax Go.Ax.Bg Go.Ax.Rt Go.RowKit Go.Ax.Idx Go.Ax.Cd
attribute [local irreducible] Ax zAM QOp zM zp
set_option maxRecDepth 100000
set_option maxHeartbeats 4000000
def keyC (c : TChoice) : AV := .int .i64 c.info
def valC (c : TChoice) : AV := .ro (qsC (c.odds.map zAU)) 0 (c.odds.map zAU).length
abbrev oddC (s : zAX) : Cells := .mp (s.map keyC) (s.map valC)
theorem keysC (s : zAX) : ∀ x ∈ s.map keyC, zC0 (.int .i64) x = true := by
 intro x hx
 obtain ⟨e, _, rfl⟩ := List.mem_map.1 hx
 rfl
theorem zP7 (s : zAX) (n : Nat) : zA0 n (oddC s) := by
 exact ⟨zBu (fun _ => rfl) s, zBu (fun _ => rfl) s⟩
theorem zMC (s : zAX) : z6 (oddC s) := ⟨zEJ (fun _ => rfl) s, zEJ (fun _ => rfl) s⟩
theorem odds_ok' (s : zAX) (hs : ShortS s) (hn : (s.map TChoice.info).Nodup) (hv : ∀ c ∈ s, c.odds.length ≤ 256 ∧ ∀ r ∈ c.odds, zCq r = 0) : zW Tryz.prog 132 [.ro (zAO s) 0 s.length] (.rom (s.map keyC) (s.map valC)) := by
 have hsl := hs.len
 refine zM.value (K := fun r H => r = .mp 0 ∧ H = [some ⟨209, oddC s⟩]) (zG (P := Tryz.prog) (fn := Tryz.f132) rfl rfl (by kernel_rfl) rfl (fun c hR hfix => ?_)) (fix := fun _ => False) (fun _ h => h) rfl ?_
 · refine rn0 ?_
   refine zB zHp ?_
   refine rn0 ?_
   refine zEW ?_
   refine rn3 ?_
   refine zj (ι := Nat) (fun i => [(3, .mp 0), (7, .ro (zAO s) 0 s.length), (8, .int .i64 (s.length : Nat)), (9, .int .i64 (i : Nat))]) (fun i => [some ⟨209, oddC (s.take i)⟩])
     (fun i => i ≤ s.length) (fun i => s.length - i) 0 ⟨⟨rfl, rfl, rfl, rfl, trivial⟩, rfl, Nat.zero_le _⟩ ?_
   intro i hi
   refine rn4 ?_
   refine zE rfl (fun h => ?_) (fun h => ?_)
   · have hi' : i < s.length := by omega
     have hm := zAz ch0 hi'
     have hc := hs.each _ hm
     obtain ⟨v1, v2⟩ := hv _ hm
     have cin := in_ok' (s.getD i ch0).odds (by omega) (fun r hr => ⟨hc.each r hr, v2 r hr⟩)
     have hol := hc.odds
     have htk : s.take (i + 1) = s.take i ++ [s.getD i ch0] := by rw [List.take_succ_eq_append_getElem hi', zAe ch0 hi']
     have hnew : AV.int .i64 (s.getD i ch0).info ∉ (s.take i).map keyC := by
       intro hmem
       obtain ⟨c, hc1, hc2⟩ := List.mem_map.1 hmem
       injection hc2 with e1 e2
       obtain ⟨j, hj, rfl⟩ := List.getElem_of_mem hc1
       rw [List.length_take] at hj
       rw [List.getElem_take] at e2
       have hp := List.pairwise_iff_getElem.1 hn j i (by simpa using (show j < s.length by omega)) (by simpa using hi') (by omega)
       rw [List.getElem_map, List.getElem_map] at hp
       rw [zAe ch0 hi'] at e2
       exact hp e2
     refine rn6 ?_
     refine zL 12 (.agg (cellsC (s.getD i ch0))) rfl (AEq.of_eq rfl) ?_
     generalize s.getD i ch0 = x at *
     obtain ⟨nf, od⟩ := x
     simp only at *
     refine zQ (c' := .box [.int .i64 nf, .ro (.strs od) 0 od.length]) rfl rfl rfl rfl rfl Nat.zero_lt_one rfl rfl (fun i' j' hi' hj' => ?_) ?_
     · rw [if_pos (Nat.lt_one_iff.1 hi')]; rfl
     refine rn0 ?_
     refine zm (by kernel_rfl) ?_
     refine z8 (fuel := 1) [0, 1, 2, 3, 4, 5] [(3, .mp 0), (5, .ptr 1 0 0), (7, .ro (zAO s) 0 s.length), (8, .int .i64 (s.length : Nat)), (9, .int .i64 (i : Nat))] ⟨rfl, rfl, rfl, rfl, rfl, trivial⟩ (by kernel_rfl) (by decide) rfl rfl ?_
     refine zX rfl rfl (zH rfl) ?_
     refine zX rfl rfl (zP rfl rfl rfl rfl rfl rfl) ?_
     refine zX rfl rfl (zS rfl rfl rfl rfl rfl) ?_
     refine zX rfl rfl (zP rfl rfl rfl rfl rfl rfl) ?_
     refine zX rfl rfl (zS rfl rfl rfl rfl rfl) ?_
     refine zCV rfl rfl rfl rfl rfl cin ?_
     refine zAj ?_
     refine zD (is := [6]) (by kernel_rfl) (by simp) rfl ⟨fun o ho => ?_, trivial⟩
     all_goals (cases ho)
     refine zCS rfl (.int rfl) rfl rfl rfl rfl rfl (keysC _) hnew ?_
     refine rn1 ?_
     refine zh (by kernel_rfl) ?_
     repeat (refine zg ?_)
     refine zA ?_
     refine zCl [some ⟨209, oddC (s.take (i + 1))⟩, some ⟨67, .box [.int .i64 nf, .ro (.strs od) 0 od.length]⟩] (by rw [htk]; unfold oddC; rw [List.map_append, List.map_append]; rfl) ?_
     refine zAt [some ⟨209, oddC (s.take (i + 1))⟩] [some ⟨67, .box [.int .i64 nf, .ro (.strs od) 0 od.length]⟩] [(3, .mp 0), (7, .ro (zAO s) 0 s.length), (8, .int .i64 (s.length : Nat)), (9, .int .i64 (i : Nat))] rfl ⟨rfl, rfl, rfl, rfl, trivial⟩ (fun h hh => by rw [hfix] at hh; exact absurd hh id) (zCi (zP7 _ _)) rfl ?_
     refine rn3 ?_
     exact zN ⟨i + 1, by omega, by omega, ⟨rfl, rfl, rfl, rfl, trivial⟩, rfl⟩
   · have hie : i = s.length := by omega
     subst hie
     rw [List.take_length]
     refine rn5 ?_
     exact zI hR rfl ⟨rfl, rfl⟩
 · rintro r H ⟨rfl, rfl⟩
   exact ⟨rfl, trivial, fun h o ho => zFm (zMC s) h o ho⟩
end Go.Proofs.YtnkealfaldjipaaGreatDoor
namespace Go.Proofs.YtnkealfaldjipaaGreatDoor
open Go.Ax Go.Ax.Bg Go.Ax.Rt Go.RowKit Go.Ax.Idx Go.Ax.Cd
attribute [local irreducible] Ax zAM QOp zM zp
set_option maxRecDepth 100000
set_option maxHeartbeats 4000000
theorem zKX {s : zAX} {c : TChoice} (hc : c ∈ s) : ∃ j : Nat, (s.map keyC)[j]? = some (.int .i64 c.info) ∧ (s.map valC)[j]? = some (.ro (qsC (c.odds.map zAU)) 0 (c.odds.map zAU).length) := by
 obtain ⟨j, hj⟩ := List.getElem?_of_mem hc
 exact ⟨j, by rw [List.getElem?_map, hj]; rfl, by rw [List.getElem?_map, hj]; rfl⟩
theorem zL7 (l : List Rat) (n : Nat) : zA0 n (qsC l) := by
 intro i j _ hj
 have hj : j < 3 := hj
 match j, hj with
 | 0, _ => rfl
 | 1, _ => rfl
 | 2, _ => rfl
end Go.Proofs.YtnkealfaldjipaaGreatDoor
namespace Go.Ax.Rt
open Go.Ax.Bg
def zBz (o : Option (List Rat)) (q : Option Rat) (k : Nat) : Option Rat := some (zLR o (q.getD 0) k)
def zCk (t : zT) (o : z7) : Nat → List (Option Rat)
 | 0 => (List.replicate t.length none).set 0 (some 1)
 | i + 1 => zAl (zBz (o i) ((zCk t o i).getD i none)) (t.getD i node0).next 0 (zCk t o i)
theorem zDG (t : zT) (o : z7) : ∀ i, (zCk t o i).length = t.length
 | 0 => by simp [zCk]
 | i + 1 => by rw [zCk, zCs, zDG t o i]
theorem Valid.known {t : zT} (h : Valid t) {i : Nat} (hi : i < t.length) : i = 0 ∨ ∃ a, a < i ∧ kid t a i := by
 by_cases h0 : i = 0
 · exact .inl h0
 · obtain ⟨a, ha, hk⟩ := h.has hi h0
   exact .inr ⟨a, (h.kid_lt ha hk).1, hk⟩
theorem zH9 {t : zT} (h : Valid t) (o : z7) : ∀ i, i ≤ t.length → ∀ j, j < t.length → (j = 0 ∨ ∃ a, a < i ∧ kid t a j) → (zCk t o i).getD j none = some ((zU t o).getD j 0)
 | 0, _, j, hj, hk => by
   rcases hk with rfl | ⟨a, ha, _⟩
   · rw [zCR h, zCk, Go.Ax.Dt.getD_set, if_pos ⟨rfl, by simpa using hj⟩]
   · omega
 | i + 1, hi, j, hj, hk => by
   have hi' : i < t.length := by omega
   have ih := zH9 h o i (by omega)
   rw [zCk]
   by_cases hki : kid t i j
   · obtain ⟨m, hm, rfl⟩ := zJr h hi' hki
     rw [zLB _ _ _ _ _ _ hm (h.kids_nodup hi') (fun c hc => by rw [zDG]; have := h.behind hi' c hc; omega), Nat.zero_add, zD1 h o hi' hm]
     unfold zBz
     rw [ih i hi' (h.known hi')]
     rfl
   · have hne : ∀ c ∈ (t.getD i node0).next, c.toNat ≠ j := fun c hc e => by
       have := h.behind hi' c hc
       apply hki
       show (j : Int) ∈ _
       rw [← e, Int.toNat_of_nonneg (by omega)]
       exact hc
     rw [zBV _ _ _ _ _ hne]
     refine ih j hj ?_
     rcases hk with rfl | ⟨a, ha, hka⟩
     · exact .inl rfl
     · refine .inr ⟨a, ?_, hka⟩
       have : a ≠ i := fun e => hki (e ▸ hka)
       omega
theorem zNW {t : zT} (h : Valid t) (o : z7) : zCk t o t.length = (zU t o).map some := by
 have hl : (zU t o).length = t.length := zCI t o _
 apply List.ext_getElem
 · rw [zDG, List.length_map, hl]
 · intro j h1 h2
   rw [zDG] at h1
   have := zH9 h o t.length (Nat.le_refl _) j h1 (by
     rcases h.known h1 with e | ⟨a, ha, hk⟩
     · exact .inl e
     · exact .inr ⟨a, by omega, hk⟩)
   rw [List.getElem_map]
   rw [List.getD_eq_getElem?_getD, List.getElem?_eq_getElem (by rw [zDG]; exact h1), List.getD_eq_getElem?_getD, List.getElem?_eq_getElem (by omega)] at this
   exact this
end Go.Ax.Rt
namespace Go.Ax
open Go
variable [Pins]
theorem zEX {P : Program} (w : World) {t e : TypeId} (a : Option Addr) (n c : Nat) (h : P.underlying t = some (.slice e)) : (binOp .neq t (.slice a n c) (.slice none 0 0)).run P w = .ok (.bool (!a.isNone)) w := by
 have _pin := (inferInstance : Pins)
 have h1 : ∀ d : Nat, (Op.equalIn (d + 1) t (.slice a n c) (.slice none 0 0)).run P w = .ok a.isNone w := fun d => by
   cases a with
   | none => simp [Op.equalIn, run_underlying h]
   | some a => simp [Op.equalIn, run_underlying h]
 simp only [binOp]
 simp [Op.equal, Op.maxDepth, h1 9999]
section
variable {P : Program} {fn : Func} {c : Ctx} {fr : Fr} {H : zR} {k : List It} {ind : Bool} {d : Option Nat} {ty : TypeId} {pos : String} {after : Array Edge} {g : Option (Nat × Bool)}
theorem zMW {x y : Operand} {t t' e : TypeId} (ht : P.underlying t = some (.slice e)) (hx : ev fr x = some .nil) (hy : ev fr y = some .nil) : QOp ind P fn c fr H ⟨d, .binOp .neq t x y t', ty, pos, after, g⟩ (.bool false) := by
 intro w a σ S hr
 have h1 := hr.evAt hx
 have h2 := hr.evAt hy
 generalize hz : a.eval x = z at h1
 generalize hzy : a.eval y = zy at h2
 cases h1
 cases h2
 refine ⟨_, .bool _ _, fun w' _ => ?_⟩
 have hb := zEX (P := P) w' none 0 0 ht
 simp only [execOp, hz, hzy, Sem.run_bind, zCD, Result.andThen_ok, hb]
 rfl
theorem q_neqnil {x y : Operand} {t t' e : TypeId} {cl : Cells} {i n : Nat} (ht : P.underlying t = some (.slice e)) (hx : ev fr x = some (.ro cl i n)) (hy : ev fr y = some .nil) (hn : 0 < n) : QOp ind P fn c fr H ⟨d, .binOp .neq t x y t', ty, pos, after, g⟩ (.bool true) := by
 intro w a σ S hr
 have h1 := hr.evAt hx
 have h2 := hr.evAt hy
 generalize hz : a.eval x = z at h1
 generalize hzy : a.eval y = zy at h2
 cases h2
 cases h1 with
 | ro0 _ _ _ ad cap => exact absurd hn (Nat.lt_irrefl _)
 | ro _ _ _ _ b o cap val hS hlen hc hv h1' =>
   refine ⟨_, .bool _ _, fun w' _ => ?_⟩
   have hb := zEX (P := P) w' (some ⟨b, o, none⟩) n cap ht
   simp only [execOp, hz, hzy, Sem.run_bind, zCD, Result.andThen_ok, hb]
   rfl
end
end Go.Ax
namespace Go.Proofs.YtnkealfaldjipaaGreatDoor
open Go.Ax Go.Ax.Bg Go.Ax.Rt Go.RowKit Go.Ax.Idx Go.Ax.Cd
attribute [local irreducible] Ax zAM QOp zM zp
set_option maxRecDepth 100000
set_option maxHeartbeats 4000000
def lA (o : Option (List Rat)) : AV := match o with
 | none => .nil
 | some l => .ro (qsC l) 0 l.length
structure OddsG (t : zT) (o : z7) : Prop where
 chance : ∀ i, i < t.length → (t.getD i node0).kind = 1 → o i = some ((t.getD i node0).odds.map zAU)
 ends : ∀ i, i < t.length → (t.getD i node0).kind = 0 → o i = none
 some : ∀ i, i < t.length → ∀ l, o i = some l → (t.getD i node0).next.length ≤ l.length ∧ 0 < l.length ∧ l.length ≤ 1000000 ∧ ∀ q ∈ l, Sz 100000 q
 reach : ∀ j, j < t.length → Sz 100000 ((zU t o).getD j 0)
theorem zME {t : zT} (hv : Valid t) {i : Nat} (hi : i < t.length) (hk : (t.getD i node0).kind = 1) : zCm (t.getD i node0).odds = 0 := by
 have h := hv.nodes i hi
 unfold zDm at h
 rw [if_neg (by omega), if_pos hk] at h
 split at h
 · cases h
 split at h
 · rename_i h1; exact absurd h h1
 split at h
 · cases h
 exact h
theorem zNi {t : zT} (hv : Valid t) {i : Nat} (hi : i < t.length) : (t.getD i node0).kind = 0 ∨ (t.getD i node0).kind = 1 ∨ (t.getD i node0).kind = 2 := by
 rcases hv.child hi with h | h
 · exact .inl h.1
 · exact .inr h.1
theorem zs_map (l : List Rat) : CEq (zsC (l.map some)) (qsC l) := by
 refine ⟨by simp [zB4, Cells.len], rfl, fun i j hi hj => ?_⟩
 have hi : i < l.length := by simpa [zB4, Cells.len] using hi
 show (zAB (l.getD i 0)).getD j .any = (zCA ((l.map some).getD i none)).getD j .any
 rw [zCt some l 0 none i hi]
 rfl
theorem zMB (l : List (Option Rat)) (n : Nat) : zA0 n (zsC l) := by
 intro i j _ hj
 show zCv n ((zCA (l.getD i none)).getD j .any) = true
 have hj : j < 3 := hj
 cases l.getD i none with
 | none => match j, hj with
   | 0, _ => rfl
   | 1, _ => rfl
   | 2, _ => rfl
 | some q => match j, hj with
   | 0, _ => rfl
   | 1, _ => rfl
   | 2, _ => rfl
theorem zMe (t : zT) (o : z7) (g : FuncId) (caps : List AV) (hcp : noRef.noRefs caps = true) (hcb : zBl 1 caps = true) (hT : ShortT t) (hv : Valid t) (hG : OddsG t o)
   (hg : ∀ i, i < t.length → (t.getD i node0).kind = 2 → zW Tryz.prog g ([.agg (zBO (t.getD i node0))] ++ caps) (lA (o i))) :
   zW Tryz.prog 133 [.ro (zZ t) 0 t.length, .fn g caps] (.ro (qsC (zU t o)) 0 t.length) := by
 have hlen := hT.len
 have h120 := hv.le
 have hne := hv.ne
 have hrep : (List.replicate t.length (none : Option Rat)).length = t.length := List.length_replicate
 refine zM.value0 (zG (P := Tryz.prog) (fn := Tryz.f133) rfl rfl (by kernel_rfl) rfl (fun c hR hfix => ?_)) (fix := fun _ => False) (fun _ h => h) (by simp [noRef.noRefs, noRef, hcp]) rfl
 refine rn3 ?_
 refine zCB rfl rfl rfl rfl rfl rfl rfl rfl (by show (0 : Int) ≤ _ ∧ _ ≤ _ ∧ (56 : Int) * _ ≤ _ ∧ _; omega) ?_
 refine rn0 ?_
 refine zF rfl rfl rfl zM3 ?_
 unfold qA
 refine zAy [some ⟨122, zsC (List.replicate t.length none)⟩] (zAL.eqv (zOk _) zAL.nil) ?_
 have hz0 : 0 < (zsC (List.replicate t.length none)).len := by show 0 < (List.replicate t.length (none : Option Rat)).length; omega
 repeat (refine zB (za rfl rfl rfl rfl rfl (by first | (simp only [Nat.zero_add, Int.toNat_natCast, Int.toNat_zero]; exact rfl) | exact rfl) (by omega)) ?_)
 refine zQ (c' := zsC ((List.replicate t.length none).set 0 (some 1))) rfl rfl rfl rfl rfl hz0 (by show (List.set _ 0 _).length = (List.replicate _ _).length; simp) rfl (fun i' j' hi' hj' => zEU none 3 zCA _ 0 (some 1) hz0 i' j' hi' hj') ?_
 refine rn3 ?_
 refine zj (ι := Nat) (fun i => [(0, .ro (zZ t) 0 t.length), (1, .fn g caps), (5, .sl 0 0 t.length), (17, .ro (zZ t) 0 t.length), (18, .int .i64 (t.length : Nat)), (19, .int .i64 (i : Nat))]) (fun i => [some ⟨122, zsC (zCk t o i)⟩])
   (fun i => i ≤ t.length) (fun i => t.length - i) 0 ⟨⟨rfl, rfl, rfl, rfl, rfl, rfl, trivial⟩, rfl, Nat.zero_le _⟩ ?_
 intro i hi
 refine rn4 ?_
 refine zE rfl (fun h => ?_) (fun h => ?_)
 · have hi' : i < t.length := by omega
   have hsn := hT.node _ (zAz node0 hi')
   have hbh := hv.behind hi'
   have hWl := zDG t o i
   have hat := zH9 hv o i hi i hi' (hv.known hi')
   have hri := hG.reach i hi'
   have hk3 := zNi hv hi'
   have hch := fun hk => zME hv hi' hk
   have hgc := hG.chance i hi'
   have hge := hG.ends i hi'
   have hgs := hG.some i hi'
   have hgg := hg i hi'
   have hnx : zCk t o (i + 1) = zAl (zBz (o i) ((zCk t o i).getD i none)) (t.getD i node0).next 0 (zCk t o i) := rfl
   generalize hW2 : zCk t o (i + 1) = W2 at *
   generalize zCk t o i = W at *
   generalize hoi : o i = oi at *
   generalize (zU t o).getD i 0 = ri at *
   rw [hat] at hnx
   obtain ⟨s1, s2, s3, s4⟩ := hsn
   refine rn6 ?_
   refine zL 23 (.agg (zBO (t.getD i node0))) rfl (AEq.of_eq rfl) ?_
   generalize hn : t.getD i node0 = n at *
   obtain ⟨kd, pl, nf, nx, od, py⟩ := n
   simp only at *
   refine zQ (c' := .box [.int .i64 kd, .int .i64 pl, .int .i64 nf, .ro (.ints .i64 nx) 0 nx.length, .ro (.strs od) 0 od.length, .str py]) rfl rfl rfl rfl rfl Nat.zero_lt_one rfl rfl (fun i' j' hi' hj' => ?_) ?_
   · rw [if_pos (Nat.lt_one_iff.1 hi')]; rfl
   refine zAZ [some ⟨122, zsC (W)⟩, some ⟨40, .box [.int .i64 kd, .int .i64 pl, .int .i64 nf, .ro (.ints .i64 nx) 0 nx.length, .ro (.strs od) 0 od.length, .str py]⟩] rfl ?_
   refine zL 7 (.ptr 1 0 0) rfl (AEq.of_eq rfl) ?_
   apply zAh (H := [some ⟨122, zsC (W)⟩, some ⟨40, .box [.int .i64 kd, .int .i64 pl, .int .i64 nf, .ro (.ints .i64 nx) 0 nx.length, .ro (.strs od) 0 od.length, .str py]⟩]) [(0, .ro (zZ t) 0 t.length), (1, .fn g caps), (5, .sl 0 0 t.length), (6, .int .i64 (i : Nat)), (7, .ptr 1 0 0), (8, lA oi), (17, .ro (zZ t) 0 t.length), (18, .int .i64 (t.length : Nat)), (19, .int .i64 (i : Nat)), (37, .ro (.ints .i64 nx) 0 nx.length), (38, .int .i64 (nx.length : Nat)), (39, .int .i64 0)]
   · intro fin
     refine rn5 ?_
     rcases hk3 with hk | hk | hk
     · have := hge hk
       subst this
       subst hk
       refine rn5 ?_
       exact fin _ ⟨rfl, rfl, rfl, rfl, rfl, rfl, rfl, rfl, rfl, rfl, rfl, rfl, trivial⟩
     · have h1 := hgc hk
       have h2 := hch hk
       subst hk
       subst h1
       obtain ⟨v1, v2, _, _⟩ := zD2 h2
       have cin := in_ok' od (by omega) (fun r hr => ⟨s3 r hr, v2 r hr⟩)
       refine rn5 ?_
       refine zF rfl rfl rfl cin ?_
       refine rn5 ?_
       exact fin _ ⟨rfl, rfl, rfl, rfl, rfl, rfl, rfl, rfl, rfl, rfl, rfl, rfl, trivial⟩
     · have h1 := hgg hk
       subst hk
       refine rn6 ?_
       refine zL 34 (.agg (zBO ⟨2, pl, nf, nx, od, py⟩)) rfl (AEq.of_eq rfl) ?_
       refine zF rfl rfl rfl h1 ?_
       refine rn5 ?_
       exact fin _ ⟨rfl, rfl, rfl, rfl, rfl, rfl, rfl, rfl, rfl, rfl, rfl, rfl, trivial⟩
   cases oi with
   | none =>
     refine zj (ι := Nat) (fun j => [(0, .ro (zZ t) 0 t.length), (1, .fn g caps), (5, .sl 0 0 t.length), (6, .int .i64 (i : Nat)), (7, .ptr 1 0 0), (8, .nil), (17, .ro (zZ t) 0 t.length), (18, .int .i64 (t.length : Nat)), (19, .int .i64 (i : Nat)), (37, .ro (.ints .i64 nx) 0 nx.length), (38, .int .i64 (nx.length : Nat)), (39, .int .i64 (j : Nat))]) (fun j => [some ⟨122, zsC (zAl (zBz none (some ri)) (nx.take j) 0 W)⟩, some ⟨40, .box [.int .i64 kd, .int .i64 pl, .int .i64 nf, .ro (.ints .i64 nx) 0 nx.length, .ro (.strs od) 0 od.length, .str py]⟩])
       (fun j => j ≤ nx.length) (fun j => nx.length - j) 0 ⟨⟨rfl, rfl, rfl, rfl, rfl, rfl, rfl, rfl, rfl, rfl, rfl, rfl, trivial⟩, rfl, Nat.zero_le _⟩ ?_
     intro j hj
     refine rn4 ?_
     refine zE rfl (fun h5 => ?_) (fun h5 => ?_)
     · have hj' : j < nx.length := by omega
       obtain ⟨b1, b2⟩ := hbh _ (zAr 0 hj')
       have hAl : (zAl (zBz none (some ri)) (nx.take j) 0 W).length = t.length := by rw [zCs]; exact hWl
       have hAi : (zAl (zBz none (some ri)) (nx.take j) 0 W).getD i none = some ri := (zBV _ none _ _ _ (fun c hc => by have := hbh c (List.mem_of_mem_take hc); omega)).trans hat
       have hst : zAl (zBz none (some ri)) (nx.take (j + 1)) 0 W = (zAl (zBz none (some ri)) (nx.take j) 0 W).set (nx.getD j 0).toNat (zBz none (some ri) j) := by
         rw [zCh hj', zDI, List.length_take, Nat.min_eq_left hj, Nat.zero_add]
       generalize hA2 : zAl (zBz none (some ri)) (nx.take (j + 1)) 0 W = A2 at *
       generalize zAl (zBz none (some ri)) (nx.take j) 0 W = A at *
       obtain ⟨x, hx⟩ := Int.eq_ofNat_of_zero_le (show 0 ≤ nx.getD j 0 by omega)
       have hxn : (nx.getD j 0).toNat = x := by rw [hx, Int.toNat_natCast]
       rw [hx] at b1 b2
       rw [hxn] at hst
       have hxl : x < A.length := by omega
       have gi : i < (zsC A).len := by show i < A.length; omega
       have gx : x < (zsC A).len := hxl
       have hA1i : (A.set x (some ri)).getD i none = some ri := by rw [Go.Ax.Dt.getD_set, if_neg (by omega)]; exact hAi
       have gi1 : i < (zsC (A.set x (some ri))).len := by show i < (A.set x (some ri)).length; rw [List.length_set]; omega
       have gx1 : x < (zsC (A.set x (some ri))).len := by show x < (A.set x (some ri)).length; rw [List.length_set]; omega
       repeat (first | refine zA ?_ | refine zY ?_ | refine zz ?_ | refine zl ?_)
       refine zJ rfl ?_
       repeat (first | refine zB (zH rfl) ?_ | refine zB (zK rfl) ?_ | refine zB (zA3 rfl rfl rfl) ?_ | refine zC ?_ | refine zA ?_ | refine zY ?_ | refine zB (ze rfl rfl rfl rfl (by first | (simp only [Nat.zero_add, Int.toNat_natCast, Int.toNat_zero]; exact rfl) | exact rfl) (by omega)) ?_)
       refine zAc 10 (.int .i64 (x : Nat)) rfl (AEq.of_eq (by rw [hx])) ?_
       refine rn6 ?_
       refine zL 49 (.agg (zAB ri)) rfl (AEq.of_eq (show AV.agg [(zCA (A.getD i none)).getD 0 .any, (zCA (A.getD i none)).getD 1 .any, (zCA (A.getD i none)).getD 2 .any] = _ by rw [hAi]; rfl)) ?_
       refine zQ (c' := zsC (A.set x (some ri))) rfl rfl rfl rfl rfl hxl (by show (A.set x (some ri)).length = A.length; simp) rfl (fun i' j' hi' hj' => zEU none 3 zCA A x (some ri) hxl i' j' hi' hj') ?_
       refine rn0 ?_
       refine zB (zMW rfl rfl rfl) ?_
       refine rn5 ?_
       exact zN ⟨j + 1, by omega, by omega, ⟨rfl, rfl, rfl, rfl, rfl, rfl, rfl, rfl, rfl, rfl, rfl, rfl, trivial⟩, by rw [hA2, hst]; rfl⟩
     · have hje : j = nx.length := by omega
       subst hje
       rw [List.take_length, ← hnx]
       repeat (first | refine zg ?_ | refine zAs ?_ | refine zq ?_ | refine zr ?_ | refine zAF ?_)
       refine zA ?_
       refine zAt [some ⟨122, zsC (W2)⟩] [some ⟨40, .box [.int .i64 kd, .int .i64 pl, .int .i64 nf, .ro (.ints .i64 nx) 0 nx.length, .ro (.strs od) 0 od.length, .str py]⟩] [(0, .ro (zZ t) 0 t.length), (1, .fn g caps), (5, .sl 0 0 t.length), (17, .ro (zZ t) 0 t.length), (18, .int .i64 (t.length : Nat)), (19, .int .i64 (i : Nat))] rfl ⟨rfl, rfl, rfl, rfl, rfl, rfl, trivial⟩ (fun h hh => by rw [hfix] at hh; exact absurd hh id) (zCi (zMB _ _)) (by show (true && (zBl 1 caps && _)) = true; rw [hcb]; rfl) ?_
       refine rn3 ?_
       exact zN ⟨i + 1, by omega, by omega, ⟨rfl, rfl, rfl, rfl, rfl, rfl, trivial⟩, by rw [hW2]⟩
   | some l =>
     obtain ⟨l1, l2, l3, l4⟩ := hgs l rfl
     refine zj (ι := Nat) (fun j => [(0, .ro (zZ t) 0 t.length), (1, .fn g caps), (5, .sl 0 0 t.length), (6, .int .i64 (i : Nat)), (7, .ptr 1 0 0), (8, .ro (qsC l) 0 l.length), (17, .ro (zZ t) 0 t.length), (18, .int .i64 (t.length : Nat)), (19, .int .i64 (i : Nat)), (37, .ro (.ints .i64 nx) 0 nx.length), (38, .int .i64 (nx.length : Nat)), (39, .int .i64 (j : Nat))]) (fun j => [some ⟨122, zsC (zAl (zBz (some l) (some ri)) (nx.take j) 0 W)⟩, some ⟨40, .box [.int .i64 kd, .int .i64 pl, .int .i64 nf, .ro (.ints .i64 nx) 0 nx.length, .ro (.strs od) 0 od.length, .str py]⟩])
       (fun j => j ≤ nx.length) (fun j => nx.length - j) 0 ⟨⟨rfl, rfl, rfl, rfl, rfl, rfl, rfl, rfl, rfl, rfl, rfl, rfl, trivial⟩, rfl, Nat.zero_le _⟩ ?_
     intro j hj
     refine rn4 ?_
     refine zE rfl (fun h5 => ?_) (fun h5 => ?_)
     · have hj' : j < nx.length := by omega
       obtain ⟨b1, b2⟩ := hbh _ (zAr 0 hj')
       have hAl : (zAl (zBz (some l) (some ri)) (nx.take j) 0 W).length = t.length := by rw [zCs]; exact hWl
       have hAi : (zAl (zBz (some l) (some ri)) (nx.take j) 0 W).getD i none = some ri := (zBV _ none _ _ _ (fun c hc => by have := hbh c (List.mem_of_mem_take hc); omega)).trans hat
       have hst : zAl (zBz (some l) (some ri)) (nx.take (j + 1)) 0 W = (zAl (zBz (some l) (some ri)) (nx.take j) 0 W).set (nx.getD j 0).toNat (zBz (some l) (some ri) j) := by
         rw [zCh hj', zDI, List.length_take, Nat.min_eq_left hj, Nat.zero_add]
       generalize hA2 : zAl (zBz (some l) (some ri)) (nx.take (j + 1)) 0 W = A2 at *
       generalize zAl (zBz (some l) (some ri)) (nx.take j) 0 W = A at *
       obtain ⟨x, hx⟩ := Int.eq_ofNat_of_zero_le (show 0 ≤ nx.getD j 0 by omega)
       have hxn : (nx.getD j 0).toNat = x := by rw [hx, Int.toNat_natCast]
       rw [hx] at b1 b2
       rw [hxn] at hst
       have hxl : x < A.length := by omega
       have gi : i < (zsC A).len := by show i < A.length; omega
       have gx : x < (zsC A).len := hxl
       have hA1i : (A.set x (some ri)).getD i none = some ri := by rw [Go.Ax.Dt.getD_set, if_neg (by omega)]; exact hAi
       have gi1 : i < (zsC (A.set x (some ri))).len := by show i < (A.set x (some ri)).length; rw [List.length_set]; omega
       have gx1 : x < (zsC (A.set x (some ri))).len := by show x < (A.set x (some ri)).length; rw [List.length_set]; omega
       repeat (first | refine zA ?_ | refine zY ?_ | refine zz ?_ | refine zl ?_)
       refine zJ rfl ?_
       repeat (first | refine zB (zH rfl) ?_ | refine zB (zK rfl) ?_ | refine zB (zA3 rfl rfl rfl) ?_ | refine zC ?_ | refine zA ?_ | refine zY ?_ | refine zB (ze rfl rfl rfl rfl (by first | (simp only [Nat.zero_add, Int.toNat_natCast, Int.toNat_zero]; exact rfl) | exact rfl) (by omega)) ?_)
       refine zAc 10 (.int .i64 (x : Nat)) rfl (AEq.of_eq (by rw [hx])) ?_
       refine rn6 ?_
       refine zL 49 (.agg (zAB ri)) rfl (AEq.of_eq (show AV.agg [(zCA (A.getD i none)).getD 0 .any, (zCA (A.getD i none)).getD 1 .any, (zCA (A.getD i none)).getD 2 .any] = _ by rw [hAi]; rfl)) ?_
       refine zQ (c' := zsC (A.set x (some ri))) rfl rfl rfl rfl rfl hxl (by show (A.set x (some ri)).length = A.length; simp) rfl (fun i' j' hi' hj' => zEU none 3 zCA A x (some ri) hxl i' j' hi' hj') ?_
       refine rn0 ?_
       refine zB (q_neqnil rfl rfl rfl l2) ?_
       refine rn5 ?_
       have hjl : j < l.length := by omega
       have cmul : zW Tryz.prog 105 [.agg [(zCA ((A.set x (some ri)).getD i none)).getD 0 .any, (zCA ((A.set x (some ri)).getD i none)).getD 1 .any, (zCA ((A.set x (some ri)).getD i none)).getD 2 .any], qA (l.getD j 0)] (qA (ri * l.getD j 0)) := by
         rw [hA1i]
         exact zLW ri (l.getD j 0) hri (l4 _ (zAr 0 hjl))
       refine zm (by kernel_rfl) ?_
       refine z8 (fuel := 1) [0, 1, 2, 3, 4, 5, 6, 7, 8, 9, 10, 11] [(0, .ro (zZ t) 0 t.length), (1, .fn g caps), (5, .sl 0 0 t.length), (6, .int .i64 (i : Nat)), (7, .ptr 1 0 0), (8, .ro (qsC l) 0 l.length), (17, .ro (zZ t) 0 t.length), (18, .int .i64 (t.length : Nat)), (19, .int .i64 (i : Nat)), (37, .ro (.ints .i64 nx) 0 nx.length), (38, .int .i64 (nx.length : Nat)), (39, .int .i64 (j : Nat)), (9, .int .i64 (j : Nat)), (10, .int .i64 (x : Nat))] ⟨rfl, rfl, rfl, rfl, rfl, rfl, rfl, rfl, rfl, rfl, rfl, rfl, rfl, rfl, trivial⟩ (by kernel_rfl) (by decide) rfl rfl ?_
       refine zX rfl rfl (zH rfl) ?_
       refine zX rfl rfl (zH rfl) ?_
       refine zX rfl rfl (zH rfl) ?_
       refine zX rfl rfl (zH rfl) ?_
       refine zX rfl rfl (za rfl rfl rfl rfl rfl (by first | (simp only [Nat.zero_add, Int.toNat_natCast, Int.toNat_zero]; exact rfl) | exact rfl) (by omega)) ?_
       refine zX rfl rfl (zw rfl rfl rfl rfl rfl rfl rfl (by first | exact Nat.zero_lt_one | assumption | omega)) ?_
       refine zX rfl rfl (zH rfl) ?_
       refine zX rfl rfl (zH rfl) ?_
       refine zX rfl rfl (ze rfl rfl rfl rfl (by first | (simp only [Nat.zero_add, Int.toNat_natCast, Int.toNat_zero]; exact rfl) | exact rfl) (by omega)) ?_
       refine zX rfl rfl (zCY rfl rfl rfl rfl rfl rfl) ?_
       refine zCV rfl rfl rfl rfl rfl cmul ?_
       refine zX rfl rfl (za rfl rfl rfl rfl rfl (by first | (simp only [Nat.zero_add, Int.toNat_natCast, Int.toNat_zero]; exact rfl) | exact rfl) (by omega)) ?_
       refine zAj ?_
       refine zD (is := [12]) (by kernel_rfl) (by simp) rfl ⟨fun o ho => ?_, trivial⟩
       all_goals (cases ho)
       skip
       unfold qA
       refine zQ (c' := zsC ((A.set x (some ri)).set x (some (ri * l.getD j 0)))) rfl rfl rfl rfl rfl gx1 (by show (List.set _ x _).length = (A.set x (some ri)).length; simp) rfl (fun i' j' hi' hj' => zEU none 3 zCA (A.set x (some ri)) x (some (ri * l.getD j 0)) gx1 i' j' hi' hj') ?_
       refine rn1 ?_
       refine zh (by kernel_rfl) ?_
       refine rn5 ?_
       exact zN ⟨j + 1, by omega, by omega, ⟨rfl, rfl, rfl, rfl, rfl, rfl, rfl, rfl, rfl, rfl, rfl, rfl, trivial⟩, by rw [hA2, hst]; exact congrArg (fun z => [some (AObj.mk 122 (zsC z)), some (AObj.mk 40 (.box [.int .i64 kd, .int .i64 pl, .int .i64 nf, .ro (.ints .i64 nx) 0 nx.length, .ro (.strs od) 0 od.length, .str py]))]) (List.set_set ..)⟩
     · have hje : j = nx.length := by omega
       subst hje
       rw [List.take_length, ← hnx]
       repeat (first | refine zg ?_ | refine zAs ?_ | refine zq ?_ | refine zr ?_ | refine zAF ?_)
       refine zA ?_
       refine zAt [some ⟨122, zsC (W2)⟩] [some ⟨40, .box [.int .i64 kd, .int .i64 pl, .int .i64 nf, .ro (.ints .i64 nx) 0 nx.length, .ro (.strs od) 0 od.length, .str py]⟩] [(0, .ro (zZ t) 0 t.length), (1, .fn g caps), (5, .sl 0 0 t.length), (17, .ro (zZ t) 0 t.length), (18, .int .i64 (t.length : Nat)), (19, .int .i64 (i : Nat))] rfl ⟨rfl, rfl, rfl, rfl, rfl, rfl, trivial⟩ (fun h hh => by rw [hfix] at hh; exact absurd hh id) (zCi (zMB _ _)) (by show (true && (zBl 1 caps && _)) = true; rw [hcb]; rfl) ?_
       refine rn3 ?_
       exact zN ⟨i + 1, by omega, by omega, ⟨rfl, rfl, rfl, rfl, rfl, rfl, trivial⟩, by rw [hW2]⟩
 · have hie : i = t.length := by omega
   subst hie
   rw [zNW hv]
   repeat (first | refine zA ?_ | refine zY ?_ | refine zAs ?_ | refine zq ?_ | refine zr ?_ | refine zAF ?_)
   refine zDt [some ⟨122, qsC (zU t o)⟩] (zAL.eqv (zs_map _) zAL.nil) ?_
   refine zAx 0 5 t.length [] rfl (zG8 _) rfl (by show t.length ≤ (zU t o).length; rw [show (zU t o).length = t.length from zCI t o _]; exact Nat.le_refl _) trivial ?_
   refine rn0 ?_
   exact zI hR rfl rfl
end Go.Proofs.YtnkealfaldjipaaGreatDoor
namespace Go.Ax.Rt
open Go.Ax.Bg
theorem le_num {q : Rat} {M : Nat} (h : q ≤ (M : Rat)) : q.num ≤ M * q.den := by
 have h2 := Rat.not_lt.2 h
 rw [Rat.lt_iff] at h2
 rw [Rat.num_natCast, Rat.den_natCast] at h2
 have : ¬ ((M : Int) * (q.den : Int) < q.num * 1) := h2
 omega
theorem num_le {q : Rat} {M : Nat} (h : q.num ≤ M * q.den) : q ≤ (M : Rat) := by
 refine Rat.not_lt.1 (fun h2 => ?_)
 rw [Rat.lt_iff, Rat.num_natCast, Rat.den_natCast] at h2
 have : (M : Int) * (q.den : Int) < q.num * 1 := h2
 omega
theorem D_le {k : Nat} {q : Rat} (h : D k q) : q ≤ ((10 ^ k : Nat) : Rat) ∧ -q ≤ ((10 ^ k : Nat) : Rat) := by
 have h1 := h.1
 have h2 := q.den_pos
 generalize 10 ^ k = T at *
 have h3 : (T : Int) * 1 ≤ T * q.den := Int.mul_le_mul_of_nonneg_left (by omega) (by omega)
 refine ⟨num_le (by omega), num_le ?_⟩
 show -q.num ≤ (T : Int) * (q.den : Int)
 omega
theorem bnd_D {B K M : Nat} {q : Rat} (h : Dv B q) (hB : B ≠ 0) (h1 : q ≤ (M : Rat)) (h2 : -q ≤ (M : Rat)) (hM : M * B < 10 ^ K) (hK : B < 10 ^ K) : D K q := by
 have hd := Nat.le_of_dvd (by omega) (h.den hB)
 refine ⟨?_, by omega⟩
 have a1 := le_num h1
 have a2 := le_num h2
 have a2 : -q.num ≤ (M : Int) * (q.den : Int) := a2
 have a3 : M * q.den ≤ M * B := Nat.mul_le_mul_left _ hd
 have a4 : ((M * q.den : Nat) : Int) = (M : Int) * (q.den : Int) := Int.natCast_mul _ _
 omega
theorem Dv.sum {B : Nat} {l : List Rat} : (∀ q ∈ l, Dv B q) → ∀ {acc : Rat}, Dv B acc → Dv B (zAk acc l) := by
 induction l with
 | nil => intro _ acc h; exact h
 | cons a r ih => intro h acc ha; exact ih (fun q hq => h q (by simp [hq])) (ha.add (h a (by simp)))
theorem zKk (f : Nat → Rat) (c : Rat) : ∀ ks : List Nat, zAk 0 (ks.map (fun i => f i * c)) = zAk 0 (ks.map f) * c
 | [] => by rw [List.map_nil, List.map_nil, zAk, Rat.zero_mul]
 | a :: r => by
   rw [List.map_cons, List.map_cons, zAk, zAk, zB3, zB3 (r.map f), zKk f c r, Rat.zero_add, Rat.zero_add, Rat.add_mul]
theorem zLe {f g : Nat → Rat} : ∀ {ks : List Nat}, (∀ i ∈ ks, f i ≤ g i) → zAk 0 (ks.map f) ≤ zAk 0 (ks.map g)
 | [], _ => Rat.le_refl
 | a :: r, h => by
   rw [List.map_cons, List.map_cons, zAk, zAk, zB3, zB3 (r.map g), Rat.zero_add, Rat.zero_add]
   have h1 := (Rat.add_le_add_right (c := zAk 0 (r.map f))).2 (h a (by simp))
   have h2 := (Rat.add_le_add_left (c := g a)).2 (zLe (ks := r) (fun i hi => h i (by simp [hi])))
   exact Rat.le_trans h1 h2
/-- the product of the denominators of the payments -/
def payB (t : zT) : Nat := zGz (t.map (fun n => if n.kind = 0 then (zAU n.pay).den else 1))
theorem zKA (t : zT) : 0 < payB t := by
 refine zKl (fun x hx => ?_)
 obtain ⟨n, _, rfl⟩ := List.mem_map.1 hx
 split
 · exact Rat.den_pos _
 · exact Nat.one_pos
structure Pays (t : zT) (d : Nat) : Prop where
 dig : ∀ i, i < t.length → (t.getD i node0).kind = 0 → D d (zAU (t.getD i node0).pay)
theorem zOC {t : zT} {d : Nat} (h : Pays t d) : payB t ≤ 10 ^ (d * t.length) := by
 have h1 := zJh (l := t.map (fun n => if n.kind = 0 then (zAU n.pay).den else 1)) (d := d) (fun x hx => by
   obtain ⟨n, hn, rfl⟩ := List.mem_map.1 hx
   obtain ⟨i, hi, rfl⟩ := List.getElem_of_mem hn
   split
   · rename_i h2
     have := h.dig i hi (by rw [zAe node0 hi]; exact h2)
     rw [zAe node0 hi] at this
     exact Nat.le_of_lt this.2
   · exact Nat.pow_pos (by decide))
 rwa [List.length_map] at h1
theorem zMf {t : zT} {i : Nat} (hi : i < t.length) (hk : (t.getD i node0).kind = 0) : (zAU (t.getD i node0).pay).den ∣ payB t := by
 refine zIB (List.mem_map.2 ⟨t.getD i node0, zAr node0 hi, ?_⟩)
 rw [if_pos hk]
theorem value_Dv {t : zT} (h : Valid t) {o : z7} {d : Nat} (ho : OddsAll t o d) (hn : t.length ≤ 40) : Dv (Bd o t.length * payB t) (zBU t o) := by
 refine Dv.sum (fun q hq => ?_) (Dv.zero _)
 obtain ⟨i, hi, rfl⟩ := List.mem_map.1 hq
 obtain ⟨i1, i2⟩ := zCw hi
 exact (zIu h ho hn i1).1.mul (Dv.of_den.mono (zMf i1 i2))
theorem value_le {t : zT} (h : Valid t) {o : z7} {d : Nat} (ho : OddsAll t o d) {e : Nat} (hp : Pays t e) : zBU t o ≤ ((10 ^ e : Nat) : Rat) ∧ -(zBU t o) ≤ ((10 ^ e : Nat) : Rat) := by
 have hs := zMo h ho.toOddsOK
 have one : zAk 0 ((zt t).map (fun j => (zU t o).getD j 0 * ((10 ^ e : Nat) : Rat))) = ((10 ^ e : Nat) : Rat) := by
   rw [zKk, hs, Rat.one_mul]
 constructor
 · rw [← one]
   refine zLe (fun i hi => ?_)
   obtain ⟨i1, i2⟩ := zCw hi
   exact Rat.mul_le_mul_of_nonneg_left (D_le (hp.dig i i1 i2)).1 (zD6 h ho i i1).2
 · unfold zBU
   rw [← zJ1, ← one]
   refine zLe (fun i hi => ?_)
   obtain ⟨i1, i2⟩ := zCw hi
   unfold zEx
   rw [← Rat.mul_neg]
   exact Rat.mul_le_mul_of_nonneg_left (D_le (hp.dig i i1 i2)).2 (zD6 h ho i i1).2
theorem value_D' {t : zT} (h : Valid t) {o : z7} (ho : OddsAll t o 12) (hn : t.length ≤ 40) (hp : Pays t 12) {E1 E2 W : Nat} (hB : Bd o t.length < 10 ^ E1) (hP : payB t ≤ 10 ^ E2) (hW : 12 + (E1 + E2) ≤ W) : D W (zBU t o) := by
 have e1 : Bd o t.length * payB t < 10 ^ E1 * 10 ^ E2 := by
   refine Nat.lt_of_lt_of_le ((Nat.mul_lt_mul_right (zKA t)).2 hB) ?_
   exact Nat.mul_le_mul_left _ hP
 rw [← Nat.pow_add] at e1
 obtain ⟨v1, v2⟩ := value_le h ho hp
 have hpos : 0 < Bd o t.length * payB t := Nat.mul_pos (zJq o _) (zKA t)
 refine bnd_D (value_Dv h ho hn) (by omega) v1 v2 ?_ ?_
 · have := (Nat.mul_lt_mul_left (a := 10 ^ 12) (Nat.pow_pos (by decide))).2 e1
   rw [← Nat.pow_add] at this
   exact Nat.lt_of_lt_of_le this (Nat.pow_le_pow_right (by decide) hW)
 · exact Nat.lt_of_lt_of_le e1 (Nat.pow_le_pow_right (by decide) (by omega))
/-- The value of a game with short zAm is short. -/
theorem zLE {t : zT} (h : Valid t) {o : z7} (ho : OddsAll t o 12) (hn : t.length ≤ 40) (hp : Pays t 12) : D 974 (zBU t o) := by
 obtain ⟨_, hB⟩ := zIu h ho hn (show 0 < t.length by have := h.ne; omega)
 have hP := zOC hp
 refine value_D' h ho hn hp (E1 := 12 * 40 + 1) (E2 := 12 * t.length) hB hP ?_
 omega
/-- the probabilities of chance alone -/
def chanceO (t : zT) : z7 := fun i => if (t.getD i node0).kind = 1 then some ((t.getD i node0).odds.map zAU) else none
/-- the probabilities of chance and of both players -/
def zDd (t : zT) (a b : Int → List Rat) : z7 := fun i =>
 if (t.getD i node0).kind = 1 then some ((t.getD i node0).odds.map zAU)
 else if (t.getD i node0).kind = 2 then some (if (t.getD i node0).player = 0 then a (t.getD i node0).info else b (t.getD i node0).info) else none
/-- the probabilities of chance and of the other player -/
def zGs (t : zT) (p : Int) (u : Int → List Rat) : z7 := fun i =>
 if (t.getD i node0).kind = 1 then some ((t.getD i node0).odds.map zAU)
 else if (t.getD i node0).kind = 2 then (if (t.getD i node0).player = p then none else some (u (t.getD i node0).info)) else none
theorem zL2 (t : zT) (p : Int) (u : Int → List Rat) : ∀ i, i < t.length → own p (t.getD i node0) = true → zGs t p u i = none := by
 intro i hi h
 unfold own at h
 rw [Bool.and_eq_true, decide_eq_true_eq, decide_eq_true_eq] at h
 unfold zGs
 rw [if_neg (by omega), if_pos h.1, if_pos h.2]
theorem zIX {t : zT} {o o' : z7} (h : ∀ i, i < t.length → o i = o' i) : ∀ i, i ≤ t.length → zBm t o i = zBm t o' i
 | 0, _ => rfl
 | i + 1, hi => by rw [zBm, zBm, zIX h i (by omega), h i (by omega)]
theorem zIU {t : zT} {o o' : z7} (h : ∀ i, i < t.length → o i = o' i) : zBU t o = zBU t o' := by
 unfold zBU zU
 rw [zIX h t.length (Nat.le_refl _)]
theorem zC4 {t : zT} (hv : Valid t) {i : Nat} (hi : i < t.length) (hk : (t.getD i node0).kind = 2) : (t.getD i node0).player = 0 ∨ (t.getD i node0).player = 1 := by
 have h := hv.nodes i hi
 unfold zDm at h
 rw [if_neg (by omega), if_neg (by omega), if_pos hk] at h
 split at h
 · cases h
 split at h
 · cases h
 rename_i h1
 omega
theorem zGl {p : Int} {n : TNode} : own p n = true ↔ n.kind = 2 ∧ n.player = p := by
 unfold own
 rw [Bool.and_eq_true, decide_eq_true_eq, decide_eq_true_eq]
theorem both0 {t : zT} (hv : Valid t) (a b : Int → List Rat) : ∀ i, i < t.length → zDo t 0 a (zGs t 0 b) i = zDd t a b i := by
 intro i hi
 unfold zDo zGs zDd
 by_cases h : own 0 (t.getD i node0) = true
 · obtain ⟨h1, h2⟩ := zGl.1 h
   rw [if_pos h, if_neg (by omega), if_pos h1, if_pos h2]
 · rw [if_neg h]
   split
   · rfl
   split
   · rename_i h1 h2
     have h3 : ¬ (t.getD i node0).player = 0 := fun e => h (zGl.2 ⟨h2, e⟩)
     rw [if_neg h3, if_neg h3]
   · rfl
theorem both1 {t : zT} (hv : Valid t) (a b : Int → List Rat) : ∀ i, i < t.length → zDo t 1 b (zGs t 1 a) i = zDd t a b i := by
 intro i hi
 unfold zDo zGs zDd
 by_cases h : own 1 (t.getD i node0) = true
 · obtain ⟨h1, h2⟩ := zGl.1 h
   rw [if_pos h, if_neg (by omega), if_pos h1, if_neg (by omega)]
 · rw [if_neg h]
   split
   · rfl
   split
   · rename_i h1 h2
     have h3 : ¬ (t.getD i node0).player = 1 := fun e => h (zGl.2 ⟨h2, e⟩)
     rw [if_neg h3, if_pos (by have := zC4 hv hi h2; omega)]
   · rfl
/-- A game with few nodes and short zAm. -/
structure Modest (t : zT) : Prop where
 len : t.length ≤ 40
 pay : ∀ n ∈ t, n.pay.length ≤ 12
 odds : ∀ n ∈ t, ∀ r ∈ n.odds, r.length ≤ 12
theorem zHw {t : zT} (hv : Valid t) {i : Nat} (hi : i < t.length) (hk : (t.getD i node0).kind = 0) : zCq (t.getD i node0).pay = 0 := by
 have h := hv.nodes i hi
 unfold zDm at h
 rw [if_pos hk] at h
 split at h
 · cases h
 · exact h
theorem zK6 {t : zT} (hv : Valid t) {i : Nat} (hi : i < t.length) (hk : (t.getD i node0).kind = 1) : (t.getD i node0).odds.length = (t.getD i node0).next.length ∧ zCm (t.getD i node0).odds = 0 := by
 have h := hv.nodes i hi
 unfold zDm at h
 rw [if_neg (by omega), if_pos hk] at h
 split at h
 · cases h
 split at h
 · rename_i h1; exact absurd h h1
 split at h
 · cases h
 · rename_i h1
   exact ⟨Classical.not_not.1 h1, h⟩
theorem Modest.pays {t : zT} (hm : Modest t) (hv : Valid t) : Pays t 12 :=
 ⟨fun i hi hk => (IsQ.self (zHw hv hi hk)).dig (hm.pay _ (zAr node0 hi)) (by decide)⟩
theorem Modest.chance {t : zT} (hm : Modest t) (hv : Valid t) {i : Nat} (hi : i < t.length) (hk : (t.getD i node0).kind = 1) : ((t.getD i node0).odds.map zAU).length = (t.getD i node0).next.length ∧ zAk 0 ((t.getD i node0).odds.map zAU) = 1 ∧ ∀ q ∈ (t.getD i node0).odds.map zAU, 0 ≤ q ∧ D 12 q := by
 obtain ⟨h1, h2⟩ := zK6 hv hi hk
 obtain ⟨o1, o2, o3, o4⟩ := zD2 h2
 refine ⟨by rw [List.length_map]; exact h1, o3, fun q hq => ⟨(o4 q hq).1, ?_⟩⟩
 obtain ⟨s, hs, rfl⟩ := List.mem_map.1 hq
 exact (IsQ.self (o2 s hs)).dig (hm.odds _ (zAr node0 hi) s hs) (by decide)
theorem Strat.node {t : zT} (hv : Valid t) {p : Int} {u : Int → List Rat} {d : Nat} (h : Strat t p u d) {i : Nat} (hi : i < t.length) (hk : (t.getD i node0).kind = 2) (hp : (t.getD i node0).player = p) :
   (u (t.getD i node0).info).length = (t.getD i node0).next.length ∧ zAk 0 (u (t.getD i node0).info) = 1 ∧ ∀ q ∈ u (t.getD i node0).info, 0 ≤ q ∧ D d q := by
 have hs : zA6 p (t.getD i node0).info (t.getD i node0) = true := by
   unfold zA6
   rw [zGl.2 ⟨hk, hp⟩, decide_eq_true rfl]; rfl
 have hx : (t.getD i node0).info ∈ zd t p := (zBn hv).2 ⟨i, hi, hs⟩
 exact ⟨by rw [h.len _ hx, zDa hv hi hs], h.sum _ hx, fun q hq => ⟨h.nn _ hx q hq, h.dig _ hx q hq⟩⟩
theorem zFw {t : zT} (hv : Valid t) (hm : Modest t) {a b : Int → List Rat} (ha : Strat t 0 a 12) (hb : Strat t 1 b 12) : OddsAll t (zDd t a b) 12 := by
 refine ⟨⟨fun i hi hk => ?_⟩, fun i hi hk => ?_⟩
 · by_cases h1 : (t.getD i node0).kind = 1
   · obtain ⟨c1, c2, c3⟩ := hm.chance hv hi h1
     refine ⟨_, ?_, c1, c2, c3⟩
     unfold zDd; rw [if_pos h1]
   · have h2 : (t.getD i node0).kind = 2 := by
       rcases hv.child hi with h | h
       · exact absurd h.1 hk
       · omega
     by_cases h3 : (t.getD i node0).player = 0
     · obtain ⟨c1, c2, c3⟩ := ha.node hv hi h2 h3
       refine ⟨_, ?_, c1, c2, c3⟩
       unfold zDd; rw [if_neg h1, if_pos h2, if_pos h3]
     · have h4 : (t.getD i node0).player = 1 := by have := zC4 hv hi h2; omega
       obtain ⟨c1, c2, c3⟩ := hb.node hv hi h2 h4
       refine ⟨_, ?_, c1, c2, c3⟩
       unfold zDd; rw [if_neg h1, if_pos h2, if_neg h3]
 · unfold zDd; rw [if_neg (by omega), if_neg (by omega)]
theorem zJZ {t : zT} (hv : Valid t) (p : Int) (o : z7) : Strat t p (zFl t p o) 12 := by
 have hm := best_mix hv p o
 refine ⟨hm.len, hm.sum, hm.nn, fun x hx q hq => ?_⟩
 obtain ⟨c, h1, h2, _⟩ := zHv hv o hx
 have e : zFl t p o x = zEj (zc t p x) c := by unfold zFl; rw [h1]; rfl
 rw [e] at hq
 exact ((zIQ h2).2.2 q hq).2.mono (by decide)
/-- the best value of a player -/
def bestV (t : zT) (p : Int) (u : Int → List Rat) : Rat := (zBG t p (zGs t p u)).2.1.getD 0 0
theorem best0 {t : zT} (hv : Valid t) (hp : zCL t 0 = true) (b : Int → List Rat) : bestV t 0 b = zBU t (zDd t (zFl t 0 (zGs t 0 b)) b) := by
 have h := zJm hv hp (zL2 t 0 b)
 rw [if_neg (by decide), zIU (both0 hv _ b)] at h
 exact h.symm
theorem best1 {t : zT} (hv : Valid t) (hp : zCL t 1 = true) (a : Int → List Rat) : bestV t 1 a = -(zBU t (zDd t a (zFl t 1 (zGs t 1 a)))) := by
 have h := zJm hv hp (zL2 t 1 a)
 rw [if_pos rfl, zIU (both1 hv a _)] at h
 exact h.symm
theorem bestV_D0 {t : zT} (hv : Valid t) (hm : Modest t) (hp : zCL t 0 = true) {b : Int → List Rat} (hb : Strat t 1 b 12) : D 974 (bestV t 0 b) := by
 rw [best0 hv hp]
 exact zLE hv (zFw hv hm (zJZ hv 0 _) hb) hm.len (hm.pays hv)
theorem bestV_D1 {t : zT} (hv : Valid t) (hm : Modest t) (hp : zCL t 1 = true) {a : Int → List Rat} (ha : Strat t 0 a 12) : D 974 (bestV t 1 a) := by
 rw [best1 hv hp]
 exact (zLE hv (zFw hv hm ha (zJZ hv 1 _)) hm.len (hm.pays hv)).neg
end Go.Ax.Rt
namespace Go.Ax.Rt
open Go.Ax.Bg
structure OddsW (t : zT) (o : z7) (d : Nat) : Prop where
 some : ∀ i, i < t.length → ∀ l, o i = some l → l.length = (t.getD i node0).next.length ∧ ∀ q ∈ l, 0 ≤ q ∧ q ≤ 1 ∧ D d q
theorem zOU {t : zT} (h : Valid t) {o : z7} {d : Nat} (ho : OddsW t o d) : ∀ j, j < t.length → Dv (Bd o j) ((zU t o).getD j 0) ∧ 0 ≤ (zU t o).getD j 0 ∧ (zU t o).getD j 0 ≤ 1 := by
 intro j
 induction j using Nat.strongRecOn with
 | ind j ih =>
   intro hj
   by_cases h0 : j = 0
   · subst h0
     rw [zCR h]
     exact ⟨Dv.one _, by decide +kernel, Rat.le_refl⟩
   · obtain ⟨i, hi, hk⟩ := h.has hj h0
     have hlt := h.kid_lt hi hk
     obtain ⟨m, hm, he⟩ := zJr h hi hk
     have hr := zD1 h o hi hm
     rw [he] at hr
     obtain ⟨g1, g2, g3⟩ := ih i (by omega) hi
     cases hoi : o i with
     | none =>
       rw [hoi] at hr
       have hr : (zU t o).getD j 0 = (zU t o).getD i 0 := hr
       rw [hr]
       have h6 := zHA o (i := i) (j - i)
       rw [show i + (j - i) = j by omega] at h6
       exact ⟨g1.mono h6, g2, g3⟩
     | some l =>
       obtain ⟨l2, l4⟩ := ho.some i hi l hoi
       rw [hoi] at hr
       have hr : (zU t o).getD j 0 = (zU t o).getD i 0 * l.getD m 0 := hr
       obtain ⟨q1, q2, q3⟩ := l4 (l.getD m 0) (zAr 0 (by omega))
       rw [hr]
       refine ⟨?_, Rat.mul_nonneg g2 q1, ?_⟩
       · have h5 : Dv (Bd o (i + 1)) ((zU t o).getD i 0 * l.getD m 0) := by
           refine (g1.mul (Dv.of_den (q := l.getD m 0))).mono ?_
           show _ ∣ Bd o i * pden (o i)
           rw [hoi]
           exact Nat.mul_dvd_mul (Nat.dvd_refl _) (zIB (List.mem_map.2 ⟨_, zAr 0 (by omega), rfl⟩))
         have h6 := zHA o (i := i + 1) (j - (i + 1))
         rw [show i + 1 + (j - (i + 1)) = j by omega] at h6
         exact h5.mono h6
       · have h7 := Rat.mul_le_mul_of_nonneg_left q2 g2
         rw [Rat.mul_one] at h7
         exact Rat.le_trans h7 g3
theorem Bd_w {t : zT} {o : z7} {d : Nat} (ho : OddsW t o d) : ∀ i, i ≤ t.length → Bd o i ≤ 10 ^ (d * ((t.take i).flatMap TNode.next).length)
 | 0, _ => by simp [Bd]
 | i + 1, hi => by
   have ih := Bd_w ho i (by omega)
   have hi' : i < t.length := by omega
   have hp : pden (o i) ≤ 10 ^ (d * (t.getD i node0).next.length) := by
     cases hoi : o i with
     | none => exact Nat.pow_pos (by decide)
     | some l =>
       obtain ⟨l2, l4⟩ := ho.some i hi' l hoi
       rw [← l2]
       have := zJh (l := l.map Rat.den) (d := d) (fun x hx => by
         obtain ⟨q, hq, rfl⟩ := List.mem_map.1 hx
         exact Nat.le_of_lt (l4 q hq).2.2.2)
       rwa [List.length_map] at this
   rw [Bd, List.take_succ_eq_append_getElem hi', List.flatMap_append, List.length_append, Nat.mul_add, Nat.pow_add]
   refine Nat.mul_le_mul ih ?_
   rw [zAe node0 hi'] at hp
   simpa using hp
theorem zD0 {t : zT} (h : Valid t) {o : z7} {d : Nat} (ho : OddsW t o d) (hn : t.length ≤ 40) {j : Nat} (hj : j < t.length) : D (d * 40 + 1) ((zU t o).getD j 0) := by
 obtain ⟨g1, g2, g3⟩ := zOU h ho j hj
 have h6 := zHA o (i := j) (t.length - j)
 rw [show j + (t.length - j) = t.length by omega] at h6
 have h7 := Bd_w ho t.length (Nat.le_refl _)
 rw [List.take_length] at h7
 have h8 := zJt h
 have h9 : d * (t.flatMap TNode.next).length ≤ d * 40 := Nat.mul_le_mul_left _ (by omega)
 have h10 : 10 ^ (d * (t.flatMap TNode.next).length) ≤ 10 ^ (d * 40) := Nat.pow_le_pow_right (by decide) h9
 have h11 : 0 < 10 ^ (d * 40) := Nat.pow_pos (by decide)
 have hpos := zJq o t.length
 refine unit_D (g1.mono h6) (by omega) g2 g3 ?_
 rw [Nat.pow_succ]
 omega
theorem zLZ {l : List Rat} (hs : zAk 0 l = 1) (h0 : ∀ q ∈ l, 0 ≤ q) : ∀ q ∈ l, q ≤ 1 := by
 have key : ∀ (l : List Rat) (x : Rat), (∀ q ∈ l, 0 ≤ q) → x ∈ l → x ≤ zAk 0 l := by
   intro l
   induction l with
   | nil => intro x _ hx; simp at hx
   | cons a r ihl =>
     intro x hq hx
     rw [zAk, zB3, Rat.zero_add]
     have ha := hq a (by simp)
     have hr := zIw r 0 (fun y hy => hq y (by simp [hy]))
     rcases List.mem_cons.1 hx with rfl | hx
     · have := (Rat.add_le_add_left (c := x)).2 hr
       rwa [Rat.add_zero] at this
     · have h1 := ihl x (fun q hq' => hq q (by simp [hq'])) hx
       have := (Rat.add_le_add_right (c := zAk 0 r)).2 ha
       rw [Rat.zero_add] at this
       exact Rat.le_trans h1 this
 intro q hq
 rw [← hs]
 exact key l q h0 hq
theorem OddsAll.w {t : zT} {o : z7} {d : Nat} (h : OddsAll t o d) : OddsW t o d := by
 refine ⟨fun i hi l hl => ?_⟩
 by_cases hk : (t.getD i node0).kind = 0
 · rw [h.none i hi hk] at hl; cases hl
 · obtain ⟨l', h1, h2, h3, h4⟩ := h.at' i hi hk
   rw [hl] at h1
   obtain rfl := Option.some.inj h1
   have := zLZ h3 (fun q hq => (h4 q hq).1)
   exact ⟨h2, fun q hq => ⟨(h4 q hq).1, this q hq, (h4 q hq).2⟩⟩
theorem one_w {t : zT} (hv : Valid t) (hm : Modest t) {p : Int} {u : Int → List Rat} (hp : p = 0 ∨ p = 1) (hu : Strat t (1 - p) u 12) : OddsW t (zGs t p u) 12 := by
 refine ⟨fun i hi l hl => ?_⟩
 unfold zGs at hl
 by_cases h1 : (t.getD i node0).kind = 1
 · rw [if_pos h1] at hl
   obtain rfl := Option.some.inj hl
   obtain ⟨c1, c2, c3⟩ := hm.chance hv hi h1
   have := zLZ c2 (fun q hq => (c3 q hq).1)
   exact ⟨c1, fun q hq => ⟨(c3 q hq).1, this q hq, (c3 q hq).2⟩⟩
 · rw [if_neg h1] at hl
   by_cases h2 : (t.getD i node0).kind = 2
   · rw [if_pos h2] at hl
     by_cases h3 : (t.getD i node0).player = p
     · rw [if_pos h3] at hl; cases hl
     · rw [if_neg h3] at hl
       obtain rfl := Option.some.inj hl
       obtain ⟨c1, c2, c3⟩ := hu.node hv hi h2 (by have := zC4 hv hi h2; omega)
       have := zLZ c2 (fun q hq => (c3 q hq).1)
       exact ⟨c1, fun q hq => ⟨(c3 q hq).1, this q hq, (c3 q hq).2⟩⟩
   · rw [if_neg h2] at hl; cases hl
theorem zNw {t : zT} (hv : Valid t) (hm : Modest t) {a b : Int → List Rat} (ha : Strat t 0 a 12) (hb : Strat t 1 b 12) : OddsW t (zDd t a b) 12 := (zFw hv hm ha hb).w
/-- the ends before a node -/
def zAY (t : zT) (i : Nat) : List Int := ((List.range i).filter (fun j => decide ((t.getD j node0).kind = 0))).map (fun j : Nat => (j : Int))
theorem zG9 (t : zT) (i : Nat) : zAY t (i + 1) = if (t.getD i node0).kind = 0 then zAY t i ++ [(i : Int)] else zAY t i := by
 unfold zAY
 rw [List.range_succ, List.filter_append, List.map_append]
 by_cases h : (t.getD i node0).kind = 0
 · rw [if_pos h, List.filter_cons_of_pos (by simpa using h)]; rfl
 · rw [if_neg h, List.filter_cons_of_neg (by simpa using h)]; simp
theorem zFA (t : zT) : ∀ i, (zAY t i).length ≤ i
 | 0 => Nat.le_refl _
 | i + 1 => by
   have := zFA t i
   rw [zG9]
   split
   · rw [List.length_append]; show _ + 1 ≤ _; omega
   · omega
theorem zGd (t : zT) : zAY t t.length = (zt t).map (fun j : Nat => (j : Int)) := rfl
theorem zK1 (t : zT) {k : Nat} (hk : k < (zt t).length) : (zAY t t.length).getD k 0 = (((zt t).getD k 0 : Nat) : Int) := by
 rw [zGd, zCt _ _ 0 _ _ hk]
/-- the sum so far -/
def zJX (t : zT) (o : z7) (k : Nat) : Rat := zAk 0 (((zt t).take k).map (zEx t (zU t o)))
theorem zPZ (t : zT) (o : z7) {k : Nat} (hk : k < (zt t).length) : zJX t o (k + 1) = zJX t o k + zEx t (zU t o) ((zt t).getD k 0) := by
 unfold zJX
 rw [List.take_succ_eq_append_getElem hk, List.map_append, List.map_singleton, zH0, zAe 0 hk]
theorem valK_all (t : zT) (o : z7) : zJX t o (zt t).length = zBU t o := by
 unfold zJX zBU; rw [List.take_length]
end Go.Ax.Rt
namespace Go.Proofs.YtnkealfaldjipaaGreatDoor
open Go.Ax Go.Ax.Bg Go.Ax.Rt Go.RowKit Go.Ax.Idx Go.Ax.Cd
attribute [local irreducible] Ax zAM QOp zM zp
set_option maxRecDepth 100000
set_option maxHeartbeats 4000000
theorem zOV {t : zT} (hv : Valid t) (hlen : t.length ≤ 40) {o : z7} (ho : OddsW t o 12) (hc : ∀ i, i < t.length → (t.getD i node0).kind = 1 → o i = some ((t.getD i node0).odds.map zAU)) (he : ∀ i, i < t.length → (t.getD i node0).kind = 0 → o i = none) : OddsG t o := by
 refine ⟨hc, he, fun i hi l hl => ?_, fun j hj => zGH ((zD0 hv ho hlen hj).mono (by decide))⟩
 obtain ⟨h1, h2⟩ := ho.some i hi l hl
 have hk : (t.getD i node0).kind ≠ 0 := fun e => by rw [he i hi e] at hl; cases hl
 have hn : 1 ≤ (t.getD i node0).next.length ∧ (t.getD i node0).next.length ≤ 6 := by
   rcases hv.child hi with h | h
   · exact absurd h.1 hk
   · exact ⟨(zBb h.2).1, (zBb h.2).2.1⟩
 exact ⟨by omega, by omega, by omega, fun q hq => zGH ((h2 q hq).2.2.mono (by decide))⟩
theorem zOK (t : zT) (hlen : t.length ≤ 1000000) : zW Tryz.prog 135 [.ro (zZ t) 0 t.length] (.ro (.ints .i64 (zAY t t.length)) 0 (zAY t t.length).length) := by
 refine zM.value0 (zG (P := Tryz.prog) (fn := Tryz.f135) rfl rfl (by kernel_rfl) rfl (fun c hR hfix => ?_)) (fix := fun _ => False) (fun _ h => h) rfl rfl
 repeat (first | refine zB (zH rfl) ?_ | refine zB (zK rfl) ?_ | refine zC ?_ | refine zA ?_ | refine zY ?_ | refine zJ rfl ?_ | refine zB (zA8 rfl rfl rfl) ?_)
 refine zBT 3 ⟨3, .ints .i64 []⟩ rfl rfl ?_
 repeat (refine zz ?_)
 refine zj (ι := Nat) (fun i => [(3, .sl 0 0 (zAY t i).length), (6, .ro (zZ t) 0 t.length), (7, .int .i64 (t.length : Nat)), (8, .int .i64 (i : Nat))]) (fun i => [some ⟨3, .ints .i64 (zAY t i)⟩])
   (fun i => i ≤ t.length) (fun i => t.length - i) 0 ⟨⟨rfl, rfl, rfl, rfl, trivial⟩, rfl, Nat.zero_le _⟩ ?_
 intro i hi
 refine rn4 ?_
 refine zE rfl (fun h => ?_) (fun h => ?_)
 · have hi' : i < t.length := by omega
   have hsn := zG9 t i
   have hel := zFA t i
   generalize hI2 : zAY t (i + 1) = I2 at *
   generalize zAY t i = I at *
   refine rn6 ?_
   refine zL 12 (.agg (zBO (t.getD i node0))) rfl (AEq.of_eq rfl) ?_
   generalize t.getD i node0 = n at *
   obtain ⟨kd, pl, nf, nx, od, py⟩ := n
   simp only at *
   refine zQ (c' := .box [.int .i64 kd, .int .i64 pl, .int .i64 nf, .ro (.ints .i64 nx) 0 nx.length, .ro (.strs od) 0 od.length, .str py]) rfl rfl rfl rfl rfl Nat.zero_lt_one rfl rfl (fun i' j' hi' hj' => ?_) ?_
   · rw [if_pos (Nat.lt_one_iff.1 hi')]; rfl
   refine zAZ [some ⟨3, .ints .i64 I⟩, some ⟨40, .box [.int .i64 kd, .int .i64 pl, .int .i64 nf, .ro (.ints .i64 nx) 0 nx.length, .ro (.strs od) 0 od.length, .str py]⟩] rfl ?_
   refine zL 5 (.ptr 1 0 0) rfl (AEq.of_eq rfl) ?_
   refine rn5 ?_
   refine zE rfl (fun h1 => ?_) (fun h1 => ?_)
   · rw [if_pos h1] at hsn
     refine rn3 ?_
     refine zn rfl rfl rfl rfl rfl rfl rfl rfl rfl rfl rfl rfl (by show 0 + 1 ≤ 1; omega) rfl (by show (I.length + 1) * 8 ≤ _ ∧ _; omega) (fun i j _ _ => rfl) (by rw [hfix]; exact fun h => h) ?_
     repeat (first | refine zB (zK rfl) ?_ | refine zC ?_ | refine zg ?_)
     refine zA ?_
     refine zAt [some ⟨3, .ints .i64 (I ++ [(i : Int)])⟩] [some ⟨40, .box [.int .i64 kd, .int .i64 pl, .int .i64 nf, .ro (.ints .i64 nx) 0 nx.length, .ro (.strs od) 0 od.length, .str py]⟩] [(3, .sl 0 0 (I.length + 1)), (6, .ro (zZ t) 0 t.length), (7, .int .i64 (t.length : Nat)), (8, .int .i64 (i : Nat))] rfl ⟨rfl, rfl, rfl, rfl, trivial⟩ (fun h hh => by rw [hfix] at hh; exact absurd hh id) (zCi (zCj _ _ _)) rfl ?_
     refine rn3 ?_
     exact zN ⟨i + 1, by omega, by omega, ⟨by rw [hI2, hsn, List.length_append]; rfl, rfl, rfl, rfl, trivial⟩, by rw [hI2, hsn]⟩
   · rw [if_neg h1] at hsn
     repeat (first | refine zg ?_ | refine zl ?_)
     refine zA ?_
     refine zAt [some ⟨3, .ints .i64 I⟩] [some ⟨40, .box [.int .i64 kd, .int .i64 pl, .int .i64 nf, .ro (.ints .i64 nx) 0 nx.length, .ro (.strs od) 0 od.length, .str py]⟩] [(3, .sl 0 0 I.length), (6, .ro (zZ t) 0 t.length), (7, .int .i64 (t.length : Nat)), (8, .int .i64 (i : Nat))] rfl ⟨rfl, rfl, rfl, rfl, trivial⟩ (fun h hh => by rw [hfix] at hh; exact absurd hh id) (zCi (zCj _ _ _)) rfl ?_
     refine rn3 ?_
     exact zN ⟨i + 1, by omega, by omega, ⟨by rw [hI2, hsn]; rfl, rfl, rfl, rfl, trivial⟩, by rw [hI2, hsn]⟩
 · have hie : i = t.length := by omega
   subst hie
   repeat (first | refine zA ?_ | refine zY ?_ | refine zAs ?_ | refine zq ?_ | refine zr ?_ | refine zAF ?_)
   refine zAx 0 3 (zAY t t.length).length [] rfl zAQ rfl (by show (zAY t t.length).length ≤ (zAY t t.length).length; exact Nat.le_refl _) trivial ?_
   refine rn0 ?_
   exact zI hR rfl rfl
abbrev zDD (s : zAX) : AV := .rom (s.map keyC) (s.map valC)
theorem zKx (n : TNode) (a b : zAX) (hp : n.player = 0 ∨ n.player = 1) (c : TChoice) (hc : c ∈ (if n.player = 0 then a else b)) (hi : c.info = n.info) : zW Tryz.prog 141 [.agg (zBO n), .rp (.box [zDD a, zDD b]) 0 0] (.ro (qsC (c.odds.map zAU)) 0 (c.odds.map zAU).length) := by
 obtain ⟨jj, i1, i2⟩ := zKX hc
 rw [hi] at i1
 obtain ⟨kd, pl, nf, nx, od, py⟩ := n
 simp only at *
 refine zM.value0 (zG (P := Tryz.prog) (fn := Tryz.f141) rfl rfl (by kernel_rfl) rfl (fun c hR hfix => ?_)) (fix := fun _ => False) (fun _ h => h) rfl rfl
 unfold zBO
 simp only
 refine rn6 ?_
 refine zm (by kernel_rfl) ?_
 rcases hp with hp | hp
 · subst hp
   rw [if_pos rfl] at i1 i2
   refine z8 (fuel := 0) [0, 1, 2, 3, 4, 5, 6, 7] [(1, .rp (.box [zDD a, zDD b]) 0 0), (2, .ptr 0 0 0)] ⟨rfl, rfl, trivial⟩ (by kernel_rfl) (by decide) rfl rfl ?_
   refine zX rfl rfl (zP rfl rfl rfl rfl rfl rfl) ?_
   refine zX rfl rfl (zS rfl rfl rfl rfl rfl) ?_
   refine zX rfl rfl (zFs rfl rfl rfl rfl (by first | (simp only [Nat.zero_add, Int.toNat_natCast]; exact rfl) | exact rfl) (by omega)) ?_
   refine zX rfl rfl (zAg rfl rfl rfl rfl) ?_
   refine zX rfl rfl (zP rfl rfl rfl rfl rfl rfl) ?_
   refine zX rfl rfl (zS rfl rfl rfl rfl rfl) ?_
   refine zX rfl rfl (zBQ rfl (.int rfl) rfl rfl rfl rfl (keysC a) jj i1 i2) ?_
   refine zX rfl rfl (zK rfl) ?_
   refine zAj ?_
   refine zh (by kernel_rfl) ?_
   refine rn0 ?_
   exact zI hR rfl rfl
 · subst hp
   rw [if_neg (by decide)] at i1 i2
   refine z8 (fuel := 0) [0, 1, 2, 3, 4, 5, 6, 7] [(1, .rp (.box [zDD a, zDD b]) 0 0), (2, .ptr 0 0 0)] ⟨rfl, rfl, trivial⟩ (by kernel_rfl) (by decide) rfl rfl ?_
   refine zX rfl rfl (zP rfl rfl rfl rfl rfl rfl) ?_
   refine zX rfl rfl (zS rfl rfl rfl rfl rfl) ?_
   refine zX rfl rfl (zFs rfl rfl rfl rfl (by first | (simp only [Nat.zero_add, Int.toNat_natCast]; exact rfl) | exact rfl) (by omega)) ?_
   refine zX rfl rfl (zAg rfl rfl rfl rfl) ?_
   refine zX rfl rfl (zP rfl rfl rfl rfl rfl rfl) ?_
   refine zX rfl rfl (zS rfl rfl rfl rfl rfl) ?_
   refine zX rfl rfl (zBQ rfl (.int rfl) rfl rfl rfl rfl (keysC b) jj i1 i2) ?_
   refine zX rfl rfl (zK rfl) ?_
   refine zAj ?_
   refine zh (by kernel_rfl) ?_
   refine rn0 ?_
   exact zI hR rfl rfl
end Go.Proofs.YtnkealfaldjipaaGreatDoor
namespace Go.Ax
variable [Pins]
open Go.RowKit
def sclM (x : Value) : Option AV := match x with
 | .map none => some .any
 | v => scl v
theorem vr_sclM {w : World} {S : Nat → Prop} {σ : Nat → Option Blk} {x : Value} {v : AV} (h : sclM x = some v) : VR w S σ v x ∧ x.oneCell' = true := by
 unfold sclM at h
 split at h
 · cases h; exact ⟨.any _ _, rfl⟩
 · exact zK7 h
def zavM (v : Value) : Option (List AV) := v.cells.toList.mapM fun x => sclM x
theorem zKU {w : World} {S : Nat → Prop} {σ : Nat → Option Blk} {z : Value} {zs : List AV} (h : zavM z = some zs) : z.cells.size = zs.length ∧ ∀ j, j < zs.length → VR w S σ (zs.getD j .any) (z.cells.getD j undef) ∧ (z.cells.getD j undef).oneCell' = true := by
 unfold zavM at h
 have key : ∀ (l : List Value) (zs : List AV), l.mapM (fun x => sclM x) = some zs → l.length = zs.length ∧ ∀ j, j < zs.length → VR w S σ (zs.getD j .any) (l.getD j undef) ∧ (l.getD j undef).oneCell' = true := by
   intro l
   induction l with
   | nil => intro zs h; simp at h; subst h; exact ⟨rfl, fun j hj => by simp at hj⟩
   | cons x r ih =>
     intro zs h
     simp only [List.mapM_cons] at h
     cases h1 : sclM x with
     | none => simp [h1] at h
     | some y =>
       cases h2 : r.mapM (fun x => sclM x) with
       | none => simp [h1, h2] at h
       | some ys =>
         simp [h1, h2] at h
         subst h
         obtain ⟨i1, i2⟩ := ih ys h2
         refine ⟨by simp [i1], fun j hj => ?_⟩
         cases j with
         | zero => exact vr_sclM h1
         | succ j => simpa using i2 j (by simpa using hj)
 obtain ⟨k1, k2⟩ := key _ _ h
 refine ⟨by simpa using k1, fun j hj => ?_⟩
 have := k2 j hj
 have e : z.cells.toList.getD j undef = z.cells.getD j undef := by
   have hlt : j < z.cells.size := by simp at k1; omega
   simp [List.getD, Array.getD, hlt]
 rwa [e] at this
section
variable {P : Program} {fn : Func} {c : Ctx} {fr : Fr} {H : zR} {k : List It}
/-- A struct's or an array's value. -/
theorem q_buildM {ind : Bool} {d : Option Nat} {ty : TypeId} {pos : String} {after : Array Edge} {g : Option (Nat × Bool)} {t : TypeId} {parts : List (Nat × Operand)} {it : TypeInfo} {z : Value} {zs L : List AV} {l : List (Nat × AV)} {pl : Nat → Option (Nat × Nat)}
   (hi : P.info? t = some it) (hz : it.zero = some z) (hzs : zavM z = some zs) (hpl : zHb P t = some pl) (hl : zDX fr parts = some l) (hf : zFn pl zs l = some L) :
   QOp ind P fn c fr H ⟨d, .build t parts.toArray, ty, pos, after, g⟩ (.agg L) := by
 intro w a σ S hr
 obtain ⟨y1, y2⟩ := zKU (w := w) (S := S) (σ := σ) hzs
 obtain ⟨cs', g1, g2⟩ := zGY l _ z.cells zs L ⟨y1, y2⟩ (zDw hr parts l hl) hf
 refine ⟨.agg cs', .agg _ _ _ g2.1 (fun i hi => (g2.2 i hi).1) (fun i hi => (g2.2 i hi).2), fun w' _ => ?_⟩
 have hb : P.built t ((parts.toArray.map fun (i, x) => (i, a.eval x)).toList) = some cs' := by
   have e : (parts.toArray.map fun (i, x) => (i, a.eval x)).toList = parts.map fun (i, x) => (i, a.eval x) := by simp
   rw [e]
   unfold zHb at hpl
   unfold Program.built
   cases hu : P.underlying t with
   | none => simp [hu] at hpl
   | some u =>
     cases u with
     | array nn e' =>
       simp only [hu] at hpl
       cases he : P.info? e' with
       | none => simp [he] at hpl
       | some ie =>
         simp only [he, Option.some.injEq] at hpl
         subst hpl
         simp only [hi, hz, he]
         exact g1
     | struct fields =>
       simp only [hu] at hpl
       cases he : fields.toList.mapM (fun f => (P.info? f.type).map fun i => (f.offset, i.size)) with
       | none => simp [he] at hpl
       | some places =>
         simp only [he, Option.some.injEq] at hpl
         subst hpl
         simp only [hi, hz, he]
         exact g1
     | _ => simp [hu] at hpl
 have hrun := run_build (P := P) w' t (parts.toArray.map fun (i, x) => (i, a.eval x)) cs' hb
 simp only [execOp, Sem.run_bind, hrun, Result.andThen_ok]
 rfl
theorem zKp {all : Array Oper} {d : Nat} {t : TypeId} {ty : TypeId} {pos : String} {after : Array Edge} {rest : List Oper} {inf : TypeInfo} {z : Value} {zs : List AV}
   (hi : P.info? t = some inf) (hz : inf.zero = some z) (hzs : zavM z = some zs)
   (hk : Ax P fn c (.ops false all rest k) ((d, .ptr H.length 0 0) :: fr) (H ++ [some ⟨t, .box zs⟩])) : Ax P fn c (.ops false all (⟨some d, .alloc t, ty, pos, after, none⟩ :: rest) k) fr H := by
 refine zIj (fun w a σ S hr => ?_) hk
 have ha : Arr w S σ z.cells zs := zKU hzs
 have hrun : (execOp a.eval ⟨some d, .alloc t, ty, pos, after, none⟩).run P w = .ok (.value (.pointer (some ⟨w.heap.size, 0, none⟩))) (w.alloc (.cells z.cells t (0, 0))) := by
   simp [execOp, Instr.alloc, newVar, newRow, zeroValue, typeInfo, hi, hz]
 refine ⟨_, _, _, S, hrun, hr.alloc (o := ⟨t, .box zs⟩) (C := 1) (cur := z.cells) (Nat.le_refl _) (by unfold maxLen; omega) (by simp [Cells.sz, ha.1]) (zHx ha), ?_⟩
 have := VR.ptr (w := w.alloc (.cells z.cells t (0, 0))) (S := S) (upσ σ H.length (.at w.heap.size (Cells.box zs).sz 1)) H.length 0 0 w.heap.size (Cells.box zs).sz 1 (by simp [upσ])
 simpa using this
end
end Go.Ax
namespace Go.Proofs.YtnkealfaldjipaaGreatDoor
open Go.Ax Go.Ax.Bg Go.Ax.Rt Go.RowKit Go.Ax.Idx Go.Ax.Cd
attribute [local irreducible] Ax zAM QOp zM zp
set_option maxRecDepth 100000
set_option maxHeartbeats 4000000
structure StrS (t : zT) (p : Int) (s : zAX) : Prop where
 short : ShortS s
 ok : OkS t p s
 dig : ∀ c ∈ s, ∀ r ∈ c.odds, r.length ≤ 12
theorem StrS.nd {t : zT} {p : Int} {s : zAX} (h : StrS t p s) : (s.map TChoice.info).Nodup := by rw [h.ok.infos]; exact zGK t p
theorem StrS.str {t : zT} {p : Int} {s : zAX} (h : StrS t p s) : Strat t p (zGG s) 12 := h.ok.strat12 h.dig
theorem StrS.call {t : zT} {p : Int} {s : zAX} (h : StrS t p s) : zW Tryz.prog 132 [.ro (zAO s) 0 s.length] (zDD s) :=
 odds_ok' s h.short h.nd (fun c hc => ⟨(zD2 (h.ok.odds c hc)).1, (zD2 (h.ok.odds c hc)).2.1⟩)
theorem StrS.node {t : zT} {p : Int} {s : zAX} (h : StrS t p s) (hv : Valid t) {i : Nat} (hi : i < t.length) (hk : (t.getD i node0).kind = 2) (hp : (t.getD i node0).player = p) : ∃ c ∈ s, c.info = (t.getD i node0).info ∧ zGG s (t.getD i node0).info = c.odds.map zAU := by
 have hs : zA6 p (t.getD i node0).info (t.getD i node0) = true := by
   unfold zA6
   rw [zGl.2 ⟨hk, hp⟩, decide_eq_true rfl]; rfl
 obtain ⟨c, c1, c2, c3, _⟩ := h.ok.at' ((zBn hv).2 ⟨i, hi, hs⟩)
 exact ⟨c, c1, c2, c3⟩
def zA1 (t : zT) (a b : zAX) : z7 := zDd t (zGG a) (zGG b)
theorem playS_G {t : zT} (hv : Valid t) (hm : Go.Ax.Rt.Modest t) {a b : zAX} (ha : StrS t 0 a) (hb : StrS t 1 b) : OddsG t (zA1 t a b) :=
 zOV hv hm.len (zNw hv hm ha.str hb.str) (fun i hi hk => by unfold zA1 zDd; rw [if_pos hk]) (fun i hi hk => by unfold zA1 zDd; rw [if_neg (by omega), if_neg (by omega)])
theorem zLa (a b : zAX) : z6 (.box [zDD a, zDD b]) := by
 intro i j _ hj
 have hj : j < 2 := hj
 match j, hj with
 | 0, _ => rfl
 | 1, _ => rfl
theorem zKy (t : zT) (a b : zAX) (hT : ShortT t) (hv : Valid t) (hm : Go.Ax.Rt.Modest t) (ha : StrS t 0 a) (hb : StrS t 1 b) :
   zW Tryz.prog 81 [.ro (zZ t) 0 t.length, .ro (zAO a) 0 a.length, .ro (zAO b) 0 b.length] (.ro (qsC (zU t (zA1 t a b))) 0 t.length) := by
 have h1 := zMe t (zA1 t a b) 141 [.rp (.box [zDD a, zDD b]) 0 0] rfl rfl hT hv (playS_G hv hm ha hb) (fun i hi hk => by
   have hp := zC4 hv hi hk
   rcases hp with hp | hp
   · obtain ⟨c, c1, c2, c3⟩ := ha.node hv hi hk hp
     have := zKx (t.getD i node0) a b (.inl hp) c (by rw [if_pos hp]; exact c1) c2
     have e : zA1 t a b i = some (c.odds.map zAU) := by unfold zA1 zDd; rw [if_neg (by omega), if_pos hk, if_pos hp, c3]
     rw [e]; exact this
   · obtain ⟨c, c1, c2, c3⟩ := hb.node hv hi hk hp
     have := zKx (t.getD i node0) a b (.inr hp) c (by rw [if_neg (by omega)]; exact c1) c2
     have e : zA1 t a b i = some (c.odds.map zAU) := by unfold zA1 zDd; rw [if_neg (by omega), if_pos hk, if_neg (by omega), c3]
     rw [e]; exact this)
 have ca := ha.call
 have cb := hb.call
 refine zM.value0 (zG (P := Tryz.prog) (fn := Tryz.f81) rfl rfl (by kernel_rfl) rfl (fun c hR hfix => ?_)) (fix := fun _ => False) (fun _ h => h) rfl rfl
 refine rn0 ?_
 refine zF rfl rfl rfl ca ?_
 repeat (refine zB (zH rfl) ?_)
 refine zF rfl rfl rfl cb ?_
 skip
 refine zB (q_buildM rfl rfl rfl rfl rfl rfl) ?_
 skip
 refine zKp rfl rfl rfl ?_
 skip
 refine zQ (c' := .box [zDD a, zDD b]) rfl rfl rfl rfl rfl Nat.zero_lt_one rfl rfl (fun i' j' hi' hj' => ?_) ?_
 · rw [if_pos (Nat.lt_one_iff.1 hi')]; rfl
 repeat (first | refine zC ?_ | refine zA ?_ | refine zY ?_)
 refine zCl [some ⟨219, .box [zDD a, zDD b]⟩] rfl ?_
 refine ax_fzOne (o := ⟨219, .box [zDD a, zDD b]⟩) (v := .ptr 0 0 0) 7 [(0, .ro (zZ t) 0 t.length)] (.rp (.box [zDD a, zDD b]) 0 0) (zLa a b) rfl rfl (fun o ho => by simp at ho; subst ho; exact Nat.zero_lt_one) rfl ⟨rfl, rfl, trivial⟩ ⟨rfl, trivial⟩ rfl (by rw [hfix]; exact fun h hh => hh) ?_
 repeat (first | refine zB (zH rfl) ?_ | refine zJ rfl ?_ | refine zB (zHl rfl) ?_)
 refine zF rfl rfl rfl h1 ?_
 refine rn0 ?_
 exact zI hR rfl rfl
theorem rof_ok (t : zT) (a b : zAX) (hT : ShortT t) (hv : Valid t) (hm : Go.Ax.Rt.Modest t) (ha : StrS t 0 a) (hb : StrS t 1 b) :
   zW Tryz.prog 77 [.ro (zZ t) 0 t.length, .ro (zAO a) 0 a.length, .ro (zAO b) 0 b.length] (qA (zBU t (zA1 t a b))) := by
 have h1 := zKy t a b hT hv hm ha hb
 have hml := hm.len
 have h2 := zOK t (by omega)
 have hel := zFA t t.length
 have hw := zNw hv hm ha.str hb.str
 have hrl : (zU t (zA1 t a b)).length = t.length := zCI t _ _
 refine zM.value0 (zG (P := Tryz.prog) (fn := Tryz.f77) rfl rfl (by kernel_rfl) rfl (fun c hR hfix => ?_)) (fix := fun _ => False) (fun _ h => h) rfl rfl
 refine rn4 ?_
 refine zF rfl rfl rfl h1 ?_
 refine rn0 ?_
 refine zF rfl rfl rfl zHo ?_
 repeat (refine zBF rfl rfl rfl ?_)
 refine zQ (c' := .box (zAB 0)) rfl rfl rfl rfl rfl Nat.zero_lt_one rfl rfl (fun i' j' hi' hj' => ?_) ?_
 · rw [if_pos (Nat.lt_one_iff.1 hi')]; rfl
 refine rn0 ?_
 refine zF rfl rfl rfl h2 ?_
 refine rn3 ?_
 have hEl : (zAY t t.length).length = (zt t).length := by rw [zGd, List.length_map]
 refine zj (ι := Nat) (fun k => [(0, .ro (zZ t) 0 t.length), (6, .ptr 0 0 0), (7, .ro (qsC (zU t (zA1 t a b))) 0 t.length), (8, .ptr 1 0 0), (17, .ro (.ints .i64 (zAY t t.length)) 0 (zAY t t.length).length), (18, .int .i64 ((zAY t t.length).length : Nat)), (19, .int .i64 (k : Nat))]) (fun k => [some ⟨122, .box [.bool false, .nil, .nil]⟩, some ⟨122, .box (zAB (zJX t (zA1 t a b) k))⟩])
   (fun k => k ≤ (zAY t t.length).length) (fun k => (zAY t t.length).length - k) 0 ⟨⟨rfl, rfl, rfl, rfl, rfl, rfl, rfl, trivial⟩, rfl, Nat.zero_le _⟩ ?_
 intro k hk
 refine rn4 ?_
 refine zE rfl (fun h => ?_) (fun h => ?_)
 · have hk' : k < (zt t).length := by omega
   have hi0 := zK1 t hk'
   obtain ⟨i1, i2⟩ := zCw (zAr (l := zt t) 0 hk')
   have hsuc := zPZ t (zA1 t a b) hk'
   have hpay := zHw hv i1 i2
   have hpl := (hT.node _ (zAr node0 i1)).pay
   have cp := zFr (t.getD ((zt t).getD k 0) node0).pay hpl hpay
   have dr := zD0 hv hw hml i1
   have dp := (hm.pays hv).dig _ i1 i2
   have hsum : D (1 + k * 494) (zJX t (zA1 t a b) k) := by
     unfold zJX
     refine (sumQ_Dk (k := 493) (l := ((zt t).take k).map (zEx t (zU t (zA1 t a b)))) (fun q hq => ?_) (j := 1) (acc := 0) ⟨by decide, by decide⟩).mono ?_
     · obtain ⟨x, hx, rfl⟩ := List.mem_map.1 hq
       obtain ⟨x1, x2⟩ := zCw (List.mem_of_mem_take hx)
       exact ((zD0 hv hw hml x1).mul ((hm.pays hv).dig _ x1 x2)).mono (by decide)
     · rw [List.length_map, List.length_take]
       have : min k (zt t).length * 494 ≤ k * 494 := Nat.mul_le_mul_right _ (Nat.min_le_left _ _)
       omega
   have cm := zLW _ _ (zGH (dr.mono (show 12 * 40 + 1 ≤ 9 * 100000 by decide))) (zGH (dp.mono (by decide)))
   have hend : zEx t (zU t (zA1 t a b)) ((zt t).getD k 0) = (zU t (zA1 t a b)).getD ((zt t).getD k 0) 0 * zAU (t.getD ((zt t).getD k 0) node0).pay := rfl
   have cm : zW Tryz.prog 105 [qA ((zU t (zA1 t a b)).getD ((zt t).getD k 0) 0), qA (zAU (t.getD ((zt t).getD k 0) node0).pay)] (qA (zEx t (zU t (zA1 t a b)) ((zt t).getD k 0))) := cm
   have ca := zIo (zJX t (zA1 t a b) k) (zEx t (zU t (zA1 t a b)) ((zt t).getD k 0)) (zGH (hsum.mono (by omega))) (by
     rw [hend]; exact zGH ((dr.mul dp).mono (by decide)))
   rw [← hsuc] at ca
   have hdk : k < (zAY t t.length).length := by omega
   generalize hV2 : zJX t (zA1 t a b) (k + 1) = V2 at *
   generalize zJX t (zA1 t a b) k = V at *
   generalize hE : zEx t (zU t (zA1 t a b)) ((zt t).getD k 0) = E at *
   generalize (zt t).getD k 0 = i at *
   repeat (first | refine zA ?_ | refine zY ?_ | refine zz ?_ | refine zl ?_)
   refine zJ rfl ?_
   repeat (first | refine zB (zK rfl) ?_ | refine zB (zA3 rfl rfl rfl) ?_ | refine zC ?_ | refine zA ?_ | refine zB (ze rfl rfl rfl rfl (by first | (simp only [Nat.zero_add, Int.toNat_natCast, Int.toNat_zero]; exact rfl) | exact rfl) (by omega)) ?_)
   refine zAc 10 (.int .i64 (i : Nat)) rfl (AEq.of_eq (by rw [← hi0])) ?_
   skip
   refine zm (by kernel_rfl) ?_
   refine z8 (fuel := 1) [0, 1, 2, 3, 4, 5, 6, 7, 8, 9, 10, 11, 12] [(10, .int .i64 (i : Nat)), (0, .ro (zZ t) 0 t.length), (6, .ptr 0 0 0), (7, .ro (qsC (zU t (zA1 t a b))) 0 t.length), (8, .ptr 1 0 0), (17, .ro (.ints .i64 (zAY t t.length)) 0 (zAY t t.length).length), (18, .int .i64 ((zAY t t.length).length : Nat)), (19, .int .i64 (k : Nat))] ⟨rfl, rfl, rfl, rfl, rfl, rfl, rfl, rfl, trivial⟩ (by kernel_rfl) (by decide) rfl rfl ?_
   refine zX rfl rfl (zw rfl rfl rfl rfl rfl rfl rfl (by first | exact Nat.zero_lt_one | assumption | omega)) ?_
   refine zX rfl rfl (zH rfl) ?_
   refine zX rfl rfl (zH rfl) ?_
   refine zX rfl rfl (ze rfl rfl rfl rfl (by first | (simp only [Nat.zero_add, Int.toNat_natCast, Int.toNat_zero]; exact rfl) | exact rfl) (by omega)) ?_
   refine zX rfl rfl (zCY rfl rfl rfl rfl rfl rfl) ?_
   refine zX rfl rfl (zH rfl) ?_
   refine zX rfl rfl (zH rfl) ?_
   refine zX rfl rfl (ze rfl rfl rfl rfl (by first | (simp only [Nat.zero_add, Int.toNat_natCast, Int.toNat_zero]; exact rfl) | exact rfl) (by omega)) ?_
   refine zX rfl rfl (zA9 rfl rfl rfl rfl rfl rfl) ?_
   refine zX rfl rfl (zCT rfl rfl rfl rfl) ?_
   refine zCV rfl rfl rfl rfl rfl cp ?_
   refine zCV rfl rfl rfl rfl rfl cm ?_
   refine zCV rfl rfl rfl rfl rfl ca ?_
   refine zAj ?_
   refine zD (is := [13]) (by kernel_rfl) (by simp) rfl ⟨fun o ho => ?_, trivial⟩
   all_goals (cases ho)
   unfold qA
   refine zQ (c' := .box (zAB V2)) rfl rfl rfl rfl rfl Nat.zero_lt_one rfl rfl (fun i' j' hi' hj' => ?_) ?_
   · rw [if_pos (Nat.lt_one_iff.1 hi')]; rfl
   refine rn1 ?_
   refine zh (by kernel_rfl) ?_
   refine rn5 ?_
   exact zN ⟨k + 1, by omega, by omega, ⟨rfl, rfl, rfl, rfl, rfl, rfl, rfl, trivial⟩, by rw [hV2]; rfl⟩
 · have hie : k = (zAY t t.length).length := by omega
   subst hie
   rw [hEl, valK_all]
   refine rn6 ?_
   refine zQ (c' := .box (zAB (zBU t (zA1 t a b)))) rfl rfl rfl rfl rfl Nat.zero_lt_one rfl rfl (fun i' j' hi' hj' => ?_) ?_
   · rw [if_pos (Nat.lt_one_iff.1 hi')]; rfl
   refine rn0 ?_
   exact zI hR rfl rfl
end Go.Proofs.YtnkealfaldjipaaGreatDoor
namespace Go.Proofs.YtnkealfaldjipaaGreatDoor
open Go.Ax Go.Ax.Bg Go.Ax.Rt Go.RowKit Go.Ax.Idx Go.Ax.Cd
attribute [local irreducible] Ax zAM QOp zM zp
set_option maxRecDepth 100000
set_option maxHeartbeats 4000000
def zDC (t : zT) (a b : zAX) : Int := if zGB t ≠ 0 then zGB t else if zCW t 0 a ≠ 0 then zCW t 0 a else zCW t 1 b
theorem zGM {t : zT} {a b : zAX} (h : zDC t a b = 0) : Valid t ∧ zCW t 0 a = 0 ∧ zCW t 1 b = 0 := by
 unfold zDC at h
 by_cases h1 : zGB t ≠ 0
 · rw [if_pos h1] at h; exact absurd h h1
 · rw [if_neg h1] at h
   by_cases h2 : zCW t 0 a ≠ 0
   · rw [if_pos h2] at h; exact absurd h h2
   · rw [if_neg h2] at h
     exact ⟨zMD (Classical.not_not.1 h1), Classical.not_not.1 h2, h⟩
theorem zHK (t : zT) (a b : zAX) (hT : ShortT t) (ha : ShortS a) (hb : ShortS b) : zW Tryz.prog 63 [.ro (zZ t) 0 t.length, .ro (zAO a) 0 a.length, .ro (zAO b) 0 b.length] (.int .i64 (zDC t a b)) := by
 have c1 := zKo t hT
 have c2 := zF4 t 0 a hT.len ha
 have c3 := zF4 t 1 b hT.len hb
 refine zM.value0 (zG (P := Tryz.prog) (fn := Tryz.f63) rfl rfl (by kernel_rfl) rfl (fun c hR hfix => ?_)) (fix := fun _ => False) (fun _ h => h) rfl rfl
 unfold zDC at hR
 generalize zGB t = e1 at *
 generalize zCW t 0 a = e2 at *
 generalize zCW t 1 b = e3 at *
 refine rn0 ?_
 refine zF rfl rfl rfl c1 ?_
 refine rn3 ?_
 refine zE rfl (fun h1 => ?_) (fun h1 => ?_)
 · rw [if_pos h1] at hR
   refine rn2 ?_
   exact zI hR rfl rfl
 rw [if_neg h1] at hR
 refine rn1 ?_
 refine zF rfl rfl rfl c2 ?_
 refine rn3 ?_
 refine zE rfl (fun h2 => ?_) (fun h2 => ?_)
 · rw [if_pos h2] at hR
   refine rn2 ?_
   exact zI hR rfl rfl
 rw [if_neg h2] at hR
 refine rn1 ?_
 refine zF rfl rfl rfl c3 ?_
 refine rn0 ?_
 exact zI hR rfl rfl
/-- few nodes, short texts -/
structure Small (t : zT) (a : List zAX) : Prop where
 sh : ShortT t
 m : Go.Ax.Rt.Modest t
 s : ∀ x ∈ a, ShortS x
 d : ∀ x ∈ a, ∀ c ∈ x, ∀ r ∈ c.odds, r.length ≤ 12
theorem Small.str {t : zT} {l : List zAX} (h : Small t l) {s : zAX} (hs : s ∈ l) {p : Int} (he : zCW t p s = 0) : StrS t p s := ⟨h.s s hs, zNP he, h.d s hs⟩
def zLS (t : zT) (a b : zAX) : zAG × Int := if zDC t a b ≠ 0 then ([], zDC t a b) else zEK (zBU t (zA1 t a b))
def zDY (t : zT) (a b : zAX) : List zAG × Int := if zDC t a b ≠ 0 then ([], zDC t a b) else zA2 (zU t (zA1 t a b))
theorem zPB (t : zT) (a b : zAX) (h : Small t [a, b]) : zW Tryz.prog 19 [.ro (zZ t) 0 t.length, .ro (zAO a) 0 a.length, .ro (zAO b) 0 b.length] (zJH (zLS t a b)) := by
 have c1 := zHK t a b h.sh (h.s a (by simp)) (h.s b (by simp))
 refine zM.value0 (zG (P := Tryz.prog) (fn := Tryz.f19) rfl rfl (by kernel_rfl) rfl (fun c hR hfix => ?_)) (fix := fun _ => False) (fun _ h => h) rfl rfl
 unfold zLS at hR
 refine rn0 ?_
 refine zF rfl rfl rfl c1 ?_
 refine rn3 ?_
 refine zE rfl (fun h1 => ?_) (fun h1 => ?_)
 · rw [if_pos h1] at hR
   refine rn2 ?_
   exact zI hR rfl rfl
 rw [if_neg h1] at hR
 obtain ⟨hv, ea, eb⟩ := zGM (Classical.not_not.1 h1)
 have sa := h.str (s := a) (by simp) ea
 have sb := h.str (s := b) (by simp) eb
 have c2 := rof_ok t a b h.sh hv h.m sa sb
 have c3 := zNx (zBU t (zA1 t a b)) (zGH ((zLE hv (zFw hv h.m sa.str sb.str) h.m.len (h.m.pays hv)).mono (show 974 ≤ 9 * 100000 by decide)))
 generalize zBU t (zA1 t a b) = q at *
 refine rn1 ?_
 refine zF rfl rfl rfl c2 ?_
 skip
 refine zF rfl rfl rfl c3 ?_
 refine rn2 ?_
 exact zI hR rfl rfl
theorem zMk (t : zT) (a b : zAX) (h : Small t [a, b]) : zW Tryz.prog 21 [.ro (zZ t) 0 t.length, .ro (zAO a) 0 a.length, .ro (zAO b) 0 b.length] (vecP (zDY t a b)) := by
 have c1 := zHK t a b h.sh (h.s a (by simp)) (h.s b (by simp))
 refine zM.value0 (zG (P := Tryz.prog) (fn := Tryz.f21) rfl rfl (by kernel_rfl) rfl (fun c hR hfix => ?_)) (fix := fun _ => False) (fun _ h => h) rfl rfl
 unfold zDY at hR
 refine rn0 ?_
 refine zF rfl rfl rfl c1 ?_
 refine rn3 ?_
 refine zE rfl (fun h1 => ?_) (fun h1 => ?_)
 · rw [if_pos h1] at hR
   repeat (first | refine zB (zH rfl) ?_ | refine zB (zK rfl) ?_ | refine zC ?_ | refine zA ?_ | refine zY ?_ | refine zJ rfl ?_)
   refine zAc 6 (.ro (.strs []) 0 0) rfl AEq.nil ?_
   refine rn2 ?_
   exact zI hR rfl rfl
 rw [if_neg h1] at hR
 obtain ⟨hv, ea, eb⟩ := zGM (Classical.not_not.1 h1)
 have sa := h.str (s := a) (by simp) ea
 have sb := h.str (s := b) (by simp) eb
 have hml := h.m.len
 have c2 := zKy t a b h.sh hv h.m sa sb
 have hrl : (zU t (zA1 t a b)).length = t.length := zCI t _ _
 obtain ⟨r, c3, hrq⟩ := zPY (zU t (zA1 t a b)) (by omega) (fun q hq => by
   obtain ⟨i, hi, rfl⟩ := List.getElem_of_mem hq
   have := zD0 hv (zNw hv h.m sa.str sb.str) hml (j := i) (by omega)
   have e : (zU t (zA1 t a b)).getD i 0 = (zU t (zA1 t a b))[i] := zAe 0 hi
   rw [← e]
   exact zGH (this.mono (by decide)))
 rw [hrl] at c3
 generalize zU t (zA1 t a b) = R at *
 refine rn1 ?_
 refine zF rfl rfl rfl c2 ?_
 skip
 refine zF rfl rfl rfl c3 ?_
 repeat (first | refine zB (zK rfl) ?_ | refine zC ?_ | refine zA ?_ | refine zB (zB8 rfl rfl) ?_)
 refine zAc 6 (.ro (.strs (zA2 R).1) 0 (zA2 R).1.length) rfl hrq ?_
 repeat (refine zAI ?_)
 exact zI hR rfl rfl
end Go.Proofs.YtnkealfaldjipaaGreatDoor
namespace Go.Ax
variable [Pins]
open Go.RowKit
/-- What a memory and a value become, once the objects of HF are only read. -/
structure Fzd (HF H0 H' : zR) (r0 r' : AV) : Prop where
 sub : subH HF H0
 rl : ∀ (h : Nat) (o : AObj), HF[h]? = some (some o) → z6 o.c
 len : H'.length = H0.length
 new : ∀ (h : Nat) (o' : AObj), H'[h]? = some (some o') → (∀ o : AObj, HF[h]? ≠ some (some o)) ∧ ∃ o : AObj, H0[h]? = some (some o) ∧ o'.ty = o.ty ∧ o'.c.len = o.c.len ∧ o'.c.kd = o.c.kd ∧ ∀ i j, i < o.c.len → j < o.c.sz → FzTo HF (o.c.at i j) (o'.c.at i j)
 res : FzTo HF r0 r'
theorem zM.freeze0 {P : Program} {f : FuncId} {args : List AV} {K K' : AV → zR → Prop} (hc : zM P f args [] (fun _ => False) K)
   (hK : ∀ r0 H0, K r0 H0 → ∃ HF H' r', Fzd HF H0 H' r0 r' ∧ K' r' H') : zM P f args [] (fun _ => False) K' := by
 refine ⟨hc.1, fun w σ0 S vals hp hrep hf hv => ?_⟩
 refine (hc.2 w σ0 S vals hp hrep hf hv).mono ?_
 rintro e w' ⟨v, r0, σ, S0, H0, rfl, g1, g2, g3, g4⟩
 obtain ⟨HF, H', r', ⟨hsub, hrl, hlen, hH, hres⟩, hk'⟩ := hK r0 H0 g4
 have hlive : zJL w' S0 σ HF := fun h o ho => g1.live h o (hsub h o ho)
 let S' : Nat → Prop := fun b => S0 b ∨ ∃ h o s C, HF[h]? = some (some o) ∧ σ h = some (.at b s C)
 have hup : ∀ {σ1 : Nat → Option Blk} {x v}, VR w' S0 σ1 x v → VR w' S' σ1 x v := fun h => h.mono (fun _ h => .inl h) (fun _ _ => rfl) _ (fun _ _ h => h)
 have hfz : ∀ {x y v}, FzTo HF x y → VR w' S0 σ x v → VR w' S' σ y v := by
   intro x y v h hv
   rcases h with rfl | rfl | ⟨rfl, hin⟩
   · exact hup hv
   · exact .any _ _
   · exact VR.freeze hlive hrl (fun _ h => .inl h) (fun h o b s C h1 h2 => .inr ⟨h, o, s, C, h1, h2⟩) hv σ hin
 refine ⟨v, r', σ, S', H', rfl, ⟨fun h o' ho' => ?_, fun h1 h2 o1 o2 b s C s' C' q1 q2 e1 e2 => ?_, fun b hb => ?_, fun h hl => g1.dom h (by omega)⟩, hfz hres g2, ⟨g3.os, g3.output, g3.tape, g3.size, g3.block, fun b hb => .inl (g3.S1 b hb), fun b hb => ?_, fun _ h => h.elim, fun _ h => h.elim, fun h o b s C q e => ?_⟩, hk'⟩
 · obtain ⟨hno, o, h1, h2, h3, h4, h5⟩ := hH h o' ho'
   rw [h3, zMg h4]
   rcases g1.live h o h1 with g | ⟨b, C, cur, q1, q2, q3, q4, q5, q6, q7⟩
   · exact .inl g
   · refine .inr ⟨b, C, cur, q1, (q2.mono rfl hup).kd h2 h4, q3, q4, q5, ?_, fun i j hi hj => ?_⟩
     · rintro (hs | ⟨h', o2, s2, C2, u1, u2⟩)
       · exact q6 hs
       · have := g1.dist h h' o o2 b _ C s2 C2 h1 (hsub h' o2 u1) q1 u2
         subst this
         exact hno o2 u1
     · obtain ⟨v, e1, e2, e3⟩ := q7 i j hi hj
       exact ⟨v, e1, hfz (h5 i j hi hj) e2, e3⟩
 · obtain ⟨_, p, p1, _⟩ := hH h1 o1 q1
   obtain ⟨_, p', p1', _⟩ := hH h2 o2 q2
   exact g1.dist h1 h2 p p' b s C s' C' p1 p1' e1 e2
 · rcases hb with hs | ⟨h, o, s, C, q1, q2⟩
   · exact g1.small b hs
   · rcases g1.live h o (hsub h o q1) with ⟨gn, _⟩ | ⟨b', C', cur, hσ, g, _⟩
     · rw [q2] at gn; cases gn
     · rw [q2] at hσ
       simp only [Option.some.injEq, Blk.at.injEq] at hσ
       rw [hσ.1]
       exact g.lt
 · rcases hb with hs | ⟨h, o, s, C, q1, q2⟩
   · exact g3.S2 b hs
   · rcases g3.own h o b s C (hsub h o q1) q2 with g | g
     · exact .inr (.inl g)
     · exact .inr (.inr g)
 · obtain ⟨_, p, p1, _⟩ := hH h o q
   exact g3.own h p b s C p1 e
end Go.Ax
namespace Go.Ax.Rt
open Go.Ax.Bg
structure Fin2 (B M : Nat) (q : Rat) : Prop where
 dv : Dv B q
 le : q ≤ (M : Rat)
 ge : -q ≤ (M : Rat)
theorem zFc {M N : Nat} (h : M ≤ N) : (M : Rat) ≤ (N : Rat) := by
 have h1 : ((M : Int) : Rat) ≤ ((N : Int) : Rat) := Rat.intCast_le_intCast.2 (by omega)
 rwa [Rat.intCast_natCast, Rat.intCast_natCast] at h1
theorem Fin2.mono {B M N : Nat} {q : Rat} (h : Fin2 B M q) (hm : M ≤ N) : Fin2 B N q :=
 ⟨h.dv, Rat.le_trans h.le (zFc hm), Rat.le_trans h.ge (zFc hm)⟩
theorem Fin2.zero (B M : Nat) : Fin2 B M 0 := by
 have h : (0 : Rat) ≤ (M : Rat) := zFc (Nat.zero_le M)
 exact ⟨Dv.zero B, h, by rw [Rat.neg_zero]; exact h⟩
theorem Fin2.add {B M N : Nat} {a b : Rat} (ha : Fin2 B M a) (hb : Fin2 B N b) : Fin2 B (M + N) (a + b) := by
 refine ⟨ha.dv.add hb.dv, ?_, ?_⟩
 · rw [Rat.natCast_add]
   exact Rat.le_trans ((Rat.add_le_add_right (c := b)).2 ha.le) ((Rat.add_le_add_left (c := (M : Rat))).2 hb.le)
 · rw [Rat.natCast_add, Rat.neg_add]
   exact Rat.le_trans ((Rat.add_le_add_right (c := -b)).2 ha.ge) ((Rat.add_le_add_left (c := (M : Rat))).2 hb.ge)
theorem Dv.neg {B : Nat} {q : Rat} (h : Dv B q) : Dv B (-q) := by
 obtain ⟨z, hz⟩ := h
 exact ⟨-z, by rw [Rat.neg_mul, hz, Rat.intCast_neg]⟩
theorem Fin2.neg {B M : Nat} {q : Rat} (h : Fin2 B M q) : Fin2 B M (-q) := ⟨h.dv.neg, h.ge, by rw [Rat.neg_neg]; exact h.le⟩
theorem Fin2.D {B M K : Nat} {q : Rat} (h : Fin2 B M q) (hB : B ≠ 0) (hM : M * B < 10 ^ K) (hK : B < 10 ^ K) : D K q := bnd_D h.dv hB h.le h.ge hM hK
def sumB (t : zT) (o : z7) : Nat := Bd o t.length * payB t
theorem sumB_pos (t : zT) (o : z7) : 0 < sumB t o := Nat.mul_pos (zJq o _) (zKA t)
theorem endG_fin {t : zT} (h : Valid t) {o : z7} {d e : Nat} (ho : OddsW t o d) (hp : Pays t e) {p : Int} {i : Nat} (hi : i < t.length) (hk : (t.getD i node0).kind = 0) : Fin2 (sumB t o) (10 ^ e) (endG t p (zU t o) i) := by
 obtain ⟨g1, g2, g3⟩ := zOU h ho i hi
 have h6 := zHA o (i := i) (t.length - i)
 rw [show i + (t.length - i) = t.length by omega] at h6
 obtain ⟨p1, p2⟩ := D_le (hp.dig i hi hk)
 have key : ∀ x : Rat, x ≤ ((10 ^ e : Nat) : Rat) → (zU t o).getD i 0 * x ≤ ((10 ^ e : Nat) : Rat) := by
   intro x hx
   have h0 : (0 : Rat) ≤ ((10 ^ e : Nat) : Rat) := zFc (Nat.zero_le _)
   have h1 := Rat.mul_le_mul_of_nonneg_left hx g2
   have h2 := Rat.mul_le_mul_of_nonneg_right g3 h0
   rw [Rat.one_mul] at h2
   exact Rat.le_trans h1 h2
 have hf : Fin2 (sumB t o) (10 ^ e) (zEx t (zU t o) i) := by
   refine ⟨(g1.mono h6).mul (Dv.of_den.mono (zMf hi hk)), key _ p1, ?_⟩
   unfold zEx
   rw [← Rat.mul_neg]
   exact key _ p2
 unfold endG
 split
 · exact hf.neg
 · exact hf
/-- the sums after k ends -/
def zDe (t : zT) (p : Int) (o : z7) (k : Nat) : List Rat := zFI (endG t p (zU t o)) (zBo t p) ((zt t).take k) (List.replicate (zf t p).length 0)
theorem zJU (t : zT) (p : Int) (o : z7) : zDe t p o 0 = List.replicate (zf t p).length 0 := by
 unfold zDe; rw [List.take_zero]; rfl
theorem zKT (t : zT) (p : Int) (o : z7) : zDe t p o (zt t).length = zGD t p o := by
 unfold zDe zGD; rw [List.take_length]
theorem zPr (t : zT) (p : Int) (o : z7) (k : Nat) : (zDe t p o k).length = (zf t p).length := by
 unfold zDe; rw [zIH, List.length_replicate]
theorem zJF (t : zT) (p : Int) (o : z7) {k : Nat} (hk : k < (zt t).length) : zDe t p o (k + 1) = (zDe t p o k).set ((zBo t p).getD ((zt t).getD k 0) 0).toNat ((zDe t p o k).getD ((zBo t p).getD ((zt t).getD k 0) 0).toNat 0 + endG t p (zU t o) ((zt t).getD k 0)) := by
 unfold zDe
 rw [List.take_succ_eq_append_getElem hk, zJu, zAe 0 hk]
theorem zOn {B M : Nat} {S : List Rat} (hS : ∀ j, Fin2 B M (S.getD j 0)) (x : Nat) {y : Rat} (hy : Fin2 B M y) : ∀ j, Fin2 B M ((S.set x y).getD j 0) := by
 intro j
 rw [Go.Ax.Dt.getD_set]
 split
 · exact hy
 · exact hS j
theorem zID {t : zT} (h : Valid t) {o : z7} {d e : Nat} (ho : OddsW t o d) (hp : Pays t e) (p : Int) : ∀ k, k ≤ (zt t).length → ∀ j, Fin2 (sumB t o) (k * 10 ^ e) ((zDe t p o k).getD j 0)
 | 0, _, j => by
   rw [zJU]
   have : (List.replicate (zf t p).length (0 : Rat)).getD j 0 = 0 := by
     simp only [List.getD, List.getElem?_replicate]
     split <;> rfl
   rw [this]
   exact Fin2.zero _ _
 | k + 1, hk, j => by
   have ih := zID h ho hp p k (by omega)
   have hk' : k < (zt t).length := by omega
   obtain ⟨i1, i2⟩ := zCw (zAr (l := zt t) 0 hk')
   rw [zJF t p o hk']
   have e1 : (k + 1) * 10 ^ e = k * 10 ^ e + 10 ^ e := by rw [Nat.add_mul, Nat.one_mul]
   rw [e1]
   refine zOn (fun j => (ih j).mono (Nat.le_add_right _ _)) _ ?_ j
   exact (ih _).add (endG_fin h ho hp i1 i2)
/-- all sums of a best reply, after a number of steps -/
structure Sums (t : zT) (o : z7) (p : Int) (S : List Rat) (j : Nat) : Prop where
 len : S.length = (zf t p).length
 fin : ∀ k, Fin2 (sumB t o) (41 * 10 ^ 12 * 2 ^ j) (S.getD k 0)
theorem Sums.step {t : zT} {o : z7} {p : Int} {S : List Rat} {j : Nat} (h : Sums t o p S j) (a b : Nat) : Sums t o p (S.set a (S.getD a 0 + S.getD b 0)) (j + 1) := by
 refine ⟨by rw [List.length_set]; exact h.len, ?_⟩
 have e1 : 41 * 10 ^ 12 * 2 ^ (j + 1) = 41 * 10 ^ 12 * 2 ^ j + 41 * 10 ^ 12 * 2 ^ j := by rw [Nat.pow_succ, ← Nat.mul_assoc]; omega
 rw [e1]
 exact zOn (fun k => (h.fin k).mono (Nat.le_add_right _ _)) a ((h.fin a).add (h.fin b))
theorem lt_ten {a b x y n : Nat} (h1 : a ≤ 10 ^ x) (h2 : b ≤ 10 ^ y) (h : x + y < n) : a * b < 10 ^ n := by
 have h12 := Nat.mul_le_mul h1 h2
 rw [← Nat.pow_add] at h12
 exact Nat.lt_of_le_of_lt h12 (Nat.pow_lt_pow_right (by decide) h)
def bigE : Nat := 961
theorem zOf {t : zT} {o : z7} (ho : OddsW t o 12) (hn : t.length ≤ 40) (hp : Pays t 12) (hv : Valid t) : sumB t o < 10 ^ bigE := by
 have h7 := Bd_w ho t.length (Nat.le_refl _)
 rw [List.take_length] at h7
 have h8 := zJt hv
 exact lt_ten h7 (zOC hp) (by unfold bigE; omega)
def zEv : Nat := 1000
theorem Fin2.short {t : zT} {o : z7} {M : Nat} {q : Rat} (h : Fin2 (sumB t o) M q) (hB : sumB t o < 10 ^ bigE) (hM : M ≤ 10 ^ 39) : Rt.D zEv q := by
 have h0 := sumB_pos t o
 refine h.D (by omega) ?_ (Nat.lt_of_lt_of_le hB (Nat.pow_le_pow_right (by decide) (by decide)))
 refine Nat.lt_of_le_of_lt (Nat.mul_le_mul_right _ hM) ?_
 have := (Nat.mul_lt_mul_left (a := 10 ^ 39) (Nat.pow_pos (by decide))).2 hB
 rw [← Nat.pow_add] at this
 exact Nat.lt_of_lt_of_le this (Nat.pow_le_pow_right (by decide) (by decide))
theorem Sums.short {t : zT} {o : z7} {p : Int} {S : List Rat} {j : Nat} (h : Sums t o p S j) (hB : sumB t o < 10 ^ bigE) (hj : j ≤ 61) (k : Nat) : D zEv (S.getD k 0) := by
 refine (h.fin k).short hB ?_
 have h1 : 2 ^ j ≤ 2 ^ 61 := Nat.pow_le_pow_right (by decide) hj
 exact Nat.le_trans (Nat.mul_le_mul_left _ h1) (by decide)
theorem zMr {t : zT} (h : Valid t) {o : z7} (ho : OddsW t o 12) (hn : t.length ≤ 40) (hp : Pays t 12) (p : Int) {k : Nat} (hk : k ≤ (zt t).length) (j : Nat) : D zEv ((zDe t p o k).getD j 0) := by
 have hB := zOf ho hn hp h
 have he : (zt t).length ≤ t.length := by
   unfold zt
   refine Nat.le_trans (List.length_filter_le _ _) ?_
   rw [List.length_range]; exact Nat.le_refl _
 refine (zID h ho hp p k hk j).short hB ?_
 have : k * 10 ^ 12 ≤ 40 * 10 ^ 12 := Nat.mul_le_mul_right _ (by omega)
 exact Nat.le_trans this (by decide)
theorem zND {t : zT} (h : Valid t) {o : z7} (ho : OddsW t o 12) (hn : t.length ≤ 40) (hp : Pays t 12) (p : Int) : Sums t o p (zGD t p o) 0 := by
 have he : (zt t).length ≤ t.length := by
   unfold zt
   refine Nat.le_trans (List.length_filter_le _ _) ?_
   rw [List.length_range]; exact Nat.le_refl _
 refine ⟨zKf t p o, fun k => ?_⟩
 rw [← zKT]
 refine (zID h ho hp p _ (Nat.le_refl _) k).mono ?_
 rw [Nat.pow_zero, Nat.mul_one]
 exact Nat.mul_le_mul_right _ (by omega)
/-- Where the way back from the last sequence stands. -/
structure Back (t : zT) (p : Int) (o : z7) (e : Nat) (S : List Rat) (C : List (Int × Int)) (j : Nat) : Prop where
 bnd : Bnd t p e
 sums : Sums t o p S j
 few : j + e ≤ (zf t p).length
 cho : Chosen t p e C
 rest : ∃ f, e ≤ f + 1 ∧ zFi (zf t p) f (e, S, C) = zBG t p o
theorem Back.top {t : zT} (h : Valid t) {o : z7} (ho : OddsW t o 12) (hn : t.length ≤ 40) (hp : Pays t 12) (p : Int) : Back t p o (zf t p).length (zGD t p o) [] 0 :=
 ⟨Bnd.top h p, zND h ho hn hp p, by omega, Chosen.top h p, _, by omega, rfl⟩
theorem Back.step {t : zT} (hv : Valid t) {p : Int} {o : z7} {e : Nat} {S : List Rat} {C : List (Int × Int)} {j : Nat} (h : Back t p o e S C j) (he : 1 < e) {x : Int × Nat} {b : Nat} (hb : Blk t p e x b) :
   Back t p o x.2 (S.set b (S.getD b 0 + S.getD (zAf S x.2 (zc t p x.1)) 0)) (C ++ [(x.1, ((zAf S x.2 (zc t p x.1) - x.2 : Nat) : Int))]) (j + 1) := by
 obtain ⟨f, f1, f2⟩ := h.rest
 have h1 := hb.fin
 have h2 := hb.w1
 have h3 := h.few
 obtain ⟨q1, _, q3⟩ := zDy S x.2 (zc t p x.1)
 have q3 := q3 h2
 obtain ⟨f', rfl⟩ : ∃ f', f = f' + 1 := ⟨f - 1, by omega⟩
 rw [zFi, if_pos (show 1 < (e, S, C).1 from he), hb.step] at f2
 exact ⟨hb.bnd, h.sums.step _ _, by omega, hb.chosen hv h.cho (by omega), f', by omega, f2⟩
theorem Back.stop {t : zT} {p : Int} {o : z7} {e : Nat} {S : List Rat} {C : List (Int × Int)} {j : Nat} (h : Back t p o e S C j) (he : ¬ 1 < e) : zBG t p o = (1, S, C) := by
 obtain ⟨f, f1, f2⟩ := h.rest
 have h1 := h.bnd.one
 obtain rfl : e = 1 := by omega
 rw [← f2]
 cases f with
 | zero => rfl
 | succ f => rw [zFi, if_neg (Nat.lt_irrefl 1)]
end Go.Ax.Rt
namespace Go.Proofs.YtnkealfaldjipaaGreatDoor
open Go.Ax Go.Ax.Bg Go.Ax.Rt Go.RowKit Go.Ax.Idx Go.Ax.Cd
attribute [local irreducible] Ax zAM QOp zM zp
set_option maxRecDepth 100000
set_option maxHeartbeats 4000000
abbrev zCu (t : zT) (p : Int) : AV := .rp (.box [.ro (zIL (zf t p)) 0 (zf t p).length, .ro (.ints .i64 (zBo t p)) 0 t.length]) 0 0
/-- recall.Of, whose result is only read -/
theorem of_ro (t : zT) (p : Int) (hT : ShortT t) (hv : Valid t) : zW Tryz.prog 106 [.ro (zZ t) 0 t.length, .int .i64 p] (zCu t p) := by
 have hpl : (zAD t p t.length).pos.length = t.length := zEM t p _
 refine zM.value (K := fun r H => r = .ptr 2 0 0 ∧ H = [none, none, some ⟨169, .box [.ro (zIL (zf t p)) 0 (zf t p).length, .ro (.ints .i64 (zBo t p)) 0 t.length]⟩, none]) (zM.freeze0 (of_ok t p hT hv) ?_) (fix := fun _ => False) (fun _ h => h) rfl ?_
 · rintro r0 H0 ⟨rfl, rfl⟩
   refine ⟨[some ⟨174, zIL (zAD t p t.length).seqs⟩, some ⟨3, .ints .i64 (zAD t p t.length).pos⟩, none, none], _, _, ⟨?_, ?_, ?_, ?_, .inl rfl⟩, rfl, rfl⟩
   · intro h o ho
     match h, ho with
     | 0, ho => exact ho
     | 1, ho => exact ho
     | 2, ho => simp at ho
     | 3, ho => simp at ho
     | _ + 4, ho => simp at ho
   · intro h o ho
     match h, ho with
     | 0, ho => cases ho; exact zLD _
     | 1, ho => cases ho; exact zAQ
     | 2, ho => simp at ho
     | 3, ho => simp at ho
     | _ + 4, ho => simp at ho
   · rfl
   · intro h o ho
     match h, ho with
     | 0, ho => simp at ho
     | 1, ho => simp at ho
     | 2, ho =>
       cases ho
       refine ⟨fun o h => by simp at h, _, rfl, rfl, rfl, rfl, fun i j hi hj => ?_⟩
       have hj : j < 2 := hj
       obtain rfl := Nat.lt_one_iff.1 (show i < 1 from hi)
       match j, hj with
       | 0, _ => exact .inr (.inr ⟨rfl, fun o ho => by cases ho; show 0 + (zAD t p t.length).seqs.length ≤ (zAD t p t.length).seqs.length; omega⟩)
       | 1, _ => exact .inr (.inr ⟨rfl, fun o ho => by cases ho; show 0 + t.length ≤ (zAD t p t.length).pos.length; omega⟩)
     | 3, ho => simp at ho
     | _ + 4, ho => simp at ho
 · rintro r H ⟨rfl, rfl⟩
   refine ⟨rfl, fun o ho => by cases ho; exact Nat.zero_lt_one, fun h o ho => ?_⟩
   match h, ho with
   | 0, ho => simp at ho
   | 1, ho => simp at ho
   | 2, ho =>
     cases ho
     intro i j _ hj
     have hj : j < 2 := hj
     match j, hj with
     | 0, _ => rfl
     | 1, _ => rfl
   | 3, ho => simp at ho
   | _ + 4, ho => simp at ho
theorem zM1 (n : TNode) (p : Int) (s : zAX) (c : TChoice) (hc : n.player ≠ p → c ∈ s ∧ c.info = n.info) : zW Tryz.prog 134 [.agg (zBO n), .rp (.box [.int .i64 p]) 0 0, .rp (.box [zDD s]) 0 0] (if n.player = p then .nil else .ro (qsC (c.odds.map zAU)) 0 (c.odds.map zAU).length) := by
 obtain ⟨kd, pl, nf, nx, od, py⟩ := n
 simp only at *
 by_cases hp : pl = p
 · rw [if_pos hp]
   refine zM.value0 (zG (P := Tryz.prog) (fn := Tryz.f134) rfl rfl (by kernel_rfl) rfl (fun c hR hfix => ?_)) (fix := fun _ => False) (fun _ h => h) rfl rfl
   unfold zBO
   simp only
   repeat (first | refine zB (zK rfl) ?_ | refine zC ?_ | refine zA ?_ | refine zY ?_ | refine zJ rfl ?_ | refine zB (zS rfl rfl rfl rfl rfl) ?_ | refine zB (zEe rfl rfl) ?_ | refine zB (zAg rfl rfl rfl rfl) ?_ | refine zB (zP rfl rfl rfl rfl rfl rfl) ?_ | refine zEq rfl rfl ?_)
   rw [decide_eq_true hp]
   refine rn5 ?_
   exact zI hR rfl rfl
 · rw [if_neg hp]
   obtain ⟨h1, h2⟩ := hc hp
   obtain ⟨jj, i1, i2⟩ := zKX h1
   rw [h2] at i1
   refine zM.value0 (zG (P := Tryz.prog) (fn := Tryz.f134) rfl rfl (by kernel_rfl) rfl (fun c hR hfix => ?_)) (fix := fun _ => False) (fun _ h => h) rfl rfl
   unfold zBO
   simp only
   repeat (first | refine zB (zK rfl) ?_ | refine zC ?_ | refine zA ?_ | refine zY ?_ | refine zJ rfl ?_ | refine zB (zS rfl rfl rfl rfl rfl) ?_ | refine zB (zEe rfl rfl) ?_ | refine zB (zAg rfl rfl rfl rfl) ?_ | refine zB (zP rfl rfl rfl rfl rfl rfl) ?_ | refine zEq rfl rfl ?_)
   rw [decide_eq_false hp]
   repeat (first | refine zA ?_ | refine zY ?_ | refine zJ rfl ?_ | refine zAN rfl ?_ | refine zl ?_ | refine zB (zS rfl rfl rfl rfl rfl) ?_ | refine zB (zAg rfl rfl rfl rfl) ?_ | refine zB (zP rfl rfl rfl rfl rfl rfl) ?_)
   refine zB (zBQ rfl (.int rfl) rfl rfl rfl rfl (keysC s) jj i1 i2) ?_
   refine rn0 ?_
   exact zI hR rfl rfl
end Go.Proofs.YtnkealfaldjipaaGreatDoor
namespace Go.Proofs.YtnkealfaldjipaaGreatDoor
open Go.Ax Go.Ax.Bg Go.Ax.Rt Go.RowKit Go.Ax.Idx Go.Ax.Cd
attribute [local irreducible] Ax zAM QOp zM zp
set_option maxRecDepth 100000
set_option maxHeartbeats 4000000
def keyB (y : Int × Int) : AV := .int .i64 y.1
def valB (y : Int × Int) : AV := .int .i64 y.2
abbrev choC (C : List (Int × Int)) : Cells := .mp (C.map keyB) (C.map valB)
theorem keysB (C : List (Int × Int)) : ∀ x ∈ C.map keyB, zC0 (.int .i64) x = true := by
 intro x hx
 obtain ⟨e, _, rfl⟩ := List.mem_map.1 hx
 rfl
theorem newB {C : List (Int × Int)} {x : Int} (h : x ∉ C.map Prod.fst) : AV.int .i64 x ∉ C.map keyB := by
 intro hm
 obtain ⟨y, hy, e⟩ := List.mem_map.1 hm
 injection e with e1 e2
 exact h (List.mem_map.2 ⟨y, hy, e2⟩)
def zAw (t : zT) (p : Int) (s : zAX) : z7 := zGs t p (zGG s)
theorem oneS_G {t : zT} (hv : Valid t) (hm : Go.Ax.Rt.Modest t) {p : Int} (hp : p = 0 ∨ p = 1) {s : zAX} (hs : StrS t (1 - p) s) : OddsG t (zAw t p s) :=
 zOV hv hm.len (one_w hv hm hp hs.str) (fun i hi hk => by unfold zAw zGs; rw [if_pos hk]) (fun i hi hk => by unfold zAw zGs; rw [if_neg (by omega), if_neg (by omega)])
theorem zQA (t : zT) (p : Int) (s : zAX) (hT : ShortT t) (hv : Valid t) (hm : Go.Ax.Rt.Modest t) (hp : p = 0 ∨ p = 1) (hs : StrS t (1 - p) s) :
   zW Tryz.prog 133 [.ro (zZ t) 0 t.length, .fn 134 [.rp (.box [.int .i64 p]) 0 0, .rp (.box [zDD s]) 0 0]] (.ro (qsC (zU t (zAw t p s))) 0 t.length) := by
 refine zMe t (zAw t p s) 134 [.rp (.box [.int .i64 p]) 0 0, .rp (.box [zDD s]) 0 0] rfl rfl hT hv (oneS_G hv hm hp hs) (fun i hi hk => ?_)
 have hpl := zC4 hv hi hk
 by_cases h : (t.getD i node0).player = p
 · have := zM1 (t.getD i node0) p s ch0 (fun q => absurd h q)
   rw [if_pos h] at this
   have e : zAw t p s i = none := by unfold zAw zGs; rw [if_neg (by omega), if_pos hk, if_pos h]
   rw [e]; exact this
 · obtain ⟨c, c1, c2, c3⟩ := hs.node hv hi hk (by omega)
   have := zM1 (t.getD i node0) p s c (fun _ => ⟨c1, c2⟩)
   rw [if_neg h] at this
   have e : zAw t p s i = some (c.odds.map zAU) := by unfold zAw zGs; rw [if_neg (by omega), if_pos hk, if_neg h, c3]
   rw [e]; exact this
def zBt (n k : Nat) : List (Option Rat) := (List.range n).map (fun i => if i < k then some 0 else none)
theorem zNE (n k : Nat) : (zBt n k).length = n := by simp [zBt]
theorem zMZ (n : Nat) : zBt n 0 = List.replicate n none := by
 apply List.ext_getElem (by simp [zBt])
 intro i h1 h2
 simp [zBt]
theorem zNv (n : Nat) : zBt n n = (List.replicate n (0 : Rat)).map some := by
 apply List.ext_getElem (by simp [zBt])
 intro i h1 h2
 have : i < n := by simpa [zBt] using h1
 simp [zBt, this]
theorem zNy {n k : Nat} (hk : k < n) : (zBt n k).set k (some 0) = zBt n (k + 1) := by
 apply List.ext_getElem (by simp [zBt])
 intro i h1 h2
 rw [List.getElem_set]
 by_cases e : k = i
 · subst e; simp [zBt]
 · rw [if_neg e]
   have : (i < k) = (i < k + 1) := propext ⟨fun h => by omega, fun h => by omega⟩
   simp only [zBt, List.getElem_map, List.getElem_range, this]
theorem zLC (s : zAX) : z6 (.box [zDD s]) := by
 intro i j _ hj
 obtain rfl : j = 0 := by have hj : j < 1 := hj; omega
 rfl
theorem belowQ0 : ∀ (h : Nat) (o : AObj), ([none, some ⟨122, .box [.bool false, .nil, .nil]⟩] : zR)[h]? = some (some o) → zA0 2 o.c := by
 intro h o ho
 match h, ho with
 | 0, ho => simp at ho
 | 1, ho =>
   cases ho
   intro i j _ hj
   have hj : j < 3 := hj
   match j, hj with
   | 0, _ => rfl
   | 1, _ => rfl
   | 2, _ => rfl
 | _ + 2, ho => simp at ho
theorem belowQ1 (S : List Rat) : ∀ (h : Nat) (o : AObj), ([none, some ⟨122, .box [.bool false, .nil, .nil]⟩, some ⟨122, qsC S⟩] : zR)[h]? = some (some o) → zA0 3 o.c := by
 intro h o ho
 match h, ho with
 | 0, ho => simp at ho
 | 1, ho =>
   cases ho
   intro i j _ hj
   have hj : j < 3 := hj
   match j, hj with
   | 0, _ => rfl
   | 1, _ => rfl
   | 2, _ => rfl
 | 2, ho => cases ho; exact zL7 _ _
 | _ + 3, ho => simp at ho
theorem belowQ2 (S : List Rat) (C : List (Int × Int)) : ∀ (h : Nat) (o : AObj), ([none, some ⟨122, .box [.bool false, .nil, .nil]⟩, some ⟨122, qsC S⟩, some ⟨123, choC C⟩] : zR)[h]? = some (some o) → zA0 4 o.c := by
 intro h o ho
 match h, ho with
 | 0, ho => simp at ho
 | 1, ho =>
   cases ho
   intro i j _ hj
   have hj : j < 3 := hj
   match j, hj with
   | 0, _ => rfl
   | 1, _ => rfl
   | 2, _ => rfl
 | 2, ho => cases ho; exact zL7 _ _
 | 3, ho => cases ho; exact ⟨zBu (fun _ => rfl) C, zBu (fun _ => rfl) C⟩
 | _ + 4, ho => simp at ho
theorem cmp_gt (a b : Rat) : (0 < zI1 a b) = (b < a) := by
 apply propext
 unfold zI1
 constructor
 · intro h
   split at h
   · omega
   · split at h
     · omega
     · rename_i h1 h2
       rcases Rat.le_iff_lt_or_eq.1 (Rat.not_lt.1 h1) with q | q
       · exact q
       · exact absurd q.symm h2
 · intro h
   rw [if_neg (Rat.not_lt.2 (Rat.le_of_lt h)), if_neg (fun e => absurd h (by rw [e]; exact Rat.lt_irrefl))]
   omega
theorem zP0 (t : zT) (p : Int) (s : zAX) (hT : ShortT t) (hv : Valid t) (hm : Go.Ax.Rt.Modest t) (hp : p = 0 ∨ p = 1) (hs : StrS t (1 - p) s) :
   zW Tryz.prog 73 [.ro (zZ t) 0 t.length, .int .i64 p, .ro (zAO s) 0 s.length] (.tup [qA ((zBG t p (zAw t p s)).2.1.getD 0 0), .rom ((zBG t p (zAw t p s)).2.2.map keyB) ((zBG t p (zAw t p s)).2.2.map valB)]) := by
 have c1 := of_ro t p hT hv
 have c2 := hs.call
 have c3 := zQA t p s hT hv hm hp hs
 have hml := hm.len
 have c4 := zOK t (by omega)
 have hfew := zMd hv p
 have hone := (zAm hv p).2.2.1
 have hel := zFA t t.length
 have hEl : (zAY t t.length).length = (zt t).length := by rw [zGd, List.length_map]
 have hw := one_w hv hm hp hs.str
 have hpays := hm.pays hv
 have hfew : (zf t p).length ≤ 61 := hfew
 refine zM.value (K := fun r H => r = .tup [qA ((zBG t p (zAw t p s)).2.1.getD 0 0), .mp 3] ∧ H = [none, some ⟨122, .box (zAB ((zBG t p (zAw t p s)).2.1.getD 0 0))⟩, some ⟨122, qsC (zBG t p (zAw t p s)).2.1⟩, some ⟨123, choC (zBG t p (zAw t p s)).2.2⟩]) (zG (P := Tryz.prog) (fn := Tryz.f73) rfl rfl (by kernel_rfl) rfl (fun c hR hfix => ?_)) (fix := fun _ => False) (fun _ h => h) rfl ?_
 · refine rn6 ?_
   refine zB zHp ?_
   repeat (first | refine zC ?_ | refine zA ?_ | refine zY ?_)
   refine zHr [some ⟨3, .box [.int .i64 p]⟩, none] [none, some ⟨122, .box [.bool false, .nil, .nil]⟩] [(0, .ro (zZ t) 0 t.length), (1, .int .i64 p), (2, .ro (zAO s) 0 s.length), (4, .rp (.box [.int .i64 p]) 0 0), (6, .ptr 1 0 0)] ?_ ?_ rfl ?_ ⟨⟨_, rfl, .inl rfl⟩, ⟨_, rfl, .inl rfl⟩, ⟨_, rfl, .inl rfl⟩, ⟨_, rfl, .inr (.inr ⟨rfl, fun o ho => by cases ho; exact Nat.zero_lt_one⟩)⟩, ⟨_, rfl, .inl rfl⟩, trivial⟩ ?_
   · intro h o ho
     match h, ho with
     | 0, ho => exact ho
     | 1, ho => simp at ho
     | _ + 2, ho => simp at ho
   · intro h o ho
     match h, ho with
     | 0, ho => cases ho; exact boxIU _
     | 1, ho => simp at ho
     | _ + 2, ho => simp at ho
   · intro h o ho
     match h, ho with
     | 0, ho => simp at ho
     | 1, ho => cases ho; exact ⟨fun o h => by simp at h, _, rfl, rfl, rfl, rfl, fun i j _ _ => .inl rfl⟩
     | _ + 2, ho => simp at ho
   repeat (first | refine zB (zH rfl) ?_ | refine zJ rfl ?_ | refine zB (zAg rfl rfl rfl rfl) ?_)
   refine zF rfl rfl rfl c1 ?_
   refine rn0 ?_
   refine zF rfl rfl rfl c2 ?_
   skip
   refine zKp rfl rfl rfl ?_
   repeat (first | refine zC ?_ | refine zA ?_ | refine zY ?_ | refine zAi rfl rfl rfl rfl rfl rfl rfl Nat.zero_lt_one ?_)
   refine zCl [none, some ⟨122, .box [.bool false, .nil, .nil]⟩, some ⟨209, .box [zDD s]⟩] rfl ?_
   refine zAc 9 (.ptr 2 0 0) rfl (AEq.of_eq rfl) ?_
   refine zHr [none, none, some ⟨209, .box [zDD s]⟩] [none, some ⟨122, .box [.bool false, .nil, .nil]⟩, none] [(0, .ro (zZ t) 0 t.length), (4, .rp (.box [.int .i64 p]) 0 0), (6, .ptr 1 0 0), (8, zCu t p), (9, .rp (.box [zDD s]) 0 0)] ?_ ?_ rfl ?_ ⟨⟨_, rfl, .inl rfl⟩, ⟨_, rfl, .inl rfl⟩, ⟨_, rfl, .inl rfl⟩, ⟨_, rfl, .inl rfl⟩, ⟨_, rfl, .inr (.inr ⟨rfl, fun o ho => by cases ho; exact Nat.zero_lt_one⟩)⟩, trivial⟩ ?_
   · intro h o ho
     match h, ho with
     | 0, ho => simp at ho
     | 1, ho => simp at ho
     | 2, ho => exact ho
     | _ + 3, ho => simp at ho
   · intro h o ho
     match h, ho with
     | 0, ho => simp at ho
     | 1, ho => simp at ho
     | 2, ho => cases ho; exact zLC s
     | _ + 3, ho => simp at ho
   · intro h o ho
     match h, ho with
     | 0, ho => simp at ho
     | 1, ho => cases ho; exact ⟨fun o h => by simp at h, _, rfl, rfl, rfl, rfl, fun i j _ _ => .inl rfl⟩
     | 2, ho => simp at ho
     | _ + 3, ho => simp at ho
   refine zAt [none, some ⟨122, .box [.bool false, .nil, .nil]⟩] [none] [(0, .ro (zZ t) 0 t.length), (4, .rp (.box [.int .i64 p]) 0 0), (6, .ptr 1 0 0), (8, zCu t p), (9, .rp (.box [zDD s]) 0 0)] rfl ⟨rfl, rfl, rfl, rfl, rfl, trivial⟩ (fun h hh => by rw [hfix] at hh; exact absurd hh id) belowQ0 rfl ?_
   repeat (first | refine zB (zH rfl) ?_ | refine zJ rfl ?_ | refine zB (zHl rfl) ?_)
   refine zF rfl rfl rfl c3 ?_
   repeat (first | refine zB (zH rfl) ?_ | refine zB (zK rfl) ?_ | refine zC ?_ | refine zA ?_ | refine zY ?_ | refine zJ rfl ?_ | refine zB (zA8 rfl rfl rfl) ?_ | refine zB (zAg rfl rfl rfl rfl) ?_ | refine zB (zBi rfl) ?_ | refine zB (zA9 rfl rfl rfl rfl rfl rfl) ?_)
   refine zCB rfl rfl rfl rfl rfl rfl rfl rfl (by show (0 : Int) ≤ _ ∧ _ ≤ _ ∧ (56 : Int) * _ ≤ _ ∧ _; omega) ?_
   refine zAy [none, some ⟨122, .box [.bool false, .nil, .nil]⟩, some ⟨122, zsC (zBt (zf t p).length 0)⟩] (by rw [zMZ]; exact zAL.same (zAL.same (zAL.eqv (zOk _) zAL.nil))) ?_
   refine rn3 ?_
   refine zj (ι := Nat) (fun k => [(0, .ro (zZ t) 0 t.length), (4, .rp (.box [.int .i64 p]) 0 0), (6, .ptr 1 0 0), (8, zCu t p), (10, .ro (qsC (zU t (zAw t p s))) 0 t.length), (11, .sl 2 0 (zf t p).length), (36, .sl 2 0 (zf t p).length), (37, .int .i64 ((zf t p).length : Nat)), (38, .int .i64 (k : Nat))]) (fun k => [none, some ⟨122, .box [.bool false, .nil, .nil]⟩, some ⟨122, zsC (zBt (zf t p).length k)⟩])
     (fun k => k ≤ (zf t p).length) (fun k => (zf t p).length - k) 0 ⟨⟨rfl, rfl, rfl, rfl, rfl, rfl, rfl, rfl, rfl, trivial⟩, rfl, Nat.zero_le _⟩ ?_
   intro k hk
   refine rn4 ?_
   refine zE rfl (fun h => ?_) (fun h => ?_)
   · have hk' : k < (zf t p).length := by omega
     have hzl := zNE (zf t p).length k
     have hzs := zNy hk'
     have hzk : k < (zsC (zBt (zf t p).length k)).len := by show k < (zBt _ _).length; omega
     refine rn1 ?_
     refine zF rfl rfl rfl zHo ?_
     unfold qA
     repeat (refine zB (za rfl rfl rfl rfl rfl (by first | (simp only [Nat.zero_add, Int.toNat_natCast, Int.toNat_zero]; exact rfl) | exact rfl) (by omega)) ?_)
     refine zQ (c' := zsC ((zBt (zf t p).length k).set k (some 0))) rfl rfl rfl rfl rfl hzk (by show (List.set _ k _).length = _; rw [List.length_set]; rfl) rfl (fun i' j' hi' hj' => zEU none 3 zCA _ k (some 0) hzk i' j' hi' hj') ?_
     refine rn5 ?_
     exact zN ⟨k + 1, by omega, by omega, ⟨rfl, rfl, rfl, rfl, rfl, rfl, rfl, rfl, rfl, trivial⟩, by rw [← hzs]; rfl⟩
   have hke : k = (zf t p).length := by omega
   subst hke
   repeat (first | refine zA ?_ | refine zY ?_ | refine zAs ?_ | refine zq ?_ | refine zr ?_ | refine zAF ?_)
   refine zDt [none, some ⟨122, .box [.bool false, .nil, .nil]⟩, some ⟨122, qsC (zDe t p (zAw t p s) 0)⟩] (by rw [zNv, zJU]; exact zAL.same (zAL.same (zAL.eqv (zs_map _) zAL.nil))) ?_
   refine rn0 ?_
   refine zF rfl rfl rfl c4 ?_
   refine rn3 ?_
   refine zj (ι := Nat) (fun k => [(0, .ro (zZ t) 0 t.length), (4, .rp (.box [.int .i64 p]) 0 0), (6, .ptr 1 0 0), (8, zCu t p), (10, .ro (qsC (zU t (zAw t p s))) 0 t.length), (11, .sl 2 0 (zf t p).length), (47, .ro (.ints .i64 (zAY t t.length)) 0 (zAY t t.length).length), (48, .int .i64 ((zAY t t.length).length : Nat)), (49, .int .i64 (k : Nat))]) (fun k => [none, some ⟨122, .box [.bool false, .nil, .nil]⟩, some ⟨122, qsC (zDe t p (zAw t p s) k)⟩])
     (fun k => k ≤ (zAY t t.length).length) (fun k => (zAY t t.length).length - k) 0 ⟨⟨rfl, rfl, rfl, rfl, rfl, rfl, rfl, rfl, rfl, trivial⟩, rfl, Nat.zero_le _⟩ ?_
   intro k hk
   refine rn4 ?_
   refine zE rfl (fun h => ?_) (fun h => ?_)
   · have hk' : k < (zt t).length := by omega
     have hi0 := zK1 t hk'
     obtain ⟨i1, i2⟩ := zCw (zAr (l := zt t) 0 hk')
     have hsuc := zJF t p (zAw t p s) hk'
     have hSl := zPr t p (zAw t p s) k
     have hsh : ∀ j, D zEv ((zDe t p (zAw t p s) k).getD j 0) := zMr hv hw hml hpays p (k := k) (by omega)
     have hpay := zHw hv i1 i2
     have hpyl := (hT.node _ (zAr node0 i1)).pay
     have cp := zFr (t.getD ((zt t).getD k 0) node0).pay hpyl hpay
     have dr := zD0 hv hw hml i1
     have dp := hpays.dig _ i1 i2
     have cm := zLW _ _ (zGH (dr.mono (show 12 * 40 + 1 ≤ 9 * 100000 by decide))) (zGH (dp.mono (by decide)))
     have cm : zW Tryz.prog 105 [qA ((zU t (zAw t p s)).getD ((zt t).getD k 0) 0), qA (zAU (t.getD ((zt t).getD k 0) node0).pay)] (qA (zEx t (zU t (zAw t p s)) ((zt t).getD k 0))) := cm
     have dE : D 1000 (zEx t (zU t (zAw t p s)) ((zt t).getD k 0)) := (dr.mul dp).mono (by decide)
     have hpos := pos_lt hv p i1
     obtain ⟨x, hx⟩ := Int.eq_ofNat_of_zero_le hpos.1
     have hx2 : ((zBo t p).getD ((zt t).getD k 0) 0).toNat = x := by rw [hx, Int.toNat_natCast]
     rw [hx2] at hpos hsuc
     have hposl : (zBo t p).length = t.length := zEM t p _
     have hG : endG t p (zU t (zAw t p s)) ((zt t).getD k 0) = if p = 1 then -(zEx t (zU t (zAw t p s)) ((zt t).getD k 0)) else zEx t (zU t (zAw t p s)) ((zt t).getD k 0) := rfl
     rw [hG] at hsuc
     have hdk : k < (zAY t t.length).length := by omega
     have hrl : (zU t (zAw t p s)).length = t.length := zCI t _ _
     have hshx := hsh x
     clear hG hsh dr dp
     generalize hS2 : zDe t p (zAw t p s) (k + 1) = S2 at *
     generalize zDe t p (zAw t p s) k = S at *
     generalize zEx t (zU t (zAw t p s)) ((zt t).getD k 0) = E at *
     generalize (zt t).getD k 0 = i at *
     repeat (first | refine zA ?_ | refine zY ?_ | refine zz ?_ | refine zl ?_)
     refine zJ rfl ?_
     repeat (first | refine zB (zK rfl) ?_ | refine zB (zA3 rfl rfl rfl) ?_ | refine zC ?_ | refine zA ?_ | refine zY ?_ | refine zB (ze rfl rfl rfl rfl (by first | (simp only [Nat.zero_add, Int.toNat_natCast, Int.toNat_zero]; exact rfl) | exact rfl) (by omega)) ?_)
     refine zAc 14 (.int .i64 (i : Nat)) rfl (AEq.of_eq (by rw [← hi0])) ?_
     skip
     refine zm (by kernel_rfl) ?_
     apply zCM (H := [none, some ⟨122, .box [.bool false, .nil, .nil]⟩, some ⟨122, qsC S⟩, some ⟨122, .box [.bool false, .nil, .nil]⟩]) [(15, .ptr 3 0 0), (63, qA E), (14, .int .i64 (i : Nat)), (0, .ro (zZ t) 0 t.length), (4, .rp (.box [.int .i64 p]) 0 0), (6, .ptr 1 0 0), (8, zCu t p), (10, .ro (qsC (zU t (zAw t p s))) 0 t.length), (11, .sl 2 0 (zf t p).length), (47, .ro (.ints .i64 (zAY t t.length)) 0 (zAY t t.length).length), (48, .int .i64 ((zAY t t.length).length : Nat)), (49, .int .i64 (k : Nat))]
     · intro fin
       refine zO 0 rfl (by kernel_rfl) (by kernel_rfl) (by kernel_rfl) rfl (zH rfl) rfl ?_
       refine zO 1 rfl (by kernel_rfl) (by kernel_rfl) (by kernel_rfl) rfl (zH rfl) rfl ?_
       refine zO 4 rfl (by kernel_rfl) (by kernel_rfl) (by kernel_rfl) rfl (zH rfl) rfl ?_
       refine zO 5 rfl (by kernel_rfl) (by kernel_rfl) (by kernel_rfl) rfl (zH rfl) rfl ?_
       refine zO 2 rfl (by kernel_rfl) (by kernel_rfl) (by kernel_rfl) rfl (ze rfl rfl rfl rfl (by first | (simp only [Nat.zero_add, Int.toNat_natCast, Int.toNat_zero]; exact rfl) | exact rfl) (by omega)) rfl ?_
       refine zO 6 rfl (by kernel_rfl) (by kernel_rfl) (by kernel_rfl) rfl (ze rfl rfl rfl rfl (by first | (simp only [Nat.zero_add, Int.toNat_natCast, Int.toNat_zero]; exact rfl) | exact rfl) (by omega)) rfl ?_
       refine zO 7 rfl (by kernel_rfl) (by kernel_rfl) (by kernel_rfl) rfl (zA9 rfl rfl rfl rfl rfl rfl) rfl ?_
       refine zD (is := [3, 8, 11]) (by kernel_rfl) (by simp) rfl ⟨fun o ho => ?_, fun o ho => ?_, fun o ho => ?_, trivial⟩
       all_goals (cases ho)
       · refine rn6 ?_
         refine zD (is := [8, 11]) (by kernel_rfl) (by simp) rfl ⟨fun o ho => ?_, fun o ho => ?_, trivial⟩
         all_goals (cases ho)
         · refine rn6 ?_
           refine zD (is := [9, 11]) (by kernel_rfl) (by simp) rfl ⟨fun o ho => ?_, fun o ho => ?_, trivial⟩
           all_goals (cases ho)
           · refine zF rfl rfl rfl cp ?_
             refine rn1 ?_
             refine zD (is := [10, 11]) (by kernel_rfl) (by simp) rfl ⟨fun o ho => ?_, fun o ho => ?_, trivial⟩
             all_goals (cases ho)
             · refine zF rfl rfl rfl cm ?_
               refine rn1 ?_
               refine zD (is := [11]) (by kernel_rfl) (by simp) rfl ⟨fun o ho => ?_, trivial⟩
               all_goals (cases ho)
               refine rn4 ?_
               exact fin _ ⟨rfl, rfl, rfl, rfl, rfl, rfl, rfl, rfl, rfl, rfl, rfl, rfl, trivial⟩
             · refine rn4 ?_
               refine zD (is := [10]) (by kernel_rfl) (by simp) rfl ⟨fun o ho => ?_, trivial⟩
               all_goals (cases ho)
               refine zF rfl rfl rfl cm ?_
               refine rn1 ?_
               exact fin _ ⟨rfl, rfl, rfl, rfl, rfl, rfl, rfl, rfl, rfl, rfl, rfl, rfl, trivial⟩
           · refine rn4 ?_
             refine zD (is := [9]) (by kernel_rfl) (by simp) rfl ⟨fun o ho => ?_, trivial⟩
             all_goals (cases ho)
             refine zF rfl rfl rfl cp ?_
             refine rn1 ?_
             refine zD (is := [10]) (by kernel_rfl) (by simp) rfl ⟨fun o ho => ?_, trivial⟩
             all_goals (cases ho)
             refine zF rfl rfl rfl cm ?_
             refine rn1 ?_
             exact fin _ ⟨rfl, rfl, rfl, rfl, rfl, rfl, rfl, rfl, rfl, rfl, rfl, rfl, trivial⟩
         · refine rn4 ?_
           refine zD (is := [8]) (by kernel_rfl) (by simp) rfl ⟨fun o ho => ?_, trivial⟩
           all_goals (cases ho)
           refine rn6 ?_
           refine zD (is := [9]) (by kernel_rfl) (by simp) rfl ⟨fun o ho => ?_, trivial⟩
           all_goals (cases ho)
           refine zF rfl rfl rfl cp ?_
           refine rn1 ?_
           refine zD (is := [10]) (by kernel_rfl) (by simp) rfl ⟨fun o ho => ?_, trivial⟩
           all_goals (cases ho)
           refine zF rfl rfl rfl cm ?_
           refine rn1 ?_
           exact fin _ ⟨rfl, rfl, rfl, rfl, rfl, rfl, rfl, rfl, rfl, rfl, rfl, rfl, trivial⟩
       · refine rn6 ?_
         refine zD (is := [3, 9, 11]) (by kernel_rfl) (by simp) rfl ⟨fun o ho => ?_, fun o ho => ?_, fun o ho => ?_, trivial⟩
         all_goals (cases ho)
         · refine rn6 ?_
           refine zD (is := [9, 11]) (by kernel_rfl) (by simp) rfl ⟨fun o ho => ?_, fun o ho => ?_, trivial⟩
           all_goals (cases ho)
           · refine zF rfl rfl rfl cp ?_
             refine rn1 ?_
             refine zD (is := [10, 11]) (by kernel_rfl) (by simp) rfl ⟨fun o ho => ?_, fun o ho => ?_, trivial⟩
             all_goals (cases ho)
             · refine zF rfl rfl rfl cm ?_
               refine rn1 ?_
               refine zD (is := [11]) (by kernel_rfl) (by simp) rfl ⟨fun o ho => ?_, trivial⟩
               all_goals (cases ho)
               refine rn4 ?_
               exact fin _ ⟨rfl, rfl, rfl, rfl, rfl, rfl, rfl, rfl, rfl, rfl, rfl, rfl, trivial⟩
             · refine rn4 ?_
               refine zD (is := [10]) (by kernel_rfl) (by simp) rfl ⟨fun o ho => ?_, trivial⟩
               all_goals (cases ho)
               refine zF rfl rfl rfl cm ?_
               refine rn1 ?_
               exact fin _ ⟨rfl, rfl, rfl, rfl, rfl, rfl, rfl, rfl, rfl, rfl, rfl, rfl, trivial⟩
           · refine rn4 ?_
             refine zD (is := [9]) (by kernel_rfl) (by simp) rfl ⟨fun o ho => ?_, trivial⟩
             all_goals (cases ho)
             refine zF rfl rfl rfl cp ?_
             refine rn1 ?_
             refine zD (is := [10]) (by kernel_rfl) (by simp) rfl ⟨fun o ho => ?_, trivial⟩
             all_goals (cases ho)
             refine zF rfl rfl rfl cm ?_
             refine rn1 ?_
             exact fin _ ⟨rfl, rfl, rfl, rfl, rfl, rfl, rfl, rfl, rfl, rfl, rfl, rfl, trivial⟩
         · refine zF rfl rfl rfl cp ?_
           refine rn1 ?_
           refine zD (is := [3, 11]) (by kernel_rfl) (by simp) rfl ⟨fun o ho => ?_, fun o ho => ?_, trivial⟩
           all_goals (cases ho)
           · refine rn6 ?_
             refine zD (is := [10, 11]) (by kernel_rfl) (by simp) rfl ⟨fun o ho => ?_, fun o ho => ?_, trivial⟩
             all_goals (cases ho)
             · refine zF rfl rfl rfl cm ?_
               refine rn1 ?_
               refine zD (is := [11]) (by kernel_rfl) (by simp) rfl ⟨fun o ho => ?_, trivial⟩
               all_goals (cases ho)
               refine rn4 ?_
               exact fin _ ⟨rfl, rfl, rfl, rfl, rfl, rfl, rfl, rfl, rfl, rfl, rfl, rfl, trivial⟩
             · refine rn4 ?_
               refine zD (is := [10]) (by kernel_rfl) (by simp) rfl ⟨fun o ho => ?_, trivial⟩
               all_goals (cases ho)
               refine zF rfl rfl rfl cm ?_
               refine rn1 ?_
               exact fin _ ⟨rfl, rfl, rfl, rfl, rfl, rfl, rfl, rfl, rfl, rfl, rfl, rfl, trivial⟩
           · refine rn4 ?_
             refine zD (is := [3]) (by kernel_rfl) (by simp) rfl ⟨fun o ho => ?_, trivial⟩
             all_goals (cases ho)
             refine rn6 ?_
             refine zD (is := [10]) (by kernel_rfl) (by simp) rfl ⟨fun o ho => ?_, trivial⟩
             all_goals (cases ho)
             refine zF rfl rfl rfl cm ?_
             refine rn1 ?_
             exact fin _ ⟨rfl, rfl, rfl, rfl, rfl, rfl, rfl, rfl, rfl, rfl, rfl, rfl, trivial⟩
         · refine rn4 ?_
           refine zD (is := [3, 9]) (by kernel_rfl) (by simp) rfl ⟨fun o ho => ?_, fun o ho => ?_, trivial⟩
           all_goals (cases ho)
           · refine rn6 ?_
             refine zD (is := [9]) (by kernel_rfl) (by simp) rfl ⟨fun o ho => ?_, trivial⟩
             all_goals (cases ho)
             refine zF rfl rfl rfl cp ?_
             refine rn1 ?_
             refine zD (is := [10]) (by kernel_rfl) (by simp) rfl ⟨fun o ho => ?_, trivial⟩
             all_goals (cases ho)
             refine zF rfl rfl rfl cm ?_
             refine rn1 ?_
             exact fin _ ⟨rfl, rfl, rfl, rfl, rfl, rfl, rfl, rfl, rfl, rfl, rfl, rfl, trivial⟩
           · refine zF rfl rfl rfl cp ?_
             refine rn1 ?_
             refine zD (is := [3]) (by kernel_rfl) (by simp) rfl ⟨fun o ho => ?_, trivial⟩
             all_goals (cases ho)
             refine rn6 ?_
             refine zD (is := [10]) (by kernel_rfl) (by simp) rfl ⟨fun o ho => ?_, trivial⟩
             all_goals (cases ho)
             refine zF rfl rfl rfl cm ?_
             refine rn1 ?_
             exact fin _ ⟨rfl, rfl, rfl, rfl, rfl, rfl, rfl, rfl, rfl, rfl, rfl, rfl, trivial⟩
       · refine rn4 ?_
         refine zD (is := [3, 8]) (by kernel_rfl) (by simp) rfl ⟨fun o ho => ?_, fun o ho => ?_, trivial⟩
         all_goals (cases ho)
         · refine rn6 ?_
           refine zD (is := [8]) (by kernel_rfl) (by simp) rfl ⟨fun o ho => ?_, trivial⟩
           all_goals (cases ho)
           refine rn6 ?_
           refine zD (is := [9]) (by kernel_rfl) (by simp) rfl ⟨fun o ho => ?_, trivial⟩
           all_goals (cases ho)
           refine zF rfl rfl rfl cp ?_
           refine rn1 ?_
           refine zD (is := [10]) (by kernel_rfl) (by simp) rfl ⟨fun o ho => ?_, trivial⟩
           all_goals (cases ho)
           refine zF rfl rfl rfl cm ?_
           refine rn1 ?_
           exact fin _ ⟨rfl, rfl, rfl, rfl, rfl, rfl, rfl, rfl, rfl, rfl, rfl, rfl, trivial⟩
         · refine rn6 ?_
           refine zD (is := [3, 9]) (by kernel_rfl) (by simp) rfl ⟨fun o ho => ?_, fun o ho => ?_, trivial⟩
           all_goals (cases ho)
           · refine rn6 ?_
             refine zD (is := [9]) (by kernel_rfl) (by simp) rfl ⟨fun o ho => ?_, trivial⟩
             all_goals (cases ho)
             refine zF rfl rfl rfl cp ?_
             refine rn1 ?_
             refine zD (is := [10]) (by kernel_rfl) (by simp) rfl ⟨fun o ho => ?_, trivial⟩
             all_goals (cases ho)
             refine zF rfl rfl rfl cm ?_
             refine rn1 ?_
             exact fin _ ⟨rfl, rfl, rfl, rfl, rfl, rfl, rfl, rfl, rfl, rfl, rfl, rfl, trivial⟩
           · refine zF rfl rfl rfl cp ?_
             refine rn1 ?_
             refine zD (is := [3]) (by kernel_rfl) (by simp) rfl ⟨fun o ho => ?_, trivial⟩
             all_goals (cases ho)
             refine rn6 ?_
             refine zD (is := [10]) (by kernel_rfl) (by simp) rfl ⟨fun o ho => ?_, trivial⟩
             all_goals (cases ho)
             refine zF rfl rfl rfl cm ?_
             refine rn1 ?_
             exact fin _ ⟨rfl, rfl, rfl, rfl, rfl, rfl, rfl, rfl, rfl, rfl, rfl, rfl, trivial⟩
     refine zD (is := [12]) (by kernel_rfl) (by simp) rfl ⟨fun o ho => ?_, trivial⟩
     all_goals (cases ho)
     unfold qA
     refine zQ (c' := .box (zAB E)) rfl rfl rfl rfl rfl Nat.zero_lt_one rfl rfl (fun i' j' hi' hj' => ?_) ?_
     · rw [if_pos (Nat.lt_one_iff.1 hi')]; rfl
     refine rn1 ?_
     refine zh (by kernel_rfl) ?_
     repeat (first | refine zC ?_ | refine zA ?_ | refine zY ?_ | refine zJ rfl ?_ | refine zB (zEe rfl rfl) ?_ | refine zB (zAg rfl rfl rfl rfl) ?_)
     apply zAh (H := [none, some ⟨122, .box [.bool false, .nil, .nil]⟩, some ⟨122, qsC S⟩, some ⟨122, .box (zAB (if p = 1 then -E else E))⟩]) [(15, .ptr 3 0 0), (14, .int .i64 (i : Nat)), (0, .ro (zZ t) 0 t.length), (4, .rp (.box [.int .i64 p]) 0 0), (6, .ptr 1 0 0), (8, zCu t p), (10, .ro (qsC (zU t (zAw t p s))) 0 t.length), (11, .sl 2 0 (zf t p).length), (47, .ro (.ints .i64 (zAY t t.length)) 0 (zAY t t.length).length), (48, .int .i64 ((zAY t t.length).length : Nat)), (49, .int .i64 (k : Nat))]
     · intro fin
       refine zE rfl (fun hp1 => ?_) (fun hp1 => ?_)
       · rw [if_pos hp1] at fin
         have co := qopp_ok E
         refine rn6 ?_
         refine zF rfl rfl rfl co ?_
         unfold qA
         skip
         refine zQ (c' := .box (zAB (-E))) rfl rfl rfl rfl rfl Nat.zero_lt_one rfl rfl (fun i' j' hi' hj' => ?_) ?_
         · rw [if_pos (Nat.lt_one_iff.1 hi')]; rfl
         repeat (first | refine zC ?_ | refine zA ?_)
         exact fin _ ⟨rfl, rfl, rfl, rfl, rfl, rfl, rfl, rfl, rfl, rfl, rfl, trivial⟩
       · rw [if_neg hp1] at fin
         repeat (first | refine zA ?_ | refine zl ?_)
         exact fin _ ⟨rfl, rfl, rfl, rfl, rfl, rfl, rfl, rfl, rfl, rfl, rfl, trivial⟩
     have dG : D 1000 (if p = 1 then -E else E) := by
       split
       · exact dE.neg
       · exact dE
     have ca := zIo (S.getD x 0) (if p = 1 then -E else E) (zGH (hshx.mono (show zEv ≤ 9 * 100000 by decide))) (zGH (dG.mono (show 1000 ≤ 9 * 100000 by decide)))
     generalize (if p = 1 then -E else E) = G at *
     have hxS : x < (qsC S).len := by show x < S.length; omega
     generalize hA : S.getD x 0 + G = A at *
     skip
     refine zm (by kernel_rfl) ?_
     refine z8 (fuel := 1) [0, 1, 2, 3, 4, 5, 6, 7, 8, 9, 10, 11, 12, 13, 14, 15, 16, 17, 18, 19, 20] [(15, .ptr 3 0 0), (14, .int .i64 (i : Nat)), (0, .ro (zZ t) 0 t.length), (4, .rp (.box [.int .i64 p]) 0 0), (6, .ptr 1 0 0), (8, zCu t p), (10, .ro (qsC (zU t (zAw t p s))) 0 t.length), (11, .sl 2 0 (zf t p).length), (47, .ro (.ints .i64 (zAY t t.length)) 0 (zAY t t.length).length), (48, .int .i64 ((zAY t t.length).length : Nat)), (49, .int .i64 (k : Nat))] ⟨rfl, rfl, rfl, rfl, rfl, rfl, rfl, rfl, rfl, rfl, rfl, trivial⟩ (by kernel_rfl) (by decide) rfl rfl ?_
     refine zX rfl rfl (zH rfl) ?_
     refine zX rfl rfl (zH rfl) ?_
     refine zX rfl rfl (zBi rfl) ?_
     refine zX rfl rfl (zA9 rfl rfl rfl rfl rfl rfl) ?_
     refine zX rfl rfl (zAg rfl rfl rfl rfl) ?_
     refine zX rfl rfl (zH rfl) ?_
     refine zX rfl rfl (ze rfl rfl rfl rfl (by first | (simp only [Nat.zero_add, Int.toNat_natCast, Int.toNat_zero]; exact rfl) | exact rfl) (by omega)) ?_
     refine zX rfl rfl (zA3 rfl rfl rfl) ?_
     rw [hx]
     refine zX rfl rfl (zH rfl) ?_
     refine zX rfl rfl (zH rfl) ?_
     refine zX rfl rfl (zBi rfl) ?_
     refine zX rfl rfl (zA9 rfl rfl rfl rfl rfl rfl) ?_
     refine zX rfl rfl (zAg rfl rfl rfl rfl) ?_
     refine zX rfl rfl (zH rfl) ?_
     refine zX rfl rfl (ze rfl rfl rfl rfl (by first | (simp only [Nat.zero_add, Int.toNat_natCast, Int.toNat_zero]; exact rfl) | exact rfl) (by omega)) ?_
     refine zX rfl rfl (zA3 rfl rfl rfl) ?_
     rw [hx]
     refine zX rfl rfl (za rfl rfl rfl rfl rfl (by first | (simp only [Nat.zero_add, Int.toNat_natCast, Int.toNat_zero]; exact rfl) | exact rfl) (by omega)) ?_
     refine zX rfl rfl (zw rfl rfl rfl rfl rfl rfl rfl (by first | exact Nat.zero_lt_one | assumption | omega)) ?_
     refine zX rfl rfl (zw rfl rfl rfl rfl rfl rfl rfl (by first | exact Nat.zero_lt_one | assumption | omega)) ?_
     refine zCV rfl rfl rfl rfl rfl ca ?_
     refine zX rfl rfl (za rfl rfl rfl rfl rfl (by first | (simp only [Nat.zero_add, Int.toNat_natCast, Int.toNat_zero]; exact rfl) | exact rfl) (by omega)) ?_
     refine zAj ?_
     refine zD (is := [21]) (by kernel_rfl) (by simp) rfl ⟨fun o ho => ?_, trivial⟩
     all_goals (cases ho)
     unfold qA
     refine zQ (c' := qsC (S.set x A)) rfl rfl rfl rfl rfl hxS (by show (List.set _ x _).length = _; rw [List.length_set]; rfl) rfl (fun i' j' hi' hj' => zEU 0 3 zAB S x A hxS i' j' hi' hj') ?_
     refine rn1 ?_
     refine zh (by kernel_rfl) ?_
     repeat (refine zg ?_)
     refine zA ?_
     rw [← hsuc]
     refine zAt [none, some ⟨122, .box [.bool false, .nil, .nil]⟩, some ⟨122, qsC S2⟩] [some ⟨122, .box (zAB G)⟩] [(0, .ro (zZ t) 0 t.length), (4, .rp (.box [.int .i64 p]) 0 0), (6, .ptr 1 0 0), (8, zCu t p), (10, .ro (qsC (zU t (zAw t p s))) 0 t.length), (11, .sl 2 0 (zf t p).length), (47, .ro (.ints .i64 (zAY t t.length)) 0 (zAY t t.length).length), (48, .int .i64 ((zAY t t.length).length : Nat)), (49, .int .i64 (k : Nat))] rfl ⟨rfl, rfl, rfl, rfl, rfl, rfl, rfl, rfl, rfl, trivial⟩ (fun h hh => by rw [hfix] at hh; exact absurd hh id) (belowQ1 S2) rfl ?_
     refine rn3 ?_
     exact zN ⟨k + 1, by omega, by omega, ⟨rfl, rfl, rfl, rfl, rfl, rfl, rfl, rfl, rfl, trivial⟩, by rw [hS2]⟩
   have hke : k = (zAY t t.length).length := by omega
   subst hke
   rw [hEl, zKT]
   refine rn5 ?_
   refine zEW ?_
   repeat (first | refine zB (zH rfl) ?_ | refine zB (zK rfl) ?_ | refine zC ?_ | refine zA ?_ | refine zY ?_ | refine zJ rfl ?_ | refine zz ?_ | refine zB (zA8 rfl rfl rfl) ?_ | refine zB (zAg rfl rfl rfl rfl) ?_ | refine zB (zBi rfl) ?_ | refine zB (zA9 rfl rfl rfl rfl rfl rfl) ?_)
   refine zj (ι := Nat × List Rat × List (Int × Int) × Nat) (fun q => [(6, .ptr 1 0 0), (8, zCu t p), (11, .sl 2 0 (zf t p).length), (16, .mp 3), (17, .int .i64 (q.1 : Nat))]) (fun q => [none, some ⟨122, .box [.bool false, .nil, .nil]⟩, some ⟨122, qsC q.2.1⟩, some ⟨123, choC q.2.2.1⟩])
     (fun q => Back t p (zAw t p s) q.1 q.2.1 q.2.2.1 q.2.2.2) (fun q => q.1) ((zf t p).length, zGD t p (zAw t p s), [], 0) ⟨⟨rfl, rfl, rfl, rfl, rfl, trivial⟩, rfl, Back.top hv hw hml hpays p⟩ ?_
   rintro ⟨e, S, C, jj⟩ hB
   simp only at hB ⊢
   have hle := hB.bnd.le
   refine rn6 ?_
   refine zE rfl (fun h => ?_) (fun h => ?_)
   · have he : 1 < e := by omega
     obtain ⟨x, b, hk⟩ := hB.bnd.blk hv he
     have hst := hB.step hv he hk
     have hSl := hB.sums.len
     have hsh : ∀ j, D zEv (S.getD j 0) := hB.sums.short (zOf hw hml hpays hv) (by have := hB.few; omega)
     have hfin := hk.fin
     have hw1 := hk.w1
     have hblt := hk.lt
     have hnew := newB (hk.new hv hB.cho)
     have hseq := hk.seqs
     have hs1 := hseq (zc t p x.1 - 1) (by omega)
     rw [show x.2 + (zc t p x.1 - 1) = e - 1 by omega] at hs1
     generalize hW : zc t p x.1 = W at *
     repeat (first | refine zB (zH rfl) ?_ | refine zA ?_ | refine zY ?_ | refine zJ rfl ?_ | refine zz ?_ | refine zl ?_ | refine zB (zBZ rfl rfl (by omega)) ?_ | refine zB (zAg rfl rfl rfl rfl) ?_ | refine zB (zBi rfl) ?_ | refine zB (zA9 rfl rfl rfl rfl rfl rfl) ?_)
     refine zL 105 (.int .i64 ((e - 1 : Nat) : Int)) rfl (AEq.of_eq (by congr 1; omega)) ?_
     repeat (first | refine zB (zCT rfl rfl rfl rfl) ?_ | refine zB (ze rfl rfl rfl rfl (by first | (simp only [Nat.zero_add, Int.toNat_natCast, Int.toNat_zero]; exact rfl) | exact rfl) (by omega)) ?_ | refine zB (zA9 rfl rfl rfl rfl rfl rfl) ?_)
     refine zL 108 (.int .i64 ((W - 1 : Nat) : Int)) rfl (AEq.of_eq (show AV.int .i64 ((zf t p).getD (e - 1) zBY).choice = _ by rw [hs1])) ?_
     repeat (first | refine zB (zK rfl) ?_ | refine zC ?_ | refine zA ?_ | refine zY ?_ | refine zB (zBZ rfl rfl (by omega)) ?_)
     refine zAc 18 (.int .i64 (x.2 : Nat)) rfl (AEq.of_eq (by congr 1; omega)) ?_
     refine rn1 ?_
     refine zj (ι := Nat) (fun m => [(6, .ptr 1 0 0), (8, zCu t p), (11, .sl 2 0 (zf t p).length), (16, .mp 3), (17, .int .i64 (e : Nat)), (18, .int .i64 (x.2 : Nat)), (19, .int .i64 (zAf S x.2 m : Nat)), (20, .int .i64 ((x.2 + m : Nat) : Int))]) (fun _ => [none, some ⟨122, .box [.bool false, .nil, .nil]⟩, some ⟨122, qsC S⟩, some ⟨123, choC C⟩])
       (fun m => m ≤ W) (fun m => W - m) 0 ⟨⟨rfl, rfl, rfl, rfl, rfl, rfl, rfl, rfl, trivial⟩, rfl, Nat.zero_le _⟩ ?_
     intro m hm'
     obtain ⟨q1, q2, q3⟩ := zDy S x.2 m
     refine rn4 ?_
     refine zE rfl (fun h2 => ?_) (fun h2 => ?_)
     · have hmW : m < W := by omega
       have hbs : zAf S x.2 (m + 1) = if S.getD (zAf S x.2 m) 0 < S.getD (x.2 + m) 0 then x.2 + m else zAf S x.2 m := rfl
       have cc := zO0 (S.getD (x.2 + m) 0) (S.getD (zAf S x.2 m) 0) (zGH ((hsh _).mono (show zEv ≤ 9 * 100000 by decide))) (zGH ((hsh _).mono (show zEv ≤ 9 * 100000 by decide)))
       have gi : x.2 + m < (qsC S).len := by show x.2 + m < S.length; omega
       have gb : zAf S x.2 m < (qsC S).len := by show zAf S x.2 m < S.length; omega
       have hlt : zAf S x.2 m < x.2 + m + 1 := q2
       generalize hN : zAf S x.2 (m + 1) = N at *
       generalize zAf S x.2 m = M at *
       refine rn1 ?_
       refine zm (by kernel_rfl) ?_
       refine z8 (fuel := 0) [0, 1, 2, 3, 4, 5, 6, 7, 8, 9] [(6, .ptr 1 0 0), (8, zCu t p), (11, .sl 2 0 (zf t p).length), (16, .mp 3), (17, .int .i64 (e : Nat)), (18, .int .i64 (x.2 : Nat)), (19, .int .i64 (M : Nat)), (20, .int .i64 ((x.2 + m : Nat) : Int))] ⟨rfl, rfl, rfl, rfl, rfl, rfl, rfl, rfl, trivial⟩ (by kernel_rfl) (by decide) rfl rfl ?_
       refine zX rfl rfl (zH rfl) ?_
       refine zX rfl rfl (zH rfl) ?_
       refine zX rfl rfl (za rfl rfl rfl rfl rfl (by first | (simp only [Nat.zero_add, Int.toNat_natCast, Int.toNat_zero]; exact rfl) | exact rfl) (by omega)) ?_
       refine zX rfl rfl (zw rfl rfl rfl rfl rfl rfl rfl (by first | exact Nat.zero_lt_one | assumption | omega)) ?_
       refine zX rfl rfl (zH rfl) ?_
       refine zX rfl rfl (zH rfl) ?_
       refine zX rfl rfl (za rfl rfl rfl rfl rfl (by first | (simp only [Nat.zero_add, Int.toNat_natCast, Int.toNat_zero]; exact rfl) | exact rfl) (by omega)) ?_
       refine zX rfl rfl (zw rfl rfl rfl rfl rfl rfl rfl (by first | exact Nat.zero_lt_one | assumption | omega)) ?_
       refine zCV rfl rfl rfl rfl rfl cc ?_
       refine zX rfl rfl (zI5 rfl rfl) ?_
       refine zAj ?_
       refine zh (by kernel_rfl) ?_
       repeat (refine zA ?_)
       refine zE rfl (fun h3 => ?_) (fun h3 => ?_)
       · rw [if_pos ((cmp_gt _ _).mp h3)] at hbs
         refine rn5 ?_
         exact zN ⟨m + 1, by omega, by omega, ⟨rfl, rfl, rfl, rfl, rfl, rfl, by rw [hN, hbs]; rfl, rfl, trivial⟩, rfl⟩
       · rw [if_neg (fun q => h3 ((cmp_gt _ _).mpr q))] at hbs
         refine rn5 ?_
         exact zN ⟨m + 1, by omega, by omega, ⟨rfl, rfl, rfl, rfl, rfl, rfl, by rw [hN, hbs]; rfl, rfl, trivial⟩, rfl⟩
     have hmW : m = W := by omega
     subst hmW
     have q3 := q3 hw1
     have hs2 := hseq (zAf S x.2 m - x.2) (by omega)
     rw [show x.2 + (zAf S x.2 m - x.2) = zAf S x.2 m by omega] at hs2
     have ca := zIo (S.getD b 0) (S.getD (zAf S x.2 m) 0) (zGH ((hsh _).mono (show zEv ≤ 9 * 100000 by decide))) (zGH ((hsh _).mono (show zEv ≤ 9 * 100000 by decide)))
     have gb : b < (qsC S).len := by show b < S.length; omega
     have gM : zAf S x.2 m < (qsC S).len := by show zAf S x.2 m < S.length; omega
     have hMn : zAf S x.2 m < (zf t p).length := by omega
     generalize zAf S x.2 m = M at *
     generalize hA : S.getD b 0 + S.getD M 0 = A at *
     repeat (first | refine zB (zH rfl) ?_ | refine zA ?_ | refine zY ?_ | refine zJ rfl ?_ | refine zAs ?_ | refine zq ?_ | refine zr ?_ | refine zAF ?_ | refine zB (ze rfl rfl rfl rfl (by first | (simp only [Nat.zero_add, Int.toNat_natCast, Int.toNat_zero]; exact rfl) | exact rfl) (by omega)) ?_ | refine zB (zAg rfl rfl rfl rfl) ?_ | refine zB (zBi rfl) ?_ | refine zB (zA9 rfl rfl rfl rfl rfl rfl) ?_ | refine zB (zCY rfl rfl rfl rfl rfl rfl) ?_ | refine zBF rfl rfl rfl ?_)
     refine zL 134 (.agg (zFL ⟨x.1, ((M - x.2 : Nat) : Int), (b : Int)⟩)) rfl (AEq.of_eq (by rw [← hs2]; rfl)) ?_
     refine zQ (c' := .box (zFL ⟨x.1, ((M - x.2 : Nat) : Int), (b : Int)⟩)) rfl rfl rfl rfl rfl Nat.zero_lt_one rfl rfl (fun i' j' hi' hj' => ?_) ?_
     · rw [if_pos (Nat.lt_one_iff.1 hi')]; rfl
     refine rn5 ?_
     refine zCS rfl (.int rfl) rfl rfl rfl rfl rfl (keysB C) hnew ?_
     refine zAy [none, some ⟨122, .box [.bool false, .nil, .nil]⟩, some ⟨122, qsC S⟩, some ⟨123, choC (C ++ [(x.1, ((M - x.2 : Nat) : Int))])⟩, some ⟨174, .box [.int .i64 x.1, .int .i64 ((M - x.2 : Nat) : Int), .int .i64 (b : Nat)]⟩] (zAL.same (zAL.same (zAL.same (zAL.eqv (by unfold choC; rw [List.map_append, List.map_append]; exact CEq.refl _) (zAL.eqv (CEq.refl _) zAL.nil))))) ?_
     refine rn0 ?_
     refine zm (by kernel_rfl) ?_
     refine z8 (fuel := 1) [0, 1, 2, 3, 4, 5, 6, 7, 8, 9, 10, 11, 12, 13] [(21, .ptr 4 0 0), (6, .ptr 1 0 0), (8, zCu t p), (11, .sl 2 0 (zf t p).length), (16, .mp 3), (17, .int .i64 (e : Nat)), (18, .int .i64 (x.2 : Nat)), (19, .int .i64 (M : Nat))] ⟨rfl, rfl, rfl, rfl, rfl, rfl, rfl, rfl, trivial⟩ (by kernel_rfl) (by decide) rfl rfl ?_
     refine zX rfl rfl (zH rfl) ?_
     refine zX rfl rfl (zP rfl rfl rfl rfl rfl rfl) ?_
     refine zX rfl rfl (zS rfl rfl rfl rfl rfl) ?_
     refine zX rfl rfl (zH rfl) ?_
     refine zX rfl rfl (zP rfl rfl rfl rfl rfl rfl) ?_
     refine zX rfl rfl (zS rfl rfl rfl rfl rfl) ?_
     refine zX rfl rfl (za rfl rfl rfl rfl rfl (by first | (simp only [Nat.zero_add, Int.toNat_natCast, Int.toNat_zero]; exact rfl) | exact rfl) (by omega)) ?_
     refine zX rfl rfl (zw rfl rfl rfl rfl rfl rfl rfl (by first | exact Nat.zero_lt_one | assumption | omega)) ?_
     refine zX rfl rfl (zH rfl) ?_
     refine zX rfl rfl (zH rfl) ?_
     refine zX rfl rfl (za rfl rfl rfl rfl rfl (by first | (simp only [Nat.zero_add, Int.toNat_natCast, Int.toNat_zero]; exact rfl) | exact rfl) (by omega)) ?_
     refine zX rfl rfl (zw rfl rfl rfl rfl rfl rfl rfl (by first | exact Nat.zero_lt_one | assumption | omega)) ?_
     refine zCV rfl rfl rfl rfl rfl ca ?_
     refine zX rfl rfl (za rfl rfl rfl rfl rfl (by first | (simp only [Nat.zero_add, Int.toNat_natCast, Int.toNat_zero]; exact rfl) | exact rfl) (by omega)) ?_
     refine zAj ?_
     refine zD (is := [14]) (by kernel_rfl) (by simp) rfl ⟨fun o ho => ?_, trivial⟩
     all_goals (cases ho)
     unfold qA
     refine zQ (c' := qsC (S.set b A)) rfl rfl rfl rfl rfl gb (by show (List.set _ b _).length = _; rw [List.length_set]; rfl) rfl (fun i' j' hi' hj' => zEU 0 3 zAB S b A gb i' j' hi' hj') ?_
     refine rn1 ?_
     refine zh (by kernel_rfl) ?_
     skip
     refine zA ?_
     refine zAt [none, some ⟨122, .box [.bool false, .nil, .nil]⟩, some ⟨122, qsC (S.set b A)⟩, some ⟨123, choC (C ++ [(x.1, ((M - x.2 : Nat) : Int))])⟩] [some ⟨174, .box [.int .i64 x.1, .int .i64 ((M - x.2 : Nat) : Int), .int .i64 (b : Nat)]⟩] [(6, .ptr 1 0 0), (8, zCu t p), (11, .sl 2 0 (zf t p).length), (16, .mp 3), (18, .int .i64 (x.2 : Nat))] rfl ⟨rfl, rfl, rfl, rfl, rfl, trivial⟩ (fun h hh => by rw [hfix] at hh; exact absurd hh id) (belowQ2 _ _) rfl ?_
     refine rn5 ?_
     exact zN ⟨(x.2, S.set b A, C ++ [(x.1, ((M - x.2 : Nat) : Int))], jj + 1), hst, by simp only; omega, ⟨rfl, rfl, rfl, rfl, rfl, trivial⟩, rfl⟩
   · have hsp := hB.stop (by omega)
     have hSl := hB.sums.len
     have g0 : 0 < (qsC S).len := by show 0 < S.length; omega
     rw [hsp] at hR
     refine rn6 ?_
     refine zQ (c' := .box (zAB (S.getD 0 0))) rfl rfl rfl rfl rfl Nat.zero_lt_one rfl rfl (fun i' j' hi' hj' => ?_) ?_
     · rw [if_pos (Nat.lt_one_iff.1 hi')]; rfl
     refine rn0 ?_
     exact zI hR rfl ⟨rfl, rfl⟩
 · rintro r H ⟨rfl, rfl⟩
   refine ⟨rfl, ⟨⟨trivial, trivial, trivial, trivial⟩, trivial, trivial⟩, fun h o ho => ?_⟩
   match h, ho with
   | 0, ho => simp at ho
   | 1, ho =>
     cases ho
     intro i j _ hj
     exact zLJ _ j
   | 2, ho => cases ho; exact zG8 _
   | 3, ho => cases ho; exact ⟨zEJ (fun _ => rfl) _, zEJ (fun _ => rfl) _⟩
   | _ + 4, ho => simp at ho
end Go.Proofs.YtnkealfaldjipaaGreatDoor
namespace Go.Proofs.YtnkealfaldjipaaGreatDoor
open Go.Ax Go.Ax.Bg Go.Ax.Rt Go.RowKit Go.Ax.Idx Go.Ax.Cd
attribute [local irreducible] Ax zAM QOp zM zp
set_option maxRecDepth 100000
set_option maxHeartbeats 4000000
/-- The row behind the first i values. -/
def zE7 (n : zAG) (k i : Nat) : List zAG := List.replicate i n ++ List.replicate (k - i) []
theorem zIv (n : zAG) (k i j : Nat) (hi : i ≤ k) (hj : j < k) : (zE7 n k i).getD j [] = if j < i then n else [] := by
 unfold zE7
 simp only [List.getD, List.getElem?_append, List.length_replicate, List.getElem?_replicate]
 split
 · simp
 · rw [if_pos (by omega)]; simp
theorem zFB (n : zAG) (k i : Nat) (hi : i ≤ k) : (zE7 n k i).length = k := by unfold zE7; simp; omega
theorem zPx (n : zAG) (k : Nat) : zE7 n k k = List.replicate k n := by unfold zE7; simp
theorem repeatS (n : zAG) (k : Nat) (hk : 1 ≤ k ∧ k ≤ 100000) : zHf Tryz.prog 76 [.ro (.strs [n]) 0 1, .int .i64 (k : Nat)] (fun N => .sl N 0 k) ⟨27, .strs (List.replicate k n)⟩ := by
 refine zM.fresh (K := fun r H => r = .sl 0 0 k ∧ H = [some ⟨27, .strs (List.replicate k n)⟩]) (zG (P := Tryz.prog) (fn := Tryz.f76) rfl rfl (by kernel_rfl) rfl (fun c hR hfix => ?_)) (fix := fun _ => False) (fun _ h => h) rfl (fun H => ⟨rfl, by simp [zGq, inB]⟩) ?_
 · have hm := mulB 1 k (by omega) (by omega)
   rw [Nat.one_mul, Nat.div_eq_of_lt (by omega), Nat.mod_eq_of_lt (by omega)] at hm
   refine rn4 ?_
   refine zB (zAP (m := 1) rfl rfl rfl zA5 (by decide)) ?_
   repeat (refine zB (zH rfl) ?_)
   refine zB (zAP (m := k) rfl rfl rfl zA5 (by omega)) ?_
   refine zF rfl rfl rfl hm ?_
   refine rn6 ?_
   refine zE rfl (fun h => absurd h (by omega)) (fun h => ?_)
   refine rn1 ?_
   refine zB (zEH rfl rfl rfl (by omega)) ?_
   refine zCB rfl rfl rfl rfl rfl rfl rfl rfl (by show 0 ≤ _ ∧ _ ≤ _ ∧ (16 : Int) * _ ≤ _ ∧ _; omega) ?_
   refine rn0 ?_
   refine zOE (o := ⟨27, .strs (List.replicate k [])⟩) (c' := .strs (zE7 n k 1)) (i := 0) (n := k) (i2 := 0) (m := 1) (q := 1) rfl rfl rfl rfl rfl rfl rfl (by simp [Cells.len]) (by omega) (by show 0 + 1 ≤ 1; omega) (by omega) (Nat.min_eq_left (by omega)) rfl rfl ?_ (fun i' j hi' hj => ?_) ?_
   · show (zE7 n k 1).length = (List.replicate k ([] : zAG)).length
     rw [zFB n k 1 (by omega)]; simp
   · have hi2 : i' < k := by simpa [Cells.len] using hi'
     show AV.str ((zE7 n k 1).getD i' []) = _
     rw [zIv n k 1 i' (by omega) hi2]
     by_cases h0 : i' < 1
     · rw [if_pos h0, if_pos (by omega)]
       have : i' = 0 := by omega
       subst this; rfl
     · rw [if_neg h0, if_neg (by omega)]
       show _ = AV.str ((List.replicate k ([] : zAG)).getD i' [])
       simp [List.getD, hi2]
   refine rn1 ?_
   refine zj (ι := Nat) (fun i => [(7, .sl 0 0 k), (8, .int .i64 (i : Nat))]) (fun i => [some ⟨27, .strs (zE7 n k i)⟩]) (fun i => 1 ≤ i ∧ i ≤ k) (fun i => k - i) 1 ⟨⟨rfl, rfl, trivial⟩, rfl, by omega, by omega⟩ ?_
   rintro i ⟨hi1, hi⟩
   refine rn4 ?_
   refine zE rfl (fun h1 => ?_) (fun h1 => ?_)
   · obtain ⟨q, hq⟩ : ∃ q, Nat.min i (k - i) = q := ⟨_, rfl⟩
     have hq1 : q ≤ i ∧ q ≤ k - i ∧ 1 ≤ q := by
       subst hq
       refine ⟨Nat.min_le_left _ _, Nat.min_le_right _ _, ?_⟩
       show 1 ≤ min i (k - i)
       omega
     refine rn1 ?_
     refine zm (by kernel_rfl) ?_
     refine zO 0 rfl (by kernel_rfl) (by kernel_rfl) (by kernel_rfl) rfl (zH rfl) rfl ?_
     refine zO 1 rfl (by kernel_rfl) (by kernel_rfl) (by kernel_rfl) rfl (zH rfl) rfl ?_
     refine zO 2 rfl (by kernel_rfl) (by kernel_rfl) (by kernel_rfl) rfl (zH rfl) rfl ?_
     refine zO 4 rfl (by kernel_rfl) (by kernel_rfl) (by kernel_rfl) rfl (zH rfl) rfl ?_
     refine zO 5 rfl (by kernel_rfl) (by kernel_rfl) (by kernel_rfl) rfl (zH rfl) rfl ?_
     refine zO 3 rfl (by kernel_rfl) (by kernel_rfl) (by kernel_rfl) rfl (zHB rfl rfl rfl rfl rfl rfl rfl rfl (by omega)) rfl ?_
     refine zO 6 rfl (by kernel_rfl) (by kernel_rfl) (by kernel_rfl) rfl (zHB rfl rfl rfl rfl rfl rfl rfl rfl (by omega)) rfl ?_
     refine zBD 41 (.sl 0 i (k - i)) rfl (AEq.of_eq (by congr 1 <;> omega)) ?_
     refine zBD 44 (.sl 0 0 i) rfl (AEq.of_eq (by congr 1 <;> omega)) ?_
     refine zD (is := [7]) (by kernel_rfl) (by simp) rfl ⟨fun o ho => ?_, trivial⟩
     all_goals (cases ho)
     skip
     refine zOE (h := 0) (o := ⟨27, .strs (zE7 n k i)⟩) (c' := .strs (zE7 n k (i + q))) (i := i) (n := k - i) (i2 := 0) (m := i) (q := q) rfl rfl rfl rfl rfl rfl rfl (by show i + (k - i) ≤ (zE7 n k i).length; rw [zFB n k i hi]; omega) (by omega) (by show 0 + i ≤ (zE7 n k i).length; rw [zFB n k i hi]; omega) (by omega) hq rfl rfl ?_ (fun i' j hi' hj => ?_) ?_
     · show (zE7 n k (i + q)).length = (zE7 n k i).length
       rw [zFB n k i hi, zFB n k (i + q) (by omega)]
     · have hi2 : i' < k := by
         have : i' < (zE7 n k i).length := hi'
         rwa [zFB n k i hi] at this
       show AV.str ((zE7 n k (i + q)).getD i' []) = _
       rw [zIv n k (i + q) i' (by omega) hi2]
       by_cases h0 : i ≤ i' ∧ i' < i + q
       · rw [if_pos h0, if_pos h0.2]
         show _ = AV.str ((zE7 n k i).getD (0 + (i' - i)) [])
         rw [zIv n k i _ hi (by omega), if_pos (by omega)]
       · rw [if_neg h0]
         show _ = AV.str ((zE7 n k i).getD i' [])
         rw [zIv n k i i' hi hi2]
         by_cases h2 : i' < i
         · rw [if_pos h2, if_pos (by omega)]
         · rw [if_neg h2, if_neg (by omega)]
     repeat (first | refine zC ?_ | refine zi ?_)
     refine zO 8 rfl (by kernel_rfl) (by kernel_rfl) (by kernel_rfl) rfl (zCz rfl rfl (by omega)) rfl ?_
     refine zO 9 rfl (by kernel_rfl) (by kernel_rfl) (by kernel_rfl) rfl (zK rfl) rfl ?_
     refine zh (by kernel_rfl) ?_
     repeat (refine zg ?_)
     exact zN ⟨i + q, ⟨by omega, by omega⟩, by omega, ⟨rfl, rfl, trivial⟩, rfl⟩
   · have : i = k := by omega
     subst this
     rw [zPx]
     refine rn5 ?_
     exact zI hR rfl ⟨rfl, rfl⟩
 · rintro r H ⟨rfl, rfl⟩
   refine ⟨?_, fun h o ho => zFm zC6 h o ho, 0, rfl, fun n => rfl⟩
   intro o ho; simp at ho; subst ho; exact Nat.le_of_eq (by simp [Cells.len])
end Go.Proofs.YtnkealfaldjipaaGreatDoor
namespace Go.Proofs.YtnkealfaldjipaaGreatDoor
open Go.Ax Go.Ax.Bg Go.Ax.Rt Go.RowKit Go.Ax.Idx Go.Ax.Cd
attribute [local irreducible] Ax zAM QOp zM zp
set_option maxRecDepth 100000
set_option maxHeartbeats 4000000
theorem zFd (c : TChoice) (j h : Nat) (hj : j < 2) : ((cellsC c).getD j .any).forget h = (cellsC c).getD j .any := by
 match j, hj with
 | 0, _ => rfl
 | 1, _ => rfl
theorem zC5 (s : zAX) : z6 (zAO s) := by
 intro i j _ hj
 have hj : j < 2 := hj
 match j, hj with
 | 0, _ => rfl
 | 1, _ => rfl
theorem growC (n : Int) (h0 : 0 ≤ n) (h1 : n ≤ 4398046511104) : zHf Tryz.prog 129 [.nil, .int .i64 n] (fun N => .sl N 0 0) ⟨67, zAO []⟩ := by
 refine zM.fresh (K := fun r H => r = .sl 0 0 0 ∧ H = [some ⟨67, zAO []⟩]) (zG (P := Tryz.prog) (fn := Tryz.f129) rfl rfl (by kernel_rfl) rfl (fun c hR hfix => ?_)) (fix := fun _ => False) (fun _ h => h) rfl (fun H => ⟨rfl, by simp [zGq, inB]⟩) ?_
 · refine rn4 ?_
   refine zE rfl (fun h => absurd h (by omega)) (fun h => ?_)
   repeat (first | refine zB (zH rfl) ?_ | refine zB (zK rfl) ?_ | refine zC ?_ | refine zA ?_ | refine zY ?_ | refine zJ rfl ?_ | refine zl ?_ | refine zB (zI5 rfl rfl) ?_ | refine zB (zA8 rfl rfl rfl) ?_ | refine zB (zBZ rfl rfl (by omega)) ?_ | refine zB (zHS rfl rfl) ?_)
   refine zE rfl (fun h => ?_) (fun h => ?_)
   rotate_left
   · repeat (first | refine zB (zH rfl) ?_ | refine zB (zK rfl) ?_ | refine zC ?_ | refine zA ?_ | refine zY ?_ | refine zJ rfl ?_ | refine zl ?_)
     refine zBT 4 ⟨67, zAO []⟩ rfl rfl ?_
     repeat (refine zAI ?_)
     exact zI hR rfl ⟨rfl, rfl⟩
   repeat (first | refine zB (zH rfl) ?_ | refine zJ rfl ?_ | refine zB (zHS rfl rfl) ?_ | refine zB (zJS rfl rfl rfl rfl rfl rfl rfl) ?_)
   refine ax_growz rfl rfl rfl rfl rfl rfl rfl rfl rfl (by show 0 < _ ∧ _ * 32 ≤ _ ∧ _; omega) ?_
   refine rn3 ?_
   refine zB (zF7 rfl rfl rfl rfl rfl rfl rfl rfl (by omega)) ?_
   refine zHe 0 (zAO []) rfl ⟨Nat.zero_le _, rfl, fun i j hi => absurd hi (Nat.not_lt_zero _)⟩ ?_
   refine rn0 ?_
   exact zI hR rfl ⟨rfl, rfl⟩
 · rintro r H ⟨rfl, rfl⟩
   refine ⟨?_, fun h o ho => zFm (zC5 _) h o ho, 0, rfl, fun n => rfl⟩
   intro o ho; simp at ho; subst ho; exact Nat.zero_le _
def cellL (s : zAX) : List AV := [.ro (zAO s) 0 s.length]
abbrev zEu (l : List zAX) : Cells := zB4 [] 1 cellL l
def zCC (ls : List zAX) : Int := (ls.map fun l => (l.length : Int)).sum
theorem zFb (ls : List zAX) (k : Nat) (h : k < ls.length) : zCC (ls.take (k + 1)) = zCC (ls.take k) + ((ls.getD k []).length : Int) := by
 unfold zCC
 rw [zAn ls [] k h, List.map_append, List.sum_append]
 simp
theorem zA7 (ls : List zAX) : zCC ls = (ls.flatten.length : Int) := by
 induction ls with
 | nil => rfl
 | cons l r ih => unfold zCC at ih ⊢; simp [ih]
theorem zCU (ls : List zAX) (k : Nat) : 0 ≤ zCC (ls.take k) ∧ zCC (ls.take k) ≤ zCC ls := by
 have h : ls.flatten = (ls.take k).flatten ++ (ls.drop k).flatten := by rw [← List.flatten_append, List.take_append_drop]
 rw [zA7, zA7, h, List.length_append]; omega
theorem zGx (ls : List zAX) (k : Nat) (h : k < ls.length) : (ls.take (k + 1)).flatten = (ls.take k).flatten ++ ls.getD k [] := by
 rw [zAn ls [] k h, List.flatten_append]; simp
theorem concatC (ls : List zAX) (hlen : ls.length ≤ 1000000) (hs : zCC ls ≤ 4398046511104) :
   zHf Tryz.prog 68 [.ro (zEu ls) 0 ls.length] (fun N => .sl N 0 ls.flatten.length) ⟨67, zAO ls.flatten⟩ := by
 refine zM.fresh (K := fun r H => r = .sl 0 0 ls.flatten.length ∧ H = [some ⟨67, zAO ls.flatten⟩]) (zG (P := Tryz.prog) (fn := Tryz.f68) rfl rfl (by kernel_rfl) rfl (fun c hR hfix => ?_)) (fix := fun _ => False) (fun _ h => h) rfl (fun H => ⟨rfl, by simp [zGq, inB]⟩) ?_
 · refine rn3 ?_
   refine zj (ι := Nat) (fun k => [(0, .ro (zEu ls) 0 ls.length), (3, .int .i64 (zCC (ls.take k))), (9, .ro (zEu ls) 0 ls.length), (10, .int .i64 (ls.length : Nat)), (11, .int .i64 (k : Nat))]) (fun _ => [])
     (fun k => k ≤ ls.length) (fun k => ls.length - k) 0 ⟨⟨rfl, rfl, rfl, rfl, rfl, trivial⟩, rfl, Nat.zero_le _⟩ ?_
   intro k hk
   refine rn4 ?_
   refine zE rfl (fun h1 => ?_) (fun h1 => ?_)
   · have hk' : k < ls.length := by omega
     have hsum := zFb ls k hk'
     have hb := zCU ls (k + 1)
     have hb0 := zCU ls k
     refine rn6 ?_
     refine zE rfl (fun h2 => absurd h2 (by omega)) (fun h2 => ?_)
     refine rn5 ?_
     exact zN ⟨k + 1, by omega, by omega, ⟨rfl, by rw [hsum]; rfl, rfl, rfl, rfl, trivial⟩, rfl⟩
   · have hk' : k = ls.length := by omega
     subst hk'
     simp only [List.take_length] at *
     have hfl := zA7 ls
     refine rn5 ?_
     refine zB1 rfl rfl rfl (growC (zCC ls) (by omega) hs) ?_
     refine rn3 ?_
     refine zj (ι := Nat) (fun k => [(6, .sl 0 0 (ls.take k).flatten.length), (25, .ro (zEu ls) 0 ls.length), (26, .int .i64 (ls.length : Nat)), (27, .int .i64 (k : Nat))]) (fun k => [some ⟨67, zAO (ls.take k).flatten⟩])
       (fun k => k ≤ ls.length) (fun k => ls.length - k) 0 ⟨⟨rfl, rfl, rfl, rfl, trivial⟩, rfl, Nat.zero_le _⟩ ?_
     intro k hk
     refine rn4 ?_
     refine zE rfl (fun h1 => ?_) (fun h1 => ?_)
     · have hk' : k < ls.length := by omega
       have hfs := zGx ls k hk'
       have hb := zCU ls (k + 1)
       have hsl := zFb ls k hk'
       have hb0 := zCU ls k
       have hfl0 := zA7 (ls.take k)
       refine rn6 ?_
       refine zn rfl rfl rfl rfl rfl rfl rfl rfl rfl rfl rfl rfl (by show 0 + (ls.getD k []).length ≤ (ls.getD k []).length; omega) rfl (by show ((ls.take k).flatten.length + (ls.getD k []).length) * 32 ≤ _ ∧ _; omega) ?_ (by rw [hfix]; exact fun h => h) ?_
       · intro i' j' hi' hj'
         have q := (zHM ch0 2 cellsC (ls.take k).flatten (ls.getD k [])).2.2 i' j' hi' hj'
         exact (congrArg (AV.forget 0) q.symm).trans ((zFd _ j' 0 hj').trans q)
       refine zAy [some ⟨67, zAO (ls.take (k + 1)).flatten⟩] ?_ ?_
       · rw [hfs]
         exact zAL.eqv (zHM ch0 2 cellsC (ls.take k).flatten (ls.getD k [])) zAL.nil
       refine rn5 ?_
       refine zN ⟨k + 1, by omega, by omega, ⟨?_, rfl, rfl, rfl, trivial⟩, rfl⟩
       show some (AV.sl 0 0 ((ls.take k).flatten.length + (ls.getD k []).length)) = _
       rw [hfs, List.length_append]
     · have hk' : k = ls.length := by omega
       subst hk'
       simp only [List.take_length] at *
       refine rn5 ?_
       exact zI hR rfl ⟨rfl, rfl⟩
 · rintro r H ⟨rfl, rfl⟩
   refine ⟨?_, fun h o ho => zFm (zC5 _) h o ho, 0, rfl, fun n => rfl⟩
   intro o ho; simp at ho; subst ho; show 0 + ls.flatten.length ≤ ls.flatten.length; omega
theorem zNV (l : zAX) (g : FuncId) (caps : List AV) (p : TChoice → Bool) (hc : noRef.noRefs caps = true) (hlen : l.length ≤ 9223372036854775807) (hp : ∀ x ∈ l, zW Tryz.prog g ([.agg (cellsC x)] ++ caps) (.bool (p x))) :
   zW Tryz.prog 109 [.ro (zAO l) 0 l.length, .fn g caps] (.int .i64 (zC7 p l)) := by
 refine zM.value0 (zG (P := Tryz.prog) (fn := Tryz.f109) rfl rfl (by kernel_rfl) rfl (fun c hR hfix => ?_)) (fix := fun _ => False) (fun _ h => h) (by simp [noRef.noRefs, noRef, hc]) rfl
 refine rn3 ?_
 refine zj (ι := Nat) (fun k => [(0, .ro (zAO l) 0 l.length), (1, .fn g caps), (7, .int .i64 (l.length : Nat)), (8, .int .i64 (k : Nat))]) (fun _ => [])
   (fun k => k ≤ l.length ∧ (l.take k).any p = false) (fun k => l.length - k) 0 ⟨⟨rfl, rfl, rfl, rfl, trivial⟩, rfl, Nat.zero_le _, rfl⟩ ?_
 intro k ⟨hk, hany⟩
 refine rn4 ?_
 refine zE rfl (fun h => ?_) (fun h => ?_)
 · have hk' : k < l.length := by omega
   have hanys := zCb p l ch0 k hk'
   refine rn6 ?_
   refine zL 15 (.agg (cellsC (l.getD k ch0))) rfl (AEq.of_eq rfl) ?_
   refine zF rfl rfl rfl (hp _ (zAz ch0 hk')) ?_
   refine rn0 ?_
   refine zDP rfl (fun h2 => ?_) (fun h2 => ?_)
   · refine rn6 ?_
     refine zI hR rfl ?_
     have := zB5 p l k hany hk
     rw [zB6 l ch0 k hk'] at this
     simp only [zC7, h2, if_true] at this
     rw [this]; simp [zBR]
   · refine rn5 ?_
     refine zN ⟨k + 1, ⟨by omega, by rw [hanys, hany, h2]; rfl⟩, by omega, ⟨rfl, rfl, rfl, rfl, trivial⟩, rfl⟩
 · have hk' : k = l.length := by omega
   subst hk'
   refine rn5 ?_
   refine zI hR rfl ?_
   have := zB5 p l l.length hany hk
   rw [List.drop_length] at this
   rw [this]; rfl
theorem zPa (l : zAX) (g : FuncId) (caps : List AV) (p : TChoice → Bool) (hc : noRef.noRefs caps = true) (hlen : l.length ≤ 9223372036854775807) (hp : ∀ x ∈ l, zW Tryz.prog g ([.agg (cellsC x)] ++ caps) (.bool (p x))) :
   zW Tryz.prog 39 [.ro (zAO l) 0 l.length, .fn g caps] (.bool (l.any p)) := by
 refine zM.value0 (zG (P := Tryz.prog) (fn := Tryz.f39) rfl rfl (by kernel_rfl) rfl (fun c hR hfix => ?_)) (fix := fun _ => False) (fun _ h => h) (by simp [noRef.noRefs, noRef, hc]) rfl
 refine rn0 ?_
 refine zF rfl rfl rfl (zNV l g caps p hc hlen hp) ?_
 repeat (first | refine zB (zK rfl) ?_ | refine zC ?_ | refine zA ?_ | refine zAI ?_ | refine zB (zC8 rfl rfl) ?_)
 refine zI hR rfl ?_
 simp only [zBR, zE8]
def zMs (c : TChoice) : Bool := c.odds.any (fun s => decide (12 < (s.length : Int)))
theorem plain11 (s : zAG) (hs : s.length ≤ 9223372036854775807) : zW Tryz.prog 70 [.str s] (.bool (decide (12 < (s.length : Int)))) := by
 refine zM.value0 (zG (P := Tryz.prog) (fn := Tryz.f70) rfl rfl (by kernel_rfl) rfl (fun c hR hfix => ?_)) (fix := fun _ => False) (fun _ h => h) rfl rfl
 refine rn6 ?_
 exact zI hR rfl rfl
theorem plain1 (c : TChoice) (hc : ShortC c) : zW Tryz.prog 69 [.agg (cellsC c)] (.bool (zMs c)) := by
 obtain ⟨h1, h2⟩ := hc
 have cc := zH5 c.odds 70 [] (fun s => decide (12 < (s.length : Int))) rfl h1 (fun s hs => plain11 s (h2 s hs))
 refine zM.value0 (zG (P := Tryz.prog) (fn := Tryz.f69) rfl rfl (by kernel_rfl) rfl (fun c hR hfix => ?_)) (fix := fun _ => False) (fun _ h => h) rfl rfl
 obtain ⟨nf, od⟩ := c
 unfold zMs at hR
 unfold cellsC
 simp only at *
 refine rn6 ?_
 refine zF rfl rfl rfl cc ?_
 refine rn0 ?_
 exact zI hR rfl rfl
def zJ4 (ls : List zAX) : Bool := !(ls.flatten.any zMs)
end Go.Proofs.YtnkealfaldjipaaGreatDoor
namespace Go.Proofs.YtnkealfaldjipaaGreatDoor
open Go.Ax Go.Ax.Bg Go.Ax.Rt Go.RowKit Go.Ax.Idx Go.Ax.Cd
attribute [local irreducible] Ax zAM QOp zM zp
set_option maxRecDepth 100000
set_option maxHeartbeats 4000000
def zHY (t : zT) (p : Int) (s : zAX) : Int := if zCe t p ≠ 0 then zCe t p else if zCL t p = true then zCW t (1 - p) s else 10
/-- the best choice of a set -/
def bestC (t : zT) (p : Int) (o : z7) (x : Int) : Nat := ((zKi (zBG t p o).2.2 x).getD 0).toNat
def zFE (w c : Nat) : List zAG := (List.replicate w [48]).set c [49]
def zBg (t : zT) (p : Int) (o : z7) (x : Int) : TChoice := ⟨x, zFE (zc t p x) (bestC t p o x)⟩
def zFO (t : zT) (p : Int) (o : z7) : zAX := (zd t p).map (zBg t p o)
def zIW (t : zT) (p : Int) (s : zAX) : Rat := (zBG t p (zAw t p s)).2.1.getD 0 0
/-- reply.Best -/
def zGv (t : zT) (p : Int) (s : zAX) : zAG × zAX × Int :=
 if zHY t p s ≠ 0 then ([], [], zHY t p s) else if (zEK (zIW t p s)).2 ≠ 0 then ([], [], (zEK (zIW t p s)).2) else ((zEK (zIW t p s)).1, zFO t p (zAw t p s), 0)
def bestA (r : zAG × zAX × Int) : AV := .tup [.str r.1, .ro (zAO r.2.1) 0 r.2.1.length, .int .i64 r.2.2]
theorem bestQ_D {t : zT} (hv : Valid t) (hm : Go.Ax.Rt.Modest t) {p : Int} {s : zAX} (hp : p = 0 ∨ p = 1) (hpf : zCL t p = true) (hs : StrS t (1 - p) s) : D 974 (zIW t p s) := by
 rcases hp with rfl | rfl
 · exact bestV_D0 hv hm hpf hs.str
 · exact bestV_D1 hv hm hpf hs.str
theorem rowC2 (c : TChoice) (j : Nat) (hj : j < 2) : (zEb 1 2 [.int .i64 c.info, .ro (.strs c.odds) 0 c.odds.length]).at 0 j = (cellsC c).getD j .any := by
 match j, hj with
 | 0, _ => rfl
 | 1, _ => rfl
theorem zPK (t : zT) (p : Int) : (zd t p).length ≤ 10 := by
 unfold zd
 refine Nat.le_trans (List.length_filter_le _ _) ?_
 simp
theorem best_ok (t : zT) (p : Int) (s : zAX) (h : Small t [s]) : zW Tryz.prog 18 [.ro (zZ t) 0 t.length, .int .i64 p, .ro (zAO s) 0 s.length] (bestA (zGv t p s)) := by
 have c1 := zP6 t p h.sh
 have hsh := h.sh
 have hss := h.s s (by simp)
 refine zM.value0 (zG (P := Tryz.prog) (fn := Tryz.f18) rfl rfl (by kernel_rfl) rfl (fun c hR hfix => ?_)) (fix := fun _ => False) (fun _ h => h) rfl rfl
 unfold zGv at hR
 refine rn0 ?_
 refine zF rfl rfl rfl c1 ?_
 refine rn3 ?_
 refine zE rfl (fun h1 => ?_) (fun h1 => ?_)
 · have e : zHY t p s = zCe t p := by unfold zHY; rw [if_pos h1]
   rw [e, if_pos h1] at hR
   repeat (first | refine zB (zH rfl) ?_ | refine zB (zK rfl) ?_ | refine zC ?_ | refine zA ?_ | refine zY ?_ | refine zJ rfl ?_)
   refine zAc 7 (.ro (zAO []) 0 0) rfl AEq.nil ?_
   refine rn2 ?_
   exact zI hR rfl rfl
 have g1 := Classical.not_not.1 h1
 have hpe : Valid t ∧ (p = 0 ∨ p = 1) := by
   unfold zCe at g1
   by_cases h2 : zGB t ≠ 0
   · rw [if_pos h2] at g1; exact absurd g1 h2
   rw [if_neg h2] at g1
   refine ⟨zMD (Classical.not_not.1 h2), ?_⟩
   by_cases q : p ≠ 0 ∧ p ≠ 1
   · rw [if_pos q] at g1; cases g1
   · omega
 obtain ⟨hv, hp⟩ := hpe
 have c2 := zPv t p h.sh hv
 refine rn1 ?_
 refine zF rfl rfl rfl c2 ?_
 cases hpf : zCL t p
 · have e : zHY t p s = 10 := by unfold zHY; rw [if_neg h1, if_neg (by rw [hpf]; exact fun q => by cases q)]
   rw [e, if_pos (by decide)] at hR
   repeat (first | refine zB (zK rfl) ?_ | refine zC ?_ | refine zA ?_ | refine zY ?_ | refine zJ rfl ?_ | refine zBB rfl ?_ | refine zB (zE9 rfl) ?_)
   refine zAc 7 (.ro (zAO []) 0 0) rfl AEq.nil ?_
   refine rn2 ?_
   exact zI hR rfl rfl
 have eE : zHY t p s = zCW t (1 - p) s := by unfold zHY; rw [if_neg h1, if_pos hpf]
 rw [eE] at hR
 have c3 := zF4 t (1 - p) s h.sh.len hss
 repeat (first | refine zB (zH rfl) ?_ | refine zC ?_ | refine zA ?_ | refine zY ?_ | refine zJ rfl ?_ | refine zAN rfl ?_ | refine zl ?_ | refine zB (zE9 rfl) ?_ | refine zB (zBZ rfl rfl (by omega)) ?_)
 refine zF rfl rfl rfl c3 ?_
 refine rn3 ?_
 refine zE rfl (fun h3 => ?_) (fun h3 => ?_)
 · rw [if_pos h3] at hR
   repeat (first | refine zB (zH rfl) ?_ | refine zB (zK rfl) ?_ | refine zC ?_ | refine zA ?_ | refine zY ?_ | refine zJ rfl ?_)
   refine zAc 7 (.ro (zAO []) 0 0) rfl AEq.nil ?_
   refine rn2 ?_
   exact zI hR rfl rfl
 rw [if_neg h3] at hR
 have hs := h.str (s := s) (by simp) (Classical.not_not.1 h3)
 have c4 := zP0 t p s h.sh hv h.m hp hs
 have hqD := bestQ_D hv h.m hp hpf hs
 have c5 := zNx (zIW t p s) (zGH (hqD.mono (show 974 ≤ 9 * 100000 by decide)))
 have c6 := zON t p h.sh.len
 have hlk := fun x hx => zHv hv (p := p) (zAw t p s) (x := x) hx
 have hin := zPK t p
 have hzl : (zBW t p).length = (zd t p).length := by unfold zBW; simp
 have c4 : zW Tryz.prog 73 [.ro (zZ t) 0 t.length, .int .i64 p, .ro (zAO s) 0 s.length] (.tup [qA (zIW t p s), .rom ((zBG t p (zAw t p s)).2.2.map keyB) ((zBG t p (zAw t p s)).2.2.map valB)]) := c4
 generalize zIW t p s = q at *
 refine rn1 ?_
 refine zF rfl rfl rfl c4 ?_
 unfold qA
 refine rn4 ?_
 refine zQ (c' := .box (zAB q)) rfl rfl rfl rfl rfl Nat.zero_lt_one rfl rfl (fun i' j' hi' hj' => ?_) ?_
 · rw [if_pos (Nat.lt_one_iff.1 hi')]; rfl
 refine rn6 ?_
 refine zF rfl rfl rfl c5 ?_
 refine rn3 ?_
 refine zE rfl (fun h4 => ?_) (fun h4 => ?_)
 · rw [if_pos h4] at hR
   repeat (first | refine zB (zH rfl) ?_ | refine zB (zK rfl) ?_ | refine zC ?_ | refine zA ?_ | refine zY ?_ | refine zJ rfl ?_)
   refine zAc 7 (.ro (zAO []) 0 0) rfl AEq.nil ?_
   refine rn2 ?_
   exact zI hR rfl rfl
 rw [if_neg h4] at hR
 refine rn1 ?_
 refine zF rfl rfl rfl c6 ?_
 repeat (first | refine zB (zH rfl) ?_ | refine zB (zK rfl) ?_ | refine zC ?_ | refine zA ?_ | refine zY ?_ | refine zJ rfl ?_ | refine zB (zB8 rfl rfl) ?_ | refine zB (zA8 rfl rfl rfl) ?_)
 refine zBT 17 ⟨67, zAO []⟩ rfl rfl ?_
 repeat (refine zz ?_)
 refine zj (ι := Nat) (fun k => [(12, .rom ((zBG t p (zAw t p s)).2.2.map keyB) ((zBG t p (zAw t p s)).2.2.map valB)), (13, .str (zEK q).1), (16, .ro (.ints .i64 (zBW t p)) 0 (zBW t p).length), (17, .sl 1 0 k), (60, .ro (.ints .i64 (zd t p)) 0 (zd t p).length), (61, .int .i64 ((zd t p).length : Nat)), (62, .int .i64 (k : Nat))]) (fun k => [some ⟨122, .box (zAB q)⟩, some ⟨67, zAO (((zd t p).take k).map (zBg t p (zAw t p s)))⟩])
   (fun k => k ≤ (zd t p).length) (fun k => (zd t p).length - k) 0 ⟨⟨rfl, rfl, rfl, rfl, rfl, rfl, rfl, trivial⟩, rfl, Nat.zero_le _⟩ ?_
 intro k hk
 refine rn4 ?_
 refine zE rfl (fun h => ?_) (fun h => ?_)
 · have hk' : k < (zd t p).length := by omega
   have hkz : k < (zBW t p).length := by omega
   have hxm : (zd t p).getD k 0 ∈ zd t p := zAr 0 hk'
   have hsz : (zBW t p).getD k 0 = ((zc t p ((zd t p).getD k 0) : Nat) : Int) := by
     unfold zBW; rw [zCt _ _ 0 _ _ hk']
   obtain ⟨cc, l1, l2, l3⟩ := hlk _ hxm
   have hw6 : zc t p ((zd t p).getD k 0) ≤ 6 := by
     obtain ⟨j, hj, hsj⟩ := (zBn hv).1 hxm
     rw [zDa hv hj hsj]; exact hv.few hj
   have hbc : bestC t p (zAw t p s) ((zd t p).getD k 0) = cc := by unfold bestC; rw [l1]; rfl
   obtain ⟨jj, hjj⟩ := List.getElem?_of_mem l3
   have i1 : ((zBG t p (zAw t p s)).2.2.map keyB)[jj]? = some (.int .i64 ((zd t p).getD k 0)) := by rw [List.getElem?_map, hjj]; rfl
   have i2 : ((zBG t p (zAw t p s)).2.2.map valB)[jj]? = some (.int .i64 (cc : Nat)) := by rw [List.getElem?_map, hjj]; rfl
   have htk : ((zd t p).take (k + 1)).map (zBg t p (zAw t p s)) = ((zd t p).take k).map (zBg t p (zAw t p s)) ++ [⟨(zd t p).getD k 0, zFE (zc t p ((zd t p).getD k 0)) cc⟩] := by
     rw [List.take_succ_eq_append_getElem hk', List.map_append, ← zAe 0 hk', ← hbc]; rfl
   have hml : (((zd t p).take k).map (zBg t p (zAw t p s))).length = k := by rw [List.length_map, List.length_take]; omega
   generalize hO2 : ((zd t p).take (k + 1)).map (zBg t p (zAw t p s)) = O2 at *
   generalize ((zd t p).take k).map (zBg t p (zAw t p s)) = O at *
   generalize zc t p ((zd t p).getD k 0) = w at *
   have crep := repeatS [48] w (by omega)
   refine rn6 ?_
   refine zL 71 (.int .i64 (w : Nat)) rfl (AEq.of_eq (by rw [hsz])) ?_
   refine zB1 rfl rfl rfl crep ?_
   refine rn0 ?_
   refine zB (zBQ rfl (.int rfl) rfl rfl rfl rfl (keysB _) jj i1 i2) ?_
   repeat (refine zB (za rfl rfl rfl rfl rfl (by first | (simp only [Nat.zero_add, Int.toNat_natCast, Int.toNat_zero]; exact rfl) | exact rfl) (by omega)) ?_)
   refine zAi (c' := .strs (zFE w cc)) rfl rfl rfl rfl rfl rfl rfl (by show cc < (List.replicate w _).length; rw [List.length_replicate]; exact l2) ?_
   repeat (first | refine zC ?_ | refine zA ?_)
   refine zCl [some ⟨122, .box (zAB q)⟩, some ⟨67, zAO O⟩, some ⟨27, .strs (zFE w cc)⟩] rfl ?_
   have hul : (zFE w cc).length = w := by unfold zFE; rw [List.length_set, List.length_replicate]
   refine zAc 20 (.sl 2 0 w) rfl (AEq.of_eq rfl) ?_
   refine zAx 2 20 w [(12, .rom ((zBG t p (zAw t p s)).2.2.map keyB) ((zBG t p (zAw t p s)).2.2.map valB)), (13, .str (zEK q).1), (16, .ro (.ints .i64 (zBW t p)) 0 (zBW t p).length), (17, .sl 1 0 k), (19, .int .i64 ((zd t p).getD k 0)), (60, .ro (.ints .i64 (zd t p)) 0 (zd t p).length), (61, .int .i64 ((zd t p).length : Nat)), (62, .int .i64 (k : Nat))] rfl zC6 rfl (by show w ≤ (zFE w cc).length; omega) ⟨rfl, rfl, rfl, rfl, rfl, rfl, rfl, rfl, trivial⟩ ?_
   refine zAc 20 (.ro (.strs (zFE w cc)) 0 (zFE w cc).length) rfl (AEq.of_eq (by rw [hul])) ?_
   repeat (first | refine zB (zH rfl) ?_ | refine zJ rfl ?_ | refine zB (zAR rfl rfl rfl rfl rfl rfl) ?_ | refine zk rfl rfl rfl rfl rfl rfl rfl rfl rfl rfl rfl ?_)
   refine zn rfl rfl rfl rfl rfl rfl rfl rfl rfl hml rfl rfl (by show 0 + 1 ≤ 1; omega) rfl (by show (k + 1) * 32 ≤ _ ∧ _; omega) ?_ (by rw [hfix]; exact fun h => h) ?_
   · intro i' j hi hj
     exact zG4 ch0 2 cellsC zFd O ⟨(zd t p).getD k 0, zFE w cc⟩ _ (rowC2 ⟨(zd t p).getD k 0, zFE w cc⟩) 1 i' j hi hj
   repeat (first | refine zB (zK rfl) ?_ | refine zC ?_ | refine zg ?_)
   refine zA ?_
   refine zDt ([some ⟨122, .box (zAB q)⟩, some ⟨67, zAO O2⟩] ++ [none]) ?_ ?_
   · rw [htk]
     exact zAL.eqv (CEq.refl _) (zAL.eqv (zFG ch0 2 cellsC O ⟨(zd t p).getD k 0, zFE w cc⟩ _ (rowC2 ⟨(zd t p).getD k 0, zFE w cc⟩)) (zAL.drop zAL.nil))
   refine zIq (H1 := [some ⟨122, .box (zAB q)⟩, some ⟨67, zAO O2⟩]) rfl (by rw [hfix]; exact fun h => h) ?_
   refine zDt [some ⟨122, .box (zAB q)⟩, some ⟨67, zAO O2⟩] ?_ ?_
   · exact zAL.eqv (CEq.refl _) (zAL.eqv ⟨rfl, rfl, fun i j _ hj => (zFd _ j _ hj).symm⟩ zAL.nil)
   refine rn3 ?_
   exact zN ⟨k + 1, by omega, by omega, ⟨rfl, rfl, rfl, rfl, rfl, rfl, rfl, trivial⟩, by rw [hO2]⟩
 · have hke : k = (zd t p).length := by omega
   subst hke
   rw [List.take_length]
   have hbl : (zFO t p (zAw t p s)).length = (zd t p).length := by unfold zFO; rw [List.length_map]
   have hbs : (zd t p).map (zBg t p (zAw t p s)) = zFO t p (zAw t p s) := rfl
   rw [hbs]
   generalize zFO t p (zAw t p s) = B at *
   repeat (first | refine zA ?_ | refine zY ?_ | refine zAs ?_ | refine zq ?_ | refine zr ?_ | refine zAF ?_)
   refine zAx 1 17 (zd t p).length [(13, .str (zEK q).1)] rfl (zC5 _) rfl (by show _ ≤ B.length; omega) ⟨rfl, trivial⟩ ?_
   refine zAc 17 (.ro (zAO B) 0 B.length) rfl (AEq.of_eq (by rw [hbl])) ?_
   refine rn0 ?_
   exact zI hR rfl rfl
end Go.Proofs.YtnkealfaldjipaaGreatDoor
namespace Go.Proofs.YtnkealfaldjipaaGreatDoor
open Go.Ax Go.Ax.Bg Go.Ax.Rt Go.RowKit Go.Ax.Idx Go.Ax.Cd
attribute [local irreducible] Ax zAM QOp zM zp
set_option maxRecDepth 100000
set_option maxHeartbeats 4000000
theorem zQE (t : zT) (g : FuncId) (caps : List AV) (q : TNode → Bool) (hc : noRef.noRefs caps = true) (hlen : t.length ≤ 9223372036854775807) (hp : ∀ n ∈ t, zW Tryz.prog g ([.agg (zBO n)] ++ caps) (.bool (q n))) :
   zW Tryz.prog 64 [.ro (zZ t) 0 t.length, .fn g caps] (.bool (t.any q)) := by
 have ci := zI3 t g caps q hc hlen hp
 refine zM.value0 (zG (P := Tryz.prog) (fn := Tryz.f64) rfl rfl (by kernel_rfl) rfl (fun c hR hfix => ?_)) (fix := fun _ => False) (fun _ h => h) (by simp [noRef.noRefs, noRef, hc]) rfl
 refine rn0 ?_
 refine zF rfl rfl rfl ci ?_
 repeat (first | refine zB (zK rfl) ?_ | refine zC ?_ | refine zA ?_ | refine zAI ?_ | refine zB (zC8 rfl rfl) ?_)
 refine zI hR rfl ?_
 simp only [zBR, zE8]
def zKh (n : TNode) : Bool := decide (12 < (n.pay.length : Int)) || n.odds.any (fun s => decide (12 < (s.length : Int)))
theorem modest11 (s : zAG) (hs : s.length ≤ 9223372036854775807) : zW Tryz.prog 67 [.str s] (.bool (decide (12 < (s.length : Int)))) := by
 refine zM.value0 (zG (P := Tryz.prog) (fn := Tryz.f67) rfl rfl (by kernel_rfl) rfl (fun c hR hfix => ?_)) (fix := fun _ => False) (fun _ h => h) rfl rfl
 refine rn6 ?_
 exact zI hR rfl rfl
theorem modest1 (n : TNode) (hn : ShortN n) : zW Tryz.prog 65 [.agg (zBO n)] (.bool (zKh n)) := by
 obtain ⟨h1, h2, h3, h4⟩ := hn
 have cc := zH5 n.odds 67 [] (fun s => decide (12 < (s.length : Int))) rfl h2 (fun s hs => modest11 s (h3 s hs))
 refine zM.value0 (zG (P := Tryz.prog) (fn := Tryz.f65) rfl rfl (by kernel_rfl) rfl (fun c hR hfix => ?_)) (fix := fun _ => False) (fun _ h => h) rfl rfl
 obtain ⟨kd, pl, nf, nx, od, py⟩ := n
 unfold zKh at hR
 unfold zBO
 simp only at *
 refine rn6 ?_
 refine zu rfl rfl (fun g1 => ?_) (fun g1 => ?_)
 · rw [decide_eq_true g1, Bool.true_or] at hR
   refine rn6 ?_
   exact zI hR rfl rfl
 · rw [decide_eq_false g1, Bool.false_or] at hR
   refine rn5 ?_
   refine zF rfl rfl rfl cc ?_
   refine rn2 ?_
   exact zI hR rfl rfl
def zHm (t : zT) : Bool := decide ((t.length : Int) ≤ 40) && !(t.any zKh)
theorem zIe {t : zT} (h : zHm t = true) : Go.Ax.Rt.Modest t := by
 unfold zHm at h
 rw [Bool.and_eq_true, decide_eq_true_eq, Bool.not_eq_true', List.any_eq_false] at h
 obtain ⟨h1, h2⟩ := h
 refine ⟨by omega, fun n hn => ?_, fun n hn r hr => ?_⟩
 · have := h2 n hn
   unfold zKh at this
   rw [Bool.not_eq_true, Bool.or_eq_false_iff, decide_eq_false_iff_not] at this
   omega
 · have := h2 n hn
   unfold zKh at this
   rw [Bool.not_eq_true, Bool.or_eq_false_iff, List.any_eq_false] at this
   have := this.2 r hr
   rw [decide_eq_true_eq] at this
   omega
theorem zPp (t : zT) (hT : ShortT t) : zW Tryz.prog 16 [.ro (zZ t) 0 t.length] (.bool (zHm t)) := by
 have cc := zQE t 65 [] zKh rfl hT.len (fun n hn => modest1 n (hT.node n hn))
 have hlen := hT.len
 refine zM.value0 (zG (P := Tryz.prog) (fn := Tryz.f16) rfl rfl (by kernel_rfl) rfl (fun c hR hfix => ?_)) (fix := fun _ => False) (fun _ h => h) rfl rfl
 unfold zHm at hR
 repeat (first | refine zB (zH rfl) ?_ | refine zB (zK rfl) ?_ | refine zC ?_ | refine zA ?_ | refine zY ?_ | refine zJ rfl ?_ | refine zB (zJw rfl rfl) ?_ | refine zB (zA8 rfl rfl rfl) ?_)
 refine zu rfl rfl (fun g1 => ?_) (fun g1 => ?_)
 · rw [decide_eq_true g1, Bool.true_and] at hR
   refine rn2 ?_
   refine zF rfl rfl rfl cc ?_
   refine rn5 ?_
   exact zI hR rfl rfl
 · rw [decide_eq_false g1, Bool.false_and] at hR
   refine rn6 ?_
   exact zI hR rfl rfl
theorem zJe {ls : List zAX} (h : zJ4 ls = true) : ∀ s ∈ ls, ∀ c ∈ s, ∀ r ∈ c.odds, r.length ≤ 12 := by
 unfold zJ4 at h
 rw [Bool.not_eq_true', List.any_eq_false] at h
 intro s hs c hc r hr
 have := h c (List.mem_flatten.2 ⟨s, hs, hc⟩)
 unfold zMs at this
 rw [Bool.not_eq_true, List.any_eq_false] at this
 have := this r hr
 rw [decide_eq_true_eq] at this
 omega
end Go.Proofs.YtnkealfaldjipaaGreatDoor
