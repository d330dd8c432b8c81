import Derived.Test.YtnkealfaldjipaaGreatDoorY4
set_option linter.unusedVariables false
set_option linter.unusedSimpArgs false
namespace Go.Proofs.YtnkealfaldjipaaGreatDoor
open Go.Ax Go.Ax.Bg Go.Ax.Rt Go.RowKit Go.Ax.Idx Go.Ax.Cd
attribute [local irreducible] Ax zAM QOp zM zq
set_option maxRecDepth 100000
set_option maxHeartbeats 4000000
abbrev zGj (F : List (Int × Nat)) : Cells := .mp (F.map (fun x => .int .i64 x.1)) (F.map (fun x => .int .i64 (x.2 : Nat)))
theorem zIL (F : List (Int × Nat)) : ∀ x ∈ F.map (fun x : Int × Nat => AV.int .i64 x.1), zCu (.int .i64) x = true := by
 intro x hx
 obtain ⟨e, _, rfl⟩ := List.mem_map.1 hx
 rfl
theorem zDA {m : List (Int × Nat)} {k : Int} {s : Nat} (h : zBM m k = some s) : ∃ j : Nat, (m.map (fun x : Int × Nat => AV.int .i64 x.1))[j]? = some (.int .i64 k) ∧ (m.map (fun x : Int × Nat => AV.int .i64 (x.2 : Nat)))[j]? = some (.int .i64 (s : Nat)) := by
 obtain ⟨j, hj⟩ := List.getElem?_of_mem (zCI h)
 exact ⟨j, by rw [List.getElem?_map, hj]; rfl, by rw [List.getElem?_map, hj]; rfl⟩
theorem zGP {m : List (Int × Nat)} {k : Int} (h : zBM m k = none) : AV.int .i64 k ∉ m.map (fun x : Int × Nat => AV.int .i64 x.1) := by
 intro hm
 obtain ⟨x, hx, e⟩ := List.mem_map.1 hm
 have := zG1 h
 injection e with e1 e2
 exact this (List.mem_map.2 ⟨x, hx, e2⟩)
theorem zE7 (F : List (Int × Nat)) (n : Nat) : zA2 n (zGj F) := ⟨zBy (fun _ => rfl) F, zBy (fun _ => rfl) F⟩
theorem zMr {p : Int} {kd pl nf : Int} {nx : List Int} {od : List zAK} {py : zAK} : own p ⟨kd, pl, nf, nx, od, py⟩ = (decide (kd = 2) && decide (pl = p)) := rfl
theorem zOy (t : zT) (p : Int) (hT : ShortT t) (hv : Valid t) : zV Tryz.prog 72 [.ro (zd t) 0 t.length, .int .i64 p] (.bool (zBh t p)) := by
 have hlen := hT.len
 have h120 := hv.le
 have cw := ways_ok t p hT hv
 have hWl : (zDe t p).length = t.length := zFA t p t.length
 have hWs := zM0 hv p
 have hmono : ∀ n i, i ≤ n → zEZ t p (zDe t p) i = false → zEZ t p (zDe t p) n = false := by
   intro n
   induction n with
   | zero => intro i hi h; obtain rfl : i = 0 := by omega
             exact h
   | succ n ih =>
     intro i hi h
     by_cases e : i = n + 1
     · subst e; exact h
     · rw [zEZ, ih i (by omega) h]; rfl
 refine zM.value0 (zG (P := Tryz.prog) (fn := Tryz.f72) rfl rfl (by kernel_rfl) rfl (fun c hR hfix => ?_)) (fix := fun _ => False) (fun _ h => h) rfl rfl
 have hR : c.R = fun r' _ => r' = .bool (zEZ t p (zDe t p) t.length) := hR
 generalize zDe t p = W at *
 refine rn0 ?_
 refine zE rfl rfl rfl cw ?_
 refine rn0 ?_
 refine zED ?_
 refine rn3 ?_
 refine zk (ι := Nat) (fun i => [(0, .ro (zd t) 0 t.length), (1, .int .i64 p), (5, .ro (zBt W) 0 t.length), (6, .mp 0), (15, .ro (zd t) 0 t.length), (16, .int .i64 (t.length : Nat)), (17, .int .i64 (i : Nat))]) (fun i => [some ⟨123, zGj (zAv t p i)⟩])
   (fun i => i ≤ t.length ∧ zEZ t p W i = true) (fun i => t.length - i) 0 ⟨⟨rfl, rfl, rfl, rfl, rfl, rfl, rfl, trivial⟩, rfl, Nat.zero_le _, rfl⟩ ?_
 rintro i ⟨hi, hP⟩
 refine rn4 ?_
 refine zF rfl (fun h => ?_) (fun h => ?_)
 · have hi' : i < t.length := by omega
   have hfs : zAv t p (i + 1) = if own p (t.getD i node0) = true ∧ zBM (zAv t p i) (t.getD i node0).info = none then zAv t p i ++ [((t.getD i node0).info, i)] else zAv t p i := rfl
   have hps : zEZ t p W (i + 1) = (zEZ t p W i && (if own p (t.getD i node0) = true then (match zBM (zAv t p i) (t.getD i node0).info with | none => true | some k => decide (W.getD i [] = W.getD k [])) else true)) := rfl
   have hff : ∀ x ∈ zAv t p i, x.2 < i := fun x hx => (zEY hx).1
   have hno := hmono t.length (i + 1) (by omega)
   rw [hP, Bool.true_and] at hps
   generalize hF2 : zAv t p (i + 1) = F2 at *
   generalize zAv t p i = F at *
   generalize hP2 : zEZ t p W (i + 1) = P2 at *
   refine rn6 ?_
   refine zL 21 (.agg (zBY (t.getD i node0))) rfl (AEq.of_eq rfl) ?_
   generalize t.getD i node0 = n at *
   obtain ⟨kd, pl, nf, nx, od, py⟩ := n
   simp only at *
   refine zR (c' := .box [.int .i64 kd, .int .i64 pl, .int .i64 nf, .ro (.ints .i64 nx) 0 nx.length, .ro (.strs od) 0 od.length, .str py]) rfl rfl rfl rfl rfl Nat.zero_lt_one rfl rfl (fun i' j' hi' hj' => ?_) ?_
   · rw [if_pos (Nat.lt_one_iff.1 hi')]; rfl
   refine zAn [some ⟨123, zGj F⟩, some ⟨40, .box [.int .i64 kd, .int .i64 pl, .int .i64 nf, .ro (.ints .i64 nx) 0 nx.length, .ro (.strs od) 0 od.length, .str py]⟩] rfl ?_
   refine rn5 ?_
   refine zt rfl rfl (fun g1 => ?_) (fun g1 => ?_)
   · rw [zMr, decide_eq_false g1, Bool.false_and] at hfs hps
     rw [if_neg (by rintro ⟨q, _⟩; cases q)] at hfs
     rw [if_neg (by decide)] at hps
     repeat (first | refine zC ?_ | refine zAo rfl rfl rfl ?_ | refine zB (zAd rfl rfl) ?_)
     refine zA ?_
     repeat (first | refine zBC rfl ?_ | refine zA3 ?_ | refine z8 ?_ | refine z7 ?_)
     refine zA ?_
     refine zAz [some ⟨123, zGj (F)⟩] [some ⟨40, .box [.int .i64 kd, .int .i64 pl, .int .i64 nf, .ro (.ints .i64 nx) 0 nx.length, .ro (.strs od) 0 od.length, .str py]⟩] [(0, .ro (zd t) 0 t.length), (1, .int .i64 p), (5, .ro (zBt W) 0 t.length), (6, .mp 0), (15, .ro (zd t) 0 t.length), (16, .int .i64 (t.length : Nat)), (17, .int .i64 (i : Nat))] rfl ⟨rfl, rfl, rfl, rfl, rfl, rfl, rfl, trivial⟩ (fun h hh => by rw [hfix] at hh; exact absurd hh id) (zDN (zE7 _ _)) rfl ?_
     refine rn3 ?_
     exact zP ⟨i + 1, ⟨by omega, by rw [hP2, hps]⟩, by omega, ⟨rfl, rfl, rfl, rfl, rfl, rfl, rfl, trivial⟩, by rw [hF2, hfs]⟩
   have g1 := Classical.not_not.1 g1
   refine rn5 ?_
   refine zF rfl (fun g2 => ?_) (fun g2 => ?_)
   · rw [zMr, decide_eq_true g1, decide_eq_false g2, Bool.true_and] at hfs hps
     rw [if_neg (by rintro ⟨q, _⟩; cases q)] at hfs
     rw [if_neg (by decide)] at hps
     repeat (first | refine zA3 ?_ | refine z8 ?_ | refine z7 ?_)
     refine zA ?_
     refine zAz [some ⟨123, zGj (F)⟩] [some ⟨40, .box [.int .i64 kd, .int .i64 pl, .int .i64 nf, .ro (.ints .i64 nx) 0 nx.length, .ro (.strs od) 0 od.length, .str py]⟩] [(0, .ro (zd t) 0 t.length), (1, .int .i64 p), (5, .ro (zBt W) 0 t.length), (6, .mp 0), (15, .ro (zd t) 0 t.length), (16, .int .i64 (t.length : Nat)), (17, .int .i64 (i : Nat))] rfl ⟨rfl, rfl, rfl, rfl, rfl, rfl, rfl, trivial⟩ (fun h hh => by rw [hfix] at hh; exact absurd hh id) (zDN (zE7 _ _)) rfl ?_
     refine rn3 ?_
     exact zP ⟨i + 1, ⟨by omega, by rw [hP2, hps]⟩, by omega, ⟨rfl, rfl, rfl, rfl, rfl, rfl, rfl, trivial⟩, by rw [hF2, hfs]⟩
   have g2 := Classical.not_not.1 g2
   rw [zMr, decide_eq_true g1, decide_eq_true g2, Bool.true_and] at hfs hps
   rw [if_pos rfl] at hps
   refine rn5 ?_
   cases hL : zBM F nf with
   | none =>
     rw [hL, if_pos ⟨rfl, rfl⟩] at hfs
     rw [hL] at hps
     simp only at hps
     refine zB (zEs rfl (.int rfl) rfl rfl rfl rfl rfl rfl rfl rfl (zIL F) (zGP hL)) ?_
     refine rn5 ?_
     refine zCH rfl (.int rfl) rfl rfl rfl rfl rfl (zIL F) (zGP hL) ?_
     refine zAn [some ⟨123, zGj (F ++ [(nf, i)])⟩, some ⟨40, .box [.int .i64 kd, .int .i64 pl, .int .i64 nf, .ro (.ints .i64 nx) 0 nx.length, .ro (.strs od) 0 od.length, .str py]⟩] (by unfold zGj; rw [List.map_append, List.map_append]; rfl) ?_
     repeat (refine zC ?_)
     refine zA ?_
     refine zAz [some ⟨123, zGj (F ++ [(nf, i)])⟩] [some ⟨40, .box [.int .i64 kd, .int .i64 pl, .int .i64 nf, .ro (.ints .i64 nx) 0 nx.length, .ro (.strs od) 0 od.length, .str py]⟩] [(0, .ro (zd t) 0 t.length), (1, .int .i64 p), (5, .ro (zBt W) 0 t.length), (6, .mp 0), (15, .ro (zd t) 0 t.length), (16, .int .i64 (t.length : Nat)), (17, .int .i64 (i : Nat))] rfl ⟨rfl, rfl, rfl, rfl, rfl, rfl, rfl, trivial⟩ (fun h hh => by rw [hfix] at hh; exact absurd hh id) (zDN (zE7 _ _)) rfl ?_
     refine rn5 ?_
     exact zP ⟨i + 1, ⟨by omega, by rw [hP2, hps]⟩, by omega, ⟨rfl, rfl, rfl, rfl, rfl, rfl, rfl, trivial⟩, by rw [hF2, hfs]⟩
   | some k0 =>
     rw [hL, if_neg (by rintro ⟨_, q⟩; cases q)] at hfs
     rw [hL] at hps
     simp only at hps
     obtain ⟨jj, i1, i2⟩ := zDA hL
     have hk0 := hff _ (zCI hL)
     simp only at hk0
     have hk0' : k0 < t.length := by omega
     have hw0 : ∀ z, (W.getD z []).length ≤ 9223372036854775807 := fun z => zJa (P := fun w : zCF => w.length ≤ 9223372036854775807) (fun w hw => Nat.le_trans (hWs w hw) (by decide)) (Nat.zero_le _) z
     have ceq := equalP (W.getD i []) (W.getD k0 []) (hw0 i) (hw0 k0)
     refine zB (zBU rfl (.int rfl) rfl rfl rfl rfl (zIL F) jj i1 i2) ?_
     refine rn5 ?_
     refine zl (by kernel_rfl) ?_
     refine zz (fuel := 0) [0, 1, 2, 3, 4, 5, 6, 7, 8, 9] [(0, .ro (zd t) 0 t.length), (1, .int .i64 p), (5, .ro (zBt W) 0 t.length), (6, .mp 0), (15, .ro (zd t) 0 t.length), (16, .int .i64 (t.length : Nat)), (17, .int .i64 (i : Nat)), (7, .int .i64 (i : Nat)), (8, .ptr 1 0 0), (9, .int .i64 (k0 : Nat))] ⟨rfl, rfl, rfl, rfl, rfl, rfl, rfl, rfl, rfl, rfl, trivial⟩ (by kernel_rfl) (by decide) rfl rfl ?_
     refine zW rfl rfl (zH rfl) ?_
     refine zW rfl rfl (zH rfl) ?_
     refine zW rfl rfl (zh rfl rfl rfl rfl (by first | (simp only [Nat.zero_add, Int.toNat_natCast, Int.toNat_zero]; exact rfl) | exact rfl) (by omega)) ?_
     refine zW rfl rfl (zCJ rfl rfl rfl rfl) ?_
     refine zW rfl rfl (zH rfl) ?_
     refine zW rfl rfl (zH rfl) ?_
     refine zW rfl rfl (zh rfl rfl rfl rfl (by first | (simp only [Nat.zero_add, Int.toNat_natCast, Int.toNat_zero]; exact rfl) | exact rfl) (by omega)) ?_
     refine zW rfl rfl (zCJ rfl rfl rfl rfl) ?_
     refine zCG rfl rfl rfl rfl rfl ceq ?_
     refine zW rfl rfl (zFG rfl) ?_
     refine zAg ?_
     refine zi (by kernel_rfl) ?_
     repeat (refine zA ?_)
     by_cases he : W.getD i [] = W.getD k0 []
     · rw [decide_eq_true he] at hps ⊢
       repeat (first | refine zAT rfl ?_ | refine zj ?_ | refine zn ?_)
       refine zA ?_
       refine zAz [some ⟨123, zGj (F)⟩] [some ⟨40, .box [.int .i64 kd, .int .i64 pl, .int .i64 nf, .ro (.ints .i64 nx) 0 nx.length, .ro (.strs od) 0 od.length, .str py]⟩] [(0, .ro (zd t) 0 t.length), (1, .int .i64 p), (5, .ro (zBt W) 0 t.length), (6, .mp 0), (15, .ro (zd t) 0 t.length), (16, .int .i64 (t.length : Nat)), (17, .int .i64 (i : Nat))] rfl ⟨rfl, rfl, rfl, rfl, rfl, rfl, rfl, trivial⟩ (fun h hh => by rw [hfix] at hh; exact absurd hh id) (zDN (zE7 _ _)) rfl ?_
       refine rn3 ?_
       exact zP ⟨i + 1, ⟨by omega, by rw [hP2, hps]⟩, by omega, ⟨rfl, rfl, rfl, rfl, rfl, rfl, rfl, trivial⟩, by rw [hF2, hfs]⟩
     · rw [decide_eq_false he] at hps ⊢
       rw [hno hps] at hR
       refine rn6 ?_
       exact zI hR rfl rfl
 · have hie : i = t.length := by omega
   subst hie
   rw [hP] at hR
   refine rn5 ?_
   exact zI hR rfl rfl
end Go.Proofs.YtnkealfaldjipaaGreatDoor
namespace Go.Proofs.YtnkealfaldjipaaGreatDoor
open Go.Ax Go.Ax.Bg Go.Ax.Rt Go.RowKit Go.Ax.Idx Go.Ax.Cd
attribute [local irreducible] Ax zAM QOp zM zq
set_option maxRecDepth 100000
set_option maxHeartbeats 4000000
def zFS (s : RSeq) : List AV := [.int .i64 s.info, .int .i64 s.choice, .int .i64 s.before]
abbrev zIV (l : List RSeq) : Cells := zCW zBa 3 zFS l
theorem zK9 (s : RSeq) (j h : Nat) (hj : j < 3) : ((zFS s).getD j .any).forget h = (zFS s).getD j .any := by
 match j, hj with
 | 0, _ => rfl
 | 1, _ => rfl
 | 2, _ => rfl
theorem zK0 (s : RSeq) (j : Nat) : noRef ((zFS s).getD j .any) = true := by
 match j with
 | 0 => rfl
 | 1 => rfl
 | 2 => rfl
 | _ + 3 => rfl
theorem zK2 (l : List RSeq) : z6 (zIV l) := by
 intro i j _ hj
 exact zK0 _ j
theorem rowS3 (s : RSeq) (j : Nat) (hj : j < 3) : (zEh 1 3 [.int .i64 s.info, .int .i64 s.choice, .int .i64 s.before]).at 0 j = (zFS s).getD j .any := by
 match j, hj with
 | 0, _ => rfl
 | 1, _ => rfl
 | 2, _ => rfl
abbrev formB (n N : Nat) : Cells := .box [.sl 0 0 n, .sl 1 0 N]
abbrev zCZ (N : Nat) (f : RForm) (L : zQ) : zQ := some ⟨174, zIV f.seqs⟩ :: some ⟨3, .ints .i64 f.pos⟩ :: some ⟨169, formB f.seqs.length N⟩ :: some ⟨123, zGj f.first⟩ :: L
theorem add_len (p : Int) (n : TNode) (i : Nat) (f : RForm) : f.seqs.length ≤ (zAI p n i f).seqs.length := by
 unfold zAI
 split
 · show _ ≤ (_ ++ _ : List RSeq).length
   rw [List.length_append]; omega
 · exact Nat.le_refl _
theorem zJ7 (t : zT) (p : Int) (i : Nat) : ∀ e, (zAE t p i).seqs.length ≤ (zAE t p (i + e)).seqs.length
 | 0 => Nat.le_refl _
 | e + 1 => by
   rw [← Nat.add_assoc, zAE, zIZ]
   exact Nat.le_trans (zJ7 t p i e) (add_len _ _ _ _)
theorem zLn {t : zT} (hv : Valid t) (p : Int) {i : Nat} (hi : i ≤ t.length) : (zAE t p i).seqs.length ≤ 61 := by
 have h1 := zJ7 t p i (t.length - i)
 rw [show i + (t.length - i) = t.length by omega] at h1
 exact Nat.le_trans h1 (zLr hv p)
theorem zMp (l : List RSeq) (n : Nat) : zA2 n (zIV l) := by
 intro i j _ hj
 have hj : j < 3 := hj
 match j, hj with
 | 0, _ => rfl
 | 1, _ => rfl
 | 2, _ => rfl
theorem zG8 (N : Nat) (f : RForm) : ∀ (h : Nat) (o : AObj), (zCZ N f [])[h]? = some (some o) → zA2 4 o.c := by
 intro h o ho
 match h, ho with
 | 0, ho => cases ho; exact zMp _ _
 | 1, ho => cases ho; exact zCl _ _ _
 | 2, ho =>
   cases ho
   intro i j _ hj
   have hj : j < 2 := hj
   match j, hj with
   | 0, _ => rfl
   | 1, _ => rfl
 | 3, ho => cases ho; exact zE7 _ _
 | _ + 4, ho => simp at ho
theorem add_yes {p : Int} {n : TNode} {i : Nat} {f : RForm} (h1 : own p n = true) (h2 : zBM f.first n.info = none) : zAI p n i f = ⟨f.seqs ++ zBk n (f.pos.getD i 0), f.pos, f.first ++ [(n.info, f.seqs.length)]⟩ := by unfold zAI; rw [if_pos ⟨h1, h2⟩]
theorem add_old {p : Int} {n : TNode} {i : Nat} {f : RForm} {s : Nat} (h2 : zBM f.first n.info = some s) : zAI p n i f = f := by unfold zAI; rw [if_neg (by rintro ⟨_, q⟩; rw [h2] at q; cases q)]
theorem add_not {p : Int} {n : TNode} {i : Nat} {f : RForm} (h1 : own p n = false) : zAI p n i f = f := by unfold zAI; rw [if_neg (by rintro ⟨q, _⟩; rw [h1] at q; cases q)]
theorem zF4 {α : Type} {h : Nat} {f : α → AV} (hf : ∀ x, (f x).forget h = f x) : ∀ l : List α, AV.forgets h (l.map f) = l.map f
 | [] => rfl
 | a :: r => by
   show (f a).forget h :: AV.forgets h (r.map f) = f a :: r.map f
   rw [hf a, zF4 hf r]
theorem zMx (F : List (Int × Nat)) (h : Nat) : CEq ((zGj F).forget h) (zGj F) := by
 have e : (zGj F).forget h = zGj F := by
   show Cells.mp (AV.forgets h _) (AV.forgets h _) = _
   rw [zF4 (fun _ => rfl), zF4 (fun _ => rfl)]
 rw [e]; exact CEq.refl _
def zH1 (n : TNode) (b : Int) (k : Nat) : List RSeq := (List.range k).map (fun k : Nat => ⟨n.info, (k : Int), b⟩)
theorem zPT (n : TNode) (b : Int) (k : Nat) : zH1 n b (k + 1) = zH1 n b k ++ [⟨n.info, (k : Int), b⟩] := by
 unfold zH1; rw [List.range_succ, List.map_append]; rfl
theorem form_new (N : Nat) (f : RForm) (nf : Int) (n : TNode) (b : Int) (L : zQ) : zCZ N ⟨f.seqs ++ zH1 n b 0, f.pos, f.first ++ [(nf, f.seqs.length)]⟩ L = some ⟨174, zIV f.seqs⟩ :: some ⟨3, .ints .i64 f.pos⟩ :: some ⟨169, formB f.seqs.length N⟩ :: some ⟨123, .mp (f.first.map (fun x => .int .i64 x.1) ++ [.int .i64 nf]) (f.first.map (fun x => .int .i64 (x.2 : Nat)) ++ [.int .i64 (f.seqs.length : Nat)])⟩ :: L := by
 have e : f.seqs ++ zH1 n b 0 = f.seqs := List.append_nil _
 simp only [zCZ, e, zGj, List.map_append, List.map_cons, List.map_nil]
theorem newK_len (n : TNode) (b : Int) (k : Nat) : (zH1 n b k).length = k := by simp [zH1]
theorem of_ok (t : zT) (p : Int) (hT : ShortT t) (hv : Valid t) : zM Tryz.prog 106 [.ro (zd t) 0 t.length, .int .i64 p] [] (fun _ => False) (fun r H' => r = .ptr 2 0 0 ∧ H' = zCZ t.length (zAE t p t.length) []) := by
 have hlen := hT.len
 have h120 := hv.le
 have hN0 := hv.ne
 refine zG (P := Tryz.prog) (fn := Tryz.f106) rfl rfl (by kernel_rfl) rfl (fun c hR hfix => ?_)
 repeat (first | refine zB (zK rfl) ?_ | refine zC ?_ | refine zA ?_ | refine zX ?_ | refine zJ rfl ?_ | refine zB (zAR rfl rfl rfl rfl rfl rfl) ?_)
 refine zEp rfl rfl rfl rfl rfl rfl rfl rfl rfl rfl ?_
 refine rn3 ?_
 refine zCB rfl rfl rfl rfl rfl rfl rfl rfl (by show 0 ≤ _ ∧ _ ≤ _ ∧ (8 : Int) * _ ≤ _ ∧ _; omega) ?_
 repeat (first | refine zB (zK rfl) ?_ | refine zC ?_ | refine zA ?_ | refine zX ?_ | refine zJ rfl ?_ | refine zB (zAR rfl rfl rfl rfl rfl rfl) ?_ | refine zEu rfl rfl ?_)
 refine zED ?_
 refine zA5 (zCZ t.length (zAE t p 0) []) ?_ ?_
 · refine zAL.eqv ⟨rfl, rfl, fun i j hi hj => ?_⟩ (zAL.eqv (CEq.refl _) (zAL.eqv (CEq.refl _) (zAL.eqv (CEq.refl _) zAL.nil)))
   have hj : j < 3 := hj
   obtain rfl := Nat.lt_one_iff.1 (show i < 1 from hi)
   match j, hj with
   | 0, _ => rfl
   | 1, _ => rfl
   | 2, _ => rfl
 refine rn3 ?_
 refine zk (ι := Nat) (fun i => [(0, .ro (zd t) 0 t.length), (1, .int .i64 p), (5, .ptr 2 0 0), (6, .mp 3), (23, .ro (zd t) 0 t.length), (24, .int .i64 (t.length : Nat)), (25, .int .i64 (i : Nat))]) (fun i => zCZ t.length (zAE t p i) [])
   (fun i => i ≤ t.length) (fun i => t.length - i) 0 ⟨⟨rfl, rfl, rfl, rfl, rfl, rfl, rfl, trivial⟩, rfl, Nat.zero_le _⟩ ?_
 intro i hi
 refine rn4 ?_
 refine zF rfl (fun h => ?_) (fun h => ?_)
 · have hi' : i < t.length := by omega
   have hsn := hT.node _ (zA6 node0 hi')
   have hbh := hv.behind hi'
   have hwf := hv.few hi'
   have hRI := RI.all_n hv p i hi
   obtain ⟨_, _, _, _, _, _, _, a8, _, a10⟩ := RI.add hv hRI hi' hRI hRI.s0.1
   have hfl := zLn hv p hi
   have hgf := zLn hv p (show i + 1 ≤ t.length by omega)
   have hfl2 := zEJ t p i
   have hnx : zAE t p (i + 1) = ⟨(zAI p (t.getD i node0) i (zAE t p i)).seqs, zAk (zGm p (t.getD i node0) i (zAI p (t.getD i node0) i (zAE t p i))) (t.getD i node0).next 0 (zAI p (t.getD i node0) i (zAE t p i)).pos, (zAI p (t.getD i node0) i (zAE t p i)).first⟩ := by rw [zAE, zIZ, zHm]
   have hgl : (zAI p (t.getD i node0) i (zAE t p i)).pos.length = t.length := by rw [zFt]; exact hfl2
   rw [hnx] at hgf
   simp only at hgf
   obtain ⟨s1, s2, s3, s4⟩ := hsn
   refine rn6 ?_
   refine zL 29 (.agg (zBY (t.getD i node0))) rfl (AEq.of_eq rfl) ?_
   generalize t.getD i node0 = n at *
   generalize zAE t p i = f at *
   obtain ⟨kd, pl, nf, nx, od, py⟩ := n
   simp only at *
   refine zR (c' := .box [.int .i64 kd, .int .i64 pl, .int .i64 nf, .ro (.ints .i64 nx) 0 nx.length, .ro (.strs od) 0 od.length, .str py]) rfl rfl rfl rfl rfl Nat.zero_lt_one rfl rfl (fun i' j' hi' hj' => ?_) ?_
   · rw [if_pos (Nat.lt_one_iff.1 hi')]; rfl
   refine zAn (zCZ t.length f [some ⟨40, .box [.int .i64 kd, .int .i64 pl, .int .i64 nf, .ro (.ints .i64 nx) 0 nx.length, .ro (.strs od) 0 od.length, .str py]⟩]) rfl ?_
   refine zL 8 (.ptr 4 0 0) rfl (AEq.of_eq rfl) ?_
   have hown : own p ⟨kd, pl, nf, nx, od, py⟩ = (decide (kd = 2) && decide (pl = p)) := rfl
   generalize hv' : zGm p ⟨kd, pl, nf, nx, od, py⟩ i (zAI p ⟨kd, pl, nf, nx, od, py⟩ i f) = v at *
   have hvv : ∀ k, v k = if own p ⟨kd, pl, nf, nx, od, py⟩ = true then (((zBM (zAI p ⟨kd, pl, nf, nx, od, py⟩ i f).first nf).getD 0 : Nat) : Int) + (k : Int) else (zAI p ⟨kd, pl, nf, nx, od, py⟩ i f).pos.getD i 0 := fun k => by rw [← hv']; rfl
   have hay := @add_yes p ⟨kd, pl, nf, nx, od, py⟩ i f
   have hao := @add_old p ⟨kd, pl, nf, nx, od, py⟩ i f
   have han := @add_not p ⟨kd, pl, nf, nx, od, py⟩ i f
   generalize hb : own p ⟨kd, pl, nf, nx, od, py⟩ = b at *
   apply zAj (H := zCZ t.length f [some ⟨40, .box [.int .i64 kd, .int .i64 pl, .int .i64 nf, .ro (.ints .i64 nx) 0 nx.length, .ro (.strs od) 0 od.length, .str py]⟩]) [(0, .ro (zd t) 0 t.length), (1, .int .i64 p), (5, .ptr 2 0 0), (6, .mp 3), (7, .int .i64 (i : Nat)), (8, .ptr 4 0 0), (9, .bool b), (23, .ro (zd t) 0 t.length), (24, .int .i64 (t.length : Nat)), (25, .int .i64 (i : Nat))]
   · intro fin
     refine rn5 ?_
     refine zt rfl rfl (fun g1 => ?_) (fun g1 => ?_)
     · repeat (first | refine zB (zH rfl) ?_ | refine zB (zK rfl) ?_ | refine zC ?_ | refine zAC rfl rfl ?_ | refine zB (zS rfl rfl rfl rfl rfl) ?_ | refine zB (zEk rfl rfl) ?_ | refine zB (zAd rfl rfl) ?_ | refine zB (zO rfl rfl rfl rfl rfl rfl) ?_)
       refine zA ?_
       refine zAb 9 (.bool b) rfl (AEq.of_eq (by rw [hown, decide_eq_true g1, Bool.true_and])) ?_
       exact fin _ ⟨rfl, rfl, rfl, rfl, rfl, rfl, rfl, rfl, rfl, rfl, trivial⟩
     · repeat (first | refine zB (zK rfl) ?_ | refine zC ?_ | refine zAo rfl rfl rfl ?_ | refine zB (zAd rfl rfl) ?_)
       refine zA ?_
       refine zAb 9 (.bool b) rfl (AEq.of_eq (by rw [hown, decide_eq_false g1, Bool.false_and])) ?_
       exact fin _ ⟨rfl, rfl, rfl, rfl, rfl, rfl, rfl, rfl, rfl, rfl, trivial⟩
   cases b
   · have hg := han rfl
     generalize zAI p ⟨kd, pl, nf, nx, od, py⟩ i f = g at *
     subst hg
     simp only [Bool.false_eq_true, if_false] at hvv
     refine rn5 ?_
     refine zk (ι := Nat) (fun k => [(0, .ro (zd t) 0 t.length), (1, .int .i64 p), (5, .ptr 2 0 0), (6, .mp 3), (7, .int .i64 (i : Nat)), (8, .ptr 4 0 0), (9, .bool false), (23, .ro (zd t) 0 t.length), (24, .int .i64 (t.length : Nat)), (25, .int .i64 (i : Nat)), (85, .ro (.ints .i64 nx) 0 nx.length), (86, .int .i64 (nx.length : Nat)), (87, .int .i64 (k : Nat))]) (fun k => zCZ t.length ⟨g.seqs, zAk v (nx.take k) 0 g.pos, g.first⟩ [some ⟨40, .box [.int .i64 kd, .int .i64 pl, .int .i64 nf, .ro (.ints .i64 nx) 0 nx.length, .ro (.strs od) 0 od.length, .str py]⟩])
       (fun k => k ≤ nx.length) (fun k => nx.length - k) 0 ⟨⟨rfl, rfl, rfl, rfl, rfl, rfl, rfl, rfl, rfl, rfl, rfl, rfl, rfl, trivial⟩, rfl, Nat.zero_le _⟩ ?_
     intro k hk
     refine rn4 ?_
     refine zF rfl (fun h5 => ?_) (fun h5 => ?_)
     · have hk' : k < nx.length := by omega
       obtain ⟨b1, b2⟩ := hbh _ (zAl 0 hk')
       have hAl : (zAk v (nx.take k) 0 g.pos).length = t.length := by rw [zC0]; exact hgl
       have hAi : (zAk v (nx.take k) 0 g.pos).getD i 0 = g.pos.getD i 0 := zBX v 0 _ _ _ (fun c hc => by have := hbh c (List.mem_of_mem_take hc); omega)
       have hst : zAk v (nx.take (k + 1)) 0 g.pos = (zAk v (nx.take k) 0 g.pos).set (nx.getD k 0).toNat (v k) := by
         rw [zCi hk', zDO, List.length_take, Nat.min_eq_left hk, Nat.zero_add]
       have hvk := hvv k
       generalize hA2 : zAk v (nx.take (k + 1)) 0 g.pos = A2 at *
       generalize zAk v (nx.take k) 0 g.pos = A at *
       obtain ⟨x, hx⟩ := Int.eq_ofNat_of_zero_le (show 0 ≤ nx.getD k 0 by omega)
       have hxn : (nx.getD k 0).toNat = x := by rw [hx, Int.toNat_natCast]
       rw [hx] at b1 b2
       rw [hxn] at hst
       have hxl : x < A.length := by omega
       have hil : i < A.length := by omega
       have hxl2 : x < (A.set x (A.getD i 0)).length := by rw [List.length_set]; exact hxl
       refine rn6 ?_
       refine zAb 14 (.int .i64 (x : Nat)) rfl (AEq.of_eq (by rw [hx])) ?_
       refine zl (by kernel_rfl) ?_
       refine zz (fuel := 1) [0, 1, 2, 3, 4, 5, 6, 7, 8, 9, 10, 11, 12] [(0, .ro (zd t) 0 t.length), (1, .int .i64 p), (5, .ptr 2 0 0), (6, .mp 3), (7, .int .i64 (i : Nat)), (8, .ptr 4 0 0), (9, .bool false), (23, .ro (zd t) 0 t.length), (24, .int .i64 (t.length : Nat)), (25, .int .i64 (i : Nat)), (85, .ro (.ints .i64 nx) 0 nx.length), (86, .int .i64 (nx.length : Nat)), (87, .int .i64 (k : Nat)), (13, .int .i64 (k : Nat)), (14, .int .i64 (x : Nat))] ⟨rfl, rfl, rfl, rfl, rfl, rfl, rfl, rfl, rfl, rfl, rfl, rfl, rfl, rfl, rfl, trivial⟩ (by kernel_rfl) (by decide) rfl rfl ?_
       refine zW rfl rfl (zH rfl) ?_
       refine zW rfl rfl (zAZ rfl) ?_
       refine zW rfl rfl (zO rfl rfl rfl rfl rfl rfl) ?_
       refine zW rfl rfl (zS rfl rfl rfl rfl rfl) ?_
       refine zW rfl rfl (zH rfl) ?_
       refine zW rfl rfl (zH rfl) ?_
       refine zW rfl rfl (zAZ rfl) ?_
       refine zW rfl rfl (zO rfl rfl rfl rfl rfl rfl) ?_
       refine zW rfl rfl (zS rfl rfl rfl rfl rfl) ?_
       refine zW rfl rfl (zH rfl) ?_
       refine zW rfl rfl (zZ rfl rfl rfl rfl rfl (by first | (simp only [Nat.zero_add, Int.toNat_natCast, Int.toNat_zero]; exact rfl) | exact rfl) (by omega)) ?_
       refine zW rfl rfl (zAG rfl rfl rfl rfl (by first | assumption | omega)) ?_
       refine zW rfl rfl (zZ rfl rfl rfl rfl rfl (by first | (simp only [Nat.zero_add, Int.toNat_natCast, Int.toNat_zero]; exact rfl) | exact rfl) (by omega)) ?_
       refine zAg ?_
       refine zD (is := [13]) (by kernel_rfl) (by simp) rfl ⟨fun o ho => ?_, trivial⟩
       all_goals (cases ho)
       repeat (first | refine zC ?_ | refine zg ?_ | refine zAi rfl rfl rfl rfl rfl rfl rfl (by first | assumption | (show _ < List.length _; first | assumption | omega)) ?_)
       refine zi (by kernel_rfl) ?_
       refine rn5 ?_
       exact zP ⟨k + 1, by omega, by omega, ⟨rfl, rfl, rfl, rfl, rfl, rfl, rfl, rfl, rfl, rfl, rfl, rfl, rfl, trivial⟩, by rw [hA2, hst, hvk, ← hAi]; rfl⟩
     · have hke : k = nx.length := by omega
       subst hke
       rw [List.take_length]
       repeat (first | refine zj ?_ | refine zA3 ?_ | refine z8 ?_ | refine z7 ?_ | refine zAS ?_)
       refine zA ?_
       refine zAz (zCZ t.length ⟨g.seqs, zAk v nx 0 g.pos, g.first⟩ []) [some ⟨40, .box [.int .i64 kd, .int .i64 pl, .int .i64 nf, .ro (.ints .i64 nx) 0 nx.length, .ro (.strs od) 0 od.length, .str py]⟩] [(0, .ro (zd t) 0 t.length), (1, .int .i64 p), (5, .ptr 2 0 0), (6, .mp 3), (23, .ro (zd t) 0 t.length), (24, .int .i64 (t.length : Nat)), (25, .int .i64 (i : Nat))] rfl ⟨rfl, rfl, rfl, rfl, rfl, rfl, rfl, trivial⟩ (fun h hh => by rw [hfix] at hh; exact absurd hh id) (zG8 _ _) rfl ?_
       refine rn3 ?_
       exact zP ⟨i + 1, by omega, by omega, ⟨rfl, rfl, rfl, rfl, rfl, rfl, rfl, trivial⟩, by rw [hnx]⟩
   · obtain ⟨s, hs⟩ := a10 rfl
     obtain ⟨jj, i1, i2⟩ := zDA hs
     have hsl := (a8 _ (zCI hs)).2.1
     simp only at hsl
     simp only [if_true] at hvv
     rw [hs] at hvv
     simp only [Option.getD_some] at hvv
     refine rn5 ?_
     cases hL : zBM f.first nf with
     | some s0 =>
       have hg := hao hL
       refine zB (zBU rfl (.int rfl) rfl rfl rfl rfl (zIL f.first) (zDA hL).choose (zDA hL).choose_spec.1 (zDA hL).choose_spec.2) ?_
       generalize zAI p ⟨kd, pl, nf, nx, od, py⟩ i f = g at *
       subst hg
       obtain ⟨jj, i1, i2⟩ := zDA hs
       refine rn5 ?_
       refine zk (ι := Nat) (fun k => [(0, .ro (zd t) 0 t.length), (1, .int .i64 p), (5, .ptr 2 0 0), (6, .mp 3), (7, .int .i64 (i : Nat)), (8, .ptr 4 0 0), (9, .bool true), (23, .ro (zd t) 0 t.length), (24, .int .i64 (t.length : Nat)), (25, .int .i64 (i : Nat)), (85, .ro (.ints .i64 nx) 0 nx.length), (86, .int .i64 (nx.length : Nat)), (87, .int .i64 (k : Nat))]) (fun k => zCZ t.length ⟨g.seqs, zAk v (nx.take k) 0 g.pos, g.first⟩ [some ⟨40, .box [.int .i64 kd, .int .i64 pl, .int .i64 nf, .ro (.ints .i64 nx) 0 nx.length, .ro (.strs od) 0 od.length, .str py]⟩])
         (fun k => k ≤ nx.length) (fun k => nx.length - k) 0 ⟨⟨rfl, rfl, rfl, rfl, rfl, rfl, rfl, rfl, rfl, rfl, rfl, rfl, rfl, trivial⟩, rfl, Nat.zero_le _⟩ ?_
       intro k hk
       refine rn4 ?_
       refine zF rfl (fun h5 => ?_) (fun h5 => ?_)
       · have hk' : k < nx.length := by omega
         obtain ⟨b1, b2⟩ := hbh _ (zAl 0 hk')
         have hAl : (zAk v (nx.take k) 0 g.pos).length = t.length := by rw [zC0]; exact hgl
         have hAi : (zAk v (nx.take k) 0 g.pos).getD i 0 = g.pos.getD i 0 := zBX v 0 _ _ _ (fun c hc => by have := hbh c (List.mem_of_mem_take hc); omega)
         have hst : zAk v (nx.take (k + 1)) 0 g.pos = (zAk v (nx.take k) 0 g.pos).set (nx.getD k 0).toNat (v k) := by
           rw [zCi hk', zDO, List.length_take, Nat.min_eq_left hk, Nat.zero_add]
         have hvk := hvv k
         generalize hA2 : zAk v (nx.take (k + 1)) 0 g.pos = A2 at *
         generalize zAk v (nx.take k) 0 g.pos = A at *
         obtain ⟨x, hx⟩ := Int.eq_ofNat_of_zero_le (show 0 ≤ nx.getD k 0 by omega)
         have hxn : (nx.getD k 0).toNat = x := by rw [hx, Int.toNat_natCast]
         rw [hx] at b1 b2
         rw [hxn] at hst
         have hxl : x < A.length := by omega
         have hil : i < A.length := by omega
         have hxl2 : x < (A.set x (A.getD i 0)).length := by rw [List.length_set]; exact hxl
         refine rn6 ?_
         refine zAb 14 (.int .i64 (x : Nat)) rfl (AEq.of_eq (by rw [hx])) ?_
         refine zl (by kernel_rfl) ?_
         refine zz (fuel := 1) [0, 1, 2, 3, 4, 5, 6, 7, 8, 9, 10, 11, 12] [(0, .ro (zd t) 0 t.length), (1, .int .i64 p), (5, .ptr 2 0 0), (6, .mp 3), (7, .int .i64 (i : Nat)), (8, .ptr 4 0 0), (9, .bool true), (23, .ro (zd t) 0 t.length), (24, .int .i64 (t.length : Nat)), (25, .int .i64 (i : Nat)), (85, .ro (.ints .i64 nx) 0 nx.length), (86, .int .i64 (nx.length : Nat)), (87, .int .i64 (k : Nat)), (13, .int .i64 (k : Nat)), (14, .int .i64 (x : Nat))] ⟨rfl, rfl, rfl, rfl, rfl, rfl, rfl, rfl, rfl, rfl, rfl, rfl, rfl, rfl, rfl, trivial⟩ (by kernel_rfl) (by decide) rfl rfl ?_
         refine zW rfl rfl (zH rfl) ?_
         refine zW rfl rfl (zAZ rfl) ?_
         refine zW rfl rfl (zO rfl rfl rfl rfl rfl rfl) ?_
         refine zW rfl rfl (zS rfl rfl rfl rfl rfl) ?_
         refine zW rfl rfl (zH rfl) ?_
         refine zW rfl rfl (zH rfl) ?_
         refine zW rfl rfl (zAZ rfl) ?_
         refine zW rfl rfl (zO rfl rfl rfl rfl rfl rfl) ?_
         refine zW rfl rfl (zS rfl rfl rfl rfl rfl) ?_
         refine zW rfl rfl (zH rfl) ?_
         refine zW rfl rfl (zZ rfl rfl rfl rfl rfl (by first | (simp only [Nat.zero_add, Int.toNat_natCast, Int.toNat_zero]; exact rfl) | exact rfl) (by omega)) ?_
         refine zW rfl rfl (zAG rfl rfl rfl rfl (by first | assumption | omega)) ?_
         refine zW rfl rfl (zZ rfl rfl rfl rfl rfl (by first | (simp only [Nat.zero_add, Int.toNat_natCast, Int.toNat_zero]; exact rfl) | exact rfl) (by omega)) ?_
         refine zAg ?_
         refine zD (is := [13]) (by kernel_rfl) (by simp) rfl ⟨fun o ho => ?_, trivial⟩
         all_goals (cases ho)
         repeat (first | refine zC ?_ | refine zg ?_ | refine zAi rfl rfl rfl rfl rfl rfl rfl (by first | assumption | (show _ < List.length _; first | assumption | omega)) ?_)
         refine zGN (zCZ t.length ⟨g.seqs, A.set x (A.getD i 0), g.first⟩ [some ⟨40, .box [.int .i64 kd, .int .i64 pl, .int .i64 nf, .ro (.ints .i64 nx) 0 nx.length, .ro (.strs od) 0 od.length, .str py]⟩]) (zAL.refl _) ?_
         refine zi (by kernel_rfl) ?_
         refine rn5 ?_
         refine zl (by kernel_rfl) ?_
         refine zz (fuel := 1) [0, 1, 2, 3, 4, 5, 6, 7, 8, 9, 10, 11] [(0, .ro (zd t) 0 t.length), (1, .int .i64 p), (5, .ptr 2 0 0), (6, .mp 3), (7, .int .i64 (i : Nat)), (8, .ptr 4 0 0), (9, .bool true), (23, .ro (zd t) 0 t.length), (24, .int .i64 (t.length : Nat)), (25, .int .i64 (i : Nat)), (85, .ro (.ints .i64 nx) 0 nx.length), (86, .int .i64 (nx.length : Nat)), (87, .int .i64 (k : Nat)), (13, .int .i64 (k : Nat)), (14, .int .i64 (x : Nat))] ⟨rfl, rfl, rfl, rfl, rfl, rfl, rfl, rfl, rfl, rfl, rfl, rfl, rfl, rfl, rfl, trivial⟩ (by kernel_rfl) (by decide) rfl rfl ?_
         refine zW rfl rfl (zH rfl) ?_
         refine zW rfl rfl (zAZ rfl) ?_
         refine zW rfl rfl (zO rfl rfl rfl rfl rfl rfl) ?_
         refine zW rfl rfl (zS rfl rfl rfl rfl rfl) ?_
         refine zW rfl rfl (zH rfl) ?_
         refine zW rfl rfl (zH rfl) ?_
         refine zW rfl rfl (zO rfl rfl rfl rfl rfl rfl) ?_
         refine zW rfl rfl (zS rfl rfl rfl rfl rfl) ?_
         refine zW rfl rfl (zBU rfl (.int rfl) rfl rfl rfl rfl (zIL g.first) jj i1 i2) ?_
         refine zW rfl rfl (zH rfl) ?_
         refine zW rfl rfl (zC2 rfl rfl (by omega)) ?_
         refine zW rfl rfl (zZ rfl rfl rfl rfl rfl (by first | (simp only [Nat.zero_add, Int.toNat_natCast, Int.toNat_zero]; exact rfl) | exact rfl) (by omega)) ?_
         refine zAg ?_
         refine zD (is := [12]) (by kernel_rfl) (by simp) rfl ⟨fun o ho => ?_, trivial⟩
         all_goals (cases ho)
         repeat (first | refine zC ?_ | refine zg ?_ | refine zAi rfl rfl rfl rfl rfl rfl rfl (by first | assumption | (show _ < List.length _; first | assumption | omega)) ?_)
         refine zi (by kernel_rfl) ?_
         refine rn5 ?_
         exact zP ⟨k + 1, by omega, by omega, ⟨rfl, rfl, rfl, rfl, rfl, rfl, rfl, rfl, rfl, rfl, rfl, rfl, rfl, trivial⟩, by rw [hA2, hst, hvk]; exact congrArg (fun l => zCZ t.length ⟨g.seqs, l, g.first⟩ [some ⟨40, .box [.int .i64 kd, .int .i64 pl, .int .i64 nf, .ro (.ints .i64 nx) 0 nx.length, .ro (.strs od) 0 od.length, .str py]⟩]) (List.set_set ..)⟩
       · have hke : k = nx.length := by omega
         subst hke
         rw [List.take_length]
         repeat (first | refine zj ?_ | refine zA3 ?_ | refine z8 ?_ | refine z7 ?_ | refine zAS ?_)
         refine zA ?_
         refine zAz (zCZ t.length ⟨g.seqs, zAk v nx 0 g.pos, g.first⟩ []) [some ⟨40, .box [.int .i64 kd, .int .i64 pl, .int .i64 nf, .ro (.ints .i64 nx) 0 nx.length, .ro (.strs od) 0 od.length, .str py]⟩] [(0, .ro (zd t) 0 t.length), (1, .int .i64 p), (5, .ptr 2 0 0), (6, .mp 3), (23, .ro (zd t) 0 t.length), (24, .int .i64 (t.length : Nat)), (25, .int .i64 (i : Nat))] rfl ⟨rfl, rfl, rfl, rfl, rfl, rfl, rfl, trivial⟩ (fun h hh => by rw [hfix] at hh; exact absurd hh id) (zG8 _ _) rfl ?_
         refine rn3 ?_
         exact zP ⟨i + 1, by omega, by omega, ⟨rfl, rfl, rfl, rfl, rfl, rfl, rfl, trivial⟩, by rw [hnx]⟩
     | none =>
       have hg := hay rfl hL
       refine zB (zEs rfl (.int rfl) rfl rfl rfl rfl rfl rfl rfl rfl (zIL f.first) (zGP hL)) ?_
       generalize zAI p ⟨kd, pl, nf, nx, od, py⟩ i f = g at *
       obtain ⟨jj, i1, i2⟩ := zDA hs
       simp only at hg
       have hgs : g.seqs.length = f.seqs.length + nx.length := by rw [hg]; simp [zBk]
       have hil : i < f.pos.length := by omega
       refine rn5 ?_
       refine zl (by kernel_rfl) ?_
       refine zz (fuel := 1) [0, 1, 2, 3, 4, 5, 6, 7] [(0, .ro (zd t) 0 t.length), (1, .int .i64 p), (5, .ptr 2 0 0), (6, .mp 3), (7, .int .i64 (i : Nat)), (8, .ptr 4 0 0), (9, .bool true), (23, .ro (zd t) 0 t.length), (24, .int .i64 (t.length : Nat)), (25, .int .i64 (i : Nat))] ⟨rfl, rfl, rfl, rfl, rfl, rfl, rfl, rfl, rfl, rfl, trivial⟩ (by kernel_rfl) (by decide) rfl rfl ?_
       refine zW rfl rfl (zH rfl) ?_
       refine zW rfl rfl (zO rfl rfl rfl rfl rfl rfl) ?_
       refine zW rfl rfl (zS rfl rfl rfl rfl rfl) ?_
       refine zW rfl rfl (zH rfl) ?_
       refine zW rfl rfl (zAZ rfl) ?_
       refine zW rfl rfl (zO rfl rfl rfl rfl rfl rfl) ?_
       refine zW rfl rfl (zS rfl rfl rfl rfl rfl) ?_
       refine zW rfl rfl (zBN rfl rfl rfl) ?_
       refine zAg ?_
       refine zD (is := [8]) (by kernel_rfl) (by simp) rfl ⟨fun o ho => ?_, trivial⟩
       all_goals (cases ho)
       refine zCH rfl (.int rfl) rfl rfl rfl rfl rfl (zIL f.first) (zGP hL) ?_
       refine rn1 ?_
       refine zi (by kernel_rfl) ?_
       refine rn5 ?_
       refine zk (ι := Nat) (fun k => [(0, .ro (zd t) 0 t.length), (1, .int .i64 p), (5, .ptr 2 0 0), (6, .mp 3), (7, .int .i64 (i : Nat)), (8, .ptr 4 0 0), (9, .bool true), (23, .ro (zd t) 0 t.length), (24, .int .i64 (t.length : Nat)), (25, .int .i64 (i : Nat)), (58, .ro (.ints .i64 nx) 0 nx.length), (59, .int .i64 (nx.length : Nat)), (60, .int .i64 (k : Nat))]) (fun k => zCZ t.length ⟨f.seqs ++ zH1 ⟨kd, pl, nf, nx, od, py⟩ (f.pos.getD i 0) k, f.pos, f.first ++ [(nf, f.seqs.length)]⟩ [some ⟨40, .box [.int .i64 kd, .int .i64 pl, .int .i64 nf, .ro (.ints .i64 nx) 0 nx.length, .ro (.strs od) 0 od.length, .str py]⟩])
         (fun k => k ≤ nx.length) (fun k => nx.length - k) 0 ⟨⟨rfl, rfl, rfl, rfl, rfl, rfl, rfl, rfl, rfl, rfl, rfl, rfl, rfl, trivial⟩, (form_new t.length f nf ⟨kd, pl, nf, nx, od, py⟩ (f.pos.getD i 0) [some ⟨40, .box [.int .i64 kd, .int .i64 pl, .int .i64 nf, .ro (.ints .i64 nx) 0 nx.length, .ro (.strs od) 0 od.length, .str py]⟩]).symm, Nat.zero_le _⟩ ?_
       intro k hk
       refine rn4 ?_
       refine zF rfl (fun h5 => ?_) (fun h5 => ?_)
       · have hk' : k < nx.length := by omega
         have hks := zPT ⟨kd, pl, nf, nx, od, py⟩ (f.pos.getD i 0) k
         have hSl : (f.seqs ++ zH1 ⟨kd, pl, nf, nx, od, py⟩ (f.pos.getD i 0) k).length ≤ 61 := by rw [List.length_append, newK_len]; omega
         have hS2 : f.seqs ++ zH1 ⟨kd, pl, nf, nx, od, py⟩ (f.pos.getD i 0) (k + 1) = (f.seqs ++ zH1 ⟨kd, pl, nf, nx, od, py⟩ (f.pos.getD i 0) k) ++ [(⟨nf, (k : Int), f.pos.getD i 0⟩ : RSeq)] := by rw [hks, List.append_assoc]
         generalize hS2' : f.seqs ++ zH1 ⟨kd, pl, nf, nx, od, py⟩ (f.pos.getD i 0) (k + 1) = S2 at *
         generalize f.seqs ++ zH1 ⟨kd, pl, nf, nx, od, py⟩ (f.pos.getD i 0) k = S at *
         refine rn1 ?_
         refine zl (by kernel_rfl) ?_
         apply zCN (H := zCZ t.length ⟨S, f.pos, f.first ++ [(nf, f.seqs.length)]⟩ [some ⟨40, .box [.int .i64 kd, .int .i64 pl, .int .i64 nf, .ro (.ints .i64 nx) 0 nx.length, .ro (.strs od) 0 od.length, .str py]⟩]) [(0, .ro (zd t) 0 t.length), (1, .int .i64 p), (5, .ptr 2 0 0), (6, .mp 3), (7, .int .i64 (i : Nat)), (8, .ptr 4 0 0), (9, .bool true), (23, .ro (zd t) 0 t.length), (24, .int .i64 (t.length : Nat)), (25, .int .i64 (i : Nat)), (58, .ro (.ints .i64 nx) 0 nx.length), (59, .int .i64 (nx.length : Nat)), (60, .int .i64 (k : Nat)), (12, .int .i64 (k : Nat)), (63, .ptr 2 0 0), (67, .sl 0 0 S.length), (79, .ro (zEh 1 3 [.int .i64 nf, .int .i64 (k : Nat), .int .i64 (f.pos.getD i 0)]) 0 1)]
         · intro fin2
           refine zN 0 rfl (by kernel_rfl) (by kernel_rfl) (by kernel_rfl) rfl (zH rfl) rfl ?_
           refine zN 1 rfl (by kernel_rfl) (by kernel_rfl) (by kernel_rfl) rfl (zH rfl) rfl ?_
           refine zN 5 rfl (by kernel_rfl) (by kernel_rfl) (by kernel_rfl) rfl (zO rfl rfl rfl rfl rfl rfl) rfl ?_
           refine zN 7 rfl (by kernel_rfl) (by kernel_rfl) (by kernel_rfl) rfl (zH rfl) rfl ?_
           refine zN 8 rfl (by kernel_rfl) (by kernel_rfl) (by kernel_rfl) rfl (zH rfl) rfl ?_
           refine zN 12 rfl (by kernel_rfl) (by kernel_rfl) (by kernel_rfl) rfl (zH rfl) rfl ?_
           refine zN 2 rfl (by kernel_rfl) (by kernel_rfl) (by kernel_rfl) rfl (zAZ rfl) rfl ?_
           refine zN 9 rfl (by kernel_rfl) (by kernel_rfl) (by kernel_rfl) rfl (zAZ rfl) rfl ?_
           refine zN 3 rfl (by kernel_rfl) (by kernel_rfl) (by kernel_rfl) rfl (zO rfl rfl rfl rfl rfl rfl) rfl ?_
           refine zN 10 rfl (by kernel_rfl) (by kernel_rfl) (by kernel_rfl) rfl (zO rfl rfl rfl rfl rfl rfl) rfl ?_
           refine zD (is := [4, 6, 11]) (by kernel_rfl) (by simp) rfl ⟨fun o ho => ?_, fun o ho => ?_, fun o ho => ?_, trivial⟩
           all_goals (cases ho)
           · refine rn4 ?_
             refine zD (is := [6, 11]) (by kernel_rfl) (by simp) rfl ⟨fun o ho => ?_, fun o ho => ?_, trivial⟩
             all_goals (cases ho)
             · refine rn4 ?_
               refine zD (is := [11]) (by kernel_rfl) (by simp) rfl ⟨fun o ho => ?_, trivial⟩
               all_goals (cases ho)
               refine rn4 ?_
               refine zN 13 rfl (by kernel_rfl) (by kernel_rfl) (by kernel_rfl) rfl (zZ rfl rfl rfl rfl rfl (by first | (simp only [Nat.zero_add, Int.toNat_natCast, Int.toNat_zero]; exact rfl) | exact rfl) (by omega)) rfl ?_
               refine zD (is := [14]) (by kernel_rfl) (by simp) rfl ⟨fun o ho => ?_, trivial⟩
               all_goals (cases ho)
               repeat (first | refine zC ?_ | refine zg ?_ | refine zB (zAG rfl rfl rfl rfl (by first | assumption | omega)) ?_)
               refine zN 15 rfl (by kernel_rfl) (by kernel_rfl) (by kernel_rfl) rfl (zAR rfl rfl rfl rfl rfl rfl) rfl ?_
               refine zD (is := [16]) (by kernel_rfl) (by simp) rfl ⟨fun o ho => ?_, trivial⟩
               all_goals (cases ho)
               refine rn3 ?_
               exact fin2 _ ⟨rfl, rfl, rfl, rfl, rfl, rfl, rfl, rfl, rfl, rfl, rfl, rfl, rfl, rfl, rfl, rfl, rfl, trivial⟩
             · refine rn4 ?_
               refine zN 13 rfl (by kernel_rfl) (by kernel_rfl) (by kernel_rfl) rfl (zZ rfl rfl rfl rfl rfl (by first | (simp only [Nat.zero_add, Int.toNat_natCast, Int.toNat_zero]; exact rfl) | exact rfl) (by omega)) rfl ?_
               refine zD (is := [6, 14]) (by kernel_rfl) (by simp) rfl ⟨fun o ho => ?_, fun o ho => ?_, trivial⟩
               all_goals (cases ho)
               · refine rn4 ?_
                 refine zD (is := [14]) (by kernel_rfl) (by simp) rfl ⟨fun o ho => ?_, trivial⟩
                 all_goals (cases ho)
                 repeat (first | refine zC ?_ | refine zg ?_ | refine zB (zAG rfl rfl rfl rfl (by first | assumption | omega)) ?_)
                 refine zN 15 rfl (by kernel_rfl) (by kernel_rfl) (by kernel_rfl) rfl (zAR rfl rfl rfl rfl rfl rfl) rfl ?_
                 refine zD (is := [16]) (by kernel_rfl) (by simp) rfl ⟨fun o ho => ?_, trivial⟩
                 all_goals (cases ho)
                 refine rn3 ?_
                 exact fin2 _ ⟨rfl, rfl, rfl, rfl, rfl, rfl, rfl, rfl, rfl, rfl, rfl, rfl, rfl, rfl, rfl, rfl, rfl, trivial⟩
               · repeat (first | refine zC ?_ | refine zg ?_ | refine zB (zAG rfl rfl rfl rfl (by first | assumption | omega)) ?_)
                 refine zD (is := [6]) (by kernel_rfl) (by simp) rfl ⟨fun o ho => ?_, trivial⟩
                 all_goals (cases ho)
                 refine rn4 ?_
                 refine zN 15 rfl (by kernel_rfl) (by kernel_rfl) (by kernel_rfl) rfl (zAR rfl rfl rfl rfl rfl rfl) rfl ?_
                 refine zD (is := [16]) (by kernel_rfl) (by simp) rfl ⟨fun o ho => ?_, trivial⟩
                 all_goals (cases ho)
                 refine rn3 ?_
                 exact fin2 _ ⟨rfl, rfl, rfl, rfl, rfl, rfl, rfl, rfl, rfl, rfl, rfl, rfl, rfl, rfl, rfl, rfl, rfl, trivial⟩
           · refine rn4 ?_
             refine zD (is := [4, 11]) (by kernel_rfl) (by simp) rfl ⟨fun o ho => ?_, fun o ho => ?_, trivial⟩
             all_goals (cases ho)
             · refine rn4 ?_
               refine zD (is := [11]) (by kernel_rfl) (by simp) rfl ⟨fun o ho => ?_, trivial⟩
               all_goals (cases ho)
               refine rn4 ?_
               refine zN 13 rfl (by kernel_rfl) (by kernel_rfl) (by kernel_rfl) rfl (zZ rfl rfl rfl rfl rfl (by first | (simp only [Nat.zero_add, Int.toNat_natCast, Int.toNat_zero]; exact rfl) | exact rfl) (by omega)) rfl ?_
               refine zD (is := [14]) (by kernel_rfl) (by simp) rfl ⟨fun o ho => ?_, trivial⟩
               all_goals (cases ho)
               repeat (first | refine zC ?_ | refine zg ?_ | refine zB (zAG rfl rfl rfl rfl (by first | assumption | omega)) ?_)
               refine zN 15 rfl (by kernel_rfl) (by kernel_rfl) (by kernel_rfl) rfl (zAR rfl rfl rfl rfl rfl rfl) rfl ?_
               refine zD (is := [16]) (by kernel_rfl) (by simp) rfl ⟨fun o ho => ?_, trivial⟩
               all_goals (cases ho)
               refine rn3 ?_
               exact fin2 _ ⟨rfl, rfl, rfl, rfl, rfl, rfl, rfl, rfl, rfl, rfl, rfl, rfl, rfl, rfl, rfl, rfl, rfl, trivial⟩
             · refine rn4 ?_
               refine zN 13 rfl (by kernel_rfl) (by kernel_rfl) (by kernel_rfl) rfl (zZ rfl rfl rfl rfl rfl (by first | (simp only [Nat.zero_add, Int.toNat_natCast, Int.toNat_zero]; exact rfl) | exact rfl) (by omega)) rfl ?_
               refine zD (is := [4, 14]) (by kernel_rfl) (by simp) rfl ⟨fun o ho => ?_, fun o ho => ?_, trivial⟩
               all_goals (cases ho)
               · refine rn4 ?_
                 refine zD (is := [14]) (by kernel_rfl) (by simp) rfl ⟨fun o ho => ?_, trivial⟩
                 all_goals (cases ho)
                 repeat (first | refine zC ?_ | refine zg ?_ | refine zB (zAG rfl rfl rfl rfl (by first | assumption | omega)) ?_)
                 refine zN 15 rfl (by kernel_rfl) (by kernel_rfl) (by kernel_rfl) rfl (zAR rfl rfl rfl rfl rfl rfl) rfl ?_
                 refine zD (is := [16]) (by kernel_rfl) (by simp) rfl ⟨fun o ho => ?_, trivial⟩
                 all_goals (cases ho)
                 refine rn3 ?_
                 exact fin2 _ ⟨rfl, rfl, rfl, rfl, rfl, rfl, rfl, rfl, rfl, rfl, rfl, rfl, rfl, rfl, rfl, rfl, rfl, trivial⟩
               · repeat (first | refine zC ?_ | refine zg ?_ | refine zB (zAG rfl rfl rfl rfl (by first | assumption | omega)) ?_)
                 refine zN 15 rfl (by kernel_rfl) (by kernel_rfl) (by kernel_rfl) rfl (zAR rfl rfl rfl rfl rfl rfl) rfl ?_
                 refine zD (is := [4, 16]) (by kernel_rfl) (by simp) rfl ⟨fun o ho => ?_, fun o ho => ?_, trivial⟩
                 all_goals (cases ho)
                 · refine rn4 ?_
                   refine zD (is := [16]) (by kernel_rfl) (by simp) rfl ⟨fun o ho => ?_, trivial⟩
                   all_goals (cases ho)
                   refine rn3 ?_
                   exact fin2 _ ⟨rfl, rfl, rfl, rfl, rfl, rfl, rfl, rfl, rfl, rfl, rfl, rfl, rfl, rfl, rfl, rfl, rfl, trivial⟩
                 · refine rn3 ?_
                   refine zD (is := [4]) (by kernel_rfl) (by simp) rfl ⟨fun o ho => ?_, trivial⟩
                   all_goals (cases ho)
                   refine rn4 ?_
                   exact fin2 _ ⟨rfl, rfl, rfl, rfl, rfl, rfl, rfl, rfl, rfl, rfl, rfl, rfl, rfl, rfl, rfl, rfl, rfl, trivial⟩
           · refine rn4 ?_
             refine zN 13 rfl (by kernel_rfl) (by kernel_rfl) (by kernel_rfl) rfl (zZ rfl rfl rfl rfl rfl (by first | (simp only [Nat.zero_add, Int.toNat_natCast, Int.toNat_zero]; exact rfl) | exact rfl) (by omega)) rfl ?_
             refine zD (is := [4, 6, 14]) (by kernel_rfl) (by simp) rfl ⟨fun o ho => ?_, fun o ho => ?_, fun o ho => ?_, trivial⟩
             all_goals (cases ho)
             · refine rn4 ?_
               refine zD (is := [6, 14]) (by kernel_rfl) (by simp) rfl ⟨fun o ho => ?_, fun o ho => ?_, trivial⟩
               all_goals (cases ho)
               · refine rn4 ?_
                 refine zD (is := [14]) (by kernel_rfl) (by simp) rfl ⟨fun o ho => ?_, trivial⟩
                 all_goals (cases ho)
                 repeat (first | refine zC ?_ | refine zg ?_ | refine zB (zAG rfl rfl rfl rfl (by first | assumption | omega)) ?_)
                 refine zN 15 rfl (by kernel_rfl) (by kernel_rfl) (by kernel_rfl) rfl (zAR rfl rfl rfl rfl rfl rfl) rfl ?_
                 refine zD (is := [16]) (by kernel_rfl) (by simp) rfl ⟨fun o ho => ?_, trivial⟩
                 all_goals (cases ho)
                 refine rn3 ?_
                 exact fin2 _ ⟨rfl, rfl, rfl, rfl, rfl, rfl, rfl, rfl, rfl, rfl, rfl, rfl, rfl, rfl, rfl, rfl, rfl, trivial⟩
               · repeat (first | refine zC ?_ | refine zg ?_ | refine zB (zAG rfl rfl rfl rfl (by first | assumption | omega)) ?_)
                 refine zD (is := [6]) (by kernel_rfl) (by simp) rfl ⟨fun o ho => ?_, trivial⟩
                 all_goals (cases ho)
                 refine rn4 ?_
                 refine zN 15 rfl (by kernel_rfl) (by kernel_rfl) (by kernel_rfl) rfl (zAR rfl rfl rfl rfl rfl rfl) rfl ?_
                 refine zD (is := [16]) (by kernel_rfl) (by simp) rfl ⟨fun o ho => ?_, trivial⟩
                 all_goals (cases ho)
                 refine rn3 ?_
                 exact fin2 _ ⟨rfl, rfl, rfl, rfl, rfl, rfl, rfl, rfl, rfl, rfl, rfl, rfl, rfl, rfl, rfl, rfl, rfl, trivial⟩
             · refine rn4 ?_
               refine zD (is := [4, 14]) (by kernel_rfl) (by simp) rfl ⟨fun o ho => ?_, fun o ho => ?_, trivial⟩
               all_goals (cases ho)
               · refine rn4 ?_
                 refine zD (is := [14]) (by kernel_rfl) (by simp) rfl ⟨fun o ho => ?_, trivial⟩
                 all_goals (cases ho)
                 repeat (first | refine zC ?_ | refine zg ?_ | refine zB (zAG rfl rfl rfl rfl (by first | assumption | omega)) ?_)
                 refine zN 15 rfl (by kernel_rfl) (by kernel_rfl) (by kernel_rfl) rfl (zAR rfl rfl rfl rfl rfl rfl) rfl ?_
                 refine zD (is := [16]) (by kernel_rfl) (by simp) rfl ⟨fun o ho => ?_, trivial⟩
                 all_goals (cases ho)
                 refine rn3 ?_
                 exact fin2 _ ⟨rfl, rfl, rfl, rfl, rfl, rfl, rfl, rfl, rfl, rfl, rfl, rfl, rfl, rfl, rfl, rfl, rfl, trivial⟩
               · repeat (first | refine zC ?_ | refine zg ?_ | refine zB (zAG rfl rfl rfl rfl (by first | assumption | omega)) ?_)
                 refine zN 15 rfl (by kernel_rfl) (by kernel_rfl) (by kernel_rfl) rfl (zAR rfl rfl rfl rfl rfl rfl) rfl ?_
                 refine zD (is := [4, 16]) (by kernel_rfl) (by simp) rfl ⟨fun o ho => ?_, fun o ho => ?_, trivial⟩
                 all_goals (cases ho)
                 · refine rn4 ?_
                   refine zD (is := [16]) (by kernel_rfl) (by simp) rfl ⟨fun o ho => ?_, trivial⟩
                   all_goals (cases ho)
                   refine rn3 ?_
                   exact fin2 _ ⟨rfl, rfl, rfl, rfl, rfl, rfl, rfl, rfl, rfl, rfl, rfl, rfl, rfl, rfl, rfl, rfl, rfl, trivial⟩
                 · refine rn3 ?_
                   refine zD (is := [4]) (by kernel_rfl) (by simp) rfl ⟨fun o ho => ?_, trivial⟩
                   all_goals (cases ho)
                   refine rn4 ?_
                   exact fin2 _ ⟨rfl, rfl, rfl, rfl, rfl, rfl, rfl, rfl, rfl, rfl, rfl, rfl, rfl, rfl, rfl, rfl, rfl, trivial⟩
             · repeat (first | refine zC ?_ | refine zg ?_ | refine zB (zAG rfl rfl rfl rfl (by first | assumption | omega)) ?_)
               refine zD (is := [4, 6]) (by kernel_rfl) (by simp) rfl ⟨fun o ho => ?_, fun o ho => ?_, trivial⟩
               all_goals (cases ho)
               · refine rn4 ?_
                 refine zD (is := [6]) (by kernel_rfl) (by simp) rfl ⟨fun o ho => ?_, trivial⟩
                 all_goals (cases ho)
                 refine rn4 ?_
                 refine zN 15 rfl (by kernel_rfl) (by kernel_rfl) (by kernel_rfl) rfl (zAR rfl rfl rfl rfl rfl rfl) rfl ?_
                 refine zD (is := [16]) (by kernel_rfl) (by simp) rfl ⟨fun o ho => ?_, trivial⟩
                 all_goals (cases ho)
                 refine rn3 ?_
                 exact fin2 _ ⟨rfl, rfl, rfl, rfl, rfl, rfl, rfl, rfl, rfl, rfl, rfl, rfl, rfl, rfl, rfl, rfl, rfl, trivial⟩
               · refine rn4 ?_
                 refine zN 15 rfl (by kernel_rfl) (by kernel_rfl) (by kernel_rfl) rfl (zAR rfl rfl rfl rfl rfl rfl) rfl ?_
                 refine zD (is := [4, 16]) (by kernel_rfl) (by simp) rfl ⟨fun o ho => ?_, fun o ho => ?_, trivial⟩
                 all_goals (cases ho)
                 · refine rn4 ?_
                   refine zD (is := [16]) (by kernel_rfl) (by simp) rfl ⟨fun o ho => ?_, trivial⟩
                   all_goals (cases ho)
                   refine rn3 ?_
                   exact fin2 _ ⟨rfl, rfl, rfl, rfl, rfl, rfl, rfl, rfl, rfl, rfl, rfl, rfl, rfl, rfl, rfl, rfl, rfl, trivial⟩
                 · refine rn3 ?_
                   refine zD (is := [4]) (by kernel_rfl) (by simp) rfl ⟨fun o ho => ?_, trivial⟩
                   all_goals (cases ho)
                   refine rn4 ?_
                   exact fin2 _ ⟨rfl, rfl, rfl, rfl, rfl, rfl, rfl, rfl, rfl, rfl, rfl, rfl, rfl, rfl, rfl, rfl, rfl, trivial⟩
         · refine zD (is := [17]) (by kernel_rfl) (by simp) rfl ⟨fun o ho => ?_, trivial⟩
           all_goals (cases ho)
           refine zo rfl rfl rfl rfl rfl rfl rfl rfl rfl rfl rfl rfl (by show 0 + 1 ≤ 1; omega) rfl (by show (S.length + 1) * 24 ≤ _ ∧ _; omega) ?_ (by rw [hfix]; exact fun h => h) ?_
           · intro i' j' hi' hj'
             exact zG7 zBa 3 zFS zK9 S ⟨nf, (k : Int), f.pos.getD i 0⟩ _ (rowS3 ⟨nf, (k : Int), f.pos.getD i 0⟩) 0 i' j' hi' hj'
           refine zA5 [some ⟨174, zIV (S ++ [(⟨nf, (k : Int), f.pos.getD i 0⟩ : RSeq)])⟩, some ⟨3, .ints .i64 f.pos⟩, some ⟨169, .box [.any, .sl 1 0 t.length]⟩, some ⟨123, zGj (f.first ++ [(nf, f.seqs.length)])⟩, some ⟨40, .box [.int .i64 kd, .int .i64 pl, .int .i64 nf, .ro (.ints .i64 nx) 0 nx.length, .ro (.strs od) 0 od.length, .str py]⟩] (zAL.eqv (zE1 zBa 3 zFS S ⟨nf, (k : Int), f.pos.getD i 0⟩ _ (rowS3 ⟨nf, (k : Int), f.pos.getD i 0⟩)) (zAL.eqv (CEq.refl _) (zAL.eqv (CEq.refl _) (zAL.eqv (zMx _ _) (zAL.eqv (CEq.refl _) zAL.nil))))) ?_
           refine rn1 ?_
           refine zN 18 rfl (by kernel_rfl) (by kernel_rfl) (by kernel_rfl) rfl (zAZ rfl) rfl ?_
           refine zN 19 rfl (by kernel_rfl) (by kernel_rfl) (by kernel_rfl) rfl (zO rfl rfl rfl rfl rfl rfl) rfl ?_
           refine zD (is := [20]) (by kernel_rfl) (by simp) rfl ⟨fun o ho => ?_, trivial⟩
           all_goals (cases ho)
           repeat (first | refine zC ?_ | refine zg ?_ | refine zAi rfl rfl rfl rfl rfl rfl rfl Nat.zero_lt_one ?_)
           refine zGN (zCZ t.length ⟨S ++ [(⟨nf, (k : Int), f.pos.getD i 0⟩ : RSeq)], f.pos, f.first ++ [(nf, f.seqs.length)]⟩ [some ⟨40, .box [.int .i64 kd, .int .i64 pl, .int .i64 nf, .ro (.ints .i64 nx) 0 nx.length, .ro (.strs od) 0 od.length, .str py]⟩]) (zAL.eqv (CEq.refl _) (zAL.eqv (CEq.refl _) (zAL.eqv (by show CEq (formB (S.length + 1) t.length) (formB (S ++ [(⟨nf, (k : Int), f.pos.getD i 0⟩ : RSeq)]).length t.length); rw [List.length_append]; exact CEq.refl _) (zAL.refl _)))) ?_
           refine zi (by kernel_rfl) ?_
           refine rn5 ?_
           exact zP ⟨k + 1, by omega, by omega, ⟨rfl, rfl, rfl, rfl, rfl, rfl, rfl, rfl, rfl, rfl, rfl, rfl, rfl, trivial⟩, by rw [hS2', hS2]⟩
       · have hke : k = nx.length := by omega
         subst hke
         refine rn5 ?_
         refine zCh (zCZ t.length g [some ⟨40, .box [.int .i64 kd, .int .i64 pl, .int .i64 nf, .ro (.ints .i64 nx) 0 nx.length, .ro (.strs od) 0 od.length, .str py]⟩]) (by rw [hg]; rfl) ?_
         refine zk (ι := Nat) (fun k => [(0, .ro (zd t) 0 t.length), (1, .int .i64 p), (5, .ptr 2 0 0), (6, .mp 3), (7, .int .i64 (i : Nat)), (8, .ptr 4 0 0), (9, .bool true), (23, .ro (zd t) 0 t.length), (24, .int .i64 (t.length : Nat)), (25, .int .i64 (i : Nat)), (85, .ro (.ints .i64 nx) 0 nx.length), (86, .int .i64 (nx.length : Nat)), (87, .int .i64 (k : Nat))]) (fun k => zCZ t.length ⟨g.seqs, zAk v (nx.take k) 0 g.pos, g.first⟩ [some ⟨40, .box [.int .i64 kd, .int .i64 pl, .int .i64 nf, .ro (.ints .i64 nx) 0 nx.length, .ro (.strs od) 0 od.length, .str py]⟩])
           (fun k => k ≤ nx.length) (fun k => nx.length - k) 0 ⟨⟨rfl, rfl, rfl, rfl, rfl, rfl, rfl, rfl, rfl, rfl, rfl, rfl, rfl, trivial⟩, rfl, Nat.zero_le _⟩ ?_
         intro k hk
         refine rn4 ?_
         refine zF rfl (fun h5 => ?_) (fun h5 => ?_)
         · have hk' : k < nx.length := by omega
           obtain ⟨b1, b2⟩ := hbh _ (zAl 0 hk')
           have hAl : (zAk v (nx.take k) 0 g.pos).length = t.length := by rw [zC0]; exact hgl
           have hAi : (zAk v (nx.take k) 0 g.pos).getD i 0 = g.pos.getD i 0 := zBX v 0 _ _ _ (fun c hc => by have := hbh c (List.mem_of_mem_take hc); omega)
           have hst : zAk v (nx.take (k + 1)) 0 g.pos = (zAk v (nx.take k) 0 g.pos).set (nx.getD k 0).toNat (v k) := by
             rw [zCi hk', zDO, List.length_take, Nat.min_eq_left hk, Nat.zero_add]
           have hvk := hvv k
           generalize hA2 : zAk v (nx.take (k + 1)) 0 g.pos = A2 at *
           generalize zAk v (nx.take k) 0 g.pos = A at *
           obtain ⟨x, hx⟩ := Int.eq_ofNat_of_zero_le (show 0 ≤ nx.getD k 0 by omega)
           have hxn : (nx.getD k 0).toNat = x := by rw [hx, Int.toNat_natCast]
           rw [hx] at b1 b2
           rw [hxn] at hst
           have hxl : x < A.length := by omega
           have hil : i < A.length := by omega
           have hxl2 : x < (A.set x (A.getD i 0)).length := by rw [List.length_set]; exact hxl
           refine rn6 ?_
           refine zAb 14 (.int .i64 (x : Nat)) rfl (AEq.of_eq (by rw [hx])) ?_
           refine zl (by kernel_rfl) ?_
           refine zz (fuel := 1) [0, 1, 2, 3, 4, 5, 6, 7, 8, 9, 10, 11, 12] [(0, .ro (zd t) 0 t.length), (1, .int .i64 p), (5, .ptr 2 0 0), (6, .mp 3), (7, .int .i64 (i : Nat)), (8, .ptr 4 0 0), (9, .bool true), (23, .ro (zd t) 0 t.length), (24, .int .i64 (t.length : Nat)), (25, .int .i64 (i : Nat)), (85, .ro (.ints .i64 nx) 0 nx.length), (86, .int .i64 (nx.length : Nat)), (87, .int .i64 (k : Nat)), (13, .int .i64 (k : Nat)), (14, .int .i64 (x : Nat))] ⟨rfl, rfl, rfl, rfl, rfl, rfl, rfl, rfl, rfl, rfl, rfl, rfl, rfl, rfl, rfl, trivial⟩ (by kernel_rfl) (by decide) rfl rfl ?_
           refine zW rfl rfl (zH rfl) ?_
           refine zW rfl rfl (zAZ rfl) ?_
           refine zW rfl rfl (zO rfl rfl rfl rfl rfl rfl) ?_
           refine zW rfl rfl (zS rfl rfl rfl rfl rfl) ?_
           refine zW rfl rfl (zH rfl) ?_
           refine zW rfl rfl (zH rfl) ?_
           refine zW rfl rfl (zAZ rfl) ?_
           refine zW rfl rfl (zO rfl rfl rfl rfl rfl rfl) ?_
           refine zW rfl rfl (zS rfl rfl rfl rfl rfl) ?_
           refine zW rfl rfl (zH rfl) ?_
           refine zW rfl rfl (zZ rfl rfl rfl rfl rfl (by first | (simp only [Nat.zero_add, Int.toNat_natCast, Int.toNat_zero]; exact rfl) | exact rfl) (by omega)) ?_
           refine zW rfl rfl (zAG rfl rfl rfl rfl (by first | assumption | omega)) ?_
           refine zW rfl rfl (zZ rfl rfl rfl rfl rfl (by first | (simp only [Nat.zero_add, Int.toNat_natCast, Int.toNat_zero]; exact rfl) | exact rfl) (by omega)) ?_
           refine zAg ?_
           refine zD (is := [13]) (by kernel_rfl) (by simp) rfl ⟨fun o ho => ?_, trivial⟩
           all_goals (cases ho)
           repeat (first | refine zC ?_ | refine zg ?_ | refine zAi rfl rfl rfl rfl rfl rfl rfl (by first | assumption | (show _ < List.length _; first | assumption | omega)) ?_)
           refine zGN (zCZ t.length ⟨g.seqs, A.set x (A.getD i 0), g.first⟩ [some ⟨40, .box [.int .i64 kd, .int .i64 pl, .int .i64 nf, .ro (.ints .i64 nx) 0 nx.length, .ro (.strs od) 0 od.length, .str py]⟩]) (zAL.refl _) ?_
           refine zi (by kernel_rfl) ?_
           refine rn5 ?_
           refine zl (by kernel_rfl) ?_
           refine zz (fuel := 1) [0, 1, 2, 3, 4, 5, 6, 7, 8, 9, 10, 11] [(0, .ro (zd t) 0 t.length), (1, .int .i64 p), (5, .ptr 2 0 0), (6, .mp 3), (7, .int .i64 (i : Nat)), (8, .ptr 4 0 0), (9, .bool true), (23, .ro (zd t) 0 t.length), (24, .int .i64 (t.length : Nat)), (25, .int .i64 (i : Nat)), (85, .ro (.ints .i64 nx) 0 nx.length), (86, .int .i64 (nx.length : Nat)), (87, .int .i64 (k : Nat)), (13, .int .i64 (k : Nat)), (14, .int .i64 (x : Nat))] ⟨rfl, rfl, rfl, rfl, rfl, rfl, rfl, rfl, rfl, rfl, rfl, rfl, rfl, rfl, rfl, trivial⟩ (by kernel_rfl) (by decide) rfl rfl ?_
           refine zW rfl rfl (zH rfl) ?_
           refine zW rfl rfl (zAZ rfl) ?_
           refine zW rfl rfl (zO rfl rfl rfl rfl rfl rfl) ?_
           refine zW rfl rfl (zS rfl rfl rfl rfl rfl) ?_
           refine zW rfl rfl (zH rfl) ?_
           refine zW rfl rfl (zH rfl) ?_
           refine zW rfl rfl (zO rfl rfl rfl rfl rfl rfl) ?_
           refine zW rfl rfl (zS rfl rfl rfl rfl rfl) ?_
           refine zW rfl rfl (zBU rfl (.int rfl) rfl rfl rfl rfl (zIL g.first) jj i1 i2) ?_
           refine zW rfl rfl (zH rfl) ?_
           refine zW rfl rfl (zC2 rfl rfl (by omega)) ?_
           refine zW rfl rfl (zZ rfl rfl rfl rfl rfl (by first | (simp only [Nat.zero_add, Int.toNat_natCast, Int.toNat_zero]; exact rfl) | exact rfl) (by omega)) ?_
           refine zAg ?_
           refine zD (is := [12]) (by kernel_rfl) (by simp) rfl ⟨fun o ho => ?_, trivial⟩
           all_goals (cases ho)
           repeat (first | refine zC ?_ | refine zg ?_ | refine zAi rfl rfl rfl rfl rfl rfl rfl (by first | assumption | (show _ < List.length _; first | assumption | omega)) ?_)
           refine zi (by kernel_rfl) ?_
           refine rn5 ?_
           exact zP ⟨k + 1, by omega, by omega, ⟨rfl, rfl, rfl, rfl, rfl, rfl, rfl, rfl, rfl, rfl, rfl, rfl, rfl, trivial⟩, by rw [hA2, hst, hvk]; exact congrArg (fun l => zCZ t.length ⟨g.seqs, l, g.first⟩ [some ⟨40, .box [.int .i64 kd, .int .i64 pl, .int .i64 nf, .ro (.ints .i64 nx) 0 nx.length, .ro (.strs od) 0 od.length, .str py]⟩]) (List.set_set ..)⟩
         · have hke : k = nx.length := by omega
           subst hke
           rw [List.take_length]
           repeat (first | refine zj ?_ | refine zA3 ?_ | refine z8 ?_ | refine z7 ?_ | refine zAS ?_)
           refine zA ?_
           refine zAz (zCZ t.length ⟨g.seqs, zAk v nx 0 g.pos, g.first⟩ []) [some ⟨40, .box [.int .i64 kd, .int .i64 pl, .int .i64 nf, .ro (.ints .i64 nx) 0 nx.length, .ro (.strs od) 0 od.length, .str py]⟩] [(0, .ro (zd t) 0 t.length), (1, .int .i64 p), (5, .ptr 2 0 0), (6, .mp 3), (23, .ro (zd t) 0 t.length), (24, .int .i64 (t.length : Nat)), (25, .int .i64 (i : Nat))] rfl ⟨rfl, rfl, rfl, rfl, rfl, rfl, rfl, trivial⟩ (fun h hh => by rw [hfix] at hh; exact absurd hh id) (zG8 _ _) rfl ?_
           refine rn3 ?_
           exact zP ⟨i + 1, by omega, by omega, ⟨rfl, rfl, rfl, rfl, rfl, rfl, rfl, trivial⟩, by rw [hnx]⟩
 · have hie : i = t.length := by omega
   subst hie
   refine rn5 ?_
   exact zI hR rfl ⟨rfl, rfl⟩
end Go.Proofs.YtnkealfaldjipaaGreatDoor
namespace Go.Ax.Rt
open Go.Ax.Bg Go.Ax.Idx
structure TChoice where
 info : Int
 odds : List zAK
 deriving DecidableEq
def ch0 : TChoice := ⟨0, []⟩
abbrev zAY := List TChoice
def zEM (I Z : List Int) : Nat → zAY → Int
 | _, [] => 0
 | k, c :: r => if c.info ≠ I.getD k 0 ∨ ((c.odds.length : Nat) : Int) ≠ Z.getD k 0 then 3 else if zCa c.odds ≠ 0 then zCa c.odds else zEM I Z (k + 1) r
/-- recall.Strategy -/
def zBn (t : zT) (p : Int) (s : zAY) : Int := if s.length ≠ (zc t p).length then 3 else zEM (zc t p) (zBO t p) 0 s
theorem zLt {I Z : List Int} {s : zAY} {k : Nat} (hk : k < s.length) : zEM I Z k (s.drop k) = if (s.getD k ch0).info ≠ I.getD k 0 ∨ (((s.getD k ch0).odds.length : Nat) : Int) ≠ Z.getD k 0 then 3 else if zCa (s.getD k ch0).odds ≠ 0 then zCa (s.getD k ch0).odds else zEM I Z (k + 1) (s.drop (k + 1)) := by
 rw [List.drop_eq_getElem_cons hk, ← zAp ch0 hk, zEM]
theorem zIM {I Z : List Int} : ∀ {s : zAY} {k : Nat}, zEM I Z k s = 0 → ∀ j, j < s.length → (s.getD j ch0).info = I.getD (k + j) 0 ∧ (((s.getD j ch0).odds.length : Nat) : Int) = Z.getD (k + j) 0 ∧ zCa (s.getD j ch0).odds = 0
 | [], k, h, j, hj => absurd hj (Nat.not_lt_zero _)
 | c :: r, k, h, j, hj => by
   rw [zEM] at h
   split at h
   · cases h
   rename_i h1
   simp only [not_or, Classical.not_not] at h1
   split at h
   · rename_i h2; exact absurd h h2
   rename_i h2
   cases j with
   | zero => exact ⟨h1.1, h1.2, Classical.not_not.1 h2⟩
   | succ j =>
     have := zIM h j (by simpa using hj)
     rw [show k + (j + 1) = k + 1 + j by omega]
     exact this
structure OkS (t : zT) (p : Int) (s : zAY) : Prop where
 infos : s.map TChoice.info = zc t p
 wid : ∀ j, j < s.length → (s.getD j ch0).odds.length = ze t p (s.getD j ch0).info
 odds : ∀ c ∈ s, zCa c.odds = 0
theorem zI5 {t : zT} {p : Int} {s : zAY} (h : zBn t p s = 0) : OkS t p s := by
 unfold zBn at h
 split at h
 · cases h
 rename_i h1
 have h1 := Classical.not_not.1 h1
 have h2 := zIM h
 have e1 : ∀ j, j < s.length → (s.getD j ch0).info = (zc t p).getD j 0 := fun j hj => by
   have := (h2 j hj).1; rwa [Nat.zero_add] at this
 refine ⟨?_, fun j hj => ?_, fun c hc => ?_⟩
 · apply List.ext_getElem (by rw [List.length_map]; exact h1)
   intro j hj1 hj2
   have hj : j < s.length := by simpa using hj1
   have := e1 j hj
   rw [zAp ch0 hj, zAp 0 hj2] at this
   rw [List.getElem_map]; exact this
 · have := (h2 j hj).2.1
   rw [Nat.zero_add] at this
   have hj2 : j < (zc t p).length := by omega
   unfold zBO at this
   rw [zDb _ _ 0 _ _ hj2, ← e1 j hj] at this
   omega
 · obtain ⟨j, hj, rfl⟩ := List.getElem_of_mem hc
   have := (h2 j hj).2.2
   rwa [zAp ch0 hj] at this
theorem zMZ : ∀ (qs : List Rat) (acc : Rat), (zF5 acc qs).2 = 0 → (zF5 acc qs).1 = zAu acc qs
 | [], acc, _ => rfl
 | q :: r, acc, h => by
   rw [zF5] at h ⊢
   rw [zAu]
   split at h
   · rename_i hf
     rw [if_pos hf]
     exact zMZ r _ h
   · cases h
theorem zDy {l : List zAK} (h : zCa l = 0) : l.length ≤ 256 ∧ (∀ s ∈ l, zCU s = 0) ∧ zAu 0 (l.map zAQ) = 1 ∧ ∀ q ∈ l.map zAQ, 0 ≤ q ∧ D 2000 q := by
 unfold zCa at h
 split at h
 case isFalse h1 => exact absurd h h1
 rename_i h1
 split at h
 case isFalse => cases h
 rename_i h2
 unfold posE at h1
 split at h1
 · cases h1
 rename_i h3
 have h4 : l.any zCq = false := by
   cases hb : l.any zCq
   · rfl
   · exact absurd ⟨h1, hb⟩ h3
 unfold zEK at h1 h2
 split at h1
 · cases h1
 rename_i h5
 split at h1
 case isFalse h6 => exact absurd h1 h6
 rename_i h6
 rw [if_neg h5, if_pos h6] at h2
 have h7 := zGF h6
 refine ⟨by omega, h7, ?_, fun q hq => ?_⟩
 · have := zMZ _ _ h1
   rw [this] at h2
   unfold zJb at h2
   split at h2
   · cases h2
   · split at h2
     · rename_i e; exact e
     · cases h2
 · obtain ⟨s, hs, rfl⟩ := List.mem_map.1 hq
   have hn := (zKn (h7 s hs)).1 (by rw [List.any_eq_false] at h4; simpa using h4 s hs)
   refine ⟨hn, ?_⟩
   have hf := (IsQ.self (h7 s hs)).fit
   unfold zCR at hf
   rw [Bool.and_eq_true, decide_eq_true_eq, decide_eq_true_eq] at hf
   exact dig_D hf.1 hf.2
/-- the probabilities by information sets -/
def zDh (s : zAY) (x : Int) : List Rat := ((s.find? (fun c => decide (c.info = x))).map (fun c => c.odds.map zAQ)).getD []
theorem zLa {s : zAY} (hn : (s.map TChoice.info).Nodup) {c : TChoice} (hc : c ∈ s) : zDh s c.info = c.odds.map zAQ := by
 unfold zDh
 induction s with
 | nil => simp at hc
 | cons a r ih =>
   rw [List.map_cons, List.nodup_cons] at hn
   rw [List.find?_cons]
   rcases List.mem_cons.1 hc with e | q
   · subst e; simp
   · have : ¬ a.info = c.info := fun e => hn.1 (List.mem_map.2 ⟨c, q, e.symm⟩)
     rw [decide_eq_false this]
     exact ih hn.2 q
theorem OkS.at' {t : zT} {p : Int} {s : zAY} (h : OkS t p s) {x : Int} (hx : x ∈ zc t p) : ∃ c ∈ s, c.info = x ∧ zDh s x = c.odds.map zAQ ∧ c.odds.length = ze t p x ∧ zCa c.odds = 0 := by
 have hn : (s.map TChoice.info).Nodup := by rw [h.infos]; exact zEX t p
 rw [← h.infos] at hx
 obtain ⟨c, hc, rfl⟩ := List.mem_map.1 hx
 obtain ⟨j, hj, e⟩ := List.getElem_of_mem hc
 have hw := h.wid j hj
 rw [zAp ch0 hj, e] at hw
 exact ⟨c, hc, rfl, zLa hn hc, hw, h.odds c hc⟩
theorem OkS.strat {t : zT} {p : Int} {s : zAY} (h : OkS t p s) : Strat t p (zDh s) 2000 := by
 refine ⟨fun x hx => ?_, fun x hx => ?_, fun x hx => ?_, fun x hx => ?_⟩ <;> obtain ⟨c, c1, c2, c3, c4, c5⟩ := h.at' hx <;> obtain ⟨o1, o2, o3, o4⟩ := zDy c5 <;> rw [c3]
 · rw [List.length_map]; exact c4
 · exact o3
 · exact fun q hq => (o4 q hq).1
 · exact fun q hq => (o4 q hq).2
/-- with short texts -/
theorem OkS.strat12 {t : zT} {p : Int} {s : zAY} (h : OkS t p s) (hs : ∀ c ∈ s, ∀ r ∈ c.odds, r.length ≤ 12) : Strat t p (zDh s) 12 := by
 have g := h.strat
 refine ⟨g.len, g.sum, g.nn, fun x hx q hq => ?_⟩
 obtain ⟨c, c1, c2, c3, c4, c5⟩ := h.at' hx
 obtain ⟨o1, o2, o3, o4⟩ := zDy c5
 rw [c3] at hq
 obtain ⟨s', hs', rfl⟩ := List.mem_map.1 hq
 exact (IsQ.self (o2 s' hs')).dig (hs c c1 s' hs') (by decide)
/-- recall.Plan -/
def planE (t : zT) (p : Int) : Int := if zBl t p ≠ 0 then zBl t p else if zBh t p = true then 0 else 10
def planR (t : zT) (p : Int) (s : zAY) : List zAK × Int := if planE t p ≠ 0 then ([], planE t p) else if zBn t p s ≠ 0 then ([], zBn t p s) else zBD (zCL t p (zDh s))
def seqsR (t : zT) (p : Int) : List RSeq × Int := if planE t p ≠ 0 then ([], planE t p) else (zf t p, 0)
end Go.Ax.Rt
namespace Go.Proofs.YtnkealfaldjipaaGreatDoor
open Go.Ax Go.Ax.Bg Go.Ax.Rt Go.RowKit Go.Ax.Idx Go.Ax.Cd
attribute [local irreducible] Ax zAM QOp zM zq
set_option maxRecDepth 100000
set_option maxHeartbeats 4000000
def perfR (t : zT) (p : Int) : Bool × Int := if zBl t p ≠ 0 then (false, zBl t p) else (zBh t p, 0)
def infosR (t : zT) (p : Int) : (List Int × List Int) × Int := if zBl t p ≠ 0 then (([], []), zBl t p) else ((zc t p, zBO t p), 0)
end Go.Proofs.YtnkealfaldjipaaGreatDoor
namespace Go.Proofs.YtnkealfaldjipaaGreatDoor
open Go.Ax Go.Ax.Bg Go.Ax.Rt Go.RowKit Go.Ax.Idx Go.Ax.Cd
set_option maxRecDepth 100000
set_option maxHeartbeats 4000000
def cellsC (c : TChoice) : List AV := [.int .i64 c.info, .ro (.strs c.odds) 0 c.odds.length]
abbrev zAV (s : zAY) : Cells := zCW ch0 2 cellsC s
structure ShortC (c : TChoice) : Prop where
 odds : c.odds.length ≤ 9223372036854775807
 each : ∀ s ∈ c.odds, s.length ≤ 9223372036854775807
theorem rdNode {H : Type} {enc : TypeId × Value → H} {W : World} : Rd enc Tryz.prog W 40 6 zBY ShortN :=
 (Rd.struct Tryz.underlying40 (by kernel_rfl) (RdF.cons rfl rfl (Rd.int Tryz.underlying3) (RdF.cons rfl rfl (Rd.int Tryz.underlying3) (RdF.cons rfl rfl (Rd.int Tryz.underlying3) (RdF.cons rfl rfl (Rd.ints Tryz.underlying38 (by kernel_rfl) Tryz.underlying3) (RdF.cons rfl rfl (Rd.strs Tryz.underlying35 (by kernel_rfl) Tryz.underlying27) (RdF.cons rfl rfl (Rd.str Tryz.underlying27) RdF.nil))))))).map
   (fun a => (⟨a.1, a.2.1, a.2.2.1, a.2.2.2.1, a.2.2.2.2.1, a.2.2.2.2.2.1⟩ : TNode)) (fun a h => ⟨h.2.2.2.1.1, h.2.2.2.2.1.1, h.2.2.2.2.1.2, h.2.2.2.2.2.1⟩) (fun a => rfl) (fun a i hi => AEq.rfl')
theorem rdChoice {H : Type} {enc : TypeId × Value → H} {W : World} : Rd enc Tryz.prog W 67 2 cellsC ShortC :=
 (Rd.struct Tryz.underlying67 (by kernel_rfl) (RdF.cons rfl rfl (Rd.int Tryz.underlying3) (RdF.cons rfl rfl (Rd.strs Tryz.underlying35 (by kernel_rfl) Tryz.underlying27) RdF.nil))).map
   (fun a => (⟨a.1, a.2.1⟩ : TChoice)) (fun a h => ⟨h.2.1.1, h.2.1.2⟩) (fun a => rfl) (fun a i hi => AEq.rfl')
end Go.Proofs.YtnkealfaldjipaaGreatDoor
namespace Go.Proofs.YtnkealfaldjipaaGreatDoor
open Go.Ax Go.Ax.Bg Go.Ax.Rt Go.RowKit Go.Ax.Idx Go.Ax.Cd
attribute [local irreducible] Ax zAM QOp zM zq
set_option maxRecDepth 100000
set_option maxHeartbeats 4000000
structure ShortS (s : zAY) : Prop where
 len : s.length ≤ 9223372036854775807
 each : ∀ c ∈ s, ShortC c
theorem zFr (t : zT) (p : Int) (s : zAY) (hlen : t.length ≤ 9223372036854775807) (hs : ShortS s) : zV Tryz.prog 38 [.ro (zd t) 0 t.length, .int .i64 p, .ro (zAV s) 0 s.length] (.int .i64 (zBn t p s)) := by
 have cs := zNr t p hlen
 have hsl := hs.len
 have hzl : (zBO t p).length = (zc t p).length := by unfold zBO; simp
 refine zM.value0 (zG (P := Tryz.prog) (fn := Tryz.f38) rfl rfl (by kernel_rfl) rfl (fun c hR hfix => ?_)) (fix := fun _ => False) (fun _ h => h) rfl rfl
 unfold zBn at hR
 generalize zc t p = I at *
 generalize zBO t p = Z at *
 refine rn0 ?_
 refine zE rfl rfl rfl cs ?_
 refine rn3 ?_
 refine zF rfl (fun h1 => ?_) (fun h1 => ?_)
 · rw [if_pos (by omega)] at hR
   refine rn2 ?_
   exact zI hR rfl rfl
 rw [if_neg (by omega)] at hR
 have hl : s.length = I.length := by omega
 refine rn3 ?_
 refine zk (ι := Nat) (fun i => [(0, .ro (zd t) 0 t.length), (7, .ro (.ints .i64 I) 0 I.length), (8, .ro (.ints .i64 Z) 0 Z.length), (23, .ro (zAV s) 0 s.length), (24, .int .i64 (s.length : Nat)), (25, .int .i64 (i : Nat))]) (fun _ => [])
   (fun i => i ≤ s.length ∧ zEM I Z 0 s = zEM I Z i (s.drop i)) (fun i => s.length - i) 0 ⟨⟨rfl, rfl, rfl, rfl, rfl, rfl, trivial⟩, rfl, Nat.zero_le _, by rw [List.drop_zero]⟩ ?_
 rintro i ⟨hi, hE⟩
 refine rn4 ?_
 refine zF rfl (fun h => ?_) (fun h => ?_)
 · have hi' : i < s.length := by omega
   have hc := hs.each _ (zA6 ch0 hi')
   rw [zLt hi'] at hE
   have co := zOK (s.getD i ch0).odds hc.odds hc.each
   have hol := hc.odds
   refine rn6 ?_
   refine zL 29 (.agg (cellsC (s.getD i ch0))) rfl (AEq.of_eq rfl) ?_
   generalize s.getD i ch0 = x at *
   obtain ⟨nf, od⟩ := x
   simp only at *
   refine zR (c' := .box [.int .i64 nf, .ro (.strs od) 0 od.length]) rfl rfl rfl rfl rfl Nat.zero_lt_one rfl rfl (fun i' j' hi' hj' => ?_) ?_
   · rw [if_pos (Nat.lt_one_iff.1 hi')]; rfl
   have hiI : i < I.length := by omega
   have hiZ : i < Z.length := by omega
   refine rn0 ?_
   refine zl (by kernel_rfl) ?_
   by_cases g1 : nf = I.getD i 0
   case neg =>
     rw [if_pos (.inl g1)] at hE
     rw [hE] at hR
     refine zz (fuel := 0) [0, 1, 2, 3, 4, 5, 6, 7, 8, 9, 10, 11, 12, 13, 14, 15, 16] [(0, .ro (zd t) 0 t.length), (7, .ro (.ints .i64 I) 0 I.length), (8, .ro (.ints .i64 Z) 0 Z.length), (23, .ro (zAV s) 0 s.length), (24, .int .i64 (s.length : Nat)), (25, .int .i64 (i : Nat)), (9, .int .i64 (i : Nat)), (10, .ptr 0 0 0)] ⟨rfl, rfl, rfl, rfl, rfl, rfl, rfl, rfl, trivial⟩ (by kernel_rfl) (by decide) rfl rfl ?_
     refine zW rfl rfl (zO rfl rfl rfl rfl rfl rfl) ?_
     refine zW rfl rfl (zS rfl rfl rfl rfl rfl) ?_
     refine zW rfl rfl (zH rfl) ?_
     refine zW rfl rfl (zH rfl) ?_
     refine zW rfl rfl (zh rfl rfl rfl rfl (by first | (simp only [Nat.zero_add, Int.toNat_natCast, Int.toNat_zero]; exact rfl) | exact rfl) (by omega)) ?_
     refine zW rfl rfl (zA8 rfl rfl rfl) ?_
     refine zW rfl rfl (zGq rfl rfl) ?_
     rw [decide_eq_true g1]
     refine zW rfl rfl (zH rfl) ?_
     refine zF7 rfl rfl rfl rfl rfl ?_
     refine zF7 rfl rfl rfl rfl rfl ?_
     refine zF7 rfl rfl rfl rfl rfl ?_
     refine zF7 rfl rfl rfl rfl rfl ?_
     refine zF7 rfl rfl rfl rfl rfl ?_
     refine zF7 rfl rfl rfl rfl rfl ?_
     refine zF7 rfl rfl rfl rfl rfl ?_
     refine zF7 rfl rfl rfl rfl rfl ?_
     refine zW rfl rfl (zAd rfl rfl) ?_
     refine zAg ?_
     refine zi (by kernel_rfl) ?_
     refine rn6 ?_
     exact zI hR rfl rfl
   refine zz (fuel := 0) [0, 1, 2, 3, 4, 5, 6, 7, 8, 9, 10, 11, 12, 13, 14, 15, 16] [(0, .ro (zd t) 0 t.length), (7, .ro (.ints .i64 I) 0 I.length), (8, .ro (.ints .i64 Z) 0 Z.length), (23, .ro (zAV s) 0 s.length), (24, .int .i64 (s.length : Nat)), (25, .int .i64 (i : Nat)), (9, .int .i64 (i : Nat)), (10, .ptr 0 0 0)] ⟨rfl, rfl, rfl, rfl, rfl, rfl, rfl, rfl, trivial⟩ (by kernel_rfl) (by decide) rfl rfl ?_
   refine zW rfl rfl (zO rfl rfl rfl rfl rfl rfl) ?_
   refine zW rfl rfl (zS rfl rfl rfl rfl rfl) ?_
   refine zW rfl rfl (zH rfl) ?_
   refine zW rfl rfl (zH rfl) ?_
   refine zW rfl rfl (zh rfl rfl rfl rfl (by first | (simp only [Nat.zero_add, Int.toNat_natCast, Int.toNat_zero]; exact rfl) | exact rfl) (by omega)) ?_
   refine zW rfl rfl (zA8 rfl rfl rfl) ?_
   refine zW rfl rfl (zGq rfl rfl) ?_
   rw [decide_eq_false (fun q => q g1)]
   refine zW rfl rfl (zH rfl) ?_
   refine zIG rfl rfl rfl rfl (zO rfl rfl rfl rfl rfl rfl) ?_
   refine zIG rfl rfl rfl rfl (zS rfl rfl rfl rfl rfl) ?_
   refine zIG rfl rfl rfl rfl (zBN rfl rfl rfl) ?_
   refine zIG rfl rfl rfl rfl (zH rfl) ?_
   refine zIG rfl rfl rfl rfl (zH rfl) ?_
   refine zIG rfl rfl rfl rfl (zh rfl rfl rfl rfl (by first | (simp only [Nat.zero_add, Int.toNat_natCast, Int.toNat_zero]; exact rfl) | exact rfl) (by omega)) ?_
   refine zIG rfl rfl rfl rfl (zA8 rfl rfl rfl) ?_
   refine zIG rfl rfl rfl rfl (zGq rfl rfl) ?_
   refine zW rfl rfl (zAd rfl rfl) ?_
   refine zAg ?_
   refine zi (by kernel_rfl) ?_
   repeat (refine zA ?_)
   refine zF rfl (fun g2 => ?_) (fun g2 => ?_)
   · rw [if_pos (.inr g2)] at hE
     rw [hE] at hR
     refine rn6 ?_
     exact zI hR rfl rfl
   rw [if_neg (by
     rintro (q | q)
     · exact q g1
     · exact g2 q)] at hE
   refine rn5 ?_
   refine zE rfl rfl rfl co ?_
   refine rn3 ?_
   refine zF rfl (fun g3 => ?_) (fun g3 => ?_)
   · rw [if_pos g3] at hE
     rw [hE] at hR
     refine rn6 ?_
     exact zI hR rfl rfl
   rw [if_neg g3] at hE
   repeat (first | refine zj ?_ | refine zn ?_)
   refine zA ?_
   refine zAz [] [some ⟨67, .box [.int .i64 nf, .ro (.strs od) 0 od.length]⟩] [(0, .ro (zd t) 0 t.length), (7, .ro (.ints .i64 I) 0 I.length), (8, .ro (.ints .i64 Z) 0 Z.length), (23, .ro (zAV s) 0 s.length), (24, .int .i64 (s.length : Nat)), (25, .int .i64 (i : Nat))] rfl ⟨rfl, rfl, rfl, rfl, rfl, rfl, trivial⟩ (fun h hh => by rw [hfix] at hh; exact absurd hh id) (fun h o ho => by simp at ho) rfl ?_
   refine rn3 ?_
   exact zP ⟨i + 1, ⟨by omega, hE⟩, by omega, ⟨rfl, rfl, rfl, rfl, rfl, rfl, trivial⟩, rfl⟩
 · have hie : i = s.length := by omega
   subst hie
   rw [List.drop_length] at hE
   rw [hE] at hR
   refine rn5 ?_
   exact zI hR rfl rfl
end Go.Proofs.YtnkealfaldjipaaGreatDoor
namespace Go.Ax
variable [Pins]
open Go.RowKit
/-- Does operation j wait, at last, for operation i? -/
def needs (all : Array Oper) (idx : List Nat) : Nat → Nat → Nat → Bool
 | 0, _, _ => false
 | n + 1, j, i => match all[j]? with
   | some o => o.after.toList.any (fun e => Region.binds .any e && Nat.beq e.on i) || o.after.toList.any (fun e => Region.binds .any e && (idx.contains e.on && needs all idx n e.on i))
   | none => false
/-- May these operations run in any order, ahead of all others? -/
def okRunT (all : Array Oper) (listed : Array Bool) (idx : List Nat) (k0 : List Nat) : Bool :=
 (idx.all fun i => !listed.getD i true && (match all[i]? with
   | some o => (match o.dst with | some d => !k0.contains d | none => false) && o.after.toList.all (fun e => !Region.binds .any e || (Nat.blt e.on i && (idx.contains e.on || listed.getD e.on false)))
   | none => false)) &&
 ((List.range all.size).all fun j => idx.contains j || listed.getD j true || idx.all (fun i => needs all idx (idx.length + 1) j i)) &&
 (idx.all fun i => idx.all fun j => Nat.beq i j || !(match all[i]?, all[j]? with | some o, some o' => o.dst == o'.dst | _, _ => false))
section
variable {P : Program} {fn : Func} {c : Ctx} {fr : Fr} {H : zQ} {k : List It}
/-- A constant of which nothing is said (a map that is nil). -/
theorem zHT {ind : Bool} {d : Option Nat} {ty : TypeId} {pos : String} {after : Array Edge} {g : Option (Nat × Bool)} {x : Operand} : QOp ind P fn c fr H ⟨d, .assign x, ty, pos, after, g⟩ .any :=
 fun _ a _ _ _ => ⟨a.eval x, .any _ _, fun _ _ => rfl⟩
end
end Go.Ax
namespace Go.Proofs.YtnkealfaldjipaaGreatDoor
open Go.Ax Go.Ax.Bg Go.Ax.Rt Go.RowKit Go.Ax.Idx Go.Ax.Cd
attribute [local irreducible] Ax zAM QOp zM zq
set_option maxRecDepth 100000
set_option maxHeartbeats 4000000
def keyC (c : TChoice) : AV := .int .i64 c.info
def valC (c : TChoice) : AV := .ro (qsC (c.odds.map zAQ)) 0 (c.odds.map zAQ).length
abbrev oddC (s : zAY) : Cells := .mp (s.map keyC) (s.map valC)
theorem keysC (s : zAY) : ∀ x ∈ s.map keyC, zCu (.int .i64) x = true := by
 intro x hx
 obtain ⟨e, _, rfl⟩ := List.mem_map.1 hx
 rfl
theorem zPY (s : zAY) (n : Nat) : zA2 n (oddC s) := by
 exact ⟨zBy (fun _ => rfl) s, zBy (fun _ => rfl) s⟩
theorem zMX (s : zAY) : z6 (oddC s) := ⟨zD8 (fun _ => rfl) s, zD8 (fun _ => rfl) s⟩
theorem odds_ok' (s : zAY) (hs : ShortS s) (hn : (s.map TChoice.info).Nodup) (hv : ∀ c ∈ s, c.odds.length ≤ 256 ∧ ∀ r ∈ c.odds, zCU r = 0) : zV Tryz.prog 132 [.ro (zAV s) 0 s.length] (.rom (s.map keyC) (s.map valC)) := by
 have hsl := hs.len
 refine zM.value (K := fun r H => r = .mp 0 ∧ H = [some ⟨209, oddC s⟩]) (zG (P := Tryz.prog) (fn := Tryz.f132) rfl rfl (by kernel_rfl) rfl (fun c hR hfix => ?_)) (fix := fun _ => False) (fun _ h => h) rfl ?_
 · refine rn0 ?_
   refine zB zHT ?_
   refine rn0 ?_
   refine zED ?_
   refine rn3 ?_
   refine zk (ι := Nat) (fun i => [(3, .mp 0), (7, .ro (zAV s) 0 s.length), (8, .int .i64 (s.length : Nat)), (9, .int .i64 (i : Nat))]) (fun i => [some ⟨209, oddC (s.take i)⟩])
     (fun i => i ≤ s.length) (fun i => s.length - i) 0 ⟨⟨rfl, rfl, rfl, rfl, trivial⟩, rfl, Nat.zero_le _⟩ ?_
   intro i hi
   refine rn4 ?_
   refine zF rfl (fun h => ?_) (fun h => ?_)
   · have hi' : i < s.length := by omega
     have hm := zA6 ch0 hi'
     have hc := hs.each _ hm
     obtain ⟨v1, v2⟩ := hv _ hm
     have cin := in_ok' (s.getD i ch0).odds (by omega) (fun r hr => ⟨hc.each r hr, v2 r hr⟩)
     have hol := hc.odds
     have htk : s.take (i + 1) = s.take i ++ [s.getD i ch0] := by rw [List.take_succ_eq_append_getElem hi', zAp ch0 hi']
     have hnew : AV.int .i64 (s.getD i ch0).info ∉ (s.take i).map keyC := by
       intro hmem
       obtain ⟨c, hc1, hc2⟩ := List.mem_map.1 hmem
       injection hc2 with e1 e2
       obtain ⟨j, hj, rfl⟩ := List.getElem_of_mem hc1
       rw [List.length_take] at hj
       rw [List.getElem_take] at e2
       have hp := List.pairwise_iff_getElem.1 hn j i (by simpa using (show j < s.length by omega)) (by simpa using hi') (by omega)
       rw [List.getElem_map, List.getElem_map] at hp
       rw [zAp ch0 hi'] at e2
       exact hp e2
     refine rn6 ?_
     refine zL 12 (.agg (cellsC (s.getD i ch0))) rfl (AEq.of_eq rfl) ?_
     generalize s.getD i ch0 = x at *
     obtain ⟨nf, od⟩ := x
     simp only at *
     refine zR (c' := .box [.int .i64 nf, .ro (.strs od) 0 od.length]) rfl rfl rfl rfl rfl Nat.zero_lt_one rfl rfl (fun i' j' hi' hj' => ?_) ?_
     · rw [if_pos (Nat.lt_one_iff.1 hi')]; rfl
     refine rn0 ?_
     refine zl (by kernel_rfl) ?_
     refine zz (fuel := 1) [0, 1, 2, 3, 4, 5] [(3, .mp 0), (5, .ptr 1 0 0), (7, .ro (zAV s) 0 s.length), (8, .int .i64 (s.length : Nat)), (9, .int .i64 (i : Nat))] ⟨rfl, rfl, rfl, rfl, rfl, trivial⟩ (by kernel_rfl) (by decide) rfl rfl ?_
     refine zW rfl rfl (zH rfl) ?_
     refine zW rfl rfl (zO rfl rfl rfl rfl rfl rfl) ?_
     refine zW rfl rfl (zS rfl rfl rfl rfl rfl) ?_
     refine zW rfl rfl (zO rfl rfl rfl rfl rfl rfl) ?_
     refine zW rfl rfl (zS rfl rfl rfl rfl rfl) ?_
     refine zCG rfl rfl rfl rfl rfl cin ?_
     refine zAg ?_
     refine zD (is := [6]) (by kernel_rfl) (by simp) rfl ⟨fun o ho => ?_, trivial⟩
     all_goals (cases ho)
     refine zCH rfl (.int rfl) rfl rfl rfl rfl rfl (keysC _) hnew ?_
     refine rn1 ?_
     refine zi (by kernel_rfl) ?_
     repeat (refine zj ?_)
     refine zA ?_
     refine zCh [some ⟨209, oddC (s.take (i + 1))⟩, some ⟨67, .box [.int .i64 nf, .ro (.strs od) 0 od.length]⟩] (by rw [htk]; unfold oddC; rw [List.map_append, List.map_append]; rfl) ?_
     refine zAz [some ⟨209, oddC (s.take (i + 1))⟩] [some ⟨67, .box [.int .i64 nf, .ro (.strs od) 0 od.length]⟩] [(3, .mp 0), (7, .ro (zAV s) 0 s.length), (8, .int .i64 (s.length : Nat)), (9, .int .i64 (i : Nat))] rfl ⟨rfl, rfl, rfl, rfl, trivial⟩ (fun h hh => by rw [hfix] at hh; exact absurd hh id) (zDN (zPY _ _)) rfl ?_
     refine rn3 ?_
     exact zP ⟨i + 1, by omega, by omega, ⟨rfl, rfl, rfl, rfl, trivial⟩, rfl⟩
   · have hie : i = s.length := by omega
     subst hie
     rw [List.take_length]
     refine rn5 ?_
     exact zI hR rfl ⟨rfl, rfl⟩
 · rintro r H ⟨rfl, rfl⟩
   exact ⟨rfl, trivial, fun h o ho => zGn (zMX s) h o ho⟩
end Go.Proofs.YtnkealfaldjipaaGreatDoor
namespace Go.Proofs.YtnkealfaldjipaaGreatDoor
open Go.Ax Go.Ax.Bg Go.Ax.Rt Go.RowKit Go.Ax.Idx Go.Ax.Cd
attribute [local irreducible] Ax zAM QOp zM zq
set_option maxRecDepth 100000
set_option maxHeartbeats 4000000
theorem zJ9 {s : zAY} {c : TChoice} (hc : c ∈ s) : ∃ j : Nat, (s.map keyC)[j]? = some (.int .i64 c.info) ∧ (s.map valC)[j]? = some (.ro (qsC (c.odds.map zAQ)) 0 (c.odds.map zAQ).length) := by
 obtain ⟨j, hj⟩ := List.getElem?_of_mem hc
 exact ⟨j, by rw [List.getElem?_map, hj]; rfl, by rw [List.getElem?_map, hj]; rfl⟩
theorem zML (l : List Rat) (n : Nat) : zA2 n (qsC l) := by
 intro i j _ hj
 have hj : j < 3 := hj
 match j, hj with
 | 0, _ => rfl
 | 1, _ => rfl
 | 2, _ => rfl
end Go.Proofs.YtnkealfaldjipaaGreatDoor
namespace Go.Ax.Rt
open Go.Ax.Bg
def zBu (o : Option (List Rat)) (q : Option Rat) (k : Nat) : Option Rat := some (zKv o (q.getD 0) k)
def zCm (t : zT) (o : zw) : Nat → List (Option Rat)
 | 0 => (List.replicate t.length none).set 0 (some 1)
 | i + 1 => zAk (zBu (o i) ((zCm t o i).getD i none)) (t.getD i node0).next 0 (zCm t o i)
theorem zDE (t : zT) (o : zw) : ∀ i, (zCm t o i).length = t.length
 | 0 => by simp [zCm]
 | i + 1 => by rw [zCm, zC0, zDE t o i]
theorem Valid.known {t : zT} (h : Valid t) {i : Nat} (hi : i < t.length) : i = 0 ∨ ∃ a, a < i ∧ kid t a i := by
 by_cases h0 : i = 0
 · exact .inl h0
 · obtain ⟨a, ha, hk⟩ := h.has hi h0
   exact .inr ⟨a, (h.kid_lt ha hk).1, hk⟩
theorem zHl {t : zT} (h : Valid t) (o : zw) : ∀ i, i ≤ t.length → ∀ j, j < t.length → (j = 0 ∨ ∃ a, a < i ∧ kid t a j) → (zCm t o i).getD j none = some ((zY t o).getD j 0)
 | 0, _, j, hj, hk => by
   rcases hk with rfl | ⟨a, ha, _⟩
   · rw [zDG h, zCm, Go.Ax.Dt.getD_set, if_pos ⟨rfl, by simpa using hj⟩]
   · omega
 | i + 1, hi, j, hj, hk => by
   have hi' : i < t.length := by omega
   have ih := zHl h o i (by omega)
   rw [zCm]
   by_cases hki : kid t i j
   · obtain ⟨m, hm, rfl⟩ := zJU h hi' hki
     rw [zLI _ _ _ _ _ _ hm (h.kids_nodup hi') (fun c hc => by rw [zDE]; have := h.behind hi' c hc; omega), Nat.zero_add, zDx h o hi' hm]
     unfold zBu
     rw [ih i hi' (h.known hi')]
     rfl
   · have hne : ∀ c ∈ (t.getD i node0).next, c.toNat ≠ j := fun c hc e => by
       have := h.behind hi' c hc
       apply hki
       show (j : Int) ∈ _
       rw [← e, Int.toNat_of_nonneg (by omega)]
       exact hc
     rw [zBX _ _ _ _ _ hne]
     refine ih j hj ?_
     rcases hk with rfl | ⟨a, ha, hka⟩
     · exact .inl rfl
     · refine .inr ⟨a, ?_, hka⟩
       have : a ≠ i := fun e => hki (e ▸ hka)
       omega
theorem zNl {t : zT} (h : Valid t) (o : zw) : zCm t o t.length = (zY t o).map some := by
 have hl : (zY t o).length = t.length := zCk t o _
 apply List.ext_getElem
 · rw [zDE, List.length_map, hl]
 · intro j h1 h2
   rw [zDE] at h1
   have := zHl h o t.length (Nat.le_refl _) j h1 (by
     rcases h.known h1 with e | ⟨a, ha, hk⟩
     · exact .inl e
     · exact .inr ⟨a, by omega, hk⟩)
   rw [List.getElem_map]
   rw [List.getD_eq_getElem?_getD, List.getElem?_eq_getElem (by rw [zDE]; exact h1), List.getD_eq_getElem?_getD, List.getElem?_eq_getElem (by omega)] at this
   exact this
end Go.Ax.Rt
namespace Go.Ax
open Go
variable [Pins]
theorem zEV {P : Program} (w : World) {t e : TypeId} (a : Option Addr) (n c : Nat) (h : P.underlying t = some (.slice e)) : (binOp .neq t (.slice a n c) (.slice none 0 0)).run P w = .ok (.bool (!a.isNone)) w := by
 have _pin := (inferInstance : Pins)
 have h1 : ∀ d : Nat, (Op.equalIn (d + 1) t (.slice a n c) (.slice none 0 0)).run P w = .ok a.isNone w := fun d => by
   cases a with
   | none => simp [Op.equalIn, run_underlying h]
   | some a => simp [Op.equalIn, run_underlying h]
 simp only [binOp]
 simp [Op.equal, Op.maxDepth, h1 9999]
section
variable {P : Program} {fn : Func} {c : Ctx} {fr : Fr} {H : zQ} {k : List It} {ind : Bool} {d : Option Nat} {ty : TypeId} {pos : String} {after : Array Edge} {g : Option (Nat × Bool)}
theorem zL0 {x y : Operand} {t t' e : TypeId} (ht : P.underlying t = some (.slice e)) (hx : ev fr x = some .nil) (hy : ev fr y = some .nil) : QOp ind P fn c fr H ⟨d, .binOp .neq t x y t', ty, pos, after, g⟩ (.bool false) := by
 intro w a σ S hr
 have h1 := hr.evAt hx
 have h2 := hr.evAt hy
 generalize hz : a.eval x = z at h1
 generalize hzy : a.eval y = zy at h2
 cases h1
 cases h2
 refine ⟨_, .bool _ _, fun w' _ => ?_⟩
 have hb := zEV (P := P) w' none 0 0 ht
 simp only [execOp, hz, hzy, Sem.run_bind, zCA, Result.andThen_ok, hb]
 rfl
theorem q_neqnil {x y : Operand} {t t' e : TypeId} {cl : Cells} {i n : Nat} (ht : P.underlying t = some (.slice e)) (hx : ev fr x = some (.ro cl i n)) (hy : ev fr y = some .nil) (hn : 0 < n) : QOp ind P fn c fr H ⟨d, .binOp .neq t x y t', ty, pos, after, g⟩ (.bool true) := by
 intro w a σ S hr
 have h1 := hr.evAt hx
 have h2 := hr.evAt hy
 generalize hz : a.eval x = z at h1
 generalize hzy : a.eval y = zy at h2
 cases h2
 cases h1 with
 | ro0 _ _ _ ad cap => exact absurd hn (Nat.lt_irrefl _)
 | ro _ _ _ _ b o cap val hS hlen hc hv h1' =>
   refine ⟨_, .bool _ _, fun w' _ => ?_⟩
   have hb := zEV (P := P) w' (some ⟨b, o, none⟩) n cap ht
   simp only [execOp, hz, hzy, Sem.run_bind, zCA, Result.andThen_ok, hb]
   rfl
end
end Go.Ax
namespace Go.Proofs.YtnkealfaldjipaaGreatDoor
open Go.Ax Go.Ax.Bg Go.Ax.Rt Go.RowKit Go.Ax.Idx Go.Ax.Cd
attribute [local irreducible] Ax zAM QOp zM zq
set_option maxRecDepth 100000
set_option maxHeartbeats 4000000
def lA (o : Option (List Rat)) : AV := match o with
 | none => .nil
 | some l => .ro (qsC l) 0 l.length
structure OddsG (t : zT) (o : zw) : Prop where
 chance : ∀ i, i < t.length → (t.getD i node0).kind = 1 → o i = some ((t.getD i node0).odds.map zAQ)
 ends : ∀ i, i < t.length → (t.getD i node0).kind = 0 → o i = none
 some : ∀ i, i < t.length → ∀ l, o i = some l → (t.getD i node0).next.length ≤ l.length ∧ 0 < l.length ∧ l.length ≤ 1000000 ∧ ∀ q ∈ l, Sz 100000 q
 reach : ∀ j, j < t.length → Sz 100000 ((zY t o).getD j 0)
theorem zMJ {t : zT} (hv : Valid t) {i : Nat} (hi : i < t.length) (hk : (t.getD i node0).kind = 1) : zCa (t.getD i node0).odds = 0 := by
 have h := hv.nodes i hi
 unfold zDk at h
 rw [if_neg (by omega), if_pos hk] at h
 split at h
 · cases h
 split at h
 · rename_i h1; exact absurd h h1
 split at h
 · cases h
 exact h
theorem zND {t : zT} (hv : Valid t) {i : Nat} (hi : i < t.length) : (t.getD i node0).kind = 0 ∨ (t.getD i node0).kind = 1 ∨ (t.getD i node0).kind = 2 := by
 rcases hv.child hi with h | h
 · exact .inl h.1
 · exact .inr h.1
theorem zs_map (l : List Rat) : CEq (zsC (l.map some)) (qsC l) := by
 refine ⟨by simp [zCW, Cells.len], rfl, fun i j hi hj => ?_⟩
 have hi : i < l.length := by simpa [zCW, Cells.len] using hi
 show (zAD (l.getD i 0)).getD j .any = (zB8 ((l.map some).getD i none)).getD j .any
 rw [zDb some l 0 none i hi]
 rfl
theorem zL6 (l : List (Option Rat)) (n : Nat) : zA2 n (zsC l) := by
 intro i j _ hj
 show zCx n ((zB8 (l.getD i none)).getD j .any) = true
 have hj : j < 3 := hj
 cases l.getD i none with
 | none => match j, hj with
   | 0, _ => rfl
   | 1, _ => rfl
   | 2, _ => rfl
 | some q => match j, hj with
   | 0, _ => rfl
   | 1, _ => rfl
   | 2, _ => rfl
theorem zLm (t : zT) (o : zw) (g : FuncId) (caps : List AV) (hcp : noRef.noRefs caps = true) (hcb : zBo 1 caps = true) (hT : ShortT t) (hv : Valid t) (hG : OddsG t o)
   (hg : ∀ i, i < t.length → (t.getD i node0).kind = 2 → zV Tryz.prog g ([.agg (zBY (t.getD i node0))] ++ caps) (lA (o i))) :
   zV Tryz.prog 133 [.ro (zd t) 0 t.length, .fn g caps] (.ro (qsC (zY t o)) 0 t.length) := by
 have hlen := hT.len
 have h120 := hv.le
 have hne := hv.ne
 have hrep : (List.replicate t.length (none : Option Rat)).length = t.length := List.length_replicate
 refine zM.value0 (zG (P := Tryz.prog) (fn := Tryz.f133) rfl rfl (by kernel_rfl) rfl (fun c hR hfix => ?_)) (fix := fun _ => False) (fun _ h => h) (by simp [noRef.noRefs, noRef, hcp]) rfl
 refine rn3 ?_
 refine zCB rfl rfl rfl rfl rfl rfl rfl rfl (by show (0 : Int) ≤ _ ∧ _ ≤ _ ∧ (56 : Int) * _ ≤ _ ∧ _; omega) ?_
 refine rn0 ?_
 refine zE rfl rfl rfl zNR ?_
 unfold qA
 refine zA5 [some ⟨122, zsC (List.replicate t.length none)⟩] (zAL.eqv (zNv _) zAL.nil) ?_
 have hz0 : 0 < (zsC (List.replicate t.length none)).len := by show 0 < (List.replicate t.length (none : Option Rat)).length; omega
 repeat (refine zB (zZ rfl rfl rfl rfl rfl (by first | (simp only [Nat.zero_add, Int.toNat_natCast, Int.toNat_zero]; exact rfl) | exact rfl) (by omega)) ?_)
 refine zR (c' := zsC ((List.replicate t.length none).set 0 (some 1))) rfl rfl rfl rfl rfl hz0 (by show (List.set _ 0 _).length = (List.replicate _ _).length; simp) rfl (fun i' j' hi' hj' => zEI none 3 zB8 _ 0 (some 1) hz0 i' j' hi' hj') ?_
 refine rn3 ?_
 refine zk (ι := Nat) (fun i => [(0, .ro (zd t) 0 t.length), (1, .fn g caps), (5, .sl 0 0 t.length), (17, .ro (zd t) 0 t.length), (18, .int .i64 (t.length : Nat)), (19, .int .i64 (i : Nat))]) (fun i => [some ⟨122, zsC (zCm t o i)⟩])
   (fun i => i ≤ t.length) (fun i => t.length - i) 0 ⟨⟨rfl, rfl, rfl, rfl, rfl, rfl, trivial⟩, rfl, Nat.zero_le _⟩ ?_
 intro i hi
 refine rn4 ?_
 refine zF rfl (fun h => ?_) (fun h => ?_)
 · have hi' : i < t.length := by omega
   have hsn := hT.node _ (zA6 node0 hi')
   have hbh := hv.behind hi'
   have hWl := zDE t o i
   have hat := zHl hv o i hi i hi' (hv.known hi')
   have hri := hG.reach i hi'
   have hk3 := zND hv hi'
   have hch := fun hk => zMJ hv hi' hk
   have hgc := hG.chance i hi'
   have hge := hG.ends i hi'
   have hgs := hG.some i hi'
   have hgg := hg i hi'
   have hnx : zCm t o (i + 1) = zAk (zBu (o i) ((zCm t o i).getD i none)) (t.getD i node0).next 0 (zCm t o i) := rfl
   generalize hW2 : zCm t o (i + 1) = W2 at *
   generalize zCm t o i = W at *
   generalize hoi : o i = oi at *
   generalize (zY t o).getD i 0 = ri at *
   rw [hat] at hnx
   obtain ⟨s1, s2, s3, s4⟩ := hsn
   refine rn6 ?_
   refine zL 23 (.agg (zBY (t.getD i node0))) rfl (AEq.of_eq rfl) ?_
   generalize hn : t.getD i node0 = n at *
   obtain ⟨kd, pl, nf, nx, od, py⟩ := n
   simp only at *
   refine zR (c' := .box [.int .i64 kd, .int .i64 pl, .int .i64 nf, .ro (.ints .i64 nx) 0 nx.length, .ro (.strs od) 0 od.length, .str py]) rfl rfl rfl rfl rfl Nat.zero_lt_one rfl rfl (fun i' j' hi' hj' => ?_) ?_
   · rw [if_pos (Nat.lt_one_iff.1 hi')]; rfl
   refine zAn [some ⟨122, zsC (W)⟩, some ⟨40, .box [.int .i64 kd, .int .i64 pl, .int .i64 nf, .ro (.ints .i64 nx) 0 nx.length, .ro (.strs od) 0 od.length, .str py]⟩] rfl ?_
   refine zL 7 (.ptr 1 0 0) rfl (AEq.of_eq rfl) ?_
   apply zAj (H := [some ⟨122, zsC (W)⟩, some ⟨40, .box [.int .i64 kd, .int .i64 pl, .int .i64 nf, .ro (.ints .i64 nx) 0 nx.length, .ro (.strs od) 0 od.length, .str py]⟩]) [(0, .ro (zd t) 0 t.length), (1, .fn g caps), (5, .sl 0 0 t.length), (6, .int .i64 (i : Nat)), (7, .ptr 1 0 0), (8, lA oi), (17, .ro (zd t) 0 t.length), (18, .int .i64 (t.length : Nat)), (19, .int .i64 (i : Nat)), (37, .ro (.ints .i64 nx) 0 nx.length), (38, .int .i64 (nx.length : Nat)), (39, .int .i64 0)]
   · intro fin
     refine rn5 ?_
     rcases hk3 with hk | hk | hk
     · have := hge hk
       subst this
       subst hk
       refine rn5 ?_
       exact fin _ ⟨rfl, rfl, rfl, rfl, rfl, rfl, rfl, rfl, rfl, rfl, rfl, rfl, trivial⟩
     · have h1 := hgc hk
       have h2 := hch hk
       subst hk
       subst h1
       obtain ⟨v1, v2, _, _⟩ := zDy h2
       have cin := in_ok' od (by omega) (fun r hr => ⟨s3 r hr, v2 r hr⟩)
       refine rn5 ?_
       refine zE rfl rfl rfl cin ?_
       refine rn5 ?_
       exact fin _ ⟨rfl, rfl, rfl, rfl, rfl, rfl, rfl, rfl, rfl, rfl, rfl, rfl, trivial⟩
     · have h1 := hgg hk
       subst hk
       refine rn6 ?_
       refine zL 34 (.agg (zBY ⟨2, pl, nf, nx, od, py⟩)) rfl (AEq.of_eq rfl) ?_
       refine zE rfl rfl rfl h1 ?_
       refine rn5 ?_
       exact fin _ ⟨rfl, rfl, rfl, rfl, rfl, rfl, rfl, rfl, rfl, rfl, rfl, rfl, trivial⟩
   cases oi with
   | none =>
     refine zk (ι := Nat) (fun j => [(0, .ro (zd t) 0 t.length), (1, .fn g caps), (5, .sl 0 0 t.length), (6, .int .i64 (i : Nat)), (7, .ptr 1 0 0), (8, .nil), (17, .ro (zd t) 0 t.length), (18, .int .i64 (t.length : Nat)), (19, .int .i64 (i : Nat)), (37, .ro (.ints .i64 nx) 0 nx.length), (38, .int .i64 (nx.length : Nat)), (39, .int .i64 (j : Nat))]) (fun j => [some ⟨122, zsC (zAk (zBu none (some ri)) (nx.take j) 0 W)⟩, some ⟨40, .box [.int .i64 kd, .int .i64 pl, .int .i64 nf, .ro (.ints .i64 nx) 0 nx.length, .ro (.strs od) 0 od.length, .str py]⟩])
       (fun j => j ≤ nx.length) (fun j => nx.length - j) 0 ⟨⟨rfl, rfl, rfl, rfl, rfl, rfl, rfl, rfl, rfl, rfl, rfl, rfl, trivial⟩, rfl, Nat.zero_le _⟩ ?_
     intro j hj
     refine rn4 ?_
     refine zF rfl (fun h5 => ?_) (fun h5 => ?_)
     · have hj' : j < nx.length := by omega
       obtain ⟨b1, b2⟩ := hbh _ (zAl 0 hj')
       have hAl : (zAk (zBu none (some ri)) (nx.take j) 0 W).length = t.length := by rw [zC0]; exact hWl
       have hAi : (zAk (zBu none (some ri)) (nx.take j) 0 W).getD i none = some ri := (zBX _ none _ _ _ (fun c hc => by have := hbh c (List.mem_of_mem_take hc); omega)).trans hat
       have hst : zAk (zBu none (some ri)) (nx.take (j + 1)) 0 W = (zAk (zBu none (some ri)) (nx.take j) 0 W).set (nx.getD j 0).toNat (zBu none (some ri) j) := by
         rw [zCi hj', zDO, List.length_take, Nat.min_eq_left hj, Nat.zero_add]
       generalize hA2 : zAk (zBu none (some ri)) (nx.take (j + 1)) 0 W = A2 at *
       generalize zAk (zBu none (some ri)) (nx.take j) 0 W = A at *
       obtain ⟨x, hx⟩ := Int.eq_ofNat_of_zero_le (show 0 ≤ nx.getD j 0 by omega)
       have hxn : (nx.getD j 0).toNat = x := by rw [hx, Int.toNat_natCast]
       rw [hx] at b1 b2
       rw [hxn] at hst
       have hxl : x < A.length := by omega
       have gi : i < (zsC A).len := by show i < A.length; omega
       have gx : x < (zsC A).len := hxl
       have hA1i : (A.set x (some ri)).getD i none = some ri := by rw [Go.Ax.Dt.getD_set, if_neg (by omega)]; exact hAi
       have gi1 : i < (zsC (A.set x (some ri))).len := by show i < (A.set x (some ri)).length; rw [List.length_set]; omega
       have gx1 : x < (zsC (A.set x (some ri))).len := by show x < (A.set x (some ri)).length; rw [List.length_set]; omega
       repeat (first | refine zA ?_ | refine zX ?_ | refine zAA ?_ | refine zn ?_)
       refine zJ rfl ?_
       repeat (first | refine zB (zH rfl) ?_ | refine zB (zK rfl) ?_ | refine zB (zA8 rfl rfl rfl) ?_ | refine zC ?_ | refine zA ?_ | refine zX ?_ | refine zB (zh rfl rfl rfl rfl (by first | (simp only [Nat.zero_add, Int.toNat_natCast, Int.toNat_zero]; exact rfl) | exact rfl) (by omega)) ?_)
       refine zAb 10 (.int .i64 (x : Nat)) rfl (AEq.of_eq (by rw [hx])) ?_
       refine rn6 ?_
       refine zL 49 (.agg (zAD ri)) rfl (AEq.of_eq (show AV.agg [(zB8 (A.getD i none)).getD 0 .any, (zB8 (A.getD i none)).getD 1 .any, (zB8 (A.getD i none)).getD 2 .any] = _ by rw [hAi]; rfl)) ?_
       refine zR (c' := zsC (A.set x (some ri))) rfl rfl rfl rfl rfl hxl (by show (A.set x (some ri)).length = A.length; simp) rfl (fun i' j' hi' hj' => zEI none 3 zB8 A x (some ri) hxl i' j' hi' hj') ?_
       refine rn0 ?_
       refine zB (zL0 rfl rfl rfl) ?_
       refine rn5 ?_
       exact zP ⟨j + 1, by omega, by omega, ⟨rfl, rfl, rfl, rfl, rfl, rfl, rfl, rfl, rfl, rfl, rfl, rfl, trivial⟩, by rw [hA2, hst]; rfl⟩
     · have hje : j = nx.length := by omega
       subst hje
       rw [List.take_length, ← hnx]
       repeat (first | refine zj ?_ | refine zA3 ?_ | refine z8 ?_ | refine z7 ?_ | refine zAS ?_)
       refine zA ?_
       refine zAz [some ⟨122, zsC (W2)⟩] [some ⟨40, .box [.int .i64 kd, .int .i64 pl, .int .i64 nf, .ro (.ints .i64 nx) 0 nx.length, .ro (.strs od) 0 od.length, .str py]⟩] [(0, .ro (zd t) 0 t.length), (1, .fn g caps), (5, .sl 0 0 t.length), (17, .ro (zd t) 0 t.length), (18, .int .i64 (t.length : Nat)), (19, .int .i64 (i : Nat))] rfl ⟨rfl, rfl, rfl, rfl, rfl, rfl, trivial⟩ (fun h hh => by rw [hfix] at hh; exact absurd hh id) (zDN (zL6 _ _)) (by show (true && (zBo 1 caps && _)) = true; rw [hcb]; rfl) ?_
       refine rn3 ?_
       exact zP ⟨i + 1, by omega, by omega, ⟨rfl, rfl, rfl, rfl, rfl, rfl, trivial⟩, by rw [hW2]⟩
   | some l =>
     obtain ⟨l1, l2, l3, l4⟩ := hgs l rfl
     refine zk (ι := Nat) (fun j => [(0, .ro (zd t) 0 t.length), (1, .fn g caps), (5, .sl 0 0 t.length), (6, .int .i64 (i : Nat)), (7, .ptr 1 0 0), (8, .ro (qsC l) 0 l.length), (17, .ro (zd t) 0 t.length), (18, .int .i64 (t.length : Nat)), (19, .int .i64 (i : Nat)), (37, .ro (.ints .i64 nx) 0 nx.length), (38, .int .i64 (nx.length : Nat)), (39, .int .i64 (j : Nat))]) (fun j => [some ⟨122, zsC (zAk (zBu (some l) (some ri)) (nx.take j) 0 W)⟩, some ⟨40, .box [.int .i64 kd, .int .i64 pl, .int .i64 nf, .ro (.ints .i64 nx) 0 nx.length, .ro (.strs od) 0 od.length, .str py]⟩])
       (fun j => j ≤ nx.length) (fun j => nx.length - j) 0 ⟨⟨rfl, rfl, rfl, rfl, rfl, rfl, rfl, rfl, rfl, rfl, rfl, rfl, trivial⟩, rfl, Nat.zero_le _⟩ ?_
     intro j hj
     refine rn4 ?_
     refine zF rfl (fun h5 => ?_) (fun h5 => ?_)
     · have hj' : j < nx.length := by omega
       obtain ⟨b1, b2⟩ := hbh _ (zAl 0 hj')
       have hAl : (zAk (zBu (some l) (some ri)) (nx.take j) 0 W).length = t.length := by rw [zC0]; exact hWl
       have hAi : (zAk (zBu (some l) (some ri)) (nx.take j) 0 W).getD i none = some ri := (zBX _ none _ _ _ (fun c hc => by have := hbh c (List.mem_of_mem_take hc); omega)).trans hat
       have hst : zAk (zBu (some l) (some ri)) (nx.take (j + 1)) 0 W = (zAk (zBu (some l) (some ri)) (nx.take j) 0 W).set (nx.getD j 0).toNat (zBu (some l) (some ri) j) := by
         rw [zCi hj', zDO, List.length_take, Nat.min_eq_left hj, Nat.zero_add]
       generalize hA2 : zAk (zBu (some l) (some ri)) (nx.take (j + 1)) 0 W = A2 at *
       generalize zAk (zBu (some l) (some ri)) (nx.take j) 0 W = A at *
       obtain ⟨x, hx⟩ := Int.eq_ofNat_of_zero_le (show 0 ≤ nx.getD j 0 by omega)
       have hxn : (nx.getD j 0).toNat = x := by rw [hx, Int.toNat_natCast]
       rw [hx] at b1 b2
       rw [hxn] at hst
       have hxl : x < A.length := by omega
       have gi : i < (zsC A).len := by show i < A.length; omega
       have gx : x < (zsC A).len := hxl
       have hA1i : (A.set x (some ri)).getD i none = some ri := by rw [Go.Ax.Dt.getD_set, if_neg (by omega)]; exact hAi
       have gi1 : i < (zsC (A.set x (some ri))).len := by show i < (A.set x (some ri)).length; rw [List.length_set]; omega
       have gx1 : x < (zsC (A.set x (some ri))).len := by show x < (A.set x (some ri)).length; rw [List.length_set]; omega
       repeat (first | refine zA ?_ | refine zX ?_ | refine zAA ?_ | refine zn ?_)
       refine zJ rfl ?_
       repeat (first | refine zB (zH rfl) ?_ | refine zB (zK rfl) ?_ | refine zB (zA8 rfl rfl rfl) ?_ | refine zC ?_ | refine zA ?_ | refine zX ?_ | refine zB (zh rfl rfl rfl rfl (by first | (simp only [Nat.zero_add, Int.toNat_natCast, Int.toNat_zero]; exact rfl) | exact rfl) (by omega)) ?_)
       refine zAb 10 (.int .i64 (x : Nat)) rfl (AEq.of_eq (by rw [hx])) ?_
       refine rn6 ?_
       refine zL 49 (.agg (zAD ri)) rfl (AEq.of_eq (show AV.agg [(zB8 (A.getD i none)).getD 0 .any, (zB8 (A.getD i none)).getD 1 .any, (zB8 (A.getD i none)).getD 2 .any] = _ by rw [hAi]; rfl)) ?_
       refine zR (c' := zsC (A.set x (some ri))) rfl rfl rfl rfl rfl hxl (by show (A.set x (some ri)).length = A.length; simp) rfl (fun i' j' hi' hj' => zEI none 3 zB8 A x (some ri) hxl i' j' hi' hj') ?_
       refine rn0 ?_
       refine zB (q_neqnil rfl rfl rfl l2) ?_
       refine rn5 ?_
       have hjl : j < l.length := by omega
       have cmul : zV Tryz.prog 105 [.agg [(zB8 ((A.set x (some ri)).getD i none)).getD 0 .any, (zB8 ((A.set x (some ri)).getD i none)).getD 1 .any, (zB8 ((A.set x (some ri)).getD i none)).getD 2 .any], qA (l.getD j 0)] (qA (ri * l.getD j 0)) := by
         rw [hA1i]
         exact zK5 ri (l.getD j 0) hri (l4 _ (zAl 0 hjl))
       refine zl (by kernel_rfl) ?_
       refine zz (fuel := 1) [0, 1, 2, 3, 4, 5, 6, 7, 8, 9, 10, 11] [(0, .ro (zd t) 0 t.length), (1, .fn g caps), (5, .sl 0 0 t.length), (6, .int .i64 (i : Nat)), (7, .ptr 1 0 0), (8, .ro (qsC l) 0 l.length), (17, .ro (zd t) 0 t.length), (18, .int .i64 (t.length : Nat)), (19, .int .i64 (i : Nat)), (37, .ro (.ints .i64 nx) 0 nx.length), (38, .int .i64 (nx.length : Nat)), (39, .int .i64 (j : Nat)), (9, .int .i64 (j : Nat)), (10, .int .i64 (x : Nat))] ⟨rfl, rfl, rfl, rfl, rfl, rfl, rfl, rfl, rfl, rfl, rfl, rfl, rfl, rfl, trivial⟩ (by kernel_rfl) (by decide) rfl rfl ?_
       refine zW rfl rfl (zH rfl) ?_
       refine zW rfl rfl (zH rfl) ?_
       refine zW rfl rfl (zH rfl) ?_
       refine zW rfl rfl (zH rfl) ?_
       refine zW rfl rfl (zZ rfl rfl rfl rfl rfl (by first | (simp only [Nat.zero_add, Int.toNat_natCast, Int.toNat_zero]; exact rfl) | exact rfl) (by omega)) ?_
       refine zW rfl rfl (zr rfl rfl rfl rfl rfl rfl rfl (by first | exact Nat.zero_lt_one | assumption | omega)) ?_
       refine zW rfl rfl (zH rfl) ?_
       refine zW rfl rfl (zH rfl) ?_
       refine zW rfl rfl (zh rfl rfl rfl rfl (by first | (simp only [Nat.zero_add, Int.toNat_natCast, Int.toNat_zero]; exact rfl) | exact rfl) (by omega)) ?_
       refine zW rfl rfl (zCT rfl rfl rfl rfl rfl rfl) ?_
       refine zCG rfl rfl rfl rfl rfl cmul ?_
       refine zW rfl rfl (zZ rfl rfl rfl rfl rfl (by first | (simp only [Nat.zero_add, Int.toNat_natCast, Int.toNat_zero]; exact rfl) | exact rfl) (by omega)) ?_
       refine zAg ?_
       refine zD (is := [12]) (by kernel_rfl) (by simp) rfl ⟨fun o ho => ?_, trivial⟩
       all_goals (cases ho)
       skip
       unfold qA
       refine zR (c' := zsC ((A.set x (some ri)).set x (some (ri * l.getD j 0)))) rfl rfl rfl rfl rfl gx1 (by show (List.set _ x _).length = (A.set x (some ri)).length; simp) rfl (fun i' j' hi' hj' => zEI none 3 zB8 (A.set x (some ri)) x (some (ri * l.getD j 0)) gx1 i' j' hi' hj') ?_
       refine rn1 ?_
       refine zi (by kernel_rfl) ?_
       refine rn5 ?_
       exact zP ⟨j + 1, by omega, by omega, ⟨rfl, rfl, rfl, rfl, rfl, rfl, rfl, rfl, rfl, rfl, rfl, rfl, trivial⟩, by rw [hA2, hst]; exact congrArg (fun z => [some (AObj.mk 122 (zsC z)), some (AObj.mk 40 (.box [.int .i64 kd, .int .i64 pl, .int .i64 nf, .ro (.ints .i64 nx) 0 nx.length, .ro (.strs od) 0 od.length, .str py]))]) (List.set_set ..)⟩
     · have hje : j = nx.length := by omega
       subst hje
       rw [List.take_length, ← hnx]
       repeat (first | refine zj ?_ | refine zA3 ?_ | refine z8 ?_ | refine z7 ?_ | refine zAS ?_)
       refine zA ?_
       refine zAz [some ⟨122, zsC (W2)⟩] [some ⟨40, .box [.int .i64 kd, .int .i64 pl, .int .i64 nf, .ro (.ints .i64 nx) 0 nx.length, .ro (.strs od) 0 od.length, .str py]⟩] [(0, .ro (zd t) 0 t.length), (1, .fn g caps), (5, .sl 0 0 t.length), (17, .ro (zd t) 0 t.length), (18, .int .i64 (t.length : Nat)), (19, .int .i64 (i : Nat))] rfl ⟨rfl, rfl, rfl, rfl, rfl, rfl, trivial⟩ (fun h hh => by rw [hfix] at hh; exact absurd hh id) (zDN (zL6 _ _)) (by show (true && (zBo 1 caps && _)) = true; rw [hcb]; rfl) ?_
       refine rn3 ?_
       exact zP ⟨i + 1, by omega, by omega, ⟨rfl, rfl, rfl, rfl, rfl, rfl, trivial⟩, by rw [hW2]⟩
 · have hie : i = t.length := by omega
   subst hie
   rw [zNl hv]
   repeat (first | refine zA ?_ | refine zX ?_ | refine zA3 ?_ | refine z8 ?_ | refine z7 ?_ | refine zAS ?_)
   refine zEe [some ⟨122, qsC (zY t o)⟩] (zAL.eqv (zs_map _) zAL.nil) ?_
   refine zBE 0 5 t.length [] rfl (zHB _) rfl (by show t.length ≤ (zY t o).length; rw [show (zY t o).length = t.length from zCk t o _]; exact Nat.le_refl _) trivial ?_
   refine rn0 ?_
   exact zI hR rfl rfl
end Go.Proofs.YtnkealfaldjipaaGreatDoor
namespace Go.Ax.Rt
open Go.Ax.Bg
theorem le_num {q : Rat} {M : Nat} (h : q ≤ (M : Rat)) : q.num ≤ M * q.den := by
 have h2 := Rat.not_lt.2 h
 rw [Rat.lt_iff] at h2
 rw [Rat.num_natCast, Rat.den_natCast] at h2
 have : ¬ ((M : Int) * (q.den : Int) < q.num * 1) := h2
 omega
theorem num_le {q : Rat} {M : Nat} (h : q.num ≤ M * q.den) : q ≤ (M : Rat) := by
 refine Rat.not_lt.1 (fun h2 => ?_)
 rw [Rat.lt_iff, Rat.num_natCast, Rat.den_natCast] at h2
 have : (M : Int) * (q.den : Int) < q.num * 1 := h2
 omega
theorem D_le {k : Nat} {q : Rat} (h : D k q) : q ≤ ((10 ^ k : Nat) : Rat) ∧ -q ≤ ((10 ^ k : Nat) : Rat) := by
 have h1 := h.1
 have h2 := q.den_pos
 generalize 10 ^ k = T at *
 have h3 : (T : Int) * 1 ≤ T * q.den := Int.mul_le_mul_of_nonneg_left (by omega) (by omega)
 refine ⟨num_le (by omega), num_le ?_⟩
 show -q.num ≤ (T : Int) * (q.den : Int)
 omega
theorem bnd_D {B K M : Nat} {q : Rat} (h : Dv B q) (hB : B ≠ 0) (h1 : q ≤ (M : Rat)) (h2 : -q ≤ (M : Rat)) (hM : M * B < 10 ^ K) (hK : B < 10 ^ K) : D K q := by
 have hd := Nat.le_of_dvd (by omega) (h.den hB)
 refine ⟨?_, by omega⟩
 have a1 := le_num h1
 have a2 := le_num h2
 have a2 : -q.num ≤ (M : Int) * (q.den : Int) := a2
 have a3 : M * q.den ≤ M * B := Nat.mul_le_mul_left _ hd
 have a4 : ((M * q.den : Nat) : Int) = (M : Int) * (q.den : Int) := Int.natCast_mul _ _
 omega
theorem Dv.sum {B : Nat} {l : List Rat} : (∀ q ∈ l, Dv B q) → ∀ {acc : Rat}, Dv B acc → Dv B (zAu acc l) := by
 induction l with
 | nil => intro _ acc h; exact h
 | cons a r ih => intro h acc ha; exact ih (fun q hq => h q (by simp [hq])) (ha.add (h a (by simp)))
theorem zKg (f : Nat → Rat) (c : Rat) : ∀ ks : List Nat, zAu 0 (ks.map (fun i => f i * c)) = zAu 0 (ks.map f) * c
 | [] => by rw [List.map_nil, List.map_nil, zAu, Rat.zero_mul]
 | a :: r => by
   rw [List.map_cons, List.map_cons, zAu, zAu, zCQ, zCQ (r.map f), zKg f c r, Rat.zero_add, Rat.zero_add, Rat.add_mul]
theorem zLQ {f g : Nat → Rat} : ∀ {ks : List Nat}, (∀ i ∈ ks, f i ≤ g i) → zAu 0 (ks.map f) ≤ zAu 0 (ks.map g)
 | [], _ => Rat.le_refl
 | a :: r, h => by
   rw [List.map_cons, List.map_cons, zAu, zAu, zCQ, zCQ (r.map g), Rat.zero_add, Rat.zero_add]
   have h1 := (Rat.add_le_add_right (c := zAu 0 (r.map f))).2 (h a (by simp))
   have h2 := (Rat.add_le_add_left (c := g a)).2 (zLQ (ks := r) (fun i hi => h i (by simp [hi])))
   exact Rat.le_trans h1 h2
/-- the product of the denominators of the payments -/
def payB (t : zT) : Nat := zGp (t.map (fun n => if n.kind = 0 then (zAQ n.pay).den else 1))
theorem zJW (t : zT) : 0 < payB t := by
 refine zKV (fun x hx => ?_)
 obtain ⟨n, _, rfl⟩ := List.mem_map.1 hx
 split
 · exact Rat.den_pos _
 · exact Nat.one_pos
structure Pays (t : zT) (d : Nat) : Prop where
 dig : ∀ i, i < t.length → (t.getD i node0).kind = 0 → D d (zAQ (t.getD i node0).pay)
theorem zNn {t : zT} {d : Nat} (h : Pays t d) : payB t ≤ 10 ^ (d * t.length) := by
 have h1 := zJQ (l := t.map (fun n => if n.kind = 0 then (zAQ n.pay).den else 1)) (d := d) (fun x hx => by
   obtain ⟨n, hn, rfl⟩ := List.mem_map.1 hx
   obtain ⟨i, hi, rfl⟩ := List.getElem_of_mem hn
   split
   · rename_i h2
     have := h.dig i hi (by rw [zAp node0 hi]; exact h2)
     rw [zAp node0 hi] at this
     exact Nat.le_of_lt this.2
   · exact Nat.pow_pos (by decide))
 rwa [List.length_map] at h1
theorem zMG {t : zT} {i : Nat} (hi : i < t.length) (hk : (t.getD i node0).kind = 0) : (zAQ (t.getD i node0).pay).den ∣ payB t := by
 refine zIB (List.mem_map.2 ⟨t.getD i node0, zAl node0 hi, ?_⟩)
 rw [if_pos hk]
theorem value_Dv {t : zT} (h : Valid t) {o : zw} {d : Nat} (ho : OddsAll t o d) (hn : t.length ≤ 40) : Dv (Bd o t.length * payB t) (zA0 t o) := by
 refine Dv.sum (fun q hq => ?_) (Dv.zero _)
 obtain ⟨i, hi, rfl⟩ := List.mem_map.1 hq
 obtain ⟨i1, i2⟩ := zCv hi
 exact (zOA h ho hn i1).1.mul (Dv.of_den.mono (zMG i1 i2))
theorem value_le {t : zT} (h : Valid t) {o : zw} {d : Nat} (ho : OddsAll t o d) {e : Nat} (hp : Pays t e) : zA0 t o ≤ ((10 ^ e : Nat) : Rat) ∧ -(zA0 t o) ≤ ((10 ^ e : Nat) : Rat) := by
 have hs := ends_sum h ho.toOddsOK
 have one : zAu 0 ((zx t).map (fun j => (zY t o).getD j 0 * ((10 ^ e : Nat) : Rat))) = ((10 ^ e : Nat) : Rat) := by
   rw [zKg, hs, Rat.one_mul]
 constructor
 · rw [← one]
   refine zLQ (fun i hi => ?_)
   obtain ⟨i1, i2⟩ := zCv hi
   exact Rat.mul_le_mul_of_nonneg_left (D_le (hp.dig i i1 i2)).1 (zG5 h ho i i1).2
 · unfold zA0
   rw [← zJM, ← one]
   refine zLQ (fun i hi => ?_)
   obtain ⟨i1, i2⟩ := zCv hi
   unfold zEn
   rw [← Rat.mul_neg]
   exact Rat.mul_le_mul_of_nonneg_left (D_le (hp.dig i i1 i2)).2 (zG5 h ho i i1).2
theorem value_D' {t : zT} (h : Valid t) {o : zw} (ho : OddsAll t o 12) (hn : t.length ≤ 40) (hp : Pays t 12) {E1 E2 W : Nat} (hB : Bd o t.length < 10 ^ E1) (hP : payB t ≤ 10 ^ E2) (hW : 12 + (E1 + E2) ≤ W) : D W (zA0 t o) := by
 have e1 : Bd o t.length * payB t < 10 ^ E1 * 10 ^ E2 := by
   refine Nat.lt_of_lt_of_le ((Nat.mul_lt_mul_right (zJW t)).2 hB) ?_
   exact Nat.mul_le_mul_left _ hP
 rw [← Nat.pow_add] at e1
 obtain ⟨v1, v2⟩ := value_le h ho hp
 have hpos : 0 < Bd o t.length * payB t := Nat.mul_pos (zLD o _) (zJW t)
 refine bnd_D (value_Dv h ho hn) (by omega) v1 v2 ?_ ?_
 · have := (Nat.mul_lt_mul_left (a := 10 ^ 12) (Nat.pow_pos (by decide))).2 e1
   rw [← Nat.pow_add] at this
   exact Nat.lt_of_lt_of_le this (Nat.pow_le_pow_right (by decide) hW)
 · exact Nat.lt_of_lt_of_le e1 (Nat.pow_le_pow_right (by decide) (by omega))
/-- The value of a game with short zAh is short. -/
theorem zIk {t : zT} (h : Valid t) {o : zw} (ho : OddsAll t o 12) (hn : t.length ≤ 40) (hp : Pays t 12) : D 974 (zA0 t o) := by
 obtain ⟨_, hB⟩ := zOA h ho hn (show 0 < t.length by have := h.ne; omega)
 have hP := zNn hp
 refine value_D' h ho hn hp (E1 := 12 * 40 + 1) (E2 := 12 * t.length) hB hP ?_
 omega
/-- the probabilities of chance alone -/
def chanceO (t : zT) : zw := fun i => if (t.getD i node0).kind = 1 then some ((t.getD i node0).odds.map zAQ) else none
/-- the probabilities of chance and of both players -/
def zCt (t : zT) (a b : Int → List Rat) : zw := fun i =>
 if (t.getD i node0).kind = 1 then some ((t.getD i node0).odds.map zAQ)
 else if (t.getD i node0).kind = 2 then some (if (t.getD i node0).player = 0 then a (t.getD i node0).info else b (t.getD i node0).info) else none
/-- the probabilities of chance and of the other player -/
def zGg (t : zT) (p : Int) (u : Int → List Rat) : zw := fun i =>
 if (t.getD i node0).kind = 1 then some ((t.getD i node0).odds.map zAQ)
 else if (t.getD i node0).kind = 2 then (if (t.getD i node0).player = p then none else some (u (t.getD i node0).info)) else none
theorem zL3 (t : zT) (p : Int) (u : Int → List Rat) : ∀ i, i < t.length → own p (t.getD i node0) = true → zGg t p u i = none := by
 intro i hi h
 unfold own at h
 rw [Bool.and_eq_true, decide_eq_true_eq, decide_eq_true_eq] at h
 unfold zGg
 rw [if_neg (by omega), if_pos h.1, if_pos h.2]
theorem zIH {t : zT} {o o' : zw} (h : ∀ i, i < t.length → o i = o' i) : ∀ i, i ≤ t.length → zBm t o i = zBm t o' i
 | 0, _ => rfl
 | i + 1, hi => by rw [zBm, zBm, zIH h i (by omega), h i (by omega)]
theorem zEl {t : zT} {o o' : zw} (h : ∀ i, i < t.length → o i = o' i) : zA0 t o = zA0 t o' := by
 unfold zA0 zY
 rw [zIH h t.length (Nat.le_refl _)]
theorem zCV {t : zT} (hv : Valid t) {i : Nat} (hi : i < t.length) (hk : (t.getD i node0).kind = 2) : (t.getD i node0).player = 0 ∨ (t.getD i node0).player = 1 := by
 have h := hv.nodes i hi
 unfold zDk at h
 rw [if_neg (by omega), if_neg (by omega), if_pos hk] at h
 split at h
 · cases h
 split at h
 · cases h
 rename_i h1
 omega
theorem zEg {p : Int} {n : TNode} : own p n = true ↔ n.kind = 2 ∧ n.player = p := by
 unfold own
 rw [Bool.and_eq_true, decide_eq_true_eq, decide_eq_true_eq]
theorem both0 {t : zT} (hv : Valid t) (a b : Int → List Rat) : ∀ i, i < t.length → zDi t 0 a (zGg t 0 b) i = zCt t a b i := by
 intro i hi
 unfold zDi zGg zCt
 by_cases h : own 0 (t.getD i node0) = true
 · obtain ⟨h1, h2⟩ := zEg.1 h
   rw [if_pos h, if_neg (by omega), if_pos h1, if_pos h2]
 · rw [if_neg h]
   split
   · rfl
   split
   · rename_i h1 h2
     have h3 : ¬ (t.getD i node0).player = 0 := fun e => h (zEg.2 ⟨h2, e⟩)
     rw [if_neg h3, if_neg h3]
   · rfl
theorem both1 {t : zT} (hv : Valid t) (a b : Int → List Rat) : ∀ i, i < t.length → zDi t 1 b (zGg t 1 a) i = zCt t a b i := by
 intro i hi
 unfold zDi zGg zCt
 by_cases h : own 1 (t.getD i node0) = true
 · obtain ⟨h1, h2⟩ := zEg.1 h
   rw [if_pos h, if_neg (by omega), if_pos h1, if_neg (by omega)]
 · rw [if_neg h]
   split
   · rfl
   split
   · rename_i h1 h2
     have h3 : ¬ (t.getD i node0).player = 1 := fun e => h (zEg.2 ⟨h2, e⟩)
     rw [if_neg h3, if_pos (by have := zCV hv hi h2; omega)]
   · rfl
/-- A game with few nodes and short zAh. -/
structure Modest (t : zT) : Prop where
 len : t.length ≤ 40
 pay : ∀ n ∈ t, n.pay.length ≤ 12
 odds : ∀ n ∈ t, ∀ r ∈ n.odds, r.length ≤ 12
theorem zHn {t : zT} (hv : Valid t) {i : Nat} (hi : i < t.length) (hk : (t.getD i node0).kind = 0) : zCU (t.getD i node0).pay = 0 := by
 have h := hv.nodes i hi
 unfold zDk at h
 rw [if_pos hk] at h
 split at h
 · cases h
 · exact h
theorem zKx {t : zT} (hv : Valid t) {i : Nat} (hi : i < t.length) (hk : (t.getD i node0).kind = 1) : (t.getD i node0).odds.length = (t.getD i node0).next.length ∧ zCa (t.getD i node0).odds = 0 := by
 have h := hv.nodes i hi
 unfold zDk at h
 rw [if_neg (by omega), if_pos hk] at h
 split at h
 · cases h
 split at h
 · rename_i h1; exact absurd h h1
 split at h
 · cases h
 · rename_i h1
   exact ⟨Classical.not_not.1 h1, h⟩
theorem Modest.pays {t : zT} (hm : Modest t) (hv : Valid t) : Pays t 12 :=
 ⟨fun i hi hk => (IsQ.self (zHn hv hi hk)).dig (hm.pay _ (zAl node0 hi)) (by decide)⟩
theorem Modest.chance {t : zT} (hm : Modest t) (hv : Valid t) {i : Nat} (hi : i < t.length) (hk : (t.getD i node0).kind = 1) : ((t.getD i node0).odds.map zAQ).length = (t.getD i node0).next.length ∧ zAu 0 ((t.getD i node0).odds.map zAQ) = 1 ∧ ∀ q ∈ (t.getD i node0).odds.map zAQ, 0 ≤ q ∧ D 12 q := by
 obtain ⟨h1, h2⟩ := zKx hv hi hk
 obtain ⟨o1, o2, o3, o4⟩ := zDy h2
 refine ⟨by rw [List.length_map]; exact h1, o3, fun q hq => ⟨(o4 q hq).1, ?_⟩⟩
 obtain ⟨s, hs, rfl⟩ := List.mem_map.1 hq
 exact (IsQ.self (o2 s hs)).dig (hm.odds _ (zAl node0 hi) s hs) (by decide)
theorem Strat.node {t : zT} (hv : Valid t) {p : Int} {u : Int → List Rat} {d : Nat} (h : Strat t p u d) {i : Nat} (hi : i < t.length) (hk : (t.getD i node0).kind = 2) (hp : (t.getD i node0).player = p) :
   (u (t.getD i node0).info).length = (t.getD i node0).next.length ∧ zAu 0 (u (t.getD i node0).info) = 1 ∧ ∀ q ∈ u (t.getD i node0).info, 0 ≤ q ∧ D d q := by
 have hs : zAx p (t.getD i node0).info (t.getD i node0) = true := by
   unfold zAx
   rw [zEg.2 ⟨hk, hp⟩, decide_eq_true rfl]; rfl
 have hx : (t.getD i node0).info ∈ zc t p := (zBA hv).2 ⟨i, hi, hs⟩
 exact ⟨by rw [h.len _ hx, zCf hv hi hs], h.sum _ hx, fun q hq => ⟨h.nn _ hx q hq, h.dig _ hx q hq⟩⟩
theorem zGL {t : zT} (hv : Valid t) (hm : Modest t) {a b : Int → List Rat} (ha : Strat t 0 a 12) (hb : Strat t 1 b 12) : OddsAll t (zCt t a b) 12 := by
 refine ⟨⟨fun i hi hk => ?_⟩, fun i hi hk => ?_⟩
 · by_cases h1 : (t.getD i node0).kind = 1
   · obtain ⟨c1, c2, c3⟩ := hm.chance hv hi h1
     refine ⟨_, ?_, c1, c2, c3⟩
     unfold zCt; rw [if_pos h1]
   · have h2 : (t.getD i node0).kind = 2 := by
       rcases hv.child hi with h | h
       · exact absurd h.1 hk
       · omega
     by_cases h3 : (t.getD i node0).player = 0
     · obtain ⟨c1, c2, c3⟩ := ha.node hv hi h2 h3
       refine ⟨_, ?_, c1, c2, c3⟩
       unfold zCt; rw [if_neg h1, if_pos h2, if_pos h3]
     · have h4 : (t.getD i node0).player = 1 := by have := zCV hv hi h2; omega
       obtain ⟨c1, c2, c3⟩ := hb.node hv hi h2 h4
       refine ⟨_, ?_, c1, c2, c3⟩
       unfold zCt; rw [if_neg h1, if_pos h2, if_neg h3]
 · unfold zCt; rw [if_neg (by omega), if_neg (by omega)]
theorem zJm {t : zT} (hv : Valid t) (p : Int) (o : zw) : Strat t p (zFK t p o) 12 := by
 have hm := best_mix hv p o
 refine ⟨hm.len, hm.sum, hm.nn, fun x hx q hq => ?_⟩
 obtain ⟨c, h1, h2, _⟩ := zGe hv o hx
 have e : zFK t p o x = zC7 (ze t p x) c := by unfold zFK; rw [h1]; rfl
 rw [e] at hq
 exact ((zFo h2).2.2 q hq).2.mono (by decide)
/-- the best value of a player -/
def zKl (t : zT) (p : Int) (u : Int → List Rat) : Rat := (zBF t p (zGg t p u)).2.1.getD 0 0
theorem best0 {t : zT} (hv : Valid t) (hp : zBh t 0 = true) (b : Int → List Rat) : zKl t 0 b = zA0 t (zCt t (zFK t 0 (zGg t 0 b)) b) := by
 have h := zJO hv hp (zL3 t 0 b)
 rw [if_neg (by decide), zEl (both0 hv _ b)] at h
 exact h.symm
theorem best1 {t : zT} (hv : Valid t) (hp : zBh t 1 = true) (a : Int → List Rat) : zKl t 1 a = -(zA0 t (zCt t a (zFK t 1 (zGg t 1 a)))) := by
 have h := zJO hv hp (zL3 t 1 a)
 rw [if_pos rfl, zEl (both1 hv a _)] at h
 exact h.symm
theorem bestV_D0 {t : zT} (hv : Valid t) (hm : Modest t) (hp : zBh t 0 = true) {b : Int → List Rat} (hb : Strat t 1 b 12) : D 974 (zKl t 0 b) := by
 rw [best0 hv hp]
 exact zIk hv (zGL hv hm (zJm hv 0 _) hb) hm.len (hm.pays hv)
theorem bestV_D1 {t : zT} (hv : Valid t) (hm : Modest t) (hp : zBh t 1 = true) {a : Int → List Rat} (ha : Strat t 0 a 12) : D 974 (zKl t 1 a) := by
 rw [best1 hv hp]
 exact (zIk hv (zGL hv hm ha (zJm hv 1 _)) hm.len (hm.pays hv)).neg
end Go.Ax.Rt
namespace Go.Ax.Rt
open Go.Ax.Bg
structure OddsW (t : zT) (o : zw) (d : Nat) : Prop where
 some : ∀ i, i < t.length → ∀ l, o i = some l → l.length = (t.getD i node0).next.length ∧ ∀ q ∈ l, 0 ≤ q ∧ q ≤ 1 ∧ D d q
theorem zN0 {t : zT} (h : Valid t) {o : zw} {d : Nat} (ho : OddsW t o d) : ∀ j, j < t.length → Dv (Bd o j) ((zY t o).getD j 0) ∧ 0 ≤ (zY t o).getD j 0 ∧ (zY t o).getD j 0 ≤ 1 := by
 intro j
 induction j using Nat.strongRecOn with
 | ind j ih =>
   intro hj
   by_cases h0 : j = 0
   · subst h0
     rw [zDG h]
     exact ⟨Dv.one _, by decide +kernel, Rat.le_refl⟩
   · obtain ⟨i, hi, hk⟩ := h.has hj h0
     have hlt := h.kid_lt hi hk
     obtain ⟨m, hm, he⟩ := zJU h hi hk
     have hr := zDx h o hi hm
     rw [he] at hr
     obtain ⟨g1, g2, g3⟩ := ih i (by omega) hi
     cases hoi : o i with
     | none =>
       rw [hoi] at hr
       have hr : (zY t o).getD j 0 = (zY t o).getD i 0 := hr
       rw [hr]
       have h6 := zGu o (i := i) (j - i)
       rw [show i + (j - i) = j by omega] at h6
       exact ⟨g1.mono h6, g2, g3⟩
     | some l =>
       obtain ⟨l2, l4⟩ := ho.some i hi l hoi
       rw [hoi] at hr
       have hr : (zY t o).getD j 0 = (zY t o).getD i 0 * l.getD m 0 := hr
       obtain ⟨q1, q2, q3⟩ := l4 (l.getD m 0) (zAl 0 (by omega))
       rw [hr]
       refine ⟨?_, Rat.mul_nonneg g2 q1, ?_⟩
       · have h5 : Dv (Bd o (i + 1)) ((zY t o).getD i 0 * l.getD m 0) := by
           refine (g1.mul (Dv.of_den (q := l.getD m 0))).mono ?_
           show _ ∣ Bd o i * pden (o i)
           rw [hoi]
           exact Nat.mul_dvd_mul (Nat.dvd_refl _) (zIB (List.mem_map.2 ⟨_, zAl 0 (by omega), rfl⟩))
         have h6 := zGu o (i := i + 1) (j - (i + 1))
         rw [show i + 1 + (j - (i + 1)) = j by omega] at h6
         exact h5.mono h6
       · have h7 := Rat.mul_le_mul_of_nonneg_left q2 g2
         rw [Rat.mul_one] at h7
         exact Rat.le_trans h7 g3
theorem Bd_w {t : zT} {o : zw} {d : Nat} (ho : OddsW t o d) : ∀ i, i ≤ t.length → Bd o i ≤ 10 ^ (d * ((t.take i).flatMap TNode.next).length)
 | 0, _ => by simp [Bd]
 | i + 1, hi => by
   have ih := Bd_w ho i (by omega)
   have hi' : i < t.length := by omega
   have hp : pden (o i) ≤ 10 ^ (d * (t.getD i node0).next.length) := by
     cases hoi : o i with
     | none => exact Nat.pow_pos (by decide)
     | some l =>
       obtain ⟨l2, l4⟩ := ho.some i hi' l hoi
       rw [← l2]
       have := zJQ (l := l.map Rat.den) (d := d) (fun x hx => by
         obtain ⟨q, hq, rfl⟩ := List.mem_map.1 hx
         exact Nat.le_of_lt (l4 q hq).2.2.2)
       rwa [List.length_map] at this
   rw [Bd, List.take_succ_eq_append_getElem hi', List.flatMap_append, List.length_append, Nat.mul_add, Nat.pow_add]
   refine Nat.mul_le_mul ih ?_
   rw [zAp node0 hi'] at hp
   simpa using hp
theorem zFF {t : zT} (h : Valid t) {o : zw} {d : Nat} (ho : OddsW t o d) (hn : t.length ≤ 40) {j : Nat} (hj : j < t.length) : D (d * 40 + 1) ((zY t o).getD j 0) := by
 obtain ⟨g1, g2, g3⟩ := zN0 h ho j hj
 have h6 := zGu o (i := j) (t.length - j)
 rw [show j + (t.length - j) = t.length by omega] at h6
 have h7 := Bd_w ho t.length (Nat.le_refl _)
 rw [List.take_length] at h7
 have h8 := zI0 h
 have h9 : d * (t.flatMap TNode.next).length ≤ d * 40 := Nat.mul_le_mul_left _ (by omega)
 have h10 : 10 ^ (d * (t.flatMap TNode.next).length) ≤ 10 ^ (d * 40) := Nat.pow_le_pow_right (by decide) h9
 have h11 : 0 < 10 ^ (d * 40) := Nat.pow_pos (by decide)
 have hpos := zLD o t.length
 refine unit_D (g1.mono h6) (by omega) g2 g3 ?_
 rw [Nat.pow_succ]
 omega
theorem zLH {l : List Rat} (hs : zAu 0 l = 1) (h0 : ∀ q ∈ l, 0 ≤ q) : ∀ q ∈ l, q ≤ 1 := by
 have key : ∀ (l : List Rat) (x : Rat), (∀ q ∈ l, 0 ≤ q) → x ∈ l → x ≤ zAu 0 l := by
   intro l
   induction l with
   | nil => intro x _ hx; simp at hx
   | cons a r ihl =>
     intro x hq hx
     rw [zAu, zCQ, Rat.zero_add]
     have ha := hq a (by simp)
     have hr := zNt r 0 (fun y hy => hq y (by simp [hy]))
     rcases List.mem_cons.1 hx with rfl | hx
     · have := (Rat.add_le_add_left (c := x)).2 hr
       rwa [Rat.add_zero] at this
     · have h1 := ihl x (fun q hq' => hq q (by simp [hq'])) hx
       have := (Rat.add_le_add_right (c := zAu 0 r)).2 ha
       rw [Rat.zero_add] at this
       exact Rat.le_trans h1 this
 intro q hq
 rw [← hs]
 exact key l q h0 hq
theorem OddsAll.w {t : zT} {o : zw} {d : Nat} (h : OddsAll t o d) : OddsW t o d := by
 refine ⟨fun i hi l hl => ?_⟩
 by_cases hk : (t.getD i node0).kind = 0
 · rw [h.none i hi hk] at hl; cases hl
 · obtain ⟨l', h1, h2, h3, h4⟩ := h.at' i hi hk
   rw [hl] at h1
   obtain rfl := Option.some.inj h1
   have := zLH h3 (fun q hq => (h4 q hq).1)
   exact ⟨h2, fun q hq => ⟨(h4 q hq).1, this q hq, (h4 q hq).2⟩⟩
theorem one_w {t : zT} (hv : Valid t) (hm : Modest t) {p : Int} {u : Int → List Rat} (hp : p = 0 ∨ p = 1) (hu : Strat t (1 - p) u 12) : OddsW t (zGg t p u) 12 := by
 refine ⟨fun i hi l hl => ?_⟩
 unfold zGg at hl
 by_cases h1 : (t.getD i node0).kind = 1
 · rw [if_pos h1] at hl
   obtain rfl := Option.some.inj hl
   obtain ⟨c1, c2, c3⟩ := hm.chance hv hi h1
   have := zLH c2 (fun q hq => (c3 q hq).1)
   exact ⟨c1, fun q hq => ⟨(c3 q hq).1, this q hq, (c3 q hq).2⟩⟩
 · rw [if_neg h1] at hl
   by_cases h2 : (t.getD i node0).kind = 2
   · rw [if_pos h2] at hl
     by_cases h3 : (t.getD i node0).player = p
     · rw [if_pos h3] at hl; cases hl
     · rw [if_neg h3] at hl
       obtain rfl := Option.some.inj hl
       obtain ⟨c1, c2, c3⟩ := hu.node hv hi h2 (by have := zCV hv hi h2; omega)
       have := zLH c2 (fun q hq => (c3 q hq).1)
       exact ⟨c1, fun q hq => ⟨(c3 q hq).1, this q hq, (c3 q hq).2⟩⟩
   · rw [if_neg h2] at hl; cases hl
theorem zMz {t : zT} (hv : Valid t) (hm : Modest t) {a b : Int → List Rat} (ha : Strat t 0 a 12) (hb : Strat t 1 b 12) : OddsW t (zCt t a b) 12 := (zGL hv hm ha hb).w
/-- the ends before a node -/
def zAq (t : zT) (i : Nat) : List Int := ((List.range i).filter (fun j => decide ((t.getD j node0).kind = 0))).map (fun j : Nat => (j : Int))
theorem zIr (t : zT) (i : Nat) : zAq t (i + 1) = if (t.getD i node0).kind = 0 then zAq t i ++ [(i : Int)] else zAq t i := by
 unfold zAq
 rw [List.range_succ, List.filter_append, List.map_append]
 by_cases h : (t.getD i node0).kind = 0
 · rw [if_pos h, List.filter_cons_of_pos (by simpa using h)]; rfl
 · rw [if_neg h, List.filter_cons_of_neg (by simpa using h)]; simp
theorem zGV (t : zT) : ∀ i, (zAq t i).length ≤ i
 | 0 => Nat.le_refl _
 | i + 1 => by
   have := zGV t i
   rw [zIr]
   split
   · rw [List.length_append]; show _ + 1 ≤ _; omega
   · omega
theorem zHu (t : zT) : zAq t t.length = (zx t).map (fun j : Nat => (j : Int)) := rfl
theorem zKP (t : zT) {k : Nat} (hk : k < (zx t).length) : (zAq t t.length).getD k 0 = (((zx t).getD k 0 : Nat) : Int) := by
 rw [zHu, zDb _ _ 0 _ _ hk]
/-- the sum so far -/
def zJs (t : zT) (o : zw) (k : Nat) : Rat := zAu 0 (((zx t).take k).map (zEn t (zY t o)))
theorem zPx (t : zT) (o : zw) {k : Nat} (hk : k < (zx t).length) : zJs t o (k + 1) = zJs t o k + zEn t (zY t o) ((zx t).getD k 0) := by
 unfold zJs
 rw [List.take_succ_eq_append_getElem hk, List.map_append, List.map_singleton, zHw, zAp 0 hk]
theorem valK_all (t : zT) (o : zw) : zJs t o (zx t).length = zA0 t o := by
 unfold zJs zA0; rw [List.take_length]
end Go.Ax.Rt
namespace Go.Proofs.YtnkealfaldjipaaGreatDoor
open Go.Ax Go.Ax.Bg Go.Ax.Rt Go.RowKit Go.Ax.Idx Go.Ax.Cd
attribute [local irreducible] Ax zAM QOp zM zq
set_option maxRecDepth 100000
set_option maxHeartbeats 4000000
theorem zOJ {t : zT} (hv : Valid t) (hlen : t.length ≤ 40) {o : zw} (ho : OddsW t o 12) (hc : ∀ i, i < t.length → (t.getD i node0).kind = 1 → o i = some ((t.getD i node0).odds.map zAQ)) (he : ∀ i, i < t.length → (t.getD i node0).kind = 0 → o i = none) : OddsG t o := by
 refine ⟨hc, he, fun i hi l hl => ?_, fun j hj => zFy ((zFF hv ho hlen hj).mono (by decide))⟩
 obtain ⟨h1, h2⟩ := ho.some i hi l hl
 have hk : (t.getD i node0).kind ≠ 0 := fun e => by rw [he i hi e] at hl; cases hl
 have hn : 1 ≤ (t.getD i node0).next.length ∧ (t.getD i node0).next.length ≤ 6 := by
   rcases hv.child hi with h | h
   · exact absurd h.1 hk
   · exact ⟨(zCM h.2).1, (zCM h.2).2.1⟩
 exact ⟨by omega, by omega, by omega, fun q hq => zFy ((h2 q hq).2.2.mono (by decide))⟩
theorem zOm (t : zT) (hlen : t.length ≤ 1000000) : zV Tryz.prog 135 [.ro (zd t) 0 t.length] (.ro (.ints .i64 (zAq t t.length)) 0 (zAq t t.length).length) := by
 refine zM.value0 (zG (P := Tryz.prog) (fn := Tryz.f135) rfl rfl (by kernel_rfl) rfl (fun c hR hfix => ?_)) (fix := fun _ => False) (fun _ h => h) rfl rfl
 repeat (first | refine zB (zH rfl) ?_ | refine zB (zK rfl) ?_ | refine zC ?_ | refine zA ?_ | refine zX ?_ | refine zJ rfl ?_ | refine zB (zBN rfl rfl rfl) ?_)
 refine zBq 3 ⟨3, .ints .i64 []⟩ rfl rfl ?_
 repeat (refine zAA ?_)
 refine zk (ι := Nat) (fun i => [(3, .sl 0 0 (zAq t i).length), (6, .ro (zd t) 0 t.length), (7, .int .i64 (t.length : Nat)), (8, .int .i64 (i : Nat))]) (fun i => [some ⟨3, .ints .i64 (zAq t i)⟩])
   (fun i => i ≤ t.length) (fun i => t.length - i) 0 ⟨⟨rfl, rfl, rfl, rfl, trivial⟩, rfl, Nat.zero_le _⟩ ?_
 intro i hi
 refine rn4 ?_
 refine zF rfl (fun h => ?_) (fun h => ?_)
 · have hi' : i < t.length := by omega
   have hsn := zIr t i
   have hel := zGV t i
   generalize hI2 : zAq t (i + 1) = I2 at *
   generalize zAq t i = I at *
   refine rn6 ?_
   refine zL 12 (.agg (zBY (t.getD i node0))) rfl (AEq.of_eq rfl) ?_
   generalize t.getD i node0 = n at *
   obtain ⟨kd, pl, nf, nx, od, py⟩ := n
   simp only at *
   refine zR (c' := .box [.int .i64 kd, .int .i64 pl, .int .i64 nf, .ro (.ints .i64 nx) 0 nx.length, .ro (.strs od) 0 od.length, .str py]) rfl rfl rfl rfl rfl Nat.zero_lt_one rfl rfl (fun i' j' hi' hj' => ?_) ?_
   · rw [if_pos (Nat.lt_one_iff.1 hi')]; rfl
   refine zAn [some ⟨3, .ints .i64 I⟩, some ⟨40, .box [.int .i64 kd, .int .i64 pl, .int .i64 nf, .ro (.ints .i64 nx) 0 nx.length, .ro (.strs od) 0 od.length, .str py]⟩] rfl ?_
   refine zL 5 (.ptr 1 0 0) rfl (AEq.of_eq rfl) ?_
   refine rn5 ?_
   refine zF rfl (fun h1 => ?_) (fun h1 => ?_)
   · rw [if_pos h1] at hsn
     refine rn3 ?_
     refine zo rfl rfl rfl rfl rfl rfl rfl rfl rfl rfl rfl rfl (by show 0 + 1 ≤ 1; omega) rfl (by show (I.length + 1) * 8 ≤ _ ∧ _; omega) (fun i j _ _ => rfl) (by rw [hfix]; exact fun h => h) ?_
     repeat (first | refine zB (zK rfl) ?_ | refine zC ?_ | refine zj ?_)
     refine zA ?_
     refine zAz [some ⟨3, .ints .i64 (I ++ [(i : Int)])⟩] [some ⟨40, .box [.int .i64 kd, .int .i64 pl, .int .i64 nf, .ro (.ints .i64 nx) 0 nx.length, .ro (.strs od) 0 od.length, .str py]⟩] [(3, .sl 0 0 (I.length + 1)), (6, .ro (zd t) 0 t.length), (7, .int .i64 (t.length : Nat)), (8, .int .i64 (i : Nat))] rfl ⟨rfl, rfl, rfl, rfl, trivial⟩ (fun h hh => by rw [hfix] at hh; exact absurd hh id) (zDN (zCl _ _ _)) rfl ?_
     refine rn3 ?_
     exact zP ⟨i + 1, by omega, by omega, ⟨by rw [hI2, hsn, List.length_append]; rfl, rfl, rfl, rfl, trivial⟩, by rw [hI2, hsn]⟩
   · rw [if_neg h1] at hsn
     repeat (first | refine zj ?_ | refine zn ?_)
     refine zA ?_
     refine zAz [some ⟨3, .ints .i64 I⟩] [some ⟨40, .box [.int .i64 kd, .int .i64 pl, .int .i64 nf, .ro (.ints .i64 nx) 0 nx.length, .ro (.strs od) 0 od.length, .str py]⟩] [(3, .sl 0 0 I.length), (6, .ro (zd t) 0 t.length), (7, .int .i64 (t.length : Nat)), (8, .int .i64 (i : Nat))] rfl ⟨rfl, rfl, rfl, rfl, trivial⟩ (fun h hh => by rw [hfix] at hh; exact absurd hh id) (zDN (zCl _ _ _)) rfl ?_
     refine rn3 ?_
     exact zP ⟨i + 1, by omega, by omega, ⟨by rw [hI2, hsn]; rfl, rfl, rfl, rfl, trivial⟩, by rw [hI2, hsn]⟩
 · have hie : i = t.length := by omega
   subst hie
   repeat (first | refine zA ?_ | refine zX ?_ | refine zA3 ?_ | refine z8 ?_ | refine z7 ?_ | refine zAS ?_)
   refine zBE 0 3 (zAq t t.length).length [] rfl zAO rfl (by show (zAq t t.length).length ≤ (zAq t t.length).length; exact Nat.le_refl _) trivial ?_
   refine rn0 ?_
   exact zI hR rfl rfl
abbrev zDI (s : zAY) : AV := .rom (s.map keyC) (s.map valC)
theorem zKF (n : TNode) (a b : zAY) (hp : n.player = 0 ∨ n.player = 1) (c : TChoice) (hc : c ∈ (if n.player = 0 then a else b)) (hi : c.info = n.info) : zV Tryz.prog 141 [.agg (zBY n), .rp (.box [zDI a, zDI b]) 0 0] (.ro (qsC (c.odds.map zAQ)) 0 (c.odds.map zAQ).length) := by
 obtain ⟨jj, i1, i2⟩ := zJ9 hc
 rw [hi] at i1
 obtain ⟨kd, pl, nf, nx, od, py⟩ := n
 simp only at *
 refine zM.value0 (zG (P := Tryz.prog) (fn := Tryz.f141) rfl rfl (by kernel_rfl) rfl (fun c hR hfix => ?_)) (fix := fun _ => False) (fun _ h => h) rfl rfl
 unfold zBY
 simp only
 refine rn6 ?_
 refine zl (by kernel_rfl) ?_
 rcases hp with hp | hp
 · subst hp
   rw [if_pos rfl] at i1 i2
   refine zz (fuel := 0) [0, 1, 2, 3, 4, 5, 6, 7] [(1, .rp (.box [zDI a, zDI b]) 0 0), (2, .ptr 0 0 0)] ⟨rfl, rfl, trivial⟩ (by kernel_rfl) (by decide) rfl rfl ?_
   refine zW rfl rfl (zO rfl rfl rfl rfl rfl rfl) ?_
   refine zW rfl rfl (zS rfl rfl rfl rfl rfl) ?_
   refine zW rfl rfl (zGI rfl rfl rfl rfl (by first | (simp only [Nat.zero_add, Int.toNat_natCast]; exact rfl) | exact rfl) (by omega)) ?_
   refine zW rfl rfl (zAe rfl rfl rfl rfl) ?_
   refine zW rfl rfl (zO rfl rfl rfl rfl rfl rfl) ?_
   refine zW rfl rfl (zS rfl rfl rfl rfl rfl) ?_
   refine zW rfl rfl (zBU rfl (.int rfl) rfl rfl rfl rfl (keysC a) jj i1 i2) ?_
   refine zW rfl rfl (zK rfl) ?_
   refine zAg ?_
   refine zi (by kernel_rfl) ?_
   refine rn0 ?_
   exact zI hR rfl rfl
 · subst hp
   rw [if_neg (by decide)] at i1 i2
   refine zz (fuel := 0) [0, 1, 2, 3, 4, 5, 6, 7] [(1, .rp (.box [zDI a, zDI b]) 0 0), (2, .ptr 0 0 0)] ⟨rfl, rfl, trivial⟩ (by kernel_rfl) (by decide) rfl rfl ?_
   refine zW rfl rfl (zO rfl rfl rfl rfl rfl rfl) ?_
   refine zW rfl rfl (zS rfl rfl rfl rfl rfl) ?_
   refine zW rfl rfl (zGI rfl rfl rfl rfl (by first | (simp only [Nat.zero_add, Int.toNat_natCast]; exact rfl) | exact rfl) (by omega)) ?_
   refine zW rfl rfl (zAe rfl rfl rfl rfl) ?_
   refine zW rfl rfl (zO rfl rfl rfl rfl rfl rfl) ?_
   refine zW rfl rfl (zS rfl rfl rfl rfl rfl) ?_
   refine zW rfl rfl (zBU rfl (.int rfl) rfl rfl rfl rfl (keysC b) jj i1 i2) ?_
   refine zW rfl rfl (zK rfl) ?_
   refine zAg ?_
   refine zi (by kernel_rfl) ?_
   refine rn0 ?_
   exact zI hR rfl rfl
end Go.Proofs.YtnkealfaldjipaaGreatDoor
namespace Go.Ax
variable [Pins]
open Go.RowKit
def sclM (x : Value) : Option AV := match x with
 | .map none => some .any
 | v => scl v
theorem vr_sclM {w : World} {S : Nat → Prop} {σ : Nat → Option Blk} {x : Value} {v : AV} (h : sclM x = some v) : VR w S σ v x ∧ x.oneCell' = true := by
 unfold sclM at h
 split at h
 · cases h; exact ⟨.any _ _, rfl⟩
 · exact zLK h
def zavM (v : Value) : Option (List AV) := v.cells.toList.mapM fun x => sclM x
theorem zKY {w : World} {S : Nat → Prop} {σ : Nat → Option Blk} {z : Value} {zs : List AV} (h : zavM z = some zs) : z.cells.size = zs.length ∧ ∀ j, j < zs.length → VR w S σ (zs.getD j .any) (z.cells.getD j undef) ∧ (z.cells.getD j undef).oneCell' = true := by
 unfold zavM at h
 have key : ∀ (l : List Value) (zs : List AV), l.mapM (fun x => sclM x) = some zs → l.length = zs.length ∧ ∀ j, j < zs.length → VR w S σ (zs.getD j .any) (l.getD j undef) ∧ (l.getD j undef).oneCell' = true := by
   intro l
   induction l with
   | nil => intro zs h; simp at h; subst h; exact ⟨rfl, fun j hj => by simp at hj⟩
   | cons x r ih =>
     intro zs h
     simp only [List.mapM_cons] at h
     cases h1 : sclM x with
     | none => simp [h1] at h
     | some y =>
       cases h2 : r.mapM (fun x => sclM x) with
       | none => simp [h1, h2] at h
       | some ys =>
         simp [h1, h2] at h
         subst h
         obtain ⟨i1, i2⟩ := ih ys h2
         refine ⟨by simp [i1], fun j hj => ?_⟩
         cases j with
         | zero => exact vr_sclM h1
         | succ j => simpa using i2 j (by simpa using hj)
 obtain ⟨k1, k2⟩ := key _ _ h
 refine ⟨by simpa using k1, fun j hj => ?_⟩
 have := k2 j hj
 have e : z.cells.toList.getD j undef = z.cells.getD j undef := by
   have hlt : j < z.cells.size := by simp at k1; omega
   simp [List.getD, Array.getD, hlt]
 rwa [e] at this
section
variable {P : Program} {fn : Func} {c : Ctx} {fr : Fr} {H : zQ} {k : List It}
/-- A struct's or an array's value. -/
theorem q_buildM {ind : Bool} {d : Option Nat} {ty : TypeId} {pos : String} {after : Array Edge} {g : Option (Nat × Bool)} {t : TypeId} {parts : List (Nat × Operand)} {it : TypeInfo} {z : Value} {zs L : List AV} {l : List (Nat × AV)} {pl : Nat → Option (Nat × Nat)}
   (hi : P.info? t = some it) (hz : it.zero = some z) (hzs : zavM z = some zs) (hpl : zHg P t = some pl) (hl : zDV fr parts = some l) (hf : zFk pl zs l = some L) :
   QOp ind P fn c fr H ⟨d, .build t parts.toArray, ty, pos, after, g⟩ (.agg L) := by
 intro w a σ S hr
 obtain ⟨y1, y2⟩ := zKY (w := w) (S := S) (σ := σ) hzs
 obtain ⟨cs', g1, g2⟩ := zGb l _ z.cells zs L ⟨y1, y2⟩ (zDv hr parts l hl) hf
 refine ⟨.agg cs', .agg _ _ _ g2.1 (fun i hi => (g2.2 i hi).1) (fun i hi => (g2.2 i hi).2), fun w' _ => ?_⟩
 have hb : P.built t ((parts.toArray.map fun (i, x) => (i, a.eval x)).toList) = some cs' := by
   have e : (parts.toArray.map fun (i, x) => (i, a.eval x)).toList = parts.map fun (i, x) => (i, a.eval x) := by simp
   rw [e]
   unfold zHg at hpl
   unfold Program.built
   cases hu : P.underlying t with
   | none => simp [hu] at hpl
   | some u =>
     cases u with
     | array nn e' =>
       simp only [hu] at hpl
       cases he : P.info? e' with
       | none => simp [he] at hpl
       | some ie =>
         simp only [he, Option.some.injEq] at hpl
         subst hpl
         simp only [hi, hz, he]
         exact g1
     | struct fields =>
       simp only [hu] at hpl
       cases he : fields.toList.mapM (fun f => (P.info? f.type).map fun i => (f.offset, i.size)) with
       | none => simp [he] at hpl
       | some places =>
         simp only [he, Option.some.injEq] at hpl
         subst hpl
         simp only [hi, hz, he]
         exact g1
     | _ => simp [hu] at hpl
 have hrun := run_build (P := P) w' t (parts.toArray.map fun (i, x) => (i, a.eval x)) cs' hb
 simp only [execOp, Sem.run_bind, hrun, Result.andThen_ok]
 rfl
theorem zKW {all : Array Oper} {d : Nat} {t : TypeId} {ty : TypeId} {pos : String} {after : Array Edge} {rest : List Oper} {inf : TypeInfo} {z : Value} {zs : List AV}
   (hi : P.info? t = some inf) (hz : inf.zero = some z) (hzs : zavM z = some zs)
   (hk : Ax P fn c (.ops false all rest k) ((d, .ptr H.length 0 0) :: fr) (H ++ [some ⟨t, .box zs⟩])) : Ax P fn c (.ops false all (⟨some d, .alloc t, ty, pos, after, none⟩ :: rest) k) fr H := by
 refine ax_w (fun w a σ S hr => ?_) hk
 have ha : Arr w S σ z.cells zs := zKY hzs
 have hrun : (execOp a.eval ⟨some d, .alloc t, ty, pos, after, none⟩).run P w = .ok (.value (.pointer (some ⟨w.heap.size, 0, none⟩))) (w.alloc (.cells z.cells t (0, 0))) := by
   simp [execOp, Instr.alloc, newVar, newRow, zeroValue, typeInfo, hi, hz]
 refine ⟨_, _, _, S, hrun, hr.alloc (o := ⟨t, .box zs⟩) (C := 1) (cur := z.cells) (Nat.le_refl _) (by unfold maxLen; omega) (by simp [Cells.sz, ha.1]) (zHr ha), ?_⟩
 have := VR.ptr (w := w.alloc (.cells z.cells t (0, 0))) (S := S) (upσ σ H.length (.at w.heap.size (Cells.box zs).sz 1)) H.length 0 0 w.heap.size (Cells.box zs).sz 1 (by simp [upσ])
 simpa using this
end
end Go.Ax
namespace Go.Proofs.YtnkealfaldjipaaGreatDoor
open Go.Ax Go.Ax.Bg Go.Ax.Rt Go.RowKit Go.Ax.Idx Go.Ax.Cd
attribute [local irreducible] Ax zAM QOp zM zq
set_option maxRecDepth 100000
set_option maxHeartbeats 4000000
structure StrS (t : zT) (p : Int) (s : zAY) : Prop where
 short : ShortS s
 ok : OkS t p s
 dig : ∀ c ∈ s, ∀ r ∈ c.odds, r.length ≤ 12
theorem StrS.nd {t : zT} {p : Int} {s : zAY} (h : StrS t p s) : (s.map TChoice.info).Nodup := by rw [h.ok.infos]; exact zEX t p
theorem StrS.str {t : zT} {p : Int} {s : zAY} (h : StrS t p s) : Strat t p (zDh s) 12 := h.ok.strat12 h.dig
theorem StrS.call {t : zT} {p : Int} {s : zAY} (h : StrS t p s) : zV Tryz.prog 132 [.ro (zAV s) 0 s.length] (zDI s) :=
 odds_ok' s h.short h.nd (fun c hc => ⟨(zDy (h.ok.odds c hc)).1, (zDy (h.ok.odds c hc)).2.1⟩)
theorem StrS.node {t : zT} {p : Int} {s : zAY} (h : StrS t p s) (hv : Valid t) {i : Nat} (hi : i < t.length) (hk : (t.getD i node0).kind = 2) (hp : (t.getD i node0).player = p) : ∃ c ∈ s, c.info = (t.getD i node0).info ∧ zDh s (t.getD i node0).info = c.odds.map zAQ := by
 have hs : zAx p (t.getD i node0).info (t.getD i node0) = true := by
   unfold zAx
   rw [zEg.2 ⟨hk, hp⟩, decide_eq_true rfl]; rfl
 obtain ⟨c, c1, c2, c3, _⟩ := h.ok.at' ((zBA hv).2 ⟨i, hi, hs⟩)
 exact ⟨c, c1, c2, c3⟩
def zAt (t : zT) (a b : zAY) : zw := zCt t (zDh a) (zDh b)
theorem playS_G {t : zT} (hv : Valid t) (hm : Go.Ax.Rt.Modest t) {a b : zAY} (ha : StrS t 0 a) (hb : StrS t 1 b) : OddsG t (zAt t a b) :=
 zOJ hv hm.len (zMz hv hm ha.str hb.str) (fun i hi hk => by unfold zAt zCt; rw [if_pos hk]) (fun i hi hk => by unfold zAt zCt; rw [if_neg (by omega), if_neg (by omega)])
theorem zLW (a b : zAY) : z6 (.box [zDI a, zDI b]) := by
 intro i j _ hj
 have hj : j < 2 := hj
 match j, hj with
 | 0, _ => rfl
 | 1, _ => rfl
theorem zJ6 (t : zT) (a b : zAY) (hT : ShortT t) (hv : Valid t) (hm : Go.Ax.Rt.Modest t) (ha : StrS t 0 a) (hb : StrS t 1 b) :
   zV Tryz.prog 81 [.ro (zd t) 0 t.length, .ro (zAV a) 0 a.length, .ro (zAV b) 0 b.length] (.ro (qsC (zY t (zAt t a b))) 0 t.length) := by
 have h1 := zLm t (zAt t a b) 141 [.rp (.box [zDI a, zDI b]) 0 0] rfl rfl hT hv (playS_G hv hm ha hb) (fun i hi hk => by
   have hp := zCV hv hi hk
   rcases hp with hp | hp
   · obtain ⟨c, c1, c2, c3⟩ := ha.node hv hi hk hp
     have := zKF (t.getD i node0) a b (.inl hp) c (by rw [if_pos hp]; exact c1) c2
     have e : zAt t a b i = some (c.odds.map zAQ) := by unfold zAt zCt; rw [if_neg (by omega), if_pos hk, if_pos hp, c3]
     rw [e]; exact this
   · obtain ⟨c, c1, c2, c3⟩ := hb.node hv hi hk hp
     have := zKF (t.getD i node0) a b (.inr hp) c (by rw [if_neg (by omega)]; exact c1) c2
     have e : zAt t a b i = some (c.odds.map zAQ) := by unfold zAt zCt; rw [if_neg (by omega), if_pos hk, if_neg (by omega), c3]
     rw [e]; exact this)
 have ca := ha.call
 have cb := hb.call
 refine zM.value0 (zG (P := Tryz.prog) (fn := Tryz.f81) rfl rfl (by kernel_rfl) rfl (fun c hR hfix => ?_)) (fix := fun _ => False) (fun _ h => h) rfl rfl
 refine rn0 ?_
 refine zE rfl rfl rfl ca ?_
 repeat (refine zB (zH rfl) ?_)
 refine zE rfl rfl rfl cb ?_
 skip
 refine zB (q_buildM rfl rfl rfl rfl rfl rfl) ?_
 skip
 refine zKW rfl rfl rfl ?_
 skip
 refine zR (c' := .box [zDI a, zDI b]) rfl rfl rfl rfl rfl Nat.zero_lt_one rfl rfl (fun i' j' hi' hj' => ?_) ?_
 · rw [if_pos (Nat.lt_one_iff.1 hi')]; rfl
 repeat (first | refine zC ?_ | refine zA ?_ | refine zX ?_)
 refine zCh [some ⟨219, .box [zDI a, zDI b]⟩] rfl ?_
 refine ax_fzOne (o := ⟨219, .box [zDI a, zDI b]⟩) (v := .ptr 0 0 0) 7 [(0, .ro (zd t) 0 t.length)] (.rp (.box [zDI a, zDI b]) 0 0) (zLW a b) rfl rfl (fun o ho => by simp at ho; subst ho; exact Nat.zero_lt_one) rfl ⟨rfl, rfl, trivial⟩ ⟨rfl, trivial⟩ rfl (by rw [hfix]; exact fun h hh => hh) ?_
 repeat (first | refine zB (zH rfl) ?_ | refine zJ rfl ?_ | refine zB (zHK rfl) ?_)
 refine zE rfl rfl rfl h1 ?_
 refine rn0 ?_
 exact zI hR rfl rfl
theorem rof_ok (t : zT) (a b : zAY) (hT : ShortT t) (hv : Valid t) (hm : Go.Ax.Rt.Modest t) (ha : StrS t 0 a) (hb : StrS t 1 b) :
   zV Tryz.prog 77 [.ro (zd t) 0 t.length, .ro (zAV a) 0 a.length, .ro (zAV b) 0 b.length] (qA (zA0 t (zAt t a b))) := by
 have h1 := zJ6 t a b hT hv hm ha hb
 have hml := hm.len
 have h2 := zOm t (by omega)
 have hel := zGV t t.length
 have hw := zMz hv hm ha.str hb.str
 have hrl : (zY t (zAt t a b)).length = t.length := zCk t _ _
 refine zM.value0 (zG (P := Tryz.prog) (fn := Tryz.f77) rfl rfl (by kernel_rfl) rfl (fun c hR hfix => ?_)) (fix := fun _ => False) (fun _ h => h) rfl rfl
 refine rn4 ?_
 refine zE rfl rfl rfl h1 ?_
 refine rn0 ?_
 refine zE rfl rfl rfl zHh ?_
 repeat (refine zBK rfl rfl rfl ?_)
 refine zR (c' := .box (zAD 0)) rfl rfl rfl rfl rfl Nat.zero_lt_one rfl rfl (fun i' j' hi' hj' => ?_) ?_
 · rw [if_pos (Nat.lt_one_iff.1 hi')]; rfl
 refine rn0 ?_
 refine zE rfl rfl rfl h2 ?_
 refine rn3 ?_
 have hEl : (zAq t t.length).length = (zx t).length := by rw [zHu, List.length_map]
 refine zk (ι := Nat) (fun k => [(0, .ro (zd t) 0 t.length), (6, .ptr 0 0 0), (7, .ro (qsC (zY t (zAt t a b))) 0 t.length), (8, .ptr 1 0 0), (17, .ro (.ints .i64 (zAq t t.length)) 0 (zAq t t.length).length), (18, .int .i64 ((zAq t t.length).length : Nat)), (19, .int .i64 (k : Nat))]) (fun k => [some ⟨122, .box [.bool false, .nil, .nil]⟩, some ⟨122, .box (zAD (zJs t (zAt t a b) k))⟩])
   (fun k => k ≤ (zAq t t.length).length) (fun k => (zAq t t.length).length - k) 0 ⟨⟨rfl, rfl, rfl, rfl, rfl, rfl, rfl, trivial⟩, rfl, Nat.zero_le _⟩ ?_
 intro k hk
 refine rn4 ?_
 refine zF rfl (fun h => ?_) (fun h => ?_)
 · have hk' : k < (zx t).length := by omega
   have hi0 := zKP t hk'
   obtain ⟨i1, i2⟩ := zCv (zAl (l := zx t) 0 hk')
   have hsuc := zPx t (zAt t a b) hk'
   have hpay := zHn hv i1 i2
   have hpl := (hT.node _ (zAl node0 i1)).pay
   have cp := zE3 (t.getD ((zx t).getD k 0) node0).pay hpl hpay
   have dr := zFF hv hw hml i1
   have dp := (hm.pays hv).dig _ i1 i2
   have hsum : D (1 + k * 494) (zJs t (zAt t a b) k) := by
     unfold zJs
     refine (sumQ_Dk (k := 493) (l := ((zx t).take k).map (zEn t (zY t (zAt t a b)))) (fun q hq => ?_) (j := 1) (acc := 0) ⟨by decide, by decide⟩).mono ?_
     · obtain ⟨x, hx, rfl⟩ := List.mem_map.1 hq
       obtain ⟨x1, x2⟩ := zCv (List.mem_of_mem_take hx)
       exact ((zFF hv hw hml x1).mul ((hm.pays hv).dig _ x1 x2)).mono (by decide)
     · rw [List.length_map, List.length_take]
       have : min k (zx t).length * 494 ≤ k * 494 := Nat.mul_le_mul_right _ (Nat.min_le_left _ _)
       omega
   have cm := zK5 _ _ (zFy (dr.mono (show 12 * 40 + 1 ≤ 9 * 100000 by decide))) (zFy (dp.mono (by decide)))
   have hend : zEn t (zY t (zAt t a b)) ((zx t).getD k 0) = (zY t (zAt t a b)).getD ((zx t).getD k 0) 0 * zAQ (t.getD ((zx t).getD k 0) node0).pay := rfl
   have cm : zV Tryz.prog 105 [qA ((zY t (zAt t a b)).getD ((zx t).getD k 0) 0), qA (zAQ (t.getD ((zx t).getD k 0) node0).pay)] (qA (zEn t (zY t (zAt t a b)) ((zx t).getD k 0))) := cm
   have ca := zIf (zJs t (zAt t a b) k) (zEn t (zY t (zAt t a b)) ((zx t).getD k 0)) (zFy (hsum.mono (by omega))) (by
     rw [hend]; exact zFy ((dr.mul dp).mono (by decide)))
   rw [← hsuc] at ca
   have hdk : k < (zAq t t.length).length := by omega
   generalize hV2 : zJs t (zAt t a b) (k + 1) = V2 at *
   generalize zJs t (zAt t a b) k = V at *
   generalize hE : zEn t (zY t (zAt t a b)) ((zx t).getD k 0) = E at *
   generalize (zx t).getD k 0 = i at *
   repeat (first | refine zA ?_ | refine zX ?_ | refine zAA ?_ | refine zn ?_)
   refine zJ rfl ?_
   repeat (first | refine zB (zK rfl) ?_ | refine zB (zA8 rfl rfl rfl) ?_ | refine zC ?_ | refine zA ?_ | refine zB (zh rfl rfl rfl rfl (by first | (simp only [Nat.zero_add, Int.toNat_natCast, Int.toNat_zero]; exact rfl) | exact rfl) (by omega)) ?_)
   refine zAb 10 (.int .i64 (i : Nat)) rfl (AEq.of_eq (by rw [← hi0])) ?_
   skip
   refine zl (by kernel_rfl) ?_
   refine zz (fuel := 1) [0, 1, 2, 3, 4, 5, 6, 7, 8, 9, 10, 11, 12] [(10, .int .i64 (i : Nat)), (0, .ro (zd t) 0 t.length), (6, .ptr 0 0 0), (7, .ro (qsC (zY t (zAt t a b))) 0 t.length), (8, .ptr 1 0 0), (17, .ro (.ints .i64 (zAq t t.length)) 0 (zAq t t.length).length), (18, .int .i64 ((zAq t t.length).length : Nat)), (19, .int .i64 (k : Nat))] ⟨rfl, rfl, rfl, rfl, rfl, rfl, rfl, rfl, trivial⟩ (by kernel_rfl) (by decide) rfl rfl ?_
   refine zW rfl rfl (zr rfl rfl rfl rfl rfl rfl rfl (by first | exact Nat.zero_lt_one | assumption | omega)) ?_
   refine zW rfl rfl (zH rfl) ?_
   refine zW rfl rfl (zH rfl) ?_
   refine zW rfl rfl (zh rfl rfl rfl rfl (by first | (simp only [Nat.zero_add, Int.toNat_natCast, Int.toNat_zero]; exact rfl) | exact rfl) (by omega)) ?_
   refine zW rfl rfl (zCT rfl rfl rfl rfl rfl rfl) ?_
   refine zW rfl rfl (zH rfl) ?_
   refine zW rfl rfl (zH rfl) ?_
   refine zW rfl rfl (zh rfl rfl rfl rfl (by first | (simp only [Nat.zero_add, Int.toNat_natCast, Int.toNat_zero]; exact rfl) | exact rfl) (by omega)) ?_
   refine zW rfl rfl (zA7 rfl rfl rfl rfl rfl rfl) ?_
   refine zW rfl rfl (zCJ rfl rfl rfl rfl) ?_
   refine zCG rfl rfl rfl rfl rfl cp ?_
   refine zCG rfl rfl rfl rfl rfl cm ?_
   refine zCG rfl rfl rfl rfl rfl ca ?_
   refine zAg ?_
   refine zD (is := [13]) (by kernel_rfl) (by simp) rfl ⟨fun o ho => ?_, trivial⟩
   all_goals (cases ho)
   unfold qA
   refine zR (c' := .box (zAD V2)) rfl rfl rfl rfl rfl Nat.zero_lt_one rfl rfl (fun i' j' hi' hj' => ?_) ?_
   · rw [if_pos (Nat.lt_one_iff.1 hi')]; rfl
   refine rn1 ?_
   refine zi (by kernel_rfl) ?_
   refine rn5 ?_
   exact zP ⟨k + 1, by omega, by omega, ⟨rfl, rfl, rfl, rfl, rfl, rfl, rfl, trivial⟩, by rw [hV2]; rfl⟩
 · have hie : k = (zAq t t.length).length := by omega
   subst hie
   rw [hEl, valK_all]
   refine rn6 ?_
   refine zR (c' := .box (zAD (zA0 t (zAt t a b)))) rfl rfl rfl rfl rfl Nat.zero_lt_one rfl rfl (fun i' j' hi' hj' => ?_) ?_
   · rw [if_pos (Nat.lt_one_iff.1 hi')]; rfl
   refine rn0 ?_
   exact zI hR rfl rfl
end Go.Proofs.YtnkealfaldjipaaGreatDoor
namespace Go.Proofs.YtnkealfaldjipaaGreatDoor
open Go.Ax Go.Ax.Bg Go.Ax.Rt Go.RowKit Go.Ax.Idx Go.Ax.Cd
attribute [local irreducible] Ax zAM QOp zM zq
set_option maxRecDepth 100000
set_option maxHeartbeats 4000000
def zC4 (t : zT) (a b : zAY) : Int := if zE8 t ≠ 0 then zE8 t else if zBn t 0 a ≠ 0 then zBn t 0 a else zBn t 1 b
theorem zIK {t : zT} {a b : zAY} (h : zC4 t a b = 0) : Valid t ∧ zBn t 0 a = 0 ∧ zBn t 1 b = 0 := by
 unfold zC4 at h
 by_cases h1 : zE8 t ≠ 0
 · rw [if_pos h1] at h; exact absurd h h1
 · rw [if_neg h1] at h
   by_cases h2 : zBn t 0 a ≠ 0
   · rw [if_pos h2] at h; exact absurd h h2
   · rw [if_neg h2] at h
     exact ⟨zI1 (Classical.not_not.1 h1), Classical.not_not.1 h2, h⟩
theorem zG6 (t : zT) (a b : zAY) (hT : ShortT t) (ha : ShortS a) (hb : ShortS b) : zV Tryz.prog 63 [.ro (zd t) 0 t.length, .ro (zAV a) 0 a.length, .ro (zAV b) 0 b.length] (.int .i64 (zC4 t a b)) := by
 have c1 := zKG t hT
 have c2 := zFr t 0 a hT.len ha
 have c3 := zFr t 1 b hT.len hb
 refine zM.value0 (zG (P := Tryz.prog) (fn := Tryz.f63) rfl rfl (by kernel_rfl) rfl (fun c hR hfix => ?_)) (fix := fun _ => False) (fun _ h => h) rfl rfl
 unfold zC4 at hR
 generalize zE8 t = e1 at *
 generalize zBn t 0 a = e2 at *
 generalize zBn t 1 b = e3 at *
 refine rn0 ?_
 refine zE rfl rfl rfl c1 ?_
 refine rn3 ?_
 refine zF rfl (fun h1 => ?_) (fun h1 => ?_)
 · rw [if_pos h1] at hR
   refine rn2 ?_
   exact zI hR rfl rfl
 rw [if_neg h1] at hR
 refine rn1 ?_
 refine zE rfl rfl rfl c2 ?_
 refine rn3 ?_
 refine zF rfl (fun h2 => ?_) (fun h2 => ?_)
 · rw [if_pos h2] at hR
   refine rn2 ?_
   exact zI hR rfl rfl
 rw [if_neg h2] at hR
 refine rn1 ?_
 refine zE rfl rfl rfl c3 ?_
 refine rn0 ?_
 exact zI hR rfl rfl
/-- few nodes, short texts -/
structure Small (t : zT) (a : List zAY) : Prop where
 sh : ShortT t
 m : Go.Ax.Rt.Modest t
 s : ∀ x ∈ a, ShortS x
 d : ∀ x ∈ a, ∀ c ∈ x, ∀ r ∈ c.odds, r.length ≤ 12
theorem Small.str {t : zT} {l : List zAY} (h : Small t l) {s : zAY} (hs : s ∈ l) {p : Int} (he : zBn t p s = 0) : StrS t p s := ⟨h.s s hs, zI5 he, h.d s hs⟩
def zFq (t : zT) (a b : zAY) : zAK × Int := if zC4 t a b ≠ 0 then ([], zC4 t a b) else zDm (zA0 t (zAt t a b))
def zHO (t : zT) (a b : zAY) : List zAK × Int := if zC4 t a b ≠ 0 then ([], zC4 t a b) else zBD (zY t (zAt t a b))
theorem zHq (t : zT) (a b : zAY) (h : Small t [a, b]) : zV Tryz.prog 19 [.ro (zd t) 0 t.length, .ro (zAV a) 0 a.length, .ro (zAV b) 0 b.length] (zHP (zFq t a b)) := by
 have c1 := zG6 t a b h.sh (h.s a (by simp)) (h.s b (by simp))
 refine zM.value0 (zG (P := Tryz.prog) (fn := Tryz.f19) rfl rfl (by kernel_rfl) rfl (fun c hR hfix => ?_)) (fix := fun _ => False) (fun _ h => h) rfl rfl
 unfold zFq at hR
 refine rn0 ?_
 refine zE rfl rfl rfl c1 ?_
 refine rn3 ?_
 refine zF rfl (fun h1 => ?_) (fun h1 => ?_)
 · rw [if_pos h1] at hR
   refine rn2 ?_
   exact zI hR rfl rfl
 rw [if_neg h1] at hR
 obtain ⟨hv, ea, eb⟩ := zIK (Classical.not_not.1 h1)
 have sa := h.str (s := a) (by simp) ea
 have sb := h.str (s := b) (by simp) eb
 have c2 := rof_ok t a b h.sh hv h.m sa sb
 have c3 := zMu (zA0 t (zAt t a b)) (zFy ((zIk hv (zGL hv h.m sa.str sb.str) h.m.len (h.m.pays hv)).mono (show 974 ≤ 9 * 100000 by decide)))
 generalize zA0 t (zAt t a b) = q at *
 refine rn1 ?_
 refine zE rfl rfl rfl c2 ?_
 skip
 refine zE rfl rfl rfl c3 ?_
 refine rn2 ?_
 exact zI hR rfl rfl
theorem rodds_ok (t : zT) (a b : zAY) (h : Small t [a, b]) : zV Tryz.prog 21 [.ro (zd t) 0 t.length, .ro (zAV a) 0 a.length, .ro (zAV b) 0 b.length] (vecP (zHO t a b)) := by
 have c1 := zG6 t a b h.sh (h.s a (by simp)) (h.s b (by simp))
 refine zM.value0 (zG (P := Tryz.prog) (fn := Tryz.f21) rfl rfl (by kernel_rfl) rfl (fun c hR hfix => ?_)) (fix := fun _ => False) (fun _ h => h) rfl rfl
 unfold zHO at hR
 refine rn0 ?_
 refine zE rfl rfl rfl c1 ?_
 refine rn3 ?_
 refine zF rfl (fun h1 => ?_) (fun h1 => ?_)
 · rw [if_pos h1] at hR
   repeat (first | refine zB (zH rfl) ?_ | refine zB (zK rfl) ?_ | refine zC ?_ | refine zA ?_ | refine zX ?_ | refine zJ rfl ?_)
   refine zAb 6 (.ro (.strs []) 0 0) rfl AEq.nil ?_
   refine rn2 ?_
   exact zI hR rfl rfl
 rw [if_neg h1] at hR
 obtain ⟨hv, ea, eb⟩ := zIK (Classical.not_not.1 h1)
 have sa := h.str (s := a) (by simp) ea
 have sb := h.str (s := b) (by simp) eb
 have hml := h.m.len
 have c2 := zJ6 t a b h.sh hv h.m sa sb
 have hrl : (zY t (zAt t a b)).length = t.length := zCk t _ _
 obtain ⟨r, c3, hrq⟩ := zO5 (zY t (zAt t a b)) (by omega) (fun q hq => by
   obtain ⟨i, hi, rfl⟩ := List.getElem_of_mem hq
   have := zFF hv (zMz hv h.m sa.str sb.str) hml (j := i) (by omega)
   have e : (zY t (zAt t a b)).getD i 0 = (zY t (zAt t a b))[i] := zAp 0 hi
   rw [← e]
   exact zFy (this.mono (by decide)))
 rw [hrl] at c3
 generalize zY t (zAt t a b) = R at *
 refine rn1 ?_
 refine zE rfl rfl rfl c2 ?_
 skip
 refine zE rfl rfl rfl c3 ?_
 repeat (first | refine zB (zK rfl) ?_ | refine zC ?_ | refine zA ?_ | refine zB (zCY rfl rfl) ?_)
 refine zAb 6 (.ro (.strs (zBD R).1) 0 (zBD R).1.length) rfl hrq ?_
 repeat (refine zAH ?_)
 exact zI hR rfl rfl
end Go.Proofs.YtnkealfaldjipaaGreatDoor
namespace Go.Ax
variable [Pins]
open Go.RowKit
/-- What a memory and a value become, once the objects of HF are only read. -/
structure Fzd (HF H0 H' : zQ) (r0 r' : AV) : Prop where
 sub : subH HF H0
 rl : ∀ (h : Nat) (o : AObj), HF[h]? = some (some o) → z6 o.c
 len : H'.length = H0.length
 new : ∀ (h : Nat) (o' : AObj), H'[h]? = some (some o') → (∀ o : AObj, HF[h]? ≠ some (some o)) ∧ ∃ o : AObj, H0[h]? = some (some o) ∧ o'.ty = o.ty ∧ o'.c.len = o.c.len ∧ o'.c.kd = o.c.kd ∧ ∀ i j, i < o.c.len → j < o.c.sz → FzTo HF (o.c.at i j) (o'.c.at i j)
 res : FzTo HF r0 r'
theorem zM.freeze0 {P : Program} {f : FuncId} {args : List AV} {K K' : AV → zQ → Prop} (hc : zM P f args [] (fun _ => False) K)
   (hK : ∀ r0 H0, K r0 H0 → ∃ HF H' r', Fzd HF H0 H' r0 r' ∧ K' r' H') : zM P f args [] (fun _ => False) K' := by
 refine ⟨hc.1, fun w σ0 S vals hp hrep hf hv => ?_⟩
 refine (hc.2 w σ0 S vals hp hrep hf hv).mono ?_
 rintro e w' ⟨v, r0, σ, S0, H0, rfl, g1, g2, g3, g4⟩
 obtain ⟨HF, H', r', ⟨hsub, hrl, hlen, hH, hres⟩, hk'⟩ := hK r0 H0 g4
 have hlive : zJk w' S0 σ HF := fun h o ho => g1.live h o (hsub h o ho)
 let S' : Nat → Prop := fun b => S0 b ∨ ∃ h o s C, HF[h]? = some (some o) ∧ σ h = some (.at b s C)
 have hup : ∀ {σ1 : Nat → Option Blk} {x v}, VR w' S0 σ1 x v → VR w' S' σ1 x v := fun h => h.mono (fun _ h => .inl h) (fun _ _ => rfl) _ (fun _ _ h => h)
 have hfz : ∀ {x y v}, FzTo HF x y → VR w' S0 σ x v → VR w' S' σ y v := by
   intro x y v h hv
   rcases h with rfl | rfl | ⟨rfl, hin⟩
   · exact hup hv
   · exact .any _ _
   · exact VR.freeze hlive hrl (fun _ h => .inl h) (fun h o b s C h1 h2 => .inr ⟨h, o, s, C, h1, h2⟩) hv σ hin
 refine ⟨v, r', σ, S', H', rfl, ⟨fun h o' ho' => ?_, fun h1 h2 o1 o2 b s C s' C' q1 q2 e1 e2 => ?_, fun b hb => ?_, fun h hl => g1.dom h (by omega)⟩, hfz hres g2, ⟨g3.os, g3.output, g3.tape, g3.size, g3.block, fun b hb => .inl (g3.S1 b hb), fun b hb => ?_, fun _ h => h.elim, fun _ h => h.elim, fun h o b s C q e => ?_⟩, hk'⟩
 · obtain ⟨hno, o, h1, h2, h3, h4, h5⟩ := hH h o' ho'
   rw [h3, zLy h4]
   rcases g1.live h o h1 with g | ⟨b, C, cur, q1, q2, q3, q4, q5, q6, q7⟩
   · exact .inl g
   · refine .inr ⟨b, C, cur, q1, (q2.mono rfl hup).kd h2 h4, q3, q4, q5, ?_, fun i j hi hj => ?_⟩
     · rintro (hs | ⟨h', o2, s2, C2, u1, u2⟩)
       · exact q6 hs
       · have := g1.dist h h' o o2 b _ C s2 C2 h1 (hsub h' o2 u1) q1 u2
         subst this
         exact hno o2 u1
     · obtain ⟨v, e1, e2, e3⟩ := q7 i j hi hj
       exact ⟨v, e1, hfz (h5 i j hi hj) e2, e3⟩
 · obtain ⟨_, p, p1, _⟩ := hH h1 o1 q1
   obtain ⟨_, p', p1', _⟩ := hH h2 o2 q2
   exact g1.dist h1 h2 p p' b s C s' C' p1 p1' e1 e2
 · rcases hb with hs | ⟨h, o, s, C, q1, q2⟩
   · exact g1.small b hs
   · rcases g1.live h o (hsub h o q1) with ⟨gn, _⟩ | ⟨b', C', cur, hσ, g, _⟩
     · rw [q2] at gn; cases gn
     · rw [q2] at hσ
       simp only [Option.some.injEq, Blk.at.injEq] at hσ
       rw [hσ.1]
       exact g.lt
 · rcases hb with hs | ⟨h, o, s, C, q1, q2⟩
   · exact g3.S2 b hs
   · rcases g3.own h o b s C (hsub h o q1) q2 with g | g
     · exact .inr (.inl g)
     · exact .inr (.inr g)
 · obtain ⟨_, p, p1, _⟩ := hH h o q
   exact g3.own h p b s C p1 e
end Go.Ax
namespace Go.Ax.Rt
open Go.Ax.Bg
structure Fin2 (B M : Nat) (q : Rat) : Prop where
 dv : Dv B q
 le : q ≤ (M : Rat)
 ge : -q ≤ (M : Rat)
theorem zFc {M N : Nat} (h : M ≤ N) : (M : Rat) ≤ (N : Rat) := by
 have h1 : ((M : Int) : Rat) ≤ ((N : Int) : Rat) := Rat.intCast_le_intCast.2 (by omega)
 rwa [Rat.intCast_natCast, Rat.intCast_natCast] at h1
theorem Fin2.mono {B M N : Nat} {q : Rat} (h : Fin2 B M q) (hm : M ≤ N) : Fin2 B N q :=
 ⟨h.dv, Rat.le_trans h.le (zFc hm), Rat.le_trans h.ge (zFc hm)⟩
theorem Fin2.zero (B M : Nat) : Fin2 B M 0 := by
 have h : (0 : Rat) ≤ (M : Rat) := zFc (Nat.zero_le M)
 exact ⟨Dv.zero B, h, by rw [Rat.neg_zero]; exact h⟩
theorem Fin2.add {B M N : Nat} {a b : Rat} (ha : Fin2 B M a) (hb : Fin2 B N b) : Fin2 B (M + N) (a + b) := by
 refine ⟨ha.dv.add hb.dv, ?_, ?_⟩
 · rw [Rat.natCast_add]
   exact Rat.le_trans ((Rat.add_le_add_right (c := b)).2 ha.le) ((Rat.add_le_add_left (c := (M : Rat))).2 hb.le)
 · rw [Rat.natCast_add, Rat.neg_add]
   exact Rat.le_trans ((Rat.add_le_add_right (c := -b)).2 ha.ge) ((Rat.add_le_add_left (c := (M : Rat))).2 hb.ge)
theorem Dv.neg {B : Nat} {q : Rat} (h : Dv B q) : Dv B (-q) := by
 obtain ⟨z, hz⟩ := h
 exact ⟨-z, by rw [Rat.neg_mul, hz, Rat.intCast_neg]⟩
theorem Fin2.neg {B M : Nat} {q : Rat} (h : Fin2 B M q) : Fin2 B M (-q) := ⟨h.dv.neg, h.ge, by rw [Rat.neg_neg]; exact h.le⟩
theorem Fin2.D {B M K : Nat} {q : Rat} (h : Fin2 B M q) (hB : B ≠ 0) (hM : M * B < 10 ^ K) (hK : B < 10 ^ K) : D K q := bnd_D h.dv hB h.le h.ge hM hK
def sumB (t : zT) (o : zw) : Nat := Bd o t.length * payB t
theorem sumB_pos (t : zT) (o : zw) : 0 < sumB t o := Nat.mul_pos (zLD o _) (zJW t)
theorem endG_fin {t : zT} (h : Valid t) {o : zw} {d e : Nat} (ho : OddsW t o d) (hp : Pays t e) {p : Int} {i : Nat} (hi : i < t.length) (hk : (t.getD i node0).kind = 0) : Fin2 (sumB t o) (10 ^ e) (endG t p (zY t o) i) := by
 obtain ⟨g1, g2, g3⟩ := zN0 h ho i hi
 have h6 := zGu o (i := i) (t.length - i)
 rw [show i + (t.length - i) = t.length by omega] at h6
 obtain ⟨p1, p2⟩ := D_le (hp.dig i hi hk)
 have key : ∀ x : Rat, x ≤ ((10 ^ e : Nat) : Rat) → (zY t o).getD i 0 * x ≤ ((10 ^ e : Nat) : Rat) := by
   intro x hx
   have h0 : (0 : Rat) ≤ ((10 ^ e : Nat) : Rat) := zFc (Nat.zero_le _)
   have h1 := Rat.mul_le_mul_of_nonneg_left hx g2
   have h2 := Rat.mul_le_mul_of_nonneg_right g3 h0
   rw [Rat.one_mul] at h2
   exact Rat.le_trans h1 h2
 have hf : Fin2 (sumB t o) (10 ^ e) (zEn t (zY t o) i) := by
   refine ⟨(g1.mono h6).mul (Dv.of_den.mono (zMG hi hk)), key _ p1, ?_⟩
   unfold zEn
   rw [← Rat.mul_neg]
   exact key _ p2
 unfold endG
 split
 · exact hf.neg
 · exact hf
/-- the sums after k ends -/
def zDZ (t : zT) (p : Int) (o : zw) (k : Nat) : List Rat := zFB (endG t p (zY t o)) (zBp t p) ((zx t).take k) (List.replicate (zf t p).length 0)
theorem zJL (t : zT) (p : Int) (o : zw) : zDZ t p o 0 = List.replicate (zf t p).length 0 := by
 unfold zDZ; rw [List.take_zero]; rfl
theorem zKp (t : zT) (p : Int) (o : zw) : zDZ t p o (zx t).length = zF3 t p o := by
 unfold zDZ zF3; rw [List.take_length]
theorem zPp (t : zT) (p : Int) (o : zw) (k : Nat) : (zDZ t p o k).length = (zf t p).length := by
 unfold zDZ; rw [zH7, List.length_replicate]
theorem zI8 (t : zT) (p : Int) (o : zw) {k : Nat} (hk : k < (zx t).length) : zDZ t p o (k + 1) = (zDZ t p o k).set ((zBp t p).getD ((zx t).getD k 0) 0).toNat ((zDZ t p o k).getD ((zBp t p).getD ((zx t).getD k 0) 0).toNat 0 + endG t p (zY t o) ((zx t).getD k 0)) := by
 unfold zDZ
 rw [List.take_succ_eq_append_getElem hk, zJq, zAp 0 hk]
theorem zOp {B M : Nat} {S : List Rat} (hS : ∀ j, Fin2 B M (S.getD j 0)) (x : Nat) {y : Rat} (hy : Fin2 B M y) : ∀ j, Fin2 B M ((S.set x y).getD j 0) := by
 intro j
 rw [Go.Ax.Dt.getD_set]
 split
 · exact hy
 · exact hS j
theorem zHz {t : zT} (h : Valid t) {o : zw} {d e : Nat} (ho : OddsW t o d) (hp : Pays t e) (p : Int) : ∀ k, k ≤ (zx t).length → ∀ j, Fin2 (sumB t o) (k * 10 ^ e) ((zDZ t p o k).getD j 0)
 | 0, _, j => by
   rw [zJL]
   have : (List.replicate (zf t p).length (0 : Rat)).getD j 0 = 0 := by
     simp only [List.getD, List.getElem?_replicate]
     split <;> rfl
   rw [this]
   exact Fin2.zero _ _
 | k + 1, hk, j => by
   have ih := zHz h ho hp p k (by omega)
   have hk' : k < (zx t).length := by omega
   obtain ⟨i1, i2⟩ := zCv (zAl (l := zx t) 0 hk')
   rw [zI8 t p o hk']
   have e1 : (k + 1) * 10 ^ e = k * 10 ^ e + 10 ^ e := by rw [Nat.add_mul, Nat.one_mul]
   rw [e1]
   refine zOp (fun j => (ih j).mono (Nat.le_add_right _ _)) _ ?_ j
   exact (ih _).add (endG_fin h ho hp i1 i2)
/-- all sums of a best reply, after a number of steps -/
structure Sums (t : zT) (o : zw) (p : Int) (S : List Rat) (j : Nat) : Prop where
 len : S.length = (zf t p).length
 fin : ∀ k, Fin2 (sumB t o) (41 * 10 ^ 12 * 2 ^ j) (S.getD k 0)
theorem Sums.step {t : zT} {o : zw} {p : Int} {S : List Rat} {j : Nat} (h : Sums t o p S j) (a b : Nat) : Sums t o p (S.set a (S.getD a 0 + S.getD b 0)) (j + 1) := by
 refine ⟨by rw [List.length_set]; exact h.len, ?_⟩
 have e1 : 41 * 10 ^ 12 * 2 ^ (j + 1) = 41 * 10 ^ 12 * 2 ^ j + 41 * 10 ^ 12 * 2 ^ j := by rw [Nat.pow_succ, ← Nat.mul_assoc]; omega
 rw [e1]
 exact zOp (fun k => (h.fin k).mono (Nat.le_add_right _ _)) a ((h.fin a).add (h.fin b))
theorem lt_ten {a b x y n : Nat} (h1 : a ≤ 10 ^ x) (h2 : b ≤ 10 ^ y) (h : x + y < n) : a * b < 10 ^ n := by
 have h12 := Nat.mul_le_mul h1 h2
 rw [← Nat.pow_add] at h12
 exact Nat.lt_of_le_of_lt h12 (Nat.pow_lt_pow_right (by decide) h)
def bigE : Nat := 961
theorem zNz {t : zT} {o : zw} (ho : OddsW t o 12) (hn : t.length ≤ 40) (hp : Pays t 12) (hv : Valid t) : sumB t o < 10 ^ bigE := by
 have h7 := Bd_w ho t.length (Nat.le_refl _)
 rw [List.take_length] at h7
 have h8 := zI0 hv
 exact lt_ten h7 (zNn hp) (by unfold bigE; omega)
def zEm : Nat := 1000
theorem Fin2.short {t : zT} {o : zw} {M : Nat} {q : Rat} (h : Fin2 (sumB t o) M q) (hB : sumB t o < 10 ^ bigE) (hM : M ≤ 10 ^ 39) : Rt.D zEm q := by
 have h0 := sumB_pos t o
 refine h.D (by omega) ?_ (Nat.lt_of_lt_of_le hB (Nat.pow_le_pow_right (by decide) (by decide)))
 refine Nat.lt_of_le_of_lt (Nat.mul_le_mul_right _ hM) ?_
 have := (Nat.mul_lt_mul_left (a := 10 ^ 39) (Nat.pow_pos (by decide))).2 hB
 rw [← Nat.pow_add] at this
 exact Nat.lt_of_lt_of_le this (Nat.pow_le_pow_right (by decide) (by decide))
theorem Sums.short {t : zT} {o : zw} {p : Int} {S : List Rat} {j : Nat} (h : Sums t o p S j) (hB : sumB t o < 10 ^ bigE) (hj : j ≤ 61) (k : Nat) : D zEm (S.getD k 0) := by
 refine (h.fin k).short hB ?_
 have h1 : 2 ^ j ≤ 2 ^ 61 := Nat.pow_le_pow_right (by decide) hj
 exact Nat.le_trans (Nat.mul_le_mul_left _ h1) (by decide)
theorem zLx {t : zT} (h : Valid t) {o : zw} (ho : OddsW t o 12) (hn : t.length ≤ 40) (hp : Pays t 12) (p : Int) {k : Nat} (hk : k ≤ (zx t).length) (j : Nat) : D zEm ((zDZ t p o k).getD j 0) := by
 have hB := zNz ho hn hp h
 have he : (zx t).length ≤ t.length := by
   unfold zx
   refine Nat.le_trans (List.length_filter_le _ _) ?_
   rw [List.length_range]; exact Nat.le_refl _
 refine (zHz h ho hp p k hk j).short hB ?_
 have : k * 10 ^ 12 ≤ 40 * 10 ^ 12 := Nat.mul_le_mul_right _ (by omega)
 exact Nat.le_trans this (by decide)
theorem zNL {t : zT} (h : Valid t) {o : zw} (ho : OddsW t o 12) (hn : t.length ≤ 40) (hp : Pays t 12) (p : Int) : Sums t o p (zF3 t p o) 0 := by
 have he : (zx t).length ≤ t.length := by
   unfold zx
   refine Nat.le_trans (List.length_filter_le _ _) ?_
   rw [List.length_range]; exact Nat.le_refl _
 refine ⟨zKb t p o, fun k => ?_⟩
 rw [← zKp]
 refine (zHz h ho hp p _ (Nat.le_refl _) k).mono ?_
 rw [Nat.pow_zero, Nat.mul_one]
 exact Nat.mul_le_mul_right _ (by omega)
/-- Where the way back from the last sequence stands. -/
structure Back (t : zT) (p : Int) (o : zw) (e : Nat) (S : List Rat) (C : List (Int × Int)) (j : Nat) : Prop where
 bnd : Bnd t p e
 sums : Sums t o p S j
 few : j + e ≤ (zf t p).length
 cho : Chosen t p e C
 rest : ∃ f, e ≤ f + 1 ∧ zFj (zf t p) f (e, S, C) = zBF t p o
theorem Back.top {t : zT} (h : Valid t) {o : zw} (ho : OddsW t o 12) (hn : t.length ≤ 40) (hp : Pays t 12) (p : Int) : Back t p o (zf t p).length (zF3 t p o) [] 0 :=
 ⟨Bnd.top h p, zNL h ho hn hp p, by omega, Chosen.top h p, _, by omega, rfl⟩
theorem Back.step {t : zT} (hv : Valid t) {p : Int} {o : zw} {e : Nat} {S : List Rat} {C : List (Int × Int)} {j : Nat} (h : Back t p o e S C j) (he : 1 < e) {x : Int × Nat} {b : Nat} (hb : Blk t p e x b) :
   Back t p o x.2 (S.set b (S.getD b 0 + S.getD (zAf S x.2 (ze t p x.1)) 0)) (C ++ [(x.1, ((zAf S x.2 (ze t p x.1) - x.2 : Nat) : Int))]) (j + 1) := by
 obtain ⟨f, f1, f2⟩ := h.rest
 have h1 := hb.fin
 have h2 := hb.w1
 have h3 := h.few
 obtain ⟨q1, _, q3⟩ := zD2 S x.2 (ze t p x.1)
 have q3 := q3 h2
 obtain ⟨f', rfl⟩ : ∃ f', f = f' + 1 := ⟨f - 1, by omega⟩
 rw [zFj, if_pos (show 1 < (e, S, C).1 from he), hb.step] at f2
 exact ⟨hb.bnd, h.sums.step _ _, by omega, hb.chosen hv h.cho (by omega), f', by omega, f2⟩
theorem Back.stop {t : zT} {p : Int} {o : zw} {e : Nat} {S : List Rat} {C : List (Int × Int)} {j : Nat} (h : Back t p o e S C j) (he : ¬ 1 < e) : zBF t p o = (1, S, C) := by
 obtain ⟨f, f1, f2⟩ := h.rest
 have h1 := h.bnd.one
 obtain rfl : e = 1 := by omega
 rw [← f2]
 cases f with
 | zero => rfl
 | succ f => rw [zFj, if_neg (Nat.lt_irrefl 1)]
end Go.Ax.Rt
namespace Go.Proofs.YtnkealfaldjipaaGreatDoor
open Go.Ax Go.Ax.Bg Go.Ax.Rt Go.RowKit Go.Ax.Idx Go.Ax.Cd
attribute [local irreducible] Ax zAM QOp zM zq
set_option maxRecDepth 100000
set_option maxHeartbeats 4000000
abbrev zC1 (t : zT) (p : Int) : AV := .rp (.box [.ro (zIV (zf t p)) 0 (zf t p).length, .ro (.ints .i64 (zBp t p)) 0 t.length]) 0 0
/-- recall.Of, whose result is only read -/
theorem of_ro (t : zT) (p : Int) (hT : ShortT t) (hv : Valid t) : zV Tryz.prog 106 [.ro (zd t) 0 t.length, .int .i64 p] (zC1 t p) := by
 have hpl : (zAE t p t.length).pos.length = t.length := zEJ t p _
 refine zM.value (K := fun r H => r = .ptr 2 0 0 ∧ H = [none, none, some ⟨169, .box [.ro (zIV (zf t p)) 0 (zf t p).length, .ro (.ints .i64 (zBp t p)) 0 t.length]⟩, none]) (zM.freeze0 (of_ok t p hT hv) ?_) (fix := fun _ => False) (fun _ h => h) rfl ?_
 · rintro r0 H0 ⟨rfl, rfl⟩
   refine ⟨[some ⟨174, zIV (zAE t p t.length).seqs⟩, some ⟨3, .ints .i64 (zAE t p t.length).pos⟩, none, none], _, _, ⟨?_, ?_, ?_, ?_, .inl rfl⟩, rfl, rfl⟩
   · intro h o ho
     match h, ho with
     | 0, ho => exact ho
     | 1, ho => exact ho
     | 2, ho => simp at ho
     | 3, ho => simp at ho
     | _ + 4, ho => simp at ho
   · intro h o ho
     match h, ho with
     | 0, ho => cases ho; exact zK2 _
     | 1, ho => cases ho; exact zAO
     | 2, ho => simp at ho
     | 3, ho => simp at ho
     | _ + 4, ho => simp at ho
   · rfl
   · intro h o ho
     match h, ho with
     | 0, ho => simp at ho
     | 1, ho => simp at ho
     | 2, ho =>
       cases ho
       refine ⟨fun o h => by simp at h, _, rfl, rfl, rfl, rfl, fun i j hi hj => ?_⟩
       have hj : j < 2 := hj
       obtain rfl := Nat.lt_one_iff.1 (show i < 1 from hi)
       match j, hj with
       | 0, _ => exact .inr (.inr ⟨rfl, fun o ho => by cases ho; show 0 + (zAE t p t.length).seqs.length ≤ (zAE t p t.length).seqs.length; omega⟩)
       | 1, _ => exact .inr (.inr ⟨rfl, fun o ho => by cases ho; show 0 + t.length ≤ (zAE t p t.length).pos.length; omega⟩)
     | 3, ho => simp at ho
     | _ + 4, ho => simp at ho
 · rintro r H ⟨rfl, rfl⟩
   refine ⟨rfl, fun o ho => by cases ho; exact Nat.zero_lt_one, fun h o ho => ?_⟩
   match h, ho with
   | 0, ho => simp at ho
   | 1, ho => simp at ho
   | 2, ho =>
     cases ho
     intro i j _ hj
     have hj : j < 2 := hj
     match j, hj with
     | 0, _ => rfl
     | 1, _ => rfl
   | 3, ho => simp at ho
   | _ + 4, ho => simp at ho
theorem zMW (n : TNode) (p : Int) (s : zAY) (c : TChoice) (hc : n.player ≠ p → c ∈ s ∧ c.info = n.info) : zV Tryz.prog 134 [.agg (zBY n), .rp (.box [.int .i64 p]) 0 0, .rp (.box [zDI s]) 0 0] (if n.player = p then .nil else .ro (qsC (c.odds.map zAQ)) 0 (c.odds.map zAQ).length) := by
 obtain ⟨kd, pl, nf, nx, od, py⟩ := n
 simp only at *
 by_cases hp : pl = p
 · rw [if_pos hp]
   refine zM.value0 (zG (P := Tryz.prog) (fn := Tryz.f134) rfl rfl (by kernel_rfl) rfl (fun c hR hfix => ?_)) (fix := fun _ => False) (fun _ h => h) rfl rfl
   unfold zBY
   simp only
   repeat (first | refine zB (zK rfl) ?_ | refine zC ?_ | refine zA ?_ | refine zX ?_ | refine zJ rfl ?_ | refine zB (zS rfl rfl rfl rfl rfl) ?_ | refine zB (zEk rfl rfl) ?_ | refine zB (zAe rfl rfl rfl rfl) ?_ | refine zB (zO rfl rfl rfl rfl rfl rfl) ?_ | refine zEu rfl rfl ?_)
   rw [decide_eq_true hp]
   refine rn5 ?_
   exact zI hR rfl rfl
 · rw [if_neg hp]
   obtain ⟨h1, h2⟩ := hc hp
   obtain ⟨jj, i1, i2⟩ := zJ9 h1
   rw [h2] at i1
   refine zM.value0 (zG (P := Tryz.prog) (fn := Tryz.f134) rfl rfl (by kernel_rfl) rfl (fun c hR hfix => ?_)) (fix := fun _ => False) (fun _ h => h) rfl rfl
   unfold zBY
   simp only
   repeat (first | refine zB (zK rfl) ?_ | refine zC ?_ | refine zA ?_ | refine zX ?_ | refine zJ rfl ?_ | refine zB (zS rfl rfl rfl rfl rfl) ?_ | refine zB (zEk rfl rfl) ?_ | refine zB (zAe rfl rfl rfl rfl) ?_ | refine zB (zO rfl rfl rfl rfl rfl rfl) ?_ | refine zEu rfl rfl ?_)
   rw [decide_eq_false hp]
   repeat (first | refine zA ?_ | refine zX ?_ | refine zJ rfl ?_ | refine zAT rfl ?_ | refine zn ?_ | refine zB (zS rfl rfl rfl rfl rfl) ?_ | refine zB (zAe rfl rfl rfl rfl) ?_ | refine zB (zO rfl rfl rfl rfl rfl rfl) ?_)
   refine zB (zBU rfl (.int rfl) rfl rfl rfl rfl (keysC s) jj i1 i2) ?_
   refine rn0 ?_
   exact zI hR rfl rfl
end Go.Proofs.YtnkealfaldjipaaGreatDoor
namespace Go.Proofs.YtnkealfaldjipaaGreatDoor
open Go.Ax Go.Ax.Bg Go.Ax.Rt Go.RowKit Go.Ax.Idx Go.Ax.Cd
attribute [local irreducible] Ax zAM QOp zM zq
set_option maxRecDepth 100000
set_option maxHeartbeats 4000000
def keyB (y : Int × Int) : AV := .int .i64 y.1
def valB (y : Int × Int) : AV := .int .i64 y.2
abbrev choC (C : List (Int × Int)) : Cells := .mp (C.map keyB) (C.map valB)
theorem keysB (C : List (Int × Int)) : ∀ x ∈ C.map keyB, zCu (.int .i64) x = true := by
 intro x hx
 obtain ⟨e, _, rfl⟩ := List.mem_map.1 hx
 rfl
theorem newB {C : List (Int × Int)} {x : Int} (h : x ∉ C.map Prod.fst) : AV.int .i64 x ∉ C.map keyB := by
 intro hm
 obtain ⟨y, hy, e⟩ := List.mem_map.1 hm
 injection e with e1 e2
 exact h (List.mem_map.2 ⟨y, hy, e2⟩)
def zAX (t : zT) (p : Int) (s : zAY) : zw := zGg t p (zDh s)
theorem oneS_G {t : zT} (hv : Valid t) (hm : Go.Ax.Rt.Modest t) {p : Int} (hp : p = 0 ∨ p = 1) {s : zAY} (hs : StrS t (1 - p) s) : OddsG t (zAX t p s) :=
 zOJ hv hm.len (one_w hv hm hp hs.str) (fun i hi hk => by unfold zAX zGg; rw [if_pos hk]) (fun i hi hk => by unfold zAX zGg; rw [if_neg (by omega), if_neg (by omega)])
theorem zP0 (t : zT) (p : Int) (s : zAY) (hT : ShortT t) (hv : Valid t) (hm : Go.Ax.Rt.Modest t) (hp : p = 0 ∨ p = 1) (hs : StrS t (1 - p) s) :
   zV Tryz.prog 133 [.ro (zd t) 0 t.length, .fn 134 [.rp (.box [.int .i64 p]) 0 0, .rp (.box [zDI s]) 0 0]] (.ro (qsC (zY t (zAX t p s))) 0 t.length) := by
 refine zLm t (zAX t p s) 134 [.rp (.box [.int .i64 p]) 0 0, .rp (.box [zDI s]) 0 0] rfl rfl hT hv (oneS_G hv hm hp hs) (fun i hi hk => ?_)
 have hpl := zCV hv hi hk
 by_cases h : (t.getD i node0).player = p
 · have := zMW (t.getD i node0) p s ch0 (fun q => absurd h q)
   rw [if_pos h] at this
   have e : zAX t p s i = none := by unfold zAX zGg; rw [if_neg (by omega), if_pos hk, if_pos h]
   rw [e]; exact this
 · obtain ⟨c, c1, c2, c3⟩ := hs.node hv hi hk (by omega)
   have := zMW (t.getD i node0) p s c (fun _ => ⟨c1, c2⟩)
   rw [if_neg h] at this
   have e : zAX t p s i = some (c.odds.map zAQ) := by unfold zAX zGg; rw [if_neg (by omega), if_pos hk, if_neg h, c3]
   rw [e]; exact this
def zBw (n k : Nat) : List (Option Rat) := (List.range n).map (fun i => if i < k then some 0 else none)
theorem zNB (n k : Nat) : (zBw n k).length = n := by simp [zBw]
theorem zMU (n : Nat) : zBw n 0 = List.replicate n none := by
 apply List.ext_getElem (by simp [zBw])
 intro i h1 h2
 simp [zBw]
theorem zNf (n : Nat) : zBw n n = (List.replicate n (0 : Rat)).map some := by
 apply List.ext_getElem (by simp [zBw])
 intro i h1 h2
 have : i < n := by simpa [zBw] using h1
 simp [zBw, this]
theorem zNe {n k : Nat} (hk : k < n) : (zBw n k).set k (some 0) = zBw n (k + 1) := by
 apply List.ext_getElem (by simp [zBw])
 intro i h1 h2
 rw [List.getElem_set]
 by_cases e : k = i
 · subst e; simp [zBw]
 · rw [if_neg e]
   have : (i < k) = (i < k + 1) := propext ⟨fun h => by omega, fun h => by omega⟩
   simp only [zBw, List.getElem_map, List.getElem_range, this]
theorem zLN (s : zAY) : z6 (.box [zDI s]) := by
 intro i j _ hj
 obtain rfl : j = 0 := by have hj : j < 1 := hj; omega
 rfl
theorem belowQ0 : ∀ (h : Nat) (o : AObj), ([none, some ⟨122, .box [.bool false, .nil, .nil]⟩] : zQ)[h]? = some (some o) → zA2 2 o.c := by
 intro h o ho
 match h, ho with
 | 0, ho => simp at ho
 | 1, ho =>
   cases ho
   intro i j _ hj
   have hj : j < 3 := hj
   match j, hj with
   | 0, _ => rfl
   | 1, _ => rfl
   | 2, _ => rfl
 | _ + 2, ho => simp at ho
theorem belowQ1 (S : List Rat) : ∀ (h : Nat) (o : AObj), ([none, some ⟨122, .box [.bool false, .nil, .nil]⟩, some ⟨122, qsC S⟩] : zQ)[h]? = some (some o) → zA2 3 o.c := by
 intro h o ho
 match h, ho with
 | 0, ho => simp at ho
 | 1, ho =>
   cases ho
   intro i j _ hj
   have hj : j < 3 := hj
   match j, hj with
   | 0, _ => rfl
   | 1, _ => rfl
   | 2, _ => rfl
 | 2, ho => cases ho; exact zML _ _
 | _ + 3, ho => simp at ho
theorem belowQ2 (S : List Rat) (C : List (Int × Int)) : ∀ (h : Nat) (o : AObj), ([none, some ⟨122, .box [.bool false, .nil, .nil]⟩, some ⟨122, qsC S⟩, some ⟨123, choC C⟩] : zQ)[h]? = some (some o) → zA2 4 o.c := by
 intro h o ho
 match h, ho with
 | 0, ho => simp at ho
 | 1, ho =>
   cases ho
   intro i j _ hj
   have hj : j < 3 := hj
   match j, hj with
   | 0, _ => rfl
   | 1, _ => rfl
   | 2, _ => rfl
 | 2, ho => cases ho; exact zML _ _
 | 3, ho => cases ho; exact ⟨zBy (fun _ => rfl) C, zBy (fun _ => rfl) C⟩
 | _ + 4, ho => simp at ho
theorem cmp_gt (a b : Rat) : (0 < zJb a b) = (b < a) := by
 apply propext
 unfold zJb
 constructor
 · intro h
   split at h
   · omega
   · split at h
     · omega
     · rename_i h1 h2
       rcases Rat.le_iff_lt_or_eq.1 (Rat.not_lt.1 h1) with q | q
       · exact q
       · exact absurd q.symm h2
 · intro h
   rw [if_neg (Rat.not_lt.2 (Rat.le_of_lt h)), if_neg (fun e => absurd h (by rw [e]; exact Rat.lt_irrefl))]
   omega
theorem zPi (t : zT) (p : Int) (s : zAY) (hT : ShortT t) (hv : Valid t) (hm : Go.Ax.Rt.Modest t) (hp : p = 0 ∨ p = 1) (hs : StrS t (1 - p) s) :
   zV Tryz.prog 73 [.ro (zd t) 0 t.length, .int .i64 p, .ro (zAV s) 0 s.length] (.tup [qA ((zBF t p (zAX t p s)).2.1.getD 0 0), .rom ((zBF t p (zAX t p s)).2.2.map keyB) ((zBF t p (zAX t p s)).2.2.map valB)]) := by
 have c1 := of_ro t p hT hv
 have c2 := hs.call
 have c3 := zP0 t p s hT hv hm hp hs
 have hml := hm.len
 have c4 := zOm t (by omega)
 have hfew := zLr hv p
 have hone := (zAh hv p).2.2.1
 have hel := zGV t t.length
 have hEl : (zAq t t.length).length = (zx t).length := by rw [zHu, List.length_map]
 have hw := one_w hv hm hp hs.str
 have hpays := hm.pays hv
 have hfew : (zf t p).length ≤ 61 := hfew
 refine zM.value (K := fun r H => r = .tup [qA ((zBF t p (zAX t p s)).2.1.getD 0 0), .mp 3] ∧ H = [none, some ⟨122, .box (zAD ((zBF t p (zAX t p s)).2.1.getD 0 0))⟩, some ⟨122, qsC (zBF t p (zAX t p s)).2.1⟩, some ⟨123, choC (zBF t p (zAX t p s)).2.2⟩]) (zG (P := Tryz.prog) (fn := Tryz.f73) rfl rfl (by kernel_rfl) rfl (fun c hR hfix => ?_)) (fix := fun _ => False) (fun _ h => h) rfl ?_
 · refine rn6 ?_
   refine zB zHT ?_
   repeat (first | refine zC ?_ | refine zA ?_ | refine zX ?_)
   refine zH4 [some ⟨3, .box [.int .i64 p]⟩, none] [none, some ⟨122, .box [.bool false, .nil, .nil]⟩] [(0, .ro (zd t) 0 t.length), (1, .int .i64 p), (2, .ro (zAV s) 0 s.length), (4, .rp (.box [.int .i64 p]) 0 0), (6, .ptr 1 0 0)] ?_ ?_ rfl ?_ ⟨⟨_, rfl, .inl rfl⟩, ⟨_, rfl, .inl rfl⟩, ⟨_, rfl, .inl rfl⟩, ⟨_, rfl, .inr (.inr ⟨rfl, fun o ho => by cases ho; exact Nat.zero_lt_one⟩)⟩, ⟨_, rfl, .inl rfl⟩, trivial⟩ ?_
   · intro h o ho
     match h, ho with
     | 0, ho => exact ho
     | 1, ho => simp at ho
     | _ + 2, ho => simp at ho
   · intro h o ho
     match h, ho with
     | 0, ho => cases ho; exact boxIU _
     | 1, ho => simp at ho
     | _ + 2, ho => simp at ho
   · intro h o ho
     match h, ho with
     | 0, ho => simp at ho
     | 1, ho => cases ho; exact ⟨fun o h => by simp at h, _, rfl, rfl, rfl, rfl, fun i j _ _ => .inl rfl⟩
     | _ + 2, ho => simp at ho
   repeat (first | refine zB (zH rfl) ?_ | refine zJ rfl ?_ | refine zB (zAe rfl rfl rfl rfl) ?_)
   refine zE rfl rfl rfl c1 ?_
   refine rn0 ?_
   refine zE rfl rfl rfl c2 ?_
   skip
   refine zKW rfl rfl rfl ?_
   repeat (first | refine zC ?_ | refine zA ?_ | refine zX ?_ | refine zAi rfl rfl rfl rfl rfl rfl rfl Nat.zero_lt_one ?_)
   refine zCh [none, some ⟨122, .box [.bool false, .nil, .nil]⟩, some ⟨209, .box [zDI s]⟩] rfl ?_
   refine zAb 9 (.ptr 2 0 0) rfl (AEq.of_eq rfl) ?_
   refine zH4 [none, none, some ⟨209, .box [zDI s]⟩] [none, some ⟨122, .box [.bool false, .nil, .nil]⟩, none] [(0, .ro (zd t) 0 t.length), (4, .rp (.box [.int .i64 p]) 0 0), (6, .ptr 1 0 0), (8, zC1 t p), (9, .rp (.box [zDI s]) 0 0)] ?_ ?_ rfl ?_ ⟨⟨_, rfl, .inl rfl⟩, ⟨_, rfl, .inl rfl⟩, ⟨_, rfl, .inl rfl⟩, ⟨_, rfl, .inl rfl⟩, ⟨_, rfl, .inr (.inr ⟨rfl, fun o ho => by cases ho; exact Nat.zero_lt_one⟩)⟩, trivial⟩ ?_
   · intro h o ho
     match h, ho with
     | 0, ho => simp at ho
     | 1, ho => simp at ho
     | 2, ho => exact ho
     | _ + 3, ho => simp at ho
   · intro h o ho
     match h, ho with
     | 0, ho => simp at ho
     | 1, ho => simp at ho
     | 2, ho => cases ho; exact zLN s
     | _ + 3, ho => simp at ho
   · intro h o ho
     match h, ho with
     | 0, ho => simp at ho
     | 1, ho => cases ho; exact ⟨fun o h => by simp at h, _, rfl, rfl, rfl, rfl, fun i j _ _ => .inl rfl⟩
     | 2, ho => simp at ho
     | _ + 3, ho => simp at ho
   refine zAz [none, some ⟨122, .box [.bool false, .nil, .nil]⟩] [none] [(0, .ro (zd t) 0 t.length), (4, .rp (.box [.int .i64 p]) 0 0), (6, .ptr 1 0 0), (8, zC1 t p), (9, .rp (.box [zDI s]) 0 0)] rfl ⟨rfl, rfl, rfl, rfl, rfl, trivial⟩ (fun h hh => by rw [hfix] at hh; exact absurd hh id) belowQ0 rfl ?_
   repeat (first | refine zB (zH rfl) ?_ | refine zJ rfl ?_ | refine zB (zHK rfl) ?_)
   refine zE rfl rfl rfl c3 ?_
   repeat (first | refine zB (zH rfl) ?_ | refine zB (zK rfl) ?_ | refine zC ?_ | refine zA ?_ | refine zX ?_ | refine zJ rfl ?_ | refine zB (zBN rfl rfl rfl) ?_ | refine zB (zAe rfl rfl rfl rfl) ?_ | refine zB (zBi rfl) ?_ | refine zB (zA7 rfl rfl rfl rfl rfl rfl) ?_)
   refine zCB rfl rfl rfl rfl rfl rfl rfl rfl (by show (0 : Int) ≤ _ ∧ _ ≤ _ ∧ (56 : Int) * _ ≤ _ ∧ _; omega) ?_
   refine zA5 [none, some ⟨122, .box [.bool false, .nil, .nil]⟩, some ⟨122, zsC (zBw (zf t p).length 0)⟩] (by rw [zMU]; exact zAL.same (zAL.same (zAL.eqv (zNv _) zAL.nil))) ?_
   refine rn3 ?_
   refine zk (ι := Nat) (fun k => [(0, .ro (zd t) 0 t.length), (4, .rp (.box [.int .i64 p]) 0 0), (6, .ptr 1 0 0), (8, zC1 t p), (10, .ro (qsC (zY t (zAX t p s))) 0 t.length), (11, .sl 2 0 (zf t p).length), (36, .sl 2 0 (zf t p).length), (37, .int .i64 ((zf t p).length : Nat)), (38, .int .i64 (k : Nat))]) (fun k => [none, some ⟨122, .box [.bool false, .nil, .nil]⟩, some ⟨122, zsC (zBw (zf t p).length k)⟩])
     (fun k => k ≤ (zf t p).length) (fun k => (zf t p).length - k) 0 ⟨⟨rfl, rfl, rfl, rfl, rfl, rfl, rfl, rfl, rfl, trivial⟩, rfl, Nat.zero_le _⟩ ?_
   intro k hk
   refine rn4 ?_
   refine zF rfl (fun h => ?_) (fun h => ?_)
   · have hk' : k < (zf t p).length := by omega
     have hzl := zNB (zf t p).length k
     have hzs := zNe hk'
     have hzk : k < (zsC (zBw (zf t p).length k)).len := by show k < (zBw _ _).length; omega
     refine rn1 ?_
     refine zE rfl rfl rfl zHh ?_
     unfold qA
     repeat (refine zB (zZ rfl rfl rfl rfl rfl (by first | (simp only [Nat.zero_add, Int.toNat_natCast, Int.toNat_zero]; exact rfl) | exact rfl) (by omega)) ?_)
     refine zR (c' := zsC ((zBw (zf t p).length k).set k (some 0))) rfl rfl rfl rfl rfl hzk (by show (List.set _ k _).length = _; rw [List.length_set]; rfl) rfl (fun i' j' hi' hj' => zEI none 3 zB8 _ k (some 0) hzk i' j' hi' hj') ?_
     refine rn5 ?_
     exact zP ⟨k + 1, by omega, by omega, ⟨rfl, rfl, rfl, rfl, rfl, rfl, rfl, rfl, rfl, trivial⟩, by rw [← hzs]; rfl⟩
   have hke : k = (zf t p).length := by omega
   subst hke
   repeat (first | refine zA ?_ | refine zX ?_ | refine zA3 ?_ | refine z8 ?_ | refine z7 ?_ | refine zAS ?_)
   refine zEe [none, some ⟨122, .box [.bool false, .nil, .nil]⟩, some ⟨122, qsC (zDZ t p (zAX t p s) 0)⟩] (by rw [zNf, zJL]; exact zAL.same (zAL.same (zAL.eqv (zs_map _) zAL.nil))) ?_
   refine rn0 ?_
   refine zE rfl rfl rfl c4 ?_
   refine rn3 ?_
   refine zk (ι := Nat) (fun k => [(0, .ro (zd t) 0 t.length), (4, .rp (.box [.int .i64 p]) 0 0), (6, .ptr 1 0 0), (8, zC1 t p), (10, .ro (qsC (zY t (zAX t p s))) 0 t.length), (11, .sl 2 0 (zf t p).length), (47, .ro (.ints .i64 (zAq t t.length)) 0 (zAq t t.length).length), (48, .int .i64 ((zAq t t.length).length : Nat)), (49, .int .i64 (k : Nat))]) (fun k => [none, some ⟨122, .box [.bool false, .nil, .nil]⟩, some ⟨122, qsC (zDZ t p (zAX t p s) k)⟩])
     (fun k => k ≤ (zAq t t.length).length) (fun k => (zAq t t.length).length - k) 0 ⟨⟨rfl, rfl, rfl, rfl, rfl, rfl, rfl, rfl, rfl, trivial⟩, rfl, Nat.zero_le _⟩ ?_
   intro k hk
   refine rn4 ?_
   refine zF rfl (fun h => ?_) (fun h => ?_)
   · have hk' : k < (zx t).length := by omega
     have hi0 := zKP t hk'
     obtain ⟨i1, i2⟩ := zCv (zAl (l := zx t) 0 hk')
     have hsuc := zI8 t p (zAX t p s) hk'
     have hSl := zPp t p (zAX t p s) k
     have hsh : ∀ j, D zEm ((zDZ t p (zAX t p s) k).getD j 0) := zLx hv hw hml hpays p (k := k) (by omega)
     have hpay := zHn hv i1 i2
     have hpyl := (hT.node _ (zAl node0 i1)).pay
     have cp := zE3 (t.getD ((zx t).getD k 0) node0).pay hpyl hpay
     have dr := zFF hv hw hml i1
     have dp := hpays.dig _ i1 i2
     have cm := zK5 _ _ (zFy (dr.mono (show 12 * 40 + 1 ≤ 9 * 100000 by decide))) (zFy (dp.mono (by decide)))
     have cm : zV Tryz.prog 105 [qA ((zY t (zAX t p s)).getD ((zx t).getD k 0) 0), qA (zAQ (t.getD ((zx t).getD k 0) node0).pay)] (qA (zEn t (zY t (zAX t p s)) ((zx t).getD k 0))) := cm
     have dE : D 1000 (zEn t (zY t (zAX t p s)) ((zx t).getD k 0)) := (dr.mul dp).mono (by decide)
     have hpos := pos_lt hv p i1
     obtain ⟨x, hx⟩ := Int.eq_ofNat_of_zero_le hpos.1
     have hx2 : ((zBp t p).getD ((zx t).getD k 0) 0).toNat = x := by rw [hx, Int.toNat_natCast]
     rw [hx2] at hpos hsuc
     have hposl : (zBp t p).length = t.length := zEJ t p _
     have hG : endG t p (zY t (zAX t p s)) ((zx t).getD k 0) = if p = 1 then -(zEn t (zY t (zAX t p s)) ((zx t).getD k 0)) else zEn t (zY t (zAX t p s)) ((zx t).getD k 0) := rfl
     rw [hG] at hsuc
     have hdk : k < (zAq t t.length).length := by omega
     have hrl : (zY t (zAX t p s)).length = t.length := zCk t _ _
     have hshx := hsh x
     clear hG hsh dr dp
     generalize hS2 : zDZ t p (zAX t p s) (k + 1) = S2 at *
     generalize zDZ t p (zAX t p s) k = S at *
     generalize zEn t (zY t (zAX t p s)) ((zx t).getD k 0) = E at *
     generalize (zx t).getD k 0 = i at *
     repeat (first | refine zA ?_ | refine zX ?_ | refine zAA ?_ | refine zn ?_)
     refine zJ rfl ?_
     repeat (first | refine zB (zK rfl) ?_ | refine zB (zA8 rfl rfl rfl) ?_ | refine zC ?_ | refine zA ?_ | refine zX ?_ | refine zB (zh rfl rfl rfl rfl (by first | (simp only [Nat.zero_add, Int.toNat_natCast, Int.toNat_zero]; exact rfl) | exact rfl) (by omega)) ?_)
     refine zAb 14 (.int .i64 (i : Nat)) rfl (AEq.of_eq (by rw [← hi0])) ?_
     skip
     refine zl (by kernel_rfl) ?_
     apply zCN (H := [none, some ⟨122, .box [.bool false, .nil, .nil]⟩, some ⟨122, qsC S⟩, some ⟨122, .box [.bool false, .nil, .nil]⟩]) [(15, .ptr 3 0 0), (63, qA E), (14, .int .i64 (i : Nat)), (0, .ro (zd t) 0 t.length), (4, .rp (.box [.int .i64 p]) 0 0), (6, .ptr 1 0 0), (8, zC1 t p), (10, .ro (qsC (zY t (zAX t p s))) 0 t.length), (11, .sl 2 0 (zf t p).length), (47, .ro (.ints .i64 (zAq t t.length)) 0 (zAq t t.length).length), (48, .int .i64 ((zAq t t.length).length : Nat)), (49, .int .i64 (k : Nat))]
     · intro fin
       refine zN 0 rfl (by kernel_rfl) (by kernel_rfl) (by kernel_rfl) rfl (zH rfl) rfl ?_
       refine zN 1 rfl (by kernel_rfl) (by kernel_rfl) (by kernel_rfl) rfl (zH rfl) rfl ?_
       refine zN 4 rfl (by kernel_rfl) (by kernel_rfl) (by kernel_rfl) rfl (zH rfl) rfl ?_
       refine zN 5 rfl (by kernel_rfl) (by kernel_rfl) (by kernel_rfl) rfl (zH rfl) rfl ?_
       refine zN 2 rfl (by kernel_rfl) (by kernel_rfl) (by kernel_rfl) rfl (zh rfl rfl rfl rfl (by first | (simp only [Nat.zero_add, Int.toNat_natCast, Int.toNat_zero]; exact rfl) | exact rfl) (by omega)) rfl ?_
       refine zN 6 rfl (by kernel_rfl) (by kernel_rfl) (by kernel_rfl) rfl (zh rfl rfl rfl rfl (by first | (simp only [Nat.zero_add, Int.toNat_natCast, Int.toNat_zero]; exact rfl) | exact rfl) (by omega)) rfl ?_
       refine zN 7 rfl (by kernel_rfl) (by kernel_rfl) (by kernel_rfl) rfl (zA7 rfl rfl rfl rfl rfl rfl) rfl ?_
       refine zD (is := [3, 8, 11]) (by kernel_rfl) (by simp) rfl ⟨fun o ho => ?_, fun o ho => ?_, fun o ho => ?_, trivial⟩
       all_goals (cases ho)
       · refine rn6 ?_
         refine zD (is := [8, 11]) (by kernel_rfl) (by simp) rfl ⟨fun o ho => ?_, fun o ho => ?_, trivial⟩
         all_goals (cases ho)
         · refine rn6 ?_
           refine zD (is := [9, 11]) (by kernel_rfl) (by simp) rfl ⟨fun o ho => ?_, fun o ho => ?_, trivial⟩
           all_goals (cases ho)
           · refine zE rfl rfl rfl cp ?_
             refine rn1 ?_
             refine zD (is := [10, 11]) (by kernel_rfl) (by simp) rfl ⟨fun o ho => ?_, fun o ho => ?_, trivial⟩
             all_goals (cases ho)
             · refine zE rfl rfl rfl cm ?_
               refine rn1 ?_
               refine zD (is := [11]) (by kernel_rfl) (by simp) rfl ⟨fun o ho => ?_, trivial⟩
               all_goals (cases ho)
               refine rn4 ?_
               exact fin _ ⟨rfl, rfl, rfl, rfl, rfl, rfl, rfl, rfl, rfl, rfl, rfl, rfl, trivial⟩
             · refine rn4 ?_
               refine zD (is := [10]) (by kernel_rfl) (by simp) rfl ⟨fun o ho => ?_, trivial⟩
               all_goals (cases ho)
               refine zE rfl rfl rfl cm ?_
               refine rn1 ?_
               exact fin _ ⟨rfl, rfl, rfl, rfl, rfl, rfl, rfl, rfl, rfl, rfl, rfl, rfl, trivial⟩
           · refine rn4 ?_
             refine zD (is := [9]) (by kernel_rfl) (by simp) rfl ⟨fun o ho => ?_, trivial⟩
             all_goals (cases ho)
             refine zE rfl rfl rfl cp ?_
             refine rn1 ?_
             refine zD (is := [10]) (by kernel_rfl) (by simp) rfl ⟨fun o ho => ?_, trivial⟩
             all_goals (cases ho)
             refine zE rfl rfl rfl cm ?_
             refine rn1 ?_
             exact fin _ ⟨rfl, rfl, rfl, rfl, rfl, rfl, rfl, rfl, rfl, rfl, rfl, rfl, trivial⟩
         · refine rn4 ?_
           refine zD (is := [8]) (by kernel_rfl) (by simp) rfl ⟨fun o ho => ?_, trivial⟩
           all_goals (cases ho)
           refine rn6 ?_
           refine zD (is := [9]) (by kernel_rfl) (by simp) rfl ⟨fun o ho => ?_, trivial⟩
           all_goals (cases ho)
           refine zE rfl rfl rfl cp ?_
           refine rn1 ?_
           refine zD (is := [10]) (by kernel_rfl) (by simp) rfl ⟨fun o ho => ?_, trivial⟩
           all_goals (cases ho)
           refine zE rfl rfl rfl cm ?_
           refine rn1 ?_
           exact fin _ ⟨rfl, rfl, rfl, rfl, rfl, rfl, rfl, rfl, rfl, rfl, rfl, rfl, trivial⟩
       · refine rn6 ?_
         refine zD (is := [3, 9, 11]) (by kernel_rfl) (by simp) rfl ⟨fun o ho => ?_, fun o ho => ?_, fun o ho => ?_, trivial⟩
         all_goals (cases ho)
         · refine rn6 ?_
           refine zD (is := [9, 11]) (by kernel_rfl) (by simp) rfl ⟨fun o ho => ?_, fun o ho => ?_, trivial⟩
           all_goals (cases ho)
           · refine zE rfl rfl rfl cp ?_
             refine rn1 ?_
             refine zD (is := [10, 11]) (by kernel_rfl) (by simp) rfl ⟨fun o ho => ?_, fun o ho => ?_, trivial⟩
             all_goals (cases ho)
             · refine zE rfl rfl rfl cm ?_
               refine rn1 ?_
               refine zD (is := [11]) (by kernel_rfl) (by simp) rfl ⟨fun o ho => ?_, trivial⟩
               all_goals (cases ho)
               refine rn4 ?_
               exact fin _ ⟨rfl, rfl, rfl, rfl, rfl, rfl, rfl, rfl, rfl, rfl, rfl, rfl, trivial⟩
             · refine rn4 ?_
               refine zD (is := [10]) (by kernel_rfl) (by simp) rfl ⟨fun o ho => ?_, trivial⟩
               all_goals (cases ho)
               refine zE rfl rfl rfl cm ?_
               refine rn1 ?_
               exact fin _ ⟨rfl, rfl, rfl, rfl, rfl, rfl, rfl, rfl, rfl, rfl, rfl, rfl, trivial⟩
           · refine rn4 ?_
             refine zD (is := [9]) (by kernel_rfl) (by simp) rfl ⟨fun o ho => ?_, trivial⟩
             all_goals (cases ho)
             refine zE rfl rfl rfl cp ?_
             refine rn1 ?_
             refine zD (is := [10]) (by kernel_rfl) (by simp) rfl ⟨fun o ho => ?_, trivial⟩
             all_goals (cases ho)
             refine zE rfl rfl rfl cm ?_
             refine rn1 ?_
             exact fin _ ⟨rfl, rfl, rfl, rfl, rfl, rfl, rfl, rfl, rfl, rfl, rfl, rfl, trivial⟩
         · refine zE rfl rfl rfl cp ?_
           refine rn1 ?_
           refine zD (is := [3, 11]) (by kernel_rfl) (by simp) rfl ⟨fun o ho => ?_, fun o ho => ?_, trivial⟩
           all_goals (cases ho)
           · refine rn6 ?_
             refine zD (is := [10, 11]) (by kernel_rfl) (by simp) rfl ⟨fun o ho => ?_, fun o ho => ?_, trivial⟩
             all_goals (cases ho)
             · refine zE rfl rfl rfl cm ?_
               refine rn1 ?_
               refine zD (is := [11]) (by kernel_rfl) (by simp) rfl ⟨fun o ho => ?_, trivial⟩
               all_goals (cases ho)
               refine rn4 ?_
               exact fin _ ⟨rfl, rfl, rfl, rfl, rfl, rfl, rfl, rfl, rfl, rfl, rfl, rfl, trivial⟩
             · refine rn4 ?_
               refine zD (is := [10]) (by kernel_rfl) (by simp) rfl ⟨fun o ho => ?_, trivial⟩
               all_goals (cases ho)
               refine zE rfl rfl rfl cm ?_
               refine rn1 ?_
               exact fin _ ⟨rfl, rfl, rfl, rfl, rfl, rfl, rfl, rfl, rfl, rfl, rfl, rfl, trivial⟩
           · refine rn4 ?_
             refine zD (is := [3]) (by kernel_rfl) (by simp) rfl ⟨fun o ho => ?_, trivial⟩
             all_goals (cases ho)
             refine rn6 ?_
             refine zD (is := [10]) (by kernel_rfl) (by simp) rfl ⟨fun o ho => ?_, trivial⟩
             all_goals (cases ho)
             refine zE rfl rfl rfl cm ?_
             refine rn1 ?_
             exact fin _ ⟨rfl, rfl, rfl, rfl, rfl, rfl, rfl, rfl, rfl, rfl, rfl, rfl, trivial⟩
         · refine rn4 ?_
           refine zD (is := [3, 9]) (by kernel_rfl) (by simp) rfl ⟨fun o ho => ?_, fun o ho => ?_, trivial⟩
           all_goals (cases ho)
           · refine rn6 ?_
             refine zD (is := [9]) (by kernel_rfl) (by simp) rfl ⟨fun o ho => ?_, trivial⟩
             all_goals (cases ho)
             refine zE rfl rfl rfl cp ?_
             refine rn1 ?_
             refine zD (is := [10]) (by kernel_rfl) (by simp) rfl ⟨fun o ho => ?_, trivial⟩
             all_goals (cases ho)
             refine zE rfl rfl rfl cm ?_
             refine rn1 ?_
             exact fin _ ⟨rfl, rfl, rfl, rfl, rfl, rfl, rfl, rfl, rfl, rfl, rfl, rfl, trivial⟩
           · refine zE rfl rfl rfl cp ?_
             refine rn1 ?_
             refine zD (is := [3]) (by kernel_rfl) (by simp) rfl ⟨fun o ho => ?_, trivial⟩
             all_goals (cases ho)
             refine rn6 ?_
             refine zD (is := [10]) (by kernel_rfl) (by simp) rfl ⟨fun o ho => ?_, trivial⟩
             all_goals (cases ho)
             refine zE rfl rfl rfl cm ?_
             refine rn1 ?_
             exact fin _ ⟨rfl, rfl, rfl, rfl, rfl, rfl, rfl, rfl, rfl, rfl, rfl, rfl, trivial⟩
       · refine rn4 ?_
         refine zD (is := [3, 8]) (by kernel_rfl) (by simp) rfl ⟨fun o ho => ?_, fun o ho => ?_, trivial⟩
         all_goals (cases ho)
         · refine rn6 ?_
           refine zD (is := [8]) (by kernel_rfl) (by simp) rfl ⟨fun o ho => ?_, trivial⟩
           all_goals (cases ho)
           refine rn6 ?_
           refine zD (is := [9]) (by kernel_rfl) (by simp) rfl ⟨fun o ho => ?_, trivial⟩
           all_goals (cases ho)
           refine zE rfl rfl rfl cp ?_
           refine rn1 ?_
           refine zD (is := [10]) (by kernel_rfl) (by simp) rfl ⟨fun o ho => ?_, trivial⟩
           all_goals (cases ho)
           refine zE rfl rfl rfl cm ?_
           refine rn1 ?_
           exact fin _ ⟨rfl, rfl, rfl, rfl, rfl, rfl, rfl, rfl, rfl, rfl, rfl, rfl, trivial⟩
         · refine rn6 ?_
           refine zD (is := [3, 9]) (by kernel_rfl) (by simp) rfl ⟨fun o ho => ?_, fun o ho => ?_, trivial⟩
           all_goals (cases ho)
           · refine rn6 ?_
             refine zD (is := [9]) (by kernel_rfl) (by simp) rfl ⟨fun o ho => ?_, trivial⟩
             all_goals (cases ho)
             refine zE rfl rfl rfl cp ?_
             refine rn1 ?_
             refine zD (is := [10]) (by kernel_rfl) (by simp) rfl ⟨fun o ho => ?_, trivial⟩
             all_goals (cases ho)
             refine zE rfl rfl rfl cm ?_
             refine rn1 ?_
             exact fin _ ⟨rfl, rfl, rfl, rfl, rfl, rfl, rfl, rfl, rfl, rfl, rfl, rfl, trivial⟩
           · refine zE rfl rfl rfl cp ?_
             refine rn1 ?_
             refine zD (is := [3]) (by kernel_rfl) (by simp) rfl ⟨fun o ho => ?_, trivial⟩
             all_goals (cases ho)
             refine rn6 ?_
             refine zD (is := [10]) (by kernel_rfl) (by simp) rfl ⟨fun o ho => ?_, trivial⟩
             all_goals (cases ho)
             refine zE rfl rfl rfl cm ?_
             refine rn1 ?_
             exact fin _ ⟨rfl, rfl, rfl, rfl, rfl, rfl, rfl, rfl, rfl, rfl, rfl, rfl, trivial⟩
     refine zD (is := [12]) (by kernel_rfl) (by simp) rfl ⟨fun o ho => ?_, trivial⟩
     all_goals (cases ho)
     unfold qA
     refine zR (c' := .box (zAD E)) rfl rfl rfl rfl rfl Nat.zero_lt_one rfl rfl (fun i' j' hi' hj' => ?_) ?_
     · rw [if_pos (Nat.lt_one_iff.1 hi')]; rfl
     refine rn1 ?_
     refine zi (by kernel_rfl) ?_
     repeat (first | refine zC ?_ | refine zA ?_ | refine zX ?_ | refine zJ rfl ?_ | refine zB (zEk rfl rfl) ?_ | refine zB (zAe rfl rfl rfl rfl) ?_)
     apply zAj (H := [none, some ⟨122, .box [.bool false, .nil, .nil]⟩, some ⟨122, qsC S⟩, some ⟨122, .box (zAD (if p = 1 then -E else E))⟩]) [(15, .ptr 3 0 0), (14, .int .i64 (i : Nat)), (0, .ro (zd t) 0 t.length), (4, .rp (.box [.int .i64 p]) 0 0), (6, .ptr 1 0 0), (8, zC1 t p), (10, .ro (qsC (zY t (zAX t p s))) 0 t.length), (11, .sl 2 0 (zf t p).length), (47, .ro (.ints .i64 (zAq t t.length)) 0 (zAq t t.length).length), (48, .int .i64 ((zAq t t.length).length : Nat)), (49, .int .i64 (k : Nat))]
     · intro fin
       refine zF rfl (fun hp1 => ?_) (fun hp1 => ?_)
       · rw [if_pos hp1] at fin
         have co := zOa E
         refine rn6 ?_
         refine zE rfl rfl rfl co ?_
         unfold qA
         skip
         refine zR (c' := .box (zAD (-E))) rfl rfl rfl rfl rfl Nat.zero_lt_one rfl rfl (fun i' j' hi' hj' => ?_) ?_
         · rw [if_pos (Nat.lt_one_iff.1 hi')]; rfl
         repeat (first | refine zC ?_ | refine zA ?_)
         exact fin _ ⟨rfl, rfl, rfl, rfl, rfl, rfl, rfl, rfl, rfl, rfl, rfl, trivial⟩
       · rw [if_neg hp1] at fin
         repeat (first | refine zA ?_ | refine zn ?_)
         exact fin _ ⟨rfl, rfl, rfl, rfl, rfl, rfl, rfl, rfl, rfl, rfl, rfl, trivial⟩
     have dG : D 1000 (if p = 1 then -E else E) := by
       split
       · exact dE.neg
       · exact dE
     have ca := zIf (S.getD x 0) (if p = 1 then -E else E) (zFy (hshx.mono (show zEm ≤ 9 * 100000 by decide))) (zFy (dG.mono (show 1000 ≤ 9 * 100000 by decide)))
     generalize (if p = 1 then -E else E) = G at *
     have hxS : x < (qsC S).len := by show x < S.length; omega
     generalize hA : S.getD x 0 + G = A at *
     skip
     refine zl (by kernel_rfl) ?_
     refine zz (fuel := 1) [0, 1, 2, 3, 4, 5, 6, 7, 8, 9, 10, 11, 12, 13, 14, 15, 16, 17, 18, 19, 20] [(15, .ptr 3 0 0), (14, .int .i64 (i : Nat)), (0, .ro (zd t) 0 t.length), (4, .rp (.box [.int .i64 p]) 0 0), (6, .ptr 1 0 0), (8, zC1 t p), (10, .ro (qsC (zY t (zAX t p s))) 0 t.length), (11, .sl 2 0 (zf t p).length), (47, .ro (.ints .i64 (zAq t t.length)) 0 (zAq t t.length).length), (48, .int .i64 ((zAq t t.length).length : Nat)), (49, .int .i64 (k : Nat))] ⟨rfl, rfl, rfl, rfl, rfl, rfl, rfl, rfl, rfl, rfl, rfl, trivial⟩ (by kernel_rfl) (by decide) rfl rfl ?_
     refine zW rfl rfl (zH rfl) ?_
     refine zW rfl rfl (zH rfl) ?_
     refine zW rfl rfl (zBi rfl) ?_
     refine zW rfl rfl (zA7 rfl rfl rfl rfl rfl rfl) ?_
     refine zW rfl rfl (zAe rfl rfl rfl rfl) ?_
     refine zW rfl rfl (zH rfl) ?_
     refine zW rfl rfl (zh rfl rfl rfl rfl (by first | (simp only [Nat.zero_add, Int.toNat_natCast, Int.toNat_zero]; exact rfl) | exact rfl) (by omega)) ?_
     refine zW rfl rfl (zA8 rfl rfl rfl) ?_
     rw [hx]
     refine zW rfl rfl (zH rfl) ?_
     refine zW rfl rfl (zH rfl) ?_
     refine zW rfl rfl (zBi rfl) ?_
     refine zW rfl rfl (zA7 rfl rfl rfl rfl rfl rfl) ?_
     refine zW rfl rfl (zAe rfl rfl rfl rfl) ?_
     refine zW rfl rfl (zH rfl) ?_
     refine zW rfl rfl (zh rfl rfl rfl rfl (by first | (simp only [Nat.zero_add, Int.toNat_natCast, Int.toNat_zero]; exact rfl) | exact rfl) (by omega)) ?_
     refine zW rfl rfl (zA8 rfl rfl rfl) ?_
     rw [hx]
     refine zW rfl rfl (zZ rfl rfl rfl rfl rfl (by first | (simp only [Nat.zero_add, Int.toNat_natCast, Int.toNat_zero]; exact rfl) | exact rfl) (by omega)) ?_
     refine zW rfl rfl (zr rfl rfl rfl rfl rfl rfl rfl (by first | exact Nat.zero_lt_one | assumption | omega)) ?_
     refine zW rfl rfl (zr rfl rfl rfl rfl rfl rfl rfl (by first | exact Nat.zero_lt_one | assumption | omega)) ?_
     refine zCG rfl rfl rfl rfl rfl ca ?_
     refine zW rfl rfl (zZ rfl rfl rfl rfl rfl (by first | (simp only [Nat.zero_add, Int.toNat_natCast, Int.toNat_zero]; exact rfl) | exact rfl) (by omega)) ?_
     refine zAg ?_
     refine zD (is := [21]) (by kernel_rfl) (by simp) rfl ⟨fun o ho => ?_, trivial⟩
     all_goals (cases ho)
     unfold qA
     refine zR (c' := qsC (S.set x A)) rfl rfl rfl rfl rfl hxS (by show (List.set _ x _).length = _; rw [List.length_set]; rfl) rfl (fun i' j' hi' hj' => zEI 0 3 zAD S x A hxS i' j' hi' hj') ?_
     refine rn1 ?_
     refine zi (by kernel_rfl) ?_
     repeat (refine zj ?_)
     refine zA ?_
     rw [← hsuc]
     refine zAz [none, some ⟨122, .box [.bool false, .nil, .nil]⟩, some ⟨122, qsC S2⟩] [some ⟨122, .box (zAD G)⟩] [(0, .ro (zd t) 0 t.length), (4, .rp (.box [.int .i64 p]) 0 0), (6, .ptr 1 0 0), (8, zC1 t p), (10, .ro (qsC (zY t (zAX t p s))) 0 t.length), (11, .sl 2 0 (zf t p).length), (47, .ro (.ints .i64 (zAq t t.length)) 0 (zAq t t.length).length), (48, .int .i64 ((zAq t t.length).length : Nat)), (49, .int .i64 (k : Nat))] rfl ⟨rfl, rfl, rfl, rfl, rfl, rfl, rfl, rfl, rfl, trivial⟩ (fun h hh => by rw [hfix] at hh; exact absurd hh id) (belowQ1 S2) rfl ?_
     refine rn3 ?_
     exact zP ⟨k + 1, by omega, by omega, ⟨rfl, rfl, rfl, rfl, rfl, rfl, rfl, rfl, rfl, trivial⟩, by rw [hS2]⟩
   have hke : k = (zAq t t.length).length := by omega
   subst hke
   rw [hEl, zKp]
   refine rn5 ?_
   refine zED ?_
   repeat (first | refine zB (zH rfl) ?_ | refine zB (zK rfl) ?_ | refine zC ?_ | refine zA ?_ | refine zX ?_ | refine zJ rfl ?_ | refine zAA ?_ | refine zB (zBN rfl rfl rfl) ?_ | refine zB (zAe rfl rfl rfl rfl) ?_ | refine zB (zBi rfl) ?_ | refine zB (zA7 rfl rfl rfl rfl rfl rfl) ?_)
   refine zk (ι := Nat × List Rat × List (Int × Int) × Nat) (fun q => [(6, .ptr 1 0 0), (8, zC1 t p), (11, .sl 2 0 (zf t p).length), (16, .mp 3), (17, .int .i64 (q.1 : Nat))]) (fun q => [none, some ⟨122, .box [.bool false, .nil, .nil]⟩, some ⟨122, qsC q.2.1⟩, some ⟨123, choC q.2.2.1⟩])
     (fun q => Back t p (zAX t p s) q.1 q.2.1 q.2.2.1 q.2.2.2) (fun q => q.1) ((zf t p).length, zF3 t p (zAX t p s), [], 0) ⟨⟨rfl, rfl, rfl, rfl, rfl, trivial⟩, rfl, Back.top hv hw hml hpays p⟩ ?_
   rintro ⟨e, S, C, jj⟩ hB
   simp only at hB ⊢
   have hle := hB.bnd.le
   refine rn6 ?_
   refine zF rfl (fun h => ?_) (fun h => ?_)
   · have he : 1 < e := by omega
     obtain ⟨x, b, hk⟩ := hB.bnd.blk hv he
     have hst := hB.step hv he hk
     have hSl := hB.sums.len
     have hsh : ∀ j, D zEm (S.getD j 0) := hB.sums.short (zNz hw hml hpays hv) (by have := hB.few; omega)
     have hfin := hk.fin
     have hw1 := hk.w1
     have hblt := hk.lt
     have hnew := newB (hk.new hv hB.cho)
     have hseq := hk.seqs
     have hs1 := hseq (ze t p x.1 - 1) (by omega)
     rw [show x.2 + (ze t p x.1 - 1) = e - 1 by omega] at hs1
     generalize hW : ze t p x.1 = W at *
     repeat (first | refine zB (zH rfl) ?_ | refine zA ?_ | refine zX ?_ | refine zJ rfl ?_ | refine zAA ?_ | refine zn ?_ | refine zB (zBd rfl rfl (by omega)) ?_ | refine zB (zAe rfl rfl rfl rfl) ?_ | refine zB (zBi rfl) ?_ | refine zB (zA7 rfl rfl rfl rfl rfl rfl) ?_)
     refine zL 105 (.int .i64 ((e - 1 : Nat) : Int)) rfl (AEq.of_eq (by congr 1; omega)) ?_
     repeat (first | refine zB (zCJ rfl rfl rfl rfl) ?_ | refine zB (zh rfl rfl rfl rfl (by first | (simp only [Nat.zero_add, Int.toNat_natCast, Int.toNat_zero]; exact rfl) | exact rfl) (by omega)) ?_ | refine zB (zA7 rfl rfl rfl rfl rfl rfl) ?_)
     refine zL 108 (.int .i64 ((W - 1 : Nat) : Int)) rfl (AEq.of_eq (show AV.int .i64 ((zf t p).getD (e - 1) zBa).choice = _ by rw [hs1])) ?_
     repeat (first | refine zB (zK rfl) ?_ | refine zC ?_ | refine zA ?_ | refine zX ?_ | refine zB (zBd rfl rfl (by omega)) ?_)
     refine zAb 18 (.int .i64 (x.2 : Nat)) rfl (AEq.of_eq (by congr 1; omega)) ?_
     refine rn1 ?_
     refine zk (ι := Nat) (fun m => [(6, .ptr 1 0 0), (8, zC1 t p), (11, .sl 2 0 (zf t p).length), (16, .mp 3), (17, .int .i64 (e : Nat)), (18, .int .i64 (x.2 : Nat)), (19, .int .i64 (zAf S x.2 m : Nat)), (20, .int .i64 ((x.2 + m : Nat) : Int))]) (fun _ => [none, some ⟨122, .box [.bool false, .nil, .nil]⟩, some ⟨122, qsC S⟩, some ⟨123, choC C⟩])
       (fun m => m ≤ W) (fun m => W - m) 0 ⟨⟨rfl, rfl, rfl, rfl, rfl, rfl, rfl, rfl, trivial⟩, rfl, Nat.zero_le _⟩ ?_
     intro m hm'
     obtain ⟨q1, q2, q3⟩ := zD2 S x.2 m
     refine rn4 ?_
     refine zF rfl (fun h2 => ?_) (fun h2 => ?_)
     · have hmW : m < W := by omega
       have hbs : zAf S x.2 (m + 1) = if S.getD (zAf S x.2 m) 0 < S.getD (x.2 + m) 0 then x.2 + m else zAf S x.2 m := rfl
       have cc := zOD (S.getD (x.2 + m) 0) (S.getD (zAf S x.2 m) 0) (zFy ((hsh _).mono (show zEm ≤ 9 * 100000 by decide))) (zFy ((hsh _).mono (show zEm ≤ 9 * 100000 by decide)))
       have gi : x.2 + m < (qsC S).len := by show x.2 + m < S.length; omega
       have gb : zAf S x.2 m < (qsC S).len := by show zAf S x.2 m < S.length; omega
       have hlt : zAf S x.2 m < x.2 + m + 1 := q2
       generalize hN : zAf S x.2 (m + 1) = N at *
       generalize zAf S x.2 m = M at *
       refine rn1 ?_
       refine zl (by kernel_rfl) ?_
       refine zz (fuel := 0) [0, 1, 2, 3, 4, 5, 6, 7, 8, 9] [(6, .ptr 1 0 0), (8, zC1 t p), (11, .sl 2 0 (zf t p).length), (16, .mp 3), (17, .int .i64 (e : Nat)), (18, .int .i64 (x.2 : Nat)), (19, .int .i64 (M : Nat)), (20, .int .i64 ((x.2 + m : Nat) : Int))] ⟨rfl, rfl, rfl, rfl, rfl, rfl, rfl, rfl, trivial⟩ (by kernel_rfl) (by decide) rfl rfl ?_
       refine zW rfl rfl (zH rfl) ?_
       refine zW rfl rfl (zH rfl) ?_
       refine zW rfl rfl (zZ rfl rfl rfl rfl rfl (by first | (simp only [Nat.zero_add, Int.toNat_natCast, Int.toNat_zero]; exact rfl) | exact rfl) (by omega)) ?_
       refine zW rfl rfl (zr rfl rfl rfl rfl rfl rfl rfl (by first | exact Nat.zero_lt_one | assumption | omega)) ?_
       refine zW rfl rfl (zH rfl) ?_
       refine zW rfl rfl (zH rfl) ?_
       refine zW rfl rfl (zZ rfl rfl rfl rfl rfl (by first | (simp only [Nat.zero_add, Int.toNat_natCast, Int.toNat_zero]; exact rfl) | exact rfl) (by omega)) ?_
       refine zW rfl rfl (zr rfl rfl rfl rfl rfl rfl rfl (by first | exact Nat.zero_lt_one | assumption | omega)) ?_
       refine zCG rfl rfl rfl rfl rfl cc ?_
       refine zW rfl rfl (zKK rfl rfl) ?_
       refine zAg ?_
       refine zi (by kernel_rfl) ?_
       repeat (refine zA ?_)
       refine zF rfl (fun h3 => ?_) (fun h3 => ?_)
       · rw [if_pos ((cmp_gt _ _).mp h3)] at hbs
         refine rn5 ?_
         exact zP ⟨m + 1, by omega, by omega, ⟨rfl, rfl, rfl, rfl, rfl, rfl, by rw [hN, hbs]; rfl, rfl, trivial⟩, rfl⟩
       · rw [if_neg (fun q => h3 ((cmp_gt _ _).mpr q))] at hbs
         refine rn5 ?_
         exact zP ⟨m + 1, by omega, by omega, ⟨rfl, rfl, rfl, rfl, rfl, rfl, by rw [hN, hbs]; rfl, rfl, trivial⟩, rfl⟩
     have hmW : m = W := by omega
     subst hmW
     have q3 := q3 hw1
     have hs2 := hseq (zAf S x.2 m - x.2) (by omega)
     rw [show x.2 + (zAf S x.2 m - x.2) = zAf S x.2 m by omega] at hs2
     have ca := zIf (S.getD b 0) (S.getD (zAf S x.2 m) 0) (zFy ((hsh _).mono (show zEm ≤ 9 * 100000 by decide))) (zFy ((hsh _).mono (show zEm ≤ 9 * 100000 by decide)))
     have gb : b < (qsC S).len := by show b < S.length; omega
     have gM : zAf S x.2 m < (qsC S).len := by show zAf S x.2 m < S.length; omega
     have hMn : zAf S x.2 m < (zf t p).length := by omega
     generalize zAf S x.2 m = M at *
     generalize hA : S.getD b 0 + S.getD M 0 = A at *
     repeat (first | refine zB (zH rfl) ?_ | refine zA ?_ | refine zX ?_ | refine zJ rfl ?_ | refine zA3 ?_ | refine z8 ?_ | refine z7 ?_ | refine zAS ?_ | refine zB (zh rfl rfl rfl rfl (by first | (simp only [Nat.zero_add, Int.toNat_natCast, Int.toNat_zero]; exact rfl) | exact rfl) (by omega)) ?_ | refine zB (zAe rfl rfl rfl rfl) ?_ | refine zB (zBi rfl) ?_ | refine zB (zA7 rfl rfl rfl rfl rfl rfl) ?_ | refine zB (zCT rfl rfl rfl rfl rfl rfl) ?_ | refine zBK rfl rfl rfl ?_)
     refine zL 134 (.agg (zFS ⟨x.1, ((M - x.2 : Nat) : Int), (b : Int)⟩)) rfl (AEq.of_eq (by rw [← hs2]; rfl)) ?_
     refine zR (c' := .box (zFS ⟨x.1, ((M - x.2 : Nat) : Int), (b : Int)⟩)) rfl rfl rfl rfl rfl Nat.zero_lt_one rfl rfl (fun i' j' hi' hj' => ?_) ?_
     · rw [if_pos (Nat.lt_one_iff.1 hi')]; rfl
     refine rn5 ?_
     refine zCH rfl (.int rfl) rfl rfl rfl rfl rfl (keysB C) hnew ?_
     refine zA5 [none, some ⟨122, .box [.bool false, .nil, .nil]⟩, some ⟨122, qsC S⟩, some ⟨123, choC (C ++ [(x.1, ((M - x.2 : Nat) : Int))])⟩, some ⟨174, .box [.int .i64 x.1, .int .i64 ((M - x.2 : Nat) : Int), .int .i64 (b : Nat)]⟩] (zAL.same (zAL.same (zAL.same (zAL.eqv (by unfold choC; rw [List.map_append, List.map_append]; exact CEq.refl _) (zAL.eqv (CEq.refl _) zAL.nil))))) ?_
     refine rn0 ?_
     refine zl (by kernel_rfl) ?_
     refine zz (fuel := 1) [0, 1, 2, 3, 4, 5, 6, 7, 8, 9, 10, 11, 12, 13] [(21, .ptr 4 0 0), (6, .ptr 1 0 0), (8, zC1 t p), (11, .sl 2 0 (zf t p).length), (16, .mp 3), (17, .int .i64 (e : Nat)), (18, .int .i64 (x.2 : Nat)), (19, .int .i64 (M : Nat))] ⟨rfl, rfl, rfl, rfl, rfl, rfl, rfl, rfl, trivial⟩ (by kernel_rfl) (by decide) rfl rfl ?_
     refine zW rfl rfl (zH rfl) ?_
     refine zW rfl rfl (zO rfl rfl rfl rfl rfl rfl) ?_
     refine zW rfl rfl (zS rfl rfl rfl rfl rfl) ?_
     refine zW rfl rfl (zH rfl) ?_
     refine zW rfl rfl (zO rfl rfl rfl rfl rfl rfl) ?_
     refine zW rfl rfl (zS rfl rfl rfl rfl rfl) ?_
     refine zW rfl rfl (zZ rfl rfl rfl rfl rfl (by first | (simp only [Nat.zero_add, Int.toNat_natCast, Int.toNat_zero]; exact rfl) | exact rfl) (by omega)) ?_
     refine zW rfl rfl (zr rfl rfl rfl rfl rfl rfl rfl (by first | exact Nat.zero_lt_one | assumption | omega)) ?_
     refine zW rfl rfl (zH rfl) ?_
     refine zW rfl rfl (zH rfl) ?_
     refine zW rfl rfl (zZ rfl rfl rfl rfl rfl (by first | (simp only [Nat.zero_add, Int.toNat_natCast, Int.toNat_zero]; exact rfl) | exact rfl) (by omega)) ?_
     refine zW rfl rfl (zr rfl rfl rfl rfl rfl rfl rfl (by first | exact Nat.zero_lt_one | assumption | omega)) ?_
     refine zCG rfl rfl rfl rfl rfl ca ?_
     refine zW rfl rfl (zZ rfl rfl rfl rfl rfl (by first | (simp only [Nat.zero_add, Int.toNat_natCast, Int.toNat_zero]; exact rfl) | exact rfl) (by omega)) ?_
     refine zAg ?_
     refine zD (is := [14]) (by kernel_rfl) (by simp) rfl ⟨fun o ho => ?_, trivial⟩
     all_goals (cases ho)
     unfold qA
     refine zR (c' := qsC (S.set b A)) rfl rfl rfl rfl rfl gb (by show (List.set _ b _).length = _; rw [List.length_set]; rfl) rfl (fun i' j' hi' hj' => zEI 0 3 zAD S b A gb i' j' hi' hj') ?_
     refine rn1 ?_
     refine zi (by kernel_rfl) ?_
     skip
     refine zA ?_
     refine zAz [none, some ⟨122, .box [.bool false, .nil, .nil]⟩, some ⟨122, qsC (S.set b A)⟩, some ⟨123, choC (C ++ [(x.1, ((M - x.2 : Nat) : Int))])⟩] [some ⟨174, .box [.int .i64 x.1, .int .i64 ((M - x.2 : Nat) : Int), .int .i64 (b : Nat)]⟩] [(6, .ptr 1 0 0), (8, zC1 t p), (11, .sl 2 0 (zf t p).length), (16, .mp 3), (18, .int .i64 (x.2 : Nat))] rfl ⟨rfl, rfl, rfl, rfl, rfl, trivial⟩ (fun h hh => by rw [hfix] at hh; exact absurd hh id) (belowQ2 _ _) rfl ?_
     refine rn5 ?_
     exact zP ⟨(x.2, S.set b A, C ++ [(x.1, ((M - x.2 : Nat) : Int))], jj + 1), hst, by simp only; omega, ⟨rfl, rfl, rfl, rfl, rfl, trivial⟩, rfl⟩
   · have hsp := hB.stop (by omega)
     have hSl := hB.sums.len
     have g0 : 0 < (qsC S).len := by show 0 < S.length; omega
     rw [hsp] at hR
     refine rn6 ?_
     refine zR (c' := .box (zAD (S.getD 0 0))) rfl rfl rfl rfl rfl Nat.zero_lt_one rfl rfl (fun i' j' hi' hj' => ?_) ?_
     · rw [if_pos (Nat.lt_one_iff.1 hi')]; rfl
     refine rn0 ?_
     exact zI hR rfl ⟨rfl, rfl⟩
 · rintro r H ⟨rfl, rfl⟩
   refine ⟨rfl, ⟨⟨trivial, trivial, trivial, trivial⟩, trivial, trivial⟩, fun h o ho => ?_⟩
   match h, ho with
   | 0, ho => simp at ho
   | 1, ho =>
     cases ho
     intro i j _ hj
     exact zLO _ j
   | 2, ho => cases ho; exact zHB _
   | 3, ho => cases ho; exact ⟨zD8 (fun _ => rfl) _, zD8 (fun _ => rfl) _⟩
   | _ + 4, ho => simp at ho
end Go.Proofs.YtnkealfaldjipaaGreatDoor
namespace Go.Proofs.YtnkealfaldjipaaGreatDoor
open Go.Ax Go.Ax.Bg Go.Ax.Rt Go.RowKit Go.Ax.Idx Go.Ax.Cd
attribute [local irreducible] Ax zAM QOp zM zq
set_option maxRecDepth 100000
set_option maxHeartbeats 4000000
/-- The row behind the first i values. -/
def zFE (n : zAK) (k i : Nat) : List zAK := List.replicate i n ++ List.replicate (k - i) []
theorem zIc (n : zAK) (k i j : Nat) (hi : i ≤ k) (hj : j < k) : (zFE n k i).getD j [] = if j < i then n else [] := by
 unfold zFE
 simp only [List.getD, List.getElem?_append, List.length_replicate, List.getElem?_replicate]
 split
 · simp
 · rw [if_pos (by omega)]; simp
theorem zEy (n : zAK) (k i : Nat) (hi : i ≤ k) : (zFE n k i).length = k := by unfold zFE; simp; omega
theorem zO2 (n : zAK) (k : Nat) : zFE n k k = List.replicate k n := by unfold zFE; simp
theorem repeatS (n : zAK) (k : Nat) (hk : 1 ≤ k ∧ k ≤ 100000) : zJh Tryz.prog 76 [.ro (.strs [n]) 0 1, .int .i64 (k : Nat)] (fun N => .sl N 0 k) ⟨27, .strs (List.replicate k n)⟩ := by
 refine zM.fresh (K := fun r H => r = .sl 0 0 k ∧ H = [some ⟨27, .strs (List.replicate k n)⟩]) (zG (P := Tryz.prog) (fn := Tryz.f76) rfl rfl (by kernel_rfl) rfl (fun c hR hfix => ?_)) (fix := fun _ => False) (fun _ h => h) rfl (fun H => ⟨rfl, by simp [zHj, inB]⟩) ?_
 · have hm := mulB 1 k (by omega) (by omega)
   rw [Nat.one_mul, Nat.div_eq_of_lt (by omega), Nat.mod_eq_of_lt (by omega)] at hm
   refine rn4 ?_
   refine zB (zAN (m := 1) rfl rfl rfl zA4 (by decide)) ?_
   repeat (refine zB (zH rfl) ?_)
   refine zB (zAN (m := k) rfl rfl rfl zA4 (by omega)) ?_
   refine zE rfl rfl rfl hm ?_
   refine rn6 ?_
   refine zF rfl (fun h => absurd h (by omega)) (fun h => ?_)
   refine rn1 ?_
   refine zB (zD4 rfl rfl rfl (by omega)) ?_
   refine zCB rfl rfl rfl rfl rfl rfl rfl rfl (by show 0 ≤ _ ∧ _ ≤ _ ∧ (16 : Int) * _ ≤ _ ∧ _; omega) ?_
   refine rn0 ?_
   refine zNx (o := ⟨27, .strs (List.replicate k [])⟩) (c' := .strs (zFE n k 1)) (i := 0) (n := k) (i2 := 0) (m := 1) (q := 1) rfl rfl rfl rfl rfl rfl rfl (by simp [Cells.len]) (by omega) (by show 0 + 1 ≤ 1; omega) (by omega) (Nat.min_eq_left (by omega)) rfl rfl ?_ (fun i' j hi' hj => ?_) ?_
   · show (zFE n k 1).length = (List.replicate k ([] : zAK)).length
     rw [zEy n k 1 (by omega)]; simp
   · have hi2 : i' < k := by simpa [Cells.len] using hi'
     show AV.str ((zFE n k 1).getD i' []) = _
     rw [zIc n k 1 i' (by omega) hi2]
     by_cases h0 : i' < 1
     · rw [if_pos h0, if_pos (by omega)]
       have : i' = 0 := by omega
       subst this; rfl
     · rw [if_neg h0, if_neg (by omega)]
       show _ = AV.str ((List.replicate k ([] : zAK)).getD i' [])
       simp [List.getD, hi2]
   refine rn1 ?_
   refine zk (ι := Nat) (fun i => [(7, .sl 0 0 k), (8, .int .i64 (i : Nat))]) (fun i => [some ⟨27, .strs (zFE n k i)⟩]) (fun i => 1 ≤ i ∧ i ≤ k) (fun i => k - i) 1 ⟨⟨rfl, rfl, trivial⟩, rfl, by omega, by omega⟩ ?_
   rintro i ⟨hi1, hi⟩
   refine rn4 ?_
   refine zF rfl (fun h1 => ?_) (fun h1 => ?_)
   · obtain ⟨q, hq⟩ : ∃ q, Nat.min i (k - i) = q := ⟨_, rfl⟩
     have hq1 : q ≤ i ∧ q ≤ k - i ∧ 1 ≤ q := by
       subst hq
       refine ⟨Nat.min_le_left _ _, Nat.min_le_right _ _, ?_⟩
       show 1 ≤ min i (k - i)
       omega
     refine rn1 ?_
     refine zl (by kernel_rfl) ?_
     refine zN 0 rfl (by kernel_rfl) (by kernel_rfl) (by kernel_rfl) rfl (zH rfl) rfl ?_
     refine zN 1 rfl (by kernel_rfl) (by kernel_rfl) (by kernel_rfl) rfl (zH rfl) rfl ?_
     refine zN 2 rfl (by kernel_rfl) (by kernel_rfl) (by kernel_rfl) rfl (zH rfl) rfl ?_
     refine zN 4 rfl (by kernel_rfl) (by kernel_rfl) (by kernel_rfl) rfl (zH rfl) rfl ?_
     refine zN 5 rfl (by kernel_rfl) (by kernel_rfl) (by kernel_rfl) rfl (zH rfl) rfl ?_
     refine zN 3 rfl (by kernel_rfl) (by kernel_rfl) (by kernel_rfl) rfl (zGx rfl rfl rfl rfl rfl rfl rfl rfl (by omega)) rfl ?_
     refine zN 6 rfl (by kernel_rfl) (by kernel_rfl) (by kernel_rfl) rfl (zGx rfl rfl rfl rfl rfl rfl rfl rfl (by omega)) rfl ?_
     refine zBI 41 (.sl 0 i (k - i)) rfl (AEq.of_eq (by congr 1 <;> omega)) ?_
     refine zBI 44 (.sl 0 0 i) rfl (AEq.of_eq (by congr 1 <;> omega)) ?_
     refine zD (is := [7]) (by kernel_rfl) (by simp) rfl ⟨fun o ho => ?_, trivial⟩
     all_goals (cases ho)
     skip
     refine zNx (h := 0) (o := ⟨27, .strs (zFE n k i)⟩) (c' := .strs (zFE n k (i + q))) (i := i) (n := k - i) (i2 := 0) (m := i) (q := q) rfl rfl rfl rfl rfl rfl rfl (by show i + (k - i) ≤ (zFE n k i).length; rw [zEy n k i hi]; omega) (by omega) (by show 0 + i ≤ (zFE n k i).length; rw [zEy n k i hi]; omega) (by omega) hq rfl rfl ?_ (fun i' j hi' hj => ?_) ?_
     · show (zFE n k (i + q)).length = (zFE n k i).length
       rw [zEy n k i hi, zEy n k (i + q) (by omega)]
     · have hi2 : i' < k := by
         have : i' < (zFE n k i).length := hi'
         rwa [zEy n k i hi] at this
       show AV.str ((zFE n k (i + q)).getD i' []) = _
       rw [zIc n k (i + q) i' (by omega) hi2]
       by_cases h0 : i ≤ i' ∧ i' < i + q
       · rw [if_pos h0, if_pos h0.2]
         show _ = AV.str ((zFE n k i).getD (0 + (i' - i)) [])
         rw [zIc n k i _ hi (by omega), if_pos (by omega)]
       · rw [if_neg h0]
         show _ = AV.str ((zFE n k i).getD i' [])
         rw [zIc n k i i' hi hi2]
         by_cases h2 : i' < i
         · rw [if_pos h2, if_pos (by omega)]
         · rw [if_neg h2, if_neg (by omega)]
     repeat (first | refine zC ?_ | refine zg ?_)
     refine zN 8 rfl (by kernel_rfl) (by kernel_rfl) (by kernel_rfl) rfl (zC2 rfl rfl (by omega)) rfl ?_
     refine zN 9 rfl (by kernel_rfl) (by kernel_rfl) (by kernel_rfl) rfl (zK rfl) rfl ?_
     refine zi (by kernel_rfl) ?_
     repeat (refine zj ?_)
     exact zP ⟨i + q, ⟨by omega, by omega⟩, by omega, ⟨rfl, rfl, trivial⟩, rfl⟩
   · have : i = k := by omega
     subst this
     rw [zO2]
     refine rn5 ?_
     exact zI hR rfl ⟨rfl, rfl⟩
 · rintro r H ⟨rfl, rfl⟩
   refine ⟨?_, fun h o ho => zGn zFW h o ho, 0, rfl, fun n => rfl⟩
   intro o ho; simp at ho; subst ho; exact Nat.le_of_eq (by simp [Cells.len])
end Go.Proofs.YtnkealfaldjipaaGreatDoor
namespace Go.Proofs.YtnkealfaldjipaaGreatDoor
open Go.Ax Go.Ax.Bg Go.Ax.Rt Go.RowKit Go.Ax.Idx Go.Ax.Cd
attribute [local irreducible] Ax zAM QOp zM zq
set_option maxRecDepth 100000
set_option maxHeartbeats 4000000
theorem zFO (c : TChoice) (j h : Nat) (hj : j < 2) : ((cellsC c).getD j .any).forget h = (cellsC c).getD j .any := by
 match j, hj with
 | 0, _ => rfl
 | 1, _ => rfl
theorem zDt (s : zAY) : z6 (zAV s) := by
 intro i j _ hj
 have hj : j < 2 := hj
 match j, hj with
 | 0, _ => rfl
 | 1, _ => rfl
theorem growC (n : Int) (h0 : 0 ≤ n) (h1 : n ≤ 4398046511104) : zJh Tryz.prog 129 [.nil, .int .i64 n] (fun N => .sl N 0 0) ⟨67, zAV []⟩ := by
 refine zM.fresh (K := fun r H => r = .sl 0 0 0 ∧ H = [some ⟨67, zAV []⟩]) (zG (P := Tryz.prog) (fn := Tryz.f129) rfl rfl (by kernel_rfl) rfl (fun c hR hfix => ?_)) (fix := fun _ => False) (fun _ h => h) rfl (fun H => ⟨rfl, by simp [zHj, inB]⟩) ?_
 · refine rn4 ?_
   refine zF rfl (fun h => absurd h (by omega)) (fun h => ?_)
   repeat (first | refine zB (zH rfl) ?_ | refine zB (zK rfl) ?_ | refine zC ?_ | refine zA ?_ | refine zX ?_ | refine zJ rfl ?_ | refine zn ?_ | refine zB (zKK rfl rfl) ?_ | refine zB (zBN rfl rfl rfl) ?_ | refine zB (zBd rfl rfl (by omega)) ?_ | refine zB (zLq rfl rfl) ?_)
   refine zF rfl (fun h => ?_) (fun h => ?_)
   rotate_left
   · repeat (first | refine zB (zH rfl) ?_ | refine zB (zK rfl) ?_ | refine zC ?_ | refine zA ?_ | refine zX ?_ | refine zJ rfl ?_ | refine zn ?_)
     refine zBq 4 ⟨67, zAV []⟩ rfl rfl ?_
     repeat (refine zAH ?_)
     exact zI hR rfl ⟨rfl, rfl⟩
   repeat (first | refine zB (zH rfl) ?_ | refine zJ rfl ?_ | refine zB (zLq rfl rfl) ?_ | refine zB (zNb rfl rfl rfl rfl rfl rfl rfl) ?_)
   refine ax_growz rfl rfl rfl rfl rfl rfl rfl rfl rfl (by show 0 < _ ∧ _ * 32 ≤ _ ∧ _; omega) ?_
   refine rn3 ?_
   refine zB (zIR rfl rfl rfl rfl rfl rfl rfl rfl (by omega)) ?_
   refine zHV 0 (zAV []) rfl ⟨Nat.zero_le _, rfl, fun i j hi => absurd hi (Nat.not_lt_zero _)⟩ ?_
   refine rn0 ?_
   exact zI hR rfl ⟨rfl, rfl⟩
 · rintro r H ⟨rfl, rfl⟩
   refine ⟨?_, fun h o ho => zGn (zDt _) h o ho, 0, rfl, fun n => rfl⟩
   intro o ho; simp at ho; subst ho; exact Nat.zero_le _
def cellL (s : zAY) : List AV := [.ro (zAV s) 0 s.length]
abbrev zH6 (l : List zAY) : Cells := zCW [] 1 cellL l
def zCg (ls : List zAY) : Int := (ls.map fun l => (l.length : Int)).sum
theorem zHa (ls : List zAY) (k : Nat) (h : k < ls.length) : zCg (ls.take (k + 1)) = zCg (ls.take k) + ((ls.getD k []).length : Int) := by
 unfold zCg
 rw [zAm ls [] k h, List.map_append, List.sum_append]
 simp
theorem zB3 (ls : List zAY) : zCg ls = (ls.flatten.length : Int) := by
 induction ls with
 | nil => rfl
 | cons l r ih => unfold zCg at ih ⊢; simp [ih]
theorem zFd (ls : List zAY) (k : Nat) : 0 ≤ zCg (ls.take k) ∧ zCg (ls.take k) ≤ zCg ls := by
 have h : ls.flatten = (ls.take k).flatten ++ (ls.drop k).flatten := by rw [← List.flatten_append, List.take_append_drop]
 rw [zB3, zB3, h, List.length_append]; omega
theorem zJy (ls : List zAY) (k : Nat) (h : k < ls.length) : (ls.take (k + 1)).flatten = (ls.take k).flatten ++ ls.getD k [] := by
 rw [zAm ls [] k h, List.flatten_append]; simp
theorem concatC (ls : List zAY) (hlen : ls.length ≤ 1000000) (hs : zCg ls ≤ 4398046511104) :
   zJh Tryz.prog 68 [.ro (zH6 ls) 0 ls.length] (fun N => .sl N 0 ls.flatten.length) ⟨67, zAV ls.flatten⟩ := by
 refine zM.fresh (K := fun r H => r = .sl 0 0 ls.flatten.length ∧ H = [some ⟨67, zAV ls.flatten⟩]) (zG (P := Tryz.prog) (fn := Tryz.f68) rfl rfl (by kernel_rfl) rfl (fun c hR hfix => ?_)) (fix := fun _ => False) (fun _ h => h) rfl (fun H => ⟨rfl, by simp [zHj, inB]⟩) ?_
 · refine rn3 ?_
   refine zk (ι := Nat) (fun k => [(0, .ro (zH6 ls) 0 ls.length), (3, .int .i64 (zCg (ls.take k))), (9, .ro (zH6 ls) 0 ls.length), (10, .int .i64 (ls.length : Nat)), (11, .int .i64 (k : Nat))]) (fun _ => [])
     (fun k => k ≤ ls.length) (fun k => ls.length - k) 0 ⟨⟨rfl, rfl, rfl, rfl, rfl, trivial⟩, rfl, Nat.zero_le _⟩ ?_
   intro k hk
   refine rn4 ?_
   refine zF rfl (fun h1 => ?_) (fun h1 => ?_)
   · have hk' : k < ls.length := by omega
     have hsum := zHa ls k hk'
     have hb := zFd ls (k + 1)
     have hb0 := zFd ls k
     refine rn6 ?_
     refine zF rfl (fun h2 => absurd h2 (by omega)) (fun h2 => ?_)
     refine rn5 ?_
     exact zP ⟨k + 1, by omega, by omega, ⟨rfl, by rw [hsum]; rfl, rfl, rfl, rfl, trivial⟩, rfl⟩
   · have hk' : k = ls.length := by omega
     subst hk'
     simp only [List.take_length] at *
     have hfl := zB3 ls
     refine rn5 ?_
     refine zCP rfl rfl rfl (growC (zCg ls) (by omega) hs) ?_
     refine rn3 ?_
     refine zk (ι := Nat) (fun k => [(6, .sl 0 0 (ls.take k).flatten.length), (25, .ro (zH6 ls) 0 ls.length), (26, .int .i64 (ls.length : Nat)), (27, .int .i64 (k : Nat))]) (fun k => [some ⟨67, zAV (ls.take k).flatten⟩])
       (fun k => k ≤ ls.length) (fun k => ls.length - k) 0 ⟨⟨rfl, rfl, rfl, rfl, trivial⟩, rfl, Nat.zero_le _⟩ ?_
     intro k hk
     refine rn4 ?_
     refine zF rfl (fun h1 => ?_) (fun h1 => ?_)
     · have hk' : k < ls.length := by omega
       have hfs := zJy ls k hk'
       have hb := zFd ls (k + 1)
       have hsl := zHa ls k hk'
       have hb0 := zFd ls k
       have hfl0 := zB3 (ls.take k)
       refine rn6 ?_
       refine zo rfl rfl rfl rfl rfl rfl rfl rfl rfl rfl rfl rfl (by show 0 + (ls.getD k []).length ≤ (ls.getD k []).length; omega) rfl (by show ((ls.take k).flatten.length + (ls.getD k []).length) * 32 ≤ _ ∧ _; omega) ?_ (by rw [hfix]; exact fun h => h) ?_
       · intro i' j' hi' hj'
         have q := (zHY ch0 2 cellsC (ls.take k).flatten (ls.getD k [])).2.2 i' j' hi' hj'
         exact (congrArg (AV.forget 0) q.symm).trans ((zFO _ j' 0 hj').trans q)
       refine zA5 [some ⟨67, zAV (ls.take (k + 1)).flatten⟩] ?_ ?_
       · rw [hfs]
         exact zAL.eqv (zHY ch0 2 cellsC (ls.take k).flatten (ls.getD k [])) zAL.nil
       refine rn5 ?_
       refine zP ⟨k + 1, by omega, by omega, ⟨?_, rfl, rfl, rfl, trivial⟩, rfl⟩
       show some (AV.sl 0 0 ((ls.take k).flatten.length + (ls.getD k []).length)) = _
       rw [hfs, List.length_append]
     · have hk' : k = ls.length := by omega
       subst hk'
       simp only [List.take_length] at *
       refine rn5 ?_
       exact zI hR rfl ⟨rfl, rfl⟩
 · rintro r H ⟨rfl, rfl⟩
   refine ⟨?_, fun h o ho => zGn (zDt _) h o ho, 0, rfl, fun n => rfl⟩
   intro o ho; simp at ho; subst ho; show 0 + ls.flatten.length ≤ ls.flatten.length; omega
theorem zNI (l : zAY) (g : FuncId) (caps : List AV) (p : TChoice → Bool) (hc : noRef.noRefs caps = true) (hlen : l.length ≤ 9223372036854775807) (hp : ∀ x ∈ l, zV Tryz.prog g ([.agg (cellsC x)] ++ caps) (.bool (p x))) :
   zV Tryz.prog 109 [.ro (zAV l) 0 l.length, .fn g caps] (.int .i64 (zC6 p l)) := by
 refine zM.value0 (zG (P := Tryz.prog) (fn := Tryz.f109) rfl rfl (by kernel_rfl) rfl (fun c hR hfix => ?_)) (fix := fun _ => False) (fun _ h => h) (by simp [noRef.noRefs, noRef, hc]) rfl
 refine rn3 ?_
 refine zk (ι := Nat) (fun k => [(0, .ro (zAV l) 0 l.length), (1, .fn g caps), (7, .int .i64 (l.length : Nat)), (8, .int .i64 (k : Nat))]) (fun _ => [])
   (fun k => k ≤ l.length ∧ (l.take k).any p = false) (fun k => l.length - k) 0 ⟨⟨rfl, rfl, rfl, rfl, trivial⟩, rfl, Nat.zero_le _, rfl⟩ ?_
 intro k ⟨hk, hany⟩
 refine rn4 ?_
 refine zF rfl (fun h => ?_) (fun h => ?_)
 · have hk' : k < l.length := by omega
   have hanys := zCb p l ch0 k hk'
   refine rn6 ?_
   refine zL 15 (.agg (cellsC (l.getD k ch0))) rfl (AEq.of_eq rfl) ?_
   refine zE rfl rfl rfl (hp _ (zA6 ch0 hk')) ?_
   refine rn0 ?_
   refine zDQ rfl (fun h2 => ?_) (fun h2 => ?_)
   · refine rn6 ?_
     refine zI hR rfl ?_
     have := zB5 p l k hany hk
     rw [zB7 l ch0 k hk'] at this
     simp only [zC6, h2, if_true] at this
     rw [this]; simp [zBL]
   · refine rn5 ?_
     refine zP ⟨k + 1, ⟨by omega, by rw [hanys, hany, h2]; rfl⟩, by omega, ⟨rfl, rfl, rfl, rfl, trivial⟩, rfl⟩
 · have hk' : k = l.length := by omega
   subst hk'
   refine rn5 ?_
   refine zI hR rfl ?_
   have := zB5 p l l.length hany hk
   rw [List.drop_length] at this
   rw [this]; rfl
theorem zPR (l : zAY) (g : FuncId) (caps : List AV) (p : TChoice → Bool) (hc : noRef.noRefs caps = true) (hlen : l.length ≤ 9223372036854775807) (hp : ∀ x ∈ l, zV Tryz.prog g ([.agg (cellsC x)] ++ caps) (.bool (p x))) :
   zV Tryz.prog 39 [.ro (zAV l) 0 l.length, .fn g caps] (.bool (l.any p)) := by
 refine zM.value0 (zG (P := Tryz.prog) (fn := Tryz.f39) rfl rfl (by kernel_rfl) rfl (fun c hR hfix => ?_)) (fix := fun _ => False) (fun _ h => h) (by simp [noRef.noRefs, noRef, hc]) rfl
 refine rn0 ?_
 refine zE rfl rfl rfl (zNI l g caps p hc hlen hp) ?_
 repeat (first | refine zB (zK rfl) ?_ | refine zC ?_ | refine zA ?_ | refine zAH ?_ | refine zB (zC9 rfl rfl) ?_)
 refine zI hR rfl ?_
 simp only [zBL, zE0]
def zL4 (c : TChoice) : Bool := c.odds.any (fun s => decide (12 < (s.length : Int)))
theorem plain11 (s : zAK) (hs : s.length ≤ 9223372036854775807) : zV Tryz.prog 70 [.str s] (.bool (decide (12 < (s.length : Int)))) := by
 refine zM.value0 (zG (P := Tryz.prog) (fn := Tryz.f70) rfl rfl (by kernel_rfl) rfl (fun c hR hfix => ?_)) (fix := fun _ => False) (fun _ h => h) rfl rfl
 refine rn6 ?_
 exact zI hR rfl rfl
theorem plain1 (c : TChoice) (hc : ShortC c) : zV Tryz.prog 69 [.agg (cellsC c)] (.bool (zL4 c)) := by
 obtain ⟨h1, h2⟩ := hc
 have cc := zH8 c.odds 70 [] (fun s => decide (12 < (s.length : Int))) rfl h1 (fun s hs => plain11 s (h2 s hs))
 refine zM.value0 (zG (P := Tryz.prog) (fn := Tryz.f69) rfl rfl (by kernel_rfl) rfl (fun c hR hfix => ?_)) (fix := fun _ => False) (fun _ h => h) rfl rfl
 obtain ⟨nf, od⟩ := c
 unfold zL4 at hR
 unfold cellsC
 simp only at *
 refine rn6 ?_
 refine zE rfl rfl rfl cc ?_
 refine rn0 ?_
 exact zI hR rfl rfl
def zJH (ls : List zAY) : Bool := !(ls.flatten.any zL4)
theorem plain_ok (ls : List zAY) (hlen : ls.length ≤ 1000000) (hs : zCg ls ≤ 4398046511104) (hc : ∀ s ∈ ls, ∀ c ∈ s, ShortC c) : zV Tryz.prog 17 [.ro (zH6 ls) 0 ls.length] (.bool (zJH ls)) := by
 have hfl := zB3 ls
 have cc := zPR ls.flatten 69 [] zL4 rfl (by omega) (fun c hm => by
   obtain ⟨s, h1, h2⟩ := List.mem_flatten.1 hm
   exact plain1 c (hc s h1 c h2))
 refine zM.value0 (zG (P := Tryz.prog) (fn := Tryz.f17) rfl rfl (by kernel_rfl) rfl (fun c hR hfix => ?_)) (fix := fun _ => False) (fun _ h => h) rfl rfl
 unfold zJH at hR
 refine rn0 ?_
 refine zCP rfl rfl rfl (concatC ls hlen hs) ?_
 skip
 refine zFu rfl rfl rfl rfl cc (zGn (o1 := ⟨67, zAV ls.flatten⟩) (zDt _)) ⟨fun o ho => by simp at ho; subst ho; show 0 + ls.flatten.length ≤ ls.flatten.length; omega, trivial, trivial⟩ rfl rfl rfl ?_
 refine rn5 ?_
 exact zI hR rfl rfl
end Go.Proofs.YtnkealfaldjipaaGreatDoor
namespace Go.Proofs.YtnkealfaldjipaaGreatDoor
open Go.Ax Go.Ax.Bg Go.Ax.Rt Go.RowKit Go.Ax.Idx Go.Ax.Cd
attribute [local irreducible] Ax zAM QOp zM zq
set_option maxRecDepth 100000
set_option maxHeartbeats 4000000
def zE9 (t : zT) (p : Int) (s : zAY) : Int := if zBl t p ≠ 0 then zBl t p else if zBh t p = true then zBn t (1 - p) s else 10
theorem zNT {t : zT} {p : Int} {s : zAY} (h : zE9 t p s = 0) : Valid t ∧ (p = 0 ∨ p = 1) ∧ zBh t p = true ∧ zBn t (1 - p) s = 0 := by
 unfold zE9 at h
 by_cases h1 : zBl t p ≠ 0
 · rw [if_pos h1] at h; exact absurd h h1
 rw [if_neg h1] at h
 have h1 := Classical.not_not.1 h1
 unfold zBl at h1
 by_cases h2 : zE8 t ≠ 0
 · rw [if_pos h2] at h1; exact absurd h1 h2
 rw [if_neg h2] at h1
 have h3 : p = 0 ∨ p = 1 := by
   by_cases q : p ≠ 0 ∧ p ≠ 1
   · rw [if_pos q] at h1; cases h1
   · omega
 by_cases h4 : zBh t p = true
 · rw [if_pos h4] at h
   exact ⟨zI1 (Classical.not_not.1 h2), h3, h4, h⟩
 · rw [if_neg h4] at h; cases h
/-- the best choice of a set -/
def zKM (t : zT) (p : Int) (o : zw) (x : Int) : Nat := ((zKT (zBF t p o).2.2 x).getD 0).toNat
def zB2 (w c : Nat) : List zAK := (List.replicate w [48]).set c [49]
def zA9 (t : zT) (p : Int) (o : zw) (x : Int) : TChoice := ⟨x, zB2 (ze t p x) (zKM t p o x)⟩
def zAP (t : zT) (p : Int) (o : zw) : zAY := (zc t p).map (zA9 t p o)
def zEa (t : zT) (p : Int) (s : zAY) : Rat := (zBF t p (zAX t p s)).2.1.getD 0 0
/-- reply.Best -/
def zCs (t : zT) (p : Int) (s : zAY) : zAK × zAY × Int :=
 if zE9 t p s ≠ 0 then ([], [], zE9 t p s) else if (zDm (zEa t p s)).2 ≠ 0 then ([], [], (zDm (zEa t p s)).2) else ((zDm (zEa t p s)).1, zAP t p (zAX t p s), 0)
def bestA (r : zAK × zAY × Int) : AV := .tup [.str r.1, .ro (zAV r.2.1) 0 r.2.1.length, .int .i64 r.2.2]
theorem zOO {t : zT} (hv : Valid t) (hm : Go.Ax.Rt.Modest t) {p : Int} {s : zAY} (hp : p = 0 ∨ p = 1) (hpf : zBh t p = true) (hs : StrS t (1 - p) s) : D 974 (zEa t p s) := by
 rcases hp with rfl | rfl
 · exact bestV_D0 hv hm hpf hs.str
 · exact bestV_D1 hv hm hpf hs.str
theorem rowC2 (c : TChoice) (j : Nat) (hj : j < 2) : (zEh 1 2 [.int .i64 c.info, .ro (.strs c.odds) 0 c.odds.length]).at 0 j = (cellsC c).getD j .any := by
 match j, hj with
 | 0, _ => rfl
 | 1, _ => rfl
theorem zKA (t : zT) (p : Int) : (zc t p).length ≤ 10 := by
 unfold zc
 refine Nat.le_trans (List.length_filter_le _ _) ?_
 simp
theorem zOG (t : zT) (p : Int) (s : zAY) (h : Small t [s]) : zV Tryz.prog 18 [.ro (zd t) 0 t.length, .int .i64 p, .ro (zAV s) 0 s.length] (bestA (zCs t p s)) := by
 have c1 := zPE t p h.sh
 have hsh := h.sh
 have hss := h.s s (by simp)
 refine zM.value0 (zG (P := Tryz.prog) (fn := Tryz.f18) rfl rfl (by kernel_rfl) rfl (fun c hR hfix => ?_)) (fix := fun _ => False) (fun _ h => h) rfl rfl
 unfold zCs at hR
 refine rn0 ?_
 refine zE rfl rfl rfl c1 ?_
 refine rn3 ?_
 refine zF rfl (fun h1 => ?_) (fun h1 => ?_)
 · have e : zE9 t p s = zBl t p := by unfold zE9; rw [if_pos h1]
   rw [e, if_pos h1] at hR
   repeat (first | refine zB (zH rfl) ?_ | refine zB (zK rfl) ?_ | refine zC ?_ | refine zA ?_ | refine zX ?_ | refine zJ rfl ?_)
   refine zAb 7 (.ro (zAV []) 0 0) rfl AEq.nil ?_
   refine rn2 ?_
   exact zI hR rfl rfl
 have g1 := Classical.not_not.1 h1
 have hpe : Valid t ∧ (p = 0 ∨ p = 1) := by
   unfold zBl at g1
   by_cases h2 : zE8 t ≠ 0
   · rw [if_pos h2] at g1; exact absurd g1 h2
   rw [if_neg h2] at g1
   refine ⟨zI1 (Classical.not_not.1 h2), ?_⟩
   by_cases q : p ≠ 0 ∧ p ≠ 1
   · rw [if_pos q] at g1; cases g1
   · omega
 obtain ⟨hv, hp⟩ := hpe
 have c2 := zOy t p h.sh hv
 refine rn1 ?_
 refine zE rfl rfl rfl c2 ?_
 cases hpf : zBh t p
 · have e : zE9 t p s = 10 := by unfold zE9; rw [if_neg h1, if_neg (by rw [hpf]; exact fun q => by cases q)]
   rw [e, if_pos (by decide)] at hR
   repeat (first | refine zB (zK rfl) ?_ | refine zC ?_ | refine zA ?_ | refine zX ?_ | refine zJ rfl ?_ | refine zBC rfl ?_ | refine zB (zFG rfl) ?_)
   refine zAb 7 (.ro (zAV []) 0 0) rfl AEq.nil ?_
   refine rn2 ?_
   exact zI hR rfl rfl
 have eE : zE9 t p s = zBn t (1 - p) s := by unfold zE9; rw [if_neg h1, if_pos hpf]
 rw [eE] at hR
 have c3 := zFr t (1 - p) s h.sh.len hss
 repeat (first | refine zB (zH rfl) ?_ | refine zC ?_ | refine zA ?_ | refine zX ?_ | refine zJ rfl ?_ | refine zAT rfl ?_ | refine zn ?_ | refine zB (zFG rfl) ?_ | refine zB (zBd rfl rfl (by omega)) ?_)
 refine zE rfl rfl rfl c3 ?_
 refine rn3 ?_
 refine zF rfl (fun h3 => ?_) (fun h3 => ?_)
 · rw [if_pos h3] at hR
   repeat (first | refine zB (zH rfl) ?_ | refine zB (zK rfl) ?_ | refine zC ?_ | refine zA ?_ | refine zX ?_ | refine zJ rfl ?_)
   refine zAb 7 (.ro (zAV []) 0 0) rfl AEq.nil ?_
   refine rn2 ?_
   exact zI hR rfl rfl
 rw [if_neg h3] at hR
 have hs := h.str (s := s) (by simp) (Classical.not_not.1 h3)
 have c4 := zPi t p s h.sh hv h.m hp hs
 have hqD := zOO hv h.m hp hpf hs
 have c5 := zMu (zEa t p s) (zFy (hqD.mono (show 974 ≤ 9 * 100000 by decide)))
 have c6 := zNr t p h.sh.len
 have hlk := fun x hx => zGe hv (p := p) (zAX t p s) (x := x) hx
 have hin := zKA t p
 have hzl : (zBO t p).length = (zc t p).length := by unfold zBO; simp
 have c4 : zV Tryz.prog 73 [.ro (zd t) 0 t.length, .int .i64 p, .ro (zAV s) 0 s.length] (.tup [qA (zEa t p s), .rom ((zBF t p (zAX t p s)).2.2.map keyB) ((zBF t p (zAX t p s)).2.2.map valB)]) := c4
 generalize zEa t p s = q at *
 refine rn1 ?_
 refine zE rfl rfl rfl c4 ?_
 unfold qA
 refine rn4 ?_
 refine zR (c' := .box (zAD q)) rfl rfl rfl rfl rfl Nat.zero_lt_one rfl rfl (fun i' j' hi' hj' => ?_) ?_
 · rw [if_pos (Nat.lt_one_iff.1 hi')]; rfl
 refine rn6 ?_
 refine zE rfl rfl rfl c5 ?_
 refine rn3 ?_
 refine zF rfl (fun h4 => ?_) (fun h4 => ?_)
 · rw [if_pos h4] at hR
   repeat (first | refine zB (zH rfl) ?_ | refine zB (zK rfl) ?_ | refine zC ?_ | refine zA ?_ | refine zX ?_ | refine zJ rfl ?_)
   refine zAb 7 (.ro (zAV []) 0 0) rfl AEq.nil ?_
   refine rn2 ?_
   exact zI hR rfl rfl
 rw [if_neg h4] at hR
 refine rn1 ?_
 refine zE rfl rfl rfl c6 ?_
 repeat (first | refine zB (zH rfl) ?_ | refine zB (zK rfl) ?_ | refine zC ?_ | refine zA ?_ | refine zX ?_ | refine zJ rfl ?_ | refine zB (zCY rfl rfl) ?_ | refine zB (zBN rfl rfl rfl) ?_)
 refine zBq 17 ⟨67, zAV []⟩ rfl rfl ?_
 repeat (refine zAA ?_)
 refine zk (ι := Nat) (fun k => [(12, .rom ((zBF t p (zAX t p s)).2.2.map keyB) ((zBF t p (zAX t p s)).2.2.map valB)), (13, .str (zDm q).1), (16, .ro (.ints .i64 (zBO t p)) 0 (zBO t p).length), (17, .sl 1 0 k), (60, .ro (.ints .i64 (zc t p)) 0 (zc t p).length), (61, .int .i64 ((zc t p).length : Nat)), (62, .int .i64 (k : Nat))]) (fun k => [some ⟨122, .box (zAD q)⟩, some ⟨67, zAV (((zc t p).take k).map (zA9 t p (zAX t p s)))⟩])
   (fun k => k ≤ (zc t p).length) (fun k => (zc t p).length - k) 0 ⟨⟨rfl, rfl, rfl, rfl, rfl, rfl, rfl, trivial⟩, rfl, Nat.zero_le _⟩ ?_
 intro k hk
 refine rn4 ?_
 refine zF rfl (fun h => ?_) (fun h => ?_)
 · have hk' : k < (zc t p).length := by omega
   have hkz : k < (zBO t p).length := by omega
   have hxm : (zc t p).getD k 0 ∈ zc t p := zAl 0 hk'
   have hsz : (zBO t p).getD k 0 = ((ze t p ((zc t p).getD k 0) : Nat) : Int) := by
     unfold zBO; rw [zDb _ _ 0 _ _ hk']
   obtain ⟨cc, l1, l2, l3⟩ := hlk _ hxm
   have hw6 : ze t p ((zc t p).getD k 0) ≤ 6 := by
     obtain ⟨j, hj, hsj⟩ := (zBA hv).1 hxm
     rw [zCf hv hj hsj]; exact hv.few hj
   have hbc : zKM t p (zAX t p s) ((zc t p).getD k 0) = cc := by unfold zKM; rw [l1]; rfl
   obtain ⟨jj, hjj⟩ := List.getElem?_of_mem l3
   have i1 : ((zBF t p (zAX t p s)).2.2.map keyB)[jj]? = some (.int .i64 ((zc t p).getD k 0)) := by rw [List.getElem?_map, hjj]; rfl
   have i2 : ((zBF t p (zAX t p s)).2.2.map valB)[jj]? = some (.int .i64 (cc : Nat)) := by rw [List.getElem?_map, hjj]; rfl
   have htk : ((zc t p).take (k + 1)).map (zA9 t p (zAX t p s)) = ((zc t p).take k).map (zA9 t p (zAX t p s)) ++ [⟨(zc t p).getD k 0, zB2 (ze t p ((zc t p).getD k 0)) cc⟩] := by
     rw [List.take_succ_eq_append_getElem hk', List.map_append, ← zAp 0 hk', ← hbc]; rfl
   have hml : (((zc t p).take k).map (zA9 t p (zAX t p s))).length = k := by rw [List.length_map, List.length_take]; omega
   generalize hO2 : ((zc t p).take (k + 1)).map (zA9 t p (zAX t p s)) = O2 at *
   generalize ((zc t p).take k).map (zA9 t p (zAX t p s)) = O at *
   generalize ze t p ((zc t p).getD k 0) = w at *
   have crep := repeatS [48] w (by omega)
   refine rn6 ?_
   refine zL 71 (.int .i64 (w : Nat)) rfl (AEq.of_eq (by rw [hsz])) ?_
   refine zCP rfl rfl rfl crep ?_
   refine rn0 ?_
   refine zB (zBU rfl (.int rfl) rfl rfl rfl rfl (keysB _) jj i1 i2) ?_
   repeat (refine zB (zZ rfl rfl rfl rfl rfl (by first | (simp only [Nat.zero_add, Int.toNat_natCast, Int.toNat_zero]; exact rfl) | exact rfl) (by omega)) ?_)
   refine zAi (c' := .strs (zB2 w cc)) rfl rfl rfl rfl rfl rfl rfl (by show cc < (List.replicate w _).length; rw [List.length_replicate]; exact l2) ?_
   repeat (first | refine zC ?_ | refine zA ?_)
   refine zCh [some ⟨122, .box (zAD q)⟩, some ⟨67, zAV O⟩, some ⟨27, .strs (zB2 w cc)⟩] rfl ?_
   have hul : (zB2 w cc).length = w := by unfold zB2; rw [List.length_set, List.length_replicate]
   refine zAb 20 (.sl 2 0 w) rfl (AEq.of_eq rfl) ?_
   refine zBE 2 20 w [(12, .rom ((zBF t p (zAX t p s)).2.2.map keyB) ((zBF t p (zAX t p s)).2.2.map valB)), (13, .str (zDm q).1), (16, .ro (.ints .i64 (zBO t p)) 0 (zBO t p).length), (17, .sl 1 0 k), (19, .int .i64 ((zc t p).getD k 0)), (60, .ro (.ints .i64 (zc t p)) 0 (zc t p).length), (61, .int .i64 ((zc t p).length : Nat)), (62, .int .i64 (k : Nat))] rfl zFW rfl (by show w ≤ (zB2 w cc).length; omega) ⟨rfl, rfl, rfl, rfl, rfl, rfl, rfl, rfl, trivial⟩ ?_
   refine zAb 20 (.ro (.strs (zB2 w cc)) 0 (zB2 w cc).length) rfl (AEq.of_eq (by rw [hul])) ?_
   repeat (first | refine zB (zH rfl) ?_ | refine zJ rfl ?_ | refine zB (zAR rfl rfl rfl rfl rfl rfl) ?_ | refine zm rfl rfl rfl rfl rfl rfl rfl rfl rfl rfl rfl ?_)
   refine zo rfl rfl rfl rfl rfl rfl rfl rfl rfl hml rfl rfl (by show 0 + 1 ≤ 1; omega) rfl (by show (k + 1) * 32 ≤ _ ∧ _; omega) ?_ (by rw [hfix]; exact fun h => h) ?_
   · intro i' j hi hj
     exact zG7 ch0 2 cellsC zFO O ⟨(zc t p).getD k 0, zB2 w cc⟩ _ (rowC2 ⟨(zc t p).getD k 0, zB2 w cc⟩) 1 i' j hi hj
   repeat (first | refine zB (zK rfl) ?_ | refine zC ?_ | refine zj ?_)
   refine zA ?_
   refine zEe ([some ⟨122, .box (zAD q)⟩, some ⟨67, zAV O2⟩] ++ [none]) ?_ ?_
   · rw [htk]
     exact zAL.eqv (CEq.refl _) (zAL.eqv (zE1 ch0 2 cellsC O ⟨(zc t p).getD k 0, zB2 w cc⟩ _ (rowC2 ⟨(zc t p).getD k 0, zB2 w cc⟩)) (zAL.drop zAL.nil))
   refine zIm (H1 := [some ⟨122, .box (zAD q)⟩, some ⟨67, zAV O2⟩]) rfl (by rw [hfix]; exact fun h => h) ?_
   refine zEe [some ⟨122, .box (zAD q)⟩, some ⟨67, zAV O2⟩] ?_ ?_
   · exact zAL.eqv (CEq.refl _) (zAL.eqv ⟨rfl, rfl, fun i j _ hj => (zFO _ j _ hj).symm⟩ zAL.nil)
   refine rn3 ?_
   exact zP ⟨k + 1, by omega, by omega, ⟨rfl, rfl, rfl, rfl, rfl, rfl, rfl, trivial⟩, by rw [hO2]⟩
 · have hke : k = (zc t p).length := by omega
   subst hke
   rw [List.take_length]
   have hbl : (zAP t p (zAX t p s)).length = (zc t p).length := by unfold zAP; rw [List.length_map]
   have hbs : (zc t p).map (zA9 t p (zAX t p s)) = zAP t p (zAX t p s) := rfl
   rw [hbs]
   generalize zAP t p (zAX t p s) = B at *
   repeat (first | refine zA ?_ | refine zX ?_ | refine zA3 ?_ | refine z8 ?_ | refine z7 ?_ | refine zAS ?_)
   refine zBE 1 17 (zc t p).length [(13, .str (zDm q).1)] rfl (zDt _) rfl (by show _ ≤ B.length; omega) ⟨rfl, trivial⟩ ?_
   refine zAb 17 (.ro (zAV B) 0 B.length) rfl (AEq.of_eq (by rw [hbl])) ?_
   refine rn0 ?_
   exact zI hR rfl rfl
end Go.Proofs.YtnkealfaldjipaaGreatDoor
namespace Go.Proofs.YtnkealfaldjipaaGreatDoor
open Go.Ax Go.Ax.Bg Go.Ax.Rt Go.RowKit Go.Ax.Idx Go.Ax.Cd
attribute [local irreducible] Ax zAM QOp zM zq
set_option maxRecDepth 100000
set_option maxHeartbeats 4000000
theorem zPz (t : zT) (g : FuncId) (caps : List AV) (q : TNode → Bool) (hc : noRef.noRefs caps = true) (hlen : t.length ≤ 9223372036854775807) (hp : ∀ n ∈ t, zV Tryz.prog g ([.agg (zBY n)] ++ caps) (.bool (q n))) :
   zV Tryz.prog 64 [.ro (zd t) 0 t.length, .fn g caps] (.bool (t.any q)) := by
 have ci := zJA t g caps q hc hlen hp
 refine zM.value0 (zG (P := Tryz.prog) (fn := Tryz.f64) rfl rfl (by kernel_rfl) rfl (fun c hR hfix => ?_)) (fix := fun _ => False) (fun _ h => h) (by simp [noRef.noRefs, noRef, hc]) rfl
 refine rn0 ?_
 refine zE rfl rfl rfl ci ?_
 repeat (first | refine zB (zK rfl) ?_ | refine zC ?_ | refine zA ?_ | refine zAH ?_ | refine zB (zC9 rfl rfl) ?_)
 refine zI hR rfl ?_
 simp only [zBL, zE0]
def zKO (n : TNode) : Bool := decide (12 < (n.pay.length : Int)) || n.odds.any (fun s => decide (12 < (s.length : Int)))
theorem modest11 (s : zAK) (hs : s.length ≤ 9223372036854775807) : zV Tryz.prog 67 [.str s] (.bool (decide (12 < (s.length : Int)))) := by
 refine zM.value0 (zG (P := Tryz.prog) (fn := Tryz.f67) rfl rfl (by kernel_rfl) rfl (fun c hR hfix => ?_)) (fix := fun _ => False) (fun _ h => h) rfl rfl
 refine rn6 ?_
 exact zI hR rfl rfl
theorem modest1 (n : TNode) (hn : ShortN n) : zV Tryz.prog 65 [.agg (zBY n)] (.bool (zKO n)) := by
 obtain ⟨h1, h2, h3, h4⟩ := hn
 have cc := zH8 n.odds 67 [] (fun s => decide (12 < (s.length : Int))) rfl h2 (fun s hs => modest11 s (h3 s hs))
 refine zM.value0 (zG (P := Tryz.prog) (fn := Tryz.f65) rfl rfl (by kernel_rfl) rfl (fun c hR hfix => ?_)) (fix := fun _ => False) (fun _ h => h) rfl rfl
 obtain ⟨kd, pl, nf, nx, od, py⟩ := n
 unfold zKO at hR
 unfold zBY
 simp only at *
 refine rn6 ?_
 refine zt rfl rfl (fun g1 => ?_) (fun g1 => ?_)
 · rw [decide_eq_true g1, Bool.true_or] at hR
   refine rn6 ?_
   exact zI hR rfl rfl
 · rw [decide_eq_false g1, Bool.false_or] at hR
   refine rn5 ?_
   refine zE rfl rfl rfl cc ?_
   refine rn2 ?_
   exact zI hR rfl rfl
def zHX (t : zT) : Bool := decide ((t.length : Int) ≤ 40) && !(t.any zKO)
theorem zIY {t : zT} (h : zHX t = true) : Go.Ax.Rt.Modest t := by
 unfold zHX at h
 rw [Bool.and_eq_true, decide_eq_true_eq, Bool.not_eq_true', List.any_eq_false] at h
 obtain ⟨h1, h2⟩ := h
 refine ⟨by omega, fun n hn => ?_, fun n hn r hr => ?_⟩
 · have := h2 n hn
   unfold zKO at this
   rw [Bool.not_eq_true, Bool.or_eq_false_iff, decide_eq_false_iff_not] at this
   omega
 · have := h2 n hn
   unfold zKO at this
   rw [Bool.not_eq_true, Bool.or_eq_false_iff, List.any_eq_false] at this
   have := this.2 r hr
   rw [decide_eq_true_eq] at this
   omega
theorem zOv (t : zT) (hT : ShortT t) : zV Tryz.prog 16 [.ro (zd t) 0 t.length] (.bool (zHX t)) := by
 have cc := zPz t 65 [] zKO rfl hT.len (fun n hn => modest1 n (hT.node n hn))
 have hlen := hT.len
 refine zM.value0 (zG (P := Tryz.prog) (fn := Tryz.f16) rfl rfl (by kernel_rfl) rfl (fun c hR hfix => ?_)) (fix := fun _ => False) (fun _ h => h) rfl rfl
 unfold zHX at hR
 repeat (first | refine zB (zH rfl) ?_ | refine zB (zK rfl) ?_ | refine zC ?_ | refine zA ?_ | refine zX ?_ | refine zJ rfl ?_ | refine zB (zIq rfl rfl) ?_ | refine zB (zBN rfl rfl rfl) ?_)
 refine zt rfl rfl (fun g1 => ?_) (fun g1 => ?_)
 · rw [decide_eq_true g1, Bool.true_and] at hR
   refine rn2 ?_
   refine zE rfl rfl rfl cc ?_
   refine rn5 ?_
   exact zI hR rfl rfl
 · rw [decide_eq_false g1, Bool.false_and] at hR
   refine rn6 ?_
   exact zI hR rfl rfl
theorem zM3 {ls : List zAY} (h : zJH ls = true) : ∀ s ∈ ls, ∀ c ∈ s, ∀ r ∈ c.odds, r.length ≤ 12 := by
 unfold zJH at h
 rw [Bool.not_eq_true', List.any_eq_false] at h
 intro s hs c hc r hr
 have := h c (List.mem_flatten.2 ⟨s, hs, hc⟩)
 unfold zL4 at this
 rw [Bool.not_eq_true, List.any_eq_false] at this
 have := this r hr
 rw [decide_eq_true_eq] at this
 omega
end Go.Proofs.YtnkealfaldjipaaGreatDoor
namespace Go.Ax.Rt
open Go.Ax.Bg Go.Ax.Dt
set_option maxRecDepth 100000
def allV : List zAK → List Rat → Bool
 | [], [] => true
 | s :: r, q :: t => decide (IsQ s q) && allV r t
 | _, _ => false
theorem zJu : ∀ {s : List zAK} {l : List Rat}, allV s l = true → l.map zAJ = s ∧ l.all zCR = true
 | [], [], _ => ⟨rfl, rfl⟩
 | [], _ :: _, h => by cases h
 | _ :: _, [], h => by cases h
 | a :: r, q :: t, h => by
   simp only [allV, Bool.and_eq_true, decide_eq_true_eq] at h
   obtain ⟨h1, h2⟩ := zJu h.2
   refine ⟨by rw [List.map_cons, h.1.text, h1], ?_⟩
   rw [List.all_cons, h.1.fit, h2]; rfl
theorem allV_f {s : List zAK} {l : List Rat} (h : allV s l = true) : zBD l = (s, 0) := by
 unfold zBD
 rw [if_pos (zJu h).2, (zJu h).1]
def allM : List (List zAK) → List (List Rat) → Bool
 | [], [] => true
 | s :: r, q :: t => allV s q && allM r t
 | _, _ => false
def fourT : List (List zAK) := [[[49], [50]], [[51], [52]]]
def signT : List (List zAK) := [[[49], [49]], [[49], [45, 49]]]
theorem zJc {q : List (List Rat)} : ∀ r ∈ (outM q).1, ∀ s ∈ r, s.length ≤ 9223372036854775807 := by
 intro r hr s hs
 unfold outM at hr
 split at hr
 · rename_i h
   obtain ⟨x, hx, rfl⟩ := List.mem_map.1 hr
   obtain ⟨y, hy, rfl⟩ := List.mem_map.1 hs
   have h2 := List.all_eq_true.1 (List.all_eq_true.1 h x hx) y hy
   unfold zCR at h2
   rw [Bool.and_eq_true, decide_eq_true_eq, decide_eq_true_eq] at h2
   unfold zAJ
   rw [List.length_append, List.length_append]
   have h1 : (if y.num < 0 then [45] else [] : List UInt8).length ≤ 1 := by split <;> simp
   have h3 : (if y.den = 1 then [] else 47 :: Lib.decDigits y.den : List UInt8).length ≤ 2001 := by
     split
     · simp
     · rw [List.length_cons]; omega
   omega
 · simp at hr
abbrev MaxL : Nat := 9223372036854775807
structure ShortM (m : List (List zAK)) : Prop where
 len : m.length ≤ MaxL
 row : ∀ r ∈ m, r.length ≤ MaxL ∧ ∀ s ∈ r, s.length ≤ MaxL
structure ShortV (v : List zAK) : Prop where
 len : v.length ≤ MaxL
 each : ∀ s ∈ v, s.length ≤ MaxL
theorem ShortM.wid {m : List (List zAK)} (h : ShortM m) : zDr m ≤ MaxL := by
 unfold zDr
 cases m with
 | nil => exact Nat.zero_le _
 | cons x _ => exact (h.row x (by simp)).1
theorem ShortM.nil : ShortM [] := ⟨Nat.zero_le _, fun r hr => by simp at hr⟩
theorem ShortV.nil : ShortV [] := ⟨Nat.zero_le _, fun r hr => by simp at hr⟩
theorem ShortM.out {q : List (List Rat)} (h1 : q.length ≤ MaxL) (h2 : ∀ r ∈ q, r.length ≤ MaxL) : ShortM (outM q).1 := by
 have h3 := @zJc q
 refine ⟨?_, fun r hr => ⟨?_, h3 r hr⟩⟩
 · unfold outM
   split
   · simpa using h1
   · exact Nat.zero_le _
 · unfold outM at hr
   split at hr
   · obtain ⟨x, hx, rfl⟩ := List.mem_map.1 hr
     rw [List.length_map]; exact h2 x hx
   · simp at hr
theorem ShortM.mul {a b : List (List zAK)} (ha : ShortM a) (hb : ShortM b) : ShortM (mulR a b).1 := by
 unfold mulR
 split
 · exact ShortM.nil
 split
 · exact ShortM.nil
 split
 · refine ShortM.out (by simpa [mulQ, inM] using ha.len) (fun r hr => ?_)
   obtain ⟨x, hx, rfl⟩ := List.mem_map.1 hr
   rw [List.length_map, zP4]; exact hb.wid
 · exact ShortM.nil
theorem ShortM.trans {a : List (List zAK)} (ha : ShortM a) : ShortM (transR a).1 := by
 unfold transR
 split
 · exact ShortM.nil
 · refine ⟨by simpa [transT] using ha.wid, fun r hr => ?_⟩
   obtain ⟨k, hk, rfl⟩ := List.mem_map.1 hr
   refine ⟨by simpa using ha.len, fun s hs => ?_⟩
   obtain ⟨x, hx, rfl⟩ := List.mem_map.1 hs
   rcases Nat.lt_or_ge k x.length with q | q
   · exact (ha.row x hx).2 _ (by rw [zAp [] q]; exact List.getElem_mem q)
   · have : x.getD k [] = [] := by simp [List.getD, q]
     rw [this]; exact Nat.zero_le _
theorem ShortV.out {l : List Rat} (h : l.length ≤ MaxL) : ShortV (zBD l).1 := by
 have h3 := zJc (q := [l])
 refine ⟨?_, fun s hs => ?_⟩
 · unfold zBD
   split
   · simpa using h
   · exact Nat.zero_le _
 · unfold zBD at hs
   split at hs
   · rename_i h1
     have e : (outM [l]).1 = [l.map zAJ] := by
       unfold outM
       rw [if_pos (by simpa using h1)]
       rfl
     rw [e] at h3
     exact h3 _ (by simp) s hs
   · simp at hs
theorem ShortM.apply {a : List (List zAK)} (ha : ShortM a) (v : List zAK) : ShortV (applyR a v).1 := by
 unfold applyR
 split
 · exact ShortV.nil
 split
 · exact ShortV.nil
 split
 · exact ShortV.nil
 · exact ShortV.out (by simpa [applyQ, inM] using ha.len)
end Go.Ax.Rt
namespace Go.Ax.Rt
open Go.Ax.Bg Go.Ax.Idx
set_option maxRecDepth 100000
def zA1 : zT := [⟨2, 0, 0, [1, 2], [], []⟩, ⟨2, 1, 3, [3, 4], [], []⟩, ⟨2, 1, 3, [5, 6], [], []⟩, ⟨0, 0, 0, [], [], [45, 49]⟩, ⟨0, 0, 0, [], [], [49]⟩, ⟨0, 0, 0, [], [], [49]⟩, ⟨0, 0, 0, [], [], [45, 49]⟩]
def zCd (n : Int) : zAY := [⟨n, [[49, 47, 50], [49, 47, 50]]⟩]
end Go.Ax.Rt
