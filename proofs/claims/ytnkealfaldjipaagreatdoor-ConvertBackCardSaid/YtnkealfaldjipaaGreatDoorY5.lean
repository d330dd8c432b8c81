import Derived.Test.YtnkealfaldjipaaGreatDoorY4
set_option linter.unusedVariables false
set_option linter.unusedSimpArgs false
namespace Go.Proofs.YtnkealfaldjipaaGreatDoor
open Go.Ax Go.Ax.Bg Go.Ax.Rt Go.RowKit Go.Ax.Idx Go.Ax.Cd
attribute [local irreducible] Ax zAM QOp zO zo
set_option maxRecDepth 100000
set_option maxHeartbeats 4000000
abbrev zG0 (F : List (Int × Nat)) : Cells := .mp (F.map (fun x => .int .i64 x.1)) (F.map (fun x => .int .i64 (x.2 : Nat)))
theorem zIp (F : List (Int × Nat)) : ∀ x ∈ F.map (fun x : Int × Nat => AV.int .i64 x.1), zDS (.int .i64) x = true := by
 intro x hx
 obtain ⟨e, _, rfl⟩ := List.mem_map.1 hx
 rfl
theorem zDT {m : List (Int × Nat)} {k : Int} {s : Nat} (h : zCN m k = some s) : ∃ j : Nat, (m.map (fun x : Int × Nat => AV.int .i64 x.1))[j]? = some (.int .i64 k) ∧ (m.map (fun x : Int × Nat => AV.int .i64 (x.2 : Nat)))[j]? = some (.int .i64 (s : Nat)) := by
 obtain ⟨j, hj⟩ := List.getElem?_of_mem (zCy h)
 exact ⟨j, by rw [List.getElem?_map, hj]; rfl, by rw [List.getElem?_map, hj]; rfl⟩
theorem zGl {m : List (Int × Nat)} {k : Int} (h : zCN m k = none) : AV.int .i64 k ∉ m.map (fun x : Int × Nat => AV.int .i64 x.1) := by
 intro hm
 obtain ⟨x, hx, e⟩ := List.mem_map.1 hm
 have := zHL h
 injection e with e1 e2
 exact this (List.mem_map.2 ⟨x, hx, e2⟩)
theorem zFK (F : List (Int × Nat)) (n : Nat) : zA6 n (zG0 F) := ⟨zCz (fun _ => rfl) F, zCz (fun _ => rfl) F⟩
theorem zOv {p : Int} {kd pl nf : Int} {nx : List Int} {od : List zAK} {py : zAK} : own p ⟨kd, pl, nf, nx, od, py⟩ = (decide (kd = 2) && decide (pl = p)) := rfl
theorem zK0 (t : zS) (p : Int) (hT : ShortT t) (hv : Valid t) : zW Tryz.prog 72 [.ro (zd t) 0 t.length, .int .i64 p] (.bool (zCm t p)) := by
 have hlen := hT.len
 have h120 := hv.le
 have cw := ways_ok t p hT hv
 have hWl : (zHN t p).length = t.length := zGo t p t.length
 have hWs := zOK hv p
 have hmono : ∀ n i, i ≤ n → zF2 t p (zHN t p) i = false → zF2 t p (zHN t p) n = false := by
   intro n
   induction n with
   | zero => intro i hi h; obtain rfl : i = 0 := by omega
             exact h
   | succ n ih =>
     intro i hi h
     by_cases e : i = n + 1
     · subst e; exact h
     · rw [zF2, ih i (by omega) h]; rfl
 refine zO.value0 (zF (P := Tryz.prog) (fn := Tryz.f72) rfl rfl (by kernel_rfl) rfl (fun c hR hfix => ?_)) (fix := fun _ => False) (fun _ h => h) rfl rfl
 have hR : c.R = fun r' _ => r' = .bool (zF2 t p (zHN t p) t.length) := hR
 generalize zHN t p = W at *
 refine rn0 ?_
 refine zE rfl rfl rfl cw ?_
 refine rn0 ?_
 refine zFh ?_
 refine rn3 ?_
 refine zg (ι := Nat) (fun i => [(0, .ro (zd t) 0 t.length), (1, .int .i64 p), (5, .ro (zB3 W) 0 t.length), (6, .mp 0), (15, .ro (zd t) 0 t.length), (16, .int .i64 (t.length : Nat)), (17, .int .i64 (i : Nat))]) (fun i => [some ⟨123, zG0 (zBm t p i)⟩])
   (fun i => i ≤ t.length ∧ zF2 t p W i = true) (fun i => t.length - i) 0 ⟨⟨rfl, rfl, rfl, rfl, rfl, rfl, rfl, trivial⟩, rfl, Nat.zero_le _, rfl⟩ ?_
 rintro i ⟨hi, hP⟩
 refine rn4 ?_
 refine zD rfl (fun h => ?_) (fun h => ?_)
 · have hi' : i < t.length := by omega
   have hfs : zBm t p (i + 1) = if own p (t.getD i node0) = true ∧ zCN (zBm t p i) (t.getD i node0).info = none then zBm t p i ++ [((t.getD i node0).info, i)] else zBm t p i := rfl
   have hps : zF2 t p W (i + 1) = (zF2 t p W i && (if own p (t.getD i node0) = true then (match zCN (zBm t p i) (t.getD i node0).info with | none => true | some k => decide (W.getD i [] = W.getD k [])) else true)) := rfl
   have hff : ∀ x ∈ zBm t p i, x.2 < i := fun x hx => (zEx hx).1
   have hno := hmono t.length (i + 1) (by omega)
   rw [hP, Bool.true_and] at hps
   generalize hF2 : zBm t p (i + 1) = F2 at *
   generalize zBm t p i = F at *
   generalize hP2 : zF2 t p W (i + 1) = P2 at *
   refine rn6 ?_
   refine zN 21 (.agg (zBz (t.getD i node0))) rfl (AEq.of_eq rfl) ?_
   generalize t.getD i node0 = n at *
   obtain ⟨kd, pl, nf, nx, od, py⟩ := n
   simp only at *
   refine zQ (c' := .box [.int .i64 kd, .int .i64 pl, .int .i64 nf, .ro (.ints .i64 nx) 0 nx.length, .ro (.strs od) 0 od.length, .str py]) rfl rfl rfl rfl rfl Nat.zero_lt_one rfl rfl (fun i' j' hi' hj' => ?_) ?_
   · rw [if_pos (Nat.lt_one_iff.1 hi')]; rfl
   refine zAb [some ⟨123, zG0 F⟩, some ⟨40, .box [.int .i64 kd, .int .i64 pl, .int .i64 nf, .ro (.ints .i64 nx) 0 nx.length, .ro (.strs od) 0 od.length, .str py]⟩] rfl ?_
   refine rn5 ?_
   refine z8 rfl rfl (fun g1 => ?_) (fun g1 => ?_)
   · rw [zOv, decide_eq_false g1, Bool.false_and] at hfs hps
     rw [if_neg (by rintro ⟨q, _⟩; cases q)] at hfs
     rw [if_neg (by decide)] at hps
     repeat (first | refine zB ?_ | refine zAm rfl rfl rfl ?_ | refine zC (zAe rfl rfl) ?_)
     refine zA ?_
     repeat (first | refine zAV rfl ?_ | refine zAq ?_ | refine zq ?_ | refine zp ?_)
     refine zA ?_
     refine zAa [some ⟨123, zG0 (F)⟩] [some ⟨40, .box [.int .i64 kd, .int .i64 pl, .int .i64 nf, .ro (.ints .i64 nx) 0 nx.length, .ro (.strs od) 0 od.length, .str py]⟩] [(0, .ro (zd t) 0 t.length), (1, .int .i64 p), (5, .ro (zB3 W) 0 t.length), (6, .mp 0), (15, .ro (zd t) 0 t.length), (16, .int .i64 (t.length : Nat)), (17, .int .i64 (i : Nat))] rfl ⟨rfl, rfl, rfl, rfl, rfl, rfl, rfl, trivial⟩ (fun h hh => by rw [hfix] at hh; exact absurd hh id) (zBg (zFK _ _)) rfl ?_
     refine rn3 ?_
     exact zM ⟨i + 1, ⟨by omega, by rw [hP2, hps]⟩, by omega, ⟨rfl, rfl, rfl, rfl, rfl, rfl, rfl, trivial⟩, by rw [hF2, hfs]⟩
   have g1 := Classical.not_not.1 g1
   refine rn5 ?_
   refine zD rfl (fun g2 => ?_) (fun g2 => ?_)
   · rw [zOv, decide_eq_true g1, decide_eq_false g2, Bool.true_and] at hfs hps
     rw [if_neg (by rintro ⟨q, _⟩; cases q)] at hfs
     rw [if_neg (by decide)] at hps
     repeat (first | refine zAq ?_ | refine zq ?_ | refine zp ?_)
     refine zA ?_
     refine zAa [some ⟨123, zG0 (F)⟩] [some ⟨40, .box [.int .i64 kd, .int .i64 pl, .int .i64 nf, .ro (.ints .i64 nx) 0 nx.length, .ro (.strs od) 0 od.length, .str py]⟩] [(0, .ro (zd t) 0 t.length), (1, .int .i64 p), (5, .ro (zB3 W) 0 t.length), (6, .mp 0), (15, .ro (zd t) 0 t.length), (16, .int .i64 (t.length : Nat)), (17, .int .i64 (i : Nat))] rfl ⟨rfl, rfl, rfl, rfl, rfl, rfl, rfl, trivial⟩ (fun h hh => by rw [hfix] at hh; exact absurd hh id) (zBg (zFK _ _)) rfl ?_
     refine rn3 ?_
     exact zM ⟨i + 1, ⟨by omega, by rw [hP2, hps]⟩, by omega, ⟨rfl, rfl, rfl, rfl, rfl, rfl, rfl, trivial⟩, by rw [hF2, hfs]⟩
   have g2 := Classical.not_not.1 g2
   rw [zOv, decide_eq_true g1, decide_eq_true g2, Bool.true_and] at hfs hps
   rw [if_pos rfl] at hps
   refine rn5 ?_
   cases hL : zCN F nf with
   | none =>
     rw [hL, if_pos ⟨rfl, rfl⟩] at hfs
     rw [hL] at hps
     simp only at hps
     refine zC (zFA rfl (.int rfl) rfl rfl rfl rfl rfl rfl rfl rfl (zIp F) (zGl hL)) ?_
     refine rn5 ?_
     refine zDB rfl (.int rfl) rfl rfl rfl rfl rfl (zIp F) (zGl hL) ?_
     refine zAb [some ⟨123, zG0 (F ++ [(nf, i)])⟩, some ⟨40, .box [.int .i64 kd, .int .i64 pl, .int .i64 nf, .ro (.ints .i64 nx) 0 nx.length, .ro (.strs od) 0 od.length, .str py]⟩] (by unfold zG0; rw [List.map_append, List.map_append]; rfl) ?_
     repeat (refine zB ?_)
     refine zA ?_
     refine zAa [some ⟨123, zG0 (F ++ [(nf, i)])⟩] [some ⟨40, .box [.int .i64 kd, .int .i64 pl, .int .i64 nf, .ro (.ints .i64 nx) 0 nx.length, .ro (.strs od) 0 od.length, .str py]⟩] [(0, .ro (zd t) 0 t.length), (1, .int .i64 p), (5, .ro (zB3 W) 0 t.length), (6, .mp 0), (15, .ro (zd t) 0 t.length), (16, .int .i64 (t.length : Nat)), (17, .int .i64 (i : Nat))] rfl ⟨rfl, rfl, rfl, rfl, rfl, rfl, rfl, trivial⟩ (fun h hh => by rw [hfix] at hh; exact absurd hh id) (zBg (zFK _ _)) rfl ?_
     refine rn5 ?_
     exact zM ⟨i + 1, ⟨by omega, by rw [hP2, hps]⟩, by omega, ⟨rfl, rfl, rfl, rfl, rfl, rfl, rfl, trivial⟩, by rw [hF2, hfs]⟩
   | some k0 =>
     rw [hL, if_neg (by rintro ⟨_, q⟩; cases q)] at hfs
     rw [hL] at hps
     simp only at hps
     obtain ⟨jj, i1, i2⟩ := zDT hL
     have hk0 := hff _ (zCy hL)
     simp only at hk0
     have hk0' : k0 < t.length := by omega
     have hw0 : ∀ z, (W.getD z []).length ≤ 9223372036854775807 := fun z => zJn (P := fun w : zCZ => w.length ≤ 9223372036854775807) (fun w hw => Nat.le_trans (hWs w hw) (by decide)) (Nat.zero_le _) z
     have ceq := equalP (W.getD i []) (W.getD k0 []) (hw0 i) (hw0 k0)
     refine zC (zB7 rfl (.int rfl) rfl rfl rfl rfl (zIp F) jj i1 i2) ?_
     refine rn5 ?_
     refine zn (by kernel_rfl) ?_
     refine zr (fuel := 0) [0, 1, 2, 3, 4, 5, 6, 7, 8, 9] [(0, .ro (zd t) 0 t.length), (1, .int .i64 p), (5, .ro (zB3 W) 0 t.length), (6, .mp 0), (15, .ro (zd t) 0 t.length), (16, .int .i64 (t.length : Nat)), (17, .int .i64 (i : Nat)), (7, .int .i64 (i : Nat)), (8, .ptr 1 0 0), (9, .int .i64 (k0 : Nat))] ⟨rfl, rfl, rfl, rfl, rfl, rfl, rfl, rfl, rfl, rfl, trivial⟩ (by kernel_rfl) (by decide) rfl rfl ?_
     refine zX rfl rfl (zI rfl) ?_
     refine zX rfl rfl (zI rfl) ?_
     refine zX rfl rfl (zf rfl rfl rfl rfl (by first | (simp only [Nat.zero_add, Int.toNat_natCast, Int.toNat_zero]; exact rfl) | exact rfl) (by omega)) ?_
     refine zX rfl rfl (zCA rfl rfl rfl rfl) ?_
     refine zX rfl rfl (zI rfl) ?_
     refine zX rfl rfl (zI rfl) ?_
     refine zX rfl rfl (zf rfl rfl rfl rfl (by first | (simp only [Nat.zero_add, Int.toNat_natCast, Int.toNat_zero]; exact rfl) | exact rfl) (by omega)) ?_
     refine zX rfl rfl (zCA rfl rfl rfl rfl) ?_
     refine zBc rfl rfl rfl rfl rfl ceq ?_
     refine zX rfl rfl (zEB rfl) ?_
     refine zAc ?_
     refine zh (by kernel_rfl) ?_
     repeat (refine zA ?_)
     by_cases he : W.getD i [] = W.getD k0 []
     · rw [decide_eq_true he] at hps ⊢
       repeat (first | refine zx rfl ?_ | refine za ?_ | refine zi ?_)
       refine zA ?_
       refine zAa [some ⟨123, zG0 (F)⟩] [some ⟨40, .box [.int .i64 kd, .int .i64 pl, .int .i64 nf, .ro (.ints .i64 nx) 0 nx.length, .ro (.strs od) 0 od.length, .str py]⟩] [(0, .ro (zd t) 0 t.length), (1, .int .i64 p), (5, .ro (zB3 W) 0 t.length), (6, .mp 0), (15, .ro (zd t) 0 t.length), (16, .int .i64 (t.length : Nat)), (17, .int .i64 (i : Nat))] rfl ⟨rfl, rfl, rfl, rfl, rfl, rfl, rfl, trivial⟩ (fun h hh => by rw [hfix] at hh; exact absurd hh id) (zBg (zFK _ _)) rfl ?_
       refine rn3 ?_
       exact zM ⟨i + 1, ⟨by omega, by rw [hP2, hps]⟩, by omega, ⟨rfl, rfl, rfl, rfl, rfl, rfl, rfl, trivial⟩, by rw [hF2, hfs]⟩
     · rw [decide_eq_false he] at hps ⊢
       rw [hno hps] at hR
       refine rn6 ?_
       exact zH hR rfl rfl
 · have hie : i = t.length := by omega
   subst hie
   rw [hP] at hR
   refine rn5 ?_
   exact zH hR rfl rfl
end Go.Proofs.YtnkealfaldjipaaGreatDoor
namespace Go.Proofs.YtnkealfaldjipaaGreatDoor
open Go.Ax Go.Ax.Bg Go.Ax.Rt Go.RowKit Go.Ax.Idx Go.Ax.Cd
attribute [local irreducible] Ax zAM QOp zO zo
set_option maxRecDepth 100000
set_option maxHeartbeats 4000000
def zGJ (s : RSeq) : List AV := [.int .i64 s.info, .int .i64 s.choice, .int .i64 s.before]
abbrev zBV (l : List RSeq) : Cells := zCf seq0 3 zGJ l
theorem zMT (s : RSeq) (j h : Nat) (hj : j < 3) : ((zGJ s).getD j .any).forget h = (zGJ s).getD j .any := by
 match j, hj with
 | 0, _ => rfl
 | 1, _ => rfl
 | 2, _ => rfl
theorem zL6 (s : RSeq) (j : Nat) : noRef ((zGJ s).getD j .any) = true := by
 match j with
 | 0 => rfl
 | 1 => rfl
 | 2 => rfl
 | _ + 3 => rfl
theorem zMG (l : List RSeq) : z7 (zBV l) := by
 intro i j _ hj
 exact zL6 _ j
theorem rowS3 (s : RSeq) (j : Nat) (hj : j < 3) : (zED 1 3 [.int .i64 s.info, .int .i64 s.choice, .int .i64 s.before]).at 0 j = (zGJ s).getD j .any := by
 match j, hj with
 | 0, _ => rfl
 | 1, _ => rfl
 | 2, _ => rfl
abbrev formB (n N : Nat) : Cells := .box [.sl 0 0 n, .sl 1 0 N]
abbrev zCk (N : Nat) (f : RForm) (L : zV) : zV := some ⟨174, zBV f.seqs⟩ :: some ⟨3, .ints .i64 f.pos⟩ :: some ⟨169, formB f.seqs.length N⟩ :: some ⟨123, zG0 f.first⟩ :: L
theorem add_len (p : Int) (n : TNode) (i : Nat) (f : RForm) : f.seqs.length ≤ (zAg p n i f).seqs.length := by
 unfold zAg
 split
 · show _ ≤ (_ ++ _ : List RSeq).length
   rw [List.length_append]; omega
 · exact Nat.le_refl _
theorem zLO (t : zS) (p : Int) (i : Nat) : ∀ e, (zBA t p i).seqs.length ≤ (zBA t p (i + e)).seqs.length
 | 0 => Nat.le_refl _
 | e + 1 => by
   rw [← Nat.add_assoc, zBA, zKF]
   exact Nat.le_trans (zLO t p i e) (add_len _ _ _ _)
theorem zNQ {t : zS} (hv : Valid t) (p : Int) {i : Nat} (hi : i ≤ t.length) : (zBA t p i).seqs.length ≤ 61 := by
 have h1 := zLO t p i (t.length - i)
 rw [show i + (t.length - i) = t.length by omega] at h1
 exact Nat.le_trans h1 (zJh hv p)
theorem zOT (l : List RSeq) (n : Nat) : zA6 n (zBV l) := by
 intro i j _ hj
 have hj : j < 3 := hj
 match j, hj with
 | 0, _ => rfl
 | 1, _ => rfl
 | 2, _ => rfl
theorem zHD (N : Nat) (f : RForm) : ∀ (h : Nat) (o : AObj), (zCk N f [])[h]? = some (some o) → zA6 4 o.c := by
 intro h o ho
 match h, ho with
 | 0, ho => cases ho; exact zOT _ _
 | 1, ho => cases ho; exact zC1 _ _ _
 | 2, ho =>
   cases ho
   intro i j _ hj
   have hj : j < 2 := hj
   match j, hj with
   | 0, _ => rfl
   | 1, _ => rfl
 | 3, ho => cases ho; exact zFK _ _
 | _ + 4, ho => simp at ho
theorem add_yes {p : Int} {n : TNode} {i : Nat} {f : RForm} (h1 : own p n = true) (h2 : zCN f.first n.info = none) : zAg p n i f = ⟨f.seqs ++ zDp n (f.pos.getD i 0), f.pos, f.first ++ [(n.info, f.seqs.length)]⟩ := by unfold zAg; rw [if_pos ⟨h1, h2⟩]
theorem add_old {p : Int} {n : TNode} {i : Nat} {f : RForm} {s : Nat} (h2 : zCN f.first n.info = some s) : zAg p n i f = f := by unfold zAg; rw [if_neg (by rintro ⟨_, q⟩; rw [h2] at q; cases q)]
theorem add_not {p : Int} {n : TNode} {i : Nat} {f : RForm} (h1 : own p n = false) : zAg p n i f = f := by unfold zAg; rw [if_neg (by rintro ⟨q, _⟩; rw [h1] at q; cases q)]
theorem zGW {α : Type} {h : Nat} {f : α → AV} (hf : ∀ x, (f x).forget h = f x) : ∀ l : List α, AV.forgets h (l.map f) = l.map f
 | [] => rfl
 | a :: r => by
   show (f a).forget h :: AV.forgets h (r.map f) = f a :: r.map f
   rw [hf a, zGW hf r]
theorem zOa (F : List (Int × Nat)) (h : Nat) : CEq ((zG0 F).forget h) (zG0 F) := by
 have e : (zG0 F).forget h = zG0 F := by
   show Cells.mp (AV.forgets h _) (AV.forgets h _) = _
   rw [zGW (fun _ => rfl), zGW (fun _ => rfl)]
 rw [e]; exact CEq.refl _
def zIc (n : TNode) (b : Int) (k : Nat) : List RSeq := (List.range k).map (fun k : Nat => ⟨n.info, (k : Int), b⟩)
theorem zQ5 (n : TNode) (b : Int) (k : Nat) : zIc n b (k + 1) = zIc n b k ++ [⟨n.info, (k : Int), b⟩] := by
 unfold zIc; rw [List.range_succ, List.map_append]; rfl
theorem form_new (N : Nat) (f : RForm) (nf : Int) (n : TNode) (b : Int) (L : zV) : zCk N ⟨f.seqs ++ zIc n b 0, f.pos, f.first ++ [(nf, f.seqs.length)]⟩ L = some ⟨174, zBV f.seqs⟩ :: some ⟨3, .ints .i64 f.pos⟩ :: some ⟨169, formB f.seqs.length N⟩ :: some ⟨123, .mp (f.first.map (fun x => .int .i64 x.1) ++ [.int .i64 nf]) (f.first.map (fun x => .int .i64 (x.2 : Nat)) ++ [.int .i64 (f.seqs.length : Nat)])⟩ :: L := by
 have e : f.seqs ++ zIc n b 0 = f.seqs := List.append_nil _
 simp only [zCk, e, zG0, List.map_append, List.map_cons, List.map_nil]
theorem newK_len (n : TNode) (b : Int) (k : Nat) : (zIc n b k).length = k := by simp [zIc]
theorem of_ok (t : zS) (p : Int) (hT : ShortT t) (hv : Valid t) : zO Tryz.prog 106 [.ro (zd t) 0 t.length, .int .i64 p] [] (fun _ => False) (fun r H' => r = .ptr 2 0 0 ∧ H' = zCk t.length (zBA t p t.length) []) := by
 have hlen := hT.len
 have h120 := hv.le
 have hN0 := hv.ne
 refine zF (P := Tryz.prog) (fn := Tryz.f106) rfl rfl (by kernel_rfl) rfl (fun c hR hfix => ?_)
 repeat (first | refine zC (zK rfl) ?_ | refine zB ?_ | refine zA ?_ | refine zZ ?_ | refine zL rfl ?_ | refine zC (zAU rfl rfl rfl rfl rfl rfl) ?_)
 refine zDn rfl rfl rfl rfl rfl rfl rfl rfl rfl rfl ?_
 refine rn3 ?_
 refine zCC rfl rfl rfl rfl rfl rfl rfl rfl (by show 0 ≤ _ ∧ _ ≤ _ ∧ (8 : Int) * _ ≤ _ ∧ _; omega) ?_
 repeat (first | refine zC (zK rfl) ?_ | refine zB ?_ | refine zA ?_ | refine zZ ?_ | refine zL rfl ?_ | refine zC (zAU rfl rfl rfl rfl rfl rfl) ?_ | refine zF9 rfl rfl ?_)
 refine zFh ?_
 refine zAz (zCk t.length (zBA t p 0) []) ?_ ?_
 · refine zAG.eqv ⟨rfl, rfl, fun i j hi hj => ?_⟩ (zAG.eqv (CEq.refl _) (zAG.eqv (CEq.refl _) (zAG.eqv (CEq.refl _) zAG.nil)))
   have hj : j < 3 := hj
   obtain rfl := Nat.lt_one_iff.1 (show i < 1 from hi)
   match j, hj with
   | 0, _ => rfl
   | 1, _ => rfl
   | 2, _ => rfl
 refine rn3 ?_
 refine zg (ι := Nat) (fun i => [(0, .ro (zd t) 0 t.length), (1, .int .i64 p), (5, .ptr 2 0 0), (6, .mp 3), (23, .ro (zd t) 0 t.length), (24, .int .i64 (t.length : Nat)), (25, .int .i64 (i : Nat))]) (fun i => zCk t.length (zBA t p i) [])
   (fun i => i ≤ t.length) (fun i => t.length - i) 0 ⟨⟨rfl, rfl, rfl, rfl, rfl, rfl, rfl, trivial⟩, rfl, Nat.zero_le _⟩ ?_
 intro i hi
 refine rn4 ?_
 refine zD rfl (fun h => ?_) (fun h => ?_)
 · have hi' : i < t.length := by omega
   have hsn := hT.node _ (zBH node0 hi')
   have hbh := hv.behind hi'
   have hwf := hv.few hi'
   have hRI := RI.all_n hv p i hi
   obtain ⟨_, _, _, _, _, _, _, a8, _, a10⟩ := RI.add hv hRI hi' hRI hRI.s0.1
   have hfl := zNQ hv p hi
   have hgf := zNQ hv p (show i + 1 ≤ t.length by omega)
   have hfl2 := zNE t p i
   have hnx : zBA t p (i + 1) = ⟨(zAg p (t.getD i node0) i (zBA t p i)).seqs, zAy (zI1 p (t.getD i node0) i (zAg p (t.getD i node0) i (zBA t p i))) (t.getD i node0).next 0 (zAg p (t.getD i node0) i (zBA t p i)).pos, (zAg p (t.getD i node0) i (zBA t p i)).first⟩ := by rw [zBA, zKF, zIT]
   have hgl : (zAg p (t.getD i node0) i (zBA t p i)).pos.length = t.length := by rw [zIw]; exact hfl2
   rw [hnx] at hgf
   simp only at hgf
   obtain ⟨s1, s2, s3, s4⟩ := hsn
   refine rn6 ?_
   refine zN 29 (.agg (zBz (t.getD i node0))) rfl (AEq.of_eq rfl) ?_
   generalize t.getD i node0 = n at *
   generalize zBA t p i = f at *
   obtain ⟨kd, pl, nf, nx, od, py⟩ := n
   simp only at *
   refine zQ (c' := .box [.int .i64 kd, .int .i64 pl, .int .i64 nf, .ro (.ints .i64 nx) 0 nx.length, .ro (.strs od) 0 od.length, .str py]) rfl rfl rfl rfl rfl Nat.zero_lt_one rfl rfl (fun i' j' hi' hj' => ?_) ?_
   · rw [if_pos (Nat.lt_one_iff.1 hi')]; rfl
   refine zAb (zCk t.length f [some ⟨40, .box [.int .i64 kd, .int .i64 pl, .int .i64 nf, .ro (.ints .i64 nx) 0 nx.length, .ro (.strs od) 0 od.length, .str py]⟩]) rfl ?_
   refine zN 8 (.ptr 4 0 0) rfl (AEq.of_eq rfl) ?_
   have hown : own p ⟨kd, pl, nf, nx, od, py⟩ = (decide (kd = 2) && decide (pl = p)) := rfl
   generalize hv' : zI1 p ⟨kd, pl, nf, nx, od, py⟩ i (zAg p ⟨kd, pl, nf, nx, od, py⟩ i f) = v at *
   have hvv : ∀ k, v k = if own p ⟨kd, pl, nf, nx, od, py⟩ = true then (((zCN (zAg p ⟨kd, pl, nf, nx, od, py⟩ i f).first nf).getD 0 : Nat) : Int) + (k : Int) else (zAg p ⟨kd, pl, nf, nx, od, py⟩ i f).pos.getD i 0 := fun k => by rw [← hv']; rfl
   have hay := @add_yes p ⟨kd, pl, nf, nx, od, py⟩ i f
   have hao := @add_old p ⟨kd, pl, nf, nx, od, py⟩ i f
   have han := @add_not p ⟨kd, pl, nf, nx, od, py⟩ i f
   generalize hb : own p ⟨kd, pl, nf, nx, od, py⟩ = b at *
   apply zAv (H := zCk t.length f [some ⟨40, .box [.int .i64 kd, .int .i64 pl, .int .i64 nf, .ro (.ints .i64 nx) 0 nx.length, .ro (.strs od) 0 od.length, .str py]⟩]) [(0, .ro (zd t) 0 t.length), (1, .int .i64 p), (5, .ptr 2 0 0), (6, .mp 3), (7, .int .i64 (i : Nat)), (8, .ptr 4 0 0), (9, .bool b), (23, .ro (zd t) 0 t.length), (24, .int .i64 (t.length : Nat)), (25, .int .i64 (i : Nat))]
   · intro fin
     refine rn5 ?_
     refine z8 rfl rfl (fun g1 => ?_) (fun g1 => ?_)
     · repeat (first | refine zC (zI rfl) ?_ | refine zC (zK rfl) ?_ | refine zB ?_ | refine zAL rfl rfl ?_ | refine zC (zU rfl rfl rfl rfl rfl) ?_ | refine zC (zGa rfl rfl) ?_ | refine zC (zAe rfl rfl) ?_ | refine zC (zP rfl rfl rfl rfl rfl rfl) ?_)
       refine zA ?_
       refine zAO 9 (.bool b) rfl (AEq.of_eq (by rw [hown, decide_eq_true g1, Bool.true_and])) ?_
       exact fin _ ⟨rfl, rfl, rfl, rfl, rfl, rfl, rfl, rfl, rfl, rfl, trivial⟩
     · repeat (first | refine zC (zK rfl) ?_ | refine zB ?_ | refine zAm rfl rfl rfl ?_ | refine zC (zAe rfl rfl) ?_)
       refine zA ?_
       refine zAO 9 (.bool b) rfl (AEq.of_eq (by rw [hown, decide_eq_false g1, Bool.false_and])) ?_
       exact fin _ ⟨rfl, rfl, rfl, rfl, rfl, rfl, rfl, rfl, rfl, rfl, trivial⟩
   cases b
   · have hg := han rfl
     generalize zAg p ⟨kd, pl, nf, nx, od, py⟩ i f = g at *
     subst hg
     simp only [Bool.false_eq_true, if_false] at hvv
     refine rn5 ?_
     refine zg (ι := Nat) (fun k => [(0, .ro (zd t) 0 t.length), (1, .int .i64 p), (5, .ptr 2 0 0), (6, .mp 3), (7, .int .i64 (i : Nat)), (8, .ptr 4 0 0), (9, .bool false), (23, .ro (zd t) 0 t.length), (24, .int .i64 (t.length : Nat)), (25, .int .i64 (i : Nat)), (85, .ro (.ints .i64 nx) 0 nx.length), (86, .int .i64 (nx.length : Nat)), (87, .int .i64 (k : Nat))]) (fun k => zCk t.length ⟨g.seqs, zAy v (nx.take k) 0 g.pos, g.first⟩ [some ⟨40, .box [.int .i64 kd, .int .i64 pl, .int .i64 nf, .ro (.ints .i64 nx) 0 nx.length, .ro (.strs od) 0 od.length, .str py]⟩])
       (fun k => k ≤ nx.length) (fun k => nx.length - k) 0 ⟨⟨rfl, rfl, rfl, rfl, rfl, rfl, rfl, rfl, rfl, rfl, rfl, rfl, rfl, trivial⟩, rfl, Nat.zero_le _⟩ ?_
     intro k hk
     refine rn4 ?_
     refine zD rfl (fun h5 => ?_) (fun h5 => ?_)
     · have hk' : k < nx.length := by omega
       obtain ⟨b1, b2⟩ := hbh _ (zAR 0 hk')
       have hAl : (zAy v (nx.take k) 0 g.pos).length = t.length := by rw [zDH]; exact hgl
       have hAi : (zAy v (nx.take k) 0 g.pos).getD i 0 = g.pos.getD i 0 := zCG v 0 _ _ _ (fun c hc => by have := hbh c (List.mem_of_mem_take hc); omega)
       have hst : zAy v (nx.take (k + 1)) 0 g.pos = (zAy v (nx.take k) 0 g.pos).set (nx.getD k 0).toNat (v k) := by
         rw [zCx hk', zDa, List.length_take, Nat.min_eq_left hk, Nat.zero_add]
       have hvk := hvv k
       generalize hA2 : zAy v (nx.take (k + 1)) 0 g.pos = A2 at *
       generalize zAy v (nx.take k) 0 g.pos = A at *
       obtain ⟨x, hx⟩ := Int.eq_ofNat_of_zero_le (show 0 ≤ nx.getD k 0 by omega)
       have hxn : (nx.getD k 0).toNat = x := by rw [hx, Int.toNat_natCast]
       rw [hx] at b1 b2
       rw [hxn] at hst
       have hxl : x < A.length := by omega
       have hil : i < A.length := by omega
       have hxl2 : x < (A.set x (A.getD i 0)).length := by rw [List.length_set]; exact hxl
       refine rn6 ?_
       refine zAO 14 (.int .i64 (x : Nat)) rfl (AEq.of_eq (by rw [hx])) ?_
       refine zn (by kernel_rfl) ?_
       refine zr (fuel := 1) [0, 1, 2, 3, 4, 5, 6, 7, 8, 9, 10, 11, 12] [(0, .ro (zd t) 0 t.length), (1, .int .i64 p), (5, .ptr 2 0 0), (6, .mp 3), (7, .int .i64 (i : Nat)), (8, .ptr 4 0 0), (9, .bool false), (23, .ro (zd t) 0 t.length), (24, .int .i64 (t.length : Nat)), (25, .int .i64 (i : Nat)), (85, .ro (.ints .i64 nx) 0 nx.length), (86, .int .i64 (nx.length : Nat)), (87, .int .i64 (k : Nat)), (13, .int .i64 (k : Nat)), (14, .int .i64 (x : Nat))] ⟨rfl, rfl, rfl, rfl, rfl, rfl, rfl, rfl, rfl, rfl, rfl, rfl, rfl, rfl, rfl, trivial⟩ (by kernel_rfl) (by decide) rfl rfl ?_
       refine zX rfl rfl (zI rfl) ?_
       refine zX rfl rfl (zAl rfl) ?_
       refine zX rfl rfl (zP rfl rfl rfl rfl rfl rfl) ?_
       refine zX rfl rfl (zU rfl rfl rfl rfl rfl) ?_
       refine zX rfl rfl (zI rfl) ?_
       refine zX rfl rfl (zI rfl) ?_
       refine zX rfl rfl (zAl rfl) ?_
       refine zX rfl rfl (zP rfl rfl rfl rfl rfl rfl) ?_
       refine zX rfl rfl (zU rfl rfl rfl rfl rfl) ?_
       refine zX rfl rfl (zI rfl) ?_
       refine zX rfl rfl (ze rfl rfl rfl rfl rfl (by first | (simp only [Nat.zero_add, Int.toNat_natCast, Int.toNat_zero]; exact rfl) | exact rfl) (by omega)) ?_
       refine zX rfl rfl (zAN rfl rfl rfl rfl (by first | assumption | omega)) ?_
       refine zX rfl rfl (ze rfl rfl rfl rfl rfl (by first | (simp only [Nat.zero_add, Int.toNat_natCast, Int.toNat_zero]; exact rfl) | exact rfl) (by omega)) ?_
       refine zAc ?_
       refine zG (is := [13]) (by kernel_rfl) (by simp) rfl ⟨fun o ho => ?_, trivial⟩
       all_goals (cases ho)
       repeat (first | refine zB ?_ | refine zj ?_ | refine zAt rfl rfl rfl rfl rfl rfl rfl (by first | assumption | (show _ < List.length _; first | assumption | omega)) ?_)
       refine zh (by kernel_rfl) ?_
       refine rn5 ?_
       exact zM ⟨k + 1, by omega, by omega, ⟨rfl, rfl, rfl, rfl, rfl, rfl, rfl, rfl, rfl, rfl, rfl, rfl, rfl, trivial⟩, by rw [hA2, hst, hvk, ← hAi]; rfl⟩
     · have hke : k = nx.length := by omega
       subst hke
       rw [List.take_length]
       repeat (first | refine za ?_ | refine zAq ?_ | refine zq ?_ | refine zp ?_ | refine zAH ?_)
       refine zA ?_
       refine zAa (zCk t.length ⟨g.seqs, zAy v nx 0 g.pos, g.first⟩ []) [some ⟨40, .box [.int .i64 kd, .int .i64 pl, .int .i64 nf, .ro (.ints .i64 nx) 0 nx.length, .ro (.strs od) 0 od.length, .str py]⟩] [(0, .ro (zd t) 0 t.length), (1, .int .i64 p), (5, .ptr 2 0 0), (6, .mp 3), (23, .ro (zd t) 0 t.length), (24, .int .i64 (t.length : Nat)), (25, .int .i64 (i : Nat))] rfl ⟨rfl, rfl, rfl, rfl, rfl, rfl, rfl, trivial⟩ (fun h hh => by rw [hfix] at hh; exact absurd hh id) (zHD _ _) rfl ?_
       refine rn3 ?_
       exact zM ⟨i + 1, by omega, by omega, ⟨rfl, rfl, rfl, rfl, rfl, rfl, rfl, trivial⟩, by rw [hnx]⟩
   · obtain ⟨s, hs⟩ := a10 rfl
     obtain ⟨jj, i1, i2⟩ := zDT hs
     have hsl := (a8 _ (zCy hs)).2.1
     simp only at hsl
     simp only [if_true] at hvv
     rw [hs] at hvv
     simp only [Option.getD_some] at hvv
     refine rn5 ?_
     cases hL : zCN f.first nf with
     | some s0 =>
       have hg := hao hL
       refine zC (zB7 rfl (.int rfl) rfl rfl rfl rfl (zIp f.first) (zDT hL).choose (zDT hL).choose_spec.1 (zDT hL).choose_spec.2) ?_
       generalize zAg p ⟨kd, pl, nf, nx, od, py⟩ i f = g at *
       subst hg
       obtain ⟨jj, i1, i2⟩ := zDT hs
       refine rn5 ?_
       refine zg (ι := Nat) (fun k => [(0, .ro (zd t) 0 t.length), (1, .int .i64 p), (5, .ptr 2 0 0), (6, .mp 3), (7, .int .i64 (i : Nat)), (8, .ptr 4 0 0), (9, .bool true), (23, .ro (zd t) 0 t.length), (24, .int .i64 (t.length : Nat)), (25, .int .i64 (i : Nat)), (85, .ro (.ints .i64 nx) 0 nx.length), (86, .int .i64 (nx.length : Nat)), (87, .int .i64 (k : Nat))]) (fun k => zCk t.length ⟨g.seqs, zAy v (nx.take k) 0 g.pos, g.first⟩ [some ⟨40, .box [.int .i64 kd, .int .i64 pl, .int .i64 nf, .ro (.ints .i64 nx) 0 nx.length, .ro (.strs od) 0 od.length, .str py]⟩])
         (fun k => k ≤ nx.length) (fun k => nx.length - k) 0 ⟨⟨rfl, rfl, rfl, rfl, rfl, rfl, rfl, rfl, rfl, rfl, rfl, rfl, rfl, trivial⟩, rfl, Nat.zero_le _⟩ ?_
       intro k hk
       refine rn4 ?_
       refine zD rfl (fun h5 => ?_) (fun h5 => ?_)
       · have hk' : k < nx.length := by omega
         obtain ⟨b1, b2⟩ := hbh _ (zAR 0 hk')
         have hAl : (zAy v (nx.take k) 0 g.pos).length = t.length := by rw [zDH]; exact hgl
         have hAi : (zAy v (nx.take k) 0 g.pos).getD i 0 = g.pos.getD i 0 := zCG v 0 _ _ _ (fun c hc => by have := hbh c (List.mem_of_mem_take hc); omega)
         have hst : zAy v (nx.take (k + 1)) 0 g.pos = (zAy v (nx.take k) 0 g.pos).set (nx.getD k 0).toNat (v k) := by
           rw [zCx hk', zDa, List.length_take, Nat.min_eq_left hk, Nat.zero_add]
         have hvk := hvv k
         generalize hA2 : zAy v (nx.take (k + 1)) 0 g.pos = A2 at *
         generalize zAy v (nx.take k) 0 g.pos = A at *
         obtain ⟨x, hx⟩ := Int.eq_ofNat_of_zero_le (show 0 ≤ nx.getD k 0 by omega)
         have hxn : (nx.getD k 0).toNat = x := by rw [hx, Int.toNat_natCast]
         rw [hx] at b1 b2
         rw [hxn] at hst
         have hxl : x < A.length := by omega
         have hil : i < A.length := by omega
         have hxl2 : x < (A.set x (A.getD i 0)).length := by rw [List.length_set]; exact hxl
         refine rn6 ?_
         refine zAO 14 (.int .i64 (x : Nat)) rfl (AEq.of_eq (by rw [hx])) ?_
         refine zn (by kernel_rfl) ?_
         refine zr (fuel := 1) [0, 1, 2, 3, 4, 5, 6, 7, 8, 9, 10, 11, 12] [(0, .ro (zd t) 0 t.length), (1, .int .i64 p), (5, .ptr 2 0 0), (6, .mp 3), (7, .int .i64 (i : Nat)), (8, .ptr 4 0 0), (9, .bool true), (23, .ro (zd t) 0 t.length), (24, .int .i64 (t.length : Nat)), (25, .int .i64 (i : Nat)), (85, .ro (.ints .i64 nx) 0 nx.length), (86, .int .i64 (nx.length : Nat)), (87, .int .i64 (k : Nat)), (13, .int .i64 (k : Nat)), (14, .int .i64 (x : Nat))] ⟨rfl, rfl, rfl, rfl, rfl, rfl, rfl, rfl, rfl, rfl, rfl, rfl, rfl, rfl, rfl, trivial⟩ (by kernel_rfl) (by decide) rfl rfl ?_
         refine zX rfl rfl (zI rfl) ?_
         refine zX rfl rfl (zAl rfl) ?_
         refine zX rfl rfl (zP rfl rfl rfl rfl rfl rfl) ?_
         refine zX rfl rfl (zU rfl rfl rfl rfl rfl) ?_
         refine zX rfl rfl (zI rfl) ?_
         refine zX rfl rfl (zI rfl) ?_
         refine zX rfl rfl (zAl rfl) ?_
         refine zX rfl rfl (zP rfl rfl rfl rfl rfl rfl) ?_
         refine zX rfl rfl (zU rfl rfl rfl rfl rfl) ?_
         refine zX rfl rfl (zI rfl) ?_
         refine zX rfl rfl (ze rfl rfl rfl rfl rfl (by first | (simp only [Nat.zero_add, Int.toNat_natCast, Int.toNat_zero]; exact rfl) | exact rfl) (by omega)) ?_
         refine zX rfl rfl (zAN rfl rfl rfl rfl (by first | assumption | omega)) ?_
         refine zX rfl rfl (ze rfl rfl rfl rfl rfl (by first | (simp only [Nat.zero_add, Int.toNat_natCast, Int.toNat_zero]; exact rfl) | exact rfl) (by omega)) ?_
         refine zAc ?_
         refine zG (is := [13]) (by kernel_rfl) (by simp) rfl ⟨fun o ho => ?_, trivial⟩
         all_goals (cases ho)
         repeat (first | refine zB ?_ | refine zj ?_ | refine zAt rfl rfl rfl rfl rfl rfl rfl (by first | assumption | (show _ < List.length _; first | assumption | omega)) ?_)
         refine zGV (zCk t.length ⟨g.seqs, A.set x (A.getD i 0), g.first⟩ [some ⟨40, .box [.int .i64 kd, .int .i64 pl, .int .i64 nf, .ro (.ints .i64 nx) 0 nx.length, .ro (.strs od) 0 od.length, .str py]⟩]) (zAG.refl _) ?_
         refine zh (by kernel_rfl) ?_
         refine rn5 ?_
         refine zn (by kernel_rfl) ?_
         refine zr (fuel := 1) [0, 1, 2, 3, 4, 5, 6, 7, 8, 9, 10, 11] [(0, .ro (zd t) 0 t.length), (1, .int .i64 p), (5, .ptr 2 0 0), (6, .mp 3), (7, .int .i64 (i : Nat)), (8, .ptr 4 0 0), (9, .bool true), (23, .ro (zd t) 0 t.length), (24, .int .i64 (t.length : Nat)), (25, .int .i64 (i : Nat)), (85, .ro (.ints .i64 nx) 0 nx.length), (86, .int .i64 (nx.length : Nat)), (87, .int .i64 (k : Nat)), (13, .int .i64 (k : Nat)), (14, .int .i64 (x : Nat))] ⟨rfl, rfl, rfl, rfl, rfl, rfl, rfl, rfl, rfl, rfl, rfl, rfl, rfl, rfl, rfl, trivial⟩ (by kernel_rfl) (by decide) rfl rfl ?_
         refine zX rfl rfl (zI rfl) ?_
         refine zX rfl rfl (zAl rfl) ?_
         refine zX rfl rfl (zP rfl rfl rfl rfl rfl rfl) ?_
         refine zX rfl rfl (zU rfl rfl rfl rfl rfl) ?_
         refine zX rfl rfl (zI rfl) ?_
         refine zX rfl rfl (zI rfl) ?_
         refine zX rfl rfl (zP rfl rfl rfl rfl rfl rfl) ?_
         refine zX rfl rfl (zU rfl rfl rfl rfl rfl) ?_
         refine zX rfl rfl (zB7 rfl (.int rfl) rfl rfl rfl rfl (zIp g.first) jj i1 i2) ?_
         refine zX rfl rfl (zI rfl) ?_
         refine zX rfl rfl (zDJ rfl rfl (by omega)) ?_
         refine zX rfl rfl (ze rfl rfl rfl rfl rfl (by first | (simp only [Nat.zero_add, Int.toNat_natCast, Int.toNat_zero]; exact rfl) | exact rfl) (by omega)) ?_
         refine zAc ?_
         refine zG (is := [12]) (by kernel_rfl) (by simp) rfl ⟨fun o ho => ?_, trivial⟩
         all_goals (cases ho)
         repeat (first | refine zB ?_ | refine zj ?_ | refine zAt rfl rfl rfl rfl rfl rfl rfl (by first | assumption | (show _ < List.length _; first | assumption | omega)) ?_)
         refine zh (by kernel_rfl) ?_
         refine rn5 ?_
         exact zM ⟨k + 1, by omega, by omega, ⟨rfl, rfl, rfl, rfl, rfl, rfl, rfl, rfl, rfl, rfl, rfl, rfl, rfl, trivial⟩, by rw [hA2, hst, hvk]; exact congrArg (fun l => zCk t.length ⟨g.seqs, l, g.first⟩ [some ⟨40, .box [.int .i64 kd, .int .i64 pl, .int .i64 nf, .ro (.ints .i64 nx) 0 nx.length, .ro (.strs od) 0 od.length, .str py]⟩]) (List.set_set ..)⟩
       · have hke : k = nx.length := by omega
         subst hke
         rw [List.take_length]
         repeat (first | refine za ?_ | refine zAq ?_ | refine zq ?_ | refine zp ?_ | refine zAH ?_)
         refine zA ?_
         refine zAa (zCk t.length ⟨g.seqs, zAy v nx 0 g.pos, g.first⟩ []) [some ⟨40, .box [.int .i64 kd, .int .i64 pl, .int .i64 nf, .ro (.ints .i64 nx) 0 nx.length, .ro (.strs od) 0 od.length, .str py]⟩] [(0, .ro (zd t) 0 t.length), (1, .int .i64 p), (5, .ptr 2 0 0), (6, .mp 3), (23, .ro (zd t) 0 t.length), (24, .int .i64 (t.length : Nat)), (25, .int .i64 (i : Nat))] rfl ⟨rfl, rfl, rfl, rfl, rfl, rfl, rfl, trivial⟩ (fun h hh => by rw [hfix] at hh; exact absurd hh id) (zHD _ _) rfl ?_
         refine rn3 ?_
         exact zM ⟨i + 1, by omega, by omega, ⟨rfl, rfl, rfl, rfl, rfl, rfl, rfl, trivial⟩, by rw [hnx]⟩
     | none =>
       have hg := hay rfl hL
       refine zC (zFA rfl (.int rfl) rfl rfl rfl rfl rfl rfl rfl rfl (zIp f.first) (zGl hL)) ?_
       generalize zAg p ⟨kd, pl, nf, nx, od, py⟩ i f = g at *
       obtain ⟨jj, i1, i2⟩ := zDT hs
       simp only at hg
       have hgs : g.seqs.length = f.seqs.length + nx.length := by rw [hg]; simp [zDp]
       have hil : i < f.pos.length := by omega
       refine rn5 ?_
       refine zn (by kernel_rfl) ?_
       refine zr (fuel := 1) [0, 1, 2, 3, 4, 5, 6, 7] [(0, .ro (zd t) 0 t.length), (1, .int .i64 p), (5, .ptr 2 0 0), (6, .mp 3), (7, .int .i64 (i : Nat)), (8, .ptr 4 0 0), (9, .bool true), (23, .ro (zd t) 0 t.length), (24, .int .i64 (t.length : Nat)), (25, .int .i64 (i : Nat))] ⟨rfl, rfl, rfl, rfl, rfl, rfl, rfl, rfl, rfl, rfl, trivial⟩ (by kernel_rfl) (by decide) rfl rfl ?_
       refine zX rfl rfl (zI rfl) ?_
       refine zX rfl rfl (zP rfl rfl rfl rfl rfl rfl) ?_
       refine zX rfl rfl (zU rfl rfl rfl rfl rfl) ?_
       refine zX rfl rfl (zI rfl) ?_
       refine zX rfl rfl (zAl rfl) ?_
       refine zX rfl rfl (zP rfl rfl rfl rfl rfl rfl) ?_
       refine zX rfl rfl (zU rfl rfl rfl rfl rfl) ?_
       refine zX rfl rfl (zBE rfl rfl rfl) ?_
       refine zAc ?_
       refine zG (is := [8]) (by kernel_rfl) (by simp) rfl ⟨fun o ho => ?_, trivial⟩
       all_goals (cases ho)
       refine zDB rfl (.int rfl) rfl rfl rfl rfl rfl (zIp f.first) (zGl hL) ?_
       refine rn1 ?_
       refine zh (by kernel_rfl) ?_
       refine rn5 ?_
       refine zg (ι := Nat) (fun k => [(0, .ro (zd t) 0 t.length), (1, .int .i64 p), (5, .ptr 2 0 0), (6, .mp 3), (7, .int .i64 (i : Nat)), (8, .ptr 4 0 0), (9, .bool true), (23, .ro (zd t) 0 t.length), (24, .int .i64 (t.length : Nat)), (25, .int .i64 (i : Nat)), (58, .ro (.ints .i64 nx) 0 nx.length), (59, .int .i64 (nx.length : Nat)), (60, .int .i64 (k : Nat))]) (fun k => zCk t.length ⟨f.seqs ++ zIc ⟨kd, pl, nf, nx, od, py⟩ (f.pos.getD i 0) k, f.pos, f.first ++ [(nf, f.seqs.length)]⟩ [some ⟨40, .box [.int .i64 kd, .int .i64 pl, .int .i64 nf, .ro (.ints .i64 nx) 0 nx.length, .ro (.strs od) 0 od.length, .str py]⟩])
         (fun k => k ≤ nx.length) (fun k => nx.length - k) 0 ⟨⟨rfl, rfl, rfl, rfl, rfl, rfl, rfl, rfl, rfl, rfl, rfl, rfl, rfl, trivial⟩, (form_new t.length f nf ⟨kd, pl, nf, nx, od, py⟩ (f.pos.getD i 0) [some ⟨40, .box [.int .i64 kd, .int .i64 pl, .int .i64 nf, .ro (.ints .i64 nx) 0 nx.length, .ro (.strs od) 0 od.length, .str py]⟩]).symm, Nat.zero_le _⟩ ?_
       intro k hk
       refine rn4 ?_
       refine zD rfl (fun h5 => ?_) (fun h5 => ?_)
       · have hk' : k < nx.length := by omega
         have hks := zQ5 ⟨kd, pl, nf, nx, od, py⟩ (f.pos.getD i 0) k
         have hSl : (f.seqs ++ zIc ⟨kd, pl, nf, nx, od, py⟩ (f.pos.getD i 0) k).length ≤ 61 := by rw [List.length_append, newK_len]; omega
         have hS2 : f.seqs ++ zIc ⟨kd, pl, nf, nx, od, py⟩ (f.pos.getD i 0) (k + 1) = (f.seqs ++ zIc ⟨kd, pl, nf, nx, od, py⟩ (f.pos.getD i 0) k) ++ [(⟨nf, (k : Int), f.pos.getD i 0⟩ : RSeq)] := by rw [hks, List.append_assoc]
         generalize hS2' : f.seqs ++ zIc ⟨kd, pl, nf, nx, od, py⟩ (f.pos.getD i 0) (k + 1) = S2 at *
         generalize f.seqs ++ zIc ⟨kd, pl, nf, nx, od, py⟩ (f.pos.getD i 0) k = S at *
         refine rn1 ?_
         refine zn (by kernel_rfl) ?_
         apply zC4 (H := zCk t.length ⟨S, f.pos, f.first ++ [(nf, f.seqs.length)]⟩ [some ⟨40, .box [.int .i64 kd, .int .i64 pl, .int .i64 nf, .ro (.ints .i64 nx) 0 nx.length, .ro (.strs od) 0 od.length, .str py]⟩]) [(0, .ro (zd t) 0 t.length), (1, .int .i64 p), (5, .ptr 2 0 0), (6, .mp 3), (7, .int .i64 (i : Nat)), (8, .ptr 4 0 0), (9, .bool true), (23, .ro (zd t) 0 t.length), (24, .int .i64 (t.length : Nat)), (25, .int .i64 (i : Nat)), (58, .ro (.ints .i64 nx) 0 nx.length), (59, .int .i64 (nx.length : Nat)), (60, .int .i64 (k : Nat)), (12, .int .i64 (k : Nat)), (63, .ptr 2 0 0), (67, .sl 0 0 S.length), (79, .ro (zED 1 3 [.int .i64 nf, .int .i64 (k : Nat), .int .i64 (f.pos.getD i 0)]) 0 1)]
         · intro fin2
           refine zR 0 rfl (by kernel_rfl) (by kernel_rfl) (by kernel_rfl) rfl (zI rfl) rfl ?_
           refine zR 1 rfl (by kernel_rfl) (by kernel_rfl) (by kernel_rfl) rfl (zI rfl) rfl ?_
           refine zR 5 rfl (by kernel_rfl) (by kernel_rfl) (by kernel_rfl) rfl (zP rfl rfl rfl rfl rfl rfl) rfl ?_
           refine zR 7 rfl (by kernel_rfl) (by kernel_rfl) (by kernel_rfl) rfl (zI rfl) rfl ?_
           refine zR 8 rfl (by kernel_rfl) (by kernel_rfl) (by kernel_rfl) rfl (zI rfl) rfl ?_
           refine zR 12 rfl (by kernel_rfl) (by kernel_rfl) (by kernel_rfl) rfl (zI rfl) rfl ?_
           refine zR 2 rfl (by kernel_rfl) (by kernel_rfl) (by kernel_rfl) rfl (zAl rfl) rfl ?_
           refine zR 9 rfl (by kernel_rfl) (by kernel_rfl) (by kernel_rfl) rfl (zAl rfl) rfl ?_
           refine zR 3 rfl (by kernel_rfl) (by kernel_rfl) (by kernel_rfl) rfl (zP rfl rfl rfl rfl rfl rfl) rfl ?_
           refine zR 10 rfl (by kernel_rfl) (by kernel_rfl) (by kernel_rfl) rfl (zP rfl rfl rfl rfl rfl rfl) rfl ?_
           refine zG (is := [4, 6, 11]) (by kernel_rfl) (by simp) rfl ⟨fun o ho => ?_, fun o ho => ?_, fun o ho => ?_, trivial⟩
           all_goals (cases ho)
           · refine rn4 ?_
             refine zG (is := [6, 11]) (by kernel_rfl) (by simp) rfl ⟨fun o ho => ?_, fun o ho => ?_, trivial⟩
             all_goals (cases ho)
             · refine rn4 ?_
               refine zG (is := [11]) (by kernel_rfl) (by simp) rfl ⟨fun o ho => ?_, trivial⟩
               all_goals (cases ho)
               refine rn4 ?_
               refine zR 13 rfl (by kernel_rfl) (by kernel_rfl) (by kernel_rfl) rfl (ze rfl rfl rfl rfl rfl (by first | (simp only [Nat.zero_add, Int.toNat_natCast, Int.toNat_zero]; exact rfl) | exact rfl) (by omega)) rfl ?_
               refine zG (is := [14]) (by kernel_rfl) (by simp) rfl ⟨fun o ho => ?_, trivial⟩
               all_goals (cases ho)
               repeat (first | refine zB ?_ | refine zj ?_ | refine zC (zAN rfl rfl rfl rfl (by first | assumption | omega)) ?_)
               refine zR 15 rfl (by kernel_rfl) (by kernel_rfl) (by kernel_rfl) rfl (zAU rfl rfl rfl rfl rfl rfl) rfl ?_
               refine zG (is := [16]) (by kernel_rfl) (by simp) rfl ⟨fun o ho => ?_, trivial⟩
               all_goals (cases ho)
               refine rn3 ?_
               exact fin2 _ ⟨rfl, rfl, rfl, rfl, rfl, rfl, rfl, rfl, rfl, rfl, rfl, rfl, rfl, rfl, rfl, rfl, rfl, trivial⟩
             · refine rn4 ?_
               refine zR 13 rfl (by kernel_rfl) (by kernel_rfl) (by kernel_rfl) rfl (ze rfl rfl rfl rfl rfl (by first | (simp only [Nat.zero_add, Int.toNat_natCast, Int.toNat_zero]; exact rfl) | exact rfl) (by omega)) rfl ?_
               refine zG (is := [6, 14]) (by kernel_rfl) (by simp) rfl ⟨fun o ho => ?_, fun o ho => ?_, trivial⟩
               all_goals (cases ho)
               · refine rn4 ?_
                 refine zG (is := [14]) (by kernel_rfl) (by simp) rfl ⟨fun o ho => ?_, trivial⟩
                 all_goals (cases ho)
                 repeat (first | refine zB ?_ | refine zj ?_ | refine zC (zAN rfl rfl rfl rfl (by first | assumption | omega)) ?_)
                 refine zR 15 rfl (by kernel_rfl) (by kernel_rfl) (by kernel_rfl) rfl (zAU rfl rfl rfl rfl rfl rfl) rfl ?_
                 refine zG (is := [16]) (by kernel_rfl) (by simp) rfl ⟨fun o ho => ?_, trivial⟩
                 all_goals (cases ho)
                 refine rn3 ?_
                 exact fin2 _ ⟨rfl, rfl, rfl, rfl, rfl, rfl, rfl, rfl, rfl, rfl, rfl, rfl, rfl, rfl, rfl, rfl, rfl, trivial⟩
               · repeat (first | refine zB ?_ | refine zj ?_ | refine zC (zAN rfl rfl rfl rfl (by first | assumption | omega)) ?_)
                 refine zG (is := [6]) (by kernel_rfl) (by simp) rfl ⟨fun o ho => ?_, trivial⟩
                 all_goals (cases ho)
                 refine rn4 ?_
                 refine zR 15 rfl (by kernel_rfl) (by kernel_rfl) (by kernel_rfl) rfl (zAU rfl rfl rfl rfl rfl rfl) rfl ?_
                 refine zG (is := [16]) (by kernel_rfl) (by simp) rfl ⟨fun o ho => ?_, trivial⟩
                 all_goals (cases ho)
                 refine rn3 ?_
                 exact fin2 _ ⟨rfl, rfl, rfl, rfl, rfl, rfl, rfl, rfl, rfl, rfl, rfl, rfl, rfl, rfl, rfl, rfl, rfl, trivial⟩
           · refine rn4 ?_
             refine zG (is := [4, 11]) (by kernel_rfl) (by simp) rfl ⟨fun o ho => ?_, fun o ho => ?_, trivial⟩
             all_goals (cases ho)
             · refine rn4 ?_
               refine zG (is := [11]) (by kernel_rfl) (by simp) rfl ⟨fun o ho => ?_, trivial⟩
               all_goals (cases ho)
               refine rn4 ?_
               refine zR 13 rfl (by kernel_rfl) (by kernel_rfl) (by kernel_rfl) rfl (ze rfl rfl rfl rfl rfl (by first | (simp only [Nat.zero_add, Int.toNat_natCast, Int.toNat_zero]; exact rfl) | exact rfl) (by omega)) rfl ?_
               refine zG (is := [14]) (by kernel_rfl) (by simp) rfl ⟨fun o ho => ?_, trivial⟩
               all_goals (cases ho)
               repeat (first | refine zB ?_ | refine zj ?_ | refine zC (zAN rfl rfl rfl rfl (by first | assumption | omega)) ?_)
               refine zR 15 rfl (by kernel_rfl) (by kernel_rfl) (by kernel_rfl) rfl (zAU rfl rfl rfl rfl rfl rfl) rfl ?_
               refine zG (is := [16]) (by kernel_rfl) (by simp) rfl ⟨fun o ho => ?_, trivial⟩
               all_goals (cases ho)
               refine rn3 ?_
               exact fin2 _ ⟨rfl, rfl, rfl, rfl, rfl, rfl, rfl, rfl, rfl, rfl, rfl, rfl, rfl, rfl, rfl, rfl, rfl, trivial⟩
             · refine rn4 ?_
               refine zR 13 rfl (by kernel_rfl) (by kernel_rfl) (by kernel_rfl) rfl (ze rfl rfl rfl rfl rfl (by first | (simp only [Nat.zero_add, Int.toNat_natCast, Int.toNat_zero]; exact rfl) | exact rfl) (by omega)) rfl ?_
               refine zG (is := [4, 14]) (by kernel_rfl) (by simp) rfl ⟨fun o ho => ?_, fun o ho => ?_, trivial⟩
               all_goals (cases ho)
               · refine rn4 ?_
                 refine zG (is := [14]) (by kernel_rfl) (by simp) rfl ⟨fun o ho => ?_, trivial⟩
                 all_goals (cases ho)
                 repeat (first | refine zB ?_ | refine zj ?_ | refine zC (zAN rfl rfl rfl rfl (by first | assumption | omega)) ?_)
                 refine zR 15 rfl (by kernel_rfl) (by kernel_rfl) (by kernel_rfl) rfl (zAU rfl rfl rfl rfl rfl rfl) rfl ?_
                 refine zG (is := [16]) (by kernel_rfl) (by simp) rfl ⟨fun o ho => ?_, trivial⟩
                 all_goals (cases ho)
                 refine rn3 ?_
                 exact fin2 _ ⟨rfl, rfl, rfl, rfl, rfl, rfl, rfl, rfl, rfl, rfl, rfl, rfl, rfl, rfl, rfl, rfl, rfl, trivial⟩
               · repeat (first | refine zB ?_ | refine zj ?_ | refine zC (zAN rfl rfl rfl rfl (by first | assumption | omega)) ?_)
                 refine zR 15 rfl (by kernel_rfl) (by kernel_rfl) (by kernel_rfl) rfl (zAU rfl rfl rfl rfl rfl rfl) rfl ?_
                 refine zG (is := [4, 16]) (by kernel_rfl) (by simp) rfl ⟨fun o ho => ?_, fun o ho => ?_, trivial⟩
                 all_goals (cases ho)
                 · refine rn4 ?_
                   refine zG (is := [16]) (by kernel_rfl) (by simp) rfl ⟨fun o ho => ?_, trivial⟩
                   all_goals (cases ho)
                   refine rn3 ?_
                   exact fin2 _ ⟨rfl, rfl, rfl, rfl, rfl, rfl, rfl, rfl, rfl, rfl, rfl, rfl, rfl, rfl, rfl, rfl, rfl, trivial⟩
                 · refine rn3 ?_
                   refine zG (is := [4]) (by kernel_rfl) (by simp) rfl ⟨fun o ho => ?_, trivial⟩
                   all_goals (cases ho)
                   refine rn4 ?_
                   exact fin2 _ ⟨rfl, rfl, rfl, rfl, rfl, rfl, rfl, rfl, rfl, rfl, rfl, rfl, rfl, rfl, rfl, rfl, rfl, trivial⟩
           · refine rn4 ?_
             refine zR 13 rfl (by kernel_rfl) (by kernel_rfl) (by kernel_rfl) rfl (ze rfl rfl rfl rfl rfl (by first | (simp only [Nat.zero_add, Int.toNat_natCast, Int.toNat_zero]; exact rfl) | exact rfl) (by omega)) rfl ?_
             refine zG (is := [4, 6, 14]) (by kernel_rfl) (by simp) rfl ⟨fun o ho => ?_, fun o ho => ?_, fun o ho => ?_, trivial⟩
             all_goals (cases ho)
             · refine rn4 ?_
               refine zG (is := [6, 14]) (by kernel_rfl) (by simp) rfl ⟨fun o ho => ?_, fun o ho => ?_, trivial⟩
               all_goals (cases ho)
               · refine rn4 ?_
                 refine zG (is := [14]) (by kernel_rfl) (by simp) rfl ⟨fun o ho => ?_, trivial⟩
                 all_goals (cases ho)
                 repeat (first | refine zB ?_ | refine zj ?_ | refine zC (zAN rfl rfl rfl rfl (by first | assumption | omega)) ?_)
                 refine zR 15 rfl (by kernel_rfl) (by kernel_rfl) (by kernel_rfl) rfl (zAU rfl rfl rfl rfl rfl rfl) rfl ?_
                 refine zG (is := [16]) (by kernel_rfl) (by simp) rfl ⟨fun o ho => ?_, trivial⟩
                 all_goals (cases ho)
                 refine rn3 ?_
                 exact fin2 _ ⟨rfl, rfl, rfl, rfl, rfl, rfl, rfl, rfl, rfl, rfl, rfl, rfl, rfl, rfl, rfl, rfl, rfl, trivial⟩
               · repeat (first | refine zB ?_ | refine zj ?_ | refine zC (zAN rfl rfl rfl rfl (by first | assumption | omega)) ?_)
                 refine zG (is := [6]) (by kernel_rfl) (by simp) rfl ⟨fun o ho => ?_, trivial⟩
                 all_goals (cases ho)
                 refine rn4 ?_
                 refine zR 15 rfl (by kernel_rfl) (by kernel_rfl) (by kernel_rfl) rfl (zAU rfl rfl rfl rfl rfl rfl) rfl ?_
                 refine zG (is := [16]) (by kernel_rfl) (by simp) rfl ⟨fun o ho => ?_, trivial⟩
                 all_goals (cases ho)
                 refine rn3 ?_
                 exact fin2 _ ⟨rfl, rfl, rfl, rfl, rfl, rfl, rfl, rfl, rfl, rfl, rfl, rfl, rfl, rfl, rfl, rfl, rfl, trivial⟩
             · refine rn4 ?_
               refine zG (is := [4, 14]) (by kernel_rfl) (by simp) rfl ⟨fun o ho => ?_, fun o ho => ?_, trivial⟩
               all_goals (cases ho)
               · refine rn4 ?_
                 refine zG (is := [14]) (by kernel_rfl) (by simp) rfl ⟨fun o ho => ?_, trivial⟩
                 all_goals (cases ho)
                 repeat (first | refine zB ?_ | refine zj ?_ | refine zC (zAN rfl rfl rfl rfl (by first | assumption | omega)) ?_)
                 refine zR 15 rfl (by kernel_rfl) (by kernel_rfl) (by kernel_rfl) rfl (zAU rfl rfl rfl rfl rfl rfl) rfl ?_
                 refine zG (is := [16]) (by kernel_rfl) (by simp) rfl ⟨fun o ho => ?_, trivial⟩
                 all_goals (cases ho)
                 refine rn3 ?_
                 exact fin2 _ ⟨rfl, rfl, rfl, rfl, rfl, rfl, rfl, rfl, rfl, rfl, rfl, rfl, rfl, rfl, rfl, rfl, rfl, trivial⟩
               · repeat (first | refine zB ?_ | refine zj ?_ | refine zC (zAN rfl rfl rfl rfl (by first | assumption | omega)) ?_)
                 refine zR 15 rfl (by kernel_rfl) (by kernel_rfl) (by kernel_rfl) rfl (zAU rfl rfl rfl rfl rfl rfl) rfl ?_
                 refine zG (is := [4, 16]) (by kernel_rfl) (by simp) rfl ⟨fun o ho => ?_, fun o ho => ?_, trivial⟩
                 all_goals (cases ho)
                 · refine rn4 ?_
                   refine zG (is := [16]) (by kernel_rfl) (by simp) rfl ⟨fun o ho => ?_, trivial⟩
                   all_goals (cases ho)
                   refine rn3 ?_
                   exact fin2 _ ⟨rfl, rfl, rfl, rfl, rfl, rfl, rfl, rfl, rfl, rfl, rfl, rfl, rfl, rfl, rfl, rfl, rfl, trivial⟩
                 · refine rn3 ?_
                   refine zG (is := [4]) (by kernel_rfl) (by simp) rfl ⟨fun o ho => ?_, trivial⟩
                   all_goals (cases ho)
                   refine rn4 ?_
                   exact fin2 _ ⟨rfl, rfl, rfl, rfl, rfl, rfl, rfl, rfl, rfl, rfl, rfl, rfl, rfl, rfl, rfl, rfl, rfl, trivial⟩
             · repeat (first | refine zB ?_ | refine zj ?_ | refine zC (zAN rfl rfl rfl rfl (by first | assumption | omega)) ?_)
               refine zG (is := [4, 6]) (by kernel_rfl) (by simp) rfl ⟨fun o ho => ?_, fun o ho => ?_, trivial⟩
               all_goals (cases ho)
               · refine rn4 ?_
                 refine zG (is := [6]) (by kernel_rfl) (by simp) rfl ⟨fun o ho => ?_, trivial⟩
                 all_goals (cases ho)
                 refine rn4 ?_
                 refine zR 15 rfl (by kernel_rfl) (by kernel_rfl) (by kernel_rfl) rfl (zAU rfl rfl rfl rfl rfl rfl) rfl ?_
                 refine zG (is := [16]) (by kernel_rfl) (by simp) rfl ⟨fun o ho => ?_, trivial⟩
                 all_goals (cases ho)
                 refine rn3 ?_
                 exact fin2 _ ⟨rfl, rfl, rfl, rfl, rfl, rfl, rfl, rfl, rfl, rfl, rfl, rfl, rfl, rfl, rfl, rfl, rfl, trivial⟩
               · refine rn4 ?_
                 refine zR 15 rfl (by kernel_rfl) (by kernel_rfl) (by kernel_rfl) rfl (zAU rfl rfl rfl rfl rfl rfl) rfl ?_
                 refine zG (is := [4, 16]) (by kernel_rfl) (by simp) rfl ⟨fun o ho => ?_, fun o ho => ?_, trivial⟩
                 all_goals (cases ho)
                 · refine rn4 ?_
                   refine zG (is := [16]) (by kernel_rfl) (by simp) rfl ⟨fun o ho => ?_, trivial⟩
                   all_goals (cases ho)
                   refine rn3 ?_
                   exact fin2 _ ⟨rfl, rfl, rfl, rfl, rfl, rfl, rfl, rfl, rfl, rfl, rfl, rfl, rfl, rfl, rfl, rfl, rfl, trivial⟩
                 · refine rn3 ?_
                   refine zG (is := [4]) (by kernel_rfl) (by simp) rfl ⟨fun o ho => ?_, trivial⟩
                   all_goals (cases ho)
                   refine rn4 ?_
                   exact fin2 _ ⟨rfl, rfl, rfl, rfl, rfl, rfl, rfl, rfl, rfl, rfl, rfl, rfl, rfl, rfl, rfl, rfl, rfl, trivial⟩
         · refine zG (is := [17]) (by kernel_rfl) (by simp) rfl ⟨fun o ho => ?_, trivial⟩
           all_goals (cases ho)
           refine zm rfl rfl rfl rfl rfl rfl rfl rfl rfl rfl rfl rfl (by show 0 + 1 ≤ 1; omega) rfl (by show (S.length + 1) * 24 ≤ _ ∧ _; omega) ?_ (by rw [hfix]; exact fun h => h) ?_
           · intro i' j' hi' hj'
             exact zDW seq0 3 zGJ zMT S ⟨nf, (k : Int), f.pos.getD i 0⟩ _ (rowS3 ⟨nf, (k : Int), f.pos.getD i 0⟩) 0 i' j' hi' hj'
           refine zAz [some ⟨174, zBV (S ++ [(⟨nf, (k : Int), f.pos.getD i 0⟩ : RSeq)])⟩, some ⟨3, .ints .i64 f.pos⟩, some ⟨169, .box [.any, .sl 1 0 t.length]⟩, some ⟨123, zG0 (f.first ++ [(nf, f.seqs.length)])⟩, some ⟨40, .box [.int .i64 kd, .int .i64 pl, .int .i64 nf, .ro (.ints .i64 nx) 0 nx.length, .ro (.strs od) 0 od.length, .str py]⟩] (zAG.eqv (zC5 seq0 3 zGJ S ⟨nf, (k : Int), f.pos.getD i 0⟩ _ (rowS3 ⟨nf, (k : Int), f.pos.getD i 0⟩)) (zAG.eqv (CEq.refl _) (zAG.eqv (CEq.refl _) (zAG.eqv (zOa _ _) (zAG.eqv (CEq.refl _) zAG.nil))))) ?_
           refine rn1 ?_
           refine zR 18 rfl (by kernel_rfl) (by kernel_rfl) (by kernel_rfl) rfl (zAl rfl) rfl ?_
           refine zR 19 rfl (by kernel_rfl) (by kernel_rfl) (by kernel_rfl) rfl (zP rfl rfl rfl rfl rfl rfl) rfl ?_
           refine zG (is := [20]) (by kernel_rfl) (by simp) rfl ⟨fun o ho => ?_, trivial⟩
           all_goals (cases ho)
           repeat (first | refine zB ?_ | refine zj ?_ | refine zAt rfl rfl rfl rfl rfl rfl rfl Nat.zero_lt_one ?_)
           refine zGV (zCk t.length ⟨S ++ [(⟨nf, (k : Int), f.pos.getD i 0⟩ : RSeq)], f.pos, f.first ++ [(nf, f.seqs.length)]⟩ [some ⟨40, .box [.int .i64 kd, .int .i64 pl, .int .i64 nf, .ro (.ints .i64 nx) 0 nx.length, .ro (.strs od) 0 od.length, .str py]⟩]) (zAG.eqv (CEq.refl _) (zAG.eqv (CEq.refl _) (zAG.eqv (by show CEq (formB (S.length + 1) t.length) (formB (S ++ [(⟨nf, (k : Int), f.pos.getD i 0⟩ : RSeq)]).length t.length); rw [List.length_append]; exact CEq.refl _) (zAG.refl _)))) ?_
           refine zh (by kernel_rfl) ?_
           refine rn5 ?_
           exact zM ⟨k + 1, by omega, by omega, ⟨rfl, rfl, rfl, rfl, rfl, rfl, rfl, rfl, rfl, rfl, rfl, rfl, rfl, trivial⟩, by rw [hS2', hS2]⟩
       · have hke : k = nx.length := by omega
         subst hke
         refine rn5 ?_
         refine zBs (zCk t.length g [some ⟨40, .box [.int .i64 kd, .int .i64 pl, .int .i64 nf, .ro (.ints .i64 nx) 0 nx.length, .ro (.strs od) 0 od.length, .str py]⟩]) (by rw [hg]; rfl) ?_
         refine zg (ι := Nat) (fun k => [(0, .ro (zd t) 0 t.length), (1, .int .i64 p), (5, .ptr 2 0 0), (6, .mp 3), (7, .int .i64 (i : Nat)), (8, .ptr 4 0 0), (9, .bool true), (23, .ro (zd t) 0 t.length), (24, .int .i64 (t.length : Nat)), (25, .int .i64 (i : Nat)), (85, .ro (.ints .i64 nx) 0 nx.length), (86, .int .i64 (nx.length : Nat)), (87, .int .i64 (k : Nat))]) (fun k => zCk t.length ⟨g.seqs, zAy v (nx.take k) 0 g.pos, g.first⟩ [some ⟨40, .box [.int .i64 kd, .int .i64 pl, .int .i64 nf, .ro (.ints .i64 nx) 0 nx.length, .ro (.strs od) 0 od.length, .str py]⟩])
           (fun k => k ≤ nx.length) (fun k => nx.length - k) 0 ⟨⟨rfl, rfl, rfl, rfl, rfl, rfl, rfl, rfl, rfl, rfl, rfl, rfl, rfl, trivial⟩, rfl, Nat.zero_le _⟩ ?_
         intro k hk
         refine rn4 ?_
         refine zD rfl (fun h5 => ?_) (fun h5 => ?_)
         · have hk' : k < nx.length := by omega
           obtain ⟨b1, b2⟩ := hbh _ (zAR 0 hk')
           have hAl : (zAy v (nx.take k) 0 g.pos).length = t.length := by rw [zDH]; exact hgl
           have hAi : (zAy v (nx.take k) 0 g.pos).getD i 0 = g.pos.getD i 0 := zCG v 0 _ _ _ (fun c hc => by have := hbh c (List.mem_of_mem_take hc); omega)
           have hst : zAy v (nx.take (k + 1)) 0 g.pos = (zAy v (nx.take k) 0 g.pos).set (nx.getD k 0).toNat (v k) := by
             rw [zCx hk', zDa, List.length_take, Nat.min_eq_left hk, Nat.zero_add]
           have hvk := hvv k
           generalize hA2 : zAy v (nx.take (k + 1)) 0 g.pos = A2 at *
           generalize zAy v (nx.take k) 0 g.pos = A at *
           obtain ⟨x, hx⟩ := Int.eq_ofNat_of_zero_le (show 0 ≤ nx.getD k 0 by omega)
           have hxn : (nx.getD k 0).toNat = x := by rw [hx, Int.toNat_natCast]
           rw [hx] at b1 b2
           rw [hxn] at hst
           have hxl : x < A.length := by omega
           have hil : i < A.length := by omega
           have hxl2 : x < (A.set x (A.getD i 0)).length := by rw [List.length_set]; exact hxl
           refine rn6 ?_
           refine zAO 14 (.int .i64 (x : Nat)) rfl (AEq.of_eq (by rw [hx])) ?_
           refine zn (by kernel_rfl) ?_
           refine zr (fuel := 1) [0, 1, 2, 3, 4, 5, 6, 7, 8, 9, 10, 11, 12] [(0, .ro (zd t) 0 t.length), (1, .int .i64 p), (5, .ptr 2 0 0), (6, .mp 3), (7, .int .i64 (i : Nat)), (8, .ptr 4 0 0), (9, .bool true), (23, .ro (zd t) 0 t.length), (24, .int .i64 (t.length : Nat)), (25, .int .i64 (i : Nat)), (85, .ro (.ints .i64 nx) 0 nx.length), (86, .int .i64 (nx.length : Nat)), (87, .int .i64 (k : Nat)), (13, .int .i64 (k : Nat)), (14, .int .i64 (x : Nat))] ⟨rfl, rfl, rfl, rfl, rfl, rfl, rfl, rfl, rfl, rfl, rfl, rfl, rfl, rfl, rfl, trivial⟩ (by kernel_rfl) (by decide) rfl rfl ?_
           refine zX rfl rfl (zI rfl) ?_
           refine zX rfl rfl (zAl rfl) ?_
           refine zX rfl rfl (zP rfl rfl rfl rfl rfl rfl) ?_
           refine zX rfl rfl (zU rfl rfl rfl rfl rfl) ?_
           refine zX rfl rfl (zI rfl) ?_
           refine zX rfl rfl (zI rfl) ?_
           refine zX rfl rfl (zAl rfl) ?_
           refine zX rfl rfl (zP rfl rfl rfl rfl rfl rfl) ?_
           refine zX rfl rfl (zU rfl rfl rfl rfl rfl) ?_
           refine zX rfl rfl (zI rfl) ?_
           refine zX rfl rfl (ze rfl rfl rfl rfl rfl (by first | (simp only [Nat.zero_add, Int.toNat_natCast, Int.toNat_zero]; exact rfl) | exact rfl) (by omega)) ?_
           refine zX rfl rfl (zAN rfl rfl rfl rfl (by first | assumption | omega)) ?_
           refine zX rfl rfl (ze rfl rfl rfl rfl rfl (by first | (simp only [Nat.zero_add, Int.toNat_natCast, Int.toNat_zero]; exact rfl) | exact rfl) (by omega)) ?_
           refine zAc ?_
           refine zG (is := [13]) (by kernel_rfl) (by simp) rfl ⟨fun o ho => ?_, trivial⟩
           all_goals (cases ho)
           repeat (first | refine zB ?_ | refine zj ?_ | refine zAt rfl rfl rfl rfl rfl rfl rfl (by first | assumption | (show _ < List.length _; first | assumption | omega)) ?_)
           refine zGV (zCk t.length ⟨g.seqs, A.set x (A.getD i 0), g.first⟩ [some ⟨40, .box [.int .i64 kd, .int .i64 pl, .int .i64 nf, .ro (.ints .i64 nx) 0 nx.length, .ro (.strs od) 0 od.length, .str py]⟩]) (zAG.refl _) ?_
           refine zh (by kernel_rfl) ?_
           refine rn5 ?_
           refine zn (by kernel_rfl) ?_
           refine zr (fuel := 1) [0, 1, 2, 3, 4, 5, 6, 7, 8, 9, 10, 11] [(0, .ro (zd t) 0 t.length), (1, .int .i64 p), (5, .ptr 2 0 0), (6, .mp 3), (7, .int .i64 (i : Nat)), (8, .ptr 4 0 0), (9, .bool true), (23, .ro (zd t) 0 t.length), (24, .int .i64 (t.length : Nat)), (25, .int .i64 (i : Nat)), (85, .ro (.ints .i64 nx) 0 nx.length), (86, .int .i64 (nx.length : Nat)), (87, .int .i64 (k : Nat)), (13, .int .i64 (k : Nat)), (14, .int .i64 (x : Nat))] ⟨rfl, rfl, rfl, rfl, rfl, rfl, rfl, rfl, rfl, rfl, rfl, rfl, rfl, rfl, rfl, trivial⟩ (by kernel_rfl) (by decide) rfl rfl ?_
           refine zX rfl rfl (zI rfl) ?_
           refine zX rfl rfl (zAl rfl) ?_
           refine zX rfl rfl (zP rfl rfl rfl rfl rfl rfl) ?_
           refine zX rfl rfl (zU rfl rfl rfl rfl rfl) ?_
           refine zX rfl rfl (zI rfl) ?_
           refine zX rfl rfl (zI rfl) ?_
           refine zX rfl rfl (zP rfl rfl rfl rfl rfl rfl) ?_
           refine zX rfl rfl (zU rfl rfl rfl rfl rfl) ?_
           refine zX rfl rfl (zB7 rfl (.int rfl) rfl rfl rfl rfl (zIp g.first) jj i1 i2) ?_
           refine zX rfl rfl (zI rfl) ?_
           refine zX rfl rfl (zDJ rfl rfl (by omega)) ?_
           refine zX rfl rfl (ze rfl rfl rfl rfl rfl (by first | (simp only [Nat.zero_add, Int.toNat_natCast, Int.toNat_zero]; exact rfl) | exact rfl) (by omega)) ?_
           refine zAc ?_
           refine zG (is := [12]) (by kernel_rfl) (by simp) rfl ⟨fun o ho => ?_, trivial⟩
           all_goals (cases ho)
           repeat (first | refine zB ?_ | refine zj ?_ | refine zAt rfl rfl rfl rfl rfl rfl rfl (by first | assumption | (show _ < List.length _; first | assumption | omega)) ?_)
           refine zh (by kernel_rfl) ?_
           refine rn5 ?_
           exact zM ⟨k + 1, by omega, by omega, ⟨rfl, rfl, rfl, rfl, rfl, rfl, rfl, rfl, rfl, rfl, rfl, rfl, rfl, trivial⟩, by rw [hA2, hst, hvk]; exact congrArg (fun l => zCk t.length ⟨g.seqs, l, g.first⟩ [some ⟨40, .box [.int .i64 kd, .int .i64 pl, .int .i64 nf, .ro (.ints .i64 nx) 0 nx.length, .ro (.strs od) 0 od.length, .str py]⟩]) (List.set_set ..)⟩
         · have hke : k = nx.length := by omega
           subst hke
           rw [List.take_length]
           repeat (first | refine za ?_ | refine zAq ?_ | refine zq ?_ | refine zp ?_ | refine zAH ?_)
           refine zA ?_
           refine zAa (zCk t.length ⟨g.seqs, zAy v nx 0 g.pos, g.first⟩ []) [some ⟨40, .box [.int .i64 kd, .int .i64 pl, .int .i64 nf, .ro (.ints .i64 nx) 0 nx.length, .ro (.strs od) 0 od.length, .str py]⟩] [(0, .ro (zd t) 0 t.length), (1, .int .i64 p), (5, .ptr 2 0 0), (6, .mp 3), (23, .ro (zd t) 0 t.length), (24, .int .i64 (t.length : Nat)), (25, .int .i64 (i : Nat))] rfl ⟨rfl, rfl, rfl, rfl, rfl, rfl, rfl, trivial⟩ (fun h hh => by rw [hfix] at hh; exact absurd hh id) (zHD _ _) rfl ?_
           refine rn3 ?_
           exact zM ⟨i + 1, by omega, by omega, ⟨rfl, rfl, rfl, rfl, rfl, rfl, rfl, trivial⟩, by rw [hnx]⟩
 · have hie : i = t.length := by omega
   subst hie
   refine rn5 ?_
   exact zH hR rfl ⟨rfl, rfl⟩
end Go.Proofs.YtnkealfaldjipaaGreatDoor
namespace Go.Ax.Rt
open Go.Ax.Bg Go.Ax.Idx
structure TChoice where
 info : Int
 odds : List zAK
 deriving DecidableEq
def ch0 : TChoice := ⟨0, []⟩
abbrev zAT := List TChoice
def zEo (I Z : List Int) : Nat → zAT → Int
 | _, [] => 0
 | k, c :: r => if c.info ≠ I.getD k 0 ∨ ((c.odds.length : Nat) : Int) ≠ Z.getD k 0 then 3 else if zCV c.odds ≠ 0 then zCV c.odds else zEo I Z (k + 1) r
/-- recall.Strategy -/
def zA8 (t : zS) (p : Int) (s : zAT) : Int := if s.length ≠ (zJ t p).length then 3 else zEo (zJ t p) (zAE t p) 0 s
theorem zNa {I Z : List Int} {s : zAT} {k : Nat} (hk : k < s.length) : zEo I Z k (s.drop k) = if (s.getD k ch0).info ≠ I.getD k 0 ∨ (((s.getD k ch0).odds.length : Nat) : Int) ≠ Z.getD k 0 then 3 else if zCV (s.getD k ch0).odds ≠ 0 then zCV (s.getD k ch0).odds else zEo I Z (k + 1) (s.drop (k + 1)) := by
 rw [List.drop_eq_getElem_cons hk, ← zu ch0 hk, zEo]
theorem zIu {I Z : List Int} : ∀ {s : zAT} {k : Nat}, zEo I Z k s = 0 → ∀ j, j < s.length → (s.getD j ch0).info = I.getD (k + j) 0 ∧ (((s.getD j ch0).odds.length : Nat) : Int) = Z.getD (k + j) 0 ∧ zCV (s.getD j ch0).odds = 0
 | [], k, h, j, hj => absurd hj (Nat.not_lt_zero _)
 | c :: r, k, h, j, hj => by
   rw [zEo] at h
   split at h
   · cases h
   rename_i h1
   simp only [not_or, Classical.not_not] at h1
   split at h
   · rename_i h2; exact absurd h h2
   rename_i h2
   cases j with
   | zero => exact ⟨h1.1, h1.2, Classical.not_not.1 h2⟩
   | succ j =>
     have := zIu h j (by simpa using hj)
     rw [show k + (j + 1) = k + 1 + j by omega]
     exact this
structure OkS (t : zS) (p : Int) (s : zAT) : Prop where
 infos : s.map TChoice.info = zJ t p
 wid : ∀ j, j < s.length → (s.getD j ch0).odds.length = zT t p (s.getD j ch0).info
 odds : ∀ c ∈ s, zCV c.odds = 0
theorem zC3 {t : zS} {p : Int} {s : zAT} (h : zA8 t p s = 0) : OkS t p s := by
 unfold zA8 at h
 split at h
 · cases h
 rename_i h1
 have h1 := Classical.not_not.1 h1
 have h2 := zIu h
 have e1 : ∀ j, j < s.length → (s.getD j ch0).info = (zJ t p).getD j 0 := fun j hj => by
   have := (h2 j hj).1; rwa [Nat.zero_add] at this
 refine ⟨?_, fun j hj => ?_, fun c hc => ?_⟩
 · apply List.ext_getElem (by rw [List.length_map]; exact h1)
   intro j hj1 hj2
   have hj : j < s.length := by simpa using hj1
   have := e1 j hj
   rw [zu ch0 hj, zu 0 hj2] at this
   rw [List.getElem_map]; exact this
 · have := (h2 j hj).2.1
   rw [Nat.zero_add] at this
   have hj2 : j < (zJ t p).length := by omega
   unfold zAE at this
   rw [zBY _ _ 0 _ _ hj2, ← e1 j hj] at this
   omega
 · obtain ⟨j, hj, rfl⟩ := List.getElem_of_mem hc
   have := (h2 j hj).2.2
   rwa [zu ch0 hj] at this
theorem zKI : ∀ (qs : List Rat) (acc : Rat), (zIe acc qs).2 = 0 → (zIe acc qs).1 = zAF acc qs
 | [], acc, _ => rfl
 | q :: r, acc, h => by
   rw [zIe] at h ⊢
   rw [zAF]
   split at h
   · rename_i hf
     rw [if_pos hf]
     exact zKI r _ h
   · cases h
theorem zBC {l : List zAK} (h : zCV l = 0) : l.length ≤ 256 ∧ (∀ s ∈ l, zCi s = 0) ∧ zAF 0 (l.map zAB) = 1 ∧ ∀ q ∈ l.map zAB, 0 ≤ q ∧ D 2000 q := by
 unfold zCV at h
 split at h
 case isFalse h1 => exact absurd h h1
 rename_i h1
 split at h
 case isFalse => cases h
 rename_i h2
 unfold zKU at h1
 split at h1
 · cases h1
 rename_i h3
 have h4 : l.any zCw = false := by
   cases hb : l.any zCw
   · rfl
   · exact absurd ⟨h1, hb⟩ h3
 unfold zEi at h1 h2
 split at h1
 · cases h1
 rename_i h5
 split at h1
 case isFalse h6 => exact absurd h1 h6
 rename_i h6
 rw [if_neg h5, if_pos h6] at h2
 have h7 := zGD h6
 refine ⟨by omega, h7, ?_, fun q hq => ?_⟩
 · have := zKI _ _ h1
   rw [this] at h2
   unfold cmpQ at h2
   split at h2
   · cases h2
   · split at h2
     · rename_i e; exact e
     · cases h2
 · obtain ⟨s, hs, rfl⟩ := List.mem_map.1 hq
   have hn := (zK2 (h7 s hs)).1 (by rw [List.any_eq_false] at h4; simpa using h4 s hs)
   refine ⟨hn, ?_⟩
   have hf := (IsQ.self (h7 s hs)).fit
   unfold zA3 at hf
   rw [Bool.and_eq_true, decide_eq_true_eq, decide_eq_true_eq] at hf
   exact dig_D hf.1 hf.2
/-- the probabilities by information sets -/
def zB1 (s : zAT) (x : Int) : List Rat := ((s.find? (fun c => decide (c.info = x))).map (fun c => c.odds.map zAB)).getD []
theorem zIC {s : zAT} (hn : (s.map TChoice.info).Nodup) {c : TChoice} (hc : c ∈ s) : zB1 s c.info = c.odds.map zAB := by
 unfold zB1
 induction s with
 | nil => simp at hc
 | cons a r ih =>
   rw [List.map_cons, List.nodup_cons] at hn
   rw [List.find?_cons]
   rcases List.mem_cons.1 hc with e | q
   · subst e; simp
   · have : ¬ a.info = c.info := fun e => hn.1 (List.mem_map.2 ⟨c, q, e.symm⟩)
     rw [decide_eq_false this]
     exact ih hn.2 q
theorem OkS.at' {t : zS} {p : Int} {s : zAT} (h : OkS t p s) {x : Int} (hx : x ∈ zJ t p) : ∃ c ∈ s, c.info = x ∧ zB1 s x = c.odds.map zAB ∧ c.odds.length = zT t p x ∧ zCV c.odds = 0 := by
 have hn : (s.map TChoice.info).Nodup := by rw [h.infos]; exact zBM t p
 rw [← h.infos] at hx
 obtain ⟨c, hc, rfl⟩ := List.mem_map.1 hx
 obtain ⟨j, hj, e⟩ := List.getElem_of_mem hc
 have hw := h.wid j hj
 rw [zu ch0 hj, e] at hw
 exact ⟨c, hc, rfl, zIC hn hc, hw, h.odds c hc⟩
theorem OkS.strat {t : zS} {p : Int} {s : zAT} (h : OkS t p s) : Strat t p (zB1 s) 2000 := by
 refine ⟨fun x hx => ?_, fun x hx => ?_, fun x hx => ?_, fun x hx => ?_⟩ <;> obtain ⟨c, c1, c2, c3, c4, c5⟩ := h.at' hx <;> obtain ⟨o1, o2, o3, o4⟩ := zBC c5 <;> rw [c3]
 · rw [List.length_map]; exact c4
 · exact o3
 · exact fun q hq => (o4 q hq).1
 · exact fun q hq => (o4 q hq).2
/-- with short texts -/
theorem OkS.strat12 {t : zS} {p : Int} {s : zAT} (h : OkS t p s) (hs : ∀ c ∈ s, ∀ r ∈ c.odds, r.length ≤ 12) : Strat t p (zB1 s) 12 := by
 have g := h.strat
 refine ⟨g.len, g.sum, g.nn, fun x hx q hq => ?_⟩
 obtain ⟨c, c1, c2, c3, c4, c5⟩ := h.at' hx
 obtain ⟨o1, o2, o3, o4⟩ := zBC c5
 rw [c3] at hq
 obtain ⟨s', hs', rfl⟩ := List.mem_map.1 hq
 exact (IsQ.self (o2 s' hs')).dig (hs c c1 s' hs') (by decide)
/-- recall.Plan -/
def planE (t : zS) (p : Int) : Int := if zAh t p ≠ 0 then zAh t p else if zCm t p = true then 0 else 10
def planR (t : zS) (p : Int) (s : zAT) : List zAK × Int := if planE t p ≠ 0 then ([], planE t p) else if zA8 t p s ≠ 0 then ([], zA8 t p s) else zBG (zAk t p (zB1 s))
def seqsR (t : zS) (p : Int) : List RSeq × Int := if planE t p ≠ 0 then ([], planE t p) else (zb t p, 0)
end Go.Ax.Rt
namespace Go.Proofs.YtnkealfaldjipaaGreatDoor
open Go.Ax Go.Ax.Bg Go.Ax.Rt Go.RowKit Go.Ax.Idx Go.Ax.Cd
attribute [local irreducible] Ax zAM QOp zO zo
set_option maxRecDepth 100000
set_option maxHeartbeats 4000000
theorem zMC {t : zS} {p : Int} (h : zAh t p = 0) : Valid t := by
 unfold zAh at h
 split at h
 · rename_i h1; exact absurd h h1
 · rename_i h1; exact zMc (Classical.not_not.1 h1)
def zMq (t : zS) (p : Int) : Bool × Int := if zAh t p ≠ 0 then (false, zAh t p) else (zCm t p, 0)
theorem zOg (t : zS) (p : Int) (hT : ShortT t) : zW Tryz.prog 37 [.ro (zd t) 0 t.length, .int .i64 p] (.tup [.bool (zMq t p).1, .int .i64 (zMq t p).2]) := by
 have cp := zLL t p hT
 refine zO.value0 (zF (P := Tryz.prog) (fn := Tryz.f37) rfl rfl (by kernel_rfl) rfl (fun c hR hfix => ?_)) (fix := fun _ => False) (fun _ h => h) rfl rfl
 unfold zMq at hR
 refine rn0 ?_
 refine zE rfl rfl rfl cp ?_
 refine rn3 ?_
 refine zD rfl (fun h1 => ?_) (fun h1 => ?_)
 · rw [if_pos h1] at hR
   refine rn2 ?_
   exact zH hR rfl rfl
 rw [if_neg h1] at hR
 have ci := zK0 t p hT (zMC (Classical.not_not.1 h1))
 refine rn1 ?_
 refine zE rfl rfl rfl ci ?_
 refine rn0 ?_
 exact zH hR rfl rfl
def zE9 (t : zS) (p : Int) : (List Int × List Int) × Int := if zAh t p ≠ 0 then (([], []), zAh t p) else ((zJ t p, zAE t p), 0)
theorem zJS (t : zS) (p : Int) (hT : ShortT t) : zW Tryz.prog 102 [.ro (zd t) 0 t.length, .int .i64 p] (.tup [.ro (.ints .i64 (zE9 t p).1.1) 0 (zE9 t p).1.1.length, .ro (.ints .i64 (zE9 t p).1.2) 0 (zE9 t p).1.2.length, .int .i64 (zE9 t p).2]) := by
 have cp := zLL t p hT
 have cs := zJO t p hT.len
 refine zO.value0 (zF (P := Tryz.prog) (fn := Tryz.f102) rfl rfl (by kernel_rfl) rfl (fun c hR hfix => ?_)) (fix := fun _ => False) (fun _ h => h) rfl rfl
 unfold zE9 at hR
 refine rn0 ?_
 refine zE rfl rfl rfl cp ?_
 refine rn3 ?_
 refine zD rfl (fun h1 => ?_) (fun h1 => ?_)
 · rw [if_pos h1] at hR
   repeat (first | refine zC (zI rfl) ?_ | refine zC (zK rfl) ?_ | refine zB ?_ | refine zA ?_ | refine zZ ?_ | refine zL rfl ?_)
   refine zAO 4 (.ro (.ints .i64 []) 0 0) rfl AEq.nil ?_
   refine zAO 5 (.ro (.ints .i64 []) 0 0) rfl AEq.nil ?_
   refine rn2 ?_
   exact zH hR rfl rfl
 rw [if_neg h1] at hR
 refine rn1 ?_
 refine zE rfl rfl rfl cs ?_
 refine rn2 ?_
 exact zH hR rfl rfl
end Go.Proofs.YtnkealfaldjipaaGreatDoor
namespace Go.Proofs.YtnkealfaldjipaaGreatDoor
open Go.Ax Go.Ax.Bg Go.Ax.Rt Go.RowKit Go.Ax.Idx Go.Ax.Cd
set_option maxRecDepth 100000
set_option maxHeartbeats 4000000
def cellsC (c : TChoice) : List AV := [.int .i64 c.info, .ro (.strs c.odds) 0 c.odds.length]
abbrev z6 (s : zAT) : Cells := zCf ch0 2 cellsC s
structure ShortC (c : TChoice) : Prop where
 odds : c.odds.length ≤ 9223372036854775807
 each : ∀ s ∈ c.odds, s.length ≤ 9223372036854775807
theorem rdNode {H : Type} {enc : TypeId × Value → H} {W : World} : Rd enc Tryz.prog W 40 6 zBz ShortN :=
 (Rd.struct Tryz.underlying40 (by kernel_rfl) (RdF.cons rfl rfl (Rd.int Tryz.underlying3) (RdF.cons rfl rfl (Rd.int Tryz.underlying3) (RdF.cons rfl rfl (Rd.int Tryz.underlying3) (RdF.cons rfl rfl (Rd.ints Tryz.underlying38 (by kernel_rfl) Tryz.underlying3) (RdF.cons rfl rfl (Rd.strs Tryz.underlying35 (by kernel_rfl) Tryz.underlying27) (RdF.cons rfl rfl (Rd.str Tryz.underlying27) RdF.nil))))))).map
   (fun a => (⟨a.1, a.2.1, a.2.2.1, a.2.2.2.1, a.2.2.2.2.1, a.2.2.2.2.2.1⟩ : TNode)) (fun a h => ⟨h.2.2.2.1.1, h.2.2.2.2.1.1, h.2.2.2.2.1.2, h.2.2.2.2.2.1⟩) (fun a => rfl) (fun a i hi => AEq.rfl')
theorem rdChoice {H : Type} {enc : TypeId × Value → H} {W : World} : Rd enc Tryz.prog W 67 2 cellsC ShortC :=
 (Rd.struct Tryz.underlying67 (by kernel_rfl) (RdF.cons rfl rfl (Rd.int Tryz.underlying3) (RdF.cons rfl rfl (Rd.strs Tryz.underlying35 (by kernel_rfl) Tryz.underlying27) RdF.nil))).map
   (fun a => (⟨a.1, a.2.1⟩ : TChoice)) (fun a h => ⟨h.2.1.1, h.2.1.2⟩) (fun a => rfl) (fun a i hi => AEq.rfl')
end Go.Proofs.YtnkealfaldjipaaGreatDoor
namespace Go.Proofs.YtnkealfaldjipaaGreatDoor
open Go.Ax Go.Ax.Bg Go.Ax.Rt Go.RowKit Go.Ax.Idx Go.Ax.Cd
attribute [local irreducible] Ax zAM QOp zO zo
set_option maxRecDepth 100000
set_option maxHeartbeats 4000000
structure ShortS (s : zAT) : Prop where
 len : s.length ≤ 9223372036854775807
 each : ∀ c ∈ s, ShortC c
theorem zGC (t : zS) (p : Int) (s : zAT) (hlen : t.length ≤ 9223372036854775807) (hs : ShortS s) : zW Tryz.prog 38 [.ro (zd t) 0 t.length, .int .i64 p, .ro (z6 s) 0 s.length] (.int .i64 (zA8 t p s)) := by
 have cs := zJO t p hlen
 have hsl := hs.len
 have hzl : (zAE t p).length = (zJ t p).length := by unfold zAE; simp
 refine zO.value0 (zF (P := Tryz.prog) (fn := Tryz.f38) rfl rfl (by kernel_rfl) rfl (fun c hR hfix => ?_)) (fix := fun _ => False) (fun _ h => h) rfl rfl
 unfold zA8 at hR
 generalize zJ t p = I at *
 generalize zAE t p = Z at *
 refine rn0 ?_
 refine zE rfl rfl rfl cs ?_
 refine rn3 ?_
 refine zD rfl (fun h1 => ?_) (fun h1 => ?_)
 · rw [if_pos (by omega)] at hR
   refine rn2 ?_
   exact zH hR rfl rfl
 rw [if_neg (by omega)] at hR
 have hl : s.length = I.length := by omega
 refine rn3 ?_
 refine zg (ι := Nat) (fun i => [(0, .ro (zd t) 0 t.length), (7, .ro (.ints .i64 I) 0 I.length), (8, .ro (.ints .i64 Z) 0 Z.length), (23, .ro (z6 s) 0 s.length), (24, .int .i64 (s.length : Nat)), (25, .int .i64 (i : Nat))]) (fun _ => [])
   (fun i => i ≤ s.length ∧ zEo I Z 0 s = zEo I Z i (s.drop i)) (fun i => s.length - i) 0 ⟨⟨rfl, rfl, rfl, rfl, rfl, rfl, trivial⟩, rfl, Nat.zero_le _, by rw [List.drop_zero]⟩ ?_
 rintro i ⟨hi, hE⟩
 refine rn4 ?_
 refine zD rfl (fun h => ?_) (fun h => ?_)
 · have hi' : i < s.length := by omega
   have hc := hs.each _ (zBH ch0 hi')
   rw [zNa hi'] at hE
   have co := zL8 (s.getD i ch0).odds hc.odds hc.each
   have hol := hc.odds
   refine rn6 ?_
   refine zN 29 (.agg (cellsC (s.getD i ch0))) rfl (AEq.of_eq rfl) ?_
   generalize s.getD i ch0 = x at *
   obtain ⟨nf, od⟩ := x
   simp only at *
   refine zQ (c' := .box [.int .i64 nf, .ro (.strs od) 0 od.length]) rfl rfl rfl rfl rfl Nat.zero_lt_one rfl rfl (fun i' j' hi' hj' => ?_) ?_
   · rw [if_pos (Nat.lt_one_iff.1 hi')]; rfl
   have hiI : i < I.length := by omega
   have hiZ : i < Z.length := by omega
   refine rn0 ?_
   refine zn (by kernel_rfl) ?_
   by_cases g1 : nf = I.getD i 0
   case neg =>
     rw [if_pos (.inl g1)] at hE
     rw [hE] at hR
     refine zr (fuel := 0) [0, 1, 2, 3, 4, 5, 6, 7, 8, 9, 10, 11, 12, 13, 14, 15, 16] [(0, .ro (zd t) 0 t.length), (7, .ro (.ints .i64 I) 0 I.length), (8, .ro (.ints .i64 Z) 0 Z.length), (23, .ro (z6 s) 0 s.length), (24, .int .i64 (s.length : Nat)), (25, .int .i64 (i : Nat)), (9, .int .i64 (i : Nat)), (10, .ptr 0 0 0)] ⟨rfl, rfl, rfl, rfl, rfl, rfl, rfl, rfl, trivial⟩ (by kernel_rfl) (by decide) rfl rfl ?_
     refine zX rfl rfl (zP rfl rfl rfl rfl rfl rfl) ?_
     refine zX rfl rfl (zU rfl rfl rfl rfl rfl) ?_
     refine zX rfl rfl (zI rfl) ?_
     refine zX rfl rfl (zI rfl) ?_
     refine zX rfl rfl (zf rfl rfl rfl rfl (by first | (simp only [Nat.zero_add, Int.toNat_natCast, Int.toNat_zero]; exact rfl) | exact rfl) (by omega)) ?_
     refine zX rfl rfl (zAr rfl rfl rfl) ?_
     refine zX rfl rfl (zDw rfl rfl) ?_
     rw [decide_eq_true g1]
     refine zX rfl rfl (zI rfl) ?_
     refine zCQ rfl rfl rfl rfl rfl ?_
     refine zCQ rfl rfl rfl rfl rfl ?_
     refine zCQ rfl rfl rfl rfl rfl ?_
     refine zCQ rfl rfl rfl rfl rfl ?_
     refine zCQ rfl rfl rfl rfl rfl ?_
     refine zCQ rfl rfl rfl rfl rfl ?_
     refine zCQ rfl rfl rfl rfl rfl ?_
     refine zCQ rfl rfl rfl rfl rfl ?_
     refine zX rfl rfl (zAe rfl rfl) ?_
     refine zAc ?_
     refine zh (by kernel_rfl) ?_
     refine rn6 ?_
     exact zH hR rfl rfl
   refine zr (fuel := 0) [0, 1, 2, 3, 4, 5, 6, 7, 8, 9, 10, 11, 12, 13, 14, 15, 16] [(0, .ro (zd t) 0 t.length), (7, .ro (.ints .i64 I) 0 I.length), (8, .ro (.ints .i64 Z) 0 Z.length), (23, .ro (z6 s) 0 s.length), (24, .int .i64 (s.length : Nat)), (25, .int .i64 (i : Nat)), (9, .int .i64 (i : Nat)), (10, .ptr 0 0 0)] ⟨rfl, rfl, rfl, rfl, rfl, rfl, rfl, rfl, trivial⟩ (by kernel_rfl) (by decide) rfl rfl ?_
   refine zX rfl rfl (zP rfl rfl rfl rfl rfl rfl) ?_
   refine zX rfl rfl (zU rfl rfl rfl rfl rfl) ?_
   refine zX rfl rfl (zI rfl) ?_
   refine zX rfl rfl (zI rfl) ?_
   refine zX rfl rfl (zf rfl rfl rfl rfl (by first | (simp only [Nat.zero_add, Int.toNat_natCast, Int.toNat_zero]; exact rfl) | exact rfl) (by omega)) ?_
   refine zX rfl rfl (zAr rfl rfl rfl) ?_
   refine zX rfl rfl (zDw rfl rfl) ?_
   rw [decide_eq_false (fun q => q g1)]
   refine zX rfl rfl (zI rfl) ?_
   refine zD1 rfl rfl rfl rfl (zP rfl rfl rfl rfl rfl rfl) ?_
   refine zD1 rfl rfl rfl rfl (zU rfl rfl rfl rfl rfl) ?_
   refine zD1 rfl rfl rfl rfl (zBE rfl rfl rfl) ?_
   refine zD1 rfl rfl rfl rfl (zI rfl) ?_
   refine zD1 rfl rfl rfl rfl (zI rfl) ?_
   refine zD1 rfl rfl rfl rfl (zf rfl rfl rfl rfl (by first | (simp only [Nat.zero_add, Int.toNat_natCast, Int.toNat_zero]; exact rfl) | exact rfl) (by omega)) ?_
   refine zD1 rfl rfl rfl rfl (zAr rfl rfl rfl) ?_
   refine zD1 rfl rfl rfl rfl (zDw rfl rfl) ?_
   refine zX rfl rfl (zAe rfl rfl) ?_
   refine zAc ?_
   refine zh (by kernel_rfl) ?_
   repeat (refine zA ?_)
   refine zD rfl (fun g2 => ?_) (fun g2 => ?_)
   · rw [if_pos (.inr g2)] at hE
     rw [hE] at hR
     refine rn6 ?_
     exact zH hR rfl rfl
   rw [if_neg (by
     rintro (q | q)
     · exact q g1
     · exact g2 q)] at hE
   refine rn5 ?_
   refine zE rfl rfl rfl co ?_
   refine rn3 ?_
   refine zD rfl (fun g3 => ?_) (fun g3 => ?_)
   · rw [if_pos g3] at hE
     rw [hE] at hR
     refine rn6 ?_
     exact zH hR rfl rfl
   rw [if_neg g3] at hE
   repeat (first | refine za ?_ | refine zi ?_)
   refine zA ?_
   refine zAa [] [some ⟨67, .box [.int .i64 nf, .ro (.strs od) 0 od.length]⟩] [(0, .ro (zd t) 0 t.length), (7, .ro (.ints .i64 I) 0 I.length), (8, .ro (.ints .i64 Z) 0 Z.length), (23, .ro (z6 s) 0 s.length), (24, .int .i64 (s.length : Nat)), (25, .int .i64 (i : Nat))] rfl ⟨rfl, rfl, rfl, rfl, rfl, rfl, trivial⟩ (fun h hh => by rw [hfix] at hh; exact absurd hh id) (fun h o ho => by simp at ho) rfl ?_
   refine rn3 ?_
   exact zM ⟨i + 1, ⟨by omega, hE⟩, by omega, ⟨rfl, rfl, rfl, rfl, rfl, rfl, trivial⟩, rfl⟩
 · have hie : i = s.length := by omega
   subst hie
   rw [List.drop_length] at hE
   rw [hE] at hR
   refine rn5 ?_
   exact zH hR rfl rfl
end Go.Proofs.YtnkealfaldjipaaGreatDoor
namespace Go.Ax
variable [Pins]
open Go.RowKit
/-- Does operation j wait, at last, for operation i? -/
def needs (all : Array Oper) (idx : List Nat) : Nat → Nat → Nat → Bool
 | 0, _, _ => false
 | n + 1, j, i => match all[j]? with
   | some o => o.after.toList.any (fun e => Region.binds .any e && Nat.beq e.on i) || o.after.toList.any (fun e => Region.binds .any e && (idx.contains e.on && needs all idx n e.on i))
   | none => false
/-- May these operations run in any order, ahead of all others? -/
def okRunT (all : Array Oper) (listed : Array Bool) (idx : List Nat) (k0 : List Nat) : Bool :=
 (idx.all fun i => !listed.getD i true && (match all[i]? with
   | some o => (match o.dst with | some d => !k0.contains d | none => false) && o.after.toList.all (fun e => !Region.binds .any e || (Nat.blt e.on i && (idx.contains e.on || listed.getD e.on false)))
   | none => false)) &&
 ((List.range all.size).all fun j => idx.contains j || listed.getD j true || idx.all (fun i => needs all idx (idx.length + 1) j i)) &&
 (idx.all fun i => idx.all fun j => Nat.beq i j || !(match all[i]?, all[j]? with | some o, some o' => o.dst == o'.dst | _, _ => false))
section
variable {P : Program} {fn : Func} {c : Ctx} {fr : Fr} {H : zV} {k : List It}
/-- A constant of which nothing is said (a map that is nil). -/
theorem zLy {ind : Bool} {d : Option Nat} {ty : TypeId} {pos : String} {after : Array Edge} {g : Option (Nat × Bool)} {x : Operand} : QOp ind P fn c fr H ⟨d, .assign x, ty, pos, after, g⟩ .any :=
 fun _ a _ _ _ => ⟨a.eval x, .any _ _, fun _ _ => rfl⟩
end
end Go.Ax
namespace Go.Proofs.YtnkealfaldjipaaGreatDoor
open Go.Ax Go.Ax.Bg Go.Ax.Rt Go.RowKit Go.Ax.Idx Go.Ax.Cd
attribute [local irreducible] Ax zAM QOp zO zo
set_option maxRecDepth 100000
set_option maxHeartbeats 4000000
def keyC (c : TChoice) : AV := .int .i64 c.info
def valC (c : TChoice) : AV := .ro (qsC (c.odds.map zAB)) 0 (c.odds.map zAB).length
abbrev oddC (s : zAT) : Cells := .mp (s.map keyC) (s.map valC)
theorem keysC (s : zAT) : ∀ x ∈ s.map keyC, zDS (.int .i64) x = true := by
 intro x hx
 obtain ⟨e, _, rfl⟩ := List.mem_map.1 hx
 rfl
theorem zQu (s : zAT) (n : Nat) : zA6 n (oddC s) := by
 exact ⟨zCz (fun _ => rfl) s, zCz (fun _ => rfl) s⟩
theorem zNH (s : zAT) : z7 (oddC s) := ⟨zHM (fun _ => rfl) s, zHM (fun _ => rfl) s⟩
theorem odds_ok' (s : zAT) (hs : ShortS s) (hn : (s.map TChoice.info).Nodup) (hv : ∀ c ∈ s, c.odds.length ≤ 256 ∧ ∀ r ∈ c.odds, zCi r = 0) : zW Tryz.prog 132 [.ro (z6 s) 0 s.length] (.rom (s.map keyC) (s.map valC)) := by
 have hsl := hs.len
 refine zO.value (K := fun r H => r = .mp 0 ∧ H = [some ⟨209, oddC s⟩]) (zF (P := Tryz.prog) (fn := Tryz.f132) rfl rfl (by kernel_rfl) rfl (fun c hR hfix => ?_)) (fix := fun _ => False) (fun _ h => h) rfl ?_
 · refine rn0 ?_
   refine zC zLy ?_
   refine rn0 ?_
   refine zFh ?_
   refine rn3 ?_
   refine zg (ι := Nat) (fun i => [(3, .mp 0), (7, .ro (z6 s) 0 s.length), (8, .int .i64 (s.length : Nat)), (9, .int .i64 (i : Nat))]) (fun i => [some ⟨209, oddC (s.take i)⟩])
     (fun i => i ≤ s.length) (fun i => s.length - i) 0 ⟨⟨rfl, rfl, rfl, rfl, trivial⟩, rfl, Nat.zero_le _⟩ ?_
   intro i hi
   refine rn4 ?_
   refine zD rfl (fun h => ?_) (fun h => ?_)
   · have hi' : i < s.length := by omega
     have hm := zBH ch0 hi'
     have hc := hs.each _ hm
     obtain ⟨v1, v2⟩ := hv _ hm
     have cin := zO1 (s.getD i ch0).odds (by omega) (fun r hr => ⟨hc.each r hr, v2 r hr⟩)
     have hol := hc.odds
     have htk : s.take (i + 1) = s.take i ++ [s.getD i ch0] := by rw [List.take_succ_eq_append_getElem hi', zu ch0 hi']
     have hnew : AV.int .i64 (s.getD i ch0).info ∉ (s.take i).map keyC := by
       intro hmem
       obtain ⟨c, hc1, hc2⟩ := List.mem_map.1 hmem
       injection hc2 with e1 e2
       obtain ⟨j, hj, rfl⟩ := List.getElem_of_mem hc1
       rw [List.length_take] at hj
       rw [List.getElem_take] at e2
       have hp := List.pairwise_iff_getElem.1 hn j i (by simpa using (show j < s.length by omega)) (by simpa using hi') (by omega)
       rw [List.getElem_map, List.getElem_map] at hp
       rw [zu ch0 hi'] at e2
       exact hp e2
     refine rn6 ?_
     refine zN 12 (.agg (cellsC (s.getD i ch0))) rfl (AEq.of_eq rfl) ?_
     generalize s.getD i ch0 = x at *
     obtain ⟨nf, od⟩ := x
     simp only at *
     refine zQ (c' := .box [.int .i64 nf, .ro (.strs od) 0 od.length]) rfl rfl rfl rfl rfl Nat.zero_lt_one rfl rfl (fun i' j' hi' hj' => ?_) ?_
     · rw [if_pos (Nat.lt_one_iff.1 hi')]; rfl
     refine rn0 ?_
     refine zn (by kernel_rfl) ?_
     refine zr (fuel := 1) [0, 1, 2, 3, 4, 5] [(3, .mp 0), (5, .ptr 1 0 0), (7, .ro (z6 s) 0 s.length), (8, .int .i64 (s.length : Nat)), (9, .int .i64 (i : Nat))] ⟨rfl, rfl, rfl, rfl, rfl, trivial⟩ (by kernel_rfl) (by decide) rfl rfl ?_
     refine zX rfl rfl (zI rfl) ?_
     refine zX rfl rfl (zP rfl rfl rfl rfl rfl rfl) ?_
     refine zX rfl rfl (zU rfl rfl rfl rfl rfl) ?_
     refine zX rfl rfl (zP rfl rfl rfl rfl rfl rfl) ?_
     refine zX rfl rfl (zU rfl rfl rfl rfl rfl) ?_
     refine zBc rfl rfl rfl rfl rfl cin ?_
     refine zAc ?_
     refine zG (is := [6]) (by kernel_rfl) (by simp) rfl ⟨fun o ho => ?_, trivial⟩
     all_goals (cases ho)
     refine zDB rfl (.int rfl) rfl rfl rfl rfl rfl (keysC _) hnew ?_
     refine rn1 ?_
     refine zh (by kernel_rfl) ?_
     repeat (refine za ?_)
     refine zA ?_
     refine zBs [some ⟨209, oddC (s.take (i + 1))⟩, some ⟨67, .box [.int .i64 nf, .ro (.strs od) 0 od.length]⟩] (by rw [htk]; unfold oddC; rw [List.map_append, List.map_append]; rfl) ?_
     refine zAa [some ⟨209, oddC (s.take (i + 1))⟩] [some ⟨67, .box [.int .i64 nf, .ro (.strs od) 0 od.length]⟩] [(3, .mp 0), (7, .ro (z6 s) 0 s.length), (8, .int .i64 (s.length : Nat)), (9, .int .i64 (i : Nat))] rfl ⟨rfl, rfl, rfl, rfl, trivial⟩ (fun h hh => by rw [hfix] at hh; exact absurd hh id) (zBg (zQu _ _)) rfl ?_
     refine rn3 ?_
     exact zM ⟨i + 1, by omega, by omega, ⟨rfl, rfl, rfl, rfl, trivial⟩, rfl⟩
   · have hie : i = s.length := by omega
     subst hie
     rw [List.take_length]
     refine rn5 ?_
     exact zH hR rfl ⟨rfl, rfl⟩
 · rintro r H ⟨rfl, rfl⟩
   exact ⟨rfl, trivial, fun h o ho => zGE (zNH s) h o ho⟩
end Go.Proofs.YtnkealfaldjipaaGreatDoor
namespace Go.Proofs.YtnkealfaldjipaaGreatDoor
open Go.Ax Go.Ax.Bg Go.Ax.Rt Go.RowKit Go.Ax.Idx Go.Ax.Cd
attribute [local irreducible] Ax zAM QOp zO zo
set_option maxRecDepth 100000
set_option maxHeartbeats 4000000
theorem zQi {s : zAT} {c : TChoice} (hc : c ∈ s) : ∃ j : Nat, (s.map keyC)[j]? = some (.int .i64 c.info) ∧ (s.map valC)[j]? = some (.ro (qsC (c.odds.map zAB)) 0 (c.odds.map zAB).length) := by
 obtain ⟨j, hj⟩ := List.getElem?_of_mem hc
 exact ⟨j, by rw [List.getElem?_map, hj]; rfl, by rw [List.getElem?_map, hj]; rfl⟩
end Go.Proofs.YtnkealfaldjipaaGreatDoor
namespace Go.Ax.Rt
open Go.Ax.Bg
def zB8 (o : Option (List Rat)) (q : Option Rat) (k : Nat) : Option Rat := some (zMZ o (q.getD 0) k)
def zC0 (t : zS) (o : zAS) : Nat → List (Option Rat)
 | 0 => (List.replicate t.length none).set 0 (some 1)
 | i + 1 => zAy (zB8 (o i) ((zC0 t o i).getD i none)) (t.getD i node0).next 0 (zC0 t o i)
theorem zDb (t : zS) (o : zAS) : ∀ i, (zC0 t o i).length = t.length
 | 0 => by simp [zC0]
 | i + 1 => by rw [zC0, zDH, zDb t o i]
theorem Valid.known {t : zS} (h : Valid t) {i : Nat} (hi : i < t.length) : i = 0 ∨ ∃ a, a < i ∧ kid t a i := by
 by_cases h0 : i = 0
 · exact .inl h0
 · obtain ⟨a, ha, hk⟩ := h.has hi h0
   exact .inr ⟨a, (h.kid_lt ha hk).1, hk⟩
theorem zIf {t : zS} (h : Valid t) (o : zAS) : ∀ i, i ≤ t.length → ∀ j, j < t.length → (j = 0 ∨ ∃ a, a < i ∧ kid t a j) → (zC0 t o i).getD j none = some ((zk t o).getD j 0)
 | 0, _, j, hj, hk => by
   rcases hk with rfl | ⟨a, ha, _⟩
   · rw [zFt h, zC0, Go.Ax.Dt.getD_set, if_pos ⟨rfl, by simpa using hj⟩]
   · omega
 | i + 1, hi, j, hj, hk => by
   have hi' : i < t.length := by omega
   have ih := zIf h o i (by omega)
   rw [zC0]
   by_cases hki : kid t i j
   · obtain ⟨m, hm, rfl⟩ := zOp h hi' hki
     rw [zPq _ _ _ _ _ _ hm (h.kids_nodup hi') (fun c hc => by rw [zDb]; have := h.behind hi' c hc; omega), Nat.zero_add, zGt h o hi' hm]
     unfold zB8
     rw [ih i hi' (h.known hi')]
     rfl
   · have hne : ∀ c ∈ (t.getD i node0).next, c.toNat ≠ j := fun c hc e => by
       have := h.behind hi' c hc
       apply hki
       show (j : Int) ∈ _
       rw [← e, Int.toNat_of_nonneg (by omega)]
       exact hc
     rw [zCG _ _ _ _ _ hne]
     refine ih j hj ?_
     rcases hk with rfl | ⟨a, ha, hka⟩
     · exact .inl rfl
     · refine .inr ⟨a, ?_, hka⟩
       have : a ≠ i := fun e => hki (e ▸ hka)
       omega
theorem zOW {t : zS} (h : Valid t) (o : zAS) : zC0 t o t.length = (zk t o).map some := by
 have hl : (zk t o).length = t.length := zEf t o _
 apply List.ext_getElem
 · rw [zDb, List.length_map, hl]
 · intro j h1 h2
   rw [zDb] at h1
   have := zIf h o t.length (Nat.le_refl _) j h1 (by
     rcases h.known h1 with e | ⟨a, ha, hk⟩
     · exact .inl e
     · exact .inr ⟨a, by omega, hk⟩)
   rw [List.getElem_map]
   rw [List.getD_eq_getElem?_getD, List.getElem?_eq_getElem (by rw [zDb]; exact h1), List.getD_eq_getElem?_getD, List.getElem?_eq_getElem (by omega)] at this
   exact this
end Go.Ax.Rt
namespace Go.Ax
open Go
variable [Pins]
theorem zEk {P : Program} (w : World) {t e : TypeId} (a : Option Addr) (n c : Nat) (h : P.underlying t = some (.slice e)) : (binOp .neq t (.slice a n c) (.slice none 0 0)).run P w = .ok (.bool (!a.isNone)) w := by
 have _pin := (inferInstance : Pins)
 have h1 : ∀ d : Nat, (Op.equalIn (d + 1) t (.slice a n c) (.slice none 0 0)).run P w = .ok a.isNone w := fun d => by
   cases a with
   | none => simp [Op.equalIn, run_underlying h]
   | some a => simp [Op.equalIn, run_underlying h]
 simp only [binOp]
 simp [Op.equal, Op.maxDepth, h1 9999]
section
variable {P : Program} {fn : Func} {c : Ctx} {fr : Fr} {H : zV} {k : List It} {ind : Bool} {d : Option Nat} {ty : TypeId} {pos : String} {after : Array Edge} {g : Option (Nat × Bool)}
theorem zMx {x y : Operand} {t t' e : TypeId} (ht : P.underlying t = some (.slice e)) (hx : ev fr x = some .nil) (hy : ev fr y = some .nil) : QOp ind P fn c fr H ⟨d, .binOp .neq t x y t', ty, pos, after, g⟩ (.bool false) := by
 intro w a σ S hr
 have h1 := hr.evAt hx
 have h2 := hr.evAt hy
 generalize hz : a.eval x = z at h1
 generalize hzy : a.eval y = zy at h2
 cases h1
 cases h2
 refine ⟨_, .bool _ _, fun w' _ => ?_⟩
 have hb := zEk (P := P) w' none 0 0 ht
 simp only [execOp, hz, hzy, Sem.run_bind, zCW, Result.andThen_ok, hb]
 rfl
theorem q_neqnil {x y : Operand} {t t' e : TypeId} {cl : Cells} {i n : Nat} (ht : P.underlying t = some (.slice e)) (hx : ev fr x = some (.ro cl i n)) (hy : ev fr y = some .nil) (hn : 0 < n) : QOp ind P fn c fr H ⟨d, .binOp .neq t x y t', ty, pos, after, g⟩ (.bool true) := by
 intro w a σ S hr
 have h1 := hr.evAt hx
 have h2 := hr.evAt hy
 generalize hz : a.eval x = z at h1
 generalize hzy : a.eval y = zy at h2
 cases h2
 cases h1 with
 | ro0 _ _ _ ad cap => exact absurd hn (Nat.lt_irrefl _)
 | ro _ _ _ _ b o cap val hS hlen hc hv h1' =>
   refine ⟨_, .bool _ _, fun w' _ => ?_⟩
   have hb := zEk (P := P) w' (some ⟨b, o, none⟩) n cap ht
   simp only [execOp, hz, hzy, Sem.run_bind, zCW, Result.andThen_ok, hb]
   rfl
end
end Go.Ax
namespace Go.Proofs.YtnkealfaldjipaaGreatDoor
open Go.Ax Go.Ax.Bg Go.Ax.Rt Go.RowKit Go.Ax.Idx Go.Ax.Cd
attribute [local irreducible] Ax zAM QOp zO zo
set_option maxRecDepth 100000
set_option maxHeartbeats 4000000
def lA (o : Option (List Rat)) : AV := match o with
 | none => .nil
 | some l => .ro (qsC l) 0 l.length
structure OddsG (t : zS) (o : zAS) : Prop where
 chance : ∀ i, i < t.length → (t.getD i node0).kind = 1 → o i = some ((t.getD i node0).odds.map zAB)
 ends : ∀ i, i < t.length → (t.getD i node0).kind = 0 → o i = none
 some : ∀ i, i < t.length → ∀ l, o i = some l → (t.getD i node0).next.length ≤ l.length ∧ 0 < l.length ∧ l.length ≤ 1000000 ∧ ∀ q ∈ l, Sz 100000 q
 reach : ∀ j, j < t.length → Sz 100000 ((zk t o).getD j 0)
theorem zMy {t : zS} (hv : Valid t) {i : Nat} (hi : i < t.length) (hk : (t.getD i node0).kind = 1) : zCV (t.getD i node0).odds = 0 := by
 have h := hv.nodes i hi
 unfold zEE at h
 rw [if_neg (by omega), if_pos hk] at h
 split at h
 · cases h
 split at h
 · rename_i h1; exact absurd h h1
 split at h
 · cases h
 exact h
theorem zOZ {t : zS} (hv : Valid t) {i : Nat} (hi : i < t.length) : (t.getD i node0).kind = 0 ∨ (t.getD i node0).kind = 1 ∨ (t.getD i node0).kind = 2 := by
 rcases hv.child hi with h | h
 · exact .inl h.1
 · exact .inr h.1
theorem zOR (l : List Rat) : CEq (zsC (l.map some)) (qsC l) := by
 refine ⟨by simp [zCf, Cells.len], rfl, fun i j hi hj => ?_⟩
 have hi : i < l.length := by simpa [zCf, Cells.len] using hi
 show (zAD (l.getD i 0)).getD j .any = (zBU ((l.map some).getD i none)).getD j .any
 rw [zBY some l 0 none i hi]
 rfl
theorem zD0 (l : List (Option Rat)) (n : Nat) : zA6 n (zsC l) := by
 intro i j _ hj
 show zCn n ((zBU (l.getD i none)).getD j .any) = true
 have hj : j < 3 := hj
 cases l.getD i none with
 | none => match j, hj with
   | 0, _ => rfl
   | 1, _ => rfl
   | 2, _ => rfl
 | some q => match j, hj with
   | 0, _ => rfl
   | 1, _ => rfl
   | 2, _ => rfl
theorem reach_ok (t : zS) (o : zAS) (g : FuncId) (caps : List AV) (hcp : noRef.noRefs caps = true) (hcb : zBw 1 caps = true) (hT : ShortT t) (hv : Valid t) (hG : OddsG t o)
   (hg : ∀ i, i < t.length → (t.getD i node0).kind = 2 → zW Tryz.prog g ([.agg (zBz (t.getD i node0))] ++ caps) (lA (o i))) :
   zW Tryz.prog 133 [.ro (zd t) 0 t.length, .fn g caps] (.ro (qsC (zk t o)) 0 t.length) := by
 have hlen := hT.len
 have h120 := hv.le
 have hne := hv.ne
 have hrep : (List.replicate t.length (none : Option Rat)).length = t.length := List.length_replicate
 refine zO.value0 (zF (P := Tryz.prog) (fn := Tryz.f133) rfl rfl (by kernel_rfl) rfl (fun c hR hfix => ?_)) (fix := fun _ => False) (fun _ h => h) (by simp [noRef.noRefs, noRef, hcp]) rfl
 refine rn3 ?_
 refine zCC rfl rfl rfl rfl rfl rfl rfl rfl (by show (0 : Int) ≤ _ ∧ _ ≤ _ ∧ (56 : Int) * _ ≤ _ ∧ _; omega) ?_
 refine rn0 ?_
 refine zE rfl rfl rfl zJV ?_
 unfold qA
 refine zAz [some ⟨122, zsC (List.replicate t.length none)⟩] (zAG.eqv (zLv _) zAG.nil) ?_
 have hz0 : 0 < (zsC (List.replicate t.length none)).len := by show 0 < (List.replicate t.length (none : Option Rat)).length; omega
 repeat (refine zC (ze rfl rfl rfl rfl rfl (by first | (simp only [Nat.zero_add, Int.toNat_natCast, Int.toNat_zero]; exact rfl) | exact rfl) (by omega)) ?_)
 refine zQ (c' := zsC ((List.replicate t.length none).set 0 (some 1))) rfl rfl rfl rfl rfl hz0 (by show (List.set _ 0 _).length = (List.replicate _ _).length; simp) rfl (fun i' j' hi' hj' => zDN none 3 zBU _ 0 (some 1) hz0 i' j' hi' hj') ?_
 refine rn3 ?_
 refine zg (ι := Nat) (fun i => [(0, .ro (zd t) 0 t.length), (1, .fn g caps), (5, .sl 0 0 t.length), (17, .ro (zd t) 0 t.length), (18, .int .i64 (t.length : Nat)), (19, .int .i64 (i : Nat))]) (fun i => [some ⟨122, zsC (zC0 t o i)⟩])
   (fun i => i ≤ t.length) (fun i => t.length - i) 0 ⟨⟨rfl, rfl, rfl, rfl, rfl, rfl, trivial⟩, rfl, Nat.zero_le _⟩ ?_
 intro i hi
 refine rn4 ?_
 refine zD rfl (fun h => ?_) (fun h => ?_)
 · have hi' : i < t.length := by omega
   have hsn := hT.node _ (zBH node0 hi')
   have hbh := hv.behind hi'
   have hWl := zDb t o i
   have hat := zIf hv o i hi i hi' (hv.known hi')
   have hri := hG.reach i hi'
   have hk3 := zOZ hv hi'
   have hch := fun hk => zMy hv hi' hk
   have hgc := hG.chance i hi'
   have hge := hG.ends i hi'
   have hgs := hG.some i hi'
   have hgg := hg i hi'
   have hnx : zC0 t o (i + 1) = zAy (zB8 (o i) ((zC0 t o i).getD i none)) (t.getD i node0).next 0 (zC0 t o i) := rfl
   generalize hW2 : zC0 t o (i + 1) = W2 at *
   generalize zC0 t o i = W at *
   generalize hoi : o i = oi at *
   generalize (zk t o).getD i 0 = ri at *
   rw [hat] at hnx
   obtain ⟨s1, s2, s3, s4⟩ := hsn
   refine rn6 ?_
   refine zN 23 (.agg (zBz (t.getD i node0))) rfl (AEq.of_eq rfl) ?_
   generalize hn : t.getD i node0 = n at *
   obtain ⟨kd, pl, nf, nx, od, py⟩ := n
   simp only at *
   refine zQ (c' := .box [.int .i64 kd, .int .i64 pl, .int .i64 nf, .ro (.ints .i64 nx) 0 nx.length, .ro (.strs od) 0 od.length, .str py]) rfl rfl rfl rfl rfl Nat.zero_lt_one rfl rfl (fun i' j' hi' hj' => ?_) ?_
   · rw [if_pos (Nat.lt_one_iff.1 hi')]; rfl
   refine zAb [some ⟨122, zsC (W)⟩, some ⟨40, .box [.int .i64 kd, .int .i64 pl, .int .i64 nf, .ro (.ints .i64 nx) 0 nx.length, .ro (.strs od) 0 od.length, .str py]⟩] rfl ?_
   refine zN 7 (.ptr 1 0 0) rfl (AEq.of_eq rfl) ?_
   apply zAv (H := [some ⟨122, zsC (W)⟩, some ⟨40, .box [.int .i64 kd, .int .i64 pl, .int .i64 nf, .ro (.ints .i64 nx) 0 nx.length, .ro (.strs od) 0 od.length, .str py]⟩]) [(0, .ro (zd t) 0 t.length), (1, .fn g caps), (5, .sl 0 0 t.length), (6, .int .i64 (i : Nat)), (7, .ptr 1 0 0), (8, lA oi), (17, .ro (zd t) 0 t.length), (18, .int .i64 (t.length : Nat)), (19, .int .i64 (i : Nat)), (37, .ro (.ints .i64 nx) 0 nx.length), (38, .int .i64 (nx.length : Nat)), (39, .int .i64 0)]
   · intro fin
     refine rn5 ?_
     rcases hk3 with hk | hk | hk
     · have := hge hk
       subst this
       subst hk
       refine rn5 ?_
       exact fin _ ⟨rfl, rfl, rfl, rfl, rfl, rfl, rfl, rfl, rfl, rfl, rfl, rfl, trivial⟩
     · have h1 := hgc hk
       have h2 := hch hk
       subst hk
       subst h1
       obtain ⟨v1, v2, _, _⟩ := zBC h2
       have cin := zO1 od (by omega) (fun r hr => ⟨s3 r hr, v2 r hr⟩)
       refine rn5 ?_
       refine zE rfl rfl rfl cin ?_
       refine rn5 ?_
       exact fin _ ⟨rfl, rfl, rfl, rfl, rfl, rfl, rfl, rfl, rfl, rfl, rfl, rfl, trivial⟩
     · have h1 := hgg hk
       subst hk
       refine rn6 ?_
       refine zN 34 (.agg (zBz ⟨2, pl, nf, nx, od, py⟩)) rfl (AEq.of_eq rfl) ?_
       refine zE rfl rfl rfl h1 ?_
       refine rn5 ?_
       exact fin _ ⟨rfl, rfl, rfl, rfl, rfl, rfl, rfl, rfl, rfl, rfl, rfl, rfl, trivial⟩
   cases oi with
   | none =>
     refine zg (ι := Nat) (fun j => [(0, .ro (zd t) 0 t.length), (1, .fn g caps), (5, .sl 0 0 t.length), (6, .int .i64 (i : Nat)), (7, .ptr 1 0 0), (8, .nil), (17, .ro (zd t) 0 t.length), (18, .int .i64 (t.length : Nat)), (19, .int .i64 (i : Nat)), (37, .ro (.ints .i64 nx) 0 nx.length), (38, .int .i64 (nx.length : Nat)), (39, .int .i64 (j : Nat))]) (fun j => [some ⟨122, zsC (zAy (zB8 none (some ri)) (nx.take j) 0 W)⟩, some ⟨40, .box [.int .i64 kd, .int .i64 pl, .int .i64 nf, .ro (.ints .i64 nx) 0 nx.length, .ro (.strs od) 0 od.length, .str py]⟩])
       (fun j => j ≤ nx.length) (fun j => nx.length - j) 0 ⟨⟨rfl, rfl, rfl, rfl, rfl, rfl, rfl, rfl, rfl, rfl, rfl, rfl, trivial⟩, rfl, Nat.zero_le _⟩ ?_
     intro j hj
     refine rn4 ?_
     refine zD rfl (fun h5 => ?_) (fun h5 => ?_)
     · have hj' : j < nx.length := by omega
       obtain ⟨b1, b2⟩ := hbh _ (zAR 0 hj')
       have hAl : (zAy (zB8 none (some ri)) (nx.take j) 0 W).length = t.length := by rw [zDH]; exact hWl
       have hAi : (zAy (zB8 none (some ri)) (nx.take j) 0 W).getD i none = some ri := (zCG _ none _ _ _ (fun c hc => by have := hbh c (List.mem_of_mem_take hc); omega)).trans hat
       have hst : zAy (zB8 none (some ri)) (nx.take (j + 1)) 0 W = (zAy (zB8 none (some ri)) (nx.take j) 0 W).set (nx.getD j 0).toNat (zB8 none (some ri) j) := by
         rw [zCx hj', zDa, List.length_take, Nat.min_eq_left hj, Nat.zero_add]
       generalize hA2 : zAy (zB8 none (some ri)) (nx.take (j + 1)) 0 W = A2 at *
       generalize zAy (zB8 none (some ri)) (nx.take j) 0 W = A at *
       obtain ⟨x, hx⟩ := Int.eq_ofNat_of_zero_le (show 0 ≤ nx.getD j 0 by omega)
       have hxn : (nx.getD j 0).toNat = x := by rw [hx, Int.toNat_natCast]
       rw [hx] at b1 b2
       rw [hxn] at hst
       have hxl : x < A.length := by omega
       have gi : i < (zsC A).len := by show i < A.length; omega
       have gx : x < (zsC A).len := hxl
       have hA1i : (A.set x (some ri)).getD i none = some ri := by rw [Go.Ax.Dt.getD_set, if_neg (by omega)]; exact hAi
       have gi1 : i < (zsC (A.set x (some ri))).len := by show i < (A.set x (some ri)).length; rw [List.length_set]; omega
       have gx1 : x < (zsC (A.set x (some ri))).len := by show x < (A.set x (some ri)).length; rw [List.length_set]; omega
       repeat (first | refine zA ?_ | refine zZ ?_ | refine zw ?_ | refine zi ?_)
       refine zL rfl ?_
       repeat (first | refine zC (zI rfl) ?_ | refine zC (zK rfl) ?_ | refine zC (zAr rfl rfl rfl) ?_ | refine zB ?_ | refine zA ?_ | refine zZ ?_ | refine zC (zf rfl rfl rfl rfl (by first | (simp only [Nat.zero_add, Int.toNat_natCast, Int.toNat_zero]; exact rfl) | exact rfl) (by omega)) ?_)
       refine zAO 10 (.int .i64 (x : Nat)) rfl (AEq.of_eq (by rw [hx])) ?_
       refine rn6 ?_
       refine zN 49 (.agg (zAD ri)) rfl (AEq.of_eq (show AV.agg [(zBU (A.getD i none)).getD 0 .any, (zBU (A.getD i none)).getD 1 .any, (zBU (A.getD i none)).getD 2 .any] = _ by rw [hAi]; rfl)) ?_
       refine zQ (c' := zsC (A.set x (some ri))) rfl rfl rfl rfl rfl hxl (by show (A.set x (some ri)).length = A.length; simp) rfl (fun i' j' hi' hj' => zDN none 3 zBU A x (some ri) hxl i' j' hi' hj') ?_
       refine rn0 ?_
       refine zC (zMx rfl rfl rfl) ?_
       refine rn5 ?_
       exact zM ⟨j + 1, by omega, by omega, ⟨rfl, rfl, rfl, rfl, rfl, rfl, rfl, rfl, rfl, rfl, rfl, rfl, trivial⟩, by rw [hA2, hst]; rfl⟩
     · have hje : j = nx.length := by omega
       subst hje
       rw [List.take_length, ← hnx]
       repeat (first | refine za ?_ | refine zAq ?_ | refine zq ?_ | refine zp ?_ | refine zAH ?_)
       refine zA ?_
       refine zAa [some ⟨122, zsC (W2)⟩] [some ⟨40, .box [.int .i64 kd, .int .i64 pl, .int .i64 nf, .ro (.ints .i64 nx) 0 nx.length, .ro (.strs od) 0 od.length, .str py]⟩] [(0, .ro (zd t) 0 t.length), (1, .fn g caps), (5, .sl 0 0 t.length), (17, .ro (zd t) 0 t.length), (18, .int .i64 (t.length : Nat)), (19, .int .i64 (i : Nat))] rfl ⟨rfl, rfl, rfl, rfl, rfl, rfl, trivial⟩ (fun h hh => by rw [hfix] at hh; exact absurd hh id) (zBg (zD0 _ _)) (by show (true && (zBw 1 caps && _)) = true; rw [hcb]; rfl) ?_
       refine rn3 ?_
       exact zM ⟨i + 1, by omega, by omega, ⟨rfl, rfl, rfl, rfl, rfl, rfl, trivial⟩, by rw [hW2]⟩
   | some l =>
     obtain ⟨l1, l2, l3, l4⟩ := hgs l rfl
     refine zg (ι := Nat) (fun j => [(0, .ro (zd t) 0 t.length), (1, .fn g caps), (5, .sl 0 0 t.length), (6, .int .i64 (i : Nat)), (7, .ptr 1 0 0), (8, .ro (qsC l) 0 l.length), (17, .ro (zd t) 0 t.length), (18, .int .i64 (t.length : Nat)), (19, .int .i64 (i : Nat)), (37, .ro (.ints .i64 nx) 0 nx.length), (38, .int .i64 (nx.length : Nat)), (39, .int .i64 (j : Nat))]) (fun j => [some ⟨122, zsC (zAy (zB8 (some l) (some ri)) (nx.take j) 0 W)⟩, some ⟨40, .box [.int .i64 kd, .int .i64 pl, .int .i64 nf, .ro (.ints .i64 nx) 0 nx.length, .ro (.strs od) 0 od.length, .str py]⟩])
       (fun j => j ≤ nx.length) (fun j => nx.length - j) 0 ⟨⟨rfl, rfl, rfl, rfl, rfl, rfl, rfl, rfl, rfl, rfl, rfl, rfl, trivial⟩, rfl, Nat.zero_le _⟩ ?_
     intro j hj
     refine rn4 ?_
     refine zD rfl (fun h5 => ?_) (fun h5 => ?_)
     · have hj' : j < nx.length := by omega
       obtain ⟨b1, b2⟩ := hbh _ (zAR 0 hj')
       have hAl : (zAy (zB8 (some l) (some ri)) (nx.take j) 0 W).length = t.length := by rw [zDH]; exact hWl
       have hAi : (zAy (zB8 (some l) (some ri)) (nx.take j) 0 W).getD i none = some ri := (zCG _ none _ _ _ (fun c hc => by have := hbh c (List.mem_of_mem_take hc); omega)).trans hat
       have hst : zAy (zB8 (some l) (some ri)) (nx.take (j + 1)) 0 W = (zAy (zB8 (some l) (some ri)) (nx.take j) 0 W).set (nx.getD j 0).toNat (zB8 (some l) (some ri) j) := by
         rw [zCx hj', zDa, List.length_take, Nat.min_eq_left hj, Nat.zero_add]
       generalize hA2 : zAy (zB8 (some l) (some ri)) (nx.take (j + 1)) 0 W = A2 at *
       generalize zAy (zB8 (some l) (some ri)) (nx.take j) 0 W = A at *
       obtain ⟨x, hx⟩ := Int.eq_ofNat_of_zero_le (show 0 ≤ nx.getD j 0 by omega)
       have hxn : (nx.getD j 0).toNat = x := by rw [hx, Int.toNat_natCast]
       rw [hx] at b1 b2
       rw [hxn] at hst
       have hxl : x < A.length := by omega
       have gi : i < (zsC A).len := by show i < A.length; omega
       have gx : x < (zsC A).len := hxl
       have hA1i : (A.set x (some ri)).getD i none = some ri := by rw [Go.Ax.Dt.getD_set, if_neg (by omega)]; exact hAi
       have gi1 : i < (zsC (A.set x (some ri))).len := by show i < (A.set x (some ri)).length; rw [List.length_set]; omega
       have gx1 : x < (zsC (A.set x (some ri))).len := by show x < (A.set x (some ri)).length; rw [List.length_set]; omega
       repeat (first | refine zA ?_ | refine zZ ?_ | refine zw ?_ | refine zi ?_)
       refine zL rfl ?_
       repeat (first | refine zC (zI rfl) ?_ | refine zC (zK rfl) ?_ | refine zC (zAr rfl rfl rfl) ?_ | refine zB ?_ | refine zA ?_ | refine zZ ?_ | refine zC (zf rfl rfl rfl rfl (by first | (simp only [Nat.zero_add, Int.toNat_natCast, Int.toNat_zero]; exact rfl) | exact rfl) (by omega)) ?_)
       refine zAO 10 (.int .i64 (x : Nat)) rfl (AEq.of_eq (by rw [hx])) ?_
       refine rn6 ?_
       refine zN 49 (.agg (zAD ri)) rfl (AEq.of_eq (show AV.agg [(zBU (A.getD i none)).getD 0 .any, (zBU (A.getD i none)).getD 1 .any, (zBU (A.getD i none)).getD 2 .any] = _ by rw [hAi]; rfl)) ?_
       refine zQ (c' := zsC (A.set x (some ri))) rfl rfl rfl rfl rfl hxl (by show (A.set x (some ri)).length = A.length; simp) rfl (fun i' j' hi' hj' => zDN none 3 zBU A x (some ri) hxl i' j' hi' hj') ?_
       refine rn0 ?_
       refine zC (q_neqnil rfl rfl rfl l2) ?_
       refine rn5 ?_
       have hjl : j < l.length := by omega
       have cmul : zW Tryz.prog 105 [.agg [(zBU ((A.set x (some ri)).getD i none)).getD 0 .any, (zBU ((A.set x (some ri)).getD i none)).getD 1 .any, (zBU ((A.set x (some ri)).getD i none)).getD 2 .any], qA (l.getD j 0)] (qA (ri * l.getD j 0)) := by
         rw [hA1i]
         exact zHi ri (l.getD j 0) hri (l4 _ (zAR 0 hjl))
       refine zn (by kernel_rfl) ?_
       refine zr (fuel := 1) [0, 1, 2, 3, 4, 5, 6, 7, 8, 9, 10, 11] [(0, .ro (zd t) 0 t.length), (1, .fn g caps), (5, .sl 0 0 t.length), (6, .int .i64 (i : Nat)), (7, .ptr 1 0 0), (8, .ro (qsC l) 0 l.length), (17, .ro (zd t) 0 t.length), (18, .int .i64 (t.length : Nat)), (19, .int .i64 (i : Nat)), (37, .ro (.ints .i64 nx) 0 nx.length), (38, .int .i64 (nx.length : Nat)), (39, .int .i64 (j : Nat)), (9, .int .i64 (j : Nat)), (10, .int .i64 (x : Nat))] ⟨rfl, rfl, rfl, rfl, rfl, rfl, rfl, rfl, rfl, rfl, rfl, rfl, rfl, rfl, trivial⟩ (by kernel_rfl) (by decide) rfl rfl ?_
       refine zX rfl rfl (zI rfl) ?_
       refine zX rfl rfl (zI rfl) ?_
       refine zX rfl rfl (zI rfl) ?_
       refine zX rfl rfl (zI rfl) ?_
       refine zX rfl rfl (ze rfl rfl rfl rfl rfl (by first | (simp only [Nat.zero_add, Int.toNat_natCast, Int.toNat_zero]; exact rfl) | exact rfl) (by omega)) ?_
       refine zX rfl rfl (zAC rfl rfl rfl rfl rfl rfl rfl (by first | exact Nat.zero_lt_one | assumption | omega)) ?_
       refine zX rfl rfl (zI rfl) ?_
       refine zX rfl rfl (zI rfl) ?_
       refine zX rfl rfl (zf rfl rfl rfl rfl (by first | (simp only [Nat.zero_add, Int.toNat_natCast, Int.toNat_zero]; exact rfl) | exact rfl) (by omega)) ?_
       refine zX rfl rfl (zBj rfl rfl rfl rfl rfl rfl) ?_
       refine zBc rfl rfl rfl rfl rfl cmul ?_
       refine zX rfl rfl (ze rfl rfl rfl rfl rfl (by first | (simp only [Nat.zero_add, Int.toNat_natCast, Int.toNat_zero]; exact rfl) | exact rfl) (by omega)) ?_
       refine zAc ?_
       refine zG (is := [12]) (by kernel_rfl) (by simp) rfl ⟨fun o ho => ?_, trivial⟩
       all_goals (cases ho)
       skip
       unfold qA
       refine zQ (c' := zsC ((A.set x (some ri)).set x (some (ri * l.getD j 0)))) rfl rfl rfl rfl rfl gx1 (by show (List.set _ x _).length = (A.set x (some ri)).length; simp) rfl (fun i' j' hi' hj' => zDN none 3 zBU (A.set x (some ri)) x (some (ri * l.getD j 0)) gx1 i' j' hi' hj') ?_
       refine rn1 ?_
       refine zh (by kernel_rfl) ?_
       refine rn5 ?_
       exact zM ⟨j + 1, by omega, by omega, ⟨rfl, rfl, rfl, rfl, rfl, rfl, rfl, rfl, rfl, rfl, rfl, rfl, trivial⟩, by rw [hA2, hst]; exact congrArg (fun z => [some (AObj.mk 122 (zsC z)), some (AObj.mk 40 (.box [.int .i64 kd, .int .i64 pl, .int .i64 nf, .ro (.ints .i64 nx) 0 nx.length, .ro (.strs od) 0 od.length, .str py]))]) (List.set_set ..)⟩
     · have hje : j = nx.length := by omega
       subst hje
       rw [List.take_length, ← hnx]
       repeat (first | refine za ?_ | refine zAq ?_ | refine zq ?_ | refine zp ?_ | refine zAH ?_)
       refine zA ?_
       refine zAa [some ⟨122, zsC (W2)⟩] [some ⟨40, .box [.int .i64 kd, .int .i64 pl, .int .i64 nf, .ro (.ints .i64 nx) 0 nx.length, .ro (.strs od) 0 od.length, .str py]⟩] [(0, .ro (zd t) 0 t.length), (1, .fn g caps), (5, .sl 0 0 t.length), (17, .ro (zd t) 0 t.length), (18, .int .i64 (t.length : Nat)), (19, .int .i64 (i : Nat))] rfl ⟨rfl, rfl, rfl, rfl, rfl, rfl, trivial⟩ (fun h hh => by rw [hfix] at hh; exact absurd hh id) (zBg (zD0 _ _)) (by show (true && (zBw 1 caps && _)) = true; rw [hcb]; rfl) ?_
       refine rn3 ?_
       exact zM ⟨i + 1, by omega, by omega, ⟨rfl, rfl, rfl, rfl, rfl, rfl, trivial⟩, by rw [hW2]⟩
 · have hie : i = t.length := by omega
   subst hie
   rw [zOW hv]
   repeat (first | refine zA ?_ | refine zZ ?_ | refine zAq ?_ | refine zq ?_ | refine zp ?_ | refine zAH ?_)
   refine zB5 [some ⟨122, qsC (zk t o)⟩] (zAG.eqv (zOR _) zAG.nil) ?_
   refine zAY 0 5 t.length [] rfl (zFo _) rfl (by show t.length ≤ (zk t o).length; rw [show (zk t o).length = t.length from zEf t o _]; exact Nat.le_refl _) trivial ?_
   refine rn0 ?_
   exact zH hR rfl rfl
end Go.Proofs.YtnkealfaldjipaaGreatDoor
namespace Go.Ax.Rt
open Go.Ax.Bg
theorem le_num {q : Rat} {M : Nat} (h : q ≤ (M : Rat)) : q.num ≤ M * q.den := by
 have h2 := Rat.not_lt.2 h
 rw [Rat.lt_iff] at h2
 rw [Rat.num_natCast, Rat.den_natCast] at h2
 have : ¬ ((M : Int) * (q.den : Int) < q.num * 1) := h2
 omega
theorem num_le {q : Rat} {M : Nat} (h : q.num ≤ M * q.den) : q ≤ (M : Rat) := by
 refine Rat.not_lt.1 (fun h2 => ?_)
 rw [Rat.lt_iff, Rat.num_natCast, Rat.den_natCast] at h2
 have : (M : Int) * (q.den : Int) < q.num * 1 := h2
 omega
theorem D_le {k : Nat} {q : Rat} (h : D k q) : q ≤ ((10 ^ k : Nat) : Rat) ∧ -q ≤ ((10 ^ k : Nat) : Rat) := by
 have h1 := h.1
 have h2 := q.den_pos
 generalize 10 ^ k = T at *
 have h3 : (T : Int) * 1 ≤ T * q.den := Int.mul_le_mul_of_nonneg_left (by omega) (by omega)
 refine ⟨num_le (by omega), num_le ?_⟩
 show -q.num ≤ (T : Int) * (q.den : Int)
 omega
theorem bnd_D {B K M : Nat} {q : Rat} (h : Dv B q) (hB : B ≠ 0) (h1 : q ≤ (M : Rat)) (h2 : -q ≤ (M : Rat)) (hM : M * B < 10 ^ K) (hK : B < 10 ^ K) : D K q := by
 have hd := Nat.le_of_dvd (by omega) (h.den hB)
 refine ⟨?_, by omega⟩
 have a1 := le_num h1
 have a2 := le_num h2
 have a2 : -q.num ≤ (M : Int) * (q.den : Int) := a2
 have a3 : M * q.den ≤ M * B := Nat.mul_le_mul_left _ hd
 have a4 : ((M * q.den : Nat) : Int) = (M : Int) * (q.den : Int) := Int.natCast_mul _ _
 omega
theorem Dv.sum {B : Nat} {l : List Rat} : (∀ q ∈ l, Dv B q) → ∀ {acc : Rat}, Dv B acc → Dv B (zAF acc l) := by
 induction l with
 | nil => intro _ acc h; exact h
 | cons a r ih => intro h acc ha; exact ih (fun q hq => h q (by simp [hq])) (ha.add (h a (by simp)))
theorem zLf (f : Nat → Rat) (c : Rat) : ∀ ks : List Nat, zAF 0 (ks.map (fun i => f i * c)) = zAF 0 (ks.map f) * c
 | [] => by rw [List.map_nil, List.map_nil, zAF, Rat.zero_mul]
 | a :: r => by
   rw [List.map_cons, List.map_cons, zAF, zAF, zA9, zA9 (r.map f), zLf f c r, Rat.zero_add, Rat.zero_add, Rat.add_mul]
theorem zMD {f g : Nat → Rat} : ∀ {ks : List Nat}, (∀ i ∈ ks, f i ≤ g i) → zAF 0 (ks.map f) ≤ zAF 0 (ks.map g)
 | [], _ => Rat.le_refl
 | a :: r, h => by
   rw [List.map_cons, List.map_cons, zAF, zAF, zA9, zA9 (r.map g), Rat.zero_add, Rat.zero_add]
   have h1 := (Rat.add_le_add_right (c := zAF 0 (r.map f))).2 (h a (by simp))
   have h2 := (Rat.add_le_add_left (c := g a)).2 (zMD (ks := r) (fun i hi => h i (by simp [hi])))
   exact Rat.le_trans h1 h2
/-- the product of the denominators of the payments -/
def payB (t : zS) : Nat := zEZ (t.map (fun n => if n.kind = 0 then (zAB n.pay).den else 1))
theorem zKf (t : zS) : 0 < payB t := by
 refine zGr (fun x hx => ?_)
 obtain ⟨n, _, rfl⟩ := List.mem_map.1 hx
 split
 · exact Rat.den_pos _
 · exact Nat.one_pos
structure Pays (t : zS) (d : Nat) : Prop where
 dig : ∀ i, i < t.length → (t.getD i node0).kind = 0 → D d (zAB (t.getD i node0).pay)
theorem payB_le {t : zS} {d : Nat} (h : Pays t d) : payB t ≤ 10 ^ (d * t.length) := by
 have h1 := zH1 (l := t.map (fun n => if n.kind = 0 then (zAB n.pay).den else 1)) (d := d) (fun x hx => by
   obtain ⟨n, hn, rfl⟩ := List.mem_map.1 hx
   obtain ⟨i, hi, rfl⟩ := List.getElem_of_mem hn
   split
   · rename_i h2
     have := h.dig i hi (by rw [zu node0 hi]; exact h2)
     rw [zu node0 hi] at this
     exact Nat.le_of_lt this.2
   · exact Nat.pow_pos (by decide))
 rwa [List.length_map] at h1
theorem zMj {t : zS} {i : Nat} (hi : i < t.length) (hk : (t.getD i node0).kind = 0) : (zAB (t.getD i node0).pay).den ∣ payB t := by
 refine zGm (List.mem_map.2 ⟨t.getD i node0, zAR node0 hi, ?_⟩)
 rw [if_pos hk]
theorem value_Dv {t : zS} (h : Valid t) {o : zAS} {d : Nat} (ho : OddsAll t o d) (hn : t.length ≤ 40) : Dv (Bd o t.length * payB t) (zCS t o) := by
 refine Dv.sum (fun q hq => ?_) (Dv.zero _)
 obtain ⟨i, hi, rfl⟩ := List.mem_map.1 hq
 obtain ⟨i1, i2⟩ := zFP hi
 exact (zPW h ho hn i1).1.mul (Dv.of_den.mono (zMj i1 i2))
theorem value_le {t : zS} (h : Valid t) {o : zAS} {d : Nat} (ho : OddsAll t o d) {e : Nat} (hp : Pays t e) : zCS t o ≤ ((10 ^ e : Nat) : Rat) ∧ -(zCS t o) ≤ ((10 ^ e : Nat) : Rat) := by
 have hs := ends_sum h ho.toOddsOK
 have one : zAF 0 ((zAd t).map (fun j => (zk t o).getD j 0 * ((10 ^ e : Nat) : Rat))) = ((10 ^ e : Nat) : Rat) := by
   rw [zLf, hs, Rat.one_mul]
 constructor
 · rw [← one]
   refine zMD (fun i hi => ?_)
   obtain ⟨i1, i2⟩ := zFP hi
   exact Rat.mul_le_mul_of_nonneg_left (D_le (hp.dig i i1 i2)).1 (zHJ h ho i i1).2
 · unfold zCS
   rw [← zNB, ← one]
   refine zMD (fun i hi => ?_)
   obtain ⟨i1, i2⟩ := zFP hi
   unfold zIj
   rw [← Rat.mul_neg]
   exact Rat.mul_le_mul_of_nonneg_left (D_le (hp.dig i i1 i2)).2 (zHJ h ho i i1).2
theorem value_D' {t : zS} (h : Valid t) {o : zAS} (ho : OddsAll t o 12) (hn : t.length ≤ 40) (hp : Pays t 12) {E1 E2 W : Nat} (hB : Bd o t.length < 10 ^ E1) (hP : payB t ≤ 10 ^ E2) (hW : 12 + (E1 + E2) ≤ W) : D W (zCS t o) := by
 have e1 : Bd o t.length * payB t < 10 ^ E1 * 10 ^ E2 := by
   refine Nat.lt_of_lt_of_le ((Nat.mul_lt_mul_right (zKf t)).2 hB) ?_
   exact Nat.mul_le_mul_left _ hP
 rw [← Nat.pow_add] at e1
 obtain ⟨v1, v2⟩ := value_le h ho hp
 have hpos : 0 < Bd o t.length * payB t := Nat.mul_pos (zLs o _) (zKf t)
 refine bnd_D (value_Dv h ho hn) (by omega) v1 v2 ?_ ?_
 · have := (Nat.mul_lt_mul_left (a := 10 ^ 12) (Nat.pow_pos (by decide))).2 e1
   rw [← Nat.pow_add] at this
   exact Nat.lt_of_lt_of_le this (Nat.pow_le_pow_right (by decide) hW)
 · exact Nat.lt_of_lt_of_le e1 (Nat.pow_le_pow_right (by decide) (by omega))
/-- The value of a game with short zAi is short. -/
theorem zPe {t : zS} (h : Valid t) {o : zAS} (ho : OddsAll t o 12) (hn : t.length ≤ 40) (hp : Pays t 12) : D 974 (zCS t o) := by
 obtain ⟨_, hB⟩ := zPW h ho hn (show 0 < t.length by have := h.ne; omega)
 have hP := payB_le hp
 refine value_D' h ho hn hp (E1 := 12 * 40 + 1) (E2 := 12 * t.length) hB hP ?_
 omega
/-- the probabilities of chance alone -/
def chanceO (t : zS) : zAS := fun i => if (t.getD i node0).kind = 1 then some ((t.getD i node0).odds.map zAB) else none
/-- the probabilities of chance and of both players -/
def zE6 (t : zS) (a b : Int → List Rat) : zAS := fun i =>
 if (t.getD i node0).kind = 1 then some ((t.getD i node0).odds.map zAB)
 else if (t.getD i node0).kind = 2 then some (if (t.getD i node0).player = 0 then a (t.getD i node0).info else b (t.getD i node0).info) else none
/-- the probabilities of chance and of the other player -/
def oneO (t : zS) (p : Int) (u : Int → List Rat) : zAS := fun i =>
 if (t.getD i node0).kind = 1 then some ((t.getD i node0).odds.map zAB)
 else if (t.getD i node0).kind = 2 then (if (t.getD i node0).player = p then none else some (u (t.getD i node0).info)) else none
theorem zH8 {t : zS} (hv : Valid t) {i : Nat} (hi : i < t.length) (hk : (t.getD i node0).kind = 2) : (t.getD i node0).player = 0 ∨ (t.getD i node0).player = 1 := by
 have h := hv.nodes i hi
 unfold zEE at h
 rw [if_neg (by omega), if_neg (by omega), if_pos hk] at h
 split at h
 · cases h
 split at h
 · cases h
 rename_i h1
 omega
theorem zMQ {p : Int} {n : TNode} : own p n = true ↔ n.kind = 2 ∧ n.player = p := by
 unfold own
 rw [Bool.and_eq_true, decide_eq_true_eq, decide_eq_true_eq]
/-- A game with few nodes and short zAi. -/
structure Modest (t : zS) : Prop where
 len : t.length ≤ 40
 pay : ∀ n ∈ t, n.pay.length ≤ 12
 odds : ∀ n ∈ t, ∀ r ∈ n.odds, r.length ≤ 12
theorem zKv {t : zS} (hv : Valid t) {i : Nat} (hi : i < t.length) (hk : (t.getD i node0).kind = 0) : zCi (t.getD i node0).pay = 0 := by
 have h := hv.nodes i hi
 unfold zEE at h
 rw [if_pos hk] at h
 split at h
 · cases h
 · exact h
theorem zMU {t : zS} (hv : Valid t) {i : Nat} (hi : i < t.length) (hk : (t.getD i node0).kind = 1) : (t.getD i node0).odds.length = (t.getD i node0).next.length ∧ zCV (t.getD i node0).odds = 0 := by
 have h := hv.nodes i hi
 unfold zEE at h
 rw [if_neg (by omega), if_pos hk] at h
 split at h
 · cases h
 split at h
 · rename_i h1; exact absurd h h1
 split at h
 · cases h
 · rename_i h1
   exact ⟨Classical.not_not.1 h1, h⟩
theorem Modest.pays {t : zS} (hm : Modest t) (hv : Valid t) : Pays t 12 :=
 ⟨fun i hi hk => (IsQ.self (zKv hv hi hk)).dig (hm.pay _ (zAR node0 hi)) (by decide)⟩
theorem Modest.chance {t : zS} (hm : Modest t) (hv : Valid t) {i : Nat} (hi : i < t.length) (hk : (t.getD i node0).kind = 1) : ((t.getD i node0).odds.map zAB).length = (t.getD i node0).next.length ∧ zAF 0 ((t.getD i node0).odds.map zAB) = 1 ∧ ∀ q ∈ (t.getD i node0).odds.map zAB, 0 ≤ q ∧ D 12 q := by
 obtain ⟨h1, h2⟩ := zMU hv hi hk
 obtain ⟨o1, o2, o3, o4⟩ := zBC h2
 refine ⟨by rw [List.length_map]; exact h1, o3, fun q hq => ⟨(o4 q hq).1, ?_⟩⟩
 obtain ⟨s, hs, rfl⟩ := List.mem_map.1 hq
 exact (IsQ.self (o2 s hs)).dig (hm.odds _ (zAR node0 hi) s hs) (by decide)
theorem Strat.node {t : zS} (hv : Valid t) {p : Int} {u : Int → List Rat} {d : Nat} (h : Strat t p u d) {i : Nat} (hi : i < t.length) (hk : (t.getD i node0).kind = 2) (hp : (t.getD i node0).player = p) :
   (u (t.getD i node0).info).length = (t.getD i node0).next.length ∧ zAF 0 (u (t.getD i node0).info) = 1 ∧ ∀ q ∈ u (t.getD i node0).info, 0 ≤ q ∧ D d q := by
 have hs : zBJ p (t.getD i node0).info (t.getD i node0) = true := by
   unfold zBJ
   rw [zMQ.2 ⟨hk, hp⟩, decide_eq_true rfl]; rfl
 have hx : (t.getD i node0).info ∈ zJ t p := (zBh hv).2 ⟨i, hi, hs⟩
 exact ⟨by rw [h.len _ hx, zDL hv hi hs], h.sum _ hx, fun q hq => ⟨h.nn _ hx q hq, h.dig _ hx q hq⟩⟩
theorem zJm {t : zS} (hv : Valid t) (hm : Modest t) {a b : Int → List Rat} (ha : Strat t 0 a 12) (hb : Strat t 1 b 12) : OddsAll t (zE6 t a b) 12 := by
 refine ⟨⟨fun i hi hk => ?_⟩, fun i hi hk => ?_⟩
 · by_cases h1 : (t.getD i node0).kind = 1
   · obtain ⟨c1, c2, c3⟩ := hm.chance hv hi h1
     refine ⟨_, ?_, c1, c2, c3⟩
     unfold zE6; rw [if_pos h1]
   · have h2 : (t.getD i node0).kind = 2 := by
       rcases hv.child hi with h | h
       · exact absurd h.1 hk
       · omega
     by_cases h3 : (t.getD i node0).player = 0
     · obtain ⟨c1, c2, c3⟩ := ha.node hv hi h2 h3
       refine ⟨_, ?_, c1, c2, c3⟩
       unfold zE6; rw [if_neg h1, if_pos h2, if_pos h3]
     · have h4 : (t.getD i node0).player = 1 := by have := zH8 hv hi h2; omega
       obtain ⟨c1, c2, c3⟩ := hb.node hv hi h2 h4
       refine ⟨_, ?_, c1, c2, c3⟩
       unfold zE6; rw [if_neg h1, if_pos h2, if_neg h3]
 · unfold zE6; rw [if_neg (by omega), if_neg (by omega)]
theorem Strat.mix {t : zS} {p : Int} {u : Int → List Rat} {d : Nat} (h : Strat t p u d) : Mix t p u := ⟨h.len, h.sum, h.nn⟩
/-- the best value of a player -/
def bestV (t : zS) (p : Int) (u : Int → List Rat) : Rat := (zJq t p (oneO t p u)).2.1.getD 0 0
end Go.Ax.Rt
namespace Go.Ax.Rt
open Go.Ax.Bg
structure OddsW (t : zS) (o : zAS) (d : Nat) : Prop where
 some : ∀ i, i < t.length → ∀ l, o i = some l → l.length = (t.getD i node0).next.length ∧ ∀ q ∈ l, 0 ≤ q ∧ q ≤ 1 ∧ D d q
theorem zPI {t : zS} (h : Valid t) {o : zAS} {d : Nat} (ho : OddsW t o d) : ∀ j, j < t.length → Dv (Bd o j) ((zk t o).getD j 0) ∧ 0 ≤ (zk t o).getD j 0 ∧ (zk t o).getD j 0 ≤ 1 := by
 intro j
 induction j using Nat.strongRecOn with
 | ind j ih =>
   intro hj
   by_cases h0 : j = 0
   · subst h0
     rw [zFt h]
     exact ⟨Dv.one _, by decide +kernel, Rat.le_refl⟩
   · obtain ⟨i, hi, hk⟩ := h.has hj h0
     have hlt := h.kid_lt hi hk
     obtain ⟨m, hm, he⟩ := zOp h hi hk
     have hr := zGt h o hi hm
     rw [he] at hr
     obtain ⟨g1, g2, g3⟩ := ih i (by omega) hi
     cases hoi : o i with
     | none =>
       rw [hoi] at hr
       have hr : (zk t o).getD j 0 = (zk t o).getD i 0 := hr
       rw [hr]
       have h6 := zG9 o (i := i) (j - i)
       rw [show i + (j - i) = j by omega] at h6
       exact ⟨g1.mono h6, g2, g3⟩
     | some l =>
       obtain ⟨l2, l4⟩ := ho.some i hi l hoi
       rw [hoi] at hr
       have hr : (zk t o).getD j 0 = (zk t o).getD i 0 * l.getD m 0 := hr
       obtain ⟨q1, q2, q3⟩ := l4 (l.getD m 0) (zAR 0 (by omega))
       rw [hr]
       refine ⟨?_, Rat.mul_nonneg g2 q1, ?_⟩
       · have h5 : Dv (Bd o (i + 1)) ((zk t o).getD i 0 * l.getD m 0) := by
           refine (g1.mul (Dv.of_den (q := l.getD m 0))).mono ?_
           show _ ∣ Bd o i * pden (o i)
           rw [hoi]
           exact Nat.mul_dvd_mul (Nat.dvd_refl _) (zGm (List.mem_map.2 ⟨_, zAR 0 (by omega), rfl⟩))
         have h6 := zG9 o (i := i + 1) (j - (i + 1))
         rw [show i + 1 + (j - (i + 1)) = j by omega] at h6
         exact h5.mono h6
       · have h7 := Rat.mul_le_mul_of_nonneg_left q2 g2
         rw [Rat.mul_one] at h7
         exact Rat.le_trans h7 g3
theorem Bd_w {t : zS} {o : zAS} {d : Nat} (ho : OddsW t o d) : ∀ i, i ≤ t.length → Bd o i ≤ 10 ^ (d * ((t.take i).flatMap TNode.next).length)
 | 0, _ => by simp [Bd]
 | i + 1, hi => by
   have ih := Bd_w ho i (by omega)
   have hi' : i < t.length := by omega
   have hp : pden (o i) ≤ 10 ^ (d * (t.getD i node0).next.length) := by
     cases hoi : o i with
     | none => exact Nat.pow_pos (by decide)
     | some l =>
       obtain ⟨l2, l4⟩ := ho.some i hi' l hoi
       rw [← l2]
       have := zH1 (l := l.map Rat.den) (d := d) (fun x hx => by
         obtain ⟨q, hq, rfl⟩ := List.mem_map.1 hx
         exact Nat.le_of_lt (l4 q hq).2.2.2)
       rwa [List.length_map] at this
   rw [Bd, List.take_succ_eq_append_getElem hi', List.flatMap_append, List.length_append, Nat.mul_add, Nat.pow_add]
   refine Nat.mul_le_mul ih ?_
   rw [zu node0 hi'] at hp
   simpa using hp
theorem zIX {t : zS} (h : Valid t) {o : zAS} {d : Nat} (ho : OddsW t o d) (hn : t.length ≤ 40) {j : Nat} (hj : j < t.length) : D (d * 40 + 1) ((zk t o).getD j 0) := by
 obtain ⟨g1, g2, g3⟩ := zPI h ho j hj
 have h6 := zG9 o (i := j) (t.length - j)
 rw [show j + (t.length - j) = t.length by omega] at h6
 have h7 := Bd_w ho t.length (Nat.le_refl _)
 rw [List.take_length] at h7
 have h8 := zNY h
 have h9 : d * (t.flatMap TNode.next).length ≤ d * 40 := Nat.mul_le_mul_left _ (by omega)
 have h10 : 10 ^ (d * (t.flatMap TNode.next).length) ≤ 10 ^ (d * 40) := Nat.pow_le_pow_right (by decide) h9
 have h11 : 0 < 10 ^ (d * 40) := Nat.pow_pos (by decide)
 have hpos := zLs o t.length
 refine zLx (g1.mono h6) (by omega) g2 g3 ?_
 rw [Nat.pow_succ]
 omega
theorem unit_le {l : List Rat} (hs : zAF 0 l = 1) (h0 : ∀ q ∈ l, 0 ≤ q) : ∀ q ∈ l, q ≤ 1 := by
 have key : ∀ (l : List Rat) (x : Rat), (∀ q ∈ l, 0 ≤ q) → x ∈ l → x ≤ zAF 0 l := by
   intro l
   induction l with
   | nil => intro x _ hx; simp at hx
   | cons a r ihl =>
     intro x hq hx
     rw [zAF, zA9, Rat.zero_add]
     have ha := hq a (by simp)
     have hr := zHY r 0 (fun y hy => hq y (by simp [hy]))
     rcases List.mem_cons.1 hx with rfl | hx
     · have := (Rat.add_le_add_left (c := x)).2 hr
       rwa [Rat.add_zero] at this
     · have h1 := ihl x (fun q hq' => hq q (by simp [hq'])) hx
       have := (Rat.add_le_add_right (c := zAF 0 r)).2 ha
       rw [Rat.zero_add] at this
       exact Rat.le_trans h1 this
 intro q hq
 rw [← hs]
 exact key l q h0 hq
theorem OddsAll.w {t : zS} {o : zAS} {d : Nat} (h : OddsAll t o d) : OddsW t o d := by
 refine ⟨fun i hi l hl => ?_⟩
 by_cases hk : (t.getD i node0).kind = 0
 · rw [h.none i hi hk] at hl; cases hl
 · obtain ⟨l', h1, h2, h3, h4⟩ := h.at' i hi hk
   rw [hl] at h1
   obtain rfl := Option.some.inj h1
   have := unit_le h3 (fun q hq => (h4 q hq).1)
   exact ⟨h2, fun q hq => ⟨(h4 q hq).1, this q hq, (h4 q hq).2⟩⟩
theorem play_w {t : zS} (hv : Valid t) (hm : Modest t) {a b : Int → List Rat} (ha : Strat t 0 a 12) (hb : Strat t 1 b 12) : OddsW t (zE6 t a b) 12 := (zJm hv hm ha hb).w
/-- the ends before a node -/
def zBx (t : zS) (i : Nat) : List Int := ((List.range i).filter (fun j => decide ((t.getD j node0).kind = 0))).map (fun j : Nat => (j : Int))
theorem zKM (t : zS) (i : Nat) : zBx t (i + 1) = if (t.getD i node0).kind = 0 then zBx t i ++ [(i : Int)] else zBx t i := by
 unfold zBx
 rw [List.range_succ, List.filter_append, List.map_append]
 by_cases h : (t.getD i node0).kind = 0
 · rw [if_pos h, List.filter_cons_of_pos (by simpa using h)]; rfl
 · rw [if_neg h, List.filter_cons_of_neg (by simpa using h)]; simp
theorem zIR (t : zS) : ∀ i, (zBx t i).length ≤ i
 | 0 => Nat.le_refl _
 | i + 1 => by
   have := zIR t i
   rw [zKM]
   split
   · rw [List.length_append]; show _ + 1 ≤ _; omega
   · omega
theorem zLV (t : zS) : zBx t t.length = (zAd t).map (fun j : Nat => (j : Int)) := rfl
theorem zQe (t : zS) {k : Nat} (hk : k < (zAd t).length) : (zBx t t.length).getD k 0 = (((zAd t).getD k 0 : Nat) : Int) := by
 rw [zLV, zBY _ _ 0 _ _ hk]
/-- the sum so far -/
def zKZ (t : zS) (o : zAS) (k : Nat) : Rat := zAF 0 (((zAd t).take k).map (zIj t (zk t o)))
theorem zRV (t : zS) (o : zAS) {k : Nat} (hk : k < (zAd t).length) : zKZ t o (k + 1) = zKZ t o k + zIj t (zk t o) ((zAd t).getD k 0) := by
 unfold zKZ
 rw [List.take_succ_eq_append_getElem hk, List.map_append, List.map_singleton, zER, zu 0 hk]
theorem valK_all (t : zS) (o : zAS) : zKZ t o (zAd t).length = zCS t o := by
 unfold zKZ zCS; rw [List.take_length]
end Go.Ax.Rt
namespace Go.Proofs.YtnkealfaldjipaaGreatDoor
open Go.Ax Go.Ax.Bg Go.Ax.Rt Go.RowKit Go.Ax.Idx Go.Ax.Cd
attribute [local irreducible] Ax zAM QOp zO zo
set_option maxRecDepth 100000
set_option maxHeartbeats 4000000
theorem oddsG_w {t : zS} (hv : Valid t) (hlen : t.length ≤ 40) {o : zAS} (ho : OddsW t o 12) (hc : ∀ i, i < t.length → (t.getD i node0).kind = 1 → o i = some ((t.getD i node0).odds.map zAB)) (he : ∀ i, i < t.length → (t.getD i node0).kind = 0 → o i = none) : OddsG t o := by
 refine ⟨hc, he, fun i hi l hl => ?_, fun j hj => zEg ((zIX hv ho hlen hj).mono (by decide))⟩
 obtain ⟨h1, h2⟩ := ho.some i hi l hl
 have hk : (t.getD i node0).kind ≠ 0 := fun e => by rw [he i hi e] at hl; cases hl
 have hn : 1 ≤ (t.getD i node0).next.length ∧ (t.getD i node0).next.length ≤ 6 := by
   rcases hv.child hi with h | h
   · exact absurd h.1 hk
   · exact ⟨(zB2 h.2).1, (zB2 h.2).2.1⟩
 exact ⟨by omega, by omega, by omega, fun q hq => zEg ((h2 q hq).2.2.mono (by decide))⟩
theorem list_ok (t : zS) (hlen : t.length ≤ 1000000) : zW Tryz.prog 135 [.ro (zd t) 0 t.length] (.ro (.ints .i64 (zBx t t.length)) 0 (zBx t t.length).length) := by
 refine zO.value0 (zF (P := Tryz.prog) (fn := Tryz.f135) rfl rfl (by kernel_rfl) rfl (fun c hR hfix => ?_)) (fix := fun _ => False) (fun _ h => h) rfl rfl
 repeat (first | refine zC (zI rfl) ?_ | refine zC (zK rfl) ?_ | refine zB ?_ | refine zA ?_ | refine zZ ?_ | refine zL rfl ?_ | refine zC (zBE rfl rfl rfl) ?_)
 refine zA1 3 ⟨3, .ints .i64 []⟩ rfl rfl ?_
 repeat (refine zw ?_)
 refine zg (ι := Nat) (fun i => [(3, .sl 0 0 (zBx t i).length), (6, .ro (zd t) 0 t.length), (7, .int .i64 (t.length : Nat)), (8, .int .i64 (i : Nat))]) (fun i => [some ⟨3, .ints .i64 (zBx t i)⟩])
   (fun i => i ≤ t.length) (fun i => t.length - i) 0 ⟨⟨rfl, rfl, rfl, rfl, trivial⟩, rfl, Nat.zero_le _⟩ ?_
 intro i hi
 refine rn4 ?_
 refine zD rfl (fun h => ?_) (fun h => ?_)
 · have hi' : i < t.length := by omega
   have hsn := zKM t i
   have hel := zIR t i
   generalize hI2 : zBx t (i + 1) = I2 at *
   generalize zBx t i = I at *
   refine rn6 ?_
   refine zN 12 (.agg (zBz (t.getD i node0))) rfl (AEq.of_eq rfl) ?_
   generalize t.getD i node0 = n at *
   obtain ⟨kd, pl, nf, nx, od, py⟩ := n
   simp only at *
   refine zQ (c' := .box [.int .i64 kd, .int .i64 pl, .int .i64 nf, .ro (.ints .i64 nx) 0 nx.length, .ro (.strs od) 0 od.length, .str py]) rfl rfl rfl rfl rfl Nat.zero_lt_one rfl rfl (fun i' j' hi' hj' => ?_) ?_
   · rw [if_pos (Nat.lt_one_iff.1 hi')]; rfl
   refine zAb [some ⟨3, .ints .i64 I⟩, some ⟨40, .box [.int .i64 kd, .int .i64 pl, .int .i64 nf, .ro (.ints .i64 nx) 0 nx.length, .ro (.strs od) 0 od.length, .str py]⟩] rfl ?_
   refine zN 5 (.ptr 1 0 0) rfl (AEq.of_eq rfl) ?_
   refine rn5 ?_
   refine zD rfl (fun h1 => ?_) (fun h1 => ?_)
   · rw [if_pos h1] at hsn
     refine rn3 ?_
     refine zm rfl rfl rfl rfl rfl rfl rfl rfl rfl rfl rfl rfl (by show 0 + 1 ≤ 1; omega) rfl (by show (I.length + 1) * 8 ≤ _ ∧ _; omega) (fun i j _ _ => rfl) (by rw [hfix]; exact fun h => h) ?_
     repeat (first | refine zC (zK rfl) ?_ | refine zB ?_ | refine za ?_)
     refine zA ?_
     refine zAa [some ⟨3, .ints .i64 (I ++ [(i : Int)])⟩] [some ⟨40, .box [.int .i64 kd, .int .i64 pl, .int .i64 nf, .ro (.ints .i64 nx) 0 nx.length, .ro (.strs od) 0 od.length, .str py]⟩] [(3, .sl 0 0 (I.length + 1)), (6, .ro (zd t) 0 t.length), (7, .int .i64 (t.length : Nat)), (8, .int .i64 (i : Nat))] rfl ⟨rfl, rfl, rfl, rfl, trivial⟩ (fun h hh => by rw [hfix] at hh; exact absurd hh id) (zBg (zC1 _ _ _)) rfl ?_
     refine rn3 ?_
     exact zM ⟨i + 1, by omega, by omega, ⟨by rw [hI2, hsn, List.length_append]; rfl, rfl, rfl, rfl, trivial⟩, by rw [hI2, hsn]⟩
   · rw [if_neg h1] at hsn
     repeat (first | refine za ?_ | refine zi ?_)
     refine zA ?_
     refine zAa [some ⟨3, .ints .i64 I⟩] [some ⟨40, .box [.int .i64 kd, .int .i64 pl, .int .i64 nf, .ro (.ints .i64 nx) 0 nx.length, .ro (.strs od) 0 od.length, .str py]⟩] [(3, .sl 0 0 I.length), (6, .ro (zd t) 0 t.length), (7, .int .i64 (t.length : Nat)), (8, .int .i64 (i : Nat))] rfl ⟨rfl, rfl, rfl, rfl, trivial⟩ (fun h hh => by rw [hfix] at hh; exact absurd hh id) (zBg (zC1 _ _ _)) rfl ?_
     refine rn3 ?_
     exact zM ⟨i + 1, by omega, by omega, ⟨by rw [hI2, hsn]; rfl, rfl, rfl, rfl, trivial⟩, by rw [hI2, hsn]⟩
 · have hie : i = t.length := by omega
   subst hie
   repeat (first | refine zA ?_ | refine zZ ?_ | refine zAq ?_ | refine zq ?_ | refine zp ?_ | refine zAH ?_)
   refine zAY 0 3 (zBx t t.length).length [] rfl zAW rfl (by show (zBx t t.length).length ≤ (zBx t t.length).length; exact Nat.le_refl _) trivial ?_
   refine rn0 ?_
   exact zH hR rfl rfl
abbrev zFw (s : zAT) : AV := .rom (s.map keyC) (s.map valC)
theorem zLG (n : TNode) (a b : zAT) (hp : n.player = 0 ∨ n.player = 1) (c : TChoice) (hc : c ∈ (if n.player = 0 then a else b)) (hi : c.info = n.info) : zW Tryz.prog 141 [.agg (zBz n), .rp (.box [zFw a, zFw b]) 0 0] (.ro (qsC (c.odds.map zAB)) 0 (c.odds.map zAB).length) := by
 obtain ⟨jj, i1, i2⟩ := zQi hc
 rw [hi] at i1
 obtain ⟨kd, pl, nf, nx, od, py⟩ := n
 simp only at *
 refine zO.value0 (zF (P := Tryz.prog) (fn := Tryz.f141) rfl rfl (by kernel_rfl) rfl (fun c hR hfix => ?_)) (fix := fun _ => False) (fun _ h => h) rfl rfl
 unfold zBz
 simp only
 refine rn6 ?_
 refine zn (by kernel_rfl) ?_
 rcases hp with hp | hp
 · subst hp
   rw [if_pos rfl] at i1 i2
   refine zr (fuel := 0) [0, 1, 2, 3, 4, 5, 6, 7] [(1, .rp (.box [zFw a, zFw b]) 0 0), (2, .ptr 0 0 0)] ⟨rfl, rfl, trivial⟩ (by kernel_rfl) (by decide) rfl rfl ?_
   refine zX rfl rfl (zP rfl rfl rfl rfl rfl rfl) ?_
   refine zX rfl rfl (zU rfl rfl rfl rfl rfl) ?_
   refine zX rfl rfl (zGc rfl rfl rfl rfl (by first | (simp only [Nat.zero_add, Int.toNat_natCast]; exact rfl) | exact rfl) (by omega)) ?_
   refine zX rfl rfl (zBu rfl rfl rfl rfl) ?_
   refine zX rfl rfl (zP rfl rfl rfl rfl rfl rfl) ?_
   refine zX rfl rfl (zU rfl rfl rfl rfl rfl) ?_
   refine zX rfl rfl (zB7 rfl (.int rfl) rfl rfl rfl rfl (keysC a) jj i1 i2) ?_
   refine zX rfl rfl (zK rfl) ?_
   refine zAc ?_
   refine zh (by kernel_rfl) ?_
   refine rn0 ?_
   exact zH hR rfl rfl
 · subst hp
   rw [if_neg (by decide)] at i1 i2
   refine zr (fuel := 0) [0, 1, 2, 3, 4, 5, 6, 7] [(1, .rp (.box [zFw a, zFw b]) 0 0), (2, .ptr 0 0 0)] ⟨rfl, rfl, trivial⟩ (by kernel_rfl) (by decide) rfl rfl ?_
   refine zX rfl rfl (zP rfl rfl rfl rfl rfl rfl) ?_
   refine zX rfl rfl (zU rfl rfl rfl rfl rfl) ?_
   refine zX rfl rfl (zGc rfl rfl rfl rfl (by first | (simp only [Nat.zero_add, Int.toNat_natCast]; exact rfl) | exact rfl) (by omega)) ?_
   refine zX rfl rfl (zBu rfl rfl rfl rfl) ?_
   refine zX rfl rfl (zP rfl rfl rfl rfl rfl rfl) ?_
   refine zX rfl rfl (zU rfl rfl rfl rfl rfl) ?_
   refine zX rfl rfl (zB7 rfl (.int rfl) rfl rfl rfl rfl (keysC b) jj i1 i2) ?_
   refine zX rfl rfl (zK rfl) ?_
   refine zAc ?_
   refine zh (by kernel_rfl) ?_
   refine rn0 ?_
   exact zH hR rfl rfl
end Go.Proofs.YtnkealfaldjipaaGreatDoor
namespace Go.Ax
variable [Pins]
open Go.RowKit
def sclM (x : Value) : Option AV := match x with
 | .map none => some .any
 | v => scl v
theorem vr_sclM {w : World} {S : Nat → Prop} {σ : Nat → Option Blk} {x : Value} {v : AV} (h : sclM x = some v) : VR w S σ v x ∧ x.oneCell' = true := by
 unfold sclM at h
 split at h
 · cases h; exact ⟨.any _ _, rfl⟩
 · exact zMX h
def zavM (v : Value) : Option (List AV) := v.cells.toList.mapM fun x => sclM x
theorem zLQ {w : World} {S : Nat → Prop} {σ : Nat → Option Blk} {z : Value} {zs : List AV} (h : zavM z = some zs) : z.cells.size = zs.length ∧ ∀ j, j < zs.length → VR w S σ (zs.getD j .any) (z.cells.getD j undef) ∧ (z.cells.getD j undef).oneCell' = true := by
 unfold zavM at h
 have key : ∀ (l : List Value) (zs : List AV), l.mapM (fun x => sclM x) = some zs → l.length = zs.length ∧ ∀ j, j < zs.length → VR w S σ (zs.getD j .any) (l.getD j undef) ∧ (l.getD j undef).oneCell' = true := by
   intro l
   induction l with
   | nil => intro zs h; simp at h; subst h; exact ⟨rfl, fun j hj => by simp at hj⟩
   | cons x r ih =>
     intro zs h
     simp only [List.mapM_cons] at h
     cases h1 : sclM x with
     | none => simp [h1] at h
     | some y =>
       cases h2 : r.mapM (fun x => sclM x) with
       | none => simp [h1, h2] at h
       | some ys =>
         simp [h1, h2] at h
         subst h
         obtain ⟨i1, i2⟩ := ih ys h2
         refine ⟨by simp [i1], fun j hj => ?_⟩
         cases j with
         | zero => exact vr_sclM h1
         | succ j => simpa using i2 j (by simpa using hj)
 obtain ⟨k1, k2⟩ := key _ _ h
 refine ⟨by simpa using k1, fun j hj => ?_⟩
 have := k2 j hj
 have e : z.cells.toList.getD j undef = z.cells.getD j undef := by
   have hlt : j < z.cells.size := by simp at k1; omega
   simp [List.getD, Array.getD, hlt]
 rwa [e] at this
section
variable {P : Program} {fn : Func} {c : Ctx} {fr : Fr} {H : zV} {k : List It}
/-- A struct's or an array's value. -/
theorem q_buildM {ind : Bool} {d : Option Nat} {ty : TypeId} {pos : String} {after : Array Edge} {g : Option (Nat × Bool)} {t : TypeId} {parts : List (Nat × Operand)} {it : TypeInfo} {z : Value} {zs L : List AV} {l : List (Nat × AV)} {pl : Nat → Option (Nat × Nat)}
   (hi : P.info? t = some it) (hz : it.zero = some z) (hzs : zavM z = some zs) (hpl : zHZ P t = some pl) (hl : zDm fr parts = some l) (hf : zF1 pl zs l = some L) :
   QOp ind P fn c fr H ⟨d, .build t parts.toArray, ty, pos, after, g⟩ (.agg L) := by
 intro w a σ S hr
 obtain ⟨y1, y2⟩ := zLQ (w := w) (S := S) (σ := σ) hzs
 obtain ⟨cs', g1, g2⟩ := zGp l _ z.cells zs L ⟨y1, y2⟩ (zEL hr parts l hl) hf
 refine ⟨.agg cs', .agg _ _ _ g2.1 (fun i hi => (g2.2 i hi).1) (fun i hi => (g2.2 i hi).2), fun w' _ => ?_⟩
 have hb : P.built t ((parts.toArray.map fun (i, x) => (i, a.eval x)).toList) = some cs' := by
   have e : (parts.toArray.map fun (i, x) => (i, a.eval x)).toList = parts.map fun (i, x) => (i, a.eval x) := by simp
   rw [e]
   unfold zHZ at hpl
   unfold Program.built
   cases hu : P.underlying t with
   | none => simp [hu] at hpl
   | some u =>
     cases u with
     | array nn e' =>
       simp only [hu] at hpl
       cases he : P.info? e' with
       | none => simp [he] at hpl
       | some ie =>
         simp only [he, Option.some.injEq] at hpl
         subst hpl
         simp only [hi, hz, he]
         exact g1
     | struct fields =>
       simp only [hu] at hpl
       cases he : fields.toList.mapM (fun f => (P.info? f.type).map fun i => (f.offset, i.size)) with
       | none => simp [he] at hpl
       | some places =>
         simp only [he, Option.some.injEq] at hpl
         subst hpl
         simp only [hi, hz, he]
         exact g1
     | _ => simp [hu] at hpl
 have hrun := run_build (P := P) w' t (parts.toArray.map fun (i, x) => (i, a.eval x)) cs' hb
 simp only [execOp, Sem.run_bind, hrun, Result.andThen_ok]
 rfl
theorem zQL {all : Array Oper} {d : Nat} {t : TypeId} {ty : TypeId} {pos : String} {after : Array Edge} {rest : List Oper} {inf : TypeInfo} {z : Value} {zs : List AV}
   (hi : P.info? t = some inf) (hz : inf.zero = some z) (hzs : zavM z = some zs)
   (hk : Ax P fn c (.ops false all rest k) ((d, .ptr H.length 0 0) :: fr) (H ++ [some ⟨t, .box zs⟩])) : Ax P fn c (.ops false all (⟨some d, .alloc t, ty, pos, after, none⟩ :: rest) k) fr H := by
 refine ax_w (fun w a σ S hr => ?_) hk
 have ha : Arr w S σ z.cells zs := zLQ hzs
 have hrun : (execOp a.eval ⟨some d, .alloc t, ty, pos, after, none⟩).run P w = .ok (.value (.pointer (some ⟨w.heap.size, 0, none⟩))) (w.alloc (.cells z.cells t (0, 0))) := by
   simp [execOp, Instr.alloc, newVar, newRow, zeroValue, typeInfo, hi, hz]
 refine ⟨_, _, _, S, hrun, hr.alloc (o := ⟨t, .box zs⟩) (C := 1) (cur := z.cells) (Nat.le_refl _) (by unfold maxLen; omega) (by simp [Cells.sz, ha.1]) (zIY ha), ?_⟩
 have := VR.ptr (w := w.alloc (.cells z.cells t (0, 0))) (S := S) (upσ σ H.length (.at w.heap.size (Cells.box zs).sz 1)) H.length 0 0 w.heap.size (Cells.box zs).sz 1 (by simp [upσ])
 simpa using this
end
end Go.Ax
namespace Go.Proofs.YtnkealfaldjipaaGreatDoor
open Go.Ax Go.Ax.Bg Go.Ax.Rt Go.RowKit Go.Ax.Idx Go.Ax.Cd
attribute [local irreducible] Ax zAM QOp zO zo
set_option maxRecDepth 100000
set_option maxHeartbeats 4000000
structure StrS (t : zS) (p : Int) (s : zAT) : Prop where
 short : ShortS s
 ok : OkS t p s
 dig : ∀ c ∈ s, ∀ r ∈ c.odds, r.length ≤ 12
theorem StrS.nd {t : zS} {p : Int} {s : zAT} (h : StrS t p s) : (s.map TChoice.info).Nodup := by rw [h.ok.infos]; exact zBM t p
theorem StrS.str {t : zS} {p : Int} {s : zAT} (h : StrS t p s) : Strat t p (zB1 s) 12 := h.ok.strat12 h.dig
theorem StrS.call {t : zS} {p : Int} {s : zAT} (h : StrS t p s) : zW Tryz.prog 132 [.ro (z6 s) 0 s.length] (zFw s) :=
 odds_ok' s h.short h.nd (fun c hc => ⟨(zBC (h.ok.odds c hc)).1, (zBC (h.ok.odds c hc)).2.1⟩)
theorem StrS.node {t : zS} {p : Int} {s : zAT} (h : StrS t p s) (hv : Valid t) {i : Nat} (hi : i < t.length) (hk : (t.getD i node0).kind = 2) (hp : (t.getD i node0).player = p) : ∃ c ∈ s, c.info = (t.getD i node0).info ∧ zB1 s (t.getD i node0).info = c.odds.map zAB := by
 have hs : zBJ p (t.getD i node0).info (t.getD i node0) = true := by
   unfold zBJ
   rw [zMQ.2 ⟨hk, hp⟩, decide_eq_true rfl]; rfl
 obtain ⟨c, c1, c2, c3, _⟩ := h.ok.at' ((zBh hv).2 ⟨i, hi, hs⟩)
 exact ⟨c, c1, c2, c3⟩
def zBW (t : zS) (a b : zAT) : zAS := zE6 t (zB1 a) (zB1 b)
theorem playS_G {t : zS} (hv : Valid t) (hm : Go.Ax.Rt.Modest t) {a b : zAT} (ha : StrS t 0 a) (hb : StrS t 1 b) : OddsG t (zBW t a b) :=
 oddsG_w hv hm.len (play_w hv hm ha.str hb.str) (fun i hi hk => by unfold zBW zE6; rw [if_pos hk]) (fun i hi hk => by unfold zBW zE6; rw [if_neg (by omega), if_neg (by omega)])
theorem zMF (a b : zAT) : z7 (.box [zFw a, zFw b]) := by
 intro i j _ hj
 have hj : j < 2 := hj
 match j, hj with
 | 0, _ => rfl
 | 1, _ => rfl
theorem zRF (t : zS) (a b : zAT) (hT : ShortT t) (hv : Valid t) (hm : Go.Ax.Rt.Modest t) (ha : StrS t 0 a) (hb : StrS t 1 b) :
   zW Tryz.prog 81 [.ro (zd t) 0 t.length, .ro (z6 a) 0 a.length, .ro (z6 b) 0 b.length] (.ro (qsC (zk t (zBW t a b))) 0 t.length) := by
 have h1 := reach_ok t (zBW t a b) 141 [.rp (.box [zFw a, zFw b]) 0 0] rfl rfl hT hv (playS_G hv hm ha hb) (fun i hi hk => by
   have hp := zH8 hv hi hk
   rcases hp with hp | hp
   · obtain ⟨c, c1, c2, c3⟩ := ha.node hv hi hk hp
     have := zLG (t.getD i node0) a b (.inl hp) c (by rw [if_pos hp]; exact c1) c2
     have e : zBW t a b i = some (c.odds.map zAB) := by unfold zBW zE6; rw [if_neg (by omega), if_pos hk, if_pos hp, c3]
     rw [e]; exact this
   · obtain ⟨c, c1, c2, c3⟩ := hb.node hv hi hk hp
     have := zLG (t.getD i node0) a b (.inr hp) c (by rw [if_neg (by omega)]; exact c1) c2
     have e : zBW t a b i = some (c.odds.map zAB) := by unfold zBW zE6; rw [if_neg (by omega), if_pos hk, if_neg (by omega), c3]
     rw [e]; exact this)
 have ca := ha.call
 have cb := hb.call
 refine zO.value0 (zF (P := Tryz.prog) (fn := Tryz.f81) rfl rfl (by kernel_rfl) rfl (fun c hR hfix => ?_)) (fix := fun _ => False) (fun _ h => h) rfl rfl
 refine rn0 ?_
 refine zE rfl rfl rfl ca ?_
 repeat (refine zC (zI rfl) ?_)
 refine zE rfl rfl rfl cb ?_
 skip
 refine zC (q_buildM rfl rfl rfl rfl rfl rfl) ?_
 skip
 refine zQL rfl rfl rfl ?_
 skip
 refine zQ (c' := .box [zFw a, zFw b]) rfl rfl rfl rfl rfl Nat.zero_lt_one rfl rfl (fun i' j' hi' hj' => ?_) ?_
 · rw [if_pos (Nat.lt_one_iff.1 hi')]; rfl
 repeat (first | refine zB ?_ | refine zA ?_ | refine zZ ?_)
 refine zBs [some ⟨219, .box [zFw a, zFw b]⟩] rfl ?_
 refine zNP (o := ⟨219, .box [zFw a, zFw b]⟩) (v := .ptr 0 0 0) 7 [(0, .ro (zd t) 0 t.length)] (.rp (.box [zFw a, zFw b]) 0 0) (zMF a b) rfl rfl (fun o ho => by simp at ho; subst ho; exact Nat.zero_lt_one) rfl ⟨rfl, rfl, trivial⟩ ⟨rfl, trivial⟩ rfl (by rw [hfix]; exact fun h hh => hh) ?_
 repeat (first | refine zC (zI rfl) ?_ | refine zL rfl ?_ | refine zC (zKE rfl) ?_)
 refine zE rfl rfl rfl h1 ?_
 refine rn0 ?_
 exact zH hR rfl rfl
theorem rof_ok (t : zS) (a b : zAT) (hT : ShortT t) (hv : Valid t) (hm : Go.Ax.Rt.Modest t) (ha : StrS t 0 a) (hb : StrS t 1 b) :
   zW Tryz.prog 77 [.ro (zd t) 0 t.length, .ro (z6 a) 0 a.length, .ro (z6 b) 0 b.length] (qA (zCS t (zBW t a b))) := by
 have h1 := zRF t a b hT hv hm ha hb
 have hml := hm.len
 have h2 := list_ok t (by omega)
 have hel := zIR t t.length
 have hw := play_w hv hm ha.str hb.str
 have hrl : (zk t (zBW t a b)).length = t.length := zEf t _ _
 refine zO.value0 (zF (P := Tryz.prog) (fn := Tryz.f77) rfl rfl (by kernel_rfl) rfl (fun c hR hfix => ?_)) (fix := fun _ => False) (fun _ h => h) rfl rfl
 refine rn4 ?_
 refine zE rfl rfl rfl h1 ?_
 refine rn0 ?_
 refine zE rfl rfl rfl zFp ?_
 repeat (refine zBI rfl rfl rfl ?_)
 refine zQ (c' := .box (zAD 0)) rfl rfl rfl rfl rfl Nat.zero_lt_one rfl rfl (fun i' j' hi' hj' => ?_) ?_
 · rw [if_pos (Nat.lt_one_iff.1 hi')]; rfl
 refine rn0 ?_
 refine zE rfl rfl rfl h2 ?_
 refine rn3 ?_
 have hEl : (zBx t t.length).length = (zAd t).length := by rw [zLV, List.length_map]
 refine zg (ι := Nat) (fun k => [(0, .ro (zd t) 0 t.length), (6, .ptr 0 0 0), (7, .ro (qsC (zk t (zBW t a b))) 0 t.length), (8, .ptr 1 0 0), (17, .ro (.ints .i64 (zBx t t.length)) 0 (zBx t t.length).length), (18, .int .i64 ((zBx t t.length).length : Nat)), (19, .int .i64 (k : Nat))]) (fun k => [some ⟨122, .box [.bool false, .nil, .nil]⟩, some ⟨122, .box (zAD (zKZ t (zBW t a b) k))⟩])
   (fun k => k ≤ (zBx t t.length).length) (fun k => (zBx t t.length).length - k) 0 ⟨⟨rfl, rfl, rfl, rfl, rfl, rfl, rfl, trivial⟩, rfl, Nat.zero_le _⟩ ?_
 intro k hk
 refine rn4 ?_
 refine zD rfl (fun h => ?_) (fun h => ?_)
 · have hk' : k < (zAd t).length := by omega
   have hi0 := zQe t hk'
   obtain ⟨i1, i2⟩ := zFP (zAR (l := zAd t) 0 hk')
   have hsuc := zRV t (zBW t a b) hk'
   have hpay := zKv hv i1 i2
   have hpl := (hT.node _ (zAR node0 i1)).pay
   have cp := zFd (t.getD ((zAd t).getD k 0) node0).pay hpl hpay
   have dr := zIX hv hw hml i1
   have dp := (hm.pays hv).dig _ i1 i2
   have hsum : D (1 + k * 494) (zKZ t (zBW t a b) k) := by
     unfold zKZ
     refine (zML (k := 493) (l := ((zAd t).take k).map (zIj t (zk t (zBW t a b)))) (fun q hq => ?_) (j := 1) (acc := 0) ⟨by decide, by decide⟩).mono ?_
     · obtain ⟨x, hx, rfl⟩ := List.mem_map.1 hq
       obtain ⟨x1, x2⟩ := zFP (List.mem_of_mem_take hx)
       exact ((zIX hv hw hml x1).mul ((hm.pays hv).dig _ x1 x2)).mono (by decide)
     · rw [List.length_map, List.length_take]
       have : min k (zAd t).length * 494 ≤ k * 494 := Nat.mul_le_mul_right _ (Nat.min_le_left _ _)
       omega
   have cm := zHi _ _ (zEg (dr.mono (show 12 * 40 + 1 ≤ 9 * 100000 by decide))) (zEg (dp.mono (by decide)))
   have hend : zIj t (zk t (zBW t a b)) ((zAd t).getD k 0) = (zk t (zBW t a b)).getD ((zAd t).getD k 0) 0 * zAB (t.getD ((zAd t).getD k 0) node0).pay := rfl
   have cm : zW Tryz.prog 105 [qA ((zk t (zBW t a b)).getD ((zAd t).getD k 0) 0), qA (zAB (t.getD ((zAd t).getD k 0) node0).pay)] (qA (zIj t (zk t (zBW t a b)) ((zAd t).getD k 0))) := cm
   have ca := zHr (zKZ t (zBW t a b) k) (zIj t (zk t (zBW t a b)) ((zAd t).getD k 0)) (zEg (hsum.mono (by omega))) (by
     rw [hend]; exact zEg ((dr.mul dp).mono (by decide)))
   rw [← hsuc] at ca
   have hdk : k < (zBx t t.length).length := by omega
   generalize hV2 : zKZ t (zBW t a b) (k + 1) = V2 at *
   generalize zKZ t (zBW t a b) k = V at *
   generalize hE : zIj t (zk t (zBW t a b)) ((zAd t).getD k 0) = E at *
   generalize (zAd t).getD k 0 = i at *
   repeat (first | refine zA ?_ | refine zZ ?_ | refine zw ?_ | refine zi ?_)
   refine zL rfl ?_
   repeat (first | refine zC (zK rfl) ?_ | refine zC (zAr rfl rfl rfl) ?_ | refine zB ?_ | refine zA ?_ | refine zC (zf rfl rfl rfl rfl (by first | (simp only [Nat.zero_add, Int.toNat_natCast, Int.toNat_zero]; exact rfl) | exact rfl) (by omega)) ?_)
   refine zAO 10 (.int .i64 (i : Nat)) rfl (AEq.of_eq (by rw [← hi0])) ?_
   skip
   refine zn (by kernel_rfl) ?_
   refine zr (fuel := 1) [0, 1, 2, 3, 4, 5, 6, 7, 8, 9, 10, 11, 12] [(10, .int .i64 (i : Nat)), (0, .ro (zd t) 0 t.length), (6, .ptr 0 0 0), (7, .ro (qsC (zk t (zBW t a b))) 0 t.length), (8, .ptr 1 0 0), (17, .ro (.ints .i64 (zBx t t.length)) 0 (zBx t t.length).length), (18, .int .i64 ((zBx t t.length).length : Nat)), (19, .int .i64 (k : Nat))] ⟨rfl, rfl, rfl, rfl, rfl, rfl, rfl, rfl, trivial⟩ (by kernel_rfl) (by decide) rfl rfl ?_
   refine zX rfl rfl (zAC rfl rfl rfl rfl rfl rfl rfl (by first | exact Nat.zero_lt_one | assumption | omega)) ?_
   refine zX rfl rfl (zI rfl) ?_
   refine zX rfl rfl (zI rfl) ?_
   refine zX rfl rfl (zf rfl rfl rfl rfl (by first | (simp only [Nat.zero_add, Int.toNat_natCast, Int.toNat_zero]; exact rfl) | exact rfl) (by omega)) ?_
   refine zX rfl rfl (zBj rfl rfl rfl rfl rfl rfl) ?_
   refine zX rfl rfl (zI rfl) ?_
   refine zX rfl rfl (zI rfl) ?_
   refine zX rfl rfl (zf rfl rfl rfl rfl (by first | (simp only [Nat.zero_add, Int.toNat_natCast, Int.toNat_zero]; exact rfl) | exact rfl) (by omega)) ?_
   refine zX rfl rfl (zCD rfl rfl rfl rfl rfl rfl) ?_
   refine zX rfl rfl (zCA rfl rfl rfl rfl) ?_
   refine zBc rfl rfl rfl rfl rfl cp ?_
   refine zBc rfl rfl rfl rfl rfl cm ?_
   refine zBc rfl rfl rfl rfl rfl ca ?_
   refine zAc ?_
   refine zG (is := [13]) (by kernel_rfl) (by simp) rfl ⟨fun o ho => ?_, trivial⟩
   all_goals (cases ho)
   unfold qA
   refine zQ (c' := .box (zAD V2)) rfl rfl rfl rfl rfl Nat.zero_lt_one rfl rfl (fun i' j' hi' hj' => ?_) ?_
   · rw [if_pos (Nat.lt_one_iff.1 hi')]; rfl
   refine rn1 ?_
   refine zh (by kernel_rfl) ?_
   refine rn5 ?_
   exact zM ⟨k + 1, by omega, by omega, ⟨rfl, rfl, rfl, rfl, rfl, rfl, rfl, trivial⟩, by rw [hV2]; rfl⟩
 · have hie : k = (zBx t t.length).length := by omega
   subst hie
   rw [hEl, valK_all]
   refine rn6 ?_
   refine zQ (c' := .box (zAD (zCS t (zBW t a b)))) rfl rfl rfl rfl rfl Nat.zero_lt_one rfl rfl (fun i' j' hi' hj' => ?_) ?_
   · rw [if_pos (Nat.lt_one_iff.1 hi')]; rfl
   refine rn0 ?_
   exact zH hR rfl rfl
end Go.Proofs.YtnkealfaldjipaaGreatDoor
namespace Go.Proofs.YtnkealfaldjipaaGreatDoor
open Go.Ax Go.Ax.Bg Go.Ax.Rt Go.RowKit Go.Ax.Idx Go.Ax.Cd
attribute [local irreducible] Ax zAM QOp zO zo
set_option maxRecDepth 100000
set_option maxHeartbeats 4000000
def zLw (t : zS) (a b : zAT) : Int := if zJA t ≠ 0 then zJA t else if zA8 t 0 a ≠ 0 then zA8 t 0 a else zA8 t 1 b
/-- few nodes, short texts -/
structure Small (t : zS) (a : List zAT) : Prop where
 sh : ShortT t
 m : Go.Ax.Rt.Modest t
 s : ∀ x ∈ a, ShortS x
 d : ∀ x ∈ a, ∀ c ∈ x, ∀ r ∈ c.odds, r.length ≤ 12
theorem Small.str {t : zS} {l : List zAT} (h : Small t l) {s : zAT} (hs : s ∈ l) {p : Int} (he : zA8 t p s = 0) : StrS t p s := ⟨h.s s hs, zC3 he, h.d s hs⟩
def valueR (t : zS) (a b : zAT) : zAK × Int := if zLw t a b ≠ 0 then ([], zLw t a b) else zFI (zCS t (zBW t a b))
def oddsAllR (t : zS) (a b : zAT) : List zAK × Int := if zLw t a b ≠ 0 then ([], zLw t a b) else zBG (zk t (zBW t a b))
end Go.Proofs.YtnkealfaldjipaaGreatDoor
namespace Go.Ax.Rt
open Go.Ax.Bg
def upd (u : Int → List Rat) (x : Int) (v : List Rat) : Int → List Rat := fun y => if y = x then v else u y
theorem upd_at (u : Int → List Rat) (x : Int) (v : List Rat) : upd u x v x = v := if_pos rfl
theorem zOM (u : Int → List Rat) {x y : Int} (v : List Rat) (h : y ≠ x) : upd u x v y = u y := if_neg h
theorem zLz {w c m : Nat} (hc : c < w) : (zAx w c).getD m 0 = if m = c then 1 else 0 := by
 unfold zAx
 rw [Go.Ax.Dt.getD_set, List.length_replicate]
 by_cases h : m = c
 · subst h; rw [if_pos ⟨rfl, hc⟩, if_pos rfl]
 · rw [if_neg (fun q => h q.1), if_neg h]
   simp only [List.getD, List.getElem?_replicate]
   split <;> rfl
theorem zC9 {t : zS} {p : Int} (u : Int → List Rat) {k b : Nat} {x : Int × Nat} (x2 : x.2 ≤ k) (x3 : k < x.2 + zT t p x.1) (x4 : b < x.2) (x6 : x.2 + zT t p x.1 ≤ (zb t p).length)
   (x7 : ∀ c, c < zT t p x.1 → (zb t p).getD (x.2 + c) seq0 = ⟨x.1, (c : Int), (b : Int)⟩) : (zAk t p u).getD k 0 = (zAk t p u).getD b 0 * (u x.1).getD (k - x.2) 0 := by
 have hs := x7 (k - x.2) (by omega)
 rw [show x.2 + (k - x.2) = k by omega] at hs
 unfold zAk
 rw [zDV _ _ (show k < (zb t p).length by omega), hs]
 unfold zDu
 simp only
 rw [if_neg (by omega), Int.toNat_natCast, Int.toNat_natCast, zHS _ _ (show b < (zb t p).length by omega) (show b < k by omega)]
/-- What stands before an information set does not hang on it. -/
theorem zRH {t : zS} (hv : Valid t) {p : Int} (u : Int → List Rat) (y : Int) (v : List Rat) {x : Int × Nat} (hx : x ∈ (zBA t p t.length).first) (hy : x.1 = y) : ∀ k, k < x.2 → k < (zb t p).length → (zAk t p (upd u y v)).getD k 0 = (zAk t p u).getD k 0 := by
 have hnd := (RI.all_n hv p t.length (Nat.le_refl _)).nd
 intro k
 induction k using Nat.strongRecOn with
 | ind k ih =>
   intro hk hkl
   rcases Nat.eq_zero_or_pos k with e | e
   · subst e; rw [zBb hv, zBb hv]
   · obtain ⟨x', b, y0, y1, y2, y3, y4, y5, y6, y7⟩ := zFB hv e hkl
     have hne : x'.1 ≠ y := fun h => by
       have := zMK hnd y0 hx (by rw [h, hy])
       subst this
       omega
     rw [zC9 (upd u y v) y2 y3 y4 y6 y7, zC9 u y2 y3 y4 y6 y7, zOM u v hne, ih b (by omega) (by omega) (by omega)]
theorem plan_lin {t : zS} (hv : Valid t) {p : Int} (u : Int → List Rat) {y : Int} (hsum : zA7 (fun c => (u y).getD c 0) (zT t p y) = 1) : ∀ k, k < (zb t p).length →
   (zAk t p u).getD k 0 = zA7 (fun c => (u y).getD c 0 * (zAk t p (upd u y (zAx (zT t p y) c))).getD k 0) (zT t p y) := by
 intro k
 induction k using Nat.strongRecOn with
 | ind k ih =>
   intro hkl
   rcases Nat.eq_zero_or_pos k with e | e
   · subst e
     rw [zBb hv, ← hsum]
     exact zAs (fun c _ => by rw [zBb hv, Rat.mul_one])
   · obtain ⟨x, b, y0, y1, y2, y3, y4, y5, y6, y7⟩ := zFB hv e hkl
     by_cases hxy : x.1 = y
     · rw [zC9 u y2 y3 y4 y6 y7]
       have h1 : ∀ c, c < zT t p y → (u y).getD c 0 * (zAk t p (upd u y (zAx (zT t p y) c))).getD k 0 = if c = k - x.2 then (zAk t p u).getD b 0 * (u y).getD c 0 else 0 := fun c hc => by
         rw [zC9 _ y2 y3 y4 y6 y7, zRH hv u y _ y0 hxy b y4 (by omega), hxy, upd_at, zLz hc]
         by_cases h : c = k - x.2
         · rw [if_pos h.symm, if_pos h, Rat.mul_one, Rat.mul_comm]
         · rw [if_neg (fun q => h q.symm), if_neg h, Rat.mul_zero, Rat.mul_zero]
       rw [zAs h1, zEP (f := fun c => (zAk t p u).getD b 0 * (u y).getD c 0) (by rw [← hxy]; omega), hxy]
     · rw [zC9 u y2 y3 y4 y6 y7, ih b (by omega) (by omega), ← zIh]
       refine zAs (fun c hc => ?_)
       rw [zC9 _ y2 y3 y4 y6 y7, zOM _ _ hxy, Rat.mul_assoc]
/-- the pure strategies in their order -/
def zDv (out : List (List Int)) (n : Nat) : List (List Int) := out.flatMap (fun l => (List.range n).map (fun k : Nat => l ++ [(k : Int)]))
def zCE (w : List Nat) : List (List Int) := w.foldl zDv [[]]
theorem zFO (w : List Nat) (n : Nat) : zCE (w ++ [n]) = zDv (zCE w) n := by unfold zCE; rw [List.foldl_append]; rfl
/-- the probability of a pure strategy -/
def zHv : List (List Rat) → List Int → Rat → Rat
 | o :: os, c :: cs, q => zHv os cs (q * o.getD c.toNat 0)
 | _, _, q => q
theorem zJb (o : List Rat) (c : Int) : ∀ (os : List (List Rat)) (cs : List Int) (q : Rat), os.length = cs.length → zHv (os ++ [o]) (cs ++ [c]) q = zHv os cs q * o.getD c.toNat 0
 | [], [], q, _ => rfl
 | a :: r, b :: s, q, h => by
   show zHv (r ++ [o]) (s ++ [c]) _ = zHv r s _ * _
   exact zJb o c r s _ (by simpa using h)
 | [], _ :: _, _, h => by simp at h
 | _ :: _, [], _, h => by simp at h
/-- a strategy with some information sets made pure -/
def zCt (t : zS) (p : Int) : (Int → List Rat) → List Int → List Int → Int → List Rat
 | u, x :: xs, c :: cs => zCt t p (upd u x (zAx (zT t p x) c.toNat)) xs cs
 | u, _, _ => u
theorem zKO (t : zS) (p : Int) (x c : Int) : ∀ (xs cs : List Int) (u : Int → List Rat), xs.length = cs.length → zCt t p u (xs ++ [x]) (cs ++ [c]) = upd (zCt t p u xs cs) x (zAx (zT t p x) c.toNat)
 | [], [], u, _ => rfl
 | a :: r, b :: s, u, h => zKO t p x c r s _ (by simpa using h)
 | [], _ :: _, _, h => by simp at h
 | _ :: _, [], _, h => by simp at h
theorem zIJ (t : zS) (p : Int) {y : Int} : ∀ (xs cs : List Int) (u : Int → List Rat), y ∉ xs → zCt t p u xs cs y = u y
 | [], cs, u, _ => by cases cs <;> rfl
 | a :: r, [], u, _ => rfl
 | a :: r, b :: s, u, h => by
   show zCt t p _ r s y = _
   rw [zIJ t p r s _ (fun q => h (by simp [q])), zOM _ _ (fun q => h (by simp [q]))]
theorem next_len {l : List Int} {out : List (List Int)} {n m : Nat} (ho : ∀ a ∈ out, a.length = m) (h : l ∈ zDv out n) : l.length = m + 1 := by
 obtain ⟨l', h1, h2⟩ := List.mem_flatMap.1 h
 obtain ⟨k, _, rfl⟩ := List.mem_map.1 h2
 rw [List.length_append, ho l' h1]; rfl
theorem zFL (w : List Nat) : ∀ m, m ≤ w.length → ∀ l ∈ zCE (w.take m), l.length = m
 | 0, _, l, h => by
   rw [List.take_zero] at h
   simp [zCE] at h; subst h; rfl
 | m + 1, hm, l, h => by
   rw [List.take_succ_eq_append_getElem (by omega), zFO] at h
   exact next_len (zFL w m (by omega)) h
theorem zP6 (w : List Nat) : ∀ m, m ≤ w.length → ∀ l ∈ zCE (w.take m), ∀ k, k < m → 0 ≤ l.getD k 0 ∧ (l.getD k 0).toNat < w.getD k 0
 | 0, _, l, h => fun k hk => absurd hk (Nat.not_lt_zero _)
 | m + 1, hm, l, h => by
   intro k hk
   rw [List.take_succ_eq_append_getElem (by omega), zFO] at h
   obtain ⟨l', h1, h2⟩ := List.mem_flatMap.1 h
   obtain ⟨j, hj, rfl⟩ := List.mem_map.1 h2
   have hl := zFL w m (by omega) l' h1
   by_cases e : k = m
   · subst e
     have : (l' ++ [(j : Int)]).getD k 0 = (j : Int) := by
       have h3 := zPN (l := l') (x := (j : Int)) (d := 0)
       rwa [hl] at h3
     rw [this]
     have := List.mem_range.1 hj
     rw [zu 0 (by omega)]
     omega
   · rw [zHm 0 (by omega)]
     exact zP6 w m (by omega) l' h1 k (by omega)
theorem zQc (f : List Int → Rat) (n : Nat) (g : List Int → Nat → Rat) (out : List (List Int)) (hg : ∀ l ∈ out, f l = zA7 (g l) n) : zAF 0 (out.map f) = zAF 0 (out.flatMap (fun l => (List.range n).map (g l))) := by
 induction out with
 | nil => rfl
 | cons l r ihr =>
   have key : ∀ m, zAF 0 ((List.range m).map (g l)) = zA7 (g l) m := by
     intro m
     induction m with
     | zero => rfl
     | succ m ih => rw [List.range_succ, List.map_append, List.map_singleton, zER, ih]; rfl
   have app : ∀ (a b : List Rat) (x : Rat), zAF x (a ++ b) = zAF (zAF x a) b := by
     intro a
     induction a with
     | nil => intro b x; rfl
     | cons y a ih => intro b x; exact ih b (x + y)
   rw [List.map_cons, List.flatMap_cons, app, key, zA9 _ (zA7 _ _), ← ihr (fun a ha => hg a (by simp [ha])), ← hg l (by simp)]
   show zAF (0 + f l) (r.map f) = _
   rw [zA9, Rat.zero_add]
/-- The probability of a sequence is the sum over the pure strategies. -/
theorem zND {t : zS} (hv : Valid t) {p : Int} {u : Int → List Rat} (hu : Mix t p u) {k : Nat} (hk : k < (zb t p).length) : ∀ m, m ≤ (zJ t p).length →
   (zAk t p u).getD k 0 = zAF 0 ((zCE (((zJ t p).take m).map (zT t p))).map (fun l => zHv (((zJ t p).take m).map u) l 1 * (zAk t p (zCt t p u ((zJ t p).take m) l)).getD k 0))
 | 0, _ => by
   show _ = 0 + (1 * (zAk t p u).getD k 0)
   rw [Rat.one_mul, Rat.zero_add]
 | m + 1, hm => by
   have hm' : m < (zJ t p).length := by omega
   have hnd := zBM t p
   have hy : (zJ t p)[m] ∈ zJ t p := List.getElem_mem _
   have hnot : (zJ t p)[m] ∉ (zJ t p).take m := by
     intro h
     obtain ⟨i, hi, he⟩ := List.getElem_of_mem h
     rw [List.getElem_take] at he
     have hi2 : i < m := by simpa using (by simpa using hi : i < min m (zJ t p).length) |> fun q => by omega
     have hp := List.pairwise_iff_getElem.1 (List.nodup_iff_pairwise_ne.1 hnd)
     exact hp i m (by omega) hm' hi2 he
   rw [List.take_succ_eq_append_getElem hm']
   generalize hye : (zJ t p)[m] = y at *
   rw [zND hv hu hk m (by omega), List.map_append, List.map_append, List.map_singleton, List.map_singleton, zFO]
   have hlen : ∀ l ∈ zCE (((zJ t p).take m).map (zT t p)), l.length = ((zJ t p).take m).length := fun l hl => by
     have h1 := zFL (((zJ t p).take m).map (zT t p)) ((zJ t p).take m).length (by rw [List.length_map]; exact Nat.le_refl _) l (by rw [List.take_of_length_le (by rw [List.length_map]; exact Nat.le_refl _)]; exact hl)
     exact h1
   unfold zDv
   rw [List.map_flatMap]
   refine Eq.trans (zQc _ (zT t p y) (fun l c => zHv (((zJ t p).take m).map u ++ [u y]) (l ++ [(c : Int)]) 1 * (zAk t p (zCt t p u ((zJ t p).take m ++ [y]) (l ++ [(c : Int)]))).getD k 0) _ (fun l hl => ?_)) ?_
   · have hll := hlen l hl
     have hvy : zCt t p u ((zJ t p).take m) l y = u y := zIJ t p _ l u hnot
     have hlin := plan_lin hv (p := p) (zCt t p u ((zJ t p).take m) l) (y := y) (by rw [hvy]; exact zPO hu hy) k hk
     rw [hlin, ← zHx]
     refine zAs (fun c hc => ?_)
     rw [zJb _ _ _ _ _ (by rw [List.length_map, hll]), zKO _ _ _ _ _ _ _ hll.symm, Int.toNat_natCast, hvy, Rat.mul_assoc]
   · refine congrArg (zAF 0) ?_
     refine congrArg (fun f => List.flatMap f _) (funext fun l => ?_)
     rw [List.map_map]
     rfl
end Go.Ax.Rt
namespace Go.Ax.Rt
open Go.Ax.Bg
def zMm (t : zS) (p : Int) (s : Nat) : Nat := ((zb t p).getD s seq0).before.toNat
structure BlkX (t : zS) (p x : Int) (s b : Nat) : Prop where
 mem : (x, s) ∈ (zBA t p t.length).first
 start : zE5 t p x = s
 bef : zMm t p s = b
 one : 1 ≤ s
 w1 : 1 ≤ zT t p x
 fin : s + zT t p x ≤ (zb t p).length
 lt : b < s
 seqs : ∀ c, c < zT t p x → (zb t p).getD (s + c) seq0 = ⟨x, (c : Int), (b : Int)⟩
theorem zD4 {t : zS} (hv : Valid t) {p x : Int} (hx : x ∈ zJ t p) : ∃ s b, BlkX t p x s b := by
 have h := RI.all_n hv p t.length (Nat.le_refl _)
 obtain ⟨j, hj, hs⟩ := (zBh hv).1 hx
 have hk := (h.keys x).2 ⟨j, hj, hs⟩
 have hw : 1 ≤ zT t p x := by
   rw [zDL hv hj hs]
   unfold zBJ at hs
   rw [Bool.and_eq_true] at hs
   have ho := (zMQ.1 hs.1).1
   rcases hv.child hj with q | q
   · have := q.1; omega
   · exact (zB2 q.2).1
 cases hl : zCN (zBA t p t.length).first x with
 | none => exact absurd hk (zHL hl)
 | some s =>
   have hm := zCy hl
   obtain ⟨y1, y2, b, b1, b2, b3⟩ := h.fst (x, s) hm
   obtain ⟨n, rfl⟩ := Int.eq_ofNat_of_zero_le b1
   simp only at y1 y2 b2 b3
   refine ⟨s, n, hm, by unfold zE5 zIl; rw [hl]; rfl, ?_, y1, hw, y2, by omega, b3⟩
   have := b3 0 (by omega)
   unfold zMm
   rw [Nat.add_zero] at this
   rw [show (zb t p).getD s seq0 = _ from this]
   exact Int.toNat_natCast n
structure Flow (t : zS) (p : Int) (W : Nat → Rat) : Prop where
 root : W 0 = 1
 nn : ∀ k, k < (zb t p).length → 0 ≤ W k
 sum : ∀ x ∈ zJ t p, zA7 (fun c => W (zE5 t p x + c)) (zT t p x) = W (zMm t p (zE5 t p x))
theorem zKC {t : zS} {p x : Int} {s b : Nat} (h : BlkX t p x s b) (u : Int → List Rat) {c : Nat} (hc : c < zT t p x) : (zAk t p u).getD (s + c) 0 = (zAk t p u).getD b 0 * (u x).getD c 0 := by
 have := zC9 (t := t) (p := p) u (k := s + c) (b := b) (x := (x, s)) (by show s ≤ s + c; omega) (by show s + c < s + zT t p x; omega) h.lt h.fin h.seqs
 rw [this]
 show _ * (u x).getD (s + c - s) 0 = _
 rw [show s + c - s = c by omega]
theorem zRK {t : zS} (hv : Valid t) {p : Int} {u : Int → List Rat} (hu : Mix t p u) : Flow t p (fun k => (zAk t p u).getD k 0) := by
 refine ⟨zBb hv p u, plan_nn hv hu, fun x hx => ?_⟩
 obtain ⟨s, b, h⟩ := zD4 hv hx
 rw [h.start, h.bef]
 rw [zAs (fun c hc => zKC h u hc), zHx, zPO hu hx, Rat.mul_one]
theorem zLP {α : Type} (f g : α → Rat) : ∀ l : List α, zAF 0 (l.map (fun a => f a + g a)) = zAF 0 (l.map f) + zAF 0 (l.map g)
 | [] => by simp [zAF]; decide +kernel
 | a :: r => by
   rw [List.map_cons, List.map_cons, List.map_cons, zAF, zAF, zAF, zA9 _ (0 + (f a + g a)), zA9 _ (0 + f a), zA9 _ (0 + g a), zLP f g r]
   grind
theorem zLT {α : Type} (F : α → Nat → Rat) : ∀ (n : Nat) (l : List α), zA7 (fun c => zAF 0 (l.map (fun a => F a c))) n = zAF 0 (l.map (fun a => zA7 (F a) n))
 | 0, l => by
   show (0 : Rat) = zAF 0 (l.map (fun _ => 0))
   induction l with
   | nil => rfl
   | cons a r ih => rw [List.map_cons, zAF, Rat.add_zero]; exact ih
 | n + 1, l => by
   show zA7 _ n + _ = _
   rw [zLT F n l, ← zLP]
   rfl
theorem zPZ {α : Type} {f : α → Rat} {l : List α} (h : ∀ a ∈ l, 0 ≤ f a) : 0 ≤ zAF 0 (l.map f) :=
 zHY _ 0 (fun q hq => by obtain ⟨a, ha, rfl⟩ := List.mem_map.1 hq; exact h a ha)
theorem Flow.mixed {α : Type} {t : zS} (hv : Valid t) {p : Int} {l : List α} {w : α → Rat} {F : α → Nat → Rat} (hw : ∀ a ∈ l, 0 ≤ w a) (h1 : zAF 0 (l.map w) = 1) (hF : ∀ a ∈ l, Flow t p (F a)) : Flow t p (fun k => zAF 0 (l.map (fun a => w a * F a k))) := by
 refine ⟨?_, fun k hk => zPZ (fun a ha => Rat.mul_nonneg (hw a ha) ((hF a ha).nn k hk)), fun x hx => ?_⟩
 · rw [← h1]
   refine congrArg (zAF 0) (List.map_congr_left (fun a ha => ?_))
   rw [(hF a ha).root, Rat.mul_one]
 · rw [zLT (fun a c => w a * F a (zE5 t p x + c))]
   refine congrArg (zAF 0) (List.map_congr_left (fun a ha => ?_))
   rw [zHx, (hF a ha).sum x hx]
/-- the strategy of a flow -/
def zA5 (t : zS) (p : Int) (W : Nat → Rat) (x : Int) : List Rat :=
 if 0 < W (zMm t p (zE5 t p x)) then (List.range (zT t p x)).map (fun c => W (zE5 t p x + c) / W (zMm t p (zE5 t p x))) else zAx (zT t p x) 0
theorem zFN {t : zS} {p x : Int} {s b : Nat} (h : BlkX t p x s b) (W : Nat → Rat) (hW : 0 < W b) {c : Nat} (hc : c < zT t p x) : (zA5 t p W x).getD c 0 = W (s + c) / W b := by
 unfold zA5
 rw [h.start, h.bef, if_pos hW, zBY _ _ 0 0 c (by rw [List.length_range]; exact hc), zu 0 (by rw [List.length_range]; exact hc), List.getElem_range]
theorem sumN_get {f g : Nat → Rat} {n m : Nat} (h : ∀ c, c < n → 0 ≤ f c) (h0 : zA7 f n = 0) (hm : m < n) : f m = 0 := by
 have key : ∀ n, (∀ c, c < n → 0 ≤ f c) → ∀ m, m < n → f m ≤ zA7 f n := by
   intro n
   induction n with
   | zero => intro _ m hm; exact absurd hm (Nat.not_lt_zero _)
   | succ n ih =>
     intro hn m hm
     show f m ≤ zA7 f n + f n
     have h1 := zIy (f := f) (n := n) (fun i hi => hn i (by omega))
     have h2 := hn n (by omega)
     by_cases e : m = n
     · subst e; grind
     · have := ih (fun c hc => hn c (by omega)) m (by omega)
       grind
 have h1 := key n h m hm
 have h2 := h m hm
 rw [h0] at h1
 exact Rat.le_antisymm h1 h2
theorem zMu {t : zS} (hv : Valid t) {p : Int} {W : Nat → Rat} (hW : Flow t p W) : Mix t p (zA5 t p W) := by
 have key : ∀ x ∈ zJ t p, (zA5 t p W x).length = zT t p x ∧ zAF 0 (zA5 t p W x) = 1 ∧ ∀ q ∈ zA5 t p W x, 0 ≤ q := by
   intro x hx
   obtain ⟨s, b, h⟩ := zD4 hv hx
   by_cases hb : 0 < W b
   · have hl : (zA5 t p W x).length = zT t p x := by
       unfold zA5
       rw [h.start, h.bef, if_pos hb, List.length_map, List.length_range]
     refine ⟨hl, ?_, fun q hq => ?_⟩
     · have h1 := zGh (zT t p x) (zA5 t p W x) (by omega)
       rw [List.take_of_length_le (by omega)] at h1
       rw [← h1, zAs (fun c hc => zFN h W hb hc)]
       have h2 := hW.sum x hx
       rw [h.start, h.bef] at h2
       have h3 : zA7 (fun c => W (s + c) / W b) (zT t p x) = zA7 (fun c => W (s + c) * (W b)⁻¹) (zT t p x) := zAs (fun c _ => Rat.div_def _ _)
       rw [h3, zIh, h2]
       exact Rat.mul_inv_cancel _ (by grind)
     · obtain ⟨c, hc, rfl⟩ := List.getElem_of_mem hq
       have e : (zA5 t p W x).getD c 0 = (zA5 t p W x)[c] := zu 0 hc
       rw [← e, zFN h W hb (by omega), Rat.div_def]
       have h4 := hW.nn (s + c) (by have := h.fin; omega)
       exact Rat.mul_nonneg h4 (Rat.le_of_lt (Rat.inv_pos.2 hb))
   · have e : zA5 t p W x = zAx (zT t p x) 0 := by unfold zA5; rw [h.start, h.bef, if_neg hb]
     rw [e]
     obtain ⟨u1, u2, u3⟩ := zBo (w := zT t p x) (c := 0) h.w1
     exact ⟨u1, u2, fun q hq => (u3 q hq).1⟩
 exact ⟨fun x hx => (key x hx).1, fun x hx => (key x hx).2.1, fun x hx => (key x hx).2.2⟩
theorem zQo {t : zS} (hv : Valid t) {p : Int} {W : Nat → Rat} (hW : Flow t p W) : ∀ k, k < (zb t p).length → (zAk t p (zA5 t p W)).getD k 0 = W k := by
 intro k
 induction k using Nat.strongRecOn with
 | ind k ih =>
   intro hk
   rcases Nat.eq_zero_or_pos k with e | e
   · subst e; rw [zBb hv, hW.root]
   · obtain ⟨x, b, y0, y1, y2, y3, y4, y5, y6, y7⟩ := zFB hv e hk
     obtain ⟨s, b', h⟩ := zD4 hv y1
     have hxs : x = (x.1, s) := zMK (RI.all_n hv p t.length (Nat.le_refl _)).nd y0 h.mem rfl
     have hs : x.2 = s := congrArg Prod.snd hxs
     have hbb : b = b' := by
       have e1 := y7 0 (by omega)
       have e2 := h.seqs 0 (by omega)
       rw [hs, e2] at e1
       have := congrArg RSeq.before e1
       have : ((b' : Nat) : Int) = ((b : Nat) : Int) := this
       omega
     subst hbb
     rw [hs] at y2 y3
     have hb := ih b (by have := h.lt; omega) (by have := h.lt; omega)
     have hks : k = s + (k - s) := by omega
     have hc : k - s < zT t p x.1 := by omega
     rw [hks, zKC h (zA5 t p W) hc, hb]
     by_cases hWb : 0 < W b
     · rw [zFN h W hWb hc, Rat.mul_comm, Rat.div_mul_cancel (by grind)]
     · have h0 : W b = 0 := Rat.le_antisymm (Rat.not_lt.1 hWb) (hW.nn b (by have := h.lt; omega))
       have h2 := hW.sum x.1 y1
       rw [h.start, h.bef, h0] at h2
       have h3 := sumN_get (g := fun _ => 0) (f := fun c => W (s + c)) (n := zT t p x.1) (m := k - s) (fun c hc => hW.nn (s + c) (by have := h.fin; omega)) h2 hc
       rw [h0, Rat.zero_mul]
       exact h3.symm
/-- A strategy without zeros is that of its own flow. -/
theorem zQT {t : zS} (hv : Valid t) {p : Int} {u : Int → List Rat} (hu : Mix t p u) {x : Int} (hx : x ∈ zJ t p) (hpos : ∀ s b, BlkX t p x s b → 0 < (zAk t p u).getD b 0) : zA5 t p (fun k => (zAk t p u).getD k 0) x = u x := by
 obtain ⟨s, b, h⟩ := zD4 hv hx
 have hb := hpos s b h
 have hl := hu.len x hx
 refine List.ext_getElem ?_ (fun c h1 h2 => ?_)
 · unfold zA5
   rw [h.start, h.bef, if_pos hb, List.length_map, List.length_range, hl]
 · have e : (zA5 t p (fun k => (zAk t p u).getD k 0) x).getD c 0 = (zA5 t p (fun k => (zAk t p u).getD k 0) x)[c] := zu 0 h1
   have e2 : (u x).getD c 0 = (u x)[c] := zu 0 h2
   rw [← e, ← e2, zFN h _ hb (by omega), zKC h u (by omega), Rat.mul_comm, Rat.div_def, Rat.mul_assoc, Rat.mul_inv_cancel _ (by grind), Rat.mul_one]
theorem plan_pos {t : zS} (hv : Valid t) {p : Int} {u : Int → List Rat} (hu : Mix t p u) (hpos : ∀ x ∈ zJ t p, ∀ q ∈ u x, 0 < q) : ∀ k, k < (zb t p).length → 0 < (zAk t p u).getD k 0 := by
 intro k
 induction k using Nat.strongRecOn with
 | ind k ih =>
   intro hk
   rcases Nat.eq_zero_or_pos k with e | e
   · subst e; rw [zBb hv]; decide +kernel
   · obtain ⟨x, b, y0, y1, y2, y3, y4, y5, y6, y7⟩ := zFB hv e hk
     rw [zC9 u y2 y3 y4 y6 y7]
     exact Rat.mul_pos (ih b (by omega) (by omega)) (hpos x.1 y1 _ (zAR 0 (by rw [hu.len x.1 y1]; omega)))
end Go.Ax.Rt
namespace Go.Ax.Rt
open Go.Ax.Bg
/-- the value of a strategy of a player against the other one's -/
def valP (t : zS) (p : Int) (u v : Int → List Rat) : Rat := if p = 1 then zCS t (zE6 t v u) else zCS t (zE6 t u v)
/-- Terms without weight can be left out. -/
theorem zEw {α : Type} (f : α → Rat) (q : α → Bool) : ∀ l : List α, (∀ a ∈ l, q a = false → f a = 0) → zAF 0 (l.map f) = zAF 0 ((l.filter q).map f)
 | [], _ => rfl
 | a :: r, h => by
   have ih := zEw f q r (fun x hx => h x (by simp [hx]))
   rw [List.map_cons, zAF, zA9, ih]
   cases hq : q a
   · rw [List.filter_cons_of_neg (by simp [hq]), h a (by simp) hq]
     grind
   · rw [List.filter_cons_of_pos hq, List.map_cons, zAF, zA9 (List.map f (List.filter q r)) (0 + f a)]
/-- Probabilities of sequences hang on the information sets of the player alone. -/
theorem zQJ {t : zS} (hv : Valid t) {p : Int} {u v : Int → List Rat} (h : ∀ x ∈ zJ t p, u x = v x) : ∀ k, k < (zb t p).length → (zAk t p u).getD k 0 = (zAk t p v).getD k 0 := by
 intro k
 induction k using Nat.strongRecOn with
 | ind k ih =>
   intro hk
   rcases Nat.eq_zero_or_pos k with e | e
   · subst e; rw [zBb hv, zBb hv]
   · obtain ⟨x, b, y0, y1, y2, y3, y4, y5, y6, y7⟩ := zFB hv e hk
     rw [zC9 u y2 y3 y4 y6 y7, zC9 v y2 y3 y4 y6 y7, h x.1 y1, ih b (by omega) (by omega)]
end Go.Ax.Rt
namespace Go.Ax.Rt
open Go.Ax.Bg
theorem zHX (t : zS) (p : Int) : ∀ (I cs : List Int) (u : Int → List Rat) (m : Nat), I.Nodup → cs.length = I.length → m < I.length → zCt t p u I cs (I.getD m 0) = zAx (zT t p (I.getD m 0)) (cs.getD m 0).toNat
 | [], _, _, _, _, _, hm => absurd hm (Nat.not_lt_zero _)
 | a :: r, [], _, _, _, hl, _ => by simp at hl
 | a :: r, b :: s, u, 0, hn, hl, hm => by
   show zCt t p (upd u a _) r s a = _
   rw [zIJ t p r s _ (List.nodup_cons.1 hn).1, upd_at]; rfl
 | a :: r, b :: s, u, m + 1, hn, hl, hm => by
   show zCt t p (upd u a _) r s (r.getD m 0) = _
   exact zHX t p r s _ m (List.nodup_cons.1 hn).2 (by simpa using hl) (by simpa using hm)
/-- the choices from a sequence back to the first one -/
def zBy (pos : Int → Nat) (cs : List Int) (sq : List RSeq) : Nat → Nat → Bool
 | 0, _ => true
 | f + 1, i => if (sq.getD i seq0).before < 0 then true else if cs.getD (pos (sq.getD i seq0).info) 0 = (sq.getD i seq0).choice then zBy pos cs sq f (sq.getD i seq0).before.toNat else false
theorem zN4 {t : zS} (hv : Valid t) {p : Int} {pos : Int → Nat} {cs : List Int} (u : Int → List Rat) (hpos : ∀ m, m < (zJ t p).length → pos ((zJ t p).getD m 0) = m) (hl : cs.length = (zJ t p).length)
   (hc : ∀ m, m < cs.length → 0 ≤ cs.getD m 0 ∧ (cs.getD m 0).toNat < zT t p ((zJ t p).getD m 0)) : ∀ k f, k < (zb t p).length → k < f →
   (zAk t p (zCt t p u (zJ t p) cs)).getD k 0 = if zBy pos cs (zb t p) f k = true then 1 else 0 := by
 intro k
 induction k using Nat.strongRecOn with
 | ind k ih =>
   intro f hk hf
   obtain ⟨f, rfl⟩ : ∃ g, f = g + 1 := ⟨f - 1, by omega⟩
   rcases Nat.eq_zero_or_pos k with e | e
   · subst e
     have h0 := (zAi hv p).2.1
     unfold zBy
     rw [zBb hv, h0, if_pos (show seq0.before < 0 by decide), if_pos rfl]
   · obtain ⟨x, b, y0, y1, y2, y3, y4, y5, y6, y7⟩ := zFB hv e hk
     have hs := y7 (k - x.2) (by omega)
     rw [show x.2 + (k - x.2) = k by omega] at hs
     obtain ⟨m, hm, hmx⟩ := List.getElem_of_mem y1
     have hmg : (zJ t p).getD m 0 = x.1 := by rw [zu 0 hm, hmx]
     have hat := zHX t p (zJ t p) cs u m (zBM t p) hl hm
     rw [hmg] at hat
     have hcm := hc m (by omega)
     rw [hmg] at hcm
     rw [zC9 _ y2 y3 y4 y6 y7, hat, zLz hcm.2, ih b (by omega) f (by omega) (by omega)]
     unfold zBy
     rw [hs]
     simp only
     have hp := hpos m hm
     rw [hmg] at hp
     rw [if_neg (show ¬ ((b : Int) < 0) by omega), hp, Int.toNat_natCast]
     by_cases h : k - x.2 = (cs.getD m 0).toNat
     · rw [if_pos h, if_pos (show cs.getD m 0 = ((k - x.2 : Nat) : Int) by omega), Rat.mul_one]
       cases f <;> rfl
     · rw [if_neg h, if_neg (show ¬ cs.getD m 0 = ((k - x.2 : Nat) : Int) by omega), Rat.mul_zero]
       rfl
/-- slices.Compare -/
def zD2 : List Int → List Int → Int
 | [], [] => 0
 | [], _ :: _ => -1
 | _ :: _, [] => 1
 | a :: r, b :: s => if a < b then -1 else if b < a then 1 else zD2 r s
theorem zLK (a b : Int) : ∀ l : List Int, a < b → zD2 (l ++ [a]) (l ++ [b]) = -1
 | [], h => by show (if a < b then (-1 : Int) else _) = -1; rw [if_pos h]
 | c :: r, h => by
   show (if c < c then (-1 : Int) else if c < c then 1 else zD2 (r ++ [a]) (r ++ [b])) = -1
   rw [if_neg (by omega), if_neg (by omega), zLK a b r h]
theorem zNI : ∀ (l m x y : List Int), l.length = m.length → zD2 l m = -1 → zD2 (l ++ x) (m ++ y) = -1
 | [], [], _, _, _, h => by exact absurd h (by decide)
 | [], _ :: _, _, _, hl, _ => by simp at hl
 | _ :: _, [], _, _, hl, _ => by simp at hl
 | a :: r, b :: s, x, y, hl, h => by
   have h' : (if a < b then (-1 : Int) else if b < a then 1 else zD2 r s) = -1 := h
   show (if a < b then (-1 : Int) else if b < a then 1 else zD2 (r ++ x) (s ++ y)) = -1
   by_cases h1 : a < b
   · rw [if_pos h1]
   · rw [if_neg h1] at h' ⊢
     by_cases h2 : b < a
     · rw [if_pos h2] at h'; exact absurd h' (by decide)
     · rw [if_neg h2] at h' ⊢
       exact zNI r s x y (by simpa using hl) h'
/-- The pure strategies are in order. -/
theorem zIo (w : List Nat) : ∀ m, m ≤ w.length → (zCE (w.take m)).Pairwise (fun a b => zD2 a b = -1)
 | 0, _ => by rw [List.take_zero]; exact List.pairwise_singleton _ _
 | m + 1, hm => by
   have ih := zIo w m (by omega)
   have hlen := zFL w m (by omega)
   rw [List.take_succ_eq_append_getElem (by omega), zFO]
   generalize zCE (w.take m) = out at *
   generalize w[m] = n
   unfold zDv
   rw [List.flatMap, List.pairwise_flatten]
   refine ⟨fun l hl => ?_, ?_⟩
   · obtain ⟨a, ha, rfl⟩ := List.mem_map.1 hl
     rw [List.pairwise_map]
     refine List.Pairwise.imp (fun {i j} hij => ?_) (List.pairwise_lt_range)
     exact zLK _ _ a (by omega)
   · rw [List.pairwise_map]
     refine List.Pairwise.imp_of_mem (fun {a b} ha hb hab => ?_) ih
     intro x hx y hy
     obtain ⟨i, _, rfl⟩ := List.mem_map.1 hx
     obtain ⟨j, _, rfl⟩ := List.mem_map.1 hy
     exact zNI a b _ _ (by rw [hlen a ha, hlen b hb]) hab
end Go.Ax.Rt
namespace Go.Ax.Rt
open Go.Ax.Bg
theorem zRJ {B K : Nat} (hB : B ≠ 0) (hK : B < 10 ^ K) (hK2 : K ≤ 2000) {qs : List Rat} (hn : qs.length ≤ 256) (h : ∀ q ∈ qs, Dv B q ∧ 0 ≤ q ∧ zA3 q = true) (h1 : zAF 0 qs ≤ 1) : zEi (qs.map zt) = (zAF 0 qs, 0) := by
 have v1 : (qs.map zt).map zAB = qs := by
   rw [List.map_map]
   conv => rhs; rw [← List.map_id qs]
   exact List.map_congr_left (fun q hq => (zJ9 (h q hq).2.2).2)
 have v2 : zEI (qs.map zt) = 0 := zMI (fun s hs => by
   obtain ⟨q, hq, rfl⟩ := List.mem_map.1 hs
   exact (zJ9 (h q hq).2.2).1)
 have v3 := zNo hB hK hK2 qs 0 (Dv.zero B) Rat.le_refl (fun q hq => ⟨(h q hq).1, (h q hq).2.1⟩) h1
 have v4 := zKI qs 0 v3
 unfold zEi
 rw [if_neg (by rw [List.length_map]; omega), if_pos v2, v1]
 exact Prod.ext v4 v3
theorem zHE {B K : Nat} (hB : B ≠ 0) (hK : B < 10 ^ K) (hK2 : K ≤ 2000) {qs : List Rat} (hn : qs.length ≤ 256) (h : ∀ q ∈ qs, Dv B q ∧ 0 ≤ q ∧ zA3 q = true) (h1 : zAF 0 qs = 1) : zCV (qs.map zt) = 0 := by
 have hs := zRJ hB hK hK2 hn h (by rw [h1]; exact Rat.le_refl)
 have hneg : (qs.map zt).any zCw = false := by
   rw [List.any_eq_false]
   intro s hs
   obtain ⟨q, hq, rfl⟩ := List.mem_map.1 hs
   have hi := zJ9 (h q hq).2.2
   have := (zK2 hi.1).2 (by rw [hi.2]; exact (h q hq).2.1)
   rw [this]; simp
 have hp : zKU (qs.map zt) = 0 := by
   unfold zKU
   rw [hs]
   show (if ((0 : Int) = 0 ∧ (qs.map zt).any zCw = true) then _ else _) = _
   rw [if_neg (fun q => by rw [hneg] at q; exact absurd q.2 (by decide))]
 unfold zCV
 rw [if_pos hp, hs, h1]
 rfl
end Go.Ax.Rt
namespace Go.Ax.Rt
open Go.Ax.Bg
theorem zIW (a : Rat) (l : List Rat) : zAF 0 (a :: l) = a + zAF 0 l := by rw [zAF, zA9, Rat.zero_add]
def zJf (os : List (List Rat)) : Nat := zEZ (os.map (fun o => zEZ (o.map Rat.den)))
theorem denO_pos (os : List (List Rat)) : 0 < zJf os := zGr (fun x hx => by
 obtain ⟨o, _, rfl⟩ := List.mem_map.1 hx
 exact zGr (fun y hy => by obtain ⟨q, _, rfl⟩ := List.mem_map.1 hy; exact q.den_pos))
theorem wgt_Dv : ∀ (os : List (List Rat)) (cs : List Int) (q : Rat) (A : Nat), Dv A q → cs.length = os.length → (∀ m, m < os.length → (cs.getD m 0).toNat < (os.getD m []).length) → Dv (A * zJf os) (zHv os cs q)
 | [], [], q, A, h, _, _ => by
   show Dv (A * 1) q
   rw [Nat.mul_one]; exact h
 | [], _ :: _, _, _, _, hl, _ => by simp at hl
 | _ :: _, [], _, _, _, hl, _ => by simp at hl
 | o :: os, c :: cs, q, A, h, hl, hc => by
   show Dv (A * (zEZ (o.map Rat.den) * zJf os)) (zHv os cs (q * o.getD c.toNat 0))
   have h0 := hc 0 (by simp)
   have h0 : c.toNat < o.length := h0
   have hd : Dv (zEZ (o.map Rat.den)) (o.getD c.toNat 0) := Dv.of_den.mono (zGm (List.mem_map.2 ⟨_, zAR 0 h0, rfl⟩))
   rw [← Nat.mul_assoc]
   exact wgt_Dv os cs _ _ (h.mul hd) (by simpa using hl) (fun m hm => by have := hc (m + 1) (by simpa using hm); simpa using this)
theorem wgt_nn : ∀ (os : List (List Rat)) (cs : List Int) (q : Rat), 0 ≤ q → (∀ o ∈ os, ∀ x ∈ o, 0 ≤ x) → 0 ≤ zHv os cs q
 | [], [], q, h, _ => h
 | [], _ :: _, q, h, _ => h
 | _ :: _, [], q, h, _ => h
 | o :: os, c :: cs, q, h, ho => wgt_nn os cs _ (Rat.mul_nonneg h (by
   by_cases hc : c.toNat < o.length
   · exact ho o (by simp) _ (zAR 0 hc)
   · simp only [List.getD, List.getElem?_eq_none (by omega : o.length ≤ c.toNat)]; exact Rat.le_refl)) (fun o' h' => ho o' (by simp [h']))
theorem zPR {d : Nat} : ∀ (os : List (List Rat)), (∀ o ∈ os, ∀ x ∈ o, D d x) → zJf os ≤ 10 ^ (d * (os.map List.length).sum)
 | [], _ => by show 1 ≤ _; exact Nat.pow_pos (by decide)
 | o :: os, h => by
   show zEZ (o.map Rat.den) * zJf os ≤ _
   have h1 := zH1 (l := o.map Rat.den) (d := d) (fun x hx => by
     obtain ⟨q, hq, rfl⟩ := List.mem_map.1 hx
     exact Nat.le_of_lt (h o (by simp) q hq).2)
   rw [List.length_map] at h1
   have h2 := zPR os (fun o' h' => h o' (by simp [h']))
   rw [List.map_cons, List.sum_cons, Nat.mul_add, Nat.pow_add]
   exact Nat.mul_le_mul h1 h2
/-- Sums of shares of a whole stay short. -/
theorem share_D {α : Type} {B K : Nat} (hB : B ≠ 0) (hK : B < 10 ^ K) {l : List α} {w : α → Rat} (hw : ∀ a ∈ l, Dv B (w a) ∧ 0 ≤ w a) (h1 : zAF 0 (l.map w) ≤ 1) (q : α → Bool) : Dv B (zAF 0 ((l.filter q).map w)) ∧ 0 ≤ zAF 0 ((l.filter q).map w) ∧ zAF 0 ((l.filter q).map w) ≤ 1 ∧ D K (zAF 0 ((l.filter q).map w)) := by
 have hd : ∀ m : List α, (∀ a ∈ m, Dv B (w a) ∧ 0 ≤ w a) → Dv B (zAF 0 (m.map w)) := by
   intro m
   induction m with
   | nil => intro _; exact Dv.zero B
   | cons a r ih =>
     intro h
     rw [List.map_cons, zAF, zA9, Rat.zero_add]
     exact (h a (by simp)).1.add (ih (fun x hx => h x (by simp [hx])))
 have hle : ∀ m : List α, (∀ a ∈ m, Dv B (w a) ∧ 0 ≤ w a) → zAF 0 ((m.filter q).map w) ≤ zAF 0 (m.map w) := by
   intro m
   induction m with
   | nil => intro _; exact Rat.le_refl
   | cons a r ih =>
     intro h
     have h2 := ih (fun x hx => h x (by simp [hx]))
     have h3 := (h a (by simp)).2
     rw [List.map_cons, zIW]
     cases hq : q a
     · rw [List.filter_cons_of_neg (by simp [hq])]
       clear ih h hd h1 hw hK
       grind
     · rw [List.filter_cons_of_pos hq, List.map_cons, zIW]
       clear ih h hd h1 hw hK
       grind
 have g1 := hd (l.filter q) (fun a ha => hw a (List.mem_filter.1 ha).1)
 have g2 : 0 ≤ zAF 0 ((l.filter q).map w) := zPZ (fun a ha => (hw a (List.mem_filter.1 ha).1).2)
 have g3 := Rat.le_trans (hle l hw) h1
 exact ⟨g1, g2, g3, zLx g1 hB g2 g3 hK⟩
end Go.Ax.Rt
namespace Go.Ax.Rt
open Go.Ax.Bg
theorem zQD {l : List Rat} (h : ∀ q ∈ l, 0 ≤ q) {x : Rat} (hx : x ∈ l) : x ≤ zAF 0 l := by
 induction l with
 | nil => simp at hx
 | cons a r ih =>
   rw [zIW]
   have ha := h a (by simp)
   have hr := zHY r 0 (fun y hy => h y (by simp [hy]))
   rcases List.mem_cons.1 hx with rfl | hx
   · clear ih h; grind
   · have := ih (fun q hq => h q (by simp [hq])) hx
     clear ih h; grind
theorem beh_fit {t : zS} (hv : Valid t) {p : Int} {W : Nat → Rat} (hW : Flow t p W) {B K : Nat} (hB : B ≠ 0) (hK : B < 10 ^ K) (h1K : 1 ≤ K) (hK2 : K ≤ 2000) (hD : ∀ k, k < (zb t p).length → Dv B (W k)) (h1 : ∀ k, k < (zb t p).length → W k ≤ 1) {x : Int} (hx : x ∈ zJ t p) :
   (∀ q ∈ zA5 t p W x, 0 ≤ q ∧ q ≤ 1 ∧ D K q ∧ zA3 q = true) ∧ zCV ((zA5 t p W x).map zt) = 0 := by
 obtain ⟨s, b, h⟩ := zD4 hv hx
 have hmix := zMu hv hW
 have hsum := hmix.sum x hx
 have hnn := hmix.nn x hx
 have hlen := hmix.len x hx
 have hle : ∀ q ∈ zA5 t p W x, q ≤ 1 := fun q hq => by rw [← hsum]; exact zQD hnn hq
 have hw6 : zT t p x ≤ 256 := by
   have h61 := zJh hv p
   have := h.fin
   omega
 have key : ∃ A : Nat, A ≠ 0 ∧ A < 10 ^ K ∧ ∀ q ∈ zA5 t p W x, Dv A q := by
   by_cases hb : 0 < W b
   · obtain ⟨z, hz⟩ := hD b (by have := h.lt; have := h.fin; omega)
     have hB0 : (0 : Rat) < (B : Rat) := by
       have : ((0 : Nat) : Rat) < (B : Rat) := by exact_mod_cast Nat.pos_of_ne_zero hB
       exact this
     have hz0 : 0 < z := by
       have h2 := Rat.mul_pos hb hB0
       rw [hz] at h2
       exact_mod_cast h2
     have hzB : z ≤ B := by
       have h2 := Rat.mul_le_mul_of_nonneg_right (h1 b (by have := h.lt; have := h.fin; omega)) (Rat.le_of_lt hB0)
       rw [hz, Rat.one_mul] at h2
       exact_mod_cast h2
     refine ⟨z.toNat, by omega, by omega, fun q hq => ?_⟩
     obtain ⟨c, hc, rfl⟩ := List.getElem_of_mem hq
     have e : (zA5 t p W x).getD c 0 = (zA5 t p W x)[c] := zu 0 hc
     obtain ⟨z', hz'⟩ := hD (s + c) (by have := h.fin; omega)
     refine ⟨z', ?_⟩
     have hzz : ((z.toNat : Nat) : Rat) = (z : Rat) := by
       rw [← Rat.intCast_natCast, Int.toNat_of_nonneg (by omega)]
     rw [← e, zFN h W hb (by omega), hzz, ← hz, ← hz', Rat.div_def, Rat.mul_assoc, ← Rat.mul_assoc (W b)⁻¹, Rat.inv_mul_cancel _ (by grind), Rat.one_mul]
   · have e : zA5 t p W x = zAx (zT t p x) 0 := by unfold zA5; rw [h.start, h.bef, if_neg hb]
     refine ⟨1, by decide, Nat.lt_of_lt_of_le (by decide : 1 < 10 ^ 1) (Nat.pow_le_pow_right (by decide) h1K), fun q hq => ?_⟩
     rw [e] at hq
     obtain ⟨c, hc, rfl⟩ := List.getElem_of_mem hq
     have e2 : (zAx (zT t p x) 0).getD c 0 = (zAx (zT t p x) 0)[c] := zu 0 hc
     rw [← e2, zLz h.w1]
     split
     · exact Dv.one 1
     · exact Dv.zero 1
 obtain ⟨A, a1, a2, a3⟩ := key
 have hd : ∀ q ∈ zA5 t p W x, D K q := fun q hq => zLx (a3 q hq) a1 (hnn q hq) (hle q hq) a2
 have hf : ∀ q ∈ zA5 t p W x, zA3 q = true := fun q hq => (D.out (hd q hq) hK2).2.fit
 exact ⟨fun q hq => ⟨hnn q hq, hle q hq, hd q hq, hf q hq⟩, zHE a1 a2 hK2 (by omega) (fun q hq => ⟨a3 q hq, hnn q hq, hf q hq⟩) hsum⟩
end Go.Ax.Rt
namespace Go.Ax.Rt
open Go.Ax.Bg
structure CPlan where
 choices : List Int
 odds : zAK
 deriving DecidableEq
def cp0 : CPlan := ⟨[], []⟩
abbrev zBl := List CPlan
def zAP (t : zS) (p : Int) : List Nat := (zJ t p).map (zT t p)
/-- convert.all -/
def zGz : List Nat → List (List Int) → Option (List (List Int))
 | [], out => some out
 | n :: r, out => if 128 < out.length * n then none else zGz r (zDv out n)
theorem zIQ (out : List (List Int)) (n : Nat) : (zDv out n).length = out.length * n := by
 unfold zDv
 induction out with
 | nil => simp
 | cons a r ih => rw [List.flatMap_cons, List.length_append, ih, List.length_map, List.length_range, List.length_cons, Nat.succ_mul]; omega
theorem zLa : ∀ (w : List Nat) (out o : List (List Int)), zGz w out = some o → out.length ≤ 128 → o = w.foldl zDv out ∧ o.length ≤ 128
 | [], out, o, h, hl => by cases h; exact ⟨rfl, hl⟩
 | n :: r, out, o, h, hl => by
   rw [zGz] at h
   split at h
   · cases h
   · rename_i h1
     have := zLa r _ o h (by rw [zIQ]; omega)
     exact this
theorem zMs {w : List Nat} {o : List (List Int)} (h : zGz w [[]] = some o) : o = zCE w ∧ o.length ≤ 128 := zLa w [[]] o h (by decide)
/-- the weight of a pure strategy -/
def zBd (s : zAT) : List (List Rat) := s.map (fun x => x.odds.map zAB)
def zCL (s : zAT) (c : List Int) : Rat := zHv (zBd s) c 1
def zB4 (s : zAT) (l : List (List Int)) : List (List Int) := l.filter (fun c => decide (zCL s c ≠ 0))
def zCo (s : zAT) (l : List (List Int)) : zBl × Int := if (zB4 s l).all (fun c => zA3 (zCL s c)) then ((zB4 s l).map (fun c => ⟨c, zt (zCL s c)⟩), 0) else ([], 2)
/-- convert.Mixed -/
def zCT (t : zS) (p : Int) (s : zAT) : zBl × Int := if zAh t p ≠ 0 then ([], zAh t p) else if zA8 t p s ≠ 0 then ([], zA8 t p s) else match zGz (zAP t p) [[]] with | none => ([], 2) | some l => zCo s l
/-- convert.Pure -/
def zNZ (t : zS) (p : Int) : List (List Int) × Int := if zAh t p ≠ 0 then ([], zAh t p) else match zGz (zAP t p) [[]] with | none => ([], 2) | some l => (l, 0)
def inW : List Nat → List Int → Bool
 | w :: ws, c :: cs => decide (0 ≤ c ∧ c < (w : Int)) && inW ws cs
 | _, _ => true
def zDY (w : List Nat) (q : Option (List Int)) (c : List Int) : Int :=
 if c.length ≠ w.length then 3 else if inW w c = false then 4 else match q with | none => 0 | some b => if zD2 b c < 0 then 0 else 7
def zD3 (w : List Nat) : Option (List Int) → zBl → Int
 | _, [] => 0
 | q, a :: r => if zDY w q a.choices ≠ 0 then zDY w q a.choices else zD3 w (some a.choices) r
/-- convert.Check -/
def zCj (t : zS) (p : Int) (l : zBl) : Int := if zAh t p ≠ 0 then zAh t p else if 128 < l.length then 2 else if zD3 (zAP t p) none l ≠ 0 then zD3 (zAP t p) none l else zCV (l.map CPlan.odds)
def zJF (t : zS) (p x : Int) : Nat := (zJ t p).findIdx (fun y => decide (y = x))
/-- the weight of a sequence -/
def zBB (t : zS) (p : Int) (l : zBl) (k : Nat) : Rat := zAF 0 ((l.filter (fun a => zBy (zJF t p) a.choices (zb t p) (zb t p).length k)).map (fun a => zAB a.odds))
def zJD (t : zS) (p : Int) (W : Nat → Rat) : zAT := (zJ t p).map (fun x => ⟨x, (zA5 t p W x).map zt⟩)
/-- convert.Behaviour -/
def zIL (t : zS) (p : Int) (l : zBl) : zAT × Int := if zCj t p l ≠ 0 then ([], zCj t p l) else if zCm t p = true then (if (zJ t p).all (fun x => (zA5 t p (zBB t p l) x).all zA3) then (zJD t p (zBB t p l), 0) else ([], 2)) else ([], 10)
/-- a pure strategy's texts -/
def zHn (w c : Nat) : List zAK := (List.replicate w [48]).set c [49]
def zCM (t : zS) (p : Int) (cs : List Int) : zAT := (zJ t p).map (fun x => ⟨x, zHn (zT t p x) (cs.getD (zJF t p x) 0).toNat⟩)
def zHj (p : Int) (s o : zAT) : zAT := if p = 1 then o else s
def zHb (p : Int) (s o : zAT) : zAT := if p = 1 then s else o
def playT (t : zS) (a b : zAT) : zAS := zE6 t (zB1 a) (zB1 b)
def zJ8 (t : zS) (p : Int) (o : zAT) (a : CPlan) : Rat := zCS t (playT t (zHj p (zCM t p a.choices) o) (zHb p (zCM t p a.choices) o)) * zAB a.odds
def payQ (t : zS) (p : Int) (l : zBl) (o : zAT) : Rat := zAF 0 (l.map (zJ8 t p o))
/-- convert.Pay -/
def payR (t : zS) (p : Int) (l : zBl) (o : zAT) : zAK × Int := if zCj t p l ≠ 0 then ([], zCj t p l) else if zA8 t (1 - p) o ≠ 0 then ([], zA8 t (1 - p) o) else zFI (payQ t p l o)
structure OkM (t : zS) (p : Int) (l : zBl) : Prop where
 len : ∀ a ∈ l, a.choices.length = (zJ t p).length
 ran : ∀ a ∈ l, ∀ m, m < (zJ t p).length → 0 ≤ a.choices.getD m 0 ∧ (a.choices.getD m 0).toNat < zT t p ((zJ t p).getD m 0)
 odds : zCV (l.map CPlan.odds) = 0
theorem zCs (t : zS) (p : Int) : (zAP t p).length = (zJ t p).length := by unfold zAP; rw [List.length_map]
theorem zMP {t : zS} {p : Int} {m : Nat} (hm : m < (zJ t p).length) : (zAP t p).getD m 0 = zT t p ((zJ t p).getD m 0) := zBY _ _ 0 0 m hm
theorem zOI : ∀ (w : List Nat) (c : List Int), c.length = w.length → (inW w c = true ↔ ∀ m, m < w.length → 0 ≤ c.getD m 0 ∧ c.getD m 0 < (w.getD m 0 : Int))
 | [], c, _ => by constructor <;> intro _ <;> first | rfl | (intro m hm; exact absurd hm (Nat.not_lt_zero _))
 | a :: r, [], hl => by simp at hl
 | a :: r, b :: s, hl => by
   have ih := zOI r s (by simpa using hl)
   rw [inW, Bool.and_eq_true, decide_eq_true_eq, ih]
   constructor
   · rintro ⟨h1, h2⟩ m hm
     cases m with
     | zero => exact h1
     | succ m => exact h2 m (by simpa using hm)
   · intro h
     exact ⟨h 0 (by simp), fun m hm => h (m + 1) (by simpa using hm)⟩
theorem zIr {w : List Nat} : ∀ {l : zBl} {q : Option (List Int)}, zD3 w q l = 0 → ∀ a ∈ l, a.choices.length = w.length ∧ inW w a.choices = true
 | [], _, _, a, ha => by simp at ha
 | b :: r, q, h, a, ha => by
   rw [zD3] at h
   split at h
   · rename_i h1; exact absurd h h1
   · rename_i h1
     rcases List.mem_cons.1 ha with rfl | ha
     · have h1 := Classical.not_not.1 h1
       unfold zDY at h1
       split at h1
       · cases h1
       · rename_i h2
         split at h1
         · cases h1
         · rename_i h3
           exact ⟨Classical.not_not.1 h2, by simpa using h3⟩
     · exact zIr h a ha
theorem zES {t : zS} {p : Int} {l : zBl} (h : zCj t p l = 0) : zAh t p = 0 ∧ OkM t p l := by
 unfold zCj at h
 split at h
 · rename_i h1; exact absurd h h1
 rename_i h1
 split at h
 · cases h
 split at h
 · rename_i h2; exact absurd h h2
 rename_i h2
 have h3 := zIr (Classical.not_not.1 h2)
 refine ⟨Classical.not_not.1 h1, fun a ha => ?_, fun a ha m hm => ?_, h⟩
 · rw [(h3 a ha).1, zCs]
 · have := ((zOI _ _ (h3 a ha).1).1 (h3 a ha).2) m (by rw [zCs]; exact hm)
   rw [zMP hm] at this
   omega
/-- sorted plans in range are accepted -/
theorem zLY {w : List Nat} : ∀ {l : zBl} {q : Option (List Int)}, (∀ a ∈ l, a.choices.length = w.length ∧ inW w a.choices = true) → l.Pairwise (fun a b => zD2 a.choices b.choices = -1) → (∀ b, q = some b → ∀ a ∈ l, zD2 b a.choices = -1) → zD3 w q l = 0
 | [], _, _, _, _ => rfl
 | a :: r, q, h1, h2, h3 => by
   have ha := h1 a (by simp)
   have hz : zDY w q a.choices = 0 := by
     unfold zDY
     rw [if_neg (by rw [ha.1]; exact fun h => h rfl), if_neg (by rw [ha.2]; decide)]
     cases q with
     | none => rfl
     | some b =>
       show (if zD2 b a.choices < 0 then (0 : Int) else 7) = 0
       rw [h3 b rfl a (by simp), if_pos (by decide)]
   rw [zD3, if_neg (by rw [hz]; exact fun h => h rfl)]
   rw [List.pairwise_cons] at h2
   exact zLY (fun b hb => h1 b (by simp [hb])) h2.2 (fun b hb c hc => by cases hb; exact h2.1 c hc)
theorem zOH (t : zS) (p : Int) {m : Nat} (hm : m < (zJ t p).length) : zJF t p ((zJ t p).getD m 0) = m := by
 unfold zJF
 have hn := zBM t p
 have h1 : (zJ t p).getD m 0 = (zJ t p)[m] := zu 0 hm
 rw [h1]
 have hex : ∃ y ∈ zJ t p, decide (y = (zJ t p)[m]) = true := ⟨_, List.getElem_mem hm, by simp⟩
 have hlt : (zJ t p).findIdx (fun y => decide (y = (zJ t p)[m])) < (zJ t p).length := List.findIdx_lt_length_of_exists hex
 have hf := List.findIdx_getElem (w := hlt)
 simp only [decide_eq_true_eq] at hf
 exact (List.getElem_inj hn).1 hf
theorem pure_mix {t : zS} (hv : Valid t) {p : Int} (u : Int → List Rat) {cs : List Int} (hl : cs.length = (zJ t p).length) (hc : ∀ m, m < (zJ t p).length → 0 ≤ cs.getD m 0 ∧ (cs.getD m 0).toNat < zT t p ((zJ t p).getD m 0)) : Mix t p (zCt t p u (zJ t p) cs) := by
 have key : ∀ x ∈ zJ t p, ∃ c, c < zT t p x ∧ zCt t p u (zJ t p) cs x = zAx (zT t p x) c := by
   intro x hx
   obtain ⟨m, hm, rfl⟩ := List.getElem_of_mem hx
   have h1 := zHX t p (zJ t p) cs u m (zBM t p) hl hm
   have e : (zJ t p).getD m 0 = (zJ t p)[m] := zu 0 hm
   have h2 := hc m hm
   rw [e] at h1 h2
   exact ⟨_, h2.2, h1⟩
 refine ⟨fun x hx => ?_, fun x hx => ?_, fun x hx => ?_⟩ <;> obtain ⟨c, c1, c2⟩ := key x hx <;> rw [c2]
 · exact (zBo c1).1
 · exact (zBo c1).2.1
 · exact fun q hq => ((zBo c1).2.2 q hq).1
theorem OkM.wgt {t : zS} {p : Int} {l : zBl} (h : OkM t p l) : (∀ a ∈ l, zCi a.odds = 0 ∧ 0 ≤ zAB a.odds ∧ D 2000 (zAB a.odds)) ∧ zAF 0 (l.map (fun a => zAB a.odds)) = 1 ∧ l.length ≤ 256 := by
 obtain ⟨h1, h2, h3, h4⟩ := zBC h.odds
 rw [List.length_map] at h1
 rw [List.map_map] at h3 h4
 exact ⟨fun a ha => ⟨h2 _ (List.mem_map.2 ⟨a, ha, rfl⟩), h4 _ (List.mem_map.2 ⟨a, ha, rfl⟩)⟩, h3, h1⟩
theorem zK9 {t : zS} (hv : Valid t) {p : Int} {l : zBl} (h : OkM t p l) (u : Int → List Rat) {k : Nat} (hk : k < (zb t p).length) :
   zBB t p l k = zAF 0 (l.map (fun a => zAB a.odds * (zAk t p (zCt t p u (zJ t p) a.choices)).getD k 0)) := by
 have hp : ∀ a ∈ l, (zAk t p (zCt t p u (zJ t p) a.choices)).getD k 0 = if zBy (zJF t p) a.choices (zb t p) (zb t p).length k = true then 1 else 0 := fun a ha =>
   zN4 hv u (fun m hm => zOH t p hm) (h.len a ha) (fun m hm => h.ran a ha m (by rw [← h.len a ha]; exact hm)) k _ hk hk
 rw [zEw _ (fun a => zBy (zJF t p) a.choices (zb t p) (zb t p).length k) l (fun a ha hq => by rw [hp a ha, if_neg (by rw [hq]; decide), Rat.mul_zero])]
 unfold zBB
 refine congrArg (zAF 0) (List.map_congr_left (fun a ha => ?_))
 rw [List.mem_filter] at ha
 rw [hp a ha.1, if_pos ha.2, Rat.mul_one]
theorem Flow.congr {t : zS} (hv : Valid t) {p : Int} {W V : Nat → Rat} (h : Flow t p V) (e : ∀ k, k < (zb t p).length → W k = V k) : Flow t p W := by
 refine ⟨?_, fun k hk => by rw [e k hk]; exact h.nn k hk, fun x hx => ?_⟩
 · rw [e 0 (zAi hv p).2.2.1, h.root]
 · obtain ⟨s, b, g⟩ := zD4 hv hx
   have := h.sum x hx
   rw [g.start, g.bef] at this ⊢
   rw [e b (by have := g.lt; have := g.fin; have := g.w1; omega), ← this]
   exact zAs (fun c hc => e _ (by have := g.fin; omega))
theorem zOy {t : zS} (hv : Valid t) {p : Int} {l : zBl} (h : OkM t p l) : Flow t p (zBB t p l) := by
 obtain ⟨h1, h2, h3⟩ := h.wgt
 have hf := Flow.mixed hv (l := l) (w := fun a => zAB a.odds) (F := fun a k => (zAk t p (zCt t p (fun _ => []) (zJ t p) a.choices)).getD k 0) (fun a ha => (h1 a ha).2.1) h2
   (fun a ha => zRK hv (pure_mix hv _ (h.len a ha) (h.ran a ha)))
 exact hf.congr hv (fun k hk => zK9 hv h _ hk)
theorem zQE {t : zS} (hv : Valid t) {p : Int} {W V : Nat → Rat} (e : ∀ k, k < (zb t p).length → W k = V k) {x : Int} (hx : x ∈ zJ t p) : zA5 t p W x = zA5 t p V x := by
 obtain ⟨s, b, g⟩ := zD4 hv hx
 unfold zA5
 rw [g.start, g.bef, e b (by have := g.lt; have := g.fin; have := g.w1; omega)]
 split
 · refine List.map_congr_left (fun c hc => ?_)
   rw [e _ (by have := g.fin; have := List.mem_range.1 hc; omega)]
 · rfl
theorem zKw {I Z : List Int} : ∀ {s : zAT} {k : Nat}, (∀ j, j < s.length → (s.getD j ch0).info = I.getD (k + j) 0 ∧ (((s.getD j ch0).odds.length : Nat) : Int) = Z.getD (k + j) 0 ∧ zCV (s.getD j ch0).odds = 0) → zEo I Z k s = 0
 | [], k, h => rfl
 | c :: r, k, h => by
   have h0 := h 0 (by simp)
   rw [zEo, if_neg (by rintro (q | q); exact q h0.1; exact q h0.2.1), if_neg (fun q => q h0.2.2)]
   exact zKw (fun j hj => by have := h (j + 1) (by simpa using hj); rwa [show k + (j + 1) = k + 1 + j by omega] at this)
theorem zMv {t : zS} {p : Int} {f : Int → List zAK} (h : ∀ x ∈ zJ t p, (f x).length = zT t p x ∧ zCV (f x) = 0) : zA8 t p ((zJ t p).map (fun x => ⟨x, f x⟩)) = 0 := by
 unfold zA8
 rw [List.length_map, if_neg (fun q => q rfl)]
 refine zKw (fun j hj => ?_)
 rw [List.length_map] at hj
 rw [zBY _ _ 0 _ _ hj, Nat.zero_add]
 have hx : (zJ t p).getD j 0 ∈ zJ t p := zAR 0 hj
 refine ⟨rfl, ?_, (h _ hx).2⟩
 unfold zAE
 rw [zBY _ _ 0 _ _ hj, (h _ hx).1]
theorem zPz {t : zS} {p : Int} {f : Int → List zAK} {x : Int} (hx : x ∈ zJ t p) : zB1 ((zJ t p).map (fun x => ⟨x, f x⟩)) x = (f x).map zAB := by
 have hm : ((zJ t p).map (fun x => (⟨x, f x⟩ : TChoice))).map TChoice.info = zJ t p := by
   rw [List.map_map]; exact List.map_id _
 exact zIC (c := ⟨x, f x⟩) (by rw [hm]; exact zBM t p) (List.mem_map.2 ⟨x, hx, rfl⟩)
/-- The strategy of a mixture. -/
theorem beh_all {t : zS} {p : Int} {l : zBl} (hv : Valid t) (hc : zCj t p l = 0) (hp : zCm t p = true) {B K : Nat} (hB : B ≠ 0) (hK : B < 10 ^ K) (h1K : 1 ≤ K) (hK2 : K ≤ 2000) (hD : ∀ a ∈ l, Dv B (zAB a.odds)) :
   zIL t p l = (zJD t p (zBB t p l), 0) ∧ zA8 t p (zJD t p (zBB t p l)) = 0 ∧ (∀ x ∈ zJ t p, zB1 (zJD t p (zBB t p l)) x = zA5 t p (zBB t p l) x) ∧
   (∀ c ∈ zJD t p (zBB t p l), ∀ q ∈ c.odds.map zAB, D K q) ∧ (∀ k, k < (zb t p).length → (zAk t p (zB1 (zJD t p (zBB t p l)))).getD k 0 = zBB t p l k) := by
 have hO := (zES hc).2
 obtain ⟨h1, h2, h3⟩ := hO.wgt
 have hF := zOy hv hO
 have hsh := fun k => share_D hB hK (l := l) (w := fun a => zAB a.odds) (fun a ha => ⟨hD a ha, (h1 a ha).2.1⟩) (by rw [h2]; exact Rat.le_refl) (fun a => zBy (zJF t p) a.choices (zb t p) (zb t p).length k)
 have hfit := fun x (hx : x ∈ zJ t p) => beh_fit hv hF hB hK h1K hK2 (fun k _ => (hsh k).1) (fun k _ => (hsh k).2.2.1) hx
 have hmix := zMu hv hF
 have hall : (zJ t p).all (fun x => (zA5 t p (zBB t p l) x).all zA3) = true := by
   rw [List.all_eq_true]
   intro x hx
   rw [List.all_eq_true]
   exact fun q hq => ((hfit x hx).1 q hq).2.2.2
 have hq : ∀ x ∈ zJ t p, ((zA5 t p (zBB t p l) x).map zt).map zAB = zA5 t p (zBB t p l) x := fun x hx => by
   rw [List.map_map]
   conv => rhs; rw [← List.map_id (zA5 t p (zBB t p l) x)]
   exact List.map_congr_left (fun q hq => (zN0 ((hfit x hx).1 q hq).2.2.2).2)
 have ho : ∀ x ∈ zJ t p, zB1 (zJD t p (zBB t p l)) x = zA5 t p (zBB t p l) x := fun x hx => by
   unfold zJD
   rw [zPz hx]
   exact hq x hx
 refine ⟨?_, ?_, ho, fun c hc' q hq' => ?_, fun k hk => ?_⟩
 · unfold zIL
   rw [if_neg (fun q => q hc), if_pos hp, if_pos hall]
 · exact zMv (fun x hx => ⟨by rw [List.length_map, hmix.len x hx], (hfit x hx).2⟩)
 · obtain ⟨x, hx, rfl⟩ := List.mem_map.1 hc'
   have hq' : q ∈ ((zA5 t p (zBB t p l) x).map zt).map zAB := hq'
   rw [hq x hx] at hq'
   exact ((hfit x hx).1 q hq').2.2.1
 · rw [zQJ hv ho k hk, zQo hv hF k hk]
end Go.Ax.Rt
namespace Go.Ax.Rt
open Go.Ax.Bg
theorem zCP {t : zS} {p : Int} (h : zAh t p = 0) : Valid t ∧ (p = 0 ∨ p = 1) := by
 unfold zAh at h
 split at h
 · rename_i h1; exact absurd h h1
 · rename_i h1
   split at h
   · cases h
   · rename_i h2
     refine ⟨zMc (Classical.not_not.1 h1), ?_⟩
     by_cases h3 : p = 0
     · exact .inl h3
     · exact .inr (Classical.not_not.1 (fun q => h2 ⟨h3, q⟩))
theorem zDZ {t : zS} {p : Int} {s : zAT} (h : OkS t p s) : zBd s = (zJ t p).map (zB1 s) := by
 have hn : (s.map TChoice.info).Nodup := by rw [h.infos]; exact zBM t p
 unfold zBd
 rw [← h.infos, List.map_map]
 exact List.map_congr_left (fun c hc => (zIC hn hc).symm)
theorem OkS.mix {t : zS} {p : Int} {s : zAT} (h : OkS t p s) : Mix t p (zB1 s) := ⟨h.strat.len, h.strat.sum, h.strat.nn⟩
theorem zLB {t : zS} {p : Int} {s : zAT} (hv : Valid t) (h : OkS t p s) {k : Nat} (hk : k < (zb t p).length) :
   (zAk t p (zB1 s)).getD k 0 = zAF 0 ((zCE (zAP t p)).map (fun l => zCL s l * (zAk t p (zCt t p (zB1 s) (zJ t p) l)).getD k 0)) := by
 have := zND hv h.mix hk (zJ t p).length (Nat.le_refl _)
 rw [List.take_length] at this
 rw [this]
 unfold zCL zAP
 rw [zDZ h]
theorem wids_sum {t : zS} (hv : Valid t) (p : Int) : (zAP t p).sum ≤ 60 := by
 have h1 : (zJ t p).length ≤ 10 := by
   unfold zJ
   refine Nat.le_trans (List.length_filter_le _ _) (by simp)
 have h2 : ∀ x ∈ zAP t p, x ≤ 6 := by
   intro x hx
   obtain ⟨y, hy, rfl⟩ := List.mem_map.1 hx
   obtain ⟨j, hj, hs⟩ := (zBh hv).1 hy
   rw [zDL hv hj hs]
   exact (zG8 (hv.nodes j hj)).2
 have key : ∀ l : List Nat, (∀ x ∈ l, x ≤ 6) → l.sum ≤ 6 * l.length := by
   intro l
   induction l with
   | nil => intro _; simp
   | cons a r ih =>
     intro h
     have := ih (fun x hx => h x (by simp [hx]))
     have := h a (by simp)
     rw [List.sum_cons, List.length_cons]; omega
 have := key _ h2
 rw [zCs] at this
 omega
theorem zJ5 {w : List Nat} {c : List Int} (h : c ∈ zCE w) : c.length = w.length ∧ ∀ k, k < w.length → 0 ≤ c.getD k 0 ∧ (c.getD k 0).toNat < w.getD k 0 := by
 have h' : c ∈ zCE (w.take w.length) := by rw [List.take_length]; exact h
 exact ⟨zFL w _ (Nat.le_refl _) c h', zP6 w _ (Nat.le_refl _) c h'⟩
theorem den_lt {os : List (List Rat)} {d K : Nat} (hd : ∀ o ∈ os, ∀ x ∈ o, D d x) (h : d * (os.map List.length).sum < K) : zJf os < 10 ^ K := Nat.lt_of_le_of_lt (zPR os hd) (Nat.pow_lt_pow_right (by decide) h)
structure MixOf (t : zS) (p : Int) (s : zAT) (m : zBl) : Prop where
 valid : Valid t
 pl : p = 0 ∨ p = 1
 strat : zA8 t p s = 0
 conv : zCj t p m = 0
 den : ∃ B, B ≠ 0 ∧ B < 10 ^ 721 ∧ ∀ a ∈ m, Dv B (zAB a.odds)
 plan : ∀ k, k < (zb t p).length → zBB t p m k = (zAk t p (zB1 s)).getD k 0
theorem zLJ {t : zS} {p : Int} {s : zAT} (hs : ∀ c ∈ s, ∀ r ∈ c.odds, r.length ≤ 12) (h : (zCT t p s).2 = 0) : MixOf t p s (zCT t p s).1 := by
 unfold zCT at h ⊢
 by_cases h1 : zAh t p ≠ 0
 · rw [if_pos h1] at h; exact absurd h h1
 rw [if_neg h1] at h ⊢
 by_cases h2 : zA8 t p s ≠ 0
 · rw [if_pos h2] at h; exact absurd h h2
 rw [if_neg h2] at h ⊢
 have h1 := Classical.not_not.1 h1
 have h2 := Classical.not_not.1 h2
 obtain ⟨hv, hp⟩ := zCP h1
 have hk := zC3 h2
 cases ha : zGz (zAP t p) [[]] with
 | none => rw [ha] at h; cases h
 | some l =>
   rw [ha] at h
   obtain ⟨rfl, hl⟩ := zMs ha
   show MixOf t p s (zCo s (zCE (zAP t p))).1
   have h : (zCo s (zCE (zAP t p))).2 = 0 := h
   unfold zCo at h ⊢
   by_cases h3 : ((zB4 s (zCE (zAP t p))).all (fun c => zA3 (zCL s c))) = true
   case neg => rw [if_neg h3] at h; cases h
   rw [if_pos h3]
   rw [List.all_eq_true] at h3
   clear h ha
   have hnn : ∀ c, 0 ≤ zCL s c := fun c => wgt_nn _ _ _ (by decide +kernel) (fun o ho x hx => by
     obtain ⟨y, hy, rfl⟩ := List.mem_map.1 ho
     exact ((zBC (hk.odds y hy)).2.2.2 x hx).1)
   have hone : zAF 0 ((zCE (zAP t p)).map (zCL s)) = 1 := by
     have h0 := zLB hv hk (zAi hv p).2.2.1
     rw [zBb hv] at h0
     rw [h0]
     refine congrArg (zAF 0) (List.map_congr_left (fun c hc => ?_))
     rw [zBb hv, Rat.mul_one]
   have hone' : zAF 0 ((zB4 s (zCE (zAP t p))).map (zCL s)) = 1 := by
     rw [← hone]
     exact (zEw _ _ _ (fun a _ hq => by simpa using hq)).symm
   have hlen : (zB4 s (zCE (zAP t p))).length ≤ 128 := Nat.le_trans (List.length_filter_le _ _) hl
   have hmem : ∀ c ∈ zB4 s (zCE (zAP t p)), c ∈ zCE (zAP t p) := fun c hc => (List.mem_filter.1 hc).1
   have hB0 : zJf (zBd s) ≠ 0 := Nat.pos_iff_ne_zero.1 (denO_pos (zBd s))
   have hB : zJf (zBd s) < 10 ^ 721 := by
     have hd : ∀ o ∈ zBd s, ∀ x ∈ o, D 12 x := fun o ho x hx => by
       obtain ⟨y, hy, rfl⟩ := List.mem_map.1 ho
       obtain ⟨r, hr, rfl⟩ := List.mem_map.1 hx
       exact (IsQ.self ((zBC (hk.odds y hy)).2.1 r hr)).dig (hs y hy r hr) (by decide)
     have h5 : ((zBd s).map List.length).sum ≤ 60 := by
       have e : (zBd s).map List.length = zAP t p := by
         rw [zDZ hk, List.map_map]
         exact List.map_congr_left (fun x hx => hk.mix.len x hx)
       rw [e]; exact wids_sum hv p
     exact den_lt (K := 721) hd (by omega)
   have hDv : ∀ c ∈ zCE (zAP t p), Dv (zJf (zBd s)) (zCL s c) := fun c hc => by
     have hc' := zJ5 hc
     have hol : (zBd s).length = (zAP t p).length := by rw [zDZ hk, List.length_map, zCs]
     have := wgt_Dv (zBd s) c 1 1 (Dv.one 1) (by rw [hc'.1, hol]) (fun m hm => by
       have h8 := (hc'.2 m (by omega)).2
       rw [zMP (by rw [hol, zCs] at hm; exact hm)] at h8
       have hx : (zJ t p).getD m 0 ∈ zJ t p := zAR 0 (by rw [hol, zCs] at hm; exact hm)
       rw [zDZ hk, zBY _ _ 0 _ _ (by rw [hol, zCs] at hm; exact hm), hk.mix.len _ hx]
       exact h8)
     rwa [Nat.one_mul] at this
   have hval : ∀ c ∈ zB4 s (zCE (zAP t p)), zAB (zt (zCL s c)) = zCL s c := fun c hc => (zN0 (h3 c hc)).2
   have hconv : zCj t p ((zB4 s (zCE (zAP t p))).map (fun c => ⟨c, zt (zCL s c)⟩)) = 0 := by
     unfold zCj
     rw [if_neg (fun q => q h1), if_neg (by rw [List.length_map]; omega)]
     rw [zLY (fun a ha => by
       obtain ⟨c, hc, rfl⟩ := List.mem_map.1 ha
       have hc' := zJ5 (hmem c hc)
       exact ⟨hc'.1, (zOI _ _ hc'.1).2 (fun m hm => by have := hc'.2 m hm; omega)⟩) (by
       rw [List.pairwise_map]
       have hs := zIo (zAP t p) _ (Nat.le_refl _)
       rw [List.take_length] at hs
       exact List.Pairwise.filter _ hs) (fun b hb => by cases hb)]
     rw [if_neg (fun q => q rfl), List.map_map]
     have e : (zB4 s (zCE (zAP t p))).map (CPlan.odds ∘ fun c => (⟨c, zt (zCL s c)⟩ : CPlan)) = ((zB4 s (zCE (zAP t p))).map (zCL s)).map zt := by rw [List.map_map]; rfl
     rw [e]
     refine zHE (B := zJf (zBd s)) (K := 721) hB0 hB (by decide) (by rw [List.length_map]; omega) (fun q hq => ?_) hone'
     obtain ⟨c, hc, rfl⟩ := List.mem_map.1 hq
     exact ⟨hDv c (hmem c hc), hnn c, h3 c hc⟩
   refine ⟨hv, hp, h2, hconv, ⟨zJf (zBd s), hB0, hB, fun a ha => ?_⟩, fun k hk' => ?_⟩
   · obtain ⟨c, hc, rfl⟩ := List.mem_map.1 ha
     show Dv _ (zAB (zt (zCL s c)))
     rw [hval c hc]
     exact hDv c (hmem c hc)
   · rw [zK9 hv (zES hconv).2 (zB1 s) hk', List.map_map, zLB hv hk hk', zEw _ (fun c => decide (zCL s c ≠ 0)) (zCE (zAP t p)) (fun a _ hq => by
       have : zCL s a = 0 := by simpa using hq
       rw [this, Rat.zero_mul])]
     refine congrArg (zAF 0) (List.map_congr_left (fun c hc => ?_))
     show zAB (zt (zCL s c)) * _ = _
     rw [hval c hc]
/-- ConvertBack -/
theorem zOQ {t : zS} {p : Int} {s : zAT} (hs : ∀ c ∈ s, ∀ r ∈ c.odds, r.length ≤ 12) (h : (zCT t p s).2 = 0) (hp : zCm t p = true) :
   ∃ u, zIL t p (zCT t p s).1 = (u, 0) ∧ zA8 t p u = 0 ∧ ((∀ c ∈ s, ([48] : zAK) ∉ c.odds) → u = s) := by
 have hM := zLJ hs h
 generalize (zCT t p s).1 = m at *
 obtain ⟨B, hB, hK, hD⟩ := hM.den
 obtain ⟨b1, b2, b3, b4, b5⟩ := beh_all hM.valid hM.conv hp hB hK (by decide) (by decide) hD
 refine ⟨_, b1, b2, fun hz => ?_⟩
 have hk := zC3 hM.strat
 have hn : (s.map TChoice.info).Nodup := by rw [hk.infos]; exact zBM t p
 have hpos : ∀ x ∈ zJ t p, ∀ q ∈ zB1 s x, 0 < q := by
   intro x hx q hq
   obtain ⟨c, c1, c2, c3, c4, c5⟩ := hk.at' hx
   rw [c3] at hq
   obtain ⟨r, hr, rfl⟩ := List.mem_map.1 hq
   have ho := zBC c5
   have h0 := (ho.2.2.2 _ (List.mem_map.2 ⟨r, hr, rfl⟩)).1
   have hne : zAB r ≠ 0 := fun e => hz c c1 (by rw [← (IsQ.self (ho.2.1 r hr)).zero.1 e]; exact hr)
   grind
 have hpp := plan_pos hM.valid hk.mix hpos
 have hbe : ∀ x ∈ zJ t p, zA5 t p (zBB t p m) x = zB1 s x := fun x hx => by
   rw [zQE hM.valid hM.plan hx]
   exact zQT hM.valid hk.mix hx (fun s' b g => hpp b (by have := g.lt; have := g.fin; have := g.w1; omega))
 unfold zJD
 have e : ∀ c ∈ s, (⟨c.info, (zA5 t p (zBB t p m) c.info).map zt⟩ : TChoice) = c := by
   intro c hc
   have hx : c.info ∈ zJ t p := by rw [← hk.infos]; exact List.mem_map.2 ⟨c, hc, rfl⟩
   rw [hbe _ hx, zIC hn hc, List.map_map]
   have : c.odds.map (zt ∘ zAB) = c.odds := by
     conv => rhs; rw [← List.map_id c.odds]
     exact List.map_congr_left (fun r hr => (IsQ.self ((zBC (hk.odds c hc)).2.1 r hr)).text)
   rw [this]
 rw [← hk.infos, List.map_map]
 conv => rhs; rw [← List.map_id s]
 exact List.map_congr_left e
theorem zQO (w c : Nat) : (zHn w c).map zAB = zAx w c := by
 unfold zHn zAx
 rw [List.map_set, List.map_replicate, show zAB [48] = 0 by decide +kernel, show zAB [49] = 1 by decide +kernel]
theorem zOX (w c : Nat) : (zAx w c).map zt = zHn w c := by
 unfold zHn zAx
 rw [List.map_set, List.map_replicate, show zt 0 = [48] by decide +kernel, show zt 1 = [49] by decide +kernel]
theorem zNw {w c : Nat} (hc : c < w) (hw : w ≤ 256) : zCV (zHn w c) = 0 := by
 rw [← zOX]
 obtain ⟨h1, h2, h3⟩ := zBo hc
 refine zHE (B := 1) (K := 1) (by decide) (by decide) (by decide) (by omega) (fun q hq => ?_) h2
 have e : q = 0 ∨ q = 1 := by
   unfold zAx at hq
   rcases List.mem_or_eq_of_mem_set hq with h | h
   · exact .inl (List.eq_of_mem_replicate h)
   · exact .inr h
 rcases e with rfl | rfl
 · exact ⟨Dv.zero 1, by decide +kernel, by decide +kernel⟩
 · exact ⟨Dv.one 1, by decide +kernel, by decide +kernel⟩
theorem zHw {t : zS} (hv : Valid t) {p x : Int} (hx : x ∈ zJ t p) : zT t p x ≤ 6 := by
 obtain ⟨j, hj, hs⟩ := (zBh hv).1 hx
 rw [zDL hv hj hs]
 exact (zG8 (hv.nodes j hj)).2
theorem pure_all {t : zS} {p : Int} {l : zBl} (hv : Valid t) (hO : OkM t p l) {a : CPlan} (ha : a ∈ l) : zA8 t p (zCM t p a.choices) = 0 ∧ (∀ c ∈ zCM t p a.choices, ∀ r ∈ c.odds, r.length ≤ 12) ∧
   ∀ x ∈ zJ t p, zB1 (zCM t p a.choices) x = zCt t p (fun _ => []) (zJ t p) a.choices x := by
 have key : ∀ x ∈ zJ t p, (a.choices.getD (zJF t p x) 0).toNat < zT t p x ∧ zCt t p (fun _ => []) (zJ t p) a.choices x = zAx (zT t p x) (a.choices.getD (zJF t p x) 0).toNat := by
   intro x hx
   obtain ⟨m, hm, rfl⟩ := List.getElem_of_mem hx
   have e : (zJ t p).getD m 0 = (zJ t p)[m] := zu 0 hm
   have h1 := zHX t p (zJ t p) a.choices (fun _ => []) m (zBM t p) (hO.len a ha) hm
   have h2 := hO.ran a ha m hm
   have h3 := zOH t p hm
   rw [e] at h1 h2 h3
   rw [h3]
   exact ⟨h2.2, h1⟩
 refine ⟨zMv (fun x hx => ⟨by unfold zHn; rw [List.length_set, List.length_replicate], zNw (key x hx).1 (by have := zHw hv hx; omega)⟩), fun c hc r hr => ?_, fun x hx => ?_⟩
 · obtain ⟨x, hx, rfl⟩ := List.mem_map.1 hc
   have hr : r ∈ zHn _ _ := hr
   unfold zHn at hr
   rcases List.mem_or_eq_of_mem_set hr with h | h
   · rw [List.eq_of_mem_replicate h]; decide
   · rw [h]; decide
 · unfold zCM
   rw [zPz hx, zQO, (key x hx).2]
end Go.Ax.Rt
namespace Go.Proofs.YtnkealfaldjipaaGreatDoor
open Go.Ax Go.Ax.Bg Go.Ax.Rt Go.RowKit Go.Ax.Idx Go.Ax.Cd
attribute [local irreducible] Ax zAM QOp zO zo
set_option maxRecDepth 100000
set_option maxHeartbeats 4000000
theorem zM7 (n : Int) : zW Tryz.prog 208 [.int .i64 n] (.bool false) := by
 refine zO.value0 (zF (P := Tryz.prog) (fn := Tryz.f208) rfl rfl (by kernel_rfl) rfl (fun c hR hfix => ?_)) (fix := fun _ => False) (fun _ h => h) rfl rfl
 refine rn3 ?_
 refine zH hR rfl ?_
 simp [zBF]
def cmpO (x y : Int) : Int := if x < y then -1 else if y < x then 1 else 0
theorem cmpO_ok (x y : Int) : zW Tryz.prog 162 [.int .i64 x, .int .i64 y] (.int .i64 (cmpO x y)) := by
 refine zO.value0 (zF (P := Tryz.prog) (fn := Tryz.f162) rfl rfl (by kernel_rfl) rfl (fun c hR hfix => ?_)) (fix := fun _ => False) (fun _ h => h) rfl rfl
 unfold cmpO at hR
 refine rn0 ?_
 refine zE rfl rfl rfl (zM7 x) ?_
 refine rn0 ?_
 refine zE rfl rfl rfl (zM7 y) ?_
 refine rn4 ?_
 refine zD rfl (fun h => ?_) (fun h => ?_)
 · rw [if_pos h] at hR
   refine rn2 ?_
   exact zH hR rfl rfl
 · rw [if_neg h] at hR
   refine rn6 ?_
   refine zD rfl (fun h2 => ?_) (fun h2 => ?_)
   · rw [if_pos h2] at hR
     refine rn2 ?_
     exact zH hR rfl rfl
   · rw [if_neg h2] at hR
     refine rn1 ?_
     exact zH hR rfl rfl
theorem cmpL_at {a b : List Int} {k : Nat} (ha : k < a.length) (hb : k < b.length) : zD2 (a.drop k) (b.drop k) = if cmpO (a.getD k 0) (b.getD k 0) ≠ 0 then cmpO (a.getD k 0) (b.getD k 0) else zD2 (a.drop (k + 1)) (b.drop (k + 1)) := by
 rw [List.drop_eq_getElem_cons ha, List.drop_eq_getElem_cons hb, ← zu 0 ha, ← zu 0 hb]
 show (if a.getD k 0 < b.getD k 0 then (-1 : Int) else if b.getD k 0 < a.getD k 0 then 1 else zD2 (a.drop (k + 1)) (b.drop (k + 1))) = _
 unfold cmpO
 by_cases h1 : a.getD k 0 < b.getD k 0
 · rw [if_pos h1, if_pos h1, if_pos (by decide)]
 · rw [if_neg h1, if_neg h1]
   by_cases h2 : b.getD k 0 < a.getD k 0
   · rw [if_pos h2, if_pos h2, if_pos (by decide)]
   · rw [if_neg h2, if_neg h2, if_neg (by decide)]
theorem zQy {a b : List Int} {k : Nat} (ha : k < a.length) (hb : b.length ≤ k) : zD2 (a.drop k) (b.drop k) = 1 := by
 rw [List.drop_eq_getElem_cons ha, List.drop_eq_nil_of_le hb]; rfl
theorem zRS {a b : List Int} {k : Nat} (ha : a.length ≤ k) (hb : k < b.length) : zD2 (a.drop k) (b.drop k) = -1 := by
 rw [List.drop_eq_getElem_cons hb, List.drop_eq_nil_of_le ha]; rfl
theorem zQq {a b : List Int} {k : Nat} (ha : a.length ≤ k) (hb : b.length ≤ k) : zD2 (a.drop k) (b.drop k) = 0 := by
 rw [List.drop_eq_nil_of_le ha, List.drop_eq_nil_of_le hb]; rfl
theorem zOb (a b : List Int) (ha : a.length ≤ 9223372036854775807) (hb : b.length ≤ 9223372036854775807) : zW Tryz.prog 112 [.ro (.ints .i64 a) 0 a.length, .ro (.ints .i64 b) 0 b.length] (.int .i64 (zD2 a b)) := by
 refine zO.value0 (zF (P := Tryz.prog) (fn := Tryz.f112) rfl rfl (by kernel_rfl) rfl (fun c hR hfix => ?_)) (fix := fun _ => False) (fun _ h => h) rfl rfl
 refine rn3 ?_
 refine zg (ι := Nat) (fun k => [(0, .ro (.ints .i64 a) 0 a.length), (1, .ro (.ints .i64 b) 0 b.length), (9, .ro (.ints .i64 a) 0 a.length), (10, .int .i64 (a.length : Nat)), (11, .int .i64 (k : Nat))]) (fun _ => [])
   (fun k => k ≤ a.length ∧ k ≤ b.length ∧ zD2 a b = zD2 (a.drop k) (b.drop k)) (fun k => a.length - k) 0 ⟨⟨rfl, rfl, rfl, rfl, rfl, trivial⟩, rfl, Nat.zero_le _, Nat.zero_le _, rfl⟩ ?_
 rintro k ⟨hk, hkb, hE⟩
 refine rn4 ?_
 refine zD rfl (fun h => ?_) (fun h => ?_)
 · have hk' : k < a.length := by omega
   repeat (first | refine zC (zI rfl) ?_ | refine zC (zK rfl) ?_ | refine zC (zAr rfl rfl rfl) ?_ | refine zB ?_ | refine zA ?_ | refine zZ ?_ | refine zL rfl ?_ | refine zw ?_ | refine zi ?_ | refine zC (zCX rfl rfl) ?_ | refine zC (zBE rfl rfl rfl) ?_ | refine zC (zf rfl rfl rfl rfl (by first | (simp only [Nat.zero_add, Int.toNat_natCast, Int.toNat_zero]; exact rfl) | exact rfl) (by omega)) ?_)
   refine zD rfl (fun h2 => ?_) (fun h2 => ?_)
   · rw [zQy hk' (by omega)] at hE
     rw [hE] at hR
     refine rn6 ?_
     exact zH hR rfl rfl
   have hk2 : k < b.length := by omega
   rw [cmpL_at hk' hk2] at hE
   have cc := cmpO_ok (a.getD k 0) (b.getD k 0)
   generalize cmpO (a.getD k 0) (b.getD k 0) = z at *
   refine rn6 ?_
   refine zE rfl rfl rfl cc ?_
   refine rn3 ?_
   refine zD rfl (fun h3 => ?_) (fun h3 => ?_)
   · rw [if_pos h3] at hE
     rw [hE] at hR
     refine rn6 ?_
     exact zH hR rfl rfl
   · rw [if_neg h3] at hE
     refine rn5 ?_
     exact zM ⟨k + 1, ⟨by omega, by omega, hE⟩, by omega, ⟨rfl, rfl, rfl, rfl, rfl, trivial⟩, rfl⟩
 · have hke : k = a.length := by omega
   subst hke
   refine rn5 ?_
   refine zD rfl (fun h2 => ?_) (fun h2 => ?_)
   · rw [zRS (Nat.le_refl _) (by omega)] at hE
     rw [hE] at hR
     refine rn2 ?_
     exact zH hR rfl rfl
   · rw [zQq (Nat.le_refl _) (by omega)] at hE
     rw [hE] at hR
     refine rn1 ?_
     exact zH hR rfl rfl
def allA (o : Option (List (List Int))) : AV := match o with
 | none => .tup [.ro (zA2 []) 0 0, .bool false]
 | some l => .tup [.ro (zA2 l) 0 l.length, .bool true]
def zE2 (w : List Nat) : List Int := w.map (fun n : Nat => (n : Int))
theorem allG_at {w : List Nat} {out : List (List Int)} {i : Nat} (hi : i < w.length) : zGz (w.drop i) out = if 128 < out.length * w.getD i 0 then none else zGz (w.drop (i + 1)) (zDv out (w.getD i 0)) := by
 rw [List.drop_eq_getElem_cons hi, ← zu 0 hi]; rfl
def zG5 (out : List (List Int)) (n j k : Nat) : List (List Int) := zDv (out.take j) n ++ (List.range k).map (fun c : Nat => out.getD j [] ++ [(c : Int)])
theorem zOq (out : List (List Int)) (n j k : Nat) : zG5 out n j (k + 1) = zG5 out n j k ++ [out.getD j [] ++ [(k : Int)]] := by
 unfold zG5
 rw [List.range_succ, List.map_append, ← List.append_assoc]; rfl
theorem zOk {out : List (List Int)} {n j : Nat} (hj : j < out.length) : zG5 out n j n = zDv (out.take (j + 1)) n := by
 unfold zG5 zDv
 rw [List.take_succ_eq_append_getElem hj, List.flatMap_append, ← zu [] hj]
 simp
theorem zO2 (out : List (List Int)) (n j : Nat) : zG5 out n j 0 = zDv (out.take j) n := by
 unfold zG5; simp
theorem zQK (out : List (List Int)) {n j k : Nat} (hj : j ≤ out.length) : (zG5 out n j k).length = j * n + k := by
 unfold zG5
 rw [List.length_append, zIQ, List.length_take, List.length_map, List.length_range, Nat.min_eq_left hj]
theorem zKp (ls : List (List Int)) : z7 (zA2 ls) := fun _ _ _ _ => rfl
theorem zHp (ls : List (List Int)) (h : Nat) : CEq ((zA2 ls).forget h) (zA2 ls) := ⟨rfl, rfl, fun _ _ _ _ => rfl⟩
theorem all_ok (w : List Nat) (hl : w.length ≤ 100000) (hw : ∀ n ∈ w, n ≤ 100000) : zW Tryz.prog 103 [.ro (.ints .i64 (zE2 w)) 0 w.length] (allA (zGz w [[]])) := by
 have hnl : (zE2 w).length = w.length := List.length_map _
 refine zO.value0 (zF (P := Tryz.prog) (fn := Tryz.f103) rfl rfl (by kernel_rfl) rfl (fun c hR hfix => ?_)) (fix := fun _ => False) (fun _ h => h) rfl (by unfold allA; split <;> rfl)
 refine rn0 ?_
 refine zl rfl rfl rfl rfl rfl rfl rfl rfl rfl rfl rfl ?_
 refine zN 11 (.ro (.ints .i64 []) 0 0) rfl (AEq.ro rfl (fun d j hd _ => absurd hd (Nat.not_lt_zero _))) ?_
 refine rn3 ?_
 refine zAO 4 (.ro (zA2 [[]]) 0 1) rfl (AEq.ro rfl (fun d j hd hj => by
   obtain rfl := Nat.lt_one_iff.1 hd
   obtain rfl := Nat.lt_one_iff.1 (show j < 1 from hj)
   rfl)) ?_
 refine zg (ι := Nat) (fun i => [(4, .ro (zA2 (zCE (w.take i))) 0 (zCE (w.take i)).length), (13, .ro (.ints .i64 (zE2 w)) 0 w.length), (14, .int .i64 (w.length : Nat)), (15, .int .i64 (i : Nat))]) (fun _ => [])
   (fun i => i ≤ w.length ∧ (zCE (w.take i)).length ≤ 128 ∧ zGz w [[]] = zGz (w.drop i) (zCE (w.take i))) (fun i => w.length - i) 0 ⟨⟨rfl, rfl, rfl, rfl, trivial⟩, rfl, Nat.zero_le _, by show 1 ≤ 128; decide, rfl⟩ ?_
 rintro i ⟨hi, ho, hE⟩
 have hal := zFL w i hi
 refine rn4 ?_
 refine zD rfl (fun h => ?_) (fun h => ?_)
 · have hi' : i < w.length := by omega
   have hz : (zE2 w).getD i 0 = ((w.getD i 0 : Nat) : Int) := zBY _ _ 0 _ _ hi'
   have hn5 := hw _ (zAR 0 hi')
   rw [allG_at hi'] at hE
   have hnx : zCE (w.take (i + 1)) = zDv (zCE (w.take i)) (w.getD i 0) := by rw [List.take_succ_eq_append_getElem hi', zFO, ← zu 0 hi']
   generalize hnxd : zCE (w.take (i + 1)) = nx at *
   generalize zCE (w.take i) = out at *
   have hin : i < (zE2 w).length := by omega
   have hmul : ((out.length : Nat) : Int) * ((w.getD i 0 : Nat) : Int) = ((out.length * w.getD i 0 : Nat) : Int) := by rw [Int.natCast_mul]
   generalize w.getD i 0 = n at *
   have hmb : out.length * n ≤ 128 * 100000 := Nat.mul_le_mul ho hn5
   repeat (first | refine zA ?_ | refine zZ ?_ | refine zw ?_ | refine zi ?_)
   refine zL rfl ?_
   repeat (first | refine zC (zK rfl) ?_ | refine zC (zAr rfl rfl rfl) ?_ | refine zB ?_ | refine zA ?_ | refine zZ ?_ | refine zC (zf rfl rfl rfl rfl (by first | (simp only [Nat.zero_add, Int.toNat_natCast, Int.toNat_zero]; exact rfl) | exact rfl) (by omega)) ?_)
   refine zAO 6 (.int .i64 (n : Nat)) rfl (AEq.of_eq (by rw [hz])) ?_
   have hnl2 := zIQ out n
   generalize hM : out.length * n = M at *
   refine rn3 ?_
   refine zC (q_mul rfl rfl (by rw [hmul]; omega)) ?_
   refine zN 22 (.int .i64 (M : Nat)) rfl (AEq.of_eq (by rw [hmul])) ?_
   refine rn6 ?_
   refine zD rfl (fun h2 => ?_) (fun h2 => ?_)
   · rw [if_pos (by omega)] at hE
     rw [hE] at hR
     repeat (first | refine zC (zK rfl) ?_ | refine zB ?_ | refine zA ?_ | refine zZ ?_ | refine zL rfl ?_)
     refine zAO 2 (.ro (zA2 []) 0 0) rfl AEq.nil ?_
     refine rn6 ?_
     exact zH hR rfl rfl
   rw [if_neg (by omega)] at hE
   repeat (first | refine zC (zI rfl) ?_ | refine zC (zK rfl) ?_ | refine zB ?_ | refine zA ?_ | refine zZ ?_ | refine zL rfl ?_ | refine zi ?_ | refine zC (zBE rfl rfl rfl) ?_)
   refine zA1 7 ⟨38, zA2 []⟩ rfl rfl ?_
   repeat (refine zw ?_)
   refine zg (ι := Nat) (fun j => [(6, .int .i64 (n : Nat)), (13, .ro (.ints .i64 (zE2 w)) 0 w.length), (14, .int .i64 (w.length : Nat)), (15, .int .i64 (i : Nat)), (24, .ro (zA2 out) 0 out.length), (25, .int .i64 (out.length : Nat)), (26, .int .i64 (j : Nat)), (7, .sl 0 0 (zDv (out.take j) n).length)]) (fun j => [some ⟨38, zA2 (zDv (out.take j) n)⟩])
     (fun j => j ≤ out.length) (fun j => out.length - j) 0 ⟨⟨rfl, rfl, rfl, rfl, rfl, rfl, rfl, rfl, trivial⟩, rfl, Nat.zero_le _⟩ ?_
   intro j hj
   refine rn4 ?_
   refine zD rfl (fun h3 => ?_) (fun h3 => ?_)
   · have hj' : j < out.length := by omega
     have hel := hal _ (zAR [] hj')
     have hfull := zOk (n := n) hj'
     have hzero := zO2 out n j
     have hsucc := zOq out n j
     have hkl := fun k => zQK out (n := n) (k := k) hj
     have hjm : j * n + n ≤ M := by
       rw [← hM, ← Nat.succ_mul]; exact Nat.mul_le_mul_right _ hj'
     rw [← hzero]
     generalize zG5 out n j = NK at *
     refine rn6 ?_
     generalize hcs : out.getD j [] = cs at *
     refine zg (ι := Nat) (fun k => [(6, .int .i64 (n : Nat)), (13, .ro (.ints .i64 (zE2 w)) 0 w.length), (14, .int .i64 (w.length : Nat)), (15, .int .i64 (i : Nat)), (24, .ro (zA2 out) 0 out.length), (25, .int .i64 (out.length : Nat)), (26, .int .i64 (j : Nat)), (7, .sl 0 0 (NK k).length), (9, .ro (.ints .i64 cs) 0 cs.length), (30, .int .i64 (n : Nat)), (31, .int .i64 (k : Nat))]) (fun k => [some ⟨38, zA2 (NK k)⟩])
       (fun k => k ≤ n) (fun k => n - k) 0 ⟨⟨rfl, rfl, rfl, rfl, rfl, rfl, rfl, rfl, rfl, rfl, rfl, trivial⟩, rfl, Nat.zero_le _⟩ ?_
     intro k hk
     refine rn4 ?_
     refine zD rfl (fun h4 => ?_) (fun h4 => ?_)
     · have hk' : k < n := by omega
       have hs := hsucc k
       have hlk := hkl k
       have hlk1 := hkl (k + 1)
       have ccl := clone cs (by omega)
       refine rn1 ?_
       refine zCJ rfl rfl rfl ccl ?_
       refine rn3 ?_
       refine zm rfl rfl rfl rfl rfl rfl rfl rfl rfl rfl rfl rfl (by show 0 + 1 ≤ 1; omega) rfl (by show (cs.length + 1) * 8 ≤ _ ∧ _; omega) (fun i j _ _ => rfl) (by rw [hfix]; exact fun h => h) ?_
       refine zCu 1 39 (cs.length + 1) [(6, .int .i64 (n : Nat)), (7, .sl 0 0 (NK k).length), (9, .ro (.ints .i64 cs) 0 cs.length), (13, .ro (.ints .i64 (zE2 w)) 0 w.length), (14, .int .i64 (w.length : Nat)), (15, .int .i64 (i : Nat)), (24, .ro (zA2 out) 0 out.length), (25, .int .i64 (out.length : Nat)), (26, .int .i64 (j : Nat)), (30, .int .i64 (n : Nat)), (31, .int .i64 (k : Nat)), (34, .sl 0 0 (NK k).length)] rfl zAW rfl (by show cs.length + 1 ≤ (cs ++ _).length; simp) ⟨rfl, rfl, rfl, rfl, rfl, rfl, rfl, rfl, rfl, rfl, rfl, rfl, trivial⟩ ?_
       refine zN 39 (.ro (.ints .i64 (cs ++ [(k : Int)])) 0 (cs ++ [(k : Int)]).length) rfl (AEq.of_eq (by rw [List.length_append]; rfl)) ?_
       refine zAz [some ⟨38, zA2 (NK k)⟩, none] (zAG.eqv ((zHp _ _)) (zAG.drop zAG.nil)) ?_
       generalize cs ++ [(k : Int)] = cs2 at *
       repeat (refine zl rfl rfl rfl rfl rfl rfl rfl rfl rfl rfl rfl ?_)
       refine zm rfl rfl rfl rfl rfl rfl rfl rfl rfl rfl rfl rfl (by show 0 + 1 ≤ 1; omega) rfl (by show ((NK k).length + 1) * 24 ≤ _ ∧ _; omega) ?_ (by rw [hfix]; exact fun h => h) ?_
       · intro i' j' hi1 hj1
         exact zMo (NK k) cs2 _ rfl 0 i' j' hi1 hj1
       repeat (first | refine zC (zK rfl) ?_ | refine zB ?_ | refine za ?_)
       refine zA ?_
       refine zB5 ([some ⟨38, zA2 (NK (k + 1))⟩] ++ [none]) ?_ ?_
       · rw [hs]
         exact zAG.eqv (zO3 (NK k) cs2 _ rfl) (zAG.drop zAG.nil)
       refine zEN (H1 := [some ⟨38, zA2 (NK (k + 1))⟩]) rfl (by rw [hfix]; exact fun h => h) ?_
       refine zB5 [some ⟨38, zA2 (NK (k + 1))⟩] (zAG.eqv (zHp _ _) zAG.nil) ?_
       refine rn3 ?_
       exact zM ⟨k + 1, by omega, by omega, ⟨rfl, rfl, rfl, rfl, rfl, rfl, rfl, by rw [hs, List.length_append]; rfl, rfl, rfl, rfl, trivial⟩, rfl⟩
     · have hke : k = n := by omega
       subst hke
       rw [hfull]
       refine rn5 ?_
       exact zM ⟨j + 1, by omega, by omega, ⟨rfl, rfl, rfl, rfl, rfl, rfl, rfl, rfl, trivial⟩, rfl⟩
   · have hje : j = out.length := by omega
     subst hje
     rw [List.take_length]
     rw [← hnx] at *
     repeat (first | refine zA ?_ | refine zAq ?_ | refine zq ?_ | refine zp ?_ | refine zAH ?_)
     refine zAY 0 7 nx.length [(13, .ro (.ints .i64 (zE2 w)) 0 w.length), (14, .int .i64 (w.length : Nat)), (15, .int .i64 (i : Nat))] rfl (zKp _) rfl (Nat.le_refl _) ⟨rfl, rfl, rfl, trivial⟩ ?_
     repeat (first | refine zC (zI rfl) ?_ | refine zC (zK rfl) ?_ | refine zB ?_ | refine zL rfl ?_ | refine za ?_)
     refine zA ?_
     refine zEN (H1 := []) rfl (by rw [hfix]; exact fun h => h) ?_
     refine rn3 ?_
     subst hnxd
     exact zM ⟨i + 1, ⟨by omega, by omega, hE⟩, by omega, ⟨rfl, rfl, rfl, rfl, trivial⟩, rfl⟩
 · have hie : i = w.length := by omega
   subst hie
   rw [List.drop_length, List.take_length] at hE
   rw [List.take_length]
   rw [hE] at hR
   have hR : c.R = fun r' x => r' = .tup [.ro (zA2 (zCE w)) 0 (zCE w).length, .bool true] := hR
   generalize zCE w = L at *
   refine rn5 ?_
   exact zH hR rfl rfl
end Go.Proofs.YtnkealfaldjipaaGreatDoor
namespace Go.Proofs.YtnkealfaldjipaaGreatDoor
open Go.Ax Go.Ax.Bg Go.Ax.Rt Go.RowKit Go.Ax.Idx Go.Ax.Cd
attribute [local irreducible] Ax zAM QOp zO zo
set_option maxRecDepth 100000
set_option maxHeartbeats 4000000
structure SeqOk (I : List Int) (sq : List RSeq) : Prop where
 bef : ∀ i, i < sq.length → 0 ≤ (sq.getD i seq0).before → (sq.getD i seq0).before < (i : Int)
 inf : ∀ i, i < sq.length → 0 ≤ (sq.getD i seq0).before → (sq.getD i seq0).info ∈ I
theorem zI0 {pos : Int → Nat} {cs I : List Int} {sq : List RSeq} (h : SeqOk I sq) : ∀ b f g, b < f → b < g → b < sq.length → zBy pos cs sq f b = zBy pos cs sq g b := by
 intro b
 induction b using Nat.strongRecOn with
 | ind b ih =>
   intro f g hf hg hb
   obtain ⟨f, rfl⟩ : ∃ k, f = k + 1 := ⟨f - 1, by omega⟩
   obtain ⟨g, rfl⟩ : ∃ k, g = k + 1 := ⟨g - 1, by omega⟩
   rw [zBy, zBy]
   by_cases h1 : (sq.getD b seq0).before < 0
   · rw [if_pos h1, if_pos h1]
   · rw [if_neg h1, if_neg h1]
     have h2 := h.bef b hb (by omega)
     split
     · exact ih _ (by omega) f g (by omega) (by omega) (by omega)
     · rfl
theorem zLo (a b d : Int) : z7 (.box [.int .i64 a, .int .i64 b, .int .i64 d]) := by
 intro i j _ hj
 have hj : j < 3 := hj
 match j, hj with
 | 0, _ => rfl
 | 1, _ => rfl
 | 2, _ => rfl
theorem makes_ok (I cs : List Int) (sq : List RSeq) (N i : Nat) (hI : I.length ≤ 1000000) (hcs : cs.length = I.length) (hsl : sq.length ≤ 1000000) (hi : i < sq.length) (hiN : i < N) (hs : SeqOk I sq) :
   zW Tryz.prog 107 [.ro (.ints .i64 I) 0 I.length, .ro (.ints .i64 cs) 0 cs.length, .ro (zBV sq) 0 sq.length, .int .i64 (i : Nat)] (.bool (zBy (fun x => I.findIdx (eqp x)) cs sq N i)) := by
 refine zO.value0 (zF (P := Tryz.prog) (fn := Tryz.f107) rfl rfl (by kernel_rfl) rfl (fun c hR hfix => ?_)) (fix := fun _ => False) (fun _ h => h) rfl rfl
 rw [zI0 hs i N (i + 1) hiN (by omega) hi] at hR
 generalize hpos : (fun x => I.findIdx (eqp x)) = pos at *
 refine rn6 ?_
 refine zQ (c' := .box [.int .i64 (sq.getD i seq0).info, .int .i64 (sq.getD i seq0).choice, .int .i64 (sq.getD i seq0).before]) rfl rfl rfl rfl rfl Nat.zero_lt_one rfl rfl (fun i' j' hi' hj' => ?_) ?_
 · rw [if_pos (Nat.lt_one_iff.1 hi')]; rfl
 refine rn1 ?_
 refine zg (ι := Nat) (fun k => [(9, .ptr 0 0 0), (0, .ro (.ints .i64 I) 0 I.length), (1, .ro (.ints .i64 cs) 0 cs.length), (2, .ro (zBV sq) 0 sq.length)]) (fun k => [some ⟨174, .box [.int .i64 (sq.getD k seq0).info, .int .i64 (sq.getD k seq0).choice, .int .i64 (sq.getD k seq0).before]⟩])
   (fun k => k < sq.length ∧ zBy pos cs sq (i + 1) i = zBy pos cs sq (k + 1) k) (fun k => k) i ⟨⟨rfl, rfl, rfl, rfl, trivial⟩, rfl, hi, rfl⟩ ?_
 rintro k ⟨hk, hE⟩
 have hbf := hs.bef k hk
 have hif := hs.inf k hk
 have hst : zBy pos cs sq (k + 1) k = if (sq.getD k seq0).before < 0 then true else if cs.getD (pos (sq.getD k seq0).info) 0 = (sq.getD k seq0).choice then zBy pos cs sq k (sq.getD k seq0).before.toNat else false := rfl
 rw [hst] at hE
 clear hst
 generalize hx : sq.getD k seq0 = x at *
 obtain ⟨nf, ch, bf⟩ := x
 simp only at *
 refine zNP (o := ⟨174, .box [.int .i64 nf, .int .i64 ch, .int .i64 bf]⟩) (v := .ptr 0 0 0) 9 [(0, .ro (.ints .i64 I) 0 I.length), (1, .ro (.ints .i64 cs) 0 cs.length), (2, .ro (zBV sq) 0 sq.length)] (.rp (.box [.int .i64 nf, .int .i64 ch, .int .i64 bf]) 0 0) (zLo _ _ _) rfl rfl (fun o ho => by simp at ho; subst ho; exact Nat.zero_lt_one) rfl ⟨rfl, rfl, rfl, rfl, trivial⟩ ⟨rfl, rfl, rfl, trivial⟩ rfl (by rw [hfix]; exact fun h hh => hh) ?_
 repeat (first | refine zB ?_ | refine zA ?_ | refine zZ ?_ | refine zL rfl ?_ | refine zC (zCX rfl rfl) ?_ | refine zC (zBu rfl rfl rfl rfl) ?_ | refine zC (zCD rfl rfl rfl rfl rfl rfl) ?_)
 refine zD rfl (fun h => ?_) (fun h => ?_)
 · rw [if_neg (by omega)] at hE
   obtain ⟨b, rfl⟩ := Int.eq_ofNat_of_zero_le (show 0 ≤ bf by omega)
   have hbk : b < k := by have := hbf (by omega); omega
   have hbl : b < sq.length := by omega
   have hex : ∃ y ∈ I, eqp nf y = true := ⟨nf, hif (by omega), by simp [eqp]⟩
   have hlt : I.findIdx (eqp nf) < I.length := List.findIdx_lt_length_of_exists hex
   have ci := indexI I nf (by omega)
   rw [zIM (eqp nf) I (List.any_eq_true.2 hex)] at ci
   have hpn : pos nf = I.findIdx (eqp nf) := by rw [← hpos]
   rw [hpn, Int.toNat_natCast] at hE
   generalize I.findIdx (eqp nf) = m at *
   have hmc : m < cs.length := by omega
   refine rn1 ?_
   refine zn (by kernel_rfl) ?_
   refine zr (fuel := 0) [0, 1, 2, 3, 4, 5, 6, 7, 8, 9] [(9, .rp (.box [.int .i64 nf, .int .i64 ch, .int .i64 (b : Nat)]) 0 0), (0, .ro (.ints .i64 I) 0 I.length), (1, .ro (.ints .i64 cs) 0 cs.length), (2, .ro (zBV sq) 0 sq.length)] ⟨rfl, rfl, rfl, rfl, trivial⟩ (by kernel_rfl) (by decide) rfl rfl ?_
   refine zX rfl rfl (zI rfl) ?_
   refine zX rfl rfl (zI rfl) ?_
   refine zX rfl rfl (zCD rfl rfl rfl rfl rfl rfl) ?_
   refine zX rfl rfl (zBu rfl rfl rfl rfl) ?_
   refine zBc rfl rfl rfl rfl rfl ci ?_
   refine zX rfl rfl (zf rfl rfl rfl rfl (by first | (simp only [Nat.zero_add, Int.toNat_natCast, Int.toNat_zero]; exact rfl) | exact rfl) (by omega)) ?_
   refine zX rfl rfl (zAr rfl rfl rfl) ?_
   refine zX rfl rfl (zCD rfl rfl rfl rfl rfl rfl) ?_
   refine zX rfl rfl (zBu rfl rfl rfl rfl) ?_
   refine zX rfl rfl (zDw rfl rfl) ?_
   refine zAc ?_
   refine zh (by kernel_rfl) ?_
   repeat (refine zA ?_)
   refine zD rfl (fun h2 => ?_) (fun h2 => ?_)
   · rw [if_neg (by simpa using h2)] at hE
     rw [hE] at hR
     refine rn6 ?_
     exact zH hR rfl rfl
   rw [if_pos (by simpa using h2)] at hE
   refine rn6 ?_
   refine zQ (c' := .box [.int .i64 nf, .int .i64 ch, .int .i64 (b : Nat)]) rfl rfl rfl rfl rfl Nat.zero_lt_one rfl rfl (fun i' j' hi' hj' => ?_) ?_
   · rw [if_pos (Nat.lt_one_iff.1 hi')]; rfl
   refine rn6 ?_
   refine zQ (c' := .box [.int .i64 (sq.getD b seq0).info, .int .i64 (sq.getD b seq0).choice, .int .i64 (sq.getD b seq0).before]) rfl rfl rfl rfl rfl Nat.zero_lt_one rfl rfl (fun i' j' hi' hj' => ?_) ?_
   · rw [if_pos (Nat.lt_one_iff.1 hi')]; rfl
   repeat (refine zB ?_)
   have hgg : zBy pos cs sq k b = zBy pos cs sq (b + 1) b := zI0 hs b k (b + 1) hbk (by omega) hbl
   exact zM ⟨b, ⟨hbl, by rw [hE]; exact hgg⟩, hbk, ⟨rfl, rfl, rfl, rfl, trivial⟩, rfl⟩
 · rw [if_pos (by omega)] at hE
   rw [hE] at hR
   refine rn5 ?_
   exact zH hR rfl rfl
end Go.Proofs.YtnkealfaldjipaaGreatDoor
namespace Go.Proofs.YtnkealfaldjipaaGreatDoor
open Go.Ax Go.Ax.Bg Go.Ax.Rt Go.RowKit Go.Ax.Idx Go.Ax.Cd
attribute [local irreducible] Ax zAM QOp zO zo
set_option maxRecDepth 100000
set_option maxHeartbeats 4000000
theorem zDF (c : TChoice) (j h : Nat) (hj : j < 2) : ((cellsC c).getD j .any).forget h = (cellsC c).getD j .any := by
 match j, hj with
 | 0, _ => rfl
 | 1, _ => rfl
theorem zDG (s : zAT) : z7 (z6 s) := by
 intro i j _ hj
 have hj : j < 2 := hj
 match j, hj with
 | 0, _ => rfl
 | 1, _ => rfl
theorem growC (n : Int) (h0 : 0 ≤ n) (h1 : n ≤ 4398046511104) : zIx Tryz.prog 129 [.nil, .int .i64 n] (fun N => .sl N 0 0) ⟨67, z6 []⟩ := by
 refine zO.fresh (K := fun r H => r = .sl 0 0 0 ∧ H = [some ⟨67, z6 []⟩]) (zF (P := Tryz.prog) (fn := Tryz.f129) rfl rfl (by kernel_rfl) rfl (fun c hR hfix => ?_)) (fix := fun _ => False) (fun _ h => h) rfl (fun H => ⟨rfl, by simp [zHH, inB]⟩) ?_
 · refine rn4 ?_
   refine zD rfl (fun h => absurd h (by omega)) (fun h => ?_)
   repeat (first | refine zC (zI rfl) ?_ | refine zC (zK rfl) ?_ | refine zB ?_ | refine zA ?_ | refine zZ ?_ | refine zL rfl ?_ | refine zi ?_ | refine zC (zJj rfl rfl) ?_ | refine zC (zBE rfl rfl rfl) ?_ | refine zC (zBk rfl rfl (by omega)) ?_ | refine zC (zMb rfl rfl) ?_)
   refine zD rfl (fun h => ?_) (fun h => ?_)
   rotate_left
   · repeat (first | refine zC (zI rfl) ?_ | refine zC (zK rfl) ?_ | refine zB ?_ | refine zA ?_ | refine zZ ?_ | refine zL rfl ?_ | refine zi ?_)
     refine zA1 4 ⟨67, z6 []⟩ rfl rfl ?_
     repeat (refine zAQ ?_)
     exact zH hR rfl ⟨rfl, rfl⟩
   repeat (first | refine zC (zI rfl) ?_ | refine zL rfl ?_ | refine zC (zMb rfl rfl) ?_ | refine zC (zN3 rfl rfl rfl rfl rfl rfl rfl) ?_)
   refine ax_growz rfl rfl rfl rfl rfl rfl rfl rfl rfl (by show 0 < _ ∧ _ * 32 ≤ _ ∧ _; omega) ?_
   refine rn3 ?_
   refine zC (zI6 rfl rfl rfl rfl rfl rfl rfl rfl (by omega)) ?_
   refine zHg 0 (z6 []) rfl ⟨Nat.zero_le _, rfl, fun i j hi => absurd hi (Nat.not_lt_zero _)⟩ ?_
   refine rn0 ?_
   exact zH hR rfl ⟨rfl, rfl⟩
 · rintro r H ⟨rfl, rfl⟩
   refine ⟨?_, fun h o ho => zGE (zDG _) h o ho, 0, rfl, fun n => rfl⟩
   intro o ho; simp at ho; subst ho; exact Nat.zero_le _
def cellL (s : zAT) : List AV := [.ro (z6 s) 0 s.length]
abbrev zIE (l : List zAT) : Cells := zCf [] 1 cellL l
def zCv (ls : List zAT) : Int := (ls.map fun l => (l.length : Int)).sum
theorem zHa (ls : List zAT) (k : Nat) (h : k < ls.length) : zCv (ls.take (k + 1)) = zCv (ls.take k) + ((ls.getD k []).length : Int) := by
 unfold zCv
 rw [zAj ls [] k h, List.map_append, List.sum_append]
 simp
theorem zCI (ls : List zAT) : zCv ls = (ls.flatten.length : Int) := by
 induction ls with
 | nil => rfl
 | cons l r ih => unfold zCv at ih ⊢; simp [ih]
theorem zFn (ls : List zAT) (k : Nat) : 0 ≤ zCv (ls.take k) ∧ zCv (ls.take k) ≤ zCv ls := by
 have h : ls.flatten = (ls.take k).flatten ++ (ls.drop k).flatten := by rw [← List.flatten_append, List.take_append_drop]
 rw [zCI, zCI, h, List.length_append]; omega
theorem zKl (ls : List zAT) (k : Nat) (h : k < ls.length) : (ls.take (k + 1)).flatten = (ls.take k).flatten ++ ls.getD k [] := by
 rw [zAj ls [] k h, List.flatten_append]; simp
theorem concatC (ls : List zAT) (hlen : ls.length ≤ 1000000) (hs : zCv ls ≤ 4398046511104) :
   zIx Tryz.prog 68 [.ro (zIE ls) 0 ls.length] (fun N => .sl N 0 ls.flatten.length) ⟨67, z6 ls.flatten⟩ := by
 refine zO.fresh (K := fun r H => r = .sl 0 0 ls.flatten.length ∧ H = [some ⟨67, z6 ls.flatten⟩]) (zF (P := Tryz.prog) (fn := Tryz.f68) rfl rfl (by kernel_rfl) rfl (fun c hR hfix => ?_)) (fix := fun _ => False) (fun _ h => h) rfl (fun H => ⟨rfl, by simp [zHH, inB]⟩) ?_
 · refine rn3 ?_
   refine zg (ι := Nat) (fun k => [(0, .ro (zIE ls) 0 ls.length), (3, .int .i64 (zCv (ls.take k))), (9, .ro (zIE ls) 0 ls.length), (10, .int .i64 (ls.length : Nat)), (11, .int .i64 (k : Nat))]) (fun _ => [])
     (fun k => k ≤ ls.length) (fun k => ls.length - k) 0 ⟨⟨rfl, rfl, rfl, rfl, rfl, trivial⟩, rfl, Nat.zero_le _⟩ ?_
   intro k hk
   refine rn4 ?_
   refine zD rfl (fun h1 => ?_) (fun h1 => ?_)
   · have hk' : k < ls.length := by omega
     have hsum := zHa ls k hk'
     have hb := zFn ls (k + 1)
     have hb0 := zFn ls k
     refine rn6 ?_
     refine zD rfl (fun h2 => absurd h2 (by omega)) (fun h2 => ?_)
     refine rn5 ?_
     exact zM ⟨k + 1, by omega, by omega, ⟨rfl, by rw [hsum]; rfl, rfl, rfl, rfl, trivial⟩, rfl⟩
   · have hk' : k = ls.length := by omega
     subst hk'
     simp only [List.take_length] at *
     have hfl := zCI ls
     refine rn5 ?_
     refine zCJ rfl rfl rfl (growC (zCv ls) (by omega) hs) ?_
     refine rn3 ?_
     refine zg (ι := Nat) (fun k => [(6, .sl 0 0 (ls.take k).flatten.length), (25, .ro (zIE ls) 0 ls.length), (26, .int .i64 (ls.length : Nat)), (27, .int .i64 (k : Nat))]) (fun k => [some ⟨67, z6 (ls.take k).flatten⟩])
       (fun k => k ≤ ls.length) (fun k => ls.length - k) 0 ⟨⟨rfl, rfl, rfl, rfl, trivial⟩, rfl, Nat.zero_le _⟩ ?_
     intro k hk
     refine rn4 ?_
     refine zD rfl (fun h1 => ?_) (fun h1 => ?_)
     · have hk' : k < ls.length := by omega
       have hfs := zKl ls k hk'
       have hb := zFn ls (k + 1)
       have hsl := zHa ls k hk'
       have hb0 := zFn ls k
       have hfl0 := zCI (ls.take k)
       refine rn6 ?_
       refine zm rfl rfl rfl rfl rfl rfl rfl rfl rfl rfl rfl rfl (by show 0 + (ls.getD k []).length ≤ (ls.getD k []).length; omega) rfl (by show ((ls.take k).flatten.length + (ls.getD k []).length) * 32 ≤ _ ∧ _; omega) ?_ (by rw [hfix]; exact fun h => h) ?_
       · intro i' j' hi' hj'
         have q := (zH0 ch0 2 cellsC (ls.take k).flatten (ls.getD k [])).2.2 i' j' hi' hj'
         exact (congrArg (AV.forget 0) q.symm).trans ((zDF _ j' 0 hj').trans q)
       refine zAz [some ⟨67, z6 (ls.take (k + 1)).flatten⟩] ?_ ?_
       · rw [hfs]
         exact zAG.eqv (zH0 ch0 2 cellsC (ls.take k).flatten (ls.getD k [])) zAG.nil
       refine rn5 ?_
       refine zM ⟨k + 1, by omega, by omega, ⟨?_, rfl, rfl, rfl, trivial⟩, rfl⟩
       show some (AV.sl 0 0 ((ls.take k).flatten.length + (ls.getD k []).length)) = _
       rw [hfs, List.length_append]
     · have hk' : k = ls.length := by omega
       subst hk'
       simp only [List.take_length] at *
       refine rn5 ?_
       exact zH hR rfl ⟨rfl, rfl⟩
 · rintro r H ⟨rfl, rfl⟩
   refine ⟨?_, fun h o ho => zGE (zDG _) h o ho, 0, rfl, fun n => rfl⟩
   intro o ho; simp at ho; subst ho; show 0 + ls.flatten.length ≤ ls.flatten.length; omega
theorem zN6 (l : zAT) (g : FuncId) (caps : List AV) (p : TChoice → Bool) (hc : noRef.noRefs caps = true) (hlen : l.length ≤ 9223372036854775807) (hp : ∀ x ∈ l, zW Tryz.prog g ([.agg (cellsC x)] ++ caps) (.bool (p x))) :
   zW Tryz.prog 109 [.ro (z6 l) 0 l.length, .fn g caps] (.int .i64 (zCr p l)) := by
 refine zO.value0 (zF (P := Tryz.prog) (fn := Tryz.f109) rfl rfl (by kernel_rfl) rfl (fun c hR hfix => ?_)) (fix := fun _ => False) (fun _ h => h) (by simp [noRef.noRefs, noRef, hc]) rfl
 refine rn3 ?_
 refine zg (ι := Nat) (fun k => [(0, .ro (z6 l) 0 l.length), (1, .fn g caps), (7, .int .i64 (l.length : Nat)), (8, .int .i64 (k : Nat))]) (fun _ => [])
   (fun k => k ≤ l.length ∧ (l.take k).any p = false) (fun k => l.length - k) 0 ⟨⟨rfl, rfl, rfl, rfl, trivial⟩, rfl, Nat.zero_le _, rfl⟩ ?_
 intro k ⟨hk, hany⟩
 refine rn4 ?_
 refine zD rfl (fun h => ?_) (fun h => ?_)
 · have hk' : k < l.length := by omega
   have hanys := zBt p l ch0 k hk'
   refine rn6 ?_
   refine zN 15 (.agg (cellsC (l.getD k ch0))) rfl (AEq.of_eq rfl) ?_
   refine zE rfl rfl rfl (hp _ (zBH ch0 hk')) ?_
   refine rn0 ?_
   refine zDM rfl (fun h2 => ?_) (fun h2 => ?_)
   · refine rn6 ?_
     refine zH hR rfl ?_
     have := zBP p l k hany hk
     rw [zBi l ch0 k hk'] at this
     simp only [zCr, h2, if_true] at this
     rw [this]; simp [zBF]
   · refine rn5 ?_
     refine zM ⟨k + 1, ⟨by omega, by rw [hanys, hany, h2]; rfl⟩, by omega, ⟨rfl, rfl, rfl, rfl, trivial⟩, rfl⟩
 · have hk' : k = l.length := by omega
   subst hk'
   refine rn5 ?_
   refine zH hR rfl ?_
   have := zBP p l l.length hany hk
   rw [List.drop_length] at this
   rw [this]; rfl
theorem zLg (l : zAT) (g : FuncId) (caps : List AV) (p : TChoice → Bool) (hc : noRef.noRefs caps = true) (hlen : l.length ≤ 9223372036854775807) (hp : ∀ x ∈ l, zW Tryz.prog g ([.agg (cellsC x)] ++ caps) (.bool (p x))) :
   zW Tryz.prog 39 [.ro (z6 l) 0 l.length, .fn g caps] (.bool (l.any p)) := by
 refine zO.value0 (zF (P := Tryz.prog) (fn := Tryz.f39) rfl rfl (by kernel_rfl) rfl (fun c hR hfix => ?_)) (fix := fun _ => False) (fun _ h => h) (by simp [noRef.noRefs, noRef, hc]) rfl
 refine rn0 ?_
 refine zE rfl rfl rfl (zN6 l g caps p hc hlen hp) ?_
 repeat (first | refine zC (zK rfl) ?_ | refine zB ?_ | refine zA ?_ | refine zAQ ?_ | refine zC (zCX rfl rfl) ?_)
 refine zH hR rfl ?_
 simp only [zBF, zEr]
def zM9 (c : TChoice) : Bool := c.odds.any (fun s => decide (12 < (s.length : Int)))
theorem plain11 (s : zAK) (hs : s.length ≤ 9223372036854775807) : zW Tryz.prog 70 [.str s] (.bool (decide (12 < (s.length : Int)))) := by
 refine zO.value0 (zF (P := Tryz.prog) (fn := Tryz.f70) rfl rfl (by kernel_rfl) rfl (fun c hR hfix => ?_)) (fix := fun _ => False) (fun _ h => h) rfl rfl
 refine rn6 ?_
 exact zH hR rfl rfl
theorem plain1 (c : TChoice) (hc : ShortC c) : zW Tryz.prog 69 [.agg (cellsC c)] (.bool (zM9 c)) := by
 obtain ⟨h1, h2⟩ := hc
 have cc := zIZ c.odds 70 [] (fun s => decide (12 < (s.length : Int))) rfl h1 (fun s hs => plain11 s (h2 s hs))
 refine zO.value0 (zF (P := Tryz.prog) (fn := Tryz.f69) rfl rfl (by kernel_rfl) rfl (fun c hR hfix => ?_)) (fix := fun _ => False) (fun _ h => h) rfl rfl
 obtain ⟨nf, od⟩ := c
 unfold zM9 at hR
 unfold cellsC
 simp only at *
 refine rn6 ?_
 refine zE rfl rfl rfl cc ?_
 refine rn0 ?_
 exact zH hR rfl rfl
def zKa (ls : List zAT) : Bool := !(ls.flatten.any zM9)
theorem plain_ok (ls : List zAT) (hlen : ls.length ≤ 1000000) (hs : zCv ls ≤ 4398046511104) (hc : ∀ s ∈ ls, ∀ c ∈ s, ShortC c) : zW Tryz.prog 17 [.ro (zIE ls) 0 ls.length] (.bool (zKa ls)) := by
 have hfl := zCI ls
 have cc := zLg ls.flatten 69 [] zM9 rfl (by omega) (fun c hm => by
   obtain ⟨s, h1, h2⟩ := List.mem_flatten.1 hm
   exact plain1 c (hc s h1 c h2))
 refine zO.value0 (zF (P := Tryz.prog) (fn := Tryz.f17) rfl rfl (by kernel_rfl) rfl (fun c hR hfix => ?_)) (fix := fun _ => False) (fun _ h => h) rfl rfl
 unfold zKa at hR
 refine rn0 ?_
 refine zCJ rfl rfl rfl (concatC ls hlen hs) ?_
 skip
 refine zGU rfl rfl rfl rfl cc (zGE (o1 := ⟨67, z6 ls.flatten⟩) (zDG _)) ⟨fun o ho => by simp at ho; subst ho; show 0 + ls.flatten.length ≤ ls.flatten.length; omega, trivial, trivial⟩ rfl rfl rfl ?_
 refine rn5 ?_
 exact zH hR rfl rfl
end Go.Proofs.YtnkealfaldjipaaGreatDoor
namespace Go.Ax
variable [Pins]
open Go.RowKit
theorem px_gv {P : Program} {fn : Func} {c : Ctx} {H : zV} {all : Array Oper} {K0 : Fr} {i : Nat} {r : List Nat} {st : Steps} {G : Steps → Prop} {d : Nat} {g : Operand} {args : List Operand} {ats : Array TypeId} {ty : TypeId} {pos : String} {after : Array Edge} {f : FuncId} {caps ags ags' : List AV} {v : AV} {K : Fr} {j t : Nat} {p : Bool}
   (hi : all[i]? = some ⟨some d, .call { callee := .value g, args := args.toArray, argTypes := ats }, ty, pos, after, some (j, p)⟩)
   (hK : zH9 st K0 ⟨some d, .call { callee := .value g, args := args.toArray, argTypes := ats }, ty, pos, after, some (j, p)⟩ = K) (hy : zFR all j = some t) (hb : zA0 t K = some (.bool p)) (hg : ev K g = some (.fn f caps)) (ha : evs K args = some ags) (has : ags ++ caps = ags') (hcall : zW P f ags' v)
   (h : zGw P fn c H all K0 r ((i, d, v) :: st) G) : zGw P fn c H all K0 (i :: r) st G :=
 ⟨_, _, _, hi, rfl, hK ▸ zK7 hy hb (pure_v hg ha has hcall), h⟩
end Go.Ax
