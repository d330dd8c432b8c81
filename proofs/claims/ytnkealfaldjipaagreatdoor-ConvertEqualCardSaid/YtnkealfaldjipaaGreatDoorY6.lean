import Derived.Test.YtnkealfaldjipaaGreatDoorRows
import Derived.Test.YtnkealfaldjipaaGreatDoorTie
import Derived.Test.YtnkealfaldjipaaGreatDoorCards
import Derived.LaidMore
import Derived.Lay
import Derived.SevenTiedAt
import Derived.Stop.Joined
import Derived.Stop.ErrReads
import Derived.MakeChecks
import Derived.Test.YtnkealfaldjipaaGreatDoorY5
set_option linter.unusedVariables false
set_option linter.unusedSimpArgs false
namespace Go.Proofs.YtnkealfaldjipaaGreatDoor
open Go.Ax Go.Ax.Bg Go.Ax.Rt Go.RowKit Go.Ax.Idx Go.Ax.Cd
attribute [local irreducible] Ax zBG QOp zV zA0
set_option maxRecDepth 100000
set_option maxHeartbeats 4000000
def pwC (os : List (List Rat)) (cs : List Int) (m : Nat) : Rat := wgtC (os.take m) (cs.take m) 1
theorem zNV {os : List (List Rat)} {cs : List Int} {m : Nat} (h1 : m < os.length) (h2 : m < cs.length) : pwC os cs (m + 1) = pwC os cs m * (os.getD m []).getD (cs.getD m 0).toNat 0 := by
 unfold pwC
 rw [List.take_succ_eq_append_getElem h1, List.take_succ_eq_append_getElem h2, ← z8 [] h1, ← z8 0 h2]
 exact zMn _ _ _ _ _ (by rw [List.length_take, List.length_take]; omega)
theorem pwC_all {os : List (List Rat)} {cs : List Int} (h : cs.length = os.length) : pwC os cs os.length = wgtC os cs 1 := by
 unfold pwC
 rw [List.take_length, ← h, List.take_length]
theorem pwC_D {os : List (List Rat)} {cs : List Int} (hd : ∀ o ∈ os, ∀ x ∈ o, D 2000 x) (hl : cs.length = os.length) (hc : ∀ m, m < os.length → (cs.getD m 0).toNat < (os.getD m []).length) : ∀ m, m ≤ os.length → D (1 + 2000 * m) (pwC os cs m)
 | 0, _ => by show D 1 (1 : Rat); exact ⟨by decide, by decide⟩
 | m + 1, hm => by
   rw [zNV (by omega) (by omega)]
   exact ((pwC_D hd hl hc m (by omega)).mul (hd _ (zAQ [] (by omega)) _ (zAQ 0 (hc m (by omega))))).mono (by omega)
theorem zJT {s : zAK} {l : List (List Int)} {k : Nat} (hk : k < l.length) : zEd s (l.take (k + 1)) = if zEw s (l.getD k []) = 0 then zEd s (l.take k) else zEd s (l.take k) ++ [l.getD k []] := by
 unfold zEd
 rw [List.take_succ_eq_append_getElem hk, List.filter_append, ← z8 [] hk]
 by_cases h : zEw s (l.getD k []) = 0
 · rw [if_pos h, List.filter_cons_of_neg (by rw [decide_eq_true_eq]; exact fun q => q h), List.filter_nil, List.append_nil]
 · rw [if_neg h, List.filter_cons_of_pos (by rw [decide_eq_true_eq]; exact h), List.filter_nil]
def zED (s : zAK) (l : List (List Int)) : zBr := (zEd s l).map (fun c => ⟨c, zAJ (zEw s c)⟩)
theorem zNs {s : zAK} {l : List (List Int)} {k : Nat} (hk : k < l.length) : zED s (l.take (k + 1)) = if zEw s (l.getD k []) = 0 then zED s (l.take k) else zED s (l.take k) ++ [⟨l.getD k [], zAJ (zEw s (l.getD k []))⟩] := by
 unfold zED
 rw [zJT hk]
 split
 · rfl
 · rw [List.map_append]; rfl
theorem zPB (s : zAK) (l : List (List Int)) : (zED s l).length ≤ l.length := by
 unfold zED zEd
 rw [List.length_map]
 exact List.length_filter_le _ _
theorem zO4 {s : zAK} {l : List (List Int)} {c : List Int} (hc : c ∈ l) (h0 : zEw s c ≠ 0) (hf : zBK (zEw s c) = false) : zFS s l = ([], 2) := by
 unfold zFS
 rw [if_neg (fun q => by
   rw [List.all_eq_true] at q
   have := q c (List.mem_filter.2 ⟨hc, by simpa using h0⟩)
   rw [hf] at this; cases this)]
theorem zNB {s : zAK} {l : List (List Int)} (h : (zEd s l).all (fun c => zBK (zEw s c)) = true) : zFS s l = (zED s l, 0) := by
 unfold zFS
 rw [if_pos h]; rfl
theorem rowM2 (a : CPlan) (j : Nat) (hj : j < 2) : (zEG 1 2 [.ro (.ints .i64 a.choices) 0 a.choices.length, .str a.odds]).at 0 j = (zB3 a).getD j .any := by
 match j, hj with
 | 0, _ => rfl
 | 1, _ => rfl
theorem zMv (l : zBr) (n : Nat) : zA2 n (mxC l) := by
 intro i j _ hj
 have hj : j < 2 := hj
 show zC2 n ((zB3 (l.getD i cp0)).getD j .any) = true
 match j, hj with
 | 0, _ => rfl
 | 1, _ => rfl
theorem zNa (m : List (List Rat)) (n : Nat) : zA2 n (zGL m) := by
 intro i j _ hj
 obtain rfl : j = 0 := by have hj : j < 1 := hj; omega
 rfl
theorem mixed_ok (t : zQ) (p : Int) (s : zAK) (hT : ShortT t) (hs : ShortS s) : zW Tryz.prog 35 [.ro (zc t) 0 t.length, .int .i64 p, .ro (zm s) 0 s.length] (.tup [.ro (mxC (zIV t p s).1) 0 (zIV t p s).1.length, .int .i64 (zIV t p s).2]) := by
 have c1 := zJr t p hT
 have c2 := zD8 t p s hT.len hs
 have hsl := hs.len
 refine zV.value0 (zG (P := Tryz.prog) (fn := Tryz.f35) Y Y (by kernel_rfl) Y (fun c hR hfix => ?_)) (fix := fun _ => False) (fun _ h => h) Y Y
 unfold zIV at hR
 by_cases h1 : zAv t p = 0
 case neg =>
   rw [zHl h1] at c1
   rw [if_pos h1] at hR
   generalize zAv t p = e at *
   refine rn0 ?_
   refine zB Y Y Y c1 ?_
   refine rn3 ?_
   rw [decide_eq_true (show ¬ e = 0 from h1)]
   repeat (first | refine zD (zH rfl) ?_ | refine zD (zL rfl) ?_ | refine zC ?_ | refine zA ?_ | refine zX ?_ | refine zK rfl ?_ | refine zAX rfl ?_)
   refine z7 6 (.ro (mxC []) 0 0) Y AEq.nil ?_
   refine rn2 ?_
   exact zI hR Y Y
 obtain ⟨hv, _⟩ := zB6 h1
 rw [zGy h1] at c1
 rw [if_neg (fun q => q h1)] at hR
 have c3 := all_ok (zBI t p) (by have := zKt t p; omega) (fun n hn => by have := zPP hv p n hn; omega)
 rw [← zEY] at c3
 have hzl : (zz t p).length = (zBI t p).length := by rw [zEY]; exact List.length_map _
 by_cases h2 : zAe t p s = 0
 case neg =>
   rw [if_pos h2] at hR
   generalize zAe t p s = e at *
   refine rn0 ?_
   refine zB Y Y Y c1 ?_
   refine rn4 ?_
   refine zB Y Y Y c2 ?_
   refine rn3 ?_
   rw [decide_eq_true (show ¬ e = 0 from h2)]
   repeat (first | refine zD (zH rfl) ?_ | refine zD (zL rfl) ?_ | refine zC ?_ | refine zA ?_ | refine zX ?_ | refine zK rfl ?_ | refine zAX rfl ?_)
   refine z7 6 (.ro (mxC []) 0 0) Y AEq.nil ?_
   refine rn2 ?_
   exact zI hR Y Y
 have hk := zCs h2
 rw [if_neg (fun q => q h2)] at hR
 rw [h2] at c2
 cases ha : zIS (zBI t p) [[]] with
 | none =>
   rw [ha] at c3 hR
   refine rn0 ?_
   refine zB Y Y Y c1 ?_
   refine rn4 ?_
   refine zB Y Y Y c2 ?_
   refine rn4 ?_
   refine zN 43 (.ro (.ints .i64 (zz t p)) 0 (zBI t p).length) Y (AEq.of_eq (by rw [hzl])) ?_
   refine zB Y Y Y c3 ?_
   repeat (first | refine zD (zH rfl) ?_ | refine zD (zL rfl) ?_ | refine zC ?_ | refine zA ?_ | refine zX ?_ | refine zK rfl ?_ | refine zAX rfl ?_ | refine zD (zDy rfl) ?_ | refine zD (zBN rfl rfl) ?_)
   refine z7 6 (.ro (mxC []) 0 0) Y AEq.nil ?_
   refine rn2 ?_
   exact zI hR Y Y
 | some L =>
   rw [ha] at c3 hR
   have hR : c.R = fun r' x => r' = .tup [.ro (mxC (zFS s L).1) 0 (zFS s L).1.length, .int .i64 (zFS s L).2] := hR
   obtain ⟨hLw, hL⟩ := allG_all ha
   have hLc : ∀ a ∈ L, a.length = (zDH s).length ∧ ∀ m, m < (zDH s).length → 0 ≤ a.getD m 0 ∧ (a.getD m 0).toNat < ((zDH s).getD m []).length := by
     intro a hal
     rw [hLw] at hal
     have hc' := allC_all hal
     have hol : (zDH s).length = (zBI t p).length := by rw [zIa hk, List.length_map, zGW]
     refine ⟨by rw [hc'.1, hol], fun m hm => ?_⟩
     have h8 := hc'.2 m (by omega)
     have hmi : m < (zJ t p).length := by rw [hol, zGW] at hm; exact hm
     rw [zQR hmi] at h8
     have hx : (zJ t p).getD m 0 ∈ zJ t p := zAQ 0 hmi
     rw [zIa hk, zBV _ _ 0 _ _ hmi, hk.mix.len _ hx]
     exact h8
   have hOd : ∀ o ∈ zDH s, ∀ x ∈ o, D 2000 x := fun o ho x hx => by
     obtain ⟨y, hy, rfl⟩ := List.mem_map.1 ho
     exact ((zBh (hk.odds y hy)).2.2.2 x hx).2
   have hO10 : (zDH s).length ≤ 10 := by
     rw [zIa hk, List.length_map]
     unfold zJ
     exact Nat.le_trans (List.length_filter_le _ _) (by simp)
   have hOl : (zDH s).length = s.length := List.length_map _
   have hko := hk.odds
   have hwg : ∀ a, zEw s a = wgtC (zDH s) a 1 := fun a => rfl
   clear hk hLw ha h1 h2
   refine rn0 ?_
   refine zB Y Y Y c1 ?_
   refine rn4 ?_
   refine zB Y Y Y c2 ?_
   refine rn4 ?_
   refine zN 43 (.ro (.ints .i64 (zz t p)) 0 (zBI t p).length) Y (AEq.of_eq (by rw [hzl])) ?_
   refine zB Y Y Y c3 ?_
   repeat (first | refine zD (zH rfl) ?_ | refine zD (zL rfl) ?_ | refine zC ?_ | refine zA ?_ | refine zX ?_ | refine zK rfl ?_ | refine z6 rfl ?_ | refine zl ?_ | refine zD (zDy rfl) ?_ | refine zD (zBN rfl rfl) ?_ | refine zD (zA9 rfl rfl rfl) ?_)
   refine zA4 14 ⟨135, zGL []⟩ Y Y ?_
   repeat (refine zx ?_)
   refine zi (ι := Nat) (fun i => [(12, .ro (zBE L) 0 L.length), (14, .sl 0 0 i), (49, .ro (zm s) 0 s.length), (50, .int .i64 (s.length : Nat)), (51, .int .i64 (i : Nat))]) (fun i => [some ⟨135, zGL (zDH (s.take i))⟩])
     (fun i => i ≤ s.length) (fun i => s.length - i) 0 ⟨⟨rfl, rfl, rfl, rfl, rfl, trivial⟩, rfl, Nat.zero_le _⟩ ?_
   intro i hi
   refine rn4 ?_
   refine zE Y (fun h => ?_) (fun h => ?_)
   · have hi' : i < s.length := by omega
     have hsn := hs.each _ (zAQ ch0 hi')
     obtain ⟨v1, v2, _, _⟩ := zBh (hko _ (zAQ ch0 hi'))
     have htk : zDH (s.take (i + 1)) = zDH (s.take i) ++ [(s.getD i ch0).odds.map zAM] := by
       unfold zDH
       rw [List.take_succ_eq_append_getElem hi', List.map_append, ← z8 ch0 hi']; rfl
     have hml : (zDH (s.take i)).length = i := by unfold zDH; rw [List.length_map, List.length_take]; omega
     generalize zDH (s.take i) = OS at *
     generalize hOS2 : zDH (s.take (i + 1)) = OS2 at *
     refine rn6 ?_
     refine zN 54 (.agg (cellsC (s.getD i ch0))) Y (AEq.of_eq Y) ?_
     generalize s.getD i ch0 = x at *
     obtain ⟨nf, od⟩ := x
     obtain ⟨hod1, hod2⟩ := hsn
     simp only at *
     have cin := zOv od (by omega) (fun r hr => ⟨hod2 r hr, v2 r hr⟩)
     generalize od.map zAM = qs at *
     refine zO (c' := .box [.int .i64 nf, .ro (.strs od) 0 od.length]) Y Y Y Y Y Nat.zero_lt_one Y Y (fun i' j' hi' hj' => ?_) ?_
     · rw [if_pos (Nat.lt_one_iff.1 hi')]; rfl
     refine rn5 ?_
     refine zB Y Y Y cin ?_
     repeat (refine zj rfl rfl rfl rfl rfl rfl rfl rfl rfl rfl rfl ?_)
     refine zp Y Y Y Y Y Y Y Y Y hml Y Y (by show 0 + 1 ≤ 1; omega) Y (by show (i + 1) * 24 ≤ _ ∧ _; omega) ?_ (by rw [hfix]; exact fun h => h) ?_
     · intro i' j hi hj
       exact zDA [] 1 zL4 zNX OS qs _ (rowR1 _) 0 i' j hi hj
     repeat (first | refine zD (zL rfl) ?_ | refine zC ?_ | refine zf ?_)
     refine zA ?_
     refine zBu [some ⟨135, zGL OS2⟩, some ⟨67, .box [.int .i64 nf, .ro (.strs od) 0 od.length]⟩] ?_ ?_
     · rw [htk]
       exact zAB.eqv (zCx [] 1 zL4 OS qs _ (rowR1 _)) (zAB.eqv (CEq.refl _) zAB.nil)
     refine zAa [some ⟨135, zGL OS2⟩] [some ⟨67, .box [.int .i64 nf, .ro (.strs od) 0 od.length]⟩] [(12, .ro (zBE L) 0 L.length), (14, .sl 0 0 (i + 1)), (49, .ro (zm s) 0 s.length), (50, .int .i64 (s.length : Nat)), (51, .int .i64 (i : Nat))] Y ⟨Y, Y, Y, Y, Y, trivial⟩ (fun h hh => by rw [hfix] at hh; exact absurd hh id) (zBw (zNa _ _)) Y ?_
     refine rn3 ?_
     exact zM ⟨i + 1, by omega, by omega, ⟨Y, Y, Y, Y, Y, trivial⟩, by rw [hOS2]⟩
   · have hie : i = s.length := by omega
     subst hie
     rw [List.take_length]
     generalize hOS : zDH s = OS at *
     repeat (first | refine zA ?_ | refine zX ?_ | refine zAm ?_ | refine zr ?_ | refine zq ?_ | refine zAD ?_)
     refine zAV 0 14 s.length [(12, .ro (zBE L) 0 L.length)] Y (zK8 _) Y (by show _ ≤ OS.length; omega) ⟨Y, trivial⟩ ?_
     refine z7 14 (.ro (zGL OS) 0 OS.length) Y (AEq.of_eq (by rw [hOl])) ?_
     refine zDq (H1 := []) Y (by rw [hfix]; exact fun h => h) ?_
     repeat (first | refine zD (zH rfl) ?_ | refine zD (zL rfl) ?_ | refine zC ?_ | refine zA ?_ | refine zX ?_ | refine zK rfl ?_ | refine zD (zA9 rfl rfl rfl) ?_)
     refine zA4 17 ⟨75, mxC []⟩ Y Y ?_
     repeat (refine zx ?_)
     refine zi (ι := Nat) (fun k => [(14, .ro (zGL OS) 0 OS.length), (17, .sl 0 0 (zED s (L.take k)).length), (62, .ro (zBE L) 0 L.length), (63, .int .i64 (L.length : Nat)), (64, .int .i64 (k : Nat))]) (fun k => [some ⟨75, mxC (zED s (L.take k))⟩])
       (fun k => k ≤ L.length ∧ (zEd s (L.take k)).all (fun c => zBK (zEw s c)) = true) (fun k => L.length - k) 0 ⟨⟨rfl, rfl, rfl, rfl, rfl, trivial⟩, rfl, Nat.zero_le _, rfl⟩ ?_
     rintro k ⟨hk, hfit⟩
     refine rn4 ?_
     refine zE Y (fun h => ?_) (fun h => ?_)
     · have hk' : k < L.length := by omega
       have hsm := zNs (s := s) hk'
       have hsl' := zJT (s := s) hk'
       have hpl := zPB s (L.take k)
       rw [List.length_take] at hpl
       have hmem : L.getD k [] ∈ L := zAQ [] hk'
       obtain ⟨ha1, ha2⟩ := hLc _ hmem
       have hbad := zO4 (s := s) hmem
       have hDm := pwC_D hOd ha1 (fun m hm => (ha2 m hm).2)
       have hsu := fun m (h : m < OS.length) => zNV (os := OS) (cs := L.getD k []) (m := m) h (by omega)
       have hal := pwC_all ha1
       rw [← hwg] at hal
       have hOm : ∀ m, m < OS.length → OS.getD m [] ∈ OS := fun m hm => zAQ [] hm
       have h00 : pwC OS (L.getD k []) 0 = 1 := rfl
       generalize hM2 : zED s (L.take (k + 1)) = M2 at *
       generalize zED s (L.take k) = M at *
       refine rn6 ?_
       generalize L.getD k [] = cs at *
       generalize hwq : zEw s cs = W at *
       refine zB Y Y Y zKv ?_
       unfold qA
       repeat (refine zBD rfl rfl rfl ?_)
       refine zO (c' := .box (zu 1)) Y Y Y Y Y Nat.zero_lt_one Y Y (fun i' j' hi' hj' => ?_) ?_
       · rw [if_pos (Nat.lt_one_iff.1 hi')]; rfl
       refine rn3 ?_
       rw [← h00]
       refine zi (ι := Nat) (fun m => [(14, .ro (zGL OS) 0 OS.length), (17, .sl 0 0 M.length), (19, .ro (.ints .i64 cs) 0 cs.length), (20, .ptr 1 0 0), (62, .ro (zBE L) 0 L.length), (63, .int .i64 (L.length : Nat)), (64, .int .i64 (k : Nat)), (69, .ro (.ints .i64 cs) 0 cs.length), (70, .int .i64 (cs.length : Nat)), (71, .int .i64 (m : Nat))]) (fun m => [some ⟨75, mxC M⟩, some ⟨122, .box (zu (pwC OS cs m))⟩])
         (fun m => m ≤ cs.length) (fun m => cs.length - m) 0 ⟨⟨rfl, rfl, rfl, rfl, rfl, rfl, rfl, rfl, rfl, rfl, trivial⟩, rfl, Nat.zero_le _⟩ ?_
       intro m hm
       refine rn4 ?_
       refine zE Y (fun h5 => ?_) (fun h5 => ?_)
       · have hm' : m < OS.length := by omega
         have hmc : m < cs.length := by omega
         obtain ⟨hx0, hx1⟩ := ha2 m hm'
         have hsuc := hsu m hm'
         have hrow := hOd _ (hOm m hm')
         have hD1 := hDm m (by omega)
         generalize hq2 : pwC OS cs (m + 1) = q2 at *
         generalize pwC OS cs m = q1 at *
         obtain ⟨x, hx⟩ := Int.eq_ofNat_of_zero_le hx0
         rw [hx, Int.toNat_natCast] at hx1 hsuc
         have hD2 := hrow _ (zAQ 0 hx1)
         have cm := zFx q1 ((OS.getD m []).getD x 0) (zCE (hD1.mono (show 1 + 2000 * m ≤ 9 * 100000 by omega))) (zCE (hD2.mono (show 2000 ≤ 9 * 100000 by decide)))
         rw [← hsuc] at cm
         repeat (first | refine zA ?_ | refine zX ?_ | refine zx ?_ | refine zl ?_)
         refine zK Y ?_
         repeat (first | refine zD (zH rfl) ?_ | refine zD (zL rfl) ?_ | refine zD (zAi rfl rfl rfl) ?_ | refine zC ?_ | refine zA ?_ | refine zD (ze rfl rfl rfl rfl (by first | (simp only [Nat.zero_add, Int.toNat_natCast, Int.toNat_zero]; exact rfl) | exact rfl) (by omega)) ?_)
         refine z7 22 (.int .i64 (x : Nat)) Y (AEq.of_eq (by rw [hx])) ?_
         skip
         refine zk (by kernel_rfl) ?_
         refine zt (fuel := 1) [0, 1, 2, 3, 4, 5, 6, 7, 8] [(14, .ro (zGL OS) 0 OS.length), (17, .sl 0 0 M.length), (19, .ro (.ints .i64 cs) 0 cs.length), (20, .ptr 1 0 0), (62, .ro (zBE L) 0 L.length), (63, .int .i64 (L.length : Nat)), (64, .int .i64 (k : Nat)), (69, .ro (.ints .i64 cs) 0 cs.length), (70, .int .i64 (cs.length : Nat)), (71, .int .i64 (m : Nat)), (21, .int .i64 (m : Nat)), (22, .int .i64 (x : Nat))] ⟨Y, Y, Y, Y, Y, Y, Y, Y, Y, Y, Y, Y, trivial⟩ (by kernel_rfl) (by decide) Y Y ?_
         refine zU Y Y (zn Y Y Y Y Y Y Y (by first | exact Nat.zero_lt_one | assumption | omega)) ?_
         refine zU Y Y (zH Y) ?_
         refine zU Y Y (zH Y) ?_
         refine zU Y Y (ze Y Y Y Y (by first | (simp only [Nat.zero_add, Int.toNat_natCast, Int.toNat_zero]; exact Y) | exact Y) (by omega)) ?_
         refine zU Y Y (zBj Y Y Y Y) ?_
         refine zU Y Y (zH Y) ?_
         refine zU Y Y (ze Y Y Y Y (by first | (simp only [Nat.zero_add, Int.toNat_natCast, Int.toNat_zero]; exact Y) | exact Y) (by omega)) ?_
         refine zU Y Y (zBS Y Y Y Y Y Y) ?_
         refine zBR Y Y Y Y Y cm ?_
         refine zAZ ?_
         refine zF (is := [9]) (by kernel_rfl) (by simp) Y ⟨fun o ho => ?_, trivial⟩
         all_goals (cases ho)
         unfold qA
         refine zO (c' := .box (zu q2)) Y Y Y Y Y Nat.zero_lt_one Y Y (fun i' j' hi' hj' => ?_) ?_
         · rw [if_pos (Nat.lt_one_iff.1 hi')]; rfl
         refine rn1 ?_
         refine zh (by kernel_rfl) ?_
         refine rn5 ?_
         exact zM ⟨m + 1, by omega, by omega, ⟨Y, Y, Y, Y, Y, Y, Y, Y, Y, Y, trivial⟩, by rw [hq2]; rfl⟩
       · have hme : m = OS.length := by omega
         subst hme
         have hDW := hDm OS.length (Nat.le_refl _)
         rw [hal] at hDW
         rw [hal]
         have cS := zNy W
         have cO := zJ2 W (zCE (hDW.mono (show 1 + 2000 * OS.length ≤ 9 * 100000 by omega)))
         unfold zEZ at cO
         refine rn6 ?_
         refine zB Y Y Y cS ?_
         refine rn4 ?_
         refine zE Y (fun h9 => ?_) (fun h9 => ?_)
         · have hW0 : W = 0 := zNn.1 h9
           rw [if_pos hW0] at hsm hsl'
           repeat (first | refine zAm ?_ | refine zr ?_ | refine zq ?_)
           refine zA ?_
           refine zAa [some ⟨75, mxC M⟩] [some ⟨122, .box (zu W)⟩] [(14, .ro (zGL OS) 0 OS.length), (17, .sl 0 0 M.length), (62, .ro (zBE L) 0 L.length), (63, .int .i64 (L.length : Nat)), (64, .int .i64 (k : Nat))] Y ⟨Y, Y, Y, Y, Y, trivial⟩ (fun h hh => by rw [hfix] at hh; exact absurd hh id) (zBw (zMv _ _)) Y ?_
           refine rn3 ?_
           exact zM ⟨k + 1, ⟨by omega, by rw [hsl']; exact hfit⟩, by omega, ⟨Y, by rw [hM2, hsm]; rfl, Y, Y, Y, trivial⟩, by rw [hM2, hsm]⟩
         · have hW0 : W ≠ 0 := fun e => h9 (zNn.2 e)
           rw [if_neg hW0] at hsm hsl'
           cases hf : zBK W with
           | false =>
             rw [hf, if_neg (by decide)] at cO
             rw [hbad hW0 hf] at hR
             refine rn6 ?_
             refine zB Y Y Y cO ?_
             repeat (first | refine zD (zH rfl) ?_ | refine zD (zL rfl) ?_ | refine zC ?_ | refine zA ?_ | refine zX ?_ | refine zK rfl ?_ | refine zAX rfl ?_ | refine zD (zD6 rfl rfl) ?_ | refine zD (zBN rfl rfl) ?_)
             refine z7 6 (.ro (mxC []) 0 0) Y AEq.nil ?_
             refine rn6 ?_
             exact zI hR Y Y
           | true =>
             rw [hf, if_pos rfl] at cO
             generalize hTx : zAJ W = Tx at *
             refine rn6 ?_
             refine zB Y Y Y cO ?_
             repeat (first | refine zD (zH rfl) ?_ | refine zD (zL rfl) ?_ | refine zC ?_ | refine zA ?_ | refine zX ?_ | refine zK rfl ?_ | refine z6 rfl ?_ | refine zl ?_ | refine zD (zD6 rfl rfl) ?_ | refine zD (zBN rfl rfl) ?_ | refine zD (zAU rfl rfl rfl rfl rfl rfl) ?_ | refine zj rfl rfl rfl rfl rfl rfl rfl rfl rfl rfl rfl ?_)
             refine zp Y Y Y Y Y Y Y Y Y Y Y Y (by show 0 + 1 ≤ 1; omega) Y (by show (M.length + 1) * 40 ≤ _ ∧ _; omega) ?_ (by rw [hfix]; exact fun h => h) ?_
             · intro i' j hi hj
               exact zDA cp0 2 zB3 zLF M ⟨cs, Tx⟩ _ (rowM2 ⟨cs, Tx⟩) 0 i' j hi hj
             repeat (first | refine zD (zL rfl) ?_ | refine zC ?_ | refine zf ?_)
             refine zA ?_
             refine zBu [some ⟨75, mxC M2⟩, some ⟨122, .box (zu W)⟩] ?_ ?_
             · rw [hsm]
               exact zAB.eqv (zCx cp0 2 zB3 M ⟨cs, Tx⟩ _ (rowM2 ⟨cs, Tx⟩)) (zAB.eqv (CEq.refl _) zAB.nil)
             refine zAa [some ⟨75, mxC M2⟩] [some ⟨122, .box (zu W)⟩] [(14, .ro (zGL OS) 0 OS.length), (17, .sl 0 0 (M.length + 1)), (62, .ro (zBE L) 0 L.length), (63, .int .i64 (L.length : Nat)), (64, .int .i64 (k : Nat))] Y ⟨Y, Y, Y, Y, Y, trivial⟩ (fun h hh => by rw [hfix] at hh; exact absurd hh id) (zBw (zMv _ _)) Y ?_
             refine rn3 ?_
             exact zM ⟨k + 1, ⟨by omega, by rw [hsl', List.all_append, hfit]; show (true && (zBK (zEw s cs) && true)) = true; rw [hwq, hf]; rfl⟩, by omega, ⟨Y, by rw [hM2, hsm, List.length_append]; rfl, Y, Y, Y, trivial⟩, by rw [hM2]⟩
     · have hke : k = L.length := by omega
       subst hke
       rw [List.take_length] at hfit
       rw [List.take_length]
       rw [zNB hfit] at hR
       generalize zED s L = M at *
       repeat (first | refine zA ?_ | refine zX ?_ | refine zAm ?_ | refine zr ?_ | refine zq ?_ | refine zAD ?_)
       refine zAV 0 17 (List.length M) [] Y (zOh _) Y (Nat.le_refl _) trivial ?_
       refine rn0 ?_
       exact zI hR Y Y
end Go.Proofs.YtnkealfaldjipaaGreatDoor
namespace Go.Ax
variable [Pins]
open Go.RowKit
/-- What a memory and a value become, once the objects of HF are only read. -/
structure Fzd (HF H0 H' : zZ) (r0 r' : AV) : Prop where
 sub : subH HF H0
 rl : ∀ (h : Nat) (o : AObj), HF[h]? = some (some o) → zAC o.c
 len : H'.length = H0.length
 new : ∀ (h : Nat) (o' : AObj), H'[h]? = some (some o') → (∀ o : AObj, HF[h]? ≠ some (some o)) ∧ ∃ o : AObj, H0[h]? = some (some o) ∧ o'.ty = o.ty ∧ o'.c.len = o.c.len ∧ o'.c.kd = o.c.kd ∧ ∀ i j, i < o.c.len → j < o.c.sz → FzTo HF (o.c.at i j) (o'.c.at i j)
 res : FzTo HF r0 r'
theorem zV.freeze0 {P : Program} {f : FuncId} {args : List AV} {K K' : AV → zZ → Prop} (hc : zV P f args [] (fun _ => False) K)
   (hK : ∀ r0 H0, K r0 H0 → ∃ HF H' r', Fzd HF H0 H' r0 r' ∧ K' r' H') : zV P f args [] (fun _ => False) K' := by
 refine ⟨hc.1, fun w σ0 S vals hp hrep hf hv => ?_⟩
 refine (hc.2 w σ0 S vals hp hrep hf hv).mono ?_
 rintro e w' ⟨v, r0, σ, S0, H0, rfl, g1, g2, g3, g4⟩
 obtain ⟨HF, H', r', ⟨hsub, hrl, hlen, hH, hres⟩, hk'⟩ := hK r0 H0 g4
 have hlive : zJu w' S0 σ HF := fun h o ho => g1.live h o (hsub h o ho)
 let S' : Nat → Prop := fun b => S0 b ∨ ∃ h o s C, HF[h]? = some (some o) ∧ σ h = some (.at b s C)
 have hup : ∀ {σ1 : Nat → Option Blk} {x v}, VR w' S0 σ1 x v → VR w' S' σ1 x v := fun h => h.mono (fun _ h => .inl h) (fun _ _ => rfl) _ (fun _ _ h => h)
 have hfz : ∀ {x y v}, FzTo HF x y → VR w' S0 σ x v → VR w' S' σ y v := by
   intro x y v h hv
   rcases h with rfl | rfl | ⟨rfl, hin⟩
   · exact hup hv
   · exact .any _ _
   · exact VR.freeze hlive hrl (fun _ h => .inl h) (fun h o b s C h1 h2 => .inr ⟨h, o, s, C, h1, h2⟩) hv σ hin
 refine ⟨v, r', σ, S', H', Y, ⟨fun h o' ho' => ?_, fun h1 h2 o1 o2 b s C s' C' q1 q2 e1 e2 => ?_, fun b hb => ?_, fun h hl => g1.dom h (by omega)⟩, hfz hres g2, ⟨g3.os, g3.output, g3.tape, g3.size, g3.block, fun b hb => .inl (g3.S1 b hb), fun b hb => ?_, fun _ h => h.elim, fun _ h => h.elim, fun h o b s C q e => ?_⟩, hk'⟩
 · obtain ⟨hno, o, h1, h2, h3, h4, h5⟩ := hH h o' ho'
   rw [h3, zN5 h4]
   rcases g1.live h o h1 with g | ⟨b, C, cur, q1, q2, q3, q4, q5, q6, q7⟩
   · exact .inl g
   · refine .inr ⟨b, C, cur, q1, (q2.mono Y hup).kd h2 h4, q3, q4, q5, ?_, fun i j hi hj => ?_⟩
     · rintro (hs | ⟨h', o2, s2, C2, u1, u2⟩)
       · exact q6 hs
       · have := g1.dist h h' o o2 b _ C s2 C2 h1 (hsub h' o2 u1) q1 u2
         subst this
         exact hno o2 u1
     · obtain ⟨v, e1, e2, e3⟩ := q7 i j hi hj
       exact ⟨v, e1, hfz (h5 i j hi hj) e2, e3⟩
 · obtain ⟨_, p, p1, _⟩ := hH h1 o1 q1
   obtain ⟨_, p', p1', _⟩ := hH h2 o2 q2
   exact g1.dist h1 h2 p p' b s C s' C' p1 p1' e1 e2
 · rcases hb with hs | ⟨h, o, s, C, q1, q2⟩
   · exact g1.small b hs
   · rcases g1.live h o (hsub h o q1) with ⟨gn, _⟩ | ⟨b', C', cur, hσ, g, _⟩
     · rw [q2] at gn; cases gn
     · rw [q2] at hσ
       simp only [Option.some.injEq, Blk.at.injEq] at hσ
       rw [hσ.1]
       exact g.lt
 · rcases hb with hs | ⟨h, o, s, C, q1, q2⟩
   · exact g3.S2 b hs
   · rcases g3.own h o b s C (hsub h o q1) q2 with g | g
     · exact .inr (.inl g)
     · exact .inr (.inr g)
 · obtain ⟨_, p, p1, _⟩ := hH h o q
   exact g3.own h p b s C p1 e
end Go.Ax
namespace Go.Ax.Rt
open Go.Ax.Bg
structure Fin2 (B M : Nat) (q : Rat) : Prop where
 dv : Dv B q
 le : q ≤ (M : Rat)
 ge : -q ≤ (M : Rat)
theorem zGG {M N : Nat} (h : M ≤ N) : (M : Rat) ≤ (N : Rat) := by
 have h1 : ((M : Int) : Rat) ≤ ((N : Int) : Rat) := Rat.intCast_le_intCast.2 (by omega)
 rwa [Rat.intCast_natCast, Rat.intCast_natCast] at h1
theorem Fin2.mono {B M N : Nat} {q : Rat} (h : Fin2 B M q) (hm : M ≤ N) : Fin2 B N q :=
 ⟨h.dv, Rat.le_trans h.le (zGG hm), Rat.le_trans h.ge (zGG hm)⟩
theorem Fin2.zero (B M : Nat) : Fin2 B M 0 := by
 have h : (0 : Rat) ≤ (M : Rat) := zGG (Nat.zero_le M)
 exact ⟨Dv.zero B, h, by rw [Rat.neg_zero]; exact h⟩
theorem Fin2.add {B M N : Nat} {a b : Rat} (ha : Fin2 B M a) (hb : Fin2 B N b) : Fin2 B (M + N) (a + b) := by
 refine ⟨ha.dv.add hb.dv, ?_, ?_⟩
 · rw [Rat.natCast_add]
   exact Rat.le_trans ((Rat.add_le_add_right (c := b)).2 ha.le) ((Rat.add_le_add_left (c := (M : Rat))).2 hb.le)
 · rw [Rat.natCast_add, Rat.neg_add]
   exact Rat.le_trans ((Rat.add_le_add_right (c := -b)).2 ha.ge) ((Rat.add_le_add_left (c := (M : Rat))).2 hb.ge)
theorem Dv.neg {B : Nat} {q : Rat} (h : Dv B q) : Dv B (-q) := by
 obtain ⟨z, hz⟩ := h
 exact ⟨-z, by rw [Rat.neg_mul, hz, Rat.intCast_neg]⟩
theorem Fin2.neg {B M : Nat} {q : Rat} (h : Fin2 B M q) : Fin2 B M (-q) := ⟨h.dv.neg, h.ge, by rw [Rat.neg_neg]; exact h.le⟩
theorem Fin2.D {B M K : Nat} {q : Rat} (h : Fin2 B M q) (hB : B ≠ 0) (hM : M * B < 10 ^ K) (hK : B < 10 ^ K) : D K q := bnd_D h.dv hB h.le h.ge hM hK
def sumB (t : zQ) (o : zAI) : Nat := Bd o t.length * payB t
theorem sumB_pos (t : zQ) (o : zAI) : 0 < sumB t o := Nat.mul_pos (zMH o _) (zKk t)
theorem endG_fin {t : zQ} (h : Valid t) {o : zAI} {d e : Nat} (ho : OddsW t o d) (hp : Pays t e) {p : Int} {i : Nat} (hi : i < t.length) (hk : (t.getD i node0).kind = 0) : Fin2 (sumB t o) (10 ^ e) (endG t p (zb t o) i) := by
 obtain ⟨g1, g2, g3⟩ := zP7 h ho i hi
 have h6 := zHd o (i := i) (t.length - i)
 rw [show i + (t.length - i) = t.length by omega] at h6
 obtain ⟨p1, p2⟩ := D_le (hp.dig i hi hk)
 have key : ∀ x : Rat, x ≤ ((10 ^ e : Nat) : Rat) → (zb t o).getD i 0 * x ≤ ((10 ^ e : Nat) : Rat) := by
   intro x hx
   have h0 : (0 : Rat) ≤ ((10 ^ e : Nat) : Rat) := zGG (Nat.zero_le _)
   have h1 := Rat.mul_le_mul_of_nonneg_left hx g2
   have h2 := Rat.mul_le_mul_of_nonneg_right g3 h0
   rw [Rat.one_mul] at h2
   exact Rat.le_trans h1 h2
 have hf : Fin2 (sumB t o) (10 ^ e) (zDe t (zb t o) i) := by
   refine ⟨(g1.mono h6).mul (Dv.of_den.mono (zNh hi hk)), key _ p1, ?_⟩
   unfold zDe
   rw [← Rat.mul_neg]
   exact key _ p2
 unfold endG
 split
 · exact hf.neg
 · exact hf
/-- the sums after k ends -/
def zD2 (t : zQ) (p : Int) (o : zAI) (k : Nat) : List Rat := zFl (endG t p (zb t o)) (zCI t p) ((zw t).take k) (List.replicate (zY t p).length 0)
theorem zKJ (t : zQ) (p : Int) (o : zAI) : zD2 t p o 0 = List.replicate (zY t p).length 0 := by
 unfold zD2; rw [List.take_zero]; rfl
theorem zL6 (t : zQ) (p : Int) (o : zAI) : zD2 t p o (zw t).length = zGM t p o := by
 unfold zD2 zGM; rw [List.take_length]
theorem zRD (t : zQ) (p : Int) (o : zAI) (k : Nat) : (zD2 t p o k).length = (zY t p).length := by
 unfold zD2; rw [zI1, List.length_replicate]
theorem zKi (t : zQ) (p : Int) (o : zAI) {k : Nat} (hk : k < (zw t).length) : zD2 t p o (k + 1) = (zD2 t p o k).set ((zCI t p).getD ((zw t).getD k 0) 0).toNat ((zD2 t p o k).getD ((zCI t p).getD ((zw t).getD k 0) 0).toNat 0 + endG t p (zb t o) ((zw t).getD k 0)) := by
 unfold zD2
 rw [List.take_succ_eq_append_getElem hk, zJ6, z8 0 hk]
theorem zPU {B M : Nat} {S : List Rat} (hS : ∀ j, Fin2 B M (S.getD j 0)) (x : Nat) {y : Rat} (hy : Fin2 B M y) : ∀ j, Fin2 B M ((S.set x y).getD j 0) := by
 intro j
 rw [Go.Ax.Dt.getD_set]
 split
 · exact hy
 · exact hS j
theorem zIq {t : zQ} (h : Valid t) {o : zAI} {d e : Nat} (ho : OddsW t o d) (hp : Pays t e) (p : Int) : ∀ k, k ≤ (zw t).length → ∀ j, Fin2 (sumB t o) (k * 10 ^ e) ((zD2 t p o k).getD j 0)
 | 0, _, j => by
   rw [zKJ]
   have : (List.replicate (zY t p).length (0 : Rat)).getD j 0 = 0 := by
     simp only [List.getD, List.getElem?_replicate]
     split <;> rfl
   rw [this]
   exact Fin2.zero _ _
 | k + 1, hk, j => by
   have ih := zIq h ho hp p k (by omega)
   have hk' : k < (zw t).length := by omega
   obtain ⟨i1, i2⟩ := zCc (zAQ (l := zw t) 0 hk')
   rw [zKi t p o hk']
   have e1 : (k + 1) * 10 ^ e = k * 10 ^ e + 10 ^ e := by rw [Nat.add_mul, Nat.one_mul]
   rw [e1]
   refine zPU (fun j => (ih j).mono (Nat.le_add_right _ _)) _ ?_ j
   exact (ih _).add (endG_fin h ho hp i1 i2)
/-- all sums of a best reply, after a number of steps -/
structure Sums (t : zQ) (o : zAI) (p : Int) (S : List Rat) (j : Nat) : Prop where
 len : S.length = (zY t p).length
 fin : ∀ k, Fin2 (sumB t o) (41 * 10 ^ 12 * 2 ^ j) (S.getD k 0)
theorem Sums.step {t : zQ} {o : zAI} {p : Int} {S : List Rat} {j : Nat} (h : Sums t o p S j) (a b : Nat) : Sums t o p (S.set a (S.getD a 0 + S.getD b 0)) (j + 1) := by
 refine ⟨by rw [List.length_set]; exact h.len, ?_⟩
 have e1 : 41 * 10 ^ 12 * 2 ^ (j + 1) = 41 * 10 ^ 12 * 2 ^ j + 41 * 10 ^ 12 * 2 ^ j := by rw [Nat.pow_succ, ← Nat.mul_assoc]; omega
 rw [e1]
 exact zPU (fun k => (h.fin k).mono (Nat.le_add_right _ _)) a ((h.fin a).add (h.fin b))
theorem lt_ten {a b x y n : Nat} (h1 : a ≤ 10 ^ x) (h2 : b ≤ 10 ^ y) (h : x + y < n) : a * b < 10 ^ n := by
 have h12 := Nat.mul_le_mul h1 h2
 rw [← Nat.pow_add] at h12
 exact Nat.lt_of_le_of_lt h12 (Nat.pow_lt_pow_right (by decide) h)
def bigE : Nat := 961
theorem zPQ {t : zQ} {o : zAI} (ho : OddsW t o 12) (hn : t.length ≤ 40) (hp : Pays t 12) (hv : Valid t) : sumB t o < 10 ^ bigE := by
 have h7 := Bd_w ho t.length (Nat.le_refl _)
 rw [List.take_length] at h7
 have h8 := zKl hv
 exact lt_ten h7 (zP3 hp) (by unfold bigE; omega)
def zFN : Nat := 1000
theorem Fin2.short {t : zQ} {o : zAI} {M : Nat} {q : Rat} (h : Fin2 (sumB t o) M q) (hB : sumB t o < 10 ^ bigE) (hM : M ≤ 10 ^ 39) : Rt.D zFN q := by
 have h0 := sumB_pos t o
 refine h.D (by omega) ?_ (Nat.lt_of_lt_of_le hB (Nat.pow_le_pow_right (by decide) (by decide)))
 refine Nat.lt_of_le_of_lt (Nat.mul_le_mul_right _ hM) ?_
 have := (Nat.mul_lt_mul_left (a := 10 ^ 39) (Nat.pow_pos (by decide))).2 hB
 rw [← Nat.pow_add] at this
 exact Nat.lt_of_lt_of_le this (Nat.pow_le_pow_right (by decide) (by decide))
theorem Sums.short {t : zQ} {o : zAI} {p : Int} {S : List Rat} {j : Nat} (h : Sums t o p S j) (hB : sumB t o < 10 ^ bigE) (hj : j ≤ 61) (k : Nat) : D zFN (S.getD k 0) := by
 refine (h.fin k).short hB ?_
 have h1 : 2 ^ j ≤ 2 ^ 61 := Nat.pow_le_pow_right (by decide) hj
 exact Nat.le_trans (Nat.mul_le_mul_left _ h1) (by decide)
theorem zNc {t : zQ} (h : Valid t) {o : zAI} (ho : OddsW t o 12) (hn : t.length ≤ 40) (hp : Pays t 12) (p : Int) {k : Nat} (hk : k ≤ (zw t).length) (j : Nat) : D zFN ((zD2 t p o k).getD j 0) := by
 have hB := zPQ ho hn hp h
 have he : (zw t).length ≤ t.length := by
   unfold zw
   refine Nat.le_trans (List.length_filter_le _ _) ?_
   rw [List.length_range]; exact Nat.le_refl _
 refine (zIq h ho hp p k hk j).short hB ?_
 have : k * 10 ^ 12 ≤ 40 * 10 ^ 12 := Nat.mul_le_mul_right _ (by omega)
 exact Nat.le_trans this (by decide)
theorem zO5 {t : zQ} (h : Valid t) {o : zAI} (ho : OddsW t o 12) (hn : t.length ≤ 40) (hp : Pays t 12) (p : Int) : Sums t o p (zGM t p o) 0 := by
 have he : (zw t).length ≤ t.length := by
   unfold zw
   refine Nat.le_trans (List.length_filter_le _ _) ?_
   rw [List.length_range]; exact Nat.le_refl _
 refine ⟨zLO t p o, fun k => ?_⟩
 rw [← zL6]
 refine (zIq h ho hp p _ (Nat.le_refl _) k).mono ?_
 rw [Nat.pow_zero, Nat.mul_one]
 exact Nat.mul_le_mul_right _ (by omega)
/-- Where the way back from the last sequence stands. -/
structure Back (t : zQ) (p : Int) (o : zAI) (e : Nat) (S : List Rat) (C : List (Int × Int)) (j : Nat) : Prop where
 bnd : Bnd t p e
 sums : Sums t o p S j
 few : j + e ≤ (zY t p).length
 cho : Chosen t p e C
 rest : ∃ f, e ≤ f + 1 ∧ zGK (zY t p) f (e, S, C) = zBW t p o
theorem Back.top {t : zQ} (h : Valid t) {o : zAI} (ho : OddsW t o 12) (hn : t.length ≤ 40) (hp : Pays t 12) (p : Int) : Back t p o (zY t p).length (zGM t p o) [] 0 :=
 ⟨Bnd.top h p, zO5 h ho hn hp p, by omega, Chosen.top h p, _, by omega, rfl⟩
theorem Back.step {t : zQ} (hv : Valid t) {p : Int} {o : zAI} {e : Nat} {S : List Rat} {C : List (Int × Int)} {j : Nat} (h : Back t p o e S C j) (he : 1 < e) {x : Int × Nat} {b : Nat} (hb : Blk t p e x b) :
   Back t p o x.2 (S.set b (S.getD b 0 + S.getD (zAt S x.2 (zR t p x.1)) 0)) (C ++ [(x.1, ((zAt S x.2 (zR t p x.1) - x.2 : Nat) : Int))]) (j + 1) := by
 obtain ⟨f, f1, f2⟩ := h.rest
 have h1 := hb.fin
 have h2 := hb.w1
 have h3 := h.few
 obtain ⟨q1, _, q3⟩ := zET S x.2 (zR t p x.1)
 have q3 := q3 h2
 obtain ⟨f', rfl⟩ : ∃ f', f = f' + 1 := ⟨f - 1, by omega⟩
 rw [zGK, if_pos (show 1 < (e, S, C).1 from he), hb.step] at f2
 exact ⟨hb.bnd, h.sums.step _ _, by omega, hb.chosen hv h.cho (by omega), f', by omega, f2⟩
theorem Back.stop {t : zQ} {p : Int} {o : zAI} {e : Nat} {S : List Rat} {C : List (Int × Int)} {j : Nat} (h : Back t p o e S C j) (he : ¬ 1 < e) : zBW t p o = (1, S, C) := by
 obtain ⟨f, f1, f2⟩ := h.rest
 have h1 := h.bnd.one
 obtain rfl : e = 1 := by omega
 rw [← f2]
 cases f with
 | zero => rfl
 | succ f => rw [zGK, if_neg (Nat.lt_irrefl 1)]
end Go.Ax.Rt
namespace Go.Proofs.YtnkealfaldjipaaGreatDoor
open Go.Ax Go.Ax.Bg Go.Ax.Rt Go.RowKit Go.Ax.Idx Go.Ax.Cd
attribute [local irreducible] Ax zBG QOp zV zA0
set_option maxRecDepth 100000
set_option maxHeartbeats 4000000
abbrev zDS (t : zQ) (p : Int) : AV := .rp (.box [.ro (zBa (zY t p)) 0 (zY t p).length, .ro (.ints .i64 (zCI t p)) 0 t.length]) 0 0
/-- recall.Of, whose result is only read -/
theorem of_ro (t : zQ) (p : Int) (hT : ShortT t) (hv : Valid t) : zW Tryz.prog 106 [.ro (zc t) 0 t.length, .int .i64 p] (zDS t p) := by
 have hpl : (zAN t p t.length).pos.length = t.length := zEu t p _
 refine zV.value (K := fun r H => r = .ptr 2 0 0 ∧ H = [none, none, some ⟨169, .box [.ro (zBa (zY t p)) 0 (zY t p).length, .ro (.ints .i64 (zCI t p)) 0 t.length]⟩, none]) (zV.freeze0 (of_ok t p hT hv) ?_) (fix := fun _ => False) (fun _ h => h) Y ?_
 · rintro r0 H0 ⟨rfl, rfl⟩
   refine ⟨[some ⟨174, zBa (zAN t p t.length).seqs⟩, some ⟨3, .ints .i64 (zAN t p t.length).pos⟩, none, none], _, _, ⟨?_, ?_, ?_, ?_, .inl Y⟩, Y, Y⟩
   · intro h o ho
     match h, ho with
     | 0, ho => exact ho
     | 1, ho => exact ho
     | 2, ho => simp at ho
     | 3, ho => simp at ho
     | _ + 4, ho => simp at ho
   · intro h o ho
     match h, ho with
     | 0, ho => cases ho; exact zH2 _
     | 1, ho => cases ho; exact zAW
     | 2, ho => simp at ho
     | 3, ho => simp at ho
     | _ + 4, ho => simp at ho
   · rfl
   · intro h o ho
     match h, ho with
     | 0, ho => simp at ho
     | 1, ho => simp at ho
     | 2, ho =>
       cases ho
       refine ⟨fun o h => by simp at h, _, Y, Y, Y, Y, fun i j hi hj => ?_⟩
       have hj : j < 2 := hj
       obtain rfl := Nat.lt_one_iff.1 (show i < 1 from hi)
       match j, hj with
       | 0, _ => exact .inr (.inr ⟨rfl, fun o ho => by cases ho; show 0 + (zAN t p t.length).seqs.length ≤ (zAN t p t.length).seqs.length; omega⟩)
       | 1, _ => exact .inr (.inr ⟨rfl, fun o ho => by cases ho; show 0 + t.length ≤ (zAN t p t.length).pos.length; omega⟩)
     | 3, ho => simp at ho
     | _ + 4, ho => simp at ho
 · rintro r H ⟨rfl, rfl⟩
   refine ⟨rfl, fun o ho => by cases ho; exact Nat.zero_lt_one, fun h o ho => ?_⟩
   match h, ho with
   | 0, ho => simp at ho
   | 1, ho => simp at ho
   | 2, ho =>
     cases ho
     intro i j _ hj
     have hj : j < 2 := hj
     match j, hj with
     | 0, _ => rfl
     | 1, _ => rfl
   | 3, ho => simp at ho
   | _ + 4, ho => simp at ho
theorem zM7 (n : TNode) (p : Int) (s : zAK) (c : TChoice) (hc : n.player ≠ p → c ∈ s ∧ c.info = n.info) : zW Tryz.prog 134 [.agg (zBs n), .rp (.box [.int .i64 p]) 0 0, .rp (.box [zCa s]) 0 0] (if n.player = p then .nil else .ro (qsC (c.odds.map zAM)) 0 (c.odds.map zAM).length) := by
 obtain ⟨kd, pl, nf, nx, od, py⟩ := n
 simp only at *
 by_cases hp : pl = p
 · rw [if_pos hp]
   refine zV.value0 (zG (P := Tryz.prog) (fn := Tryz.f134) Y Y (by kernel_rfl) Y (fun c hR hfix => ?_)) (fix := fun _ => False) (fun _ h => h) Y Y
   unfold zBs
   simp only
   repeat (first | refine zD (zL rfl) ?_ | refine zC ?_ | refine zA ?_ | refine zX ?_ | refine zK rfl ?_ | refine zD (zT rfl rfl rfl rfl rfl) ?_ | refine zD (zEf rfl rfl) ?_ | refine zD (zAh rfl rfl rfl rfl) ?_ | refine zD (zP rfl rfl rfl rfl rfl rfl) ?_ | refine zFP rfl rfl ?_)
   rw [decide_eq_true hp]
   refine rn5 ?_
   exact zI hR Y Y
 · rw [if_neg hp]
   obtain ⟨h1, h2⟩ := hc hp
   obtain ⟨jj, i1, i2⟩ := zLe h1
   rw [h2] at i1
   refine zV.value0 (zG (P := Tryz.prog) (fn := Tryz.f134) Y Y (by kernel_rfl) Y (fun c hR hfix => ?_)) (fix := fun _ => False) (fun _ h => h) Y Y
   unfold zBs
   simp only
   repeat (first | refine zD (zL rfl) ?_ | refine zC ?_ | refine zA ?_ | refine zX ?_ | refine zK rfl ?_ | refine zD (zT rfl rfl rfl rfl rfl) ?_ | refine zD (zEf rfl rfl) ?_ | refine zD (zAh rfl rfl rfl rfl) ?_ | refine zD (zP rfl rfl rfl rfl rfl rfl) ?_ | refine zFP rfl rfl ?_)
   rw [decide_eq_false hp]
   repeat (first | refine zA ?_ | refine zX ?_ | refine zK rfl ?_ | refine z6 rfl ?_ | refine zl ?_ | refine zD (zT rfl rfl rfl rfl rfl) ?_ | refine zD (zAh rfl rfl rfl rfl) ?_ | refine zD (zP rfl rfl rfl rfl rfl rfl) ?_)
   refine zD (zBk Y (.int Y) Y Y Y Y (keysC s) jj i1 i2) ?_
   refine rn0 ?_
   exact zI hR Y Y
def keyB (y : Int × Int) : AV := .int .i64 y.1
def valB (y : Int × Int) : AV := .int .i64 y.2
abbrev choC (C : List (Int × Int)) : Cells := .mp (C.map keyB) (C.map valB)
theorem keysB (C : List (Int × Int)) : ∀ x ∈ C.map keyB, zDP (.int .i64) x = true := by
 intro x hx
 obtain ⟨e, _, rfl⟩ := List.mem_map.1 hx
 rfl
theorem newB {C : List (Int × Int)} {x : Int} (h : x ∉ C.map Prod.fst) : AV.int .i64 x ∉ C.map keyB := by
 intro hm
 obtain ⟨y, hy, e⟩ := List.mem_map.1 hm
 injection e with e1 e2
 exact h (List.mem_map.2 ⟨y, hy, e2⟩)
def zA7 (t : zQ) (p : Int) (s : zAK) : zAI := zGj t p (zCG s)
theorem oneS_G {t : zQ} (hv : Valid t) (hm : Go.Ax.Rt.Modest t) {p : Int} (hp : p = 0 ∨ p = 1) {s : zAK} (hs : StrS t (1 - p) s) : OddsG t (zA7 t p s) :=
 zPu hv hm.len (one_w hv hm hp hs.str) (fun i hi hk => by unfold zA7 zGj; rw [if_pos hk]) (fun i hi hk => by unfold zA7 zGj; rw [if_neg (by omega), if_neg (by omega)])
theorem zQ6 (t : zQ) (p : Int) (s : zAK) (hT : ShortT t) (hv : Valid t) (hm : Go.Ax.Rt.Modest t) (hp : p = 0 ∨ p = 1) (hs : StrS t (1 - p) s) :
   zW Tryz.prog 133 [.ro (zc t) 0 t.length, .fn 134 [.rp (.box [.int .i64 p]) 0 0, .rp (.box [zCa s]) 0 0]] (.ro (qsC (zb t (zA7 t p s))) 0 t.length) := by
 refine zJz t (zA7 t p s) 134 [.rp (.box [.int .i64 p]) 0 0, .rp (.box [zCa s]) 0 0] Y Y hT hv (oneS_G hv hm hp hs) (fun i hi hk => ?_)
 have hpl := zCO hv hi hk
 by_cases h : (t.getD i node0).player = p
 · have := zM7 (t.getD i node0) p s ch0 (fun q => absurd h q)
   rw [if_pos h] at this
   have e : zA7 t p s i = none := by unfold zA7 zGj; rw [if_neg (by omega), if_pos hk, if_pos h]
   rw [e]; exact this
 · obtain ⟨c, c1, c2, c3⟩ := hs.node hv hi hk (by omega)
   have := zM7 (t.getD i node0) p s c (fun _ => ⟨c1, c2⟩)
   rw [if_neg h] at this
   have e : zA7 t p s i = some (c.odds.map zAM) := by unfold zA7 zGj; rw [if_neg (by omega), if_pos hk, if_neg h, c3]
   rw [e]; exact this
def zCW (n k : Nat) : List (Option Rat) := (List.range n).map (fun i => if i < k then some 0 else none)
theorem zOJ (n k : Nat) : (zCW n k).length = n := by simp [zCW]
theorem zNJ (n : Nat) : zCW n 0 = List.replicate n none := by
 apply List.ext_getElem (by simp [zCW])
 intro i h1 h2
 simp [zCW]
theorem zOg (n : Nat) : zCW n n = (List.replicate n (0 : Rat)).map some := by
 apply List.ext_getElem (by simp [zCW])
 intro i h1 h2
 have : i < n := by simpa [zCW] using h1
 simp [zCW, this]
theorem zO6 {n k : Nat} (hk : k < n) : (zCW n k).set k (some 0) = zCW n (k + 1) := by
 apply List.ext_getElem (by simp [zCW])
 intro i h1 h2
 rw [List.getElem_set]
 by_cases e : k = i
 · subst e; simp [zCW]
 · rw [if_neg e]
   have : (i < k) = (i < k + 1) := propext ⟨fun h => by omega, fun h => by omega⟩
   simp only [zCW, List.getElem_map, List.getElem_range, this]
theorem zMS (s : zAK) : zAC (.box [zCa s]) := by
 intro i j _ hj
 obtain rfl : j = 0 := by have hj : j < 1 := hj; omega
 rfl
theorem belowQ0 : ∀ (h : Nat) (o : AObj), ([none, some ⟨122, .box [.bool false, .nil, .nil]⟩] : zZ)[h]? = some (some o) → zA2 2 o.c := by
 intro h o ho
 match h, ho with
 | 0, ho => simp at ho
 | 1, ho =>
   cases ho
   intro i j _ hj
   have hj : j < 3 := hj
   match j, hj with
   | 0, _ => rfl
   | 1, _ => rfl
   | 2, _ => rfl
 | _ + 2, ho => simp at ho
theorem belowQ1 (S : List Rat) : ∀ (h : Nat) (o : AObj), ([none, some ⟨122, .box [.bool false, .nil, .nil]⟩, some ⟨122, qsC S⟩] : zZ)[h]? = some (some o) → zA2 3 o.c := by
 intro h o ho
 match h, ho with
 | 0, ho => simp at ho
 | 1, ho =>
   cases ho
   intro i j _ hj
   have hj : j < 3 := hj
   match j, hj with
   | 0, _ => rfl
   | 1, _ => rfl
   | 2, _ => rfl
 | 2, ho => cases ho; exact zM2 _ _
 | _ + 3, ho => simp at ho
theorem belowQ2 (S : List Rat) (C : List (Int × Int)) : ∀ (h : Nat) (o : AObj), ([none, some ⟨122, .box [.bool false, .nil, .nil]⟩, some ⟨122, qsC S⟩, some ⟨123, choC C⟩] : zZ)[h]? = some (some o) → zA2 4 o.c := by
 intro h o ho
 match h, ho with
 | 0, ho => simp at ho
 | 1, ho =>
   cases ho
   intro i j _ hj
   have hj : j < 3 := hj
   match j, hj with
   | 0, _ => rfl
   | 1, _ => rfl
   | 2, _ => rfl
 | 2, ho => cases ho; exact zM2 _ _
 | 3, ho => cases ho; exact ⟨zCX (fun _ => rfl) C, zCX (fun _ => rfl) C⟩
 | _ + 4, ho => simp at ho
theorem cmp_gt (a b : Rat) : (0 < cmpQ a b) = (b < a) := by
 apply propext
 unfold cmpQ
 constructor
 · intro h
   split at h
   · omega
   · split at h
     · omega
     · rename_i h1 h2
       rcases Rat.le_iff_lt_or_eq.1 (Rat.not_lt.1 h1) with q | q
       · exact q
       · exact absurd q.symm h2
 · intro h
   rw [if_neg (Rat.not_lt.2 (Rat.le_of_lt h)), if_neg (fun e => absurd h (by rw [e]; exact Rat.lt_irrefl))]
   omega
theorem zRM (t : zQ) (p : Int) (s : zAK) (hT : ShortT t) (hv : Valid t) (hm : Go.Ax.Rt.Modest t) (hp : p = 0 ∨ p = 1) (hs : StrS t (1 - p) s) :
   zW Tryz.prog 73 [.ro (zc t) 0 t.length, .int .i64 p, .ro (zm s) 0 s.length] (.tup [qA ((zBW t p (zA7 t p s)).2.1.getD 0 0), .rom ((zBW t p (zA7 t p s)).2.2.map keyB) ((zBW t p (zA7 t p s)).2.2.map valB)]) := by
 have c1 := of_ro t p hT hv
 have c2 := hs.call
 have c3 := zQ6 t p s hT hv hm hp hs
 have hml := hm.len
 have c4 := zMk t (by omega)
 have hfew := zH5 hv p
 have hone := (zAw hv p).2.2.1
 have hel := zFv t t.length
 have hEl : (zAf t t.length).length = (zw t).length := by rw [zG4, List.length_map]
 have hw := one_w hv hm hp hs.str
 have hpays := hm.pays hv
 have hfew : (zY t p).length ≤ 61 := hfew
 refine zV.value (K := fun r H => r = .tup [qA ((zBW t p (zA7 t p s)).2.1.getD 0 0), .mp 3] ∧ H = [none, some ⟨122, .box (zu ((zBW t p (zA7 t p s)).2.1.getD 0 0))⟩, some ⟨122, qsC (zBW t p (zA7 t p s)).2.1⟩, some ⟨123, choC (zBW t p (zA7 t p s)).2.2⟩]) (zG (P := Tryz.prog) (fn := Tryz.f73) Y Y (by kernel_rfl) Y (fun c hR hfix => ?_)) (fix := fun _ => False) (fun _ h => h) Y ?_
 · refine rn6 ?_
   refine zD zIB ?_
   repeat (first | refine zC ?_ | refine zA ?_ | refine zX ?_)
   refine zIX [some ⟨3, .box [.int .i64 p]⟩, none] [none, some ⟨122, .box [.bool false, .nil, .nil]⟩] [(0, .ro (zc t) 0 t.length), (1, .int .i64 p), (2, .ro (zm s) 0 s.length), (4, .rp (.box [.int .i64 p]) 0 0), (6, .ptr 1 0 0)] ?_ ?_ rfl ?_ ⟨⟨_, rfl, .inl rfl⟩, ⟨_, rfl, .inl rfl⟩, ⟨_, rfl, .inl rfl⟩, ⟨_, rfl, .inr (.inr ⟨rfl, fun o ho => by cases ho; exact Nat.zero_lt_one⟩)⟩, ⟨_, rfl, .inl rfl⟩, trivial⟩ ?_
   · intro h o ho
     match h, ho with
     | 0, ho => exact ho
     | 1, ho => simp at ho
     | _ + 2, ho => simp at ho
   · intro h o ho
     match h, ho with
     | 0, ho => cases ho; exact boxIU _
     | 1, ho => simp at ho
     | _ + 2, ho => simp at ho
   · intro h o ho
     match h, ho with
     | 0, ho => simp at ho
     | 1, ho => cases ho; exact ⟨fun o h => by simp at h, _, rfl, rfl, rfl, rfl, fun i j _ _ => .inl rfl⟩
     | _ + 2, ho => simp at ho
   repeat (first | refine zD (zH rfl) ?_ | refine zK rfl ?_ | refine zD (zAh rfl rfl rfl rfl) ?_)
   refine zB Y Y Y c1 ?_
   refine rn0 ?_
   refine zB Y Y Y c2 ?_
   skip
   refine zIz Y Y Y ?_
   repeat (first | refine zC ?_ | refine zA ?_ | refine zX ?_ | refine zAp rfl rfl rfl rfl rfl rfl rfl Nat.zero_lt_one ?_)
   refine zBQ [none, some ⟨122, .box [.bool false, .nil, .nil]⟩, some ⟨209, .box [zCa s]⟩] Y ?_
   refine z7 9 (.ptr 2 0 0) Y (AEq.of_eq Y) ?_
   refine zIX [none, none, some ⟨209, .box [zCa s]⟩] [none, some ⟨122, .box [.bool false, .nil, .nil]⟩, none] [(0, .ro (zc t) 0 t.length), (4, .rp (.box [.int .i64 p]) 0 0), (6, .ptr 1 0 0), (8, zDS t p), (9, .rp (.box [zCa s]) 0 0)] ?_ ?_ rfl ?_ ⟨⟨_, rfl, .inl rfl⟩, ⟨_, rfl, .inl rfl⟩, ⟨_, rfl, .inl rfl⟩, ⟨_, rfl, .inl rfl⟩, ⟨_, rfl, .inr (.inr ⟨rfl, fun o ho => by cases ho; exact Nat.zero_lt_one⟩)⟩, trivial⟩ ?_
   · intro h o ho
     match h, ho with
     | 0, ho => simp at ho
     | 1, ho => simp at ho
     | 2, ho => exact ho
     | _ + 3, ho => simp at ho
   · intro h o ho
     match h, ho with
     | 0, ho => simp at ho
     | 1, ho => simp at ho
     | 2, ho => cases ho; exact zMS s
     | _ + 3, ho => simp at ho
   · intro h o ho
     match h, ho with
     | 0, ho => simp at ho
     | 1, ho => cases ho; exact ⟨fun o h => by simp at h, _, rfl, rfl, rfl, rfl, fun i j _ _ => .inl rfl⟩
     | 2, ho => simp at ho
     | _ + 3, ho => simp at ho
   refine zAa [none, some ⟨122, .box [.bool false, .nil, .nil]⟩] [none] [(0, .ro (zc t) 0 t.length), (4, .rp (.box [.int .i64 p]) 0 0), (6, .ptr 1 0 0), (8, zDS t p), (9, .rp (.box [zCa s]) 0 0)] Y ⟨Y, Y, Y, Y, Y, trivial⟩ (fun h hh => by rw [hfix] at hh; exact absurd hh id) belowQ0 Y ?_
   repeat (first | refine zD (zH rfl) ?_ | refine zK rfl ?_ | refine zD (zGv rfl) ?_)
   refine zB Y Y Y c3 ?_
   repeat (first | refine zD (zH rfl) ?_ | refine zD (zL rfl) ?_ | refine zC ?_ | refine zA ?_ | refine zX ?_ | refine zK rfl ?_ | refine zD (zA9 rfl rfl rfl) ?_ | refine zD (zAh rfl rfl rfl rfl) ?_ | refine zD (zB7 rfl) ?_ | refine zD (zAo rfl rfl rfl rfl rfl rfl) ?_)
   refine zCB Y Y Y Y Y Y Y Y (by show (0 : Int) ≤ _ ∧ _ ≤ _ ∧ (56 : Int) * _ ≤ _ ∧ _; omega) ?_
   refine zAs [none, some ⟨122, .box [.bool false, .nil, .nil]⟩, some ⟨122, zsC (zCW (zY t p).length 0)⟩] (by rw [zNJ]; exact zAB.same (zAB.same (zAB.eqv (zJi _) zAB.nil))) ?_
   refine rn3 ?_
   refine zi (ι := Nat) (fun k => [(0, .ro (zc t) 0 t.length), (4, .rp (.box [.int .i64 p]) 0 0), (6, .ptr 1 0 0), (8, zDS t p), (10, .ro (qsC (zb t (zA7 t p s))) 0 t.length), (11, .sl 2 0 (zY t p).length), (36, .sl 2 0 (zY t p).length), (37, .int .i64 ((zY t p).length : Nat)), (38, .int .i64 (k : Nat))]) (fun k => [none, some ⟨122, .box [.bool false, .nil, .nil]⟩, some ⟨122, zsC (zCW (zY t p).length k)⟩])
     (fun k => k ≤ (zY t p).length) (fun k => (zY t p).length - k) 0 ⟨⟨rfl, rfl, rfl, rfl, rfl, rfl, rfl, rfl, rfl, trivial⟩, rfl, Nat.zero_le _⟩ ?_
   intro k hk
   refine rn4 ?_
   refine zE Y (fun h => ?_) (fun h => ?_)
   · have hk' : k < (zY t p).length := by omega
     have hzl := zOJ (zY t p).length k
     have hzs := zO6 hk'
     have hzk : k < (zsC (zCW (zY t p).length k)).len := by show k < (zCW _ _).length; omega
     refine rn1 ?_
     refine zB Y Y Y zEP ?_
     unfold qA
     repeat (refine zD (zd rfl rfl rfl rfl rfl (by first | (simp only [Nat.zero_add, Int.toNat_natCast, Int.toNat_zero]; exact rfl) | exact rfl) (by omega)) ?_)
     refine zO (c' := zsC ((zCW (zY t p).length k).set k (some 0))) Y Y Y Y Y hzk (by show (List.set _ k _).length = _; rw [List.length_set]; rfl) Y (fun i' j' hi' hj' => zCb none 3 zBY _ k (some 0) hzk i' j' hi' hj') ?_
     refine rn5 ?_
     exact zM ⟨k + 1, by omega, by omega, ⟨Y, Y, Y, Y, Y, Y, Y, Y, Y, trivial⟩, by rw [← hzs]; rfl⟩
   have hke : k = (zY t p).length := by omega
   subst hke
   repeat (first | refine zA ?_ | refine zX ?_ | refine zAm ?_ | refine zr ?_ | refine zq ?_ | refine zAD ?_)
   refine zBu [none, some ⟨122, .box [.bool false, .nil, .nil]⟩, some ⟨122, qsC (zD2 t p (zA7 t p s) 0)⟩] (by rw [zOg, zKJ]; exact zAB.same (zAB.same (zAB.eqv (zL8 _) zAB.nil))) ?_
   refine rn0 ?_
   refine zB Y Y Y c4 ?_
   refine rn3 ?_
   refine zi (ι := Nat) (fun k => [(0, .ro (zc t) 0 t.length), (4, .rp (.box [.int .i64 p]) 0 0), (6, .ptr 1 0 0), (8, zDS t p), (10, .ro (qsC (zb t (zA7 t p s))) 0 t.length), (11, .sl 2 0 (zY t p).length), (47, .ro (.ints .i64 (zAf t t.length)) 0 (zAf t t.length).length), (48, .int .i64 ((zAf t t.length).length : Nat)), (49, .int .i64 (k : Nat))]) (fun k => [none, some ⟨122, .box [.bool false, .nil, .nil]⟩, some ⟨122, qsC (zD2 t p (zA7 t p s) k)⟩])
     (fun k => k ≤ (zAf t t.length).length) (fun k => (zAf t t.length).length - k) 0 ⟨⟨rfl, rfl, rfl, rfl, rfl, rfl, rfl, rfl, rfl, trivial⟩, rfl, Nat.zero_le _⟩ ?_
   intro k hk
   refine rn4 ?_
   refine zE Y (fun h => ?_) (fun h => ?_)
   · have hk' : k < (zw t).length := by omega
     have hi0 := zIs t hk'
     obtain ⟨i1, i2⟩ := zCc (zAQ (l := zw t) 0 hk')
     have hsuc := zKi t p (zA7 t p s) hk'
     have hSl := zRD t p (zA7 t p s) k
     have hsh : ∀ j, D zFN ((zD2 t p (zA7 t p s) k).getD j 0) := zNc hv hw hml hpays p (k := k) (by omega)
     have hpay := zHJ hv i1 i2
     have hpyl := (hT.node _ (zAQ node0 i1)).pay
     have cp := zD5 (t.getD ((zw t).getD k 0) node0).pay hpyl hpay
     have dr := zCw hv hw hml i1
     have dp := hpays.dig _ i1 i2
     have cm := zFx _ _ (zCE (dr.mono (show 12 * 40 + 1 ≤ 9 * 100000 by decide))) (zCE (dp.mono (by decide)))
     have cm : zW Tryz.prog 105 [qA ((zb t (zA7 t p s)).getD ((zw t).getD k 0) 0), qA (zAM (t.getD ((zw t).getD k 0) node0).pay)] (qA (zDe t (zb t (zA7 t p s)) ((zw t).getD k 0))) := cm
     have dE : D 1000 (zDe t (zb t (zA7 t p s)) ((zw t).getD k 0)) := (dr.mul dp).mono (by decide)
     have hpos := pos_lt hv p i1
     obtain ⟨x, hx⟩ := Int.eq_ofNat_of_zero_le hpos.1
     have hx2 : ((zCI t p).getD ((zw t).getD k 0) 0).toNat = x := by rw [hx, Int.toNat_natCast]
     rw [hx2] at hpos hsuc
     have hposl : (zCI t p).length = t.length := zEu t p _
     have hG : endG t p (zb t (zA7 t p s)) ((zw t).getD k 0) = if p = 1 then -(zDe t (zb t (zA7 t p s)) ((zw t).getD k 0)) else zDe t (zb t (zA7 t p s)) ((zw t).getD k 0) := rfl
     rw [hG] at hsuc
     have hdk : k < (zAf t t.length).length := by omega
     have hrl : (zb t (zA7 t p s)).length = t.length := zCp t _ _
     have hshx := hsh x
     clear hG hsh dr dp
     generalize hS2 : zD2 t p (zA7 t p s) (k + 1) = S2 at *
     generalize zD2 t p (zA7 t p s) k = S at *
     generalize zDe t (zb t (zA7 t p s)) ((zw t).getD k 0) = E at *
     generalize (zw t).getD k 0 = i at *
     repeat (first | refine zA ?_ | refine zX ?_ | refine zx ?_ | refine zl ?_)
     refine zK Y ?_
     repeat (first | refine zD (zL rfl) ?_ | refine zD (zAi rfl rfl rfl) ?_ | refine zC ?_ | refine zA ?_ | refine zX ?_ | refine zD (ze rfl rfl rfl rfl (by first | (simp only [Nat.zero_add, Int.toNat_natCast, Int.toNat_zero]; exact rfl) | exact rfl) (by omega)) ?_)
     refine z7 14 (.int .i64 (i : Nat)) Y (AEq.of_eq (by rw [← hi0])) ?_
     skip
     refine zk (by kernel_rfl) ?_
     apply zCo (H := [none, some ⟨122, .box [.bool false, .nil, .nil]⟩, some ⟨122, qsC S⟩, some ⟨122, .box [.bool false, .nil, .nil]⟩]) [(15, .ptr 3 0 0), (63, qA E), (14, .int .i64 (i : Nat)), (0, .ro (zc t) 0 t.length), (4, .rp (.box [.int .i64 p]) 0 0), (6, .ptr 1 0 0), (8, zDS t p), (10, .ro (qsC (zb t (zA7 t p s))) 0 t.length), (11, .sl 2 0 (zY t p).length), (47, .ro (.ints .i64 (zAf t t.length)) 0 (zAf t t.length).length), (48, .int .i64 ((zAf t t.length).length : Nat)), (49, .int .i64 (k : Nat))]
     · intro fin
       refine zS 0 Y (by kernel_rfl) (by kernel_rfl) (by kernel_rfl) Y (zH Y) Y ?_
       refine zS 1 Y (by kernel_rfl) (by kernel_rfl) (by kernel_rfl) Y (zH Y) Y ?_
       refine zS 4 Y (by kernel_rfl) (by kernel_rfl) (by kernel_rfl) Y (zH Y) Y ?_
       refine zS 5 Y (by kernel_rfl) (by kernel_rfl) (by kernel_rfl) Y (zH Y) Y ?_
       refine zS 2 Y (by kernel_rfl) (by kernel_rfl) (by kernel_rfl) Y (ze Y Y Y Y (by first | (simp only [Nat.zero_add, Int.toNat_natCast, Int.toNat_zero]; exact Y) | exact Y) (by omega)) Y ?_
       refine zS 6 Y (by kernel_rfl) (by kernel_rfl) (by kernel_rfl) Y (ze Y Y Y Y (by first | (simp only [Nat.zero_add, Int.toNat_natCast, Int.toNat_zero]; exact Y) | exact Y) (by omega)) Y ?_
       refine zS 7 Y (by kernel_rfl) (by kernel_rfl) (by kernel_rfl) Y (zAo Y Y Y Y Y Y) Y ?_
       refine zF (is := [3, 8, 11]) (by kernel_rfl) (by simp) Y ⟨fun o ho => ?_, fun o ho => ?_, fun o ho => ?_, trivial⟩
       all_goals (cases ho)
       · refine rn6 ?_
         refine zF (is := [8, 11]) (by kernel_rfl) (by simp) Y ⟨fun o ho => ?_, fun o ho => ?_, trivial⟩
         all_goals (cases ho)
         · refine rn6 ?_
           refine zF (is := [9, 11]) (by kernel_rfl) (by simp) Y ⟨fun o ho => ?_, fun o ho => ?_, trivial⟩
           all_goals (cases ho)
           · refine zB Y Y Y cp ?_
             refine rn1 ?_
             refine zF (is := [10, 11]) (by kernel_rfl) (by simp) Y ⟨fun o ho => ?_, fun o ho => ?_, trivial⟩
             all_goals (cases ho)
             · refine zB Y Y Y cm ?_
               refine rn1 ?_
               refine zF (is := [11]) (by kernel_rfl) (by simp) Y ⟨fun o ho => ?_, trivial⟩
               all_goals (cases ho)
               refine rn4 ?_
               exact fin _ ⟨Y, Y, Y, Y, Y, Y, Y, Y, Y, Y, Y, Y, trivial⟩
             · refine rn4 ?_
               refine zF (is := [10]) (by kernel_rfl) (by simp) Y ⟨fun o ho => ?_, trivial⟩
               all_goals (cases ho)
               refine zB Y Y Y cm ?_
               refine rn1 ?_
               exact fin _ ⟨Y, Y, Y, Y, Y, Y, Y, Y, Y, Y, Y, Y, trivial⟩
           · refine rn4 ?_
             refine zF (is := [9]) (by kernel_rfl) (by simp) Y ⟨fun o ho => ?_, trivial⟩
             all_goals (cases ho)
             refine zB Y Y Y cp ?_
             refine rn1 ?_
             refine zF (is := [10]) (by kernel_rfl) (by simp) Y ⟨fun o ho => ?_, trivial⟩
             all_goals (cases ho)
             refine zB Y Y Y cm ?_
             refine rn1 ?_
             exact fin _ ⟨Y, Y, Y, Y, Y, Y, Y, Y, Y, Y, Y, Y, trivial⟩
         · refine rn4 ?_
           refine zF (is := [8]) (by kernel_rfl) (by simp) Y ⟨fun o ho => ?_, trivial⟩
           all_goals (cases ho)
           refine rn6 ?_
           refine zF (is := [9]) (by kernel_rfl) (by simp) Y ⟨fun o ho => ?_, trivial⟩
           all_goals (cases ho)
           refine zB Y Y Y cp ?_
           refine rn1 ?_
           refine zF (is := [10]) (by kernel_rfl) (by simp) Y ⟨fun o ho => ?_, trivial⟩
           all_goals (cases ho)
           refine zB Y Y Y cm ?_
           refine rn1 ?_
           exact fin _ ⟨Y, Y, Y, Y, Y, Y, Y, Y, Y, Y, Y, Y, trivial⟩
       · refine rn6 ?_
         refine zF (is := [3, 9, 11]) (by kernel_rfl) (by simp) Y ⟨fun o ho => ?_, fun o ho => ?_, fun o ho => ?_, trivial⟩
         all_goals (cases ho)
         · refine rn6 ?_
           refine zF (is := [9, 11]) (by kernel_rfl) (by simp) Y ⟨fun o ho => ?_, fun o ho => ?_, trivial⟩
           all_goals (cases ho)
           · refine zB Y Y Y cp ?_
             refine rn1 ?_
             refine zF (is := [10, 11]) (by kernel_rfl) (by simp) Y ⟨fun o ho => ?_, fun o ho => ?_, trivial⟩
             all_goals (cases ho)
             · refine zB Y Y Y cm ?_
               refine rn1 ?_
               refine zF (is := [11]) (by kernel_rfl) (by simp) Y ⟨fun o ho => ?_, trivial⟩
               all_goals (cases ho)
               refine rn4 ?_
               exact fin _ ⟨Y, Y, Y, Y, Y, Y, Y, Y, Y, Y, Y, Y, trivial⟩
             · refine rn4 ?_
               refine zF (is := [10]) (by kernel_rfl) (by simp) Y ⟨fun o ho => ?_, trivial⟩
               all_goals (cases ho)
               refine zB Y Y Y cm ?_
               refine rn1 ?_
               exact fin _ ⟨Y, Y, Y, Y, Y, Y, Y, Y, Y, Y, Y, Y, trivial⟩
           · refine rn4 ?_
             refine zF (is := [9]) (by kernel_rfl) (by simp) Y ⟨fun o ho => ?_, trivial⟩
             all_goals (cases ho)
             refine zB Y Y Y cp ?_
             refine rn1 ?_
             refine zF (is := [10]) (by kernel_rfl) (by simp) Y ⟨fun o ho => ?_, trivial⟩
             all_goals (cases ho)
             refine zB Y Y Y cm ?_
             refine rn1 ?_
             exact fin _ ⟨Y, Y, Y, Y, Y, Y, Y, Y, Y, Y, Y, Y, trivial⟩
         · refine zB Y Y Y cp ?_
           refine rn1 ?_
           refine zF (is := [3, 11]) (by kernel_rfl) (by simp) Y ⟨fun o ho => ?_, fun o ho => ?_, trivial⟩
           all_goals (cases ho)
           · refine rn6 ?_
             refine zF (is := [10, 11]) (by kernel_rfl) (by simp) Y ⟨fun o ho => ?_, fun o ho => ?_, trivial⟩
             all_goals (cases ho)
             · refine zB Y Y Y cm ?_
               refine rn1 ?_
               refine zF (is := [11]) (by kernel_rfl) (by simp) Y ⟨fun o ho => ?_, trivial⟩
               all_goals (cases ho)
               refine rn4 ?_
               exact fin _ ⟨Y, Y, Y, Y, Y, Y, Y, Y, Y, Y, Y, Y, trivial⟩
             · refine rn4 ?_
               refine zF (is := [10]) (by kernel_rfl) (by simp) Y ⟨fun o ho => ?_, trivial⟩
               all_goals (cases ho)
               refine zB Y Y Y cm ?_
               refine rn1 ?_
               exact fin _ ⟨Y, Y, Y, Y, Y, Y, Y, Y, Y, Y, Y, Y, trivial⟩
           · refine rn4 ?_
             refine zF (is := [3]) (by kernel_rfl) (by simp) Y ⟨fun o ho => ?_, trivial⟩
             all_goals (cases ho)
             refine rn6 ?_
             refine zF (is := [10]) (by kernel_rfl) (by simp) Y ⟨fun o ho => ?_, trivial⟩
             all_goals (cases ho)
             refine zB Y Y Y cm ?_
             refine rn1 ?_
             exact fin _ ⟨Y, Y, Y, Y, Y, Y, Y, Y, Y, Y, Y, Y, trivial⟩
         · refine rn4 ?_
           refine zF (is := [3, 9]) (by kernel_rfl) (by simp) Y ⟨fun o ho => ?_, fun o ho => ?_, trivial⟩
           all_goals (cases ho)
           · refine rn6 ?_
             refine zF (is := [9]) (by kernel_rfl) (by simp) Y ⟨fun o ho => ?_, trivial⟩
             all_goals (cases ho)
             refine zB Y Y Y cp ?_
             refine rn1 ?_
             refine zF (is := [10]) (by kernel_rfl) (by simp) Y ⟨fun o ho => ?_, trivial⟩
             all_goals (cases ho)
             refine zB Y Y Y cm ?_
             refine rn1 ?_
             exact fin _ ⟨Y, Y, Y, Y, Y, Y, Y, Y, Y, Y, Y, Y, trivial⟩
           · refine zB Y Y Y cp ?_
             refine rn1 ?_
             refine zF (is := [3]) (by kernel_rfl) (by simp) Y ⟨fun o ho => ?_, trivial⟩
             all_goals (cases ho)
             refine rn6 ?_
             refine zF (is := [10]) (by kernel_rfl) (by simp) Y ⟨fun o ho => ?_, trivial⟩
             all_goals (cases ho)
             refine zB Y Y Y cm ?_
             refine rn1 ?_
             exact fin _ ⟨Y, Y, Y, Y, Y, Y, Y, Y, Y, Y, Y, Y, trivial⟩
       · refine rn4 ?_
         refine zF (is := [3, 8]) (by kernel_rfl) (by simp) Y ⟨fun o ho => ?_, fun o ho => ?_, trivial⟩
         all_goals (cases ho)
         · refine rn6 ?_
           refine zF (is := [8]) (by kernel_rfl) (by simp) Y ⟨fun o ho => ?_, trivial⟩
           all_goals (cases ho)
           refine rn6 ?_
           refine zF (is := [9]) (by kernel_rfl) (by simp) Y ⟨fun o ho => ?_, trivial⟩
           all_goals (cases ho)
           refine zB Y Y Y cp ?_
           refine rn1 ?_
           refine zF (is := [10]) (by kernel_rfl) (by simp) Y ⟨fun o ho => ?_, trivial⟩
           all_goals (cases ho)
           refine zB Y Y Y cm ?_
           refine rn1 ?_
           exact fin _ ⟨Y, Y, Y, Y, Y, Y, Y, Y, Y, Y, Y, Y, trivial⟩
         · refine rn6 ?_
           refine zF (is := [3, 9]) (by kernel_rfl) (by simp) Y ⟨fun o ho => ?_, fun o ho => ?_, trivial⟩
           all_goals (cases ho)
           · refine rn6 ?_
             refine zF (is := [9]) (by kernel_rfl) (by simp) Y ⟨fun o ho => ?_, trivial⟩
             all_goals (cases ho)
             refine zB Y Y Y cp ?_
             refine rn1 ?_
             refine zF (is := [10]) (by kernel_rfl) (by simp) Y ⟨fun o ho => ?_, trivial⟩
             all_goals (cases ho)
             refine zB Y Y Y cm ?_
             refine rn1 ?_
             exact fin _ ⟨Y, Y, Y, Y, Y, Y, Y, Y, Y, Y, Y, Y, trivial⟩
           · refine zB Y Y Y cp ?_
             refine rn1 ?_
             refine zF (is := [3]) (by kernel_rfl) (by simp) Y ⟨fun o ho => ?_, trivial⟩
             all_goals (cases ho)
             refine rn6 ?_
             refine zF (is := [10]) (by kernel_rfl) (by simp) Y ⟨fun o ho => ?_, trivial⟩
             all_goals (cases ho)
             refine zB Y Y Y cm ?_
             refine rn1 ?_
             exact fin _ ⟨Y, Y, Y, Y, Y, Y, Y, Y, Y, Y, Y, Y, trivial⟩
     refine zF (is := [12]) (by kernel_rfl) (by simp) Y ⟨fun o ho => ?_, trivial⟩
     all_goals (cases ho)
     unfold qA
     refine zO (c' := .box (zu E)) Y Y Y Y Y Nat.zero_lt_one Y Y (fun i' j' hi' hj' => ?_) ?_
     · rw [if_pos (Nat.lt_one_iff.1 hi')]; rfl
     refine rn1 ?_
     refine zh (by kernel_rfl) ?_
     repeat (first | refine zC ?_ | refine zA ?_ | refine zX ?_ | refine zK rfl ?_ | refine zD (zEf rfl rfl) ?_ | refine zD (zAh rfl rfl rfl rfl) ?_)
     apply zAu (H := [none, some ⟨122, .box [.bool false, .nil, .nil]⟩, some ⟨122, qsC S⟩, some ⟨122, .box (zu (if p = 1 then -E else E))⟩]) [(15, .ptr 3 0 0), (14, .int .i64 (i : Nat)), (0, .ro (zc t) 0 t.length), (4, .rp (.box [.int .i64 p]) 0 0), (6, .ptr 1 0 0), (8, zDS t p), (10, .ro (qsC (zb t (zA7 t p s))) 0 t.length), (11, .sl 2 0 (zY t p).length), (47, .ro (.ints .i64 (zAf t t.length)) 0 (zAf t t.length).length), (48, .int .i64 ((zAf t t.length).length : Nat)), (49, .int .i64 (k : Nat))]
     · intro fin
       refine zE Y (fun hp1 => ?_) (fun hp1 => ?_)
       · rw [if_pos hp1] at fin
         have co := qopp_ok E
         refine rn6 ?_
         refine zB Y Y Y co ?_
         unfold qA
         skip
         refine zO (c' := .box (zu (-E))) Y Y Y Y Y Nat.zero_lt_one Y Y (fun i' j' hi' hj' => ?_) ?_
         · rw [if_pos (Nat.lt_one_iff.1 hi')]; rfl
         repeat (first | refine zC ?_ | refine zA ?_)
         exact fin _ ⟨Y, Y, Y, Y, Y, Y, Y, Y, Y, Y, Y, trivial⟩
       · rw [if_neg hp1] at fin
         repeat (first | refine zA ?_ | refine zl ?_)
         exact fin _ ⟨Y, Y, Y, Y, Y, Y, Y, Y, Y, Y, Y, trivial⟩
     have dG : D 1000 (if p = 1 then -E else E) := by
       split
       · exact dE.neg
       · exact dE
     have ca := zE7 (S.getD x 0) (if p = 1 then -E else E) (zCE (hshx.mono (show zFN ≤ 9 * 100000 by decide))) (zCE (dG.mono (show 1000 ≤ 9 * 100000 by decide)))
     generalize (if p = 1 then -E else E) = G at *
     have hxS : x < (qsC S).len := by show x < S.length; omega
     generalize hA : S.getD x 0 + G = A at *
     skip
     refine zk (by kernel_rfl) ?_
     refine zt (fuel := 1) [0, 1, 2, 3, 4, 5, 6, 7, 8, 9, 10, 11, 12, 13, 14, 15, 16, 17, 18, 19, 20] [(15, .ptr 3 0 0), (14, .int .i64 (i : Nat)), (0, .ro (zc t) 0 t.length), (4, .rp (.box [.int .i64 p]) 0 0), (6, .ptr 1 0 0), (8, zDS t p), (10, .ro (qsC (zb t (zA7 t p s))) 0 t.length), (11, .sl 2 0 (zY t p).length), (47, .ro (.ints .i64 (zAf t t.length)) 0 (zAf t t.length).length), (48, .int .i64 ((zAf t t.length).length : Nat)), (49, .int .i64 (k : Nat))] ⟨Y, Y, Y, Y, Y, Y, Y, Y, Y, Y, Y, trivial⟩ (by kernel_rfl) (by decide) Y Y ?_
     refine zU Y Y (zH Y) ?_
     refine zU Y Y (zH Y) ?_
     refine zU Y Y (zB7 Y) ?_
     refine zU Y Y (zAo Y Y Y Y Y Y) ?_
     refine zU Y Y (zAh Y Y Y Y) ?_
     refine zU Y Y (zH Y) ?_
     refine zU Y Y (ze Y Y Y Y (by first | (simp only [Nat.zero_add, Int.toNat_natCast, Int.toNat_zero]; exact Y) | exact Y) (by omega)) ?_
     refine zU Y Y (zAi Y Y Y) ?_
     rw [hx]
     refine zU Y Y (zH Y) ?_
     refine zU Y Y (zH Y) ?_
     refine zU Y Y (zB7 Y) ?_
     refine zU Y Y (zAo Y Y Y Y Y Y) ?_
     refine zU Y Y (zAh Y Y Y Y) ?_
     refine zU Y Y (zH Y) ?_
     refine zU Y Y (ze Y Y Y Y (by first | (simp only [Nat.zero_add, Int.toNat_natCast, Int.toNat_zero]; exact Y) | exact Y) (by omega)) ?_
     refine zU Y Y (zAi Y Y Y) ?_
     rw [hx]
     refine zU Y Y (zd Y Y Y Y Y (by first | (simp only [Nat.zero_add, Int.toNat_natCast, Int.toNat_zero]; exact Y) | exact Y) (by omega)) ?_
     refine zU Y Y (zn Y Y Y Y Y Y Y (by first | exact Nat.zero_lt_one | assumption | omega)) ?_
     refine zU Y Y (zn Y Y Y Y Y Y Y (by first | exact Nat.zero_lt_one | assumption | omega)) ?_
     refine zBR Y Y Y Y Y ca ?_
     refine zU Y Y (zd Y Y Y Y Y (by first | (simp only [Nat.zero_add, Int.toNat_natCast, Int.toNat_zero]; exact Y) | exact Y) (by omega)) ?_
     refine zAZ ?_
     refine zF (is := [21]) (by kernel_rfl) (by simp) Y ⟨fun o ho => ?_, trivial⟩
     all_goals (cases ho)
     unfold qA
     refine zO (c' := qsC (S.set x A)) Y Y Y Y Y hxS (by show (List.set _ x _).length = _; rw [List.length_set]; rfl) Y (fun i' j' hi' hj' => zCb 0 3 zu S x A hxS i' j' hi' hj') ?_
     refine rn1 ?_
     refine zh (by kernel_rfl) ?_
     repeat (refine zf ?_)
     refine zA ?_
     rw [← hsuc]
     refine zAa [none, some ⟨122, .box [.bool false, .nil, .nil]⟩, some ⟨122, qsC S2⟩] [some ⟨122, .box (zu G)⟩] [(0, .ro (zc t) 0 t.length), (4, .rp (.box [.int .i64 p]) 0 0), (6, .ptr 1 0 0), (8, zDS t p), (10, .ro (qsC (zb t (zA7 t p s))) 0 t.length), (11, .sl 2 0 (zY t p).length), (47, .ro (.ints .i64 (zAf t t.length)) 0 (zAf t t.length).length), (48, .int .i64 ((zAf t t.length).length : Nat)), (49, .int .i64 (k : Nat))] Y ⟨Y, Y, Y, Y, Y, Y, Y, Y, Y, trivial⟩ (fun h hh => by rw [hfix] at hh; exact absurd hh id) (belowQ1 S2) Y ?_
     refine rn3 ?_
     exact zM ⟨k + 1, by omega, by omega, ⟨Y, Y, Y, Y, Y, Y, Y, Y, Y, trivial⟩, by rw [hS2]⟩
   have hke : k = (zAf t t.length).length := by omega
   subst hke
   rw [hEl, zL6]
   refine rn5 ?_
   refine zEg ?_
   repeat (first | refine zD (zH rfl) ?_ | refine zD (zL rfl) ?_ | refine zC ?_ | refine zA ?_ | refine zX ?_ | refine zK rfl ?_ | refine zx ?_ | refine zD (zA9 rfl rfl rfl) ?_ | refine zD (zAh rfl rfl rfl rfl) ?_ | refine zD (zB7 rfl) ?_ | refine zD (zAo rfl rfl rfl rfl rfl rfl) ?_)
   refine zi (ι := Nat × List Rat × List (Int × Int) × Nat) (fun q => [(6, .ptr 1 0 0), (8, zDS t p), (11, .sl 2 0 (zY t p).length), (16, .mp 3), (17, .int .i64 (q.1 : Nat))]) (fun q => [none, some ⟨122, .box [.bool false, .nil, .nil]⟩, some ⟨122, qsC q.2.1⟩, some ⟨123, choC q.2.2.1⟩])
     (fun q => Back t p (zA7 t p s) q.1 q.2.1 q.2.2.1 q.2.2.2) (fun q => q.1) ((zY t p).length, zGM t p (zA7 t p s), [], 0) ⟨⟨rfl, rfl, rfl, rfl, rfl, trivial⟩, rfl, Back.top hv hw hml hpays p⟩ ?_
   rintro ⟨e, S, C, jj⟩ hB
   simp only at hB ⊢
   have hle := hB.bnd.le
   refine rn6 ?_
   refine zE Y (fun h => ?_) (fun h => ?_)
   · have he : 1 < e := by omega
     obtain ⟨x, b, hk⟩ := hB.bnd.blk hv he
     have hst := hB.step hv he hk
     have hSl := hB.sums.len
     have hsh : ∀ j, D zFN (S.getD j 0) := hB.sums.short (zPQ hw hml hpays hv) (by have := hB.few; omega)
     have hfin := hk.fin
     have hw1 := hk.w1
     have hblt := hk.lt
     have hnew := newB (hk.new hv hB.cho)
     have hseq := hk.seqs
     have hs1 := hseq (zR t p x.1 - 1) (by omega)
     rw [show x.2 + (zR t p x.1 - 1) = e - 1 by omega] at hs1
     generalize hW : zR t p x.1 = W at *
     repeat (first | refine zD (zH rfl) ?_ | refine zA ?_ | refine zX ?_ | refine zK rfl ?_ | refine zx ?_ | refine zl ?_ | refine zD (zBo rfl rfl (by omega)) ?_ | refine zD (zAh rfl rfl rfl rfl) ?_ | refine zD (zB7 rfl) ?_ | refine zD (zAo rfl rfl rfl rfl rfl rfl) ?_)
     refine zN 105 (.int .i64 ((e - 1 : Nat) : Int)) Y (AEq.of_eq (by congr 1; omega)) ?_
     repeat (first | refine zD (zBj rfl rfl rfl rfl) ?_ | refine zD (ze rfl rfl rfl rfl (by first | (simp only [Nat.zero_add, Int.toNat_natCast, Int.toNat_zero]; exact rfl) | exact rfl) (by omega)) ?_ | refine zD (zAo rfl rfl rfl rfl rfl rfl) ?_)
     refine zN 108 (.int .i64 ((W - 1 : Nat) : Int)) Y (AEq.of_eq (show AV.int .i64 ((zY t p).getD (e - 1) seq0).choice = _ by rw [hs1])) ?_
     repeat (first | refine zD (zL rfl) ?_ | refine zC ?_ | refine zA ?_ | refine zX ?_ | refine zD (zBo rfl rfl (by omega)) ?_)
     refine z7 18 (.int .i64 (x.2 : Nat)) Y (AEq.of_eq (by congr 1; omega)) ?_
     refine rn1 ?_
     refine zi (ι := Nat) (fun m => [(6, .ptr 1 0 0), (8, zDS t p), (11, .sl 2 0 (zY t p).length), (16, .mp 3), (17, .int .i64 (e : Nat)), (18, .int .i64 (x.2 : Nat)), (19, .int .i64 (zAt S x.2 m : Nat)), (20, .int .i64 ((x.2 + m : Nat) : Int))]) (fun _ => [none, some ⟨122, .box [.bool false, .nil, .nil]⟩, some ⟨122, qsC S⟩, some ⟨123, choC C⟩])
       (fun m => m ≤ W) (fun m => W - m) 0 ⟨⟨rfl, rfl, rfl, rfl, rfl, rfl, rfl, rfl, trivial⟩, rfl, Nat.zero_le _⟩ ?_
     intro m hm'
     obtain ⟨q1, q2, q3⟩ := zET S x.2 m
     refine rn4 ?_
     refine zE Y (fun h2 => ?_) (fun h2 => ?_)
     · have hmW : m < W := by omega
       have hbs : zAt S x.2 (m + 1) = if S.getD (zAt S x.2 m) 0 < S.getD (x.2 + m) 0 then x.2 + m else zAt S x.2 m := rfl
       have cc := zPb (S.getD (x.2 + m) 0) (S.getD (zAt S x.2 m) 0) (zCE ((hsh _).mono (show zFN ≤ 9 * 100000 by decide))) (zCE ((hsh _).mono (show zFN ≤ 9 * 100000 by decide)))
       have gi : x.2 + m < (qsC S).len := by show x.2 + m < S.length; omega
       have gb : zAt S x.2 m < (qsC S).len := by show zAt S x.2 m < S.length; omega
       have hlt : zAt S x.2 m < x.2 + m + 1 := q2
       generalize hN : zAt S x.2 (m + 1) = N at *
       generalize zAt S x.2 m = M at *
       refine rn1 ?_
       refine zk (by kernel_rfl) ?_
       refine zt (fuel := 0) [0, 1, 2, 3, 4, 5, 6, 7, 8, 9] [(6, .ptr 1 0 0), (8, zDS t p), (11, .sl 2 0 (zY t p).length), (16, .mp 3), (17, .int .i64 (e : Nat)), (18, .int .i64 (x.2 : Nat)), (19, .int .i64 (M : Nat)), (20, .int .i64 ((x.2 + m : Nat) : Int))] ⟨Y, Y, Y, Y, Y, Y, Y, Y, trivial⟩ (by kernel_rfl) (by decide) Y Y ?_
       refine zU Y Y (zH Y) ?_
       refine zU Y Y (zH Y) ?_
       refine zU Y Y (zd Y Y Y Y Y (by first | (simp only [Nat.zero_add, Int.toNat_natCast, Int.toNat_zero]; exact Y) | exact Y) (by omega)) ?_
       refine zU Y Y (zn Y Y Y Y Y Y Y (by first | exact Nat.zero_lt_one | assumption | omega)) ?_
       refine zU Y Y (zH Y) ?_
       refine zU Y Y (zH Y) ?_
       refine zU Y Y (zd Y Y Y Y Y (by first | (simp only [Nat.zero_add, Int.toNat_natCast, Int.toNat_zero]; exact Y) | exact Y) (by omega)) ?_
       refine zU Y Y (zn Y Y Y Y Y Y Y (by first | exact Nat.zero_lt_one | assumption | omega)) ?_
       refine zBR Y Y Y Y Y cc ?_
       refine zU Y Y (zJO Y Y) ?_
       refine zAZ ?_
       refine zh (by kernel_rfl) ?_
       repeat (refine zA ?_)
       refine zE Y (fun h3 => ?_) (fun h3 => ?_)
       · rw [if_pos ((cmp_gt _ _).mp h3)] at hbs
         refine rn5 ?_
         exact zM ⟨m + 1, by omega, by omega, ⟨Y, Y, Y, Y, Y, Y, by rw [hN, hbs]; rfl, Y, trivial⟩, Y⟩
       · rw [if_neg (fun q => h3 ((cmp_gt _ _).mpr q))] at hbs
         refine rn5 ?_
         exact zM ⟨m + 1, by omega, by omega, ⟨Y, Y, Y, Y, Y, Y, by rw [hN, hbs]; rfl, Y, trivial⟩, Y⟩
     have hmW : m = W := by omega
     subst hmW
     have q3 := q3 hw1
     have hs2 := hseq (zAt S x.2 m - x.2) (by omega)
     rw [show x.2 + (zAt S x.2 m - x.2) = zAt S x.2 m by omega] at hs2
     have ca := zE7 (S.getD b 0) (S.getD (zAt S x.2 m) 0) (zCE ((hsh _).mono (show zFN ≤ 9 * 100000 by decide))) (zCE ((hsh _).mono (show zFN ≤ 9 * 100000 by decide)))
     have gb : b < (qsC S).len := by show b < S.length; omega
     have gM : zAt S x.2 m < (qsC S).len := by show zAt S x.2 m < S.length; omega
     have hMn : zAt S x.2 m < (zY t p).length := by omega
     generalize zAt S x.2 m = M at *
     generalize hA : S.getD b 0 + S.getD M 0 = A at *
     repeat (first | refine zD (zH rfl) ?_ | refine zA ?_ | refine zX ?_ | refine zK rfl ?_ | refine zAm ?_ | refine zr ?_ | refine zq ?_ | refine zAD ?_ | refine zD (ze rfl rfl rfl rfl (by first | (simp only [Nat.zero_add, Int.toNat_natCast, Int.toNat_zero]; exact rfl) | exact rfl) (by omega)) ?_ | refine zD (zAh rfl rfl rfl rfl) ?_ | refine zD (zB7 rfl) ?_ | refine zD (zAo rfl rfl rfl rfl rfl rfl) ?_ | refine zD (zBS rfl rfl rfl rfl rfl rfl) ?_ | refine zBD rfl rfl rfl ?_)
     refine zN 134 (.agg (zFE ⟨x.1, ((M - x.2 : Nat) : Int), (b : Int)⟩)) Y (AEq.of_eq (by rw [← hs2]; rfl)) ?_
     refine zO (c' := .box (zFE ⟨x.1, ((M - x.2 : Nat) : Int), (b : Int)⟩)) Y Y Y Y Y Nat.zero_lt_one Y Y (fun i' j' hi' hj' => ?_) ?_
     · rw [if_pos (Nat.lt_one_iff.1 hi')]; rfl
     refine rn5 ?_
     refine zCq Y (.int Y) Y Y Y Y Y (keysB C) hnew ?_
     refine zAs [none, some ⟨122, .box [.bool false, .nil, .nil]⟩, some ⟨122, qsC S⟩, some ⟨123, choC (C ++ [(x.1, ((M - x.2 : Nat) : Int))])⟩, some ⟨174, .box [.int .i64 x.1, .int .i64 ((M - x.2 : Nat) : Int), .int .i64 (b : Nat)]⟩] (zAB.same (zAB.same (zAB.same (zAB.eqv (by unfold choC; rw [List.map_append, List.map_append]; exact CEq.refl _) (zAB.eqv (CEq.refl _) zAB.nil))))) ?_
     refine rn0 ?_
     refine zk (by kernel_rfl) ?_
     refine zt (fuel := 1) [0, 1, 2, 3, 4, 5, 6, 7, 8, 9, 10, 11, 12, 13] [(21, .ptr 4 0 0), (6, .ptr 1 0 0), (8, zDS t p), (11, .sl 2 0 (zY t p).length), (16, .mp 3), (17, .int .i64 (e : Nat)), (18, .int .i64 (x.2 : Nat)), (19, .int .i64 (M : Nat))] ⟨Y, Y, Y, Y, Y, Y, Y, Y, trivial⟩ (by kernel_rfl) (by decide) Y Y ?_
     refine zU Y Y (zH Y) ?_
     refine zU Y Y (zP Y Y Y Y Y Y) ?_
     refine zU Y Y (zT Y Y Y Y Y) ?_
     refine zU Y Y (zH Y) ?_
     refine zU Y Y (zP Y Y Y Y Y Y) ?_
     refine zU Y Y (zT Y Y Y Y Y) ?_
     refine zU Y Y (zd Y Y Y Y Y (by first | (simp only [Nat.zero_add, Int.toNat_natCast, Int.toNat_zero]; exact Y) | exact Y) (by omega)) ?_
     refine zU Y Y (zn Y Y Y Y Y Y Y (by first | exact Nat.zero_lt_one | assumption | omega)) ?_
     refine zU Y Y (zH Y) ?_
     refine zU Y Y (zH Y) ?_
     refine zU Y Y (zd Y Y Y Y Y (by first | (simp only [Nat.zero_add, Int.toNat_natCast, Int.toNat_zero]; exact Y) | exact Y) (by omega)) ?_
     refine zU Y Y (zn Y Y Y Y Y Y Y (by first | exact Nat.zero_lt_one | assumption | omega)) ?_
     refine zBR Y Y Y Y Y ca ?_
     refine zU Y Y (zd Y Y Y Y Y (by first | (simp only [Nat.zero_add, Int.toNat_natCast, Int.toNat_zero]; exact Y) | exact Y) (by omega)) ?_
     refine zAZ ?_
     refine zF (is := [14]) (by kernel_rfl) (by simp) Y ⟨fun o ho => ?_, trivial⟩
     all_goals (cases ho)
     unfold qA
     refine zO (c' := qsC (S.set b A)) Y Y Y Y Y gb (by show (List.set _ b _).length = _; rw [List.length_set]; rfl) Y (fun i' j' hi' hj' => zCb 0 3 zu S b A gb i' j' hi' hj') ?_
     refine rn1 ?_
     refine zh (by kernel_rfl) ?_
     skip
     refine zA ?_
     refine zAa [none, some ⟨122, .box [.bool false, .nil, .nil]⟩, some ⟨122, qsC (S.set b A)⟩, some ⟨123, choC (C ++ [(x.1, ((M - x.2 : Nat) : Int))])⟩] [some ⟨174, .box [.int .i64 x.1, .int .i64 ((M - x.2 : Nat) : Int), .int .i64 (b : Nat)]⟩] [(6, .ptr 1 0 0), (8, zDS t p), (11, .sl 2 0 (zY t p).length), (16, .mp 3), (18, .int .i64 (x.2 : Nat))] Y ⟨Y, Y, Y, Y, Y, trivial⟩ (fun h hh => by rw [hfix] at hh; exact absurd hh id) (belowQ2 _ _) Y ?_
     refine rn5 ?_
     exact zM ⟨(x.2, S.set b A, C ++ [(x.1, ((M - x.2 : Nat) : Int))], jj + 1), hst, by simp only; omega, ⟨Y, Y, Y, Y, Y, trivial⟩, Y⟩
   · have hsp := hB.stop (by omega)
     have hSl := hB.sums.len
     have g0 : 0 < (qsC S).len := by show 0 < S.length; omega
     rw [hsp] at hR
     refine rn6 ?_
     refine zO (c' := .box (zu (S.getD 0 0))) Y Y Y Y Y Nat.zero_lt_one Y Y (fun i' j' hi' hj' => ?_) ?_
     · rw [if_pos (Nat.lt_one_iff.1 hi')]; rfl
     refine rn0 ?_
     exact zI hR Y ⟨Y, Y⟩
 · rintro r H ⟨rfl, rfl⟩
   refine ⟨Y, ⟨⟨trivial, trivial, trivial, trivial⟩, trivial, trivial⟩, fun h o ho => ?_⟩
   match h, ho with
   | 0, ho => simp at ho
   | 1, ho =>
     cases ho
     intro i j _ hj
     exact zMK _ j
   | 2, ho => cases ho; exact zEp _
   | 3, ho => cases ho; exact ⟨zEj (fun _ => rfl) _, zEj (fun _ => rfl) _⟩
   | _ + 4, ho => simp at ho
/-- The row behind the first i values. -/
def zFU (n : zBJ) (k i : Nat) : List zBJ := List.replicate i n ++ List.replicate (k - i) []
theorem zJh (n : zBJ) (k i j : Nat) (hi : i ≤ k) (hj : j < k) : (zFU n k i).getD j [] = if j < i then n else [] := by
 unfold zFU
 simp only [List.getD, List.getElem?_append, List.length_replicate, List.getElem?_replicate]
 split
 · simp
 · rw [if_pos (by omega)]; simp
theorem zFt (n : zBJ) (k i : Nat) (hi : i ≤ k) : (zFU n k i).length = k := by unfold zFU; simp; omega
theorem zQZ (n : zBJ) (k : Nat) : zFU n k k = List.replicate k n := by unfold zFU; simp
theorem zPe (n : zBJ) (k : Nat) (hk : 1 ≤ k ∧ k ≤ 100000) : zJI Tryz.prog 76 [.ro (.strs [n]) 0 1, .int .i64 (k : Nat)] (fun N => .sl N 0 k) ⟨27, .strs (List.replicate k n)⟩ := by
 refine zV.fresh (K := fun r H => r = .sl 0 0 k ∧ H = [some ⟨27, .strs (List.replicate k n)⟩]) (zG (P := Tryz.prog) (fn := Tryz.f76) Y Y (by kernel_rfl) Y (fun c hR hfix => ?_)) (fix := fun _ => False) (fun _ h => h) Y (fun H => ⟨Y, by simp [zHp, inB]⟩) ?_
 · have hm := mulB 1 k (by omega) (by omega)
   rw [Nat.one_mul, Nat.div_eq_of_lt (by omega), Nat.mod_eq_of_lt (by omega)] at hm
   refine rn4 ?_
   refine zD (zAb (m := 1) Y Y Y zBO (by decide)) ?_
   repeat (refine zD (zH rfl) ?_)
   refine zD (zAb (m := k) Y Y Y zBO (by omega)) ?_
   refine zB Y Y Y hm ?_
   refine rn6 ?_
   refine zE Y (fun h => absurd h (by omega)) (fun h => ?_)
   refine rn1 ?_
   refine zD (zEn Y Y Y (by omega)) ?_
   refine zCB Y Y Y Y Y Y Y Y (by show 0 ≤ _ ∧ _ ≤ _ ∧ (16 : Int) * _ ≤ _ ∧ _; omega) ?_
   refine rn0 ?_
   refine zPg (o := ⟨27, .strs (List.replicate k [])⟩) (c' := .strs (zFU n k 1)) (i := 0) (n := k) (i2 := 0) (m := 1) (q := 1) Y Y Y Y Y Y Y (by simp [Cells.len]) (by omega) (by show 0 + 1 ≤ 1; omega) (by omega) (Nat.min_eq_left (by omega)) Y Y ?_ (fun i' j hi' hj => ?_) ?_
   · show (zFU n k 1).length = (List.replicate k ([] : zBJ)).length
     rw [zFt n k 1 (by omega)]; simp
   · have hi2 : i' < k := by simpa [Cells.len] using hi'
     show AV.str ((zFU n k 1).getD i' []) = _
     rw [zJh n k 1 i' (by omega) hi2]
     by_cases h0 : i' < 1
     · rw [if_pos h0, if_pos (by omega)]
       have : i' = 0 := by omega
       subst this; rfl
     · rw [if_neg h0, if_neg (by omega)]
       show _ = AV.str ((List.replicate k ([] : zBJ)).getD i' [])
       simp [List.getD, hi2]
   refine rn1 ?_
   refine zi (ι := Nat) (fun i => [(7, .sl 0 0 k), (8, .int .i64 (i : Nat))]) (fun i => [some ⟨27, .strs (zFU n k i)⟩]) (fun i => 1 ≤ i ∧ i ≤ k) (fun i => k - i) 1 ⟨⟨Y, Y, trivial⟩, Y, by omega, by omega⟩ ?_
   rintro i ⟨hi1, hi⟩
   refine rn4 ?_
   refine zE Y (fun h1 => ?_) (fun h1 => ?_)
   · obtain ⟨q, hq⟩ : ∃ q, Nat.min i (k - i) = q := ⟨_, rfl⟩
     have hq1 : q ≤ i ∧ q ≤ k - i ∧ 1 ≤ q := by
       subst hq
       refine ⟨Nat.min_le_left _ _, Nat.min_le_right _ _, ?_⟩
       show 1 ≤ min i (k - i)
       omega
     refine rn1 ?_
     refine zk (by kernel_rfl) ?_
     refine zS 0 Y (by kernel_rfl) (by kernel_rfl) (by kernel_rfl) Y (zH Y) Y ?_
     refine zS 1 Y (by kernel_rfl) (by kernel_rfl) (by kernel_rfl) Y (zH Y) Y ?_
     refine zS 2 Y (by kernel_rfl) (by kernel_rfl) (by kernel_rfl) Y (zH Y) Y ?_
     refine zS 4 Y (by kernel_rfl) (by kernel_rfl) (by kernel_rfl) Y (zH Y) Y ?_
     refine zS 5 Y (by kernel_rfl) (by kernel_rfl) (by kernel_rfl) Y (zH Y) Y ?_
     refine zS 3 Y (by kernel_rfl) (by kernel_rfl) (by kernel_rfl) Y (zHW Y Y Y Y Y Y Y Y (by omega)) Y ?_
     refine zS 6 Y (by kernel_rfl) (by kernel_rfl) (by kernel_rfl) Y (zHW Y Y Y Y Y Y Y Y (by omega)) Y ?_
     refine zBU 41 (.sl 0 i (k - i)) Y (AEq.of_eq (by congr 1 <;> omega)) ?_
     refine zBU 44 (.sl 0 0 i) Y (AEq.of_eq (by congr 1 <;> omega)) ?_
     refine zF (is := [7]) (by kernel_rfl) (by simp) Y ⟨fun o ho => ?_, trivial⟩
     all_goals (cases ho)
     skip
     refine zPg (h := 0) (o := ⟨27, .strs (zFU n k i)⟩) (c' := .strs (zFU n k (i + q))) (i := i) (n := k - i) (i2 := 0) (m := i) (q := q) Y Y Y Y Y Y Y (by show i + (k - i) ≤ (zFU n k i).length; rw [zFt n k i hi]; omega) (by omega) (by show 0 + i ≤ (zFU n k i).length; rw [zFt n k i hi]; omega) (by omega) hq Y Y ?_ (fun i' j hi' hj => ?_) ?_
     · show (zFU n k (i + q)).length = (zFU n k i).length
       rw [zFt n k i hi, zFt n k (i + q) (by omega)]
     · have hi2 : i' < k := by
         have : i' < (zFU n k i).length := hi'
         rwa [zFt n k i hi] at this
       show AV.str ((zFU n k (i + q)).getD i' []) = _
       rw [zJh n k (i + q) i' (by omega) hi2]
       by_cases h0 : i ≤ i' ∧ i' < i + q
       · rw [if_pos h0, if_pos h0.2]
         show _ = AV.str ((zFU n k i).getD (0 + (i' - i)) [])
         rw [zJh n k i _ hi (by omega), if_pos (by omega)]
       · rw [if_neg h0]
         show _ = AV.str ((zFU n k i).getD i' [])
         rw [zJh n k i i' hi hi2]
         by_cases h2 : i' < i
         · rw [if_pos h2, if_pos (by omega)]
         · rw [if_neg h2, if_neg (by omega)]
     repeat (first | refine zC ?_ | refine zo ?_)
     refine zS 8 Y (by kernel_rfl) (by kernel_rfl) (by kernel_rfl) Y (zDZ Y Y (by omega)) Y ?_
     refine zS 9 Y (by kernel_rfl) (by kernel_rfl) (by kernel_rfl) Y (zL Y) Y ?_
     refine zh (by kernel_rfl) ?_
     repeat (refine zf ?_)
     exact zM ⟨i + q, ⟨by omega, by omega⟩, by omega, ⟨Y, Y, trivial⟩, Y⟩
   · have : i = k := by omega
     subst this
     rw [zQZ]
     refine rn5 ?_
     exact zI hR Y ⟨Y, Y⟩
 · rintro r H ⟨rfl, rfl⟩
   refine ⟨?_, fun h o ho => zGX zDX h o ho, 0, Y, fun n => rfl⟩
   intro o ho; simp at ho; subst ho; exact Nat.le_of_eq (by simp [Cells.len])
def zIN (t : zQ) (p : Int) (s : zAK) : Int := if zAv t p ≠ 0 then zAv t p else if zBd t p = true then zAe t (1 - p) s else 10
/-- the best choice of a set -/
def bestC (t : zQ) (p : Int) (o : zAI) (x : Int) : Nat := ((zLV (zBW t p o).2.2 x).getD 0).toNat
def zCL (w c : Nat) : List zBJ := (List.replicate w [48]).set c [49]
def zB8 (t : zQ) (p : Int) (o : zAI) (x : Int) : TChoice := ⟨x, zCL (zR t p x) (bestC t p o x)⟩
def zGA (t : zQ) (p : Int) (o : zAI) : zAK := (zJ t p).map (zB8 t p o)
def zJC (t : zQ) (p : Int) (s : zAK) : Rat := (zBW t p (zA7 t p s)).2.1.getD 0 0
/-- reply.Best -/
def zKK (t : zQ) (p : Int) (s : zAK) : zBJ × zAK × Int :=
 if zIN t p s ≠ 0 then ([], [], zIN t p s) else if (zEZ (zJC t p s)).2 ≠ 0 then ([], [], (zEZ (zJC t p s)).2) else ((zEZ (zJC t p s)).1, zGA t p (zA7 t p s), 0)
def bestA (r : zBJ × zAK × Int) : AV := .tup [.str r.1, .ro (zm r.2.1) 0 r.2.1.length, .int .i64 r.2.2]
theorem bestQ_D {t : zQ} (hv : Valid t) (hm : Go.Ax.Rt.Modest t) {p : Int} {s : zAK} (hp : p = 0 ∨ p = 1) (hpf : zBd t p = true) (hs : StrS t (1 - p) s) : D 974 (zJC t p s) := by
 rcases hp with rfl | rfl
 · exact bestV_D0 hv hm hpf hs.str
 · exact bestV_D1 hv hm hpf hs.str
theorem zLr (c : TChoice) (j : Nat) (hj : j < 2) : (zEG 1 2 [.int .i64 c.info, .ro (.strs c.odds) 0 c.odds.length]).at 0 j = (cellsC c).getD j .any := by
 match j, hj with
 | 0, _ => rfl
 | 1, _ => rfl
theorem zQe (t : zQ) (p : Int) : (zJ t p).length ≤ 10 := by
 unfold zJ
 refine Nat.le_trans (List.length_filter_le _ _) ?_
 simp
theorem best_ok (t : zQ) (p : Int) (s : zAK) (h : Small t [s]) : zW Tryz.prog 18 [.ro (zc t) 0 t.length, .int .i64 p, .ro (zm s) 0 s.length] (bestA (zKK t p s)) := by
 have c1 := zLj t p h.sh
 have hsh := h.sh
 have hss := h.s s (by simp)
 refine zV.value0 (zG (P := Tryz.prog) (fn := Tryz.f18) Y Y (by kernel_rfl) Y (fun c hR hfix => ?_)) (fix := fun _ => False) (fun _ h => h) Y Y
 unfold zKK at hR
 refine rn0 ?_
 refine zB Y Y Y c1 ?_
 refine rn3 ?_
 refine zE Y (fun h1 => ?_) (fun h1 => ?_)
 · have e : zIN t p s = zAv t p := by unfold zIN; rw [if_pos h1]
   rw [e, if_pos h1] at hR
   repeat (first | refine zD (zH rfl) ?_ | refine zD (zL rfl) ?_ | refine zC ?_ | refine zA ?_ | refine zX ?_ | refine zK rfl ?_)
   refine z7 7 (.ro (zm []) 0 0) Y AEq.nil ?_
   refine rn2 ?_
   exact zI hR Y Y
 have g1 := Classical.not_not.1 h1
 have hpe : Valid t ∧ (p = 0 ∨ p = 1) := by
   unfold zAv at g1
   by_cases h2 : zEz t ≠ 0
   · rw [if_pos h2] at g1; exact absurd g1 h2
   rw [if_neg h2] at g1
   refine ⟨zKY (Classical.not_not.1 h2), ?_⟩
   by_cases q : p ≠ 0 ∧ p ≠ 1
   · rw [if_pos q] at g1; cases g1
   · omega
 obtain ⟨hv, hp⟩ := hpe
 have c2 := zLw t p h.sh hv
 refine rn1 ?_
 refine zB Y Y Y c2 ?_
 cases hpf : zBd t p
 · have e : zIN t p s = 10 := by unfold zIN; rw [if_neg h1, if_neg (by rw [hpf]; exact fun q => by cases q)]
   rw [e, if_pos (by decide)] at hR
   repeat (first | refine zD (zL rfl) ?_ | refine zC ?_ | refine zA ?_ | refine zX ?_ | refine zK rfl ?_ | refine zAX rfl ?_ | refine zD (zDy rfl) ?_)
   refine z7 7 (.ro (zm []) 0 0) Y AEq.nil ?_
   refine rn2 ?_
   exact zI hR Y Y
 have eE : zIN t p s = zAe t (1 - p) s := by unfold zIN; rw [if_neg h1, if_pos hpf]
 rw [eE] at hR
 have c3 := zD8 t (1 - p) s h.sh.len hss
 repeat (first | refine zD (zH rfl) ?_ | refine zC ?_ | refine zA ?_ | refine zX ?_ | refine zK rfl ?_ | refine z6 rfl ?_ | refine zl ?_ | refine zD (zDy rfl) ?_ | refine zD (zBo rfl rfl (by omega)) ?_)
 refine zB Y Y Y c3 ?_
 refine rn3 ?_
 refine zE Y (fun h3 => ?_) (fun h3 => ?_)
 · rw [if_pos h3] at hR
   repeat (first | refine zD (zH rfl) ?_ | refine zD (zL rfl) ?_ | refine zC ?_ | refine zA ?_ | refine zX ?_ | refine zK rfl ?_)
   refine z7 7 (.ro (zm []) 0 0) Y AEq.nil ?_
   refine rn2 ?_
   exact zI hR Y Y
 rw [if_neg h3] at hR
 have hs := h.str (s := s) (by simp) (Classical.not_not.1 h3)
 have c4 := zRM t p s h.sh hv h.m hp hs
 have hqD := bestQ_D hv h.m hp hpf hs
 have c5 := zJ2 (zJC t p s) (zCE (hqD.mono (show 974 ≤ 9 * 100000 by decide)))
 have c6 := zIJ t p h.sh.len
 have hlk := fun x hx => zIl hv (p := p) (zA7 t p s) (x := x) hx
 have hin := zQe t p
 have hzl : (zz t p).length = (zJ t p).length := by unfold zz; simp
 have c4 : zW Tryz.prog 73 [.ro (zc t) 0 t.length, .int .i64 p, .ro (zm s) 0 s.length] (.tup [qA (zJC t p s), .rom ((zBW t p (zA7 t p s)).2.2.map keyB) ((zBW t p (zA7 t p s)).2.2.map valB)]) := c4
 generalize zJC t p s = q at *
 refine rn1 ?_
 refine zB Y Y Y c4 ?_
 unfold qA
 refine rn4 ?_
 refine zO (c' := .box (zu q)) Y Y Y Y Y Nat.zero_lt_one Y Y (fun i' j' hi' hj' => ?_) ?_
 · rw [if_pos (Nat.lt_one_iff.1 hi')]; rfl
 refine rn6 ?_
 refine zB Y Y Y c5 ?_
 refine rn3 ?_
 refine zE Y (fun h4 => ?_) (fun h4 => ?_)
 · rw [if_pos h4] at hR
   repeat (first | refine zD (zH rfl) ?_ | refine zD (zL rfl) ?_ | refine zC ?_ | refine zA ?_ | refine zX ?_ | refine zK rfl ?_)
   refine z7 7 (.ro (zm []) 0 0) Y AEq.nil ?_
   refine rn2 ?_
   exact zI hR Y Y
 rw [if_neg h4] at hR
 refine rn1 ?_
 refine zB Y Y Y c6 ?_
 repeat (first | refine zD (zH rfl) ?_ | refine zD (zL rfl) ?_ | refine zC ?_ | refine zA ?_ | refine zX ?_ | refine zK rfl ?_ | refine zD (zBN rfl rfl) ?_ | refine zD (zA9 rfl rfl rfl) ?_)
 refine zA4 17 ⟨67, zm []⟩ Y Y ?_
 repeat (refine zx ?_)
 refine zi (ι := Nat) (fun k => [(12, .rom ((zBW t p (zA7 t p s)).2.2.map keyB) ((zBW t p (zA7 t p s)).2.2.map valB)), (13, .str (zEZ q).1), (16, .ro (.ints .i64 (zz t p)) 0 (zz t p).length), (17, .sl 1 0 k), (60, .ro (.ints .i64 (zJ t p)) 0 (zJ t p).length), (61, .int .i64 ((zJ t p).length : Nat)), (62, .int .i64 (k : Nat))]) (fun k => [some ⟨122, .box (zu q)⟩, some ⟨67, zm (((zJ t p).take k).map (zB8 t p (zA7 t p s)))⟩])
   (fun k => k ≤ (zJ t p).length) (fun k => (zJ t p).length - k) 0 ⟨⟨rfl, rfl, rfl, rfl, rfl, rfl, rfl, trivial⟩, rfl, Nat.zero_le _⟩ ?_
 intro k hk
 refine rn4 ?_
 refine zE Y (fun h => ?_) (fun h => ?_)
 · have hk' : k < (zJ t p).length := by omega
   have hkz : k < (zz t p).length := by omega
   have hxm : (zJ t p).getD k 0 ∈ zJ t p := zAQ 0 hk'
   have hsz : (zz t p).getD k 0 = ((zR t p ((zJ t p).getD k 0) : Nat) : Int) := by
     unfold zz; rw [zBV _ _ 0 _ _ hk']
   obtain ⟨cc, l1, l2, l3⟩ := hlk _ hxm
   have hw6 : zR t p ((zJ t p).getD k 0) ≤ 6 := by
     obtain ⟨j, hj, hsj⟩ := (zBg hv).1 hxm
     rw [zC4 hv hj hsj]; exact hv.few hj
   have hbc : bestC t p (zA7 t p s) ((zJ t p).getD k 0) = cc := by unfold bestC; rw [l1]; rfl
   obtain ⟨jj, hjj⟩ := List.getElem?_of_mem l3
   have i1 : ((zBW t p (zA7 t p s)).2.2.map keyB)[jj]? = some (.int .i64 ((zJ t p).getD k 0)) := by rw [List.getElem?_map, hjj]; rfl
   have i2 : ((zBW t p (zA7 t p s)).2.2.map valB)[jj]? = some (.int .i64 (cc : Nat)) := by rw [List.getElem?_map, hjj]; rfl
   have htk : ((zJ t p).take (k + 1)).map (zB8 t p (zA7 t p s)) = ((zJ t p).take k).map (zB8 t p (zA7 t p s)) ++ [⟨(zJ t p).getD k 0, zCL (zR t p ((zJ t p).getD k 0)) cc⟩] := by
     rw [List.take_succ_eq_append_getElem hk', List.map_append, ← z8 0 hk', ← hbc]; rfl
   have hml : (((zJ t p).take k).map (zB8 t p (zA7 t p s))).length = k := by rw [List.length_map, List.length_take]; omega
   generalize hO2 : ((zJ t p).take (k + 1)).map (zB8 t p (zA7 t p s)) = O2 at *
   generalize ((zJ t p).take k).map (zB8 t p (zA7 t p s)) = O at *
   generalize zR t p ((zJ t p).getD k 0) = w at *
   have crep := zPe [48] w (by omega)
   refine rn6 ?_
   refine zN 71 (.int .i64 (w : Nat)) Y (AEq.of_eq (by rw [hsz])) ?_
   refine zCH Y Y Y crep ?_
   refine rn0 ?_
   refine zD (zBk Y (.int Y) Y Y Y Y (keysB _) jj i1 i2) ?_
   repeat (refine zD (zd rfl rfl rfl rfl rfl (by first | (simp only [Nat.zero_add, Int.toNat_natCast, Int.toNat_zero]; exact rfl) | exact rfl) (by omega)) ?_)
   refine zAp (c' := .strs (zCL w cc)) Y Y Y Y Y Y Y (by show cc < (List.replicate w _).length; rw [List.length_replicate]; exact l2) ?_
   repeat (first | refine zC ?_ | refine zA ?_)
   refine zBQ [some ⟨122, .box (zu q)⟩, some ⟨67, zm O⟩, some ⟨27, .strs (zCL w cc)⟩] Y ?_
   have hul : (zCL w cc).length = w := by unfold zCL; rw [List.length_set, List.length_replicate]
   refine z7 20 (.sl 2 0 w) Y (AEq.of_eq Y) ?_
   refine zAV 2 20 w [(12, .rom ((zBW t p (zA7 t p s)).2.2.map keyB) ((zBW t p (zA7 t p s)).2.2.map valB)), (13, .str (zEZ q).1), (16, .ro (.ints .i64 (zz t p)) 0 (zz t p).length), (17, .sl 1 0 k), (19, .int .i64 ((zJ t p).getD k 0)), (60, .ro (.ints .i64 (zJ t p)) 0 (zJ t p).length), (61, .int .i64 ((zJ t p).length : Nat)), (62, .int .i64 (k : Nat))] Y zDX Y (by show w ≤ (zCL w cc).length; omega) ⟨Y, Y, Y, Y, Y, Y, Y, Y, trivial⟩ ?_
   refine z7 20 (.ro (.strs (zCL w cc)) 0 (zCL w cc).length) Y (AEq.of_eq (by rw [hul])) ?_
   repeat (first | refine zD (zH rfl) ?_ | refine zK rfl ?_ | refine zD (zAU rfl rfl rfl rfl rfl rfl) ?_ | refine zj rfl rfl rfl rfl rfl rfl rfl rfl rfl rfl rfl ?_)
   refine zp Y Y Y Y Y Y Y Y Y hml Y Y (by show 0 + 1 ≤ 1; omega) Y (by show (k + 1) * 32 ≤ _ ∧ _; omega) ?_ (by rw [hfix]; exact fun h => h) ?_
   · intro i' j hi hj
     exact zDA ch0 2 cellsC zCT O ⟨(zJ t p).getD k 0, zCL w cc⟩ _ (zLr ⟨(zJ t p).getD k 0, zCL w cc⟩) 1 i' j hi hj
   repeat (first | refine zD (zL rfl) ?_ | refine zC ?_ | refine zf ?_)
   refine zA ?_
   refine zBu ([some ⟨122, .box (zu q)⟩, some ⟨67, zm O2⟩] ++ [none]) ?_ ?_
   · rw [htk]
     exact zAB.eqv (CEq.refl _) (zAB.eqv (zCx ch0 2 cellsC O ⟨(zJ t p).getD k 0, zCL w cc⟩ _ (zLr ⟨(zJ t p).getD k 0, zCL w cc⟩)) (zAB.drop zAB.nil))
   refine zDq (H1 := [some ⟨122, .box (zu q)⟩, some ⟨67, zm O2⟩]) Y (by rw [hfix]; exact fun h => h) ?_
   refine zBu [some ⟨122, .box (zu q)⟩, some ⟨67, zm O2⟩] ?_ ?_
   · exact zAB.eqv (CEq.refl _) (zAB.eqv ⟨Y, Y, fun i j _ hj => (zCT _ j _ hj).symm⟩ zAB.nil)
   refine rn3 ?_
   exact zM ⟨k + 1, by omega, by omega, ⟨Y, Y, Y, Y, Y, Y, Y, trivial⟩, by rw [hO2]⟩
 · have hke : k = (zJ t p).length := by omega
   subst hke
   rw [List.take_length]
   have hbl : (zGA t p (zA7 t p s)).length = (zJ t p).length := by unfold zGA; rw [List.length_map]
   have hbs : (zJ t p).map (zB8 t p (zA7 t p s)) = zGA t p (zA7 t p s) := rfl
   rw [hbs]
   generalize zGA t p (zA7 t p s) = B at *
   repeat (first | refine zA ?_ | refine zX ?_ | refine zAm ?_ | refine zr ?_ | refine zq ?_ | refine zAD ?_)
   refine zAV 1 17 (zJ t p).length [(13, .str (zEZ q).1)] Y (zCu _) Y (by show _ ≤ B.length; omega) ⟨Y, trivial⟩ ?_
   refine z7 17 (.ro (zm B) 0 B.length) Y (AEq.of_eq (by rw [hbl])) ?_
   refine rn0 ?_
   exact zI hR Y Y
end Go.Proofs.YtnkealfaldjipaaGreatDoor
namespace Go.Ax.Rt
open Go.Ax.Bg Go.Ax.Idx
def zD4 (f : Nat → Rat) (n i : Nat) : List (Option Rat) := (List.range n).map (fun k => if k < i then some (f k) else none)
theorem zCt (f : Nat → Rat) (n i : Nat) : (zD4 f n i).length = n := by unfold zD4; rw [List.length_map, List.length_range]
theorem zIy (f : Nat → Rat) {n k : Nat} (i : Nat) (hk : k < n) : (zD4 f n i).getD k none = if k < i then some (f k) else none := by
 unfold zD4
 rw [zBV _ _ 0 none k (by rw [List.length_range]; exact hk), z8 0 (by rw [List.length_range]; exact hk), List.getElem_range]
theorem zLq (f : Nat → Rat) {n i : Nat} (hi : i < n) : (zD4 f n i).set i (some (f i)) = zD4 f n (i + 1) := by
 refine List.ext_getElem (by rw [List.length_set, zCt, zCt]) (fun k h1 h2 => ?_)
 have hk : k < n := by rwa [List.length_set, zCt] at h1
 rw [← z8 none h1, ← z8 none h2, Go.Ax.Dt.getD_set, zCt, zIy f _ hk, zIy f _ hk]
 by_cases h : k = i
 · subst h; rw [if_pos ⟨rfl, hi⟩, if_pos (by omega)]
 · rw [if_neg (fun q => h q.1)]
   by_cases h3 : k < i
   · rw [if_pos h3, if_pos (by omega)]
   · rw [if_neg h3, if_neg (by omega)]
theorem zJv (f : Nat → Rat) (n : Nat) : zD4 f n 0 = List.replicate n none := by
 refine List.ext_getElem (by rw [zCt, List.length_replicate]) (fun k h1 h2 => ?_)
 have hk : k < n := by rwa [zCt] at h1
 rw [← z8 none h1, zIy f _ hk, if_neg (Nat.not_lt_zero _), List.getElem_replicate]
theorem zLv (f : Nat → Rat) (n : Nat) : zD4 f n n = ((List.range n).map f).map some := by
 unfold zD4
 rw [List.map_map]
 refine List.map_congr_left (fun k hk => ?_)
 rw [if_pos (List.mem_range.1 hk)]; rfl
/-- the weight of a sequence, so far -/
def zJb (q : CPlan → Bool) (l : zBr) (k : Nat) : Rat := zAH 0 (((l.take k).filter q).map (fun a => zAM a.odds))
theorem zRB {q : CPlan → Bool} {l : zBr} {k : Nat} (hk : k < l.length) : zJb q l (k + 1) = if q (l.getD k cp0) = true then zJb q l k + zAM (l.getD k cp0).odds else zJb q l k := by
 unfold zJb
 rw [List.take_succ_eq_append_getElem hk, List.filter_append, ← z8 cp0 hk]
 by_cases h : q (l.getD k cp0) = true
 · rw [if_pos h, List.filter_cons_of_pos h, List.filter_nil, List.map_append]
   exact zFn _ _ _
 · rw [if_neg h, List.filter_cons_of_neg h, List.filter_nil, List.append_nil]
theorem sumW_all (q : CPlan → Bool) (l : zBr) : zJb q l l.length = zAH 0 ((l.filter q).map (fun a => zAM a.odds)) := by
 unfold zJb; rw [List.take_length]
theorem zOl {q : CPlan → Bool} {l : zBr} (h : ∀ a ∈ l, D 2000 (zAM a.odds)) {k : Nat} (hk : k ≤ l.length) : D (1 + k * 2001) (zJb q l k) := by
 unfold zJb
 have h1 := zHx (k := 2000) (l := ((l.take k).filter q).map (fun a => zAM a.odds)) (fun x hx => by
   obtain ⟨a, ha, rfl⟩ := List.mem_map.1 hx
   exact h a (List.mem_of_mem_take (List.mem_filter.1 ha).1)) (acc := 0) (j := 1) ⟨by decide, by decide⟩
 refine h1.mono ?_
 rw [List.length_map]
 have h2 : ((l.take k).filter q).length ≤ k := Nat.le_trans (List.length_filter_le _ _) (by rw [List.length_take]; exact Nat.min_le_left _ _)
 have := Nat.mul_le_mul_right 2001 h2
 omega
def zKr (sq : List RSeq) (W : Nat → Rat) (x : Int) (k : Nat) (o : List Rat) : List Rat :=
 if 0 ≤ (sq.getD k seq0).before ∧ (sq.getD k seq0).info = x ∧ 0 < W (sq.getD k seq0).before.toNat then o.set (sq.getD k seq0).choice.toNat (W k / W (sq.getD k seq0).before.toNat) else o
def zHL (sq : List RSeq) (W : Nat → Rat) (x : Int) (o : List Rat) : Nat → List Rat
 | 0 => o
 | k + 1 => zKr sq W x k (zHL sq W x o k)
theorem zGr (sq : List RSeq) (W : Nat → Rat) (x : Int) (o : List Rat) : ∀ k, (zHL sq W x o k).length = o.length
 | 0 => rfl
 | k + 1 => by
   rw [zHL, zKr]
   split
   · rw [List.length_set, zGr sq W x o k]
   · exact zGr sq W x o k
theorem zNU {t : zQ} (hv : Valid t) {p x : Int} {s b : Nat} (h : BlkX t p x s b) {k : Nat} (hk : k < (zY t p).length) (h0 : 0 ≤ ((zY t p).getD k seq0).before) (hi : ((zY t p).getD k seq0).info = x) : s ≤ k ∧ k < s + zR t p x := by
 have hnd := (RI.all_n hv p t.length (Nat.le_refl _)).nd
 have h1 : 1 ≤ k := by
   rcases Nat.eq_zero_or_pos k with e | e
   · subst e
     rw [(zAw hv p).2.1] at h0
     exact absurd h0 (by decide)
   · exact e
 obtain ⟨y, c, y0, y1, y2, y3, y4, y5, y6, y7⟩ := zHk hv h1 hk
 have h2 := y7 (k - y.2) (by omega)
 rw [show y.2 + (k - y.2) = k by omega] at h2
 rw [h2] at hi
 have hi : y.1 = x := hi
 have e : y = (x, s) := by
   have hm := h.mem
   obtain ⟨i, hi', ei⟩ := List.getElem_of_mem y0
   obtain ⟨j, hj', ej⟩ := List.getElem_of_mem hm
   have : i = j := by
     refine (List.getElem_inj (i := i) (j := j) (h₀ := by rw [List.length_map]; exact hi') (h₁ := by rw [List.length_map]; exact hj') hnd).1 ?_
     rw [List.getElem_map, List.getElem_map, ei, ej]
     exact hi
   subst this
   rw [← ei, ← ej]
 subst e
 exact ⟨y2, y3⟩
theorem zPx {t : zQ} (hv : Valid t) {p x : Int} {s b : Nat} (h : BlkX t p x s b) (W : Nat → Rat) : ∀ k, k ≤ (zY t p).length → ∀ c, c < zR t p x →
   (zHL (zY t p) W x (zA1 (zR t p x) 0) k).getD c 0 = if s + c < k ∧ 0 < W b then W (s + c) / W b else (zA1 (zR t p x) 0).getD c 0
 | 0, _, c, hc => by rw [if_neg (by omega)]; rfl
 | k + 1, hk, c, hc => by
   have ih := zPx hv h W k (by omega) c hc
   rw [zHL, zKr]
   by_cases h0 : 0 ≤ ((zY t p).getD k seq0).before ∧ ((zY t p).getD k seq0).info = x ∧ 0 < W ((zY t p).getD k seq0).before.toNat
   · rw [if_pos h0]
     obtain ⟨b1, b2⟩ := zNU hv h (by omega) h0.1 h0.2.1
     have hs := h.seqs (k - s) (by omega)
     rw [show s + (k - s) = k by omega] at hs
     rw [hs] at h0 ⊢
     have h3 : 0 < W b := h0.2.2
     show ((zHL (zY t p) W x (zA1 (zR t p x) 0) k).set ((k - s : Nat) : Int).toNat (W k / W ((b : Nat) : Int).toNat)).getD c 0 = _
     rw [Int.toNat_natCast, Int.toNat_natCast, Go.Ax.Dt.getD_set, zGr, ih]
     have hu := (zBX h.w1).1
     by_cases e : c = k - s
     · rw [if_pos ⟨e, by omega⟩, if_pos ⟨by omega, h3⟩, e, show s + (k - s) = k by omega]
     · rw [if_neg (fun q => e q.1)]
       by_cases h4 : s + c < k
       · rw [if_pos ⟨h4, h3⟩, if_pos ⟨by omega, h3⟩]
       · rw [if_neg (fun q => h4 q.1), if_neg (by omega)]
   · rw [if_neg h0, ih]
     by_cases h3 : 0 < W b
     · have hne : s + c ≠ k := fun e => by
         have hs := h.seqs c hc
         rw [e] at hs
         rw [hs] at h0
         exact h0 ⟨Int.natCast_nonneg _, Y, h3⟩
       by_cases h4 : s + c < k
       · rw [if_pos ⟨h4, h3⟩, if_pos ⟨by omega, h3⟩]
       · rw [if_neg (fun q => h4 q.1), if_neg (by omega)]
     · rw [if_neg (fun q => h3 q.2), if_neg (fun q => h3 q.2)]
/-- The loop over the sequences makes the strategy at an information set. -/
theorem behN_all {t : zQ} (hv : Valid t) {p x : Int} (hx : x ∈ zJ t p) (W : Nat → Rat) : zHL (zY t p) W x (zA1 (zR t p x) 0) (zY t p).length = zBe t p W x := by
 obtain ⟨s, b, h⟩ := zFM hv hx
 have hu := (zBX h.w1).1
 have hl : (zBe t p W x).length = zR t p x := by
   unfold zBe
   split
   · rw [List.length_map, List.length_range]
   · exact hu
 refine List.ext_getElem (by rw [zGr, hu, hl]) (fun c h1 h2 => ?_)
 have hc : c < zR t p x := by omega
 rw [← z8 0 h1, ← z8 0 h2, zPx hv h W _ (Nat.le_refl _) c hc]
 have hf := h.fin
 by_cases h3 : 0 < W b
 · rw [if_pos ⟨by omega, h3⟩, zGc h W h3 hc]
 · rw [if_neg (fun q => h3 q.2)]
   unfold zBe
   rw [h.start, h.bef, if_neg h3]
theorem behU_D {t : zQ} (hv : Valid t) {p x : Int} {W : Nat → Rat} {K : Nat} (hK : 1 ≤ K) (hW : ∀ k, D K (W k)) (hx : x ∈ zJ t p) : (zBe t p W x).length = zR t p x ∧ ∀ q ∈ zBe t p W x, D (K + K) q := by
 obtain ⟨s, b, h⟩ := zFM hv hx
 have hu := zBX h.w1
 unfold zBe
 split
 · rename_i hb
   refine ⟨by rw [List.length_map, List.length_range], fun q hq => ?_⟩
   obtain ⟨c, _, rfl⟩ := List.mem_map.1 hq
   exact (hW _).div (hW _) (fun e => by rw [e] at hb; exact absurd hb (by decide +kernel))
 · exact ⟨hu.1, fun q hq => (hu.2.2 q hq).2.mono (by omega)⟩
theorem zOs {w : Nat} : (zD4 (fun _ => 0) w w).set 0 (some 1) = (zA1 w 0).map some := by
 rw [zLv]
 unfold zA1
 rw [← List.map_set]
 refine congrArg (fun z => List.map some (List.set z 0 1)) ?_
 exact List.map_const' .. |>.trans (by rw [List.length_range])
theorem stepB_no {sq : List RSeq} {W : Nat → Rat} {x : Int} {k : Nat} {o : List Rat} (h : ¬ (0 ≤ (sq.getD k seq0).before ∧ (sq.getD k seq0).info = x ∧ 0 < W (sq.getD k seq0).before.toNat)) : zKr sq W x k o = o := if_neg h
theorem zQU {sq : List RSeq} {W : Nat → Rat} {x : Int} {k b c : Nat} {o : List Rat} (h : sq.getD k seq0 = ⟨x, (c : Int), (b : Int)⟩) (hb : 0 < W b) : zKr sq W x k o = o.set c (W k / W b) := by
 unfold zKr
 rw [h]
 exact if_pos ⟨Int.natCast_nonneg _, Y, hb⟩
end Go.Ax.Rt
namespace Go.Proofs.YtnkealfaldjipaaGreatDoor
open Go.Ax Go.Ax.Bg Go.Ax.Rt Go.RowKit Go.Ax.Idx Go.Ax.Cd
attribute [local irreducible] Ax zBG QOp zV zA0
set_option maxRecDepth 100000
set_option maxHeartbeats 4000000
theorem seqs_ok {t : zQ} (hv : Valid t) (p : Int) : SeqOk (zJ t p) (zY t p) := by
 refine ⟨fun i hi h0 => ?_, fun i hi h0 => ?_⟩ <;>
 · rcases Nat.eq_zero_or_pos i with e | e
   · subst e
     rw [(zAw hv p).2.1] at h0
     exact absurd h0 (by decide)
   · obtain ⟨x, b, y0, y1, y2, y3, y4, y5, y6, y7⟩ := zHk hv e hi
     have h2 := y7 (i - x.2) (by omega)
     rw [show x.2 + (i - x.2) = i by omega] at h2
     rw [h2]
     first
       | exact y1
       | (show ((b : Nat) : Int) < (i : Int); omega)
theorem posI_eqp (t : zQ) (p : Int) : zJa t p = fun x => (zJ t p).findIdx (eqp x) := by
 funext x
 unfold zJa
 refine congrArg (fun f => (zJ t p).findIdx f) (funext fun y => ?_)
 unfold eqp
 exact decide_eq_decide.2 ⟨Eq.symm, Eq.symm⟩
def mkF (t : zQ) (p : Int) (k : Nat) (a : CPlan) : Bool := zCC (zJa t p) a.choices (zY t p) (zY t p).length k
theorem zL5 (t : zQ) (p : Int) (l : zBr) (k : Nat) : zBP t p l k = zJb (mkF t p k) l l.length := by
 rw [sumW_all]; rfl
theorem zLu {t : zQ} {p : Int} {l : zBr} (h1 : zDJ t p l = 0) (h2 : zBd t p = true) : zIL t p l = if (zJ t p).all (fun x => (zBe t p (zBP t p l) x).all zBK) then (zKQ t p (zBP t p l), 0) else ([], 2) := by
 unfold zIL
 rw [if_neg (fun q => q h1), if_pos h2]
theorem zFA (l : zAK) (n : Nat) : zA2 n (zm l) := by
 intro i j _ hj
 have hj : j < 2 := hj
 show zC2 n ((cellsC (l.getD i ch0)).getD j .any) = true
 match j, hj with
 | 0, _ => rfl
 | 1, _ => rfl
theorem sgn_gt (q : Rat) : decide (0 < sgn q.num) = decide (0 < q) := by
 rw [Bool.eq_iff_iff, decide_eq_true_eq, decide_eq_true_eq]
 have h1 : 0 < sgn q.num ↔ 0 < q.num := by
   unfold sgn
   split
   · rename_i h; simp; omega
   · split
     · rename_i h; simp; omega
     · rename_i h1 h2; simp; omega
 rw [h1, Rat.lt_iff]
 show _ ↔ (0 : Int) * (q.den : Int) < q.num * 1
 omega
theorem zLb (t : zQ) (p : Int) (l : zBr) (hT : ShortT t) (hl : ShortX l) : zW Tryz.prog 36 [.ro (zc t) 0 t.length, .int .i64 p, .ro (mxC l) 0 l.length] (.tup [.ro (zm (zIL t p l).1) 0 (zIL t p l).1.length, .int .i64 (zIL t p l).2]) := by
 have c1 := zIm t p l hT hl
 have hll := hl.len
 refine zV.value0 (zG (P := Tryz.prog) (fn := Tryz.f36) Y Y (by kernel_rfl) Y (fun c hR hfix => ?_)) (fix := fun _ => False) (fun _ h => h) Y Y
 by_cases h1 : zDJ t p l = 0
 case neg =>
   unfold zIL at hR
   rw [if_pos h1] at hR
   generalize zDJ t p l = e at *
   refine rn0 ?_
   refine zB Y Y Y c1 ?_
   refine rn3 ?_
   rw [decide_eq_true (show ¬ e = 0 from h1)]
   repeat (first | refine zD (zH rfl) ?_ | refine zD (zL rfl) ?_ | refine zC ?_ | refine zA ?_ | refine zX ?_ | refine zK rfl ?_ | refine zAX rfl ?_)
   refine z7 6 (.ro (zm []) 0 0) Y AEq.nil ?_
   refine rn2 ?_
   exact zI hR Y Y
 obtain ⟨hpe, hO⟩ := zFg h1
 obtain ⟨hv, _⟩ := zB6 hpe
 have c2 := zLw t p hT hv
 by_cases h2 : zBd t p = true
 case neg =>
   unfold zIL at hR
   rw [if_neg (fun q => q h1), if_neg h2] at hR
   rw [show zBd t p = false by simpa using h2] at c2
   rw [h1] at c1
   refine rn0 ?_
   refine zB Y Y Y c1 ?_
   refine rn4 ?_
   refine zB Y Y Y c2 ?_
   repeat (first | refine zD (zL rfl) ?_ | refine zC ?_ | refine zA ?_ | refine zX ?_ | refine zK rfl ?_ | refine zAX rfl ?_ | refine zD (zDy rfl) ?_)
   refine z7 6 (.ro (zm []) 0 0) Y AEq.nil ?_
   refine rn2 ?_
   exact zI hR Y Y
 rw [zLu h1 h2] at hR
 rw [h2] at c2
 rw [h1] at c1
 have c3 := zIJ t p hT.len
 have cof := of_ok t p hT hv
 have hsq := seqs_ok hv p
 have hpq := posI_eqp t p
 have hfew := zH5 hv p
 have hn0 := (zAw hv p).2.2.1
 obtain ⟨hw1, hw2, hw3⟩ := hO.wgt
 have hwD : ∀ a ∈ l, D 2000 (zAM a.odds) := fun a ha => (hw1 a ha).2.2
 have hIl : (zJ t p).length ≤ 10 := by
   unfold zJ
   exact Nat.le_trans (List.length_filter_le _ _) (by simp)
 have hl128 : l.length ≤ 128 := by
   unfold zDJ at h1
   rw [if_neg (fun q => q hpe)] at h1
   by_cases q : 128 < l.length
   · rw [if_pos q] at h1; cases h1
   · omega
 have hsz : ∀ k, k < (zJ t p).length → (zz t p).getD k 0 = ((zR t p ((zJ t p).getD k 0) : Nat) : Int) := fun k hk => by unfold zz; rw [zBV _ _ 0 _ _ hk]
 have hzl : (zz t p).length = (zJ t p).length := by unfold zz; exact List.length_map _
 have hwd : ∀ x ∈ zJ t p, 1 ≤ zR t p x ∧ zR t p x ≤ 6 := fun x hx => by
   obtain ⟨s, b, g⟩ := zFM hv hx
   exact ⟨g.w1, zH6 hv hx⟩
 have hbeh : ∀ x ∈ zJ t p, zHL (zY t p) (zBP t p l) x (zA1 (zR t p x) 0) (zY t p).length = zBe t p (zBP t p l) x := fun x hx => behN_all hv hx _
 have hch : ∀ k, k < (zY t p).length → 0 ≤ ((zY t p).getD k seq0).before → 0 ≤ ((zY t p).getD k seq0).choice ∧ ((zY t p).getD k seq0).choice.toNat < zR t p ((zY t p).getD k seq0).info := fun k hk h0 => by
   obtain ⟨s, b, g⟩ := zFM hv (hsq.inf k hk h0)
   obtain ⟨g1, g2⟩ := zNU hv g hk h0 rfl
   have g3 := g.seqs (k - s) (by omega)
   rw [show s + (k - s) = k by omega] at g3
   have g4 : ((zY t p).getD k seq0).choice = ((k - s : Nat) : Int) := by rw [g3]
   rw [g4]
   omega
 have hbD : ∀ x ∈ zJ t p, (zBe t p (zBP t p l) x).length = zR t p x ∧ ∀ q ∈ zBe t p (zBP t p l) x, D (256129 + 256129) q := fun x hx => behU_D hv (by decide) (fun k => by
   rw [zL5 t p l k]
   exact (zOl hwD (Nat.le_refl _)).mono (by omega)) hx
 have hbf := hsq.bef
 have hW : ∀ k, zBP t p l k = zJb (mkF t p k) l l.length := zL5 t p l
 have hWD : ∀ k, D 256129 (zBP t p l k) := fun k => by
   rw [hW k]
   exact (zOl hwD (Nat.le_refl _)).mono (by omega)
 have hmk : ∀ a ∈ l, ∀ k, k < (zY t p).length → zW Tryz.prog 107 [.ro (.ints .i64 (zJ t p)) 0 (zJ t p).length, .ro (.ints .i64 a.choices) 0 a.choices.length, .ro (zBa (zY t p)) 0 (zY t p).length, .int .i64 (k : Nat)] (.bool (mkF t p k a)) := fun a ha k hk => by
   have := makes_ok (zJ t p) a.choices (zY t p) (zY t p).length k (by omega) (hO.len a ha) (by omega) hk hk hsq
   unfold mkF
   rw [hpq]
   exact this
 have hcl : ∀ a ∈ l, a.choices.length = (zJ t p).length := hO.len
 have hrE : ∀ a ∈ l, zDa a.odds = 0 := fun a ha => (hw1 a ha).1
 have hod := hl.od
 unfold zKQ at hR
 have hseqs : (zAN t p t.length).seqs = zY t p := rfl
 clear hO hpe h1 h2 hpq hw1 hw2 hw3 hsq hl hT hv
 refine rn0 ?_
 refine zB Y Y Y c1 ?_
 refine rn4 ?_
 refine zB Y Y Y c2 ?_
 refine rn5 ?_
 refine zB Y Y Y c3 ?_
 refine rn2 ?_
 refine zKG Y Y Y cof (fun h hh => absurd hh (Nat.not_lt_zero _)) (fun h hh => absurd hh id) ?_
 rintro r' H' ⟨rfl, rfl⟩
 repeat (first | refine zD (zL rfl) ?_ | refine zC ?_ | refine zA ?_ | refine zX ?_ | refine zD (zT rfl rfl rfl rfl rfl) ?_ | refine zD (zAl rfl) ?_ | refine zD (zP rfl rfl rfl rfl rfl rfl) ?_)
 refine zAV 0 11 (zY t p).length [(2, .ro (mxC l) 0 l.length), (9, .ro (.ints .i64 (zJ t p)) 0 (zJ t p).length), (10, .ro (.ints .i64 (zz t p)) 0 (zz t p).length)] Y (zH2 _) Y (by show (zAN t p t.length).seqs.length ≤ (zAN t p t.length).seqs.length; exact Nat.le_refl _) ⟨Y, Y, Y, trivial⟩ ?_
 refine zAa [] _ [(2, .ro (mxC l) 0 l.length), (9, .ro (.ints .i64 (zJ t p)) 0 (zJ t p).length), (10, .ro (.ints .i64 (zz t p)) 0 (zz t p).length), (11, .ro (zBa (zY t p)) 0 (zY t p).length)] Y ⟨Y, Y, Y, Y, trivial⟩ (fun h hh => by rw [hfix] at hh; exact absurd hh id) (fun h o ho => by simp at ho) Y ?_
 clear cof hseqs c1 c2 c3
 generalize zBe t p (zBP t p l) = bu at *
 generalize zBP t p l = W at *
 generalize mkF t p = mk at *
 generalize zR t p = wd at *
 generalize zJ t p = I at *
 generalize zz t p = Z at *
 generalize zY t p = sq at *
 refine rn3 ?_
 refine zCB Y Y Y Y Y Y Y Y (by show (0 : Int) ≤ _ ∧ _ ≤ _ ∧ (56 : Int) * _ ≤ _ ∧ _; omega) ?_
 refine zAs [some ⟨122, zsC (List.replicate sq.length none)⟩] (zAB.eqv (zJi _) zAB.nil) ?_
 rw [← zJv W sq.length]
 refine rn3 ?_
 refine zi (ι := Nat) (fun i => [(2, .ro (mxC l) 0 l.length), (9, .ro (.ints .i64 I) 0 I.length), (10, .ro (.ints .i64 Z) 0 Z.length), (11, .ro (zBa sq) 0 sq.length), (12, .sl 0 0 sq.length), (52, .int .i64 (sq.length : Nat)), (53, .int .i64 (i : Nat))]) (fun i => [some ⟨122, zsC (zD4 W sq.length i)⟩])
   (fun i => i ≤ sq.length) (fun i => sq.length - i) 0 ⟨⟨rfl, rfl, rfl, rfl, rfl, rfl, rfl, trivial⟩, rfl, Nat.zero_le _⟩ ?_
 intro i hi
 refine rn4 ?_
 refine zE Y (fun h => ?_) (fun h => ?_)
 · have hi' : i < sq.length := by omega
   have hps := zLq W hi'
   have hWi := hW i
   have hpl := zCt W sq.length i
   have hmki := fun a ha => hmk a ha i hi'
   have hsuc := fun k (hk : k < l.length) => zRB (q := mk i) hk
   have hsD := fun k (hk : k ≤ l.length) => zOl (q := mk i) hwD hk
   have h00 : zJb (mk i) l 0 = 0 := rfl
   generalize hA2 : zD4 W sq.length (i + 1) = A2 at *
   generalize zD4 W sq.length i = A at *
   generalize hSW : zJb (mk i) l = SW at *
   have hiA : i < (zsC A).len := by show i < A.length; omega
   refine rn1 ?_
   refine zB Y Y Y zEP ?_
   unfold qA
   repeat (refine zD (zd rfl rfl rfl rfl rfl (by first | (simp only [Nat.zero_add, Int.toNat_natCast, Int.toNat_zero]; exact rfl) | exact rfl) (by omega)) ?_)
   refine zO (c' := zsC (A.set i (some 0))) Y Y Y Y Y hiA (by show (List.set _ _ _).length = A.length; simp) Y (fun i' j' hi' hj' => zCb none 3 zBY A i (some 0) hiA i' j' hi' hj') ?_
   refine rn3 ?_
   rw [← h00]
   refine zi (ι := Nat) (fun k => [(2, .ro (mxC l) 0 l.length), (9, .ro (.ints .i64 I) 0 I.length), (10, .ro (.ints .i64 Z) 0 Z.length), (11, .ro (zBa sq) 0 sq.length), (12, .sl 0 0 sq.length), (52, .int .i64 (sq.length : Nat)), (53, .int .i64 (i : Nat)), (13, .int .i64 (i : Nat)), (60, .ro (mxC l) 0 l.length), (61, .int .i64 (l.length : Nat)), (62, .int .i64 (k : Nat))]) (fun k => [some ⟨122, zsC (A.set i (some (SW k)))⟩])
     (fun k => k ≤ l.length) (fun k => l.length - k) 0 ⟨⟨rfl, rfl, rfl, rfl, rfl, rfl, rfl, rfl, rfl, rfl, rfl, trivial⟩, rfl, Nat.zero_le _⟩ ?_
   intro k hk
   refine rn4 ?_
   refine zE Y (fun h5 => ?_) (fun h5 => ?_)
   · have hk' : k < l.length := by omega
     have hal : l.getD k cp0 ∈ l := zAQ cp0 hk'
     have hsk := hsuc k hk'
     have hD1 := hsD k hk
     have hme := hmki _ hal
     have hcc := hcl _ hal
     have hre := hrE _ hal
     have hoo := hod _ hal
     have hoD := hwD _ hal
     generalize hS2 : SW (k + 1) = S2 at *
     generalize hSk : SW k = S1 at *
     have hB2 : ∀ v, (A.set i (some S1)).set i (some v) = A.set i (some v) := fun v => List.set_set ..
     have hBi : (A.set i (some S1)).getD i none = some S1 := by rw [Go.Ax.Dt.getD_set, if_pos (show i = i ∧ i < A.length from ⟨rfl, hiA⟩)]
     have hBl : i < (zsC (A.set i (some S1))).len := by show i < (A.set i (some S1)).length; rw [List.length_set]; exact hiA
     generalize hB : A.set i (some S1) = B at *
     refine rn6 ?_
     refine zN 65 (.agg (zB3 (l.getD k cp0))) Y (AEq.of_eq Y) ?_
     generalize l.getD k cp0 = a at *
     obtain ⟨cs, od⟩ := a
     simp only at *
     refine zO (c' := .box [.ro (.ints .i64 cs) 0 cs.length, .str od]) Y Y Y Y Y Nat.zero_lt_one Y Y (fun i' j' hi' hj' => ?_) ?_
     · rw [if_pos (Nat.lt_one_iff.1 hi')]; rfl
     refine zAd [some ⟨122, zsC B⟩, some ⟨75, .box [.ro (.ints .i64 cs) 0 cs.length, .str od]⟩] Y ?_
     cases hb : mk i ⟨cs, od⟩ with
     | false =>
       rw [hb] at hme hsk
       rw [if_neg (by decide)] at hsk
       refine rn5 ?_
       refine zB Y Y Y hme ?_
       repeat (refine zC ?_)
       refine zA ?_
       repeat (first | refine z6 rfl ?_ | refine zf ?_ | refine zl ?_)
       refine zA ?_
       refine zAa [some ⟨122, zsC B⟩] [some ⟨75, .box [.ro (.ints .i64 cs) 0 cs.length, .str od]⟩] [(2, .ro (mxC l) 0 l.length), (9, .ro (.ints .i64 I) 0 I.length), (10, .ro (.ints .i64 Z) 0 Z.length), (11, .ro (zBa sq) 0 sq.length), (12, .sl 0 0 sq.length), (52, .int .i64 (sq.length : Nat)), (53, .int .i64 (i : Nat)), (13, .int .i64 (i : Nat)), (60, .ro (mxC l) 0 l.length), (61, .int .i64 (l.length : Nat)), (62, .int .i64 (k : Nat))] Y ⟨Y, Y, Y, Y, Y, Y, Y, Y, Y, Y, Y, trivial⟩ (fun h hh => by rw [hfix] at hh; exact absurd hh id) (zBw (zDz _ _)) Y ?_
       refine rn3 ?_
       exact zM ⟨k + 1, by omega, by omega, ⟨Y, Y, Y, Y, Y, Y, Y, Y, Y, Y, Y, trivial⟩, by rw [hS2, hsk, hB]⟩
     | true =>
       rw [hb] at hme hsk
       rw [if_pos rfl] at hsk
       have cpar := zD5 od hoo hre
       have cadd : zW Tryz.prog 91 [.agg [(zBY (B.getD i none)).getD 0 .any, (zBY (B.getD i none)).getD 1 .any, (zBY (B.getD i none)).getD 2 .any], qA (zAM od)] (qA S2) := by
         rw [hBi, hsk]
         exact zE7 S1 (zAM od) (zCE (hD1.mono (show 1 + k * 2001 ≤ 9 * 100000 by omega))) (zCE (hoD.mono (by decide)))
       refine rn5 ?_
       refine zB Y Y Y hme ?_
       refine rn5 ?_
       refine zk (by kernel_rfl) ?_
       refine zt (fuel := 1) [0, 1, 2, 3, 4, 5, 6, 7, 8, 9, 10] [(2, .ro (mxC l) 0 l.length), (9, .ro (.ints .i64 I) 0 I.length), (10, .ro (.ints .i64 Z) 0 Z.length), (11, .ro (zBa sq) 0 sq.length), (12, .sl 0 0 sq.length), (52, .int .i64 (sq.length : Nat)), (53, .int .i64 (i : Nat)), (13, .int .i64 (i : Nat)), (60, .ro (mxC l) 0 l.length), (61, .int .i64 (l.length : Nat)), (62, .int .i64 (k : Nat)), (15, .ptr 1 0 0)] ⟨Y, Y, Y, Y, Y, Y, Y, Y, Y, Y, Y, Y, trivial⟩ (by kernel_rfl) (by decide) Y Y ?_
       refine zU Y Y (zH Y) ?_
       refine zU Y Y (zH Y) ?_
       refine zU Y Y (zH Y) ?_
       refine zU Y Y (zH Y) ?_
       refine zU Y Y (zd Y Y Y Y Y (by first | (simp only [Nat.zero_add, Int.toNat_natCast, Int.toNat_zero]; exact Y) | exact Y) (by omega)) ?_
       refine zU Y Y (zn Y Y Y Y Y Y Y (by first | exact Nat.zero_lt_one | assumption | omega)) ?_
       refine zU Y Y (zP Y Y Y Y Y Y) ?_
       refine zU Y Y (zT Y Y Y Y Y) ?_
       refine zBR Y Y Y Y Y cpar ?_
       refine zBR Y Y Y Y Y cadd ?_
       refine zU Y Y (zd Y Y Y Y Y (by first | (simp only [Nat.zero_add, Int.toNat_natCast, Int.toNat_zero]; exact Y) | exact Y) (by omega)) ?_
       refine zAZ ?_
       refine zF (is := [11]) (by kernel_rfl) (by simp) Y ⟨fun o ho => ?_, trivial⟩
       all_goals (cases ho)
       skip
       unfold qA
       refine zO (c' := zsC (B.set i (some S2))) Y Y Y Y Y hBl (by show (List.set _ _ _).length = B.length; simp) Y (fun i' j' hi' hj' => zCb none 3 zBY B i (some S2) hBl i' j' hi' hj') ?_
       refine rn1 ?_
       refine zh (by kernel_rfl) ?_
       repeat (refine zf ?_)
       refine zA ?_
       refine zAa [some ⟨122, zsC (B.set i (some S2))⟩] [some ⟨75, .box [.ro (.ints .i64 cs) 0 cs.length, .str od]⟩] [(2, .ro (mxC l) 0 l.length), (9, .ro (.ints .i64 I) 0 I.length), (10, .ro (.ints .i64 Z) 0 Z.length), (11, .ro (zBa sq) 0 sq.length), (12, .sl 0 0 sq.length), (52, .int .i64 (sq.length : Nat)), (53, .int .i64 (i : Nat)), (13, .int .i64 (i : Nat)), (60, .ro (mxC l) 0 l.length), (61, .int .i64 (l.length : Nat)), (62, .int .i64 (k : Nat))] Y ⟨Y, Y, Y, Y, Y, Y, Y, Y, Y, Y, Y, trivial⟩ (fun h hh => by rw [hfix] at hh; exact absurd hh id) (zBw (zDz _ _)) Y ?_
       refine rn3 ?_
       exact zM ⟨k + 1, by omega, by omega, ⟨Y, Y, Y, Y, Y, Y, Y, Y, Y, Y, Y, trivial⟩, by rw [hS2, hB2]⟩
   · have hke : k = l.length := by omega
     subst hke
     rw [← hWi, hps]
     refine rn5 ?_
     exact zM ⟨i + 1, by omega, by omega, ⟨Y, Y, Y, Y, Y, Y, Y, trivial⟩, by rw [hA2]⟩
 · have hie : i = sq.length := by omega
   subst hie
   rw [zLv]
   have hPl : ((List.range sq.length).map W).length = sq.length := by rw [List.length_map, List.length_range]
   have hPW : ∀ k, k < sq.length → ((List.range sq.length).map W).getD k 0 = W k := fun k hk => by
     rw [zBV _ _ 0 0 k (by rw [List.length_range]; exact hk), z8 0 (by rw [List.length_range]; exact hk), List.getElem_range]
   generalize (List.range sq.length).map W = P at *
   repeat (first | refine zA ?_ | refine zX ?_ | refine zAm ?_ | refine zr ?_ | refine zq ?_ | refine zAD ?_)
   refine zBu [some ⟨122, qsC P⟩] (zAB.eqv (zL8 _) zAB.nil) ?_
   refine zAV 0 12 sq.length [(9, .ro (.ints .i64 I) 0 I.length), (10, .ro (.ints .i64 Z) 0 Z.length), (11, .ro (zBa sq) 0 sq.length)] Y (zEp _) Y (by show sq.length ≤ P.length; omega) ⟨Y, Y, Y, trivial⟩ ?_
   refine zDq (H1 := []) Y (by rw [hfix]; exact fun h => h) ?_
   repeat (first | refine zD (zH rfl) ?_ | refine zD (zL rfl) ?_ | refine zC ?_ | refine zA ?_ | refine zX ?_ | refine zK rfl ?_ | refine zD (zA9 rfl rfl rfl) ?_)
   refine zA4 16 ⟨67, zm []⟩ Y Y ?_
   repeat (refine zx ?_)
   refine zi (ι := Nat) (fun k => [(9, .ro (.ints .i64 I) 0 I.length), (10, .ro (.ints .i64 Z) 0 Z.length), (11, .ro (zBa sq) 0 sq.length), (12, .ro (qsC P) 0 sq.length), (16, .sl 0 0 k), (85, .ro (.ints .i64 I) 0 I.length), (86, .int .i64 (I.length : Nat)), (87, .int .i64 (k : Nat))]) (fun k => [some ⟨67, zm ((I.take k).map (fun x => ⟨x, (bu x).map zAJ⟩))⟩])
     (fun k => k ≤ I.length ∧ (I.take k).all (fun x => (bu x).all zBK) = true) (fun k => I.length - k) 0 ⟨⟨rfl, rfl, rfl, rfl, rfl, rfl, rfl, rfl, trivial⟩, rfl, Nat.zero_le _, rfl⟩ ?_
   rintro k ⟨hk, hfit⟩
   refine rn4 ?_
   refine zE Y (fun h => ?_) (fun h => ?_)
   · have hk' : k < I.length := by omega
     have hkz : k < Z.length := by omega
     have hxI : I.getD k 0 ∈ I := zAQ 0 hk'
     have hszk := hsz k hk'
     obtain ⟨hw1, hw6⟩ := hwd _ hxI
     have hbx := hbeh _ hxI
     obtain ⟨hbl, hbd⟩ := hbD _ hxI
     have htk : (I.take (k + 1)).map (fun x => (⟨x, (bu x).map zAJ⟩ : TChoice)) = (I.take k).map (fun x => ⟨x, (bu x).map zAJ⟩) ++ [⟨I.getD k 0, (bu (I.getD k 0)).map zAJ⟩] := by
       rw [List.take_succ_eq_append_getElem hk', List.map_append, ← z8 0 hk']; rfl
     have hfk : (I.take (k + 1)).all (fun x => (bu x).all zBK) = (bu (I.getD k 0)).all zBK := by
       rw [List.take_succ_eq_append_getElem hk', List.all_append, hfit, ← z8 0 hk', Bool.true_and]
       show ((bu (I.getD k 0)).all zBK && true) = _
       rw [Bool.and_true]
     have hml : ((I.take k).map (fun x => (⟨x, (bu x).map zAJ⟩ : TChoice))).length = k := by rw [List.length_map, List.length_take]; omega
     have hbad : (bu (I.getD k 0)).all zBK = false → I.all (fun x => (bu x).all zBK) = false := fun hf => by
       cases hq : I.all (fun x => (bu x).all zBK)
       · rfl
       · rw [List.all_eq_true] at hq
         have := hq _ hxI
         rw [hf] at this; cases this
     generalize hO2 : (I.take (k + 1)).map (fun x => (⟨x, (bu x).map zAJ⟩ : TChoice)) = O2 at *
     generalize (I.take k).map (fun x => (⟨x, (bu x).map zAJ⟩ : TChoice)) = O at *
     refine rn6 ?_
     generalize I.getD k 0 = x at *
     generalize hwx : wd x = w at *
     generalize bu x = bx at *
     refine zN 95 (.int .i64 (w : Nat)) Y (AEq.of_eq (by rw [hszk])) ?_
     refine zCB Y Y Y Y Y Y Y Y (by show (0 : Int) ≤ _ ∧ _ ≤ _ ∧ (56 : Int) * _ ≤ _ ∧ _; omega) ?_
     refine zAs [some ⟨67, zm O⟩, some ⟨122, zsC (List.replicate w none)⟩] (zAB.eqv (CEq.refl _) (zAB.eqv (zJi _) zAB.nil)) ?_
     rw [← zJv (fun _ => 0) w]
     refine rn3 ?_
     refine zi (ι := Nat) (fun c => [(9, .ro (.ints .i64 I) 0 I.length), (10, .ro (.ints .i64 Z) 0 Z.length), (11, .ro (zBa sq) 0 sq.length), (12, .ro (qsC P) 0 sq.length), (16, .sl 0 0 k), (85, .ro (.ints .i64 I) 0 I.length), (86, .int .i64 (I.length : Nat)), (87, .int .i64 (k : Nat)), (18, .int .i64 x), (19, .sl 1 0 w), (98, .int .i64 (w : Nat)), (99, .int .i64 (c : Nat))]) (fun c => [some ⟨67, zm O⟩, some ⟨122, zsC (zD4 (fun _ => 0) w c)⟩])
       (fun c => c ≤ w) (fun c => w - c) 0 ⟨⟨rfl, rfl, rfl, rfl, rfl, rfl, rfl, rfl, rfl, rfl, rfl, rfl, trivial⟩, rfl, Nat.zero_le _⟩ ?_
     intro c hc
     refine rn4 ?_
     refine zE Y (fun h5 => ?_) (fun h5 => ?_)
     · have hc' : c < w := by omega
       have hps := zLq (fun _ => 0) hc'
       have hpl := zCt (fun _ => 0) w c
       generalize hA2 : zD4 (fun _ => 0) w (c + 1) = A2 at *
       generalize zD4 (fun _ => 0) w c = A at *
       have hcA : c < (zsC A).len := by show c < A.length; omega
       refine rn1 ?_
       refine zB Y Y Y zEP ?_
       unfold qA
       repeat (refine zD (zd rfl rfl rfl rfl rfl (by first | (simp only [Nat.zero_add, Int.toNat_natCast, Int.toNat_zero]; exact rfl) | exact rfl) (by omega)) ?_)
       refine zO (c' := zsC (A.set c (some 0))) Y Y Y Y Y hcA (by show (List.set _ _ _).length = A.length; simp) Y (fun i' j' hi' hj' => zCb none 3 zBY A c (some 0) hcA i' j' hi' hj') ?_
       refine rn5 ?_
       exact zM ⟨c + 1, by omega, by omega, ⟨Y, Y, Y, Y, Y, Y, Y, Y, Y, Y, Y, Y, trivial⟩, by rw [hA2, ← hps]; rfl⟩
     · have hce : c = w := by omega
       subst hce
       have hun := zOs (w := c)
       have hpl := zCt (fun _ => 0) c c
       generalize zD4 (fun _ => 0) c c = A at *
       have hcA : 0 < (zsC A).len := by show 0 < A.length; omega
       refine rn5 ?_
       refine zB Y Y Y zKv ?_
       unfold qA
       repeat (refine zD (zd rfl rfl rfl rfl rfl (by first | (simp only [Nat.zero_add, Int.toNat_natCast, Int.toNat_zero]; exact rfl) | exact rfl) (by omega)) ?_)
       refine zO (c' := zsC (A.set 0 (some 1))) Y Y Y Y Y hcA (by show (List.set _ _ _).length = A.length; simp) Y (fun i' j' hi' hj' => zCb none 3 zBY A 0 (some 1) hcA i' j' hi' hj') ?_
       rw [hun]
       refine rn3 ?_
       refine zBQ [some ⟨67, zm O⟩, some ⟨122, zsC ((zHL sq W x (zA1 c 0) 0).map some)⟩] Y ?_
       refine zi (ι := Nat) (fun j => [(9, .ro (.ints .i64 I) 0 I.length), (10, .ro (.ints .i64 Z) 0 Z.length), (11, .ro (zBa sq) 0 sq.length), (12, .ro (qsC P) 0 sq.length), (16, .sl 0 0 k), (85, .ro (.ints .i64 I) 0 I.length), (86, .int .i64 (I.length : Nat)), (87, .int .i64 (k : Nat)), (18, .int .i64 x), (19, .sl 1 0 c), (110, .ro (zBa sq) 0 sq.length), (111, .int .i64 (sq.length : Nat)), (112, .int .i64 (j : Nat))]) (fun j => [some ⟨67, zm O⟩, some ⟨122, zsC ((zHL sq W x (zA1 c 0) j).map some)⟩])
         (fun j => j ≤ sq.length) (fun j => sq.length - j) 0 ⟨⟨rfl, rfl, rfl, rfl, rfl, rfl, rfl, rfl, rfl, rfl, rfl, rfl, rfl, trivial⟩, rfl, Nat.zero_le _⟩ ?_
       intro j hj
       refine rn4 ?_
       refine zE Y (fun h6 => ?_) (fun h6 => ?_)
       · have hj' : j < sq.length := by omega
         have hno := stepB_no (sq := sq) (W := W) (x := x) (k := j) (o := zHL sq W x (zA1 c 0) j)
         have hyes := fun b ch => zQU (sq := sq) (W := W) (x := x) (k := j) (b := b) (c := ch) (o := zHL sq W x (zA1 c 0) j)
         have hst : zHL sq W x (zA1 c 0) (j + 1) = zKr sq W x j (zHL sq W x (zA1 c 0) j) := rfl
         have hbl8 := zGr sq W x (zA1 c 0) j
         rw [(zBX (c := 0) (by omega)).1] at hbl8
         have hchj := hch j hj'
         have hbfj := hbf j hj'
         rw [← hst] at hno hyes
         clear hst
         generalize hB2 : zHL sq W x (zA1 c 0) (j + 1) = B2 at *
         generalize zHL sq W x (zA1 c 0) j = B at *
         refine rn6 ?_
         refine zN 116 (.agg (zFE (sq.getD j seq0))) Y (AEq.of_eq Y) ?_
         generalize sq.getD j seq0 = y at *
         obtain ⟨nf, ch, bf⟩ := y
         simp only at *
         refine zO (c' := .box [.int .i64 nf, .int .i64 ch, .int .i64 bf]) Y Y Y Y Y Nat.zero_lt_one Y Y (fun i' j' hi' hj' => ?_) ?_
         · rw [if_pos (Nat.lt_one_iff.1 hi')]; rfl
         refine zAd [some ⟨67, zm O⟩, some ⟨122, zsC (B.map some)⟩, some ⟨174, .box [.int .i64 nf, .int .i64 ch, .int .i64 bf]⟩] Y ?_
         repeat (first | refine zD (zH rfl) ?_ | refine zC ?_ | refine zA ?_ | refine zX ?_ | refine zK rfl ?_ | refine zD (zT rfl rfl rfl rfl rfl) ?_ | refine zD (zCk rfl rfl) ?_ | refine zD (zP rfl rfl rfl rfl rfl rfl) ?_)
         by_cases g1 : 0 ≤ bf
         case neg =>
           rw [decide_eq_false g1]
           have hno := hno (fun q => g1 q.1)
           repeat (first | refine zD (zH rfl) ?_ | refine zC ?_ | refine zAn rfl rfl rfl ?_ | refine zD (zAg rfl rfl) ?_)
           refine zA ?_
           repeat (first | refine z6 rfl ?_ | refine zf ?_ | refine zl ?_)
           refine zA ?_
           refine zAa [some ⟨67, zm O⟩, some ⟨122, zsC (B.map some)⟩] [some ⟨174, .box [.int .i64 nf, .int .i64 ch, .int .i64 bf]⟩] [(9, .ro (.ints .i64 I) 0 I.length), (10, .ro (.ints .i64 Z) 0 Z.length), (11, .ro (zBa sq) 0 sq.length), (12, .ro (qsC P) 0 sq.length), (16, .sl 0 0 k), (85, .ro (.ints .i64 I) 0 I.length), (86, .int .i64 (I.length : Nat)), (87, .int .i64 (k : Nat)), (18, .int .i64 x), (19, .sl 1 0 c), (110, .ro (zBa sq) 0 sq.length), (111, .int .i64 (sq.length : Nat)), (112, .int .i64 (j : Nat))] Y ⟨Y, Y, Y, Y, Y, Y, Y, Y, Y, Y, Y, Y, Y, trivial⟩ (fun h hh => by rw [hfix] at hh; exact absurd hh id) (zK4 (zFA _ _) (zDz _ _)) Y ?_
           refine rn3 ?_
           exact zM ⟨j + 1, by omega, by omega, ⟨Y, Y, Y, Y, Y, Y, Y, Y, Y, Y, Y, Y, Y, trivial⟩, by rw [hB2, hno]⟩
         rw [decide_eq_true g1]
         refine rn5 ?_
         by_cases g2 : nf = x
         case neg =>
           rw [decide_eq_false g2]
           have hno := hno (fun q => g2 q.2.1)
           repeat (first | refine zC ?_ | refine zAn rfl rfl rfl ?_ | refine zD (zAg rfl rfl) ?_)
           refine zA ?_
           repeat (first | refine z6 rfl ?_ | refine zf ?_ | refine zl ?_)
           refine zA ?_
           refine zAa [some ⟨67, zm O⟩, some ⟨122, zsC (B.map some)⟩] [some ⟨174, .box [.int .i64 nf, .int .i64 ch, .int .i64 bf]⟩] [(9, .ro (.ints .i64 I) 0 I.length), (10, .ro (.ints .i64 Z) 0 Z.length), (11, .ro (zBa sq) 0 sq.length), (12, .ro (qsC P) 0 sq.length), (16, .sl 0 0 k), (85, .ro (.ints .i64 I) 0 I.length), (86, .int .i64 (I.length : Nat)), (87, .int .i64 (k : Nat)), (18, .int .i64 x), (19, .sl 1 0 c), (110, .ro (zBa sq) 0 sq.length), (111, .int .i64 (sq.length : Nat)), (112, .int .i64 (j : Nat))] Y ⟨Y, Y, Y, Y, Y, Y, Y, Y, Y, Y, Y, Y, Y, trivial⟩ (fun h hh => by rw [hfix] at hh; exact absurd hh id) (zK4 (zFA _ _) (zDz _ _)) Y ?_
           refine rn3 ?_
           exact zM ⟨j + 1, by omega, by omega, ⟨Y, Y, Y, Y, Y, Y, Y, Y, Y, Y, Y, Y, Y, trivial⟩, by rw [hB2, hno]⟩
         subst g2
         rw [decide_eq_true rfl]
         obtain ⟨b, rfl⟩ := Int.eq_ofNat_of_zero_le g1
         have hbj : b < sq.length := by have := hbfj g1; omega
         obtain ⟨hc0, hc1⟩ := hchj g1
         obtain ⟨cc, rfl⟩ := Int.eq_ofNat_of_zero_le hc0
         rw [Int.toNat_natCast, hwx] at hc1
         have hPj := hPW j hj'
         have hPb := hPW b hbj
         have cS := zNy (P.getD b 0)
         have gjP : j < P.length := by omega
         have gbP : b < P.length := by omega
         refine rn6 ?_
         refine zB Y Y Y cS ?_
         refine rn6 ?_
         rw [sgn_gt, hPb]
         by_cases g3 : 0 < W b
         case neg =>
           rw [decide_eq_false g3]
           have hno := hno (fun q => g3 q.2.2)
           repeat (first | refine z6 rfl ?_ | refine zf ?_ | refine zl ?_)
           refine zA ?_
           refine zAa [some ⟨67, zm O⟩, some ⟨122, zsC (B.map some)⟩] [some ⟨174, .box [.int .i64 nf, .int .i64 (cc : Nat), .int .i64 (b : Nat)]⟩] [(9, .ro (.ints .i64 I) 0 I.length), (10, .ro (.ints .i64 Z) 0 Z.length), (11, .ro (zBa sq) 0 sq.length), (12, .ro (qsC P) 0 sq.length), (16, .sl 0 0 k), (85, .ro (.ints .i64 I) 0 I.length), (86, .int .i64 (I.length : Nat)), (87, .int .i64 (k : Nat)), (18, .int .i64 nf), (19, .sl 1 0 c), (110, .ro (zBa sq) 0 sq.length), (111, .int .i64 (sq.length : Nat)), (112, .int .i64 (j : Nat))] Y ⟨Y, Y, Y, Y, Y, Y, Y, Y, Y, Y, Y, Y, Y, trivial⟩ (fun h hh => by rw [hfix] at hh; exact absurd hh id) (zK4 (zFA _ _) (zDz _ _)) Y ?_
           refine rn3 ?_
           exact zM ⟨j + 1, by omega, by omega, ⟨Y, Y, Y, Y, Y, Y, Y, Y, Y, Y, Y, Y, Y, trivial⟩, by rw [hB2, hno]⟩
         rw [decide_eq_true g3]
         have hyes := hyes b cc rfl g3
         have cdiv : zW Tryz.prog 108 [qA (P.getD j 0), qA (P.getD b 0)] (qA (W j / W b)) := by
           rw [hPj, hPb]
           exact qdiv_ok (W j) (W b) (zCE ((hWD j).mono (by decide))) (zCE ((hWD b).mono (by decide))) (fun e => by rw [e] at g3; exact absurd g3 (by decide +kernel))
         have hcB : cc < (zsC (B.map some)).len := by show cc < (B.map some).length; rw [List.length_map]; omega
         generalize W j / W b = v at *
         repeat (refine zAX rfl ?_)
         refine zk (by kernel_rfl) ?_
         refine zt (fuel := 1) [0, 1, 2, 3, 4, 5, 6, 7, 8, 9, 10, 11, 12, 13] [(9, .ro (.ints .i64 I) 0 I.length), (10, .ro (.ints .i64 Z) 0 Z.length), (11, .ro (zBa sq) 0 sq.length), (12, .ro (qsC P) 0 sq.length), (16, .sl 0 0 k), (85, .ro (.ints .i64 I) 0 I.length), (86, .int .i64 (I.length : Nat)), (87, .int .i64 (k : Nat)), (18, .int .i64 nf), (19, .sl 1 0 c), (110, .ro (zBa sq) 0 sq.length), (111, .int .i64 (sq.length : Nat)), (112, .int .i64 (j : Nat)), (21, .int .i64 (j : Nat)), (22, .ptr 2 0 0)] ⟨Y, Y, Y, Y, Y, Y, Y, Y, Y, Y, Y, Y, Y, Y, Y, trivial⟩ (by kernel_rfl) (by decide) Y Y ?_
         refine zU Y Y (zH Y) ?_
         refine zU Y Y (zP Y Y Y Y Y Y) ?_
         refine zU Y Y (zT Y Y Y Y Y) ?_
         refine zU Y Y (zH Y) ?_
         refine zU Y Y (zH Y) ?_
         refine zU Y Y (ze Y Y Y Y (by first | (simp only [Nat.zero_add, Int.toNat_natCast, Int.toNat_zero]; exact Y) | exact Y) (by omega)) ?_
         refine zU Y Y (zBS Y Y Y Y Y Y) ?_
         refine zU Y Y (zH Y) ?_
         refine zU Y Y (zP Y Y Y Y Y Y) ?_
         refine zU Y Y (zT Y Y Y Y Y) ?_
         refine zU Y Y (ze Y Y Y Y (by first | (simp only [Nat.zero_add, Int.toNat_natCast, Int.toNat_zero]; exact Y) | exact Y) (by omega)) ?_
         refine zU Y Y (zBS Y Y Y Y Y Y) ?_
         refine zBR Y Y Y Y Y cdiv ?_
         refine zU Y Y (zd Y Y Y Y Y (by first | (simp only [Nat.zero_add, Int.toNat_natCast, Int.toNat_zero]; exact Y) | exact Y) (by omega)) ?_
         refine zAZ ?_
         refine zF (is := [14]) (by kernel_rfl) (by simp) Y ⟨fun o ho => ?_, trivial⟩
         all_goals (cases ho)
         skip
         unfold qA
         refine zO (c' := zsC ((B.map some).set cc (some v))) Y Y Y Y Y hcB (by show (List.set _ _ _).length = (B.map some).length; simp) Y (fun i' j' hi' hj' => zCb none 3 zBY (B.map some) cc (some v) hcB i' j' hi' hj') ?_
         refine rn1 ?_
         refine zh (by kernel_rfl) ?_
         repeat (refine zf ?_)
         refine zA ?_
         refine zAa [some ⟨67, zm O⟩, some ⟨122, zsC ((B.map some).set cc (some v))⟩] [some ⟨174, .box [.int .i64 nf, .int .i64 (cc : Nat), .int .i64 (b : Nat)]⟩] [(9, .ro (.ints .i64 I) 0 I.length), (10, .ro (.ints .i64 Z) 0 Z.length), (11, .ro (zBa sq) 0 sq.length), (12, .ro (qsC P) 0 sq.length), (16, .sl 0 0 k), (85, .ro (.ints .i64 I) 0 I.length), (86, .int .i64 (I.length : Nat)), (87, .int .i64 (k : Nat)), (18, .int .i64 nf), (19, .sl 1 0 c), (110, .ro (zBa sq) 0 sq.length), (111, .int .i64 (sq.length : Nat)), (112, .int .i64 (j : Nat))] Y ⟨Y, Y, Y, Y, Y, Y, Y, Y, Y, Y, Y, Y, Y, trivial⟩ (fun h hh => by rw [hfix] at hh; exact absurd hh id) (zK4 (zFA _ _) (zDz _ _)) Y ?_
         refine rn3 ?_
         exact zM ⟨j + 1, by omega, by omega, ⟨Y, Y, Y, Y, Y, Y, Y, Y, Y, Y, Y, Y, Y, trivial⟩, by rw [hB2, hyes, List.map_set]⟩
       · have hje : j = sq.length := by omega
         subst hje
         rw [hbx]
         have hbSz : ∀ q ∈ bx, Sz 100000 q := fun q hq => zCE ((hbd q hq).mono (show 256129 + 256129 ≤ 9 * 100000 by decide))
         have hbxl : bx.length = c := by omega
         obtain ⟨r, co, hr⟩ := zLS bx (by omega) hbSz
         unfold zCA at co hr
         repeat (first | refine zA ?_ | refine zX ?_ | refine zAm ?_ | refine zr ?_ | refine zq ?_ | refine zAD ?_)
         refine zBu [some ⟨67, zm O⟩, some ⟨122, qsC bx⟩] (zAB.eqv (CEq.refl _) (zAB.eqv (zL8 _) zAB.nil)) ?_
         refine zAV 1 19 c [(9, .ro (.ints .i64 I) 0 I.length), (10, .ro (.ints .i64 Z) 0 Z.length), (11, .ro (zBa sq) 0 sq.length), (12, .ro (qsC P) 0 sq.length), (16, .sl 0 0 k), (85, .ro (.ints .i64 I) 0 I.length), (86, .int .i64 (I.length : Nat)), (87, .int .i64 (k : Nat)), (18, .int .i64 x)] Y (zEp _) Y (by show c ≤ bx.length; omega) ⟨Y, Y, Y, Y, Y, Y, Y, Y, Y, trivial⟩ ?_
         refine z7 19 (.ro (qsC bx) 0 bx.length) Y (AEq.of_eq (by rw [hbxl])) ?_
         cases hf : bx.all zBK with
         | false =>
           rw [hf, if_neg (by decide)] at co
           rw [if_neg (by rw [hbad hf]; decide)] at hR
           refine rn0 ?_
           refine zB Y Y Y co ?_
           repeat (first | refine zD (zH rfl) ?_ | refine zD (zL rfl) ?_ | refine zC ?_ | refine zA ?_ | refine zX ?_ | refine zK rfl ?_ | refine zAX rfl ?_ | refine zD (zD6 rfl rfl) ?_ | refine zD (zBN rfl rfl) ?_)
           refine z7 6 (.ro (zm []) 0 0) Y AEq.nil ?_
           refine rn6 ?_
           exact zI hR Y Y
         | true =>
           rw [hf, if_pos rfl] at co hr
           have hr : AEq r (.ro (.strs (bx.map zAJ)) 0 (bx.map zAJ).length) := hr
           rw [hf] at hfk
           generalize bx.map zAJ = T at *
           refine rn0 ?_
           refine zB Y Y Y co ?_
           repeat (first | refine zD (zH rfl) ?_ | refine zD (zL rfl) ?_ | refine zC ?_ | refine zA ?_ | refine zX ?_ | refine zD (zBN rfl rfl) ?_)
           refine z7 23 (.ro (.strs T) 0 T.length) Y hr ?_
           repeat (first | refine zD (zH rfl) ?_ | refine zC ?_ | refine zA ?_ | refine zK rfl ?_ | refine z6 rfl ?_ | refine zl ?_ | refine zD (zD6 rfl rfl) ?_ | refine zD (zAU rfl rfl rfl rfl rfl rfl) ?_ | refine zj rfl rfl rfl rfl rfl rfl rfl rfl rfl rfl rfl ?_)
           refine zp Y Y Y Y Y Y Y Y Y hml Y Y (by show 0 + 1 ≤ 1; omega) Y (by show (k + 1) * 32 ≤ _ ∧ _; omega) ?_ (by rw [hfix]; exact fun h => h) ?_
           · intro i' j hi hj
             exact zDA ch0 2 cellsC zCT O ⟨x, T⟩ _ (zLr ⟨x, T⟩) 0 i' j hi hj
           repeat (first | refine zD (zL rfl) ?_ | refine zC ?_ | refine zf ?_)
           refine zA ?_
           refine zBu ([some ⟨67, zm O2⟩] ++ [none]) ?_ ?_
           · rw [htk]
             exact zAB.eqv (zCx ch0 2 cellsC O ⟨x, T⟩ _ (zLr ⟨x, T⟩)) (zAB.drop zAB.nil)
           refine zDq (H1 := [some ⟨67, zm O2⟩]) Y (by rw [hfix]; exact fun h => h) ?_
           refine zBu [some ⟨67, zm O2⟩] ?_ ?_
           · exact zAB.eqv ⟨Y, Y, fun i j _ hj => (zCT _ j _ hj).symm⟩ zAB.nil
           refine rn3 ?_
           exact zM ⟨k + 1, ⟨by omega, hfk⟩, by omega, ⟨Y, Y, Y, Y, Y, Y, Y, Y, trivial⟩, by rw [hO2]⟩
   · have hke : k = I.length := by omega
     subst hke
     rw [List.take_length] at hfit
     rw [List.take_length]
     rw [if_pos hfit] at hR
     have hRl : (I.map (fun x => (⟨x, (bu x).map zAJ⟩ : TChoice))).length = I.length := List.length_map _
     generalize I.map (fun x => (⟨x, (bu x).map zAJ⟩ : TChoice)) = R at *
     repeat (first | refine zA ?_ | refine zX ?_ | refine zAm ?_ | refine zr ?_ | refine zq ?_ | refine zAD ?_)
     refine zAV 0 16 I.length [] Y (zCu _) Y (by show _ ≤ R.length; omega) trivial ?_
     refine z7 16 (.ro (zm R) 0 R.length) Y (AEq.of_eq (by rw [hRl])) ?_
     refine rn0 ?_
     exact zI hR Y Y
def zIF (I : List Int) (wd : Int → Nat) (cs : List Int) (m : Nat) : zAK := (List.range m).map (fun k => ⟨I.getD k 0, zCL (wd (I.getD k 0)) (cs.getD k 0).toNat⟩)
theorem zOb (I : List Int) (wd : Int → Nat) (cs : List Int) (m : Nat) : zIF I wd cs (m + 1) = zIF I wd cs m ++ [⟨I.getD m 0, zCL (wd (I.getD m 0)) (cs.getD m 0).toNat⟩] := by
 unfold zIF
 rw [List.range_succ, List.map_append]; rfl
theorem zQn (I : List Int) (wd : Int → Nat) (cs : List Int) (m : Nat) : (zIF I wd cs m).length = m := by unfold zIF; rw [List.length_map, List.length_range]
theorem zQg (t : zQ) (p : Int) (cs : List Int) : zIF (zJ t p) (zR t p) cs (zJ t p).length = zCK t p cs := by
 unfold zIF zCK
 refine List.ext_getElem (by rw [List.length_map, List.length_range, List.length_map]) (fun k h1 h2 => ?_)
 have hk : k < (zJ t p).length := by rwa [List.length_map, List.length_range] at h1
 rw [List.getElem_map, List.getElem_map, List.getElem_range, z8 0 hk]
 have := zOS t p hk
 rw [z8 0 hk] at this
 rw [this]; rfl
def zIR (f : CPlan → Rat) (l : zBr) (k : Nat) : Rat := zAH 0 ((l.take k).map f)
theorem zRP {f : CPlan → Rat} {l : zBr} {k : Nat} (hk : k < l.length) : zIR f l (k + 1) = zIR f l k + f (l.getD k cp0) := by
 unfold zIR
 rw [List.take_succ_eq_append_getElem hk, List.map_append, ← z8 cp0 hk]
 exact zFn _ _ _
theorem payK_all (f : CPlan → Rat) (l : zBr) : zIR f l l.length = zAH 0 (l.map f) := by unfold zIR; rw [List.take_length]
theorem payK_D {f : CPlan → Rat} {l : zBr} {K : Nat} (h : ∀ a ∈ l, D K (f a)) {k : Nat} (hk : k ≤ l.length) : D (1 + k * (K + 1)) (zIR f l k) := by
 unfold zIR
 have h1 := zHx (k := K) (l := (l.take k).map f) (fun x hx => by
   obtain ⟨a, ha, rfl⟩ := List.mem_map.1 hx
   exact h a (List.mem_of_mem_take ha)) (acc := 0) (j := 1) ⟨by decide, by decide⟩
 refine h1.mono ?_
 rw [List.length_map, List.length_take, Nat.min_eq_left hk]
 exact Nat.le_refl _
theorem zLK {t : zQ} {p : Int} {l : zBr} (hv : Valid t) (hO : OkM t p l) {a : CPlan} (ha : a ∈ l) : StrS t p (zCK t p a.choices) := by
 obtain ⟨h1, h2, h3⟩ := zNf hv hO ha
 have hk := zCs h1
 refine ⟨⟨?_, fun c hc => ⟨?_, fun s hs => ?_⟩⟩, hk, h2⟩
 · have : (zCK t p a.choices).length = (zJ t p).length := by unfold zCK; exact List.length_map _
   have h4 : (zJ t p).length ≤ 10 := by
     unfold zJ
     exact Nat.le_trans (List.length_filter_le _ _) (by simp)
   omega
 · have := (zBh (hk.odds c hc)).1
   omega
 · have := h2 c hc s hs
   omega
/-- the opponent's strategy has short texts -/
theorem pay_D {t : zQ} {p : Int} {l : zBr} {o : zAK} (hv : Valid t) (hm : Go.Ax.Rt.Modest t) (hp : p = 0 ∨ p = 1) (hO : OkM t p l) (ho : StrS t (1 - p) o) {a : CPlan} (ha : a ∈ l) : D 974 (zAj t (zAR t (zC0 p (zCK t p a.choices) o) (zC1 p (zCK t p a.choices) o))) := by
 have hs := zLK hv hO ha
 rcases hp with rfl | rfl
 · exact zIK hv (zFa hv hm hs.str ho.str) hm.len (hm.pays hv)
 · exact zIK hv (zFa hv hm ho.str hs.str) hm.len (hm.pays hv)
theorem pay_of {t : zQ} {p : Int} {l : zBr} {o : zAK} (hT : ShortT t) (hv : Valid t) (hm : Go.Ax.Rt.Modest t) (hp : p = 0 ∨ p = 1) (hO : OkM t p l) (ho : StrS t (1 - p) o) {a : CPlan} (ha : a ∈ l) :
   zW Tryz.prog 77 [.ro (zc t) 0 t.length, .ro (zm (zC0 p (zCK t p a.choices) o)) 0 (zC0 p (zCK t p a.choices) o).length, .ro (zm (zC1 p (zCK t p a.choices) o)) 0 (zC1 p (zCK t p a.choices) o).length] (qA (zAj t (zAR t (zC0 p (zCK t p a.choices) o) (zC1 p (zCK t p a.choices) o)))) := by
 have hs := zLK hv hO ha
 rcases hp with rfl | rfl
 · exact zOT t _ _ hT hv hm hs ho
 · exact zOT t _ _ hT hv hm ho hs
theorem zJ7 (q : Rat) (n : Nat) : zA2 n (.box (zu q)) := by
 intro i j _ hj
 have hj : j < 3 := hj
 match j, hj with
 | 0, _ => rfl
 | 1, _ => rfl
 | 2, _ => rfl
theorem pay_ok (t : zQ) (p : Int) (l : zBr) (o : zAK) (hT : ShortT t) (hm : Go.Ax.Rt.Modest t) (hl : ShortX l) (hs : ShortS o) (hd : ∀ c ∈ o, ∀ r ∈ c.odds, r.length ≤ 12) : zW Tryz.prog 47 [.ro (zc t) 0 t.length, .int .i64 p, .ro (mxC l) 0 l.length, .ro (zm o) 0 o.length] (zJB (zIf t p l o)) := by
 have c1 := zIm t p l hT hl
 have hll := hl.len
 refine zV.value0 (zG (P := Tryz.prog) (fn := Tryz.f47) Y Y (by kernel_rfl) Y (fun c hR hfix => ?_)) (fix := fun _ => False) (fun _ h => h) Y Y
 unfold zIf at hR
 by_cases h1 : zDJ t p l = 0
 case neg =>
   rw [if_pos h1] at hR
   generalize zDJ t p l = e at *
   refine rn0 ?_
   refine zB Y Y Y c1 ?_
   refine rn3 ?_
   rw [decide_eq_true (show ¬ e = 0 from h1)]
   refine rn5 ?_
   exact zI hR Y Y
 obtain ⟨hpe, hO⟩ := zFg h1
 obtain ⟨hv, hp⟩ := zB6 hpe
 rw [if_neg (fun q => q h1)] at hR
 rw [h1] at c1
 have c2 := zD8 t (1 - p) o hT.len hs
 have hpb : -9223372036854775808 ≤ 1 - p ∧ 1 - p ≤ 9223372036854775807 := by omega
 by_cases h2 : zAe t (1 - p) o = 0
 case neg =>
   rw [if_pos h2] at hR
   generalize zAe t (1 - p) o = e at *
   refine rn0 ?_
   refine zB Y Y Y c1 ?_
   repeat (first | refine zD (zH rfl) ?_ | refine zD (zL rfl) ?_ | refine zC ?_ | refine zA ?_ | refine zX ?_ | refine zK rfl ?_ | refine z6 rfl ?_ | refine zl ?_ | refine zD (zD6 rfl rfl) ?_ | refine zD (zBo rfl rfl (by omega)) ?_)
   refine zB Y Y Y c2 ?_
   refine rn3 ?_
   rw [decide_eq_true (show ¬ e = 0 from h2)]
   refine rn5 ?_
   exact zI hR Y Y
 rw [if_neg (fun q => q h2)] at hR
 rw [h2] at c2
 have ho : StrS t (1 - p) o := ⟨hs, zCs h2, hd⟩
 have c3 := zIJ t p hT.len
 have hof := fun a (ha : a ∈ l) => pay_of hT hv hm hp hO ho ha
 have hvD := fun a (ha : a ∈ l) => pay_D hv hm hp hO ho ha
 obtain ⟨hw1, hw2, hw3⟩ := hO.wgt
 have hpv : ∀ a, zJY t p o a = zAj t (zAR t (zC0 p (zCK t p a.choices) o) (zC1 p (zCK t p a.choices) o)) * zAM a.odds := fun a => rfl
 have hfD : ∀ a ∈ l, D 2974 (zJY t p o a) := fun a ha => by
   rw [hpv]
   exact ((hvD a ha).mul (hw1 a ha).2.2)
 have hl128 : l.length ≤ 128 := by
   unfold zDJ at h1
   rw [if_neg (fun q => q hpe)] at h1
   by_cases q : 128 < l.length
   · rw [if_pos q] at h1; cases h1
   · omega
 have hIl : (zJ t p).length ≤ 10 := by
   unfold zJ
   exact Nat.le_trans (List.length_filter_le _ _) (by simp)
 have hsz : ∀ k, k < (zJ t p).length → (zz t p).getD k 0 = ((zR t p ((zJ t p).getD k 0) : Nat) : Int) := fun k hk => by unfold zz; rw [zBV _ _ 0 _ _ hk]
 have hzl : (zz t p).length = (zJ t p).length := by unfold zz; exact List.length_map _
 have hwd : ∀ x ∈ zJ t p, 1 ≤ zR t p x ∧ zR t p x ≤ 6 := fun x hx => by
   obtain ⟨s, b, g⟩ := zFM hv hx
   exact ⟨g.w1, zH6 hv hx⟩
 have hcl := hO.len
 have hrn := hO.ran
 have hrE : ∀ a ∈ l, zDa a.odds = 0 ∧ D 2000 (zAM a.odds) := fun a ha => ⟨(hw1 a ha).1, (hw1 a ha).2.2⟩
 have hod := hl.od
 have hpk := zQg t p
 have hq0 := fun k (hk : k ≤ l.length) => payK_D hfD hk
 have hqs := fun k (hk : k < l.length) => zRP (f := zJY t p o) hk
 have hqa : zIR (zJY t p o) l l.length = payQ t p l o := payK_all _ _
 have h00 : zIR (zJY t p o) l 0 = 0 := rfl
 rw [← hqa] at hR
 clear hqa hw1 hw2 hw3 hfD hO ho hl h1 h2 hpe
 refine rn0 ?_
 refine zB Y Y Y c1 ?_
 repeat (first | refine zD (zH rfl) ?_ | refine zD (zL rfl) ?_ | refine zC ?_ | refine zA ?_ | refine zX ?_ | refine zK rfl ?_ | refine z6 rfl ?_ | refine zl ?_ | refine zD (zD6 rfl rfl) ?_ | refine zD (zBo rfl rfl (by omega)) ?_)
 refine zB Y Y Y c2 ?_
 refine rn4 ?_
 refine zB Y Y Y c3 ?_
 refine rn2 ?_
 refine zB Y Y Y zEP ?_
 unfold qA
 repeat (refine zBD rfl rfl rfl ?_)
 refine zO (c' := .box (zu 0)) Y Y Y Y Y Nat.zero_lt_one Y Y (fun i' j' hi' hj' => ?_) ?_
 · rw [if_pos (Nat.lt_one_iff.1 hi')]; rfl
 refine rn3 ?_
 rw [← h00]
 refine zi (ι := Nat) (fun k => [(0, .ro (zc t) 0 t.length), (1, .int .i64 p), (3, .ro (zm o) 0 o.length), (12, .ro (.ints .i64 (zJ t p)) 0 (zJ t p).length), (13, .ro (.ints .i64 (zz t p)) 0 (zz t p).length), (14, .ptr 0 0 0), (45, .ro (mxC l) 0 l.length), (46, .int .i64 (l.length : Nat)), (47, .int .i64 (k : Nat))]) (fun k => [some ⟨122, .box (zu (zIR (zJY t p o) l k))⟩])
   (fun k => k ≤ l.length) (fun k => l.length - k) 0 ⟨⟨rfl, rfl, rfl, rfl, rfl, rfl, rfl, rfl, rfl, trivial⟩, rfl, Nat.zero_le _⟩ ?_
 intro k hk
 refine rn4 ?_
 refine zE Y (fun h => ?_) (fun h => ?_)
 · have hk' : k < l.length := by omega
   have hal : l.getD k cp0 ∈ l := zAQ cp0 hk'
   have hq1 := hqs k hk'
   rw [hpv] at hq1
   have hD1 := hq0 k hk
   have hD2 := hvD _ hal
   have hofk := hof _ hal
   obtain ⟨hre, hoD⟩ := hrE _ hal
   have hoo := hod _ hal
   have hcc := hcl _ hal
   have hrr := hrn _ hal
   have hpk' := hpk (l.getD k cp0).choices
   have hsu := zOb (zJ t p) (zR t p) (l.getD k cp0).choices
   have hsl := zQn (zJ t p) (zR t p) (l.getD k cp0).choices
   generalize hq2 : zIR (zJY t p o) l (k + 1) = q2 at *
   generalize zIR (zJY t p o) l k = q1 at *
   refine rn6 ?_
   refine zN 50 (.agg (zB3 (l.getD k cp0))) Y (AEq.of_eq Y) ?_
   generalize l.getD k cp0 = a at *
   obtain ⟨cs, od⟩ := a
   simp only at *
   have hK0 : zIF (zJ t p) (zR t p) cs 0 = [] := rfl
   generalize zIF (zJ t p) (zR t p) cs = PK at *
   refine zO (c' := .box [.ro (.ints .i64 cs) 0 cs.length, .str od]) Y Y Y Y Y Nat.zero_lt_one Y Y (fun i' j' hi' hj' => ?_) ?_
   · rw [if_pos (Nat.lt_one_iff.1 hi')]; rfl
   refine zAd [some ⟨122, .box (zu q1)⟩, some ⟨75, .box [.ro (.ints .i64 cs) 0 cs.length, .str od]⟩] Y ?_
   repeat (first | refine zD (zH rfl) ?_ | refine zD (zL rfl) ?_ | refine zC ?_ | refine zA ?_ | refine zX ?_ | refine zK rfl ?_ | refine zD (zT rfl rfl rfl rfl rfl) ?_ | refine zD (zA9 rfl rfl rfl) ?_ | refine zD (zP rfl rfl rfl rfl rfl rfl) ?_)
   refine zx ?_
   skip
   refine zA4 17 ⟨67, zm []⟩ Y Y ?_
   skip
   refine zBQ [some ⟨122, .box (zu q1)⟩, some ⟨75, .box [.ro (.ints .i64 cs) 0 cs.length, .str od]⟩, some ⟨67, zm (PK 0)⟩] (by rw [hK0]; rfl) ?_
   refine zi (ι := Nat) (fun m => [(0, .ro (zc t) 0 t.length), (1, .int .i64 p), (3, .ro (zm o) 0 o.length), (12, .ro (.ints .i64 (zJ t p)) 0 (zJ t p).length), (13, .ro (.ints .i64 (zz t p)) 0 (zz t p).length), (14, .ptr 0 0 0), (45, .ro (mxC l) 0 l.length), (46, .int .i64 (l.length : Nat)), (47, .int .i64 (k : Nat)), (16, .ptr 1 0 0), (17, .sl 2 0 m), (52, .ro (.ints .i64 cs) 0 cs.length), (53, .int .i64 (cs.length : Nat)), (54, .int .i64 (m : Nat))]) (fun m => [some ⟨122, .box (zu q1)⟩, some ⟨75, .box [.ro (.ints .i64 cs) 0 cs.length, .str od]⟩, some ⟨67, zm (PK m)⟩])
     (fun m => m ≤ cs.length) (fun m => cs.length - m) 0 ⟨⟨rfl, rfl, rfl, rfl, rfl, rfl, rfl, rfl, rfl, rfl, rfl, rfl, rfl, rfl, trivial⟩, rfl, Nat.zero_le _⟩ ?_
   intro m hm
   refine rn4 ?_
   refine zE Y (fun h5 => ?_) (fun h5 => ?_)
   · have hm' : m < (zJ t p).length := by omega
     have hmc : m < cs.length := by omega
     have hmz : m < (zz t p).length := by omega
     obtain ⟨hx0, hx1⟩ := hrr m hm'
     obtain ⟨x, hx⟩ := Int.eq_ofNat_of_zero_le hx0
     have hsm := hsu m
     rw [hx, Int.toNat_natCast] at hx1 hsm
     have hszm := hsz m hm'
     obtain ⟨hw1, hw6⟩ := hwd _ (zAQ 0 hm')
     have hml := hsl m
     generalize hP2 : PK (m + 1) = P2 at *
     generalize PK m = P1 at *
     generalize hwx : zR t p ((zJ t p).getD m 0) = w at *
     have crep := zPe [48] w (by omega)
     have hul : (zCL w x).length = w := by unfold zCL; rw [List.length_set, List.length_replicate]
     repeat (first | refine zA ?_ | refine zX ?_ | refine zx ?_ | refine zl ?_)
     refine zK Y ?_
     repeat (first | refine zD (zH rfl) ?_ | refine zD (zL rfl) ?_ | refine zD (zAi rfl rfl rfl) ?_ | refine zC ?_ | refine zA ?_ | refine zX ?_ | refine zD (ze rfl rfl rfl rfl (by first | (simp only [Nat.zero_add, Int.toNat_natCast, Int.toNat_zero]; exact rfl) | exact rfl) (by omega)) ?_)
     refine z7 19 (.int .i64 (x : Nat)) Y (AEq.of_eq (by rw [hx])) ?_
     refine rn6 ?_
     refine zN 63 (.int .i64 (w : Nat)) Y (AEq.of_eq (by rw [hszm])) ?_
     refine zCH Y Y Y crep ?_
     refine rn6 ?_
     refine zAp (c' := .strs (zCL w x)) Y Y Y Y Y Y Y (by show x < (List.replicate w _).length; rw [List.length_replicate]; exact hx1) ?_
     repeat (first | refine zC ?_ | refine zA ?_)
     refine zBQ [some ⟨122, .box (zu q1)⟩, some ⟨75, .box [.ro (.ints .i64 cs) 0 cs.length, .str od]⟩, some ⟨67, zm P1⟩, some ⟨27, .strs (zCL w x)⟩] Y ?_
     refine z7 20 (.sl 3 0 w) Y (AEq.of_eq Y) ?_
     refine zAV 3 20 w [(0, .ro (zc t) 0 t.length), (1, .int .i64 p), (3, .ro (zm o) 0 o.length), (12, .ro (.ints .i64 (zJ t p)) 0 (zJ t p).length), (13, .ro (.ints .i64 (zz t p)) 0 (zz t p).length), (14, .ptr 0 0 0), (45, .ro (mxC l) 0 l.length), (46, .int .i64 (l.length : Nat)), (47, .int .i64 (k : Nat)), (16, .ptr 1 0 0), (17, .sl 2 0 m), (52, .ro (.ints .i64 cs) 0 cs.length), (53, .int .i64 (cs.length : Nat)), (54, .int .i64 (m : Nat)), (18, .int .i64 (m : Nat))] Y zDX Y (by show w ≤ (zCL w x).length; omega) ⟨Y, Y, Y, Y, Y, Y, Y, Y, Y, Y, Y, Y, Y, Y, Y, trivial⟩ ?_
     refine z7 20 (.ro (.strs (zCL w x)) 0 (zCL w x).length) Y (AEq.of_eq (by rw [hul])) ?_
     repeat (first | refine zD (zH rfl) ?_ | refine zD (zAi rfl rfl rfl) ?_ | refine zK rfl ?_ | refine zD (ze rfl rfl rfl rfl (by first | (simp only [Nat.zero_add, Int.toNat_natCast, Int.toNat_zero]; exact rfl) | exact rfl) (by omega)) ?_ | refine zD (zAU rfl rfl rfl rfl rfl rfl) ?_ | refine zj rfl rfl rfl rfl rfl rfl rfl rfl rfl rfl rfl ?_)
     refine zp Y Y Y Y Y Y Y Y Y hml Y Y (by show 0 + 1 ≤ 1; omega) Y (by show (m + 1) * 32 ≤ _ ∧ _; omega) ?_ (by rw [hfix]; exact fun h => h) ?_
     · intro i' j hi hj
       exact zDA ch0 2 cellsC zCT P1 ⟨(zJ t p).getD m 0, zCL w x⟩ _ (zLr ⟨(zJ t p).getD m 0, zCL w x⟩) 2 i' j hi hj
     repeat (first | refine zD (zL rfl) ?_ | refine zC ?_ | refine zf ?_)
     refine zA ?_
     refine zBu ([some ⟨122, .box (zu q1)⟩, some ⟨75, .box [.ro (.ints .i64 cs) 0 cs.length, .str od]⟩, some ⟨67, zm P2⟩] ++ [none]) ?_ ?_
     · rw [hsm]
       exact zAB.eqv (CEq.refl _) (zAB.eqv (CEq.refl _) (zAB.eqv (zCx ch0 2 cellsC P1 ⟨(zJ t p).getD m 0, zCL w x⟩ _ (zLr ⟨(zJ t p).getD m 0, zCL w x⟩)) (zAB.drop zAB.nil)))
     refine zDq (H1 := [some ⟨122, .box (zu q1)⟩, some ⟨75, .box [.ro (.ints .i64 cs) 0 cs.length, .str od]⟩, some ⟨67, zm P2⟩]) Y (by rw [hfix]; exact fun h => h) ?_
     refine zBu [some ⟨122, .box (zu q1)⟩, some ⟨75, .box [.ro (.ints .i64 cs) 0 cs.length, .str od]⟩, some ⟨67, zm P2⟩] ?_ ?_
     · exact zAB.eqv (CEq.refl _) (zAB.eqv (CEq.refl _) (zAB.eqv ⟨Y, Y, fun i j _ hj => (zCT _ j _ hj).symm⟩ zAB.nil))
     refine rn3 ?_
     exact zM ⟨m + 1, by omega, by omega, ⟨Y, Y, Y, Y, Y, Y, Y, Y, Y, Y, Y, Y, Y, Y, trivial⟩, by rw [hP2]⟩
   · have hme : m = (zJ t p).length := by omega
     subst hme
     rw [hpk']
     have hpl : (zCK t p cs).length = (zJ t p).length := by rw [← hpk']; exact hsl _
     have cpar := zD5 od hoo hre
     generalize hV : zAj t (zAR t (zC0 p (zCK t p cs) o) (zC1 p (zCK t p cs) o)) = V at *
     clear hpk' hV
     generalize zCK t p cs = PS at *
     repeat (first | refine zA ?_ | refine zX ?_ | refine zAm ?_ | refine zr ?_ | refine zq ?_ | refine zAD ?_)
     refine zAV 2 17 (zJ t p).length [(0, .ro (zc t) 0 t.length), (1, .int .i64 p), (3, .ro (zm o) 0 o.length), (12, .ro (.ints .i64 (zJ t p)) 0 (zJ t p).length), (13, .ro (.ints .i64 (zz t p)) 0 (zz t p).length), (14, .ptr 0 0 0), (45, .ro (mxC l) 0 l.length), (46, .int .i64 (l.length : Nat)), (47, .int .i64 (k : Nat)), (16, .ptr 1 0 0)] Y (zCu _) Y (by show _ ≤ PS.length; omega) ⟨Y, Y, Y, Y, Y, Y, Y, Y, Y, Y, trivial⟩ ?_
     refine z7 17 (.ro (zm PS) 0 PS.length) Y (AEq.of_eq (by rw [hpl])) ?_
     refine zBQ [some ⟨122, .box (zu q1)⟩, some ⟨75, .box [.ro (.ints .i64 cs) 0 cs.length, .str od]⟩, none] Y ?_
     rcases hp with rfl | rfl
     · have e1 : zC0 0 PS o = PS := rfl
       have e2 : zC1 0 PS o = o := rfl
       rw [e1, e2] at hofk
       have cmul := zFx V (zAM od) (zCE (hD2.mono (by decide))) (zCE (hoD.mono (by decide)))
       have cadd := zE7 q1 (V * zAM od) (zCE (hD1.mono (show 1 + k * (2974 + 1) ≤ 9 * 100000 by omega))) (zCE ((hD2.mul hoD).mono (by decide)))
       rw [← hq1] at cadd
       generalize V * zAM od = vw at *
       refine rn4 ?_
       refine zk (by kernel_rfl) ?_
       refine zt (fuel := 1) [0, 1, 2, 3, 4, 5, 6, 7, 8, 9] [(0, .ro (zc t) 0 t.length), (1, .int .i64 0), (3, .ro (zm o) 0 o.length), (12, .ro (.ints .i64 (zJ t 0)) 0 (zJ t 0).length), (13, .ro (.ints .i64 (zz t 0)) 0 (zz t 0).length), (14, .ptr 0 0 0), (45, .ro (mxC l) 0 l.length), (46, .int .i64 (l.length : Nat)), (47, .int .i64 (k : Nat)), (16, .ptr 1 0 0), (21, .ro (zm PS) 0 PS.length), (22, .ro (zm o) 0 o.length)] ⟨Y, Y, Y, Y, Y, Y, Y, Y, Y, Y, Y, Y, trivial⟩ (by kernel_rfl) (by decide) Y Y ?_
       refine zU Y Y (zn Y Y Y Y Y Y Y (by first | exact Nat.zero_lt_one | assumption | omega)) ?_
       refine zU Y Y (zH Y) ?_
       refine zU Y Y (zH Y) ?_
       refine zU Y Y (zH Y) ?_
       refine zBR Y Y Y Y Y hofk ?_
       refine zU Y Y (zP Y Y Y Y Y Y) ?_
       refine zU Y Y (zT Y Y Y Y Y) ?_
       refine zBR Y Y Y Y Y cpar ?_
       refine zBR Y Y Y Y Y cmul ?_
       refine zBR Y Y Y Y Y cadd ?_
       refine zAZ ?_
       refine zF (is := [10]) (by kernel_rfl) (by simp) Y ⟨fun o ho => ?_, trivial⟩
       all_goals (cases ho)
       unfold qA
       refine zO (c' := .box (zu q2)) Y Y Y Y Y Nat.zero_lt_one Y Y (fun i' j' hi' hj' => ?_) ?_
       · rw [if_pos (Nat.lt_one_iff.1 hi')]; rfl
       refine rn1 ?_
       refine zh (by kernel_rfl) ?_
       repeat (refine zf ?_)
       refine zA ?_
       refine zAa [some ⟨122, .box (zu q2)⟩] [some ⟨75, .box [.ro (.ints .i64 cs) 0 cs.length, .str od]⟩, none] [(0, .ro (zc t) 0 t.length), (1, .int .i64 0), (3, .ro (zm o) 0 o.length), (12, .ro (.ints .i64 (zJ t 0)) 0 (zJ t 0).length), (13, .ro (.ints .i64 (zz t 0)) 0 (zz t 0).length), (14, .ptr 0 0 0), (45, .ro (mxC l) 0 l.length), (46, .int .i64 (l.length : Nat)), (47, .int .i64 (k : Nat))] Y ⟨Y, Y, Y, Y, Y, Y, Y, Y, Y, trivial⟩ (fun h hh => by rw [hfix] at hh; exact absurd hh id) (zBw (zJ7 _ _)) Y ?_
       refine rn3 ?_
       exact zM ⟨k + 1, by omega, by omega, ⟨Y, Y, Y, Y, Y, Y, Y, Y, Y, trivial⟩, by rw [hq2]⟩
     · have e1 : zC0 1 PS o = o := rfl
       have e2 : zC1 1 PS o = PS := rfl
       rw [e1, e2] at hofk
       have cmul := zFx V (zAM od) (zCE (hD2.mono (by decide))) (zCE (hoD.mono (by decide)))
       have cadd := zE7 q1 (V * zAM od) (zCE (hD1.mono (show 1 + k * (2974 + 1) ≤ 9 * 100000 by omega))) (zCE ((hD2.mul hoD).mono (by decide)))
       rw [← hq1] at cadd
       generalize V * zAM od = vw at *
       refine rn5 ?_
       refine zk (by kernel_rfl) ?_
       refine zt (fuel := 1) [0, 1, 2, 3, 4, 5, 6, 7, 8, 9] [(0, .ro (zc t) 0 t.length), (1, .int .i64 1), (3, .ro (zm o) 0 o.length), (12, .ro (.ints .i64 (zJ t 1)) 0 (zJ t 1).length), (13, .ro (.ints .i64 (zz t 1)) 0 (zz t 1).length), (14, .ptr 0 0 0), (45, .ro (mxC l) 0 l.length), (46, .int .i64 (l.length : Nat)), (47, .int .i64 (k : Nat)), (16, .ptr 1 0 0), (21, .ro (zm o) 0 o.length), (22, .ro (zm PS) 0 PS.length)] ⟨Y, Y, Y, Y, Y, Y, Y, Y, Y, Y, Y, Y, trivial⟩ (by kernel_rfl) (by decide) Y Y ?_
       refine zU Y Y (zn Y Y Y Y Y Y Y (by first | exact Nat.zero_lt_one | assumption | omega)) ?_
       refine zU Y Y (zH Y) ?_
       refine zU Y Y (zH Y) ?_
       refine zU Y Y (zH Y) ?_
       refine zBR Y Y Y Y Y hofk ?_
       refine zU Y Y (zP Y Y Y Y Y Y) ?_
       refine zU Y Y (zT Y Y Y Y Y) ?_
       refine zBR Y Y Y Y Y cpar ?_
       refine zBR Y Y Y Y Y cmul ?_
       refine zBR Y Y Y Y Y cadd ?_
       refine zAZ ?_
       refine zF (is := [10]) (by kernel_rfl) (by simp) Y ⟨fun o ho => ?_, trivial⟩
       all_goals (cases ho)
       unfold qA
       refine zO (c' := .box (zu q2)) Y Y Y Y Y Nat.zero_lt_one Y Y (fun i' j' hi' hj' => ?_) ?_
       · rw [if_pos (Nat.lt_one_iff.1 hi')]; rfl
       refine rn1 ?_
       refine zh (by kernel_rfl) ?_
       repeat (refine zf ?_)
       refine zA ?_
       refine zAa [some ⟨122, .box (zu q2)⟩] [some ⟨75, .box [.ro (.ints .i64 cs) 0 cs.length, .str od]⟩, none] [(0, .ro (zc t) 0 t.length), (1, .int .i64 1), (3, .ro (zm o) 0 o.length), (12, .ro (.ints .i64 (zJ t 1)) 0 (zJ t 1).length), (13, .ro (.ints .i64 (zz t 1)) 0 (zz t 1).length), (14, .ptr 0 0 0), (45, .ro (mxC l) 0 l.length), (46, .int .i64 (l.length : Nat)), (47, .int .i64 (k : Nat))] Y ⟨Y, Y, Y, Y, Y, Y, Y, Y, Y, trivial⟩ (fun h hh => by rw [hfix] at hh; exact absurd hh id) (zBw (zJ7 _ _)) Y ?_
       refine rn3 ?_
       exact zM ⟨k + 1, by omega, by omega, ⟨Y, Y, Y, Y, Y, Y, Y, Y, Y, trivial⟩, by rw [hq2]⟩
 · have hke : k = l.length := by omega
   subst hke
   have hDn := hq0 l.length (Nat.le_refl _)
   have co := zJ2 (zIR (zJY t p o) l l.length) (zCE (hDn.mono (show 1 + l.length * (2974 + 1) ≤ 9 * 100000 by omega)))
   generalize zIR (zJY t p o) l l.length = q at *
   refine rn6 ?_
   refine zB Y Y Y co ?_
   refine rn2 ?_
   exact zI hR Y Y
theorem zQl (t : zQ) (g : FuncId) (caps : List AV) (q : TNode → Bool) (hc : noRef.noRefs caps = true) (hlen : t.length ≤ 9223372036854775807) (hp : ∀ n ∈ t, zW Tryz.prog g ([.agg (zBs n)] ++ caps) (.bool (q n))) :
   zW Tryz.prog 64 [.ro (zc t) 0 t.length, .fn g caps] (.bool (t.any q)) := by
 have ci := zKd t g caps q hc hlen hp
 refine zV.value0 (zG (P := Tryz.prog) (fn := Tryz.f64) Y Y (by kernel_rfl) Y (fun c hR hfix => ?_)) (fix := fun _ => False) (fun _ h => h) (by simp [noRef.noRefs, noRef, hc]) Y
 refine rn0 ?_
 refine zB Y Y Y ci ?_
 repeat (first | refine zD (zL rfl) ?_ | refine zC ?_ | refine zA ?_ | refine zAS ?_ | refine zD (zCk rfl rfl) ?_)
 refine zI hR Y ?_
 simp only [zBL, zEt]
def zLf (n : TNode) : Bool := decide (12 < (n.pay.length : Int)) || n.odds.any (fun s => decide (12 < (s.length : Int)))
theorem modest11 (s : zBJ) (hs : s.length ≤ 9223372036854775807) : zW Tryz.prog 67 [.str s] (.bool (decide (12 < (s.length : Int)))) := by
 refine zV.value0 (zG (P := Tryz.prog) (fn := Tryz.f67) Y Y (by kernel_rfl) Y (fun c hR hfix => ?_)) (fix := fun _ => False) (fun _ h => h) Y Y
 refine rn6 ?_
 exact zI hR Y Y
theorem modest1 (n : TNode) (hn : ShortN n) : zW Tryz.prog 65 [.agg (zBs n)] (.bool (zLf n)) := by
 obtain ⟨h1, h2, h3, h4⟩ := hn
 have cc := zIw n.odds 67 [] (fun s => decide (12 < (s.length : Int))) rfl h2 (fun s hs => modest11 s (h3 s hs))
 refine zV.value0 (zG (P := Tryz.prog) (fn := Tryz.f65) Y Y (by kernel_rfl) Y (fun c hR hfix => ?_)) (fix := fun _ => False) (fun _ h => h) Y Y
 obtain ⟨kd, pl, nf, nx, od, py⟩ := n
 unfold zLf at hR
 unfold zBs
 simp only at *
 refine rn6 ?_
 refine zAF Y Y (fun g1 => ?_) (fun g1 => ?_)
 · rw [decide_eq_true g1, Bool.true_or] at hR
   refine rn6 ?_
   exact zI hR Y Y
 · rw [decide_eq_false g1, Bool.false_or] at hR
   refine rn5 ?_
   refine zB Y Y Y cc ?_
   refine rn2 ?_
   exact zI hR Y Y
def zIQ (t : zQ) : Bool := decide ((t.length : Int) ≤ 40) && !(t.any zLf)
theorem zJS {t : zQ} (h : zIQ t = true) : Go.Ax.Rt.Modest t := by
 unfold zIQ at h
 rw [Bool.and_eq_true, decide_eq_true_eq, Bool.not_eq_true', List.any_eq_false] at h
 obtain ⟨h1, h2⟩ := h
 refine ⟨by omega, fun n hn => ?_, fun n hn r hr => ?_⟩
 · have := h2 n hn
   unfold zLf at this
   rw [Bool.not_eq_true, Bool.or_eq_false_iff, decide_eq_false_iff_not] at this
   omega
 · have := h2 n hn
   unfold zLf at this
   rw [Bool.not_eq_true, Bool.or_eq_false_iff, List.any_eq_false] at this
   have := this.2 r hr
   rw [decide_eq_true_eq] at this
   omega
theorem zRe (t : zQ) (hT : ShortT t) : zW Tryz.prog 16 [.ro (zc t) 0 t.length] (.bool (zIQ t)) := by
 have cc := zQl t 65 [] zLf rfl hT.len (fun n hn => modest1 n (hT.node n hn))
 have hlen := hT.len
 refine zV.value0 (zG (P := Tryz.prog) (fn := Tryz.f16) Y Y (by kernel_rfl) Y (fun c hR hfix => ?_)) (fix := fun _ => False) (fun _ h => h) Y Y
 unfold zIQ at hR
 repeat (first | refine zD (zH rfl) ?_ | refine zD (zL rfl) ?_ | refine zC ?_ | refine zA ?_ | refine zX ?_ | refine zK rfl ?_ | refine zD (zKV rfl rfl) ?_ | refine zD (zA9 rfl rfl rfl) ?_)
 refine zAF Y Y (fun g1 => ?_) (fun g1 => ?_)
 · rw [decide_eq_true g1, Bool.true_and] at hR
   refine rn2 ?_
   refine zB Y Y Y cc ?_
   refine rn5 ?_
   exact zI hR Y Y
 · rw [decide_eq_false g1, Bool.false_and] at hR
   refine rn6 ?_
   exact zI hR Y Y
theorem zOH {ls : List zAK} (h : zKb ls = true) : ∀ s ∈ ls, ∀ c ∈ s, ∀ r ∈ c.odds, r.length ≤ 12 := by
 unfold zKb at h
 rw [Bool.not_eq_true', List.any_eq_false] at h
 intro s hs c hc r hr
 have := h c (List.mem_flatten.2 ⟨s, hs, hc⟩)
 unfold zNg at this
 rw [Bool.not_eq_true, List.any_eq_false] at this
 have := this r hr
 rw [decide_eq_true_eq] at this
 omega
end Go.Proofs.YtnkealfaldjipaaGreatDoor
namespace Go.Ax.Rt
open Go.Ax.Bg Go.Ax.Dt
set_option maxRecDepth 100000
def allV : List zBJ → List Rat → Bool
 | [], [] => true
 | s :: r, q :: t => decide (IsQ s q) && allV r t
 | _, _ => false
theorem zKE : ∀ {s : List zBJ} {l : List Rat}, allV s l = true → l.map zAJ = s ∧ l.all zBK = true
 | [], [], _ => ⟨rfl, rfl⟩
 | [], _ :: _, h => by cases h
 | _ :: _, [], h => by cases h
 | a :: r, q :: t, h => by
   simp only [allV, Bool.and_eq_true, decide_eq_true_eq] at h
   obtain ⟨h1, h2⟩ := zKE h.2
   refine ⟨by rw [List.map_cons, h.1.text, h1], ?_⟩
   rw [List.all_cons, h.1.fit, h2]; rfl
theorem allV_f {s : List zBJ} {l : List Rat} (h : allV s l = true) : zCA l = (s, 0) := by
 unfold zCA
 rw [if_pos (zKE h).2, (zKE h).1]
end Go.Ax.Rt
namespace Go.Ax.Rt
open Go.Ax.Bg Go.Ax.Idx
set_option maxRecDepth 100000
def zAG : zQ := [⟨2, 0, 0, [1, 2], [], []⟩, ⟨2, 1, 3, [3, 4], [], []⟩, ⟨2, 1, 3, [5, 6], [], []⟩, ⟨0, 0, 0, [], [], [45, 49]⟩, ⟨0, 0, 0, [], [], [49]⟩, ⟨0, 0, 0, [], [], [49]⟩, ⟨0, 0, 0, [], [], [45, 49]⟩]
def zBH (n : Int) : zAK := [⟨n, [[49, 47, 50], [49, 47, 50]]⟩]
theorem g_perf1 : zBd zAG 1 = true := by decide +kernel
theorem g_strat : zAe zAG 1 (zBH 3) = 0 := by decide +kernel
end Go.Ax.Rt
namespace Go.Proofs.YtnkealfaldjipaaGreatDoor
open Go.Ax Go.Ax.Bg Go.Ax.Rt Go.RowKit Go.Ax.Idx Go.Ax.Cd
attribute [local irreducible] Ax zBG QOp zV zA0
set_option maxRecDepth 100000
set_option maxHeartbeats 4000000
theorem seven {d : Nat} (h : d < 7) : d = 0 ∨ d = 1 ∨ d = 2 ∨ d = 3 ∨ d = 4 ∨ d = 5 ∨ d = 6 := by omega
theorem zDT : zW Tryz.prog 61 [] (.ro (zc zAG) 0 7) := by
 refine zV.value0 (zG (P := Tryz.prog) (fn := Tryz.f61) Y Y (by kernel_rfl) Y (fun c hR hfix => ?_)) (fix := fun _ => False) (fun _ h => h) Y Y
 repeat (first | refine zD (zL rfl) ?_ | refine zC ?_ | refine zA ?_ | refine zX ?_ | refine zK rfl ?_ | refine zD (zAU rfl rfl rfl rfl rfl rfl) ?_ | refine zj rfl rfl rfl rfl rfl rfl rfl rfl rfl rfl rfl ?_)
 refine z7 0 (.ro (zc zAG) 0 7) Y (AEq.ro_in Y (fun d j hd hj => ?_)) ?_
 · have hj : j < 6 := hj
   have hj3 : j = 0 ∨ j = 1 ∨ j = 2 ∨ j = 3 ∨ j = 4 ∨ j = 5 := by omega
   rcases seven hd with rfl | rfl | rfl | rfl | rfl | rfl | rfl <;> rcases hj3 with rfl | rfl | rfl | rfl | rfl | rfl <;> first | exact AEq.rfl' | exact AEq.nil
 repeat (refine zAS ?_)
 exact zI hR Y Y
theorem zFw (n : Int) : zW Tryz.prog 62 [.int .i64 n] (.ro (zm (zBH n)) 0 1) := by
 refine zV.value0 (zG (P := Tryz.prog) (fn := Tryz.f62) Y Y (by kernel_rfl) Y (fun c hR hfix => ?_)) (fix := fun _ => False) (fun _ h => h) Y Y
 repeat (first | refine zD (zH rfl) ?_ | refine zD (zL rfl) ?_ | refine zC ?_ | refine zA ?_ | refine zX ?_ | refine zK rfl ?_ | refine zD (zAU rfl rfl rfl rfl rfl rfl) ?_ | refine zj rfl rfl rfl rfl rfl rfl rfl rfl rfl rfl rfl ?_)
 refine z7 2 (.ro (zm (zBH n)) 0 1) Y (AEq.ro_in Y (fun d j hd hj => ?_)) ?_
 · have hj : j < 2 := hj
   have hj3 : j = 0 ∨ j = 1 := by omega
   obtain rfl : d = 0 := by omega
   rcases hj3 with rfl | rfl <;> exact AEq.rfl'
 repeat (refine zAS ?_)
 exact zI hR Y Y
end Go.Proofs.YtnkealfaldjipaaGreatDoor
namespace Go.Proofs.YtnkealfaldjipaaGreatDoor
open Go.Ax Go.Ax.Bg Go.Ax.Rt Go.RowKit
attribute [local irreducible] Ax zBG QOp zV zA0
set_option maxRecDepth 100000
set_option maxHeartbeats 4000000
open Go.Ax.Idx Go.Ax.Cd
theorem equalR (a b : List (List UInt8)) (hlen : a.length ≤ 9223372036854775807) (hlb : b.length ≤ 9223372036854775807) : zW Tryz.prog 44 [.ro (.strs a) 0 a.length, .ro (.strs b) 0 b.length] (.bool (decide (a = b))) := by
 refine zV.value0 (zG (P := Tryz.prog) (fn := Tryz.f44) Y Y (by kernel_rfl) Y (fun c hR hfix => ?_)) (fix := fun _ => False) (fun _ h => h) Y Y
 refine rn3 ?_
 refine zE Y (fun h => ?_) (fun h => ?_)
 · refine rn2 ?_
   refine zI hR Y ?_
   have : ¬ a = b := by rintro rfl; exact h rfl
   simp [zBL, this]
 have hab : a.length = b.length := by omega
 refine rn3 ?_
 refine zi (ι := Nat) (fun k => [(0, .ro (.strs a) 0 a.length), (1, .ro (.strs b) 0 b.length), (12, .int .i64 (a.length : Nat)), (13, .int .i64 (k : Nat))]) (fun _ => [])
   (fun k => k ≤ a.length ∧ a.take k = b.take k) (fun k => a.length - k) 0 ⟨⟨rfl, rfl, rfl, rfl, trivial⟩, rfl, Nat.zero_le _, rfl⟩ ?_
 intro k ⟨hk, heq⟩
 refine rn4 ?_
 refine zE Y (fun h2 => ?_) (fun h2 => ?_)
 · have hk' : k < a.length := by omega
   have ha := zAk a [] k hk'
   have hb := zAk b [] k (by omega)
   refine rn1 ?_
   refine zDf (by kernel_rfl) (by kernel_rfl) Y ?_
   repeat (first | refine zD (zH rfl) ?_ | refine zC ?_ | refine zA ?_ | refine zD (zEa rfl rfl rfl) ?_ | refine zD (ze rfl rfl rfl rfl (by first | (simp only [Nat.zero_add, Int.toNat_natCast, Int.toNat_zero]; exact rfl) | exact rfl) (by omega)) ?_ | refine zD (zGY rfl rfl) ?_)
   refine zE Y (fun h3 => ?_) (fun h3 => ?_)
   · refine rn6 ?_
     refine zI hR Y ?_
     have : ¬ a = b := by rintro rfl; exact h3 rfl
     simp [zBL, this]
   · refine rn5 ?_
     have h4 : a.getD k [] = b.getD k [] := Classical.not_not.1 h3
     exact zM ⟨k + 1, ⟨by omega, by rw [ha, hb, heq, h4]⟩, by omega, ⟨Y, Y, Y, Y, trivial⟩, Y⟩
 · have hk' : k = a.length := by omega
   subst hk'
   rw [List.take_length, hab, List.take_length] at heq
   refine rn5 ?_
   refine zI hR Y ?_
   simp [zBL, heq]
theorem hlen2 {l : List (List UInt8)} (h : (l.all fun s => decide (s.length ≤ 100)) = true) : ∀ s ∈ l, s.length ≤ 9223372036854775807 := fun s hs => by
 have := List.all_eq_true.1 h s hs
 have := of_decide_eq_true this
 omega
end Go.Proofs.YtnkealfaldjipaaGreatDoor
namespace Go.Proofs.YtnkealfaldjipaaGreatDoor
open Go.Ax Go.Ax.Bg Go.Ax.Rt Go.RowKit Go.Ax.Idx Go.Ax.Cd
attribute [local irreducible] Ax zBG QOp zV zA0
set_option maxRecDepth 100000
set_option maxHeartbeats 4000000
def zGN : zAK := [⟨3, [[49], [48]]⟩]
theorem zE8 : ShortT zAG := ⟨by decide, fun n hn => by
 simp only [zAG, List.mem_cons, List.not_mem_nil, or_false] at hn
 rcases hn with rfl | rfl | rfl | rfl | rfl | rfl | rfl <;> exact ⟨by decide, by decide, by decide, by decide⟩⟩
theorem zMM : Go.Ax.Rt.Modest zAG := zJS (by decide)
theorem zHC (n : Int) : ShortS (zBH n) := ⟨(by decide : 1 ≤ 9223372036854775807), fun c hc => by
 rw [List.mem_singleton.1 hc]; exact ⟨(by decide : 2 ≤ 9223372036854775807), fun s hs => by simp at hs; subst hs; decide⟩⟩
theorem zQW : ShortS zGN := ⟨by decide, fun c hc => by
 rw [List.mem_singleton.1 hc]; exact ⟨by decide, fun s hs => by simp at hs; rcases hs with rfl | rfl <;> decide⟩⟩
theorem zPo (n : Int) : ∀ c ∈ zBH n, ∀ r ∈ c.odds, r.length ≤ 12 := fun c hc => by
 rw [List.mem_singleton.1 hc]; intro r hr; simp at hr; subst hr; decide
theorem sureDig : ∀ c ∈ zGN, ∀ r ∈ c.odds, r.length ≤ 12 := fun c hc => by
 rw [List.mem_singleton.1 hc]; intro r hr; simp at hr; rcases hr with rfl | rfl <;> decide
theorem zPZ : Small zAG [zBH 0, zBH 3] := ⟨zE8, zMM, fun x hx => by
 simp at hx; rcases hx with rfl | rfl <;> exact zHC _, fun x hx => by
 simp at hx; rcases hx with rfl | rfl <;> exact zPo _⟩
theorem gSmall1 : Small zAG [zGN] := ⟨zE8, zMM, fun x hx => by
 rw [List.mem_singleton.1 hx]; exact zQW, fun x hx => by
 rw [List.mem_singleton.1 hx]; exact sureDig⟩
theorem zPX : zDN zAG (zBH 0) (zBH 3) = 0 := by decide +kernel
theorem gValue : zMD zAG (zBH 0) (zBH 3) = ([48], 0) := by
 unfold zMD
 rw [if_neg (fun h => h zPX)]
 exact IsQ.out (show IsQ [48] _ by decide +kernel)
theorem gOdds : zIO zAG (zBH 0) (zBH 3) = ([[49], [49, 47, 50], [49, 47, 50], [49, 47, 52], [49, 47, 52], [49, 47, 52], [49, 47, 52]], 0) := by
 unfold zIO
 rw [if_neg (fun h => h zPX)]
 exact allV_f (by decide +kernel)
theorem gBest : zKK zAG 0 zGN = ([49], [⟨0, [[48], [49]]⟩], 0) := by
 have e1 : zIN zAG 0 zGN = 0 := by decide +kernel
 have e2 : zEZ (zJC zAG 0 zGN) = ([49], 0) := IsQ.out (show IsQ [49] _ by decide +kernel)
 have e3 : zGA zAG 0 (zA7 zAG 0 zGN) = [⟨0, [[48], [49]]⟩] := by
   have h1 : zJ zAG 0 = [0] := by decide +kernel
   have h2 : bestC zAG 0 (zA7 zAG 0 zGN) 0 = 1 := by decide +kernel
   have h3 : zR zAG 0 0 = 2 := by decide +kernel
   unfold zGA
   rw [h1]
   show [zB8 zAG 0 (zA7 zAG 0 zGN) 0] = _
   unfold zB8
   rw [h2, h3]; rfl
 unfold zKK
 rw [if_neg (fun h => h e1), e2, if_neg (fun h => h rfl), e3]
theorem gCheck0 : zDN zAG [] (zBH 3) = 3 := by decide +kernel
theorem zRh : zW Tryz.prog 15 [] (.bool true) := by
 have c1 := zQu zAG (zBH 0) (zBH 3) zPZ
 rw [gValue] at c1
 have c2 := rodds_ok zAG (zBH 0) (zBH 3) zPZ
 rw [gOdds] at c2
 have c2 : zW Tryz.prog 21 [.ro (zc zAG) 0 7, .ro (zm (zBH 0)) 0 1, .ro (zm (zBH 3)) 0 1] (.tup [.ro (.strs [[49], [49, 47, 50], [49, 47, 50], [49, 47, 52], [49, 47, 52], [49, 47, 52], [49, 47, 52]]) 0 7, .int .i64 0]) := c2
 have c3 := best_ok zAG 0 zGN gSmall1
 rw [gBest] at c3
 have c3 : zW Tryz.prog 18 [.ro (zc zAG) 0 7, .int .i64 0, .ro (zm zGN) 0 1] (.tup [.str [49], .ro (zm [⟨0, [[48], [49]]⟩]) 0 1, .int .i64 0]) := c3
 have c4 := zF0 zAG [] (zBH 3) zE8 ⟨by decide, fun c hc => by simp at hc⟩ (zHC 3)
 rw [gCheck0] at c4
 have c4' : zW Tryz.prog 63 [.ro (zc zAG) 0 7, .nil, .ro (zm (zBH 3)) 0 1] (.int .i64 3) := fun H => zV.args (c4 H) ⟨AEq.rfl', AEq.nil, AEq.rfl', trivial⟩
 have f3 : zW Tryz.prog 24 [.ro (.ints .i64 [0, 0, 0]) 0 3] (.bool true) := fineI [0, 0, 0] (by decide)
 have v1 := equalR [[48], [49]] [[48], [49]] (by decide) (by decide)
 rw [decide_eq_true rfl] at v1
 refine zV.value0 (zG (P := Tryz.prog) (fn := Tryz.f15) Y Y (by kernel_rfl) Y (fun c hR hfix => ?_)) (fix := fun _ => False) (fun _ h => h) Y Y
 refine rn0 ?_
 refine zB Y Y Y zDT ?_
 skip
 refine zB Y Y Y (zFw 0) ?_
 skip
 refine zB Y Y Y (zFw 3) ?_
 skip
 refine zB Y Y Y c1 ?_
 unfold zJB
 refine rn2 ?_
 refine zB Y Y Y zDT ?_
 skip
 refine zB Y Y Y (zFw 0) ?_
 skip
 refine zB Y Y Y (zFw 3) ?_
 skip
 refine zB Y Y Y c2 ?_
 refine rn2 ?_
 refine zB Y Y Y zDT ?_
 repeat (first | refine zD (zAU rfl rfl rfl rfl rfl rfl) ?_ | refine zj rfl rfl rfl rfl rfl rfl rfl rfl rfl rfl rfl ?_)
 refine zN 26 (.ro (zm zGN) 0 1) Y (AEq.ro_in Y (fun d j hd hj => ?_)) ?_
 · have hj : j < 2 := hj
   have hj3 : j = 0 ∨ j = 1 := by omega
   obtain rfl : d = 0 := by omega
   rcases hj3 with rfl | rfl <;> exact AEq.rfl'
 refine zB Y Y Y c3 ?_
 refine rn3 ?_
 refine zB Y Y Y f3 ?_
 repeat (first | refine zD (zH rfl) ?_ | refine zAL rfl rfl ?_ | refine zD (zEa rfl rfl rfl) ?_ | refine zD (zBj rfl rfl rfl rfl) ?_ | refine zD (zEf rfl rfl) ?_ | refine zD (zAg rfl rfl) ?_ | refine zD (zA9 rfl rfl rfl) ?_ | refine zD (ze rfl rfl rfl rfl (by first | (simp only [Nat.zero_add, Int.toNat_natCast, Int.toNat_zero]; exact rfl) | exact rfl) (by omega)) ?_ | refine zD (zFW rfl rfl) ?_ | refine zD (zAo rfl rfl rfl rfl rfl rfl) ?_ | refine zj rfl rfl rfl rfl rfl rfl rfl rfl rfl rfl rfl ?_)
 refine zB Y Y Y v1 ?_
 refine rn2 ?_
 refine zB Y Y Y zDT ?_
 repeat (refine zAL rfl rfl ?_)
 refine zB Y Y Y (zFw 3) ?_
 repeat (refine zAL rfl rfl ?_)
 refine zB Y Y Y c4' ?_
 refine rn4 ?_
 exact zI hR Y Y
def zGP : zBr := [⟨[0], [49, 47, 50]⟩, ⟨[1], [49, 47, 50]⟩]
theorem cg1 : zOE zAG 1 = ([[0], [1]], 0) := by decide +kernel
theorem cg2 : zAv zAG 1 = 0 := by decide +kernel
theorem cg3 : zIS (zBI zAG 1) [[]] = some [[0], [1]] := by decide +kernel
theorem cg4 : zEd (zBH 3) [[0], [1]] = [[0], [1]] := by decide +kernel
theorem cg5 : IsQ [49, 47, 50] (zEw (zBH 3) [0]) := by decide +kernel
theorem cg6 : IsQ [49, 47, 50] (zEw (zBH 3) [1]) := by decide +kernel
theorem gMixed : zIV zAG 1 (zBH 3) = (zGP, 0) := by
 unfold zIV
 rw [if_neg (fun q => q cg2), if_neg (fun q => q g_strat), cg3]
 show zFS (zBH 3) [[0], [1]] = _
 unfold zFS
 rw [cg4]
 have h : ([[0], [1]] : List (List Int)).all (fun c => zBK (zEw (zBH 3) c)) = true := by
   show (zBK (zEw (zBH 3) [0]) && (zBK (zEw (zBH 3) [1]) && true)) = true
   rw [cg5.fit, cg6.fit]; rfl
 rw [if_pos h]
 show (([⟨[0], zAJ (zEw (zBH 3) [0])⟩, ⟨[1], zAJ (zEw (zBH 3) [1])⟩] : zBr), (0 : Int)) = _
 rw [cg5.text, cg6.text]; rfl
theorem cg7 : zDJ zAG 1 zGP = 0 := by decide +kernel
theorem cg8 : zJ zAG 1 = [3] := by decide +kernel
theorem cg9 : zCA (zBe zAG 1 (zBP zAG 1 zGP) 3) = ([[49, 47, 50], [49, 47, 50]], 0) := allV_f (by decide +kernel)
theorem gBeh : zIL zAG 1 zGP = (zBH 3, 0) := by
 rw [zLu cg7 g_perf1, cg8]
 have h := cg9
 unfold zCA at h
 cases hf : (zBe zAG 1 (zBP zAG 1 zGP) 3).all zBK
 · rw [hf, if_neg (by decide)] at h; cases h
 · rw [hf, if_pos rfl] at h
   have h1 : (zBe zAG 1 (zBP zAG 1 zGP) 3).map zAJ = [[49, 47, 50], [49, 47, 50]] := congrArg Prod.fst h
   have h2 : ([3] : List Int).all (fun x => (zBe zAG 1 (zBP zAG 1 zGP) x).all zBK) = true := by
     show ((zBe zAG 1 (zBP zAG 1 zGP) 3).all zBK && true) = true
     rw [hf]; rfl
   rw [if_pos h2]
   unfold zKQ
   rw [cg8]
   show (([⟨3, (zBe zAG 1 (zBP zAG 1 zGP) 3).map zAJ⟩] : zAK), (0 : Int)) = _
   rw [h1]; rfl
theorem cgA : zAe zAG (1 - 1) (zBH 0) = 0 := by decide +kernel
theorem gPay : zIf zAG 1 zGP (zBH 0) = ([48], 0) := by
 unfold zIf
 rw [if_neg (fun q => q cg7), if_neg (fun q => q cgA)]
 exact IsQ.out (show IsQ [48] _ by decide +kernel)
theorem cgB : zDJ zAG 1 [] = 3 := by decide +kernel
theorem zMu : ShortX zGP := ⟨by decide, fun a ha => by
 simp [zGP] at ha; rcases ha with rfl | rfl <;> decide, fun a ha => by
 simp [zGP] at ha; rcases ha with rfl | rfl <;> decide⟩
theorem zNk : zW Tryz.prog 34 [] (.bool true) := by
 have c1 := cpure_ok zAG 1 zE8
 rw [cg1] at c1
 have c1 : zW Tryz.prog 100 [.ro (zc zAG) 0 7, .int .i64 1] (.tup [.ro (zBE [[0], [1]]) 0 2, .int .i64 0]) := c1
 have c2 := mixed_ok zAG 1 (zBH 3) zE8 (zHC 3)
 rw [gMixed] at c2
 have c2 : zW Tryz.prog 35 [.ro (zc zAG) 0 7, .int .i64 1, .ro (zm (zBH 3)) 0 1] (.tup [.ro (mxC zGP) 0 2, .int .i64 0]) := c2
 have c3 := zLb zAG 1 zGP zE8 zMu
 rw [gBeh] at c3
 have c3 : zW Tryz.prog 36 [.ro (zc zAG) 0 7, .int .i64 1, .ro (mxC zGP) 0 2] (.tup [.ro (zm (zBH 3)) 0 1, .int .i64 0]) := c3
 have c4 := pay_ok zAG 1 zGP (zBH 0) zE8 zMM zMu (zHC 0) (zPo 0)
 rw [gPay] at c4
 have c4 : zW Tryz.prog 47 [.ro (zc zAG) 0 7, .int .i64 1, .ro (mxC zGP) 0 2, .ro (zm (zBH 0)) 0 1] (.tup [.str [48], .int .i64 0]) := c4
 have c5 := zIm zAG 1 [] zE8 ⟨by decide, fun a ha => by simp at ha, fun a ha => by simp at ha⟩
 rw [cgB] at c5
 have c5' : zW Tryz.prog 48 [.ro (zc zAG) 0 7, .int .i64 1, .nil] (.int .i64 3) := fun H => zV.args (c5 H) ⟨AEq.rfl', AEq.rfl', AEq.nil, trivial⟩
 have e1 : zW Tryz.prog 101 [.ro (.ints .i64 [1]) 0 1, .ro (.ints .i64 [1]) 0 1] (.bool true) := equalI [1] [1] (by decide) (by decide)
 have e2 : zW Tryz.prog 44 [.ro (.strs [[49, 47, 50], [49, 47, 50]]) 0 2, .ro (.strs [[49, 47, 50], [49, 47, 50]]) 0 2] (.bool true) := equalR [[49, 47, 50], [49, 47, 50]] [[49, 47, 50], [49, 47, 50]] (by decide) (by decide)
 have f2 : zW Tryz.prog 24 [.ro (.ints .i64 [0, 0, 0, 0]) 0 4] (.bool true) := fineI [0, 0, 0, 0] (by decide)
 refine zV.value0 (zG (P := Tryz.prog) (fn := Tryz.f34) Y Y (by kernel_rfl) Y (fun c hR hfix => ?_)) (fix := fun _ => False) (fun _ h => h) Y Y
 refine rn0 ?_
 refine zB Y Y Y zDT ?_
 skip
 refine zB Y Y Y c1 ?_
 refine rn2 ?_
 refine zB Y Y Y zDT ?_
 skip
 refine zB Y Y Y (zFw 3) ?_
 skip
 refine zB Y Y Y c2 ?_
 refine rn2 ?_
 refine zB Y Y Y zDT ?_
 repeat (refine zD (zH rfl) ?_)
 refine zB Y Y Y c3 ?_
 refine rn2 ?_
 refine zB Y Y Y zDT ?_
 repeat (refine zD (zH rfl) ?_)
 refine zB Y Y Y (zFw 0) ?_
 skip
 refine zB Y Y Y c4 ?_
 refine rn3 ?_
 refine zB Y Y Y f2 ?_
 refine rn6 ?_
 refine zB Y Y Y e1 ?_
 repeat (first | refine zD (zH rfl) ?_ | refine zAL rfl rfl ?_ | refine zD (zBj rfl rfl rfl rfl) ?_ | refine zD (zEf rfl rfl) ?_ | refine zD (zAg rfl rfl) ?_ | refine zD (zA9 rfl rfl rfl) ?_ | refine zD (ze rfl rfl rfl rfl (by first | (simp only [Nat.zero_add, Int.toNat_natCast, Int.toNat_zero]; exact rfl) | exact rfl) (by omega)) ?_ | refine zD (zFW rfl rfl) ?_ | refine zD (zAo rfl rfl rfl rfl rfl rfl) ?_ | refine zj rfl rfl rfl rfl rfl rfl rfl rfl rfl rfl rfl ?_)
 refine zB Y Y Y e2 ?_
 refine rn6 ?_
 refine zB Y Y Y zDT ?_
 repeat (refine zAL rfl rfl ?_)
 refine zB Y Y Y c5' ?_
 refine rn4 ?_
 exact zI hR Y Y
theorem len_of2 {s : List UInt8} (h : zDa s = 0) : s.length ≤ 4002 := by
 have hf := (IsQ.self h).fit
 rw [← (IsQ.self h).text]
 unfold zBK at hf
 rw [Bool.and_eq_true, decide_eq_true_eq, decide_eq_true_eq] at hf
 unfold zAJ
 rw [List.length_append, List.length_append]
 split <;> split <;> simp <;> omega
theorem zQs {t : zQ} {p : Int} {s : zAK} (h : zAe t p s = 0) : ShortS s := by
 have hk := zCs h
 have h4 : (zJ t p).length ≤ 10 := by
   unfold zJ
   exact Nat.le_trans (List.length_filter_le _ _) (by simp)
 have h5 : s.length = (zJ t p).length := by rw [← hk.infos, List.length_map]
 exact ⟨by omega, fun c hc => ⟨by have := (zBh (hk.odds c hc)).1; omega, fun r hr => by have := len_of2 ((zBh (hk.odds c hc)).2.1 r hr); omega⟩⟩
end Go.Proofs.YtnkealfaldjipaaGreatDoor
namespace Go.Ax
variable [Pins]
open Go.RowKit
section
variable {P : Program} {fn : Func} {c : Ctx} {fr : Fr} {H : zZ} {k : List It}
end
end Go.Ax
namespace Go.Proofs.YtnkealfaldjipaaGreatDoor
open Go.Ax Go.Ax.Bg Go.Ax.Rt Go.RowKit Go.Ax.Idx Go.Ax.Cd
attribute [local irreducible] Ax zBG QOp zV zA0
set_option maxRecDepth 100000
set_option maxHeartbeats 4000000
theorem zNp {t : zQ} {p : Int} (h : zAv t p = 0) : zEz t = 0 := by
 unfold zAv at h
 by_cases h1 : zEz t = 0
 · exact h1
 · rw [if_pos h1] at h; exact absurd h h1
theorem zPF {t : zQ} {p : Int} {s o : zAK} (hp : p = 0 ∨ p = 1) (ht : zEz t = 0) (hs : zAe t p s = 0) : zDN t (zC0 p s o) (zC1 p s o) = zAe t (1 - p) o := by
 unfold zDN
 rw [if_neg (fun q => q ht)]
 rcases hp with rfl | rfl
 · show (if zAe t 0 s ≠ 0 then zAe t 0 s else zAe t 1 o) = zAe t 1 o
   rw [if_neg (fun q => q hs)]
 · show (if zAe t 0 o ≠ 0 then zAe t 0 o else zAe t 1 s) = zAe t 0 o
   by_cases h : zAe t 0 o = 0
   · rw [if_neg (fun q => q h), h, hs]
   · rw [if_pos h]
structure StrN (t : zQ) (p : Int) (s : zAK) : Prop where
 short : ShortS s
 ok : OkS t p s
 dig : ∀ x ∈ zJ t p, ∀ q ∈ zCG s x, D 241 q
theorem StrS.long {t : zQ} {p : Int} {s : zAK} (h : StrS t p s) : StrN t p s := ⟨h.short, h.ok, fun x hx q hq => (h.str.dig x hx q hq).mono (by decide)⟩
theorem strN_of {t : zQ} {p : Int} {s : zAK} (h : zAe t p s = 0) (hd : ∀ c ∈ s, ∀ q ∈ c.odds.map zAM, D 241 q) : StrN t p s := ⟨zQs h, zCs h, fun x hx q hq => by
 obtain ⟨c, c1, c2, c3, _⟩ := (zCs h).at' hx
 rw [c3] at hq
 exact hd c c1 q hq⟩
theorem StrN.str {t : zQ} {p : Int} {s : zAK} (h : StrN t p s) : Strat t p (zCG s) 241 := ⟨h.ok.strat.len, h.ok.strat.sum, h.ok.strat.nn, h.dig⟩
theorem zMX {t : zQ} (hv : Valid t) (hm : Go.Ax.Rt.Modest t) {a b : Int → List Rat} (ha : Strat t 0 a 241) (hb : Strat t 1 b 241) : OddsW t (zCM t a b) 241 := by
 refine ⟨fun i hi l hl => ?_⟩
 unfold zCM at hl
 by_cases h1 : (t.getD i node0).kind = 1
 · rw [if_pos h1] at hl
   obtain rfl := Option.some.inj hl
   obtain ⟨c1, c2, c3⟩ := hm.chance hv hi h1
   have := zHG c2 (fun q hq => (c3 q hq).1)
   exact ⟨c1, fun q hq => ⟨(c3 q hq).1, this q hq, (c3 q hq).2.mono (by decide)⟩⟩
 · rw [if_neg h1] at hl
   by_cases h2 : (t.getD i node0).kind = 2
   · rw [if_pos h2] at hl
     by_cases h3 : (t.getD i node0).player = 0
     · rw [if_pos h3] at hl
       obtain rfl := Option.some.inj hl
       obtain ⟨c1, c2, c3⟩ := ha.node hv hi h2 h3
       have := zHG c2 (fun q hq => (c3 q hq).1)
       exact ⟨c1, fun q hq => ⟨(c3 q hq).1, this q hq, (c3 q hq).2⟩⟩
     · rw [if_neg h3] at hl
       obtain rfl := Option.some.inj hl
       obtain ⟨c1, c2, c3⟩ := hb.node hv hi h2 (by have := zCO hv hi h2; omega)
       have := zHG c2 (fun q hq => (c3 q hq).1)
       exact ⟨c1, fun q hq => ⟨(c3 q hq).1, this q hq, (c3 q hq).2⟩⟩
   · rw [if_neg h2] at hl; cases hl
theorem oddsGN_w {t : zQ} (hv : Valid t) (hlen : t.length ≤ 40) {o : zAI} (ho : OddsW t o 241) (hc : ∀ i, i < t.length → (t.getD i node0).kind = 1 → o i = some ((t.getD i node0).odds.map zAM)) (he : ∀ i, i < t.length → (t.getD i node0).kind = 0 → o i = none) : OddsG t o := by
 refine ⟨hc, he, fun i hi l hl => ?_, fun j hj => zCE ((zCw hv ho hlen hj).mono (by decide))⟩
 obtain ⟨h1, h2⟩ := ho.some i hi l hl
 have hk : (t.getD i node0).kind ≠ 0 := fun e => by rw [he i hi e] at hl; cases hl
 have hn : 1 ≤ (t.getD i node0).next.length ∧ (t.getD i node0).next.length ≤ 6 := by
   rcases hv.child hi with h | h
   · exact absurd h.1 hk
   · exact ⟨(zBp h.2).1, (zBp h.2).2.1⟩
 exact ⟨by omega, by omega, by omega, fun q hq => zCE ((h2 q hq).2.2.mono (by decide))⟩
theorem StrN.call {t : zQ} {p : Int} {s : zAK} (h : StrN t p s) : zW Tryz.prog 132 [.ro (zm s) 0 s.length] (zCa s) :=
 zNj s h.short (by rw [h.ok.infos]; exact zBn t p) (fun c hc => ⟨(zBh (h.ok.odds c hc)).1, (zBh (h.ok.odds c hc)).2.1⟩)
theorem StrN.node {t : zQ} {p : Int} {s : zAK} (h : StrN t p s) (hv : Valid t) {i : Nat} (hi : i < t.length) (hk : (t.getD i node0).kind = 2) (hp : (t.getD i node0).player = p) : ∃ c ∈ s, c.info = (t.getD i node0).info ∧ zCG s (t.getD i node0).info = c.odds.map zAM := by
 have hs : zBB p (t.getD i node0).info (t.getD i node0) = true := by
   unfold zBB
   rw [zE1.2 ⟨hk, hp⟩, decide_eq_true rfl]; rfl
 obtain ⟨c, c1, c2, c3, _⟩ := h.ok.at' ((zBg hv).2 ⟨i, hi, hs⟩)
 exact ⟨c, c1, c2, c3⟩
theorem playN_G {t : zQ} (hv : Valid t) (hm : Go.Ax.Rt.Modest t) {a b : zAK} (ha : StrN t 0 a) (hb : StrN t 1 b) : OddsG t (zAR t a b) :=
 oddsGN_w hv hm.len (zMX hv hm ha.str hb.str) (fun i hi hk => by unfold zAR zCM; rw [if_pos hk]) (fun i hi hk => by unfold zAR zCM; rw [if_neg (by omega), if_neg (by omega)])
theorem zO3 (t : zQ) (a b : zAK) (hT : ShortT t) (hv : Valid t) (hm : Go.Ax.Rt.Modest t) (ha : StrN t 0 a) (hb : StrN t 1 b) :
   zW Tryz.prog 81 [.ro (zc t) 0 t.length, .ro (zm a) 0 a.length, .ro (zm b) 0 b.length] (.ro (qsC (zb t (zAR t a b))) 0 t.length) := by
 have h1 := zJz t (zAR t a b) 141 [.rp (.box [zCa a, zCa b]) 0 0] rfl rfl hT hv (playN_G hv hm ha hb) (fun i hi hk => by
   have hp := zCO hv hi hk
   rcases hp with hp | hp
   · obtain ⟨c, c1, c2, c3⟩ := ha.node hv hi hk hp
     have := zG2 (t.getD i node0) a b (.inl hp) c (by rw [if_pos hp]; exact c1) c2
     have e : zAR t a b i = some (c.odds.map zAM) := by unfold zAR zCM; rw [if_neg (by omega), if_pos hk, if_pos hp, c3]
     rw [e]; exact this
   · obtain ⟨c, c1, c2, c3⟩ := hb.node hv hi hk hp
     have := zG2 (t.getD i node0) a b (.inr hp) c (by rw [if_neg (by omega)]; exact c1) c2
     have e : zAR t a b i = some (c.odds.map zAM) := by unfold zAR zCM; rw [if_neg (by omega), if_pos hk, if_neg (by omega), c3]
     rw [e]; exact this)
 have ca := ha.call
 have cb := hb.call
 refine zV.value0 (zG (P := Tryz.prog) (fn := Tryz.f81) Y Y (by kernel_rfl) Y (fun c hR hfix => ?_)) (fix := fun _ => False) (fun _ h => h) Y Y
 refine rn0 ?_
 refine zB Y Y Y ca ?_
 repeat (refine zD (zH rfl) ?_)
 refine zB Y Y Y cb ?_
 skip
 refine zD (zNd Y Y Y Y Y Y) ?_
 skip
 refine zIz Y Y Y ?_
 skip
 refine zO (c' := .box [zCa a, zCa b]) Y Y Y Y Y Nat.zero_lt_one Y Y (fun i' j' hi' hj' => ?_) ?_
 · rw [if_pos (Nat.lt_one_iff.1 hi')]; rfl
 repeat (first | refine zC ?_ | refine zA ?_ | refine zX ?_)
 refine zBQ [some ⟨219, .box [zCa a, zCa b]⟩] Y ?_
 refine zKT (o := ⟨219, .box [zCa a, zCa b]⟩) (v := .ptr 0 0 0) 7 [(0, .ro (zc t) 0 t.length)] (.rp (.box [zCa a, zCa b]) 0 0) (zH4 a b) rfl rfl (fun o ho => by simp at ho; subst ho; exact Nat.zero_lt_one) rfl ⟨rfl, rfl, trivial⟩ ⟨rfl, trivial⟩ rfl (by rw [hfix]; exact fun h hh => hh) ?_
 repeat (first | refine zD (zH rfl) ?_ | refine zK rfl ?_ | refine zD (zGv rfl) ?_)
 refine zB Y Y Y h1 ?_
 refine rn0 ?_
 exact zI hR Y Y
theorem rofN_ok (t : zQ) (a b : zAK) (hT : ShortT t) (hv : Valid t) (hm : Go.Ax.Rt.Modest t) (ha : StrN t 0 a) (hb : StrN t 1 b) :
   zW Tryz.prog 77 [.ro (zc t) 0 t.length, .ro (zm a) 0 a.length, .ro (zm b) 0 b.length] (qA (zAj t (zAR t a b))) := by
 have h1 := zO3 t a b hT hv hm ha hb
 have hml := hm.len
 have h2 := zMk t (by omega)
 have hel := zFv t t.length
 have hw := zMX hv hm ha.str hb.str
 have hrl : (zb t (zAR t a b)).length = t.length := zCp t _ _
 refine zV.value0 (zG (P := Tryz.prog) (fn := Tryz.f77) Y Y (by kernel_rfl) Y (fun c hR hfix => ?_)) (fix := fun _ => False) (fun _ h => h) Y Y
 refine rn4 ?_
 refine zB Y Y Y h1 ?_
 refine rn0 ?_
 refine zB Y Y Y zEP ?_
 repeat (refine zBD rfl rfl rfl ?_)
 refine zO (c' := .box (zu 0)) Y Y Y Y Y Nat.zero_lt_one Y Y (fun i' j' hi' hj' => ?_) ?_
 · rw [if_pos (Nat.lt_one_iff.1 hi')]; rfl
 refine rn0 ?_
 refine zB Y Y Y h2 ?_
 refine rn3 ?_
 have hEl : (zAf t t.length).length = (zw t).length := by rw [zG4, List.length_map]
 refine zi (ι := Nat) (fun k => [(0, .ro (zc t) 0 t.length), (6, .ptr 0 0 0), (7, .ro (qsC (zb t (zAR t a b))) 0 t.length), (8, .ptr 1 0 0), (17, .ro (.ints .i64 (zAf t t.length)) 0 (zAf t t.length).length), (18, .int .i64 ((zAf t t.length).length : Nat)), (19, .int .i64 (k : Nat))]) (fun k => [some ⟨122, .box [.bool false, .nil, .nil]⟩, some ⟨122, .box (zu (zGQ t (zAR t a b) k))⟩])
   (fun k => k ≤ (zAf t t.length).length) (fun k => (zAf t t.length).length - k) 0 ⟨⟨rfl, rfl, rfl, rfl, rfl, rfl, rfl, trivial⟩, rfl, Nat.zero_le _⟩ ?_
 intro k hk
 refine rn4 ?_
 refine zE Y (fun h => ?_) (fun h => ?_)
 · have hk' : k < (zw t).length := by omega
   have hi0 := zIs t hk'
   obtain ⟨i1, i2⟩ := zCc (zAQ (l := zw t) 0 hk')
   have hsuc := zLY t (zAR t a b) hk'
   have hpay := zHJ hv i1 i2
   have hpl := (hT.node _ (zAQ node0 i1)).pay
   have cp := zD5 (t.getD ((zw t).getD k 0) node0).pay hpl hpay
   have dr := zCw hv hw hml i1
   have dp := (hm.pays hv).dig _ i1 i2
   have hsum : D (1 + k * 9654) (zGQ t (zAR t a b) k) := by
     unfold zGQ
     refine (zHx (k := 9653) (l := ((zw t).take k).map (zDe t (zb t (zAR t a b)))) (fun q hq => ?_) (j := 1) (acc := 0) ⟨by decide, by decide⟩).mono ?_
     · obtain ⟨x, hx, rfl⟩ := List.mem_map.1 hq
       obtain ⟨x1, x2⟩ := zCc (List.mem_of_mem_take hx)
       exact ((zCw hv hw hml x1).mul ((hm.pays hv).dig _ x1 x2)).mono (by decide)
     · rw [List.length_map, List.length_take]
       have : min k (zw t).length * 9654 ≤ k * 9654 := Nat.mul_le_mul_right _ (Nat.min_le_left _ _)
       omega
   have cm := zFx _ _ (zCE (dr.mono (show 241 * 40 + 1 ≤ 9 * 100000 by decide))) (zCE (dp.mono (by decide)))
   have hend : zDe t (zb t (zAR t a b)) ((zw t).getD k 0) = (zb t (zAR t a b)).getD ((zw t).getD k 0) 0 * zAM (t.getD ((zw t).getD k 0) node0).pay := rfl
   have cm : zW Tryz.prog 105 [qA ((zb t (zAR t a b)).getD ((zw t).getD k 0) 0), qA (zAM (t.getD ((zw t).getD k 0) node0).pay)] (qA (zDe t (zb t (zAR t a b)) ((zw t).getD k 0))) := cm
   have ca := zE7 (zGQ t (zAR t a b) k) (zDe t (zb t (zAR t a b)) ((zw t).getD k 0)) (zCE (hsum.mono (by omega))) (by
     rw [hend]; exact zCE ((dr.mul dp).mono (by decide)))
   rw [← hsuc] at ca
   have hdk : k < (zAf t t.length).length := by omega
   generalize hV2 : zGQ t (zAR t a b) (k + 1) = V2 at *
   generalize zGQ t (zAR t a b) k = V at *
   generalize hE : zDe t (zb t (zAR t a b)) ((zw t).getD k 0) = E at *
   generalize (zw t).getD k 0 = i at *
   repeat (first | refine zA ?_ | refine zX ?_ | refine zx ?_ | refine zl ?_)
   refine zK Y ?_
   repeat (first | refine zD (zL rfl) ?_ | refine zD (zAi rfl rfl rfl) ?_ | refine zC ?_ | refine zA ?_ | refine zD (ze rfl rfl rfl rfl (by first | (simp only [Nat.zero_add, Int.toNat_natCast, Int.toNat_zero]; exact rfl) | exact rfl) (by omega)) ?_)
   refine z7 10 (.int .i64 (i : Nat)) Y (AEq.of_eq (by rw [← hi0])) ?_
   skip
   refine zk (by kernel_rfl) ?_
   refine zt (fuel := 1) [0, 1, 2, 3, 4, 5, 6, 7, 8, 9, 10, 11, 12] [(10, .int .i64 (i : Nat)), (0, .ro (zc t) 0 t.length), (6, .ptr 0 0 0), (7, .ro (qsC (zb t (zAR t a b))) 0 t.length), (8, .ptr 1 0 0), (17, .ro (.ints .i64 (zAf t t.length)) 0 (zAf t t.length).length), (18, .int .i64 ((zAf t t.length).length : Nat)), (19, .int .i64 (k : Nat))] ⟨Y, Y, Y, Y, Y, Y, Y, Y, trivial⟩ (by kernel_rfl) (by decide) Y Y ?_
   refine zU Y Y (zn Y Y Y Y Y Y Y (by first | exact Nat.zero_lt_one | assumption | omega)) ?_
   refine zU Y Y (zH Y) ?_
   refine zU Y Y (zH Y) ?_
   refine zU Y Y (ze Y Y Y Y (by first | (simp only [Nat.zero_add, Int.toNat_natCast, Int.toNat_zero]; exact Y) | exact Y) (by omega)) ?_
   refine zU Y Y (zBS Y Y Y Y Y Y) ?_
   refine zU Y Y (zH Y) ?_
   refine zU Y Y (zH Y) ?_
   refine zU Y Y (ze Y Y Y Y (by first | (simp only [Nat.zero_add, Int.toNat_natCast, Int.toNat_zero]; exact Y) | exact Y) (by omega)) ?_
   refine zU Y Y (zAo Y Y Y Y Y Y) ?_
   refine zU Y Y (zBj Y Y Y Y) ?_
   refine zBR Y Y Y Y Y cp ?_
   refine zBR Y Y Y Y Y cm ?_
   refine zBR Y Y Y Y Y ca ?_
   refine zAZ ?_
   refine zF (is := [13]) (by kernel_rfl) (by simp) Y ⟨fun o ho => ?_, trivial⟩
   all_goals (cases ho)
   unfold qA
   refine zO (c' := .box (zu V2)) Y Y Y Y Y Nat.zero_lt_one Y Y (fun i' j' hi' hj' => ?_) ?_
   · rw [if_pos (Nat.lt_one_iff.1 hi')]; rfl
   refine rn1 ?_
   refine zh (by kernel_rfl) ?_
   refine rn5 ?_
   exact zM ⟨k + 1, by omega, by omega, ⟨Y, Y, Y, Y, Y, Y, Y, trivial⟩, by rw [hV2]; rfl⟩
 · have hie : k = (zAf t t.length).length := by omega
   subst hie
   rw [hEl, zJ0]
   refine rn6 ?_
   refine zO (c' := .box (zu (zAj t (zAR t a b)))) Y Y Y Y Y Nat.zero_lt_one Y Y (fun i' j' hi' hj' => ?_) ?_
   · rw [if_pos (Nat.lt_one_iff.1 hi')]; rfl
   refine rn0 ?_
   exact zI hR Y Y
theorem zOj (l : zBr) (g : FuncId) (caps : List AV) (p : CPlan → Bool) (hc : noRef.noRefs caps = true) (hlen : l.length ≤ 9223372036854775807) (hp : ∀ x ∈ l, zW Tryz.prog g ([.agg (zB3 x)] ++ caps) (.bool (p x))) :
   zW Tryz.prog 111 [.ro (mxC l) 0 l.length, .fn g caps] (.int .i64 (zDM p l)) := by
 refine zV.value0 (zG (P := Tryz.prog) (fn := Tryz.f111) Y Y (by kernel_rfl) Y (fun c hR hfix => ?_)) (fix := fun _ => False) (fun _ h => h) (by simp [noRef.noRefs, noRef, hc]) Y
 refine rn3 ?_
 refine zi (ι := Nat) (fun k => [(0, .ro (mxC l) 0 l.length), (1, .fn g caps), (7, .int .i64 (l.length : Nat)), (8, .int .i64 (k : Nat))]) (fun _ => [])
   (fun k => k ≤ l.length ∧ (l.take k).any p = false) (fun k => l.length - k) 0 ⟨⟨rfl, rfl, rfl, rfl, trivial⟩, rfl, Nat.zero_le _, rfl⟩ ?_
 intro k ⟨hk, hany⟩
 refine rn4 ?_
 refine zE Y (fun h => ?_) (fun h => ?_)
 · have hk' : k < l.length := by omega
   have hanys := zB4 p l cp0 k hk'
   refine rn6 ?_
   refine zN 15 (.agg (zB3 (l.getD k cp0))) Y (AEq.of_eq Y) ?_
   refine zB Y Y Y (hp _ (zBM cp0 hk')) ?_
   refine rn0 ?_
   refine zC9 Y (fun h2 => ?_) (fun h2 => ?_)
   · refine rn6 ?_
     refine zI hR Y ?_
     have := zBf p l k hany hk
     rw [zBy l cp0 k hk'] at this
     simp only [zDM, h2, if_true] at this
     rw [this]; simp [zBL]
   · refine rn5 ?_
     refine zM ⟨k + 1, ⟨by omega, by rw [hanys, hany, h2]; rfl⟩, by omega, ⟨Y, Y, Y, Y, trivial⟩, Y⟩
 · have hk' : k = l.length := by omega
   subst hk'
   refine rn5 ?_
   refine zI hR Y ?_
   have := zBf p l l.length hany hk
   rw [List.drop_length] at this
   rw [this]; rfl
theorem zQx (l : zBr) (g : FuncId) (caps : List AV) (p : CPlan → Bool) (hc : noRef.noRefs caps = true) (hlen : l.length ≤ 9223372036854775807) (hp : ∀ x ∈ l, zW Tryz.prog g ([.agg (zB3 x)] ++ caps) (.bool (p x))) :
   zW Tryz.prog 45 [.ro (mxC l) 0 l.length, .fn g caps] (.bool (l.any p)) := by
 refine zV.value0 (zG (P := Tryz.prog) (fn := Tryz.f45) Y Y (by kernel_rfl) Y (fun c hR hfix => ?_)) (fix := fun _ => False) (fun _ h => h) (by simp [noRef.noRefs, noRef, hc]) Y
 refine rn0 ?_
 refine zB Y Y Y (zOj l g caps p hc hlen hp) ?_
 repeat (first | refine zD (zL rfl) ?_ | refine zC ?_ | refine zA ?_ | refine zAS ?_ | refine zD (zCk rfl rfl) ?_)
 refine zI hR Y ?_
 simp only [zBL, zEt]
structure ShortP (a : CPlan) : Prop where
 ch : a.choices.length ≤ 9223372036854775807
 od : a.odds.length ≤ 9223372036854775807
theorem rdPlan {H : Type} {enc : TypeId × Value → H} {W : World} : Rd enc Tryz.prog W 75 2 zB3 ShortP :=
 (Rd.struct Tryz.underlying75 (by kernel_rfl) (RdF.cons rfl rfl (Rd.ints Tryz.underlying38 (by kernel_rfl) Tryz.underlying3) (RdF.cons rfl rfl (Rd.str Tryz.underlying27) RdF.nil))).map
   (fun a => (⟨a.1, a.2.1⟩ : CPlan)) (fun a h => ⟨h.1.1, h.2.1⟩) (fun a => rfl) (fun a i hi => AEq.rfl')
theorem valN_D {t : zQ} {o : zAI} (hv : Valid t) (hm : Go.Ax.Rt.Modest t) (hw : OddsW t o 241) : D 400000 (zAj t o) := by
 rw [← zJ0]
 unfold zGQ
 rw [List.take_length]
 refine (zHx (k := 9653) (l := (zw t).map (zDe t (zb t o))) (fun q hq => ?_) (j := 1) (acc := 0) ⟨by decide, by decide⟩).mono ?_
 · obtain ⟨x, hx, rfl⟩ := List.mem_map.1 hq
   obtain ⟨x1, x2⟩ := zCc hx
   exact ((zCw hv hw hm.len x1).mul ((hm.pays hv).dig _ x1 x2)).mono (by decide)
 · rw [List.length_map]
   have h1 : (zw t).length ≤ t.length := by
     unfold zw
     exact Nat.le_trans (List.length_filter_le _ _) (by simp)
   have := hm.len
   omega
theorem zKI (t : zQ) (a b : zAK) (hT : ShortT t) (hm : Go.Ax.Rt.Modest t) (h1 : zDN t a b = 0) (ha : StrN t 0 a) (hb : StrN t 1 b) : zW Tryz.prog 19 [.ro (zc t) 0 t.length, .ro (zm a) 0 a.length, .ro (zm b) 0 b.length] (zJB (zEZ (zAj t (zAR t a b)))) := by
 have hv := (zGw h1).1
 have c1 := zF0 t a b hT ha.short hb.short
 rw [h1] at c1
 have c2 := rofN_ok t a b hT hv hm ha hb
 have c3 := zJ2 (zAj t (zAR t a b)) (zCE ((valN_D hv hm (zMX hv hm ha.str hb.str)).mono (show 400000 ≤ 9 * 100000 by decide)))
 refine zV.value0 (zG (P := Tryz.prog) (fn := Tryz.f19) Y Y (by kernel_rfl) Y (fun c hR hfix => ?_)) (fix := fun _ => False) (fun _ h => h) Y Y
 generalize zAj t (zAR t a b) = q at *
 refine rn0 ?_
 refine zB Y Y Y c1 ?_
 refine rn4 ?_
 refine zB Y Y Y c2 ?_
 skip
 refine zB Y Y Y c3 ?_
 refine rn2 ?_
 exact zI hR Y Y
def bigM (a : CPlan) : Bool := decide (12 < (a.odds.length : Int))
theorem equal1 (a : CPlan) (h : a.odds.length ≤ 9223372036854775807) : zW Tryz.prog 46 [.agg (zB3 a)] (.bool (bigM a)) := by
 obtain ⟨cs, od⟩ := a
 refine zV.value0 (zG (P := Tryz.prog) (fn := Tryz.f46) Y Y (by kernel_rfl) Y (fun c hR hfix => ?_)) (fix := fun _ => False) (fun _ h => h) Y Y
 unfold bigM at hR
 unfold zB3
 simp only at *
 refine rn6 ?_
 exact zI hR Y Y
theorem payR_bad {t : zQ} {p : Int} {l : zBr} {o : zAK} (h : (zIf t p l o).2 ≠ 0) : (zIf t p l o).1 = [] := by
 unfold zIf at *
 split
 · rfl
 split
 · rfl
 rename_i h1 h2
 rw [if_neg h1, if_neg h2] at h
 unfold zEZ at h ⊢
 split
 · rename_i h3; rw [if_pos h3] at h; exact absurd rfl h
 · rfl
theorem zQY {t : zQ} {p : Int} {l : zBr} {o : zAK} (h : (zIf t p l o).2 = 0) : zDJ t p l = 0 ∧ zAe t (1 - p) o = 0 ∧ zIf t p l o = zEZ (payQ t p l o) := by
 unfold zIf at h ⊢
 split at h
 · rename_i h1; exact absurd h h1
 split at h
 · rename_i h1; exact absurd h h1
 rename_i h1 h2
 rw [if_neg h1, if_neg h2]
 exact ⟨Classical.not_not.1 h1, Classical.not_not.1 h2, Y⟩
theorem zIb (t : zQ) (p : Int) (l : zBr) (o : zAK) (hT : t.length ≤ 9223372036854775807 ∧ ∀ n ∈ t, ShortN n) (hl : l.length ≤ 9223372036854775807 ∧ ∀ a ∈ l, ShortP a) (ho : o.length ≤ 9223372036854775807 ∧ ∀ c ∈ o, ShortC c) (ho47 : o.length ≤ 4398046511104) : zW Tryz.prog 9 [.ro (zc t) 0 t.length, .int .i64 p, .ro (mxC l) 0 l.length, .ro (zm o) 0 o.length] (.bool true) := by
 have hS : ShortT t := ⟨hT.1, hT.2⟩
 have hSo : ShortS o := ⟨ho.1, ho.2⟩
 have hX : ShortX l := ⟨hl.1, fun a ha => (hl.2 a ha).ch, fun a ha => (hl.2 a ha).od⟩
 have hll := hl.1
 have c1 := zRe t hS
 have c2 := plain_ok [o] (by show 1 ≤ 1000000; decide) (by show ((o.length : Nat) : Int) + 0 ≤ 4398046511104; omega) (fun x hx => by rw [List.mem_singleton.1 hx]; exact ho.2)
 have c3 := zQx l 46 [] bigM rfl hl.1 (fun a ha => equal1 a (hl.2 a ha).od)
 refine zV.value0 (zG (P := Tryz.prog) (fn := Tryz.f9) Y Y (by kernel_rfl) Y (fun c hR hfix => ?_)) (fix := fun _ => False) (fun _ h => h) Y Y
 refine rn0 ?_
 refine zB Y Y Y zNk ?_
 refine rn5 ?_
 refine zB Y Y Y zRh ?_
 refine rn5 ?_
 refine zB Y Y Y c1 ?_
 cases hmo : zIQ t
 · refine rn6 ?_
   exact zI hR Y Y
 have hm := zJS hmo
 refine rn5 ?_
 refine zN 28 (.ro (zIv [o]) 0 1) Y (AEq.ro_in Y (fun d j hd hj => ?_)) ?_
 · have hj : j < 1 := hj
   obtain rfl : j = 0 := by omega
   obtain rfl : d = 0 := by omega
   exact AEq.rfl'
 refine zB Y Y Y c2 ?_
 cases hpl : zKb [o]
 · refine rn6 ?_
   exact zI hR Y Y
 have hdo := zOH hpl o (by simp)
 refine rn6 ?_
 by_cases h20 : (20 : Int) < ((l.length : Nat) : Int)
 · rw [decide_eq_true h20]
   refine rn6 ?_
   exact zI hR Y Y
 rw [decide_eq_false h20]
 refine rn2 ?_
 refine zB Y Y Y c3 ?_
 cases hlo : l.any bigM
 case true =>
   refine rn5 ?_
   exact zI hR Y Y
 have hdl : ∀ a ∈ l, a.odds.length ≤ 12 := fun a ha => by
   rw [List.any_eq_false] at hlo
   have := hlo a ha
   unfold bigM at this
   rw [decide_eq_true_eq] at this
   omega
 have c4 := pay_ok t p l o hS hm hX hSo hdo
 have c5 := zLb t p l hS hX
 unfold zJB at c4
 by_cases he : (zIf t p l o).2 = 0
 case neg =>
   have hb := payR_bad he
   generalize zIf t p l o = r at *
   obtain ⟨r1, r2⟩ := r
   simp only at hb he c4
   subst hb
   generalize zIL t p l = w at *
   refine rn4 ?_
   refine zB Y Y Y c4 ?_
   refine rn2 ?_
   refine zB Y Y Y c5 ?_
   refine rn3 ?_
   rw [decide_eq_true (show ¬ r2 = 0 from he)]
   refine rn6 ?_
   rw [decide_eq_false he]
   refine rn6 ?_
   exact zI hR Y Y
 obtain ⟨hc, hst, hq⟩ := zQY he
 by_cases hpf : zBd t p = true
 case neg =>
   have hbr : zIL t p l = ([], 10) := by
     unfold zIL
     rw [if_neg (fun q => q hc), if_neg hpf]
   rw [hbr] at c5
   generalize zIf t p l o = r at *
   obtain ⟨r1, r2⟩ := r
   simp only at he c4
   subst he
   refine rn4 ?_
   refine zB Y Y Y c4 ?_
   refine rn2 ?_
   refine zB Y Y Y c5 ?_
   refine rn6 ?_
   exact zI hR Y Y
 obtain ⟨u, hu1, hu2, hu3, hu4⟩ := zM6 (o := o) hc hpf (by omega) hdl
 obtain ⟨hpe, hO⟩ := zFg hc
 obtain ⟨hv, hp⟩ := zB6 hpe
 rw [hu1] at c5
 simp only at c5
 rw [hq, hu4] at c4 he
 have hrep : zDN t (zC0 p u o) (zC1 p u o) = 0 := by rw [zPF hp (zNp hpe) hu2]; exact hst
 have hU : StrN t p u := strN_of hu2 hu3
 have hV : StrN t (1 - p) o := StrS.long ⟨hSo, zCs hst, hdo⟩
 cases hv : zEZ (zAj t (zLa t (zC0 p u o) (zC1 p u o))) with
 | mk v1 v2 =>
 rw [hv] at c4 he
 simp only at c4 he
 subst he
 clear hq hu4
 rcases hp with rfl | rfl
 · have e1 : zC0 0 u o = u := rfl
   have e2 : zC1 0 u o = o := rfl
   have c6 := zKI t (zC0 0 u o) (zC1 0 u o) hS hm hrep hU hV
   unfold zJB at c6
   rw [show zEZ (zAj t (zAR t (zC0 0 u o) (zC1 0 u o))) = (v1, 0) from hv, e1, e2] at c6
   simp only at c6
   refine rn4 ?_
   refine zB Y Y Y c4 ?_
   refine rn2 ?_
   refine zB Y Y Y c5 ?_
   refine rn4 ?_
   refine zB Y Y Y c6 ?_
   refine rn6 ?_
   rw [decide_eq_true (show v1 = v1 from rfl)]
   skip
   exact zI hR Y Y
 · have e1 : zC0 1 u o = o := rfl
   have e2 : zC1 1 u o = u := rfl
   have c6 := zKI t (zC0 1 u o) (zC1 1 u o) hS hm hrep hV hU
   unfold zJB at c6
   rw [show zEZ (zAj t (zAR t (zC0 1 u o) (zC1 1 u o))) = (v1, 0) from hv, e1, e2] at c6
   simp only at c6
   refine rn4 ?_
   refine zB Y Y Y c4 ?_
   refine rn2 ?_
   refine zB Y Y Y c5 ?_
   refine rn5 ?_
   refine zB Y Y Y c6 ?_
   refine rn6 ?_
   rw [decide_eq_true (show v1 = v1 from rfl)]
   skip
   exact zI hR Y Y
end Go.Proofs.YtnkealfaldjipaaGreatDoor
namespace Go.Proofs.YtnkealfaldjipaaGreatDoor
open Go.ChangeShapes Go.WideShapes
theorem ownIt : ownKnob Tryz.prog.godebug = none := by kernel_rfl
theorem laidIt : laidOutB Tryz.prog = true := by kernel_rfl
theorem zPv : mapsRowed Tryz.prog = true := by kernel_rfl
theorem fullIt : ((List.range Tryz.prog.types.size).all fun t => match Tryz.prog.underlying t with | some (.slice e) => decide (0 < Tryz.prog.cellsOf e) | _ => true) = true := by kernel_rfl
theorem stopsIt : (Tryz.prog.stops == []) = true := by kernel_rfl
theorem knobsIt : (Tryz.prog.stopKnobs == []) = true := by kernel_rfl
theorem heardIt : Tryz.prog.stopsHeard = true := by kernel_rfl
theorem enterIt : Tryz.prog.mayEnter = true := by kernel_rfl
theorem liftIt : (Rows.replyGetsRow.lifted == Tryz.prog.liftsFinal) = true := by kernel_rfl
theorem makeIt : (Tryz.prog.make == some Rows.replyGetsRow.make) = true := by kernel_rfl
theorem plainIt : (Rows.replyGetsRow.plainKeys == Tryz.prog.plainKeys) = true := by kernel_rfl
theorem zQd : Tryz.prog.mainIs = some (true, ("9a7b365347614a0287077179d20768685206a4b5ee48bcf94245b18e3653b2c2" : String).toList) := by kernel_rfl
theorem looksIt : true = Tryz.prog.looks [] := by kernel_rfl
end Go.Proofs.YtnkealfaldjipaaGreatDoor
