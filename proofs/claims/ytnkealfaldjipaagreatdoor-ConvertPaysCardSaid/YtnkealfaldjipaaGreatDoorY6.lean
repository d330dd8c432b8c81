import Derived.Test.YtnkealfaldjipaaGreatDoorRows
import Derived.Test.YtnkealfaldjipaaGreatDoorTie
import Derived.Test.YtnkealfaldjipaaGreatDoorCards
import Derived.LaidMore
import Derived.Lay
import Derived.SevenTiedAt
import Derived.Stop.Joined
import Derived.Stop.ErrReads
import Derived.MakeChecks
import Derived.Test.YtnkealfaldjipaaGreatDoorY5
set_option linter.unusedVariables false
set_option linter.unusedSimpArgs false
namespace Go.Proofs.YtnkealfaldjipaaGreatDoor
open Go.Ax Go.Ax.Bg Go.Ax.Rt Go.RowKit Go.Ax.Idx Go.Ax.Cd
attribute [local irreducible] Ax zBE QOp zV zAz
set_option maxRecDepth 100000
set_option maxHeartbeats 4000000
def pwC (os : List (List Rat)) (cs : List Int) (m : Nat) : Rat := zIP (os.take m) (cs.take m) 1
theorem zOB {os : List (List Rat)} {cs : List Int} {m : Nat} (h1 : m < os.length) (h2 : m < cs.length) : pwC os cs (m + 1) = pwC os cs m * (os.getD m []).getD (cs.getD m 0).toNat 0 := by
 unfold pwC
 rw [List.take_succ_eq_append_getElem h1, List.take_succ_eq_append_getElem h2, ← zAC [] h1, ← zAC 0 h2]
 exact zKy _ _ _ _ _ (by rw [List.length_take, List.length_take]; omega)
theorem pwC_all {os : List (List Rat)} {cs : List Int} (h : cs.length = os.length) : pwC os cs os.length = zIP os cs 1 := by
 unfold pwC
 rw [List.take_length, ← h, List.take_length]
theorem pwC_D {os : List (List Rat)} {cs : List Int} (hd : ∀ o ∈ os, ∀ x ∈ o, D 2000 x) (hl : cs.length = os.length) (hc : ∀ m, m < os.length → (cs.getD m 0).toNat < (os.getD m []).length) : ∀ m, m ≤ os.length → D (1 + 2000 * m) (pwC os cs m)
 | 0, _ => by show D 1 (1 : Rat); exact ⟨by decide, by decide⟩
 | m + 1, hm => by
   rw [zOB (by omega) (by omega)]
   exact ((pwC_D hd hl hc m (by omega)).mul (hd _ (zAP [] (by omega)) _ (zAP 0 (hc m (by omega))))).mono (by omega)
theorem zJK {s : zAL} {l : List (List Int)} {k : Nat} (hk : k < l.length) : zCN s (l.take (k + 1)) = if zCX s (l.getD k []) = 0 then zCN s (l.take k) else zCN s (l.take k) ++ [l.getD k []] := by
 unfold zCN
 rw [List.take_succ_eq_append_getElem hk, List.filter_append, ← zAC [] hk]
 by_cases h : zCX s (l.getD k []) = 0
 · rw [if_pos h, List.filter_cons_of_neg (by rw [decide_eq_true_eq]; exact fun q => q h), List.filter_nil, List.append_nil]
 · rw [if_neg h, List.filter_cons_of_pos (by rw [decide_eq_true_eq]; exact h), List.filter_nil]
def zEG (s : zAL) (l : List (List Int)) : zB2 := (zCN s l).map (fun c => ⟨c, zAG (zCX s c)⟩)
theorem zNn {s : zAL} {l : List (List Int)} {k : Nat} (hk : k < l.length) : zEG s (l.take (k + 1)) = if zCX s (l.getD k []) = 0 then zEG s (l.take k) else zEG s (l.take k) ++ [⟨l.getD k [], zAG (zCX s (l.getD k []))⟩] := by
 unfold zEG
 rw [zJK hk]
 split
 · rfl
 · rw [List.map_append]; rfl
theorem zOT (s : zAL) (l : List (List Int)) : (zEG s l).length ≤ l.length := by
 unfold zEG zCN
 rw [List.length_map]
 exact List.length_filter_le _ _
theorem zPT {s : zAL} {l : List (List Int)} {c : List Int} (hc : c ∈ l) (h0 : zCX s c ≠ 0) (hf : zBP (zCX s c) = false) : zC2 s l = ([], 2) := by
 unfold zC2
 rw [if_neg (fun q => by
   rw [List.all_eq_true] at q
   have := q c (List.mem_filter.2 ⟨hc, by simpa using h0⟩)
   rw [hf] at this; cases this)]
theorem zN4 {s : zAL} {l : List (List Int)} (h : (zCN s l).all (fun c => zBP (zCX s c)) = true) : zC2 s l = (zEG s l, 0) := by
 unfold zC2
 rw [if_pos h]; rfl
theorem rowM2 (a : CPlan) (j : Nat) (hj : j < 2) : (zEQ 1 2 [.ro (.ints .i64 a.choices) 0 a.choices.length, .str a.odds]).at 0 j = (zDN a).getD j .any := by
 match j, hj with
 | 0, _ => rfl
 | 1, _ => rfl
theorem zNv (l : zB2) (n : Nat) : zA2 n (mxC l) := by
 intro i j _ hj
 have hj : j < 2 := hj
 show zC1 n ((zDN (l.getD i cp0)).getD j .any) = true
 match j, hj with
 | 0, _ => rfl
 | 1, _ => rfl
theorem zMu (m : List (List Rat)) (n : Nat) : zA2 n (zGS m) := by
 intro i j _ hj
 obtain rfl : j = 0 := by have hj : j < 1 := hj; omega
 rfl
theorem zNH (t : zQ) (p : Int) (s : zAL) (hT : ShortT t) (hs : ShortS s) : zX Tryz.prog 35 [.ro (zc t) 0 t.length, .int .i64 p, .ro (zm s) 0 s.length] (.tup [.ro (mxC (zBr t p s).1) 0 (zBr t p s).1.length, .int .i64 (zBr t p s).2]) := by
 have c1 := zJ6 t p hT
 have c2 := zED t p s hT.len hs
 have hsl := hs.len
 refine zV.value0 (zG (P := Tryz.prog) (fn := Tryz.f35) Y Y (by kernel_rfl) Y (fun c hR hfix => ?_)) (fix := fun _ => False) (fun _ h => h) Y Y
 unfold zBr at hR
 by_cases h1 : zAZ t p = 0
 case neg =>
   rw [zHl h1] at c1
   rw [if_pos h1] at hR
   generalize zAZ t p = e at *
   refine rn0 ?_
   refine zC Y Y Y c1 ?_
   refine rn3 ?_
   rw [decide_eq_true (show ¬ e = 0 from h1)]
   repeat (first | refine zD (zH rfl) ?_ | refine zD (zL rfl) ?_ | refine zB ?_ | refine zA ?_ | refine zW ?_ | refine zK rfl ?_ | refine zAV rfl ?_)
   refine z7 6 (.ro (mxC []) 0 0) Y AEq.nil ?_
   refine rn2 ?_
   exact zI hR Y Y
 obtain ⟨hv, _⟩ := zCd h1
 rw [zGq h1] at c1
 rw [if_neg (fun q => q h1)] at hR
 have c3 := all_ok (zAS t p) (by have := zJq t p; omega) (fun n hn => by have := zPt hv p n hn; omega)
 rw [← zE4] at c3
 have hzl : (zz t p).length = (zAS t p).length := by rw [zE4]; exact List.length_map _
 by_cases h2 : zAl t p s = 0
 case neg =>
   rw [if_pos h2] at hR
   generalize zAl t p s = e at *
   refine rn0 ?_
   refine zC Y Y Y c1 ?_
   refine rn4 ?_
   refine zC Y Y Y c2 ?_
   refine rn3 ?_
   rw [decide_eq_true (show ¬ e = 0 from h2)]
   repeat (first | refine zD (zH rfl) ?_ | refine zD (zL rfl) ?_ | refine zB ?_ | refine zA ?_ | refine zW ?_ | refine zK rfl ?_ | refine zAV rfl ?_)
   refine z7 6 (.ro (mxC []) 0 0) Y AEq.nil ?_
   refine rn2 ?_
   exact zI hR Y Y
 have hk := zEg h2
 rw [if_neg (fun q => q h2)] at hR
 rw [h2] at c2
 cases ha : zHQ (zAS t p) [[]] with
 | none =>
   rw [ha] at c3 hR
   refine rn0 ?_
   refine zC Y Y Y c1 ?_
   refine rn4 ?_
   refine zC Y Y Y c2 ?_
   refine rn4 ?_
   refine zN 43 (.ro (.ints .i64 (zz t p)) 0 (zAS t p).length) Y (AEq.of_eq (by rw [hzl])) ?_
   refine zC Y Y Y c3 ?_
   repeat (first | refine zD (zH rfl) ?_ | refine zD (zL rfl) ?_ | refine zB ?_ | refine zA ?_ | refine zW ?_ | refine zK rfl ?_ | refine zAV rfl ?_ | refine zD (zEE rfl) ?_ | refine zD (zBM rfl rfl) ?_)
   refine z7 6 (.ro (mxC []) 0 0) Y AEq.nil ?_
   refine rn2 ?_
   exact zI hR Y Y
 | some L =>
   rw [ha] at c3 hR
   have hR : c.R = fun r' x => r' = .tup [.ro (mxC (zC2 s L).1) 0 (zC2 s L).1.length, .int .i64 (zC2 s L).2] := hR
   obtain ⟨hLw, hL⟩ := zNh ha
   have hLc : ∀ a ∈ L, a.length = (zBo s).length ∧ ∀ m, m < (zBo s).length → 0 ≤ a.getD m 0 ∧ (a.getD m 0).toNat < ((zBo s).getD m []).length := by
     intro a hal
     rw [hLw] at hal
     have hc' := zKt hal
     have hol : (zBo s).length = (zAS t p).length := by rw [zDm hk, List.length_map, zC7]
     refine ⟨by rw [hc'.1, hol], fun m hm => ?_⟩
     have h8 := hc'.2 m (by omega)
     have hmi : m < (zJ t p).length := by rw [hol, zC7] at hm; exact hm
     rw [zMR hmi] at h8
     have hx : (zJ t p).getD m 0 ∈ zJ t p := zAP 0 hmi
     rw [zDm hk, zBB _ _ 0 _ _ hmi, hk.mix.len _ hx]
     exact h8
   have hOd : ∀ o ∈ zBo s, ∀ x ∈ o, D 2000 x := fun o ho x hx => by
     obtain ⟨y, hy, rfl⟩ := List.mem_map.1 ho
     exact ((zBu (hk.odds y hy)).2.2.2 x hx).2
   have hO10 : (zBo s).length ≤ 10 := by
     rw [zDm hk, List.length_map]
     unfold zJ
     exact Nat.le_trans (List.length_filter_le _ _) (by simp)
   have hOl : (zBo s).length = s.length := List.length_map _
   have hko := hk.odds
   have hwg : ∀ a, zCX s a = zIP (zBo s) a 1 := fun a => rfl
   clear hk hLw ha h1 h2
   refine rn0 ?_
   refine zC Y Y Y c1 ?_
   refine rn4 ?_
   refine zC Y Y Y c2 ?_
   refine rn4 ?_
   refine zN 43 (.ro (.ints .i64 (zz t p)) 0 (zAS t p).length) Y (AEq.of_eq (by rw [hzl])) ?_
   refine zC Y Y Y c3 ?_
   repeat (first | refine zD (zH rfl) ?_ | refine zD (zL rfl) ?_ | refine zB ?_ | refine zA ?_ | refine zW ?_ | refine zK rfl ?_ | refine zx rfl ?_ | refine zk ?_ | refine zD (zEE rfl) ?_ | refine zD (zBM rfl rfl) ?_ | refine zD (zA6 rfl rfl rfl) ?_)
   refine zA5 14 ⟨135, zGS []⟩ Y Y ?_
   repeat (refine zw ?_)
   refine zi (ι := Nat) (fun i => [(12, .ro (zBC L) 0 L.length), (14, .sl 0 0 i), (49, .ro (zm s) 0 s.length), (50, .int .i64 (s.length : Nat)), (51, .int .i64 (i : Nat))]) (fun i => [some ⟨135, zGS (zBo (s.take i))⟩])
     (fun i => i ≤ s.length) (fun i => s.length - i) 0 ⟨⟨rfl, rfl, rfl, rfl, rfl, trivial⟩, rfl, Nat.zero_le _⟩ ?_
   intro i hi
   refine rn4 ?_
   refine zE Y (fun h => ?_) (fun h => ?_)
   · have hi' : i < s.length := by omega
     have hsn := hs.each _ (zAP ch0 hi')
     obtain ⟨v1, v2, _, _⟩ := zBu (hko _ (zAP ch0 hi'))
     have htk : zBo (s.take (i + 1)) = zBo (s.take i) ++ [(s.getD i ch0).odds.map zAT] := by
       unfold zBo
       rw [List.take_succ_eq_append_getElem hi', List.map_append, ← zAC ch0 hi']; rfl
     have hml : (zBo (s.take i)).length = i := by unfold zBo; rw [List.length_map, List.length_take]; omega
     generalize zBo (s.take i) = OS at *
     generalize hOS2 : zBo (s.take (i + 1)) = OS2 at *
     refine rn6 ?_
     refine zN 54 (.agg (cellsC (s.getD i ch0))) Y (AEq.of_eq Y) ?_
     generalize s.getD i ch0 = x at *
     obtain ⟨nf, od⟩ := x
     obtain ⟨hod1, hod2⟩ := hsn
     simp only at *
     have cin := zOQ od (by omega) (fun r hr => ⟨hod2 r hr, v2 r hr⟩)
     generalize od.map zAT = qs at *
     refine zP (c' := .box [.int .i64 nf, .ro (.strs od) 0 od.length]) Y Y Y Y Y Nat.zero_lt_one Y Y (fun i' j' hi' hj' => ?_) ?_
     · rw [if_pos (Nat.lt_one_iff.1 hi')]; rfl
     refine rn5 ?_
     refine zC Y Y Y cin ?_
     repeat (refine zj rfl rfl rfl rfl rfl rfl rfl rfl rfl rfl rfl ?_)
     refine zr Y Y Y Y Y Y Y Y Y hml Y Y (by show 0 + 1 ≤ 1; omega) Y (by show (i + 1) * 24 ≤ _ ∧ _; omega) ?_ (by rw [hfix]; exact fun h => h) ?_
     · intro i' j hi hj
       exact zDC [] 1 zLn zNc OS qs _ (rowR1 _) 0 i' j hi hj
     repeat (first | refine zD (zL rfl) ?_ | refine zB ?_ | refine zd ?_)
     refine zA ?_
     refine zBg [some ⟨135, zGS OS2⟩, some ⟨67, .box [.int .i64 nf, .ro (.strs od) 0 od.length]⟩] ?_ ?_
     · rw [htk]
       exact z6.eqv (zCx [] 1 zLn OS qs _ (rowR1 _)) (z6.eqv (CEq.refl _) z6.nil)
     refine zAb [some ⟨135, zGS OS2⟩] [some ⟨67, .box [.int .i64 nf, .ro (.strs od) 0 od.length]⟩] [(12, .ro (zBC L) 0 L.length), (14, .sl 0 0 (i + 1)), (49, .ro (zm s) 0 s.length), (50, .int .i64 (s.length : Nat)), (51, .int .i64 (i : Nat))] Y ⟨Y, Y, Y, Y, Y, trivial⟩ (fun h hh => by rw [hfix] at hh; exact absurd hh id) (zBs (zMu _ _)) Y ?_
     refine rn3 ?_
     exact zM ⟨i + 1, by omega, by omega, ⟨Y, Y, Y, Y, Y, trivial⟩, by rw [hOS2]⟩
   · have hie : i = s.length := by omega
     subst hie
     rw [List.take_length]
     generalize hOS : zBo s = OS at *
     repeat (first | refine zA ?_ | refine zW ?_ | refine zAj ?_ | refine zp ?_ | refine zo ?_ | refine zAB ?_)
     refine zAU 0 14 s.length [(12, .ro (zBC L) 0 L.length)] Y (zLD _) Y (by show _ ≤ OS.length; omega) ⟨Y, trivial⟩ ?_
     refine z7 14 (.ro (zGS OS) 0 OS.length) Y (AEq.of_eq (by rw [hOl])) ?_
     refine zDv (H1 := []) Y (by rw [hfix]; exact fun h => h) ?_
     repeat (first | refine zD (zH rfl) ?_ | refine zD (zL rfl) ?_ | refine zB ?_ | refine zA ?_ | refine zW ?_ | refine zK rfl ?_ | refine zD (zA6 rfl rfl rfl) ?_)
     refine zA5 17 ⟨75, mxC []⟩ Y Y ?_
     repeat (refine zw ?_)
     refine zi (ι := Nat) (fun k => [(14, .ro (zGS OS) 0 OS.length), (17, .sl 0 0 (zEG s (L.take k)).length), (62, .ro (zBC L) 0 L.length), (63, .int .i64 (L.length : Nat)), (64, .int .i64 (k : Nat))]) (fun k => [some ⟨75, mxC (zEG s (L.take k))⟩])
       (fun k => k ≤ L.length ∧ (zCN s (L.take k)).all (fun c => zBP (zCX s c)) = true) (fun k => L.length - k) 0 ⟨⟨rfl, rfl, rfl, rfl, rfl, trivial⟩, rfl, Nat.zero_le _, rfl⟩ ?_
     rintro k ⟨hk, hfit⟩
     refine rn4 ?_
     refine zE Y (fun h => ?_) (fun h => ?_)
     · have hk' : k < L.length := by omega
       have hsm := zNn (s := s) hk'
       have hsl' := zJK (s := s) hk'
       have hpl := zOT s (L.take k)
       rw [List.length_take] at hpl
       have hmem : L.getD k [] ∈ L := zAP [] hk'
       obtain ⟨ha1, ha2⟩ := hLc _ hmem
       have hbad := zPT (s := s) hmem
       have hDm := pwC_D hOd ha1 (fun m hm => (ha2 m hm).2)
       have hsu := fun m (h : m < OS.length) => zOB (os := OS) (cs := L.getD k []) (m := m) h (by omega)
       have hal := pwC_all ha1
       rw [← hwg] at hal
       have hOm : ∀ m, m < OS.length → OS.getD m [] ∈ OS := fun m hm => zAP [] hm
       have h00 : pwC OS (L.getD k []) 0 = 1 := rfl
       generalize hM2 : zEG s (L.take (k + 1)) = M2 at *
       generalize zEG s (L.take k) = M at *
       refine rn6 ?_
       generalize L.getD k [] = cs at *
       generalize hwq : zCX s cs = W at *
       refine zC Y Y Y zKk ?_
       unfold qA
       repeat (refine zBK rfl rfl rfl ?_)
       refine zP (c' := .box (zu 1)) Y Y Y Y Y Nat.zero_lt_one Y Y (fun i' j' hi' hj' => ?_) ?_
       · rw [if_pos (Nat.lt_one_iff.1 hi')]; rfl
       refine rn3 ?_
       rw [← h00]
       refine zi (ι := Nat) (fun m => [(14, .ro (zGS OS) 0 OS.length), (17, .sl 0 0 M.length), (19, .ro (.ints .i64 cs) 0 cs.length), (20, .ptr 1 0 0), (62, .ro (zBC L) 0 L.length), (63, .int .i64 (L.length : Nat)), (64, .int .i64 (k : Nat)), (69, .ro (.ints .i64 cs) 0 cs.length), (70, .int .i64 (cs.length : Nat)), (71, .int .i64 (m : Nat))]) (fun m => [some ⟨75, mxC M⟩, some ⟨122, .box (zu (pwC OS cs m))⟩])
         (fun m => m ≤ cs.length) (fun m => cs.length - m) 0 ⟨⟨rfl, rfl, rfl, rfl, rfl, rfl, rfl, rfl, rfl, rfl, trivial⟩, rfl, Nat.zero_le _⟩ ?_
       intro m hm
       refine rn4 ?_
       refine zE Y (fun h5 => ?_) (fun h5 => ?_)
       · have hm' : m < OS.length := by omega
         have hmc : m < cs.length := by omega
         obtain ⟨hx0, hx1⟩ := ha2 m hm'
         have hsuc := hsu m hm'
         have hrow := hOd _ (hOm m hm')
         have hD1 := hDm m (by omega)
         generalize hq2 : pwC OS cs (m + 1) = q2 at *
         generalize pwC OS cs m = q1 at *
         obtain ⟨x, hx⟩ := Int.eq_ofNat_of_zero_le hx0
         rw [hx, Int.toNat_natCast] at hx1 hsuc
         have hD2 := hrow _ (zAP 0 hx1)
         have cm := zHJ q1 ((OS.getD m []).getD x 0) (zCw (hD1.mono (show 1 + 2000 * m ≤ 9 * 100000 by omega))) (zCw (hD2.mono (show 2000 ≤ 9 * 100000 by decide)))
         rw [← hsuc] at cm
         repeat (first | refine zA ?_ | refine zW ?_ | refine zw ?_ | refine zk ?_)
         refine zK Y ?_
         repeat (first | refine zD (zH rfl) ?_ | refine zD (zL rfl) ?_ | refine zD (zAn rfl rfl rfl) ?_ | refine zB ?_ | refine zA ?_ | refine zD (zf rfl rfl rfl rfl (by first | (simp only [Nat.zero_add, Int.toNat_natCast, Int.toNat_zero]; exact rfl) | exact rfl) (by omega)) ?_)
         refine z7 22 (.int .i64 (x : Nat)) Y (AEq.of_eq (by rw [hx])) ?_
         skip
         refine zl (by kernel_rfl) ?_
         refine zt (fuel := 1) [0, 1, 2, 3, 4, 5, 6, 7, 8] [(14, .ro (zGS OS) 0 OS.length), (17, .sl 0 0 M.length), (19, .ro (.ints .i64 cs) 0 cs.length), (20, .ptr 1 0 0), (62, .ro (zBC L) 0 L.length), (63, .int .i64 (L.length : Nat)), (64, .int .i64 (k : Nat)), (69, .ro (.ints .i64 cs) 0 cs.length), (70, .int .i64 (cs.length : Nat)), (71, .int .i64 (m : Nat)), (21, .int .i64 (m : Nat)), (22, .int .i64 (x : Nat))] ⟨Y, Y, Y, Y, Y, Y, Y, Y, Y, Y, Y, Y, trivial⟩ (by kernel_rfl) (by decide) Y Y ?_
         refine zU Y Y (zq Y Y Y Y Y Y Y (by first | exact Nat.zero_lt_one | assumption | omega)) ?_
         refine zU Y Y (zH Y) ?_
         refine zU Y Y (zH Y) ?_
         refine zU Y Y (zf Y Y Y Y (by first | (simp only [Nat.zero_add, Int.toNat_natCast, Int.toNat_zero]; exact Y) | exact Y) (by omega)) ?_
         refine zU Y Y (zBl Y Y Y Y) ?_
         refine zU Y Y (zH Y) ?_
         refine zU Y Y (zf Y Y Y Y (by first | (simp only [Nat.zero_add, Int.toNat_natCast, Int.toNat_zero]; exact Y) | exact Y) (by omega)) ?_
         refine zU Y Y (zBi Y Y Y Y Y Y) ?_
         refine zBc Y Y Y Y Y cm ?_
         refine zAc ?_
         refine zF (is := [9]) (by kernel_rfl) (by simp) Y ⟨fun o ho => ?_, trivial⟩
         all_goals (cases ho)
         unfold qA
         refine zP (c' := .box (zu q2)) Y Y Y Y Y Nat.zero_lt_one Y Y (fun i' j' hi' hj' => ?_) ?_
         · rw [if_pos (Nat.lt_one_iff.1 hi')]; rfl
         refine rn1 ?_
         refine zh (by kernel_rfl) ?_
         refine rn5 ?_
         exact zM ⟨m + 1, by omega, by omega, ⟨Y, Y, Y, Y, Y, Y, Y, Y, Y, Y, trivial⟩, by rw [hq2]; rfl⟩
       · have hme : m = OS.length := by omega
         subst hme
         have hDW := hDm OS.length (Nat.le_refl _)
         rw [hal] at hDW
         rw [hal]
         have cS := zNs W
         have cO := zMC W (zCw (hDW.mono (show 1 + 2000 * OS.length ≤ 9 * 100000 by omega)))
         unfold zHM at cO
         refine rn6 ?_
         refine zC Y Y Y cS ?_
         refine rn4 ?_
         refine zE Y (fun h9 => ?_) (fun h9 => ?_)
         · have hW0 : W = 0 := zNB.1 h9
           rw [if_pos hW0] at hsm hsl'
           repeat (first | refine zAj ?_ | refine zp ?_ | refine zo ?_)
           refine zA ?_
           refine zAb [some ⟨75, mxC M⟩] [some ⟨122, .box (zu W)⟩] [(14, .ro (zGS OS) 0 OS.length), (17, .sl 0 0 M.length), (62, .ro (zBC L) 0 L.length), (63, .int .i64 (L.length : Nat)), (64, .int .i64 (k : Nat))] Y ⟨Y, Y, Y, Y, Y, trivial⟩ (fun h hh => by rw [hfix] at hh; exact absurd hh id) (zBs (zNv _ _)) Y ?_
           refine rn3 ?_
           exact zM ⟨k + 1, ⟨by omega, by rw [hsl']; exact hfit⟩, by omega, ⟨Y, by rw [hM2, hsm]; rfl, Y, Y, Y, trivial⟩, by rw [hM2, hsm]⟩
         · have hW0 : W ≠ 0 := fun e => h9 (zNB.2 e)
           rw [if_neg hW0] at hsm hsl'
           cases hf : zBP W with
           | false =>
             rw [hf, if_neg (by decide)] at cO
             rw [hbad hW0 hf] at hR
             refine rn6 ?_
             refine zC Y Y Y cO ?_
             repeat (first | refine zD (zH rfl) ?_ | refine zD (zL rfl) ?_ | refine zB ?_ | refine zA ?_ | refine zW ?_ | refine zK rfl ?_ | refine zAV rfl ?_ | refine zD (zD6 rfl rfl) ?_ | refine zD (zBM rfl rfl) ?_)
             refine z7 6 (.ro (mxC []) 0 0) Y AEq.nil ?_
             refine rn6 ?_
             exact zI hR Y Y
           | true =>
             rw [hf, if_pos rfl] at cO
             generalize hTx : zAG W = Tx at *
             refine rn6 ?_
             refine zC Y Y Y cO ?_
             repeat (first | refine zD (zH rfl) ?_ | refine zD (zL rfl) ?_ | refine zB ?_ | refine zA ?_ | refine zW ?_ | refine zK rfl ?_ | refine zx rfl ?_ | refine zk ?_ | refine zD (zD6 rfl rfl) ?_ | refine zD (zBM rfl rfl) ?_ | refine zD (zAR rfl rfl rfl rfl rfl rfl) ?_ | refine zj rfl rfl rfl rfl rfl rfl rfl rfl rfl rfl rfl ?_)
             refine zr Y Y Y Y Y Y Y Y Y Y Y Y (by show 0 + 1 ≤ 1; omega) Y (by show (M.length + 1) * 40 ≤ _ ∧ _; omega) ?_ (by rw [hfix]; exact fun h => h) ?_
             · intro i' j hi hj
               exact zDC cp0 2 zDN zLC M ⟨cs, Tx⟩ _ (rowM2 ⟨cs, Tx⟩) 0 i' j hi hj
             repeat (first | refine zD (zL rfl) ?_ | refine zB ?_ | refine zd ?_)
             refine zA ?_
             refine zBg [some ⟨75, mxC M2⟩, some ⟨122, .box (zu W)⟩] ?_ ?_
             · rw [hsm]
               exact z6.eqv (zCx cp0 2 zDN M ⟨cs, Tx⟩ _ (rowM2 ⟨cs, Tx⟩)) (z6.eqv (CEq.refl _) z6.nil)
             refine zAb [some ⟨75, mxC M2⟩] [some ⟨122, .box (zu W)⟩] [(14, .ro (zGS OS) 0 OS.length), (17, .sl 0 0 (M.length + 1)), (62, .ro (zBC L) 0 L.length), (63, .int .i64 (L.length : Nat)), (64, .int .i64 (k : Nat))] Y ⟨Y, Y, Y, Y, Y, trivial⟩ (fun h hh => by rw [hfix] at hh; exact absurd hh id) (zBs (zNv _ _)) Y ?_
             refine rn3 ?_
             exact zM ⟨k + 1, ⟨by omega, by rw [hsl', List.all_append, hfit]; show (true && (zBP (zCX s cs) && true)) = true; rw [hwq, hf]; rfl⟩, by omega, ⟨Y, by rw [hM2, hsm, List.length_append]; rfl, Y, Y, Y, trivial⟩, by rw [hM2]⟩
     · have hke : k = L.length := by omega
       subst hke
       rw [List.take_length] at hfit
       rw [List.take_length]
       rw [zN4 hfit] at hR
       generalize zEG s L = M at *
       repeat (first | refine zA ?_ | refine zW ?_ | refine zAj ?_ | refine zp ?_ | refine zo ?_ | refine zAB ?_)
       refine zAU 0 17 (List.length M) [] Y (zO7 _) Y (Nat.le_refl _) trivial ?_
       refine rn0 ?_
       exact zI hR Y Y
end Go.Proofs.YtnkealfaldjipaaGreatDoor
namespace Go.Ax
variable [Pins]
open Go.RowKit
/-- What a memory and a value become, once the objects of HF are only read. -/
structure Fzd (HF H0 H' : zZ) (r0 r' : AV) : Prop where
 sub : subH HF H0
 rl : ∀ (h : Nat) (o : AObj), HF[h]? = some (some o) → zAA o.c
 len : H'.length = H0.length
 new : ∀ (h : Nat) (o' : AObj), H'[h]? = some (some o') → (∀ o : AObj, HF[h]? ≠ some (some o)) ∧ ∃ o : AObj, H0[h]? = some (some o) ∧ o'.ty = o.ty ∧ o'.c.len = o.c.len ∧ o'.c.kd = o.c.kd ∧ ∀ i j, i < o.c.len → j < o.c.sz → FzTo HF (o.c.at i j) (o'.c.at i j)
 res : FzTo HF r0 r'
theorem zV.freeze0 {P : Program} {f : FuncId} {args : List AV} {K K' : AV → zZ → Prop} (hc : zV P f args [] (fun _ => False) K)
   (hK : ∀ r0 H0, K r0 H0 → ∃ HF H' r', Fzd HF H0 H' r0 r' ∧ K' r' H') : zV P f args [] (fun _ => False) K' := by
 refine ⟨hc.1, fun w σ0 S vals hp hrep hf hv => ?_⟩
 refine (hc.2 w σ0 S vals hp hrep hf hv).mono ?_
 rintro e w' ⟨v, r0, σ, S0, H0, rfl, g1, g2, g3, g4⟩
 obtain ⟨HF, H', r', ⟨hsub, hrl, hlen, hH, hres⟩, hk'⟩ := hK r0 H0 g4
 have hlive : zJ1 w' S0 σ HF := fun h o ho => g1.live h o (hsub h o ho)
 let S' : Nat → Prop := fun b => S0 b ∨ ∃ h o s C, HF[h]? = some (some o) ∧ σ h = some (.at b s C)
 have hup : ∀ {σ1 : Nat → Option Blk} {x v}, VR w' S0 σ1 x v → VR w' S' σ1 x v := fun h => h.mono (fun _ h => .inl h) (fun _ _ => rfl) _ (fun _ _ h => h)
 have hfz : ∀ {x y v}, FzTo HF x y → VR w' S0 σ x v → VR w' S' σ y v := by
   intro x y v h hv
   rcases h with rfl | rfl | ⟨rfl, hin⟩
   · exact hup hv
   · exact .any _ _
   · exact VR.freeze hlive hrl (fun _ h => .inl h) (fun h o b s C h1 h2 => .inr ⟨h, o, s, C, h1, h2⟩) hv σ hin
 refine ⟨v, r', σ, S', H', Y, ⟨fun h o' ho' => ?_, fun h1 h2 o1 o2 b s C s' C' q1 q2 e1 e2 => ?_, fun b hb => ?_, fun h hl => g1.dom h (by omega)⟩, hfz hres g2, ⟨g3.os, g3.output, g3.tape, g3.size, g3.block, fun b hb => .inl (g3.S1 b hb), fun b hb => ?_, fun _ h => h.elim, fun _ h => h.elim, fun h o b s C q e => ?_⟩, hk'⟩
 · obtain ⟨hno, o, h1, h2, h3, h4, h5⟩ := hH h o' ho'
   rw [h3, zOH h4]
   rcases g1.live h o h1 with g | ⟨b, C, cur, q1, q2, q3, q4, q5, q6, q7⟩
   · exact .inl g
   · refine .inr ⟨b, C, cur, q1, (q2.mono Y hup).kd h2 h4, q3, q4, q5, ?_, fun i j hi hj => ?_⟩
     · rintro (hs | ⟨h', o2, s2, C2, u1, u2⟩)
       · exact q6 hs
       · have := g1.dist h h' o o2 b _ C s2 C2 h1 (hsub h' o2 u1) q1 u2
         subst this
         exact hno o2 u1
     · obtain ⟨v, e1, e2, e3⟩ := q7 i j hi hj
       exact ⟨v, e1, hfz (h5 i j hi hj) e2, e3⟩
 · obtain ⟨_, p, p1, _⟩ := hH h1 o1 q1
   obtain ⟨_, p', p1', _⟩ := hH h2 o2 q2
   exact g1.dist h1 h2 p p' b s C s' C' p1 p1' e1 e2
 · rcases hb with hs | ⟨h, o, s, C, q1, q2⟩
   · exact g1.small b hs
   · rcases g1.live h o (hsub h o q1) with ⟨gn, _⟩ | ⟨b', C', cur, hσ, g, _⟩
     · rw [q2] at gn; cases gn
     · rw [q2] at hσ
       simp only [Option.some.injEq, Blk.at.injEq] at hσ
       rw [hσ.1]
       exact g.lt
 · rcases hb with hs | ⟨h, o, s, C, q1, q2⟩
   · exact g3.S2 b hs
   · rcases g3.own h o b s C (hsub h o q1) q2 with g | g
     · exact .inr (.inl g)
     · exact .inr (.inr g)
 · obtain ⟨_, p, p1, _⟩ := hH h o q
   exact g3.own h p b s C p1 e
end Go.Ax
namespace Go.Ax.Rt
open Go.Ax.Bg
structure Fin2 (B M : Nat) (q : Rat) : Prop where
 dv : Dv B q
 le : q ≤ (M : Rat)
 ge : -q ≤ (M : Rat)
theorem zGP {M N : Nat} (h : M ≤ N) : (M : Rat) ≤ (N : Rat) := by
 have h1 : ((M : Int) : Rat) ≤ ((N : Int) : Rat) := Rat.intCast_le_intCast.2 (by omega)
 rwa [Rat.intCast_natCast, Rat.intCast_natCast] at h1
theorem Fin2.mono {B M N : Nat} {q : Rat} (h : Fin2 B M q) (hm : M ≤ N) : Fin2 B N q :=
 ⟨h.dv, Rat.le_trans h.le (zGP hm), Rat.le_trans h.ge (zGP hm)⟩
theorem Fin2.zero (B M : Nat) : Fin2 B M 0 := by
 have h : (0 : Rat) ≤ (M : Rat) := zGP (Nat.zero_le M)
 exact ⟨Dv.zero B, h, by rw [Rat.neg_zero]; exact h⟩
theorem Fin2.add {B M N : Nat} {a b : Rat} (ha : Fin2 B M a) (hb : Fin2 B N b) : Fin2 B (M + N) (a + b) := by
 refine ⟨ha.dv.add hb.dv, ?_, ?_⟩
 · rw [Rat.natCast_add]
   exact Rat.le_trans ((Rat.add_le_add_right (c := b)).2 ha.le) ((Rat.add_le_add_left (c := (M : Rat))).2 hb.le)
 · rw [Rat.natCast_add, Rat.neg_add]
   exact Rat.le_trans ((Rat.add_le_add_right (c := -b)).2 ha.ge) ((Rat.add_le_add_left (c := (M : Rat))).2 hb.ge)
theorem Dv.neg {B : Nat} {q : Rat} (h : Dv B q) : Dv B (-q) := by
 obtain ⟨z, hz⟩ := h
 exact ⟨-z, by rw [Rat.neg_mul, hz, Rat.intCast_neg]⟩
theorem Fin2.neg {B M : Nat} {q : Rat} (h : Fin2 B M q) : Fin2 B M (-q) := ⟨h.dv.neg, h.ge, by rw [Rat.neg_neg]; exact h.le⟩
theorem Fin2.D {B M K : Nat} {q : Rat} (h : Fin2 B M q) (hB : B ≠ 0) (hM : M * B < 10 ^ K) (hK : B < 10 ^ K) : D K q := bnd_D h.dv hB h.le h.ge hM hK
def sumB (t : zQ) (o : zAJ) : Nat := Bd o t.length * payB t
theorem sumB_pos (t : zQ) (o : zAJ) : 0 < sumB t o := Nat.mul_pos (zMm o _) (zKq t)
theorem endG_fin {t : zQ} (h : Valid t) {o : zAJ} {d e : Nat} (ho : OddsW t o d) (hp : Pays t e) {p : Int} {i : Nat} (hi : i < t.length) (hk : (t.getD i node0).kind = 0) : Fin2 (sumB t o) (10 ^ e) (endG t p (ze t o) i) := by
 obtain ⟨g1, g2, g3⟩ := zP0 h ho i hi
 have h6 := zHn o (i := i) (t.length - i)
 rw [show i + (t.length - i) = t.length by omega] at h6
 obtain ⟨p1, p2⟩ := D_le (hp.dig i hi hk)
 have key : ∀ x : Rat, x ≤ ((10 ^ e : Nat) : Rat) → (ze t o).getD i 0 * x ≤ ((10 ^ e : Nat) : Rat) := by
   intro x hx
   have h0 : (0 : Rat) ≤ ((10 ^ e : Nat) : Rat) := zGP (Nat.zero_le _)
   have h1 := Rat.mul_le_mul_of_nonneg_left hx g2
   have h2 := Rat.mul_le_mul_of_nonneg_right g3 h0
   rw [Rat.one_mul] at h2
   exact Rat.le_trans h1 h2
 have hf : Fin2 (sumB t o) (10 ^ e) (zFb t (ze t o) i) := by
   refine ⟨(g1.mono h6).mul (Dv.of_den.mono (zNg hi hk)), key _ p1, ?_⟩
   unfold zFb
   rw [← Rat.mul_neg]
   exact key _ p2
 unfold endG
 split
 · exact hf.neg
 · exact hf
/-- the sums after k ends -/
def zEB (t : zQ) (p : Int) (o : zAJ) (k : Nat) : List Rat := zFw (endG t p (ze t o)) (zB8 t p) ((zAH t).take k) (List.replicate (zY t p).length 0)
theorem zKB (t : zQ) (p : Int) (o : zAJ) : zEB t p o 0 = List.replicate (zY t p).length 0 := by
 unfold zEB; rw [List.take_zero]; rfl
theorem zL0 (t : zQ) (p : Int) (o : zAJ) : zEB t p o (zAH t).length = zGU t p o := by
 unfold zEB zGU; rw [List.take_length]
theorem zQl (t : zQ) (p : Int) (o : zAJ) (k : Nat) : (zEB t p o k).length = (zY t p).length := by
 unfold zEB; rw [zIi, List.length_replicate]
theorem zJn (t : zQ) (p : Int) (o : zAJ) {k : Nat} (hk : k < (zAH t).length) : zEB t p o (k + 1) = (zEB t p o k).set ((zB8 t p).getD ((zAH t).getD k 0) 0).toNat ((zEB t p o k).getD ((zB8 t p).getD ((zAH t).getD k 0) 0).toNat 0 + endG t p (ze t o) ((zAH t).getD k 0)) := by
 unfold zEB
 rw [List.take_succ_eq_append_getElem hk, zKS, zAC 0 hk]
theorem zQQ {B M : Nat} {S : List Rat} (hS : ∀ j, Fin2 B M (S.getD j 0)) (x : Nat) {y : Rat} (hy : Fin2 B M y) : ∀ j, Fin2 B M ((S.set x y).getD j 0) := by
 intro j
 rw [Go.Ax.Dt.getD_set]
 split
 · exact hy
 · exact hS j
theorem zIZ {t : zQ} (h : Valid t) {o : zAJ} {d e : Nat} (ho : OddsW t o d) (hp : Pays t e) (p : Int) : ∀ k, k ≤ (zAH t).length → ∀ j, Fin2 (sumB t o) (k * 10 ^ e) ((zEB t p o k).getD j 0)
 | 0, _, j => by
   rw [zKB]
   have : (List.replicate (zY t p).length (0 : Rat)).getD j 0 = 0 := by
     simp only [List.getD, List.getElem?_replicate]
     split <;> rfl
   rw [this]
   exact Fin2.zero _ _
 | k + 1, hk, j => by
   have ih := zIZ h ho hp p k (by omega)
   have hk' : k < (zAH t).length := by omega
   obtain ⟨i1, i2⟩ := zDQ (zAP (l := zAH t) 0 hk')
   rw [zJn t p o hk']
   have e1 : (k + 1) * 10 ^ e = k * 10 ^ e + 10 ^ e := by rw [Nat.add_mul, Nat.one_mul]
   rw [e1]
   refine zQQ (fun j => (ih j).mono (Nat.le_add_right _ _)) _ ?_ j
   exact (ih _).add (endG_fin h ho hp i1 i2)
/-- all sums of a best reply, after a number of steps -/
structure Sums (t : zQ) (o : zAJ) (p : Int) (S : List Rat) (j : Nat) : Prop where
 len : S.length = (zY t p).length
 fin : ∀ k, Fin2 (sumB t o) (41 * 10 ^ 12 * 2 ^ j) (S.getD k 0)
theorem Sums.step {t : zQ} {o : zAJ} {p : Int} {S : List Rat} {j : Nat} (h : Sums t o p S j) (a b : Nat) : Sums t o p (S.set a (S.getD a 0 + S.getD b 0)) (j + 1) := by
 refine ⟨by rw [List.length_set]; exact h.len, ?_⟩
 have e1 : 41 * 10 ^ 12 * 2 ^ (j + 1) = 41 * 10 ^ 12 * 2 ^ j + 41 * 10 ^ 12 * 2 ^ j := by rw [Nat.pow_succ, ← Nat.mul_assoc]; omega
 rw [e1]
 exact zQQ (fun k => (h.fin k).mono (Nat.le_add_right _ _)) a ((h.fin a).add (h.fin b))
theorem lt_ten {a b x y n : Nat} (h1 : a ≤ 10 ^ x) (h2 : b ≤ 10 ^ y) (h : x + y < n) : a * b < 10 ^ n := by
 have h12 := Nat.mul_le_mul h1 h2
 rw [← Nat.pow_add] at h12
 exact Nat.lt_of_le_of_lt h12 (Nat.pow_lt_pow_right (by decide) h)
def bigE : Nat := 961
theorem zQW {t : zQ} {o : zAJ} (ho : OddsW t o 12) (hn : t.length ≤ 40) (hp : Pays t 12) (hv : Valid t) : sumB t o < 10 ^ bigE := by
 have h7 := Bd_w ho t.length (Nat.le_refl _)
 rw [List.take_length] at h7
 have h8 := zJo hv
 exact lt_ten h7 (zPs hp) (by unfold bigE; omega)
def zFU : Nat := 1000
theorem Fin2.short {t : zQ} {o : zAJ} {M : Nat} {q : Rat} (h : Fin2 (sumB t o) M q) (hB : sumB t o < 10 ^ bigE) (hM : M ≤ 10 ^ 39) : Rt.D zFU q := by
 have h0 := sumB_pos t o
 refine h.D (by omega) ?_ (Nat.lt_of_lt_of_le hB (Nat.pow_le_pow_right (by decide) (by decide)))
 refine Nat.lt_of_le_of_lt (Nat.mul_le_mul_right _ hM) ?_
 have := (Nat.mul_lt_mul_left (a := 10 ^ 39) (Nat.pow_pos (by decide))).2 hB
 rw [← Nat.pow_add] at this
 exact Nat.lt_of_lt_of_le this (Nat.pow_le_pow_right (by decide) (by decide))
theorem Sums.short {t : zQ} {o : zAJ} {p : Int} {S : List Rat} {j : Nat} (h : Sums t o p S j) (hB : sumB t o < 10 ^ bigE) (hj : j ≤ 61) (k : Nat) : D zFU (S.getD k 0) := by
 refine (h.fin k).short hB ?_
 have h1 : 2 ^ j ≤ 2 ^ 61 := Nat.pow_le_pow_right (by decide) hj
 exact Nat.le_trans (Nat.mul_le_mul_left _ h1) (by decide)
theorem zNt {t : zQ} (h : Valid t) {o : zAJ} (ho : OddsW t o 12) (hn : t.length ≤ 40) (hp : Pays t 12) (p : Int) {k : Nat} (hk : k ≤ (zAH t).length) (j : Nat) : D zFU ((zEB t p o k).getD j 0) := by
 have hB := zQW ho hn hp h
 have he : (zAH t).length ≤ t.length := by
   unfold zAH
   refine Nat.le_trans (List.length_filter_le _ _) ?_
   rw [List.length_range]; exact Nat.le_refl _
 refine (zIZ h ho hp p k hk j).short hB ?_
 have : k * 10 ^ 12 ≤ 40 * 10 ^ 12 := Nat.mul_le_mul_right _ (by omega)
 exact Nat.le_trans this (by decide)
theorem zOf {t : zQ} (h : Valid t) {o : zAJ} (ho : OddsW t o 12) (hn : t.length ≤ 40) (hp : Pays t 12) (p : Int) : Sums t o p (zGU t p o) 0 := by
 have he : (zAH t).length ≤ t.length := by
   unfold zAH
   refine Nat.le_trans (List.length_filter_le _ _) ?_
   rw [List.length_range]; exact Nat.le_refl _
 refine ⟨zLV t p o, fun k => ?_⟩
 rw [← zL0]
 refine (zIZ h ho hp p _ (Nat.le_refl _) k).mono ?_
 rw [Nat.pow_zero, Nat.mul_one]
 exact Nat.mul_le_mul_right _ (by omega)
/-- Where the way back from the last sequence stands. -/
structure Back (t : zQ) (p : Int) (o : zAJ) (e : Nat) (S : List Rat) (C : List (Int × Int)) (j : Nat) : Prop where
 bnd : Bnd t p e
 sums : Sums t o p S j
 few : j + e ≤ (zY t p).length
 cho : Chosen t p e C
 rest : ∃ f, e ≤ f + 1 ∧ zGT (zY t p) f (e, S, C) = zBV t p o
theorem Back.top {t : zQ} (h : Valid t) {o : zAJ} (ho : OddsW t o 12) (hn : t.length ≤ 40) (hp : Pays t 12) (p : Int) : Back t p o (zY t p).length (zGU t p o) [] 0 :=
 ⟨Bnd.top h p, zOf h ho hn hp p, by omega, Chosen.top h p, _, by omega, rfl⟩
theorem Back.step {t : zQ} (hv : Valid t) {p : Int} {o : zAJ} {e : Nat} {S : List Rat} {C : List (Int × Int)} {j : Nat} (h : Back t p o e S C j) (he : 1 < e) {x : Int × Nat} {b : Nat} (hb : Blk t p e x b) :
   Back t p o x.2 (S.set b (S.getD b 0 + S.getD (zAt S x.2 (zT t p x.1)) 0)) (C ++ [(x.1, ((zAt S x.2 (zT t p x.1) - x.2 : Nat) : Int))]) (j + 1) := by
 obtain ⟨f, f1, f2⟩ := h.rest
 have h1 := hb.fin
 have h2 := hb.w1
 have h3 := h.few
 obtain ⟨q1, _, q3⟩ := zEf S x.2 (zT t p x.1)
 have q3 := q3 h2
 obtain ⟨f', rfl⟩ : ∃ f', f = f' + 1 := ⟨f - 1, by omega⟩
 rw [zGT, if_pos (show 1 < (e, S, C).1 from he), hb.step] at f2
 exact ⟨hb.bnd, h.sums.step _ _, by omega, hb.chosen hv h.cho (by omega), f', by omega, f2⟩
theorem Back.stop {t : zQ} {p : Int} {o : zAJ} {e : Nat} {S : List Rat} {C : List (Int × Int)} {j : Nat} (h : Back t p o e S C j) (he : ¬ 1 < e) : zBV t p o = (1, S, C) := by
 obtain ⟨f, f1, f2⟩ := h.rest
 have h1 := h.bnd.one
 obtain rfl : e = 1 := by omega
 rw [← f2]
 cases f with
 | zero => rfl
 | succ f => rw [zGT, if_neg (Nat.lt_irrefl 1)]
end Go.Ax.Rt
namespace Go.Proofs.YtnkealfaldjipaaGreatDoor
open Go.Ax Go.Ax.Bg Go.Ax.Rt Go.RowKit Go.Ax.Idx Go.Ax.Cd
attribute [local irreducible] Ax zBE QOp zV zAz
set_option maxRecDepth 100000
set_option maxHeartbeats 4000000
abbrev zDX (t : zQ) (p : Int) : AV := .rp (.box [.ro (zBW (zY t p)) 0 (zY t p).length, .ro (.ints .i64 (zB8 t p)) 0 t.length]) 0 0
/-- recall.Of, whose result is only read -/
theorem of_ro (t : zQ) (p : Int) (hT : ShortT t) (hv : Valid t) : zX Tryz.prog 106 [.ro (zc t) 0 t.length, .int .i64 p] (zDX t p) := by
 have hpl : (zAM t p t.length).pos.length = t.length := zEq t p _
 refine zV.value (K := fun r H => r = .ptr 2 0 0 ∧ H = [none, none, some ⟨169, .box [.ro (zBW (zY t p)) 0 (zY t p).length, .ro (.ints .i64 (zB8 t p)) 0 t.length]⟩, none]) (zV.freeze0 (of_ok t p hT hv) ?_) (fix := fun _ => False) (fun _ h => h) Y ?_
 · rintro r0 H0 ⟨rfl, rfl⟩
   refine ⟨[some ⟨174, zBW (zAM t p t.length).seqs⟩, some ⟨3, .ints .i64 (zAM t p t.length).pos⟩, none, none], _, _, ⟨?_, ?_, ?_, ?_, .inl Y⟩, Y, Y⟩
   · intro h o ho
     match h, ho with
     | 0, ho => exact ho
     | 1, ho => exact ho
     | 2, ho => simp at ho
     | 3, ho => simp at ho
     | _ + 4, ho => simp at ho
   · intro h o ho
     match h, ho with
     | 0, ho => cases ho; exact zH2 _
     | 1, ho => cases ho; exact zAY
     | 2, ho => simp at ho
     | 3, ho => simp at ho
     | _ + 4, ho => simp at ho
   · rfl
   · intro h o ho
     match h, ho with
     | 0, ho => simp at ho
     | 1, ho => simp at ho
     | 2, ho =>
       cases ho
       refine ⟨fun o h => by simp at h, _, Y, Y, Y, Y, fun i j hi hj => ?_⟩
       have hj : j < 2 := hj
       obtain rfl := Nat.lt_one_iff.1 (show i < 1 from hi)
       match j, hj with
       | 0, _ => exact .inr (.inr ⟨rfl, fun o ho => by cases ho; show 0 + (zAM t p t.length).seqs.length ≤ (zAM t p t.length).seqs.length; omega⟩)
       | 1, _ => exact .inr (.inr ⟨rfl, fun o ho => by cases ho; show 0 + t.length ≤ (zAM t p t.length).pos.length; omega⟩)
     | 3, ho => simp at ho
     | _ + 4, ho => simp at ho
 · rintro r H ⟨rfl, rfl⟩
   refine ⟨rfl, fun o ho => by cases ho; exact Nat.zero_lt_one, fun h o ho => ?_⟩
   match h, ho with
   | 0, ho => simp at ho
   | 1, ho => simp at ho
   | 2, ho =>
     cases ho
     intro i j _ hj
     have hj : j < 2 := hj
     match j, hj with
     | 0, _ => rfl
     | 1, _ => rfl
   | 3, ho => simp at ho
   | _ + 4, ho => simp at ho
theorem zM5 (n : TNode) (p : Int) (s : zAL) (c : TChoice) (hc : n.player ≠ p → c ∈ s ∧ c.info = n.info) : zX Tryz.prog 134 [.agg (zBn n), .rp (.box [.int .i64 p]) 0 0, .rp (.box [zDi s]) 0 0] (if n.player = p then .nil else .ro (qsC (c.odds.map zAT)) 0 (c.odds.map zAT).length) := by
 obtain ⟨kd, pl, nf, nx, od, py⟩ := n
 simp only at *
 by_cases hp : pl = p
 · rw [if_pos hp]
   refine zV.value0 (zG (P := Tryz.prog) (fn := Tryz.f134) Y Y (by kernel_rfl) Y (fun c hR hfix => ?_)) (fix := fun _ => False) (fun _ h => h) Y Y
   unfold zBn
   simp only
   repeat (first | refine zD (zL rfl) ?_ | refine zB ?_ | refine zA ?_ | refine zW ?_ | refine zK rfl ?_ | refine zD (zS rfl rfl rfl rfl rfl) ?_ | refine zD (zEk rfl rfl) ?_ | refine zD (zAh rfl rfl rfl rfl) ?_ | refine zD (zO rfl rfl rfl rfl rfl rfl) ?_ | refine zFR rfl rfl ?_)
   rw [decide_eq_true hp]
   refine rn5 ?_
   exact zI hR Y Y
 · rw [if_neg hp]
   obtain ⟨h1, h2⟩ := hc hp
   obtain ⟨jj, i1, i2⟩ := zLO h1
   rw [h2] at i1
   refine zV.value0 (zG (P := Tryz.prog) (fn := Tryz.f134) Y Y (by kernel_rfl) Y (fun c hR hfix => ?_)) (fix := fun _ => False) (fun _ h => h) Y Y
   unfold zBn
   simp only
   repeat (first | refine zD (zL rfl) ?_ | refine zB ?_ | refine zA ?_ | refine zW ?_ | refine zK rfl ?_ | refine zD (zS rfl rfl rfl rfl rfl) ?_ | refine zD (zEk rfl rfl) ?_ | refine zD (zAh rfl rfl rfl rfl) ?_ | refine zD (zO rfl rfl rfl rfl rfl rfl) ?_ | refine zFR rfl rfl ?_)
   rw [decide_eq_false hp]
   repeat (first | refine zA ?_ | refine zW ?_ | refine zK rfl ?_ | refine zx rfl ?_ | refine zk ?_ | refine zD (zS rfl rfl rfl rfl rfl) ?_ | refine zD (zAh rfl rfl rfl rfl) ?_ | refine zD (zO rfl rfl rfl rfl rfl rfl) ?_)
   refine zD (zBh Y (.int Y) Y Y Y Y (keysC s) jj i1 i2) ?_
   refine rn0 ?_
   exact zI hR Y Y
def keyB (y : Int × Int) : AV := .int .i64 y.1
def valB (y : Int × Int) : AV := .int .i64 y.2
abbrev choC (C : List (Int × Int)) : Cells := .mp (C.map keyB) (C.map valB)
theorem keysB (C : List (Int × Int)) : ∀ x ∈ C.map keyB, zDL (.int .i64) x = true := by
 intro x hx
 obtain ⟨e, _, rfl⟩ := List.mem_map.1 hx
 rfl
theorem newB {C : List (Int × Int)} {x : Int} (h : x ∉ C.map Prod.fst) : AV.int .i64 x ∉ C.map keyB := by
 intro hm
 obtain ⟨y, hy, e⟩ := List.mem_map.1 hm
 injection e with e1 e2
 exact h (List.mem_map.2 ⟨y, hy, e2⟩)
def zA9 (t : zQ) (p : Int) (s : zAL) : zAJ := zGn t p (zCZ s)
theorem oneS_G {t : zQ} (hv : Valid t) (hm : Go.Ax.Rt.Modest t) {p : Int} (hp : p = 0 ∨ p = 1) {s : zAL} (hs : StrS t (1 - p) s) : OddsG t (zA9 t p s) :=
 zPe hv hm.len (one_w hv hm hp hs.str) (fun i hi hk => by unfold zA9 zGn; rw [if_pos hk]) (fun i hi hk => by unfold zA9 zGn; rw [if_neg (by omega), if_neg (by omega)])
theorem zRb (t : zQ) (p : Int) (s : zAL) (hT : ShortT t) (hv : Valid t) (hm : Go.Ax.Rt.Modest t) (hp : p = 0 ∨ p = 1) (hs : StrS t (1 - p) s) :
   zX Tryz.prog 133 [.ro (zc t) 0 t.length, .fn 134 [.rp (.box [.int .i64 p]) 0 0, .rp (.box [zDi s]) 0 0]] (.ro (qsC (ze t (zA9 t p s))) 0 t.length) := by
 refine zNb t (zA9 t p s) 134 [.rp (.box [.int .i64 p]) 0 0, .rp (.box [zDi s]) 0 0] Y Y hT hv (oneS_G hv hm hp hs) (fun i hi hk => ?_)
 have hpl := zDS hv hi hk
 by_cases h : (t.getD i node0).player = p
 · have := zM5 (t.getD i node0) p s ch0 (fun q => absurd h q)
   rw [if_pos h] at this
   have e : zA9 t p s i = none := by unfold zA9 zGn; rw [if_neg (by omega), if_pos hk, if_pos h]
   rw [e]; exact this
 · obtain ⟨c, c1, c2, c3⟩ := hs.node hv hi hk (by omega)
   have := zM5 (t.getD i node0) p s c (fun _ => ⟨c1, c2⟩)
   rw [if_neg h] at this
   have e : zA9 t p s i = some (c.odds.map zAT) := by unfold zA9 zGn; rw [if_neg (by omega), if_pos hk, if_neg h, c3]
   rw [e]; exact this
def zCM (n k : Nat) : List (Option Rat) := (List.range n).map (fun i => if i < k then some 0 else none)
theorem zO8 (n k : Nat) : (zCM n k).length = n := by simp [zCM]
theorem zNx (n : Nat) : zCM n 0 = List.replicate n none := by
 apply List.ext_getElem (by simp [zCM])
 intro i h1 h2
 simp [zCM]
theorem zOi (n : Nat) : zCM n n = (List.replicate n (0 : Rat)).map some := by
 apply List.ext_getElem (by simp [zCM])
 intro i h1 h2
 have : i < n := by simpa [zCM] using h1
 simp [zCM, this]
theorem zOv {n k : Nat} (hk : k < n) : (zCM n k).set k (some 0) = zCM n (k + 1) := by
 apply List.ext_getElem (by simp [zCM])
 intro i h1 h2
 rw [List.getElem_set]
 by_cases e : k = i
 · subst e; simp [zCM]
 · rw [if_neg e]
   have : (i < k) = (i < k + 1) := propext ⟨fun h => by omega, fun h => by omega⟩
   simp only [zCM, List.getElem_map, List.getElem_range, this]
theorem zMU (s : zAL) : zAA (.box [zDi s]) := by
 intro i j _ hj
 obtain rfl : j = 0 := by have hj : j < 1 := hj; omega
 rfl
theorem belowQ0 : ∀ (h : Nat) (o : AObj), ([none, some ⟨122, .box [.bool false, .nil, .nil]⟩] : zZ)[h]? = some (some o) → zA2 2 o.c := by
 intro h o ho
 match h, ho with
 | 0, ho => simp at ho
 | 1, ho =>
   cases ho
   intro i j _ hj
   have hj : j < 3 := hj
   match j, hj with
   | 0, _ => rfl
   | 1, _ => rfl
   | 2, _ => rfl
 | _ + 2, ho => simp at ho
theorem belowQ1 (S : List Rat) : ∀ (h : Nat) (o : AObj), ([none, some ⟨122, .box [.bool false, .nil, .nil]⟩, some ⟨122, qsC S⟩] : zZ)[h]? = some (some o) → zA2 3 o.c := by
 intro h o ho
 match h, ho with
 | 0, ho => simp at ho
 | 1, ho =>
   cases ho
   intro i j _ hj
   have hj : j < 3 := hj
   match j, hj with
   | 0, _ => rfl
   | 1, _ => rfl
   | 2, _ => rfl
 | 2, ho => cases ho; exact zNS _ _
 | _ + 3, ho => simp at ho
theorem belowQ2 (S : List Rat) (C : List (Int × Int)) : ∀ (h : Nat) (o : AObj), ([none, some ⟨122, .box [.bool false, .nil, .nil]⟩, some ⟨122, qsC S⟩, some ⟨123, choC C⟩] : zZ)[h]? = some (some o) → zA2 4 o.c := by
 intro h o ho
 match h, ho with
 | 0, ho => simp at ho
 | 1, ho =>
   cases ho
   intro i j _ hj
   have hj : j < 3 := hj
   match j, hj with
   | 0, _ => rfl
   | 1, _ => rfl
   | 2, _ => rfl
 | 2, ho => cases ho; exact zNS _ _
 | 3, ho => cases ho; exact ⟨zCO (fun _ => rfl) C, zCO (fun _ => rfl) C⟩
 | _ + 4, ho => simp at ho
theorem cmp_gt (a b : Rat) : (0 < cmpQ a b) = (b < a) := by
 apply propext
 unfold cmpQ
 constructor
 · intro h
   split at h
   · omega
   · split at h
     · omega
     · rename_i h1 h2
       rcases Rat.le_iff_lt_or_eq.1 (Rat.not_lt.1 h1) with q | q
       · exact q
       · exact absurd q.symm h2
 · intro h
   rw [if_neg (Rat.not_lt.2 (Rat.le_of_lt h)), if_neg (fun e => absurd h (by rw [e]; exact Rat.lt_irrefl))]
   omega
theorem zQz (t : zQ) (p : Int) (s : zAL) (hT : ShortT t) (hv : Valid t) (hm : Go.Ax.Rt.Modest t) (hp : p = 0 ∨ p = 1) (hs : StrS t (1 - p) s) :
   zX Tryz.prog 73 [.ro (zc t) 0 t.length, .int .i64 p, .ro (zm s) 0 s.length] (.tup [qA ((zBV t p (zA9 t p s)).2.1.getD 0 0), .rom ((zBV t p (zA9 t p s)).2.2.map keyB) ((zBV t p (zA9 t p s)).2.2.map valB)]) := by
 have c1 := of_ro t p hT hv
 have c2 := hs.call
 have c3 := zRb t p s hT hv hm hp hs
 have hml := hm.len
 have c4 := zQF t (by omega)
 have hfew := zKn hv p
 have hone := (zAv hv p).2.2.1
 have hel := zG5 t t.length
 have hEl : (zA0 t t.length).length = (zAH t).length := by rw [zIu, List.length_map]
 have hw := one_w hv hm hp hs.str
 have hpays := hm.pays hv
 have hfew : (zY t p).length ≤ 61 := hfew
 refine zV.value (K := fun r H => r = .tup [qA ((zBV t p (zA9 t p s)).2.1.getD 0 0), .mp 3] ∧ H = [none, some ⟨122, .box (zu ((zBV t p (zA9 t p s)).2.1.getD 0 0))⟩, some ⟨122, qsC (zBV t p (zA9 t p s)).2.1⟩, some ⟨123, choC (zBV t p (zA9 t p s)).2.2⟩]) (zG (P := Tryz.prog) (fn := Tryz.f73) Y Y (by kernel_rfl) Y (fun c hR hfix => ?_)) (fix := fun _ => False) (fun _ h => h) Y ?_
 · refine rn6 ?_
   refine zD zH1 ?_
   repeat (first | refine zB ?_ | refine zA ?_ | refine zW ?_)
   refine zIq [some ⟨3, .box [.int .i64 p]⟩, none] [none, some ⟨122, .box [.bool false, .nil, .nil]⟩] [(0, .ro (zc t) 0 t.length), (1, .int .i64 p), (2, .ro (zm s) 0 s.length), (4, .rp (.box [.int .i64 p]) 0 0), (6, .ptr 1 0 0)] ?_ ?_ rfl ?_ ⟨⟨_, rfl, .inl rfl⟩, ⟨_, rfl, .inl rfl⟩, ⟨_, rfl, .inl rfl⟩, ⟨_, rfl, .inr (.inr ⟨rfl, fun o ho => by cases ho; exact Nat.zero_lt_one⟩)⟩, ⟨_, rfl, .inl rfl⟩, trivial⟩ ?_
   · intro h o ho
     match h, ho with
     | 0, ho => exact ho
     | 1, ho => simp at ho
     | _ + 2, ho => simp at ho
   · intro h o ho
     match h, ho with
     | 0, ho => cases ho; exact boxIU _
     | 1, ho => simp at ho
     | _ + 2, ho => simp at ho
   · intro h o ho
     match h, ho with
     | 0, ho => simp at ho
     | 1, ho => cases ho; exact ⟨fun o h => by simp at h, _, rfl, rfl, rfl, rfl, fun i j _ _ => .inl rfl⟩
     | _ + 2, ho => simp at ho
   repeat (first | refine zD (zH rfl) ?_ | refine zK rfl ?_ | refine zD (zAh rfl rfl rfl rfl) ?_)
   refine zC Y Y Y c1 ?_
   refine rn0 ?_
   refine zC Y Y Y c2 ?_
   skip
   refine zL3 Y Y Y ?_
   repeat (first | refine zB ?_ | refine zA ?_ | refine zW ?_ | refine zAr rfl rfl rfl rfl rfl rfl rfl Nat.zero_lt_one ?_)
   refine zBb [none, some ⟨122, .box [.bool false, .nil, .nil]⟩, some ⟨209, .box [zDi s]⟩] Y ?_
   refine z7 9 (.ptr 2 0 0) Y (AEq.of_eq Y) ?_
   refine zIq [none, none, some ⟨209, .box [zDi s]⟩] [none, some ⟨122, .box [.bool false, .nil, .nil]⟩, none] [(0, .ro (zc t) 0 t.length), (4, .rp (.box [.int .i64 p]) 0 0), (6, .ptr 1 0 0), (8, zDX t p), (9, .rp (.box [zDi s]) 0 0)] ?_ ?_ rfl ?_ ⟨⟨_, rfl, .inl rfl⟩, ⟨_, rfl, .inl rfl⟩, ⟨_, rfl, .inl rfl⟩, ⟨_, rfl, .inl rfl⟩, ⟨_, rfl, .inr (.inr ⟨rfl, fun o ho => by cases ho; exact Nat.zero_lt_one⟩)⟩, trivial⟩ ?_
   · intro h o ho
     match h, ho with
     | 0, ho => simp at ho
     | 1, ho => simp at ho
     | 2, ho => exact ho
     | _ + 3, ho => simp at ho
   · intro h o ho
     match h, ho with
     | 0, ho => simp at ho
     | 1, ho => simp at ho
     | 2, ho => cases ho; exact zMU s
     | _ + 3, ho => simp at ho
   · intro h o ho
     match h, ho with
     | 0, ho => simp at ho
     | 1, ho => cases ho; exact ⟨fun o h => by simp at h, _, rfl, rfl, rfl, rfl, fun i j _ _ => .inl rfl⟩
     | 2, ho => simp at ho
     | _ + 3, ho => simp at ho
   refine zAb [none, some ⟨122, .box [.bool false, .nil, .nil]⟩] [none] [(0, .ro (zc t) 0 t.length), (4, .rp (.box [.int .i64 p]) 0 0), (6, .ptr 1 0 0), (8, zDX t p), (9, .rp (.box [zDi s]) 0 0)] Y ⟨Y, Y, Y, Y, Y, trivial⟩ (fun h hh => by rw [hfix] at hh; exact absurd hh id) belowQ0 Y ?_
   repeat (first | refine zD (zH rfl) ?_ | refine zK rfl ?_ | refine zD (zIH rfl) ?_)
   refine zC Y Y Y c3 ?_
   repeat (first | refine zD (zH rfl) ?_ | refine zD (zL rfl) ?_ | refine zB ?_ | refine zA ?_ | refine zW ?_ | refine zK rfl ?_ | refine zD (zA6 rfl rfl rfl) ?_ | refine zD (zAh rfl rfl rfl rfl) ?_ | refine zD (zB3 rfl) ?_ | refine zD (zAu rfl rfl rfl rfl rfl rfl) ?_)
   refine zB6 Y Y Y Y Y Y Y Y (by show (0 : Int) ≤ _ ∧ _ ≤ _ ∧ (56 : Int) * _ ≤ _ ∧ _; omega) ?_
   refine zAp [none, some ⟨122, .box [.bool false, .nil, .nil]⟩, some ⟨122, zsC (zCM (zY t p).length 0)⟩] (by rw [zNx]; exact z6.same (z6.same (z6.eqv (zJa _) z6.nil))) ?_
   refine rn3 ?_
   refine zi (ι := Nat) (fun k => [(0, .ro (zc t) 0 t.length), (4, .rp (.box [.int .i64 p]) 0 0), (6, .ptr 1 0 0), (8, zDX t p), (10, .ro (qsC (ze t (zA9 t p s))) 0 t.length), (11, .sl 2 0 (zY t p).length), (36, .sl 2 0 (zY t p).length), (37, .int .i64 ((zY t p).length : Nat)), (38, .int .i64 (k : Nat))]) (fun k => [none, some ⟨122, .box [.bool false, .nil, .nil]⟩, some ⟨122, zsC (zCM (zY t p).length k)⟩])
     (fun k => k ≤ (zY t p).length) (fun k => (zY t p).length - k) 0 ⟨⟨rfl, rfl, rfl, rfl, rfl, rfl, rfl, rfl, rfl, trivial⟩, rfl, Nat.zero_le _⟩ ?_
   intro k hk
   refine rn4 ?_
   refine zE Y (fun h => ?_) (fun h => ?_)
   · have hk' : k < (zY t p).length := by omega
     have hzl := zO8 (zY t p).length k
     have hzs := zOv hk'
     have hzk : k < (zsC (zCM (zY t p).length k)).len := by show k < (zCM _ _).length; omega
     refine rn1 ?_
     refine zC Y Y Y zFC ?_
     unfold qA
     repeat (refine zD (zb rfl rfl rfl rfl rfl (by first | (simp only [Nat.zero_add, Int.toNat_natCast, Int.toNat_zero]; exact rfl) | exact rfl) (by omega)) ?_)
     refine zP (c' := zsC ((zCM (zY t p).length k).set k (some 0))) Y Y Y Y Y hzk (by show (List.set _ k _).length = _; rw [List.length_set]; rfl) Y (fun i' j' hi' hj' => zCY none 3 zBS _ k (some 0) hzk i' j' hi' hj') ?_
     refine rn5 ?_
     exact zM ⟨k + 1, by omega, by omega, ⟨Y, Y, Y, Y, Y, Y, Y, Y, Y, trivial⟩, by rw [← hzs]; rfl⟩
   have hke : k = (zY t p).length := by omega
   subst hke
   repeat (first | refine zA ?_ | refine zW ?_ | refine zAj ?_ | refine zp ?_ | refine zo ?_ | refine zAB ?_)
   refine zBg [none, some ⟨122, .box [.bool false, .nil, .nil]⟩, some ⟨122, qsC (zEB t p (zA9 t p s) 0)⟩] (by rw [zOi, zKB]; exact z6.same (z6.same (z6.eqv (zMk _) z6.nil))) ?_
   refine rn0 ?_
   refine zC Y Y Y c4 ?_
   refine rn3 ?_
   refine zi (ι := Nat) (fun k => [(0, .ro (zc t) 0 t.length), (4, .rp (.box [.int .i64 p]) 0 0), (6, .ptr 1 0 0), (8, zDX t p), (10, .ro (qsC (ze t (zA9 t p s))) 0 t.length), (11, .sl 2 0 (zY t p).length), (47, .ro (.ints .i64 (zA0 t t.length)) 0 (zA0 t t.length).length), (48, .int .i64 ((zA0 t t.length).length : Nat)), (49, .int .i64 (k : Nat))]) (fun k => [none, some ⟨122, .box [.bool false, .nil, .nil]⟩, some ⟨122, qsC (zEB t p (zA9 t p s) k)⟩])
     (fun k => k ≤ (zA0 t t.length).length) (fun k => (zA0 t t.length).length - k) 0 ⟨⟨rfl, rfl, rfl, rfl, rfl, rfl, rfl, rfl, rfl, trivial⟩, rfl, Nat.zero_le _⟩ ?_
   intro k hk
   refine rn4 ?_
   refine zE Y (fun h => ?_) (fun h => ?_)
   · have hk' : k < (zAH t).length := by omega
     have hi0 := zLx t hk'
     obtain ⟨i1, i2⟩ := zDQ (zAP (l := zAH t) 0 hk')
     have hsuc := zJn t p (zA9 t p s) hk'
     have hSl := zQl t p (zA9 t p s) k
     have hsh : ∀ j, D zFU ((zEB t p (zA9 t p s) k).getD j 0) := zNt hv hw hml hpays p (k := k) (by omega)
     have hpay := zI2 hv i1 i2
     have hpyl := (hT.node _ (zAP node0 i1)).pay
     have cp := zE0 (t.getD ((zAH t).getD k 0) node0).pay hpyl hpay
     have dr := zFs hv hw hml i1
     have dp := hpays.dig _ i1 i2
     have cm := zHJ _ _ (zCw (dr.mono (show 12 * 40 + 1 ≤ 9 * 100000 by decide))) (zCw (dp.mono (by decide)))
     have cm : zX Tryz.prog 105 [qA ((ze t (zA9 t p s)).getD ((zAH t).getD k 0) 0), qA (zAT (t.getD ((zAH t).getD k 0) node0).pay)] (qA (zFb t (ze t (zA9 t p s)) ((zAH t).getD k 0))) := cm
     have dE : D 1000 (zFb t (ze t (zA9 t p s)) ((zAH t).getD k 0)) := (dr.mul dp).mono (by decide)
     have hpos := pos_lt hv p i1
     obtain ⟨x, hx⟩ := Int.eq_ofNat_of_zero_le hpos.1
     have hx2 : ((zB8 t p).getD ((zAH t).getD k 0) 0).toNat = x := by rw [hx, Int.toNat_natCast]
     rw [hx2] at hpos hsuc
     have hposl : (zB8 t p).length = t.length := zEq t p _
     have hG : endG t p (ze t (zA9 t p s)) ((zAH t).getD k 0) = if p = 1 then -(zFb t (ze t (zA9 t p s)) ((zAH t).getD k 0)) else zFb t (ze t (zA9 t p s)) ((zAH t).getD k 0) := rfl
     rw [hG] at hsuc
     have hdk : k < (zA0 t t.length).length := by omega
     have hrl : (ze t (zA9 t p s)).length = t.length := zDB t _ _
     have hshx := hsh x
     clear hG hsh dr dp
     generalize hS2 : zEB t p (zA9 t p s) (k + 1) = S2 at *
     generalize zEB t p (zA9 t p s) k = S at *
     generalize zFb t (ze t (zA9 t p s)) ((zAH t).getD k 0) = E at *
     generalize (zAH t).getD k 0 = i at *
     repeat (first | refine zA ?_ | refine zW ?_ | refine zw ?_ | refine zk ?_)
     refine zK Y ?_
     repeat (first | refine zD (zL rfl) ?_ | refine zD (zAn rfl rfl rfl) ?_ | refine zB ?_ | refine zA ?_ | refine zW ?_ | refine zD (zf rfl rfl rfl rfl (by first | (simp only [Nat.zero_add, Int.toNat_natCast, Int.toNat_zero]; exact rfl) | exact rfl) (by omega)) ?_)
     refine z7 14 (.int .i64 (i : Nat)) Y (AEq.of_eq (by rw [← hi0])) ?_
     skip
     refine zl (by kernel_rfl) ?_
     apply zCl (H := [none, some ⟨122, .box [.bool false, .nil, .nil]⟩, some ⟨122, qsC S⟩, some ⟨122, .box [.bool false, .nil, .nil]⟩]) [(15, .ptr 3 0 0), (63, qA E), (14, .int .i64 (i : Nat)), (0, .ro (zc t) 0 t.length), (4, .rp (.box [.int .i64 p]) 0 0), (6, .ptr 1 0 0), (8, zDX t p), (10, .ro (qsC (ze t (zA9 t p s))) 0 t.length), (11, .sl 2 0 (zY t p).length), (47, .ro (.ints .i64 (zA0 t t.length)) 0 (zA0 t t.length).length), (48, .int .i64 ((zA0 t t.length).length : Nat)), (49, .int .i64 (k : Nat))]
     · intro fin
       refine zR 0 Y (by kernel_rfl) (by kernel_rfl) (by kernel_rfl) Y (zH Y) Y ?_
       refine zR 1 Y (by kernel_rfl) (by kernel_rfl) (by kernel_rfl) Y (zH Y) Y ?_
       refine zR 4 Y (by kernel_rfl) (by kernel_rfl) (by kernel_rfl) Y (zH Y) Y ?_
       refine zR 5 Y (by kernel_rfl) (by kernel_rfl) (by kernel_rfl) Y (zH Y) Y ?_
       refine zR 2 Y (by kernel_rfl) (by kernel_rfl) (by kernel_rfl) Y (zf Y Y Y Y (by first | (simp only [Nat.zero_add, Int.toNat_natCast, Int.toNat_zero]; exact Y) | exact Y) (by omega)) Y ?_
       refine zR 6 Y (by kernel_rfl) (by kernel_rfl) (by kernel_rfl) Y (zf Y Y Y Y (by first | (simp only [Nat.zero_add, Int.toNat_natCast, Int.toNat_zero]; exact Y) | exact Y) (by omega)) Y ?_
       refine zR 7 Y (by kernel_rfl) (by kernel_rfl) (by kernel_rfl) Y (zAu Y Y Y Y Y Y) Y ?_
       refine zF (is := [3, 8, 11]) (by kernel_rfl) (by simp) Y ⟨fun o ho => ?_, fun o ho => ?_, fun o ho => ?_, trivial⟩
       all_goals (cases ho)
       · refine rn6 ?_
         refine zF (is := [8, 11]) (by kernel_rfl) (by simp) Y ⟨fun o ho => ?_, fun o ho => ?_, trivial⟩
         all_goals (cases ho)
         · refine rn6 ?_
           refine zF (is := [9, 11]) (by kernel_rfl) (by simp) Y ⟨fun o ho => ?_, fun o ho => ?_, trivial⟩
           all_goals (cases ho)
           · refine zC Y Y Y cp ?_
             refine rn1 ?_
             refine zF (is := [10, 11]) (by kernel_rfl) (by simp) Y ⟨fun o ho => ?_, fun o ho => ?_, trivial⟩
             all_goals (cases ho)
             · refine zC Y Y Y cm ?_
               refine rn1 ?_
               refine zF (is := [11]) (by kernel_rfl) (by simp) Y ⟨fun o ho => ?_, trivial⟩
               all_goals (cases ho)
               refine rn4 ?_
               exact fin _ ⟨Y, Y, Y, Y, Y, Y, Y, Y, Y, Y, Y, Y, trivial⟩
             · refine rn4 ?_
               refine zF (is := [10]) (by kernel_rfl) (by simp) Y ⟨fun o ho => ?_, trivial⟩
               all_goals (cases ho)
               refine zC Y Y Y cm ?_
               refine rn1 ?_
               exact fin _ ⟨Y, Y, Y, Y, Y, Y, Y, Y, Y, Y, Y, Y, trivial⟩
           · refine rn4 ?_
             refine zF (is := [9]) (by kernel_rfl) (by simp) Y ⟨fun o ho => ?_, trivial⟩
             all_goals (cases ho)
             refine zC Y Y Y cp ?_
             refine rn1 ?_
             refine zF (is := [10]) (by kernel_rfl) (by simp) Y ⟨fun o ho => ?_, trivial⟩
             all_goals (cases ho)
             refine zC Y Y Y cm ?_
             refine rn1 ?_
             exact fin _ ⟨Y, Y, Y, Y, Y, Y, Y, Y, Y, Y, Y, Y, trivial⟩
         · refine rn4 ?_
           refine zF (is := [8]) (by kernel_rfl) (by simp) Y ⟨fun o ho => ?_, trivial⟩
           all_goals (cases ho)
           refine rn6 ?_
           refine zF (is := [9]) (by kernel_rfl) (by simp) Y ⟨fun o ho => ?_, trivial⟩
           all_goals (cases ho)
           refine zC Y Y Y cp ?_
           refine rn1 ?_
           refine zF (is := [10]) (by kernel_rfl) (by simp) Y ⟨fun o ho => ?_, trivial⟩
           all_goals (cases ho)
           refine zC Y Y Y cm ?_
           refine rn1 ?_
           exact fin _ ⟨Y, Y, Y, Y, Y, Y, Y, Y, Y, Y, Y, Y, trivial⟩
       · refine rn6 ?_
         refine zF (is := [3, 9, 11]) (by kernel_rfl) (by simp) Y ⟨fun o ho => ?_, fun o ho => ?_, fun o ho => ?_, trivial⟩
         all_goals (cases ho)
         · refine rn6 ?_
           refine zF (is := [9, 11]) (by kernel_rfl) (by simp) Y ⟨fun o ho => ?_, fun o ho => ?_, trivial⟩
           all_goals (cases ho)
           · refine zC Y Y Y cp ?_
             refine rn1 ?_
             refine zF (is := [10, 11]) (by kernel_rfl) (by simp) Y ⟨fun o ho => ?_, fun o ho => ?_, trivial⟩
             all_goals (cases ho)
             · refine zC Y Y Y cm ?_
               refine rn1 ?_
               refine zF (is := [11]) (by kernel_rfl) (by simp) Y ⟨fun o ho => ?_, trivial⟩
               all_goals (cases ho)
               refine rn4 ?_
               exact fin _ ⟨Y, Y, Y, Y, Y, Y, Y, Y, Y, Y, Y, Y, trivial⟩
             · refine rn4 ?_
               refine zF (is := [10]) (by kernel_rfl) (by simp) Y ⟨fun o ho => ?_, trivial⟩
               all_goals (cases ho)
               refine zC Y Y Y cm ?_
               refine rn1 ?_
               exact fin _ ⟨Y, Y, Y, Y, Y, Y, Y, Y, Y, Y, Y, Y, trivial⟩
           · refine rn4 ?_
             refine zF (is := [9]) (by kernel_rfl) (by simp) Y ⟨fun o ho => ?_, trivial⟩
             all_goals (cases ho)
             refine zC Y Y Y cp ?_
             refine rn1 ?_
             refine zF (is := [10]) (by kernel_rfl) (by simp) Y ⟨fun o ho => ?_, trivial⟩
             all_goals (cases ho)
             refine zC Y Y Y cm ?_
             refine rn1 ?_
             exact fin _ ⟨Y, Y, Y, Y, Y, Y, Y, Y, Y, Y, Y, Y, trivial⟩
         · refine zC Y Y Y cp ?_
           refine rn1 ?_
           refine zF (is := [3, 11]) (by kernel_rfl) (by simp) Y ⟨fun o ho => ?_, fun o ho => ?_, trivial⟩
           all_goals (cases ho)
           · refine rn6 ?_
             refine zF (is := [10, 11]) (by kernel_rfl) (by simp) Y ⟨fun o ho => ?_, fun o ho => ?_, trivial⟩
             all_goals (cases ho)
             · refine zC Y Y Y cm ?_
               refine rn1 ?_
               refine zF (is := [11]) (by kernel_rfl) (by simp) Y ⟨fun o ho => ?_, trivial⟩
               all_goals (cases ho)
               refine rn4 ?_
               exact fin _ ⟨Y, Y, Y, Y, Y, Y, Y, Y, Y, Y, Y, Y, trivial⟩
             · refine rn4 ?_
               refine zF (is := [10]) (by kernel_rfl) (by simp) Y ⟨fun o ho => ?_, trivial⟩
               all_goals (cases ho)
               refine zC Y Y Y cm ?_
               refine rn1 ?_
               exact fin _ ⟨Y, Y, Y, Y, Y, Y, Y, Y, Y, Y, Y, Y, trivial⟩
           · refine rn4 ?_
             refine zF (is := [3]) (by kernel_rfl) (by simp) Y ⟨fun o ho => ?_, trivial⟩
             all_goals (cases ho)
             refine rn6 ?_
             refine zF (is := [10]) (by kernel_rfl) (by simp) Y ⟨fun o ho => ?_, trivial⟩
             all_goals (cases ho)
             refine zC Y Y Y cm ?_
             refine rn1 ?_
             exact fin _ ⟨Y, Y, Y, Y, Y, Y, Y, Y, Y, Y, Y, Y, trivial⟩
         · refine rn4 ?_
           refine zF (is := [3, 9]) (by kernel_rfl) (by simp) Y ⟨fun o ho => ?_, fun o ho => ?_, trivial⟩
           all_goals (cases ho)
           · refine rn6 ?_
             refine zF (is := [9]) (by kernel_rfl) (by simp) Y ⟨fun o ho => ?_, trivial⟩
             all_goals (cases ho)
             refine zC Y Y Y cp ?_
             refine rn1 ?_
             refine zF (is := [10]) (by kernel_rfl) (by simp) Y ⟨fun o ho => ?_, trivial⟩
             all_goals (cases ho)
             refine zC Y Y Y cm ?_
             refine rn1 ?_
             exact fin _ ⟨Y, Y, Y, Y, Y, Y, Y, Y, Y, Y, Y, Y, trivial⟩
           · refine zC Y Y Y cp ?_
             refine rn1 ?_
             refine zF (is := [3]) (by kernel_rfl) (by simp) Y ⟨fun o ho => ?_, trivial⟩
             all_goals (cases ho)
             refine rn6 ?_
             refine zF (is := [10]) (by kernel_rfl) (by simp) Y ⟨fun o ho => ?_, trivial⟩
             all_goals (cases ho)
             refine zC Y Y Y cm ?_
             refine rn1 ?_
             exact fin _ ⟨Y, Y, Y, Y, Y, Y, Y, Y, Y, Y, Y, Y, trivial⟩
       · refine rn4 ?_
         refine zF (is := [3, 8]) (by kernel_rfl) (by simp) Y ⟨fun o ho => ?_, fun o ho => ?_, trivial⟩
         all_goals (cases ho)
         · refine rn6 ?_
           refine zF (is := [8]) (by kernel_rfl) (by simp) Y ⟨fun o ho => ?_, trivial⟩
           all_goals (cases ho)
           refine rn6 ?_
           refine zF (is := [9]) (by kernel_rfl) (by simp) Y ⟨fun o ho => ?_, trivial⟩
           all_goals (cases ho)
           refine zC Y Y Y cp ?_
           refine rn1 ?_
           refine zF (is := [10]) (by kernel_rfl) (by simp) Y ⟨fun o ho => ?_, trivial⟩
           all_goals (cases ho)
           refine zC Y Y Y cm ?_
           refine rn1 ?_
           exact fin _ ⟨Y, Y, Y, Y, Y, Y, Y, Y, Y, Y, Y, Y, trivial⟩
         · refine rn6 ?_
           refine zF (is := [3, 9]) (by kernel_rfl) (by simp) Y ⟨fun o ho => ?_, fun o ho => ?_, trivial⟩
           all_goals (cases ho)
           · refine rn6 ?_
             refine zF (is := [9]) (by kernel_rfl) (by simp) Y ⟨fun o ho => ?_, trivial⟩
             all_goals (cases ho)
             refine zC Y Y Y cp ?_
             refine rn1 ?_
             refine zF (is := [10]) (by kernel_rfl) (by simp) Y ⟨fun o ho => ?_, trivial⟩
             all_goals (cases ho)
             refine zC Y Y Y cm ?_
             refine rn1 ?_
             exact fin _ ⟨Y, Y, Y, Y, Y, Y, Y, Y, Y, Y, Y, Y, trivial⟩
           · refine zC Y Y Y cp ?_
             refine rn1 ?_
             refine zF (is := [3]) (by kernel_rfl) (by simp) Y ⟨fun o ho => ?_, trivial⟩
             all_goals (cases ho)
             refine rn6 ?_
             refine zF (is := [10]) (by kernel_rfl) (by simp) Y ⟨fun o ho => ?_, trivial⟩
             all_goals (cases ho)
             refine zC Y Y Y cm ?_
             refine rn1 ?_
             exact fin _ ⟨Y, Y, Y, Y, Y, Y, Y, Y, Y, Y, Y, Y, trivial⟩
     refine zF (is := [12]) (by kernel_rfl) (by simp) Y ⟨fun o ho => ?_, trivial⟩
     all_goals (cases ho)
     unfold qA
     refine zP (c' := .box (zu E)) Y Y Y Y Y Nat.zero_lt_one Y Y (fun i' j' hi' hj' => ?_) ?_
     · rw [if_pos (Nat.lt_one_iff.1 hi')]; rfl
     refine rn1 ?_
     refine zh (by kernel_rfl) ?_
     repeat (first | refine zB ?_ | refine zA ?_ | refine zW ?_ | refine zK rfl ?_ | refine zD (zEk rfl rfl) ?_ | refine zD (zAh rfl rfl rfl rfl) ?_)
     apply zAw (H := [none, some ⟨122, .box [.bool false, .nil, .nil]⟩, some ⟨122, qsC S⟩, some ⟨122, .box (zu (if p = 1 then -E else E))⟩]) [(15, .ptr 3 0 0), (14, .int .i64 (i : Nat)), (0, .ro (zc t) 0 t.length), (4, .rp (.box [.int .i64 p]) 0 0), (6, .ptr 1 0 0), (8, zDX t p), (10, .ro (qsC (ze t (zA9 t p s))) 0 t.length), (11, .sl 2 0 (zY t p).length), (47, .ro (.ints .i64 (zA0 t t.length)) 0 (zA0 t t.length).length), (48, .int .i64 ((zA0 t t.length).length : Nat)), (49, .int .i64 (k : Nat))]
     · intro fin
       refine zE Y (fun hp1 => ?_) (fun hp1 => ?_)
       · rw [if_pos hp1] at fin
         have co := qopp_ok E
         refine rn6 ?_
         refine zC Y Y Y co ?_
         unfold qA
         skip
         refine zP (c' := .box (zu (-E))) Y Y Y Y Y Nat.zero_lt_one Y Y (fun i' j' hi' hj' => ?_) ?_
         · rw [if_pos (Nat.lt_one_iff.1 hi')]; rfl
         repeat (first | refine zB ?_ | refine zA ?_)
         exact fin _ ⟨Y, Y, Y, Y, Y, Y, Y, Y, Y, Y, Y, trivial⟩
       · rw [if_neg hp1] at fin
         repeat (first | refine zA ?_ | refine zk ?_)
         exact fin _ ⟨Y, Y, Y, Y, Y, Y, Y, Y, Y, Y, Y, trivial⟩
     have dG : D 1000 (if p = 1 then -E else E) := by
       split
       · exact dE.neg
       · exact dE
     have ca := zGA (S.getD x 0) (if p = 1 then -E else E) (zCw (hshx.mono (show zFU ≤ 9 * 100000 by decide))) (zCw (dG.mono (show 1000 ≤ 9 * 100000 by decide)))
     generalize (if p = 1 then -E else E) = G at *
     have hxS : x < (qsC S).len := by show x < S.length; omega
     generalize hA : S.getD x 0 + G = A at *
     skip
     refine zl (by kernel_rfl) ?_
     refine zt (fuel := 1) [0, 1, 2, 3, 4, 5, 6, 7, 8, 9, 10, 11, 12, 13, 14, 15, 16, 17, 18, 19, 20] [(15, .ptr 3 0 0), (14, .int .i64 (i : Nat)), (0, .ro (zc t) 0 t.length), (4, .rp (.box [.int .i64 p]) 0 0), (6, .ptr 1 0 0), (8, zDX t p), (10, .ro (qsC (ze t (zA9 t p s))) 0 t.length), (11, .sl 2 0 (zY t p).length), (47, .ro (.ints .i64 (zA0 t t.length)) 0 (zA0 t t.length).length), (48, .int .i64 ((zA0 t t.length).length : Nat)), (49, .int .i64 (k : Nat))] ⟨Y, Y, Y, Y, Y, Y, Y, Y, Y, Y, Y, trivial⟩ (by kernel_rfl) (by decide) Y Y ?_
     refine zU Y Y (zH Y) ?_
     refine zU Y Y (zH Y) ?_
     refine zU Y Y (zB3 Y) ?_
     refine zU Y Y (zAu Y Y Y Y Y Y) ?_
     refine zU Y Y (zAh Y Y Y Y) ?_
     refine zU Y Y (zH Y) ?_
     refine zU Y Y (zf Y Y Y Y (by first | (simp only [Nat.zero_add, Int.toNat_natCast, Int.toNat_zero]; exact Y) | exact Y) (by omega)) ?_
     refine zU Y Y (zAn Y Y Y) ?_
     rw [hx]
     refine zU Y Y (zH Y) ?_
     refine zU Y Y (zH Y) ?_
     refine zU Y Y (zB3 Y) ?_
     refine zU Y Y (zAu Y Y Y Y Y Y) ?_
     refine zU Y Y (zAh Y Y Y Y) ?_
     refine zU Y Y (zH Y) ?_
     refine zU Y Y (zf Y Y Y Y (by first | (simp only [Nat.zero_add, Int.toNat_natCast, Int.toNat_zero]; exact Y) | exact Y) (by omega)) ?_
     refine zU Y Y (zAn Y Y Y) ?_
     rw [hx]
     refine zU Y Y (zb Y Y Y Y Y (by first | (simp only [Nat.zero_add, Int.toNat_natCast, Int.toNat_zero]; exact Y) | exact Y) (by omega)) ?_
     refine zU Y Y (zq Y Y Y Y Y Y Y (by first | exact Nat.zero_lt_one | assumption | omega)) ?_
     refine zU Y Y (zq Y Y Y Y Y Y Y (by first | exact Nat.zero_lt_one | assumption | omega)) ?_
     refine zBc Y Y Y Y Y ca ?_
     refine zU Y Y (zb Y Y Y Y Y (by first | (simp only [Nat.zero_add, Int.toNat_natCast, Int.toNat_zero]; exact Y) | exact Y) (by omega)) ?_
     refine zAc ?_
     refine zF (is := [21]) (by kernel_rfl) (by simp) Y ⟨fun o ho => ?_, trivial⟩
     all_goals (cases ho)
     unfold qA
     refine zP (c' := qsC (S.set x A)) Y Y Y Y Y hxS (by show (List.set _ x _).length = _; rw [List.length_set]; rfl) Y (fun i' j' hi' hj' => zCY 0 3 zu S x A hxS i' j' hi' hj') ?_
     refine rn1 ?_
     refine zh (by kernel_rfl) ?_
     repeat (refine zd ?_)
     refine zA ?_
     rw [← hsuc]
     refine zAb [none, some ⟨122, .box [.bool false, .nil, .nil]⟩, some ⟨122, qsC S2⟩] [some ⟨122, .box (zu G)⟩] [(0, .ro (zc t) 0 t.length), (4, .rp (.box [.int .i64 p]) 0 0), (6, .ptr 1 0 0), (8, zDX t p), (10, .ro (qsC (ze t (zA9 t p s))) 0 t.length), (11, .sl 2 0 (zY t p).length), (47, .ro (.ints .i64 (zA0 t t.length)) 0 (zA0 t t.length).length), (48, .int .i64 ((zA0 t t.length).length : Nat)), (49, .int .i64 (k : Nat))] Y ⟨Y, Y, Y, Y, Y, Y, Y, Y, Y, trivial⟩ (fun h hh => by rw [hfix] at hh; exact absurd hh id) (belowQ1 S2) Y ?_
     refine rn3 ?_
     exact zM ⟨k + 1, by omega, by omega, ⟨Y, Y, Y, Y, Y, Y, Y, Y, Y, trivial⟩, by rw [hS2]⟩
   have hke : k = (zA0 t t.length).length := by omega
   subst hke
   rw [hEl, zL0]
   refine rn5 ?_
   refine zE6 ?_
   repeat (first | refine zD (zH rfl) ?_ | refine zD (zL rfl) ?_ | refine zB ?_ | refine zA ?_ | refine zW ?_ | refine zK rfl ?_ | refine zw ?_ | refine zD (zA6 rfl rfl rfl) ?_ | refine zD (zAh rfl rfl rfl rfl) ?_ | refine zD (zB3 rfl) ?_ | refine zD (zAu rfl rfl rfl rfl rfl rfl) ?_)
   refine zi (ι := Nat × List Rat × List (Int × Int) × Nat) (fun q => [(6, .ptr 1 0 0), (8, zDX t p), (11, .sl 2 0 (zY t p).length), (16, .mp 3), (17, .int .i64 (q.1 : Nat))]) (fun q => [none, some ⟨122, .box [.bool false, .nil, .nil]⟩, some ⟨122, qsC q.2.1⟩, some ⟨123, choC q.2.2.1⟩])
     (fun q => Back t p (zA9 t p s) q.1 q.2.1 q.2.2.1 q.2.2.2) (fun q => q.1) ((zY t p).length, zGU t p (zA9 t p s), [], 0) ⟨⟨rfl, rfl, rfl, rfl, rfl, trivial⟩, rfl, Back.top hv hw hml hpays p⟩ ?_
   rintro ⟨e, S, C, jj⟩ hB
   simp only at hB ⊢
   have hle := hB.bnd.le
   refine rn6 ?_
   refine zE Y (fun h => ?_) (fun h => ?_)
   · have he : 1 < e := by omega
     obtain ⟨x, b, hk⟩ := hB.bnd.blk hv he
     have hst := hB.step hv he hk
     have hSl := hB.sums.len
     have hsh : ∀ j, D zFU (S.getD j 0) := hB.sums.short (zQW hw hml hpays hv) (by have := hB.few; omega)
     have hfin := hk.fin
     have hw1 := hk.w1
     have hblt := hk.lt
     have hnew := newB (hk.new hv hB.cho)
     have hseq := hk.seqs
     have hs1 := hseq (zT t p x.1 - 1) (by omega)
     rw [show x.2 + (zT t p x.1 - 1) = e - 1 by omega] at hs1
     generalize hW : zT t p x.1 = W at *
     repeat (first | refine zD (zH rfl) ?_ | refine zA ?_ | refine zW ?_ | refine zK rfl ?_ | refine zw ?_ | refine zk ?_ | refine zD (zBe rfl rfl (by omega)) ?_ | refine zD (zAh rfl rfl rfl rfl) ?_ | refine zD (zB3 rfl) ?_ | refine zD (zAu rfl rfl rfl rfl rfl rfl) ?_)
     refine zN 105 (.int .i64 ((e - 1 : Nat) : Int)) Y (AEq.of_eq (by congr 1; omega)) ?_
     repeat (first | refine zD (zBl rfl rfl rfl rfl) ?_ | refine zD (zf rfl rfl rfl rfl (by first | (simp only [Nat.zero_add, Int.toNat_natCast, Int.toNat_zero]; exact rfl) | exact rfl) (by omega)) ?_ | refine zD (zAu rfl rfl rfl rfl rfl rfl) ?_)
     refine zN 108 (.int .i64 ((W - 1 : Nat) : Int)) Y (AEq.of_eq (show AV.int .i64 ((zY t p).getD (e - 1) seq0).choice = _ by rw [hs1])) ?_
     repeat (first | refine zD (zL rfl) ?_ | refine zB ?_ | refine zA ?_ | refine zW ?_ | refine zD (zBe rfl rfl (by omega)) ?_)
     refine z7 18 (.int .i64 (x.2 : Nat)) Y (AEq.of_eq (by congr 1; omega)) ?_
     refine rn1 ?_
     refine zi (ι := Nat) (fun m => [(6, .ptr 1 0 0), (8, zDX t p), (11, .sl 2 0 (zY t p).length), (16, .mp 3), (17, .int .i64 (e : Nat)), (18, .int .i64 (x.2 : Nat)), (19, .int .i64 (zAt S x.2 m : Nat)), (20, .int .i64 ((x.2 + m : Nat) : Int))]) (fun _ => [none, some ⟨122, .box [.bool false, .nil, .nil]⟩, some ⟨122, qsC S⟩, some ⟨123, choC C⟩])
       (fun m => m ≤ W) (fun m => W - m) 0 ⟨⟨rfl, rfl, rfl, rfl, rfl, rfl, rfl, rfl, trivial⟩, rfl, Nat.zero_le _⟩ ?_
     intro m hm'
     obtain ⟨q1, q2, q3⟩ := zEf S x.2 m
     refine rn4 ?_
     refine zE Y (fun h2 => ?_) (fun h2 => ?_)
     · have hmW : m < W := by omega
       have hbs : zAt S x.2 (m + 1) = if S.getD (zAt S x.2 m) 0 < S.getD (x.2 + m) 0 then x.2 + m else zAt S x.2 m := rfl
       have cc := zPg (S.getD (x.2 + m) 0) (S.getD (zAt S x.2 m) 0) (zCw ((hsh _).mono (show zFU ≤ 9 * 100000 by decide))) (zCw ((hsh _).mono (show zFU ≤ 9 * 100000 by decide)))
       have gi : x.2 + m < (qsC S).len := by show x.2 + m < S.length; omega
       have gb : zAt S x.2 m < (qsC S).len := by show zAt S x.2 m < S.length; omega
       have hlt : zAt S x.2 m < x.2 + m + 1 := q2
       generalize hN : zAt S x.2 (m + 1) = N at *
       generalize zAt S x.2 m = M at *
       refine rn1 ?_
       refine zl (by kernel_rfl) ?_
       refine zt (fuel := 0) [0, 1, 2, 3, 4, 5, 6, 7, 8, 9] [(6, .ptr 1 0 0), (8, zDX t p), (11, .sl 2 0 (zY t p).length), (16, .mp 3), (17, .int .i64 (e : Nat)), (18, .int .i64 (x.2 : Nat)), (19, .int .i64 (M : Nat)), (20, .int .i64 ((x.2 + m : Nat) : Int))] ⟨Y, Y, Y, Y, Y, Y, Y, Y, trivial⟩ (by kernel_rfl) (by decide) Y Y ?_
       refine zU Y Y (zH Y) ?_
       refine zU Y Y (zH Y) ?_
       refine zU Y Y (zb Y Y Y Y Y (by first | (simp only [Nat.zero_add, Int.toNat_natCast, Int.toNat_zero]; exact Y) | exact Y) (by omega)) ?_
       refine zU Y Y (zq Y Y Y Y Y Y Y (by first | exact Nat.zero_lt_one | assumption | omega)) ?_
       refine zU Y Y (zH Y) ?_
       refine zU Y Y (zH Y) ?_
       refine zU Y Y (zb Y Y Y Y Y (by first | (simp only [Nat.zero_add, Int.toNat_natCast, Int.toNat_zero]; exact Y) | exact Y) (by omega)) ?_
       refine zU Y Y (zq Y Y Y Y Y Y Y (by first | exact Nat.zero_lt_one | assumption | omega)) ?_
       refine zBc Y Y Y Y Y cc ?_
       refine zU Y Y (zIT Y Y) ?_
       refine zAc ?_
       refine zh (by kernel_rfl) ?_
       repeat (refine zA ?_)
       refine zE Y (fun h3 => ?_) (fun h3 => ?_)
       · rw [if_pos ((cmp_gt _ _).mp h3)] at hbs
         refine rn5 ?_
         exact zM ⟨m + 1, by omega, by omega, ⟨Y, Y, Y, Y, Y, Y, by rw [hN, hbs]; rfl, Y, trivial⟩, Y⟩
       · rw [if_neg (fun q => h3 ((cmp_gt _ _).mpr q))] at hbs
         refine rn5 ?_
         exact zM ⟨m + 1, by omega, by omega, ⟨Y, Y, Y, Y, Y, Y, by rw [hN, hbs]; rfl, Y, trivial⟩, Y⟩
     have hmW : m = W := by omega
     subst hmW
     have q3 := q3 hw1
     have hs2 := hseq (zAt S x.2 m - x.2) (by omega)
     rw [show x.2 + (zAt S x.2 m - x.2) = zAt S x.2 m by omega] at hs2
     have ca := zGA (S.getD b 0) (S.getD (zAt S x.2 m) 0) (zCw ((hsh _).mono (show zFU ≤ 9 * 100000 by decide))) (zCw ((hsh _).mono (show zFU ≤ 9 * 100000 by decide)))
     have gb : b < (qsC S).len := by show b < S.length; omega
     have gM : zAt S x.2 m < (qsC S).len := by show zAt S x.2 m < S.length; omega
     have hMn : zAt S x.2 m < (zY t p).length := by omega
     generalize zAt S x.2 m = M at *
     generalize hA : S.getD b 0 + S.getD M 0 = A at *
     repeat (first | refine zD (zH rfl) ?_ | refine zA ?_ | refine zW ?_ | refine zK rfl ?_ | refine zAj ?_ | refine zp ?_ | refine zo ?_ | refine zAB ?_ | refine zD (zf rfl rfl rfl rfl (by first | (simp only [Nat.zero_add, Int.toNat_natCast, Int.toNat_zero]; exact rfl) | exact rfl) (by omega)) ?_ | refine zD (zAh rfl rfl rfl rfl) ?_ | refine zD (zB3 rfl) ?_ | refine zD (zAu rfl rfl rfl rfl rfl rfl) ?_ | refine zD (zBi rfl rfl rfl rfl rfl rfl) ?_ | refine zBK rfl rfl rfl ?_)
     refine zN 134 (.agg (zFV ⟨x.1, ((M - x.2 : Nat) : Int), (b : Int)⟩)) Y (AEq.of_eq (by rw [← hs2]; rfl)) ?_
     refine zP (c' := .box (zFV ⟨x.1, ((M - x.2 : Nat) : Int), (b : Int)⟩)) Y Y Y Y Y Nat.zero_lt_one Y Y (fun i' j' hi' hj' => ?_) ?_
     · rw [if_pos (Nat.lt_one_iff.1 hi')]; rfl
     refine rn5 ?_
     refine zCq Y (.int Y) Y Y Y Y Y (keysB C) hnew ?_
     refine zAp [none, some ⟨122, .box [.bool false, .nil, .nil]⟩, some ⟨122, qsC S⟩, some ⟨123, choC (C ++ [(x.1, ((M - x.2 : Nat) : Int))])⟩, some ⟨174, .box [.int .i64 x.1, .int .i64 ((M - x.2 : Nat) : Int), .int .i64 (b : Nat)]⟩] (z6.same (z6.same (z6.same (z6.eqv (by unfold choC; rw [List.map_append, List.map_append]; exact CEq.refl _) (z6.eqv (CEq.refl _) z6.nil))))) ?_
     refine rn0 ?_
     refine zl (by kernel_rfl) ?_
     refine zt (fuel := 1) [0, 1, 2, 3, 4, 5, 6, 7, 8, 9, 10, 11, 12, 13] [(21, .ptr 4 0 0), (6, .ptr 1 0 0), (8, zDX t p), (11, .sl 2 0 (zY t p).length), (16, .mp 3), (17, .int .i64 (e : Nat)), (18, .int .i64 (x.2 : Nat)), (19, .int .i64 (M : Nat))] ⟨Y, Y, Y, Y, Y, Y, Y, Y, trivial⟩ (by kernel_rfl) (by decide) Y Y ?_
     refine zU Y Y (zH Y) ?_
     refine zU Y Y (zO Y Y Y Y Y Y) ?_
     refine zU Y Y (zS Y Y Y Y Y) ?_
     refine zU Y Y (zH Y) ?_
     refine zU Y Y (zO Y Y Y Y Y Y) ?_
     refine zU Y Y (zS Y Y Y Y Y) ?_
     refine zU Y Y (zb Y Y Y Y Y (by first | (simp only [Nat.zero_add, Int.toNat_natCast, Int.toNat_zero]; exact Y) | exact Y) (by omega)) ?_
     refine zU Y Y (zq Y Y Y Y Y Y Y (by first | exact Nat.zero_lt_one | assumption | omega)) ?_
     refine zU Y Y (zH Y) ?_
     refine zU Y Y (zH Y) ?_
     refine zU Y Y (zb Y Y Y Y Y (by first | (simp only [Nat.zero_add, Int.toNat_natCast, Int.toNat_zero]; exact Y) | exact Y) (by omega)) ?_
     refine zU Y Y (zq Y Y Y Y Y Y Y (by first | exact Nat.zero_lt_one | assumption | omega)) ?_
     refine zBc Y Y Y Y Y ca ?_
     refine zU Y Y (zb Y Y Y Y Y (by first | (simp only [Nat.zero_add, Int.toNat_natCast, Int.toNat_zero]; exact Y) | exact Y) (by omega)) ?_
     refine zAc ?_
     refine zF (is := [14]) (by kernel_rfl) (by simp) Y ⟨fun o ho => ?_, trivial⟩
     all_goals (cases ho)
     unfold qA
     refine zP (c' := qsC (S.set b A)) Y Y Y Y Y gb (by show (List.set _ b _).length = _; rw [List.length_set]; rfl) Y (fun i' j' hi' hj' => zCY 0 3 zu S b A gb i' j' hi' hj') ?_
     refine rn1 ?_
     refine zh (by kernel_rfl) ?_
     skip
     refine zA ?_
     refine zAb [none, some ⟨122, .box [.bool false, .nil, .nil]⟩, some ⟨122, qsC (S.set b A)⟩, some ⟨123, choC (C ++ [(x.1, ((M - x.2 : Nat) : Int))])⟩] [some ⟨174, .box [.int .i64 x.1, .int .i64 ((M - x.2 : Nat) : Int), .int .i64 (b : Nat)]⟩] [(6, .ptr 1 0 0), (8, zDX t p), (11, .sl 2 0 (zY t p).length), (16, .mp 3), (18, .int .i64 (x.2 : Nat))] Y ⟨Y, Y, Y, Y, Y, trivial⟩ (fun h hh => by rw [hfix] at hh; exact absurd hh id) (belowQ2 _ _) Y ?_
     refine rn5 ?_
     exact zM ⟨(x.2, S.set b A, C ++ [(x.1, ((M - x.2 : Nat) : Int))], jj + 1), hst, by simp only; omega, ⟨Y, Y, Y, Y, Y, trivial⟩, Y⟩
   · have hsp := hB.stop (by omega)
     have hSl := hB.sums.len
     have g0 : 0 < (qsC S).len := by show 0 < S.length; omega
     rw [hsp] at hR
     refine rn6 ?_
     refine zP (c' := .box (zu (S.getD 0 0))) Y Y Y Y Y Nat.zero_lt_one Y Y (fun i' j' hi' hj' => ?_) ?_
     · rw [if_pos (Nat.lt_one_iff.1 hi')]; rfl
     refine rn0 ?_
     exact zI hR Y ⟨Y, Y⟩
 · rintro r H ⟨rfl, rfl⟩
   refine ⟨Y, ⟨⟨trivial, trivial, trivial, trivial⟩, trivial, trivial⟩, fun h o ho => ?_⟩
   match h, ho with
   | 0, ho => simp at ho
   | 1, ho =>
     cases ho
     intro i j _ hj
     exact zMB _ j
   | 2, ho => cases ho; exact zEo _
   | 3, ho => cases ho; exact ⟨zE3 (fun _ => rfl) _, zE3 (fun _ => rfl) _⟩
   | _ + 4, ho => simp at ho
/-- The row behind the first i values. -/
def zFj (n : zBI) (k i : Nat) : List zBI := List.replicate i n ++ List.replicate (k - i) []
theorem zJb (n : zBI) (k i j : Nat) (hi : i ≤ k) (hj : j < k) : (zFj n k i).getD j [] = if j < i then n else [] := by
 unfold zFj
 simp only [List.getD, List.getElem?_append, List.length_replicate, List.getElem?_replicate]
 split
 · simp
 · rw [if_pos (by omega)]; simp
theorem zF3 (n : zBI) (k i : Nat) (hi : i ≤ k) : (zFj n k i).length = k := by unfold zFj; simp; omega
theorem zRk (n : zBI) (k : Nat) : zFj n k k = List.replicate k n := by unfold zFj; simp
theorem zPm (n : zBI) (k : Nat) (hk : 1 ≤ k ∧ k ≤ 100000) : zHY Tryz.prog 76 [.ro (.strs [n]) 0 1, .int .i64 (k : Nat)] (fun N => .sl N 0 k) ⟨27, .strs (List.replicate k n)⟩ := by
 refine zV.fresh (K := fun r H => r = .sl 0 0 k ∧ H = [some ⟨27, .strs (List.replicate k n)⟩]) (zG (P := Tryz.prog) (fn := Tryz.f76) Y Y (by kernel_rfl) Y (fun c hR hfix => ?_)) (fix := fun _ => False) (fun _ h => h) Y (fun H => ⟨Y, by simp [zG1, inB]⟩) ?_
 · have hm := mulB 1 k (by omega) (by omega)
   rw [Nat.one_mul, Nat.div_eq_of_lt (by omega), Nat.mod_eq_of_lt (by omega)] at hm
   refine rn4 ?_
   refine zD (zAa (m := 1) Y Y Y zBN (by decide)) ?_
   repeat (refine zD (zH rfl) ?_)
   refine zD (zAa (m := k) Y Y Y zBN (by omega)) ?_
   refine zC Y Y Y hm ?_
   refine rn6 ?_
   refine zE Y (fun h => absurd h (by omega)) (fun h => ?_)
   refine rn1 ?_
   refine zD (zEu Y Y Y (by omega)) ?_
   refine zB6 Y Y Y Y Y Y Y Y (by show 0 ≤ _ ∧ _ ≤ _ ∧ (16 : Int) * _ ≤ _ ∧ _; omega) ?_
   refine rn0 ?_
   refine zQX (o := ⟨27, .strs (List.replicate k [])⟩) (c' := .strs (zFj n k 1)) (i := 0) (n := k) (i2 := 0) (m := 1) (q := 1) Y Y Y Y Y Y Y (by simp [Cells.len]) (by omega) (by show 0 + 1 ≤ 1; omega) (by omega) (Nat.min_eq_left (by omega)) Y Y ?_ (fun i' j hi' hj => ?_) ?_
   · show (zFj n k 1).length = (List.replicate k ([] : zBI)).length
     rw [zF3 n k 1 (by omega)]; simp
   · have hi2 : i' < k := by simpa [Cells.len] using hi'
     show AV.str ((zFj n k 1).getD i' []) = _
     rw [zJb n k 1 i' (by omega) hi2]
     by_cases h0 : i' < 1
     · rw [if_pos h0, if_pos (by omega)]
       have : i' = 0 := by omega
       subst this; rfl
     · rw [if_neg h0, if_neg (by omega)]
       show _ = AV.str ((List.replicate k ([] : zBI)).getD i' [])
       simp [List.getD, hi2]
   refine rn1 ?_
   refine zi (ι := Nat) (fun i => [(7, .sl 0 0 k), (8, .int .i64 (i : Nat))]) (fun i => [some ⟨27, .strs (zFj n k i)⟩]) (fun i => 1 ≤ i ∧ i ≤ k) (fun i => k - i) 1 ⟨⟨Y, Y, trivial⟩, Y, by omega, by omega⟩ ?_
   rintro i ⟨hi1, hi⟩
   refine rn4 ?_
   refine zE Y (fun h1 => ?_) (fun h1 => ?_)
   · obtain ⟨q, hq⟩ : ∃ q, Nat.min i (k - i) = q := ⟨_, rfl⟩
     have hq1 : q ≤ i ∧ q ≤ k - i ∧ 1 ≤ q := by
       subst hq
       refine ⟨Nat.min_le_left _ _, Nat.min_le_right _ _, ?_⟩
       show 1 ≤ min i (k - i)
       omega
     refine rn1 ?_
     refine zl (by kernel_rfl) ?_
     refine zR 0 Y (by kernel_rfl) (by kernel_rfl) (by kernel_rfl) Y (zH Y) Y ?_
     refine zR 1 Y (by kernel_rfl) (by kernel_rfl) (by kernel_rfl) Y (zH Y) Y ?_
     refine zR 2 Y (by kernel_rfl) (by kernel_rfl) (by kernel_rfl) Y (zH Y) Y ?_
     refine zR 4 Y (by kernel_rfl) (by kernel_rfl) (by kernel_rfl) Y (zH Y) Y ?_
     refine zR 5 Y (by kernel_rfl) (by kernel_rfl) (by kernel_rfl) Y (zH Y) Y ?_
     refine zR 3 Y (by kernel_rfl) (by kernel_rfl) (by kernel_rfl) Y (zHa Y Y Y Y Y Y Y Y (by omega)) Y ?_
     refine zR 6 Y (by kernel_rfl) (by kernel_rfl) (by kernel_rfl) Y (zHa Y Y Y Y Y Y Y Y (by omega)) Y ?_
     refine zBZ 41 (.sl 0 i (k - i)) Y (AEq.of_eq (by congr 1 <;> omega)) ?_
     refine zBZ 44 (.sl 0 0 i) Y (AEq.of_eq (by congr 1 <;> omega)) ?_
     refine zF (is := [7]) (by kernel_rfl) (by simp) Y ⟨fun o ho => ?_, trivial⟩
     all_goals (cases ho)
     skip
     refine zQX (h := 0) (o := ⟨27, .strs (zFj n k i)⟩) (c' := .strs (zFj n k (i + q))) (i := i) (n := k - i) (i2 := 0) (m := i) (q := q) Y Y Y Y Y Y Y (by show i + (k - i) ≤ (zFj n k i).length; rw [zF3 n k i hi]; omega) (by omega) (by show 0 + i ≤ (zFj n k i).length; rw [zF3 n k i hi]; omega) (by omega) hq Y Y ?_ (fun i' j hi' hj => ?_) ?_
     · show (zFj n k (i + q)).length = (zFj n k i).length
       rw [zF3 n k i hi, zF3 n k (i + q) (by omega)]
     · have hi2 : i' < k := by
         have : i' < (zFj n k i).length := hi'
         rwa [zF3 n k i hi] at this
       show AV.str ((zFj n k (i + q)).getD i' []) = _
       rw [zJb n k (i + q) i' (by omega) hi2]
       by_cases h0 : i ≤ i' ∧ i' < i + q
       · rw [if_pos h0, if_pos h0.2]
         show _ = AV.str ((zFj n k i).getD (0 + (i' - i)) [])
         rw [zJb n k i _ hi (by omega), if_pos (by omega)]
       · rw [if_neg h0]
         show _ = AV.str ((zFj n k i).getD i' [])
         rw [zJb n k i i' hi hi2]
         by_cases h2 : i' < i
         · rw [if_pos h2, if_pos (by omega)]
         · rw [if_neg h2, if_neg (by omega)]
     repeat (first | refine zB ?_ | refine zn ?_)
     refine zR 8 Y (by kernel_rfl) (by kernel_rfl) (by kernel_rfl) Y (zDO Y Y (by omega)) Y ?_
     refine zR 9 Y (by kernel_rfl) (by kernel_rfl) (by kernel_rfl) Y (zL Y) Y ?_
     refine zh (by kernel_rfl) ?_
     repeat (refine zd ?_)
     exact zM ⟨i + q, ⟨by omega, by omega⟩, by omega, ⟨Y, Y, trivial⟩, Y⟩
   · have : i = k := by omega
     subst this
     rw [zRk]
     refine rn5 ?_
     exact zI hR Y ⟨Y, Y⟩
 · rintro r H ⟨rfl, rfl⟩
   refine ⟨?_, fun h o ho => zFq zDP h o ho, 0, Y, fun n => rfl⟩
   intro o ho; simp at ho; subst ho; exact Nat.le_of_eq (by simp [Cells.len])
def zH4 (t : zQ) (p : Int) (s : zAL) : Int := if zAZ t p ≠ 0 then zAZ t p else if zBL t p = true then zAl t (1 - p) s else 10
/-- the best choice of a set -/
def bestC (t : zQ) (p : Int) (o : zAJ) (x : Int) : Nat := ((zLu (zBV t p o).2.2 x).getD 0).toNat
def zCH (w c : Nat) : List zBI := (List.replicate w [48]).set c [49]
def zB1 (t : zQ) (p : Int) (o : zAJ) (x : Int) : TChoice := ⟨x, zCH (zT t p x) (bestC t p o x)⟩
def zGB (t : zQ) (p : Int) (o : zAJ) : zAL := (zJ t p).map (zB1 t p o)
def zJS (t : zQ) (p : Int) (s : zAL) : Rat := (zBV t p (zA9 t p s)).2.1.getD 0 0
/-- reply.Best -/
def zKf (t : zQ) (p : Int) (s : zAL) : zBI × zAL × Int :=
 if zH4 t p s ≠ 0 then ([], [], zH4 t p s) else if (zHM (zJS t p s)).2 ≠ 0 then ([], [], (zHM (zJS t p s)).2) else ((zHM (zJS t p s)).1, zGB t p (zA9 t p s), 0)
def bestA (r : zBI × zAL × Int) : AV := .tup [.str r.1, .ro (zm r.2.1) 0 r.2.1.length, .int .i64 r.2.2]
theorem bestQ_D {t : zQ} (hv : Valid t) (hm : Go.Ax.Rt.Modest t) {p : Int} {s : zAL} (hp : p = 0 ∨ p = 1) (hpf : zBL t p = true) (hs : StrS t (1 - p) s) : D 974 (zJS t p s) := by
 rcases hp with rfl | rfl
 · exact bestV_D0 hv hm hpf hs.str
 · exact bestV_D1 hv hm hpf hs.str
theorem zLJ (c : TChoice) (j : Nat) (hj : j < 2) : (zEQ 1 2 [.int .i64 c.info, .ro (.strs c.odds) 0 c.odds.length]).at 0 j = (cellsC c).getD j .any := by
 match j, hj with
 | 0, _ => rfl
 | 1, _ => rfl
theorem zRt (t : zQ) (p : Int) : (zJ t p).length ≤ 10 := by
 unfold zJ
 refine Nat.le_trans (List.length_filter_le _ _) ?_
 simp
theorem best_ok (t : zQ) (p : Int) (s : zAL) (h : Small t [s]) : zX Tryz.prog 18 [.ro (zc t) 0 t.length, .int .i64 p, .ro (zm s) 0 s.length] (bestA (zKf t p s)) := by
 have c1 := zIm t p h.sh
 have hsh := h.sh
 have hss := h.s s (by simp)
 refine zV.value0 (zG (P := Tryz.prog) (fn := Tryz.f18) Y Y (by kernel_rfl) Y (fun c hR hfix => ?_)) (fix := fun _ => False) (fun _ h => h) Y Y
 unfold zKf at hR
 refine rn0 ?_
 refine zC Y Y Y c1 ?_
 refine rn3 ?_
 refine zE Y (fun h1 => ?_) (fun h1 => ?_)
 · have e : zH4 t p s = zAZ t p := by unfold zH4; rw [if_pos h1]
   rw [e, if_pos h1] at hR
   repeat (first | refine zD (zH rfl) ?_ | refine zD (zL rfl) ?_ | refine zB ?_ | refine zA ?_ | refine zW ?_ | refine zK rfl ?_)
   refine z7 7 (.ro (zm []) 0 0) Y AEq.nil ?_
   refine rn2 ?_
   exact zI hR Y Y
 have g1 := Classical.not_not.1 h1
 have hpe : Valid t ∧ (p = 0 ∨ p = 1) := by
   unfold zAZ at g1
   by_cases h2 : zFB t ≠ 0
   · rw [if_pos h2] at g1; exact absurd g1 h2
   rw [if_neg h2] at g1
   refine ⟨zH0 (Classical.not_not.1 h2), ?_⟩
   by_cases q : p ≠ 0 ∧ p ≠ 1
   · rw [if_pos q] at g1; cases g1
   · omega
 obtain ⟨hv, hp⟩ := hpe
 have c2 := zIe t p h.sh hv
 refine rn1 ?_
 refine zC Y Y Y c2 ?_
 cases hpf : zBL t p
 · have e : zH4 t p s = 10 := by unfold zH4; rw [if_neg h1, if_neg (by rw [hpf]; exact fun q => by cases q)]
   rw [e, if_pos (by decide)] at hR
   repeat (first | refine zD (zL rfl) ?_ | refine zB ?_ | refine zA ?_ | refine zW ?_ | refine zK rfl ?_ | refine zAV rfl ?_ | refine zD (zEE rfl) ?_)
   refine z7 7 (.ro (zm []) 0 0) Y AEq.nil ?_
   refine rn2 ?_
   exact zI hR Y Y
 have eE : zH4 t p s = zAl t (1 - p) s := by unfold zH4; rw [if_neg h1, if_pos hpf]
 rw [eE] at hR
 have c3 := zED t (1 - p) s h.sh.len hss
 repeat (first | refine zD (zH rfl) ?_ | refine zB ?_ | refine zA ?_ | refine zW ?_ | refine zK rfl ?_ | refine zx rfl ?_ | refine zk ?_ | refine zD (zEE rfl) ?_ | refine zD (zBe rfl rfl (by omega)) ?_)
 refine zC Y Y Y c3 ?_
 refine rn3 ?_
 refine zE Y (fun h3 => ?_) (fun h3 => ?_)
 · rw [if_pos h3] at hR
   repeat (first | refine zD (zH rfl) ?_ | refine zD (zL rfl) ?_ | refine zB ?_ | refine zA ?_ | refine zW ?_ | refine zK rfl ?_)
   refine z7 7 (.ro (zm []) 0 0) Y AEq.nil ?_
   refine rn2 ?_
   exact zI hR Y Y
 rw [if_neg h3] at hR
 have hs := h.str (s := s) (by simp) (Classical.not_not.1 h3)
 have c4 := zQz t p s h.sh hv h.m hp hs
 have hqD := bestQ_D hv h.m hp hpf hs
 have c5 := zMC (zJS t p s) (zCw (hqD.mono (show 974 ≤ 9 * 100000 by decide)))
 have c6 := zIF t p h.sh.len
 have hlk := fun x hx => zIo hv (p := p) (zA9 t p s) (x := x) hx
 have hin := zRt t p
 have hzl : (zz t p).length = (zJ t p).length := by unfold zz; simp
 have c4 : zX Tryz.prog 73 [.ro (zc t) 0 t.length, .int .i64 p, .ro (zm s) 0 s.length] (.tup [qA (zJS t p s), .rom ((zBV t p (zA9 t p s)).2.2.map keyB) ((zBV t p (zA9 t p s)).2.2.map valB)]) := c4
 generalize zJS t p s = q at *
 refine rn1 ?_
 refine zC Y Y Y c4 ?_
 unfold qA
 refine rn4 ?_
 refine zP (c' := .box (zu q)) Y Y Y Y Y Nat.zero_lt_one Y Y (fun i' j' hi' hj' => ?_) ?_
 · rw [if_pos (Nat.lt_one_iff.1 hi')]; rfl
 refine rn6 ?_
 refine zC Y Y Y c5 ?_
 refine rn3 ?_
 refine zE Y (fun h4 => ?_) (fun h4 => ?_)
 · rw [if_pos h4] at hR
   repeat (first | refine zD (zH rfl) ?_ | refine zD (zL rfl) ?_ | refine zB ?_ | refine zA ?_ | refine zW ?_ | refine zK rfl ?_)
   refine z7 7 (.ro (zm []) 0 0) Y AEq.nil ?_
   refine rn2 ?_
   exact zI hR Y Y
 rw [if_neg h4] at hR
 refine rn1 ?_
 refine zC Y Y Y c6 ?_
 repeat (first | refine zD (zH rfl) ?_ | refine zD (zL rfl) ?_ | refine zB ?_ | refine zA ?_ | refine zW ?_ | refine zK rfl ?_ | refine zD (zBM rfl rfl) ?_ | refine zD (zA6 rfl rfl rfl) ?_)
 refine zA5 17 ⟨67, zm []⟩ Y Y ?_
 repeat (refine zw ?_)
 refine zi (ι := Nat) (fun k => [(12, .rom ((zBV t p (zA9 t p s)).2.2.map keyB) ((zBV t p (zA9 t p s)).2.2.map valB)), (13, .str (zHM q).1), (16, .ro (.ints .i64 (zz t p)) 0 (zz t p).length), (17, .sl 1 0 k), (60, .ro (.ints .i64 (zJ t p)) 0 (zJ t p).length), (61, .int .i64 ((zJ t p).length : Nat)), (62, .int .i64 (k : Nat))]) (fun k => [some ⟨122, .box (zu q)⟩, some ⟨67, zm (((zJ t p).take k).map (zB1 t p (zA9 t p s)))⟩])
   (fun k => k ≤ (zJ t p).length) (fun k => (zJ t p).length - k) 0 ⟨⟨rfl, rfl, rfl, rfl, rfl, rfl, rfl, trivial⟩, rfl, Nat.zero_le _⟩ ?_
 intro k hk
 refine rn4 ?_
 refine zE Y (fun h => ?_) (fun h => ?_)
 · have hk' : k < (zJ t p).length := by omega
   have hkz : k < (zz t p).length := by omega
   have hxm : (zJ t p).getD k 0 ∈ zJ t p := zAP 0 hk'
   have hsz : (zz t p).getD k 0 = ((zT t p ((zJ t p).getD k 0) : Nat) : Int) := by
     unfold zz; rw [zBB _ _ 0 _ _ hk']
   obtain ⟨cc, l1, l2, l3⟩ := hlk _ hxm
   have hw6 : zT t p ((zJ t p).getD k 0) ≤ 6 := by
     obtain ⟨j, hj, hsj⟩ := (zBa hv).1 hxm
     rw [zCp hv hj hsj]; exact hv.few hj
   have hbc : bestC t p (zA9 t p s) ((zJ t p).getD k 0) = cc := by unfold bestC; rw [l1]; rfl
   obtain ⟨jj, hjj⟩ := List.getElem?_of_mem l3
   have i1 : ((zBV t p (zA9 t p s)).2.2.map keyB)[jj]? = some (.int .i64 ((zJ t p).getD k 0)) := by rw [List.getElem?_map, hjj]; rfl
   have i2 : ((zBV t p (zA9 t p s)).2.2.map valB)[jj]? = some (.int .i64 (cc : Nat)) := by rw [List.getElem?_map, hjj]; rfl
   have htk : ((zJ t p).take (k + 1)).map (zB1 t p (zA9 t p s)) = ((zJ t p).take k).map (zB1 t p (zA9 t p s)) ++ [⟨(zJ t p).getD k 0, zCH (zT t p ((zJ t p).getD k 0)) cc⟩] := by
     rw [List.take_succ_eq_append_getElem hk', List.map_append, ← zAC 0 hk', ← hbc]; rfl
   have hml : (((zJ t p).take k).map (zB1 t p (zA9 t p s))).length = k := by rw [List.length_map, List.length_take]; omega
   generalize hO2 : ((zJ t p).take (k + 1)).map (zB1 t p (zA9 t p s)) = O2 at *
   generalize ((zJ t p).take k).map (zB1 t p (zA9 t p s)) = O at *
   generalize zT t p ((zJ t p).getD k 0) = w at *
   have crep := zPm [48] w (by omega)
   refine rn6 ?_
   refine zN 71 (.int .i64 (w : Nat)) Y (AEq.of_eq (by rw [hsz])) ?_
   refine zB0 Y Y Y crep ?_
   refine rn0 ?_
   refine zD (zBh Y (.int Y) Y Y Y Y (keysB _) jj i1 i2) ?_
   repeat (refine zD (zb rfl rfl rfl rfl rfl (by first | (simp only [Nat.zero_add, Int.toNat_natCast, Int.toNat_zero]; exact rfl) | exact rfl) (by omega)) ?_)
   refine zAr (c' := .strs (zCH w cc)) Y Y Y Y Y Y Y (by show cc < (List.replicate w _).length; rw [List.length_replicate]; exact l2) ?_
   repeat (first | refine zB ?_ | refine zA ?_)
   refine zBb [some ⟨122, .box (zu q)⟩, some ⟨67, zm O⟩, some ⟨27, .strs (zCH w cc)⟩] Y ?_
   have hul : (zCH w cc).length = w := by unfold zCH; rw [List.length_set, List.length_replicate]
   refine z7 20 (.sl 2 0 w) Y (AEq.of_eq Y) ?_
   refine zAU 2 20 w [(12, .rom ((zBV t p (zA9 t p s)).2.2.map keyB) ((zBV t p (zA9 t p s)).2.2.map valB)), (13, .str (zHM q).1), (16, .ro (.ints .i64 (zz t p)) 0 (zz t p).length), (17, .sl 1 0 k), (19, .int .i64 ((zJ t p).getD k 0)), (60, .ro (.ints .i64 (zJ t p)) 0 (zJ t p).length), (61, .int .i64 ((zJ t p).length : Nat)), (62, .int .i64 (k : Nat))] Y zDP Y (by show w ≤ (zCH w cc).length; omega) ⟨Y, Y, Y, Y, Y, Y, Y, Y, trivial⟩ ?_
   refine z7 20 (.ro (.strs (zCH w cc)) 0 (zCH w cc).length) Y (AEq.of_eq (by rw [hul])) ?_
   repeat (first | refine zD (zH rfl) ?_ | refine zK rfl ?_ | refine zD (zAR rfl rfl rfl rfl rfl rfl) ?_ | refine zj rfl rfl rfl rfl rfl rfl rfl rfl rfl rfl rfl ?_)
   refine zr Y Y Y Y Y Y Y Y Y hml Y Y (by show 0 + 1 ≤ 1; omega) Y (by show (k + 1) * 32 ≤ _ ∧ _; omega) ?_ (by rw [hfix]; exact fun h => h) ?_
   · intro i' j hi hj
     exact zDC ch0 2 cellsC zCK O ⟨(zJ t p).getD k 0, zCH w cc⟩ _ (zLJ ⟨(zJ t p).getD k 0, zCH w cc⟩) 1 i' j hi hj
   repeat (first | refine zD (zL rfl) ?_ | refine zB ?_ | refine zd ?_)
   refine zA ?_
   refine zBg ([some ⟨122, .box (zu q)⟩, some ⟨67, zm O2⟩] ++ [none]) ?_ ?_
   · rw [htk]
     exact z6.eqv (CEq.refl _) (z6.eqv (zCx ch0 2 cellsC O ⟨(zJ t p).getD k 0, zCH w cc⟩ _ (zLJ ⟨(zJ t p).getD k 0, zCH w cc⟩)) (z6.drop z6.nil))
   refine zDv (H1 := [some ⟨122, .box (zu q)⟩, some ⟨67, zm O2⟩]) Y (by rw [hfix]; exact fun h => h) ?_
   refine zBg [some ⟨122, .box (zu q)⟩, some ⟨67, zm O2⟩] ?_ ?_
   · exact z6.eqv (CEq.refl _) (z6.eqv ⟨Y, Y, fun i j _ hj => (zCK _ j _ hj).symm⟩ z6.nil)
   refine rn3 ?_
   exact zM ⟨k + 1, by omega, by omega, ⟨Y, Y, Y, Y, Y, Y, Y, trivial⟩, by rw [hO2]⟩
 · have hke : k = (zJ t p).length := by omega
   subst hke
   rw [List.take_length]
   have hbl : (zGB t p (zA9 t p s)).length = (zJ t p).length := by unfold zGB; rw [List.length_map]
   have hbs : (zJ t p).map (zB1 t p (zA9 t p s)) = zGB t p (zA9 t p s) := rfl
   rw [hbs]
   generalize zGB t p (zA9 t p s) = B at *
   repeat (first | refine zA ?_ | refine zW ?_ | refine zAj ?_ | refine zp ?_ | refine zo ?_ | refine zAB ?_)
   refine zAU 1 17 (zJ t p).length [(13, .str (zHM q).1)] Y (zCS _) Y (by show _ ≤ B.length; omega) ⟨Y, trivial⟩ ?_
   refine z7 17 (.ro (zm B) 0 B.length) Y (AEq.of_eq (by rw [hbl])) ?_
   refine rn0 ?_
   exact zI hR Y Y
end Go.Proofs.YtnkealfaldjipaaGreatDoor
namespace Go.Ax.Rt
open Go.Ax.Bg Go.Ax.Idx
def zEF (f : Nat → Rat) (n i : Nat) : List (Option Rat) := (List.range n).map (fun k => if k < i then some (f k) else none)
theorem zCu (f : Nat → Rat) (n i : Nat) : (zEF f n i).length = n := by unfold zEF; rw [List.length_map, List.length_range]
theorem zIX (f : Nat → Rat) {n k : Nat} (i : Nat) (hk : k < n) : (zEF f n i).getD k none = if k < i then some (f k) else none := by
 unfold zEF
 rw [zBB _ _ 0 none k (by rw [List.length_range]; exact hk), zAC 0 (by rw [List.length_range]; exact hk), List.getElem_range]
theorem zLj (f : Nat → Rat) {n i : Nat} (hi : i < n) : (zEF f n i).set i (some (f i)) = zEF f n (i + 1) := by
 refine List.ext_getElem (by rw [List.length_set, zCu, zCu]) (fun k h1 h2 => ?_)
 have hk : k < n := by rwa [List.length_set, zCu] at h1
 rw [← zAC none h1, ← zAC none h2, Go.Ax.Dt.getD_set, zCu, zIX f _ hk, zIX f _ hk]
 by_cases h : k = i
 · subst h; rw [if_pos ⟨rfl, hi⟩, if_pos (by omega)]
 · rw [if_neg (fun q => h q.1)]
   by_cases h3 : k < i
   · rw [if_pos h3, if_pos (by omega)]
   · rw [if_neg h3, if_neg (by omega)]
theorem zKe (f : Nat → Rat) (n : Nat) : zEF f n 0 = List.replicate n none := by
 refine List.ext_getElem (by rw [zCu, List.length_replicate]) (fun k h1 h2 => ?_)
 have hk : k < n := by rwa [zCu] at h1
 rw [← zAC none h1, zIX f _ hk, if_neg (Nat.not_lt_zero _), List.getElem_replicate]
theorem zLd (f : Nat → Rat) (n : Nat) : zEF f n n = ((List.range n).map f).map some := by
 unfold zEF
 rw [List.map_map]
 refine List.map_congr_left (fun k hk => ?_)
 rw [if_pos (List.mem_range.1 hk)]; rfl
/-- the weight of a sequence, so far -/
def zJW (q : CPlan → Bool) (l : zB2) (k : Nat) : Rat := zAK 0 (((l.take k).filter q).map (fun a => zAT a.odds))
theorem zQh {q : CPlan → Bool} {l : zB2} {k : Nat} (hk : k < l.length) : zJW q l (k + 1) = if q (l.getD k cp0) = true then zJW q l k + zAT (l.getD k cp0).odds else zJW q l k := by
 unfold zJW
 rw [List.take_succ_eq_append_getElem hk, List.filter_append, ← zAC cp0 hk]
 by_cases h : q (l.getD k cp0) = true
 · rw [if_pos h, List.filter_cons_of_pos h, List.filter_nil, List.map_append]
   exact zEe _ _ _
 · rw [if_neg h, List.filter_cons_of_neg h, List.filter_nil, List.append_nil]
theorem sumW_all (q : CPlan → Bool) (l : zB2) : zJW q l l.length = zAK 0 ((l.filter q).map (fun a => zAT a.odds)) := by
 unfold zJW; rw [List.take_length]
theorem zOk {q : CPlan → Bool} {l : zB2} (h : ∀ a ∈ l, D 2000 (zAT a.odds)) {k : Nat} (hk : k ≤ l.length) : D (1 + k * 2001) (zJW q l k) := by
 unfold zJW
 have h1 := zME (k := 2000) (l := ((l.take k).filter q).map (fun a => zAT a.odds)) (fun x hx => by
   obtain ⟨a, ha, rfl⟩ := List.mem_map.1 hx
   exact h a (List.mem_of_mem_take (List.mem_filter.1 ha).1)) (acc := 0) (j := 1) ⟨by decide, by decide⟩
 refine h1.mono ?_
 rw [List.length_map]
 have h2 : ((l.take k).filter q).length ≤ k := Nat.le_trans (List.length_filter_le _ _) (by rw [List.length_take]; exact Nat.min_le_left _ _)
 have := Nat.mul_le_mul_right 2001 h2
 omega
def zKx (sq : List RSeq) (W : Nat → Rat) (x : Int) (k : Nat) (o : List Rat) : List Rat :=
 if 0 ≤ (sq.getD k seq0).before ∧ (sq.getD k seq0).info = x ∧ 0 < W (sq.getD k seq0).before.toNat then o.set (sq.getD k seq0).choice.toNat (W k / W (sq.getD k seq0).before.toNat) else o
def zHP (sq : List RSeq) (W : Nat → Rat) (x : Int) (o : List Rat) : Nat → List Rat
 | 0 => o
 | k + 1 => zKx sq W x k (zHP sq W x o k)
theorem zG0 (sq : List RSeq) (W : Nat → Rat) (x : Int) (o : List Rat) : ∀ k, (zHP sq W x o k).length = o.length
 | 0 => rfl
 | k + 1 => by
   rw [zHP, zKx]
   split
   · rw [List.length_set, zG0 sq W x o k]
   · exact zG0 sq W x o k
theorem zMv {t : zQ} (hv : Valid t) {p x : Int} {s b : Nat} (h : BlkX t p x s b) {k : Nat} (hk : k < (zY t p).length) (h0 : 0 ≤ ((zY t p).getD k seq0).before) (hi : ((zY t p).getD k seq0).info = x) : s ≤ k ∧ k < s + zT t p x := by
 have hnd := (RI.all_n hv p t.length (Nat.le_refl _)).nd
 have h1 : 1 ≤ k := by
   rcases Nat.eq_zero_or_pos k with e | e
   · subst e
     rw [(zAv hv p).2.1] at h0
     exact absurd h0 (by decide)
   · exact e
 obtain ⟨y, c, y0, y1, y2, y3, y4, y5, y6, y7⟩ := zHo hv h1 hk
 have h2 := y7 (k - y.2) (by omega)
 rw [show y.2 + (k - y.2) = k by omega] at h2
 rw [h2] at hi
 have hi : y.1 = x := hi
 have e : y = (x, s) := by
   have hm := h.mem
   obtain ⟨i, hi', ei⟩ := List.getElem_of_mem y0
   obtain ⟨j, hj', ej⟩ := List.getElem_of_mem hm
   have : i = j := by
     refine (List.getElem_inj (i := i) (j := j) (h₀ := by rw [List.length_map]; exact hi') (h₁ := by rw [List.length_map]; exact hj') hnd).1 ?_
     rw [List.getElem_map, List.getElem_map, ei, ej]
     exact hi
   subst this
   rw [← ei, ← ej]
 subst e
 exact ⟨y2, y3⟩
theorem zPu {t : zQ} (hv : Valid t) {p x : Int} {s b : Nat} (h : BlkX t p x s b) (W : Nat → Rat) : ∀ k, k ≤ (zY t p).length → ∀ c, c < zT t p x →
   (zHP (zY t p) W x (zA4 (zT t p x) 0) k).getD c 0 = if s + c < k ∧ 0 < W b then W (s + c) / W b else (zA4 (zT t p x) 0).getD c 0
 | 0, _, c, hc => by rw [if_neg (by omega)]; rfl
 | k + 1, hk, c, hc => by
   have ih := zPu hv h W k (by omega) c hc
   rw [zHP, zKx]
   by_cases h0 : 0 ≤ ((zY t p).getD k seq0).before ∧ ((zY t p).getD k seq0).info = x ∧ 0 < W ((zY t p).getD k seq0).before.toNat
   · rw [if_pos h0]
     obtain ⟨b1, b2⟩ := zMv hv h (by omega) h0.1 h0.2.1
     have hs := h.seqs (k - s) (by omega)
     rw [show s + (k - s) = k by omega] at hs
     rw [hs] at h0 ⊢
     have h3 : 0 < W b := h0.2.2
     show ((zHP (zY t p) W x (zA4 (zT t p x) 0) k).set ((k - s : Nat) : Int).toNat (W k / W ((b : Nat) : Int).toNat)).getD c 0 = _
     rw [Int.toNat_natCast, Int.toNat_natCast, Go.Ax.Dt.getD_set, zG0, ih]
     have hu := (zCo h.w1).1
     by_cases e : c = k - s
     · rw [if_pos ⟨e, by omega⟩, if_pos ⟨by omega, h3⟩, e, show s + (k - s) = k by omega]
     · rw [if_neg (fun q => e q.1)]
       by_cases h4 : s + c < k
       · rw [if_pos ⟨h4, h3⟩, if_pos ⟨by omega, h3⟩]
       · rw [if_neg (fun q => h4 q.1), if_neg (by omega)]
   · rw [if_neg h0, ih]
     by_cases h3 : 0 < W b
     · have hne : s + c ≠ k := fun e => by
         have hs := h.seqs c hc
         rw [e] at hs
         rw [hs] at h0
         exact h0 ⟨Int.natCast_nonneg _, Y, h3⟩
       by_cases h4 : s + c < k
       · rw [if_pos ⟨h4, h3⟩, if_pos ⟨by omega, h3⟩]
       · rw [if_neg (fun q => h4 q.1), if_neg (by omega)]
     · rw [if_neg (fun q => h3 q.2), if_neg (fun q => h3 q.2)]
/-- The loop over the sequences makes the strategy at an information set. -/
theorem behN_all {t : zQ} (hv : Valid t) {p x : Int} (hx : x ∈ zJ t p) (W : Nat → Rat) : zHP (zY t p) W x (zA4 (zT t p x) 0) (zY t p).length = zE7 t p W x := by
 obtain ⟨s, b, h⟩ := zKX hv hx
 have hu := (zCo h.w1).1
 have hl : (zE7 t p W x).length = zT t p x := by
   unfold zE7
   split
   · rw [List.length_map, List.length_range]
   · exact hu
 refine List.ext_getElem (by rw [zG0, hu, hl]) (fun c h1 h2 => ?_)
 have hc : c < zT t p x := by omega
 rw [← zAC 0 h1, ← zAC 0 h2, zPu hv h W _ (Nat.le_refl _) c hc]
 have hf := h.fin
 by_cases h3 : 0 < W b
 · rw [if_pos ⟨by omega, h3⟩, behU_get h W h3 hc]
 · rw [if_neg (fun q => h3 q.2)]
   unfold zE7
   rw [h.start, h.bef, if_neg h3]
theorem behU_D {t : zQ} (hv : Valid t) {p x : Int} {W : Nat → Rat} {K : Nat} (hK : 1 ≤ K) (hW : ∀ k, D K (W k)) (hx : x ∈ zJ t p) : (zE7 t p W x).length = zT t p x ∧ ∀ q ∈ zE7 t p W x, D (K + K) q := by
 obtain ⟨s, b, h⟩ := zKX hv hx
 have hu := zCo h.w1
 unfold zE7
 split
 · rename_i hb
   refine ⟨by rw [List.length_map, List.length_range], fun q hq => ?_⟩
   obtain ⟨c, _, rfl⟩ := List.mem_map.1 hq
   exact (hW _).div (hW _) (fun e => by rw [e] at hb; exact absurd hb (by decide +kernel))
 · exact ⟨hu.1, fun q hq => (hu.2.2 q hq).2.mono (by omega)⟩
theorem zO9 {w : Nat} : (zEF (fun _ => 0) w w).set 0 (some 1) = (zA4 w 0).map some := by
 rw [zLd]
 unfold zA4
 rw [← List.map_set]
 refine congrArg (fun z => List.map some (List.set z 0 1)) ?_
 exact List.map_const' .. |>.trans (by rw [List.length_range])
theorem stepB_no {sq : List RSeq} {W : Nat → Rat} {x : Int} {k : Nat} {o : List Rat} (h : ¬ (0 ≤ (sq.getD k seq0).before ∧ (sq.getD k seq0).info = x ∧ 0 < W (sq.getD k seq0).before.toNat)) : zKx sq W x k o = o := if_neg h
theorem zQw {sq : List RSeq} {W : Nat → Rat} {x : Int} {k b c : Nat} {o : List Rat} (h : sq.getD k seq0 = ⟨x, (c : Int), (b : Int)⟩) (hb : 0 < W b) : zKx sq W x k o = o.set c (W k / W b) := by
 unfold zKx
 rw [h]
 exact if_pos ⟨Int.natCast_nonneg _, Y, hb⟩
end Go.Ax.Rt
namespace Go.Proofs.YtnkealfaldjipaaGreatDoor
open Go.Ax Go.Ax.Bg Go.Ax.Rt Go.RowKit Go.Ax.Idx Go.Ax.Cd
attribute [local irreducible] Ax zBE QOp zV zAz
set_option maxRecDepth 100000
set_option maxHeartbeats 4000000
theorem seqs_ok {t : zQ} (hv : Valid t) (p : Int) : SeqOk (zJ t p) (zY t p) := by
 refine ⟨fun i hi h0 => ?_, fun i hi h0 => ?_⟩ <;>
 · rcases Nat.eq_zero_or_pos i with e | e
   · subst e
     rw [(zAv hv p).2.1] at h0
     exact absurd h0 (by decide)
   · obtain ⟨x, b, y0, y1, y2, y3, y4, y5, y6, y7⟩ := zHo hv e hi
     have h2 := y7 (i - x.2) (by omega)
     rw [show x.2 + (i - x.2) = i by omega] at h2
     rw [h2]
     first
       | exact y1
       | (show ((b : Nat) : Int) < (i : Int); omega)
theorem posI_eqp (t : zQ) (p : Int) : zJt t p = fun x => (zJ t p).findIdx (eqp x) := by
 funext x
 unfold zJt
 refine congrArg (fun f => (zJ t p).findIdx f) (funext fun y => ?_)
 unfold eqp
 exact decide_eq_decide.2 ⟨Eq.symm, Eq.symm⟩
def mkF (t : zQ) (p : Int) (k : Nat) (a : CPlan) : Bool := zCI (zJt t p) a.choices (zY t p) (zY t p).length k
theorem zLs (t : zQ) (p : Int) (l : zB2) (k : Nat) : zCt t p l k = zJW (mkF t p k) l l.length := by
 rw [sumW_all]; rfl
theorem zL4 {t : zQ} {p : Int} {l : zB2} (h1 : zC6 t p l = 0) (h2 : zBL t p = true) : behR t p l = if (zJ t p).all (fun x => (zE7 t p (zCt t p l) x).all zBP) then (behS t p (zCt t p l), 0) else ([], 2) := by
 unfold behR
 rw [if_neg (fun q => q h1), if_pos h2]
theorem zFH (l : zAL) (n : Nat) : zA2 n (zm l) := by
 intro i j _ hj
 have hj : j < 2 := hj
 show zC1 n ((cellsC (l.getD i ch0)).getD j .any) = true
 match j, hj with
 | 0, _ => rfl
 | 1, _ => rfl
theorem sgn_gt (q : Rat) : decide (0 < sgn q.num) = decide (0 < q) := by
 rw [Bool.eq_iff_iff, decide_eq_true_eq, decide_eq_true_eq]
 have h1 : 0 < sgn q.num ↔ 0 < q.num := by
   unfold sgn
   split
   · rename_i h; simp; omega
   · split
     · rename_i h; simp; omega
     · rename_i h1 h2; simp; omega
 rw [h1, Rat.lt_iff]
 show _ ↔ (0 : Int) * (q.den : Int) < q.num * 1
 omega
theorem zRR (t : zQ) (p : Int) (l : zB2) (hT : ShortT t) (hl : ShortX l) : zX Tryz.prog 36 [.ro (zc t) 0 t.length, .int .i64 p, .ro (mxC l) 0 l.length] (.tup [.ro (zm (behR t p l).1) 0 (behR t p l).1.length, .int .i64 (behR t p l).2]) := by
 have c1 := zHB t p l hT hl
 have hll := hl.len
 refine zV.value0 (zG (P := Tryz.prog) (fn := Tryz.f36) Y Y (by kernel_rfl) Y (fun c hR hfix => ?_)) (fix := fun _ => False) (fun _ h => h) Y Y
 by_cases h1 : zC6 t p l = 0
 case neg =>
   unfold behR at hR
   rw [if_pos h1] at hR
   generalize zC6 t p l = e at *
   refine rn0 ?_
   refine zC Y Y Y c1 ?_
   refine rn3 ?_
   rw [decide_eq_true (show ¬ e = 0 from h1)]
   repeat (first | refine zD (zH rfl) ?_ | refine zD (zL rfl) ?_ | refine zB ?_ | refine zA ?_ | refine zW ?_ | refine zK rfl ?_ | refine zAV rfl ?_)
   refine z7 6 (.ro (zm []) 0 0) Y AEq.nil ?_
   refine rn2 ?_
   exact zI hR Y Y
 obtain ⟨hpe, hO⟩ := zEb h1
 obtain ⟨hv, _⟩ := zCd hpe
 have c2 := zIe t p hT hv
 by_cases h2 : zBL t p = true
 case neg =>
   unfold behR at hR
   rw [if_neg (fun q => q h1), if_neg h2] at hR
   rw [show zBL t p = false by simpa using h2] at c2
   rw [h1] at c1
   refine rn0 ?_
   refine zC Y Y Y c1 ?_
   refine rn4 ?_
   refine zC Y Y Y c2 ?_
   repeat (first | refine zD (zL rfl) ?_ | refine zB ?_ | refine zA ?_ | refine zW ?_ | refine zK rfl ?_ | refine zAV rfl ?_ | refine zD (zEE rfl) ?_)
   refine z7 6 (.ro (zm []) 0 0) Y AEq.nil ?_
   refine rn2 ?_
   exact zI hR Y Y
 rw [zL4 h1 h2] at hR
 rw [h2] at c2
 rw [h1] at c1
 have c3 := zIF t p hT.len
 have cof := of_ok t p hT hv
 have hsq := seqs_ok hv p
 have hpq := posI_eqp t p
 have hfew := zKn hv p
 have hn0 := (zAv hv p).2.2.1
 obtain ⟨hw1, hw2, hw3⟩ := hO.wgt
 have hwD : ∀ a ∈ l, D 2000 (zAT a.odds) := fun a ha => (hw1 a ha).2.2
 have hIl : (zJ t p).length ≤ 10 := by
   unfold zJ
   exact Nat.le_trans (List.length_filter_le _ _) (by simp)
 have hl128 : l.length ≤ 128 := by
   unfold zC6 at h1
   rw [if_neg (fun q => q hpe)] at h1
   by_cases q : 128 < l.length
   · rw [if_pos q] at h1; cases h1
   · omega
 have hsz : ∀ k, k < (zJ t p).length → (zz t p).getD k 0 = ((zT t p ((zJ t p).getD k 0) : Nat) : Int) := fun k hk => by unfold zz; rw [zBB _ _ 0 _ _ hk]
 have hzl : (zz t p).length = (zJ t p).length := by unfold zz; exact List.length_map _
 have hwd : ∀ x ∈ zJ t p, 1 ≤ zT t p x ∧ zT t p x ≤ 6 := fun x hx => by
   obtain ⟨s, b, g⟩ := zKX hv hx
   exact ⟨g.w1, zIQ hv hx⟩
 have hbeh : ∀ x ∈ zJ t p, zHP (zY t p) (zCt t p l) x (zA4 (zT t p x) 0) (zY t p).length = zE7 t p (zCt t p l) x := fun x hx => behN_all hv hx _
 have hch : ∀ k, k < (zY t p).length → 0 ≤ ((zY t p).getD k seq0).before → 0 ≤ ((zY t p).getD k seq0).choice ∧ ((zY t p).getD k seq0).choice.toNat < zT t p ((zY t p).getD k seq0).info := fun k hk h0 => by
   obtain ⟨s, b, g⟩ := zKX hv (hsq.inf k hk h0)
   obtain ⟨g1, g2⟩ := zMv hv g hk h0 rfl
   have g3 := g.seqs (k - s) (by omega)
   rw [show s + (k - s) = k by omega] at g3
   have g4 : ((zY t p).getD k seq0).choice = ((k - s : Nat) : Int) := by rw [g3]
   rw [g4]
   omega
 have hbD : ∀ x ∈ zJ t p, (zE7 t p (zCt t p l) x).length = zT t p x ∧ ∀ q ∈ zE7 t p (zCt t p l) x, D (256129 + 256129) q := fun x hx => behU_D hv (by decide) (fun k => by
   rw [zLs t p l k]
   exact (zOk hwD (Nat.le_refl _)).mono (by omega)) hx
 have hbf := hsq.bef
 have hW : ∀ k, zCt t p l k = zJW (mkF t p k) l l.length := zLs t p l
 have hWD : ∀ k, D 256129 (zCt t p l k) := fun k => by
   rw [hW k]
   exact (zOk hwD (Nat.le_refl _)).mono (by omega)
 have hmk : ∀ a ∈ l, ∀ k, k < (zY t p).length → zX Tryz.prog 107 [.ro (.ints .i64 (zJ t p)) 0 (zJ t p).length, .ro (.ints .i64 a.choices) 0 a.choices.length, .ro (zBW (zY t p)) 0 (zY t p).length, .int .i64 (k : Nat)] (.bool (mkF t p k a)) := fun a ha k hk => by
   have := makes_ok (zJ t p) a.choices (zY t p) (zY t p).length k (by omega) (hO.len a ha) (by omega) hk hk hsq
   unfold mkF
   rw [hpq]
   exact this
 have hcl : ∀ a ∈ l, a.choices.length = (zJ t p).length := hO.len
 have hrE : ∀ a ∈ l, zDa a.odds = 0 := fun a ha => (hw1 a ha).1
 have hod := hl.od
 unfold behS at hR
 have hseqs : (zAM t p t.length).seqs = zY t p := rfl
 clear hO hpe h1 h2 hpq hw1 hw2 hw3 hsq hl hT hv
 refine rn0 ?_
 refine zC Y Y Y c1 ?_
 refine rn4 ?_
 refine zC Y Y Y c2 ?_
 refine rn5 ?_
 refine zC Y Y Y c3 ?_
 refine rn2 ?_
 refine zKI Y Y Y cof (fun h hh => absurd hh (Nat.not_lt_zero _)) (fun h hh => absurd hh id) ?_
 rintro r' H' ⟨rfl, rfl⟩
 repeat (first | refine zD (zL rfl) ?_ | refine zB ?_ | refine zA ?_ | refine zW ?_ | refine zD (zS rfl rfl rfl rfl rfl) ?_ | refine zD (zAk rfl) ?_ | refine zD (zO rfl rfl rfl rfl rfl rfl) ?_)
 refine zAU 0 11 (zY t p).length [(2, .ro (mxC l) 0 l.length), (9, .ro (.ints .i64 (zJ t p)) 0 (zJ t p).length), (10, .ro (.ints .i64 (zz t p)) 0 (zz t p).length)] Y (zH2 _) Y (by show (zAM t p t.length).seqs.length ≤ (zAM t p t.length).seqs.length; exact Nat.le_refl _) ⟨Y, Y, Y, trivial⟩ ?_
 refine zAb [] _ [(2, .ro (mxC l) 0 l.length), (9, .ro (.ints .i64 (zJ t p)) 0 (zJ t p).length), (10, .ro (.ints .i64 (zz t p)) 0 (zz t p).length), (11, .ro (zBW (zY t p)) 0 (zY t p).length)] Y ⟨Y, Y, Y, Y, trivial⟩ (fun h hh => by rw [hfix] at hh; exact absurd hh id) (fun h o ho => by simp at ho) Y ?_
 clear cof hseqs c1 c2 c3
 generalize zE7 t p (zCt t p l) = bu at *
 generalize zCt t p l = W at *
 generalize mkF t p = mk at *
 generalize zT t p = wd at *
 generalize zJ t p = I at *
 generalize zz t p = Z at *
 generalize zY t p = sq at *
 refine rn3 ?_
 refine zB6 Y Y Y Y Y Y Y Y (by show (0 : Int) ≤ _ ∧ _ ≤ _ ∧ (56 : Int) * _ ≤ _ ∧ _; omega) ?_
 refine zAp [some ⟨122, zsC (List.replicate sq.length none)⟩] (z6.eqv (zJa _) z6.nil) ?_
 rw [← zKe W sq.length]
 refine rn3 ?_
 refine zi (ι := Nat) (fun i => [(2, .ro (mxC l) 0 l.length), (9, .ro (.ints .i64 I) 0 I.length), (10, .ro (.ints .i64 Z) 0 Z.length), (11, .ro (zBW sq) 0 sq.length), (12, .sl 0 0 sq.length), (52, .int .i64 (sq.length : Nat)), (53, .int .i64 (i : Nat))]) (fun i => [some ⟨122, zsC (zEF W sq.length i)⟩])
   (fun i => i ≤ sq.length) (fun i => sq.length - i) 0 ⟨⟨rfl, rfl, rfl, rfl, rfl, rfl, rfl, trivial⟩, rfl, Nat.zero_le _⟩ ?_
 intro i hi
 refine rn4 ?_
 refine zE Y (fun h => ?_) (fun h => ?_)
 · have hi' : i < sq.length := by omega
   have hps := zLj W hi'
   have hWi := hW i
   have hpl := zCu W sq.length i
   have hmki := fun a ha => hmk a ha i hi'
   have hsuc := fun k (hk : k < l.length) => zQh (q := mk i) hk
   have hsD := fun k (hk : k ≤ l.length) => zOk (q := mk i) hwD hk
   have h00 : zJW (mk i) l 0 = 0 := rfl
   generalize hA2 : zEF W sq.length (i + 1) = A2 at *
   generalize zEF W sq.length i = A at *
   generalize hSW : zJW (mk i) l = SW at *
   have hiA : i < (zsC A).len := by show i < A.length; omega
   refine rn1 ?_
   refine zC Y Y Y zFC ?_
   unfold qA
   repeat (refine zD (zb rfl rfl rfl rfl rfl (by first | (simp only [Nat.zero_add, Int.toNat_natCast, Int.toNat_zero]; exact rfl) | exact rfl) (by omega)) ?_)
   refine zP (c' := zsC (A.set i (some 0))) Y Y Y Y Y hiA (by show (List.set _ _ _).length = A.length; simp) Y (fun i' j' hi' hj' => zCY none 3 zBS A i (some 0) hiA i' j' hi' hj') ?_
   refine rn3 ?_
   rw [← h00]
   refine zi (ι := Nat) (fun k => [(2, .ro (mxC l) 0 l.length), (9, .ro (.ints .i64 I) 0 I.length), (10, .ro (.ints .i64 Z) 0 Z.length), (11, .ro (zBW sq) 0 sq.length), (12, .sl 0 0 sq.length), (52, .int .i64 (sq.length : Nat)), (53, .int .i64 (i : Nat)), (13, .int .i64 (i : Nat)), (60, .ro (mxC l) 0 l.length), (61, .int .i64 (l.length : Nat)), (62, .int .i64 (k : Nat))]) (fun k => [some ⟨122, zsC (A.set i (some (SW k)))⟩])
     (fun k => k ≤ l.length) (fun k => l.length - k) 0 ⟨⟨rfl, rfl, rfl, rfl, rfl, rfl, rfl, rfl, rfl, rfl, rfl, trivial⟩, rfl, Nat.zero_le _⟩ ?_
   intro k hk
   refine rn4 ?_
   refine zE Y (fun h5 => ?_) (fun h5 => ?_)
   · have hk' : k < l.length := by omega
     have hal : l.getD k cp0 ∈ l := zAP cp0 hk'
     have hsk := hsuc k hk'
     have hD1 := hsD k hk
     have hme := hmki _ hal
     have hcc := hcl _ hal
     have hre := hrE _ hal
     have hoo := hod _ hal
     have hoD := hwD _ hal
     generalize hS2 : SW (k + 1) = S2 at *
     generalize hSk : SW k = S1 at *
     have hB2 : ∀ v, (A.set i (some S1)).set i (some v) = A.set i (some v) := fun v => List.set_set ..
     have hBi : (A.set i (some S1)).getD i none = some S1 := by rw [Go.Ax.Dt.getD_set, if_pos (show i = i ∧ i < A.length from ⟨rfl, hiA⟩)]
     have hBl : i < (zsC (A.set i (some S1))).len := by show i < (A.set i (some S1)).length; rw [List.length_set]; exact hiA
     generalize hB : A.set i (some S1) = B at *
     refine rn6 ?_
     refine zN 65 (.agg (zDN (l.getD k cp0))) Y (AEq.of_eq Y) ?_
     generalize l.getD k cp0 = a at *
     obtain ⟨cs, od⟩ := a
     simp only at *
     refine zP (c' := .box [.ro (.ints .i64 cs) 0 cs.length, .str od]) Y Y Y Y Y Nat.zero_lt_one Y Y (fun i' j' hi' hj' => ?_) ?_
     · rw [if_pos (Nat.lt_one_iff.1 hi')]; rfl
     refine zAf [some ⟨122, zsC B⟩, some ⟨75, .box [.ro (.ints .i64 cs) 0 cs.length, .str od]⟩] Y ?_
     cases hb : mk i ⟨cs, od⟩ with
     | false =>
       rw [hb] at hme hsk
       rw [if_neg (by decide)] at hsk
       refine rn5 ?_
       refine zC Y Y Y hme ?_
       repeat (refine zB ?_)
       refine zA ?_
       repeat (first | refine zx rfl ?_ | refine zd ?_ | refine zk ?_)
       refine zA ?_
       refine zAb [some ⟨122, zsC B⟩] [some ⟨75, .box [.ro (.ints .i64 cs) 0 cs.length, .str od]⟩] [(2, .ro (mxC l) 0 l.length), (9, .ro (.ints .i64 I) 0 I.length), (10, .ro (.ints .i64 Z) 0 Z.length), (11, .ro (zBW sq) 0 sq.length), (12, .sl 0 0 sq.length), (52, .int .i64 (sq.length : Nat)), (53, .int .i64 (i : Nat)), (13, .int .i64 (i : Nat)), (60, .ro (mxC l) 0 l.length), (61, .int .i64 (l.length : Nat)), (62, .int .i64 (k : Nat))] Y ⟨Y, Y, Y, Y, Y, Y, Y, Y, Y, Y, Y, trivial⟩ (fun h hh => by rw [hfix] at hh; exact absurd hh id) (zBs (zD8 _ _)) Y ?_
       refine rn3 ?_
       exact zM ⟨k + 1, by omega, by omega, ⟨Y, Y, Y, Y, Y, Y, Y, Y, Y, Y, Y, trivial⟩, by rw [hS2, hsk, hB]⟩
     | true =>
       rw [hb] at hme hsk
       rw [if_pos rfl] at hsk
       have cpar := zE0 od hoo hre
       have cadd : zX Tryz.prog 91 [.agg [(zBS (B.getD i none)).getD 0 .any, (zBS (B.getD i none)).getD 1 .any, (zBS (B.getD i none)).getD 2 .any], qA (zAT od)] (qA S2) := by
         rw [hBi, hsk]
         exact zGA S1 (zAT od) (zCw (hD1.mono (show 1 + k * 2001 ≤ 9 * 100000 by omega))) (zCw (hoD.mono (by decide)))
       refine rn5 ?_
       refine zC Y Y Y hme ?_
       refine rn5 ?_
       refine zl (by kernel_rfl) ?_
       refine zt (fuel := 1) [0, 1, 2, 3, 4, 5, 6, 7, 8, 9, 10] [(2, .ro (mxC l) 0 l.length), (9, .ro (.ints .i64 I) 0 I.length), (10, .ro (.ints .i64 Z) 0 Z.length), (11, .ro (zBW sq) 0 sq.length), (12, .sl 0 0 sq.length), (52, .int .i64 (sq.length : Nat)), (53, .int .i64 (i : Nat)), (13, .int .i64 (i : Nat)), (60, .ro (mxC l) 0 l.length), (61, .int .i64 (l.length : Nat)), (62, .int .i64 (k : Nat)), (15, .ptr 1 0 0)] ⟨Y, Y, Y, Y, Y, Y, Y, Y, Y, Y, Y, Y, trivial⟩ (by kernel_rfl) (by decide) Y Y ?_
       refine zU Y Y (zH Y) ?_
       refine zU Y Y (zH Y) ?_
       refine zU Y Y (zH Y) ?_
       refine zU Y Y (zH Y) ?_
       refine zU Y Y (zb Y Y Y Y Y (by first | (simp only [Nat.zero_add, Int.toNat_natCast, Int.toNat_zero]; exact Y) | exact Y) (by omega)) ?_
       refine zU Y Y (zq Y Y Y Y Y Y Y (by first | exact Nat.zero_lt_one | assumption | omega)) ?_
       refine zU Y Y (zO Y Y Y Y Y Y) ?_
       refine zU Y Y (zS Y Y Y Y Y) ?_
       refine zBc Y Y Y Y Y cpar ?_
       refine zBc Y Y Y Y Y cadd ?_
       refine zU Y Y (zb Y Y Y Y Y (by first | (simp only [Nat.zero_add, Int.toNat_natCast, Int.toNat_zero]; exact Y) | exact Y) (by omega)) ?_
       refine zAc ?_
       refine zF (is := [11]) (by kernel_rfl) (by simp) Y ⟨fun o ho => ?_, trivial⟩
       all_goals (cases ho)
       skip
       unfold qA
       refine zP (c' := zsC (B.set i (some S2))) Y Y Y Y Y hBl (by show (List.set _ _ _).length = B.length; simp) Y (fun i' j' hi' hj' => zCY none 3 zBS B i (some S2) hBl i' j' hi' hj') ?_
       refine rn1 ?_
       refine zh (by kernel_rfl) ?_
       repeat (refine zd ?_)
       refine zA ?_
       refine zAb [some ⟨122, zsC (B.set i (some S2))⟩] [some ⟨75, .box [.ro (.ints .i64 cs) 0 cs.length, .str od]⟩] [(2, .ro (mxC l) 0 l.length), (9, .ro (.ints .i64 I) 0 I.length), (10, .ro (.ints .i64 Z) 0 Z.length), (11, .ro (zBW sq) 0 sq.length), (12, .sl 0 0 sq.length), (52, .int .i64 (sq.length : Nat)), (53, .int .i64 (i : Nat)), (13, .int .i64 (i : Nat)), (60, .ro (mxC l) 0 l.length), (61, .int .i64 (l.length : Nat)), (62, .int .i64 (k : Nat))] Y ⟨Y, Y, Y, Y, Y, Y, Y, Y, Y, Y, Y, trivial⟩ (fun h hh => by rw [hfix] at hh; exact absurd hh id) (zBs (zD8 _ _)) Y ?_
       refine rn3 ?_
       exact zM ⟨k + 1, by omega, by omega, ⟨Y, Y, Y, Y, Y, Y, Y, Y, Y, Y, Y, trivial⟩, by rw [hS2, hB2]⟩
   · have hke : k = l.length := by omega
     subst hke
     rw [← hWi, hps]
     refine rn5 ?_
     exact zM ⟨i + 1, by omega, by omega, ⟨Y, Y, Y, Y, Y, Y, Y, trivial⟩, by rw [hA2]⟩
 · have hie : i = sq.length := by omega
   subst hie
   rw [zLd]
   have hPl : ((List.range sq.length).map W).length = sq.length := by rw [List.length_map, List.length_range]
   have hPW : ∀ k, k < sq.length → ((List.range sq.length).map W).getD k 0 = W k := fun k hk => by
     rw [zBB _ _ 0 0 k (by rw [List.length_range]; exact hk), zAC 0 (by rw [List.length_range]; exact hk), List.getElem_range]
   generalize (List.range sq.length).map W = P at *
   repeat (first | refine zA ?_ | refine zW ?_ | refine zAj ?_ | refine zp ?_ | refine zo ?_ | refine zAB ?_)
   refine zBg [some ⟨122, qsC P⟩] (z6.eqv (zMk _) z6.nil) ?_
   refine zAU 0 12 sq.length [(9, .ro (.ints .i64 I) 0 I.length), (10, .ro (.ints .i64 Z) 0 Z.length), (11, .ro (zBW sq) 0 sq.length)] Y (zEo _) Y (by show sq.length ≤ P.length; omega) ⟨Y, Y, Y, trivial⟩ ?_
   refine zDv (H1 := []) Y (by rw [hfix]; exact fun h => h) ?_
   repeat (first | refine zD (zH rfl) ?_ | refine zD (zL rfl) ?_ | refine zB ?_ | refine zA ?_ | refine zW ?_ | refine zK rfl ?_ | refine zD (zA6 rfl rfl rfl) ?_)
   refine zA5 16 ⟨67, zm []⟩ Y Y ?_
   repeat (refine zw ?_)
   refine zi (ι := Nat) (fun k => [(9, .ro (.ints .i64 I) 0 I.length), (10, .ro (.ints .i64 Z) 0 Z.length), (11, .ro (zBW sq) 0 sq.length), (12, .ro (qsC P) 0 sq.length), (16, .sl 0 0 k), (85, .ro (.ints .i64 I) 0 I.length), (86, .int .i64 (I.length : Nat)), (87, .int .i64 (k : Nat))]) (fun k => [some ⟨67, zm ((I.take k).map (fun x => ⟨x, (bu x).map zAG⟩))⟩])
     (fun k => k ≤ I.length ∧ (I.take k).all (fun x => (bu x).all zBP) = true) (fun k => I.length - k) 0 ⟨⟨rfl, rfl, rfl, rfl, rfl, rfl, rfl, rfl, trivial⟩, rfl, Nat.zero_le _, rfl⟩ ?_
   rintro k ⟨hk, hfit⟩
   refine rn4 ?_
   refine zE Y (fun h => ?_) (fun h => ?_)
   · have hk' : k < I.length := by omega
     have hkz : k < Z.length := by omega
     have hxI : I.getD k 0 ∈ I := zAP 0 hk'
     have hszk := hsz k hk'
     obtain ⟨hw1, hw6⟩ := hwd _ hxI
     have hbx := hbeh _ hxI
     obtain ⟨hbl, hbd⟩ := hbD _ hxI
     have htk : (I.take (k + 1)).map (fun x => (⟨x, (bu x).map zAG⟩ : TChoice)) = (I.take k).map (fun x => ⟨x, (bu x).map zAG⟩) ++ [⟨I.getD k 0, (bu (I.getD k 0)).map zAG⟩] := by
       rw [List.take_succ_eq_append_getElem hk', List.map_append, ← zAC 0 hk']; rfl
     have hfk : (I.take (k + 1)).all (fun x => (bu x).all zBP) = (bu (I.getD k 0)).all zBP := by
       rw [List.take_succ_eq_append_getElem hk', List.all_append, hfit, ← zAC 0 hk', Bool.true_and]
       show ((bu (I.getD k 0)).all zBP && true) = _
       rw [Bool.and_true]
     have hml : ((I.take k).map (fun x => (⟨x, (bu x).map zAG⟩ : TChoice))).length = k := by rw [List.length_map, List.length_take]; omega
     have hbad : (bu (I.getD k 0)).all zBP = false → I.all (fun x => (bu x).all zBP) = false := fun hf => by
       cases hq : I.all (fun x => (bu x).all zBP)
       · rfl
       · rw [List.all_eq_true] at hq
         have := hq _ hxI
         rw [hf] at this; cases this
     generalize hO2 : (I.take (k + 1)).map (fun x => (⟨x, (bu x).map zAG⟩ : TChoice)) = O2 at *
     generalize (I.take k).map (fun x => (⟨x, (bu x).map zAG⟩ : TChoice)) = O at *
     refine rn6 ?_
     generalize I.getD k 0 = x at *
     generalize hwx : wd x = w at *
     generalize bu x = bx at *
     refine zN 95 (.int .i64 (w : Nat)) Y (AEq.of_eq (by rw [hszk])) ?_
     refine zB6 Y Y Y Y Y Y Y Y (by show (0 : Int) ≤ _ ∧ _ ≤ _ ∧ (56 : Int) * _ ≤ _ ∧ _; omega) ?_
     refine zAp [some ⟨67, zm O⟩, some ⟨122, zsC (List.replicate w none)⟩] (z6.eqv (CEq.refl _) (z6.eqv (zJa _) z6.nil)) ?_
     rw [← zKe (fun _ => 0) w]
     refine rn3 ?_
     refine zi (ι := Nat) (fun c => [(9, .ro (.ints .i64 I) 0 I.length), (10, .ro (.ints .i64 Z) 0 Z.length), (11, .ro (zBW sq) 0 sq.length), (12, .ro (qsC P) 0 sq.length), (16, .sl 0 0 k), (85, .ro (.ints .i64 I) 0 I.length), (86, .int .i64 (I.length : Nat)), (87, .int .i64 (k : Nat)), (18, .int .i64 x), (19, .sl 1 0 w), (98, .int .i64 (w : Nat)), (99, .int .i64 (c : Nat))]) (fun c => [some ⟨67, zm O⟩, some ⟨122, zsC (zEF (fun _ => 0) w c)⟩])
       (fun c => c ≤ w) (fun c => w - c) 0 ⟨⟨rfl, rfl, rfl, rfl, rfl, rfl, rfl, rfl, rfl, rfl, rfl, rfl, trivial⟩, rfl, Nat.zero_le _⟩ ?_
     intro c hc
     refine rn4 ?_
     refine zE Y (fun h5 => ?_) (fun h5 => ?_)
     · have hc' : c < w := by omega
       have hps := zLj (fun _ => 0) hc'
       have hpl := zCu (fun _ => 0) w c
       generalize hA2 : zEF (fun _ => 0) w (c + 1) = A2 at *
       generalize zEF (fun _ => 0) w c = A at *
       have hcA : c < (zsC A).len := by show c < A.length; omega
       refine rn1 ?_
       refine zC Y Y Y zFC ?_
       unfold qA
       repeat (refine zD (zb rfl rfl rfl rfl rfl (by first | (simp only [Nat.zero_add, Int.toNat_natCast, Int.toNat_zero]; exact rfl) | exact rfl) (by omega)) ?_)
       refine zP (c' := zsC (A.set c (some 0))) Y Y Y Y Y hcA (by show (List.set _ _ _).length = A.length; simp) Y (fun i' j' hi' hj' => zCY none 3 zBS A c (some 0) hcA i' j' hi' hj') ?_
       refine rn5 ?_
       exact zM ⟨c + 1, by omega, by omega, ⟨Y, Y, Y, Y, Y, Y, Y, Y, Y, Y, Y, Y, trivial⟩, by rw [hA2, ← hps]; rfl⟩
     · have hce : c = w := by omega
       subst hce
       have hun := zO9 (w := c)
       have hpl := zCu (fun _ => 0) c c
       generalize zEF (fun _ => 0) c c = A at *
       have hcA : 0 < (zsC A).len := by show 0 < A.length; omega
       refine rn5 ?_
       refine zC Y Y Y zKk ?_
       unfold qA
       repeat (refine zD (zb rfl rfl rfl rfl rfl (by first | (simp only [Nat.zero_add, Int.toNat_natCast, Int.toNat_zero]; exact rfl) | exact rfl) (by omega)) ?_)
       refine zP (c' := zsC (A.set 0 (some 1))) Y Y Y Y Y hcA (by show (List.set _ _ _).length = A.length; simp) Y (fun i' j' hi' hj' => zCY none 3 zBS A 0 (some 1) hcA i' j' hi' hj') ?_
       rw [hun]
       refine rn3 ?_
       refine zBb [some ⟨67, zm O⟩, some ⟨122, zsC ((zHP sq W x (zA4 c 0) 0).map some)⟩] Y ?_
       refine zi (ι := Nat) (fun j => [(9, .ro (.ints .i64 I) 0 I.length), (10, .ro (.ints .i64 Z) 0 Z.length), (11, .ro (zBW sq) 0 sq.length), (12, .ro (qsC P) 0 sq.length), (16, .sl 0 0 k), (85, .ro (.ints .i64 I) 0 I.length), (86, .int .i64 (I.length : Nat)), (87, .int .i64 (k : Nat)), (18, .int .i64 x), (19, .sl 1 0 c), (110, .ro (zBW sq) 0 sq.length), (111, .int .i64 (sq.length : Nat)), (112, .int .i64 (j : Nat))]) (fun j => [some ⟨67, zm O⟩, some ⟨122, zsC ((zHP sq W x (zA4 c 0) j).map some)⟩])
         (fun j => j ≤ sq.length) (fun j => sq.length - j) 0 ⟨⟨rfl, rfl, rfl, rfl, rfl, rfl, rfl, rfl, rfl, rfl, rfl, rfl, rfl, trivial⟩, rfl, Nat.zero_le _⟩ ?_
       intro j hj
       refine rn4 ?_
       refine zE Y (fun h6 => ?_) (fun h6 => ?_)
       · have hj' : j < sq.length := by omega
         have hno := stepB_no (sq := sq) (W := W) (x := x) (k := j) (o := zHP sq W x (zA4 c 0) j)
         have hyes := fun b ch => zQw (sq := sq) (W := W) (x := x) (k := j) (b := b) (c := ch) (o := zHP sq W x (zA4 c 0) j)
         have hst : zHP sq W x (zA4 c 0) (j + 1) = zKx sq W x j (zHP sq W x (zA4 c 0) j) := rfl
         have hbl8 := zG0 sq W x (zA4 c 0) j
         rw [(zCo (c := 0) (by omega)).1] at hbl8
         have hchj := hch j hj'
         have hbfj := hbf j hj'
         rw [← hst] at hno hyes
         clear hst
         generalize hB2 : zHP sq W x (zA4 c 0) (j + 1) = B2 at *
         generalize zHP sq W x (zA4 c 0) j = B at *
         refine rn6 ?_
         refine zN 116 (.agg (zFV (sq.getD j seq0))) Y (AEq.of_eq Y) ?_
         generalize sq.getD j seq0 = y at *
         obtain ⟨nf, ch, bf⟩ := y
         simp only at *
         refine zP (c' := .box [.int .i64 nf, .int .i64 ch, .int .i64 bf]) Y Y Y Y Y Nat.zero_lt_one Y Y (fun i' j' hi' hj' => ?_) ?_
         · rw [if_pos (Nat.lt_one_iff.1 hi')]; rfl
         refine zAf [some ⟨67, zm O⟩, some ⟨122, zsC (B.map some)⟩, some ⟨174, .box [.int .i64 nf, .int .i64 ch, .int .i64 bf]⟩] Y ?_
         repeat (first | refine zD (zH rfl) ?_ | refine zB ?_ | refine zA ?_ | refine zW ?_ | refine zK rfl ?_ | refine zD (zS rfl rfl rfl rfl rfl) ?_ | refine zD (zCr rfl rfl) ?_ | refine zD (zO rfl rfl rfl rfl rfl rfl) ?_)
         by_cases g1 : 0 ≤ bf
         case neg =>
           rw [decide_eq_false g1]
           have hno := hno (fun q => g1 q.1)
           repeat (first | refine zD (zH rfl) ?_ | refine zB ?_ | refine zAo rfl rfl rfl ?_ | refine zD (zAg rfl rfl) ?_)
           refine zA ?_
           repeat (first | refine zx rfl ?_ | refine zd ?_ | refine zk ?_)
           refine zA ?_
           refine zAb [some ⟨67, zm O⟩, some ⟨122, zsC (B.map some)⟩] [some ⟨174, .box [.int .i64 nf, .int .i64 ch, .int .i64 bf]⟩] [(9, .ro (.ints .i64 I) 0 I.length), (10, .ro (.ints .i64 Z) 0 Z.length), (11, .ro (zBW sq) 0 sq.length), (12, .ro (qsC P) 0 sq.length), (16, .sl 0 0 k), (85, .ro (.ints .i64 I) 0 I.length), (86, .int .i64 (I.length : Nat)), (87, .int .i64 (k : Nat)), (18, .int .i64 x), (19, .sl 1 0 c), (110, .ro (zBW sq) 0 sq.length), (111, .int .i64 (sq.length : Nat)), (112, .int .i64 (j : Nat))] Y ⟨Y, Y, Y, Y, Y, Y, Y, Y, Y, Y, Y, Y, Y, trivial⟩ (fun h hh => by rw [hfix] at hh; exact absurd hh id) (zJl (zFH _ _) (zD8 _ _)) Y ?_
           refine rn3 ?_
           exact zM ⟨j + 1, by omega, by omega, ⟨Y, Y, Y, Y, Y, Y, Y, Y, Y, Y, Y, Y, Y, trivial⟩, by rw [hB2, hno]⟩
         rw [decide_eq_true g1]
         refine rn5 ?_
         by_cases g2 : nf = x
         case neg =>
           rw [decide_eq_false g2]
           have hno := hno (fun q => g2 q.2.1)
           repeat (first | refine zB ?_ | refine zAo rfl rfl rfl ?_ | refine zD (zAg rfl rfl) ?_)
           refine zA ?_
           repeat (first | refine zx rfl ?_ | refine zd ?_ | refine zk ?_)
           refine zA ?_
           refine zAb [some ⟨67, zm O⟩, some ⟨122, zsC (B.map some)⟩] [some ⟨174, .box [.int .i64 nf, .int .i64 ch, .int .i64 bf]⟩] [(9, .ro (.ints .i64 I) 0 I.length), (10, .ro (.ints .i64 Z) 0 Z.length), (11, .ro (zBW sq) 0 sq.length), (12, .ro (qsC P) 0 sq.length), (16, .sl 0 0 k), (85, .ro (.ints .i64 I) 0 I.length), (86, .int .i64 (I.length : Nat)), (87, .int .i64 (k : Nat)), (18, .int .i64 x), (19, .sl 1 0 c), (110, .ro (zBW sq) 0 sq.length), (111, .int .i64 (sq.length : Nat)), (112, .int .i64 (j : Nat))] Y ⟨Y, Y, Y, Y, Y, Y, Y, Y, Y, Y, Y, Y, Y, trivial⟩ (fun h hh => by rw [hfix] at hh; exact absurd hh id) (zJl (zFH _ _) (zD8 _ _)) Y ?_
           refine rn3 ?_
           exact zM ⟨j + 1, by omega, by omega, ⟨Y, Y, Y, Y, Y, Y, Y, Y, Y, Y, Y, Y, Y, trivial⟩, by rw [hB2, hno]⟩
         subst g2
         rw [decide_eq_true rfl]
         obtain ⟨b, rfl⟩ := Int.eq_ofNat_of_zero_le g1
         have hbj : b < sq.length := by have := hbfj g1; omega
         obtain ⟨hc0, hc1⟩ := hchj g1
         obtain ⟨cc, rfl⟩ := Int.eq_ofNat_of_zero_le hc0
         rw [Int.toNat_natCast, hwx] at hc1
         have hPj := hPW j hj'
         have hPb := hPW b hbj
         have cS := zNs (P.getD b 0)
         have gjP : j < P.length := by omega
         have gbP : b < P.length := by omega
         refine rn6 ?_
         refine zC Y Y Y cS ?_
         refine rn6 ?_
         rw [sgn_gt, hPb]
         by_cases g3 : 0 < W b
         case neg =>
           rw [decide_eq_false g3]
           have hno := hno (fun q => g3 q.2.2)
           repeat (first | refine zx rfl ?_ | refine zd ?_ | refine zk ?_)
           refine zA ?_
           refine zAb [some ⟨67, zm O⟩, some ⟨122, zsC (B.map some)⟩] [some ⟨174, .box [.int .i64 nf, .int .i64 (cc : Nat), .int .i64 (b : Nat)]⟩] [(9, .ro (.ints .i64 I) 0 I.length), (10, .ro (.ints .i64 Z) 0 Z.length), (11, .ro (zBW sq) 0 sq.length), (12, .ro (qsC P) 0 sq.length), (16, .sl 0 0 k), (85, .ro (.ints .i64 I) 0 I.length), (86, .int .i64 (I.length : Nat)), (87, .int .i64 (k : Nat)), (18, .int .i64 nf), (19, .sl 1 0 c), (110, .ro (zBW sq) 0 sq.length), (111, .int .i64 (sq.length : Nat)), (112, .int .i64 (j : Nat))] Y ⟨Y, Y, Y, Y, Y, Y, Y, Y, Y, Y, Y, Y, Y, trivial⟩ (fun h hh => by rw [hfix] at hh; exact absurd hh id) (zJl (zFH _ _) (zD8 _ _)) Y ?_
           refine rn3 ?_
           exact zM ⟨j + 1, by omega, by omega, ⟨Y, Y, Y, Y, Y, Y, Y, Y, Y, Y, Y, Y, Y, trivial⟩, by rw [hB2, hno]⟩
         rw [decide_eq_true g3]
         have hyes := hyes b cc rfl g3
         have cdiv : zX Tryz.prog 108 [qA (P.getD j 0), qA (P.getD b 0)] (qA (W j / W b)) := by
           rw [hPj, hPb]
           exact qdiv_ok (W j) (W b) (zCw ((hWD j).mono (by decide))) (zCw ((hWD b).mono (by decide))) (fun e => by rw [e] at g3; exact absurd g3 (by decide +kernel))
         have hcB : cc < (zsC (B.map some)).len := by show cc < (B.map some).length; rw [List.length_map]; omega
         generalize W j / W b = v at *
         repeat (refine zAV rfl ?_)
         refine zl (by kernel_rfl) ?_
         refine zt (fuel := 1) [0, 1, 2, 3, 4, 5, 6, 7, 8, 9, 10, 11, 12, 13] [(9, .ro (.ints .i64 I) 0 I.length), (10, .ro (.ints .i64 Z) 0 Z.length), (11, .ro (zBW sq) 0 sq.length), (12, .ro (qsC P) 0 sq.length), (16, .sl 0 0 k), (85, .ro (.ints .i64 I) 0 I.length), (86, .int .i64 (I.length : Nat)), (87, .int .i64 (k : Nat)), (18, .int .i64 nf), (19, .sl 1 0 c), (110, .ro (zBW sq) 0 sq.length), (111, .int .i64 (sq.length : Nat)), (112, .int .i64 (j : Nat)), (21, .int .i64 (j : Nat)), (22, .ptr 2 0 0)] ⟨Y, Y, Y, Y, Y, Y, Y, Y, Y, Y, Y, Y, Y, Y, Y, trivial⟩ (by kernel_rfl) (by decide) Y Y ?_
         refine zU Y Y (zH Y) ?_
         refine zU Y Y (zO Y Y Y Y Y Y) ?_
         refine zU Y Y (zS Y Y Y Y Y) ?_
         refine zU Y Y (zH Y) ?_
         refine zU Y Y (zH Y) ?_
         refine zU Y Y (zf Y Y Y Y (by first | (simp only [Nat.zero_add, Int.toNat_natCast, Int.toNat_zero]; exact Y) | exact Y) (by omega)) ?_
         refine zU Y Y (zBi Y Y Y Y Y Y) ?_
         refine zU Y Y (zH Y) ?_
         refine zU Y Y (zO Y Y Y Y Y Y) ?_
         refine zU Y Y (zS Y Y Y Y Y) ?_
         refine zU Y Y (zf Y Y Y Y (by first | (simp only [Nat.zero_add, Int.toNat_natCast, Int.toNat_zero]; exact Y) | exact Y) (by omega)) ?_
         refine zU Y Y (zBi Y Y Y Y Y Y) ?_
         refine zBc Y Y Y Y Y cdiv ?_
         refine zU Y Y (zb Y Y Y Y Y (by first | (simp only [Nat.zero_add, Int.toNat_natCast, Int.toNat_zero]; exact Y) | exact Y) (by omega)) ?_
         refine zAc ?_
         refine zF (is := [14]) (by kernel_rfl) (by simp) Y ⟨fun o ho => ?_, trivial⟩
         all_goals (cases ho)
         skip
         unfold qA
         refine zP (c' := zsC ((B.map some).set cc (some v))) Y Y Y Y Y hcB (by show (List.set _ _ _).length = (B.map some).length; simp) Y (fun i' j' hi' hj' => zCY none 3 zBS (B.map some) cc (some v) hcB i' j' hi' hj') ?_
         refine rn1 ?_
         refine zh (by kernel_rfl) ?_
         repeat (refine zd ?_)
         refine zA ?_
         refine zAb [some ⟨67, zm O⟩, some ⟨122, zsC ((B.map some).set cc (some v))⟩] [some ⟨174, .box [.int .i64 nf, .int .i64 (cc : Nat), .int .i64 (b : Nat)]⟩] [(9, .ro (.ints .i64 I) 0 I.length), (10, .ro (.ints .i64 Z) 0 Z.length), (11, .ro (zBW sq) 0 sq.length), (12, .ro (qsC P) 0 sq.length), (16, .sl 0 0 k), (85, .ro (.ints .i64 I) 0 I.length), (86, .int .i64 (I.length : Nat)), (87, .int .i64 (k : Nat)), (18, .int .i64 nf), (19, .sl 1 0 c), (110, .ro (zBW sq) 0 sq.length), (111, .int .i64 (sq.length : Nat)), (112, .int .i64 (j : Nat))] Y ⟨Y, Y, Y, Y, Y, Y, Y, Y, Y, Y, Y, Y, Y, trivial⟩ (fun h hh => by rw [hfix] at hh; exact absurd hh id) (zJl (zFH _ _) (zD8 _ _)) Y ?_
         refine rn3 ?_
         exact zM ⟨j + 1, by omega, by omega, ⟨Y, Y, Y, Y, Y, Y, Y, Y, Y, Y, Y, Y, Y, trivial⟩, by rw [hB2, hyes, List.map_set]⟩
       · have hje : j = sq.length := by omega
         subst hje
         rw [hbx]
         have hbSz : ∀ q ∈ bx, Sz 100000 q := fun q hq => zCw ((hbd q hq).mono (show 256129 + 256129 ≤ 9 * 100000 by decide))
         have hbxl : bx.length = c := by omega
         obtain ⟨r, co, hr⟩ := zLr bx (by omega) hbSz
         unfold zB5 at co hr
         repeat (first | refine zA ?_ | refine zW ?_ | refine zAj ?_ | refine zp ?_ | refine zo ?_ | refine zAB ?_)
         refine zBg [some ⟨67, zm O⟩, some ⟨122, qsC bx⟩] (z6.eqv (CEq.refl _) (z6.eqv (zMk _) z6.nil)) ?_
         refine zAU 1 19 c [(9, .ro (.ints .i64 I) 0 I.length), (10, .ro (.ints .i64 Z) 0 Z.length), (11, .ro (zBW sq) 0 sq.length), (12, .ro (qsC P) 0 sq.length), (16, .sl 0 0 k), (85, .ro (.ints .i64 I) 0 I.length), (86, .int .i64 (I.length : Nat)), (87, .int .i64 (k : Nat)), (18, .int .i64 x)] Y (zEo _) Y (by show c ≤ bx.length; omega) ⟨Y, Y, Y, Y, Y, Y, Y, Y, Y, trivial⟩ ?_
         refine z7 19 (.ro (qsC bx) 0 bx.length) Y (AEq.of_eq (by rw [hbxl])) ?_
         cases hf : bx.all zBP with
         | false =>
           rw [hf, if_neg (by decide)] at co
           rw [if_neg (by rw [hbad hf]; decide)] at hR
           refine rn0 ?_
           refine zC Y Y Y co ?_
           repeat (first | refine zD (zH rfl) ?_ | refine zD (zL rfl) ?_ | refine zB ?_ | refine zA ?_ | refine zW ?_ | refine zK rfl ?_ | refine zAV rfl ?_ | refine zD (zD6 rfl rfl) ?_ | refine zD (zBM rfl rfl) ?_)
           refine z7 6 (.ro (zm []) 0 0) Y AEq.nil ?_
           refine rn6 ?_
           exact zI hR Y Y
         | true =>
           rw [hf, if_pos rfl] at co hr
           have hr : AEq r (.ro (.strs (bx.map zAG)) 0 (bx.map zAG).length) := hr
           rw [hf] at hfk
           generalize bx.map zAG = T at *
           refine rn0 ?_
           refine zC Y Y Y co ?_
           repeat (first | refine zD (zH rfl) ?_ | refine zD (zL rfl) ?_ | refine zB ?_ | refine zA ?_ | refine zW ?_ | refine zD (zBM rfl rfl) ?_)
           refine z7 23 (.ro (.strs T) 0 T.length) Y hr ?_
           repeat (first | refine zD (zH rfl) ?_ | refine zB ?_ | refine zA ?_ | refine zK rfl ?_ | refine zx rfl ?_ | refine zk ?_ | refine zD (zD6 rfl rfl) ?_ | refine zD (zAR rfl rfl rfl rfl rfl rfl) ?_ | refine zj rfl rfl rfl rfl rfl rfl rfl rfl rfl rfl rfl ?_)
           refine zr Y Y Y Y Y Y Y Y Y hml Y Y (by show 0 + 1 ≤ 1; omega) Y (by show (k + 1) * 32 ≤ _ ∧ _; omega) ?_ (by rw [hfix]; exact fun h => h) ?_
           · intro i' j hi hj
             exact zDC ch0 2 cellsC zCK O ⟨x, T⟩ _ (zLJ ⟨x, T⟩) 0 i' j hi hj
           repeat (first | refine zD (zL rfl) ?_ | refine zB ?_ | refine zd ?_)
           refine zA ?_
           refine zBg ([some ⟨67, zm O2⟩] ++ [none]) ?_ ?_
           · rw [htk]
             exact z6.eqv (zCx ch0 2 cellsC O ⟨x, T⟩ _ (zLJ ⟨x, T⟩)) (z6.drop z6.nil)
           refine zDv (H1 := [some ⟨67, zm O2⟩]) Y (by rw [hfix]; exact fun h => h) ?_
           refine zBg [some ⟨67, zm O2⟩] ?_ ?_
           · exact z6.eqv ⟨Y, Y, fun i j _ hj => (zCK _ j _ hj).symm⟩ z6.nil
           refine rn3 ?_
           exact zM ⟨k + 1, ⟨by omega, hfk⟩, by omega, ⟨Y, Y, Y, Y, Y, Y, Y, Y, trivial⟩, by rw [hO2]⟩
   · have hke : k = I.length := by omega
     subst hke
     rw [List.take_length] at hfit
     rw [List.take_length]
     rw [if_pos hfit] at hR
     have hRl : (I.map (fun x => (⟨x, (bu x).map zAG⟩ : TChoice))).length = I.length := List.length_map _
     generalize I.map (fun x => (⟨x, (bu x).map zAG⟩ : TChoice)) = R at *
     repeat (first | refine zA ?_ | refine zW ?_ | refine zAj ?_ | refine zp ?_ | refine zo ?_ | refine zAB ?_)
     refine zAU 0 16 I.length [] Y (zCS _) Y (by show _ ≤ R.length; omega) trivial ?_
     refine z7 16 (.ro (zm R) 0 R.length) Y (AEq.of_eq (by rw [hRl])) ?_
     refine rn0 ?_
     exact zI hR Y Y
def zH7 (I : List Int) (wd : Int → Nat) (cs : List Int) (m : Nat) : zAL := (List.range m).map (fun k => ⟨I.getD k 0, zCH (wd (I.getD k 0)) (cs.getD k 0).toNat⟩)
theorem zPM (I : List Int) (wd : Int → Nat) (cs : List Int) (m : Nat) : zH7 I wd cs (m + 1) = zH7 I wd cs m ++ [⟨I.getD m 0, zCH (wd (I.getD m 0)) (cs.getD m 0).toNat⟩] := by
 unfold zH7
 rw [List.range_succ, List.map_append]; rfl
theorem zQ6 (I : List Int) (wd : Int → Nat) (cs : List Int) (m : Nat) : (zH7 I wd cs m).length = m := by unfold zH7; rw [List.length_map, List.length_range]
theorem zQ4 (t : zQ) (p : Int) (cs : List Int) : zH7 (zJ t p) (zT t p) cs (zJ t p).length = zCF t p cs := by
 unfold zH7 zCF
 refine List.ext_getElem (by rw [List.length_map, List.length_range, List.length_map]) (fun k h1 h2 => ?_)
 have hk : k < (zJ t p).length := by rwa [List.length_map, List.length_range] at h1
 rw [List.getElem_map, List.getElem_map, List.getElem_range, zAC 0 hk]
 have := zO2 t p hk
 rw [zAC 0 hk] at this
 rw [this]; rfl
def zIA (f : CPlan → Rat) (l : zB2) (k : Nat) : Rat := zAK 0 ((l.take k).map f)
theorem zRX {f : CPlan → Rat} {l : zB2} {k : Nat} (hk : k < l.length) : zIA f l (k + 1) = zIA f l k + f (l.getD k cp0) := by
 unfold zIA
 rw [List.take_succ_eq_append_getElem hk, List.map_append, ← zAC cp0 hk]
 exact zEe _ _ _
theorem payK_all (f : CPlan → Rat) (l : zB2) : zIA f l l.length = zAK 0 (l.map f) := by unfold zIA; rw [List.take_length]
theorem payK_D {f : CPlan → Rat} {l : zB2} {K : Nat} (h : ∀ a ∈ l, D K (f a)) {k : Nat} (hk : k ≤ l.length) : D (1 + k * (K + 1)) (zIA f l k) := by
 unfold zIA
 have h1 := zME (k := K) (l := (l.take k).map f) (fun x hx => by
   obtain ⟨a, ha, rfl⟩ := List.mem_map.1 hx
   exact h a (List.mem_of_mem_take ha)) (acc := 0) (j := 1) ⟨by decide, by decide⟩
 refine h1.mono ?_
 rw [List.length_map, List.length_take, Nat.min_eq_left hk]
 exact Nat.le_refl _
theorem zLR {t : zQ} {p : Int} {l : zB2} (hv : Valid t) (hO : OkM t p l) {a : CPlan} (ha : a ∈ l) : StrS t p (zCF t p a.choices) := by
 obtain ⟨h1, h2, h3⟩ := zNI hv hO ha
 have hk := zEg h1
 refine ⟨⟨?_, fun c hc => ⟨?_, fun s hs => ?_⟩⟩, hk, h2⟩
 · have : (zCF t p a.choices).length = (zJ t p).length := by unfold zCF; exact List.length_map _
   have h4 : (zJ t p).length ≤ 10 := by
     unfold zJ
     exact Nat.le_trans (List.length_filter_le _ _) (by simp)
   omega
 · have := (zBu (hk.odds c hc)).1
   omega
 · have := h2 c hc s hs
   omega
/-- the opponent's strategy has short texts -/
theorem pay_D {t : zQ} {p : Int} {l : zB2} {o : zAL} (hv : Valid t) (hm : Go.Ax.Rt.Modest t) (hp : p = 0 ∨ p = 1) (hO : OkM t p l) (ho : StrS t (1 - p) o) {a : CPlan} (ha : a ∈ l) : D 974 (zA3 t (zBF t (zCz p (zCF t p a.choices) o) (zC0 p (zCF t p a.choices) o))) := by
 have hs := zLR hv hO ha
 rcases hp with rfl | rfl
 · exact zIM hv (zFh hv hm hs.str ho.str) hm.len (hm.pays hv)
 · exact zIM hv (zFh hv hm ho.str hs.str) hm.len (hm.pays hv)
theorem pay_of {t : zQ} {p : Int} {l : zB2} {o : zAL} (hT : ShortT t) (hv : Valid t) (hm : Go.Ax.Rt.Modest t) (hp : p = 0 ∨ p = 1) (hO : OkM t p l) (ho : StrS t (1 - p) o) {a : CPlan} (ha : a ∈ l) :
   zX Tryz.prog 77 [.ro (zc t) 0 t.length, .ro (zm (zCz p (zCF t p a.choices) o)) 0 (zCz p (zCF t p a.choices) o).length, .ro (zm (zC0 p (zCF t p a.choices) o)) 0 (zC0 p (zCF t p a.choices) o).length] (qA (zA3 t (zBF t (zCz p (zCF t p a.choices) o) (zC0 p (zCF t p a.choices) o)))) := by
 have hs := zLR hv hO ha
 rcases hp with rfl | rfl
 · exact zOS t _ _ hT hv hm hs ho
 · exact zOS t _ _ hT hv hm ho hs
theorem zKu (q : Rat) (n : Nat) : zA2 n (.box (zu q)) := by
 intro i j _ hj
 have hj : j < 3 := hj
 match j, hj with
 | 0, _ => rfl
 | 1, _ => rfl
 | 2, _ => rfl
theorem pay_ok (t : zQ) (p : Int) (l : zB2) (o : zAL) (hT : ShortT t) (hm : Go.Ax.Rt.Modest t) (hl : ShortX l) (hs : ShortS o) (hd : ∀ c ∈ o, ∀ r ∈ c.odds, r.length ≤ 12) : zX Tryz.prog 47 [.ro (zc t) 0 t.length, .int .i64 p, .ro (mxC l) 0 l.length, .ro (zm o) 0 o.length] (zNr (payR t p l o)) := by
 have c1 := zHB t p l hT hl
 have hll := hl.len
 refine zV.value0 (zG (P := Tryz.prog) (fn := Tryz.f47) Y Y (by kernel_rfl) Y (fun c hR hfix => ?_)) (fix := fun _ => False) (fun _ h => h) Y Y
 unfold payR at hR
 by_cases h1 : zC6 t p l = 0
 case neg =>
   rw [if_pos h1] at hR
   generalize zC6 t p l = e at *
   refine rn0 ?_
   refine zC Y Y Y c1 ?_
   refine rn3 ?_
   rw [decide_eq_true (show ¬ e = 0 from h1)]
   refine rn5 ?_
   exact zI hR Y Y
 obtain ⟨hpe, hO⟩ := zEb h1
 obtain ⟨hv, hp⟩ := zCd hpe
 rw [if_neg (fun q => q h1)] at hR
 rw [h1] at c1
 have c2 := zED t (1 - p) o hT.len hs
 have hpb : -9223372036854775808 ≤ 1 - p ∧ 1 - p ≤ 9223372036854775807 := by omega
 by_cases h2 : zAl t (1 - p) o = 0
 case neg =>
   rw [if_pos h2] at hR
   generalize zAl t (1 - p) o = e at *
   refine rn0 ?_
   refine zC Y Y Y c1 ?_
   repeat (first | refine zD (zH rfl) ?_ | refine zD (zL rfl) ?_ | refine zB ?_ | refine zA ?_ | refine zW ?_ | refine zK rfl ?_ | refine zx rfl ?_ | refine zk ?_ | refine zD (zD6 rfl rfl) ?_ | refine zD (zBe rfl rfl (by omega)) ?_)
   refine zC Y Y Y c2 ?_
   refine rn3 ?_
   rw [decide_eq_true (show ¬ e = 0 from h2)]
   refine rn5 ?_
   exact zI hR Y Y
 rw [if_neg (fun q => q h2)] at hR
 rw [h2] at c2
 have ho : StrS t (1 - p) o := ⟨hs, zEg h2, hd⟩
 have c3 := zIF t p hT.len
 have hof := fun a (ha : a ∈ l) => pay_of hT hv hm hp hO ho ha
 have hvD := fun a (ha : a ∈ l) => pay_D hv hm hp hO ho ha
 obtain ⟨hw1, hw2, hw3⟩ := hO.wgt
 have hpv : ∀ a, zJT t p o a = zA3 t (zBF t (zCz p (zCF t p a.choices) o) (zC0 p (zCF t p a.choices) o)) * zAT a.odds := fun a => rfl
 have hfD : ∀ a ∈ l, D 2974 (zJT t p o a) := fun a ha => by
   rw [hpv]
   exact ((hvD a ha).mul (hw1 a ha).2.2)
 have hl128 : l.length ≤ 128 := by
   unfold zC6 at h1
   rw [if_neg (fun q => q hpe)] at h1
   by_cases q : 128 < l.length
   · rw [if_pos q] at h1; cases h1
   · omega
 have hIl : (zJ t p).length ≤ 10 := by
   unfold zJ
   exact Nat.le_trans (List.length_filter_le _ _) (by simp)
 have hsz : ∀ k, k < (zJ t p).length → (zz t p).getD k 0 = ((zT t p ((zJ t p).getD k 0) : Nat) : Int) := fun k hk => by unfold zz; rw [zBB _ _ 0 _ _ hk]
 have hzl : (zz t p).length = (zJ t p).length := by unfold zz; exact List.length_map _
 have hwd : ∀ x ∈ zJ t p, 1 ≤ zT t p x ∧ zT t p x ≤ 6 := fun x hx => by
   obtain ⟨s, b, g⟩ := zKX hv hx
   exact ⟨g.w1, zIQ hv hx⟩
 have hcl := hO.len
 have hrn := hO.ran
 have hrE : ∀ a ∈ l, zDa a.odds = 0 ∧ D 2000 (zAT a.odds) := fun a ha => ⟨(hw1 a ha).1, (hw1 a ha).2.2⟩
 have hod := hl.od
 have hpk := zQ4 t p
 have hq0 := fun k (hk : k ≤ l.length) => payK_D hfD hk
 have hqs := fun k (hk : k < l.length) => zRX (f := zJT t p o) hk
 have hqa : zIA (zJT t p o) l l.length = payQ t p l o := payK_all _ _
 have h00 : zIA (zJT t p o) l 0 = 0 := rfl
 rw [← hqa] at hR
 clear hqa hw1 hw2 hw3 hfD hO ho hl h1 h2 hpe
 refine rn0 ?_
 refine zC Y Y Y c1 ?_
 repeat (first | refine zD (zH rfl) ?_ | refine zD (zL rfl) ?_ | refine zB ?_ | refine zA ?_ | refine zW ?_ | refine zK rfl ?_ | refine zx rfl ?_ | refine zk ?_ | refine zD (zD6 rfl rfl) ?_ | refine zD (zBe rfl rfl (by omega)) ?_)
 refine zC Y Y Y c2 ?_
 refine rn4 ?_
 refine zC Y Y Y c3 ?_
 refine rn2 ?_
 refine zC Y Y Y zFC ?_
 unfold qA
 repeat (refine zBK rfl rfl rfl ?_)
 refine zP (c' := .box (zu 0)) Y Y Y Y Y Nat.zero_lt_one Y Y (fun i' j' hi' hj' => ?_) ?_
 · rw [if_pos (Nat.lt_one_iff.1 hi')]; rfl
 refine rn3 ?_
 rw [← h00]
 refine zi (ι := Nat) (fun k => [(0, .ro (zc t) 0 t.length), (1, .int .i64 p), (3, .ro (zm o) 0 o.length), (12, .ro (.ints .i64 (zJ t p)) 0 (zJ t p).length), (13, .ro (.ints .i64 (zz t p)) 0 (zz t p).length), (14, .ptr 0 0 0), (45, .ro (mxC l) 0 l.length), (46, .int .i64 (l.length : Nat)), (47, .int .i64 (k : Nat))]) (fun k => [some ⟨122, .box (zu (zIA (zJT t p o) l k))⟩])
   (fun k => k ≤ l.length) (fun k => l.length - k) 0 ⟨⟨rfl, rfl, rfl, rfl, rfl, rfl, rfl, rfl, rfl, trivial⟩, rfl, Nat.zero_le _⟩ ?_
 intro k hk
 refine rn4 ?_
 refine zE Y (fun h => ?_) (fun h => ?_)
 · have hk' : k < l.length := by omega
   have hal : l.getD k cp0 ∈ l := zAP cp0 hk'
   have hq1 := hqs k hk'
   rw [hpv] at hq1
   have hD1 := hq0 k hk
   have hD2 := hvD _ hal
   have hofk := hof _ hal
   obtain ⟨hre, hoD⟩ := hrE _ hal
   have hoo := hod _ hal
   have hcc := hcl _ hal
   have hrr := hrn _ hal
   have hpk' := hpk (l.getD k cp0).choices
   have hsu := zPM (zJ t p) (zT t p) (l.getD k cp0).choices
   have hsl := zQ6 (zJ t p) (zT t p) (l.getD k cp0).choices
   generalize hq2 : zIA (zJT t p o) l (k + 1) = q2 at *
   generalize zIA (zJT t p o) l k = q1 at *
   refine rn6 ?_
   refine zN 50 (.agg (zDN (l.getD k cp0))) Y (AEq.of_eq Y) ?_
   generalize l.getD k cp0 = a at *
   obtain ⟨cs, od⟩ := a
   simp only at *
   have hK0 : zH7 (zJ t p) (zT t p) cs 0 = [] := rfl
   generalize zH7 (zJ t p) (zT t p) cs = PK at *
   refine zP (c' := .box [.ro (.ints .i64 cs) 0 cs.length, .str od]) Y Y Y Y Y Nat.zero_lt_one Y Y (fun i' j' hi' hj' => ?_) ?_
   · rw [if_pos (Nat.lt_one_iff.1 hi')]; rfl
   refine zAf [some ⟨122, .box (zu q1)⟩, some ⟨75, .box [.ro (.ints .i64 cs) 0 cs.length, .str od]⟩] Y ?_
   repeat (first | refine zD (zH rfl) ?_ | refine zD (zL rfl) ?_ | refine zB ?_ | refine zA ?_ | refine zW ?_ | refine zK rfl ?_ | refine zD (zS rfl rfl rfl rfl rfl) ?_ | refine zD (zA6 rfl rfl rfl) ?_ | refine zD (zO rfl rfl rfl rfl rfl rfl) ?_)
   refine zw ?_
   skip
   refine zA5 17 ⟨67, zm []⟩ Y Y ?_
   skip
   refine zBb [some ⟨122, .box (zu q1)⟩, some ⟨75, .box [.ro (.ints .i64 cs) 0 cs.length, .str od]⟩, some ⟨67, zm (PK 0)⟩] (by rw [hK0]; rfl) ?_
   refine zi (ι := Nat) (fun m => [(0, .ro (zc t) 0 t.length), (1, .int .i64 p), (3, .ro (zm o) 0 o.length), (12, .ro (.ints .i64 (zJ t p)) 0 (zJ t p).length), (13, .ro (.ints .i64 (zz t p)) 0 (zz t p).length), (14, .ptr 0 0 0), (45, .ro (mxC l) 0 l.length), (46, .int .i64 (l.length : Nat)), (47, .int .i64 (k : Nat)), (16, .ptr 1 0 0), (17, .sl 2 0 m), (52, .ro (.ints .i64 cs) 0 cs.length), (53, .int .i64 (cs.length : Nat)), (54, .int .i64 (m : Nat))]) (fun m => [some ⟨122, .box (zu q1)⟩, some ⟨75, .box [.ro (.ints .i64 cs) 0 cs.length, .str od]⟩, some ⟨67, zm (PK m)⟩])
     (fun m => m ≤ cs.length) (fun m => cs.length - m) 0 ⟨⟨rfl, rfl, rfl, rfl, rfl, rfl, rfl, rfl, rfl, rfl, rfl, rfl, rfl, rfl, trivial⟩, rfl, Nat.zero_le _⟩ ?_
   intro m hm
   refine rn4 ?_
   refine zE Y (fun h5 => ?_) (fun h5 => ?_)
   · have hm' : m < (zJ t p).length := by omega
     have hmc : m < cs.length := by omega
     have hmz : m < (zz t p).length := by omega
     obtain ⟨hx0, hx1⟩ := hrr m hm'
     obtain ⟨x, hx⟩ := Int.eq_ofNat_of_zero_le hx0
     have hsm := hsu m
     rw [hx, Int.toNat_natCast] at hx1 hsm
     have hszm := hsz m hm'
     obtain ⟨hw1, hw6⟩ := hwd _ (zAP 0 hm')
     have hml := hsl m
     generalize hP2 : PK (m + 1) = P2 at *
     generalize PK m = P1 at *
     generalize hwx : zT t p ((zJ t p).getD m 0) = w at *
     have crep := zPm [48] w (by omega)
     have hul : (zCH w x).length = w := by unfold zCH; rw [List.length_set, List.length_replicate]
     repeat (first | refine zA ?_ | refine zW ?_ | refine zw ?_ | refine zk ?_)
     refine zK Y ?_
     repeat (first | refine zD (zH rfl) ?_ | refine zD (zL rfl) ?_ | refine zD (zAn rfl rfl rfl) ?_ | refine zB ?_ | refine zA ?_ | refine zW ?_ | refine zD (zf rfl rfl rfl rfl (by first | (simp only [Nat.zero_add, Int.toNat_natCast, Int.toNat_zero]; exact rfl) | exact rfl) (by omega)) ?_)
     refine z7 19 (.int .i64 (x : Nat)) Y (AEq.of_eq (by rw [hx])) ?_
     refine rn6 ?_
     refine zN 63 (.int .i64 (w : Nat)) Y (AEq.of_eq (by rw [hszm])) ?_
     refine zB0 Y Y Y crep ?_
     refine rn6 ?_
     refine zAr (c' := .strs (zCH w x)) Y Y Y Y Y Y Y (by show x < (List.replicate w _).length; rw [List.length_replicate]; exact hx1) ?_
     repeat (first | refine zB ?_ | refine zA ?_)
     refine zBb [some ⟨122, .box (zu q1)⟩, some ⟨75, .box [.ro (.ints .i64 cs) 0 cs.length, .str od]⟩, some ⟨67, zm P1⟩, some ⟨27, .strs (zCH w x)⟩] Y ?_
     refine z7 20 (.sl 3 0 w) Y (AEq.of_eq Y) ?_
     refine zAU 3 20 w [(0, .ro (zc t) 0 t.length), (1, .int .i64 p), (3, .ro (zm o) 0 o.length), (12, .ro (.ints .i64 (zJ t p)) 0 (zJ t p).length), (13, .ro (.ints .i64 (zz t p)) 0 (zz t p).length), (14, .ptr 0 0 0), (45, .ro (mxC l) 0 l.length), (46, .int .i64 (l.length : Nat)), (47, .int .i64 (k : Nat)), (16, .ptr 1 0 0), (17, .sl 2 0 m), (52, .ro (.ints .i64 cs) 0 cs.length), (53, .int .i64 (cs.length : Nat)), (54, .int .i64 (m : Nat)), (18, .int .i64 (m : Nat))] Y zDP Y (by show w ≤ (zCH w x).length; omega) ⟨Y, Y, Y, Y, Y, Y, Y, Y, Y, Y, Y, Y, Y, Y, Y, trivial⟩ ?_
     refine z7 20 (.ro (.strs (zCH w x)) 0 (zCH w x).length) Y (AEq.of_eq (by rw [hul])) ?_
     repeat (first | refine zD (zH rfl) ?_ | refine zD (zAn rfl rfl rfl) ?_ | refine zK rfl ?_ | refine zD (zf rfl rfl rfl rfl (by first | (simp only [Nat.zero_add, Int.toNat_natCast, Int.toNat_zero]; exact rfl) | exact rfl) (by omega)) ?_ | refine zD (zAR rfl rfl rfl rfl rfl rfl) ?_ | refine zj rfl rfl rfl rfl rfl rfl rfl rfl rfl rfl rfl ?_)
     refine zr Y Y Y Y Y Y Y Y Y hml Y Y (by show 0 + 1 ≤ 1; omega) Y (by show (m + 1) * 32 ≤ _ ∧ _; omega) ?_ (by rw [hfix]; exact fun h => h) ?_
     · intro i' j hi hj
       exact zDC ch0 2 cellsC zCK P1 ⟨(zJ t p).getD m 0, zCH w x⟩ _ (zLJ ⟨(zJ t p).getD m 0, zCH w x⟩) 2 i' j hi hj
     repeat (first | refine zD (zL rfl) ?_ | refine zB ?_ | refine zd ?_)
     refine zA ?_
     refine zBg ([some ⟨122, .box (zu q1)⟩, some ⟨75, .box [.ro (.ints .i64 cs) 0 cs.length, .str od]⟩, some ⟨67, zm P2⟩] ++ [none]) ?_ ?_
     · rw [hsm]
       exact z6.eqv (CEq.refl _) (z6.eqv (CEq.refl _) (z6.eqv (zCx ch0 2 cellsC P1 ⟨(zJ t p).getD m 0, zCH w x⟩ _ (zLJ ⟨(zJ t p).getD m 0, zCH w x⟩)) (z6.drop z6.nil)))
     refine zDv (H1 := [some ⟨122, .box (zu q1)⟩, some ⟨75, .box [.ro (.ints .i64 cs) 0 cs.length, .str od]⟩, some ⟨67, zm P2⟩]) Y (by rw [hfix]; exact fun h => h) ?_
     refine zBg [some ⟨122, .box (zu q1)⟩, some ⟨75, .box [.ro (.ints .i64 cs) 0 cs.length, .str od]⟩, some ⟨67, zm P2⟩] ?_ ?_
     · exact z6.eqv (CEq.refl _) (z6.eqv (CEq.refl _) (z6.eqv ⟨Y, Y, fun i j _ hj => (zCK _ j _ hj).symm⟩ z6.nil))
     refine rn3 ?_
     exact zM ⟨m + 1, by omega, by omega, ⟨Y, Y, Y, Y, Y, Y, Y, Y, Y, Y, Y, Y, Y, Y, trivial⟩, by rw [hP2]⟩
   · have hme : m = (zJ t p).length := by omega
     subst hme
     rw [hpk']
     have hpl : (zCF t p cs).length = (zJ t p).length := by rw [← hpk']; exact hsl _
     have cpar := zE0 od hoo hre
     generalize hV : zA3 t (zBF t (zCz p (zCF t p cs) o) (zC0 p (zCF t p cs) o)) = V at *
     clear hpk' hV
     generalize zCF t p cs = PS at *
     repeat (first | refine zA ?_ | refine zW ?_ | refine zAj ?_ | refine zp ?_ | refine zo ?_ | refine zAB ?_)
     refine zAU 2 17 (zJ t p).length [(0, .ro (zc t) 0 t.length), (1, .int .i64 p), (3, .ro (zm o) 0 o.length), (12, .ro (.ints .i64 (zJ t p)) 0 (zJ t p).length), (13, .ro (.ints .i64 (zz t p)) 0 (zz t p).length), (14, .ptr 0 0 0), (45, .ro (mxC l) 0 l.length), (46, .int .i64 (l.length : Nat)), (47, .int .i64 (k : Nat)), (16, .ptr 1 0 0)] Y (zCS _) Y (by show _ ≤ PS.length; omega) ⟨Y, Y, Y, Y, Y, Y, Y, Y, Y, Y, trivial⟩ ?_
     refine z7 17 (.ro (zm PS) 0 PS.length) Y (AEq.of_eq (by rw [hpl])) ?_
     refine zBb [some ⟨122, .box (zu q1)⟩, some ⟨75, .box [.ro (.ints .i64 cs) 0 cs.length, .str od]⟩, none] Y ?_
     rcases hp with rfl | rfl
     · have e1 : zCz 0 PS o = PS := rfl
       have e2 : zC0 0 PS o = o := rfl
       rw [e1, e2] at hofk
       have cmul := zHJ V (zAT od) (zCw (hD2.mono (by decide))) (zCw (hoD.mono (by decide)))
       have cadd := zGA q1 (V * zAT od) (zCw (hD1.mono (show 1 + k * (2974 + 1) ≤ 9 * 100000 by omega))) (zCw ((hD2.mul hoD).mono (by decide)))
       rw [← hq1] at cadd
       generalize V * zAT od = vw at *
       refine rn4 ?_
       refine zl (by kernel_rfl) ?_
       refine zt (fuel := 1) [0, 1, 2, 3, 4, 5, 6, 7, 8, 9] [(0, .ro (zc t) 0 t.length), (1, .int .i64 0), (3, .ro (zm o) 0 o.length), (12, .ro (.ints .i64 (zJ t 0)) 0 (zJ t 0).length), (13, .ro (.ints .i64 (zz t 0)) 0 (zz t 0).length), (14, .ptr 0 0 0), (45, .ro (mxC l) 0 l.length), (46, .int .i64 (l.length : Nat)), (47, .int .i64 (k : Nat)), (16, .ptr 1 0 0), (21, .ro (zm PS) 0 PS.length), (22, .ro (zm o) 0 o.length)] ⟨Y, Y, Y, Y, Y, Y, Y, Y, Y, Y, Y, Y, trivial⟩ (by kernel_rfl) (by decide) Y Y ?_
       refine zU Y Y (zq Y Y Y Y Y Y Y (by first | exact Nat.zero_lt_one | assumption | omega)) ?_
       refine zU Y Y (zH Y) ?_
       refine zU Y Y (zH Y) ?_
       refine zU Y Y (zH Y) ?_
       refine zBc Y Y Y Y Y hofk ?_
       refine zU Y Y (zO Y Y Y Y Y Y) ?_
       refine zU Y Y (zS Y Y Y Y Y) ?_
       refine zBc Y Y Y Y Y cpar ?_
       refine zBc Y Y Y Y Y cmul ?_
       refine zBc Y Y Y Y Y cadd ?_
       refine zAc ?_
       refine zF (is := [10]) (by kernel_rfl) (by simp) Y ⟨fun o ho => ?_, trivial⟩
       all_goals (cases ho)
       unfold qA
       refine zP (c' := .box (zu q2)) Y Y Y Y Y Nat.zero_lt_one Y Y (fun i' j' hi' hj' => ?_) ?_
       · rw [if_pos (Nat.lt_one_iff.1 hi')]; rfl
       refine rn1 ?_
       refine zh (by kernel_rfl) ?_
       repeat (refine zd ?_)
       refine zA ?_
       refine zAb [some ⟨122, .box (zu q2)⟩] [some ⟨75, .box [.ro (.ints .i64 cs) 0 cs.length, .str od]⟩, none] [(0, .ro (zc t) 0 t.length), (1, .int .i64 0), (3, .ro (zm o) 0 o.length), (12, .ro (.ints .i64 (zJ t 0)) 0 (zJ t 0).length), (13, .ro (.ints .i64 (zz t 0)) 0 (zz t 0).length), (14, .ptr 0 0 0), (45, .ro (mxC l) 0 l.length), (46, .int .i64 (l.length : Nat)), (47, .int .i64 (k : Nat))] Y ⟨Y, Y, Y, Y, Y, Y, Y, Y, Y, trivial⟩ (fun h hh => by rw [hfix] at hh; exact absurd hh id) (zBs (zKu _ _)) Y ?_
       refine rn3 ?_
       exact zM ⟨k + 1, by omega, by omega, ⟨Y, Y, Y, Y, Y, Y, Y, Y, Y, trivial⟩, by rw [hq2]⟩
     · have e1 : zCz 1 PS o = o := rfl
       have e2 : zC0 1 PS o = PS := rfl
       rw [e1, e2] at hofk
       have cmul := zHJ V (zAT od) (zCw (hD2.mono (by decide))) (zCw (hoD.mono (by decide)))
       have cadd := zGA q1 (V * zAT od) (zCw (hD1.mono (show 1 + k * (2974 + 1) ≤ 9 * 100000 by omega))) (zCw ((hD2.mul hoD).mono (by decide)))
       rw [← hq1] at cadd
       generalize V * zAT od = vw at *
       refine rn5 ?_
       refine zl (by kernel_rfl) ?_
       refine zt (fuel := 1) [0, 1, 2, 3, 4, 5, 6, 7, 8, 9] [(0, .ro (zc t) 0 t.length), (1, .int .i64 1), (3, .ro (zm o) 0 o.length), (12, .ro (.ints .i64 (zJ t 1)) 0 (zJ t 1).length), (13, .ro (.ints .i64 (zz t 1)) 0 (zz t 1).length), (14, .ptr 0 0 0), (45, .ro (mxC l) 0 l.length), (46, .int .i64 (l.length : Nat)), (47, .int .i64 (k : Nat)), (16, .ptr 1 0 0), (21, .ro (zm o) 0 o.length), (22, .ro (zm PS) 0 PS.length)] ⟨Y, Y, Y, Y, Y, Y, Y, Y, Y, Y, Y, Y, trivial⟩ (by kernel_rfl) (by decide) Y Y ?_
       refine zU Y Y (zq Y Y Y Y Y Y Y (by first | exact Nat.zero_lt_one | assumption | omega)) ?_
       refine zU Y Y (zH Y) ?_
       refine zU Y Y (zH Y) ?_
       refine zU Y Y (zH Y) ?_
       refine zBc Y Y Y Y Y hofk ?_
       refine zU Y Y (zO Y Y Y Y Y Y) ?_
       refine zU Y Y (zS Y Y Y Y Y) ?_
       refine zBc Y Y Y Y Y cpar ?_
       refine zBc Y Y Y Y Y cmul ?_
       refine zBc Y Y Y Y Y cadd ?_
       refine zAc ?_
       refine zF (is := [10]) (by kernel_rfl) (by simp) Y ⟨fun o ho => ?_, trivial⟩
       all_goals (cases ho)
       unfold qA
       refine zP (c' := .box (zu q2)) Y Y Y Y Y Nat.zero_lt_one Y Y (fun i' j' hi' hj' => ?_) ?_
       · rw [if_pos (Nat.lt_one_iff.1 hi')]; rfl
       refine rn1 ?_
       refine zh (by kernel_rfl) ?_
       repeat (refine zd ?_)
       refine zA ?_
       refine zAb [some ⟨122, .box (zu q2)⟩] [some ⟨75, .box [.ro (.ints .i64 cs) 0 cs.length, .str od]⟩, none] [(0, .ro (zc t) 0 t.length), (1, .int .i64 1), (3, .ro (zm o) 0 o.length), (12, .ro (.ints .i64 (zJ t 1)) 0 (zJ t 1).length), (13, .ro (.ints .i64 (zz t 1)) 0 (zz t 1).length), (14, .ptr 0 0 0), (45, .ro (mxC l) 0 l.length), (46, .int .i64 (l.length : Nat)), (47, .int .i64 (k : Nat))] Y ⟨Y, Y, Y, Y, Y, Y, Y, Y, Y, trivial⟩ (fun h hh => by rw [hfix] at hh; exact absurd hh id) (zBs (zKu _ _)) Y ?_
       refine rn3 ?_
       exact zM ⟨k + 1, by omega, by omega, ⟨Y, Y, Y, Y, Y, Y, Y, Y, Y, trivial⟩, by rw [hq2]⟩
 · have hke : k = l.length := by omega
   subst hke
   have hDn := hq0 l.length (Nat.le_refl _)
   have co := zMC (zIA (zJT t p o) l l.length) (zCw (hDn.mono (show 1 + l.length * (2974 + 1) ≤ 9 * 100000 by omega)))
   generalize zIA (zJT t p o) l l.length = q at *
   refine rn6 ?_
   refine zC Y Y Y co ?_
   refine rn2 ?_
   exact zI hR Y Y
theorem zQi (t : zQ) (g : FuncId) (caps : List AV) (q : TNode → Bool) (hc : noRef.noRefs caps = true) (hlen : t.length ≤ 9223372036854775807) (hp : ∀ n ∈ t, zX Tryz.prog g ([.agg (zBn n)] ++ caps) (.bool (q n))) :
   zX Tryz.prog 64 [.ro (zc t) 0 t.length, .fn g caps] (.bool (t.any q)) := by
 have ci := zKN t g caps q hc hlen hp
 refine zV.value0 (zG (P := Tryz.prog) (fn := Tryz.f64) Y Y (by kernel_rfl) Y (fun c hR hfix => ?_)) (fix := fun _ => False) (fun _ h => h) (by simp [noRef.noRefs, noRef, hc]) Y
 refine rn0 ?_
 refine zC Y Y Y ci ?_
 repeat (first | refine zD (zL rfl) ?_ | refine zB ?_ | refine zA ?_ | refine zAX ?_ | refine zD (zCr rfl rfl) ?_)
 refine zI hR Y ?_
 simp only [zBQ, zFl]
def zLg (n : TNode) : Bool := decide (12 < (n.pay.length : Int)) || n.odds.any (fun s => decide (12 < (s.length : Int)))
theorem modest11 (s : zBI) (hs : s.length ≤ 9223372036854775807) : zX Tryz.prog 67 [.str s] (.bool (decide (12 < (s.length : Int)))) := by
 refine zV.value0 (zG (P := Tryz.prog) (fn := Tryz.f67) Y Y (by kernel_rfl) Y (fun c hR hfix => ?_)) (fix := fun _ => False) (fun _ h => h) Y Y
 refine rn6 ?_
 exact zI hR Y Y
theorem modest1 (n : TNode) (hn : ShortN n) : zX Tryz.prog 65 [.agg (zBn n)] (.bool (zLg n)) := by
 obtain ⟨h1, h2, h3, h4⟩ := hn
 have cc := zIf n.odds 67 [] (fun s => decide (12 < (s.length : Int))) rfl h2 (fun s hs => modest11 s (h3 s hs))
 refine zV.value0 (zG (P := Tryz.prog) (fn := Tryz.f65) Y Y (by kernel_rfl) Y (fun c hR hfix => ?_)) (fix := fun _ => False) (fun _ h => h) Y Y
 obtain ⟨kd, pl, nf, nx, od, py⟩ := n
 unfold zLg at hR
 unfold zBn
 simp only at *
 refine rn6 ?_
 refine zAE Y Y (fun g1 => ?_) (fun g1 => ?_)
 · rw [decide_eq_true g1, Bool.true_or] at hR
   refine rn6 ?_
   exact zI hR Y Y
 · rw [decide_eq_false g1, Bool.false_or] at hR
   refine rn5 ?_
   refine zC Y Y Y cc ?_
   refine rn2 ?_
   exact zI hR Y Y
def zII (t : zQ) : Bool := decide ((t.length : Int) ≤ 40) && !(t.any zLg)
theorem zI4 {t : zQ} (h : zII t = true) : Go.Ax.Rt.Modest t := by
 unfold zII at h
 rw [Bool.and_eq_true, decide_eq_true_eq, Bool.not_eq_true', List.any_eq_false] at h
 obtain ⟨h1, h2⟩ := h
 refine ⟨by omega, fun n hn => ?_, fun n hn r hr => ?_⟩
 · have := h2 n hn
   unfold zLg at this
   rw [Bool.not_eq_true, Bool.or_eq_false_iff, decide_eq_false_iff_not] at this
   omega
 · have := h2 n hn
   unfold zLg at this
   rw [Bool.not_eq_true, Bool.or_eq_false_iff, List.any_eq_false] at this
   have := this.2 r hr
   rw [decide_eq_true_eq] at this
   omega
theorem zQ1 (t : zQ) (hT : ShortT t) : zX Tryz.prog 16 [.ro (zc t) 0 t.length] (.bool (zII t)) := by
 have cc := zQi t 65 [] zLg rfl hT.len (fun n hn => modest1 n (hT.node n hn))
 have hlen := hT.len
 refine zV.value0 (zG (P := Tryz.prog) (fn := Tryz.f16) Y Y (by kernel_rfl) Y (fun c hR hfix => ?_)) (fix := fun _ => False) (fun _ h => h) Y Y
 unfold zII at hR
 repeat (first | refine zD (zH rfl) ?_ | refine zD (zL rfl) ?_ | refine zB ?_ | refine zA ?_ | refine zW ?_ | refine zK rfl ?_ | refine zD (zKQ rfl rfl) ?_ | refine zD (zA6 rfl rfl rfl) ?_)
 refine zAE Y Y (fun g1 => ?_) (fun g1 => ?_)
 · rw [decide_eq_true g1, Bool.true_and] at hR
   refine rn2 ?_
   refine zC Y Y Y cc ?_
   refine rn5 ?_
   exact zI hR Y Y
 · rw [decide_eq_false g1, Bool.false_and] at hR
   refine rn6 ?_
   exact zI hR Y Y
theorem zKM {ls : List zAL} (h : zKd ls = true) : ∀ s ∈ ls, ∀ c ∈ s, ∀ r ∈ c.odds, r.length ≤ 12 := by
 unfold zKd at h
 rw [Bool.not_eq_true', List.any_eq_false] at h
 intro s hs c hc r hr
 have := h c (List.mem_flatten.2 ⟨s, hs, hc⟩)
 unfold zNu at this
 rw [Bool.not_eq_true, List.any_eq_false] at this
 have := this r hr
 rw [decide_eq_true_eq] at this
 omega
end Go.Proofs.YtnkealfaldjipaaGreatDoor
namespace Go.Ax.Rt
open Go.Ax.Bg Go.Ax.Dt
set_option maxRecDepth 100000
def allV : List zBI → List Rat → Bool
 | [], [] => true
 | s :: r, q :: t => decide (IsQ s q) && allV r t
 | _, _ => false
theorem zKh : ∀ {s : List zBI} {l : List Rat}, allV s l = true → l.map zAG = s ∧ l.all zBP = true
 | [], [], _ => ⟨rfl, rfl⟩
 | [], _ :: _, h => by cases h
 | _ :: _, [], h => by cases h
 | a :: r, q :: t, h => by
   simp only [allV, Bool.and_eq_true, decide_eq_true_eq] at h
   obtain ⟨h1, h2⟩ := zKh h.2
   refine ⟨by rw [List.map_cons, h.1.text, h1], ?_⟩
   rw [List.all_cons, h.1.fit, h2]; rfl
theorem allV_f {s : List zBI} {l : List Rat} (h : allV s l = true) : zB5 l = (s, 0) := by
 unfold zB5
 rw [if_pos (zKh h).2, (zKh h).1]
end Go.Ax.Rt
namespace Go.Ax.Rt
open Go.Ax.Bg Go.Ax.Idx
set_option maxRecDepth 100000
def zAF : zQ := [⟨2, 0, 0, [1, 2], [], []⟩, ⟨2, 1, 3, [3, 4], [], []⟩, ⟨2, 1, 3, [5, 6], [], []⟩, ⟨0, 0, 0, [], [], [45, 49]⟩, ⟨0, 0, 0, [], [], [49]⟩, ⟨0, 0, 0, [], [], [49]⟩, ⟨0, 0, 0, [], [], [45, 49]⟩]
def zBG (n : Int) : zAL := [⟨n, [[49, 47, 50], [49, 47, 50]]⟩]
theorem g_perf1 : zBL zAF 1 = true := by decide +kernel
theorem g_strat : zAl zAF 1 (zBG 3) = 0 := by decide +kernel
end Go.Ax.Rt
namespace Go.Proofs.YtnkealfaldjipaaGreatDoor
open Go.Ax Go.Ax.Bg Go.Ax.Rt Go.RowKit Go.Ax.Idx Go.Ax.Cd
attribute [local irreducible] Ax zBE QOp zV zAz
set_option maxRecDepth 100000
set_option maxHeartbeats 4000000
theorem seven {d : Nat} (h : d < 7) : d = 0 ∨ d = 1 ∨ d = 2 ∨ d = 3 ∨ d = 4 ∨ d = 5 ∨ d = 6 := by omega
theorem zDU : zX Tryz.prog 61 [] (.ro (zc zAF) 0 7) := by
 refine zV.value0 (zG (P := Tryz.prog) (fn := Tryz.f61) Y Y (by kernel_rfl) Y (fun c hR hfix => ?_)) (fix := fun _ => False) (fun _ h => h) Y Y
 repeat (first | refine zD (zL rfl) ?_ | refine zB ?_ | refine zA ?_ | refine zW ?_ | refine zK rfl ?_ | refine zD (zAR rfl rfl rfl rfl rfl rfl) ?_ | refine zj rfl rfl rfl rfl rfl rfl rfl rfl rfl rfl rfl ?_)
 refine z7 0 (.ro (zc zAF) 0 7) Y (AEq.ro_in Y (fun d j hd hj => ?_)) ?_
 · have hj : j < 6 := hj
   have hj3 : j = 0 ∨ j = 1 ∨ j = 2 ∨ j = 3 ∨ j = 4 ∨ j = 5 := by omega
   rcases seven hd with rfl | rfl | rfl | rfl | rfl | rfl | rfl <;> rcases hj3 with rfl | rfl | rfl | rfl | rfl | rfl <;> first | exact AEq.rfl' | exact AEq.nil
 repeat (refine zAX ?_)
 exact zI hR Y Y
theorem zGH (n : Int) : zX Tryz.prog 62 [.int .i64 n] (.ro (zm (zBG n)) 0 1) := by
 refine zV.value0 (zG (P := Tryz.prog) (fn := Tryz.f62) Y Y (by kernel_rfl) Y (fun c hR hfix => ?_)) (fix := fun _ => False) (fun _ h => h) Y Y
 repeat (first | refine zD (zH rfl) ?_ | refine zD (zL rfl) ?_ | refine zB ?_ | refine zA ?_ | refine zW ?_ | refine zK rfl ?_ | refine zD (zAR rfl rfl rfl rfl rfl rfl) ?_ | refine zj rfl rfl rfl rfl rfl rfl rfl rfl rfl rfl rfl ?_)
 refine z7 2 (.ro (zm (zBG n)) 0 1) Y (AEq.ro_in Y (fun d j hd hj => ?_)) ?_
 · have hj : j < 2 := hj
   have hj3 : j = 0 ∨ j = 1 := by omega
   obtain rfl : d = 0 := by omega
   rcases hj3 with rfl | rfl <;> exact AEq.rfl'
 repeat (refine zAX ?_)
 exact zI hR Y Y
end Go.Proofs.YtnkealfaldjipaaGreatDoor
namespace Go.Proofs.YtnkealfaldjipaaGreatDoor
open Go.Ax Go.Ax.Bg Go.Ax.Rt Go.RowKit
attribute [local irreducible] Ax zBE QOp zV zAz
set_option maxRecDepth 100000
set_option maxHeartbeats 4000000
open Go.Ax.Idx Go.Ax.Cd
theorem equalR (a b : List (List UInt8)) (hlen : a.length ≤ 9223372036854775807) (hlb : b.length ≤ 9223372036854775807) : zX Tryz.prog 44 [.ro (.strs a) 0 a.length, .ro (.strs b) 0 b.length] (.bool (decide (a = b))) := by
 refine zV.value0 (zG (P := Tryz.prog) (fn := Tryz.f44) Y Y (by kernel_rfl) Y (fun c hR hfix => ?_)) (fix := fun _ => False) (fun _ h => h) Y Y
 refine rn3 ?_
 refine zE Y (fun h => ?_) (fun h => ?_)
 · refine rn2 ?_
   refine zI hR Y ?_
   have : ¬ a = b := by rintro rfl; exact h rfl
   simp [zBQ, this]
 have hab : a.length = b.length := by omega
 refine rn3 ?_
 refine zi (ι := Nat) (fun k => [(0, .ro (.strs a) 0 a.length), (1, .ro (.strs b) 0 b.length), (12, .int .i64 (a.length : Nat)), (13, .int .i64 (k : Nat))]) (fun _ => [])
   (fun k => k ≤ a.length ∧ a.take k = b.take k) (fun k => a.length - k) 0 ⟨⟨rfl, rfl, rfl, rfl, trivial⟩, rfl, Nat.zero_le _, rfl⟩ ?_
 intro k ⟨hk, heq⟩
 refine rn4 ?_
 refine zE Y (fun h2 => ?_) (fun h2 => ?_)
 · have hk' : k < a.length := by omega
   have ha := zAm a [] k hk'
   have hb := zAm b [] k (by omega)
   refine rn1 ?_
   refine zDt (by kernel_rfl) (by kernel_rfl) Y ?_
   repeat (first | refine zD (zH rfl) ?_ | refine zB ?_ | refine zA ?_ | refine zD (zE1 rfl rfl rfl) ?_ | refine zD (zf rfl rfl rfl rfl (by first | (simp only [Nat.zero_add, Int.toNat_natCast, Int.toNat_zero]; exact rfl) | exact rfl) (by omega)) ?_ | refine zD (zGp rfl rfl) ?_)
   refine zE Y (fun h3 => ?_) (fun h3 => ?_)
   · refine rn6 ?_
     refine zI hR Y ?_
     have : ¬ a = b := by rintro rfl; exact h3 rfl
     simp [zBQ, this]
   · refine rn5 ?_
     have h4 : a.getD k [] = b.getD k [] := Classical.not_not.1 h3
     exact zM ⟨k + 1, ⟨by omega, by rw [ha, hb, heq, h4]⟩, by omega, ⟨Y, Y, Y, Y, trivial⟩, Y⟩
 · have hk' : k = a.length := by omega
   subst hk'
   rw [List.take_length, hab, List.take_length] at heq
   refine rn5 ?_
   refine zI hR Y ?_
   simp [zBQ, heq]
theorem hlen2 {l : List (List UInt8)} (h : (l.all fun s => decide (s.length ≤ 100)) = true) : ∀ s ∈ l, s.length ≤ 9223372036854775807 := fun s hs => by
 have := List.all_eq_true.1 h s hs
 have := of_decide_eq_true this
 omega
end Go.Proofs.YtnkealfaldjipaaGreatDoor
namespace Go.Proofs.YtnkealfaldjipaaGreatDoor
open Go.Ax Go.Ax.Bg Go.Ax.Rt Go.RowKit Go.Ax.Idx Go.Ax.Cd
attribute [local irreducible] Ax zBE QOp zV zAz
set_option maxRecDepth 100000
set_option maxHeartbeats 4000000
def zGV : zAL := [⟨3, [[49], [48]]⟩]
theorem zFL : ShortT zAF := ⟨by decide, fun n hn => by
 simp only [zAF, List.mem_cons, List.not_mem_nil, or_false] at hn
 rcases hn with rfl | rfl | rfl | rfl | rfl | rfl | rfl <;> exact ⟨by decide, by decide, by decide, by decide⟩⟩
theorem zL9 : Go.Ax.Rt.Modest zAF := zI4 (by decide)
theorem zG4 (n : Int) : ShortS (zBG n) := ⟨(by decide : 1 ≤ 9223372036854775807), fun c hc => by
 rw [List.mem_singleton.1 hc]; exact ⟨(by decide : 2 ≤ 9223372036854775807), fun s hs => by simp at hs; subst hs; decide⟩⟩
theorem zRJ : ShortS zGV := ⟨by decide, fun c hc => by
 rw [List.mem_singleton.1 hc]; exact ⟨by decide, fun s hs => by simp at hs; rcases hs with rfl | rfl <;> decide⟩⟩
theorem zPy (n : Int) : ∀ c ∈ zBG n, ∀ r ∈ c.odds, r.length ≤ 12 := fun c hc => by
 rw [List.mem_singleton.1 hc]; intro r hr; simp at hr; subst hr; decide
theorem sureDig : ∀ c ∈ zGV, ∀ r ∈ c.odds, r.length ≤ 12 := fun c hc => by
 rw [List.mem_singleton.1 hc]; intro r hr; simp at hr; rcases hr with rfl | rfl <;> decide
theorem zP7 : Small zAF [zBG 0, zBG 3] := ⟨zFL, zL9, fun x hx => by
 simp at hx; rcases hx with rfl | rfl <;> exact zG4 _, fun x hx => by
 simp at hx; rcases hx with rfl | rfl <;> exact zPy _⟩
theorem gSmall1 : Small zAF [zGV] := ⟨zFL, zL9, fun x hx => by
 rw [List.mem_singleton.1 hx]; exact zRJ, fun x hx => by
 rw [List.mem_singleton.1 hx]; exact sureDig⟩
theorem zP1 : zEH zAF (zBG 0) (zBG 3) = 0 := by decide +kernel
theorem gValue : zHp zAF (zBG 0) (zBG 3) = ([48], 0) := by
 unfold zHp
 rw [if_neg (fun h => h zP1)]
 exact IsQ.out (show IsQ [48] _ by decide +kernel)
theorem gOdds : zIL zAF (zBG 0) (zBG 3) = ([[49], [49, 47, 50], [49, 47, 50], [49, 47, 52], [49, 47, 52], [49, 47, 52], [49, 47, 52]], 0) := by
 unfold zIL
 rw [if_neg (fun h => h zP1)]
 exact allV_f (by decide +kernel)
theorem gBest : zKf zAF 0 zGV = ([49], [⟨0, [[48], [49]]⟩], 0) := by
 have e1 : zH4 zAF 0 zGV = 0 := by decide +kernel
 have e2 : zHM (zJS zAF 0 zGV) = ([49], 0) := IsQ.out (show IsQ [49] _ by decide +kernel)
 have e3 : zGB zAF 0 (zA9 zAF 0 zGV) = [⟨0, [[48], [49]]⟩] := by
   have h1 : zJ zAF 0 = [0] := by decide +kernel
   have h2 : bestC zAF 0 (zA9 zAF 0 zGV) 0 = 1 := by decide +kernel
   have h3 : zT zAF 0 0 = 2 := by decide +kernel
   unfold zGB
   rw [h1]
   show [zB1 zAF 0 (zA9 zAF 0 zGV) 0] = _
   unfold zB1
   rw [h2, h3]; rfl
 unfold zKf
 rw [if_neg (fun h => h e1), e2, if_neg (fun h => h rfl), e3]
theorem gCheck0 : zEH zAF [] (zBG 3) = 3 := by decide +kernel
theorem zRD : zX Tryz.prog 15 [] (.bool true) := by
 have c1 := zLS zAF (zBG 0) (zBG 3) zP7
 rw [gValue] at c1
 have c2 := rodds_ok zAF (zBG 0) (zBG 3) zP7
 rw [gOdds] at c2
 have c2 : zX Tryz.prog 21 [.ro (zc zAF) 0 7, .ro (zm (zBG 0)) 0 1, .ro (zm (zBG 3)) 0 1] (.tup [.ro (.strs [[49], [49, 47, 50], [49, 47, 50], [49, 47, 52], [49, 47, 52], [49, 47, 52], [49, 47, 52]]) 0 7, .int .i64 0]) := c2
 have c3 := best_ok zAF 0 zGV gSmall1
 rw [gBest] at c3
 have c3 : zX Tryz.prog 18 [.ro (zc zAF) 0 7, .int .i64 0, .ro (zm zGV) 0 1] (.tup [.str [49], .ro (zm [⟨0, [[48], [49]]⟩]) 0 1, .int .i64 0]) := c3
 have c4 := zHs zAF [] (zBG 3) zFL ⟨by decide, fun c hc => by simp at hc⟩ (zG4 3)
 rw [gCheck0] at c4
 have c4' : zX Tryz.prog 63 [.ro (zc zAF) 0 7, .nil, .ro (zm (zBG 3)) 0 1] (.int .i64 3) := fun H => zV.args (c4 H) ⟨AEq.rfl', AEq.nil, AEq.rfl', trivial⟩
 have f3 : zX Tryz.prog 24 [.ro (.ints .i64 [0, 0, 0]) 0 3] (.bool true) := fineI [0, 0, 0] (by decide)
 have v1 := equalR [[48], [49]] [[48], [49]] (by decide) (by decide)
 rw [decide_eq_true rfl] at v1
 refine zV.value0 (zG (P := Tryz.prog) (fn := Tryz.f15) Y Y (by kernel_rfl) Y (fun c hR hfix => ?_)) (fix := fun _ => False) (fun _ h => h) Y Y
 refine rn0 ?_
 refine zC Y Y Y zDU ?_
 skip
 refine zC Y Y Y (zGH 0) ?_
 skip
 refine zC Y Y Y (zGH 3) ?_
 skip
 refine zC Y Y Y c1 ?_
 unfold zNr
 refine rn2 ?_
 refine zC Y Y Y zDU ?_
 skip
 refine zC Y Y Y (zGH 0) ?_
 skip
 refine zC Y Y Y (zGH 3) ?_
 skip
 refine zC Y Y Y c2 ?_
 refine rn2 ?_
 refine zC Y Y Y zDU ?_
 repeat (first | refine zD (zAR rfl rfl rfl rfl rfl rfl) ?_ | refine zj rfl rfl rfl rfl rfl rfl rfl rfl rfl rfl rfl ?_)
 refine zN 26 (.ro (zm zGV) 0 1) Y (AEq.ro_in Y (fun d j hd hj => ?_)) ?_
 · have hj : j < 2 := hj
   have hj3 : j = 0 ∨ j = 1 := by omega
   obtain rfl : d = 0 := by omega
   rcases hj3 with rfl | rfl <;> exact AEq.rfl'
 refine zC Y Y Y c3 ?_
 refine rn3 ?_
 refine zC Y Y Y f3 ?_
 repeat (first | refine zD (zH rfl) ?_ | refine zAI rfl rfl ?_ | refine zD (zE1 rfl rfl rfl) ?_ | refine zD (zBl rfl rfl rfl rfl) ?_ | refine zD (zEk rfl rfl) ?_ | refine zD (zAg rfl rfl) ?_ | refine zD (zA6 rfl rfl rfl) ?_ | refine zD (zf rfl rfl rfl rfl (by first | (simp only [Nat.zero_add, Int.toNat_natCast, Int.toNat_zero]; exact rfl) | exact rfl) (by omega)) ?_ | refine zD (zFr rfl rfl) ?_ | refine zD (zAu rfl rfl rfl rfl rfl rfl) ?_ | refine zj rfl rfl rfl rfl rfl rfl rfl rfl rfl rfl rfl ?_)
 refine zC Y Y Y v1 ?_
 refine rn2 ?_
 refine zC Y Y Y zDU ?_
 repeat (refine zAI rfl rfl ?_)
 refine zC Y Y Y (zGH 3) ?_
 repeat (refine zAI rfl rfl ?_)
 refine zC Y Y Y c4' ?_
 refine rn4 ?_
 exact zI hR Y Y
def zGX : zB2 := [⟨[0], [49, 47, 50]⟩, ⟨[1], [49, 47, 50]⟩]
theorem cg1 : zOI zAF 1 = ([[0], [1]], 0) := by decide +kernel
theorem cg2 : zAZ zAF 1 = 0 := by decide +kernel
theorem cg3 : zHQ (zAS zAF 1) [[]] = some [[0], [1]] := by decide +kernel
theorem cg4 : zCN (zBG 3) [[0], [1]] = [[0], [1]] := by decide +kernel
theorem cg5 : IsQ [49, 47, 50] (zCX (zBG 3) [0]) := by decide +kernel
theorem cg6 : IsQ [49, 47, 50] (zCX (zBG 3) [1]) := by decide +kernel
theorem gMixed : zBr zAF 1 (zBG 3) = (zGX, 0) := by
 unfold zBr
 rw [if_neg (fun q => q cg2), if_neg (fun q => q g_strat), cg3]
 show zC2 (zBG 3) [[0], [1]] = _
 unfold zC2
 rw [cg4]
 have h : ([[0], [1]] : List (List Int)).all (fun c => zBP (zCX (zBG 3) c)) = true := by
   show (zBP (zCX (zBG 3) [0]) && (zBP (zCX (zBG 3) [1]) && true)) = true
   rw [cg5.fit, cg6.fit]; rfl
 rw [if_pos h]
 show (([⟨[0], zAG (zCX (zBG 3) [0])⟩, ⟨[1], zAG (zCX (zBG 3) [1])⟩] : zB2), (0 : Int)) = _
 rw [cg5.text, cg6.text]; rfl
theorem cg7 : zC6 zAF 1 zGX = 0 := by decide +kernel
theorem cg8 : zJ zAF 1 = [3] := by decide +kernel
theorem cg9 : zB5 (zE7 zAF 1 (zCt zAF 1 zGX) 3) = ([[49, 47, 50], [49, 47, 50]], 0) := allV_f (by decide +kernel)
theorem gBeh : behR zAF 1 zGX = (zBG 3, 0) := by
 rw [zL4 cg7 g_perf1, cg8]
 have h := cg9
 unfold zB5 at h
 cases hf : (zE7 zAF 1 (zCt zAF 1 zGX) 3).all zBP
 · rw [hf, if_neg (by decide)] at h; cases h
 · rw [hf, if_pos rfl] at h
   have h1 : (zE7 zAF 1 (zCt zAF 1 zGX) 3).map zAG = [[49, 47, 50], [49, 47, 50]] := congrArg Prod.fst h
   have h2 : ([3] : List Int).all (fun x => (zE7 zAF 1 (zCt zAF 1 zGX) x).all zBP) = true := by
     show ((zE7 zAF 1 (zCt zAF 1 zGX) 3).all zBP && true) = true
     rw [hf]; rfl
   rw [if_pos h2]
   unfold behS
   rw [cg8]
   show (([⟨3, (zE7 zAF 1 (zCt zAF 1 zGX) 3).map zAG⟩] : zAL), (0 : Int)) = _
   rw [h1]; rfl
theorem cgA : zAl zAF (1 - 1) (zBG 0) = 0 := by decide +kernel
theorem gPay : payR zAF 1 zGX (zBG 0) = ([48], 0) := by
 unfold payR
 rw [if_neg (fun q => q cg7), if_neg (fun q => q cgA)]
 exact IsQ.out (show IsQ [48] _ by decide +kernel)
theorem cgB : zC6 zAF 1 [] = 3 := by decide +kernel
theorem zOM : ShortX zGX := ⟨by decide, fun a ha => by
 simp [zGX] at ha; rcases ha with rfl | rfl <;> decide, fun a ha => by
 simp [zGX] at ha; rcases ha with rfl | rfl <;> decide⟩
theorem zN6 : zX Tryz.prog 34 [] (.bool true) := by
 have c1 := cpure_ok zAF 1 zFL
 rw [cg1] at c1
 have c1 : zX Tryz.prog 100 [.ro (zc zAF) 0 7, .int .i64 1] (.tup [.ro (zBC [[0], [1]]) 0 2, .int .i64 0]) := c1
 have c2 := zNH zAF 1 (zBG 3) zFL (zG4 3)
 rw [gMixed] at c2
 have c2 : zX Tryz.prog 35 [.ro (zc zAF) 0 7, .int .i64 1, .ro (zm (zBG 3)) 0 1] (.tup [.ro (mxC zGX) 0 2, .int .i64 0]) := c2
 have c3 := zRR zAF 1 zGX zFL zOM
 rw [gBeh] at c3
 have c3 : zX Tryz.prog 36 [.ro (zc zAF) 0 7, .int .i64 1, .ro (mxC zGX) 0 2] (.tup [.ro (zm (zBG 3)) 0 1, .int .i64 0]) := c3
 have c4 := pay_ok zAF 1 zGX (zBG 0) zFL zL9 zOM (zG4 0) (zPy 0)
 rw [gPay] at c4
 have c4 : zX Tryz.prog 47 [.ro (zc zAF) 0 7, .int .i64 1, .ro (mxC zGX) 0 2, .ro (zm (zBG 0)) 0 1] (.tup [.str [48], .int .i64 0]) := c4
 have c5 := zHB zAF 1 [] zFL ⟨by decide, fun a ha => by simp at ha, fun a ha => by simp at ha⟩
 rw [cgB] at c5
 have c5' : zX Tryz.prog 48 [.ro (zc zAF) 0 7, .int .i64 1, .nil] (.int .i64 3) := fun H => zV.args (c5 H) ⟨AEq.rfl', AEq.rfl', AEq.nil, trivial⟩
 have e1 : zX Tryz.prog 101 [.ro (.ints .i64 [1]) 0 1, .ro (.ints .i64 [1]) 0 1] (.bool true) := equalI [1] [1] (by decide) (by decide)
 have e2 : zX Tryz.prog 44 [.ro (.strs [[49, 47, 50], [49, 47, 50]]) 0 2, .ro (.strs [[49, 47, 50], [49, 47, 50]]) 0 2] (.bool true) := equalR [[49, 47, 50], [49, 47, 50]] [[49, 47, 50], [49, 47, 50]] (by decide) (by decide)
 have f2 : zX Tryz.prog 24 [.ro (.ints .i64 [0, 0, 0, 0]) 0 4] (.bool true) := fineI [0, 0, 0, 0] (by decide)
 refine zV.value0 (zG (P := Tryz.prog) (fn := Tryz.f34) Y Y (by kernel_rfl) Y (fun c hR hfix => ?_)) (fix := fun _ => False) (fun _ h => h) Y Y
 refine rn0 ?_
 refine zC Y Y Y zDU ?_
 skip
 refine zC Y Y Y c1 ?_
 refine rn2 ?_
 refine zC Y Y Y zDU ?_
 skip
 refine zC Y Y Y (zGH 3) ?_
 skip
 refine zC Y Y Y c2 ?_
 refine rn2 ?_
 refine zC Y Y Y zDU ?_
 repeat (refine zD (zH rfl) ?_)
 refine zC Y Y Y c3 ?_
 refine rn2 ?_
 refine zC Y Y Y zDU ?_
 repeat (refine zD (zH rfl) ?_)
 refine zC Y Y Y (zGH 0) ?_
 skip
 refine zC Y Y Y c4 ?_
 refine rn3 ?_
 refine zC Y Y Y f2 ?_
 refine rn6 ?_
 refine zC Y Y Y e1 ?_
 repeat (first | refine zD (zH rfl) ?_ | refine zAI rfl rfl ?_ | refine zD (zBl rfl rfl rfl rfl) ?_ | refine zD (zEk rfl rfl) ?_ | refine zD (zAg rfl rfl) ?_ | refine zD (zA6 rfl rfl rfl) ?_ | refine zD (zf rfl rfl rfl rfl (by first | (simp only [Nat.zero_add, Int.toNat_natCast, Int.toNat_zero]; exact rfl) | exact rfl) (by omega)) ?_ | refine zD (zFr rfl rfl) ?_ | refine zD (zAu rfl rfl rfl rfl rfl rfl) ?_ | refine zj rfl rfl rfl rfl rfl rfl rfl rfl rfl rfl rfl ?_)
 refine zC Y Y Y e2 ?_
 refine rn6 ?_
 refine zC Y Y Y zDU ?_
 repeat (refine zAI rfl rfl ?_)
 refine zC Y Y Y c5' ?_
 refine rn4 ?_
 exact zI hR Y Y
theorem len_of2 {s : List UInt8} (h : zDa s = 0) : s.length ≤ 4002 := by
 have hf := (IsQ.self h).fit
 rw [← (IsQ.self h).text]
 unfold zBP at hf
 rw [Bool.and_eq_true, decide_eq_true_eq, decide_eq_true_eq] at hf
 unfold zAG
 rw [List.length_append, List.length_append]
 split <;> split <;> simp <;> omega
theorem zPL {t : zQ} {p : Int} {s : zAL} (h : (zBr t p s).2 ≠ 0) : (zBr t p s).1 = [] := by
 unfold zBr at *
 split
 · rfl
 split
 · rfl
 rename_i h1 h2
 rw [if_neg h1, if_neg h2] at h
 cases ha : zHQ (zAS t p) [[]] with
 | none => rfl
 | some l =>
   rw [ha] at h
   have h : (zC2 s l).2 ≠ 0 := h
   show (zC2 s l).1 = []
   unfold zC2 at h ⊢
   split
   · rename_i h3; rw [if_pos h3] at h; exact absurd rfl h
   · rfl
theorem zRA {t : zQ} {p : Int} {l : zB2} (h : zC6 t p l = 0) : ShortX l := by
 obtain ⟨_, hO⟩ := zEb h
 obtain ⟨h1, _, h3⟩ := hO.wgt
 have h4 : (zJ t p).length ≤ 10 := by
   unfold zJ
   exact Nat.le_trans (List.length_filter_le _ _) (by simp)
 exact ⟨by omega, fun a ha => by have := hO.len a ha; omega, fun a ha => by have := len_of2 (h1 a ha).1; omega⟩
theorem zOs {t : zQ} {p : Int} (h : zAZ t p = 0) : zKa t p = (zBL t p, 0) := by
 unfold zKa
 rw [if_neg (fun q => q h)]
end Go.Proofs.YtnkealfaldjipaaGreatDoor
namespace Go.Ax
variable [Pins]
open Go.RowKit
section
variable {P : Program} {fn : Func} {c : Ctx} {fr : Fr} {H : zZ} {k : List It}
theorem zOa {all : Array Oper} {d : Nat} {t tn e : TypeId} {x y : Operand} {ty : TypeId} {pos : String} {after : Array Edge} {rest : List Oper} {inf : TypeInfo} {z : Value} {zs : List AV} {n : Int} {k1 kn : IntKind}
   (ht : P.underlying t = some (.slice e)) (htn : P.underlying tn = some (.int kn)) (hi : P.info? e = some inf) (hz : inf.zero = some z) (hsz : inf.size = zs.length) (hzs : zav z = some zs) (hpos : Nat.blt 0 zs.length = true)
   (hx : ev fr x = some .nil) (hy : ev fr y = some (.int k1 n)) (hb : 0 < n ∧ (n : Int) * inf.bytes ≤ 281474976710656 ∧ n ≤ 9223372036854775807)
   (hk : Ax P fn c (.ops false all rest k) ((d, .sl H.length 0 n.toNat) :: fr) (H ++ [some ⟨e, zAd n.toNat zs⟩])) : Ax P fn c (.ops false all (⟨some d, .call { callee := .builtin .append, args := #[x, y], argTypes := #[t, tn] }, ty, pos, after, none⟩ :: rest) k) fr H := by
 refine zJU (fun w a σ S hr => ?_) hk
 obtain ⟨z1, z2, z3⟩ := zDg n.toNat zs
 obtain ⟨y1, y2⟩ := zE5 (w := w) (S := S) (σ := σ) hzs
 have hpos' : 0 < zs.length := Nat.le_of_ble_eq_true hpos
 have h1 := hr.evAt hx
 have h2 := hr.evInt hy
 generalize hzx : a.eval x = vx at h1
 cases h1
 obtain ⟨m, rfl⟩ : ∃ m : Nat, n = m := ⟨n.toNat, by omega⟩
 simp only [Int.toNat_natCast] at *
 have hbb : m * inf.bytes ≤ 281474976710656 := by
   have := hb.2.1
   rw [← Int.natCast_mul] at this
   omega
 have hrun := Lib.run_append_nil_zeros (P := P) w t tn ty e inf z k1 kn ht htn hi hz m (by omega) (by omega) (by omega) (by omega)
 have hexec : (execOp a.eval ⟨some d, .call { callee := .builtin .append, args := #[x, y], argTypes := #[t, tn] }, ty, pos, after, none⟩).run P w = .ok (.value (.slice (some ⟨w.heap.size, 0, none⟩) m (grownCap w m 0 e))) (w.drew.alloc (.cells (Builtin.zeroCells z.cells m ++ Builtin.zeroCells z.cells (grownCap w m 0 e - m)) e)) := by
   simp [execOp, resolve, hzx, h2, invoke, builtin, hrun]
 have hge := grownCap_ge w m 0 e
 have hle := grownCap_le_maxLen w m 0 e (by unfold maxLen; omega)
 generalize grownCap w m 0 e = G at hexec hge hle
 have hd : Rep c w.drew a σ S fn.ntmps fr H := hr.drewN (m := 1)
 refine ⟨_, _, _, S, hexec, hd.alloc (o := ⟨e, zAd m zs⟩) (C := G) (cur := Builtin.zeroCells z.cells m ++ Builtin.zeroCells z.cells (G - m)) (by rw [z1]; exact hge) hle (by
   simp only [Array.size_append, size_zeroCells, z2, y1, ← Nat.add_mul]; congr 1; omega) (fun i j hi hj => ?_), ?_⟩
 · simp only [z1] at hi
   simp only [z2] at hj ⊢
   rw [z3 i j hi hj]
   have hlt : i * zs.length + j < m * zs.length := by
     have : (i + 1) * zs.length ≤ m * zs.length := Nat.mul_le_mul_right _ (by omega)
     rw [Nat.add_mul] at this; omega
   have hm : (i * zs.length + j) % zs.length = j := by rw [Nat.mul_comm, Nat.mul_add_mod]; exact Nat.mod_eq_of_lt hj
   refine ⟨z.cells.getD j undef, ?_, ?_, (y2 j hj).2⟩
   · rw [Array.getElem?_append_left (by simp [size_zeroCells, y1]; exact hlt)]
     have hlt2 : i * zs.length + j < m * z.cells.size := by rw [y1]; exact hlt
     have hjz : j < z.cells.size := by rw [y1]; exact hj
     simp [Builtin.zeroCells, y1, hm, Array.getD, hlt, hj]
   · exact VR.mono (w := w) (w' := w.drew) (S := S) (S' := S) (σ := σ) (fun _ h => h) (fun _ _ => rfl) (y2 j hj).1 _ (fun _ _ h => h)
 · have := VR.sl (w := w.drew.alloc (.cells (Builtin.zeroCells z.cells m ++ Builtin.zeroCells z.cells (G - m)) e)) (S := S) (upσ σ H.length (.at w.heap.size (zAd m zs).sz G)) H.length 0 m w.heap.size (zAd m zs).sz G G (by simp [upσ]) (by omega) (by omega)
   simpa using this
/-- x = append(x, y...) where x has room. -/
theorem zKK {all : Array Oper} {d : Nat} {t e : TypeId} {x y : Operand} {ty : TypeId} {pos : String} {after : Array Edge} {rest : List Oper} {inf : TypeInfo} {h n : Nat} {o : AObj} {v : AV} {cx c' : Cells} {i2 m : Nat}
   (ht : P.underlying t = some (.slice e)) (hi : P.info? e = some inf) (hszz : inf.size = o.c.sz) (hx : ev fr x = some (.sl h 0 n)) (hh : H[h]? = some (some o)) (hoty : o.ty = e) (hy : ev fr y = some v) (hs : zNK H v = some (cx, i2, m))
   (hin0 : n + m ≤ o.c.len) (hpos : 0 < o.c.len) (hin : i2 + m ≤ cx.len) (p1 : c'.sz = o.c.sz) (p2 : cx.sz = o.c.sz) (p3 : c'.len = o.c.len)
   (p4 : ∀ i' j, i' < o.c.len → j < o.c.sz → c'.at i' j = if n ≤ i' ∧ i' < n + m then cx.at (i2 + (i' - n)) j else o.c.at i' j)
   (hk : Ax P fn c (.ops false all rest k) ((d, .sl h 0 (n + m)) :: fr) (H.set h (some ⟨o.ty, c'⟩))) (hz : o.c.sz ≠ 0 := by (intro hh; cases hh)) : Ax P fn c (.ops false all (⟨some d, .call { callee := .builtin .append, args := #[x, y], argTypes := #[t, t] }, ty, pos, after, none⟩ :: rest) k) fr H := by
 refine zJU (fun w a σ S hr => ?_) hk
 subst hoty
 have h1 := hr.evAt hx
 have h2 := hr.evAt hy
 have hsrc := hr.src h2 hs (fun _ _ => hin)
 have hexec : ∀ r w', (Builtin.append_ #[t, t] ty #[a.eval x, a.eval y]).run P w = .ok r w' → (execOp a.eval ⟨some d, .call { callee := .builtin .append, args := #[x, y], argTypes := #[t, t] }, ty, pos, after, none⟩).run P w = .ok (.value r) w' := by
   intro r w' h
   simp [execOp, resolve, invoke, builtin, h]
 generalize hzx : a.eval x = vx at h1 hexec
 generalize hzy : a.eval y = vy at h2 hsrc hexec
 unfold Src at hsrc
 rw [p2] at hsrc
 cases h1 with
 | sl0 _ _ hσ =>
   rcases hr.hr.live h o hh with ⟨_, hl⟩ | ⟨b, C, cur, hσ', _⟩
   · omega
   · rw [hσ] at hσ'; cases hσ'
 | sl _ _ _ _ b s C cap hσ hlen hcap =>
   obtain ⟨hs', cur, g1, g2, g3, g4, g5, g6⟩ := hr.obj hh hσ
   subst hs'
   have hcapC : cap = C := by omega
   subst hcapC
   obtain ⟨mk, g1, hmk, hrow⟩ := g1.cells hz
   rcases hsrc with ⟨rfl, ax, capx, rfl⟩ | ⟨ad, capx, news, rfl, q1, q2, q3, q4⟩
   · have hrun : (Builtin.append_ #[t, t] ty #[.slice (some ⟨b, 0 * o.c.sz, none⟩) n cap, .slice ax 0 capx]).run P w = .ok (.slice (some ⟨b, 0 * o.c.sz, none⟩) n cap) w := by
       have hle : n ≤ cap := by omega
       cases ax <;> simp [Builtin.append_, run_underlying ht, sizeOf, typeInfo, hi, Builtin.lenOf, hle, Builtin.firstCells, loadCells, loadCellsFrom, storeCells]
     have hself := setRow_self w b cur o.ty mk g1
     have hrep := hr.setRow (cur' := cur) hh hσ hrow p1 (by omega) g2 (fun i' j hi' hj => by
       rw [p3] at hi'
       rw [p1] at hj ⊢
       rw [p4 i' j hi' hj, if_neg (by omega)]
       exact g6 i' j hi' hj)
     rw [hself] at hrep
     exact ⟨_, w, σ, S, hexec _ _ hrun, hrep, .sl _ _ _ _ _ _ _ _ hσ (by omega) (by omega)⟩
   · have hroom : n + m ≤ cap := by omega
     have hfit : n * o.c.sz + news.length ≤ cur.size := by rw [q1, g2, ← Nat.add_mul]; exact Nat.mul_le_mul_right _ hroom
     have hrun := zEn (P := P) w t ty o.ty inf ht hi b n cap cur g1 hmk ad m capx news (by rw [hszz]; exact q1) q2 q3 hroom (by rw [hszz]; exact hfit)
     rw [hszz] at hrun
     have hb0 : (cur.toList.take (n * o.c.sz)).length = n * o.c.sz := by rw [List.length_take]; simp; omega
     refine ⟨_, _, σ, S, hexec _ _ (by simpa using hrun), hr.setRow hh hσ hrow p1 (by omega) ?_ (fun i' j hi' hj => ?_), .sl _ _ _ _ _ _ _ _ hσ (by omega) (by omega)⟩
     · rw [← g2]; simp; omega
     · rw [p3] at hi'
       rw [p1] at hj ⊢
       rw [p4 i' j hi' hj]
       split
       · rename_i hr1
         obtain ⟨u, e1, e2⟩ := q4 (i' - n) j (by omega) hj
         refine ⟨u, ?_, e2, q3 u (List.mem_of_getElem? e1)⟩
         have hidx : i' * o.c.sz + j = n * o.c.sz + ((i' - n) * o.c.sz + j) := by
           rw [← Nat.add_assoc, ← Nat.add_mul]; congr 2; omega
         have hlt : (i' - n) * o.c.sz + j < news.length := by
           rw [q1]
           have : (i' - n + 1) * o.c.sz ≤ m * o.c.sz := Nat.mul_le_mul_right _ (by omega)
           rw [Nat.add_mul] at this; omega
         simp only [List.getElem?_toArray, List.append_assoc]
         rw [hidx, List.getElem?_append_right (by omega), hb0, Nat.add_sub_cancel_left, List.getElem?_append_left hlt]
         exact e1
       · rename_i hr1
         obtain ⟨u, e1, e2, e3⟩ := g6 i' j hi' hj
         refine ⟨u, ?_, e2, e3⟩
         simp only [List.getElem?_toArray, List.append_assoc]
         by_cases hlo : i' < n
         · have hlt : i' * o.c.sz + j < n * o.c.sz := by
             have : (i' + 1) * o.c.sz ≤ n * o.c.sz := Nat.mul_le_mul_right _ (by omega)
             rw [Nat.add_mul] at this; omega
           rw [List.getElem?_append_left (by omega), List.getElem?_take, if_pos hlt]
           simpa using e1
         · have hhi : n + m ≤ i' := by omega
           have hge : (n + m) * o.c.sz ≤ i' * o.c.sz := Nat.mul_le_mul_right _ hhi
           rw [Nat.add_mul, ← q1] at hge
           rw [List.getElem?_append_right (by omega), hb0, List.getElem?_append_right (by omega), List.getElem?_drop]
           have : n * o.c.sz + news.length + (i' * o.c.sz + j - n * o.c.sz - news.length) = i' * o.c.sz + j := by omega
           rw [this]
           simpa using e1
end
end Go.Ax
namespace Go.Proofs.YtnkealfaldjipaaGreatDoor
open Go.Ax Go.Ax.Bg Go.Ax.Rt Go.RowKit Go.Ax.Idx Go.Ax.Cd
attribute [local irreducible] Ax zBE QOp zV zAz
set_option maxRecDepth 100000
set_option maxHeartbeats 4000000
def zIn (o : Option TChoice) : List AV := match o with
 | none => [.int .i64 0, .nil]
 | some c => cellsC c
abbrev mixC (l : List (Option TChoice)) : Cells := zCg none 2 zIn l
theorem mix_zero (n : Nat) : CEq (zAd n [.int .i64 0, .nil]) (mixC (List.replicate n none)) := by
 refine ⟨by simp [zCg, Cells.len, zAd], Y, fun i j hi hj => ?_⟩
 have hi : i < n := by simpa [Cells.len, zAd] using hi
 show (zIn ((List.replicate n (none : Option TChoice)).getD i none)).getD j .any = _
 rw [zAC none (by simpa using hi), List.getElem_replicate]
 rfl
theorem mix_map (l : List TChoice) : CEq (mixC (l.map some)) (zm l) := by
 refine ⟨by simp [zCg, Cells.len], Y, fun i j hi hj => ?_⟩
 have hi : i < l.length := by simpa [zCg, Cells.len] using hi
 show (cellsC (l.getD i ch0)).getD j .any = (zIn ((l.map some).getD i none)).getD j .any
 rw [zBB some l ch0 none i hi]
 rfl
theorem zN7 (l : List (Option TChoice)) : zAA (mixC l) := by
 intro i j _ hj
 have hj : j < 2 := hj
 show noRef ((zIn (l.getD i none)).getD j .any) = true
 cases l.getD i none with
 | none => match j, hj with
   | 0, _ => rfl
   | 1, _ => rfl
 | some c => match j, hj with
   | 0, _ => rfl
   | 1, _ => rfl
theorem growM (n : Nat) (h0 : 0 < n) (h1 : n ≤ 8796093022208) : zHY Tryz.prog 129 [.nil, .int .i64 (n : Nat)] (fun N => .sl N 0 0) ⟨67, mixC (List.replicate n none)⟩ := by
 refine zV.fresh (K := fun r H => r = .sl 0 0 0 ∧ H = [some ⟨67, mixC (List.replicate n none)⟩]) (zG (P := Tryz.prog) (fn := Tryz.f129) Y Y (by kernel_rfl) Y (fun c hR hfix => ?_)) (fix := fun _ => False) (fun _ h => h) Y (fun H => ⟨Y, by simp [zG1, inB]⟩) ?_
 · repeat (first | refine zD (zH rfl) ?_ | refine zD (zL rfl) ?_ | refine zB ?_ | refine zA ?_ | refine zW ?_ | refine zK rfl ?_ | refine zx rfl ?_ | refine zk ?_ | refine zD (zJp rfl rfl) ?_ | refine zD (zIT rfl rfl) ?_ | refine zD (zA6 rfl rfl rfl) ?_ | refine zD (zBe rfl rfl (by omega)) ?_ | refine zD (zIR rfl rfl) ?_)
   refine zE Y (fun h => ?_) (fun h => absurd h (by omega))
   repeat (first | refine zD (zH rfl) ?_ | refine zK rfl ?_ | refine zD (zIR rfl rfl) ?_ | refine zD (zKz rfl rfl rfl rfl rfl rfl rfl) ?_)
   refine zOa Y Y Y Y Y Y Y Y Y (by show 0 < _ ∧ _ * 32 ≤ _ ∧ _; omega) ?_
   refine rn3 ?_
   refine zD (zGv Y Y Y Y Y Y Y Y (by omega)) ?_
   refine zAp [some ⟨67, mixC (List.replicate n none)⟩] (z6.eqv (by rw [show (((n : Nat) : Int) - (0 - ((0 : Nat) : Int))).toNat = n by omega]; exact mix_zero n) z6.nil) ?_
   refine rn0 ?_
   exact zI hR Y ⟨Y, Y⟩
 · rintro r H ⟨rfl, rfl⟩
   refine ⟨?_, fun h o ho => zFq (zN7 _) h o ho, 0, Y, fun n => rfl⟩
   intro o ho; simp at ho; subst ho; exact Nat.zero_le _
/-- the row while it is filled -/
def zGE (ls : List zAL) (n k : Nat) : List (Option TChoice) := (ls.take k).flatten.map some ++ List.replicate (n - (ls.take k).flatten.length) none
theorem zKb {ls : List zAL} {n k : Nat} (h : (ls.take k).flatten.length ≤ n) : (zGE ls n k).length = n := by
 unfold zGE
 rw [List.length_append, List.length_map, List.length_replicate]; omega
theorem zKm {ls : List zAL} {n k i : Nat} : (zGE ls n k).getD i none = if i < (ls.take k).flatten.length then some ((ls.take k).flatten.getD i ch0) else none := by
 unfold zGE
 by_cases h : i < (ls.take k).flatten.length
 · rw [if_pos h, zFK none (by rw [List.length_map]; exact h), zBB some _ ch0 none i h]
 · rw [if_neg h]
   simp only [List.getD, List.getElem?_append_right (show (List.map some (ls.take k).flatten).length ≤ i by rw [List.length_map]; omega), List.getElem?_replicate]
   split <;> rfl
theorem concatM (ls : List zAL) (hlen : ls.length ≤ 1000000) (hs : zCi ls ≤ 8796093022208) :
   zHY Tryz.prog 68 [.ro (zFX ls) 0 ls.length] (fun N => .sl N 0 ls.flatten.length) ⟨67, zm ls.flatten⟩ := by
 have hfl := zBO ls
 by_cases h0 : ls.flatten.length = 0
 · exact concatC ls hlen (by omega)
 refine zV.fresh (K := fun r H => r = .sl 0 0 ls.flatten.length ∧ H = [some ⟨67, zm ls.flatten⟩]) (zG (P := Tryz.prog) (fn := Tryz.f68) Y Y (by kernel_rfl) Y (fun c hR hfix => ?_)) (fix := fun _ => False) (fun _ h => h) Y (fun H => ⟨Y, by simp [zG1, inB]⟩) ?_
 · refine rn3 ?_
   refine zi (ι := Nat) (fun k => [(0, .ro (zFX ls) 0 ls.length), (3, .int .i64 (zCi (ls.take k))), (9, .ro (zFX ls) 0 ls.length), (10, .int .i64 (ls.length : Nat)), (11, .int .i64 (k : Nat))]) (fun _ => [])
     (fun k => k ≤ ls.length) (fun k => ls.length - k) 0 ⟨⟨rfl, rfl, rfl, rfl, rfl, trivial⟩, rfl, Nat.zero_le _⟩ ?_
   intro k hk
   refine rn4 ?_
   refine zE Y (fun h1 => ?_) (fun h1 => ?_)
   · have hk' : k < ls.length := by omega
     have hsum := zGN ls k hk'
     have hb := zCs ls (k + 1)
     have hb0 := zCs ls k
     refine rn6 ?_
     refine zE Y (fun h2 => absurd h2 (by omega)) (fun h2 => ?_)
     refine rn5 ?_
     exact zM ⟨k + 1, by omega, by omega, ⟨Y, by rw [hsum]; rfl, Y, Y, Y, trivial⟩, Y⟩
   · have hk' : k = ls.length := by omega
     subst hk'
     simp only [List.take_length] at *
     rw [hfl]
     refine rn5 ?_
     refine zB0 Y Y Y (growM ls.flatten.length (by omega) (by omega)) ?_
     refine rn3 ?_
     refine zi (ι := Nat) (fun k => [(6, .sl 0 0 (ls.take k).flatten.length), (25, .ro (zFX ls) 0 ls.length), (26, .int .i64 (ls.length : Nat)), (27, .int .i64 (k : Nat))]) (fun k => [some ⟨67, mixC (zGE ls ls.flatten.length k)⟩])
       (fun k => k ≤ ls.length) (fun k => ls.length - k) 0 ⟨⟨rfl, rfl, rfl, rfl, trivial⟩, rfl, Nat.zero_le _⟩ ?_
     intro k hk
     refine rn4 ?_
     refine zE Y (fun h1 => ?_) (fun h1 => ?_)
     · have hk' : k < ls.length := by omega
       have hfs := zHT ls k hk'
       have hb := zCs ls (k + 1)
       have hb0 := zCs ls k
       have hfl0 := zBO (ls.take k)
       have hfl1 := zBO (ls.take (k + 1))
       have hl1 : (ls.take (k + 1)).flatten.length = (ls.take k).flatten.length + (ls.getD k []).length := by rw [hfs, List.length_append]
       have m1 := zKb (ls := ls) (n := ls.flatten.length) (k := k) (by omega)
       have m2 := zKb (ls := ls) (n := ls.flatten.length) (k := k + 1) (by omega)
       refine rn6 ?_
       refine zKK (c' := mixC (zGE ls ls.flatten.length (k + 1))) Y Y Y Y Y Y Y Y (by show _ + (ls.getD k []).length ≤ (zGE _ _ _).length; omega) (by show 0 < (zGE _ _ _).length; omega) (by show 0 + (ls.getD k []).length ≤ (ls.getD k []).length; omega) Y Y (by show (zGE _ _ _).length = (zGE _ _ _).length; omega) (fun i' j' hi' hj' => ?_) ?_
       · show (zIn ((zGE ls ls.flatten.length (k + 1)).getD i' none)).getD j' .any = if (ls.take k).flatten.length ≤ i' ∧ i' < (ls.take k).flatten.length + (ls.getD k []).length then (cellsC ((ls.getD k []).getD (0 + (i' - (ls.take k).flatten.length)) ch0)).getD j' .any else (zIn ((zGE ls ls.flatten.length k).getD i' none)).getD j' .any
         rw [zKm, zKm, hl1, hfs]
         by_cases q1 : i' < (ls.take k).flatten.length
         · rw [if_pos (by omega), if_neg (by omega), if_pos q1, zFK ch0 q1]
         · by_cases q2 : i' < (ls.take k).flatten.length + (ls.getD k []).length
           · rw [if_pos q2, if_pos ⟨by omega, q2⟩, Nat.zero_add]
             have : ((ls.take k).flatten ++ ls.getD k []).getD i' ch0 = (ls.getD k []).getD (i' - (ls.take k).flatten.length) ch0 := by
               simp only [List.getD, List.getElem?_append_right (show (ls.take k).flatten.length ≤ i' by omega)]
             rw [this]; rfl
           · rw [if_neg q2, if_neg (fun q => q2 q.2), if_neg q1]
       refine rn5 ?_
       refine zM ⟨k + 1, by omega, by omega, ⟨?_, Y, Y, Y, trivial⟩, Y⟩
       show some (AV.sl 0 0 ((ls.take k).flatten.length + (ls.getD k []).length)) = _
       rw [hl1]
     · have hk' : k = ls.length := by omega
       subst hk'
       have hmx : zGE ls ls.flatten.length ls.length = ls.flatten.map some := by
         unfold zGE
         rw [List.take_length, Nat.sub_self, List.replicate_zero, List.append_nil]
       rw [hmx, List.take_length]
       repeat (first | refine zA ?_ | refine zW ?_ | refine zAj ?_ | refine zp ?_ | refine zo ?_ | refine zAB ?_)
       refine zBg [some ⟨67, zm ls.flatten⟩] (z6.eqv (mix_map _) z6.nil) ?_
       refine rn0 ?_
       exact zI hR Y ⟨Y, Y⟩
 · rintro r H ⟨rfl, rfl⟩
   refine ⟨?_, fun h o ho => zFq (zCS _) h o ho, 0, Y, fun n => rfl⟩
   intro o ho; simp at ho; subst ho; show 0 + ls.flatten.length ≤ ls.flatten.length; omega
theorem zRH (ls : List zAL) (hlen : ls.length ≤ 1000000) (hs : zCi ls ≤ 8796093022208) (hc : ∀ s ∈ ls, ∀ c ∈ s, ShortC c) : zX Tryz.prog 17 [.ro (zFX ls) 0 ls.length] (.bool (zKd ls)) := by
 have hfl := zBO ls
 have cc := zQq ls.flatten 69 [] zNu rfl (by omega) (fun c hm => by
   obtain ⟨s, h1, h2⟩ := List.mem_flatten.1 hm
   exact plain1 c (hc s h1 c h2))
 refine zV.value0 (zG (P := Tryz.prog) (fn := Tryz.f17) Y Y (by kernel_rfl) Y (fun c hR hfix => ?_)) (fix := fun _ => False) (fun _ h => h) Y Y
 unfold zKd at hR
 refine rn0 ?_
 refine zB0 Y Y Y (concatM ls hlen hs) ?_
 skip
 refine zGg rfl rfl rfl rfl cc (zFq (o1 := ⟨67, zm ls.flatten⟩) (zCS _)) ⟨fun o ho => by simp at ho; subst ho; show 0 + ls.flatten.length ≤ ls.flatten.length; omega, trivial, trivial⟩ rfl rfl rfl ?_
 refine rn5 ?_
 exact zI hR Y Y
theorem zNL {t : zQ} {p : Int} (h : zAZ t p = 0) : zFB t = 0 := by
 unfold zAZ at h
 by_cases h1 : zFB t = 0
 · exact h1
 · rw [if_pos h1] at h; exact absurd h h1
theorem zOm {t : zQ} {p : Int} {s o : zAL} (hp : p = 0 ∨ p = 1) (ht : zFB t = 0) (hs : zAl t p s = 0) : zEH t (zCz p s o) (zC0 p s o) = zAl t (1 - p) o := by
 unfold zEH
 rw [if_neg (fun q => q ht)]
 rcases hp with rfl | rfl
 · show (if zAl t 0 s ≠ 0 then zAl t 0 s else zAl t 1 o) = zAl t 1 o
   rw [if_neg (fun q => q hs)]
 · show (if zAl t 0 o ≠ 0 then zAl t 0 o else zAl t 1 s) = zAl t 0 o
   by_cases h : zAl t 0 o = 0
   · rw [if_neg (fun q => q h), h, hs]
   · rw [if_pos h]
theorem zQy {t : zQ} {p : Int} {s o : zAL} (hs : ∀ c ∈ s, ∀ r ∈ c.odds, r.length ≤ 12) (h : (zBr t p s).2 = 0) (hp : zBL t p = true) : payR t p (zBr t p s).1 o = zHp t (zCz p s o) (zC0 p s o) := by
 have hM := zIz hs h
 have hq := zO6 (o := o) hs h hp
 unfold payR zHp
 rw [if_neg (fun q => q hM.conv), zOm hM.pl (zNL (zEb hM.conv).1) hM.strat, hq]
 rfl
theorem zPY {t : zQ} {p : Int} {s o : zAL} (h : Small t [s, o]) : Small t [zCz p s o, zC0 p s o] := by
 have hm : ∀ x ∈ [zCz p s o, zC0 p s o], x ∈ [s, o] := by
   intro x hx
   unfold zCz zC0 at hx
   by_cases hp : p = 1
   · rw [if_pos hp, if_pos hp] at hx; simp at hx ⊢; exact hx.symm
   · rw [if_neg hp, if_neg hp] at hx; exact hx
 exact ⟨h.sh, h.m, fun x hx => h.s x (hm x hx), fun x hx => h.d x (hm x hx)⟩
theorem zJV (t : zQ) (p : Int) (s o : zAL) (hT : t.length ≤ 9223372036854775807 ∧ ∀ n ∈ t, ShortN n) (hs : s.length ≤ 9223372036854775807 ∧ ∀ c ∈ s, ShortC c) (ho : o.length ≤ 9223372036854775807 ∧ ∀ c ∈ o, ShortC c) (hs47 : s.length ≤ 4398046511104) (ho47 : o.length ≤ 4398046511104) : zX Tryz.prog 10 [.ro (zc t) 0 t.length, .int .i64 p, .ro (zm s) 0 s.length, .ro (zm o) 0 o.length] (.bool true) := by
 have hS : ShortT t := ⟨hT.1, hT.2⟩
 have hSs : ShortS s := ⟨hs.1, hs.2⟩
 have hSo : ShortS o := ⟨ho.1, ho.2⟩
 have c1 := zQ1 t hS
 have c2 := zRH [s, o] (show 2 ≤ 1000000 by decide) (by show ((s.length : Int) + ((o.length : Int) + 0)) ≤ _; omega) (fun x hx c hc => by simp at hx; rcases hx with rfl | rfl; exact hs.2 c hc; exact ho.2 c hc)
 have c3 := zNH t p s hS hSs
 have c5 := zOP t p hS
 refine zV.value0 (zG (P := Tryz.prog) (fn := Tryz.f10) Y Y (by kernel_rfl) Y (fun c hR hfix => ?_)) (fix := fun _ => False) (fun _ h => h) Y Y
 refine rn0 ?_
 refine zC Y Y Y zN6 ?_
 refine rn5 ?_
 refine zC Y Y Y zRD ?_
 refine rn5 ?_
 refine zC Y Y Y c1 ?_
 cases hmo : zII t
 · refine rn6 ?_
   exact zI hR Y Y
 have hm := zI4 hmo
 refine rn5 ?_
 refine zN 31 (.ro (zFX [s, o]) 0 2) Y (AEq.ro_in Y (fun d j hd hj => ?_)) ?_
 · have hj : j < 1 := hj
   obtain rfl : j = 0 := by omega
   have hd : d = 0 ∨ d = 1 := by omega
   rcases hd with rfl | rfl <;> exact AEq.rfl'
 refine zC Y Y Y c2 ?_
 cases hpl : zKd [s, o]
 · refine rn5 ?_
   exact zI hR Y Y
 have hda := zKM hpl s (by simp)
 have hdb := zKM hpl o (by simp)
 have hsm : Small t [s, o] := ⟨hS, hm, fun x hx => by simp at hx; rcases hx with rfl | rfl; exact hSs; exact hSo, fun x hx => by simp at hx; rcases hx with rfl | rfl; exact hda; exact hdb⟩
 by_cases hpe : zAZ t p = 0
 case neg =>
   have hb : zBr t p s = ([], zAZ t p) := by unfold zBr; rw [if_pos hpe]
   rw [hb] at c3
   rw [show zKa t p = (false, zAZ t p) by unfold zKa; rw [if_pos hpe]] at c5
   generalize zAZ t p = E at *
   simp only at c3 c5
   refine rn5 ?_
   refine zC Y Y Y c5 ?_
   refine rn2 ?_
   refine zC Y Y Y c3 ?_
   refine rn3 ?_
   rw [decide_eq_true (show ¬ E = 0 from hpe)]
   refine rn6 ?_
   rw [decide_eq_false hpe]
   refine rn4 ?_
   exact zI hR Y Y
 rw [zOs hpe] at c5
 by_cases he : (zBr t p s).2 = 0
 case neg =>
   have hb := zPL he
   generalize zBr t p s = r at *
   obtain ⟨r1, r2⟩ := r
   simp only at hb he c3 c5
   subst hb
   refine rn5 ?_
   refine zC Y Y Y c5 ?_
   refine rn2 ?_
   refine zC Y Y Y c3 ?_
   refine rn3 ?_
   rw [decide_eq_true (show ¬ r2 = 0 from he)]
   refine rn6 ?_
   rw [decide_eq_false he]
   refine rn4 ?_
   exact zI hR Y Y
 by_cases hpf : zBL t p = true
 case neg =>
   rw [show zBL t p = false by simpa using hpf] at c5
   generalize zBr t p s = r at *
   obtain ⟨r1, r2⟩ := r
   simp only at he c3 c5
   subst he
   refine rn5 ?_
   refine zC Y Y Y c5 ?_
   refine rn2 ?_
   refine zC Y Y Y c3 ?_
   refine rn6 ?_
   exact zI hR Y Y
 rw [hpf] at c5
 have hM := zIz hda he
 have hpv := zQy (o := o) hda he hpf
 generalize zBr t p s = r at *
 obtain ⟨m, r2⟩ := r
 simp only at he hM hpv c3 c5
 subst he
 have hX := zRA hM.conv
 have c4 := pay_ok t p m o hS hm hX hSo hdb
 rw [hpv] at c4
 have c6 := zLS t (zCz p s o) (zC0 p s o) (zPY hsm)
 have c7 := zHB t p m hS hX
 rw [hM.conv] at c7
 unfold zNr at c4 c6
 by_cases hl : ((m.length : Nat) : Int) ≤ 30
 case neg =>
   refine rn5 ?_
   refine zC Y Y Y c5 ?_
   refine rn2 ?_
   refine zC Y Y Y c3 ?_
   refine rn6 ?_
   rw [decide_eq_true (show (30 : Int) < ((m.length : Nat) : Int) by omega)]
   refine rn6 ?_
   exact zI hR Y Y
 generalize zHp t (zCz p s o) (zC0 p s o) = v at *
 obtain ⟨v1, v2⟩ := v
 simp only at c4 c6
 refine rn5 ?_
 refine zC Y Y Y c5 ?_
 refine rn2 ?_
 refine zC Y Y Y c3 ?_
 refine rn6 ?_
 rw [decide_eq_false (show ¬ (30 : Int) < ((m.length : Nat) : Int) by omega)]
 refine rn4 ?_
 refine zC Y Y Y c4 ?_
 refine rn4 ?_
 rcases hM.pl with rfl | rfl
 · have e1 : zCz 0 s o = s := rfl
   have e2 : zC0 0 s o = o := rfl
   rw [e1, e2] at c6
   refine rn4 ?_
   refine zC Y Y Y c6 ?_
   refine rn4 ?_
   rw [decide_eq_true (show v2 = v2 from rfl)]
   refine rn6 ?_
   rw [decide_eq_true (show v1 = v1 from rfl)]
   refine rn2 ?_
   refine zC Y Y Y c7 ?_
   refine rn4 ?_
   exact zI hR Y Y
 · have e1 : zCz 1 s o = o := rfl
   have e2 : zC0 1 s o = s := rfl
   rw [e1, e2] at c6
   refine rn5 ?_
   refine zC Y Y Y c6 ?_
   refine rn4 ?_
   rw [decide_eq_true (show v2 = v2 from rfl)]
   refine rn6 ?_
   rw [decide_eq_true (show v1 = v1 from rfl)]
   refine rn2 ?_
   refine zC Y Y Y c7 ?_
   refine rn4 ?_
   exact zI hR Y Y
end Go.Proofs.YtnkealfaldjipaaGreatDoor
namespace Go.Proofs.YtnkealfaldjipaaGreatDoor
open Go.ChangeShapes Go.WideShapes
theorem ownIt : ownKnob Tryz.prog.godebug = none := by kernel_rfl
theorem laidIt : laidOutB Tryz.prog = true := by kernel_rfl
theorem zQN : mapsRowed Tryz.prog = true := by kernel_rfl
theorem fullIt : ((List.range Tryz.prog.types.size).all fun t => match Tryz.prog.underlying t with | some (.slice e) => decide (0 < Tryz.prog.cellsOf e) | _ => true) = true := by kernel_rfl
theorem stopsIt : (Tryz.prog.stops == []) = true := by kernel_rfl
theorem knobsIt : (Tryz.prog.stopKnobs == []) = true := by kernel_rfl
theorem heardIt : Tryz.prog.stopsHeard = true := by kernel_rfl
theorem enterIt : Tryz.prog.mayEnter = true := by kernel_rfl
theorem liftIt : (Rows.replyGetsRow.lifted == Tryz.prog.liftsFinal) = true := by kernel_rfl
theorem makeIt : (Tryz.prog.make == some Rows.replyGetsRow.make) = true := by kernel_rfl
theorem plainIt : (Rows.replyGetsRow.plainKeys == Tryz.prog.plainKeys) = true := by kernel_rfl
theorem zRZ : Tryz.prog.mainIs = some (true, ("9a7b365347614a0287077179d20768685206a4b5ee48bcf94245b18e3653b2c2" : String).toList) := by kernel_rfl
theorem looksIt : true = Tryz.prog.looks [] := by kernel_rfl
end Go.Proofs.YtnkealfaldjipaaGreatDoor
