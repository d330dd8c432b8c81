import Derived.Test.YtnkealfaldjipaaGreatDoorRows
import Derived.Test.YtnkealfaldjipaaGreatDoorTie
import Derived.Test.YtnkealfaldjipaaGreatDoorCards
import Derived.LaidMore
import Derived.Lay
import Derived.SevenTiedAt
import Derived.Stop.Joined
import Derived.Stop.ErrReads
import Derived.MakeChecks
import Derived.Test.YtnkealfaldjipaaGreatDoorY5
set_option linter.unusedVariables false
set_option linter.unusedSimpArgs false
namespace Go.Proofs.YtnkealfaldjipaaGreatDoor
open Go.Ax Go.Ax.Bg Go.Ax.Rt Go.RowKit Go.Ax.Idx Go.Ax.Cd
attribute [local irreducible] Ax zAM QOp zM zq
set_option maxRecDepth 100000
set_option maxHeartbeats 4000000
theorem seven {d : Nat} (h : d < 7) : d = 0 ∨ d = 1 ∨ d = 2 ∨ d = 3 ∨ d = 4 ∨ d = 5 ∨ d = 6 := by omega
theorem zHR : zV Tryz.prog 61 [] (.ro (zd zA1) 0 7) := by
 refine zM.value0 (zG (P := Tryz.prog) (fn := Tryz.f61) rfl rfl (by kernel_rfl) rfl (fun c hR hfix => ?_)) (fix := fun _ => False) (fun _ h => h) rfl rfl
 repeat (first | refine zB (zK rfl) ?_ | refine zC ?_ | refine zA ?_ | refine zX ?_ | refine zJ rfl ?_ | refine zB (zAR rfl rfl rfl rfl rfl rfl) ?_ | refine zm rfl rfl rfl rfl rfl rfl rfl rfl rfl rfl rfl ?_)
 refine zAb 0 (.ro (zd zA1) 0 7) rfl (AEq.ro_in rfl (fun d j hd hj => ?_)) ?_
 · have hj : j < 6 := hj
   have hj3 : j = 0 ∨ j = 1 ∨ j = 2 ∨ j = 3 ∨ j = 4 ∨ j = 5 := by omega
   rcases seven hd with rfl | rfl | rfl | rfl | rfl | rfl | rfl <;> rcases hj3 with rfl | rfl | rfl | rfl | rfl | rfl <;> first | exact AEq.rfl' | exact AEq.nil
 repeat (refine zAH ?_)
 exact zI hR rfl rfl
theorem zHf (n : Int) : zV Tryz.prog 62 [.int .i64 n] (.ro (zAV (zCd n)) 0 1) := by
 refine zM.value0 (zG (P := Tryz.prog) (fn := Tryz.f62) rfl rfl (by kernel_rfl) rfl (fun c hR hfix => ?_)) (fix := fun _ => False) (fun _ h => h) rfl rfl
 repeat (first | refine zB (zH rfl) ?_ | refine zB (zK rfl) ?_ | refine zC ?_ | refine zA ?_ | refine zX ?_ | refine zJ rfl ?_ | refine zB (zAR rfl rfl rfl rfl rfl rfl) ?_ | refine zm rfl rfl rfl rfl rfl rfl rfl rfl rfl rfl rfl ?_)
 refine zAb 2 (.ro (zAV (zCd n)) 0 1) rfl (AEq.ro_in rfl (fun d j hd hj => ?_)) ?_
 · have hj : j < 2 := hj
   have hj3 : j = 0 ∨ j = 1 := by omega
   obtain rfl : d = 0 := by omega
   rcases hj3 with rfl | rfl <;> exact AEq.rfl'
 repeat (refine zAH ?_)
 exact zI hR rfl rfl
end Go.Proofs.YtnkealfaldjipaaGreatDoor
namespace Go.Proofs.YtnkealfaldjipaaGreatDoor
open Go.Ax Go.Ax.Bg Go.Ax.Rt Go.RowKit
attribute [local irreducible] Ax zAM QOp zM zq
set_option maxRecDepth 100000
set_option maxHeartbeats 4000000
open Go.Ax.Idx Go.Ax.Cd
theorem equalR (a b : List (List UInt8)) (hlen : a.length ≤ 9223372036854775807) (hlb : b.length ≤ 9223372036854775807) : zV Tryz.prog 44 [.ro (.strs a) 0 a.length, .ro (.strs b) 0 b.length] (.bool (decide (a = b))) := by
 refine zM.value0 (zG (P := Tryz.prog) (fn := Tryz.f44) rfl rfl (by kernel_rfl) rfl (fun c hR hfix => ?_)) (fix := fun _ => False) (fun _ h => h) rfl rfl
 refine rn3 ?_
 refine zF rfl (fun h => ?_) (fun h => ?_)
 · refine rn2 ?_
   refine zI hR rfl ?_
   have : ¬ a = b := by rintro rfl; exact h rfl
   simp [zBL, this]
 have hab : a.length = b.length := by omega
 refine rn3 ?_
 refine zk (ι := Nat) (fun k => [(0, .ro (.strs a) 0 a.length), (1, .ro (.strs b) 0 b.length), (12, .int .i64 (a.length : Nat)), (13, .int .i64 (k : Nat))]) (fun _ => [])
   (fun k => k ≤ a.length ∧ a.take k = b.take k) (fun k => a.length - k) 0 ⟨⟨rfl, rfl, rfl, rfl, trivial⟩, rfl, Nat.zero_le _, rfl⟩ ?_
 intro k ⟨hk, heq⟩
 refine rn4 ?_
 refine zF rfl (fun h2 => ?_) (fun h2 => ?_)
 · have hk' : k < a.length := by omega
   have ha := zAm a [] k hk'
   have hb := zAm b [] k (by omega)
   refine rn1 ?_
   refine zEA (by kernel_rfl) (by kernel_rfl) rfl ?_
   repeat (first | refine zB (zH rfl) ?_ | refine zC ?_ | refine zA ?_ | refine zB (zD7 rfl rfl rfl) ?_ | refine zB (zh rfl rfl rfl rfl (by first | (simp only [Nat.zero_add, Int.toNat_natCast, Int.toNat_zero]; exact rfl) | exact rfl) (by omega)) ?_ | refine zB (zGM rfl rfl) ?_)
   refine zF rfl (fun h3 => ?_) (fun h3 => ?_)
   · refine rn6 ?_
     refine zI hR rfl ?_
     have : ¬ a = b := by rintro rfl; exact h3 rfl
     simp [zBL, this]
   · refine rn5 ?_
     have h4 : a.getD k [] = b.getD k [] := Classical.not_not.1 h3
     exact zP ⟨k + 1, ⟨by omega, by rw [ha, hb, heq, h4]⟩, by omega, ⟨rfl, rfl, rfl, rfl, trivial⟩, rfl⟩
 · have hk' : k = a.length := by omega
   subst hk'
   rw [List.take_length, hab, List.take_length] at heq
   refine rn5 ?_
   refine zI hR rfl ?_
   simp [zBL, heq]
theorem hlen2 {l : List (List UInt8)} (h : (l.all fun s => decide (s.length ≤ 100)) = true) : ∀ s ∈ l, s.length ≤ 9223372036854775807 := fun s hs => by
 have := List.all_eq_true.1 h s hs
 have := of_decide_eq_true this
 omega
end Go.Proofs.YtnkealfaldjipaaGreatDoor
namespace Go.Proofs.YtnkealfaldjipaaGreatDoor
open Go.Ax Go.Ax.Bg Go.Ax.Rt Go.RowKit Go.Ax.Idx Go.Ax.Cd
attribute [local irreducible] Ax zAM QOp zM zq
set_option maxRecDepth 100000
set_option maxHeartbeats 4000000
def zFg : zAY := [⟨3, [[49], [48]]⟩]
theorem zLJ : ShortT zA1 := ⟨by decide, fun n hn => by
 simp only [zA1, List.mem_cons, List.not_mem_nil, or_false] at hn
 rcases hn with rfl | rfl | rfl | rfl | rfl | rfl | rfl <;> exact ⟨by decide, by decide, by decide, by decide⟩⟩
theorem zOI : Go.Ax.Rt.Modest zA1 := zIY (by decide)
theorem zKs (n : Int) : ShortS (zCd n) := ⟨(by decide : 1 ≤ 9223372036854775807), fun c hc => by
 rw [List.mem_singleton.1 hc]; exact ⟨(by decide : 2 ≤ 9223372036854775807), fun s hs => by simp at hs; subst hs; decide⟩⟩
theorem zO9 : ShortS zFg := ⟨by decide, fun c hc => by
 rw [List.mem_singleton.1 hc]; exact ⟨by decide, fun s hs => by simp at hs; rcases hs with rfl | rfl <;> decide⟩⟩
theorem halfDig (n : Int) : ∀ c ∈ zCd n, ∀ r ∈ c.odds, r.length ≤ 12 := fun c hc => by
 rw [List.mem_singleton.1 hc]; intro r hr; simp at hr; subst hr; decide
theorem sureDig : ∀ c ∈ zFg, ∀ r ∈ c.odds, r.length ≤ 12 := fun c hc => by
 rw [List.mem_singleton.1 hc]; intro r hr; simp at hr; rcases hr with rfl | rfl <;> decide
theorem zOh : Small zA1 [zCd 0, zCd 3] := ⟨zLJ, zOI, fun x hx => by
 simp at hx; rcases hx with rfl | rfl <;> exact zKs _, fun x hx => by
 simp at hx; rcases hx with rfl | rfl <;> exact halfDig _⟩
theorem gSmall1 : Small zA1 [zFg] := ⟨zLJ, zOI, fun x hx => by
 rw [List.mem_singleton.1 hx]; exact zO9, fun x hx => by
 rw [List.mem_singleton.1 hx]; exact sureDig⟩
theorem zOs : zC4 zA1 (zCd 0) (zCd 3) = 0 := by decide +kernel
theorem gValue : zFq zA1 (zCd 0) (zCd 3) = ([48], 0) := by
 unfold zFq
 rw [if_neg (fun h => h zOs)]
 exact IsQ.out (show IsQ [48] _ by decide +kernel)
theorem gOdds : zHO zA1 (zCd 0) (zCd 3) = ([[49], [49, 47, 50], [49, 47, 50], [49, 47, 52], [49, 47, 52], [49, 47, 52], [49, 47, 52]], 0) := by
 unfold zHO
 rw [if_neg (fun h => h zOs)]
 exact allV_f (by decide +kernel)
theorem gBest : zCs zA1 0 zFg = ([49], [⟨0, [[48], [49]]⟩], 0) := by
 have e1 : zE9 zA1 0 zFg = 0 := by decide +kernel
 have e2 : zDm (zEa zA1 0 zFg) = ([49], 0) := IsQ.out (show IsQ [49] _ by decide +kernel)
 have e3 : zAP zA1 0 (zAX zA1 0 zFg) = [⟨0, [[48], [49]]⟩] := by
   have h1 : zc zA1 0 = [0] := by decide +kernel
   have h2 : zKM zA1 0 (zAX zA1 0 zFg) 0 = 1 := by decide +kernel
   have h3 : ze zA1 0 0 = 2 := by decide +kernel
   unfold zAP
   rw [h1]
   show [zA9 zA1 0 (zAX zA1 0 zFg) 0] = _
   unfold zA9
   rw [h2, h3]; rfl
 unfold zCs
 rw [if_neg (fun h => h e1), e2, if_neg (fun h => h rfl), e3]
theorem gCheck0 : zC4 zA1 [] (zCd 3) = 3 := by decide +kernel
theorem zPK : zV Tryz.prog 15 [] (.bool true) := by
 have c1 := zHq zA1 (zCd 0) (zCd 3) zOh
 rw [gValue] at c1
 have c2 := rodds_ok zA1 (zCd 0) (zCd 3) zOh
 rw [gOdds] at c2
 have c2 : zV Tryz.prog 21 [.ro (zd zA1) 0 7, .ro (zAV (zCd 0)) 0 1, .ro (zAV (zCd 3)) 0 1] (.tup [.ro (.strs [[49], [49, 47, 50], [49, 47, 50], [49, 47, 52], [49, 47, 52], [49, 47, 52], [49, 47, 52]]) 0 7, .int .i64 0]) := c2
 have c3 := zOG zA1 0 zFg gSmall1
 rw [gBest] at c3
 have c3 : zV Tryz.prog 18 [.ro (zd zA1) 0 7, .int .i64 0, .ro (zAV zFg) 0 1] (.tup [.str [49], .ro (zAV [⟨0, [[48], [49]]⟩]) 0 1, .int .i64 0]) := c3
 have c4 := zG6 zA1 [] (zCd 3) zLJ ⟨by decide, fun c hc => by simp at hc⟩ (zKs 3)
 rw [gCheck0] at c4
 have c4' : zV Tryz.prog 63 [.ro (zd zA1) 0 7, .nil, .ro (zAV (zCd 3)) 0 1] (.int .i64 3) := fun H => zM.args (c4 H) ⟨AEq.rfl', AEq.nil, AEq.rfl', trivial⟩
 have f3 : zV Tryz.prog 24 [.ro (.ints .i64 [0, 0, 0]) 0 3] (.bool true) := fineI [0, 0, 0] (by decide)
 have v1 := equalR [[48], [49]] [[48], [49]] (by decide) (by decide)
 rw [decide_eq_true rfl] at v1
 refine zM.value0 (zG (P := Tryz.prog) (fn := Tryz.f15) rfl rfl (by kernel_rfl) rfl (fun c hR hfix => ?_)) (fix := fun _ => False) (fun _ h => h) rfl rfl
 refine rn0 ?_
 refine zE rfl rfl rfl zHR ?_
 skip
 refine zE rfl rfl rfl (zHf 0) ?_
 skip
 refine zE rfl rfl rfl (zHf 3) ?_
 skip
 refine zE rfl rfl rfl c1 ?_
 unfold zHP
 refine rn2 ?_
 refine zE rfl rfl rfl zHR ?_
 skip
 refine zE rfl rfl rfl (zHf 0) ?_
 skip
 refine zE rfl rfl rfl (zHf 3) ?_
 skip
 refine zE rfl rfl rfl c2 ?_
 refine rn2 ?_
 refine zE rfl rfl rfl zHR ?_
 repeat (first | refine zB (zAR rfl rfl rfl rfl rfl rfl) ?_ | refine zm rfl rfl rfl rfl rfl rfl rfl rfl rfl rfl rfl ?_)
 refine zL 26 (.ro (zAV zFg) 0 1) rfl (AEq.ro_in rfl (fun d j hd hj => ?_)) ?_
 · have hj : j < 2 := hj
   have hj3 : j = 0 ∨ j = 1 := by omega
   obtain rfl : d = 0 := by omega
   rcases hj3 with rfl | rfl <;> exact AEq.rfl'
 refine zE rfl rfl rfl c3 ?_
 refine rn3 ?_
 refine zE rfl rfl rfl f3 ?_
 repeat (first | refine zB (zH rfl) ?_ | refine zAC rfl rfl ?_ | refine zB (zD7 rfl rfl rfl) ?_ | refine zB (zCJ rfl rfl rfl rfl) ?_ | refine zB (zEk rfl rfl) ?_ | refine zB (zAd rfl rfl) ?_ | refine zB (zBN rfl rfl rfl) ?_ | refine zB (zh rfl rfl rfl rfl (by first | (simp only [Nat.zero_add, Int.toNat_natCast, Int.toNat_zero]; exact rfl) | exact rfl) (by omega)) ?_ | refine zB (zGC rfl rfl) ?_ | refine zB (zA7 rfl rfl rfl rfl rfl rfl) ?_ | refine zm rfl rfl rfl rfl rfl rfl rfl rfl rfl rfl rfl ?_)
 refine zE rfl rfl rfl v1 ?_
 refine rn2 ?_
 refine zE rfl rfl rfl zHR ?_
 repeat (refine zAC rfl rfl ?_)
 refine zE rfl rfl rfl (zHf 3) ?_
 repeat (refine zAC rfl rfl ?_)
 refine zE rfl rfl rfl c4' ?_
 refine rn4 ?_
 exact zI hR rfl rfl
end Go.Proofs.YtnkealfaldjipaaGreatDoor
namespace Go.Proofs.YtnkealfaldjipaaGreatDoor
open Go.Ax Go.Ax.Bg Go.Ax.Rt Go.RowKit Go.Ax.Idx Go.Ax.Cd
attribute [local irreducible] Ax zAM QOp zM zq
set_option maxRecDepth 100000
set_option maxHeartbeats 4000000
theorem text0 : IsQ [48] 0 := by decide +kernel
theorem text1 : IsQ [49] 1 := by decide +kernel
theorem zNY (w c : Nat) : zB2 w c = (zC7 w c).map zAJ := by
 unfold zB2 zC7
 rw [List.map_set, List.map_replicate, text0.text, text1.text]
theorem zPr (w c : Nat) : (zB2 w c).map zAQ = zC7 w c := by
 unfold zB2 zC7
 rw [List.map_set, List.map_replicate, text0.2, text1.2]
theorem zMv {w c : Nat} (hc : c < w) (hw : w ≤ 6) : zCa (zB2 w c) = 0 := by
 obtain ⟨h1, h2, h3⟩ := zFo hc
 rw [zNY]
 exact odds_of (k := 1) (by omega) (fun q hq => (h3 q hq).2) (by omega) (by omega) (fun q hq => (h3 q hq).1) h2
theorem zKE {I Z : List Int} : ∀ {s : zAY} {k : Nat}, (∀ j, j < s.length → (s.getD j ch0).info = I.getD (k + j) 0 ∧ (((s.getD j ch0).odds.length : Nat) : Int) = Z.getD (k + j) 0 ∧ zCa (s.getD j ch0).odds = 0) → zEM I Z k s = 0
 | [], k, _ => rfl
 | c :: r, k, h => by
   obtain ⟨h1, h2, h3⟩ := h 0 (by simp)
   have h1 : c.info = I.getD k 0 := h1
   have h2 : ((c.odds.length : Nat) : Int) = Z.getD k 0 := h2
   have h3 : zCa c.odds = 0 := h3
   rw [zEM, if_neg (by rw [h1, h2]; simp), if_neg (by rw [h3]; simp)]
   refine zKE (fun j hj => ?_)
   have := h (j + 1) (by simpa using hj)
   rw [show k + 1 + j = k + (j + 1) by omega]
   exact this
theorem zPU {t : zT} (hv : Valid t) (p : Int) (o : zw) : zBn t p (zAP t p o) = 0 := by
 have hl : (zAP t p o).length = (zc t p).length := by unfold zAP; rw [List.length_map]
 unfold zBn
 rw [if_neg (fun h => h hl)]
 refine zKE (fun j hj => ?_)
 rw [Nat.zero_add]
 have hj' : j < (zc t p).length := by omega
 have e : (zAP t p o).getD j ch0 = zA9 t p o ((zc t p).getD j 0) := by unfold zAP; rw [zDb _ _ 0 _ _ hj']
 have hm : (zc t p).getD j 0 ∈ zc t p := zAl 0 hj'
 rw [e]
 obtain ⟨c, c1, c2, c3⟩ := zGe hv o hm
 have hbc : zKM t p o ((zc t p).getD j 0) = c := by unfold zKM; rw [c1]; rfl
 have hw6 : ze t p ((zc t p).getD j 0) ≤ 6 := by
   obtain ⟨i, hi, hs⟩ := (zBA hv).1 hm
   rw [zCf hv hi hs]; exact hv.few hi
 refine ⟨rfl, ?_, ?_⟩
 · show (((zB2 _ _).length : Nat) : Int) = (zBO t p).getD j 0
   unfold zB2 zBO
   rw [List.length_set, List.length_replicate, zDb _ _ 0 _ _ hj']
 · show zCa (zB2 _ _) = 0
   rw [hbc]
   exact zMv c2 hw6
theorem zKQ {t : zT} (hv : Valid t) (p : Int) (o : zw) {x : Int} (hx : x ∈ zc t p) : zDh (zAP t p o) x = zFK t p o x := by
 have hn : ((zAP t p o).map TChoice.info).Nodup := by
   have : (zAP t p o).map TChoice.info = zc t p := by
     unfold zAP
     rw [List.map_map]
     conv => rhs; rw [← List.map_id (zc t p)]
     rfl
   rw [this]; exact zEX t p
 have := zLa hn (c := zA9 t p o x) (List.mem_map.2 ⟨x, hx, rfl⟩)
 have e : (zA9 t p o x).info = x := rfl
 rw [e] at this
 rw [this]
 exact zPr _ _
theorem zNV {t : zT} (hv : Valid t) (p : Int) (o : zw) : ShortS (zAP t p o) ∧ ∀ c ∈ zAP t p o, ∀ r ∈ c.odds, r.length ≤ 12 := by
 have key : ∀ c ∈ zAP t p o, c.odds.length ≤ 6 ∧ ∀ r ∈ c.odds, r.length ≤ 1 := by
   intro c hc
   obtain ⟨x, hx, rfl⟩ := List.mem_map.1 hc
   obtain ⟨i, hi, hs⟩ := (zBA hv).1 hx
   refine ⟨?_, fun r hr => ?_⟩
   · show (zB2 _ _).length ≤ 6
     unfold zB2
     rw [List.length_set, List.length_replicate, zCf hv hi hs]
     exact hv.few hi
   · have hr : r ∈ zB2 _ _ := hr
     unfold zB2 at hr
     rcases List.mem_or_eq_of_mem_set hr with h | h
     · rw [(List.mem_replicate.1 h).2]; decide
     · rw [h]; decide
 refine ⟨⟨?_, fun c hc => ⟨by have := (key c hc).1; omega, fun r hr => by have := (key c hc).2 r hr; omega⟩⟩, fun c hc r hr => by have := (key c hc).2 r hr; omega⟩
 unfold zAP
 rw [List.length_map]
 have := zKA t p
 omega
theorem zPV {t : zT} (hv : Valid t) (hp : zBh t 0 = true) (s : zAY) : zA0 t (zAt t (zAP t 0 (zAX t 0 s)) s) = zEa t 0 s := by
 have h := best0 hv hp (zDh s)
 show _ = zKl t 0 (zDh s)
 rw [h]
 refine zEl (fun i hi => ?_)
 unfold zAt zCt
 split
 · rfl
 · split
   · rename_i h1 h2
     split
     · rename_i h3
       have hs : zAx 0 (t.getD i node0).info (t.getD i node0) = true := by
         unfold zAx; rw [zEg.2 ⟨h2, h3⟩, decide_eq_true rfl]; rfl
       rw [zKQ hv 0 _ ((zBA hv).2 ⟨i, hi, hs⟩)]
       rfl
     · rfl
   · rfl
theorem zOx {t : zT} (hv : Valid t) (hp : zBh t 1 = true) (s : zAY) : -(zA0 t (zAt t s (zAP t 1 (zAX t 1 s)))) = zEa t 1 s := by
 have h := best1 hv hp (zDh s)
 show _ = zKl t 1 (zDh s)
 rw [h]
 congr 1
 refine zEl (fun i hi => ?_)
 unfold zAt zCt
 split
 · rfl
 · split
   · rename_i h1 h2
     split
     · rfl
     · rename_i h3
       have h4 := zCV hv hi h2
       have hs : zAx 1 (t.getD i node0).info (t.getD i node0) = true := by
         unfold zAx; rw [zEg.2 ⟨h2, by omega⟩, decide_eq_true rfl]; rfl
       rw [zKQ hv 1 _ ((zBA hv).2 ⟨i, hi, hs⟩)]
       rfl
   · rfl
end Go.Proofs.YtnkealfaldjipaaGreatDoor
namespace Go.Proofs.YtnkealfaldjipaaGreatDoor
open Go.Ax Go.Ax.Bg Go.Ax.Rt Go.RowKit Go.Ax.Idx Go.Ax.Cd
attribute [local irreducible] Ax zAM QOp zM zq
set_option maxRecDepth 100000
set_option maxHeartbeats 4000000
theorem len_of2 {s : List UInt8} (h : zCU s = 0) : s.length ≤ 4002 := by
 have hf := (IsQ.self h).fit
 rw [← (IsQ.self h).text]
 unfold zCR at hf
 rw [Bool.and_eq_true, decide_eq_true_eq, decide_eq_true_eq] at hf
 unfold zAJ
 rw [List.length_append, List.length_append]
 split <;> split <;> simp <;> omega
theorem outF_D {q : Rat} (h : D 974 q) : zDm q = (zAJ q, 0) ∧ IsQ (zAJ q) q := h.out (by decide)
theorem zPb {t : zT} {p : Int} {s : zAY} (h : (zCs t p s).2.2 ≠ 0) : (zCs t p s).1 = [] ∧ (zCs t p s).2.1 = [] := by
 unfold zCs at h ⊢
 split
 · exact ⟨rfl, rfl⟩
 · rename_i h1
   rw [if_neg h1] at h
   split
   · exact ⟨rfl, rfl⟩
   · rename_i h2
     rw [if_neg h2] at h
     exact absurd rfl h
theorem zJ3 (t : zT) (p : Int) (s : zAY) (hT : t.length ≤ 9223372036854775807 ∧ ∀ n ∈ t, ShortN n) (hs : s.length ≤ 9223372036854775807 ∧ ∀ c ∈ s, ShortC c) (h47 : s.length ≤ 4398046511104) : zV Tryz.prog 3 [.ro (zd t) 0 t.length, .int .i64 p, .ro (zAV s) 0 s.length] (.bool true) := by
 have hS : ShortT t := ⟨hT.1, hT.2⟩
 have hSs : ShortS s := ⟨hs.1, hs.2⟩
 have c1 := zOv t hS
 have c2 := plain_ok [s] (show 1 ≤ 1000000 by decide) (by show ((s.length : Int) + 0) ≤ _; omega) (fun x hx c hc => by rw [List.mem_singleton.1 hx] at hc; exact hs.2 c hc)
 refine zM.value0 (zG (P := Tryz.prog) (fn := Tryz.f3) rfl rfl (by kernel_rfl) rfl (fun c hR hfix => ?_)) (fix := fun _ => False) (fun _ h => h) rfl rfl
 refine rn0 ?_
 refine zE rfl rfl rfl zPK ?_
 refine rn5 ?_
 refine zE rfl rfl rfl c1 ?_
 cases hmo : zHX t
 · refine rn6 ?_
   exact zI hR rfl rfl
 have hm := zIY hmo
 refine rn5 ?_
 refine zL 21 (.ro (zH6 [s]) 0 1) rfl (AEq.ro_in rfl (fun d j hd hj => ?_)) ?_
 · have hj : j < 1 := hj
   obtain rfl : d = 0 := by omega
   obtain rfl : j = 0 := by omega
   exact AEq.rfl'
 refine zE rfl rfl rfl c2 ?_
 cases hpl : zJH [s]
 · refine rn5 ?_
   exact zI hR rfl rfl
 have hdig := zM3 hpl s (by simp)
 have hsm : Small t [s] := ⟨hS, hm, fun x hx => by rw [List.mem_singleton.1 hx]; exact hSs, fun x hx => by rw [List.mem_singleton.1 hx]; exact hdig⟩
 have c3 := zOG t p s hsm
 unfold bestA at c3
 by_cases he : (zCs t p s).2.2 = 0
 case neg =>
   obtain ⟨b1, b2⟩ := zPb he
   rw [b1, b2] at c3
   generalize (zCs t p s).2.2 = e at *
   refine rn5 ?_
   refine zE rfl rfl rfl c3 ?_
   refine rn3 ?_
   rw [decide_eq_true (show ¬ e = 0 from he)]
   refine rn6 ?_
   exact zI hR rfl rfl
 have hE : zE9 t p s = 0 := by
   refine Classical.byContradiction (fun h => ?_)
   unfold zCs at he
   rw [if_pos h] at he
   exact h he
 obtain ⟨hv, hp, hpf, hst⟩ := zNT hE
 have hStr := hsm.str (s := s) (by simp) hst
 obtain ⟨o1, o2⟩ := outF_D (zOO hv hm hp hpf hStr)
 have hR3 : zCs t p s = (zAJ (zEa t p s), zAP t p (zAX t p s), 0) := by
   unfold zCs
   rw [if_neg (fun h => h hE), o1, if_neg (fun h => h rfl)]
 rw [hR3] at c3
 obtain ⟨bs1, bs2⟩ := zNV hv p (zAX t p s)
 have bz := zPU hv p (zAX t p s)
 have htr : zE8 t = 0 := by
   have : zBl t p = 0 := by
     refine Classical.byContradiction (fun h => ?_)
     unfold zE9 at hE
     rw [if_pos h] at hE
     exact h hE
   refine Classical.byContradiction (fun h => ?_)
   unfold zBl at this
   rw [if_pos h] at this
   exact h this
 have hbStr : StrS t p (zAP t p (zAX t p s)) := ⟨bs1, zI5 bz, bs2⟩
 rcases hp with rfl | rfl
 · have hvb := zPV hv hpf s
   have hrE : zC4 t (zAP t 0 (zAX t 0 s)) s = 0 := by
     unfold zC4
     rw [if_neg (fun h => h htr), if_neg (fun h => h bz)]; exact hst
   have c4 := zHq t (zAP t 0 (zAX t 0 s)) s ⟨hS, hm, fun x hx => by
     simp at hx; rcases hx with rfl | rfl
     · exact bs1
     · exact hSs, fun x hx => by
     simp at hx; rcases hx with rfl | rfl
     · exact bs2
     · exact hdig⟩
   have hvr : zFq t (zAP t 0 (zAX t 0 s)) s = (zAJ (zEa t 0 s), 0) := by
     unfold zFq
     rw [if_neg (fun h => h hrE), hvb, o1]
   rw [hvr] at c4
   generalize zAP t 0 (zAX t 0 s) = B at *
   generalize zAJ (zEa t 0 s) = T at *
   unfold zHP at c4
   refine rn5 ?_
   refine zE rfl rfl rfl c3 ?_
   refine rn4 ?_
   refine zE rfl rfl rfl c4 ?_
   refine rn6 ?_
   refine zI hR rfl ?_
   simp [zBL]
 · have hvb := zOx hv hpf s
   have hrE : zC4 t s (zAP t 1 (zAX t 1 s)) = 0 := by
     unfold zC4
     rw [if_neg (fun h => h htr), if_neg (fun h => h hst)]; exact bz
   have c4 := zHq t s (zAP t 1 (zAX t 1 s)) ⟨hS, hm, fun x hx => by
     simp at hx; rcases hx with rfl | rfl
     · exact hSs
     · exact bs1, fun x hx => by
     simp at hx; rcases hx with rfl | rfl
     · exact hdig
     · exact bs2⟩
   have hval := zIk hv (zGL hv hm hStr.str hbStr.str) hm.len (hm.pays hv)
   obtain ⟨w1, w2⟩ := outF_D hval
   have hvr : zFq t s (zAP t 1 (zAX t 1 s)) = (zAJ (zA0 t (zAt t s (zAP t 1 (zAX t 1 s)))), 0) := by
     unfold zFq
     rw [if_neg (fun h => h hrE)]; exact w1
   rw [hvr] at c4
   have w2 : IsQ (zAJ (zA0 t (zAt t s (zAP t 1 (zAX t 1 s))))) (zA0 t (zAt t s (zAP t 1 (zAX t 1 s)))) := w2
   have hneg := IsQ.one (fun x => -x) w2
   rw [hvb, o1] at hneg
   have hTl : (zAJ (zA0 t (zAt t s (zAP t 1 (zAX t 1 s))))).length ≤ 9223372036854775807 := by have := len_of2 w2.1; omega
   have c5 := rneg_ok _ hTl
   rw [hneg] at c5
   clear hvb hneg hval w1 w2 hvr
   generalize zAJ (zA0 t (zAt t s (zAP t 1 (zAX t 1 s)))) = U at *
   generalize zAP t 1 (zAX t 1 s) = B at *
   generalize zAJ (zEa t 1 s) = T at *
   unfold zHP at c4 c5
   refine rn5 ?_
   refine zE rfl rfl rfl c3 ?_
   refine rn5 ?_
   refine zE rfl rfl rfl c4 ?_
   refine rn5 ?_
   refine zE rfl rfl rfl c5 ?_
   refine rn6 ?_
   refine zI hR rfl ?_
   simp [zBL]
end Go.Proofs.YtnkealfaldjipaaGreatDoor
namespace Go.Proofs.YtnkealfaldjipaaGreatDoor
open Go.ChangeShapes Go.WideShapes
theorem ownIt : ownKnob Tryz.prog.godebug = none := by kernel_rfl
theorem laidIt : laidOutB Tryz.prog = true := by kernel_rfl
theorem zOd : mapsRowed Tryz.prog = true := by kernel_rfl
theorem fullIt : ((List.range Tryz.prog.types.size).all fun t => match Tryz.prog.underlying t with | some (.slice e) => decide (0 < Tryz.prog.cellsOf e) | _ => true) = true := by kernel_rfl
theorem stopsIt : (Tryz.prog.stops == []) = true := by kernel_rfl
theorem knobsIt : (Tryz.prog.stopKnobs == []) = true := by kernel_rfl
theorem heardIt : Tryz.prog.stopsHeard = true := by kernel_rfl
theorem enterIt : Tryz.prog.mayEnter = true := by kernel_rfl
theorem liftIt : (Rows.replyGetsRow.lifted == Tryz.prog.liftsFinal) = true := by kernel_rfl
theorem makeIt : (Tryz.prog.make == some Rows.replyGetsRow.make) = true := by kernel_rfl
theorem plainIt : (Rows.replyGetsRow.plainKeys == Tryz.prog.plainKeys) = true := by kernel_rfl
theorem zPo : Tryz.prog.mainIs = some (true, ("9a7b365347614a0287077179d20768685206a4b5ee48bcf94245b18e3653b2c2" : String).toList) := by kernel_rfl
theorem looksIt : true = Tryz.prog.looks [] := by kernel_rfl
end Go.Proofs.YtnkealfaldjipaaGreatDoor
