import Derived.Test.YtnkealfaldjipaaGreatDoorRows
import Derived.Test.YtnkealfaldjipaaGreatDoorTie
import Derived.Test.YtnkealfaldjipaaGreatDoorCards
import Derived.LaidMore
import Derived.Lay
import Derived.SevenTiedAt
import Derived.Stop.Joined
import Derived.Stop.ErrReads
import Derived.MakeChecks
import Derived.Test.YtnkealfaldjipaaGreatDoorY5
set_option linter.unusedVariables false
set_option linter.unusedSimpArgs false
namespace Go.Proofs.YtnkealfaldjipaaGreatDoor
open Go.Ax Go.Ax.Bg Go.Ax.Rt Go.RowKit Go.Ax.Idx Go.Ax.Cd
attribute [local irreducible] Ax zAL QOp zM zo
set_option maxRecDepth 100000
set_option maxHeartbeats 4000000
theorem zFN (c : TChoice) (j h : Nat) (hj : j < 2) : ((cellsC c).getD j .any).forget h = (cellsC c).getD j .any := by
 match j, hj with
 | 0, _ => rfl
 | 1, _ => rfl
theorem zCs (s : zAY) : zz (zAP s) := by
 intro i j _ hj
 have hj : j < 2 := hj
 match j, hj with
 | 0, _ => rfl
 | 1, _ => rfl
theorem growC (n : Int) (h0 : 0 ≤ n) (h1 : n ≤ 4398046511104) : zHV Tryz.prog 129 [.nil, .int .i64 n] (fun N => .sl N 0 0) ⟨67, zAP []⟩ := by
 refine zM.fresh (K := fun r H => r = .sl 0 0 0 ∧ H = [some ⟨67, zAP []⟩]) (zG (P := Tryz.prog) (fn := Tryz.f129) rfl rfl (by kernel_rfl) rfl (fun c hR hfix => ?_)) (fix := fun _ => False) (fun _ h => h) rfl (fun H => ⟨rfl, by simp [zGs, inB]⟩) ?_
 · refine rn4 ?_
   refine zF rfl (fun h => absurd h (by omega)) (fun h => ?_)
   repeat (first | refine zB (zH rfl) ?_ | refine zB (zK rfl) ?_ | refine zC ?_ | refine zA ?_ | refine zX ?_ | refine zJ rfl ?_ | refine zl ?_ | refine zB (zJw rfl rfl) ?_ | refine zB (zBK rfl rfl rfl) ?_ | refine zB (zBa rfl rfl (by omega)) ?_ | refine zB (zHU rfl rfl) ?_)
   refine zF rfl (fun h => ?_) (fun h => ?_)
   rotate_left
   · repeat (first | refine zB (zH rfl) ?_ | refine zB (zK rfl) ?_ | refine zC ?_ | refine zA ?_ | refine zX ?_ | refine zJ rfl ?_ | refine zl ?_)
     refine zBo 4 ⟨67, zAP []⟩ rfl rfl ?_
     repeat (refine zAG ?_)
     exact zI hR rfl ⟨rfl, rfl⟩
   repeat (first | refine zB (zH rfl) ?_ | refine zJ rfl ?_ | refine zB (zHU rfl rfl) ?_ | refine zB (zJF rfl rfl rfl rfl rfl rfl rfl) ?_)
   refine ax_growz rfl rfl rfl rfl rfl rfl rfl rfl rfl (by show 0 < _ ∧ _ * 32 ≤ _ ∧ _; omega) ?_
   refine rn3 ?_
   refine zB (zFw rfl rfl rfl rfl rfl rfl rfl rfl (by omega)) ?_
   refine zHN 0 (zAP []) rfl ⟨Nat.zero_le _, rfl, fun i j hi => absurd hi (Nat.not_lt_zero _)⟩ ?_
   refine rn0 ?_
   exact zI hR rfl ⟨rfl, rfl⟩
 · rintro r H ⟨rfl, rfl⟩
   refine ⟨?_, fun h o ho => zFp (zCs _) h o ho, 0, rfl, fun n => rfl⟩
   intro o ho; simp at ho; subst ho; exact Nat.zero_le _
def cellL (s : zAY) : List AV := [.ro (zAP s) 0 s.length]
abbrev zEp (l : List zAY) : Cells := zB3 [] 1 cellL l
def zCB (ls : List zAY) : Int := (ls.map fun l => (l.length : Int)).sum
theorem zFa (ls : List zAY) (k : Nat) (h : k < ls.length) : zCB (ls.take (k + 1)) = zCB (ls.take k) + ((ls.getD k []).length : Int) := by
 unfold zCB
 rw [zAr ls [] k h, List.map_append, List.sum_append]
 simp
theorem zA5 (ls : List zAY) : zCB ls = (ls.flatten.length : Int) := by
 induction ls with
 | nil => rfl
 | cons l r ih => unfold zCB at ih ⊢; simp [ih]
theorem zCO (ls : List zAY) (k : Nat) : 0 ≤ zCB (ls.take k) ∧ zCB (ls.take k) ≤ zCB ls := by
 have h : ls.flatten = (ls.take k).flatten ++ (ls.drop k).flatten := by rw [← List.flatten_append, List.take_append_drop]
 rw [zA5, zA5, h, List.length_append]; omega
theorem zGw (ls : List zAY) (k : Nat) (h : k < ls.length) : (ls.take (k + 1)).flatten = (ls.take k).flatten ++ ls.getD k [] := by
 rw [zAr ls [] k h, List.flatten_append]; simp
theorem concatC (ls : List zAY) (hlen : ls.length ≤ 1000000) (hs : zCB ls ≤ 4398046511104) :
   zHV Tryz.prog 68 [.ro (zEp ls) 0 ls.length] (fun N => .sl N 0 ls.flatten.length) ⟨67, zAP ls.flatten⟩ := by
 refine zM.fresh (K := fun r H => r = .sl 0 0 ls.flatten.length ∧ H = [some ⟨67, zAP ls.flatten⟩]) (zG (P := Tryz.prog) (fn := Tryz.f68) rfl rfl (by kernel_rfl) rfl (fun c hR hfix => ?_)) (fix := fun _ => False) (fun _ h => h) rfl (fun H => ⟨rfl, by simp [zGs, inB]⟩) ?_
 · refine rn3 ?_
   refine zk (ι := Nat) (fun k => [(0, .ro (zEp ls) 0 ls.length), (3, .int .i64 (zCB (ls.take k))), (9, .ro (zEp ls) 0 ls.length), (10, .int .i64 (ls.length : Nat)), (11, .int .i64 (k : Nat))]) (fun _ => [])
     (fun k => k ≤ ls.length) (fun k => ls.length - k) 0 ⟨⟨rfl, rfl, rfl, rfl, rfl, trivial⟩, rfl, Nat.zero_le _⟩ ?_
   intro k hk
   refine rn4 ?_
   refine zF rfl (fun h1 => ?_) (fun h1 => ?_)
   · have hk' : k < ls.length := by omega
     have hsum := zFa ls k hk'
     have hb := zCO ls (k + 1)
     have hb0 := zCO ls k
     refine rn6 ?_
     refine zF rfl (fun h2 => absurd h2 (by omega)) (fun h2 => ?_)
     refine rn5 ?_
     exact zO ⟨k + 1, by omega, by omega, ⟨rfl, by rw [hsum]; rfl, rfl, rfl, rfl, trivial⟩, rfl⟩
   · have hk' : k = ls.length := by omega
     subst hk'
     simp only [List.take_length] at *
     have hfl := zA5 ls
     refine rn5 ?_
     refine zB0 rfl rfl rfl (growC (zCB ls) (by omega) hs) ?_
     refine rn3 ?_
     refine zk (ι := Nat) (fun k => [(6, .sl 0 0 (ls.take k).flatten.length), (25, .ro (zEp ls) 0 ls.length), (26, .int .i64 (ls.length : Nat)), (27, .int .i64 (k : Nat))]) (fun k => [some ⟨67, zAP (ls.take k).flatten⟩])
       (fun k => k ≤ ls.length) (fun k => ls.length - k) 0 ⟨⟨rfl, rfl, rfl, rfl, trivial⟩, rfl, Nat.zero_le _⟩ ?_
     intro k hk
     refine rn4 ?_
     refine zF rfl (fun h1 => ?_) (fun h1 => ?_)
     · have hk' : k < ls.length := by omega
       have hfs := zGw ls k hk'
       have hb := zCO ls (k + 1)
       have hsl := zFa ls k hk'
       have hb0 := zCO ls k
       have hfl0 := zA5 (ls.take k)
       refine rn6 ?_
       refine zp rfl rfl rfl rfl rfl rfl rfl rfl rfl rfl rfl rfl (by show 0 + (ls.getD k []).length ≤ (ls.getD k []).length; omega) rfl (by show ((ls.take k).flatten.length + (ls.getD k []).length) * 32 ≤ _ ∧ _; omega) ?_ (by rw [hfix]; exact fun h => h) ?_
       · intro i' j' hi' hj'
         have q := (zHR ch0 2 cellsC (ls.take k).flatten (ls.getD k [])).2.2 i' j' hi' hj'
         exact (congrArg (AV.forget 0) q.symm).trans ((zFN _ j' 0 hj').trans q)
       refine zAx [some ⟨67, zAP (ls.take (k + 1)).flatten⟩] ?_ ?_
       · rw [hfs]
         exact zAJ.eqv (zHR ch0 2 cellsC (ls.take k).flatten (ls.getD k [])) zAJ.nil
       refine rn5 ?_
       refine zO ⟨k + 1, by omega, by omega, ⟨?_, rfl, rfl, rfl, trivial⟩, rfl⟩
       show some (AV.sl 0 0 ((ls.take k).flatten.length + (ls.getD k []).length)) = _
       rw [hfs, List.length_append]
     · have hk' : k = ls.length := by omega
       subst hk'
       simp only [List.take_length] at *
       refine rn5 ?_
       exact zI hR rfl ⟨rfl, rfl⟩
 · rintro r H ⟨rfl, rfl⟩
   refine ⟨?_, fun h o ho => zFp (zCs _) h o ho, 0, rfl, fun n => rfl⟩
   intro o ho; simp at ho; subst ho; show 0 + ls.flatten.length ≤ ls.flatten.length; omega
theorem zNL (l : zAY) (g : FuncId) (caps : List AV) (p : TChoice → Bool) (hc : noRef.noRefs caps = true) (hlen : l.length ≤ 9223372036854775807) (hp : ∀ x ∈ l, zV Tryz.prog g ([.agg (cellsC x)] ++ caps) (.bool (p x))) :
   zV Tryz.prog 109 [.ro (zAP l) 0 l.length, .fn g caps] (.int .i64 (zC5 p l)) := by
 refine zM.value0 (zG (P := Tryz.prog) (fn := Tryz.f109) rfl rfl (by kernel_rfl) rfl (fun c hR hfix => ?_)) (fix := fun _ => False) (fun _ h => h) (by simp [noRef.noRefs, noRef, hc]) rfl
 refine rn3 ?_
 refine zk (ι := Nat) (fun k => [(0, .ro (zAP l) 0 l.length), (1, .fn g caps), (7, .int .i64 (l.length : Nat)), (8, .int .i64 (k : Nat))]) (fun _ => [])
   (fun k => k ≤ l.length ∧ (l.take k).any p = false) (fun k => l.length - k) 0 ⟨⟨rfl, rfl, rfl, rfl, trivial⟩, rfl, Nat.zero_le _, rfl⟩ ?_
 intro k ⟨hk, hany⟩
 refine rn4 ?_
 refine zF rfl (fun h => ?_) (fun h => ?_)
 · have hk' : k < l.length := by omega
   have hanys := zCb p l ch0 k hk'
   refine rn6 ?_
   refine zL 15 (.agg (cellsC (l.getD k ch0))) rfl (AEq.of_eq rfl) ?_
   refine zD rfl rfl rfl (hp _ (zA7 ch0 hk')) ?_
   refine rn0 ?_
   refine zDS rfl (fun h2 => ?_) (fun h2 => ?_)
   · refine rn6 ?_
     refine zI hR rfl ?_
     have := zB4 p l k hany hk
     rw [zB5 l ch0 k hk'] at this
     simp only [zC5, h2, if_true] at this
     rw [this]; simp [zBT]
   · refine rn5 ?_
     refine zO ⟨k + 1, ⟨by omega, by rw [hanys, hany, h2]; rfl⟩, by omega, ⟨rfl, rfl, rfl, rfl, trivial⟩, rfl⟩
 · have hk' : k = l.length := by omega
   subst hk'
   refine rn5 ?_
   refine zI hR rfl ?_
   have := zB4 p l l.length hany hk
   rw [List.drop_length] at this
   rw [this]; rfl
theorem zPp (l : zAY) (g : FuncId) (caps : List AV) (p : TChoice → Bool) (hc : noRef.noRefs caps = true) (hlen : l.length ≤ 9223372036854775807) (hp : ∀ x ∈ l, zV Tryz.prog g ([.agg (cellsC x)] ++ caps) (.bool (p x))) :
   zV Tryz.prog 39 [.ro (zAP l) 0 l.length, .fn g caps] (.bool (l.any p)) := by
 refine zM.value0 (zG (P := Tryz.prog) (fn := Tryz.f39) rfl rfl (by kernel_rfl) rfl (fun c hR hfix => ?_)) (fix := fun _ => False) (fun _ h => h) (by simp [noRef.noRefs, noRef, hc]) rfl
 refine rn0 ?_
 refine zD rfl rfl rfl (zNL l g caps p hc hlen hp) ?_
 repeat (first | refine zB (zK rfl) ?_ | refine zC ?_ | refine zA ?_ | refine zAG ?_ | refine zB (zC7 rfl rfl) ?_)
 refine zI hR rfl ?_
 simp only [zBT, zFB]
def zLx (c : TChoice) : Bool := c.odds.any (fun s => decide (12 < (s.length : Int)))
theorem plain11 (s : zAK) (hs : s.length ≤ 9223372036854775807) : zV Tryz.prog 70 [.str s] (.bool (decide (12 < (s.length : Int)))) := by
 refine zM.value0 (zG (P := Tryz.prog) (fn := Tryz.f70) rfl rfl (by kernel_rfl) rfl (fun c hR hfix => ?_)) (fix := fun _ => False) (fun _ h => h) rfl rfl
 refine rn6 ?_
 exact zI hR rfl rfl
theorem plain1 (c : TChoice) (hc : ShortC c) : zV Tryz.prog 69 [.agg (cellsC c)] (.bool (zLx c)) := by
 obtain ⟨h1, h2⟩ := hc
 have cc := zIG c.odds 70 [] (fun s => decide (12 < (s.length : Int))) rfl h1 (fun s hs => plain11 s (h2 s hs))
 refine zM.value0 (zG (P := Tryz.prog) (fn := Tryz.f69) rfl rfl (by kernel_rfl) rfl (fun c hR hfix => ?_)) (fix := fun _ => False) (fun _ h => h) rfl rfl
 obtain ⟨nf, od⟩ := c
 unfold zLx at hR
 unfold cellsC
 simp only at *
 refine rn6 ?_
 refine zD rfl rfl rfl cc ?_
 refine rn0 ?_
 exact zI hR rfl rfl
def zJM (ls : List zAY) : Bool := !(ls.flatten.any zLx)
end Go.Proofs.YtnkealfaldjipaaGreatDoor
namespace Go.Proofs.YtnkealfaldjipaaGreatDoor
open Go.Ax Go.Ax.Bg Go.Ax.Rt Go.RowKit Go.Ax.Idx Go.Ax.Cd
attribute [local irreducible] Ax zAL QOp zM zo
set_option maxRecDepth 100000
set_option maxHeartbeats 4000000
def zFo (t : zT) (p : Int) (s : zAY) : Int := if zCC t p ≠ 0 then zCC t p else if zBb t p = true then zB7 t (1 - p) s else 10
theorem zHF {t : zT} {p : Int} {s : zAY} (h : zFo t p s = 0) : Valid t ∧ (p = 0 ∨ p = 1) ∧ zBb t p = true ∧ zB7 t (1 - p) s = 0 := by
 unfold zFo at h
 by_cases h1 : zCC t p ≠ 0
 · rw [if_pos h1] at h; exact absurd h h1
 rw [if_neg h1] at h
 have h1 := Classical.not_not.1 h1
 unfold zCC at h1
 by_cases h2 : zFk t ≠ 0
 · rw [if_pos h2] at h1; exact absurd h1 h2
 rw [if_neg h2] at h1
 have h3 : p = 0 ∨ p = 1 := by
   by_cases q : p ≠ 0 ∧ p ≠ 1
   · rw [if_pos q] at h1; cases h1
   · omega
 by_cases h4 : zBb t p = true
 · rw [if_pos h4] at h
   exact ⟨zJU (Classical.not_not.1 h2), h3, h4, h⟩
 · rw [if_neg h4] at h; cases h
/-- the best choice of a set -/
def bestC (t : zT) (p : Int) (o : z8) (x : Int) : Nat := ((zKm (zA9 t p o).2.2 x).getD 0).toNat
def zE7 (w c : Nat) : List zAK := (List.replicate w [48]).set c [49]
def zBj (t : zT) (p : Int) (o : z8) (x : Int) : TChoice := ⟨x, zE7 (zd t p x) (bestC t p o x)⟩
def zFR (t : zT) (p : Int) (o : z8) : zAY := (zf t p).map (zBj t p o)
def zCt (t : zT) (p : Int) (s : zAY) : Rat := (zA9 t p (zAu t p s)).2.1.getD 0 0
/-- reply.Best -/
def zCx (t : zT) (p : Int) (s : zAY) : zAK × zAY × Int :=
 if zFo t p s ≠ 0 then ([], [], zFo t p s) else if (zDk (zCt t p s)).2 ≠ 0 then ([], [], (zDk (zCt t p s)).2) else ((zDk (zCt t p s)).1, zFR t p (zAu t p s), 0)
def bestA (r : zAK × zAY × Int) : AV := .tup [.str r.1, .ro (zAP r.2.1) 0 r.2.1.length, .int .i64 r.2.2]
theorem zOk {t : zT} (hv : Valid t) (hm : Go.Ax.Rt.Modest t) {p : Int} {s : zAY} (hp : p = 0 ∨ p = 1) (hpf : zBb t p = true) (hs : StrS t (1 - p) s) : D 974 (zCt t p s) := by
 rcases hp with rfl | rfl
 · exact bestV_D0 hv hm hpf hs.str
 · exact bestV_D1 hv hm hpf hs.str
theorem rowC2 (c : TChoice) (j : Nat) (hj : j < 2) : (zEi 1 2 [.int .i64 c.info, .ro (.strs c.odds) 0 c.odds.length]).at 0 j = (cellsC c).getD j .any := by
 match j, hj with
 | 0, _ => rfl
 | 1, _ => rfl
theorem zPy (t : zT) (p : Int) : (zf t p).length ≤ 10 := by
 unfold zf
 refine Nat.le_trans (List.length_filter_le _ _) ?_
 simp
theorem zLI (t : zT) (p : Int) (s : zAY) (h : Small t [s]) : zV Tryz.prog 18 [.ro (zc t) 0 t.length, .int .i64 p, .ro (zAP s) 0 s.length] (bestA (zCx t p s)) := by
 have c1 := zQC t p h.sh
 have hsh := h.sh
 have hss := h.s s (by simp)
 refine zM.value0 (zG (P := Tryz.prog) (fn := Tryz.f18) rfl rfl (by kernel_rfl) rfl (fun c hR hfix => ?_)) (fix := fun _ => False) (fun _ h => h) rfl rfl
 unfold zCx at hR
 refine rn0 ?_
 refine zD rfl rfl rfl c1 ?_
 refine rn3 ?_
 refine zF rfl (fun h1 => ?_) (fun h1 => ?_)
 · have e : zFo t p s = zCC t p := by unfold zFo; rw [if_pos h1]
   rw [e, if_pos h1] at hR
   repeat (first | refine zB (zH rfl) ?_ | refine zB (zK rfl) ?_ | refine zC ?_ | refine zA ?_ | refine zX ?_ | refine zJ rfl ?_)
   refine zAd 7 (.ro (zAP []) 0 0) rfl AEq.nil ?_
   refine rn2 ?_
   exact zI hR rfl rfl
 have g1 := Classical.not_not.1 h1
 have hpe : Valid t ∧ (p = 0 ∨ p = 1) := by
   unfold zCC at g1
   by_cases h2 : zFk t ≠ 0
   · rw [if_pos h2] at g1; exact absurd g1 h2
   rw [if_neg h2] at g1
   refine ⟨zJU (Classical.not_not.1 h2), ?_⟩
   by_cases q : p ≠ 0 ∧ p ≠ 1
   · rw [if_pos q] at g1; cases g1
   · omega
 obtain ⟨hv, hp⟩ := hpe
 have c2 := zP9 t p h.sh hv
 refine rn1 ?_
 refine zD rfl rfl rfl c2 ?_
 cases hpf : zBb t p
 · have e : zFo t p s = 10 := by unfold zFo; rw [if_neg h1, if_neg (by rw [hpf]; exact fun q => by cases q)]
   rw [e, if_pos (by decide)] at hR
   repeat (first | refine zB (zK rfl) ?_ | refine zC ?_ | refine zA ?_ | refine zX ?_ | refine zJ rfl ?_ | refine zBD rfl ?_ | refine zB (zE4 rfl) ?_)
   refine zAd 7 (.ro (zAP []) 0 0) rfl AEq.nil ?_
   refine rn2 ?_
   exact zI hR rfl rfl
 have eE : zFo t p s = zB7 t (1 - p) s := by unfold zFo; rw [if_neg h1, if_pos hpf]
 rw [eE] at hR
 have c3 := zGP t (1 - p) s h.sh.len hss
 repeat (first | refine zB (zH rfl) ?_ | refine zC ?_ | refine zA ?_ | refine zX ?_ | refine zJ rfl ?_ | refine zAM rfl ?_ | refine zl ?_ | refine zB (zE4 rfl) ?_ | refine zB (zBa rfl rfl (by omega)) ?_)
 refine zD rfl rfl rfl c3 ?_
 refine rn3 ?_
 refine zF rfl (fun h3 => ?_) (fun h3 => ?_)
 · rw [if_pos h3] at hR
   repeat (first | refine zB (zH rfl) ?_ | refine zB (zK rfl) ?_ | refine zC ?_ | refine zA ?_ | refine zX ?_ | refine zJ rfl ?_)
   refine zAd 7 (.ro (zAP []) 0 0) rfl AEq.nil ?_
   refine rn2 ?_
   exact zI hR rfl rfl
 rw [if_neg h3] at hR
 have hs := h.str (s := s) (by simp) (Classical.not_not.1 h3)
 have c4 := zPq t p s h.sh hv h.m hp hs
 have hqD := zOk hv h.m hp hpf hs
 have c5 := zNc (zCt t p s) (zF5 (hqD.mono (show 974 ≤ 9 * 100000 by decide)))
 have c6 := zOh t p h.sh.len
 have hlk := fun x hx => zHz hv (p := p) (zAu t p s) (x := x) hx
 have hin := zPy t p
 have hzl : (zBY t p).length = (zf t p).length := by unfold zBY; simp
 have c4 : zV Tryz.prog 73 [.ro (zc t) 0 t.length, .int .i64 p, .ro (zAP s) 0 s.length] (.tup [qA (zCt t p s), .rom ((zA9 t p (zAu t p s)).2.2.map keyB) ((zA9 t p (zAu t p s)).2.2.map valB)]) := c4
 generalize zCt t p s = q at *
 refine rn1 ?_
 refine zD rfl rfl rfl c4 ?_
 unfold qA
 refine rn4 ?_
 refine zR (c' := .box (zAD q)) rfl rfl rfl rfl rfl Nat.zero_lt_one rfl rfl (fun i' j' hi' hj' => ?_) ?_
 · rw [if_pos (Nat.lt_one_iff.1 hi')]; rfl
 refine rn6 ?_
 refine zD rfl rfl rfl c5 ?_
 refine rn3 ?_
 refine zF rfl (fun h4 => ?_) (fun h4 => ?_)
 · rw [if_pos h4] at hR
   repeat (first | refine zB (zH rfl) ?_ | refine zB (zK rfl) ?_ | refine zC ?_ | refine zA ?_ | refine zX ?_ | refine zJ rfl ?_)
   refine zAd 7 (.ro (zAP []) 0 0) rfl AEq.nil ?_
   refine rn2 ?_
   exact zI hR rfl rfl
 rw [if_neg h4] at hR
 refine rn1 ?_
 refine zD rfl rfl rfl c6 ?_
 repeat (first | refine zB (zH rfl) ?_ | refine zB (zK rfl) ?_ | refine zC ?_ | refine zA ?_ | refine zX ?_ | refine zJ rfl ?_ | refine zB (zCV rfl rfl) ?_ | refine zB (zBK rfl rfl rfl) ?_)
 refine zBo 17 ⟨67, zAP []⟩ rfl rfl ?_
 repeat (refine zAB ?_)
 refine zk (ι := Nat) (fun k => [(12, .rom ((zA9 t p (zAu t p s)).2.2.map keyB) ((zA9 t p (zAu t p s)).2.2.map valB)), (13, .str (zDk q).1), (16, .ro (.ints .i64 (zBY t p)) 0 (zBY t p).length), (17, .sl 1 0 k), (60, .ro (.ints .i64 (zf t p)) 0 (zf t p).length), (61, .int .i64 ((zf t p).length : Nat)), (62, .int .i64 (k : Nat))]) (fun k => [some ⟨122, .box (zAD q)⟩, some ⟨67, zAP (((zf t p).take k).map (zBj t p (zAu t p s)))⟩])
   (fun k => k ≤ (zf t p).length) (fun k => (zf t p).length - k) 0 ⟨⟨rfl, rfl, rfl, rfl, rfl, rfl, rfl, trivial⟩, rfl, Nat.zero_le _⟩ ?_
 intro k hk
 refine rn4 ?_
 refine zF rfl (fun h => ?_) (fun h => ?_)
 · have hk' : k < (zf t p).length := by omega
   have hkz : k < (zBY t p).length := by omega
   have hxm : (zf t p).getD k 0 ∈ zf t p := zAj 0 hk'
   have hsz : (zBY t p).getD k 0 = ((zd t p ((zf t p).getD k 0) : Nat) : Int) := by
     unfold zBY; rw [zDY _ _ 0 _ _ hk']
   obtain ⟨cc, l1, l2, l3⟩ := hlk _ hxm
   have hw6 : zd t p ((zf t p).getD k 0) ≤ 6 := by
     obtain ⟨j, hj, hsj⟩ := (zBp hv).1 hxm
     rw [zDc hv hj hsj]; exact hv.few hj
   have hbc : bestC t p (zAu t p s) ((zf t p).getD k 0) = cc := by unfold bestC; rw [l1]; rfl
   obtain ⟨jj, hjj⟩ := List.getElem?_of_mem l3
   have i1 : ((zA9 t p (zAu t p s)).2.2.map keyB)[jj]? = some (.int .i64 ((zf t p).getD k 0)) := by rw [List.getElem?_map, hjj]; rfl
   have i2 : ((zA9 t p (zAu t p s)).2.2.map valB)[jj]? = some (.int .i64 (cc : Nat)) := by rw [List.getElem?_map, hjj]; rfl
   have htk : ((zf t p).take (k + 1)).map (zBj t p (zAu t p s)) = ((zf t p).take k).map (zBj t p (zAu t p s)) ++ [⟨(zf t p).getD k 0, zE7 (zd t p ((zf t p).getD k 0)) cc⟩] := by
     rw [List.take_succ_eq_append_getElem hk', List.map_append, ← zAk 0 hk', ← hbc]; rfl
   have hml : (((zf t p).take k).map (zBj t p (zAu t p s))).length = k := by rw [List.length_map, List.length_take]; omega
   generalize hO2 : ((zf t p).take (k + 1)).map (zBj t p (zAu t p s)) = O2 at *
   generalize ((zf t p).take k).map (zBj t p (zAu t p s)) = O at *
   generalize zd t p ((zf t p).getD k 0) = w at *
   have crep := repeatS [48] w (by omega)
   refine rn6 ?_
   refine zL 71 (.int .i64 (w : Nat)) rfl (AEq.of_eq (by rw [hsz])) ?_
   refine zB0 rfl rfl rfl crep ?_
   refine rn0 ?_
   refine zB (zBR rfl (.int rfl) rfl rfl rfl rfl (keysB _) jj i1 i2) ?_
   repeat (refine zB (zZ rfl rfl rfl rfl rfl (by first | (simp only [Nat.zero_add, Int.toNat_natCast, Int.toNat_zero]; exact rfl) | exact rfl) (by omega)) ?_)
   refine zAh (c' := .strs (zE7 w cc)) rfl rfl rfl rfl rfl rfl rfl (by show cc < (List.replicate w _).length; rw [List.length_replicate]; exact l2) ?_
   repeat (first | refine zC ?_ | refine zA ?_)
   refine zCg [some ⟨122, .box (zAD q)⟩, some ⟨67, zAP O⟩, some ⟨27, .strs (zE7 w cc)⟩] rfl ?_
   have hul : (zE7 w cc).length = w := by unfold zE7; rw [List.length_set, List.length_replicate]
   refine zAd 20 (.sl 2 0 w) rfl (AEq.of_eq rfl) ?_
   refine zBE 2 20 w [(12, .rom ((zA9 t p (zAu t p s)).2.2.map keyB) ((zA9 t p (zAu t p s)).2.2.map valB)), (13, .str (zDk q).1), (16, .ro (.ints .i64 (zBY t p)) 0 (zBY t p).length), (17, .sl 1 0 k), (19, .int .i64 ((zf t p).getD k 0)), (60, .ro (.ints .i64 (zf t p)) 0 (zf t p).length), (61, .int .i64 ((zf t p).length : Nat)), (62, .int .i64 (k : Nat))] rfl zFc rfl (by show w ≤ (zE7 w cc).length; omega) ⟨rfl, rfl, rfl, rfl, rfl, rfl, rfl, rfl, trivial⟩ ?_
   refine zAd 20 (.ro (.strs (zE7 w cc)) 0 (zE7 w cc).length) rfl (AEq.of_eq (by rw [hul])) ?_
   repeat (first | refine zB (zH rfl) ?_ | refine zJ rfl ?_ | refine zB (zAS rfl rfl rfl rfl rfl rfl) ?_ | refine zn rfl rfl rfl rfl rfl rfl rfl rfl rfl rfl rfl ?_)
   refine zp rfl rfl rfl rfl rfl rfl rfl rfl rfl hml rfl rfl (by show 0 + 1 ≤ 1; omega) rfl (by show (k + 1) * 32 ≤ _ ∧ _; omega) ?_ (by rw [hfix]; exact fun h => h) ?_
   · intro i' j hi hj
     exact zHE ch0 2 cellsC zFN O ⟨(zf t p).getD k 0, zE7 w cc⟩ _ (rowC2 ⟨(zf t p).getD k 0, zE7 w cc⟩) 1 i' j hi hj
   repeat (first | refine zB (zK rfl) ?_ | refine zC ?_ | refine zg ?_)
   refine zA ?_
   refine zDy ([some ⟨122, .box (zAD q)⟩, some ⟨67, zAP O2⟩] ++ [none]) ?_ ?_
   · rw [htk]
     exact zAJ.eqv (CEq.refl _) (zAJ.eqv (zE6 ch0 2 cellsC O ⟨(zf t p).getD k 0, zE7 w cc⟩ _ (rowC2 ⟨(zf t p).getD k 0, zE7 w cc⟩)) (zAJ.drop zAJ.nil))
   refine zIs (H1 := [some ⟨122, .box (zAD q)⟩, some ⟨67, zAP O2⟩]) rfl (by rw [hfix]; exact fun h => h) ?_
   refine zDy [some ⟨122, .box (zAD q)⟩, some ⟨67, zAP O2⟩] ?_ ?_
   · exact zAJ.eqv (CEq.refl _) (zAJ.eqv ⟨rfl, rfl, fun i j _ hj => (zFN _ j _ hj).symm⟩ zAJ.nil)
   refine rn3 ?_
   exact zO ⟨k + 1, by omega, by omega, ⟨rfl, rfl, rfl, rfl, rfl, rfl, rfl, trivial⟩, by rw [hO2]⟩
 · have hke : k = (zf t p).length := by omega
   subst hke
   rw [List.take_length]
   have hbl : (zFR t p (zAu t p s)).length = (zf t p).length := by unfold zFR; rw [List.length_map]
   have hbs : (zf t p).map (zBj t p (zAu t p s)) = zFR t p (zAu t p s) := rfl
   rw [hbs]
   generalize zFR t p (zAu t p s) = B at *
   repeat (first | refine zA ?_ | refine zX ?_ | refine zA0 ?_ | refine zx ?_ | refine zw ?_ | refine zAN ?_)
   refine zBE 1 17 (zf t p).length [(13, .str (zDk q).1)] rfl (zCs _) rfl (by show _ ≤ B.length; omega) ⟨rfl, trivial⟩ ?_
   refine zAd 17 (.ro (zAP B) 0 B.length) rfl (AEq.of_eq (by rw [hbl])) ?_
   refine rn0 ?_
   exact zI hR rfl rfl
end Go.Proofs.YtnkealfaldjipaaGreatDoor
namespace Go.Proofs.YtnkealfaldjipaaGreatDoor
open Go.Ax Go.Ax.Bg Go.Ax.Rt Go.RowKit Go.Ax.Idx Go.Ax.Cd
attribute [local irreducible] Ax zAL QOp zM zo
set_option maxRecDepth 100000
set_option maxHeartbeats 4000000
theorem zPe (t : zT) (g : FuncId) (caps : List AV) (q : TNode → Bool) (hc : noRef.noRefs caps = true) (hlen : t.length ≤ 9223372036854775807) (hp : ∀ n ∈ t, zV Tryz.prog g ([.agg (zBV n)] ++ caps) (.bool (q n))) :
   zV Tryz.prog 64 [.ro (zc t) 0 t.length, .fn g caps] (.bool (t.any q)) := by
 have ci := zJn t g caps q hc hlen hp
 refine zM.value0 (zG (P := Tryz.prog) (fn := Tryz.f64) rfl rfl (by kernel_rfl) rfl (fun c hR hfix => ?_)) (fix := fun _ => False) (fun _ h => h) (by simp [noRef.noRefs, noRef, hc]) rfl
 refine rn0 ?_
 refine zD rfl rfl rfl ci ?_
 repeat (first | refine zB (zK rfl) ?_ | refine zC ?_ | refine zA ?_ | refine zAG ?_ | refine zB (zC7 rfl rfl) ?_)
 refine zI hR rfl ?_
 simp only [zBT, zFB]
def zKo (n : TNode) : Bool := decide (12 < (n.pay.length : Int)) || n.odds.any (fun s => decide (12 < (s.length : Int)))
theorem modest11 (s : zAK) (hs : s.length ≤ 9223372036854775807) : zV Tryz.prog 67 [.str s] (.bool (decide (12 < (s.length : Int)))) := by
 refine zM.value0 (zG (P := Tryz.prog) (fn := Tryz.f67) rfl rfl (by kernel_rfl) rfl (fun c hR hfix => ?_)) (fix := fun _ => False) (fun _ h => h) rfl rfl
 refine rn6 ?_
 exact zI hR rfl rfl
theorem modest1 (n : TNode) (hn : ShortN n) : zV Tryz.prog 65 [.agg (zBV n)] (.bool (zKo n)) := by
 obtain ⟨h1, h2, h3, h4⟩ := hn
 have cc := zIG n.odds 67 [] (fun s => decide (12 < (s.length : Int))) rfl h2 (fun s hs => modest11 s (h3 s hs))
 refine zM.value0 (zG (P := Tryz.prog) (fn := Tryz.f65) rfl rfl (by kernel_rfl) rfl (fun c hR hfix => ?_)) (fix := fun _ => False) (fun _ h => h) rfl rfl
 obtain ⟨kd, pl, nf, nx, od, py⟩ := n
 unfold zKo at hR
 unfold zBV
 simp only at *
 refine rn6 ?_
 refine zt rfl rfl (fun g1 => ?_) (fun g1 => ?_)
 · rw [decide_eq_true g1, Bool.true_or] at hR
   refine rn6 ?_
   exact zI hR rfl rfl
 · rw [decide_eq_false g1, Bool.false_or] at hR
   refine rn5 ?_
   refine zD rfl rfl rfl cc ?_
   refine rn2 ?_
   exact zI hR rfl rfl
def zHt (t : zT) : Bool := decide ((t.length : Int) ≤ 40) && !(t.any zKo)
theorem zIc {t : zT} (h : zHt t = true) : Go.Ax.Rt.Modest t := by
 unfold zHt at h
 rw [Bool.and_eq_true, decide_eq_true_eq, Bool.not_eq_true', List.any_eq_false] at h
 obtain ⟨h1, h2⟩ := h
 refine ⟨by omega, fun n hn => ?_, fun n hn r hr => ?_⟩
 · have := h2 n hn
   unfold zKo at this
   rw [Bool.not_eq_true, Bool.or_eq_false_iff, decide_eq_false_iff_not] at this
   omega
 · have := h2 n hn
   unfold zKo at this
   rw [Bool.not_eq_true, Bool.or_eq_false_iff, List.any_eq_false] at this
   have := this.2 r hr
   rw [decide_eq_true_eq] at this
   omega
theorem zP7 (t : zT) (hT : ShortT t) : zV Tryz.prog 16 [.ro (zc t) 0 t.length] (.bool (zHt t)) := by
 have cc := zPe t 65 [] zKo rfl hT.len (fun n hn => modest1 n (hT.node n hn))
 have hlen := hT.len
 refine zM.value0 (zG (P := Tryz.prog) (fn := Tryz.f16) rfl rfl (by kernel_rfl) rfl (fun c hR hfix => ?_)) (fix := fun _ => False) (fun _ h => h) rfl rfl
 unfold zHt at hR
 repeat (first | refine zB (zH rfl) ?_ | refine zB (zK rfl) ?_ | refine zC ?_ | refine zA ?_ | refine zX ?_ | refine zJ rfl ?_ | refine zB (zHZ rfl rfl) ?_ | refine zB (zBK rfl rfl rfl) ?_)
 refine zt rfl rfl (fun g1 => ?_) (fun g1 => ?_)
 · rw [decide_eq_true g1, Bool.true_and] at hR
   refine rn2 ?_
   refine zD rfl rfl rfl cc ?_
   refine rn5 ?_
   exact zI hR rfl rfl
 · rw [decide_eq_false g1, Bool.false_and] at hR
   refine rn6 ?_
   exact zI hR rfl rfl
theorem zJY {ls : List zAY} (h : zJM ls = true) : ∀ s ∈ ls, ∀ c ∈ s, ∀ r ∈ c.odds, r.length ≤ 12 := by
 unfold zJM at h
 rw [Bool.not_eq_true', List.any_eq_false] at h
 intro s hs c hc r hr
 have := h c (List.mem_flatten.2 ⟨s, hs, hc⟩)
 unfold zLx at this
 rw [Bool.not_eq_true, List.any_eq_false] at this
 have := this r hr
 rw [decide_eq_true_eq] at this
 omega
end Go.Proofs.YtnkealfaldjipaaGreatDoor
namespace Go.Ax
variable [Pins]
open Go.RowKit
section
variable {P : Program} {fn : Func} {c : Ctx} {fr : Fr} {H : zQ} {k : List It}
theorem zNj {all : Array Oper} {d : Nat} {t tn e : TypeId} {x y : Operand} {ty : TypeId} {pos : String} {after : Array Edge} {rest : List Oper} {inf : TypeInfo} {z : Value} {zs : List AV} {n : Int} {k1 kn : IntKind}
   (ht : P.underlying t = some (.slice e)) (htn : P.underlying tn = some (.int kn)) (hi : P.info? e = some inf) (hz : inf.zero = some z) (hsz : inf.size = zs.length) (hzs : zav z = some zs) (hpos : Nat.blt 0 zs.length = true)
   (hx : ev fr x = some .nil) (hy : ev fr y = some (.int k1 n)) (hb : 0 < n ∧ (n : Int) * inf.bytes ≤ 281474976710656 ∧ n ≤ 9223372036854775807)
   (hk : Ax P fn c (.ops false all rest k) ((d, .sl H.length 0 n.toNat) :: fr) (H ++ [some ⟨e, zAT n.toNat zs⟩])) : Ax P fn c (.ops false all (⟨some d, .call { callee := .builtin .append, args := #[x, y], argTypes := #[t, tn] }, ty, pos, after, none⟩ :: rest) k) fr H := by
 refine zIq (fun w a σ S hr => ?_) hk
 obtain ⟨z1, z2, z3⟩ := zDA n.toNat zs
 obtain ⟨y1, y2⟩ := zEI (w := w) (S := S) (σ := σ) hzs
 have hpos' : 0 < zs.length := Nat.le_of_ble_eq_true hpos
 have h1 := hr.evAt hx
 have h2 := hr.evInt hy
 generalize hzx : a.eval x = vx at h1
 cases h1
 obtain ⟨m, rfl⟩ : ∃ m : Nat, n = m := ⟨n.toNat, by omega⟩
 simp only [Int.toNat_natCast] at *
 have hbb : m * inf.bytes ≤ 281474976710656 := by
   have := hb.2.1
   rw [← Int.natCast_mul] at this
   omega
 have hrun := Lib.run_append_nil_zeros (P := P) w t tn ty e inf z k1 kn ht htn hi hz m (by omega) (by omega) (by omega) (by omega)
 have hexec : (execOp a.eval ⟨some d, .call { callee := .builtin .append, args := #[x, y], argTypes := #[t, tn] }, ty, pos, after, none⟩).run P w = .ok (.value (.slice (some ⟨w.heap.size, 0, none⟩) m (grownCap w m 0 e))) (w.drew.alloc (.cells (Builtin.zeroCells z.cells m ++ Builtin.zeroCells z.cells (grownCap w m 0 e - m)) e)) := by
   simp [execOp, resolve, hzx, h2, invoke, builtin, hrun]
 have hge := grownCap_ge w m 0 e
 have hle := grownCap_le_maxLen w m 0 e (by unfold maxLen; omega)
 generalize grownCap w m 0 e = G at hexec hge hle
 have hd : Rep c w.drew a σ S fn.ntmps fr H := hr.drewN (m := 1)
 refine ⟨_, _, _, S, hexec, hd.alloc (o := ⟨e, zAT m zs⟩) (C := G) (cur := Builtin.zeroCells z.cells m ++ Builtin.zeroCells z.cells (G - m)) (by rw [z1]; exact hge) hle (by
   simp only [Array.size_append, size_zeroCells, z2, y1, ← Nat.add_mul]; congr 1; omega) (fun i j hi hj => ?_), ?_⟩
 · simp only [z1] at hi
   simp only [z2] at hj ⊢
   rw [z3 i j hi hj]
   have hlt : i * zs.length + j < m * zs.length := by
     have : (i + 1) * zs.length ≤ m * zs.length := Nat.mul_le_mul_right _ (by omega)
     rw [Nat.add_mul] at this; omega
   have hm : (i * zs.length + j) % zs.length = j := by rw [Nat.mul_comm, Nat.mul_add_mod]; exact Nat.mod_eq_of_lt hj
   refine ⟨z.cells.getD j undef, ?_, ?_, (y2 j hj).2⟩
   · rw [Array.getElem?_append_left (by simp [size_zeroCells, y1]; exact hlt)]
     have hlt2 : i * zs.length + j < m * z.cells.size := by rw [y1]; exact hlt
     have hjz : j < z.cells.size := by rw [y1]; exact hj
     simp [Builtin.zeroCells, y1, hm, Array.getD, hlt, hj]
   · exact VR.mono (w := w) (w' := w.drew) (S := S) (S' := S) (σ := σ) (fun _ h => h) (fun _ _ => rfl) (y2 j hj).1 _ (fun _ _ h => h)
 · have := VR.sl (w := w.drew.alloc (.cells (Builtin.zeroCells z.cells m ++ Builtin.zeroCells z.cells (G - m)) e)) (S := S) (upσ σ H.length (.at w.heap.size (zAT m zs).sz G)) H.length 0 m w.heap.size (zAT m zs).sz G G (by simp [upσ]) (by omega) (by omega)
   simpa using this
/-- x = append(x, y...) where x has room. -/
theorem zJr {all : Array Oper} {d : Nat} {t e : TypeId} {x y : Operand} {ty : TypeId} {pos : String} {after : Array Edge} {rest : List Oper} {inf : TypeInfo} {h n : Nat} {o : AObj} {v : AV} {cx c' : Cells} {i2 m : Nat}
   (ht : P.underlying t = some (.slice e)) (hi : P.info? e = some inf) (hszz : inf.size = o.c.sz) (hx : ev fr x = some (.sl h 0 n)) (hh : H[h]? = some (some o)) (hoty : o.ty = e) (hy : ev fr y = some v) (hs : zMN H v = some (cx, i2, m))
   (hin0 : n + m ≤ o.c.len) (hpos : 0 < o.c.len) (hin : i2 + m ≤ cx.len) (p1 : c'.sz = o.c.sz) (p2 : cx.sz = o.c.sz) (p3 : c'.len = o.c.len)
   (p4 : ∀ i' j, i' < o.c.len → j < o.c.sz → c'.at i' j = if n ≤ i' ∧ i' < n + m then cx.at (i2 + (i' - n)) j else o.c.at i' j)
   (hk : Ax P fn c (.ops false all rest k) ((d, .sl h 0 (n + m)) :: fr) (H.set h (some ⟨o.ty, c'⟩))) (hz : o.c.sz ≠ 0 := by (intro hh; cases hh)) : Ax P fn c (.ops false all (⟨some d, .call { callee := .builtin .append, args := #[x, y], argTypes := #[t, t] }, ty, pos, after, none⟩ :: rest) k) fr H := by
 refine zIq (fun w a σ S hr => ?_) hk
 subst hoty
 have h1 := hr.evAt hx
 have h2 := hr.evAt hy
 have hsrc := hr.src h2 hs (fun _ _ => hin)
 have hexec : ∀ r w', (Builtin.append_ #[t, t] ty #[a.eval x, a.eval y]).run P w = .ok r w' → (execOp a.eval ⟨some d, .call { callee := .builtin .append, args := #[x, y], argTypes := #[t, t] }, ty, pos, after, none⟩).run P w = .ok (.value r) w' := by
   intro r w' h
   simp [execOp, resolve, invoke, builtin, h]
 generalize hzx : a.eval x = vx at h1 hexec
 generalize hzy : a.eval y = vy at h2 hsrc hexec
 unfold Src at hsrc
 rw [p2] at hsrc
 cases h1 with
 | sl0 _ _ hσ =>
   rcases hr.hr.live h o hh with ⟨_, hl⟩ | ⟨b, C, cur, hσ', _⟩
   · omega
   · rw [hσ] at hσ'; cases hσ'
 | sl _ _ _ _ b s C cap hσ hlen hcap =>
   obtain ⟨hs', cur, g1, g2, g3, g4, g5, g6⟩ := hr.obj hh hσ
   subst hs'
   have hcapC : cap = C := by omega
   subst hcapC
   obtain ⟨mk, g1, hmk, hrow⟩ := g1.cells hz
   rcases hsrc with ⟨rfl, ax, capx, rfl⟩ | ⟨ad, capx, news, rfl, q1, q2, q3, q4⟩
   · have hrun : (Builtin.append_ #[t, t] ty #[.slice (some ⟨b, 0 * o.c.sz, none⟩) n cap, .slice ax 0 capx]).run P w = .ok (.slice (some ⟨b, 0 * o.c.sz, none⟩) n cap) w := by
       have hle : n ≤ cap := by omega
       cases ax <;> simp [Builtin.append_, run_underlying ht, sizeOf, typeInfo, hi, Builtin.lenOf, hle, Builtin.firstCells, loadCells, loadCellsFrom, storeCells]
     have hself := setRow_self w b cur o.ty mk g1
     have hrep := hr.setRow (cur' := cur) hh hσ hrow p1 (by omega) g2 (fun i' j hi' hj => by
       rw [p3] at hi'
       rw [p1] at hj ⊢
       rw [p4 i' j hi' hj, if_neg (by omega)]
       exact g6 i' j hi' hj)
     rw [hself] at hrep
     exact ⟨_, w, σ, S, hexec _ _ hrun, hrep, .sl _ _ _ _ _ _ _ _ hσ (by omega) (by omega)⟩
   · have hroom : n + m ≤ cap := by omega
     have hfit : n * o.c.sz + news.length ≤ cur.size := by rw [q1, g2, ← Nat.add_mul]; exact Nat.mul_le_mul_right _ hroom
     have hrun := zEQ (P := P) w t ty o.ty inf ht hi b n cap cur g1 hmk ad m capx news (by rw [hszz]; exact q1) q2 q3 hroom (by rw [hszz]; exact hfit)
     rw [hszz] at hrun
     have hb0 : (cur.toList.take (n * o.c.sz)).length = n * o.c.sz := by rw [List.length_take]; simp; omega
     refine ⟨_, _, σ, S, hexec _ _ (by simpa using hrun), hr.setRow hh hσ hrow p1 (by omega) ?_ (fun i' j hi' hj => ?_), .sl _ _ _ _ _ _ _ _ hσ (by omega) (by omega)⟩
     · rw [← g2]; simp; omega
     · rw [p3] at hi'
       rw [p1] at hj ⊢
       rw [p4 i' j hi' hj]
       split
       · rename_i hr1
         obtain ⟨u, e1, e2⟩ := q4 (i' - n) j (by omega) hj
         refine ⟨u, ?_, e2, q3 u (List.mem_of_getElem? e1)⟩
         have hidx : i' * o.c.sz + j = n * o.c.sz + ((i' - n) * o.c.sz + j) := by
           rw [← Nat.add_assoc, ← Nat.add_mul]; congr 2; omega
         have hlt : (i' - n) * o.c.sz + j < news.length := by
           rw [q1]
           have : (i' - n + 1) * o.c.sz ≤ m * o.c.sz := Nat.mul_le_mul_right _ (by omega)
           rw [Nat.add_mul] at this; omega
         simp only [List.getElem?_toArray, List.append_assoc]
         rw [hidx, List.getElem?_append_right (by omega), hb0, Nat.add_sub_cancel_left, List.getElem?_append_left hlt]
         exact e1
       · rename_i hr1
         obtain ⟨u, e1, e2, e3⟩ := g6 i' j hi' hj
         refine ⟨u, ?_, e2, e3⟩
         simp only [List.getElem?_toArray, List.append_assoc]
         by_cases hlo : i' < n
         · have hlt : i' * o.c.sz + j < n * o.c.sz := by
             have : (i' + 1) * o.c.sz ≤ n * o.c.sz := Nat.mul_le_mul_right _ (by omega)
             rw [Nat.add_mul] at this; omega
           rw [List.getElem?_append_left (by omega), List.getElem?_take, if_pos hlt]
           simpa using e1
         · have hhi : n + m ≤ i' := by omega
           have hge : (n + m) * o.c.sz ≤ i' * o.c.sz := Nat.mul_le_mul_right _ hhi
           rw [Nat.add_mul, ← q1] at hge
           rw [List.getElem?_append_right (by omega), hb0, List.getElem?_append_right (by omega), List.getElem?_drop]
           have : n * o.c.sz + news.length + (i' * o.c.sz + j - n * o.c.sz - news.length) = i' * o.c.sz + j := by omega
           rw [this]
           simpa using e1
end
end Go.Ax
namespace Go.Proofs.YtnkealfaldjipaaGreatDoor
open Go.Ax Go.Ax.Bg Go.Ax.Rt Go.RowKit Go.Ax.Idx Go.Ax.Cd
attribute [local irreducible] Ax zAL QOp zM zo
set_option maxRecDepth 100000
set_option maxHeartbeats 4000000
def zH3 (o : Option TChoice) : List AV := match o with
 | none => [.int .i64 0, .nil]
 | some c => cellsC c
abbrev mixC (l : List (Option TChoice)) : Cells := zB3 none 2 zH3 l
theorem mix_zero (n : Nat) : CEq (zAT n [.int .i64 0, .nil]) (mixC (List.replicate n none)) := by
 refine ⟨by simp [zB3, Cells.len, zAT], rfl, fun i j hi hj => ?_⟩
 have hi : i < n := by simpa [Cells.len, zAT] using hi
 show (zH3 ((List.replicate n (none : Option TChoice)).getD i none)).getD j .any = _
 rw [zAk none (by simpa using hi), List.getElem_replicate]
 rfl
theorem mix_map (l : List TChoice) : CEq (mixC (l.map some)) (zAP l) := by
 refine ⟨by simp [zB3, Cells.len], rfl, fun i j hi hj => ?_⟩
 have hi : i < l.length := by simpa [zB3, Cells.len] using hi
 show (cellsC (l.getD i ch0)).getD j .any = (zH3 ((l.map some).getD i none)).getD j .any
 rw [zDY some l ch0 none i hi]
 rfl
theorem zMz (l : List (Option TChoice)) : zz (mixC l) := by
 intro i j _ hj
 have hj : j < 2 := hj
 show noRef ((zH3 (l.getD i none)).getD j .any) = true
 cases l.getD i none with
 | none => match j, hj with
   | 0, _ => rfl
   | 1, _ => rfl
 | some c => match j, hj with
   | 0, _ => rfl
   | 1, _ => rfl
theorem growM (n : Nat) (h0 : 0 < n) (h1 : n ≤ 8796093022208) : zHV Tryz.prog 129 [.nil, .int .i64 (n : Nat)] (fun N => .sl N 0 0) ⟨67, mixC (List.replicate n none)⟩ := by
 refine zM.fresh (K := fun r H => r = .sl 0 0 0 ∧ H = [some ⟨67, mixC (List.replicate n none)⟩]) (zG (P := Tryz.prog) (fn := Tryz.f129) rfl rfl (by kernel_rfl) rfl (fun c hR hfix => ?_)) (fix := fun _ => False) (fun _ h => h) rfl (fun H => ⟨rfl, by simp [zGs, inB]⟩) ?_
 · repeat (first | refine zB (zH rfl) ?_ | refine zB (zK rfl) ?_ | refine zC ?_ | refine zA ?_ | refine zX ?_ | refine zJ rfl ?_ | refine zAM rfl ?_ | refine zl ?_ | refine zB (zJ1 rfl rfl) ?_ | refine zB (zJw rfl rfl) ?_ | refine zB (zBK rfl rfl rfl) ?_ | refine zB (zBa rfl rfl (by omega)) ?_ | refine zB (zHU rfl rfl) ?_)
   refine zF rfl (fun h => ?_) (fun h => absurd h (by omega))
   repeat (first | refine zB (zH rfl) ?_ | refine zJ rfl ?_ | refine zB (zHU rfl rfl) ?_ | refine zB (zJF rfl rfl rfl rfl rfl rfl rfl) ?_)
   refine zNj rfl rfl rfl rfl rfl rfl rfl rfl rfl (by show 0 < _ ∧ _ * 32 ≤ _ ∧ _; omega) ?_
   refine rn3 ?_
   refine zB (zFw rfl rfl rfl rfl rfl rfl rfl rfl (by omega)) ?_
   refine zAx [some ⟨67, mixC (List.replicate n none)⟩] (zAJ.eqv (by rw [show (((n : Nat) : Int) - (0 - ((0 : Nat) : Int))).toNat = n by omega]; exact mix_zero n) zAJ.nil) ?_
   refine rn0 ?_
   exact zI hR rfl ⟨rfl, rfl⟩
 · rintro r H ⟨rfl, rfl⟩
   refine ⟨?_, fun h o ho => zFp (zMz _) h o ho, 0, rfl, fun n => rfl⟩
   intro o ho; simp at ho; subst ho; exact Nat.zero_le _
/-- the row while it is filled -/
def zFb (ls : List zAY) (n k : Nat) : List (Option TChoice) := (ls.take k).flatten.map some ++ List.replicate (n - (ls.take k).flatten.length) none
theorem zJV {ls : List zAY} {n k : Nat} (h : (ls.take k).flatten.length ≤ n) : (zFb ls n k).length = n := by
 unfold zFb
 rw [List.length_append, List.length_map, List.length_replicate]; omega
theorem zJO {ls : List zAY} {n k i : Nat} : (zFb ls n k).getD i none = if i < (ls.take k).flatten.length then some ((ls.take k).flatten.getD i ch0) else none := by
 unfold zFb
 by_cases h : i < (ls.take k).flatten.length
 · rw [if_pos h, zFT none (by rw [List.length_map]; exact h), zDY some _ ch0 none i h]
 · rw [if_neg h]
   simp only [List.getD, List.getElem?_append_right (show (List.map some (ls.take k).flatten).length ≤ i by rw [List.length_map]; omega), List.getElem?_replicate]
   split <;> rfl
theorem concatM (ls : List zAY) (hlen : ls.length ≤ 1000000) (hs : zCB ls ≤ 8796093022208) :
   zHV Tryz.prog 68 [.ro (zEp ls) 0 ls.length] (fun N => .sl N 0 ls.flatten.length) ⟨67, zAP ls.flatten⟩ := by
 have hfl := zA5 ls
 by_cases h0 : ls.flatten.length = 0
 · exact concatC ls hlen (by omega)
 refine zM.fresh (K := fun r H => r = .sl 0 0 ls.flatten.length ∧ H = [some ⟨67, zAP ls.flatten⟩]) (zG (P := Tryz.prog) (fn := Tryz.f68) rfl rfl (by kernel_rfl) rfl (fun c hR hfix => ?_)) (fix := fun _ => False) (fun _ h => h) rfl (fun H => ⟨rfl, by simp [zGs, inB]⟩) ?_
 · refine rn3 ?_
   refine zk (ι := Nat) (fun k => [(0, .ro (zEp ls) 0 ls.length), (3, .int .i64 (zCB (ls.take k))), (9, .ro (zEp ls) 0 ls.length), (10, .int .i64 (ls.length : Nat)), (11, .int .i64 (k : Nat))]) (fun _ => [])
     (fun k => k ≤ ls.length) (fun k => ls.length - k) 0 ⟨⟨rfl, rfl, rfl, rfl, rfl, trivial⟩, rfl, Nat.zero_le _⟩ ?_
   intro k hk
   refine rn4 ?_
   refine zF rfl (fun h1 => ?_) (fun h1 => ?_)
   · have hk' : k < ls.length := by omega
     have hsum := zFa ls k hk'
     have hb := zCO ls (k + 1)
     have hb0 := zCO ls k
     refine rn6 ?_
     refine zF rfl (fun h2 => absurd h2 (by omega)) (fun h2 => ?_)
     refine rn5 ?_
     exact zO ⟨k + 1, by omega, by omega, ⟨rfl, by rw [hsum]; rfl, rfl, rfl, rfl, trivial⟩, rfl⟩
   · have hk' : k = ls.length := by omega
     subst hk'
     simp only [List.take_length] at *
     rw [hfl]
     refine rn5 ?_
     refine zB0 rfl rfl rfl (growM ls.flatten.length (by omega) (by omega)) ?_
     refine rn3 ?_
     refine zk (ι := Nat) (fun k => [(6, .sl 0 0 (ls.take k).flatten.length), (25, .ro (zEp ls) 0 ls.length), (26, .int .i64 (ls.length : Nat)), (27, .int .i64 (k : Nat))]) (fun k => [some ⟨67, mixC (zFb ls ls.flatten.length k)⟩])
       (fun k => k ≤ ls.length) (fun k => ls.length - k) 0 ⟨⟨rfl, rfl, rfl, rfl, trivial⟩, rfl, Nat.zero_le _⟩ ?_
     intro k hk
     refine rn4 ?_
     refine zF rfl (fun h1 => ?_) (fun h1 => ?_)
     · have hk' : k < ls.length := by omega
       have hfs := zGw ls k hk'
       have hb := zCO ls (k + 1)
       have hb0 := zCO ls k
       have hfl0 := zA5 (ls.take k)
       have hfl1 := zA5 (ls.take (k + 1))
       have hl1 : (ls.take (k + 1)).flatten.length = (ls.take k).flatten.length + (ls.getD k []).length := by rw [hfs, List.length_append]
       have m1 := zJV (ls := ls) (n := ls.flatten.length) (k := k) (by omega)
       have m2 := zJV (ls := ls) (n := ls.flatten.length) (k := k + 1) (by omega)
       refine rn6 ?_
       refine zJr (c' := mixC (zFb ls ls.flatten.length (k + 1))) rfl rfl rfl rfl rfl rfl rfl rfl (by show _ + (ls.getD k []).length ≤ (zFb _ _ _).length; omega) (by show 0 < (zFb _ _ _).length; omega) (by show 0 + (ls.getD k []).length ≤ (ls.getD k []).length; omega) rfl rfl (by show (zFb _ _ _).length = (zFb _ _ _).length; omega) (fun i' j' hi' hj' => ?_) ?_
       · show (zH3 ((zFb ls ls.flatten.length (k + 1)).getD i' none)).getD j' .any = if (ls.take k).flatten.length ≤ i' ∧ i' < (ls.take k).flatten.length + (ls.getD k []).length then (cellsC ((ls.getD k []).getD (0 + (i' - (ls.take k).flatten.length)) ch0)).getD j' .any else (zH3 ((zFb ls ls.flatten.length k).getD i' none)).getD j' .any
         rw [zJO, zJO, hl1, hfs]
         by_cases q1 : i' < (ls.take k).flatten.length
         · rw [if_pos (by omega), if_neg (by omega), if_pos q1, zFT ch0 q1]
         · by_cases q2 : i' < (ls.take k).flatten.length + (ls.getD k []).length
           · rw [if_pos q2, if_pos ⟨by omega, q2⟩, Nat.zero_add]
             have : ((ls.take k).flatten ++ ls.getD k []).getD i' ch0 = (ls.getD k []).getD (i' - (ls.take k).flatten.length) ch0 := by
               simp only [List.getD, List.getElem?_append_right (show (ls.take k).flatten.length ≤ i' by omega)]
             rw [this]; rfl
           · rw [if_neg q2, if_neg (fun q => q2 q.2), if_neg q1]
       refine rn5 ?_
       refine zO ⟨k + 1, by omega, by omega, ⟨?_, rfl, rfl, rfl, trivial⟩, rfl⟩
       show some (AV.sl 0 0 ((ls.take k).flatten.length + (ls.getD k []).length)) = _
       rw [hl1]
     · have hk' : k = ls.length := by omega
       subst hk'
       have hmx : zFb ls ls.flatten.length ls.length = ls.flatten.map some := by
         unfold zFb
         rw [List.take_length, Nat.sub_self, List.replicate_zero, List.append_nil]
       rw [hmx, List.take_length]
       repeat (first | refine zA ?_ | refine zX ?_ | refine zA0 ?_ | refine zx ?_ | refine zw ?_ | refine zAN ?_)
       refine zDy [some ⟨67, zAP ls.flatten⟩] (zAJ.eqv (mix_map _) zAJ.nil) ?_
       refine rn0 ?_
       exact zI hR rfl ⟨rfl, rfl⟩
 · rintro r H ⟨rfl, rfl⟩
   refine ⟨?_, fun h o ho => zFp (zCs _) h o ho, 0, rfl, fun n => rfl⟩
   intro o ho; simp at ho; subst ho; show 0 + ls.flatten.length ≤ ls.flatten.length; omega
theorem zP2 (ls : List zAY) (hlen : ls.length ≤ 1000000) (hs : zCB ls ≤ 8796093022208) (hc : ∀ s ∈ ls, ∀ c ∈ s, ShortC c) : zV Tryz.prog 17 [.ro (zEp ls) 0 ls.length] (.bool (zJM ls)) := by
 have hfl := zA5 ls
 have cc := zPp ls.flatten 69 [] zLx rfl (by omega) (fun c hm => by
   obtain ⟨s, h1, h2⟩ := List.mem_flatten.1 hm
   exact plain1 c (hc s h1 c h2))
 refine zM.value0 (zG (P := Tryz.prog) (fn := Tryz.f17) rfl rfl (by kernel_rfl) rfl (fun c hR hfix => ?_)) (fix := fun _ => False) (fun _ h => h) rfl rfl
 unfold zJM at hR
 refine rn0 ?_
 refine zB0 rfl rfl rfl (concatM ls hlen hs) ?_
 skip
 refine zGI rfl rfl rfl rfl cc (zFp (o1 := ⟨67, zAP ls.flatten⟩) (zCs _)) ⟨fun o ho => by simp at ho; subst ho; show 0 + ls.flatten.length ≤ ls.flatten.length; omega, trivial, trivial⟩ rfl rfl rfl ?_
 refine rn5 ?_
 exact zI hR rfl rfl
end Go.Proofs.YtnkealfaldjipaaGreatDoor
namespace Go.Ax.Rt
open Go.Ax.Bg Go.Ax.Dt
set_option maxRecDepth 100000
def allV : List zAK → List Rat → Bool
 | [], [] => true
 | s :: r, q :: t => decide (IsQ s q) && allV r t
 | _, _ => false
theorem zJ3 : ∀ {s : List zAK} {l : List Rat}, allV s l = true → l.map zAO = s ∧ l.all zCT = true
 | [], [], _ => ⟨rfl, rfl⟩
 | [], _ :: _, h => by cases h
 | _ :: _, [], h => by cases h
 | a :: r, q :: t, h => by
   simp only [allV, Bool.and_eq_true, decide_eq_true_eq] at h
   obtain ⟨h1, h2⟩ := zJ3 h.2
   refine ⟨by rw [List.map_cons, h.1.text, h1], ?_⟩
   rw [List.all_cons, h.1.fit, h2]; rfl
theorem allV_f {s : List zAK} {l : List Rat} (h : allV s l = true) : zBC l = (s, 0) := by
 unfold zBC
 rw [if_pos (zJ3 h).2, (zJ3 h).1]
def allM : List (List zAK) → List (List Rat) → Bool
 | [], [] => true
 | s :: r, q :: t => allV s q && allM r t
 | _, _ => false
def fourT : List (List zAK) := [[[49], [50]], [[51], [52]]]
def signT : List (List zAK) := [[[49], [49]], [[49], [45, 49]]]
theorem zJH {q : List (List Rat)} : ∀ r ∈ (outM q).1, ∀ s ∈ r, s.length ≤ 9223372036854775807 := by
 intro r hr s hs
 unfold outM at hr
 split at hr
 · rename_i h
   obtain ⟨x, hx, rfl⟩ := List.mem_map.1 hr
   obtain ⟨y, hy, rfl⟩ := List.mem_map.1 hs
   have h2 := List.all_eq_true.1 (List.all_eq_true.1 h x hx) y hy
   unfold zCT at h2
   rw [Bool.and_eq_true, decide_eq_true_eq, decide_eq_true_eq] at h2
   unfold zAO
   rw [List.length_append, List.length_append]
   have h1 : (if y.num < 0 then [45] else [] : List UInt8).length ≤ 1 := by split <;> simp
   have h3 : (if y.den = 1 then [] else 47 :: Lib.decDigits y.den : List UInt8).length ≤ 2001 := by
     split
     · simp
     · rw [List.length_cons]; omega
   omega
 · simp at hr
abbrev MaxL : Nat := 9223372036854775807
structure ShortM (m : List (List zAK)) : Prop where
 len : m.length ≤ MaxL
 row : ∀ r ∈ m, r.length ≤ MaxL ∧ ∀ s ∈ r, s.length ≤ MaxL
structure ShortV (v : List zAK) : Prop where
 len : v.length ≤ MaxL
 each : ∀ s ∈ v, s.length ≤ MaxL
theorem ShortM.wid {m : List (List zAK)} (h : ShortM m) : zDs m ≤ MaxL := by
 unfold zDs
 cases m with
 | nil => exact Nat.zero_le _
 | cons x _ => exact (h.row x (by simp)).1
theorem ShortM.nil : ShortM [] := ⟨Nat.zero_le _, fun r hr => by simp at hr⟩
theorem ShortV.nil : ShortV [] := ⟨Nat.zero_le _, fun r hr => by simp at hr⟩
theorem ShortM.out {q : List (List Rat)} (h1 : q.length ≤ MaxL) (h2 : ∀ r ∈ q, r.length ≤ MaxL) : ShortM (outM q).1 := by
 have h3 := @zJH q
 refine ⟨?_, fun r hr => ⟨?_, h3 r hr⟩⟩
 · unfold outM
   split
   · simpa using h1
   · exact Nat.zero_le _
 · unfold outM at hr
   split at hr
   · obtain ⟨x, hx, rfl⟩ := List.mem_map.1 hr
     rw [List.length_map]; exact h2 x hx
   · simp at hr
theorem ShortM.mul {a b : List (List zAK)} (ha : ShortM a) (hb : ShortM b) : ShortM (mulR a b).1 := by
 unfold mulR
 split
 · exact ShortM.nil
 split
 · exact ShortM.nil
 split
 · refine ShortM.out (by simpa [mulQ, inM] using ha.len) (fun r hr => ?_)
   obtain ⟨x, hx, rfl⟩ := List.mem_map.1 hr
   rw [List.length_map, zPu]; exact hb.wid
 · exact ShortM.nil
theorem ShortM.trans {a : List (List zAK)} (ha : ShortM a) : ShortM (transR a).1 := by
 unfold transR
 split
 · exact ShortM.nil
 · refine ⟨by simpa [transT] using ha.wid, fun r hr => ?_⟩
   obtain ⟨k, hk, rfl⟩ := List.mem_map.1 hr
   refine ⟨by simpa using ha.len, fun s hs => ?_⟩
   obtain ⟨x, hx, rfl⟩ := List.mem_map.1 hs
   rcases Nat.lt_or_ge k x.length with q | q
   · exact (ha.row x hx).2 _ (by rw [zAk [] q]; exact List.getElem_mem q)
   · have : x.getD k [] = [] := by simp [List.getD, q]
     rw [this]; exact Nat.zero_le _
theorem ShortV.out {l : List Rat} (h : l.length ≤ MaxL) : ShortV (zBC l).1 := by
 have h3 := zJH (q := [l])
 refine ⟨?_, fun s hs => ?_⟩
 · unfold zBC
   split
   · simpa using h
   · exact Nat.zero_le _
 · unfold zBC at hs
   split at hs
   · rename_i h1
     have e : (outM [l]).1 = [l.map zAO] := by
       unfold outM
       rw [if_pos (by simpa using h1)]
       rfl
     rw [e] at h3
     exact h3 _ (by simp) s hs
   · simp at hs
theorem ShortM.apply {a : List (List zAK)} (ha : ShortM a) (v : List zAK) : ShortV (applyR a v).1 := by
 unfold applyR
 split
 · exact ShortV.nil
 split
 · exact ShortV.nil
 split
 · exact ShortV.nil
 · exact ShortV.out (by simpa [applyQ, inM] using ha.len)
end Go.Ax.Rt
namespace Go.Ax.Rt
open Go.Ax.Bg Go.Ax.Idx
set_option maxRecDepth 100000
def zA1 : zT := [⟨2, 0, 0, [1, 2], [], []⟩, ⟨2, 1, 3, [3, 4], [], []⟩, ⟨2, 1, 3, [5, 6], [], []⟩, ⟨0, 0, 0, [], [], [45, 49]⟩, ⟨0, 0, 0, [], [], [49]⟩, ⟨0, 0, 0, [], [], [49]⟩, ⟨0, 0, 0, [], [], [45, 49]⟩]
def zCZ (n : Int) : zAY := [⟨n, [[49, 47, 50], [49, 47, 50]]⟩]
end Go.Ax.Rt
namespace Go.Proofs.YtnkealfaldjipaaGreatDoor
open Go.Ax Go.Ax.Bg Go.Ax.Rt Go.RowKit Go.Ax.Idx Go.Ax.Cd
attribute [local irreducible] Ax zAL QOp zM zo
set_option maxRecDepth 100000
set_option maxHeartbeats 4000000
theorem seven {d : Nat} (h : d < 7) : d = 0 ∨ d = 1 ∨ d = 2 ∨ d = 3 ∨ d = 4 ∨ d = 5 ∨ d = 6 := by omega
theorem zHp : zV Tryz.prog 61 [] (.ro (zc zA1) 0 7) := by
 refine zM.value0 (zG (P := Tryz.prog) (fn := Tryz.f61) rfl rfl (by kernel_rfl) rfl (fun c hR hfix => ?_)) (fix := fun _ => False) (fun _ h => h) rfl rfl
 repeat (first | refine zB (zK rfl) ?_ | refine zC ?_ | refine zA ?_ | refine zX ?_ | refine zJ rfl ?_ | refine zB (zAS rfl rfl rfl rfl rfl rfl) ?_ | refine zn rfl rfl rfl rfl rfl rfl rfl rfl rfl rfl rfl ?_)
 refine zAd 0 (.ro (zc zA1) 0 7) rfl (AEq.ro_in rfl (fun d j hd hj => ?_)) ?_
 · have hj : j < 6 := hj
   have hj3 : j = 0 ∨ j = 1 ∨ j = 2 ∨ j = 3 ∨ j = 4 ∨ j = 5 := by omega
   rcases seven hd with rfl | rfl | rfl | rfl | rfl | rfl | rfl <;> rcases hj3 with rfl | rfl | rfl | rfl | rfl | rfl <;> first | exact AEq.rfl' | exact AEq.nil
 repeat (refine zAG ?_)
 exact zI hR rfl rfl
theorem zHT (n : Int) : zV Tryz.prog 62 [.int .i64 n] (.ro (zAP (zCZ n)) 0 1) := by
 refine zM.value0 (zG (P := Tryz.prog) (fn := Tryz.f62) rfl rfl (by kernel_rfl) rfl (fun c hR hfix => ?_)) (fix := fun _ => False) (fun _ h => h) rfl rfl
 repeat (first | refine zB (zH rfl) ?_ | refine zB (zK rfl) ?_ | refine zC ?_ | refine zA ?_ | refine zX ?_ | refine zJ rfl ?_ | refine zB (zAS rfl rfl rfl rfl rfl rfl) ?_ | refine zn rfl rfl rfl rfl rfl rfl rfl rfl rfl rfl rfl ?_)
 refine zAd 2 (.ro (zAP (zCZ n)) 0 1) rfl (AEq.ro_in rfl (fun d j hd hj => ?_)) ?_
 · have hj : j < 2 := hj
   have hj3 : j = 0 ∨ j = 1 := by omega
   obtain rfl : d = 0 := by omega
   rcases hj3 with rfl | rfl <;> exact AEq.rfl'
 repeat (refine zAG ?_)
 exact zI hR rfl rfl
end Go.Proofs.YtnkealfaldjipaaGreatDoor
namespace Go.Proofs.YtnkealfaldjipaaGreatDoor
open Go.Ax Go.Ax.Bg Go.Ax.Rt Go.RowKit
attribute [local irreducible] Ax zAL QOp zM zo
set_option maxRecDepth 100000
set_option maxHeartbeats 4000000
open Go.Ax.Idx Go.Ax.Cd
theorem equalR (a b : List (List UInt8)) (hlen : a.length ≤ 9223372036854775807) (hlb : b.length ≤ 9223372036854775807) : zV Tryz.prog 44 [.ro (.strs a) 0 a.length, .ro (.strs b) 0 b.length] (.bool (decide (a = b))) := by
 refine zM.value0 (zG (P := Tryz.prog) (fn := Tryz.f44) rfl rfl (by kernel_rfl) rfl (fun c hR hfix => ?_)) (fix := fun _ => False) (fun _ h => h) rfl rfl
 refine rn3 ?_
 refine zF rfl (fun h => ?_) (fun h => ?_)
 · refine rn2 ?_
   refine zI hR rfl ?_
   have : ¬ a = b := by rintro rfl; exact h rfl
   simp [zBT, this]
 have hab : a.length = b.length := by omega
 refine rn3 ?_
 refine zk (ι := Nat) (fun k => [(0, .ro (.strs a) 0 a.length), (1, .ro (.strs b) 0 b.length), (12, .int .i64 (a.length : Nat)), (13, .int .i64 (k : Nat))]) (fun _ => [])
   (fun k => k ≤ a.length ∧ a.take k = b.take k) (fun k => a.length - k) 0 ⟨⟨rfl, rfl, rfl, rfl, trivial⟩, rfl, Nat.zero_le _, rfl⟩ ?_
 intro k ⟨hk, heq⟩
 refine rn4 ?_
 refine zF rfl (fun h2 => ?_) (fun h2 => ?_)
 · have hk' : k < a.length := by omega
   have ha := zAr a [] k hk'
   have hb := zAr b [] k (by omega)
   refine rn1 ?_
   refine zEF (by kernel_rfl) (by kernel_rfl) rfl ?_
   repeat (first | refine zB (zH rfl) ?_ | refine zC ?_ | refine zA ?_ | refine zB (zEM rfl rfl rfl) ?_ | refine zB (zi rfl rfl rfl rfl (by first | (simp only [Nat.zero_add, Int.toNat_natCast, Int.toNat_zero]; exact rfl) | exact rfl) (by omega)) ?_ | refine zB (zF0 rfl rfl) ?_)
   refine zF rfl (fun h3 => ?_) (fun h3 => ?_)
   · refine rn6 ?_
     refine zI hR rfl ?_
     have : ¬ a = b := by rintro rfl; exact h3 rfl
     simp [zBT, this]
   · refine rn5 ?_
     have h4 : a.getD k [] = b.getD k [] := Classical.not_not.1 h3
     exact zO ⟨k + 1, ⟨by omega, by rw [ha, hb, heq, h4]⟩, by omega, ⟨rfl, rfl, rfl, rfl, trivial⟩, rfl⟩
 · have hk' : k = a.length := by omega
   subst hk'
   rw [List.take_length, hab, List.take_length] at heq
   refine rn5 ?_
   refine zI hR rfl ?_
   simp [zBT, heq]
theorem hlen2 {l : List (List UInt8)} (h : (l.all fun s => decide (s.length ≤ 100)) = true) : ∀ s ∈ l, s.length ≤ 9223372036854775807 := fun s hs => by
 have := List.all_eq_true.1 h s hs
 have := of_decide_eq_true this
 omega
end Go.Proofs.YtnkealfaldjipaaGreatDoor
namespace Go.Proofs.YtnkealfaldjipaaGreatDoor
open Go.Ax Go.Ax.Bg Go.Ax.Rt Go.RowKit Go.Ax.Idx Go.Ax.Cd
attribute [local irreducible] Ax zAL QOp zM zo
set_option maxRecDepth 100000
set_option maxHeartbeats 4000000
def zFq : zAY := [⟨3, [[49], [48]]⟩]
theorem zLf : ShortT zA1 := ⟨by decide, fun n hn => by
 simp only [zA1, List.mem_cons, List.not_mem_nil, or_false] at hn
 rcases hn with rfl | rfl | rfl | rfl | rfl | rfl | rfl <;> exact ⟨by decide, by decide, by decide, by decide⟩⟩
theorem zOT : Go.Ax.Rt.Modest zA1 := zIc (by decide)
theorem zKU (n : Int) : ShortS (zCZ n) := ⟨(by decide : 1 ≤ 9223372036854775807), fun c hc => by
 rw [List.mem_singleton.1 hc]; exact ⟨(by decide : 2 ≤ 9223372036854775807), fun s hs => by simp at hs; subst hs; decide⟩⟩
theorem zQA : ShortS zFq := ⟨by decide, fun c hc => by
 rw [List.mem_singleton.1 hc]; exact ⟨by decide, fun s hs => by simp at hs; rcases hs with rfl | rfl <;> decide⟩⟩
theorem halfDig (n : Int) : ∀ c ∈ zCZ n, ∀ r ∈ c.odds, r.length ≤ 12 := fun c hc => by
 rw [List.mem_singleton.1 hc]; intro r hr; simp at hr; subst hr; decide
theorem sureDig : ∀ c ∈ zFq, ∀ r ∈ c.odds, r.length ≤ 12 := fun c hc => by
 rw [List.mem_singleton.1 hc]; intro r hr; simp at hr; rcases hr with rfl | rfl <;> decide
theorem zOJ : Small zA1 [zCZ 0, zCZ 3] := ⟨zLf, zOT, fun x hx => by
 simp at hx; rcases hx with rfl | rfl <;> exact zKU _, fun x hx => by
 simp at hx; rcases hx with rfl | rfl <;> exact halfDig _⟩
theorem gSmall1 : Small zA1 [zFq] := ⟨zLf, zOT, fun x hx => by
 rw [List.mem_singleton.1 hx]; exact zQA, fun x hx => by
 rw [List.mem_singleton.1 hx]; exact sureDig⟩
theorem zNz : zDj zA1 (zCZ 0) (zCZ 3) = 0 := by decide +kernel
theorem gValue : zEr zA1 (zCZ 0) (zCZ 3) = ([48], 0) := by
 unfold zEr
 rw [if_neg (fun h => h zNz)]
 exact IsQ.out (show IsQ [48] _ by decide +kernel)
theorem gOdds : zHO zA1 (zCZ 0) (zCZ 3) = ([[49], [49, 47, 50], [49, 47, 50], [49, 47, 52], [49, 47, 52], [49, 47, 52], [49, 47, 52]], 0) := by
 unfold zHO
 rw [if_neg (fun h => h zNz)]
 exact allV_f (by decide +kernel)
theorem gBest : zCx zA1 0 zFq = ([49], [⟨0, [[48], [49]]⟩], 0) := by
 have e1 : zFo zA1 0 zFq = 0 := by decide +kernel
 have e2 : zDk (zCt zA1 0 zFq) = ([49], 0) := IsQ.out (show IsQ [49] _ by decide +kernel)
 have e3 : zFR zA1 0 (zAu zA1 0 zFq) = [⟨0, [[48], [49]]⟩] := by
   have h1 : zf zA1 0 = [0] := by decide +kernel
   have h2 : bestC zA1 0 (zAu zA1 0 zFq) 0 = 1 := by decide +kernel
   have h3 : zd zA1 0 0 = 2 := by decide +kernel
   unfold zFR
   rw [h1]
   show [zBj zA1 0 (zAu zA1 0 zFq) 0] = _
   unfold zBj
   rw [h2, h3]; rfl
 unfold zCx
 rw [if_neg (fun h => h e1), e2, if_neg (fun h => h rfl), e3]
theorem gCheck0 : zDj zA1 [] (zCZ 3) = 3 := by decide +kernel
theorem zPZ : zV Tryz.prog 15 [] (.bool true) := by
 have c1 := zKX zA1 (zCZ 0) (zCZ 3) zOJ
 rw [gValue] at c1
 have c2 := rodds_ok zA1 (zCZ 0) (zCZ 3) zOJ
 rw [gOdds] at c2
 have c2 : zV Tryz.prog 21 [.ro (zc zA1) 0 7, .ro (zAP (zCZ 0)) 0 1, .ro (zAP (zCZ 3)) 0 1] (.tup [.ro (.strs [[49], [49, 47, 50], [49, 47, 50], [49, 47, 52], [49, 47, 52], [49, 47, 52], [49, 47, 52]]) 0 7, .int .i64 0]) := c2
 have c3 := zLI zA1 0 zFq gSmall1
 rw [gBest] at c3
 have c3 : zV Tryz.prog 18 [.ro (zc zA1) 0 7, .int .i64 0, .ro (zAP zFq) 0 1] (.tup [.str [49], .ro (zAP [⟨0, [[48], [49]]⟩]) 0 1, .int .i64 0]) := c3
 have c4 := zG9 zA1 [] (zCZ 3) zLf ⟨by decide, fun c hc => by simp at hc⟩ (zKU 3)
 rw [gCheck0] at c4
 have c4' : zV Tryz.prog 63 [.ro (zc zA1) 0 7, .nil, .ro (zAP (zCZ 3)) 0 1] (.int .i64 3) := fun H => zM.args (c4 H) ⟨AEq.rfl', AEq.nil, AEq.rfl', trivial⟩
 have f3 : zV Tryz.prog 24 [.ro (.ints .i64 [0, 0, 0]) 0 3] (.bool true) := fineI [0, 0, 0] (by decide)
 have v1 := equalR [[48], [49]] [[48], [49]] (by decide) (by decide)
 rw [decide_eq_true rfl] at v1
 refine zM.value0 (zG (P := Tryz.prog) (fn := Tryz.f15) rfl rfl (by kernel_rfl) rfl (fun c hR hfix => ?_)) (fix := fun _ => False) (fun _ h => h) rfl rfl
 refine rn0 ?_
 refine zD rfl rfl rfl zHp ?_
 skip
 refine zD rfl rfl rfl (zHT 0) ?_
 skip
 refine zD rfl rfl rfl (zHT 3) ?_
 skip
 refine zD rfl rfl rfl c1 ?_
 unfold zHM
 refine rn2 ?_
 refine zD rfl rfl rfl zHp ?_
 skip
 refine zD rfl rfl rfl (zHT 0) ?_
 skip
 refine zD rfl rfl rfl (zHT 3) ?_
 skip
 refine zD rfl rfl rfl c2 ?_
 refine rn2 ?_
 refine zD rfl rfl rfl zHp ?_
 repeat (first | refine zB (zAS rfl rfl rfl rfl rfl rfl) ?_ | refine zn rfl rfl rfl rfl rfl rfl rfl rfl rfl rfl rfl ?_)
 refine zL 26 (.ro (zAP zFq) 0 1) rfl (AEq.ro_in rfl (fun d j hd hj => ?_)) ?_
 · have hj : j < 2 := hj
   have hj3 : j = 0 ∨ j = 1 := by omega
   obtain rfl : d = 0 := by omega
   rcases hj3 with rfl | rfl <;> exact AEq.rfl'
 refine zD rfl rfl rfl c3 ?_
 refine rn3 ?_
 refine zD rfl rfl rfl f3 ?_
 repeat (first | refine zB (zH rfl) ?_ | refine zAA rfl rfl ?_ | refine zB (zEM rfl rfl rfl) ?_ | refine zB (zCJ rfl rfl rfl rfl) ?_ | refine zB (zEj rfl rfl) ?_ | refine zB (zAZ rfl rfl) ?_ | refine zB (zBK rfl rfl rfl) ?_ | refine zB (zi rfl rfl rfl rfl (by first | (simp only [Nat.zero_add, Int.toNat_natCast, Int.toNat_zero]; exact rfl) | exact rfl) (by omega)) ?_ | refine zB (zGL rfl rfl) ?_ | refine zB (zBA rfl rfl rfl rfl rfl rfl) ?_ | refine zn rfl rfl rfl rfl rfl rfl rfl rfl rfl rfl rfl ?_)
 refine zD rfl rfl rfl v1 ?_
 refine rn2 ?_
 refine zD rfl rfl rfl zHp ?_
 repeat (refine zAA rfl rfl ?_)
 refine zD rfl rfl rfl (zHT 3) ?_
 repeat (refine zAA rfl rfl ?_)
 refine zD rfl rfl rfl c4' ?_
 refine rn4 ?_
 exact zI hR rfl rfl
end Go.Proofs.YtnkealfaldjipaaGreatDoor
namespace Go.Proofs.YtnkealfaldjipaaGreatDoor
open Go.Ax Go.Ax.Bg Go.Ax.Rt Go.RowKit Go.Ax.Idx Go.Ax.Cd
attribute [local irreducible] Ax zAL QOp zM zo
set_option maxRecDepth 100000
set_option maxHeartbeats 4000000
end Go.Proofs.YtnkealfaldjipaaGreatDoor
namespace Go.Proofs.YtnkealfaldjipaaGreatDoor
open Go.Ax Go.Ax.Bg Go.Ax.Rt Go.RowKit Go.Ax.Idx Go.Ax.Cd
attribute [local irreducible] Ax zAL QOp zM zo
set_option maxRecDepth 100000
set_option maxHeartbeats 4000000
theorem zHP {s : List UInt8} (h : zCX s = 0) : s.length ≤ 4002 := by
 have hf := (IsQ.self h).fit
 rw [← (IsQ.self h).text]
 unfold zCT at hf
 rw [Bool.and_eq_true, decide_eq_true_eq, decide_eq_true_eq] at hf
 unfold zAO
 rw [List.length_append, List.length_append]
 split <;> split <;> simp <;> omega
theorem zNN {q : Rat} (h : D 974 q) : zDk q = (zAO q, 0) ∧ IsQ (zAO q) q := h.out (by decide)
end Go.Proofs.YtnkealfaldjipaaGreatDoor
namespace Go.Proofs.YtnkealfaldjipaaGreatDoor
open Go.Ax Go.Ax.Bg Go.Ax.Rt Go.RowKit Go.Ax.Idx Go.Ax.Cd
attribute [local irreducible] Ax zAL QOp zM zo
set_option maxRecDepth 100000
set_option maxHeartbeats 4000000
theorem cmp_no {a b : Rat} (h : a ≤ b) : zGr a b ≤ 0 := by
 unfold zGr
 split
 · omega
 · split
   · omega
   · rename_i h1 h2
     rcases Rat.le_iff_lt_or_eq.1 h with q | q
     · exact absurd q h1
     · exact absurd q h2
theorem zI5 {t : zT} {p : Int} {s : zAY} (h : (zCx t p s).2.2 = 0) : zFo t p s = 0 := by
 refine Classical.byContradiction (fun h1 => ?_)
 unfold zCx at h
 rw [if_pos h1] at h
 exact h1 h
theorem zJS {t : zT} {p : Int} {s : zAY} (hsm : Small t [s]) (h : (zCx t p s).2.2 = 0) : (zCx t p s).1 = zAO (zCt t p s) ∧ IsQ (zAO (zCt t p s)) (zCt t p s) := by
 have hE := zI5 h
 obtain ⟨hv, hp, hpf, hst⟩ := zHF hE
 obtain ⟨o1, o2⟩ := zNN (zOk hv hsm.m hp hpf (hsm.str (s := s) (by simp) hst))
 refine ⟨?_, o2⟩
 unfold zCx
 rw [if_neg (fun h => h hE), o1, if_neg (fun h => h rfl)]
theorem zPl {t : zT} {a b : zAY} (h : (zEr t a b).2 = 0) : zDj t a b = 0 := by
 refine Classical.byContradiction (fun h1 => ?_)
 unfold zEr at h
 rw [if_pos h1] at h
 exact h1 h
theorem zKN (t : zT) (a b : zAY) (hT : t.length ≤ 9223372036854775807 ∧ ∀ n ∈ t, ShortN n) (ha : a.length ≤ 9223372036854775807 ∧ ∀ c ∈ a, ShortC c) (hb : b.length ≤ 9223372036854775807 ∧ ∀ c ∈ b, ShortC c) (ha47 : a.length ≤ 4398046511104) (hb47 : b.length ≤ 4398046511104) : zV Tryz.prog 5 [.ro (zc t) 0 t.length, .ro (zAP a) 0 a.length, .ro (zAP b) 0 b.length] (.bool true) := by
 have hS : ShortT t := ⟨hT.1, hT.2⟩
 have hSa : ShortS a := ⟨ha.1, ha.2⟩
 have hSb : ShortS b := ⟨hb.1, hb.2⟩
 have c1 := zP7 t hS
 have c2 := zP2 [a, b] (show 2 ≤ 1000000 by decide) (by show ((a.length : Int) + ((b.length : Int) + 0)) ≤ _; omega) (fun x hx c hc => by simp at hx; rcases hx with rfl | rfl; exact ha.2 c hc; exact hb.2 c hc)
 refine zM.value0 (zG (P := Tryz.prog) (fn := Tryz.f5) rfl rfl (by kernel_rfl) rfl (fun c hR hfix => ?_)) (fix := fun _ => False) (fun _ h => h) rfl rfl
 refine rn0 ?_
 refine zD rfl rfl rfl zPZ ?_
 refine rn5 ?_
 refine zD rfl rfl rfl c1 ?_
 cases hmo : zHt t
 · refine rn6 ?_
   exact zI hR rfl rfl
 have hm := zIc hmo
 refine rn5 ?_
 refine zL 29 (.ro (zEp [a, b]) 0 2) rfl (AEq.ro_in rfl (fun d j hd hj => ?_)) ?_
 · have hj : j < 1 := hj
   obtain rfl : j = 0 := by omega
   have hd : d = 0 ∨ d = 1 := by omega
   rcases hd with rfl | rfl <;> exact AEq.rfl'
 refine zD rfl rfl rfl c2 ?_
 cases hpl : zJM [a, b]
 · refine rn5 ?_
   exact zI hR rfl rfl
 have hda := zJY hpl a (by simp)
 have hdb := zJY hpl b (by simp)
 have hsm : Small t [a, b] := ⟨hS, hm, fun x hx => by simp at hx; rcases hx with rfl | rfl; exact hSa; exact hSb, fun x hx => by simp at hx; rcases hx with rfl | rfl; exact hda; exact hdb⟩
 have hsa : Small t [a] := ⟨hS, hm, fun x hx => by rw [List.mem_singleton.1 hx]; exact hSa, fun x hx => by rw [List.mem_singleton.1 hx]; exact hda⟩
 have hsb : Small t [b] := ⟨hS, hm, fun x hx => by rw [List.mem_singleton.1 hx]; exact hSb, fun x hx => by rw [List.mem_singleton.1 hx]; exact hdb⟩
 have c3 := zKX t a b hsm
 have c4 := zLI t 0 b hsb
 have c5 := zLI t 1 a hsa
 have c6 := fineI [(zEr t a b).2, (zCx t 0 b).2.2, (zCx t 1 a).2.2] (show 3 ≤ 1000 by decide)
 unfold zHM at c3
 unfold bestA at c4 c5
 have gv := fun h => zPl (t := t) (a := a) (b := b) h
 have g0 := fun h => zJS (p := 0) hsb h
 have g1 := fun h => zJS (p := 1) hsa h
 have e0 := fun h => zI5 (t := t) (p := 0) (s := b) h
 have e1 := fun h => zI5 (t := t) (p := 1) (s := a) h
 have hvr : zDj t a b = 0 → zEr t a b = zDk (zAb t (zAp t a b)) := fun h => by unfold zEr; rw [if_neg (fun q => q h)]
 generalize zEr t a b = V at *
 generalize zCx t 0 b = B0 at *
 generalize zCx t 1 a = B1 at *
 obtain ⟨V1, V2⟩ := V
 obtain ⟨X1, X2, X3⟩ := B0
 obtain ⟨Y1, Y2, Y3⟩ := B1
 simp only at *
 refine rn5 ?_
 refine zD rfl rfl rfl c3 ?_
 refine rn2 ?_
 refine zD rfl rfl rfl c4 ?_
 refine rn2 ?_
 refine zD rfl rfl rfl c5 ?_
 refine rn3 ?_
 by_cases hf : V2 = 0 ∧ X3 = 0 ∧ Y3 = 0
 case neg =>
   have h6 : ([V2, X3, Y3].any zKW) = true := by
     refine Classical.byContradiction (fun h => hf ?_)
     simp [zKW] at h
     exact h
   rw [h6] at c6
   refine zD rfl rfl rfl c6 ?_
   refine rn5 ?_
   exact zI hR rfl rfl
 obtain ⟨rfl, rfl, rfl⟩ := hf
 obtain ⟨hv, ea, eb⟩ := zGS (gv rfl)
 obtain ⟨_, _, hp0, _⟩ := zHF (e0 rfl)
 obtain ⟨_, _, hp1, _⟩ := zHF (e1 rfl)
 have sa := hsm.str (s := a) (by simp) ea
 have sb := hsm.str (s := b) (by simp) eb
 have dv : D 974 (zAb t (zAp t a b)) := zI4 hv (zF6 hv hm sa.str sb.str) hm.len (hm.pays hv)
 obtain ⟨o1, o2⟩ := zNN dv
 have hV := (hvr (gv rfl)).trans o1
 obtain ⟨rfl, _⟩ := Prod.mk.inj hV
 obtain ⟨rfl, iX⟩ := g0 rfl
 obtain ⟨rfl, iY⟩ := g1 rfl
 have m0 : zAb t (zAp t a b) ≤ zCt t 0 b := most0 hv hp0 sa.str.mix (zE9 b)
 have m1 : -(zAb t (zAp t a b)) ≤ zCt t 1 a := most1 hv hp1 (zE9 a) sb.str.mix
 obtain ⟨n1, n2⟩ := zNN dv.neg
 have hneg := IsQ.one (fun x => -x) o2
 rw [n1] at hneg
 have c7 := rneg_ok (zAO (zAb t (zAp t a b))) (by have := zHP o2.1; omega)
 rw [hneg] at c7
 have c8 := zOK (zAO (zAb t (zAp t a b))) (zAO (zCt t 0 b)) (by have := zHP o2.1; omega) (by have := zHP iX.1; omega)
 have c9 := zOK (zAO (-(zAb t (zAp t a b)))) (zAO (zCt t 1 a)) (by have := zHP n2.1; omega) (by have := zHP iY.1; omega)
 rw [o2.cmp iX] at c8
 rw [n2.cmp iY] at c9
 have k0 := cmp_no m0
 have k1 := cmp_no m1
 unfold zHM at c7
 clear hneg hV n1 o1
 generalize zAO (zAb t (zAp t a b)) = V at *
 generalize zAO (-(zAb t (zAp t a b))) = W at *
 generalize zAO (zCt t 0 b) = X at *
 generalize zAO (zCt t 1 a) = Y at *
 generalize zGr (zAb t (zAp t a b)) (zCt t 0 b) = K0 at *
 generalize zGr (-(zAb t (zAp t a b))) (zCt t 1 a) = K1 at *
 refine zD rfl rfl rfl c6 ?_
 refine rn5 ?_
 refine zD rfl rfl rfl c7 ?_
 refine rn2 ?_
 refine zD rfl rfl rfl c8 ?_
 refine rn2 ?_
 refine zD rfl rfl rfl c9 ?_
 refine rn3 ?_
 refine zD rfl rfl rfl (fineI [0, 0, 0] (by decide)) ?_
 repeat (first | refine zB (zH rfl) ?_ | refine zAA rfl rfl ?_ | refine zB (zHZ rfl rfl) ?_ | refine zB (zAZ rfl rfl) ?_)
 rw [decide_eq_true k0]
 repeat (first | refine zB (zH rfl) ?_ | refine zB (zK rfl) ?_ | refine zC ?_ | refine zA ?_ | refine zAA rfl rfl ?_ | refine zAG ?_ | refine zB (zHZ rfl rfl) ?_ | refine zB (zAZ rfl rfl) ?_)
 rw [decide_eq_true k1]
 skip
 exact zI hR rfl rfl
end Go.Proofs.YtnkealfaldjipaaGreatDoor
namespace Go.Proofs.YtnkealfaldjipaaGreatDoor
open Go.ChangeShapes Go.WideShapes
theorem ownIt : ownKnob Tryz.prog.godebug = none := by kernel_rfl
theorem laidIt : laidOutB Tryz.prog = true := by kernel_rfl
theorem zOG : mapsRowed Tryz.prog = true := by kernel_rfl
theorem fullIt : ((List.range Tryz.prog.types.size).all fun t => match Tryz.prog.underlying t with | some (.slice e) => decide (0 < Tryz.prog.cellsOf e) | _ => true) = true := by kernel_rfl
theorem stopsIt : (Tryz.prog.stops == []) = true := by kernel_rfl
theorem knobsIt : (Tryz.prog.stopKnobs == []) = true := by kernel_rfl
theorem heardIt : Tryz.prog.stopsHeard = true := by kernel_rfl
theorem enterIt : Tryz.prog.mayEnter = true := by kernel_rfl
theorem liftIt : (Rows.replyGetsRow.lifted == Tryz.prog.liftsFinal) = true := by kernel_rfl
theorem makeIt : (Tryz.prog.make == some Rows.replyGetsRow.make) = true := by kernel_rfl
theorem plainIt : (Rows.replyGetsRow.plainKeys == Tryz.prog.plainKeys) = true := by kernel_rfl
theorem zPX : Tryz.prog.mainIs = some (true, ("9a7b365347614a0287077179d20768685206a4b5ee48bcf94245b18e3653b2c2" : String).toList) := by kernel_rfl
theorem looksIt : true = Tryz.prog.looks [] := by kernel_rfl
end Go.Proofs.YtnkealfaldjipaaGreatDoor
