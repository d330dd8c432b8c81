import Derived.Test.YtnkealfaldjipaaGreatDoorRows
import Derived.Test.YtnkealfaldjipaaGreatDoorTie
import Derived.Test.YtnkealfaldjipaaGreatDoorCards
import Derived.LaidMore
import Derived.Lay
import Derived.SevenTiedAt
import Derived.Stop.Joined
import Derived.Stop.ErrReads
import Derived.MakeChecks
import Derived.Test.YtnkealfaldjipaaGreatDoorY5
set_option linter.unusedVariables false
set_option linter.unusedSimpArgs false
namespace Go.Proofs.YtnkealfaldjipaaGreatDoor
open Go.Ax Go.Ax.Bg Go.Ax.Rt Go.RowKit Go.Ax.Idx Go.Ax.Cd
attribute [local irreducible] Ax zAM QOp zO zo
set_option maxRecDepth 100000
set_option maxHeartbeats 4000000
theorem q_pred {ind : Bool} {P : Program} {fn : Func} {c : Ctx} {fr : Fr} {H : zV} {d : Option Nat} {ty : TypeId} {pos : String} {after : Array Edge} {g : Option (Nat × Bool)} {x y : Operand} {t t' : TypeId} {k : Nat} (hx : ev fr x = some (.int .i64 ((k + 1 : Nat) : Int))) (hy : ev fr y = some (.int .i64 1)) (hb : k ≤ 9223372036854775806) :
   QOp ind P fn c fr H ⟨d, .binOp .sub t x y t', ty, pos, after, g⟩ (.int .i64 (k : Nat)) := by
 have h := zBk (ind := ind) (P := P) (fn := fn) (c := c) (H := H) (d := d) (ty := ty) (pos := pos) (after := after) (g := g) (t := t) (t' := t') hx hy (by omega)
 rwa [show ((k + 1 : Nat) : Int) - 1 = (k : Nat) by omega] at h
theorem zIz (l : List zAK) (n : Nat) : zA6 n (.strs l) := fun _ _ _ _ => rfl
def zDK (a : CPlan) : List AV := [.ro (.ints .i64 a.choices) 0 a.choices.length, .str a.odds]
abbrev mxC (l : zBl) : Cells := zCf cp0 2 zDK l
theorem zKk (a : CPlan) (j h : Nat) (hj : j < 2) : ((zDK a).getD j .any).forget h = (zDK a).getD j .any := by
 match j, hj with
 | 0, _ => rfl
 | 1, _ => rfl
theorem zOu (l : zBl) : z7 (mxC l) := by
 intro i j _ hj
 have hj : j < 2 := hj
 show noRef ((zDK (l.getD i cp0)).getD j .any) = true
 match j, hj with
 | 0, _ => rfl
 | 1, _ => rfl
theorem zEX (t : zS) (p : Int) : zAE t p = zE2 (zAP t p) := by
 unfold zAE zE2 zAP
 rw [List.map_map]; rfl
theorem zGF {t : zS} {p : Int} (h : zAh t p = 0) : zE9 t p = ((zJ t p, zAE t p), 0) := by
 unfold zE9
 rw [if_neg (fun q => q h)]
theorem zHQ {t : zS} {p : Int} (h : zAh t p ≠ 0) : zE9 t p = (([], []), zAh t p) := by
 unfold zE9
 rw [if_pos h]
theorem zPj {t : zS} (hv : Valid t) (p : Int) : ∀ n ∈ zAP t p, n ≤ 6 := by
 intro n hn
 obtain ⟨x, hx, rfl⟩ := List.mem_map.1 hn
 exact zHw hv hx
theorem zKJ (t : zS) (p : Int) : (zAP t p).length ≤ 10 := by
 rw [zCs]
 unfold zJ
 refine Nat.le_trans (List.length_filter_le _ _) (by simp)
theorem cpure_ok (t : zS) (p : Int) (hT : ShortT t) : zW Tryz.prog 100 [.ro (zd t) 0 t.length, .int .i64 p] (.tup [.ro (zA2 (zNZ t p).1) 0 (zNZ t p).1.length, .int .i64 (zNZ t p).2]) := by
 have c1 := zJS t p hT
 refine zO.value0 (zF (P := Tryz.prog) (fn := Tryz.f100) rfl rfl (by kernel_rfl) rfl (fun c hR hfix => ?_)) (fix := fun _ => False) (fun _ h => h) rfl rfl
 unfold zNZ at hR
 by_cases h1 : zAh t p = 0
 case neg =>
   rw [zHQ h1] at c1
   rw [if_pos h1] at hR
   generalize zAh t p = e at *
   refine rn0 ?_
   refine zE rfl rfl rfl c1 ?_
   refine rn3 ?_
   rw [decide_eq_true (show ¬ e = 0 from h1)]
   repeat (first | refine zC (zI rfl) ?_ | refine zC (zK rfl) ?_ | refine zB ?_ | refine zA ?_ | refine zZ ?_ | refine zL rfl ?_ | refine zAV rfl ?_)
   refine zAO 4 (.ro (zA2 []) 0 0) rfl AEq.nil ?_
   refine rn2 ?_
   exact zH hR rfl rfl
 obtain ⟨hv, _⟩ := zCP h1
 rw [zGF h1] at c1
 rw [if_neg (fun q => q h1)] at hR
 have c2 := all_ok (zAP t p) (by have := zKJ t p; omega) (fun n hn => by have := zPj hv p n hn; omega)
 rw [← zEX] at c2
 have hzl : (zAE t p).length = (zAP t p).length := by rw [zEX]; exact List.length_map _
 cases ha : zGz (zAP t p) [[]] with
 | none =>
   rw [ha] at c2 hR
   refine rn0 ?_
   refine zE rfl rfl rfl c1 ?_
   refine rn4 ?_
   refine zN 22 (.ro (.ints .i64 (zAE t p)) 0 (zAP t p).length) rfl (AEq.of_eq (by rw [hzl])) ?_
   refine zE rfl rfl rfl c2 ?_
   repeat (first | refine zC (zI rfl) ?_ | refine zC (zK rfl) ?_ | refine zB ?_ | refine zA ?_ | refine zZ ?_ | refine zL rfl ?_ | refine zAV rfl ?_ | refine zC (zEB rfl) ?_ | refine zC (zBQ rfl rfl) ?_)
   refine zAO 4 (.ro (zA2 []) 0 0) rfl AEq.nil ?_
   refine rn2 ?_
   exact zH hR rfl rfl
 | some l =>
   rw [ha] at c2 hR
   refine rn0 ?_
   refine zE rfl rfl rfl c1 ?_
   refine rn4 ?_
   refine zN 22 (.ro (.ints .i64 (zAE t p)) 0 (zAP t p).length) rfl (AEq.of_eq (by rw [hzl])) ?_
   refine zE rfl rfl rfl c2 ?_
   refine rn5 ?_
   exact zH hR rfl rfl
structure ShortX (l : zBl) : Prop where
 len : l.length ≤ 9223372036854775807
 ch : ∀ a ∈ l, a.choices.length ≤ 9223372036854775807
 od : ∀ a ∈ l, a.odds.length ≤ 9223372036854775807
def zI9 (l : zBl) (i : Nat) : Option (List Int) := if i = 0 then none else some (l.getD (i - 1) cp0).choices
theorem zQ0 {w : List Nat} {l : zBl} {i : Nat} (hi : i < l.length) : zD3 w (zI9 l i) (l.drop i) = if zDY w (zI9 l i) (l.getD i cp0).choices ≠ 0 then zDY w (zI9 l i) (l.getD i cp0).choices else zD3 w (zI9 l (i + 1)) (l.drop (i + 1)) := by
 rw [List.drop_eq_getElem_cons hi, ← zu cp0 hi]
 unfold zI9
 rw [if_neg (Nat.succ_ne_zero i), Nat.add_sub_cancel]
 rfl
def prevE (q : Option (List Int)) (cs : List Int) : Int := match q with
 | none => 0
 | some b => if zD2 b cs < 0 then 0 else 7
theorem zNb {w : List Nat} {q : Option (List Int)} {cs : List Int} (h : cs.length ≠ w.length) : zDY w q cs = 3 := by unfold zDY; rw [if_pos h]
theorem zJe {w : List Nat} {q : Option (List Int)} {cs : List Int} (h : cs.length = w.length) (hw : inW w cs = false) : zDY w q cs = 4 := by unfold zDY; rw [if_neg (fun q => q h), if_pos hw]
theorem zQ6 {w : List Nat} {q : Option (List Int)} {cs : List Int} (h : cs.length = w.length) (hw : inW w cs = true) : zDY w q cs = prevE q cs := by
 unfold zDY
 rw [if_neg (fun q => q h), if_neg (by rw [hw]; decide)]
 cases q <;> rfl
theorem inW_step {w : List Nat} {cs : List Int} {m : Nat} (h1 : m < w.length) (h2 : m < cs.length) : inW (w.drop m) (cs.drop m) = (decide (0 ≤ cs.getD m 0 ∧ cs.getD m 0 < (w.getD m 0 : Int)) && inW (w.drop (m + 1)) (cs.drop (m + 1))) := by
 rw [List.drop_eq_getElem_cons h1, List.drop_eq_getElem_cons h2, ← zu 0 h1, ← zu 0 h2]; rfl
theorem zIF (t : zS) (p : Int) (l : zBl) (hT : ShortT t) (hl : ShortX l) : zW Tryz.prog 48 [.ro (zd t) 0 t.length, .int .i64 p, .ro (mxC l) 0 l.length] (.int .i64 (zCj t p l)) := by
 have c1 := zJS t p hT
 have hll := hl.len
 refine zO.value0 (zF (P := Tryz.prog) (fn := Tryz.f48) rfl rfl (by kernel_rfl) rfl (fun c hR hfix => ?_)) (fix := fun _ => False) (fun _ h => h) rfl rfl
 unfold zCj at hR
 by_cases h1 : zAh t p = 0
 case neg =>
   rw [zHQ h1] at c1
   rw [if_pos h1] at hR
   generalize zAh t p = e at *
   refine rn0 ?_
   refine zE rfl rfl rfl c1 ?_
   refine rn3 ?_
   rw [decide_eq_true (show ¬ e = 0 from h1)]
   refine rn5 ?_
   exact zH hR rfl rfl
 obtain ⟨hv, _⟩ := zCP h1
 rw [zGF h1] at c1
 rw [if_neg (fun q => q h1)] at hR
 rw [zEX] at c1
 have hz10 := zKJ t p
 have hnl : (zE2 (zAP t p)).length = (zAP t p).length := List.length_map _
 have hnat : ∀ m, m < (zAP t p).length → (zE2 (zAP t p)).getD m 0 = (((zAP t p).getD m 0 : Nat) : Int) := fun m hm => zBY _ _ 0 _ _ hm
 generalize zAP t p = w at *
 rw [hnl] at c1
 generalize zE2 w = Z at *
 generalize zJ t p = I at *
 refine rn0 ?_
 refine zE rfl rfl rfl c1 ?_
 refine rn6 ?_
 refine zD rfl (fun h2 => ?_) (fun h2 => ?_)
 · rw [if_pos (by omega)] at hR
   refine rn2 ?_
   exact zH hR rfl rfl
 rw [if_neg (by omega)] at hR
 repeat (first | refine zC (zI rfl) ?_ | refine zC (zK rfl) ?_ | refine zB ?_ | refine zA ?_ | refine zZ ?_ | refine zL rfl ?_ | refine zi ?_ | refine zC (zBE rfl rfl rfl) ?_)
 refine zA1 10 ⟨27, .strs []⟩ rfl rfl ?_
 repeat (refine zw ?_)
 refine zg (ι := Nat) (fun i => [(2, .ro (mxC l) 0 l.length), (8, .ro (.ints .i64 Z) 0 w.length), (10, .sl 0 0 i), (28, .ro (mxC l) 0 l.length), (29, .int .i64 (l.length : Nat)), (30, .int .i64 (i : Nat))]) (fun i => [some ⟨27, .strs ((l.take i).map CPlan.odds)⟩])
   (fun i => i ≤ l.length ∧ zD3 w none l = zD3 w (zI9 l i) (l.drop i)) (fun i => l.length - i) 0 ⟨⟨rfl, rfl, rfl, rfl, rfl, rfl, trivial⟩, rfl, Nat.zero_le _, rfl⟩ ?_
 rintro i ⟨hi, hE⟩
 refine rn4 ?_
 refine zD rfl (fun h3 => ?_) (fun h3 => ?_)
 · have hi' : i < l.length := by omega
   have hch := hl.ch _ (zAR cp0 hi')
   have hod := hl.od _ (zAR cp0 hi')
   have htk : (l.take (i + 1)).map CPlan.odds = (l.take i).map CPlan.odds ++ [(l.getD i cp0).odds] := by rw [List.take_succ_eq_append_getElem hi', List.map_append, ← zu cp0 hi']; rfl
   have hml : ((l.take i).map CPlan.odds).length = i := by rw [List.length_map, List.length_take]; omega
   rw [zQ0 hi'] at hE
   generalize (l.take i).map CPlan.odds = O at *
   refine rn6 ?_
   refine zN 34 (.agg (zDK (l.getD i cp0))) rfl (AEq.of_eq rfl) ?_
   generalize hcc : l.getD i cp0 = a at *
   obtain ⟨cs, od⟩ := a
   simp only at *
   refine zQ (c' := .box [.ro (.ints .i64 cs) 0 cs.length, .str od]) rfl rfl rfl rfl rfl Nat.zero_lt_one rfl rfl (fun i' j' hi' hj' => ?_) ?_
   · rw [if_pos (Nat.lt_one_iff.1 hi')]; rfl
   refine rn5 ?_
   refine zD rfl (fun h4 => ?_) (fun h4 => ?_)
   · rw [zNb (by omega), if_pos (by decide)] at hE
     rw [hE] at hR
     refine rn6 ?_
     exact zH hR rfl rfl
   have hcl : cs.length = w.length := by omega
   refine rn5 ?_
   refine zBs [some ⟨27, .strs O⟩, some ⟨75, .box [.ro (.ints .i64 cs) 0 cs.length, .str od]⟩] rfl ?_
   refine zg (ι := Nat) (fun m => [(2, .ro (mxC l) 0 l.length), (8, .ro (.ints .i64 Z) 0 w.length), (10, .sl 0 0 i), (11, .int .i64 (i : Nat)), (12, .ptr 1 0 0), (28, .ro (mxC l) 0 l.length), (29, .int .i64 (l.length : Nat)), (30, .int .i64 (i : Nat)), (42, .ro (.ints .i64 cs) 0 cs.length), (43, .int .i64 (cs.length : Nat)), (44, .int .i64 (m : Nat))]) (fun _ => [some ⟨27, .strs O⟩, some ⟨75, .box [.ro (.ints .i64 cs) 0 cs.length, .str od]⟩])
     (fun m => m ≤ cs.length ∧ inW w cs = inW (w.drop m) (cs.drop m)) (fun m => cs.length - m) 0 ⟨⟨rfl, rfl, rfl, rfl, rfl, rfl, rfl, rfl, rfl, rfl, rfl, trivial⟩, rfl, Nat.zero_le _, rfl⟩ ?_
   rintro m ⟨hm, hW⟩
   refine rn4 ?_
   refine zD rfl (fun h5 => ?_) (fun h5 => ?_)
   · have hm' : m < cs.length := by omega
     have hmw : m < w.length := by omega
     have hzm := hnat m hmw
     rw [inW_step hmw hm'] at hW
     have hmz : m < Z.length := by omega
     refine rn6 ?_
     generalize cs.getD m 0 = x at *
     by_cases hx0 : x < 0
     · rw [decide_eq_true hx0]
       rw [decide_eq_false (show ¬ (0 ≤ x ∧ x < _) by omega), Bool.false_and] at hW
       rw [zJe hcl hW, if_pos (by decide)] at hE
       rw [hE] at hR
       refine rn6 ?_
       exact zH hR rfl rfl
     rw [decide_eq_false hx0]
     repeat (first | refine zC (zI rfl) ?_ | refine zC (zAr rfl rfl rfl) ?_ | refine zB ?_ | refine zA ?_ | refine zAL rfl rfl ?_ | refine zC (zCX rfl rfl) ?_ | refine zC (zAe rfl rfl) ?_ | refine zC (zf rfl rfl rfl rfl (by first | (simp only [Nat.zero_add, Int.toNat_natCast, Int.toNat_zero]; exact rfl) | exact rfl) (by omega)) ?_)
     refine zD rfl (fun h6 => ?_) (fun h6 => ?_)
     · rw [decide_eq_false (show ¬ (0 ≤ x ∧ x < _) by omega), Bool.false_and] at hW
       rw [zJe hcl hW, if_pos (by decide)] at hE
       rw [hE] at hR
       refine rn6 ?_
       exact zH hR rfl rfl
     rw [decide_eq_true (show 0 ≤ x ∧ x < ((w.getD m 0 : Nat) : Int) by omega), Bool.true_and] at hW
     refine rn5 ?_
     exact zM ⟨m + 1, ⟨by omega, hW⟩, by omega, ⟨rfl, rfl, rfl, rfl, rfl, rfl, rfl, rfl, rfl, rfl, rfl, trivial⟩, rfl⟩
   · have hme : m = cs.length := by omega
     subst hme
     have hW : inW w cs = true := by
       rw [hW, List.drop_length]
       cases w.drop cs.length <;> rfl
     rw [zQ6 hcl hW] at hE
     refine rn5 ?_
     rcases Nat.eq_zero_or_pos i with hi0 | hi0
     · subst hi0
       have hp0 : prevE (zI9 l 0) cs = 0 := rfl
       rw [hp0, if_neg (fun q => q rfl)] at hE
       refine zn (by kernel_rfl) ?_
       refine zr (fuel := 0) [0, 1, 2, 3, 4, 5, 6, 7, 8, 9, 10, 11, 12, 13] [(2, .ro (mxC l) 0 l.length), (8, .ro (.ints .i64 Z) 0 w.length), (10, .sl 0 0 0), (11, .int .i64 (0 : Nat)), (12, .ptr 1 0 0), (28, .ro (mxC l) 0 l.length), (29, .int .i64 (l.length : Nat)), (30, .int .i64 (0 : Nat))] ⟨rfl, rfl, rfl, rfl, rfl, rfl, rfl, rfl, trivial⟩ (by kernel_rfl) (by decide) rfl rfl ?_
       refine zX rfl rfl (zI rfl) ?_
       refine zX rfl rfl (zJj rfl rfl) ?_
       refine zX rfl rfl (zI rfl) ?_
       refine zCQ rfl rfl rfl rfl rfl ?_
       refine zCQ rfl rfl rfl rfl rfl ?_
       refine zCQ rfl rfl rfl rfl rfl ?_
       refine zCQ rfl rfl rfl rfl rfl ?_
       refine zCQ rfl rfl rfl rfl rfl ?_
       refine zCQ rfl rfl rfl rfl rfl ?_
       refine zCQ rfl rfl rfl rfl rfl ?_
       refine zCQ rfl rfl rfl rfl rfl ?_
       refine zCQ rfl rfl rfl rfl rfl ?_
       refine zCQ rfl rfl rfl rfl rfl ?_
       refine zX rfl rfl (zAe rfl rfl) ?_
       refine zAc ?_
       refine zh (by kernel_rfl) ?_
       refine rn5 ?_
       refine zm rfl rfl rfl rfl rfl rfl rfl rfl rfl hml rfl rfl (by show 0 + 1 ≤ 1; omega) rfl (by show (0 + 1) * 16 ≤ _ ∧ _; omega) (fun i j _ _ => rfl) (by rw [hfix]; exact fun h => h) ?_
       repeat (first | refine zC (zK rfl) ?_ | refine zB ?_ | refine za ?_)
       refine zA ?_
       refine zAa [some ⟨27, .strs (O ++ [od])⟩] [some ⟨75, .box [.ro (.ints .i64 cs) 0 cs.length, .str od]⟩] [(2, .ro (mxC l) 0 l.length), (8, .ro (.ints .i64 Z) 0 w.length), (10, .sl 0 0 (0 + 1)), (28, .ro (mxC l) 0 l.length), (29, .int .i64 (l.length : Nat)), (30, .int .i64 (0 : Nat))] rfl ⟨rfl, rfl, rfl, rfl, rfl, rfl, trivial⟩ (fun h hh => by rw [hfix] at hh; exact absurd hh id) (zBg (zIz _ _)) rfl ?_
       refine rn3 ?_
       exact zM ⟨0 + 1, ⟨by omega, hE⟩, by omega, ⟨rfl, rfl, rfl, rfl, rfl, rfl, trivial⟩, by rw [htk]⟩
     obtain ⟨k, rfl⟩ : ∃ k, i = k + 1 := ⟨i - 1, by omega⟩
     have hkl : k < l.length := by omega
     have hpk : prevE (zI9 l (k + 1)) cs = if zD2 (l.getD k cp0).choices cs < 0 then 0 else 7 := rfl
     have hch0 := hl.ch _ (zAR cp0 hkl)
     have cc := zOb (l.getD k cp0).choices cs hch0 hch
     rw [hpk] at hE
     refine zn (by kernel_rfl) ?_
     refine zr (fuel := 0) [0, 1, 2, 3, 4, 5, 6, 7, 8, 9, 10, 11, 12, 13] [(2, .ro (mxC l) 0 l.length), (8, .ro (.ints .i64 Z) 0 w.length), (10, .sl 0 0 (k + 1)), (11, .int .i64 ((k + 1 : Nat) : Int)), (12, .ptr 1 0 0), (28, .ro (mxC l) 0 l.length), (29, .int .i64 (l.length : Nat)), (30, .int .i64 ((k + 1 : Nat) : Int))] ⟨rfl, rfl, rfl, rfl, rfl, rfl, rfl, rfl, trivial⟩ (by kernel_rfl) (by decide) rfl rfl ?_
     refine zX rfl rfl (zI rfl) ?_
     refine zX rfl rfl (zJj rfl rfl) ?_
     rw [decide_eq_true (show ((0 : Int)) < ((k + 1 : Nat) : Int) by omega)]
     refine zX rfl rfl (zI rfl) ?_
     refine zD1 rfl rfl rfl rfl (zI rfl) ?_
     refine zD1 rfl rfl rfl rfl (zI rfl) ?_
     refine zD1 rfl rfl rfl rfl (q_pred rfl rfl (by omega)) ?_
     refine zD1 rfl rfl rfl rfl (zf rfl rfl rfl rfl (by first | (simp only [Nat.zero_add, Int.toNat_natCast, Int.toNat_zero]; exact rfl) | exact rfl) (by omega)) ?_
     refine zD1 rfl rfl rfl rfl (zCD rfl rfl rfl rfl rfl rfl) ?_
     refine zD1 rfl rfl rfl rfl (zCA rfl rfl rfl rfl) ?_
     refine zD1 rfl rfl rfl rfl (zP rfl rfl rfl rfl rfl rfl) ?_
     refine zD1 rfl rfl rfl rfl (zU rfl rfl rfl rfl rfl) ?_
     refine px_gv rfl rfl rfl rfl rfl rfl rfl cc ?_
     refine zD1 rfl rfl rfl rfl (zCX rfl rfl) ?_
     refine zX rfl rfl (zAe rfl rfl) ?_
     refine zAc ?_
     refine zh (by kernel_rfl) ?_
     repeat (refine zA ?_)
     refine zD rfl (fun h7 => ?_) (fun h7 => ?_)
     · rw [show (if zD2 (l.getD k cp0).choices cs < 0 then (0 : Int) else 7) = 7 from if_neg (by omega), if_pos (by decide)] at hE
       rw [hE] at hR
       refine rn6 ?_
       exact zH hR rfl rfl
     rw [show (if zD2 (l.getD k cp0).choices cs < 0 then (0 : Int) else 7) = 0 from if_pos (by omega), if_neg (by decide)] at hE
     refine rn5 ?_
     refine zm rfl rfl rfl rfl rfl rfl rfl rfl rfl hml rfl rfl (by show 0 + 1 ≤ 1; omega) rfl (by show ((k + 1) + 1) * 16 ≤ _ ∧ _; omega) (fun i j _ _ => rfl) (by rw [hfix]; exact fun h => h) ?_
     repeat (first | refine zC (zK rfl) ?_ | refine zB ?_ | refine za ?_)
     refine zA ?_
     refine zAa [some ⟨27, .strs (O ++ [od])⟩] [some ⟨75, .box [.ro (.ints .i64 cs) 0 cs.length, .str od]⟩] [(2, .ro (mxC l) 0 l.length), (8, .ro (.ints .i64 Z) 0 w.length), (10, .sl 0 0 ((k + 1) + 1)), (28, .ro (mxC l) 0 l.length), (29, .int .i64 (l.length : Nat)), (30, .int .i64 ((k + 1) : Nat))] rfl ⟨rfl, rfl, rfl, rfl, rfl, rfl, trivial⟩ (fun h hh => by rw [hfix] at hh; exact absurd hh id) (zBg (zIz _ _)) rfl ?_
     refine rn3 ?_
     exact zM ⟨(k + 1) + 1, ⟨by omega, hE⟩, by omega, ⟨rfl, rfl, rfl, rfl, rfl, rfl, trivial⟩, by rw [htk]⟩
 · have hie : i = l.length := by omega
   subst hie
   rw [List.drop_length] at hE
   rw [List.take_length]
   have hE : zD3 w none l = 0 := hE
   rw [if_neg (fun q => q hE)] at hR
   have hol : (l.map CPlan.odds).length = l.length := List.length_map _
   have co := zL8 (l.map CPlan.odds) (by omega) (fun s hs => by
     obtain ⟨a, ha, rfl⟩ := List.mem_map.1 hs
     exact hl.od a ha)
   generalize l.map CPlan.odds = O at *
   repeat (first | refine zA ?_ | refine zZ ?_ | refine zAq ?_ | refine zq ?_ | refine zp ?_ | refine zAH ?_)
   refine zAY 0 10 l.length [] rfl zEK rfl (by show _ ≤ O.length; omega) trivial ?_
   refine zAO 10 (.ro (.strs O) 0 O.length) rfl (AEq.of_eq (by rw [hol])) ?_
   refine rn0 ?_
   refine zE rfl rfl rfl co ?_
   refine rn0 ?_
   exact zH hR rfl rfl
end Go.Proofs.YtnkealfaldjipaaGreatDoor
namespace Go.Proofs.YtnkealfaldjipaaGreatDoor
open Go.Ax Go.Ax.Bg Go.Ax.Rt Go.RowKit Go.Ax.Idx Go.Ax.Cd
attribute [local irreducible] Ax zAM QOp zO zo
set_option maxRecDepth 100000
set_option maxHeartbeats 4000000
def pwC (os : List (List Rat)) (cs : List Int) (m : Nat) : Rat := zHv (os.take m) (cs.take m) 1
theorem zMn {os : List (List Rat)} {cs : List Int} {m : Nat} (h1 : m < os.length) (h2 : m < cs.length) : pwC os cs (m + 1) = pwC os cs m * (os.getD m []).getD (cs.getD m 0).toNat 0 := by
 unfold pwC
 rw [List.take_succ_eq_append_getElem h1, List.take_succ_eq_append_getElem h2, ← zu [] h1, ← zu 0 h2]
 exact zJb _ _ _ _ _ (by rw [List.length_take, List.length_take]; omega)
theorem pwC_all {os : List (List Rat)} {cs : List Int} (h : cs.length = os.length) : pwC os cs os.length = zHv os cs 1 := by
 unfold pwC
 rw [List.take_length, ← h, List.take_length]
theorem pwC_D {os : List (List Rat)} {cs : List Int} (hd : ∀ o ∈ os, ∀ x ∈ o, D 2000 x) (hl : cs.length = os.length) (hc : ∀ m, m < os.length → (cs.getD m 0).toNat < (os.getD m []).length) : ∀ m, m ≤ os.length → D (1 + 2000 * m) (pwC os cs m)
 | 0, _ => by show D 1 (1 : Rat); exact ⟨by decide, by decide⟩
 | m + 1, hm => by
   rw [zMn (by omega) (by omega)]
   exact ((pwC_D hd hl hc m (by omega)).mul (hd _ (zAR [] (by omega)) _ (zAR 0 (hc m (by omega))))).mono (by omega)
theorem zIn {s : zAT} {l : List (List Int)} {k : Nat} (hk : k < l.length) : zB4 s (l.take (k + 1)) = if zCL s (l.getD k []) = 0 then zB4 s (l.take k) else zB4 s (l.take k) ++ [l.getD k []] := by
 unfold zB4
 rw [List.take_succ_eq_append_getElem hk, List.filter_append, ← zu [] hk]
 by_cases h : zCL s (l.getD k []) = 0
 · rw [if_pos h, List.filter_cons_of_neg (by rw [decide_eq_true_eq]; exact fun q => q h), List.filter_nil, List.append_nil]
 · rw [if_neg h, List.filter_cons_of_pos (by rw [decide_eq_true_eq]; exact h), List.filter_nil]
def zD5 (s : zAT) (l : List (List Int)) : zBl := (zB4 s l).map (fun c => ⟨c, zt (zCL s c)⟩)
theorem zNn {s : zAT} {l : List (List Int)} {k : Nat} (hk : k < l.length) : zD5 s (l.take (k + 1)) = if zCL s (l.getD k []) = 0 then zD5 s (l.take k) else zD5 s (l.take k) ++ [⟨l.getD k [], zt (zCL s (l.getD k []))⟩] := by
 unfold zD5
 rw [zIn hk]
 split
 · rfl
 · rw [List.map_append]; rfl
theorem zOS (s : zAT) (l : List (List Int)) : (zD5 s l).length ≤ l.length := by
 unfold zD5 zB4
 rw [List.length_map]
 exact List.length_filter_le _ _
theorem zNz {s : zAT} {l : List (List Int)} {c : List Int} (hc : c ∈ l) (h0 : zCL s c ≠ 0) (hf : zA3 (zCL s c) = false) : zCo s l = ([], 2) := by
 unfold zCo
 rw [if_neg (fun q => by
   rw [List.all_eq_true] at q
   have := q c (List.mem_filter.2 ⟨hc, by simpa using h0⟩)
   rw [hf] at this; cases this)]
theorem zNM {s : zAT} {l : List (List Int)} (h : (zB4 s l).all (fun c => zA3 (zCL s c)) = true) : zCo s l = (zD5 s l, 0) := by
 unfold zCo
 rw [if_pos h]; rfl
theorem rowM2 (a : CPlan) (j : Nat) (hj : j < 2) : (zED 1 2 [.ro (.ints .i64 a.choices) 0 a.choices.length, .str a.odds]).at 0 j = (zDK a).getD j .any := by
 match j, hj with
 | 0, _ => rfl
 | 1, _ => rfl
theorem zNS (l : zBl) (n : Nat) : zA6 n (mxC l) := by
 intro i j _ hj
 have hj : j < 2 := hj
 show zCn n ((zDK (l.getD i cp0)).getD j .any) = true
 match j, hj with
 | 0, _ => rfl
 | 1, _ => rfl
theorem zM6 (m : List (List Rat)) (n : Nat) : zA6 n (zF0 m) := by
 intro i j _ hj
 obtain rfl : j = 0 := by have hj : j < 1 := hj; omega
 rfl
theorem zM2 (t : zS) (p : Int) (s : zAT) (hT : ShortT t) (hs : ShortS s) : zW Tryz.prog 35 [.ro (zd t) 0 t.length, .int .i64 p, .ro (z6 s) 0 s.length] (.tup [.ro (mxC (zCT t p s).1) 0 (zCT t p s).1.length, .int .i64 (zCT t p s).2]) := by
 have c1 := zJS t p hT
 have c2 := zGC t p s hT.len hs
 have hsl := hs.len
 refine zO.value0 (zF (P := Tryz.prog) (fn := Tryz.f35) rfl rfl (by kernel_rfl) rfl (fun c hR hfix => ?_)) (fix := fun _ => False) (fun _ h => h) rfl rfl
 unfold zCT at hR
 by_cases h1 : zAh t p = 0
 case neg =>
   rw [zHQ h1] at c1
   rw [if_pos h1] at hR
   generalize zAh t p = e at *
   refine rn0 ?_
   refine zE rfl rfl rfl c1 ?_
   refine rn3 ?_
   rw [decide_eq_true (show ¬ e = 0 from h1)]
   repeat (first | refine zC (zI rfl) ?_ | refine zC (zK rfl) ?_ | refine zB ?_ | refine zA ?_ | refine zZ ?_ | refine zL rfl ?_ | refine zAV rfl ?_)
   refine zAO 6 (.ro (mxC []) 0 0) rfl AEq.nil ?_
   refine rn2 ?_
   exact zH hR rfl rfl
 obtain ⟨hv, _⟩ := zCP h1
 rw [zGF h1] at c1
 rw [if_neg (fun q => q h1)] at hR
 have c3 := all_ok (zAP t p) (by have := zKJ t p; omega) (fun n hn => by have := zPj hv p n hn; omega)
 rw [← zEX] at c3
 have hzl : (zAE t p).length = (zAP t p).length := by rw [zEX]; exact List.length_map _
 by_cases h2 : zA8 t p s = 0
 case neg =>
   rw [if_pos h2] at hR
   generalize zA8 t p s = e at *
   refine rn0 ?_
   refine zE rfl rfl rfl c1 ?_
   refine rn4 ?_
   refine zE rfl rfl rfl c2 ?_
   refine rn3 ?_
   rw [decide_eq_true (show ¬ e = 0 from h2)]
   repeat (first | refine zC (zI rfl) ?_ | refine zC (zK rfl) ?_ | refine zB ?_ | refine zA ?_ | refine zZ ?_ | refine zL rfl ?_ | refine zAV rfl ?_)
   refine zAO 6 (.ro (mxC []) 0 0) rfl AEq.nil ?_
   refine rn2 ?_
   exact zH hR rfl rfl
 have hk := zC3 h2
 rw [if_neg (fun q => q h2)] at hR
 rw [h2] at c2
 cases ha : zGz (zAP t p) [[]] with
 | none =>
   rw [ha] at c3 hR
   refine rn0 ?_
   refine zE rfl rfl rfl c1 ?_
   refine rn4 ?_
   refine zE rfl rfl rfl c2 ?_
   refine rn4 ?_
   refine zN 43 (.ro (.ints .i64 (zAE t p)) 0 (zAP t p).length) rfl (AEq.of_eq (by rw [hzl])) ?_
   refine zE rfl rfl rfl c3 ?_
   repeat (first | refine zC (zI rfl) ?_ | refine zC (zK rfl) ?_ | refine zB ?_ | refine zA ?_ | refine zZ ?_ | refine zL rfl ?_ | refine zAV rfl ?_ | refine zC (zEB rfl) ?_ | refine zC (zBQ rfl rfl) ?_)
   refine zAO 6 (.ro (mxC []) 0 0) rfl AEq.nil ?_
   refine rn2 ?_
   exact zH hR rfl rfl
 | some L =>
   rw [ha] at c3 hR
   have hR : c.R = fun r' x => r' = .tup [.ro (mxC (zCo s L).1) 0 (zCo s L).1.length, .int .i64 (zCo s L).2] := hR
   obtain ⟨hLw, hL⟩ := zMs ha
   have hLc : ∀ a ∈ L, a.length = (zBd s).length ∧ ∀ m, m < (zBd s).length → 0 ≤ a.getD m 0 ∧ (a.getD m 0).toNat < ((zBd s).getD m []).length := by
     intro a hal
     rw [hLw] at hal
     have hc' := zJ5 hal
     have hol : (zBd s).length = (zAP t p).length := by rw [zDZ hk, List.length_map, zCs]
     refine ⟨by rw [hc'.1, hol], fun m hm => ?_⟩
     have h8 := hc'.2 m (by omega)
     have hmi : m < (zJ t p).length := by rw [hol, zCs] at hm; exact hm
     rw [zMP hmi] at h8
     have hx : (zJ t p).getD m 0 ∈ zJ t p := zAR 0 hmi
     rw [zDZ hk, zBY _ _ 0 _ _ hmi, hk.mix.len _ hx]
     exact h8
   have hOd : ∀ o ∈ zBd s, ∀ x ∈ o, D 2000 x := fun o ho x hx => by
     obtain ⟨y, hy, rfl⟩ := List.mem_map.1 ho
     exact ((zBC (hk.odds y hy)).2.2.2 x hx).2
   have hO10 : (zBd s).length ≤ 10 := by
     rw [zDZ hk, List.length_map]
     unfold zJ
     exact Nat.le_trans (List.length_filter_le _ _) (by simp)
   have hOl : (zBd s).length = s.length := List.length_map _
   have hko := hk.odds
   have hwg : ∀ a, zCL s a = zHv (zBd s) a 1 := fun a => rfl
   clear hk hLw ha h1 h2
   refine rn0 ?_
   refine zE rfl rfl rfl c1 ?_
   refine rn4 ?_
   refine zE rfl rfl rfl c2 ?_
   refine rn4 ?_
   refine zN 43 (.ro (.ints .i64 (zAE t p)) 0 (zAP t p).length) rfl (AEq.of_eq (by rw [hzl])) ?_
   refine zE rfl rfl rfl c3 ?_
   repeat (first | refine zC (zI rfl) ?_ | refine zC (zK rfl) ?_ | refine zB ?_ | refine zA ?_ | refine zZ ?_ | refine zL rfl ?_ | refine zx rfl ?_ | refine zi ?_ | refine zC (zEB rfl) ?_ | refine zC (zBQ rfl rfl) ?_ | refine zC (zBE rfl rfl rfl) ?_)
   refine zA1 14 ⟨135, zF0 []⟩ rfl rfl ?_
   repeat (refine zw ?_)
   refine zg (ι := Nat) (fun i => [(12, .ro (zA2 L) 0 L.length), (14, .sl 0 0 i), (49, .ro (z6 s) 0 s.length), (50, .int .i64 (s.length : Nat)), (51, .int .i64 (i : Nat))]) (fun i => [some ⟨135, zF0 (zBd (s.take i))⟩])
     (fun i => i ≤ s.length) (fun i => s.length - i) 0 ⟨⟨rfl, rfl, rfl, rfl, rfl, trivial⟩, rfl, Nat.zero_le _⟩ ?_
   intro i hi
   refine rn4 ?_
   refine zD rfl (fun h => ?_) (fun h => ?_)
   · have hi' : i < s.length := by omega
     have hsn := hs.each _ (zAR ch0 hi')
     obtain ⟨v1, v2, _, _⟩ := zBC (hko _ (zAR ch0 hi'))
     have htk : zBd (s.take (i + 1)) = zBd (s.take i) ++ [(s.getD i ch0).odds.map zAB] := by
       unfold zBd
       rw [List.take_succ_eq_append_getElem hi', List.map_append, ← zu ch0 hi']; rfl
     have hml : (zBd (s.take i)).length = i := by unfold zBd; rw [List.length_map, List.length_take]; omega
     generalize zBd (s.take i) = OS at *
     generalize hOS2 : zBd (s.take (i + 1)) = OS2 at *
     refine rn6 ?_
     refine zN 54 (.agg (cellsC (s.getD i ch0))) rfl (AEq.of_eq rfl) ?_
     generalize s.getD i ch0 = x at *
     obtain ⟨nf, od⟩ := x
     obtain ⟨hod1, hod2⟩ := hsn
     simp only at *
     have cin := zO1 od (by omega) (fun r hr => ⟨hod2 r hr, v2 r hr⟩)
     generalize od.map zAB = qs at *
     refine zQ (c' := .box [.int .i64 nf, .ro (.strs od) 0 od.length]) rfl rfl rfl rfl rfl Nat.zero_lt_one rfl rfl (fun i' j' hi' hj' => ?_) ?_
     · rw [if_pos (Nat.lt_one_iff.1 hi')]; rfl
     refine rn5 ?_
     refine zE rfl rfl rfl cin ?_
     repeat (refine zl rfl rfl rfl rfl rfl rfl rfl rfl rfl rfl rfl ?_)
     refine zm rfl rfl rfl rfl rfl rfl rfl rfl rfl hml rfl rfl (by show 0 + 1 ≤ 1; omega) rfl (by show (i + 1) * 24 ≤ _ ∧ _; omega) ?_ (by rw [hfix]; exact fun h => h) ?_
     · intro i' j hi hj
       exact zDW [] 1 zLi zNf OS qs _ (rowR1 _) 0 i' j hi hj
     repeat (first | refine zC (zK rfl) ?_ | refine zB ?_ | refine za ?_)
     refine zA ?_
     refine zB5 [some ⟨135, zF0 OS2⟩, some ⟨67, .box [.int .i64 nf, .ro (.strs od) 0 od.length]⟩] ?_ ?_
     · rw [htk]
       exact zAG.eqv (zC5 [] 1 zLi OS qs _ (rowR1 _)) (zAG.eqv (CEq.refl _) zAG.nil)
     refine zAa [some ⟨135, zF0 OS2⟩] [some ⟨67, .box [.int .i64 nf, .ro (.strs od) 0 od.length]⟩] [(12, .ro (zA2 L) 0 L.length), (14, .sl 0 0 (i + 1)), (49, .ro (z6 s) 0 s.length), (50, .int .i64 (s.length : Nat)), (51, .int .i64 (i : Nat))] rfl ⟨rfl, rfl, rfl, rfl, rfl, trivial⟩ (fun h hh => by rw [hfix] at hh; exact absurd hh id) (zBg (zM6 _ _)) rfl ?_
     refine rn3 ?_
     exact zM ⟨i + 1, by omega, by omega, ⟨rfl, rfl, rfl, rfl, rfl, trivial⟩, by rw [hOS2]⟩
   · have hie : i = s.length := by omega
     subst hie
     rw [List.take_length]
     generalize hOS : zBd s = OS at *
     repeat (first | refine zA ?_ | refine zZ ?_ | refine zAq ?_ | refine zq ?_ | refine zp ?_ | refine zAH ?_)
     refine zAY 0 14 s.length [(12, .ro (zA2 L) 0 L.length)] rfl (zKr _) rfl (by show _ ≤ OS.length; omega) ⟨rfl, trivial⟩ ?_
     refine zAO 14 (.ro (zF0 OS) 0 OS.length) rfl (AEq.of_eq (by rw [hOl])) ?_
     refine zEN (H1 := []) rfl (by rw [hfix]; exact fun h => h) ?_
     repeat (first | refine zC (zI rfl) ?_ | refine zC (zK rfl) ?_ | refine zB ?_ | refine zA ?_ | refine zZ ?_ | refine zL rfl ?_ | refine zC (zBE rfl rfl rfl) ?_)
     refine zA1 17 ⟨75, mxC []⟩ rfl rfl ?_
     repeat (refine zw ?_)
     refine zg (ι := Nat) (fun k => [(14, .ro (zF0 OS) 0 OS.length), (17, .sl 0 0 (zD5 s (L.take k)).length), (62, .ro (zA2 L) 0 L.length), (63, .int .i64 (L.length : Nat)), (64, .int .i64 (k : Nat))]) (fun k => [some ⟨75, mxC (zD5 s (L.take k))⟩])
       (fun k => k ≤ L.length ∧ (zB4 s (L.take k)).all (fun c => zA3 (zCL s c)) = true) (fun k => L.length - k) 0 ⟨⟨rfl, rfl, rfl, rfl, rfl, trivial⟩, rfl, Nat.zero_le _, rfl⟩ ?_
     rintro k ⟨hk, hfit⟩
     refine rn4 ?_
     refine zD rfl (fun h => ?_) (fun h => ?_)
     · have hk' : k < L.length := by omega
       have hsm := zNn (s := s) hk'
       have hsl' := zIn (s := s) hk'
       have hpl := zOS s (L.take k)
       rw [List.length_take] at hpl
       have hmem : L.getD k [] ∈ L := zAR [] hk'
       obtain ⟨ha1, ha2⟩ := hLc _ hmem
       have hbad := zNz (s := s) hmem
       have hDm := pwC_D hOd ha1 (fun m hm => (ha2 m hm).2)
       have hsu := fun m (h : m < OS.length) => zMn (os := OS) (cs := L.getD k []) (m := m) h (by omega)
       have hal := pwC_all ha1
       rw [← hwg] at hal
       have hOm : ∀ m, m < OS.length → OS.getD m [] ∈ OS := fun m hm => zAR [] hm
       have h00 : pwC OS (L.getD k []) 0 = 1 := rfl
       generalize hM2 : zD5 s (L.take (k + 1)) = M2 at *
       generalize zD5 s (L.take k) = M at *
       refine rn6 ?_
       generalize L.getD k [] = cs at *
       generalize hwq : zCL s cs = W at *
       refine zE rfl rfl rfl zJV ?_
       unfold qA
       repeat (refine zBI rfl rfl rfl ?_)
       refine zQ (c' := .box (zAD 1)) rfl rfl rfl rfl rfl Nat.zero_lt_one rfl rfl (fun i' j' hi' hj' => ?_) ?_
       · rw [if_pos (Nat.lt_one_iff.1 hi')]; rfl
       refine rn3 ?_
       rw [← h00]
       refine zg (ι := Nat) (fun m => [(14, .ro (zF0 OS) 0 OS.length), (17, .sl 0 0 M.length), (19, .ro (.ints .i64 cs) 0 cs.length), (20, .ptr 1 0 0), (62, .ro (zA2 L) 0 L.length), (63, .int .i64 (L.length : Nat)), (64, .int .i64 (k : Nat)), (69, .ro (.ints .i64 cs) 0 cs.length), (70, .int .i64 (cs.length : Nat)), (71, .int .i64 (m : Nat))]) (fun m => [some ⟨75, mxC M⟩, some ⟨122, .box (zAD (pwC OS cs m))⟩])
         (fun m => m ≤ cs.length) (fun m => cs.length - m) 0 ⟨⟨rfl, rfl, rfl, rfl, rfl, rfl, rfl, rfl, rfl, rfl, trivial⟩, rfl, Nat.zero_le _⟩ ?_
       intro m hm
       refine rn4 ?_
       refine zD rfl (fun h5 => ?_) (fun h5 => ?_)
       · have hm' : m < OS.length := by omega
         have hmc : m < cs.length := by omega
         obtain ⟨hx0, hx1⟩ := ha2 m hm'
         have hsuc := hsu m hm'
         have hrow := hOd _ (hOm m hm')
         have hD1 := hDm m (by omega)
         generalize hq2 : pwC OS cs (m + 1) = q2 at *
         generalize pwC OS cs m = q1 at *
         obtain ⟨x, hx⟩ := Int.eq_ofNat_of_zero_le hx0
         rw [hx, Int.toNat_natCast] at hx1 hsuc
         have hD2 := hrow _ (zAR 0 hx1)
         have cm := zHi q1 ((OS.getD m []).getD x 0) (zEg (hD1.mono (show 1 + 2000 * m ≤ 9 * 100000 by omega))) (zEg (hD2.mono (show 2000 ≤ 9 * 100000 by decide)))
         rw [← hsuc] at cm
         repeat (first | refine zA ?_ | refine zZ ?_ | refine zw ?_ | refine zi ?_)
         refine zL rfl ?_
         repeat (first | refine zC (zI rfl) ?_ | refine zC (zK rfl) ?_ | refine zC (zAr rfl rfl rfl) ?_ | refine zB ?_ | refine zA ?_ | refine zC (zf rfl rfl rfl rfl (by first | (simp only [Nat.zero_add, Int.toNat_natCast, Int.toNat_zero]; exact rfl) | exact rfl) (by omega)) ?_)
         refine zAO 22 (.int .i64 (x : Nat)) rfl (AEq.of_eq (by rw [hx])) ?_
         skip
         refine zn (by kernel_rfl) ?_
         refine zr (fuel := 1) [0, 1, 2, 3, 4, 5, 6, 7, 8] [(14, .ro (zF0 OS) 0 OS.length), (17, .sl 0 0 M.length), (19, .ro (.ints .i64 cs) 0 cs.length), (20, .ptr 1 0 0), (62, .ro (zA2 L) 0 L.length), (63, .int .i64 (L.length : Nat)), (64, .int .i64 (k : Nat)), (69, .ro (.ints .i64 cs) 0 cs.length), (70, .int .i64 (cs.length : Nat)), (71, .int .i64 (m : Nat)), (21, .int .i64 (m : Nat)), (22, .int .i64 (x : Nat))] ⟨rfl, rfl, rfl, rfl, rfl, rfl, rfl, rfl, rfl, rfl, rfl, rfl, trivial⟩ (by kernel_rfl) (by decide) rfl rfl ?_
         refine zX rfl rfl (zAC rfl rfl rfl rfl rfl rfl rfl (by first | exact Nat.zero_lt_one | assumption | omega)) ?_
         refine zX rfl rfl (zI rfl) ?_
         refine zX rfl rfl (zI rfl) ?_
         refine zX rfl rfl (zf rfl rfl rfl rfl (by first | (simp only [Nat.zero_add, Int.toNat_natCast, Int.toNat_zero]; exact rfl) | exact rfl) (by omega)) ?_
         refine zX rfl rfl (zCA rfl rfl rfl rfl) ?_
         refine zX rfl rfl (zI rfl) ?_
         refine zX rfl rfl (zf rfl rfl rfl rfl (by first | (simp only [Nat.zero_add, Int.toNat_natCast, Int.toNat_zero]; exact rfl) | exact rfl) (by omega)) ?_
         refine zX rfl rfl (zBj rfl rfl rfl rfl rfl rfl) ?_
         refine zBc rfl rfl rfl rfl rfl cm ?_
         refine zAc ?_
         refine zG (is := [9]) (by kernel_rfl) (by simp) rfl ⟨fun o ho => ?_, trivial⟩
         all_goals (cases ho)
         unfold qA
         refine zQ (c' := .box (zAD q2)) rfl rfl rfl rfl rfl Nat.zero_lt_one rfl rfl (fun i' j' hi' hj' => ?_) ?_
         · rw [if_pos (Nat.lt_one_iff.1 hi')]; rfl
         refine rn1 ?_
         refine zh (by kernel_rfl) ?_
         refine rn5 ?_
         exact zM ⟨m + 1, by omega, by omega, ⟨rfl, rfl, rfl, rfl, rfl, rfl, rfl, rfl, rfl, rfl, trivial⟩, by rw [hq2]; rfl⟩
       · have hme : m = OS.length := by omega
         subst hme
         have hDW := hDm OS.length (Nat.le_refl _)
         rw [hal] at hDW
         rw [hal]
         have cS := zM5 W
         have cO := out_ok W (zEg (hDW.mono (show 1 + 2000 * OS.length ≤ 9 * 100000 by omega)))
         unfold zFI at cO
         refine rn6 ?_
         refine zE rfl rfl rfl cS ?_
         refine rn4 ?_
         refine zD rfl (fun h9 => ?_) (fun h9 => ?_)
         · have hW0 : W = 0 := zMi.1 h9
           rw [if_pos hW0] at hsm hsl'
           repeat (first | refine zAq ?_ | refine zq ?_ | refine zp ?_)
           refine zA ?_
           refine zAa [some ⟨75, mxC M⟩] [some ⟨122, .box (zAD W)⟩] [(14, .ro (zF0 OS) 0 OS.length), (17, .sl 0 0 M.length), (62, .ro (zA2 L) 0 L.length), (63, .int .i64 (L.length : Nat)), (64, .int .i64 (k : Nat))] rfl ⟨rfl, rfl, rfl, rfl, rfl, trivial⟩ (fun h hh => by rw [hfix] at hh; exact absurd hh id) (zBg (zNS _ _)) rfl ?_
           refine rn3 ?_
           exact zM ⟨k + 1, ⟨by omega, by rw [hsl']; exact hfit⟩, by omega, ⟨rfl, by rw [hM2, hsm]; rfl, rfl, rfl, rfl, trivial⟩, by rw [hM2, hsm]⟩
         · have hW0 : W ≠ 0 := fun e => h9 (zMi.2 e)
           rw [if_neg hW0] at hsm hsl'
           cases hf : zA3 W with
           | false =>
             rw [hf, if_neg (by decide)] at cO
             rw [hbad hW0 hf] at hR
             refine rn6 ?_
             refine zE rfl rfl rfl cO ?_
             repeat (first | refine zC (zI rfl) ?_ | refine zC (zK rfl) ?_ | refine zB ?_ | refine zA ?_ | refine zZ ?_ | refine zL rfl ?_ | refine zAV rfl ?_ | refine zC (zDw rfl rfl) ?_ | refine zC (zBQ rfl rfl) ?_)
             refine zAO 6 (.ro (mxC []) 0 0) rfl AEq.nil ?_
             refine rn6 ?_
             exact zH hR rfl rfl
           | true =>
             rw [hf, if_pos rfl] at cO
             generalize hTx : zt W = Tx at *
             refine rn6 ?_
             refine zE rfl rfl rfl cO ?_
             repeat (first | refine zC (zI rfl) ?_ | refine zC (zK rfl) ?_ | refine zB ?_ | refine zA ?_ | refine zZ ?_ | refine zL rfl ?_ | refine zx rfl ?_ | refine zi ?_ | refine zC (zDw rfl rfl) ?_ | refine zC (zBQ rfl rfl) ?_ | refine zC (zAU rfl rfl rfl rfl rfl rfl) ?_ | refine zl rfl rfl rfl rfl rfl rfl rfl rfl rfl rfl rfl ?_)
             refine zm rfl rfl rfl rfl rfl rfl rfl rfl rfl rfl rfl rfl (by show 0 + 1 ≤ 1; omega) rfl (by show (M.length + 1) * 40 ≤ _ ∧ _; omega) ?_ (by rw [hfix]; exact fun h => h) ?_
             · intro i' j hi hj
               exact zDW cp0 2 zDK zKk M ⟨cs, Tx⟩ _ (rowM2 ⟨cs, Tx⟩) 0 i' j hi hj
             repeat (first | refine zC (zK rfl) ?_ | refine zB ?_ | refine za ?_)
             refine zA ?_
             refine zB5 [some ⟨75, mxC M2⟩, some ⟨122, .box (zAD W)⟩] ?_ ?_
             · rw [hsm]
               exact zAG.eqv (zC5 cp0 2 zDK M ⟨cs, Tx⟩ _ (rowM2 ⟨cs, Tx⟩)) (zAG.eqv (CEq.refl _) zAG.nil)
             refine zAa [some ⟨75, mxC M2⟩] [some ⟨122, .box (zAD W)⟩] [(14, .ro (zF0 OS) 0 OS.length), (17, .sl 0 0 (M.length + 1)), (62, .ro (zA2 L) 0 L.length), (63, .int .i64 (L.length : Nat)), (64, .int .i64 (k : Nat))] rfl ⟨rfl, rfl, rfl, rfl, rfl, trivial⟩ (fun h hh => by rw [hfix] at hh; exact absurd hh id) (zBg (zNS _ _)) rfl ?_
             refine rn3 ?_
             exact zM ⟨k + 1, ⟨by omega, by rw [hsl', List.all_append, hfit]; show (true && (zA3 (zCL s cs) && true)) = true; rw [hwq, hf]; rfl⟩, by omega, ⟨rfl, by rw [hM2, hsm, List.length_append]; rfl, rfl, rfl, rfl, trivial⟩, by rw [hM2]⟩
     · have hke : k = L.length := by omega
       subst hke
       rw [List.take_length] at hfit
       rw [List.take_length]
       rw [zNM hfit] at hR
       generalize zD5 s L = M at *
       repeat (first | refine zA ?_ | refine zZ ?_ | refine zAq ?_ | refine zq ?_ | refine zp ?_ | refine zAH ?_)
       refine zAY 0 17 (List.length M) [] rfl (zOu _) rfl (Nat.le_refl _) trivial ?_
       refine rn0 ?_
       exact zH hR rfl rfl
end Go.Proofs.YtnkealfaldjipaaGreatDoor
namespace Go.Ax
variable [Pins]
open Go.RowKit
/-- What a memory and a value become, once the objects of HF are only read. -/
structure Fzd (HF H0 H' : zV) (r0 r' : AV) : Prop where
 sub : subH HF H0
 rl : ∀ (h : Nat) (o : AObj), HF[h]? = some (some o) → z7 o.c
 len : H'.length = H0.length
 new : ∀ (h : Nat) (o' : AObj), H'[h]? = some (some o') → (∀ o : AObj, HF[h]? ≠ some (some o)) ∧ ∃ o : AObj, H0[h]? = some (some o) ∧ o'.ty = o.ty ∧ o'.c.len = o.c.len ∧ o'.c.kd = o.c.kd ∧ ∀ i j, i < o.c.len → j < o.c.sz → FzTo HF (o.c.at i j) (o'.c.at i j)
 res : FzTo HF r0 r'
end Go.Ax
namespace Go.Ax.Rt
open Go.Ax.Bg
structure Fin2 (B M : Nat) (q : Rat) : Prop where
 dv : Dv B q
 le : q ≤ (M : Rat)
 ge : -q ≤ (M : Rat)
theorem zFk {M N : Nat} (h : M ≤ N) : (M : Rat) ≤ (N : Rat) := by
 have h1 : ((M : Int) : Rat) ≤ ((N : Int) : Rat) := Rat.intCast_le_intCast.2 (by omega)
 rwa [Rat.intCast_natCast, Rat.intCast_natCast] at h1
theorem Fin2.mono {B M N : Nat} {q : Rat} (h : Fin2 B M q) (hm : M ≤ N) : Fin2 B N q :=
 ⟨h.dv, Rat.le_trans h.le (zFk hm), Rat.le_trans h.ge (zFk hm)⟩
theorem Fin2.zero (B M : Nat) : Fin2 B M 0 := by
 have h : (0 : Rat) ≤ (M : Rat) := zFk (Nat.zero_le M)
 exact ⟨Dv.zero B, h, by rw [Rat.neg_zero]; exact h⟩
theorem Fin2.add {B M N : Nat} {a b : Rat} (ha : Fin2 B M a) (hb : Fin2 B N b) : Fin2 B (M + N) (a + b) := by
 refine ⟨ha.dv.add hb.dv, ?_, ?_⟩
 · rw [Rat.natCast_add]
   exact Rat.le_trans ((Rat.add_le_add_right (c := b)).2 ha.le) ((Rat.add_le_add_left (c := (M : Rat))).2 hb.le)
 · rw [Rat.natCast_add, Rat.neg_add]
   exact Rat.le_trans ((Rat.add_le_add_right (c := -b)).2 ha.ge) ((Rat.add_le_add_left (c := (M : Rat))).2 hb.ge)
theorem Dv.neg {B : Nat} {q : Rat} (h : Dv B q) : Dv B (-q) := by
 obtain ⟨z, hz⟩ := h
 exact ⟨-z, by rw [Rat.neg_mul, hz, Rat.intCast_neg]⟩
theorem Fin2.neg {B M : Nat} {q : Rat} (h : Fin2 B M q) : Fin2 B M (-q) := ⟨h.dv.neg, h.ge, by rw [Rat.neg_neg]; exact h.le⟩
theorem Fin2.D {B M K : Nat} {q : Rat} (h : Fin2 B M q) (hB : B ≠ 0) (hM : M * B < 10 ^ K) (hK : B < 10 ^ K) : D K q := bnd_D h.dv hB h.le h.ge hM hK
def sumB (t : zS) (o : zAS) : Nat := Bd o t.length * payB t
theorem sumB_pos (t : zS) (o : zAS) : 0 < sumB t o := Nat.mul_pos (zLs o _) (zKf t)
theorem endG_fin {t : zS} (h : Valid t) {o : zAS} {d e : Nat} (ho : OddsW t o d) (hp : Pays t e) {p : Int} {i : Nat} (hi : i < t.length) (hk : (t.getD i node0).kind = 0) : Fin2 (sumB t o) (10 ^ e) (endG t p (zk t o) i) := by
 obtain ⟨g1, g2, g3⟩ := zPI h ho i hi
 have h6 := zG9 o (i := i) (t.length - i)
 rw [show i + (t.length - i) = t.length by omega] at h6
 obtain ⟨p1, p2⟩ := D_le (hp.dig i hi hk)
 have key : ∀ x : Rat, x ≤ ((10 ^ e : Nat) : Rat) → (zk t o).getD i 0 * x ≤ ((10 ^ e : Nat) : Rat) := by
   intro x hx
   have h0 : (0 : Rat) ≤ ((10 ^ e : Nat) : Rat) := zFk (Nat.zero_le _)
   have h1 := Rat.mul_le_mul_of_nonneg_left hx g2
   have h2 := Rat.mul_le_mul_of_nonneg_right g3 h0
   rw [Rat.one_mul] at h2
   exact Rat.le_trans h1 h2
 have hf : Fin2 (sumB t o) (10 ^ e) (zIj t (zk t o) i) := by
   refine ⟨(g1.mono h6).mul (Dv.of_den.mono (zMj hi hk)), key _ p1, ?_⟩
   unfold zIj
   rw [← Rat.mul_neg]
   exact key _ p2
 unfold endG
 split
 · exact hf.neg
 · exact hf
/-- the sums after k ends -/
def zHc (t : zS) (p : Int) (o : zAS) (k : Nat) : List Rat := zG7 (endG t p (zk t o)) (zNt t p) ((zAd t).take k) (List.replicate (zb t p).length 0)
theorem zOt (t : zS) (p : Int) (o : zAS) : zHc t p o 0 = List.replicate (zb t p).length 0 := by
 unfold zHc; rw [List.take_zero]; rfl
theorem zQh (t : zS) (p : Int) (o : zAS) : zHc t p o (zAd t).length = zKQ t p o := by
 unfold zHc zKQ; rw [List.take_length]
theorem zOE (t : zS) (p : Int) (o : zAS) {k : Nat} (hk : k < (zAd t).length) : zHc t p o (k + 1) = (zHc t p o k).set ((zNt t p).getD ((zAd t).getD k 0) 0).toNat ((zHc t p o k).getD ((zNt t p).getD ((zAd t).getD k 0) 0).toNat 0 + endG t p (zk t o) ((zAd t).getD k 0)) := by
 unfold zHc
 rw [List.take_succ_eq_append_getElem hk, zJZ, zu 0 hk]
theorem zPG {B M : Nat} {S : List Rat} (hS : ∀ j, Fin2 B M (S.getD j 0)) (x : Nat) {y : Rat} (hy : Fin2 B M y) : ∀ j, Fin2 B M ((S.set x y).getD j 0) := by
 intro j
 rw [Go.Ax.Dt.getD_set]
 split
 · exact hy
 · exact hS j
theorem zK8 {t : zS} (h : Valid t) {o : zAS} {d e : Nat} (ho : OddsW t o d) (hp : Pays t e) (p : Int) : ∀ k, k ≤ (zAd t).length → ∀ j, Fin2 (sumB t o) (k * 10 ^ e) ((zHc t p o k).getD j 0)
 | 0, _, j => by
   rw [zOt]
   have : (List.replicate (zb t p).length (0 : Rat)).getD j 0 = 0 := by
     simp only [List.getD, List.getElem?_replicate]
     split <;> rfl
   rw [this]
   exact Fin2.zero _ _
 | k + 1, hk, j => by
   have ih := zK8 h ho hp p k (by omega)
   have hk' : k < (zAd t).length := by omega
   obtain ⟨i1, i2⟩ := zFP (zAR (l := zAd t) 0 hk')
   rw [zOE t p o hk']
   have e1 : (k + 1) * 10 ^ e = k * 10 ^ e + 10 ^ e := by rw [Nat.add_mul, Nat.one_mul]
   rw [e1]
   refine zPG (fun j => (ih j).mono (Nat.le_add_right _ _)) _ ?_ j
   exact (ih _).add (endG_fin h ho hp i1 i2)
/-- all sums of a best reply, after a number of steps -/
structure Sums (t : zS) (o : zAS) (p : Int) (S : List Rat) (j : Nat) : Prop where
 len : S.length = (zb t p).length
 fin : ∀ k, Fin2 (sumB t o) (41 * 10 ^ 12 * 2 ^ j) (S.getD k 0)
theorem Sums.step {t : zS} {o : zAS} {p : Int} {S : List Rat} {j : Nat} (h : Sums t o p S j) (a b : Nat) : Sums t o p (S.set a (S.getD a 0 + S.getD b 0)) (j + 1) := by
 refine ⟨by rw [List.length_set]; exact h.len, ?_⟩
 have e1 : 41 * 10 ^ 12 * 2 ^ (j + 1) = 41 * 10 ^ 12 * 2 ^ j + 41 * 10 ^ 12 * 2 ^ j := by rw [Nat.pow_succ, ← Nat.mul_assoc]; omega
 rw [e1]
 exact zPG (fun k => (h.fin k).mono (Nat.le_add_right _ _)) a ((h.fin a).add (h.fin b))
def bigE : Nat := 961
def shortE : Nat := 1000
theorem Fin2.short {t : zS} {o : zAS} {M : Nat} {q : Rat} (h : Fin2 (sumB t o) M q) (hB : sumB t o < 10 ^ bigE) (hM : M ≤ 10 ^ 39) : Rt.D shortE q := by
 have h0 := sumB_pos t o
 refine h.D (by omega) ?_ (Nat.lt_of_lt_of_le hB (Nat.pow_le_pow_right (by decide) (by decide)))
 refine Nat.lt_of_le_of_lt (Nat.mul_le_mul_right _ hM) ?_
 have := (Nat.mul_lt_mul_left (a := 10 ^ 39) (Nat.pow_pos (by decide))).2 hB
 rw [← Nat.pow_add] at this
 exact Nat.lt_of_lt_of_le this (Nat.pow_le_pow_right (by decide) (by decide))
theorem Sums.short {t : zS} {o : zAS} {p : Int} {S : List Rat} {j : Nat} (h : Sums t o p S j) (hB : sumB t o < 10 ^ bigE) (hj : j ≤ 61) (k : Nat) : D shortE (S.getD k 0) := by
 refine (h.fin k).short hB ?_
 have h1 : 2 ^ j ≤ 2 ^ 61 := Nat.pow_le_pow_right (by decide) hj
 exact Nat.le_trans (Nat.mul_le_mul_left _ h1) (by decide)
theorem zOs {t : zS} (h : Valid t) {o : zAS} (ho : OddsW t o 12) (hn : t.length ≤ 40) (hp : Pays t 12) (p : Int) : Sums t o p (zKQ t p o) 0 := by
 have he : (zAd t).length ≤ t.length := by
   unfold zAd
   refine Nat.le_trans (List.length_filter_le _ _) ?_
   rw [List.length_range]; exact Nat.le_refl _
 refine ⟨zQz t p o, fun k => ?_⟩
 rw [← zQh]
 refine (zK8 h ho hp p _ (Nat.le_refl _) k).mono ?_
 rw [Nat.pow_zero, Nat.mul_one]
 exact Nat.mul_le_mul_right _ (by omega)
/-- Where the way back from the last sequence stands. -/
structure Back (t : zS) (p : Int) (o : zAS) (e : Nat) (S : List Rat) (C : List (Int × Int)) (j : Nat) : Prop where
 bnd : Bnd t p e
 sums : Sums t o p S j
 few : j + e ≤ (zb t p).length
 cho : Chosen t p e C
 rest : ∃ f, e ≤ f + 1 ∧ backN (zb t p) f (e, S, C) = zJq t p o
theorem Back.top {t : zS} (h : Valid t) {o : zAS} (ho : OddsW t o 12) (hn : t.length ≤ 40) (hp : Pays t 12) (p : Int) : Back t p o (zb t p).length (zKQ t p o) [] 0 :=
 ⟨Bnd.top h p, zOs h ho hn hp p, by omega, Chosen.top h p, _, by omega, rfl⟩
theorem Back.step {t : zS} (hv : Valid t) {p : Int} {o : zAS} {e : Nat} {S : List Rat} {C : List (Int × Int)} {j : Nat} (h : Back t p o e S C j) (he : 1 < e) {x : Int × Nat} {b : Nat} (hb : Blk t p e x b) :
   Back t p o x.2 (S.set b (S.getD b 0 + S.getD (zDD S x.2 (zT t p x.1)) 0)) (C ++ [(x.1, ((zDD S x.2 (zT t p x.1) - x.2 : Nat) : Int))]) (j + 1) := by
 obtain ⟨f, f1, f2⟩ := h.rest
 have h1 := hb.fin
 have h2 := hb.w1
 have h3 := h.few
 obtain ⟨q1, _, q3⟩ := zIi S x.2 (zT t p x.1)
 have q3 := q3 h2
 obtain ⟨f', rfl⟩ : ∃ f', f = f' + 1 := ⟨f - 1, by omega⟩
 rw [backN, if_pos (show 1 < (e, S, C).1 from he), hb.step] at f2
 exact ⟨hb.bnd, h.sums.step _ _, by omega, hb.chosen hv h.cho (by omega), f', by omega, f2⟩
end Go.Ax.Rt
namespace Go.Proofs.YtnkealfaldjipaaGreatDoor
open Go.Ax Go.Ax.Bg Go.Ax.Rt Go.RowKit Go.Ax.Idx Go.Ax.Cd
attribute [local irreducible] Ax zAM QOp zO zo
set_option maxRecDepth 100000
set_option maxHeartbeats 4000000
abbrev formRo (t : zS) (p : Int) : AV := .rp (.box [.ro (zBV (zb t p)) 0 (zb t p).length, .ro (.ints .i64 (zNt t p)) 0 t.length]) 0 0
end Go.Proofs.YtnkealfaldjipaaGreatDoor
namespace Go.Proofs.YtnkealfaldjipaaGreatDoor
open Go.Ax Go.Ax.Bg Go.Ax.Rt Go.RowKit Go.Ax.Idx Go.Ax.Cd
attribute [local irreducible] Ax zAM QOp zO zo
set_option maxRecDepth 100000
set_option maxHeartbeats 4000000
def keyB (y : Int × Int) : AV := .int .i64 y.1
def valB (y : Int × Int) : AV := .int .i64 y.2
abbrev choC (C : List (Int × Int)) : Cells := .mp (C.map keyB) (C.map valB)
def oneS (t : zS) (p : Int) (s : zAT) : zAS := oneO t p (zB1 s)
def zerosL (n k : Nat) : List (Option Rat) := (List.range n).map (fun i => if i < k then some 0 else none)
end Go.Proofs.YtnkealfaldjipaaGreatDoor
namespace Go.Proofs.YtnkealfaldjipaaGreatDoor
open Go.Ax Go.Ax.Bg Go.Ax.Rt Go.RowKit Go.Ax.Idx Go.Ax.Cd
attribute [local irreducible] Ax zAM QOp zO zo
set_option maxRecDepth 100000
set_option maxHeartbeats 4000000
/-- The row behind the first i values. -/
def zFS (n : zAK) (k i : Nat) : List zAK := List.replicate i n ++ List.replicate (k - i) []
theorem zJI (n : zAK) (k i j : Nat) (hi : i ≤ k) (hj : j < k) : (zFS n k i).getD j [] = if j < i then n else [] := by
 unfold zFS
 simp only [List.getD, List.getElem?_append, List.length_replicate, List.getElem?_replicate]
 split
 · simp
 · rw [if_pos (by omega)]; simp
theorem zFa (n : zAK) (k i : Nat) (hi : i ≤ k) : (zFS n k i).length = k := by unfold zFS; simp; omega
theorem zRB (n : zAK) (k : Nat) : zFS n k k = List.replicate k n := by unfold zFS; simp
theorem repeatS (n : zAK) (k : Nat) (hk : 1 ≤ k ∧ k ≤ 100000) : zIx Tryz.prog 76 [.ro (.strs [n]) 0 1, .int .i64 (k : Nat)] (fun N => .sl N 0 k) ⟨27, .strs (List.replicate k n)⟩ := by
 refine zO.fresh (K := fun r H => r = .sl 0 0 k ∧ H = [some ⟨27, .strs (List.replicate k n)⟩]) (zF (P := Tryz.prog) (fn := Tryz.f76) rfl rfl (by kernel_rfl) rfl (fun c hR hfix => ?_)) (fix := fun _ => False) (fun _ h => h) rfl (fun H => ⟨rfl, by simp [zHH, inB]⟩) ?_
 · have hm := mulB 1 k (by omega) (by omega)
   rw [Nat.one_mul, Nat.div_eq_of_lt (by omega), Nat.mod_eq_of_lt (by omega)] at hm
   refine rn4 ?_
   refine zC (zAX (m := 1) rfl rfl rfl zBD (by decide)) ?_
   repeat (refine zC (zI rfl) ?_)
   refine zC (zAX (m := k) rfl rfl rfl zBD (by omega)) ?_
   refine zE rfl rfl rfl hm ?_
   refine rn6 ?_
   refine zD rfl (fun h => absurd h (by omega)) (fun h => ?_)
   refine rn1 ?_
   refine zC (zEq rfl rfl rfl (by omega)) ?_
   refine zCC rfl rfl rfl rfl rfl rfl rfl rfl (by show 0 ≤ _ ∧ _ ≤ _ ∧ (16 : Int) * _ ≤ _ ∧ _; omega) ?_
   refine rn0 ?_
   refine zP5 (o := ⟨27, .strs (List.replicate k [])⟩) (c' := .strs (zFS n k 1)) (i := 0) (n := k) (i2 := 0) (m := 1) (q := 1) rfl rfl rfl rfl rfl rfl rfl (by simp [Cells.len]) (by omega) (by show 0 + 1 ≤ 1; omega) (by omega) (Nat.min_eq_left (by omega)) rfl rfl ?_ (fun i' j hi' hj => ?_) ?_
   · show (zFS n k 1).length = (List.replicate k ([] : zAK)).length
     rw [zFa n k 1 (by omega)]; simp
   · have hi2 : i' < k := by simpa [Cells.len] using hi'
     show AV.str ((zFS n k 1).getD i' []) = _
     rw [zJI n k 1 i' (by omega) hi2]
     by_cases h0 : i' < 1
     · rw [if_pos h0, if_pos (by omega)]
       have : i' = 0 := by omega
       subst this; rfl
     · rw [if_neg h0, if_neg (by omega)]
       show _ = AV.str ((List.replicate k ([] : zAK)).getD i' [])
       simp [List.getD, hi2]
   refine rn1 ?_
   refine zg (ι := Nat) (fun i => [(7, .sl 0 0 k), (8, .int .i64 (i : Nat))]) (fun i => [some ⟨27, .strs (zFS n k i)⟩]) (fun i => 1 ≤ i ∧ i ≤ k) (fun i => k - i) 1 ⟨⟨rfl, rfl, trivial⟩, rfl, by omega, by omega⟩ ?_
   rintro i ⟨hi1, hi⟩
   refine rn4 ?_
   refine zD rfl (fun h1 => ?_) (fun h1 => ?_)
   · obtain ⟨q, hq⟩ : ∃ q, Nat.min i (k - i) = q := ⟨_, rfl⟩
     have hq1 : q ≤ i ∧ q ≤ k - i ∧ 1 ≤ q := by
       subst hq
       refine ⟨Nat.min_le_left _ _, Nat.min_le_right _ _, ?_⟩
       show 1 ≤ min i (k - i)
       omega
     refine rn1 ?_
     refine zn (by kernel_rfl) ?_
     refine zR 0 rfl (by kernel_rfl) (by kernel_rfl) (by kernel_rfl) rfl (zI rfl) rfl ?_
     refine zR 1 rfl (by kernel_rfl) (by kernel_rfl) (by kernel_rfl) rfl (zI rfl) rfl ?_
     refine zR 2 rfl (by kernel_rfl) (by kernel_rfl) (by kernel_rfl) rfl (zI rfl) rfl ?_
     refine zR 4 rfl (by kernel_rfl) (by kernel_rfl) (by kernel_rfl) rfl (zI rfl) rfl ?_
     refine zR 5 rfl (by kernel_rfl) (by kernel_rfl) (by kernel_rfl) rfl (zI rfl) rfl ?_
     refine zR 3 rfl (by kernel_rfl) (by kernel_rfl) (by kernel_rfl) rfl (zHO rfl rfl rfl rfl rfl rfl rfl rfl (by omega)) rfl ?_
     refine zR 6 rfl (by kernel_rfl) (by kernel_rfl) (by kernel_rfl) rfl (zHO rfl rfl rfl rfl rfl rfl rfl rfl (by omega)) rfl ?_
     refine zBL 41 (.sl 0 i (k - i)) rfl (AEq.of_eq (by congr 1 <;> omega)) ?_
     refine zBL 44 (.sl 0 0 i) rfl (AEq.of_eq (by congr 1 <;> omega)) ?_
     refine zG (is := [7]) (by kernel_rfl) (by simp) rfl ⟨fun o ho => ?_, trivial⟩
     all_goals (cases ho)
     skip
     refine zP5 (h := 0) (o := ⟨27, .strs (zFS n k i)⟩) (c' := .strs (zFS n k (i + q))) (i := i) (n := k - i) (i2 := 0) (m := i) (q := q) rfl rfl rfl rfl rfl rfl rfl (by show i + (k - i) ≤ (zFS n k i).length; rw [zFa n k i hi]; omega) (by omega) (by show 0 + i ≤ (zFS n k i).length; rw [zFa n k i hi]; omega) (by omega) hq rfl rfl ?_ (fun i' j hi' hj => ?_) ?_
     · show (zFS n k (i + q)).length = (zFS n k i).length
       rw [zFa n k i hi, zFa n k (i + q) (by omega)]
     · have hi2 : i' < k := by
         have : i' < (zFS n k i).length := hi'
         rwa [zFa n k i hi] at this
       show AV.str ((zFS n k (i + q)).getD i' []) = _
       rw [zJI n k (i + q) i' (by omega) hi2]
       by_cases h0 : i ≤ i' ∧ i' < i + q
       · rw [if_pos h0, if_pos h0.2]
         show _ = AV.str ((zFS n k i).getD (0 + (i' - i)) [])
         rw [zJI n k i _ hi (by omega), if_pos (by omega)]
       · rw [if_neg h0]
         show _ = AV.str ((zFS n k i).getD i' [])
         rw [zJI n k i i' hi hi2]
         by_cases h2 : i' < i
         · rw [if_pos h2, if_pos (by omega)]
         · rw [if_neg h2, if_neg (by omega)]
     repeat (first | refine zB ?_ | refine zj ?_)
     refine zR 8 rfl (by kernel_rfl) (by kernel_rfl) (by kernel_rfl) rfl (zDJ rfl rfl (by omega)) rfl ?_
     refine zR 9 rfl (by kernel_rfl) (by kernel_rfl) (by kernel_rfl) rfl (zK rfl) rfl ?_
     refine zh (by kernel_rfl) ?_
     repeat (refine za ?_)
     exact zM ⟨i + q, ⟨by omega, by omega⟩, by omega, ⟨rfl, rfl, trivial⟩, rfl⟩
   · have : i = k := by omega
     subst this
     rw [zRB]
     refine rn5 ?_
     exact zH hR rfl ⟨rfl, rfl⟩
 · rintro r H ⟨rfl, rfl⟩
   refine ⟨?_, fun h o ho => zGE zEK h o ho, 0, rfl, fun n => rfl⟩
   intro o ho; simp at ho; subst ho; exact Nat.le_of_eq (by simp [Cells.len])
end Go.Proofs.YtnkealfaldjipaaGreatDoor
namespace Go.Proofs.YtnkealfaldjipaaGreatDoor
open Go.Ax Go.Ax.Bg Go.Ax.Rt Go.RowKit Go.Ax.Idx Go.Ax.Cd
attribute [local irreducible] Ax zAM QOp zO zo
set_option maxRecDepth 100000
set_option maxHeartbeats 4000000
def bestE (t : zS) (p : Int) (s : zAT) : Int := if zAh t p ≠ 0 then zAh t p else if zCm t p = true then zA8 t (1 - p) s else 10
/-- the best choice of a set -/
def bestC (t : zS) (p : Int) (o : zAS) (x : Int) : Nat := ((lookC (zJq t p o).2.2 x).getD 0).toNat
def zEv (w c : Nat) : List zAK := (List.replicate w [48]).set c [49]
def zOx (t : zS) (p : Int) (o : zAS) (x : Int) : TChoice := ⟨x, zEv (zT t p x) (bestC t p o x)⟩
def bestStr (t : zS) (p : Int) (o : zAS) : zAT := (zJ t p).map (zOx t p o)
def bestQ (t : zS) (p : Int) (s : zAT) : Rat := (zJq t p (oneS t p s)).2.1.getD 0 0
/-- reply.Best -/
def zKz (t : zS) (p : Int) (s : zAT) : zAK × zAT × Int :=
 if bestE t p s ≠ 0 then ([], [], bestE t p s) else if (zFI (bestQ t p s)).2 ≠ 0 then ([], [], (zFI (bestQ t p s)).2) else ((zFI (bestQ t p s)).1, bestStr t p (oneS t p s), 0)
def bestA (r : zAK × zAT × Int) : AV := .tup [.str r.1, .ro (z6 r.2.1) 0 r.2.1.length, .int .i64 r.2.2]
theorem rowC2 (c : TChoice) (j : Nat) (hj : j < 2) : (zED 1 2 [.int .i64 c.info, .ro (.strs c.odds) 0 c.odds.length]).at 0 j = (cellsC c).getD j .any := by
 match j, hj with
 | 0, _ => rfl
 | 1, _ => rfl
end Go.Proofs.YtnkealfaldjipaaGreatDoor
namespace Go.Ax.Rt
open Go.Ax.Bg Go.Ax.Idx
def zDt (f : Nat → Rat) (n i : Nat) : List (Option Rat) := (List.range n).map (fun k => if k < i then some (f k) else none)
theorem zCg (f : Nat → Rat) (n i : Nat) : (zDt f n i).length = n := by unfold zDt; rw [List.length_map, List.length_range]
theorem zId (f : Nat → Rat) {n k : Nat} (i : Nat) (hk : k < n) : (zDt f n i).getD k none = if k < i then some (f k) else none := by
 unfold zDt
 rw [zBY _ _ 0 none k (by rw [List.length_range]; exact hk), zu 0 (by rw [List.length_range]; exact hk), List.getElem_range]
theorem zLF (f : Nat → Rat) {n i : Nat} (hi : i < n) : (zDt f n i).set i (some (f i)) = zDt f n (i + 1) := by
 refine List.ext_getElem (by rw [List.length_set, zCg, zCg]) (fun k h1 h2 => ?_)
 have hk : k < n := by rwa [List.length_set, zCg] at h1
 rw [← zu none h1, ← zu none h2, Go.Ax.Dt.getD_set, zCg, zId f _ hk, zId f _ hk]
 by_cases h : k = i
 · subst h; rw [if_pos ⟨rfl, hi⟩, if_pos (by omega)]
 · rw [if_neg (fun q => h q.1)]
   by_cases h3 : k < i
   · rw [if_pos h3, if_pos (by omega)]
   · rw [if_neg h3, if_neg (by omega)]
theorem zJY (f : Nat → Rat) (n : Nat) : zDt f n 0 = List.replicate n none := by
 refine List.ext_getElem (by rw [zCg, List.length_replicate]) (fun k h1 h2 => ?_)
 have hk : k < n := by rwa [zCg] at h1
 rw [← zu none h1, zId f _ hk, if_neg (Nat.not_lt_zero _), List.getElem_replicate]
theorem zKx (f : Nat → Rat) (n : Nat) : zDt f n n = ((List.range n).map f).map some := by
 unfold zDt
 rw [List.map_map]
 refine List.map_congr_left (fun k hk => ?_)
 rw [if_pos (List.mem_range.1 hk)]; rfl
/-- the weight of a sequence, so far -/
def zJC (q : CPlan → Bool) (l : zBl) (k : Nat) : Rat := zAF 0 (((l.take k).filter q).map (fun a => zAB a.odds))
theorem zQm {q : CPlan → Bool} {l : zBl} {k : Nat} (hk : k < l.length) : zJC q l (k + 1) = if q (l.getD k cp0) = true then zJC q l k + zAB (l.getD k cp0).odds else zJC q l k := by
 unfold zJC
 rw [List.take_succ_eq_append_getElem hk, List.filter_append, ← zu cp0 hk]
 by_cases h : q (l.getD k cp0) = true
 · rw [if_pos h, List.filter_cons_of_pos h, List.filter_nil, List.map_append]
   exact zER _ _ _
 · rw [if_neg h, List.filter_cons_of_neg h, List.filter_nil, List.append_nil]
theorem sumW_all (q : CPlan → Bool) (l : zBl) : zJC q l l.length = zAF 0 ((l.filter q).map (fun a => zAB a.odds)) := by
 unfold zJC; rw [List.take_length]
theorem zO8 {q : CPlan → Bool} {l : zBl} (h : ∀ a ∈ l, D 2000 (zAB a.odds)) {k : Nat} (hk : k ≤ l.length) : D (1 + k * 2001) (zJC q l k) := by
 unfold zJC
 have h1 := zML (k := 2000) (l := ((l.take k).filter q).map (fun a => zAB a.odds)) (fun x hx => by
   obtain ⟨a, ha, rfl⟩ := List.mem_map.1 hx
   exact h a (List.mem_of_mem_take (List.mem_filter.1 ha).1)) (acc := 0) (j := 1) ⟨by decide, by decide⟩
 refine h1.mono ?_
 rw [List.length_map]
 have h2 : ((l.take k).filter q).length ≤ k := Nat.le_trans (List.length_filter_le _ _) (by rw [List.length_take]; exact Nat.min_le_left _ _)
 have := Nat.mul_le_mul_right 2001 h2
 omega
def zKR (sq : List RSeq) (W : Nat → Rat) (x : Int) (k : Nat) (o : List Rat) : List Rat :=
 if 0 ≤ (sq.getD k seq0).before ∧ (sq.getD k seq0).info = x ∧ 0 < W (sq.getD k seq0).before.toNat then o.set (sq.getD k seq0).choice.toNat (W k / W (sq.getD k seq0).before.toNat) else o
def zGx (sq : List RSeq) (W : Nat → Rat) (x : Int) (o : List Rat) : Nat → List Rat
 | 0 => o
 | k + 1 => zKR sq W x k (zGx sq W x o k)
theorem zF8 (sq : List RSeq) (W : Nat → Rat) (x : Int) (o : List Rat) : ∀ k, (zGx sq W x o k).length = o.length
 | 0 => rfl
 | k + 1 => by
   rw [zGx, zKR]
   split
   · rw [List.length_set, zF8 sq W x o k]
   · exact zF8 sq W x o k
theorem zNG {t : zS} (hv : Valid t) {p x : Int} {s b : Nat} (h : BlkX t p x s b) {k : Nat} (hk : k < (zb t p).length) (h0 : 0 ≤ ((zb t p).getD k seq0).before) (hi : ((zb t p).getD k seq0).info = x) : s ≤ k ∧ k < s + zT t p x := by
 have hnd := (RI.all_n hv p t.length (Nat.le_refl _)).nd
 have h1 : 1 ≤ k := by
   rcases Nat.eq_zero_or_pos k with e | e
   · subst e
     rw [(zAi hv p).2.1] at h0
     exact absurd h0 (by decide)
   · exact e
 obtain ⟨y, c, y0, y1, y2, y3, y4, y5, y6, y7⟩ := zFB hv h1 hk
 have h2 := y7 (k - y.2) (by omega)
 rw [show y.2 + (k - y.2) = k by omega] at h2
 rw [h2] at hi
 have hi : y.1 = x := hi
 have e : y = (x, s) := by
   have hm := h.mem
   obtain ⟨i, hi', ei⟩ := List.getElem_of_mem y0
   obtain ⟨j, hj', ej⟩ := List.getElem_of_mem hm
   have : i = j := by
     refine (List.getElem_inj (i := i) (j := j) (h₀ := by rw [List.length_map]; exact hi') (h₁ := by rw [List.length_map]; exact hj') hnd).1 ?_
     rw [List.getElem_map, List.getElem_map, ei, ej]
     exact hi
   subst this
   rw [← ei, ← ej]
 subst e
 exact ⟨y2, y3⟩
theorem zPg {t : zS} (hv : Valid t) {p x : Int} {s b : Nat} (h : BlkX t p x s b) (W : Nat → Rat) : ∀ k, k ≤ (zb t p).length → ∀ c, c < zT t p x →
   (zGx (zb t p) W x (zAx (zT t p x) 0) k).getD c 0 = if s + c < k ∧ 0 < W b then W (s + c) / W b else (zAx (zT t p x) 0).getD c 0
 | 0, _, c, hc => by rw [if_neg (by omega)]; rfl
 | k + 1, hk, c, hc => by
   have ih := zPg hv h W k (by omega) c hc
   rw [zGx, zKR]
   by_cases h0 : 0 ≤ ((zb t p).getD k seq0).before ∧ ((zb t p).getD k seq0).info = x ∧ 0 < W ((zb t p).getD k seq0).before.toNat
   · rw [if_pos h0]
     obtain ⟨b1, b2⟩ := zNG hv h (by omega) h0.1 h0.2.1
     have hs := h.seqs (k - s) (by omega)
     rw [show s + (k - s) = k by omega] at hs
     rw [hs] at h0 ⊢
     have h3 : 0 < W b := h0.2.2
     show ((zGx (zb t p) W x (zAx (zT t p x) 0) k).set ((k - s : Nat) : Int).toNat (W k / W ((b : Nat) : Int).toNat)).getD c 0 = _
     rw [Int.toNat_natCast, Int.toNat_natCast, Go.Ax.Dt.getD_set, zF8, ih]
     have hu := (zBo h.w1).1
     by_cases e : c = k - s
     · rw [if_pos ⟨e, by omega⟩, if_pos ⟨by omega, h3⟩, e, show s + (k - s) = k by omega]
     · rw [if_neg (fun q => e q.1)]
       by_cases h4 : s + c < k
       · rw [if_pos ⟨h4, h3⟩, if_pos ⟨by omega, h3⟩]
       · rw [if_neg (fun q => h4 q.1), if_neg (by omega)]
   · rw [if_neg h0, ih]
     by_cases h3 : 0 < W b
     · have hne : s + c ≠ k := fun e => by
         have hs := h.seqs c hc
         rw [e] at hs
         rw [hs] at h0
         exact h0 ⟨Int.natCast_nonneg _, rfl, h3⟩
       by_cases h4 : s + c < k
       · rw [if_pos ⟨h4, h3⟩, if_pos ⟨by omega, h3⟩]
       · rw [if_neg (fun q => h4 q.1), if_neg (by omega)]
     · rw [if_neg (fun q => h3 q.2), if_neg (fun q => h3 q.2)]
/-- The loop over the sequences makes the strategy at an information set. -/
theorem behN_all {t : zS} (hv : Valid t) {p x : Int} (hx : x ∈ zJ t p) (W : Nat → Rat) : zGx (zb t p) W x (zAx (zT t p x) 0) (zb t p).length = zA5 t p W x := by
 obtain ⟨s, b, h⟩ := zD4 hv hx
 have hu := (zBo h.w1).1
 have hl : (zA5 t p W x).length = zT t p x := by
   unfold zA5
   split
   · rw [List.length_map, List.length_range]
   · exact hu
 refine List.ext_getElem (by rw [zF8, hu, hl]) (fun c h1 h2 => ?_)
 have hc : c < zT t p x := by omega
 rw [← zu 0 h1, ← zu 0 h2, zPg hv h W _ (Nat.le_refl _) c hc]
 have hf := h.fin
 by_cases h3 : 0 < W b
 · rw [if_pos ⟨by omega, h3⟩, zFN h W h3 hc]
 · rw [if_neg (fun q => h3 q.2)]
   unfold zA5
   rw [h.start, h.bef, if_neg h3]
theorem behU_D {t : zS} (hv : Valid t) {p x : Int} {W : Nat → Rat} {K : Nat} (hK : 1 ≤ K) (hW : ∀ k, D K (W k)) (hx : x ∈ zJ t p) : (zA5 t p W x).length = zT t p x ∧ ∀ q ∈ zA5 t p W x, D (K + K) q := by
 obtain ⟨s, b, h⟩ := zD4 hv hx
 have hu := zBo h.w1
 unfold zA5
 split
 · rename_i hb
   refine ⟨by rw [List.length_map, List.length_range], fun q hq => ?_⟩
   obtain ⟨c, _, rfl⟩ := List.mem_map.1 hq
   exact (hW _).div (hW _) (fun e => by rw [e] at hb; exact absurd hb (by decide +kernel))
 · exact ⟨hu.1, fun q hq => (hu.2.2 q hq).2.mono (by omega)⟩
theorem zNx {w : Nat} : (zDt (fun _ => 0) w w).set 0 (some 1) = (zAx w 0).map some := by
 rw [zKx]
 unfold zAx
 rw [← List.map_set]
 refine congrArg (fun z => List.map some (List.set z 0 1)) ?_
 exact List.map_const' .. |>.trans (by rw [List.length_range])
theorem stepB_no {sq : List RSeq} {W : Nat → Rat} {x : Int} {k : Nat} {o : List Rat} (h : ¬ (0 ≤ (sq.getD k seq0).before ∧ (sq.getD k seq0).info = x ∧ 0 < W (sq.getD k seq0).before.toNat)) : zKR sq W x k o = o := if_neg h
theorem zQw {sq : List RSeq} {W : Nat → Rat} {x : Int} {k b c : Nat} {o : List Rat} (h : sq.getD k seq0 = ⟨x, (c : Int), (b : Int)⟩) (hb : 0 < W b) : zKR sq W x k o = o.set c (W k / W b) := by
 unfold zKR
 rw [h]
 exact if_pos ⟨Int.natCast_nonneg _, rfl, hb⟩
end Go.Ax.Rt
namespace Go.Proofs.YtnkealfaldjipaaGreatDoor
open Go.Ax Go.Ax.Bg Go.Ax.Rt Go.RowKit Go.Ax.Idx Go.Ax.Cd
attribute [local irreducible] Ax zAM QOp zO zo
set_option maxRecDepth 100000
set_option maxHeartbeats 4000000
theorem seqs_ok {t : zS} (hv : Valid t) (p : Int) : SeqOk (zJ t p) (zb t p) := by
 refine ⟨fun i hi h0 => ?_, fun i hi h0 => ?_⟩ <;>
 · rcases Nat.eq_zero_or_pos i with e | e
   · subst e
     rw [(zAi hv p).2.1] at h0
     exact absurd h0 (by decide)
   · obtain ⟨x, b, y0, y1, y2, y3, y4, y5, y6, y7⟩ := zFB hv e hi
     have h2 := y7 (i - x.2) (by omega)
     rw [show x.2 + (i - x.2) = i by omega] at h2
     rw [h2]
     first
       | exact y1
       | (show ((b : Nat) : Int) < (i : Int); omega)
theorem posI_eqp (t : zS) (p : Int) : zJF t p = fun x => (zJ t p).findIdx (eqp x) := by
 funext x
 unfold zJF
 refine congrArg (fun f => (zJ t p).findIdx f) (funext fun y => ?_)
 unfold eqp
 exact decide_eq_decide.2 ⟨Eq.symm, Eq.symm⟩
def mkF (t : zS) (p : Int) (k : Nat) (a : CPlan) : Bool := zBy (zJF t p) a.choices (zb t p) (zb t p).length k
theorem zLk (t : zS) (p : Int) (l : zBl) (k : Nat) : zBB t p l k = zJC (mkF t p k) l l.length := by
 rw [sumW_all]; rfl
theorem zLX {t : zS} {p : Int} {l : zBl} (h1 : zCj t p l = 0) (h2 : zCm t p = true) : zIL t p l = if (zJ t p).all (fun x => (zA5 t p (zBB t p l) x).all zA3) then (zJD t p (zBB t p l), 0) else ([], 2) := by
 unfold zIL
 rw [if_neg (fun q => q h1), if_pos h2]
theorem zE0 (l : zAT) (n : Nat) : zA6 n (z6 l) := by
 intro i j _ hj
 have hj : j < 2 := hj
 show zCn n ((cellsC (l.getD i ch0)).getD j .any) = true
 match j, hj with
 | 0, _ => rfl
 | 1, _ => rfl
theorem sgn_gt (q : Rat) : decide (0 < sgn q.num) = decide (0 < q) := by
 rw [Bool.eq_iff_iff, decide_eq_true_eq, decide_eq_true_eq]
 have h1 : 0 < sgn q.num ↔ 0 < q.num := by
   unfold sgn
   split
   · rename_i h; simp; omega
   · split
     · rename_i h; simp; omega
     · rename_i h1 h2; simp; omega
 rw [h1, Rat.lt_iff]
 show _ ↔ (0 : Int) * (q.den : Int) < q.num * 1
 omega
theorem zLl (t : zS) (p : Int) (l : zBl) (hT : ShortT t) (hl : ShortX l) : zW Tryz.prog 36 [.ro (zd t) 0 t.length, .int .i64 p, .ro (mxC l) 0 l.length] (.tup [.ro (z6 (zIL t p l).1) 0 (zIL t p l).1.length, .int .i64 (zIL t p l).2]) := by
 have c1 := zIF t p l hT hl
 have hll := hl.len
 refine zO.value0 (zF (P := Tryz.prog) (fn := Tryz.f36) rfl rfl (by kernel_rfl) rfl (fun c hR hfix => ?_)) (fix := fun _ => False) (fun _ h => h) rfl rfl
 by_cases h1 : zCj t p l = 0
 case neg =>
   unfold zIL at hR
   rw [if_pos h1] at hR
   generalize zCj t p l = e at *
   refine rn0 ?_
   refine zE rfl rfl rfl c1 ?_
   refine rn3 ?_
   rw [decide_eq_true (show ¬ e = 0 from h1)]
   repeat (first | refine zC (zI rfl) ?_ | refine zC (zK rfl) ?_ | refine zB ?_ | refine zA ?_ | refine zZ ?_ | refine zL rfl ?_ | refine zAV rfl ?_)
   refine zAO 6 (.ro (z6 []) 0 0) rfl AEq.nil ?_
   refine rn2 ?_
   exact zH hR rfl rfl
 obtain ⟨hpe, hO⟩ := zES h1
 obtain ⟨hv, _⟩ := zCP hpe
 have c2 := zK0 t p hT hv
 by_cases h2 : zCm t p = true
 case neg =>
   unfold zIL at hR
   rw [if_neg (fun q => q h1), if_neg h2] at hR
   rw [show zCm t p = false by simpa using h2] at c2
   rw [h1] at c1
   refine rn0 ?_
   refine zE rfl rfl rfl c1 ?_
   refine rn4 ?_
   refine zE rfl rfl rfl c2 ?_
   repeat (first | refine zC (zK rfl) ?_ | refine zB ?_ | refine zA ?_ | refine zZ ?_ | refine zL rfl ?_ | refine zAV rfl ?_ | refine zC (zEB rfl) ?_)
   refine zAO 6 (.ro (z6 []) 0 0) rfl AEq.nil ?_
   refine rn2 ?_
   exact zH hR rfl rfl
 rw [zLX h1 h2] at hR
 rw [h2] at c2
 rw [h1] at c1
 have c3 := zJO t p hT.len
 have cof := of_ok t p hT hv
 have hsq := seqs_ok hv p
 have hpq := posI_eqp t p
 have hfew := zJh hv p
 have hn0 := (zAi hv p).2.2.1
 obtain ⟨hw1, hw2, hw3⟩ := hO.wgt
 have hwD : ∀ a ∈ l, D 2000 (zAB a.odds) := fun a ha => (hw1 a ha).2.2
 have hIl : (zJ t p).length ≤ 10 := by
   unfold zJ
   exact Nat.le_trans (List.length_filter_le _ _) (by simp)
 have hl128 : l.length ≤ 128 := by
   unfold zCj at h1
   rw [if_neg (fun q => q hpe)] at h1
   by_cases q : 128 < l.length
   · rw [if_pos q] at h1; cases h1
   · omega
 have hsz : ∀ k, k < (zJ t p).length → (zAE t p).getD k 0 = ((zT t p ((zJ t p).getD k 0) : Nat) : Int) := fun k hk => by unfold zAE; rw [zBY _ _ 0 _ _ hk]
 have hzl : (zAE t p).length = (zJ t p).length := by unfold zAE; exact List.length_map _
 have hwd : ∀ x ∈ zJ t p, 1 ≤ zT t p x ∧ zT t p x ≤ 6 := fun x hx => by
   obtain ⟨s, b, g⟩ := zD4 hv hx
   exact ⟨g.w1, zHw hv hx⟩
 have hbeh : ∀ x ∈ zJ t p, zGx (zb t p) (zBB t p l) x (zAx (zT t p x) 0) (zb t p).length = zA5 t p (zBB t p l) x := fun x hx => behN_all hv hx _
 have hch : ∀ k, k < (zb t p).length → 0 ≤ ((zb t p).getD k seq0).before → 0 ≤ ((zb t p).getD k seq0).choice ∧ ((zb t p).getD k seq0).choice.toNat < zT t p ((zb t p).getD k seq0).info := fun k hk h0 => by
   obtain ⟨s, b, g⟩ := zD4 hv (hsq.inf k hk h0)
   obtain ⟨g1, g2⟩ := zNG hv g hk h0 rfl
   have g3 := g.seqs (k - s) (by omega)
   rw [show s + (k - s) = k by omega] at g3
   have g4 : ((zb t p).getD k seq0).choice = ((k - s : Nat) : Int) := by rw [g3]
   rw [g4]
   omega
 have hbD : ∀ x ∈ zJ t p, (zA5 t p (zBB t p l) x).length = zT t p x ∧ ∀ q ∈ zA5 t p (zBB t p l) x, D (256129 + 256129) q := fun x hx => behU_D hv (by decide) (fun k => by
   rw [zLk t p l k]
   exact (zO8 hwD (Nat.le_refl _)).mono (by omega)) hx
 have hbf := hsq.bef
 have hW : ∀ k, zBB t p l k = zJC (mkF t p k) l l.length := zLk t p l
 have hWD : ∀ k, D 256129 (zBB t p l k) := fun k => by
   rw [hW k]
   exact (zO8 hwD (Nat.le_refl _)).mono (by omega)
 have hmk : ∀ a ∈ l, ∀ k, k < (zb t p).length → zW Tryz.prog 107 [.ro (.ints .i64 (zJ t p)) 0 (zJ t p).length, .ro (.ints .i64 a.choices) 0 a.choices.length, .ro (zBV (zb t p)) 0 (zb t p).length, .int .i64 (k : Nat)] (.bool (mkF t p k a)) := fun a ha k hk => by
   have := makes_ok (zJ t p) a.choices (zb t p) (zb t p).length k (by omega) (hO.len a ha) (by omega) hk hk hsq
   unfold mkF
   rw [hpq]
   exact this
 have hcl : ∀ a ∈ l, a.choices.length = (zJ t p).length := hO.len
 have hrE : ∀ a ∈ l, zCi a.odds = 0 := fun a ha => (hw1 a ha).1
 have hod := hl.od
 unfold zJD at hR
 have hseqs : (zBA t p t.length).seqs = zb t p := rfl
 clear hO hpe h1 h2 hpq hw1 hw2 hw3 hsq hl hT hv
 refine rn0 ?_
 refine zE rfl rfl rfl c1 ?_
 refine rn4 ?_
 refine zE rfl rfl rfl c2 ?_
 refine rn5 ?_
 refine zE rfl rfl rfl c3 ?_
 refine rn2 ?_
 refine zJo rfl rfl rfl cof (fun h hh => absurd hh (Nat.not_lt_zero _)) (fun h hh => absurd hh id) ?_
 rintro r' H' ⟨rfl, rfl⟩
 repeat (first | refine zC (zK rfl) ?_ | refine zB ?_ | refine zA ?_ | refine zZ ?_ | refine zC (zU rfl rfl rfl rfl rfl) ?_ | refine zC (zAl rfl) ?_ | refine zC (zP rfl rfl rfl rfl rfl rfl) ?_)
 refine zAY 0 11 (zb t p).length [(2, .ro (mxC l) 0 l.length), (9, .ro (.ints .i64 (zJ t p)) 0 (zJ t p).length), (10, .ro (.ints .i64 (zAE t p)) 0 (zAE t p).length)] rfl (zMG _) rfl (by show (zBA t p t.length).seqs.length ≤ (zBA t p t.length).seqs.length; exact Nat.le_refl _) ⟨rfl, rfl, rfl, trivial⟩ ?_
 refine zAa [] _ [(2, .ro (mxC l) 0 l.length), (9, .ro (.ints .i64 (zJ t p)) 0 (zJ t p).length), (10, .ro (.ints .i64 (zAE t p)) 0 (zAE t p).length), (11, .ro (zBV (zb t p)) 0 (zb t p).length)] rfl ⟨rfl, rfl, rfl, rfl, trivial⟩ (fun h hh => by rw [hfix] at hh; exact absurd hh id) (fun h o ho => by simp at ho) rfl ?_
 clear cof hseqs c1 c2 c3
 generalize zA5 t p (zBB t p l) = bu at *
 generalize zBB t p l = W at *
 generalize mkF t p = mk at *
 generalize zT t p = wd at *
 generalize zJ t p = I at *
 generalize zAE t p = Z at *
 generalize zb t p = sq at *
 refine rn3 ?_
 refine zCC rfl rfl rfl rfl rfl rfl rfl rfl (by show (0 : Int) ≤ _ ∧ _ ≤ _ ∧ (56 : Int) * _ ≤ _ ∧ _; omega) ?_
 refine zAz [some ⟨122, zsC (List.replicate sq.length none)⟩] (zAG.eqv (zLv _) zAG.nil) ?_
 rw [← zJY W sq.length]
 refine rn3 ?_
 refine zg (ι := Nat) (fun i => [(2, .ro (mxC l) 0 l.length), (9, .ro (.ints .i64 I) 0 I.length), (10, .ro (.ints .i64 Z) 0 Z.length), (11, .ro (zBV sq) 0 sq.length), (12, .sl 0 0 sq.length), (52, .int .i64 (sq.length : Nat)), (53, .int .i64 (i : Nat))]) (fun i => [some ⟨122, zsC (zDt W sq.length i)⟩])
   (fun i => i ≤ sq.length) (fun i => sq.length - i) 0 ⟨⟨rfl, rfl, rfl, rfl, rfl, rfl, rfl, trivial⟩, rfl, Nat.zero_le _⟩ ?_
 intro i hi
 refine rn4 ?_
 refine zD rfl (fun h => ?_) (fun h => ?_)
 · have hi' : i < sq.length := by omega
   have hps := zLF W hi'
   have hWi := hW i
   have hpl := zCg W sq.length i
   have hmki := fun a ha => hmk a ha i hi'
   have hsuc := fun k (hk : k < l.length) => zQm (q := mk i) hk
   have hsD := fun k (hk : k ≤ l.length) => zO8 (q := mk i) hwD hk
   have h00 : zJC (mk i) l 0 = 0 := rfl
   generalize hA2 : zDt W sq.length (i + 1) = A2 at *
   generalize zDt W sq.length i = A at *
   generalize hSW : zJC (mk i) l = SW at *
   have hiA : i < (zsC A).len := by show i < A.length; omega
   refine rn1 ?_
   refine zE rfl rfl rfl zFp ?_
   unfold qA
   repeat (refine zC (ze rfl rfl rfl rfl rfl (by first | (simp only [Nat.zero_add, Int.toNat_natCast, Int.toNat_zero]; exact rfl) | exact rfl) (by omega)) ?_)
   refine zQ (c' := zsC (A.set i (some 0))) rfl rfl rfl rfl rfl hiA (by show (List.set _ _ _).length = A.length; simp) rfl (fun i' j' hi' hj' => zDN none 3 zBU A i (some 0) hiA i' j' hi' hj') ?_
   refine rn3 ?_
   rw [← h00]
   refine zg (ι := Nat) (fun k => [(2, .ro (mxC l) 0 l.length), (9, .ro (.ints .i64 I) 0 I.length), (10, .ro (.ints .i64 Z) 0 Z.length), (11, .ro (zBV sq) 0 sq.length), (12, .sl 0 0 sq.length), (52, .int .i64 (sq.length : Nat)), (53, .int .i64 (i : Nat)), (13, .int .i64 (i : Nat)), (60, .ro (mxC l) 0 l.length), (61, .int .i64 (l.length : Nat)), (62, .int .i64 (k : Nat))]) (fun k => [some ⟨122, zsC (A.set i (some (SW k)))⟩])
     (fun k => k ≤ l.length) (fun k => l.length - k) 0 ⟨⟨rfl, rfl, rfl, rfl, rfl, rfl, rfl, rfl, rfl, rfl, rfl, trivial⟩, rfl, Nat.zero_le _⟩ ?_
   intro k hk
   refine rn4 ?_
   refine zD rfl (fun h5 => ?_) (fun h5 => ?_)
   · have hk' : k < l.length := by omega
     have hal : l.getD k cp0 ∈ l := zAR cp0 hk'
     have hsk := hsuc k hk'
     have hD1 := hsD k hk
     have hme := hmki _ hal
     have hcc := hcl _ hal
     have hre := hrE _ hal
     have hoo := hod _ hal
     have hoD := hwD _ hal
     generalize hS2 : SW (k + 1) = S2 at *
     generalize hSk : SW k = S1 at *
     have hB2 : ∀ v, (A.set i (some S1)).set i (some v) = A.set i (some v) := fun v => List.set_set ..
     have hBi : (A.set i (some S1)).getD i none = some S1 := by rw [Go.Ax.Dt.getD_set, if_pos (show i = i ∧ i < A.length from ⟨rfl, hiA⟩)]
     have hBl : i < (zsC (A.set i (some S1))).len := by show i < (A.set i (some S1)).length; rw [List.length_set]; exact hiA
     generalize hB : A.set i (some S1) = B at *
     refine rn6 ?_
     refine zN 65 (.agg (zDK (l.getD k cp0))) rfl (AEq.of_eq rfl) ?_
     generalize l.getD k cp0 = a at *
     obtain ⟨cs, od⟩ := a
     simp only at *
     refine zQ (c' := .box [.ro (.ints .i64 cs) 0 cs.length, .str od]) rfl rfl rfl rfl rfl Nat.zero_lt_one rfl rfl (fun i' j' hi' hj' => ?_) ?_
     · rw [if_pos (Nat.lt_one_iff.1 hi')]; rfl
     refine zAb [some ⟨122, zsC B⟩, some ⟨75, .box [.ro (.ints .i64 cs) 0 cs.length, .str od]⟩] rfl ?_
     cases hb : mk i ⟨cs, od⟩ with
     | false =>
       rw [hb] at hme hsk
       rw [if_neg (by decide)] at hsk
       refine rn5 ?_
       refine zE rfl rfl rfl hme ?_
       repeat (refine zB ?_)
       refine zA ?_
       repeat (first | refine zx rfl ?_ | refine za ?_ | refine zi ?_)
       refine zA ?_
       refine zAa [some ⟨122, zsC B⟩] [some ⟨75, .box [.ro (.ints .i64 cs) 0 cs.length, .str od]⟩] [(2, .ro (mxC l) 0 l.length), (9, .ro (.ints .i64 I) 0 I.length), (10, .ro (.ints .i64 Z) 0 Z.length), (11, .ro (zBV sq) 0 sq.length), (12, .sl 0 0 sq.length), (52, .int .i64 (sq.length : Nat)), (53, .int .i64 (i : Nat)), (13, .int .i64 (i : Nat)), (60, .ro (mxC l) 0 l.length), (61, .int .i64 (l.length : Nat)), (62, .int .i64 (k : Nat))] rfl ⟨rfl, rfl, rfl, rfl, rfl, rfl, rfl, rfl, rfl, rfl, rfl, trivial⟩ (fun h hh => by rw [hfix] at hh; exact absurd hh id) (zBg (zD0 _ _)) rfl ?_
       refine rn3 ?_
       exact zM ⟨k + 1, by omega, by omega, ⟨rfl, rfl, rfl, rfl, rfl, rfl, rfl, rfl, rfl, rfl, rfl, trivial⟩, by rw [hS2, hsk, hB]⟩
     | true =>
       rw [hb] at hme hsk
       rw [if_pos rfl] at hsk
       have cpar := zFd od hoo hre
       have cadd : zW Tryz.prog 91 [.agg [(zBU (B.getD i none)).getD 0 .any, (zBU (B.getD i none)).getD 1 .any, (zBU (B.getD i none)).getD 2 .any], qA (zAB od)] (qA S2) := by
         rw [hBi, hsk]
         exact zHr S1 (zAB od) (zEg (hD1.mono (show 1 + k * 2001 ≤ 9 * 100000 by omega))) (zEg (hoD.mono (by decide)))
       refine rn5 ?_
       refine zE rfl rfl rfl hme ?_
       refine rn5 ?_
       refine zn (by kernel_rfl) ?_
       refine zr (fuel := 1) [0, 1, 2, 3, 4, 5, 6, 7, 8, 9, 10] [(2, .ro (mxC l) 0 l.length), (9, .ro (.ints .i64 I) 0 I.length), (10, .ro (.ints .i64 Z) 0 Z.length), (11, .ro (zBV sq) 0 sq.length), (12, .sl 0 0 sq.length), (52, .int .i64 (sq.length : Nat)), (53, .int .i64 (i : Nat)), (13, .int .i64 (i : Nat)), (60, .ro (mxC l) 0 l.length), (61, .int .i64 (l.length : Nat)), (62, .int .i64 (k : Nat)), (15, .ptr 1 0 0)] ⟨rfl, rfl, rfl, rfl, rfl, rfl, rfl, rfl, rfl, rfl, rfl, rfl, trivial⟩ (by kernel_rfl) (by decide) rfl rfl ?_
       refine zX rfl rfl (zI rfl) ?_
       refine zX rfl rfl (zI rfl) ?_
       refine zX rfl rfl (zI rfl) ?_
       refine zX rfl rfl (zI rfl) ?_
       refine zX rfl rfl (ze rfl rfl rfl rfl rfl (by first | (simp only [Nat.zero_add, Int.toNat_natCast, Int.toNat_zero]; exact rfl) | exact rfl) (by omega)) ?_
       refine zX rfl rfl (zAC rfl rfl rfl rfl rfl rfl rfl (by first | exact Nat.zero_lt_one | assumption | omega)) ?_
       refine zX rfl rfl (zP rfl rfl rfl rfl rfl rfl) ?_
       refine zX rfl rfl (zU rfl rfl rfl rfl rfl) ?_
       refine zBc rfl rfl rfl rfl rfl cpar ?_
       refine zBc rfl rfl rfl rfl rfl cadd ?_
       refine zX rfl rfl (ze rfl rfl rfl rfl rfl (by first | (simp only [Nat.zero_add, Int.toNat_natCast, Int.toNat_zero]; exact rfl) | exact rfl) (by omega)) ?_
       refine zAc ?_
       refine zG (is := [11]) (by kernel_rfl) (by simp) rfl ⟨fun o ho => ?_, trivial⟩
       all_goals (cases ho)
       skip
       unfold qA
       refine zQ (c' := zsC (B.set i (some S2))) rfl rfl rfl rfl rfl hBl (by show (List.set _ _ _).length = B.length; simp) rfl (fun i' j' hi' hj' => zDN none 3 zBU B i (some S2) hBl i' j' hi' hj') ?_
       refine rn1 ?_
       refine zh (by kernel_rfl) ?_
       repeat (refine za ?_)
       refine zA ?_
       refine zAa [some ⟨122, zsC (B.set i (some S2))⟩] [some ⟨75, .box [.ro (.ints .i64 cs) 0 cs.length, .str od]⟩] [(2, .ro (mxC l) 0 l.length), (9, .ro (.ints .i64 I) 0 I.length), (10, .ro (.ints .i64 Z) 0 Z.length), (11, .ro (zBV sq) 0 sq.length), (12, .sl 0 0 sq.length), (52, .int .i64 (sq.length : Nat)), (53, .int .i64 (i : Nat)), (13, .int .i64 (i : Nat)), (60, .ro (mxC l) 0 l.length), (61, .int .i64 (l.length : Nat)), (62, .int .i64 (k : Nat))] rfl ⟨rfl, rfl, rfl, rfl, rfl, rfl, rfl, rfl, rfl, rfl, rfl, trivial⟩ (fun h hh => by rw [hfix] at hh; exact absurd hh id) (zBg (zD0 _ _)) rfl ?_
       refine rn3 ?_
       exact zM ⟨k + 1, by omega, by omega, ⟨rfl, rfl, rfl, rfl, rfl, rfl, rfl, rfl, rfl, rfl, rfl, trivial⟩, by rw [hS2, hB2]⟩
   · have hke : k = l.length := by omega
     subst hke
     rw [← hWi, hps]
     refine rn5 ?_
     exact zM ⟨i + 1, by omega, by omega, ⟨rfl, rfl, rfl, rfl, rfl, rfl, rfl, trivial⟩, by rw [hA2]⟩
 · have hie : i = sq.length := by omega
   subst hie
   rw [zKx]
   have hPl : ((List.range sq.length).map W).length = sq.length := by rw [List.length_map, List.length_range]
   have hPW : ∀ k, k < sq.length → ((List.range sq.length).map W).getD k 0 = W k := fun k hk => by
     rw [zBY _ _ 0 0 k (by rw [List.length_range]; exact hk), zu 0 (by rw [List.length_range]; exact hk), List.getElem_range]
   generalize (List.range sq.length).map W = P at *
   repeat (first | refine zA ?_ | refine zZ ?_ | refine zAq ?_ | refine zq ?_ | refine zp ?_ | refine zAH ?_)
   refine zB5 [some ⟨122, qsC P⟩] (zAG.eqv (zOR _) zAG.nil) ?_
   refine zAY 0 12 sq.length [(9, .ro (.ints .i64 I) 0 I.length), (10, .ro (.ints .i64 Z) 0 Z.length), (11, .ro (zBV sq) 0 sq.length)] rfl (zFo _) rfl (by show sq.length ≤ P.length; omega) ⟨rfl, rfl, rfl, trivial⟩ ?_
   refine zEN (H1 := []) rfl (by rw [hfix]; exact fun h => h) ?_
   repeat (first | refine zC (zI rfl) ?_ | refine zC (zK rfl) ?_ | refine zB ?_ | refine zA ?_ | refine zZ ?_ | refine zL rfl ?_ | refine zC (zBE rfl rfl rfl) ?_)
   refine zA1 16 ⟨67, z6 []⟩ rfl rfl ?_
   repeat (refine zw ?_)
   refine zg (ι := Nat) (fun k => [(9, .ro (.ints .i64 I) 0 I.length), (10, .ro (.ints .i64 Z) 0 Z.length), (11, .ro (zBV sq) 0 sq.length), (12, .ro (qsC P) 0 sq.length), (16, .sl 0 0 k), (85, .ro (.ints .i64 I) 0 I.length), (86, .int .i64 (I.length : Nat)), (87, .int .i64 (k : Nat))]) (fun k => [some ⟨67, z6 ((I.take k).map (fun x => ⟨x, (bu x).map zt⟩))⟩])
     (fun k => k ≤ I.length ∧ (I.take k).all (fun x => (bu x).all zA3) = true) (fun k => I.length - k) 0 ⟨⟨rfl, rfl, rfl, rfl, rfl, rfl, rfl, rfl, trivial⟩, rfl, Nat.zero_le _, rfl⟩ ?_
   rintro k ⟨hk, hfit⟩
   refine rn4 ?_
   refine zD rfl (fun h => ?_) (fun h => ?_)
   · have hk' : k < I.length := by omega
     have hkz : k < Z.length := by omega
     have hxI : I.getD k 0 ∈ I := zAR 0 hk'
     have hszk := hsz k hk'
     obtain ⟨hw1, hw6⟩ := hwd _ hxI
     have hbx := hbeh _ hxI
     obtain ⟨hbl, hbd⟩ := hbD _ hxI
     have htk : (I.take (k + 1)).map (fun x => (⟨x, (bu x).map zt⟩ : TChoice)) = (I.take k).map (fun x => ⟨x, (bu x).map zt⟩) ++ [⟨I.getD k 0, (bu (I.getD k 0)).map zt⟩] := by
       rw [List.take_succ_eq_append_getElem hk', List.map_append, ← zu 0 hk']; rfl
     have hfk : (I.take (k + 1)).all (fun x => (bu x).all zA3) = (bu (I.getD k 0)).all zA3 := by
       rw [List.take_succ_eq_append_getElem hk', List.all_append, hfit, ← zu 0 hk', Bool.true_and]
       show ((bu (I.getD k 0)).all zA3 && true) = _
       rw [Bool.and_true]
     have hml : ((I.take k).map (fun x => (⟨x, (bu x).map zt⟩ : TChoice))).length = k := by rw [List.length_map, List.length_take]; omega
     have hbad : (bu (I.getD k 0)).all zA3 = false → I.all (fun x => (bu x).all zA3) = false := fun hf => by
       cases hq : I.all (fun x => (bu x).all zA3)
       · rfl
       · rw [List.all_eq_true] at hq
         have := hq _ hxI
         rw [hf] at this; cases this
     generalize hO2 : (I.take (k + 1)).map (fun x => (⟨x, (bu x).map zt⟩ : TChoice)) = O2 at *
     generalize (I.take k).map (fun x => (⟨x, (bu x).map zt⟩ : TChoice)) = O at *
     refine rn6 ?_
     generalize I.getD k 0 = x at *
     generalize hwx : wd x = w at *
     generalize bu x = bx at *
     refine zN 95 (.int .i64 (w : Nat)) rfl (AEq.of_eq (by rw [hszk])) ?_
     refine zCC rfl rfl rfl rfl rfl rfl rfl rfl (by show (0 : Int) ≤ _ ∧ _ ≤ _ ∧ (56 : Int) * _ ≤ _ ∧ _; omega) ?_
     refine zAz [some ⟨67, z6 O⟩, some ⟨122, zsC (List.replicate w none)⟩] (zAG.eqv (CEq.refl _) (zAG.eqv (zLv _) zAG.nil)) ?_
     rw [← zJY (fun _ => 0) w]
     refine rn3 ?_
     refine zg (ι := Nat) (fun c => [(9, .ro (.ints .i64 I) 0 I.length), (10, .ro (.ints .i64 Z) 0 Z.length), (11, .ro (zBV sq) 0 sq.length), (12, .ro (qsC P) 0 sq.length), (16, .sl 0 0 k), (85, .ro (.ints .i64 I) 0 I.length), (86, .int .i64 (I.length : Nat)), (87, .int .i64 (k : Nat)), (18, .int .i64 x), (19, .sl 1 0 w), (98, .int .i64 (w : Nat)), (99, .int .i64 (c : Nat))]) (fun c => [some ⟨67, z6 O⟩, some ⟨122, zsC (zDt (fun _ => 0) w c)⟩])
       (fun c => c ≤ w) (fun c => w - c) 0 ⟨⟨rfl, rfl, rfl, rfl, rfl, rfl, rfl, rfl, rfl, rfl, rfl, rfl, trivial⟩, rfl, Nat.zero_le _⟩ ?_
     intro c hc
     refine rn4 ?_
     refine zD rfl (fun h5 => ?_) (fun h5 => ?_)
     · have hc' : c < w := by omega
       have hps := zLF (fun _ => 0) hc'
       have hpl := zCg (fun _ => 0) w c
       generalize hA2 : zDt (fun _ => 0) w (c + 1) = A2 at *
       generalize zDt (fun _ => 0) w c = A at *
       have hcA : c < (zsC A).len := by show c < A.length; omega
       refine rn1 ?_
       refine zE rfl rfl rfl zFp ?_
       unfold qA
       repeat (refine zC (ze rfl rfl rfl rfl rfl (by first | (simp only [Nat.zero_add, Int.toNat_natCast, Int.toNat_zero]; exact rfl) | exact rfl) (by omega)) ?_)
       refine zQ (c' := zsC (A.set c (some 0))) rfl rfl rfl rfl rfl hcA (by show (List.set _ _ _).length = A.length; simp) rfl (fun i' j' hi' hj' => zDN none 3 zBU A c (some 0) hcA i' j' hi' hj') ?_
       refine rn5 ?_
       exact zM ⟨c + 1, by omega, by omega, ⟨rfl, rfl, rfl, rfl, rfl, rfl, rfl, rfl, rfl, rfl, rfl, rfl, trivial⟩, by rw [hA2, ← hps]; rfl⟩
     · have hce : c = w := by omega
       subst hce
       have hun := zNx (w := c)
       have hpl := zCg (fun _ => 0) c c
       generalize zDt (fun _ => 0) c c = A at *
       have hcA : 0 < (zsC A).len := by show 0 < A.length; omega
       refine rn5 ?_
       refine zE rfl rfl rfl zJV ?_
       unfold qA
       repeat (refine zC (ze rfl rfl rfl rfl rfl (by first | (simp only [Nat.zero_add, Int.toNat_natCast, Int.toNat_zero]; exact rfl) | exact rfl) (by omega)) ?_)
       refine zQ (c' := zsC (A.set 0 (some 1))) rfl rfl rfl rfl rfl hcA (by show (List.set _ _ _).length = A.length; simp) rfl (fun i' j' hi' hj' => zDN none 3 zBU A 0 (some 1) hcA i' j' hi' hj') ?_
       rw [hun]
       refine rn3 ?_
       refine zBs [some ⟨67, z6 O⟩, some ⟨122, zsC ((zGx sq W x (zAx c 0) 0).map some)⟩] rfl ?_
       refine zg (ι := Nat) (fun j => [(9, .ro (.ints .i64 I) 0 I.length), (10, .ro (.ints .i64 Z) 0 Z.length), (11, .ro (zBV sq) 0 sq.length), (12, .ro (qsC P) 0 sq.length), (16, .sl 0 0 k), (85, .ro (.ints .i64 I) 0 I.length), (86, .int .i64 (I.length : Nat)), (87, .int .i64 (k : Nat)), (18, .int .i64 x), (19, .sl 1 0 c), (110, .ro (zBV sq) 0 sq.length), (111, .int .i64 (sq.length : Nat)), (112, .int .i64 (j : Nat))]) (fun j => [some ⟨67, z6 O⟩, some ⟨122, zsC ((zGx sq W x (zAx c 0) j).map some)⟩])
         (fun j => j ≤ sq.length) (fun j => sq.length - j) 0 ⟨⟨rfl, rfl, rfl, rfl, rfl, rfl, rfl, rfl, rfl, rfl, rfl, rfl, rfl, trivial⟩, rfl, Nat.zero_le _⟩ ?_
       intro j hj
       refine rn4 ?_
       refine zD rfl (fun h6 => ?_) (fun h6 => ?_)
       · have hj' : j < sq.length := by omega
         have hno := stepB_no (sq := sq) (W := W) (x := x) (k := j) (o := zGx sq W x (zAx c 0) j)
         have hyes := fun b ch => zQw (sq := sq) (W := W) (x := x) (k := j) (b := b) (c := ch) (o := zGx sq W x (zAx c 0) j)
         have hst : zGx sq W x (zAx c 0) (j + 1) = zKR sq W x j (zGx sq W x (zAx c 0) j) := rfl
         have hbl8 := zF8 sq W x (zAx c 0) j
         rw [(zBo (c := 0) (by omega)).1] at hbl8
         have hchj := hch j hj'
         have hbfj := hbf j hj'
         rw [← hst] at hno hyes
         clear hst
         generalize hB2 : zGx sq W x (zAx c 0) (j + 1) = B2 at *
         generalize zGx sq W x (zAx c 0) j = B at *
         refine rn6 ?_
         refine zN 116 (.agg (zGJ (sq.getD j seq0))) rfl (AEq.of_eq rfl) ?_
         generalize sq.getD j seq0 = y at *
         obtain ⟨nf, ch, bf⟩ := y
         simp only at *
         refine zQ (c' := .box [.int .i64 nf, .int .i64 ch, .int .i64 bf]) rfl rfl rfl rfl rfl Nat.zero_lt_one rfl rfl (fun i' j' hi' hj' => ?_) ?_
         · rw [if_pos (Nat.lt_one_iff.1 hi')]; rfl
         refine zAb [some ⟨67, z6 O⟩, some ⟨122, zsC (B.map some)⟩, some ⟨174, .box [.int .i64 nf, .int .i64 ch, .int .i64 bf]⟩] rfl ?_
         repeat (first | refine zC (zI rfl) ?_ | refine zB ?_ | refine zA ?_ | refine zZ ?_ | refine zL rfl ?_ | refine zC (zU rfl rfl rfl rfl rfl) ?_ | refine zC (zCX rfl rfl) ?_ | refine zC (zP rfl rfl rfl rfl rfl rfl) ?_)
         by_cases g1 : 0 ≤ bf
         case neg =>
           rw [decide_eq_false g1]
           have hno := hno (fun q => g1 q.1)
           repeat (first | refine zC (zI rfl) ?_ | refine zB ?_ | refine zAm rfl rfl rfl ?_ | refine zC (zAe rfl rfl) ?_)
           refine zA ?_
           repeat (first | refine zx rfl ?_ | refine za ?_ | refine zi ?_)
           refine zA ?_
           refine zAa [some ⟨67, z6 O⟩, some ⟨122, zsC (B.map some)⟩] [some ⟨174, .box [.int .i64 nf, .int .i64 ch, .int .i64 bf]⟩] [(9, .ro (.ints .i64 I) 0 I.length), (10, .ro (.ints .i64 Z) 0 Z.length), (11, .ro (zBV sq) 0 sq.length), (12, .ro (qsC P) 0 sq.length), (16, .sl 0 0 k), (85, .ro (.ints .i64 I) 0 I.length), (86, .int .i64 (I.length : Nat)), (87, .int .i64 (k : Nat)), (18, .int .i64 x), (19, .sl 1 0 c), (110, .ro (zBV sq) 0 sq.length), (111, .int .i64 (sq.length : Nat)), (112, .int .i64 (j : Nat))] rfl ⟨rfl, rfl, rfl, rfl, rfl, rfl, rfl, rfl, rfl, rfl, rfl, rfl, rfl, trivial⟩ (fun h hh => by rw [hfix] at hh; exact absurd hh id) (zJy (zE0 _ _) (zD0 _ _)) rfl ?_
           refine rn3 ?_
           exact zM ⟨j + 1, by omega, by omega, ⟨rfl, rfl, rfl, rfl, rfl, rfl, rfl, rfl, rfl, rfl, rfl, rfl, rfl, trivial⟩, by rw [hB2, hno]⟩
         rw [decide_eq_true g1]
         refine rn5 ?_
         by_cases g2 : nf = x
         case neg =>
           rw [decide_eq_false g2]
           have hno := hno (fun q => g2 q.2.1)
           repeat (first | refine zB ?_ | refine zAm rfl rfl rfl ?_ | refine zC (zAe rfl rfl) ?_)
           refine zA ?_
           repeat (first | refine zx rfl ?_ | refine za ?_ | refine zi ?_)
           refine zA ?_
           refine zAa [some ⟨67, z6 O⟩, some ⟨122, zsC (B.map some)⟩] [some ⟨174, .box [.int .i64 nf, .int .i64 ch, .int .i64 bf]⟩] [(9, .ro (.ints .i64 I) 0 I.length), (10, .ro (.ints .i64 Z) 0 Z.length), (11, .ro (zBV sq) 0 sq.length), (12, .ro (qsC P) 0 sq.length), (16, .sl 0 0 k), (85, .ro (.ints .i64 I) 0 I.length), (86, .int .i64 (I.length : Nat)), (87, .int .i64 (k : Nat)), (18, .int .i64 x), (19, .sl 1 0 c), (110, .ro (zBV sq) 0 sq.length), (111, .int .i64 (sq.length : Nat)), (112, .int .i64 (j : Nat))] rfl ⟨rfl, rfl, rfl, rfl, rfl, rfl, rfl, rfl, rfl, rfl, rfl, rfl, rfl, trivial⟩ (fun h hh => by rw [hfix] at hh; exact absurd hh id) (zJy (zE0 _ _) (zD0 _ _)) rfl ?_
           refine rn3 ?_
           exact zM ⟨j + 1, by omega, by omega, ⟨rfl, rfl, rfl, rfl, rfl, rfl, rfl, rfl, rfl, rfl, rfl, rfl, rfl, trivial⟩, by rw [hB2, hno]⟩
         subst g2
         rw [decide_eq_true rfl]
         obtain ⟨b, rfl⟩ := Int.eq_ofNat_of_zero_le g1
         have hbj : b < sq.length := by have := hbfj g1; omega
         obtain ⟨hc0, hc1⟩ := hchj g1
         obtain ⟨cc, rfl⟩ := Int.eq_ofNat_of_zero_le hc0
         rw [Int.toNat_natCast, hwx] at hc1
         have hPj := hPW j hj'
         have hPb := hPW b hbj
         have cS := zM5 (P.getD b 0)
         have gjP : j < P.length := by omega
         have gbP : b < P.length := by omega
         refine rn6 ?_
         refine zE rfl rfl rfl cS ?_
         refine rn6 ?_
         rw [sgn_gt, hPb]
         by_cases g3 : 0 < W b
         case neg =>
           rw [decide_eq_false g3]
           have hno := hno (fun q => g3 q.2.2)
           repeat (first | refine zx rfl ?_ | refine za ?_ | refine zi ?_)
           refine zA ?_
           refine zAa [some ⟨67, z6 O⟩, some ⟨122, zsC (B.map some)⟩] [some ⟨174, .box [.int .i64 nf, .int .i64 (cc : Nat), .int .i64 (b : Nat)]⟩] [(9, .ro (.ints .i64 I) 0 I.length), (10, .ro (.ints .i64 Z) 0 Z.length), (11, .ro (zBV sq) 0 sq.length), (12, .ro (qsC P) 0 sq.length), (16, .sl 0 0 k), (85, .ro (.ints .i64 I) 0 I.length), (86, .int .i64 (I.length : Nat)), (87, .int .i64 (k : Nat)), (18, .int .i64 nf), (19, .sl 1 0 c), (110, .ro (zBV sq) 0 sq.length), (111, .int .i64 (sq.length : Nat)), (112, .int .i64 (j : Nat))] rfl ⟨rfl, rfl, rfl, rfl, rfl, rfl, rfl, rfl, rfl, rfl, rfl, rfl, rfl, trivial⟩ (fun h hh => by rw [hfix] at hh; exact absurd hh id) (zJy (zE0 _ _) (zD0 _ _)) rfl ?_
           refine rn3 ?_
           exact zM ⟨j + 1, by omega, by omega, ⟨rfl, rfl, rfl, rfl, rfl, rfl, rfl, rfl, rfl, rfl, rfl, rfl, rfl, trivial⟩, by rw [hB2, hno]⟩
         rw [decide_eq_true g3]
         have hyes := hyes b cc rfl g3
         have cdiv : zW Tryz.prog 108 [qA (P.getD j 0), qA (P.getD b 0)] (qA (W j / W b)) := by
           rw [hPj, hPb]
           exact qdiv_ok (W j) (W b) (zEg ((hWD j).mono (by decide))) (zEg ((hWD b).mono (by decide))) (fun e => by rw [e] at g3; exact absurd g3 (by decide +kernel))
         have hcB : cc < (zsC (B.map some)).len := by show cc < (B.map some).length; rw [List.length_map]; omega
         generalize W j / W b = v at *
         repeat (refine zAV rfl ?_)
         refine zn (by kernel_rfl) ?_
         refine zr (fuel := 1) [0, 1, 2, 3, 4, 5, 6, 7, 8, 9, 10, 11, 12, 13] [(9, .ro (.ints .i64 I) 0 I.length), (10, .ro (.ints .i64 Z) 0 Z.length), (11, .ro (zBV sq) 0 sq.length), (12, .ro (qsC P) 0 sq.length), (16, .sl 0 0 k), (85, .ro (.ints .i64 I) 0 I.length), (86, .int .i64 (I.length : Nat)), (87, .int .i64 (k : Nat)), (18, .int .i64 nf), (19, .sl 1 0 c), (110, .ro (zBV sq) 0 sq.length), (111, .int .i64 (sq.length : Nat)), (112, .int .i64 (j : Nat)), (21, .int .i64 (j : Nat)), (22, .ptr 2 0 0)] ⟨rfl, rfl, rfl, rfl, rfl, rfl, rfl, rfl, rfl, rfl, rfl, rfl, rfl, rfl, rfl, trivial⟩ (by kernel_rfl) (by decide) rfl rfl ?_
         refine zX rfl rfl (zI rfl) ?_
         refine zX rfl rfl (zP rfl rfl rfl rfl rfl rfl) ?_
         refine zX rfl rfl (zU rfl rfl rfl rfl rfl) ?_
         refine zX rfl rfl (zI rfl) ?_
         refine zX rfl rfl (zI rfl) ?_
         refine zX rfl rfl (zf rfl rfl rfl rfl (by first | (simp only [Nat.zero_add, Int.toNat_natCast, Int.toNat_zero]; exact rfl) | exact rfl) (by omega)) ?_
         refine zX rfl rfl (zBj rfl rfl rfl rfl rfl rfl) ?_
         refine zX rfl rfl (zI rfl) ?_
         refine zX rfl rfl (zP rfl rfl rfl rfl rfl rfl) ?_
         refine zX rfl rfl (zU rfl rfl rfl rfl rfl) ?_
         refine zX rfl rfl (zf rfl rfl rfl rfl (by first | (simp only [Nat.zero_add, Int.toNat_natCast, Int.toNat_zero]; exact rfl) | exact rfl) (by omega)) ?_
         refine zX rfl rfl (zBj rfl rfl rfl rfl rfl rfl) ?_
         refine zBc rfl rfl rfl rfl rfl cdiv ?_
         refine zX rfl rfl (ze rfl rfl rfl rfl rfl (by first | (simp only [Nat.zero_add, Int.toNat_natCast, Int.toNat_zero]; exact rfl) | exact rfl) (by omega)) ?_
         refine zAc ?_
         refine zG (is := [14]) (by kernel_rfl) (by simp) rfl ⟨fun o ho => ?_, trivial⟩
         all_goals (cases ho)
         skip
         unfold qA
         refine zQ (c' := zsC ((B.map some).set cc (some v))) rfl rfl rfl rfl rfl hcB (by show (List.set _ _ _).length = (B.map some).length; simp) rfl (fun i' j' hi' hj' => zDN none 3 zBU (B.map some) cc (some v) hcB i' j' hi' hj') ?_
         refine rn1 ?_
         refine zh (by kernel_rfl) ?_
         repeat (refine za ?_)
         refine zA ?_
         refine zAa [some ⟨67, z6 O⟩, some ⟨122, zsC ((B.map some).set cc (some v))⟩] [some ⟨174, .box [.int .i64 nf, .int .i64 (cc : Nat), .int .i64 (b : Nat)]⟩] [(9, .ro (.ints .i64 I) 0 I.length), (10, .ro (.ints .i64 Z) 0 Z.length), (11, .ro (zBV sq) 0 sq.length), (12, .ro (qsC P) 0 sq.length), (16, .sl 0 0 k), (85, .ro (.ints .i64 I) 0 I.length), (86, .int .i64 (I.length : Nat)), (87, .int .i64 (k : Nat)), (18, .int .i64 nf), (19, .sl 1 0 c), (110, .ro (zBV sq) 0 sq.length), (111, .int .i64 (sq.length : Nat)), (112, .int .i64 (j : Nat))] rfl ⟨rfl, rfl, rfl, rfl, rfl, rfl, rfl, rfl, rfl, rfl, rfl, rfl, rfl, trivial⟩ (fun h hh => by rw [hfix] at hh; exact absurd hh id) (zJy (zE0 _ _) (zD0 _ _)) rfl ?_
         refine rn3 ?_
         exact zM ⟨j + 1, by omega, by omega, ⟨rfl, rfl, rfl, rfl, rfl, rfl, rfl, rfl, rfl, rfl, rfl, rfl, rfl, trivial⟩, by rw [hB2, hyes, List.map_set]⟩
       · have hje : j = sq.length := by omega
         subst hje
         rw [hbx]
         have hbSz : ∀ q ∈ bx, Sz 100000 q := fun q hq => zEg ((hbd q hq).mono (show 256129 + 256129 ≤ 9 * 100000 by decide))
         have hbxl : bx.length = c := by omega
         obtain ⟨r, co, hr⟩ := zRG bx (by omega) hbSz
         unfold zBG at co hr
         repeat (first | refine zA ?_ | refine zZ ?_ | refine zAq ?_ | refine zq ?_ | refine zp ?_ | refine zAH ?_)
         refine zB5 [some ⟨67, z6 O⟩, some ⟨122, qsC bx⟩] (zAG.eqv (CEq.refl _) (zAG.eqv (zOR _) zAG.nil)) ?_
         refine zAY 1 19 c [(9, .ro (.ints .i64 I) 0 I.length), (10, .ro (.ints .i64 Z) 0 Z.length), (11, .ro (zBV sq) 0 sq.length), (12, .ro (qsC P) 0 sq.length), (16, .sl 0 0 k), (85, .ro (.ints .i64 I) 0 I.length), (86, .int .i64 (I.length : Nat)), (87, .int .i64 (k : Nat)), (18, .int .i64 x)] rfl (zFo _) rfl (by show c ≤ bx.length; omega) ⟨rfl, rfl, rfl, rfl, rfl, rfl, rfl, rfl, rfl, trivial⟩ ?_
         refine zAO 19 (.ro (qsC bx) 0 bx.length) rfl (AEq.of_eq (by rw [hbxl])) ?_
         cases hf : bx.all zA3 with
         | false =>
           rw [hf, if_neg (by decide)] at co
           rw [if_neg (by rw [hbad hf]; decide)] at hR
           refine rn0 ?_
           refine zE rfl rfl rfl co ?_
           repeat (first | refine zC (zI rfl) ?_ | refine zC (zK rfl) ?_ | refine zB ?_ | refine zA ?_ | refine zZ ?_ | refine zL rfl ?_ | refine zAV rfl ?_ | refine zC (zDw rfl rfl) ?_ | refine zC (zBQ rfl rfl) ?_)
           refine zAO 6 (.ro (z6 []) 0 0) rfl AEq.nil ?_
           refine rn6 ?_
           exact zH hR rfl rfl
         | true =>
           rw [hf, if_pos rfl] at co hr
           have hr : AEq r (.ro (.strs (bx.map zt)) 0 (bx.map zt).length) := hr
           rw [hf] at hfk
           generalize bx.map zt = T at *
           refine rn0 ?_
           refine zE rfl rfl rfl co ?_
           repeat (first | refine zC (zI rfl) ?_ | refine zC (zK rfl) ?_ | refine zB ?_ | refine zA ?_ | refine zZ ?_ | refine zC (zBQ rfl rfl) ?_)
           refine zAO 23 (.ro (.strs T) 0 T.length) rfl hr ?_
           repeat (first | refine zC (zI rfl) ?_ | refine zB ?_ | refine zA ?_ | refine zL rfl ?_ | refine zx rfl ?_ | refine zi ?_ | refine zC (zDw rfl rfl) ?_ | refine zC (zAU rfl rfl rfl rfl rfl rfl) ?_ | refine zl rfl rfl rfl rfl rfl rfl rfl rfl rfl rfl rfl ?_)
           refine zm rfl rfl rfl rfl rfl rfl rfl rfl rfl hml rfl rfl (by show 0 + 1 ≤ 1; omega) rfl (by show (k + 1) * 32 ≤ _ ∧ _; omega) ?_ (by rw [hfix]; exact fun h => h) ?_
           · intro i' j hi hj
             exact zDW ch0 2 cellsC zDF O ⟨x, T⟩ _ (rowC2 ⟨x, T⟩) 0 i' j hi hj
           repeat (first | refine zC (zK rfl) ?_ | refine zB ?_ | refine za ?_)
           refine zA ?_
           refine zB5 ([some ⟨67, z6 O2⟩] ++ [none]) ?_ ?_
           · rw [htk]
             exact zAG.eqv (zC5 ch0 2 cellsC O ⟨x, T⟩ _ (rowC2 ⟨x, T⟩)) (zAG.drop zAG.nil)
           refine zEN (H1 := [some ⟨67, z6 O2⟩]) rfl (by rw [hfix]; exact fun h => h) ?_
           refine zB5 [some ⟨67, z6 O2⟩] ?_ ?_
           · exact zAG.eqv ⟨rfl, rfl, fun i j _ hj => (zDF _ j _ hj).symm⟩ zAG.nil
           refine rn3 ?_
           exact zM ⟨k + 1, ⟨by omega, hfk⟩, by omega, ⟨rfl, rfl, rfl, rfl, rfl, rfl, rfl, rfl, trivial⟩, by rw [hO2]⟩
   · have hke : k = I.length := by omega
     subst hke
     rw [List.take_length] at hfit
     rw [List.take_length]
     rw [if_pos hfit] at hR
     have hRl : (I.map (fun x => (⟨x, (bu x).map zt⟩ : TChoice))).length = I.length := List.length_map _
     generalize I.map (fun x => (⟨x, (bu x).map zt⟩ : TChoice)) = R at *
     repeat (first | refine zA ?_ | refine zZ ?_ | refine zAq ?_ | refine zq ?_ | refine zp ?_ | refine zAH ?_)
     refine zAY 0 16 I.length [] rfl (zDG _) rfl (by show _ ≤ R.length; omega) trivial ?_
     refine zAO 16 (.ro (z6 R) 0 R.length) rfl (AEq.of_eq (by rw [hRl])) ?_
     refine rn0 ?_
     exact zH hR rfl rfl
end Go.Proofs.YtnkealfaldjipaaGreatDoor
namespace Go.Proofs.YtnkealfaldjipaaGreatDoor
open Go.Ax Go.Ax.Bg Go.Ax.Rt Go.RowKit Go.Ax.Idx Go.Ax.Cd
attribute [local irreducible] Ax zAM QOp zO zo
set_option maxRecDepth 100000
set_option maxHeartbeats 4000000
def zHz (I : List Int) (wd : Int → Nat) (cs : List Int) (m : Nat) : zAT := (List.range m).map (fun k => ⟨I.getD k 0, zEv (wd (I.getD k 0)) (cs.getD k 0).toNat⟩)
theorem zOC (I : List Int) (wd : Int → Nat) (cs : List Int) (m : Nat) : zHz I wd cs (m + 1) = zHz I wd cs m ++ [⟨I.getD m 0, zEv (wd (I.getD m 0)) (cs.getD m 0).toNat⟩] := by
 unfold zHz
 rw [List.range_succ, List.map_append]; rfl
theorem zRO (I : List Int) (wd : Int → Nat) (cs : List Int) (m : Nat) : (zHz I wd cs m).length = m := by unfold zHz; rw [List.length_map, List.length_range]
theorem zQF (t : zS) (p : Int) (cs : List Int) : zHz (zJ t p) (zT t p) cs (zJ t p).length = zCM t p cs := by
 unfold zHz zCM
 refine List.ext_getElem (by rw [List.length_map, List.length_range, List.length_map]) (fun k h1 h2 => ?_)
 have hk : k < (zJ t p).length := by rwa [List.length_map, List.length_range] at h1
 rw [List.getElem_map, List.getElem_map, List.getElem_range, zu 0 hk]
 have := zOH t p hk
 rw [zu 0 hk] at this
 rw [this]; rfl
def zH7 (f : CPlan → Rat) (l : zBl) (k : Nat) : Rat := zAF 0 ((l.take k).map f)
theorem zQv {f : CPlan → Rat} {l : zBl} {k : Nat} (hk : k < l.length) : zH7 f l (k + 1) = zH7 f l k + f (l.getD k cp0) := by
 unfold zH7
 rw [List.take_succ_eq_append_getElem hk, List.map_append, ← zu cp0 hk]
 exact zER _ _ _
theorem payK_all (f : CPlan → Rat) (l : zBl) : zH7 f l l.length = zAF 0 (l.map f) := by unfold zH7; rw [List.take_length]
theorem payK_D {f : CPlan → Rat} {l : zBl} {K : Nat} (h : ∀ a ∈ l, D K (f a)) {k : Nat} (hk : k ≤ l.length) : D (1 + k * (K + 1)) (zH7 f l k) := by
 unfold zH7
 have h1 := zML (k := K) (l := (l.take k).map f) (fun x hx => by
   obtain ⟨a, ha, rfl⟩ := List.mem_map.1 hx
   exact h a (List.mem_of_mem_take ha)) (acc := 0) (j := 1) ⟨by decide, by decide⟩
 refine h1.mono ?_
 rw [List.length_map, List.length_take, Nat.min_eq_left hk]
 exact Nat.le_refl _
theorem zKu {t : zS} {p : Int} {l : zBl} (hv : Valid t) (hO : OkM t p l) {a : CPlan} (ha : a ∈ l) : StrS t p (zCM t p a.choices) := by
 obtain ⟨h1, h2, h3⟩ := pure_all hv hO ha
 have hk := zC3 h1
 refine ⟨⟨?_, fun c hc => ⟨?_, fun s hs => ?_⟩⟩, hk, h2⟩
 · have : (zCM t p a.choices).length = (zJ t p).length := by unfold zCM; exact List.length_map _
   have h4 : (zJ t p).length ≤ 10 := by
     unfold zJ
     exact Nat.le_trans (List.length_filter_le _ _) (by simp)
   omega
 · have := (zBC (hk.odds c hc)).1
   omega
 · have := h2 c hc s hs
   omega
/-- the opponent's strategy has short texts -/
theorem pay_D {t : zS} {p : Int} {l : zBl} {o : zAT} (hv : Valid t) (hm : Go.Ax.Rt.Modest t) (hp : p = 0 ∨ p = 1) (hO : OkM t p l) (ho : StrS t (1 - p) o) {a : CPlan} (ha : a ∈ l) : D 974 (zCS t (zBW t (zHj p (zCM t p a.choices) o) (zHb p (zCM t p a.choices) o))) := by
 have hs := zKu hv hO ha
 rcases hp with rfl | rfl
 · exact zPe hv (zJm hv hm hs.str ho.str) hm.len (hm.pays hv)
 · exact zPe hv (zJm hv hm ho.str hs.str) hm.len (hm.pays hv)
theorem pay_of {t : zS} {p : Int} {l : zBl} {o : zAT} (hT : ShortT t) (hv : Valid t) (hm : Go.Ax.Rt.Modest t) (hp : p = 0 ∨ p = 1) (hO : OkM t p l) (ho : StrS t (1 - p) o) {a : CPlan} (ha : a ∈ l) :
   zW Tryz.prog 77 [.ro (zd t) 0 t.length, .ro (z6 (zHj p (zCM t p a.choices) o)) 0 (zHj p (zCM t p a.choices) o).length, .ro (z6 (zHb p (zCM t p a.choices) o)) 0 (zHb p (zCM t p a.choices) o).length] (qA (zCS t (zBW t (zHj p (zCM t p a.choices) o) (zHb p (zCM t p a.choices) o)))) := by
 have hs := zKu hv hO ha
 rcases hp with rfl | rfl
 · exact rof_ok t _ _ hT hv hm hs ho
 · exact rof_ok t _ _ hT hv hm ho hs
theorem zJw (q : Rat) (n : Nat) : zA6 n (.box (zAD q)) := by
 intro i j _ hj
 have hj : j < 3 := hj
 match j, hj with
 | 0, _ => rfl
 | 1, _ => rfl
 | 2, _ => rfl
theorem pay_ok (t : zS) (p : Int) (l : zBl) (o : zAT) (hT : ShortT t) (hm : Go.Ax.Rt.Modest t) (hl : ShortX l) (hs : ShortS o) (hd : ∀ c ∈ o, ∀ r ∈ c.odds, r.length ≤ 12) : zW Tryz.prog 47 [.ro (zd t) 0 t.length, .int .i64 p, .ro (mxC l) 0 l.length, .ro (z6 o) 0 o.length] (pairA (payR t p l o)) := by
 have c1 := zIF t p l hT hl
 have hll := hl.len
 refine zO.value0 (zF (P := Tryz.prog) (fn := Tryz.f47) rfl rfl (by kernel_rfl) rfl (fun c hR hfix => ?_)) (fix := fun _ => False) (fun _ h => h) rfl rfl
 unfold payR at hR
 by_cases h1 : zCj t p l = 0
 case neg =>
   rw [if_pos h1] at hR
   generalize zCj t p l = e at *
   refine rn0 ?_
   refine zE rfl rfl rfl c1 ?_
   refine rn3 ?_
   rw [decide_eq_true (show ¬ e = 0 from h1)]
   refine rn5 ?_
   exact zH hR rfl rfl
 obtain ⟨hpe, hO⟩ := zES h1
 obtain ⟨hv, hp⟩ := zCP hpe
 rw [if_neg (fun q => q h1)] at hR
 rw [h1] at c1
 have c2 := zGC t (1 - p) o hT.len hs
 have hpb : -9223372036854775808 ≤ 1 - p ∧ 1 - p ≤ 9223372036854775807 := by omega
 by_cases h2 : zA8 t (1 - p) o = 0
 case neg =>
   rw [if_pos h2] at hR
   generalize zA8 t (1 - p) o = e at *
   refine rn0 ?_
   refine zE rfl rfl rfl c1 ?_
   repeat (first | refine zC (zI rfl) ?_ | refine zC (zK rfl) ?_ | refine zB ?_ | refine zA ?_ | refine zZ ?_ | refine zL rfl ?_ | refine zx rfl ?_ | refine zi ?_ | refine zC (zDw rfl rfl) ?_ | refine zC (zBk rfl rfl (by omega)) ?_)
   refine zE rfl rfl rfl c2 ?_
   refine rn3 ?_
   rw [decide_eq_true (show ¬ e = 0 from h2)]
   refine rn5 ?_
   exact zH hR rfl rfl
 rw [if_neg (fun q => q h2)] at hR
 rw [h2] at c2
 have ho : StrS t (1 - p) o := ⟨hs, zC3 h2, hd⟩
 have c3 := zJO t p hT.len
 have hof := fun a (ha : a ∈ l) => pay_of hT hv hm hp hO ho ha
 have hvD := fun a (ha : a ∈ l) => pay_D hv hm hp hO ho ha
 obtain ⟨hw1, hw2, hw3⟩ := hO.wgt
 have hpv : ∀ a, zJ8 t p o a = zCS t (zBW t (zHj p (zCM t p a.choices) o) (zHb p (zCM t p a.choices) o)) * zAB a.odds := fun a => rfl
 have hfD : ∀ a ∈ l, D 2974 (zJ8 t p o a) := fun a ha => by
   rw [hpv]
   exact ((hvD a ha).mul (hw1 a ha).2.2)
 have hl128 : l.length ≤ 128 := by
   unfold zCj at h1
   rw [if_neg (fun q => q hpe)] at h1
   by_cases q : 128 < l.length
   · rw [if_pos q] at h1; cases h1
   · omega
 have hIl : (zJ t p).length ≤ 10 := by
   unfold zJ
   exact Nat.le_trans (List.length_filter_le _ _) (by simp)
 have hsz : ∀ k, k < (zJ t p).length → (zAE t p).getD k 0 = ((zT t p ((zJ t p).getD k 0) : Nat) : Int) := fun k hk => by unfold zAE; rw [zBY _ _ 0 _ _ hk]
 have hzl : (zAE t p).length = (zJ t p).length := by unfold zAE; exact List.length_map _
 have hwd : ∀ x ∈ zJ t p, 1 ≤ zT t p x ∧ zT t p x ≤ 6 := fun x hx => by
   obtain ⟨s, b, g⟩ := zD4 hv hx
   exact ⟨g.w1, zHw hv hx⟩
 have hcl := hO.len
 have hrn := hO.ran
 have hrE : ∀ a ∈ l, zCi a.odds = 0 ∧ D 2000 (zAB a.odds) := fun a ha => ⟨(hw1 a ha).1, (hw1 a ha).2.2⟩
 have hod := hl.od
 have hpk := zQF t p
 have hq0 := fun k (hk : k ≤ l.length) => payK_D hfD hk
 have hqs := fun k (hk : k < l.length) => zQv (f := zJ8 t p o) hk
 have hqa : zH7 (zJ8 t p o) l l.length = payQ t p l o := payK_all _ _
 have h00 : zH7 (zJ8 t p o) l 0 = 0 := rfl
 rw [← hqa] at hR
 clear hqa hw1 hw2 hw3 hfD hO ho hl h1 h2 hpe
 refine rn0 ?_
 refine zE rfl rfl rfl c1 ?_
 repeat (first | refine zC (zI rfl) ?_ | refine zC (zK rfl) ?_ | refine zB ?_ | refine zA ?_ | refine zZ ?_ | refine zL rfl ?_ | refine zx rfl ?_ | refine zi ?_ | refine zC (zDw rfl rfl) ?_ | refine zC (zBk rfl rfl (by omega)) ?_)
 refine zE rfl rfl rfl c2 ?_
 refine rn4 ?_
 refine zE rfl rfl rfl c3 ?_
 refine rn2 ?_
 refine zE rfl rfl rfl zFp ?_
 unfold qA
 repeat (refine zBI rfl rfl rfl ?_)
 refine zQ (c' := .box (zAD 0)) rfl rfl rfl rfl rfl Nat.zero_lt_one rfl rfl (fun i' j' hi' hj' => ?_) ?_
 · rw [if_pos (Nat.lt_one_iff.1 hi')]; rfl
 refine rn3 ?_
 rw [← h00]
 refine zg (ι := Nat) (fun k => [(0, .ro (zd t) 0 t.length), (1, .int .i64 p), (3, .ro (z6 o) 0 o.length), (12, .ro (.ints .i64 (zJ t p)) 0 (zJ t p).length), (13, .ro (.ints .i64 (zAE t p)) 0 (zAE t p).length), (14, .ptr 0 0 0), (45, .ro (mxC l) 0 l.length), (46, .int .i64 (l.length : Nat)), (47, .int .i64 (k : Nat))]) (fun k => [some ⟨122, .box (zAD (zH7 (zJ8 t p o) l k))⟩])
   (fun k => k ≤ l.length) (fun k => l.length - k) 0 ⟨⟨rfl, rfl, rfl, rfl, rfl, rfl, rfl, rfl, rfl, trivial⟩, rfl, Nat.zero_le _⟩ ?_
 intro k hk
 refine rn4 ?_
 refine zD rfl (fun h => ?_) (fun h => ?_)
 · have hk' : k < l.length := by omega
   have hal : l.getD k cp0 ∈ l := zAR cp0 hk'
   have hq1 := hqs k hk'
   rw [hpv] at hq1
   have hD1 := hq0 k hk
   have hD2 := hvD _ hal
   have hofk := hof _ hal
   obtain ⟨hre, hoD⟩ := hrE _ hal
   have hoo := hod _ hal
   have hcc := hcl _ hal
   have hrr := hrn _ hal
   have hpk' := hpk (l.getD k cp0).choices
   have hsu := zOC (zJ t p) (zT t p) (l.getD k cp0).choices
   have hsl := zRO (zJ t p) (zT t p) (l.getD k cp0).choices
   generalize hq2 : zH7 (zJ8 t p o) l (k + 1) = q2 at *
   generalize zH7 (zJ8 t p o) l k = q1 at *
   refine rn6 ?_
   refine zN 50 (.agg (zDK (l.getD k cp0))) rfl (AEq.of_eq rfl) ?_
   generalize l.getD k cp0 = a at *
   obtain ⟨cs, od⟩ := a
   simp only at *
   have hK0 : zHz (zJ t p) (zT t p) cs 0 = [] := rfl
   generalize zHz (zJ t p) (zT t p) cs = PK at *
   refine zQ (c' := .box [.ro (.ints .i64 cs) 0 cs.length, .str od]) rfl rfl rfl rfl rfl Nat.zero_lt_one rfl rfl (fun i' j' hi' hj' => ?_) ?_
   · rw [if_pos (Nat.lt_one_iff.1 hi')]; rfl
   refine zAb [some ⟨122, .box (zAD q1)⟩, some ⟨75, .box [.ro (.ints .i64 cs) 0 cs.length, .str od]⟩] rfl ?_
   repeat (first | refine zC (zI rfl) ?_ | refine zC (zK rfl) ?_ | refine zB ?_ | refine zA ?_ | refine zZ ?_ | refine zL rfl ?_ | refine zC (zU rfl rfl rfl rfl rfl) ?_ | refine zC (zBE rfl rfl rfl) ?_ | refine zC (zP rfl rfl rfl rfl rfl rfl) ?_)
   refine zw ?_
   skip
   refine zA1 17 ⟨67, z6 []⟩ rfl rfl ?_
   skip
   refine zBs [some ⟨122, .box (zAD q1)⟩, some ⟨75, .box [.ro (.ints .i64 cs) 0 cs.length, .str od]⟩, some ⟨67, z6 (PK 0)⟩] (by rw [hK0]; rfl) ?_
   refine zg (ι := Nat) (fun m => [(0, .ro (zd t) 0 t.length), (1, .int .i64 p), (3, .ro (z6 o) 0 o.length), (12, .ro (.ints .i64 (zJ t p)) 0 (zJ t p).length), (13, .ro (.ints .i64 (zAE t p)) 0 (zAE t p).length), (14, .ptr 0 0 0), (45, .ro (mxC l) 0 l.length), (46, .int .i64 (l.length : Nat)), (47, .int .i64 (k : Nat)), (16, .ptr 1 0 0), (17, .sl 2 0 m), (52, .ro (.ints .i64 cs) 0 cs.length), (53, .int .i64 (cs.length : Nat)), (54, .int .i64 (m : Nat))]) (fun m => [some ⟨122, .box (zAD q1)⟩, some ⟨75, .box [.ro (.ints .i64 cs) 0 cs.length, .str od]⟩, some ⟨67, z6 (PK m)⟩])
     (fun m => m ≤ cs.length) (fun m => cs.length - m) 0 ⟨⟨rfl, rfl, rfl, rfl, rfl, rfl, rfl, rfl, rfl, rfl, rfl, rfl, rfl, rfl, trivial⟩, rfl, Nat.zero_le _⟩ ?_
   intro m hm
   refine rn4 ?_
   refine zD rfl (fun h5 => ?_) (fun h5 => ?_)
   · have hm' : m < (zJ t p).length := by omega
     have hmc : m < cs.length := by omega
     have hmz : m < (zAE t p).length := by omega
     obtain ⟨hx0, hx1⟩ := hrr m hm'
     obtain ⟨x, hx⟩ := Int.eq_ofNat_of_zero_le hx0
     have hsm := hsu m
     rw [hx, Int.toNat_natCast] at hx1 hsm
     have hszm := hsz m hm'
     obtain ⟨hw1, hw6⟩ := hwd _ (zAR 0 hm')
     have hml := hsl m
     generalize hP2 : PK (m + 1) = P2 at *
     generalize PK m = P1 at *
     generalize hwx : zT t p ((zJ t p).getD m 0) = w at *
     have crep := repeatS [48] w (by omega)
     have hul : (zEv w x).length = w := by unfold zEv; rw [List.length_set, List.length_replicate]
     repeat (first | refine zA ?_ | refine zZ ?_ | refine zw ?_ | refine zi ?_)
     refine zL rfl ?_
     repeat (first | refine zC (zI rfl) ?_ | refine zC (zK rfl) ?_ | refine zC (zAr rfl rfl rfl) ?_ | refine zB ?_ | refine zA ?_ | refine zZ ?_ | refine zC (zf rfl rfl rfl rfl (by first | (simp only [Nat.zero_add, Int.toNat_natCast, Int.toNat_zero]; exact rfl) | exact rfl) (by omega)) ?_)
     refine zAO 19 (.int .i64 (x : Nat)) rfl (AEq.of_eq (by rw [hx])) ?_
     refine rn6 ?_
     refine zN 63 (.int .i64 (w : Nat)) rfl (AEq.of_eq (by rw [hszm])) ?_
     refine zCJ rfl rfl rfl crep ?_
     refine rn6 ?_
     refine zAt (c' := .strs (zEv w x)) rfl rfl rfl rfl rfl rfl rfl (by show x < (List.replicate w _).length; rw [List.length_replicate]; exact hx1) ?_
     repeat (first | refine zB ?_ | refine zA ?_)
     refine zBs [some ⟨122, .box (zAD q1)⟩, some ⟨75, .box [.ro (.ints .i64 cs) 0 cs.length, .str od]⟩, some ⟨67, z6 P1⟩, some ⟨27, .strs (zEv w x)⟩] rfl ?_
     refine zAO 20 (.sl 3 0 w) rfl (AEq.of_eq rfl) ?_
     refine zAY 3 20 w [(0, .ro (zd t) 0 t.length), (1, .int .i64 p), (3, .ro (z6 o) 0 o.length), (12, .ro (.ints .i64 (zJ t p)) 0 (zJ t p).length), (13, .ro (.ints .i64 (zAE t p)) 0 (zAE t p).length), (14, .ptr 0 0 0), (45, .ro (mxC l) 0 l.length), (46, .int .i64 (l.length : Nat)), (47, .int .i64 (k : Nat)), (16, .ptr 1 0 0), (17, .sl 2 0 m), (52, .ro (.ints .i64 cs) 0 cs.length), (53, .int .i64 (cs.length : Nat)), (54, .int .i64 (m : Nat)), (18, .int .i64 (m : Nat))] rfl zEK rfl (by show w ≤ (zEv w x).length; omega) ⟨rfl, rfl, rfl, rfl, rfl, rfl, rfl, rfl, rfl, rfl, rfl, rfl, rfl, rfl, rfl, trivial⟩ ?_
     refine zAO 20 (.ro (.strs (zEv w x)) 0 (zEv w x).length) rfl (AEq.of_eq (by rw [hul])) ?_
     repeat (first | refine zC (zI rfl) ?_ | refine zC (zAr rfl rfl rfl) ?_ | refine zL rfl ?_ | refine zC (zf rfl rfl rfl rfl (by first | (simp only [Nat.zero_add, Int.toNat_natCast, Int.toNat_zero]; exact rfl) | exact rfl) (by omega)) ?_ | refine zC (zAU rfl rfl rfl rfl rfl rfl) ?_ | refine zl rfl rfl rfl rfl rfl rfl rfl rfl rfl rfl rfl ?_)
     refine zm rfl rfl rfl rfl rfl rfl rfl rfl rfl hml rfl rfl (by show 0 + 1 ≤ 1; omega) rfl (by show (m + 1) * 32 ≤ _ ∧ _; omega) ?_ (by rw [hfix]; exact fun h => h) ?_
     · intro i' j hi hj
       exact zDW ch0 2 cellsC zDF P1 ⟨(zJ t p).getD m 0, zEv w x⟩ _ (rowC2 ⟨(zJ t p).getD m 0, zEv w x⟩) 2 i' j hi hj
     repeat (first | refine zC (zK rfl) ?_ | refine zB ?_ | refine za ?_)
     refine zA ?_
     refine zB5 ([some ⟨122, .box (zAD q1)⟩, some ⟨75, .box [.ro (.ints .i64 cs) 0 cs.length, .str od]⟩, some ⟨67, z6 P2⟩] ++ [none]) ?_ ?_
     · rw [hsm]
       exact zAG.eqv (CEq.refl _) (zAG.eqv (CEq.refl _) (zAG.eqv (zC5 ch0 2 cellsC P1 ⟨(zJ t p).getD m 0, zEv w x⟩ _ (rowC2 ⟨(zJ t p).getD m 0, zEv w x⟩)) (zAG.drop zAG.nil)))
     refine zEN (H1 := [some ⟨122, .box (zAD q1)⟩, some ⟨75, .box [.ro (.ints .i64 cs) 0 cs.length, .str od]⟩, some ⟨67, z6 P2⟩]) rfl (by rw [hfix]; exact fun h => h) ?_
     refine zB5 [some ⟨122, .box (zAD q1)⟩, some ⟨75, .box [.ro (.ints .i64 cs) 0 cs.length, .str od]⟩, some ⟨67, z6 P2⟩] ?_ ?_
     · exact zAG.eqv (CEq.refl _) (zAG.eqv (CEq.refl _) (zAG.eqv ⟨rfl, rfl, fun i j _ hj => (zDF _ j _ hj).symm⟩ zAG.nil))
     refine rn3 ?_
     exact zM ⟨m + 1, by omega, by omega, ⟨rfl, rfl, rfl, rfl, rfl, rfl, rfl, rfl, rfl, rfl, rfl, rfl, rfl, rfl, trivial⟩, by rw [hP2]⟩
   · have hme : m = (zJ t p).length := by omega
     subst hme
     rw [hpk']
     have hpl : (zCM t p cs).length = (zJ t p).length := by rw [← hpk']; exact hsl _
     have cpar := zFd od hoo hre
     generalize hV : zCS t (zBW t (zHj p (zCM t p cs) o) (zHb p (zCM t p cs) o)) = V at *
     clear hpk' hV
     generalize zCM t p cs = PS at *
     repeat (first | refine zA ?_ | refine zZ ?_ | refine zAq ?_ | refine zq ?_ | refine zp ?_ | refine zAH ?_)
     refine zAY 2 17 (zJ t p).length [(0, .ro (zd t) 0 t.length), (1, .int .i64 p), (3, .ro (z6 o) 0 o.length), (12, .ro (.ints .i64 (zJ t p)) 0 (zJ t p).length), (13, .ro (.ints .i64 (zAE t p)) 0 (zAE t p).length), (14, .ptr 0 0 0), (45, .ro (mxC l) 0 l.length), (46, .int .i64 (l.length : Nat)), (47, .int .i64 (k : Nat)), (16, .ptr 1 0 0)] rfl (zDG _) rfl (by show _ ≤ PS.length; omega) ⟨rfl, rfl, rfl, rfl, rfl, rfl, rfl, rfl, rfl, rfl, trivial⟩ ?_
     refine zAO 17 (.ro (z6 PS) 0 PS.length) rfl (AEq.of_eq (by rw [hpl])) ?_
     refine zBs [some ⟨122, .box (zAD q1)⟩, some ⟨75, .box [.ro (.ints .i64 cs) 0 cs.length, .str od]⟩, none] rfl ?_
     rcases hp with rfl | rfl
     · have e1 : zHj 0 PS o = PS := rfl
       have e2 : zHb 0 PS o = o := rfl
       rw [e1, e2] at hofk
       have cmul := zHi V (zAB od) (zEg (hD2.mono (by decide))) (zEg (hoD.mono (by decide)))
       have cadd := zHr q1 (V * zAB od) (zEg (hD1.mono (show 1 + k * (2974 + 1) ≤ 9 * 100000 by omega))) (zEg ((hD2.mul hoD).mono (by decide)))
       rw [← hq1] at cadd
       generalize V * zAB od = vw at *
       refine rn4 ?_
       refine zn (by kernel_rfl) ?_
       refine zr (fuel := 1) [0, 1, 2, 3, 4, 5, 6, 7, 8, 9] [(0, .ro (zd t) 0 t.length), (1, .int .i64 0), (3, .ro (z6 o) 0 o.length), (12, .ro (.ints .i64 (zJ t 0)) 0 (zJ t 0).length), (13, .ro (.ints .i64 (zAE t 0)) 0 (zAE t 0).length), (14, .ptr 0 0 0), (45, .ro (mxC l) 0 l.length), (46, .int .i64 (l.length : Nat)), (47, .int .i64 (k : Nat)), (16, .ptr 1 0 0), (21, .ro (z6 PS) 0 PS.length), (22, .ro (z6 o) 0 o.length)] ⟨rfl, rfl, rfl, rfl, rfl, rfl, rfl, rfl, rfl, rfl, rfl, rfl, trivial⟩ (by kernel_rfl) (by decide) rfl rfl ?_
       refine zX rfl rfl (zAC rfl rfl rfl rfl rfl rfl rfl (by first | exact Nat.zero_lt_one | assumption | omega)) ?_
       refine zX rfl rfl (zI rfl) ?_
       refine zX rfl rfl (zI rfl) ?_
       refine zX rfl rfl (zI rfl) ?_
       refine zBc rfl rfl rfl rfl rfl hofk ?_
       refine zX rfl rfl (zP rfl rfl rfl rfl rfl rfl) ?_
       refine zX rfl rfl (zU rfl rfl rfl rfl rfl) ?_
       refine zBc rfl rfl rfl rfl rfl cpar ?_
       refine zBc rfl rfl rfl rfl rfl cmul ?_
       refine zBc rfl rfl rfl rfl rfl cadd ?_
       refine zAc ?_
       refine zG (is := [10]) (by kernel_rfl) (by simp) rfl ⟨fun o ho => ?_, trivial⟩
       all_goals (cases ho)
       unfold qA
       refine zQ (c' := .box (zAD q2)) rfl rfl rfl rfl rfl Nat.zero_lt_one rfl rfl (fun i' j' hi' hj' => ?_) ?_
       · rw [if_pos (Nat.lt_one_iff.1 hi')]; rfl
       refine rn1 ?_
       refine zh (by kernel_rfl) ?_
       repeat (refine za ?_)
       refine zA ?_
       refine zAa [some ⟨122, .box (zAD q2)⟩] [some ⟨75, .box [.ro (.ints .i64 cs) 0 cs.length, .str od]⟩, none] [(0, .ro (zd t) 0 t.length), (1, .int .i64 0), (3, .ro (z6 o) 0 o.length), (12, .ro (.ints .i64 (zJ t 0)) 0 (zJ t 0).length), (13, .ro (.ints .i64 (zAE t 0)) 0 (zAE t 0).length), (14, .ptr 0 0 0), (45, .ro (mxC l) 0 l.length), (46, .int .i64 (l.length : Nat)), (47, .int .i64 (k : Nat))] rfl ⟨rfl, rfl, rfl, rfl, rfl, rfl, rfl, rfl, rfl, trivial⟩ (fun h hh => by rw [hfix] at hh; exact absurd hh id) (zBg (zJw _ _)) rfl ?_
       refine rn3 ?_
       exact zM ⟨k + 1, by omega, by omega, ⟨rfl, rfl, rfl, rfl, rfl, rfl, rfl, rfl, rfl, trivial⟩, by rw [hq2]⟩
     · have e1 : zHj 1 PS o = o := rfl
       have e2 : zHb 1 PS o = PS := rfl
       rw [e1, e2] at hofk
       have cmul := zHi V (zAB od) (zEg (hD2.mono (by decide))) (zEg (hoD.mono (by decide)))
       have cadd := zHr q1 (V * zAB od) (zEg (hD1.mono (show 1 + k * (2974 + 1) ≤ 9 * 100000 by omega))) (zEg ((hD2.mul hoD).mono (by decide)))
       rw [← hq1] at cadd
       generalize V * zAB od = vw at *
       refine rn5 ?_
       refine zn (by kernel_rfl) ?_
       refine zr (fuel := 1) [0, 1, 2, 3, 4, 5, 6, 7, 8, 9] [(0, .ro (zd t) 0 t.length), (1, .int .i64 1), (3, .ro (z6 o) 0 o.length), (12, .ro (.ints .i64 (zJ t 1)) 0 (zJ t 1).length), (13, .ro (.ints .i64 (zAE t 1)) 0 (zAE t 1).length), (14, .ptr 0 0 0), (45, .ro (mxC l) 0 l.length), (46, .int .i64 (l.length : Nat)), (47, .int .i64 (k : Nat)), (16, .ptr 1 0 0), (21, .ro (z6 o) 0 o.length), (22, .ro (z6 PS) 0 PS.length)] ⟨rfl, rfl, rfl, rfl, rfl, rfl, rfl, rfl, rfl, rfl, rfl, rfl, trivial⟩ (by kernel_rfl) (by decide) rfl rfl ?_
       refine zX rfl rfl (zAC rfl rfl rfl rfl rfl rfl rfl (by first | exact Nat.zero_lt_one | assumption | omega)) ?_
       refine zX rfl rfl (zI rfl) ?_
       refine zX rfl rfl (zI rfl) ?_
       refine zX rfl rfl (zI rfl) ?_
       refine zBc rfl rfl rfl rfl rfl hofk ?_
       refine zX rfl rfl (zP rfl rfl rfl rfl rfl rfl) ?_
       refine zX rfl rfl (zU rfl rfl rfl rfl rfl) ?_
       refine zBc rfl rfl rfl rfl rfl cpar ?_
       refine zBc rfl rfl rfl rfl rfl cmul ?_
       refine zBc rfl rfl rfl rfl rfl cadd ?_
       refine zAc ?_
       refine zG (is := [10]) (by kernel_rfl) (by simp) rfl ⟨fun o ho => ?_, trivial⟩
       all_goals (cases ho)
       unfold qA
       refine zQ (c' := .box (zAD q2)) rfl rfl rfl rfl rfl Nat.zero_lt_one rfl rfl (fun i' j' hi' hj' => ?_) ?_
       · rw [if_pos (Nat.lt_one_iff.1 hi')]; rfl
       refine rn1 ?_
       refine zh (by kernel_rfl) ?_
       repeat (refine za ?_)
       refine zA ?_
       refine zAa [some ⟨122, .box (zAD q2)⟩] [some ⟨75, .box [.ro (.ints .i64 cs) 0 cs.length, .str od]⟩, none] [(0, .ro (zd t) 0 t.length), (1, .int .i64 1), (3, .ro (z6 o) 0 o.length), (12, .ro (.ints .i64 (zJ t 1)) 0 (zJ t 1).length), (13, .ro (.ints .i64 (zAE t 1)) 0 (zAE t 1).length), (14, .ptr 0 0 0), (45, .ro (mxC l) 0 l.length), (46, .int .i64 (l.length : Nat)), (47, .int .i64 (k : Nat))] rfl ⟨rfl, rfl, rfl, rfl, rfl, rfl, rfl, rfl, rfl, trivial⟩ (fun h hh => by rw [hfix] at hh; exact absurd hh id) (zBg (zJw _ _)) rfl ?_
       refine rn3 ?_
       exact zM ⟨k + 1, by omega, by omega, ⟨rfl, rfl, rfl, rfl, rfl, rfl, rfl, rfl, rfl, trivial⟩, by rw [hq2]⟩
 · have hke : k = l.length := by omega
   subst hke
   have hDn := hq0 l.length (Nat.le_refl _)
   have co := out_ok (zH7 (zJ8 t p o) l l.length) (zEg (hDn.mono (show 1 + l.length * (2974 + 1) ≤ 9 * 100000 by omega)))
   generalize zH7 (zJ8 t p o) l l.length = q at *
   refine rn6 ?_
   refine zE rfl rfl rfl co ?_
   refine rn2 ?_
   exact zH hR rfl rfl
end Go.Proofs.YtnkealfaldjipaaGreatDoor
namespace Go.Proofs.YtnkealfaldjipaaGreatDoor
open Go.Ax Go.Ax.Bg Go.Ax.Rt Go.RowKit Go.Ax.Idx Go.Ax.Cd
attribute [local irreducible] Ax zAM QOp zO zo
set_option maxRecDepth 100000
set_option maxHeartbeats 4000000
theorem zQj (t : zS) (g : FuncId) (caps : List AV) (q : TNode → Bool) (hc : noRef.noRefs caps = true) (hlen : t.length ≤ 9223372036854775807) (hp : ∀ n ∈ t, zW Tryz.prog g ([.agg (zBz n)] ++ caps) (.bool (q n))) :
   zW Tryz.prog 64 [.ro (zd t) 0 t.length, .fn g caps] (.bool (t.any q)) := by
 have ci := zKP t g caps q hc hlen hp
 refine zO.value0 (zF (P := Tryz.prog) (fn := Tryz.f64) rfl rfl (by kernel_rfl) rfl (fun c hR hfix => ?_)) (fix := fun _ => False) (fun _ h => h) (by simp [noRef.noRefs, noRef, hc]) rfl
 refine rn0 ?_
 refine zE rfl rfl rfl ci ?_
 repeat (first | refine zC (zK rfl) ?_ | refine zB ?_ | refine zA ?_ | refine zAQ ?_ | refine zC (zCX rfl rfl) ?_)
 refine zH hR rfl ?_
 simp only [zBF, zEr]
def zLS (n : TNode) : Bool := decide (12 < (n.pay.length : Int)) || n.odds.any (fun s => decide (12 < (s.length : Int)))
theorem modest11 (s : zAK) (hs : s.length ≤ 9223372036854775807) : zW Tryz.prog 67 [.str s] (.bool (decide (12 < (s.length : Int)))) := by
 refine zO.value0 (zF (P := Tryz.prog) (fn := Tryz.f67) rfl rfl (by kernel_rfl) rfl (fun c hR hfix => ?_)) (fix := fun _ => False) (fun _ h => h) rfl rfl
 refine rn6 ?_
 exact zH hR rfl rfl
theorem modest1 (n : TNode) (hn : ShortN n) : zW Tryz.prog 65 [.agg (zBz n)] (.bool (zLS n)) := by
 obtain ⟨h1, h2, h3, h4⟩ := hn
 have cc := zIZ n.odds 67 [] (fun s => decide (12 < (s.length : Int))) rfl h2 (fun s hs => modest11 s (h3 s hs))
 refine zO.value0 (zF (P := Tryz.prog) (fn := Tryz.f65) rfl rfl (by kernel_rfl) rfl (fun c hR hfix => ?_)) (fix := fun _ => False) (fun _ h => h) rfl rfl
 obtain ⟨kd, pl, nf, nx, od, py⟩ := n
 unfold zLS at hR
 unfold zBz
 simp only at *
 refine rn6 ?_
 refine z8 rfl rfl (fun g1 => ?_) (fun g1 => ?_)
 · rw [decide_eq_true g1, Bool.true_or] at hR
   refine rn6 ?_
   exact zH hR rfl rfl
 · rw [decide_eq_false g1, Bool.false_or] at hR
   refine rn5 ?_
   refine zE rfl rfl rfl cc ?_
   refine rn2 ?_
   exact zH hR rfl rfl
def zHd (t : zS) : Bool := decide ((t.length : Int) ≤ 40) && !(t.any zLS)
theorem zIm {t : zS} (h : zHd t = true) : Go.Ax.Rt.Modest t := by
 unfold zHd at h
 rw [Bool.and_eq_true, decide_eq_true_eq, Bool.not_eq_true', List.any_eq_false] at h
 obtain ⟨h1, h2⟩ := h
 refine ⟨by omega, fun n hn => ?_, fun n hn r hr => ?_⟩
 · have := h2 n hn
   unfold zLS at this
   rw [Bool.not_eq_true, Bool.or_eq_false_iff, decide_eq_false_iff_not] at this
   omega
 · have := h2 n hn
   unfold zLS at this
   rw [Bool.not_eq_true, Bool.or_eq_false_iff, List.any_eq_false] at this
   have := this.2 r hr
   rw [decide_eq_true_eq] at this
   omega
theorem zQU (t : zS) (hT : ShortT t) : zW Tryz.prog 16 [.ro (zd t) 0 t.length] (.bool (zHd t)) := by
 have cc := zQj t 65 [] zLS rfl hT.len (fun n hn => modest1 n (hT.node n hn))
 have hlen := hT.len
 refine zO.value0 (zF (P := Tryz.prog) (fn := Tryz.f16) rfl rfl (by kernel_rfl) rfl (fun c hR hfix => ?_)) (fix := fun _ => False) (fun _ h => h) rfl rfl
 unfold zHd at hR
 repeat (first | refine zC (zI rfl) ?_ | refine zC (zK rfl) ?_ | refine zB ?_ | refine zA ?_ | refine zZ ?_ | refine zL rfl ?_ | refine zC (zJl rfl rfl) ?_ | refine zC (zBE rfl rfl rfl) ?_)
 refine z8 rfl rfl (fun g1 => ?_) (fun g1 => ?_)
 · rw [decide_eq_true g1, Bool.true_and] at hR
   refine rn2 ?_
   refine zE rfl rfl rfl cc ?_
   refine rn5 ?_
   exact zH hR rfl rfl
 · rw [decide_eq_false g1, Bool.false_and] at hR
   refine rn6 ?_
   exact zH hR rfl rfl
theorem zO5 {ls : List zAT} (h : zKa ls = true) : ∀ s ∈ ls, ∀ c ∈ s, ∀ r ∈ c.odds, r.length ≤ 12 := by
 unfold zKa at h
 rw [Bool.not_eq_true', List.any_eq_false] at h
 intro s hs c hc r hr
 have := h c (List.mem_flatten.2 ⟨s, hs, hc⟩)
 unfold zM9 at this
 rw [Bool.not_eq_true, List.any_eq_false] at this
 have := this r hr
 rw [decide_eq_true_eq] at this
 omega
end Go.Proofs.YtnkealfaldjipaaGreatDoor
namespace Go.Ax.Rt
open Go.Ax.Bg Go.Ax.Dt
set_option maxRecDepth 100000
def allV : List zAK → List Rat → Bool
 | [], [] => true
 | s :: r, q :: t => decide (IsQ s q) && allV r t
 | _, _ => false
theorem zKS : ∀ {s : List zAK} {l : List Rat}, allV s l = true → l.map zt = s ∧ l.all zA3 = true
 | [], [], _ => ⟨rfl, rfl⟩
 | [], _ :: _, h => by cases h
 | _ :: _, [], h => by cases h
 | a :: r, q :: t, h => by
   simp only [allV, Bool.and_eq_true, decide_eq_true_eq] at h
   obtain ⟨h1, h2⟩ := zKS h.2
   refine ⟨by rw [List.map_cons, h.1.text, h1], ?_⟩
   rw [List.all_cons, h.1.fit, h2]; rfl
theorem allV_f {s : List zAK} {l : List Rat} (h : allV s l = true) : zBG l = (s, 0) := by
 unfold zBG
 rw [if_pos (zKS h).2, (zKS h).1]
def allM : List (List zAK) → List (List Rat) → Bool
 | [], [] => true
 | s :: r, q :: t => allV s q && allM r t
 | _, _ => false
def fourT : List (List zAK) := [[[49], [50]], [[51], [52]]]
def signT : List (List zAK) := [[[49], [49]], [[49], [45, 49]]]
theorem zJ2 {q : List (List Rat)} : ∀ r ∈ (outM q).1, ∀ s ∈ r, s.length ≤ 9223372036854775807 := by
 intro r hr s hs
 unfold outM at hr
 split at hr
 · rename_i h
   obtain ⟨x, hx, rfl⟩ := List.mem_map.1 hr
   obtain ⟨y, hy, rfl⟩ := List.mem_map.1 hs
   have h2 := List.all_eq_true.1 (List.all_eq_true.1 h x hx) y hy
   unfold zA3 at h2
   rw [Bool.and_eq_true, decide_eq_true_eq, decide_eq_true_eq] at h2
   unfold zt
   rw [List.length_append, List.length_append]
   have h1 : (if y.num < 0 then [45] else [] : List UInt8).length ≤ 1 := by split <;> simp
   have h3 : (if y.den = 1 then [] else 47 :: Lib.decDigits y.den : List UInt8).length ≤ 2001 := by
     split
     · simp
     · rw [List.length_cons]; omega
   omega
 · simp at hr
abbrev MaxL : Nat := 9223372036854775807
structure ShortM (m : List (List zAK)) : Prop where
 len : m.length ≤ MaxL
 row : ∀ r ∈ m, r.length ≤ MaxL ∧ ∀ s ∈ r, s.length ≤ MaxL
structure ShortV (v : List zAK) : Prop where
 len : v.length ≤ MaxL
 each : ∀ s ∈ v, s.length ≤ MaxL
theorem ShortM.wid {m : List (List zAK)} (h : ShortM m) : zEG m ≤ MaxL := by
 unfold zEG
 cases m with
 | nil => exact Nat.zero_le _
 | cons x _ => exact (h.row x (by simp)).1
theorem ShortM.nil : ShortM [] := ⟨Nat.zero_le _, fun r hr => by simp at hr⟩
theorem ShortV.nil : ShortV [] := ⟨Nat.zero_le _, fun r hr => by simp at hr⟩
theorem ShortM.out {q : List (List Rat)} (h1 : q.length ≤ MaxL) (h2 : ∀ r ∈ q, r.length ≤ MaxL) : ShortM (outM q).1 := by
 have h3 := @zJ2 q
 refine ⟨?_, fun r hr => ⟨?_, h3 r hr⟩⟩
 · unfold outM
   split
   · simpa using h1
   · exact Nat.zero_le _
 · unfold outM at hr
   split at hr
   · obtain ⟨x, hx, rfl⟩ := List.mem_map.1 hr
     rw [List.length_map]; exact h2 x hx
   · simp at hr
theorem ShortM.mul {a b : List (List zAK)} (ha : ShortM a) (hb : ShortM b) : ShortM (mulR a b).1 := by
 unfold mulR
 split
 · exact ShortM.nil
 split
 · exact ShortM.nil
 split
 · refine ShortM.out (by simpa [mulQ, inM] using ha.len) (fun r hr => ?_)
   obtain ⟨x, hx, rfl⟩ := List.mem_map.1 hr
   rw [List.length_map, zQN]; exact hb.wid
 · exact ShortM.nil
theorem ShortM.trans {a : List (List zAK)} (ha : ShortM a) : ShortM (transR a).1 := by
 unfold transR
 split
 · exact ShortM.nil
 · refine ⟨by simpa [transT] using ha.wid, fun r hr => ?_⟩
   obtain ⟨k, hk, rfl⟩ := List.mem_map.1 hr
   refine ⟨by simpa using ha.len, fun s hs => ?_⟩
   obtain ⟨x, hx, rfl⟩ := List.mem_map.1 hs
   rcases Nat.lt_or_ge k x.length with q | q
   · exact (ha.row x hx).2 _ (by rw [zu [] q]; exact List.getElem_mem q)
   · have : x.getD k [] = [] := by simp [List.getD, q]
     rw [this]; exact Nat.zero_le _
theorem ShortV.out {l : List Rat} (h : l.length ≤ MaxL) : ShortV (zBG l).1 := by
 have h3 := zJ2 (q := [l])
 refine ⟨?_, fun s hs => ?_⟩
 · unfold zBG
   split
   · simpa using h
   · exact Nat.zero_le _
 · unfold zBG at hs
   split at hs
   · rename_i h1
     have e : (outM [l]).1 = [l.map zt] := by
       unfold outM
       rw [if_pos (by simpa using h1)]
       rfl
     rw [e] at h3
     exact h3 _ (by simp) s hs
   · simp at hs
theorem ShortM.apply {a : List (List zAK)} (ha : ShortM a) (v : List zAK) : ShortV (applyR a v).1 := by
 unfold applyR
 split
 · exact ShortV.nil
 split
 · exact ShortV.nil
 split
 · exact ShortV.nil
 · exact ShortV.out (by simpa [applyQ, inM] using ha.len)
end Go.Ax.Rt
namespace Go.Ax.Rt
open Go.Ax.Bg Go.Ax.Idx
set_option maxRecDepth 100000
def zAn : zS := [⟨2, 0, 0, [1, 2], [], []⟩, ⟨2, 1, 3, [3, 4], [], []⟩, ⟨2, 1, 3, [5, 6], [], []⟩, ⟨0, 0, 0, [], [], [45, 49]⟩, ⟨0, 0, 0, [], [], [49]⟩, ⟨0, 0, 0, [], [], [49]⟩, ⟨0, 0, 0, [], [], [45, 49]⟩]
def zCe (n : Int) : zAT := [⟨n, [[49, 47, 50], [49, 47, 50]]⟩]
theorem g_perf1 : zCm zAn 1 = true := by decide +kernel
theorem g_strat : zA8 zAn 1 (zCe 3) = 0 := by decide +kernel
end Go.Ax.Rt
namespace Go.Proofs.YtnkealfaldjipaaGreatDoor
open Go.Ax Go.Ax.Bg Go.Ax.Rt Go.RowKit Go.Ax.Idx Go.Ax.Cd
attribute [local irreducible] Ax zAM QOp zO zo
set_option maxRecDepth 100000
set_option maxHeartbeats 4000000
theorem seven {d : Nat} (h : d < 7) : d = 0 ∨ d = 1 ∨ d = 2 ∨ d = 3 ∨ d = 4 ∨ d = 5 ∨ d = 6 := by omega
theorem zGT : zW Tryz.prog 61 [] (.ro (zd zAn) 0 7) := by
 refine zO.value0 (zF (P := Tryz.prog) (fn := Tryz.f61) rfl rfl (by kernel_rfl) rfl (fun c hR hfix => ?_)) (fix := fun _ => False) (fun _ h => h) rfl rfl
 repeat (first | refine zC (zK rfl) ?_ | refine zB ?_ | refine zA ?_ | refine zZ ?_ | refine zL rfl ?_ | refine zC (zAU rfl rfl rfl rfl rfl rfl) ?_ | refine zl rfl rfl rfl rfl rfl rfl rfl rfl rfl rfl rfl ?_)
 refine zAO 0 (.ro (zd zAn) 0 7) rfl (AEq.ro_in rfl (fun d j hd hj => ?_)) ?_
 · have hj : j < 6 := hj
   have hj3 : j = 0 ∨ j = 1 ∨ j = 2 ∨ j = 3 ∨ j = 4 ∨ j = 5 := by omega
   rcases seven hd with rfl | rfl | rfl | rfl | rfl | rfl | rfl <;> rcases hj3 with rfl | rfl | rfl | rfl | rfl | rfl <;> first | exact AEq.rfl' | exact AEq.nil
 repeat (refine zAQ ?_)
 exact zH hR rfl rfl
theorem zPH (n : Int) : zW Tryz.prog 62 [.int .i64 n] (.ro (z6 (zCe n)) 0 1) := by
 refine zO.value0 (zF (P := Tryz.prog) (fn := Tryz.f62) rfl rfl (by kernel_rfl) rfl (fun c hR hfix => ?_)) (fix := fun _ => False) (fun _ h => h) rfl rfl
 repeat (first | refine zC (zI rfl) ?_ | refine zC (zK rfl) ?_ | refine zB ?_ | refine zA ?_ | refine zZ ?_ | refine zL rfl ?_ | refine zC (zAU rfl rfl rfl rfl rfl rfl) ?_ | refine zl rfl rfl rfl rfl rfl rfl rfl rfl rfl rfl rfl ?_)
 refine zAO 2 (.ro (z6 (zCe n)) 0 1) rfl (AEq.ro_in rfl (fun d j hd hj => ?_)) ?_
 · have hj : j < 2 := hj
   have hj3 : j = 0 ∨ j = 1 := by omega
   obtain rfl : d = 0 := by omega
   rcases hj3 with rfl | rfl <;> exact AEq.rfl'
 repeat (refine zAQ ?_)
 exact zH hR rfl rfl
end Go.Proofs.YtnkealfaldjipaaGreatDoor
namespace Go.Proofs.YtnkealfaldjipaaGreatDoor
open Go.Ax Go.Ax.Bg Go.Ax.Rt Go.RowKit
attribute [local irreducible] Ax zAM QOp zO zo
set_option maxRecDepth 100000
set_option maxHeartbeats 4000000
open Go.Ax.Idx Go.Ax.Cd
theorem equalR (a b : List (List UInt8)) (hlen : a.length ≤ 9223372036854775807) (hlb : b.length ≤ 9223372036854775807) : zW Tryz.prog 44 [.ro (.strs a) 0 a.length, .ro (.strs b) 0 b.length] (.bool (decide (a = b))) := by
 refine zO.value0 (zF (P := Tryz.prog) (fn := Tryz.f44) rfl rfl (by kernel_rfl) rfl (fun c hR hfix => ?_)) (fix := fun _ => False) (fun _ h => h) rfl rfl
 refine rn3 ?_
 refine zD rfl (fun h => ?_) (fun h => ?_)
 · refine rn2 ?_
   refine zH hR rfl ?_
   have : ¬ a = b := by rintro rfl; exact h rfl
   simp [zBF, this]
 have hab : a.length = b.length := by omega
 refine rn3 ?_
 refine zg (ι := Nat) (fun k => [(0, .ro (.strs a) 0 a.length), (1, .ro (.strs b) 0 b.length), (12, .int .i64 (a.length : Nat)), (13, .int .i64 (k : Nat))]) (fun _ => [])
   (fun k => k ≤ a.length ∧ a.take k = b.take k) (fun k => a.length - k) 0 ⟨⟨rfl, rfl, rfl, rfl, trivial⟩, rfl, Nat.zero_le _, rfl⟩ ?_
 intro k ⟨hk, heq⟩
 refine rn4 ?_
 refine zD rfl (fun h2 => ?_) (fun h2 => ?_)
 · have hk' : k < a.length := by omega
   have ha := zAj a [] k hk'
   have hb := zAj b [] k (by omega)
   refine rn1 ?_
   refine zDU (by kernel_rfl) (by kernel_rfl) rfl ?_
   repeat (first | refine zC (zI rfl) ?_ | refine zB ?_ | refine zA ?_ | refine zC (zEu rfl rfl rfl) ?_ | refine zC (zf rfl rfl rfl rfl (by first | (simp only [Nat.zero_add, Int.toNat_natCast, Int.toNat_zero]; exact rfl) | exact rfl) (by omega)) ?_ | refine zC (zGG rfl rfl) ?_)
   refine zD rfl (fun h3 => ?_) (fun h3 => ?_)
   · refine rn6 ?_
     refine zH hR rfl ?_
     have : ¬ a = b := by rintro rfl; exact h3 rfl
     simp [zBF, this]
   · refine rn5 ?_
     have h4 : a.getD k [] = b.getD k [] := Classical.not_not.1 h3
     exact zM ⟨k + 1, ⟨by omega, by rw [ha, hb, heq, h4]⟩, by omega, ⟨rfl, rfl, rfl, rfl, trivial⟩, rfl⟩
 · have hk' : k = a.length := by omega
   subst hk'
   rw [List.take_length, hab, List.take_length] at heq
   refine rn5 ?_
   refine zH hR rfl ?_
   simp [zBF, heq]
theorem hlen2 {l : List (List UInt8)} (h : (l.all fun s => decide (s.length ≤ 100)) = true) : ∀ s ∈ l, s.length ≤ 9223372036854775807 := fun s hs => by
 have := List.all_eq_true.1 h s hs
 have := of_decide_eq_true this
 omega
end Go.Proofs.YtnkealfaldjipaaGreatDoor
namespace Go.Proofs.YtnkealfaldjipaaGreatDoor
open Go.Ax Go.Ax.Bg Go.Ax.Rt Go.RowKit Go.Ax.Idx Go.Ax.Cd
attribute [local irreducible] Ax zAM QOp zO zo
set_option maxRecDepth 100000
set_option maxHeartbeats 4000000
def sureG : zAT := [⟨3, [[49], [48]]⟩]
theorem zIA : ShortT zAn := ⟨by decide, fun n hn => by
 simp only [zAn, List.mem_cons, List.not_mem_nil, or_false] at hn
 rcases hn with rfl | rfl | rfl | rfl | rfl | rfl | rfl <;> exact ⟨by decide, by decide, by decide, by decide⟩⟩
theorem gModest : Go.Ax.Rt.Modest zAn := zIm (by decide)
theorem zLW (n : Int) : ShortS (zCe n) := ⟨(by decide : 1 ≤ 9223372036854775807), fun c hc => by
 rw [List.mem_singleton.1 hc]; exact ⟨(by decide : 2 ≤ 9223372036854775807), fun s hs => by simp at hs; subst hs; decide⟩⟩
theorem halfDig (n : Int) : ∀ c ∈ zCe n, ∀ r ∈ c.odds, r.length ≤ 12 := fun c hc => by
 rw [List.mem_singleton.1 hc]; intro r hr; simp at hr; subst hr; decide
end Go.Proofs.YtnkealfaldjipaaGreatDoor
namespace Go.Proofs.YtnkealfaldjipaaGreatDoor
open Go.Ax Go.Ax.Bg Go.Ax.Rt Go.RowKit Go.Ax.Idx Go.Ax.Cd
attribute [local irreducible] Ax zAM QOp zO zo
set_option maxRecDepth 100000
set_option maxHeartbeats 4000000
def zF6 : zBl := [⟨[0], [49, 47, 50]⟩, ⟨[1], [49, 47, 50]⟩]
theorem cg1 : zNZ zAn 1 = ([[0], [1]], 0) := by decide +kernel
theorem cg2 : zAh zAn 1 = 0 := by decide +kernel
theorem cg3 : zGz (zAP zAn 1) [[]] = some [[0], [1]] := by decide +kernel
theorem cg4 : zB4 (zCe 3) [[0], [1]] = [[0], [1]] := by decide +kernel
theorem cg5 : IsQ [49, 47, 50] (zCL (zCe 3) [0]) := by decide +kernel
theorem cg6 : IsQ [49, 47, 50] (zCL (zCe 3) [1]) := by decide +kernel
theorem gMixed : zCT zAn 1 (zCe 3) = (zF6, 0) := by
 unfold zCT
 rw [if_neg (fun q => q cg2), if_neg (fun q => q g_strat), cg3]
 show zCo (zCe 3) [[0], [1]] = _
 unfold zCo
 rw [cg4]
 have h : ([[0], [1]] : List (List Int)).all (fun c => zA3 (zCL (zCe 3) c)) = true := by
   show (zA3 (zCL (zCe 3) [0]) && (zA3 (zCL (zCe 3) [1]) && true)) = true
   rw [cg5.fit, cg6.fit]; rfl
 rw [if_pos h]
 show (([⟨[0], zt (zCL (zCe 3) [0])⟩, ⟨[1], zt (zCL (zCe 3) [1])⟩] : zBl), (0 : Int)) = _
 rw [cg5.text, cg6.text]; rfl
theorem cg7 : zCj zAn 1 zF6 = 0 := by decide +kernel
theorem cg8 : zJ zAn 1 = [3] := by decide +kernel
theorem cg9 : zBG (zA5 zAn 1 (zBB zAn 1 zF6) 3) = ([[49, 47, 50], [49, 47, 50]], 0) := allV_f (by decide +kernel)
theorem gBeh : zIL zAn 1 zF6 = (zCe 3, 0) := by
 rw [zLX cg7 g_perf1, cg8]
 have h := cg9
 unfold zBG at h
 cases hf : (zA5 zAn 1 (zBB zAn 1 zF6) 3).all zA3
 · rw [hf, if_neg (by decide)] at h; cases h
 · rw [hf, if_pos rfl] at h
   have h1 : (zA5 zAn 1 (zBB zAn 1 zF6) 3).map zt = [[49, 47, 50], [49, 47, 50]] := congrArg Prod.fst h
   have h2 : ([3] : List Int).all (fun x => (zA5 zAn 1 (zBB zAn 1 zF6) x).all zA3) = true := by
     show ((zA5 zAn 1 (zBB zAn 1 zF6) 3).all zA3 && true) = true
     rw [hf]; rfl
   rw [if_pos h2]
   unfold zJD
   rw [cg8]
   show (([⟨3, (zA5 zAn 1 (zBB zAn 1 zF6) 3).map zt⟩] : zAT), (0 : Int)) = _
   rw [h1]; rfl
theorem cgA : zA8 zAn (1 - 1) (zCe 0) = 0 := by decide +kernel
theorem gPay : payR zAn 1 zF6 (zCe 0) = ([48], 0) := by
 unfold payR
 rw [if_neg (fun q => q cg7), if_neg (fun q => q cgA)]
 exact IsQ.out (show IsQ [48] _ by decide +kernel)
theorem cgB : zCj zAn 1 [] = 3 := by decide +kernel
theorem zNc : ShortX zF6 := ⟨by decide, fun a ha => by
 simp [zF6] at ha; rcases ha with rfl | rfl <;> decide, fun a ha => by
 simp [zF6] at ha; rcases ha with rfl | rfl <;> decide⟩
theorem zNi : zW Tryz.prog 34 [] (.bool true) := by
 have c1 := cpure_ok zAn 1 zIA
 rw [cg1] at c1
 have c1 : zW Tryz.prog 100 [.ro (zd zAn) 0 7, .int .i64 1] (.tup [.ro (zA2 [[0], [1]]) 0 2, .int .i64 0]) := c1
 have c2 := zM2 zAn 1 (zCe 3) zIA (zLW 3)
 rw [gMixed] at c2
 have c2 : zW Tryz.prog 35 [.ro (zd zAn) 0 7, .int .i64 1, .ro (z6 (zCe 3)) 0 1] (.tup [.ro (mxC zF6) 0 2, .int .i64 0]) := c2
 have c3 := zLl zAn 1 zF6 zIA zNc
 rw [gBeh] at c3
 have c3 : zW Tryz.prog 36 [.ro (zd zAn) 0 7, .int .i64 1, .ro (mxC zF6) 0 2] (.tup [.ro (z6 (zCe 3)) 0 1, .int .i64 0]) := c3
 have c4 := pay_ok zAn 1 zF6 (zCe 0) zIA gModest zNc (zLW 0) (halfDig 0)
 rw [gPay] at c4
 have c4 : zW Tryz.prog 47 [.ro (zd zAn) 0 7, .int .i64 1, .ro (mxC zF6) 0 2, .ro (z6 (zCe 0)) 0 1] (.tup [.str [48], .int .i64 0]) := c4
 have c5 := zIF zAn 1 [] zIA ⟨by decide, fun a ha => by simp at ha, fun a ha => by simp at ha⟩
 rw [cgB] at c5
 have c5' : zW Tryz.prog 48 [.ro (zd zAn) 0 7, .int .i64 1, .nil] (.int .i64 3) := fun H => zO.args (c5 H) ⟨AEq.rfl', AEq.rfl', AEq.nil, trivial⟩
 have e1 : zW Tryz.prog 101 [.ro (.ints .i64 [1]) 0 1, .ro (.ints .i64 [1]) 0 1] (.bool true) := equalI [1] [1] (by decide) (by decide)
 have e2 : zW Tryz.prog 44 [.ro (.strs [[49, 47, 50], [49, 47, 50]]) 0 2, .ro (.strs [[49, 47, 50], [49, 47, 50]]) 0 2] (.bool true) := equalR [[49, 47, 50], [49, 47, 50]] [[49, 47, 50], [49, 47, 50]] (by decide) (by decide)
 have f2 : zW Tryz.prog 24 [.ro (.ints .i64 [0, 0, 0, 0]) 0 4] (.bool true) := fineI [0, 0, 0, 0] (by decide)
 refine zO.value0 (zF (P := Tryz.prog) (fn := Tryz.f34) rfl rfl (by kernel_rfl) rfl (fun c hR hfix => ?_)) (fix := fun _ => False) (fun _ h => h) rfl rfl
 refine rn0 ?_
 refine zE rfl rfl rfl zGT ?_
 skip
 refine zE rfl rfl rfl c1 ?_
 refine rn2 ?_
 refine zE rfl rfl rfl zGT ?_
 skip
 refine zE rfl rfl rfl (zPH 3) ?_
 skip
 refine zE rfl rfl rfl c2 ?_
 refine rn2 ?_
 refine zE rfl rfl rfl zGT ?_
 repeat (refine zC (zI rfl) ?_)
 refine zE rfl rfl rfl c3 ?_
 refine rn2 ?_
 refine zE rfl rfl rfl zGT ?_
 repeat (refine zC (zI rfl) ?_)
 refine zE rfl rfl rfl (zPH 0) ?_
 skip
 refine zE rfl rfl rfl c4 ?_
 refine rn3 ?_
 refine zE rfl rfl rfl f2 ?_
 refine rn6 ?_
 refine zE rfl rfl rfl e1 ?_
 repeat (first | refine zC (zI rfl) ?_ | refine zAL rfl rfl ?_ | refine zC (zCA rfl rfl rfl rfl) ?_ | refine zC (zGa rfl rfl) ?_ | refine zC (zAe rfl rfl) ?_ | refine zC (zBE rfl rfl rfl) ?_ | refine zC (zf rfl rfl rfl rfl (by first | (simp only [Nat.zero_add, Int.toNat_natCast, Int.toNat_zero]; exact rfl) | exact rfl) (by omega)) ?_ | refine zC (zFM rfl rfl) ?_ | refine zC (zCD rfl rfl rfl rfl rfl rfl) ?_ | refine zl rfl rfl rfl rfl rfl rfl rfl rfl rfl rfl rfl ?_)
 refine zE rfl rfl rfl e2 ?_
 refine rn6 ?_
 refine zE rfl rfl rfl zGT ?_
 repeat (refine zAL rfl rfl ?_)
 refine zE rfl rfl rfl c5' ?_
 refine rn4 ?_
 exact zH hR rfl rfl
end Go.Proofs.YtnkealfaldjipaaGreatDoor
namespace Go.Proofs.YtnkealfaldjipaaGreatDoor
open Go.Ax Go.Ax.Bg Go.Ax.Rt Go.RowKit Go.Ax.Idx Go.Ax.Cd
attribute [local irreducible] Ax zAM QOp zO zo
set_option maxRecDepth 100000
set_option maxHeartbeats 4000000
def eqT (v y : zAK) : Bool := decide (v = y)
theorem indexT (l : List zAK) (v : zAK) (hlen : l.length ≤ 9223372036854775807) (hs : ∀ s ∈ l, s.length ≤ 9223372036854775807) (hv : v.length ≤ 9223372036854775807) :
   zW Tryz.prog 110 [.ro (.strs l) 0 l.length, .str v] (.int .i64 (zCr (eqT v) l)) := by
 refine zO.value0 (zF (P := Tryz.prog) (fn := Tryz.f110) rfl rfl (by kernel_rfl) rfl (fun c hR hfix => ?_)) (fix := fun _ => False) (fun _ h => h) rfl rfl
 refine rn3 ?_
 refine zg (ι := Nat) (fun k => [(0, .ro (.strs l) 0 l.length), (1, .str v), (7, .int .i64 (l.length : Nat)), (8, .int .i64 (k : Nat))]) (fun _ => [])
   (fun k => k ≤ l.length ∧ (l.take k).any (eqT v) = false) (fun k => l.length - k) 0 ⟨⟨rfl, rfl, rfl, rfl, trivial⟩, rfl, Nat.zero_le _, rfl⟩ ?_
 intro k ⟨hk, hany⟩
 refine rn4 ?_
 refine zD rfl (fun h => ?_) (fun h => ?_)
 · have hk' : k < l.length := by omega
   have hanys := zBt (eqT v) l [] k hk'
   repeat (first | refine zC (zI rfl) ?_ | refine zC (zK rfl) ?_ | refine zB ?_ | refine zA ?_ | refine zZ ?_ | refine zL rfl ?_ | refine zw ?_ | refine zi ?_ | refine zC (zEu rfl rfl rfl) ?_ | refine zC (zf rfl rfl rfl rfl (by first | (simp only [Nat.zero_add, Int.toNat_natCast, Int.toNat_zero]; exact rfl) | exact rfl) (by omega)) ?_ | refine zC (zFM rfl rfl) ?_)
   refine zD rfl (fun h2 => ?_) (fun h2 => ?_)
   · refine rn6 ?_
     refine zH hR rfl ?_
     have := zBP (eqT v) l k hany hk
     rw [zBi l [] k hk'] at this
     have h3 : eqT v (l.getD k []) = true := by simpa [eqT] using h2
     simp only [zCr, h3, if_true] at this
     rw [this]; simp [zBF]
   · refine rn5 ?_
     have h3 : eqT v (l.getD k []) = false := by simpa [eqT] using h2
     refine zM ⟨k + 1, ⟨by omega, by rw [hanys, hany, h3]; rfl⟩, by omega, ⟨rfl, rfl, rfl, rfl, trivial⟩, rfl⟩
 · have hk' : k = l.length := by omega
   subst hk'
   refine rn5 ?_
   refine zH hR rfl ?_
   have := zBP (eqT v) l l.length hany hk
   rw [List.drop_length] at this
   rw [this]; rfl
theorem hasT (l : List zAK) (v : zAK) (hlen : l.length ≤ 9223372036854775807) (hs : ∀ s ∈ l, s.length ≤ 9223372036854775807) (hv : v.length ≤ 9223372036854775807) :
   zW Tryz.prog 41 [.ro (.strs l) 0 l.length, .str v] (.bool (l.any (eqT v))) := by
 refine zO.value0 (zF (P := Tryz.prog) (fn := Tryz.f41) rfl rfl (by kernel_rfl) rfl (fun c hR hfix => ?_)) (fix := fun _ => False) (fun _ h => h) rfl rfl
 refine rn0 ?_
 refine zE rfl rfl rfl (indexT l v hlen hs hv) ?_
 repeat (first | refine zC (zK rfl) ?_ | refine zB ?_ | refine zA ?_ | refine zAQ ?_ | refine zC (zCX rfl rfl) ?_)
 refine zH hR rfl ?_
 rw [zEr (eqT v) l]; rfl
def zeroC (c : TChoice) : Bool := c.odds.any (eqT [48])
theorem back1 (c : TChoice) (hc : ShortC c) : zW Tryz.prog 40 [.agg (cellsC c)] (.bool (zeroC c)) := by
 obtain ⟨nf, od⟩ := c
 have cc := hasT od [48] hc.odds hc.each (by decide)
 refine zO.value0 (zF (P := Tryz.prog) (fn := Tryz.f40) rfl rfl (by kernel_rfl) rfl (fun c hR hfix => ?_)) (fix := fun _ => False) (fun _ h => h) rfl rfl
 refine rn6 ?_
 refine zE rfl rfl rfl cc ?_
 refine rn0 ?_
 exact zH hR rfl rfl
theorem back2 (c : TChoice) (hc : ShortC c) : zW Tryz.prog 43 [.agg (cellsC c), .agg (cellsC c)] (.bool true) := by
 obtain ⟨nf, od⟩ := c
 have cc := equalR od od hc.odds hc.odds
 rw [decide_eq_true rfl] at cc
 refine zO.value0 (zF (P := Tryz.prog) (fn := Tryz.f43) rfl rfl (by kernel_rfl) rfl (fun c hR hfix => ?_)) (fix := fun _ => False) (fun _ h => h) rfl rfl
 refine rn6 ?_
 rw [decide_eq_true (show nf = nf from rfl)]
 refine rn5 ?_
 refine zE rfl rfl rfl cc ?_
 refine rn2 ?_
 exact zH hR rfl rfl
theorem eqFuncC (a : zAT) (ha : a.length ≤ 9223372036854775807) (g : FuncId) (hg : ∀ c ∈ a, zW Tryz.prog g [.agg (cellsC c), .agg (cellsC c)] (.bool true)) : zW Tryz.prog 42 [.ro (z6 a) 0 a.length, .ro (z6 a) 0 a.length, .fn g []] (.bool true) := by
 refine zO.value0 (zF (P := Tryz.prog) (fn := Tryz.f42) rfl rfl (by kernel_rfl) rfl (fun c hR hfix => ?_)) (fix := fun _ => False) (fun _ h => h) rfl rfl
 refine rn3 ?_
 refine zD rfl (fun h => absurd rfl h) (fun h => ?_)
 refine rn3 ?_
 refine zg (ι := Nat) (fun k => [(0, .ro (z6 a) 0 a.length), (1, .ro (z6 a) 0 a.length), (2, .fn g []), (15, .ro (z6 a) 0 a.length), (16, .int .i64 (a.length : Nat)), (17, .int .i64 (k : Nat))]) (fun _ => [])
   (fun k => k ≤ a.length) (fun k => a.length - k) 0 ⟨⟨rfl, rfl, rfl, rfl, rfl, rfl, trivial⟩, rfl, Nat.zero_le _⟩ ?_
 intro k hk
 refine rn4 ?_
 refine zD rfl (fun h2 => ?_) (fun h2 => ?_)
 · have hk' : k < a.length := by omega
   have hc := hg _ (zAR ch0 hk')
   refine rn6 ?_
   refine zN 21 (.agg (cellsC (a.getD k ch0))) rfl (AEq.of_eq rfl) ?_
   refine zQ (c' := .box [.int .i64 (a.getD k ch0).info, .ro (.strs (a.getD k ch0).odds) 0 (a.getD k ch0).odds.length]) rfl rfl rfl rfl rfl Nat.zero_lt_one rfl rfl (fun i' j' hi' hj' => ?_) ?_
   · rw [if_pos (Nat.lt_one_iff.1 hi')]; rfl
   refine rn6 ?_
   refine zN 25 (.agg (cellsC (a.getD k ch0))) rfl (AEq.of_eq rfl) ?_
   refine zQ (c' := .box [.int .i64 (a.getD k ch0).info, .ro (.strs (a.getD k ch0).odds) 0 (a.getD k ch0).odds.length]) rfl rfl rfl rfl rfl Nat.zero_lt_one rfl rfl (fun i' j' hi' hj' => ?_) ?_
   · rw [if_pos (Nat.lt_one_iff.1 hi')]; rfl
   refine rn6 ?_
   refine zE rfl rfl rfl hc ?_
   repeat (first | refine zB ?_ | refine zC (zEB rfl) ?_)
   refine zA ?_
   repeat (first | refine zx rfl ?_ | refine za ?_ | refine zi ?_)
   refine zA ?_
   refine zAa [] _ [(0, .ro (z6 a) 0 a.length), (1, .ro (z6 a) 0 a.length), (2, .fn g []), (15, .ro (z6 a) 0 a.length), (16, .int .i64 (a.length : Nat)), (17, .int .i64 (k : Nat))] rfl ⟨rfl, rfl, rfl, rfl, rfl, rfl, trivial⟩ (fun h hh => by rw [hfix] at hh; exact absurd hh id) (fun h o ho => by simp at ho) rfl ?_
   refine rn3 ?_
   exact zM ⟨k + 1, by omega, by omega, ⟨rfl, rfl, rfl, rfl, rfl, rfl, trivial⟩, rfl⟩
 · have hk' : k = a.length := by omega
   subst hk'
   refine rn5 ?_
   exact zH hR rfl rfl
end Go.Proofs.YtnkealfaldjipaaGreatDoor
namespace Go.Proofs.YtnkealfaldjipaaGreatDoor
open Go.Ax Go.Ax.Bg Go.Ax.Rt Go.RowKit Go.Ax.Idx Go.Ax.Cd
attribute [local irreducible] Ax zAM QOp zO zo
set_option maxRecDepth 100000
set_option maxHeartbeats 4000000
end Go.Proofs.YtnkealfaldjipaaGreatDoor
namespace Go.Proofs.YtnkealfaldjipaaGreatDoor
open Go.Ax Go.Ax.Bg Go.Ax.Rt Go.RowKit Go.Ax.Idx Go.Ax.Cd
attribute [local irreducible] Ax zAM QOp zO zo
set_option maxRecDepth 100000
set_option maxHeartbeats 4000000
theorem zPn {s : List UInt8} (h : zCi s = 0) : s.length ≤ 4002 := by
 have hf := (IsQ.self h).fit
 rw [← (IsQ.self h).text]
 unfold zA3 at hf
 rw [Bool.and_eq_true, decide_eq_true_eq, decide_eq_true_eq] at hf
 unfold zt
 rw [List.length_append, List.length_append]
 split <;> split <;> simp <;> omega
end Go.Proofs.YtnkealfaldjipaaGreatDoor
namespace Go.Proofs.YtnkealfaldjipaaGreatDoor
open Go.Ax Go.Ax.Bg Go.Ax.Rt Go.RowKit Go.Ax.Idx Go.Ax.Cd
attribute [local irreducible] Ax zAM QOp zO zo
set_option maxRecDepth 100000
set_option maxHeartbeats 4000000
theorem zOd {t : zS} {p : Int} {s : zAT} (h : (zCT t p s).2 ≠ 0) : (zCT t p s).1 = [] := by
 unfold zCT at *
 split
 · rfl
 split
 · rfl
 rename_i h1 h2
 rw [if_neg h1, if_neg h2] at h
 cases ha : zGz (zAP t p) [[]] with
 | none => rfl
 | some l =>
   rw [ha] at h
   have h : (zCo s l).2 ≠ 0 := h
   show (zCo s l).1 = []
   unfold zCo at h ⊢
   split
   · rename_i h3; rw [if_pos h3] at h; exact absurd rfl h
   · rfl
theorem zRP {t : zS} {p : Int} {l : zBl} (h : zCj t p l = 0) : ShortX l := by
 obtain ⟨_, hO⟩ := zES h
 obtain ⟨h1, _, h3⟩ := hO.wgt
 have h4 : (zJ t p).length ≤ 10 := by
   unfold zJ
   exact Nat.le_trans (List.length_filter_le _ _) (by simp)
 exact ⟨by omega, fun a ha => by have := hO.len a ha; omega, fun a ha => by have := zPn (h1 a ha).1; omega⟩
theorem zQn {t : zS} {p : Int} {s : zAT} (h : zA8 t p s = 0) : ShortS s := by
 have hk := zC3 h
 have h4 : (zJ t p).length ≤ 10 := by
   unfold zJ
   exact Nat.le_trans (List.length_filter_le _ _) (by simp)
 have h5 : s.length = (zJ t p).length := by rw [← hk.infos, List.length_map]
 exact ⟨by omega, fun c hc => ⟨by have := (zBC (hk.odds c hc)).1; omega, fun r hr => by have := zPn ((zBC (hk.odds c hc)).2.1 r hr); omega⟩⟩
theorem zO9 {t : zS} {p : Int} (h : zAh t p = 0) : zMq t p = (zCm t p, 0) := by
 unfold zMq
 rw [if_neg (fun q => q h)]
theorem zJE (t : zS) (p : Int) (s : zAT) (hT : t.length ≤ 9223372036854775807 ∧ ∀ n ∈ t, ShortN n) (hs : s.length ≤ 9223372036854775807 ∧ ∀ c ∈ s, ShortC c) (hs47 : s.length ≤ 4398046511104) : zW Tryz.prog 8 [.ro (zd t) 0 t.length, .int .i64 p, .ro (z6 s) 0 s.length] (.bool true) := by
 have hS : ShortT t := ⟨hT.1, hT.2⟩
 have hSs : ShortS s := ⟨hs.1, hs.2⟩
 have c1 := zQU t hS
 have c2 := plain_ok [s] (by show 1 ≤ 1000000; decide) (by show ((s.length : Nat) : Int) + 0 ≤ 4398046511104; omega) (fun x hx => by rw [List.mem_singleton.1 hx]; exact hs.2)
 have c3 := zM2 t p s hS hSs
 refine zO.value0 (zF (P := Tryz.prog) (fn := Tryz.f8) rfl rfl (by kernel_rfl) rfl (fun c hR hfix => ?_)) (fix := fun _ => False) (fun _ h => h) rfl rfl
 refine rn0 ?_
 refine zE rfl rfl rfl zNi ?_
 refine rn5 ?_
 refine zE rfl rfl rfl c1 ?_
 cases hmo : zHd t
 · refine rn6 ?_
   exact zH hR rfl rfl
 have hm := zIm hmo
 refine rn5 ?_
 refine zN 20 (.ro (zIE [s]) 0 1) rfl (AEq.ro_in rfl (fun d j hd hj => ?_)) ?_
 · have hj : j < 1 := hj
   obtain rfl : j = 0 := by omega
   obtain rfl : d = 0 := by omega
   exact AEq.rfl'
 refine zE rfl rfl rfl c2 ?_
 cases hpl : zKa [s]
 · refine rn5 ?_
   exact zH hR rfl rfl
 have hda := zO5 hpl s (by simp)
 by_cases he : (zCT t p s).2 = 0
 case neg =>
   have hb := zOd he
   generalize zCT t p s = r at *
   obtain ⟨r1, r2⟩ := r
   simp only at hb he c3
   subst hb
   refine rn5 ?_
   refine zE rfl rfl rfl c3 ?_
   refine rn3 ?_
   rw [decide_eq_true (show ¬ r2 = 0 from he)]
   refine rn5 ?_
   exact zH hR rfl rfl
 have hM := zLJ hda he
 have hback := zOQ hda he
 generalize zCT t p s = r at *
 obtain ⟨m, r2⟩ := r
 simp only at he hM hback c3
 subst he
 have hX := zRP hM.conv
 have hpe := (zES hM.conv).1
 have c4 := zLl t p m hS hX
 have c5 := zOg t p hS
 rw [zO9 hpe] at c5
 simp only at c5
 by_cases hpf : zCm t p = true
 case neg =>
   have hbr : zIL t p m = ([], 10) := by
     unfold zIL
     rw [if_neg (fun q => q hM.conv), if_neg hpf]
   rw [hbr] at c4
   rw [show zCm t p = false by simpa using hpf] at c5
   refine rn5 ?_
   refine zE rfl rfl rfl c3 ?_
   refine rn4 ?_
   refine zE rfl rfl rfl c4 ?_
   refine rn2 ?_
   refine zE rfl rfl rfl c5 ?_
   refine rn5 ?_
   exact zH hR rfl rfl
 rw [hpf] at c5
 obtain ⟨u, hu1, hu2, hu3⟩ := hback hpf
 rw [hu1] at c4
 simp only at c4
 have c6 := zGC t p u hS.len (zQn hu2)
 rw [hu2] at c6
 have c7 := zLg s 40 [] zeroC rfl hs.1 (fun c hc => back1 c (hs.2 c hc))
 refine rn5 ?_
 refine zE rfl rfl rfl c3 ?_
 refine rn4 ?_
 refine zE rfl rfl rfl c4 ?_
 refine rn2 ?_
 refine zE rfl rfl rfl c5 ?_
 refine rn5 ?_
 refine zE rfl rfl rfl c6 ?_
 refine rn4 ?_
 refine zE rfl rfl rfl c7 ?_
 cases hz : s.any zeroC
 case true =>
   refine rn5 ?_
   exact zH hR rfl rfl
 have hus := hu3 (fun c hc hq => by
   rw [List.any_eq_false] at hz
   have := hz c hc
   apply this
   unfold zeroC
   rw [List.any_eq_true]
   exact ⟨_, hq, by unfold eqT; exact decide_eq_true rfl⟩)
 subst hus
 have c8 := eqFuncC u hs.1 43 (fun c hc => back2 c (hs.2 c hc))
 refine rn4 ?_
 refine zE rfl rfl rfl c8 ?_
 refine rn0 ?_
 exact zH hR rfl rfl
end Go.Proofs.YtnkealfaldjipaaGreatDoor
namespace Go.Proofs.YtnkealfaldjipaaGreatDoor
open Go.ChangeShapes Go.WideShapes
theorem ownIt : ownKnob Tryz.prog.godebug = none := by kernel_rfl
theorem laidIt : laidOutB Tryz.prog = true := by kernel_rfl
theorem zPE : mapsRowed Tryz.prog = true := by kernel_rfl
theorem fullIt : ((List.range Tryz.prog.types.size).all fun t => match Tryz.prog.underlying t with | some (.slice e) => decide (0 < Tryz.prog.cellsOf e) | _ => true) = true := by kernel_rfl
theorem stopsIt : (Tryz.prog.stops == []) = true := by kernel_rfl
theorem knobsIt : (Tryz.prog.stopKnobs == []) = true := by kernel_rfl
theorem heardIt : Tryz.prog.stopsHeard = true := by kernel_rfl
theorem enterIt : Tryz.prog.mayEnter = true := by kernel_rfl
theorem liftIt : (Rows.replyGetsRow.lifted == Tryz.prog.liftsFinal) = true := by kernel_rfl
theorem makeIt : (Tryz.prog.make == some Rows.replyGetsRow.make) = true := by kernel_rfl
theorem plainIt : (Rows.replyGetsRow.plainKeys == Tryz.prog.plainKeys) = true := by kernel_rfl
theorem zQ9 : Tryz.prog.mainIs = some (true, ("9a7b365347614a0287077179d20768685206a4b5ee48bcf94245b18e3653b2c2" : String).toList) := by kernel_rfl
theorem looksIt : true = Tryz.prog.looks [] := by kernel_rfl
end Go.Proofs.YtnkealfaldjipaaGreatDoor
