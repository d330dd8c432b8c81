import Derived.Test.YtkhdfimdkjjimaaGreatDoorY7
set_option linter.unusedVariables false
set_option linter.unusedSimpArgs false
set_option maxRecDepth 100000
set_option maxHeartbeats 4000000
namespace Go.Proofs.YtkhdfimdkjjimaaGreatDoor
open Go.Ax Go.Ax.Gm Go.RowKit Go.Ax.Idx Go.Ax.Cd
attribute [local irreducible] Ax zCT QOp zd
theorem at_yes {T : Tab} {i : Nat} (hi : i < T.l.length) : atE T (i : Int) = 0 ∧ atP T (i : Int) = T.l.getD i zq ∧ atX T (i : Int) = zAx T i := by
 have e : atE T (i : Int) = 0 := by unfold atE; rw [if_neg (by omega)]
 exact ⟨e, by unfold atP; rw [e, if_neg (by decide), Int.toNat_natCast], by unfold atX; rw [e, if_neg (by decide), Int.toNat_natCast]⟩
theorem zL9 {r : Go.Ax.Gm.Rules} {p : Pos} (h : zBC r p = 0) : zBT r p 3 = 17 ∨ zBT r p 3 = 0 := by
 unfold zBT
 rw [if_neg (fun c => c h), if_neg (by decide)]
 split
 ·exact .inl U
 ·exact .inr U
theorem want_if (t : Int) (e : Ent) : zKZ t e = if e.1 ≠ 3 ∧ e.2 ≤ 3 then (if (!(decide (e.1 = 1) == decide (t = 0))) = true then -(1000 - e.2) else 1000 - e.2) else 0 := by
 unfold zKZ
 congr 1
 cases decide (e.1 = 1) <;> cases decide (t = 0) <;> simp
/-- TopTables -/
theorem zJg (r : Go.Ax.Gm.Rules) (l : List Int) (hr : Lens r) (hl : l.length ≤ 9223372036854775807) : zl Tryz.prog 3 [ruA r, .ro (.ints .i64 l) 0 l.length] (.bool true) := by
 rcases shown_ok r hr with cs | ⟨x, hx, cs⟩
 ·refine zd.value0 (zL (P := Tryz.prog) (fn := Tryz.f3) U U (by kernel_rfl) U (fun c hR hfix => ?_)) (fix := fun _ => False) (fun _ h => h) U U
  refine rn6 ?_
  refine zQ U U U zJQ ?_
  refine rn6 ?_
  refine zQ U U U cs ?_
  refine rn5 ?_
  exact zN hR U U
 have hT := hx.tab
 have hxl := hx.len
 have hxl : (zDd r x).l.length ≤ 500 := hxl
 obtain ⟨T, eT⟩ : ∃ T, zDd r x = T := ⟨_, rfl⟩
 have er : T.r = r := by rw [← eT]; rfl
 rw [eT] at hT cs hxl
 clear eT hx
 subst er
 have hpos := hT.G.fst.2
 refine zd.value0 (zL (P := Tryz.prog) (fn := Tryz.f3) U U (by kernel_rfl) U (fun c hR hfix => ?_)) (fix := fun _ => False) (fun _ h => h) U U
 refine zY ?_
 repeat (first | refine zA (zM rfl) ?_ | refine zC ?_ | refine zB ?_ | refine zJ rfl ?_ | refine zAO rfl rfl ?_)
 refine zBi 2 [(1, .ro (.ints .i64 l) 0 l.length)] U ⟨U, U, trivial⟩ ⟨U, trivial⟩ U hfix ?_
 refine rn0 ?_
 refine zQ U U U zJQ ?_
 refine rn6 ?_
 refine zQ U U U cs ?_
 repeat (first | refine zA (zG rfl) ?_ | refine zA (zM rfl) ?_ | refine zC ?_ | refine zB ?_ | refine zY ?_ | refine zJ rfl ?_ | refine zAV rfl ?_ | refine zAX ?_ | refine zAP ?_ | refine zA (zDl rfl) ?_ | refine zA (zAC rfl rfl) ?_ | refine zA (zBK rfl rfl rfl) ?_ | refine zA (zFM rfl rfl rfl rfl rfl rfl rfl (by omega)) ?_ | refine zA (zKT rfl rfl) ?_)
 obtain ⟨cnt, hcnt⟩ : ∃ cnt : Nat, ((if (6 : Int) < ((l.length : Nat) : Int) then 6 else ((l.length : Nat) : Int)) - ((0 : Nat) : Int)).toNat = cnt := ⟨_, rfl⟩
 have hcl : cnt ≤ l.length := by
  rw [← hcnt]; split <;> omega
 refine zAA (ι := Nat) (fun j => [(2, .rp (.box (ruC T.r)) 0 0), (5, zDx T), (30, .ro (.ints .i64 l) 0 cnt), (31, iN cnt), (32, iN j)]) (fun _ => []) (fun j => j ≤ cnt) (fun j => cnt - j) 0 ⟨⟨U, U, by rw [← hcnt]; rfl, by rw [← hcnt]; rfl, U, trivial⟩, U, Nat.zero_le _⟩ ?_
 intro j hj
 refine rn4 ?_
 refine zF U (fun g => ?_) (fun g => ?_)
 rotate_left
 ·refine rn5 ?_
  exact zN hR U U
 have hj' : j < cnt := by omega
 have hjl : j < l.length := by omega
 obtain ⟨i, hi, cp⟩ := shPickN (l.getD j 0) T.l.length ⟨hpos, by omega⟩
 have ca := at_ok T hT (i : Int)
 obtain ⟨a1, a2, a3⟩ := at_yes hi
 rw [a1, a2, a3] at ca
 have S := (hT.sound hi).1
 have hlp := (zGJ hT hi).len
 have hpz := zEK hT.z S
 have cm := all_ok T.r hr (T.l.getD i zq) hlp
 rw [hpz, if_neg (fun d => d rfl)] at cm
 have csc : zl Tryz.prog 11 [ruA T.r, poA (T.l.getD i zq), .int .i64 3] (.tup [.int .i64 (zFP T.r (T.l.getD i zq) 3).1, .int .i64 (zFP T.r (T.l.getD i zq) 3).2]) := zML T.r hr (T.l.getD i zq) hlp 3 (by decide) hpz
 obtain ⟨hin, hen⟩ := hT.in_at hi
 have hsc := hT.score_table 3 (p := T.l.getD i zq) (by decide) hin
 have hrr := hT.res_range hin
 have hpl := hT.plies_q hin
 have htn := hT.turn01 hin
 have hml := zDX hT.v S
 rw [hen] at hsc hrr hpl
 rw [show ((3 : Nat) : Int) = 3 from rfl, ← want_val htn hrr] at hsc
 have hpe := zL9 hpz
 have hE : zFP T.r (T.l.getD i zq) 3 = if zBT T.r (T.l.getD i zq) 3 ≠ 0 then (0, zBT T.r (T.l.getD i zq) 3) else (zAg T.r 3 (T.l.getD i zq), 0) := rfl
 rw [hsc] at hE
 clear hsc hin hen hpz a1 a2 a3
 generalize zBT T.r (T.l.getD i zq) 3 = pe at *
 generalize zFP T.r (T.l.getD i zq) 3 = sc at *
 generalize zr T.r (T.l.getD i zq) = ms at *
 have hwq := want_if (T.l.getD i zq).turn (zAx T i)
 generalize hP : T.l.getD i zq = P at *
 generalize zAx T i = e at *
 refine rn6 ?_
 refine zQ U U U (zHP T) ?_
 skip
 refine zQ U U U cp ?_
 skip
 refine zQ U U U ca ?_
 refine rn4 ?_
 refine zZ (poC P) U U U U U U U ?_
 skip
 refine zZ (zB6 e) U U U U U U U ?_
 refine zBG ?_
 refine zCp 9 10 [(11, .int .i64 0), (2, .rp (.box (ruC T.r)) 0 0), (5, zDx T), (30, .ro (.ints .i64 l) 0 cnt), (31, iN cnt), (32, iN j)] U U U U ⟨U, U, U, U, U, U, trivial⟩ ⟨U, U, U, U, U, U, U, U, trivial⟩ U hfix ?_
 refine rn6 ?_
 refine zQ U U U cm ?_
 refine rn6 ?_
 refine zF U (fun w => ?_) (fun w => ?_)
 ·refine rn5 ?_
  exact zR ⟨j + 1, by omega, by omega, ⟨U, U, U, U, U, trivial⟩, U⟩
 refine rn6 ?_
 refine zQ U U U csc ?_
 rcases hpe with hpe | hpe
 ·rw [hpe, if_pos (by decide)] at hE
  subst hE
  refine rn5 ?_
  exact zR ⟨j + 1, by omega, by omega, ⟨U, U, U, U, U, trivial⟩, U⟩
 rw [hpe, if_neg (by decide)] at hE
 subst hE
 repeat (first | refine zA (zG rfl) ?_ | refine zA (zM rfl) ?_ | refine zC ?_ | refine zB ?_ | refine zY ?_ | refine zJ rfl ?_ | refine zAV rfl ?_ | refine zAP ?_ | refine zA (zBp rfl rfl) ?_ | refine zA (zBh rfl rfl) ?_ | refine zA (zAC rfl rfl) ?_ | refine zA (zD rfl rfl rfl rfl) ?_ | refine zA (zK rfl rfl rfl rfl rfl rfl) ?_)
 apply zAL (H := []) [(9, .rp (.box (poC P)) 0 0), (10, .rp (.box (zB6 e)) 0 0), (11, .int .i64 0), (2, .rp (.box (ruC T.r)) 0 0), (5, zDx T), (30, .ro (.ints .i64 l) 0 cnt), (31, iN cnt), (32, iN j), (14, .int .i64 (zKZ P.turn e)), (15, .int .i64 0), (16, .int .i64 (zKZ P.turn e))]
 ·intro fin
  refine zj U U (fun c1 => ?_) (fun c1 => ?_)
  ·have c1 : ¬ e.1 = 3 := c1
   repeat (first | refine zC ?_ | refine zB ?_ | refine zx rfl rfl ?_ | refine zA (q_leq rfl rfl) ?_ | refine zA (zi rfl rfl) ?_ | refine zA (zD rfl rfl rfl rfl) ?_ | refine zA (zK rfl rfl rfl rfl rfl rfl) ?_)
   refine zF U (fun c2 => ?_) (fun c2 => ?_)
   ·have c2 : e.2 ≤ 3 := c2
    rw [if_pos ⟨c1, c2⟩] at hwq
    repeat (first | refine zA (zM rfl) ?_ | refine zC ?_ | refine zB ?_ | refine zY ?_ | refine zJ rfl ?_ | refine zA (zBp rfl rfl) ?_ | refine zA (zA1 rfl rfl (by omega)) ?_ | refine zA (zD rfl rfl rfl rfl) ?_ | refine zA (zK rfl rfl rfl rfl rfl rfl) ?_ | refine zA (zOS rfl rfl rfl) ?_)
    refine zAQ U (fun b1 => ?_) (fun b1 => ?_)
    ·have b1 : (!(decide (e.1 = 1) == decide (P.turn = 0))) = true := b1
     rw [if_pos b1] at hwq
     repeat (first | refine zA (zG rfl) ?_ | refine zJ rfl ?_)
     refine zA (q_neg U (by omega)) ?_
     refine zE6 ?_
     exact fin _ ⟨U, U, U, U, U, U, U, U, U, U, by rw [hwq]; rfl, trivial⟩
    ·have b1 : (!(decide (e.1 = 1) == decide (P.turn = 0))) = false := b1
     rw [b1, if_neg (by decide)] at hwq
     refine zE6 ?_
     exact fin _ ⟨U, U, U, U, U, U, U, U, U, U, by rw [hwq]; rfl, trivial⟩
   ·have c2 : ¬ e.2 ≤ 3 := c2
    rw [if_neg (fun d => c2 d.2)] at hwq
    refine zE6 ?_
    exact fin _ ⟨U, U, U, U, U, U, U, U, U, U, by rw [hwq]; rfl, trivial⟩
  ·have c1 : ¬ ¬ e.1 = 3 := c1
   rw [if_neg (fun d => c1 d.1)] at hwq
   refine zE6 ?_
   exact fin _ ⟨U, U, U, U, U, U, U, U, U, U, by rw [hwq]; rfl, trivial⟩
 refine rn3 ?_
 refine zQ U U U (zM7 [0, 0] (by decide)) ?_
 refine rn5 ?_
 refine zF U (fun w2 => absurd U w2) (fun w2 => ?_)
 refine rn5 ?_
 exact zR ⟨j + 1, by omega, by omega, ⟨U, U, U, U, U, trivial⟩, U⟩
end Go.Proofs.YtkhdfimdkjjimaaGreatDoor
namespace Go.Proofs.YtkhdfimdkjjimaaGreatDoor
open Go.Ax Go.Ax.Gm Go.RowKit
theorem rdWay {H : Type} {enc : TypeId × Value → H} {W : World} : Rd enc Tryz.prog W 105 4 zF5 (fun _ => True) :=
 (Rd.struct Tryz.underlying105 (by kernel_rfl) (RdF.cons rfl rfl (Rd.int Tryz.underlying3) (RdF.cons rfl rfl (Rd.int Tryz.underlying3) (RdF.cons rfl rfl (Rd.int Tryz.underlying3) (RdF.cons rfl rfl (Rd.int Tryz.underlying3) RdF.nil))))).map
  (fun a => (⟨a.1, a.2.1, a.2.2.1, a.2.2.2.1⟩ : Go.Ax.Gm.Way)) (fun a h => trivial) (fun a => rfl) (fun a i hi => AEq.rfl')
theorem rdPc {H : Type} {enc : TypeId × Value → H} {W : World} : Rd enc Tryz.prog W 94 4 pcC (fun p => p.ways.length ≤ 9223372036854775807) :=
 (Rd.struct Tryz.underlying94 (by kernel_rfl) (RdF.cons rfl rfl (Rd.int Tryz.underlying5) (RdF.cons rfl rfl (Rd.int Tryz.underlying3) (RdF.cons rfl rfl (Rd.int Tryz.underlying3) (RdF.cons rfl rfl (Rd.slice way0 Tryz.underlying92 (by kernel_rfl) rfl rdWay) RdF.nil))))).map
  (fun a => (⟨a.1, a.2.1, a.2.2.1, a.2.2.2.1⟩ : Go.Ax.Gm.Pc)) (fun a h => h.2.2.2.1.1) (fun a => rfl) (fun a i hi => AEq.rfl')
theorem rdEn {H : Type} {enc : TypeId × Value → H} {W : World} : Rd enc Tryz.prog W 96 4 enC (fun _ => True) :=
 (Rd.struct Tryz.underlying96 (by kernel_rfl) (RdF.cons rfl rfl (Rd.int Tryz.underlying3) (RdF.cons rfl rfl (Rd.int Tryz.underlying3) (RdF.cons rfl rfl (Rd.int Tryz.underlying3) (RdF.cons rfl rfl (Rd.bool Tryz.underlying4) RdF.nil))))).map
  (fun a => (⟨a.1, a.2.1, a.2.2.1, a.2.2.2.1⟩ : Go.Ax.Gm.En)) (fun a h => trivial) (fun a => rfl) (fun a i hi => AEq.rfl')
theorem rdRules {H : Type} {enc : TypeId × Value → H} {W : World} : Rd enc Tryz.prog W 26 11 ruC Lens :=
 (Rd.struct Tryz.underlying26 (by kernel_rfl) (RdF.cons rfl rfl (Rd.str Tryz.underlying9) (RdF.cons rfl rfl (Rd.int Tryz.underlying3) (RdF.cons rfl rfl (Rd.int Tryz.underlying3) (RdF.cons rfl rfl (Rd.slice pc0 Tryz.underlying22 (by kernel_rfl) rfl rdPc) (RdF.cons rfl rfl (Rd.ints Tryz.underlying23 (by kernel_rfl) Tryz.underlying3) (RdF.cons rfl rfl (Rd.bool Tryz.underlying4) (RdF.cons rfl rfl (Rd.bool Tryz.underlying4) (RdF.cons rfl rfl (Rd.slice en0 Tryz.underlying24 (by kernel_rfl) rfl rdEn) (RdF.cons rfl rfl (Rd.int Tryz.underlying3) (RdF.cons rfl rfl (Rd.int Tryz.underlying3) (RdF.cons rfl rfl (Rd.int Tryz.underlying3) RdF.nil)))))))))))).map
  (fun a => (⟨a.1, a.2.1, a.2.2.1, a.2.2.2.1, a.2.2.2.2.1, a.2.2.2.2.2.1, a.2.2.2.2.2.2.1, a.2.2.2.2.2.2.2.1, a.2.2.2.2.2.2.2.2.1, a.2.2.2.2.2.2.2.2.2.1, a.2.2.2.2.2.2.2.2.2.2.1⟩ : Go.Ax.Gm.Rules))
  (fun a h => ⟨h.1, h.2.2.2.1.1, h.2.2.2.1.2, h.2.2.2.2.1.1, h.2.2.2.2.2.2.2.1.1⟩) (fun a => rfl) (fun a i hi => AEq.rfl')
end Go.Proofs.YtkhdfimdkjjimaaGreatDoor
