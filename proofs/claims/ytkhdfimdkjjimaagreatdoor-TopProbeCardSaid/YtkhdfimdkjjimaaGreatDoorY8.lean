import Derived.Test.YtkhdfimdkjjimaaGreatDoorY7
set_option linter.unusedVariables false
set_option linter.unusedSimpArgs false
set_option maxRecDepth 100000
set_option maxHeartbeats 4000000
namespace Go.Proofs.YtkhdfimdkjjimaaGreatDoor
open Go.Ax Go.Ax.Gm Go.RowKit Go.Ax.Idx Go.Ax.Cd
attribute [local irreducible] Ax zCT QOp zd
theorem at_yes {T : Tab} {i : Nat} (hi : i < T.l.length) : atE T (i : Int) = 0 ∧ atP T (i : Int) = T.l.getD i zq ∧ atX T (i : Int) = zAx T i := by
 have e : atE T (i : Int) = 0 := by unfold atE; rw [if_neg (by omega)]
 exact ⟨e, by unfold atP; rw [e, if_neg (by decide), Int.toNat_natCast], by unfold atX; rw [e, if_neg (by decide), Int.toNat_natCast]⟩
/-- TopProbe -/
theorem TopProbe_law (r : Go.Ax.Gm.Rules) (hr0 : Lens r) : zl Tryz.prog 4 [ruA r] (.bool true) := by
 obtain ⟨s, hs⟩ : ∃ s : Go.Ax.Gm.Rules, { r with rep := 0 } = s := ⟨_, rfl⟩
 have hr : Lens s := by subst hs; exact ⟨hr0.name, hr0.pcs, hr0.ways, hr0.start, hr0.ends⟩
 have hrep : s.rep = 0 := by subst hs; rfl
 have hset : (ruC r).set 10 (.int .i64 0) = ruC s := by subst hs; rfl
 clear hs
 refine zd.value0 (zL (P := Tryz.prog) (fn := Tryz.f4) U U (by kernel_rfl) U (fun c hR hfix => ?_)) (fix := fun _ => False) (fun _ h => h) U U
 refine rn6 ?_
 refine zQ U U U zJQ ?_
 repeat (first | refine zC ?_ | refine zB ?_ | refine zY ?_ | refine zAV rfl ?_ | refine zAP ?_ | refine zA (zDl rfl) ?_)
 refine zJ U ?_
 repeat (first | refine zC ?_ | refine zB ?_ | refine zY ?_ | refine zA (zO rfl rfl rfl rfl rfl rfl) ?_ | refine zAJ rfl rfl rfl rfl rfl rfl rfl Nat.zero_lt_one ?_)
 refine zAK [ruO s] (congrArg (fun L => [some (AObj.mk 26 (.box L))]) hset) ?_
 refine zBi 1 [] U ⟨U, trivial⟩ trivial U hfix ?_
 refine rn6 ?_
 rcases shown_ok s hr with cs | ⟨x, hx, cs⟩
 ·refine zQ U U U cs ?_
  refine rn5 ?_
  exact zN hR U U
 have hT := hx.tab
 have cpn := pnew_ok s hr x hx.e hx.g
 obtain ⟨T, eT⟩ : ∃ T, zDd s x = T := ⟨_, rfl⟩
 have er : T.r = s := by rw [← eT]; rfl
 rw [eT] at hT cs cpn
 clear eT hx
 subst er
 have hpos := hT.G.fst.2
 have h00 := hT.G.fst.1
 have ca := at_ok T hT ((0 : Nat) : Int)
 obtain ⟨a1, a2, a3⟩ := at_yes hpos
 rw [a1, a2, a3] at ca
 have S := (hT.sound hpos).1
 obtain ⟨hin, hen⟩ := hT.in_at hpos
 obtain ⟨l1, l2, l3⟩ := hT.line_ok 60 S hin
 have hll := line_len T 60 (T.l.getD 0 zq)
 have cli := pline_ok T hT hr (T.l.getD 0 zq) S hin 60 (by decide)
 rw [hen] at l2 l3
 have crn := fun (h : zMB T.r (zBo T 60 (T.l.getD 0 zq)) (z7 T.r)) => grun_ok T.r hr hT.z hrep (zBo T 60 (T.l.getD 0 zq)) (by omega) h
 rw [← h00] at crn
 have crn := crn l1
 clear hin hen a1 a2 a3 h00
 generalize hP : T.l.getD 0 zq = P at *
 generalize zAx T 0 = e at *
 generalize zBo T 60 P = X at *
 generalize zEu T.r X P = E at *
 generalize zb T.r E = o at *
 have ca : zl Tryz.prog _ [zDx T, .int .i64 0] (.tup [poA P, entA e, .int .i64 0]) := ca
 have cli : zl Tryz.prog _ [zFz T, poA P, .int .i64 60] (.tup [zBP X, .int .i64 0]) := cli
 refine zQ U U U cs ?_
 refine rn5 ?_
 refine zQ U U U ca ?_
 refine rn4 ?_
 refine zZ (poC P) U U U U U U U ?_
 skip
 refine zZ (zB6 e) U U U U U U U ?_
 refine zBG ?_
 refine zCp 5 6 [(1, .rp (.box (ruC T.r)) 0 0), (7, .int .i64 0)] U U U U ⟨U, U, trivial⟩ ⟨U, U, U, U, trivial⟩ U hfix ?_
 refine rn6 ?_
 refine zQ U U U cpn ?_
 refine rn3 ?_
 refine zQ U U U (zM7 [0, 0] (by decide)) ?_
 repeat (first | refine zA (zG rfl) ?_ | refine zC ?_ | refine zB ?_ | refine zY ?_ | refine zJ rfl ?_ | refine zx rfl rfl ?_ | refine zAV rfl ?_ | refine zAP ?_ | refine zA (zDl rfl) ?_ | refine zA (zi rfl rfl) ?_ | refine zA (zm rfl rfl rfl rfl rfl rfl) ?_ | refine zA (zK7 rfl rfl rfl rfl) ?_)
 refine zQ U U U cli ?_
 refine rn6 ?_
 refine zQ U U U crn ?_
 refine rn4 ?_
 refine zZ (poC E) U U U U U U U ?_
 refine rn3 ?_
 refine zQ U U U (zM7 [0, 0] (by decide)) ?_
 repeat (first | refine zC ?_ | refine zB ?_ | refine zY ?_ | refine zJ rfl ?_ | refine zAV rfl ?_ | refine zAP ?_ | refine zA (zBp rfl rfl) ?_ | refine zA (zDl rfl) ?_ | refine zA (zD rfl rfl rfl rfl) ?_ | refine zA (zK rfl rfl rfl rfl rfl rfl) ?_)
 refine zF U (fun c1 => ?_) (fun c1 => ?_)
 ·have c1 : e.1 = 3 := c1
  refine rn4 ?_
  rcases l2 c1 with rfl | rfl
  ·refine rn6 ?_
   exact zN hR U U
  ·refine rn4 ?_
   exact zN hR U U
 have c1 : ¬ e.1 = 3 := c1
 repeat (first | refine zA (zG rfl) ?_ | refine zB ?_ | refine zY ?_ | refine zJ rfl ?_ | refine zAP ?_ | refine zA (zCa rfl rfl) ?_ | refine zA (zD rfl rfl rfl rfl) ?_ | refine zA (zK rfl rfl rfl rfl rfl rfl) ?_)
 refine zj U U (fun c2 => ?_) (fun c2 => ?_)
 ·refine rn14 ?_
  exact zN hR U U
 have c2 : ¬ e.2 > 60 := c2
 obtain ⟨d1, d2⟩ := l3 c1 (by show e.2 ≤ ((60 : Nat) : Int); omega)
 refine zBG ?_
 rw [decide_eq_true d1]
 refine zBG ?_
 rw [d2]
 exact zN hR U (congrArg AV.bool (decide_eq_true U))
end Go.Proofs.YtkhdfimdkjjimaaGreatDoor
namespace Go.Proofs.YtkhdfimdkjjimaaGreatDoor
open Go.Ax Go.Ax.Gm Go.RowKit
theorem rdWay {H : Type} {enc : TypeId × Value → H} {W : World} : Rd enc Tryz.prog W 105 4 zF5 (fun _ => True) :=
 (Rd.struct Tryz.underlying105 (by kernel_rfl) (RdF.cons rfl rfl (Rd.int Tryz.underlying3) (RdF.cons rfl rfl (Rd.int Tryz.underlying3) (RdF.cons rfl rfl (Rd.int Tryz.underlying3) (RdF.cons rfl rfl (Rd.int Tryz.underlying3) RdF.nil))))).map
  (fun a => (⟨a.1, a.2.1, a.2.2.1, a.2.2.2.1⟩ : Go.Ax.Gm.Way)) (fun a h => trivial) (fun a => rfl) (fun a i hi => AEq.rfl')
theorem rdPc {H : Type} {enc : TypeId × Value → H} {W : World} : Rd enc Tryz.prog W 94 4 pcC (fun p => p.ways.length ≤ 9223372036854775807) :=
 (Rd.struct Tryz.underlying94 (by kernel_rfl) (RdF.cons rfl rfl (Rd.int Tryz.underlying5) (RdF.cons rfl rfl (Rd.int Tryz.underlying3) (RdF.cons rfl rfl (Rd.int Tryz.underlying3) (RdF.cons rfl rfl (Rd.slice way0 Tryz.underlying92 (by kernel_rfl) rfl rdWay) RdF.nil))))).map
  (fun a => (⟨a.1, a.2.1, a.2.2.1, a.2.2.2.1⟩ : Go.Ax.Gm.Pc)) (fun a h => h.2.2.2.1.1) (fun a => rfl) (fun a i hi => AEq.rfl')
theorem rdEn {H : Type} {enc : TypeId × Value → H} {W : World} : Rd enc Tryz.prog W 96 4 enC (fun _ => True) :=
 (Rd.struct Tryz.underlying96 (by kernel_rfl) (RdF.cons rfl rfl (Rd.int Tryz.underlying3) (RdF.cons rfl rfl (Rd.int Tryz.underlying3) (RdF.cons rfl rfl (Rd.int Tryz.underlying3) (RdF.cons rfl rfl (Rd.bool Tryz.underlying4) RdF.nil))))).map
  (fun a => (⟨a.1, a.2.1, a.2.2.1, a.2.2.2.1⟩ : Go.Ax.Gm.En)) (fun a h => trivial) (fun a => rfl) (fun a i hi => AEq.rfl')
theorem rdRules {H : Type} {enc : TypeId × Value → H} {W : World} : Rd enc Tryz.prog W 26 11 ruC Lens :=
 (Rd.struct Tryz.underlying26 (by kernel_rfl) (RdF.cons rfl rfl (Rd.str Tryz.underlying9) (RdF.cons rfl rfl (Rd.int Tryz.underlying3) (RdF.cons rfl rfl (Rd.int Tryz.underlying3) (RdF.cons rfl rfl (Rd.slice pc0 Tryz.underlying22 (by kernel_rfl) rfl rdPc) (RdF.cons rfl rfl (Rd.ints Tryz.underlying23 (by kernel_rfl) Tryz.underlying3) (RdF.cons rfl rfl (Rd.bool Tryz.underlying4) (RdF.cons rfl rfl (Rd.bool Tryz.underlying4) (RdF.cons rfl rfl (Rd.slice en0 Tryz.underlying24 (by kernel_rfl) rfl rdEn) (RdF.cons rfl rfl (Rd.int Tryz.underlying3) (RdF.cons rfl rfl (Rd.int Tryz.underlying3) (RdF.cons rfl rfl (Rd.int Tryz.underlying3) RdF.nil)))))))))))).map
  (fun a => (⟨a.1, a.2.1, a.2.2.1, a.2.2.2.1, a.2.2.2.2.1, a.2.2.2.2.2.1, a.2.2.2.2.2.2.1, a.2.2.2.2.2.2.2.1, a.2.2.2.2.2.2.2.2.1, a.2.2.2.2.2.2.2.2.2.1, a.2.2.2.2.2.2.2.2.2.2.1⟩ : Go.Ax.Gm.Rules))
  (fun a h => ⟨h.1, h.2.2.2.1.1, h.2.2.2.1.2, h.2.2.2.2.1.1, h.2.2.2.2.2.2.2.1.1⟩) (fun a => rfl) (fun a i hi => AEq.rfl')
end Go.Proofs.YtkhdfimdkjjimaaGreatDoor
