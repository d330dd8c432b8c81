/- PuzzleWins of the given program returns true for every input and leaves its arguments as they were; no conditions. -/
import Derived.Test.YtiifcejepaeepaaGreatDoorRows
import Derived.Test.YtiifcejepaeepaaGreatDoorTie
import Derived.Test.YtiifcejepaeepaaGreatDoorCards
import Derived.LaidMore
import Derived.Lay
import Derived.SevenTiedAt
import Derived.Stop.Joined
import Derived.Stop.ErrReads
import Derived.MakeChecks
import Derived.Test.YtiifcejepaeepaaGreatDoorY8
set_option linter.unusedVariables false
set_option linter.unusedSimpArgs false
namespace Go.Proofs.YtiifcejepaeepaaGreatDoor
open Go.Ax Go.ChangeShapes Go.WideShapes Go.ChangeAt Go.RowKit
theorem puzzleWins_pin {W : World} (h0 : laidMetH Tryz.prog Rows.puzzleWinsRow.laid W) : pinG W := by
 rw [MakeChecks.laidMetH_plain _ _ _ (by kernel_rfl)] at h0
 have h := h0
 exact ⟨trivial, Lib.tabIs_of_head (k := .u64) (zs := Lib.pow10Tab) (g := 0) (t := 201) (e := 184) (n := 20) (by kernel_rfl) (by kernel_rfl) Tryz.underlying201 Tryz.underlying184 (by kernel_rfl) (by kernel_rfl) (h.tail.tail), trivial⟩
set_option maxRecDepth 100000 in
theorem puzzleWins_lifted (os : Os) (started : os.Started) (H : Type) (enc : TypeId × Value → H) :
 ReturnsInHanded {} Tryz.checked os 12 .any (fun w args => (Rows.puzzleWinsSpec.pre enc Tryz.prog Tryz.f12 Rows.puzzleWinsRow.domain false w args ∧ laidMetH Tryz.prog Rows.puzzleWinsRow.laid w) ∧ sizedMet enc Tryz.prog Tryz.f12 (OpenSpec.ofChange Rows.puzzleWinsSpec) false w args)
  (Rows.puzzleWinsSpec.post enc Tryz.prog Tryz.f12 false true false false) := by
 refine returnsInHanded_of_change_and (C := Tryz.checked) (X := fun w _ => laidMetH Tryz.prog Rows.puzzleWinsRow.laid w) (fun _ _ _ hh h => h.of_heap hh) ownIt started (by kernel_rfl) Tryz.func12
  (ChangeSpec.witness_shaped (enc := enc) (C := Tryz.checked) (os := os) (X := fun w _ => laidMetH Tryz.prog Rows.puzzleWinsRow.laid w) false (World.laidAll Tryz.prog os Rows.puzzleWinsRow.laid) #[.agg #[.string ⟨#[]⟩, .int .i64 0, .int .i64 0, .slice none 0 0, .slice none 0 0, .bool false, .bool false, .slice none 0 0, .int .i64 0, .int .i64 0, .int .i64 0], .agg #[.slice none 0 0, .slice none 0 0, .slice none 0 0, .int .i64 0, .int .i64 0], .int .i64 0] 8 (World.laidAll_os _ _ _)
   (World.shaped_of_ZipB (by kernel_rfl) (by kernel_rfl)) (by kernel_rfl) (by kernel_rfl) (by kernel_rfl)
   (by rw [MakeChecks.laidMetH_plain _ _ _ (by kernel_rfl)]; exact laidMet_laidAll _ (by kernel_rfl) (by kernel_rfl))) ?_
 intro W base args ds gs before hval0 hW hcnd _ hL _
 have hval : ∀ (j : Nat) t v, Tryz.f12.params[j]? = some t → args[j]? = some v → Value.okWide Tryz.prog W .any base t v := hval0
 have hW' := hW
 obtain ⟨p, q, hA0, hV, rfl, hfz, hnd⟩ := hW
 have hA : DataW.TrodAll enc Tryz.prog W 0 (fun _ => true) true Tryz.f12.params.toList args.toList ds p := hA0
 rw [Tryz.params12] at hA hval
 obtain ⟨v0, vs0, d0, ds0, p0, q0, hargs, rfl, rfl, h0, r0⟩ := trodAll_cons hA
 obtain ⟨v1, vs1, d1, ds1, p1, q1, rfl, rfl, rfl, h1, r1⟩ := trodAll_cons r0
 obtain ⟨v2, vs2, d2, ds2, p2, q2, rfl, rfl, rfl, h2, r2⟩ := trodAll_cons r1
 obtain ⟨rfl, rfl, rfl⟩ := trodAll_nil r2
 obtain rfl : args = #[v0, v1, v2] := by cases args; simp_all
 obtain ⟨rfl, rfl⟩ := trodVars_none hV
 obtain ⟨cs0, rfl, _⟩ := okWide_struct Tryz.underlying26 (hval 0 26 v0 rfl rfl)
 obtain ⟨P0, hm0, hl0⟩ := Rd.agg rdRules h0
 obtain ⟨cs1, rfl, _⟩ := okWide_struct Tryz.underlying35 (hval 1 35 v1 rfl rfl)
 obtain ⟨P1, hm1, hl1⟩ := Rd.agg rdPos h1
 obtain ⟨n2, rfl, rfl, rfl, hw2⟩ := open_int Tryz.underlying3 (hval 2 3 v2 rfl rfl) h2
 have hl2 : VR W (fun b => b < W.heap.size) (fun _ => none) (.int .i64 n2) (.int .i64 n2) := .int _ _ _
 refine (zOn (zI1 P0 P1 n2 hm0 hm1) rfl (fun i hi => ?_) (pin_up (puzzleWins_pin hL))).mono fun e W' ⟨he, ho, hp, hk⟩ => ⟨_, he, ?_⟩
 ·match i, hi with
  | 0, _ => exact hl0
  | 1, _ => exact hl1
  | 2, _ => exact hl2
 ·exact zO1 (t := 4) hW' rfl rfl rfl Tryz.underlying4 laidIt zOK fullIt (by kernel_rfl) ho hp hk
theorem puzzleWins_j1 : Rows.puzzleWinsRow.wf (OpenSpec.ofChange Rows.puzzleWinsSpec) = true := by kernel_rfl
theorem puzzleWins_j2 : (Rows.puzzleWinsRow.inPlace == Tryz.prog.inPlace 12) = true := by kernel_rfl
theorem puzzleWins_j3 : (Rows.puzzleWinsRow.unfollowed == Tryz.prog.unfollowed 12) = true := by kernel_rfl
theorem puzzleWins_j4 : (Rows.puzzleWinsRow.recurses == Tryz.prog.recurses 12) = true := by kernel_rfl
theorem puzzleWins_j5 : (Rows.puzzleWinsRow.named == Tryz.prog.varsNamed 12) = true := by kernel_rfl
theorem puzzleWins_j6 : (Rows.puzzleWinsRow.lifted == Tryz.prog.liftsFinal) = true := liftIt
theorem puzzleWins_j7 : (Tryz.prog.make == some Rows.puzzleWinsRow.make) = true := makeIt
theorem puzzleWins_j8 : (Rows.puzzleWinsRow.plainKeys == Tryz.prog.plainKeys) = true := plainIt
theorem puzzleWins_joined : joinedFacts Tryz.prog 12 Tryz.f12 Rows.puzzleWinsSpec Rows.puzzleWinsRow = true := by
 unfold joinedFacts
 rw [puzzleWins_j1, laidIt, zOK, stopsIt, knobsIt, puzzleWins_j2, puzzleWins_j3, puzzleWins_j4, puzzleWins_j5, puzzleWins_j8, heardIt, enterIt, puzzleWins_j6, puzzleWins_j7]
 kernel_rfl
theorem puzzleWins_named : Tryz.prog.funcNamed Rows.puzzleWinsRow.func = some 12 := by kernel_rfl
theorem puzzleWins_inst : Tryz.f12.isInstance Tryz.prog Rows.puzzleWinsRow.origin Rows.puzzleWinsRow.targs := of_decide_eq_true (by kernel_rfl)
theorem puzzleWins_wrap : Tryz.f12.isWrapper Tryz.prog Rows.puzzleWinsRow.wrapper Rows.puzzleWinsRow.mainSum := by unfold Func.isWrapper; first | (rw [if_pos (by decide +kernel)]; kernel_rfl) | (rw [if_neg (by decide +kernel)]; exact ⟨rfl, rfl⟩)
theorem puzzleWins_holds : Rows.PuzzleWinsSaid :=
 OpenClaim.holds_of_wide 12 Tryz.f12 rfl rfl rfl rfl rfl rfl rfl ⟨rfl, rfl, rfl, rfl, rfl⟩ rfl rfl rfl rfl rfl puzzleWins_named Tryz.func12 puzzleWins_joined
  puzzleWins_inst puzzleWins_wrap
  (fun os started H enc _ => puzzleWins_lifted os started H enc)
theorem puzzleWins_c1 : Rows.puzzleWinsRow.wfByText (OpenSpec.ofChange Rows.puzzleWinsSpec) = true := by kernel_rfl
theorem puzzleWins_c2 : ([26, 35, 3].all fun u => !Tryz.prog.wantsStandIn u) = true := by kernel_rfl
theorem puzzleWins_c3 : false = Rows.puzzleWinsRow.goesBy Tryz.prog := by kernel_rfl
theorem puzzleWins_card : Rows.PuzzleWinsCardSaid :=
 Claim7.holds_tied_plain_at .later [] [.data, .data, .data] true (true, "2ce54dd2d931fe3267d45603db6cf7fe51a52f562ad782d581866e6a342fe84b") false
  puzzleWins_holds (fun _ h => by cases h) puzzleWins_c1 (fun _ h => by cases h) puzzleWins_row_tie rfl ⟨rfl, rfl⟩ zOk rfl
  (fun f fn hf hfn => by
   obtain rfl : f = 12 := Option.some.inj (puzzleWins_named.symm.trans hf) |>.symm
   obtain rfl : fn = Tryz.f12 := (Option.some.inj (Tryz.func12.symm.trans hfn)).symm
   exact ⟨looksIt, fun j t ht => by
    rw [Tryz.params12] at ht
    have hm : t ∈ [26, 35, 3] := by simpa using Array.mem_of_getElem? ht
    exact (show Tryz.prog.wantsStandIn t = false by simpa using List.all_eq_true.1 puzzleWins_c2 t hm)⟩)
  puzzleWins_c3
end Go.Proofs.YtiifcejepaeepaaGreatDoor
