/- PuzzleRefuses of the given program returns true for every input and leaves its arguments as they were; no conditions. -/
import Derived.Test.YtiifcejepaeepaaGreatDoorRows
import Derived.Test.YtiifcejepaeepaaGreatDoorTie
import Derived.Test.YtiifcejepaeepaaGreatDoorCards
import Derived.LaidMore
import Derived.Lay
import Derived.SevenTiedAt
import Derived.Stop.Joined
import Derived.Stop.ErrReads
import Derived.MakeChecks
import Derived.Test.YtiifcejepaeepaaGreatDoorY8
set_option linter.unusedVariables false
set_option linter.unusedSimpArgs false
namespace Go.Proofs.YtiifcejepaeepaaGreatDoor
open Go.Ax Go.ChangeShapes Go.WideShapes Go.ChangeAt Go.RowKit
theorem puzzleRefuses_pin {W : World} (h0 : laidMetH Tryz.prog Rows.puzzleRefusesRow.laid W) : pinG W := by
 rw [MakeChecks.laidMetH_plain _ _ _ (by kernel_rfl)] at h0
 have h := h0
 exact ⟨trivial, Lib.tabIs_of_head (k := .u64) (zs := Lib.pow10Tab) (g := 0) (t := 201) (e := 184) (n := 20) (by kernel_rfl) (by kernel_rfl) Tryz.underlying201 Tryz.underlying184 (by kernel_rfl) (by kernel_rfl) (h.tail.tail), trivial⟩
set_option maxRecDepth 100000 in
theorem puzzleRefuses_lifted (os : Os) (started : os.Started) (H : Type) (enc : TypeId × Value → H) :
 ReturnsInHanded {} Tryz.checked os 9 .any (fun w args => (Rows.puzzleRefusesSpec.pre enc Tryz.prog Tryz.f9 Rows.puzzleRefusesRow.domain false w args ∧ laidMetH Tryz.prog Rows.puzzleRefusesRow.laid w) ∧ sizedMet enc Tryz.prog Tryz.f9 (OpenSpec.ofChange Rows.puzzleRefusesSpec) false w args)
  (Rows.puzzleRefusesSpec.post enc Tryz.prog Tryz.f9 false true false false) := by
 refine returnsInHanded_of_change_and (C := Tryz.checked) (X := fun w _ => laidMetH Tryz.prog Rows.puzzleRefusesRow.laid w) (fun _ _ _ hh h => h.of_heap hh) ownIt started (by kernel_rfl) Tryz.func9
  (ChangeSpec.witness_shaped (enc := enc) (C := Tryz.checked) (os := os) (X := fun w _ => laidMetH Tryz.prog Rows.puzzleRefusesRow.laid w) false (World.laidAll Tryz.prog os Rows.puzzleRefusesRow.laid) #[.agg #[.string ⟨#[]⟩, .int .i64 0, .int .i64 0, .slice none 0 0, .slice none 0 0, .bool false, .bool false, .slice none 0 0, .int .i64 0, .int .i64 0, .int .i64 0], .agg #[.slice none 0 0, .slice none 0 0, .slice none 0 0, .int .i64 0, .int .i64 0], .int .i64 0] 8 (World.laidAll_os _ _ _)
   (World.shaped_of_ZipB (by kernel_rfl) (by kernel_rfl)) (by kernel_rfl) (by kernel_rfl) (by kernel_rfl)
   (by rw [MakeChecks.laidMetH_plain _ _ _ (by kernel_rfl)]; exact laidMet_laidAll _ (by kernel_rfl) (by kernel_rfl))) ?_
 intro W base args ds gs before hval0 hW hcnd _ hL _
 have hval : ∀ (j : Nat) t v, Tryz.f9.params[j]? = some t → args[j]? = some v → Value.okWide Tryz.prog W .any base t v := hval0
 have hW' := hW
 obtain ⟨p, q, hA0, hV, rfl, hfz, hnd⟩ := hW
 have hA : DataW.TrodAll enc Tryz.prog W 0 (fun _ => true) true Tryz.f9.params.toList args.toList ds p := hA0
 rw [Tryz.params9] at hA hval
 obtain ⟨v0, vs0, d0, ds0, p0, q0, hargs, rfl, rfl, h0, r0⟩ := trodAll_cons hA
 obtain ⟨v1, vs1, d1, ds1, p1, q1, rfl, rfl, rfl, h1, r1⟩ := trodAll_cons r0
 obtain ⟨v2, vs2, d2, ds2, p2, q2, rfl, rfl, rfl, h2, r2⟩ := trodAll_cons r1
 obtain ⟨rfl, rfl, rfl⟩ := trodAll_nil r2
 obtain rfl : args = #[v0, v1, v2] := by cases args; simp_all
 obtain ⟨rfl, rfl⟩ := trodVars_none hV
 obtain ⟨cs0, rfl, _⟩ := okWide_struct Tryz.underlying26 (hval 0 26 v0 rfl rfl)
 obtain ⟨P0, hm0, hl0⟩ := Rd.agg rdRules h0
 obtain ⟨cs1, rfl, _⟩ := okWide_struct Tryz.underlying35 (hval 1 35 v1 rfl rfl)
 obtain ⟨P1, hm1, hl1⟩ := Rd.agg rdPos h1
 obtain ⟨n2, rfl, rfl, rfl, hw2⟩ := open_int Tryz.underlying3 (hval 2 3 v2 rfl rfl) h2
 have hl2 : VR W (fun b => b < W.heap.size) (fun _ => none) (.int .i64 n2) (.int .i64 n2) := .int _ _ _
 refine (zOn (PuzzleRefuses_law P0 P1 n2 hm0 hm1) rfl (fun i hi => ?_) (pin_up (puzzleRefuses_pin hL))).mono fun e W' ⟨he, ho, hp, hk⟩ => ⟨_, he, ?_⟩
 ·match i, hi with
  | 0, _ => exact hl0
  | 1, _ => exact hl1
  | 2, _ => exact hl2
 ·exact zO1 (t := 4) hW' rfl rfl rfl Tryz.underlying4 laidIt zOK fullIt (by kernel_rfl) ho hp hk
theorem puzzleRefuses_j1 : Rows.puzzleRefusesRow.wf (OpenSpec.ofChange Rows.puzzleRefusesSpec) = true := by kernel_rfl
theorem puzzleRefuses_j2 : (Rows.puzzleRefusesRow.inPlace == Tryz.prog.inPlace 9) = true := by kernel_rfl
theorem puzzleRefuses_j3 : (Rows.puzzleRefusesRow.unfollowed == Tryz.prog.unfollowed 9) = true := by kernel_rfl
theorem puzzleRefuses_j4 : (Rows.puzzleRefusesRow.recurses == Tryz.prog.recurses 9) = true := by kernel_rfl
theorem puzzleRefuses_j5 : (Rows.puzzleRefusesRow.named == Tryz.prog.varsNamed 9) = true := by kernel_rfl
theorem puzzleRefuses_j6 : (Rows.puzzleRefusesRow.lifted == Tryz.prog.liftsFinal) = true := liftIt
theorem puzzleRefuses_j7 : (Tryz.prog.make == some Rows.puzzleRefusesRow.make) = true := makeIt
theorem puzzleRefuses_j8 : (Rows.puzzleRefusesRow.plainKeys == Tryz.prog.plainKeys) = true := plainIt
theorem puzzleRefuses_joined : joinedFacts Tryz.prog 9 Tryz.f9 Rows.puzzleRefusesSpec Rows.puzzleRefusesRow = true := by
 unfold joinedFacts
 rw [puzzleRefuses_j1, laidIt, zOK, stopsIt, knobsIt, puzzleRefuses_j2, puzzleRefuses_j3, puzzleRefuses_j4, puzzleRefuses_j5, puzzleRefuses_j8, heardIt, enterIt, puzzleRefuses_j6, puzzleRefuses_j7]
 kernel_rfl
theorem puzzleRefuses_named : Tryz.prog.funcNamed Rows.puzzleRefusesRow.func = some 9 := by kernel_rfl
theorem puzzleRefuses_inst : Tryz.f9.isInstance Tryz.prog Rows.puzzleRefusesRow.origin Rows.puzzleRefusesRow.targs := of_decide_eq_true (by kernel_rfl)
theorem puzzleRefuses_wrap : Tryz.f9.isWrapper Tryz.prog Rows.puzzleRefusesRow.wrapper Rows.puzzleRefusesRow.mainSum := by unfold Func.isWrapper; first | (rw [if_pos (by decide +kernel)]; kernel_rfl) | (rw [if_neg (by decide +kernel)]; exact ⟨rfl, rfl⟩)
theorem puzzleRefuses_holds : Rows.PuzzleRefusesSaid :=
 OpenClaim.holds_of_wide 9 Tryz.f9 rfl rfl rfl rfl rfl rfl rfl ⟨rfl, rfl, rfl, rfl, rfl⟩ rfl rfl rfl rfl rfl puzzleRefuses_named Tryz.func9 puzzleRefuses_joined
  puzzleRefuses_inst puzzleRefuses_wrap
  (fun os started H enc _ => puzzleRefuses_lifted os started H enc)
theorem puzzleRefuses_c1 : Rows.puzzleRefusesRow.wfByText (OpenSpec.ofChange Rows.puzzleRefusesSpec) = true := by kernel_rfl
theorem puzzleRefuses_c2 : ([26, 35, 3].all fun u => !Tryz.prog.wantsStandIn u) = true := by kernel_rfl
theorem puzzleRefuses_c3 : false = Rows.puzzleRefusesRow.goesBy Tryz.prog := by kernel_rfl
theorem puzzleRefuses_card : Rows.PuzzleRefusesCardSaid :=
 Claim7.holds_tied_plain_at .later [] [.data, .data, .data] true (true, "2ce54dd2d931fe3267d45603db6cf7fe51a52f562ad782d581866e6a342fe84b") false
  puzzleRefuses_holds (fun _ h => by cases h) puzzleRefuses_c1 (fun _ h => by cases h) puzzleRefuses_row_tie rfl ⟨rfl, rfl⟩ zOk rfl
  (fun f fn hf hfn => by
   obtain rfl : f = 9 := Option.some.inj (puzzleRefuses_named.symm.trans hf) |>.symm
   obtain rfl : fn = Tryz.f9 := (Option.some.inj (Tryz.func9.symm.trans hfn)).symm
   exact ⟨looksIt, fun j t ht => by
    rw [Tryz.params9] at ht
    have hm : t ∈ [26, 35, 3] := by simpa using Array.mem_of_getElem? ht
    exact (show Tryz.prog.wantsStandIn t = false by simpa using List.all_eq_true.1 puzzleRefuses_c2 t hm)⟩)
  puzzleRefuses_c3
end Go.Proofs.YtiifcejepaeepaaGreatDoor
