/- PuzzleComposes of the given program returns true for every input and leaves its arguments as they were; no conditions. -/
import Derived.Test.YtiifcejepaeepaaGreatDoorRows
import Derived.Test.YtiifcejepaeepaaGreatDoorTie
import Derived.Test.YtiifcejepaeepaaGreatDoorCards
import Derived.LaidMore
import Derived.Lay
import Derived.SevenTiedAt
import Derived.Stop.Joined
import Derived.Stop.ErrReads
import Derived.MakeChecks
import Derived.Test.YtiifcejepaeepaaGreatDoorY8
set_option linter.unusedVariables false
set_option linter.unusedSimpArgs false
namespace Go.Proofs.YtiifcejepaeepaaGreatDoor
open Go.Ax Go.ChangeShapes Go.WideShapes Go.ChangeAt Go.RowKit
theorem puzzleComposes_pin {W : World} (h0 : laidMetH Tryz.prog Rows.puzzleComposesRow.laid W) : pinG W := by
 rw [MakeChecks.laidMetH_plain _ _ _ (by kernel_rfl)] at h0
 have h := h0
 exact ⟨trivial, Lib.tabIs_of_head (k := .u64) (zs := Lib.pow10Tab) (g := 0) (t := 201) (e := 184) (n := 20) (by kernel_rfl) (by kernel_rfl) Tryz.underlying201 Tryz.underlying184 (by kernel_rfl) (by kernel_rfl) (h.tail.tail), trivial⟩
set_option maxRecDepth 100000 in
theorem puzzleComposes_lifted (os : Os) (started : os.Started) (H : Type) (enc : TypeId × Value → H) :
 ReturnsInHanded {} Tryz.checked os 10 .any (fun w args => (Rows.puzzleComposesSpec.pre enc Tryz.prog Tryz.f10 Rows.puzzleComposesRow.domain false w args ∧ laidMetH Tryz.prog Rows.puzzleComposesRow.laid w) ∧ sizedMet enc Tryz.prog Tryz.f10 (OpenSpec.ofChange Rows.puzzleComposesSpec) false w args)
  (Rows.puzzleComposesSpec.post enc Tryz.prog Tryz.f10 false true false false) := by
 refine returnsInHanded_of_change_and (C := Tryz.checked) (X := fun w _ => laidMetH Tryz.prog Rows.puzzleComposesRow.laid w) (fun _ _ _ hh h => h.of_heap hh) ownIt started (by kernel_rfl) Tryz.func10
  (ChangeSpec.witness_shaped (enc := enc) (C := Tryz.checked) (os := os) (X := fun w _ => laidMetH Tryz.prog Rows.puzzleComposesRow.laid w) false (World.laidAll Tryz.prog os Rows.puzzleComposesRow.laid) #[.agg #[.string ⟨#[]⟩, .int .i64 0, .int .i64 0, .slice none 0 0, .slice none 0 0, .bool false, .bool false, .slice none 0 0, .int .i64 0, .int .i64 0, .int .i64 0], .int .i64 0] 8 (World.laidAll_os _ _ _)
   (World.shaped_of_ZipB (by kernel_rfl) (by kernel_rfl)) (by kernel_rfl) (by kernel_rfl) (by kernel_rfl)
   (by rw [MakeChecks.laidMetH_plain _ _ _ (by kernel_rfl)]; exact laidMet_laidAll _ (by kernel_rfl) (by kernel_rfl))) ?_
 intro W base args ds gs before hval0 hW hcnd _ hL _
 have hval : ∀ (j : Nat) t v, Tryz.f10.params[j]? = some t → args[j]? = some v → Value.okWide Tryz.prog W .any base t v := hval0
 have hW' := hW
 obtain ⟨p, q, hA0, hV, rfl, hfz, hnd⟩ := hW
 have hA : DataW.TrodAll enc Tryz.prog W 0 (fun _ => true) true Tryz.f10.params.toList args.toList ds p := hA0
 rw [Tryz.params10] at hA hval
 obtain ⟨v0, vs0, d0, ds0, p0, q0, hargs, rfl, rfl, h0, r0⟩ := trodAll_cons hA
 obtain ⟨v1, vs1, d1, ds1, p1, q1, rfl, rfl, rfl, h1, r1⟩ := trodAll_cons r0
 obtain ⟨rfl, rfl, rfl⟩ := trodAll_nil r1
 obtain rfl : args = #[v0, v1] := by cases args; simp_all
 obtain ⟨rfl, rfl⟩ := trodVars_none hV
 obtain ⟨cs0, rfl, _⟩ := okWide_struct Tryz.underlying26 (hval 0 26 v0 rfl rfl)
 obtain ⟨P0, hm0, hl0⟩ := Rd.agg rdRules h0
 obtain ⟨n1, rfl, rfl, rfl, hw1⟩ := open_int Tryz.underlying3 (hval 1 3 v1 rfl rfl) h1
 have hl1 : VR W (fun b => b < W.heap.size) (fun _ => none) (.int .i64 n1) (.int .i64 n1) := .int _ _ _
 refine (zOn (PuzzleComposes_law P0 n1 hm0) rfl (fun i hi => ?_) (pin_up (puzzleComposes_pin hL))).mono fun e W' ⟨he, ho, hp, hk⟩ => ⟨_, he, ?_⟩
 ·match i, hi with
  | 0, _ => exact hl0
  | 1, _ => exact hl1
 ·exact zO1 (t := 4) hW' rfl rfl rfl Tryz.underlying4 laidIt zOK fullIt (by kernel_rfl) ho hp hk
theorem puzzleComposes_j1 : Rows.puzzleComposesRow.wf (OpenSpec.ofChange Rows.puzzleComposesSpec) = true := by kernel_rfl
theorem puzzleComposes_j2 : (Rows.puzzleComposesRow.inPlace == Tryz.prog.inPlace 10) = true := by kernel_rfl
theorem puzzleComposes_j3 : (Rows.puzzleComposesRow.unfollowed == Tryz.prog.unfollowed 10) = true := by kernel_rfl
theorem puzzleComposes_j4 : (Rows.puzzleComposesRow.recurses == Tryz.prog.recurses 10) = true := by kernel_rfl
theorem puzzleComposes_j5 : (Rows.puzzleComposesRow.named == Tryz.prog.varsNamed 10) = true := by kernel_rfl
theorem puzzleComposes_j6 : (Rows.puzzleComposesRow.lifted == Tryz.prog.liftsFinal) = true := liftIt
theorem puzzleComposes_j7 : (Tryz.prog.make == some Rows.puzzleComposesRow.make) = true := makeIt
theorem puzzleComposes_j8 : (Rows.puzzleComposesRow.plainKeys == Tryz.prog.plainKeys) = true := plainIt
theorem puzzleComposes_joined : joinedFacts Tryz.prog 10 Tryz.f10 Rows.puzzleComposesSpec Rows.puzzleComposesRow = true := by
 unfold joinedFacts
 rw [puzzleComposes_j1, laidIt, zOK, stopsIt, knobsIt, puzzleComposes_j2, puzzleComposes_j3, puzzleComposes_j4, puzzleComposes_j5, puzzleComposes_j8, heardIt, enterIt, puzzleComposes_j6, puzzleComposes_j7]
 kernel_rfl
theorem puzzleComposes_named : Tryz.prog.funcNamed Rows.puzzleComposesRow.func = some 10 := by kernel_rfl
theorem puzzleComposes_inst : Tryz.f10.isInstance Tryz.prog Rows.puzzleComposesRow.origin Rows.puzzleComposesRow.targs := of_decide_eq_true (by kernel_rfl)
theorem puzzleComposes_wrap : Tryz.f10.isWrapper Tryz.prog Rows.puzzleComposesRow.wrapper Rows.puzzleComposesRow.mainSum := by unfold Func.isWrapper; first | (rw [if_pos (by decide +kernel)]; kernel_rfl) | (rw [if_neg (by decide +kernel)]; exact ⟨rfl, rfl⟩)
theorem puzzleComposes_holds : Rows.PuzzleComposesSaid :=
 OpenClaim.holds_of_wide 10 Tryz.f10 rfl rfl rfl rfl rfl rfl rfl ⟨rfl, rfl, rfl, rfl, rfl⟩ rfl rfl rfl rfl rfl puzzleComposes_named Tryz.func10 puzzleComposes_joined
  puzzleComposes_inst puzzleComposes_wrap
  (fun os started H enc _ => puzzleComposes_lifted os started H enc)
theorem puzzleComposes_c1 : Rows.puzzleComposesRow.wfByText (OpenSpec.ofChange Rows.puzzleComposesSpec) = true := by kernel_rfl
theorem puzzleComposes_c2 : ([26, 3].all fun u => !Tryz.prog.wantsStandIn u) = true := by kernel_rfl
theorem puzzleComposes_c3 : false = Rows.puzzleComposesRow.goesBy Tryz.prog := by kernel_rfl
theorem puzzleComposes_card : Rows.PuzzleComposesCardSaid :=
 Claim7.holds_tied_plain_at .later [] [.data, .data, .data] true (true, "2ce54dd2d931fe3267d45603db6cf7fe51a52f562ad782d581866e6a342fe84b") false
  puzzleComposes_holds (fun _ h => by cases h) puzzleComposes_c1 (fun _ h => by cases h) puzzleComposes_row_tie rfl ⟨rfl, rfl⟩ zOk rfl
  (fun f fn hf hfn => by
   obtain rfl : f = 10 := Option.some.inj (puzzleComposes_named.symm.trans hf) |>.symm
   obtain rfl : fn = Tryz.f10 := (Option.some.inj (Tryz.func10.symm.trans hfn)).symm
   exact ⟨looksIt, fun j t ht => by
    rw [Tryz.params10] at ht
    have hm : t ∈ [26, 3] := by simpa using Array.mem_of_getElem? ht
    exact (show Tryz.prog.wantsStandIn t = false by simpa using List.all_eq_true.1 puzzleComposes_c2 t hm)⟩)
  puzzleComposes_c3
end Go.Proofs.YtiifcejepaeepaaGreatDoor
