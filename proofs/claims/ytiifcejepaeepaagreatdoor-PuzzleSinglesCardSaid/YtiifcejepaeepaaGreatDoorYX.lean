/- PuzzleSingles of the given program returns true for every input and leaves its arguments as they were; no conditions. -/
import Derived.Test.YtiifcejepaeepaaGreatDoorRows
import Derived.Test.YtiifcejepaeepaaGreatDoorTie
import Derived.Test.YtiifcejepaeepaaGreatDoorCards
import Derived.LaidMore
import Derived.Lay
import Derived.SevenTiedAt
import Derived.Stop.Joined
import Derived.Stop.ErrReads
import Derived.MakeChecks
import Derived.Test.YtiifcejepaeepaaGreatDoorY8
set_option linter.unusedVariables false
set_option linter.unusedSimpArgs false
namespace Go.Proofs.YtiifcejepaeepaaGreatDoor
open Go.Ax Go.ChangeShapes Go.WideShapes Go.ChangeAt Go.RowKit
theorem puzzleSingles_pin {W : World} (h0 : laidMetH Tryz.prog Rows.puzzleSinglesRow.laid W) : pinG W := by
 rw [MakeChecks.laidMetH_plain _ _ _ (by kernel_rfl)] at h0
 have h := h0
 exact ⟨trivial, Lib.tabIs_of_head (k := .u64) (zs := Lib.pow10Tab) (g := 0) (t := 201) (e := 184) (n := 20) (by kernel_rfl) (by kernel_rfl) Tryz.underlying201 Tryz.underlying184 (by kernel_rfl) (by kernel_rfl) (h.tail.tail), trivial⟩
set_option maxRecDepth 100000 in
theorem puzzleSingles_lifted (os : Os) (started : os.Started) (H : Type) (enc : TypeId × Value → H) :
 ReturnsInHanded {} Tryz.checked os 7 .any (fun w args => (Rows.puzzleSinglesSpec.pre enc Tryz.prog Tryz.f7 Rows.puzzleSinglesRow.domain false w args ∧ laidMetH Tryz.prog Rows.puzzleSinglesRow.laid w) ∧ sizedMet enc Tryz.prog Tryz.f7 (OpenSpec.ofChange Rows.puzzleSinglesSpec) false w args)
  (Rows.puzzleSinglesSpec.post enc Tryz.prog Tryz.f7 false true false false) := by
 refine returnsInHanded_of_change_and (C := Tryz.checked) (X := fun w _ => laidMetH Tryz.prog Rows.puzzleSinglesRow.laid w) (fun _ _ _ hh h => h.of_heap hh) ownIt started (by kernel_rfl) Tryz.func7
  (ChangeSpec.witness_shaped (enc := enc) (C := Tryz.checked) (os := os) (X := fun w _ => laidMetH Tryz.prog Rows.puzzleSinglesRow.laid w) false (World.laidAll Tryz.prog os Rows.puzzleSinglesRow.laid) #[.agg #[.string ⟨#[]⟩, .int .i64 0, .int .i64 0, .slice none 0 0, .slice none 0 0, .bool false, .bool false, .slice none 0 0, .int .i64 0, .int .i64 0, .int .i64 0], .agg #[.slice none 0 0, .slice none 0 0, .slice none 0 0, .int .i64 0, .int .i64 0]] 8 (World.laidAll_os _ _ _)
   (World.shaped_of_ZipB (by kernel_rfl) (by kernel_rfl)) (by kernel_rfl) (by kernel_rfl) (by kernel_rfl)
   (by rw [MakeChecks.laidMetH_plain _ _ _ (by kernel_rfl)]; exact laidMet_laidAll _ (by kernel_rfl) (by kernel_rfl))) ?_
 intro W base args ds gs before hval0 hW hcnd _ hL _
 have hval : ∀ (j : Nat) t v, Tryz.f7.params[j]? = some t → args[j]? = some v → Value.okWide Tryz.prog W .any base t v := hval0
 have hW' := hW
 obtain ⟨p, q, hA0, hV, rfl, hfz, hnd⟩ := hW
 have hA : DataW.TrodAll enc Tryz.prog W 0 (fun _ => true) true Tryz.f7.params.toList args.toList ds p := hA0
 rw [Tryz.params7] at hA hval
 obtain ⟨v0, vs0, d0, ds0, p0, q0, hargs, rfl, rfl, h0, r0⟩ := trodAll_cons hA
 obtain ⟨v1, vs1, d1, ds1, p1, q1, rfl, rfl, rfl, h1, r1⟩ := trodAll_cons r0
 obtain ⟨rfl, rfl, rfl⟩ := trodAll_nil r1
 obtain rfl : args = #[v0, v1] := by cases args; simp_all
 obtain ⟨rfl, rfl⟩ := trodVars_none hV
 obtain ⟨cs0, rfl, _⟩ := okWide_struct Tryz.underlying26 (hval 0 26 v0 rfl rfl)
 obtain ⟨P0, hm0, hl0⟩ := Rd.agg rdRules h0
 obtain ⟨cs1, rfl, _⟩ := okWide_struct Tryz.underlying35 (hval 1 35 v1 rfl rfl)
 obtain ⟨P1, hm1, hl1⟩ := Rd.agg rdPos h1
 refine (zOn (PuzzleSingles_law P0 P1 hm0 hm1) rfl (fun i hi => ?_) (pin_up (puzzleSingles_pin hL))).mono fun e W' ⟨he, ho, hp, hk⟩ => ⟨_, he, ?_⟩
 ·match i, hi with
  | 0, _ => exact hl0
  | 1, _ => exact hl1
 ·exact zO1 (t := 4) hW' rfl rfl rfl Tryz.underlying4 laidIt zOK fullIt (by kernel_rfl) ho hp hk
theorem puzzleSingles_j1 : Rows.puzzleSinglesRow.wf (OpenSpec.ofChange Rows.puzzleSinglesSpec) = true := by kernel_rfl
theorem puzzleSingles_j2 : (Rows.puzzleSinglesRow.inPlace == Tryz.prog.inPlace 7) = true := by kernel_rfl
theorem puzzleSingles_j3 : (Rows.puzzleSinglesRow.unfollowed == Tryz.prog.unfollowed 7) = true := by kernel_rfl
theorem puzzleSingles_j4 : (Rows.puzzleSinglesRow.recurses == Tryz.prog.recurses 7) = true := by kernel_rfl
theorem puzzleSingles_j5 : (Rows.puzzleSinglesRow.named == Tryz.prog.varsNamed 7) = true := by kernel_rfl
theorem puzzleSingles_j6 : (Rows.puzzleSinglesRow.lifted == Tryz.prog.liftsFinal) = true := liftIt
theorem puzzleSingles_j7 : (Tryz.prog.make == some Rows.puzzleSinglesRow.make) = true := makeIt
theorem puzzleSingles_j8 : (Rows.puzzleSinglesRow.plainKeys == Tryz.prog.plainKeys) = true := plainIt
theorem puzzleSingles_joined : joinedFacts Tryz.prog 7 Tryz.f7 Rows.puzzleSinglesSpec Rows.puzzleSinglesRow = true := by
 unfold joinedFacts
 rw [puzzleSingles_j1, laidIt, zOK, stopsIt, knobsIt, puzzleSingles_j2, puzzleSingles_j3, puzzleSingles_j4, puzzleSingles_j5, puzzleSingles_j8, heardIt, enterIt, puzzleSingles_j6, puzzleSingles_j7]
 kernel_rfl
theorem puzzleSingles_named : Tryz.prog.funcNamed Rows.puzzleSinglesRow.func = some 7 := by kernel_rfl
theorem puzzleSingles_inst : Tryz.f7.isInstance Tryz.prog Rows.puzzleSinglesRow.origin Rows.puzzleSinglesRow.targs := of_decide_eq_true (by kernel_rfl)
theorem puzzleSingles_wrap : Tryz.f7.isWrapper Tryz.prog Rows.puzzleSinglesRow.wrapper Rows.puzzleSinglesRow.mainSum := by unfold Func.isWrapper; first | (rw [if_pos (by decide +kernel)]; kernel_rfl) | (rw [if_neg (by decide +kernel)]; exact ⟨rfl, rfl⟩)
theorem puzzleSingles_holds : Rows.PuzzleSinglesSaid :=
 OpenClaim.holds_of_wide 7 Tryz.f7 rfl rfl rfl rfl rfl rfl rfl ⟨rfl, rfl, rfl, rfl, rfl⟩ rfl rfl rfl rfl rfl puzzleSingles_named Tryz.func7 puzzleSingles_joined
  puzzleSingles_inst puzzleSingles_wrap
  (fun os started H enc _ => puzzleSingles_lifted os started H enc)
theorem puzzleSingles_c1 : Rows.puzzleSinglesRow.wfByText (OpenSpec.ofChange Rows.puzzleSinglesSpec) = true := by kernel_rfl
theorem puzzleSingles_c2 : ([26, 35].all fun u => !Tryz.prog.wantsStandIn u) = true := by kernel_rfl
theorem puzzleSingles_c3 : false = Rows.puzzleSinglesRow.goesBy Tryz.prog := by kernel_rfl
theorem puzzleSingles_card : Rows.PuzzleSinglesCardSaid :=
 Claim7.holds_tied_plain_at .later [] [.data, .data, .data] true (true, "2ce54dd2d931fe3267d45603db6cf7fe51a52f562ad782d581866e6a342fe84b") false
  puzzleSingles_holds (fun _ h => by cases h) puzzleSingles_c1 (fun _ h => by cases h) puzzleSingles_row_tie rfl ⟨rfl, rfl⟩ zOk rfl
  (fun f fn hf hfn => by
   obtain rfl : f = 7 := Option.some.inj (puzzleSingles_named.symm.trans hf) |>.symm
   obtain rfl : fn = Tryz.f7 := (Option.some.inj (Tryz.func7.symm.trans hfn)).symm
   exact ⟨looksIt, fun j t ht => by
    rw [Tryz.params7] at ht
    have hm : t ∈ [26, 35] := by simpa using Array.mem_of_getElem? ht
    exact (show Tryz.prog.wantsStandIn t = false by simpa using List.all_eq_true.1 puzzleSingles_c2 t hm)⟩)
  puzzleSingles_c3
end Go.Proofs.YtiifcejepaeepaaGreatDoor
