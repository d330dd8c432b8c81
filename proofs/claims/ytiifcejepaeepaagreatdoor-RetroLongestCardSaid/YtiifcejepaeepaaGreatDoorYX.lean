/- RetroLongest of the given program returns true for every input and leaves its arguments as they were; no conditions. -/
import Derived.Test.YtiifcejepaeepaaGreatDoorRows
import Derived.Test.YtiifcejepaeepaaGreatDoorTie
import Derived.Test.YtiifcejepaeepaaGreatDoorCards
import Derived.LaidMore
import Derived.Lay
import Derived.SevenTiedAt
import Derived.Stop.Joined
import Derived.Stop.ErrReads
import Derived.MakeChecks
import Derived.Test.YtiifcejepaeepaaGreatDoorY6
set_option linter.unusedVariables false
set_option linter.unusedSimpArgs false
namespace Go.Proofs.YtiifcejepaeepaaGreatDoor
open Go.Ax Go.ChangeShapes Go.WideShapes Go.ChangeAt Go.RowKit
theorem retroLongest_pin {W : World} (h0 : laidMetH Tryz.prog Rows.retroLongestRow.laid W) : pinG W := by
 rw [MakeChecks.laidMetH_plain _ _ _ (by kernel_rfl)] at h0
 have h := h0
 exact ⟨trivial, Lib.tabIs_of_head (k := .u64) (zs := Lib.pow10Tab) (g := 0) (t := 201) (e := 184) (n := 20) (by kernel_rfl) (by kernel_rfl) Tryz.underlying201 Tryz.underlying184 (by kernel_rfl) (by kernel_rfl) (h.tail.tail), trivial⟩
set_option maxRecDepth 100000 in
theorem retroLongest_lifted (os : Os) (started : os.Started) (H : Type) (enc : TypeId × Value → H) :
 ReturnsInHanded {} Tryz.checked os 3 .any (fun w args => (Rows.retroLongestSpec.pre enc Tryz.prog Tryz.f3 Rows.retroLongestRow.domain false w args ∧ laidMetH Tryz.prog Rows.retroLongestRow.laid w) ∧ sizedMet enc Tryz.prog Tryz.f3 (OpenSpec.ofChange Rows.retroLongestSpec) false w args)
  (Rows.retroLongestSpec.post enc Tryz.prog Tryz.f3 false true false false) := by
 refine returnsInHanded_of_change_and (C := Tryz.checked) (X := fun w _ => laidMetH Tryz.prog Rows.retroLongestRow.laid w) (fun _ _ _ hh h => h.of_heap hh) ownIt started (by kernel_rfl) Tryz.func3
  (ChangeSpec.witness_shaped (enc := enc) (C := Tryz.checked) (os := os) (X := fun w _ => laidMetH Tryz.prog Rows.retroLongestRow.laid w) false (World.laidAll Tryz.prog os Rows.retroLongestRow.laid) #[.agg #[.string ⟨#[]⟩, .int .i64 0, .int .i64 0, .slice none 0 0, .slice none 0 0, .bool false, .bool false, .slice none 0 0, .int .i64 0, .int .i64 0, .int .i64 0]] 8 (World.laidAll_os _ _ _)
   (World.shaped_of_ZipB (by kernel_rfl) (by kernel_rfl)) (by kernel_rfl) (by kernel_rfl) (by kernel_rfl)
   (by rw [MakeChecks.laidMetH_plain _ _ _ (by kernel_rfl)]; exact laidMet_laidAll _ (by kernel_rfl) (by kernel_rfl))) ?_
 intro W base args ds gs before hval0 hW hcnd _ hL _
 have hval : ∀ (j : Nat) t v, Tryz.f3.params[j]? = some t → args[j]? = some v → Value.okWide Tryz.prog W .any base t v := hval0
 have hW' := hW
 obtain ⟨p, q, hA0, hV, rfl, hfz, hnd⟩ := hW
 have hA : DataW.TrodAll enc Tryz.prog W 0 (fun _ => true) true Tryz.f3.params.toList args.toList ds p := hA0
 rw [Tryz.params3] at hA hval
 obtain ⟨v0, vs0, d0, ds0, p0, q0, hargs, rfl, rfl, h0, r0⟩ := trodAll_cons hA
 obtain ⟨rfl, rfl, rfl⟩ := trodAll_nil r0
 obtain rfl : args = #[v0] := by cases args; simp_all
 obtain ⟨rfl, rfl⟩ := trodVars_none hV
 obtain ⟨cs0, rfl, _⟩ := okWide_struct Tryz.underlying26 (hval 0 26 v0 rfl rfl)
 obtain ⟨P0, hm0, hl0⟩ := Rd.agg rdRules h0
 refine (zL2 (zGG P0 hm0) J (fun i hi => ?_) (pin_up (retroLongest_pin hL))).mono fun e W' ⟨he, ho, hp, hk⟩ => ⟨_, he, ?_⟩
 ·match i, hi with
  | 0, _ => exact hl0
 ·exact zME (t := 4) hW' J J J Tryz.underlying4 laidIt zLY fullIt (by kernel_rfl) ho hp hk
theorem retroLongest_j1 : Rows.retroLongestRow.wf (OpenSpec.ofChange Rows.retroLongestSpec) = true := by kernel_rfl
theorem retroLongest_j2 : (Rows.retroLongestRow.inPlace == Tryz.prog.inPlace 3) = true := by kernel_rfl
theorem retroLongest_j3 : (Rows.retroLongestRow.unfollowed == Tryz.prog.unfollowed 3) = true := by kernel_rfl
theorem retroLongest_j4 : (Rows.retroLongestRow.recurses == Tryz.prog.recurses 3) = true := by kernel_rfl
theorem retroLongest_j5 : (Rows.retroLongestRow.named == Tryz.prog.varsNamed 3) = true := by kernel_rfl
theorem retroLongest_j6 : (Rows.retroLongestRow.lifted == Tryz.prog.liftsFinal) = true := liftIt
theorem retroLongest_j7 : (Tryz.prog.make == some Rows.retroLongestRow.make) = true := makeIt
theorem retroLongest_j8 : (Rows.retroLongestRow.plainKeys == Tryz.prog.plainKeys) = true := plainIt
theorem retroLongest_joined : joinedFacts Tryz.prog 3 Tryz.f3 Rows.retroLongestSpec Rows.retroLongestRow = true := by
 unfold joinedFacts
 rw [retroLongest_j1, laidIt, zLY, stopsIt, knobsIt, retroLongest_j2, retroLongest_j3, retroLongest_j4, retroLongest_j5, retroLongest_j8, heardIt, enterIt, retroLongest_j6, retroLongest_j7]
 kernel_rfl
theorem retroLongest_named : Tryz.prog.funcNamed Rows.retroLongestRow.func = some 3 := by kernel_rfl
theorem retroLongest_inst : Tryz.f3.isInstance Tryz.prog Rows.retroLongestRow.origin Rows.retroLongestRow.targs := of_decide_eq_true (by kernel_rfl)
theorem retroLongest_wrap : Tryz.f3.isWrapper Tryz.prog Rows.retroLongestRow.wrapper Rows.retroLongestRow.mainSum := by unfold Func.isWrapper; first | (rw [if_pos (by decide +kernel)]; kernel_rfl) | (rw [if_neg (by decide +kernel)]; exact ⟨rfl, rfl⟩)
theorem retroLongest_holds : Rows.RetroLongestSaid :=
 OpenClaim.holds_of_wide 3 Tryz.f3 rfl rfl rfl rfl rfl rfl rfl ⟨rfl, rfl, rfl, rfl, rfl⟩ rfl rfl rfl rfl rfl retroLongest_named Tryz.func3 retroLongest_joined
  retroLongest_inst retroLongest_wrap
  (fun os started H enc _ => retroLongest_lifted os started H enc)
theorem retroLongest_c1 : Rows.retroLongestRow.wfByText (OpenSpec.ofChange Rows.retroLongestSpec) = true := by kernel_rfl
theorem retroLongest_c2 : ([26].all fun u => !Tryz.prog.wantsStandIn u) = true := by kernel_rfl
theorem retroLongest_c3 : false = Rows.retroLongestRow.goesBy Tryz.prog := by kernel_rfl
theorem retroLongest_card : Rows.RetroLongestCardSaid :=
 Claim7.holds_tied_plain_at .later [] [.data, .data, .data] true (true, "2ce54dd2d931fe3267d45603db6cf7fe51a52f562ad782d581866e6a342fe84b") false
  retroLongest_holds (fun _ h => by cases h) retroLongest_c1 (fun _ h => by cases h) retroLongest_row_tie rfl ⟨rfl, rfl⟩ zL0 rfl
  (fun f fn hf hfn => by
   obtain rfl : f = 3 := Option.some.inj (retroLongest_named.symm.trans hf) |>.symm
   obtain rfl : fn = Tryz.f3 := (Option.some.inj (Tryz.func3.symm.trans hfn)).symm
   exact ⟨looksIt, fun j t ht => by
    rw [Tryz.params3] at ht
    have hm : t ∈ [26] := by simpa using Array.mem_of_getElem? ht
    exact (show Tryz.prog.wantsStandIn t = false by simpa using List.all_eq_true.1 retroLongest_c2 t hm)⟩)
  retroLongest_c3
end Go.Proofs.YtiifcejepaeepaaGreatDoor
