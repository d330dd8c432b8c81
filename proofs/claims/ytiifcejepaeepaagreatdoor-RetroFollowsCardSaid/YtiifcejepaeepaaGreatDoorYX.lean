/- RetroFollows of the given program returns true for every input and leaves its arguments as they were; no conditions. -/
import Derived.Test.YtiifcejepaeepaaGreatDoorRows
import Derived.Test.YtiifcejepaeepaaGreatDoorTie
import Derived.Test.YtiifcejepaeepaaGreatDoorCards
import Derived.LaidMore
import Derived.Lay
import Derived.SevenTiedAt
import Derived.Stop.Joined
import Derived.Stop.ErrReads
import Derived.MakeChecks
import Derived.Test.YtiifcejepaeepaaGreatDoorY6
set_option linter.unusedVariables false
set_option linter.unusedSimpArgs false
namespace Go.Proofs.YtiifcejepaeepaaGreatDoor
open Go.Ax Go.ChangeShapes Go.WideShapes Go.ChangeAt Go.RowKit
theorem retroFollows_pin {W : World} (h0 : laidMetH Tryz.prog Rows.retroFollowsRow.laid W) : pinG W := by
 rw [MakeChecks.laidMetH_plain _ _ _ (by kernel_rfl)] at h0
 have h := h0
 exact ⟨trivial, Lib.tabIs_of_head (k := .u64) (zs := Lib.pow10Tab) (g := 0) (t := 201) (e := 184) (n := 20) (by kernel_rfl) (by kernel_rfl) Tryz.underlying201 Tryz.underlying184 (by kernel_rfl) (by kernel_rfl) (h.tail.tail), trivial⟩
set_option maxRecDepth 100000 in
theorem retroFollows_lifted (os : Os) (started : os.Started) (H : Type) (enc : TypeId × Value → H) :
 ReturnsInHanded {} Tryz.checked os 4 .any (fun w args => (Rows.retroFollowsSpec.pre enc Tryz.prog Tryz.f4 Rows.retroFollowsRow.domain false w args ∧ laidMetH Tryz.prog Rows.retroFollowsRow.laid w) ∧ sizedMet enc Tryz.prog Tryz.f4 (OpenSpec.ofChange Rows.retroFollowsSpec) false w args)
  (Rows.retroFollowsSpec.post enc Tryz.prog Tryz.f4 false true false false) := by
 refine returnsInHanded_of_change_and (C := Tryz.checked) (X := fun w _ => laidMetH Tryz.prog Rows.retroFollowsRow.laid w) (fun _ _ _ hh h => h.of_heap hh) ownIt started (by kernel_rfl) Tryz.func4
  (ChangeSpec.witness_shaped (enc := enc) (C := Tryz.checked) (os := os) (X := fun w _ => laidMetH Tryz.prog Rows.retroFollowsRow.laid w) false (World.laidAll Tryz.prog os Rows.retroFollowsRow.laid) #[.agg #[.string ⟨#[]⟩, .int .i64 0, .int .i64 0, .slice none 0 0, .slice none 0 0, .bool false, .bool false, .slice none 0 0, .int .i64 0, .int .i64 0, .int .i64 0]] 8 (World.laidAll_os _ _ _)
   (World.shaped_of_ZipB (by kernel_rfl) (by kernel_rfl)) (by kernel_rfl) (by kernel_rfl) (by kernel_rfl)
   (by rw [MakeChecks.laidMetH_plain _ _ _ (by kernel_rfl)]; exact laidMet_laidAll _ (by kernel_rfl) (by kernel_rfl))) ?_
 intro W base args ds gs before hval0 hW hcnd _ hL _
 have hval : ∀ (j : Nat) t v, Tryz.f4.params[j]? = some t → args[j]? = some v → Value.okWide Tryz.prog W .any base t v := hval0
 have hW' := hW
 obtain ⟨p, q, hA0, hV, rfl, hfz, hnd⟩ := hW
 have hA : DataW.TrodAll enc Tryz.prog W 0 (fun _ => true) true Tryz.f4.params.toList args.toList ds p := hA0
 rw [Tryz.params4] at hA hval
 obtain ⟨v0, vs0, d0, ds0, p0, q0, hargs, rfl, rfl, h0, r0⟩ := trodAll_cons hA
 obtain ⟨rfl, rfl, rfl⟩ := trodAll_nil r0
 obtain rfl : args = #[v0] := by cases args; simp_all
 obtain ⟨rfl, rfl⟩ := trodVars_none hV
 obtain ⟨cs0, rfl, _⟩ := okWide_struct Tryz.underlying26 (hval 0 26 v0 rfl rfl)
 obtain ⟨P0, hm0, hl0⟩ := Rd.agg rdRules h0
 refine (zMQ (zGj P0 hm0) J (fun i hi => ?_) (pin_up (retroFollows_pin hL))).mono fun e W' ⟨he, ho, hp, hk⟩ => ⟨_, he, ?_⟩
 ·match i, hi with
  | 0, _ => exact hl0
 ·exact zMc (t := 4) hW' J J J Tryz.underlying4 laidIt zLu fullIt (by kernel_rfl) ho hp hk
theorem retroFollows_j1 : Rows.retroFollowsRow.wf (OpenSpec.ofChange Rows.retroFollowsSpec) = true := by kernel_rfl
theorem retroFollows_j2 : (Rows.retroFollowsRow.inPlace == Tryz.prog.inPlace 4) = true := by kernel_rfl
theorem retroFollows_j3 : (Rows.retroFollowsRow.unfollowed == Tryz.prog.unfollowed 4) = true := by kernel_rfl
theorem retroFollows_j4 : (Rows.retroFollowsRow.recurses == Tryz.prog.recurses 4) = true := by kernel_rfl
theorem retroFollows_j5 : (Rows.retroFollowsRow.named == Tryz.prog.varsNamed 4) = true := by kernel_rfl
theorem retroFollows_j6 : (Rows.retroFollowsRow.lifted == Tryz.prog.liftsFinal) = true := liftIt
theorem retroFollows_j7 : (Tryz.prog.make == some Rows.retroFollowsRow.make) = true := makeIt
theorem retroFollows_j8 : (Rows.retroFollowsRow.plainKeys == Tryz.prog.plainKeys) = true := plainIt
theorem retroFollows_joined : joinedFacts Tryz.prog 4 Tryz.f4 Rows.retroFollowsSpec Rows.retroFollowsRow = true := by
 unfold joinedFacts
 rw [retroFollows_j1, laidIt, zLu, stopsIt, knobsIt, retroFollows_j2, retroFollows_j3, retroFollows_j4, retroFollows_j5, retroFollows_j8, heardIt, enterIt, retroFollows_j6, retroFollows_j7]
 kernel_rfl
theorem retroFollows_named : Tryz.prog.funcNamed Rows.retroFollowsRow.func = some 4 := by kernel_rfl
theorem retroFollows_inst : Tryz.f4.isInstance Tryz.prog Rows.retroFollowsRow.origin Rows.retroFollowsRow.targs := of_decide_eq_true (by kernel_rfl)
theorem retroFollows_wrap : Tryz.f4.isWrapper Tryz.prog Rows.retroFollowsRow.wrapper Rows.retroFollowsRow.mainSum := by unfold Func.isWrapper; first | (rw [if_pos (by decide +kernel)]; kernel_rfl) | (rw [if_neg (by decide +kernel)]; exact ⟨rfl, rfl⟩)
theorem retroFollows_holds : Rows.RetroFollowsSaid :=
 OpenClaim.holds_of_wide 4 Tryz.f4 rfl rfl rfl rfl rfl rfl rfl ⟨rfl, rfl, rfl, rfl, rfl⟩ rfl rfl rfl rfl rfl retroFollows_named Tryz.func4 retroFollows_joined
  retroFollows_inst retroFollows_wrap
  (fun os started H enc _ => retroFollows_lifted os started H enc)
theorem retroFollows_c1 : Rows.retroFollowsRow.wfByText (OpenSpec.ofChange Rows.retroFollowsSpec) = true := by kernel_rfl
theorem retroFollows_c2 : ([26].all fun u => !Tryz.prog.wantsStandIn u) = true := by kernel_rfl
theorem retroFollows_c3 : false = Rows.retroFollowsRow.goesBy Tryz.prog := by kernel_rfl
theorem retroFollows_card : Rows.RetroFollowsCardSaid :=
 Claim7.holds_tied_plain_at .later [] [.data, .data, .data] true (true, "2ce54dd2d931fe3267d45603db6cf7fe51a52f562ad782d581866e6a342fe84b") false
  retroFollows_holds (fun _ h => by cases h) retroFollows_c1 (fun _ h => by cases h) retroFollows_row_tie rfl ⟨rfl, rfl⟩ zMO rfl
  (fun f fn hf hfn => by
   obtain rfl : f = 4 := Option.some.inj (retroFollows_named.symm.trans hf) |>.symm
   obtain rfl : fn = Tryz.f4 := (Option.some.inj (Tryz.func4.symm.trans hfn)).symm
   exact ⟨looksIt, fun j t ht => by
    rw [Tryz.params4] at ht
    have hm : t ∈ [26] := by simpa using Array.mem_of_getElem? ht
    exact (show Tryz.prog.wantsStandIn t = false by simpa using List.all_eq_true.1 retroFollows_c2 t hm)⟩)
  retroFollows_c3
end Go.Proofs.YtiifcejepaeepaaGreatDoor
