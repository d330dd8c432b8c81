/- RetroClosed of the given program returns true for every input and leaves its arguments as they were; no conditions. -/
import Derived.Test.YtiifcejepaeepaaGreatDoorRows
import Derived.Test.YtiifcejepaeepaaGreatDoorTie
import Derived.Test.YtiifcejepaeepaaGreatDoorCards
import Derived.LaidMore
import Derived.Lay
import Derived.SevenTiedAt
import Derived.Stop.Joined
import Derived.Stop.ErrReads
import Derived.MakeChecks
import Derived.Test.YtiifcejepaeepaaGreatDoorY6
set_option linter.unusedVariables false
set_option linter.unusedSimpArgs false
namespace Go.Proofs.YtiifcejepaeepaaGreatDoor
open Go.Ax Go.ChangeShapes Go.WideShapes Go.ChangeAt Go.RowKit
theorem retroClosed_pin {W : World} (h0 : laidMetH Tryz.prog Rows.retroClosedRow.laid W) : pinG W := by
 rw [MakeChecks.laidMetH_plain _ _ _ (by kernel_rfl)] at h0
 have h := h0
 exact ⟨trivial, Lib.tabIs_of_head (k := .u64) (zs := Lib.pow10Tab) (g := 0) (t := 201) (e := 184) (n := 20) (by kernel_rfl) (by kernel_rfl) Tryz.underlying201 Tryz.underlying184 (by kernel_rfl) (by kernel_rfl) (h.tail.tail), trivial⟩
set_option maxRecDepth 100000 in
theorem retroClosed_lifted (os : Os) (started : os.Started) (H : Type) (enc : TypeId × Value → H) :
 ReturnsInHanded {} Tryz.checked os 6 .any (fun w args => (Rows.retroClosedSpec.pre enc Tryz.prog Tryz.f6 Rows.retroClosedRow.domain false w args ∧ laidMetH Tryz.prog Rows.retroClosedRow.laid w) ∧ sizedMet enc Tryz.prog Tryz.f6 (OpenSpec.ofChange Rows.retroClosedSpec) false w args)
  (Rows.retroClosedSpec.post enc Tryz.prog Tryz.f6 false true false false) := by
 refine returnsInHanded_of_change_and (C := Tryz.checked) (X := fun w _ => laidMetH Tryz.prog Rows.retroClosedRow.laid w) (fun _ _ _ hh h => h.of_heap hh) ownIt started (by kernel_rfl) Tryz.func6
  (ChangeSpec.witness_shaped (enc := enc) (C := Tryz.checked) (os := os) (X := fun w _ => laidMetH Tryz.prog Rows.retroClosedRow.laid w) false (World.laidAll Tryz.prog os Rows.retroClosedRow.laid) #[.agg #[.string ⟨#[]⟩, .int .i64 0, .int .i64 0, .slice none 0 0, .slice none 0 0, .bool false, .bool false, .slice none 0 0, .int .i64 0, .int .i64 0, .int .i64 0]] 8 (World.laidAll_os _ _ _)
   (World.shaped_of_ZipB (by kernel_rfl) (by kernel_rfl)) (by kernel_rfl) (by kernel_rfl) (by kernel_rfl)
   (by rw [MakeChecks.laidMetH_plain _ _ _ (by kernel_rfl)]; exact laidMet_laidAll _ (by kernel_rfl) (by kernel_rfl))) ?_
 intro W base args ds gs before hval0 hW hcnd _ hL _
 have hval : ∀ (j : Nat) t v, Tryz.f6.params[j]? = some t → args[j]? = some v → Value.okWide Tryz.prog W .any base t v := hval0
 have hW' := hW
 obtain ⟨p, q, hA0, hV, rfl, hfz, hnd⟩ := hW
 have hA : DataW.TrodAll enc Tryz.prog W 0 (fun _ => true) true Tryz.f6.params.toList args.toList ds p := hA0
 rw [Tryz.params6] at hA hval
 obtain ⟨v0, vs0, d0, ds0, p0, q0, hargs, rfl, rfl, h0, r0⟩ := trodAll_cons hA
 obtain ⟨rfl, rfl, rfl⟩ := trodAll_nil r0
 obtain rfl : args = #[v0] := by cases args; simp_all
 obtain ⟨rfl, rfl⟩ := trodVars_none hV
 obtain ⟨cs0, rfl, _⟩ := okWide_struct Tryz.underlying26 (hval 0 26 v0 rfl rfl)
 obtain ⟨P0, hm0, hl0⟩ := Rd.agg rdRules h0
 refine (zMA (zHB P0 hm0) J (fun i hi => ?_) (pin_up (retroClosed_pin hL))).mono fun e W' ⟨he, ho, hp, hk⟩ => ⟨_, he, ?_⟩
 ·match i, hi with
  | 0, _ => exact hl0
 ·exact zML (t := 4) hW' J J J Tryz.underlying4 laidIt zLf fullIt (by kernel_rfl) ho hp hk
theorem retroClosed_j1 : Rows.retroClosedRow.wf (OpenSpec.ofChange Rows.retroClosedSpec) = true := by kernel_rfl
theorem retroClosed_j2 : (Rows.retroClosedRow.inPlace == Tryz.prog.inPlace 6) = true := by kernel_rfl
theorem retroClosed_j3 : (Rows.retroClosedRow.unfollowed == Tryz.prog.unfollowed 6) = true := by kernel_rfl
theorem retroClosed_j4 : (Rows.retroClosedRow.recurses == Tryz.prog.recurses 6) = true := by kernel_rfl
theorem retroClosed_j5 : (Rows.retroClosedRow.named == Tryz.prog.varsNamed 6) = true := by kernel_rfl
theorem retroClosed_j6 : (Rows.retroClosedRow.lifted == Tryz.prog.liftsFinal) = true := liftIt
theorem retroClosed_j7 : (Tryz.prog.make == some Rows.retroClosedRow.make) = true := makeIt
theorem retroClosed_j8 : (Rows.retroClosedRow.plainKeys == Tryz.prog.plainKeys) = true := plainIt
theorem retroClosed_joined : joinedFacts Tryz.prog 6 Tryz.f6 Rows.retroClosedSpec Rows.retroClosedRow = true := by
 unfold joinedFacts
 rw [retroClosed_j1, laidIt, zLf, stopsIt, knobsIt, retroClosed_j2, retroClosed_j3, retroClosed_j4, retroClosed_j5, retroClosed_j8, heardIt, enterIt, retroClosed_j6, retroClosed_j7]
 kernel_rfl
theorem retroClosed_named : Tryz.prog.funcNamed Rows.retroClosedRow.func = some 6 := by kernel_rfl
theorem retroClosed_inst : Tryz.f6.isInstance Tryz.prog Rows.retroClosedRow.origin Rows.retroClosedRow.targs := of_decide_eq_true (by kernel_rfl)
theorem retroClosed_wrap : Tryz.f6.isWrapper Tryz.prog Rows.retroClosedRow.wrapper Rows.retroClosedRow.mainSum := by unfold Func.isWrapper; first | (rw [if_pos (by decide +kernel)]; kernel_rfl) | (rw [if_neg (by decide +kernel)]; exact ⟨rfl, rfl⟩)
theorem retroClosed_holds : Rows.RetroClosedSaid :=
 OpenClaim.holds_of_wide 6 Tryz.f6 rfl rfl rfl rfl rfl rfl rfl ⟨rfl, rfl, rfl, rfl, rfl⟩ rfl rfl rfl rfl rfl retroClosed_named Tryz.func6 retroClosed_joined
  retroClosed_inst retroClosed_wrap
  (fun os started H enc _ => retroClosed_lifted os started H enc)
theorem retroClosed_c1 : Rows.retroClosedRow.wfByText (OpenSpec.ofChange Rows.retroClosedSpec) = true := by kernel_rfl
theorem retroClosed_c2 : ([26].all fun u => !Tryz.prog.wantsStandIn u) = true := by kernel_rfl
theorem retroClosed_c3 : false = Rows.retroClosedRow.goesBy Tryz.prog := by kernel_rfl
theorem retroClosed_card : Rows.RetroClosedCardSaid :=
 Claim7.holds_tied_plain_at .later [] [.data, .data, .data] true (true, "2ce54dd2d931fe3267d45603db6cf7fe51a52f562ad782d581866e6a342fe84b") false
  retroClosed_holds (fun _ h => by cases h) retroClosed_c1 (fun _ h => by cases h) retroClosed_row_tie rfl ⟨rfl, rfl⟩ zL8 rfl
  (fun f fn hf hfn => by
   obtain rfl : f = 6 := Option.some.inj (retroClosed_named.symm.trans hf) |>.symm
   obtain rfl : fn = Tryz.f6 := (Option.some.inj (Tryz.func6.symm.trans hfn)).symm
   exact ⟨looksIt, fun j t ht => by
    rw [Tryz.params6] at ht
    have hm : t ∈ [26] := by simpa using Array.mem_of_getElem? ht
    exact (show Tryz.prog.wantsStandIn t = false by simpa using List.all_eq_true.1 retroClosed_c2 t hm)⟩)
  retroClosed_c3
end Go.Proofs.YtiifcejepaeepaaGreatDoor
