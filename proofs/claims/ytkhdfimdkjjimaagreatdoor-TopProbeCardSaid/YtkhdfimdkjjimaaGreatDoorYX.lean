/- TopProbe of the given program returns true for every input and leaves its arguments as they were; no conditions. -/
import Derived.Test.YtkhdfimdkjjimaaGreatDoorRows
import Derived.Test.YtkhdfimdkjjimaaGreatDoorTie
import Derived.Test.YtkhdfimdkjjimaaGreatDoorCards
import Derived.LaidMore
import Derived.Lay
import Derived.SevenTiedAt
import Derived.Stop.Joined
import Derived.Stop.ErrReads
import Derived.MakeChecks
import Derived.Test.YtkhdfimdkjjimaaGreatDoorY8
set_option linter.unusedVariables false
set_option linter.unusedSimpArgs false
namespace Go.Proofs.YtkhdfimdkjjimaaGreatDoor
open Go.Ax Go.ChangeShapes Go.WideShapes Go.ChangeAt Go.RowKit
theorem topProbe_pin {W : World} (h0 : laidMetH Tryz.prog Rows.topProbeRow.laid W) : pinG W := by
 rw [MakeChecks.laidMetH_plain _ _ _ (by kernel_rfl)] at h0
 have h := h0
 exact ⟨trivial, Lib.tabIs_of_head (k := .u64) (zs := Lib.pow10Tab) (g := 0) (t := 191) (e := 168) (n := 20) (by kernel_rfl) (by kernel_rfl) Tryz.underlying191 Tryz.underlying168 (by kernel_rfl) (by kernel_rfl) (h.tail.tail), trivial⟩
set_option maxRecDepth 100000 in
theorem topProbe_lifted (os : Os) (started : os.Started) (H : Type) (enc : TypeId × Value → H) :
 ReturnsInHanded {} Tryz.checked os 4 .any (fun w args => (Rows.topProbeSpec.pre enc Tryz.prog Tryz.f4 Rows.topProbeRow.domain false w args ∧ laidMetH Tryz.prog Rows.topProbeRow.laid w) ∧ sizedMet enc Tryz.prog Tryz.f4 (OpenSpec.ofChange Rows.topProbeSpec) false w args)
  (Rows.topProbeSpec.post enc Tryz.prog Tryz.f4 false true false false) := by
 refine returnsInHanded_of_change_and (C := Tryz.checked) (X := fun w _ => laidMetH Tryz.prog Rows.topProbeRow.laid w) (fun _ _ _ hh h => h.of_heap hh) ownIt started (by kernel_rfl) Tryz.func4
  (ChangeSpec.witness_shaped (enc := enc) (C := Tryz.checked) (os := os) (X := fun w _ => laidMetH Tryz.prog Rows.topProbeRow.laid w) false (World.laidAll Tryz.prog os Rows.topProbeRow.laid) #[.agg #[.string ⟨#[]⟩, .int .i64 0, .int .i64 0, .slice none 0 0, .slice none 0 0, .bool false, .bool false, .slice none 0 0, .int .i64 0, .int .i64 0, .int .i64 0]] 8 (World.laidAll_os _ _ _)
   (World.shaped_of_ZipB (by kernel_rfl) (by kernel_rfl)) (by kernel_rfl) (by kernel_rfl) (by kernel_rfl)
   (by rw [MakeChecks.laidMetH_plain _ _ _ (by kernel_rfl)]; exact laidMet_laidAll _ (by kernel_rfl) (by kernel_rfl))) ?_
 intro W base args ds gs before hval0 hW hcnd _ hL _
 have hval : ∀ (j : Nat) t v, Tryz.f4.params[j]? = some t → args[j]? = some v → Value.okWide Tryz.prog W .any base t v := hval0
 have hW' := hW
 obtain ⟨p, q, hA0, hV, rfl, hfz, hnd⟩ := hW
 have hA : DataW.TrodAll enc Tryz.prog W 0 (fun _ => true) true Tryz.f4.params.toList args.toList ds p := hA0
 rw [Tryz.params4] at hA hval
 obtain ⟨v0, vs0, d0, ds0, p0, q0, hargs, rfl, rfl, h0, r0⟩ := trodAll_cons hA
 obtain ⟨rfl, rfl, rfl⟩ := trodAll_nil r0
 obtain rfl : args = #[v0] := by cases args; simp_all
 obtain ⟨rfl, rfl⟩ := trodVars_none hV
 obtain ⟨cs0, rfl, _⟩ := okWide_struct Tryz.underlying26 (hval 0 26 v0 rfl rfl)
 obtain ⟨P0, hm0, hl0⟩ := Rd.agg rdRules h0
 refine (zOB (TopProbe_law P0 hm0) U (fun i hi => ?_) (pin_up (topProbe_pin hL))).mono fun e W' ⟨he, ho, hp, hk⟩ => ⟨_, he, ?_⟩
 ·match i, hi with
  | 0, _ => exact hl0
 ·exact zOP (t := 4) hW' U U U Tryz.underlying4 laidIt zNg fullIt (by kernel_rfl) ho hp hk
theorem topProbe_j1 : Rows.topProbeRow.wf (OpenSpec.ofChange Rows.topProbeSpec) = true := by kernel_rfl
theorem topProbe_j2 : (Rows.topProbeRow.inPlace == Tryz.prog.inPlace 4) = true := by kernel_rfl
theorem topProbe_j3 : (Rows.topProbeRow.unfollowed == Tryz.prog.unfollowed 4) = true := by kernel_rfl
theorem topProbe_j4 : (Rows.topProbeRow.recurses == Tryz.prog.recurses 4) = true := by kernel_rfl
theorem topProbe_j5 : (Rows.topProbeRow.named == Tryz.prog.varsNamed 4) = true := by kernel_rfl
theorem topProbe_j6 : (Rows.topProbeRow.lifted == Tryz.prog.liftsFinal) = true := liftIt
theorem topProbe_j7 : (Tryz.prog.make == some Rows.topProbeRow.make) = true := makeIt
theorem topProbe_j8 : (Rows.topProbeRow.plainKeys == Tryz.prog.plainKeys) = true := plainIt
theorem topProbe_joined : joinedFacts Tryz.prog 4 Tryz.f4 Rows.topProbeSpec Rows.topProbeRow = true := by
 unfold joinedFacts
 rw [topProbe_j1, laidIt, zNg, stopsIt, knobsIt, topProbe_j2, topProbe_j3, topProbe_j4, topProbe_j5, topProbe_j8, heardIt, enterIt, topProbe_j6, topProbe_j7]
 kernel_rfl
theorem topProbe_named : Tryz.prog.funcNamed Rows.topProbeRow.func = some 4 := by kernel_rfl
theorem topProbe_inst : Tryz.f4.isInstance Tryz.prog Rows.topProbeRow.origin Rows.topProbeRow.targs := of_decide_eq_true (by kernel_rfl)
theorem topProbe_wrap : Tryz.f4.isWrapper Tryz.prog Rows.topProbeRow.wrapper Rows.topProbeRow.mainSum := by unfold Func.isWrapper; first | (rw [if_pos (by decide +kernel)]; kernel_rfl) | (rw [if_neg (by decide +kernel)]; exact ⟨rfl, rfl⟩)
theorem topProbe_holds : Rows.TopProbeSaid :=
 OpenClaim.holds_of_wide 4 Tryz.f4 rfl rfl rfl rfl rfl rfl rfl ⟨rfl, rfl, rfl, rfl, rfl⟩ rfl rfl rfl rfl rfl topProbe_named Tryz.func4 topProbe_joined
  topProbe_inst topProbe_wrap
  (fun os started H enc _ => topProbe_lifted os started H enc)
theorem topProbe_c1 : Rows.topProbeRow.wfByText (OpenSpec.ofChange Rows.topProbeSpec) = true := by kernel_rfl
theorem topProbe_c2 : ([26].all fun u => !Tryz.prog.wantsStandIn u) = true := by kernel_rfl
theorem topProbe_c3 : false = Rows.topProbeRow.goesBy Tryz.prog := by kernel_rfl
theorem topProbe_card : Rows.TopProbeCardSaid :=
 Claim7.holds_tied_plain_at .later [] [.data, .data, .data] true (true, "d04956e65b91b327675e25521f565e823676404f8caa57188f889227c462b92f") false
  topProbe_holds (fun _ h => by cases h) topProbe_c1 (fun _ h => by cases h) topProbe_row_tie rfl ⟨rfl, rfl⟩ zN9 rfl
  (fun f fn hf hfn => by
   obtain rfl : f = 4 := Option.some.inj (topProbe_named.symm.trans hf) |>.symm
   obtain rfl : fn = Tryz.f4 := (Option.some.inj (Tryz.func4.symm.trans hfn)).symm
   exact ⟨looksIt, fun j t ht => by
    rw [Tryz.params4] at ht
    have hm : t ∈ [26] := by simpa using Array.mem_of_getElem? ht
    exact (show Tryz.prog.wantsStandIn t = false by simpa using List.all_eq_true.1 topProbe_c2 t hm)⟩)
  topProbe_c3
end Go.Proofs.YtkhdfimdkjjimaaGreatDoor
