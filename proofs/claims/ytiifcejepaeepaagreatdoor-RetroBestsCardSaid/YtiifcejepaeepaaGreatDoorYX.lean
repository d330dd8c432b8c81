/- RetroBests of the given program returns true for every input and leaves its arguments as they were; no conditions. -/
import Derived.Test.YtiifcejepaeepaaGreatDoorRows
import Derived.Test.YtiifcejepaeepaaGreatDoorTie
import Derived.Test.YtiifcejepaeepaaGreatDoorCards
import Derived.LaidMore
import Derived.Lay
import Derived.SevenTiedAt
import Derived.Stop.Joined
import Derived.Stop.ErrReads
import Derived.MakeChecks
import Derived.Test.YtiifcejepaeepaaGreatDoorY6
set_option linter.unusedVariables false
set_option linter.unusedSimpArgs false
namespace Go.Proofs.YtiifcejepaeepaaGreatDoor
open Go.Ax Go.ChangeShapes Go.WideShapes Go.ChangeAt Go.RowKit
theorem retroBests_pin {W : World} (h0 : laidMetH Tryz.prog Rows.retroBestsRow.laid W) : pinG W := by
 rw [MakeChecks.laidMetH_plain _ _ _ (by kernel_rfl)] at h0
 have h := h0
 exact ⟨trivial, Lib.tabIs_of_head (k := .u64) (zs := Lib.pow10Tab) (g := 0) (t := 201) (e := 184) (n := 20) (by kernel_rfl) (by kernel_rfl) Tryz.underlying201 Tryz.underlying184 (by kernel_rfl) (by kernel_rfl) (h.tail.tail), trivial⟩
set_option maxRecDepth 100000 in
theorem retroBests_lifted (os : Os) (started : os.Started) (H : Type) (enc : TypeId × Value → H) :
 ReturnsInHanded {} Tryz.checked os 5 .any (fun w args => (Rows.retroBestsSpec.pre enc Tryz.prog Tryz.f5 Rows.retroBestsRow.domain false w args ∧ laidMetH Tryz.prog Rows.retroBestsRow.laid w) ∧ sizedMet enc Tryz.prog Tryz.f5 (OpenSpec.ofChange Rows.retroBestsSpec) false w args)
  (Rows.retroBestsSpec.post enc Tryz.prog Tryz.f5 false true false false) := by
 refine returnsInHanded_of_change_and (C := Tryz.checked) (X := fun w _ => laidMetH Tryz.prog Rows.retroBestsRow.laid w) (fun _ _ _ hh h => h.of_heap hh) ownIt started (by kernel_rfl) Tryz.func5
  (ChangeSpec.witness_shaped (enc := enc) (C := Tryz.checked) (os := os) (X := fun w _ => laidMetH Tryz.prog Rows.retroBestsRow.laid w) false (World.laidAll Tryz.prog os Rows.retroBestsRow.laid) #[.agg #[.string ⟨#[]⟩, .int .i64 0, .int .i64 0, .slice none 0 0, .slice none 0 0, .bool false, .bool false, .slice none 0 0, .int .i64 0, .int .i64 0, .int .i64 0], .int .i64 0] 8 (World.laidAll_os _ _ _)
   (World.shaped_of_ZipB (by kernel_rfl) (by kernel_rfl)) (by kernel_rfl) (by kernel_rfl) (by kernel_rfl)
   (by rw [MakeChecks.laidMetH_plain _ _ _ (by kernel_rfl)]; exact laidMet_laidAll _ (by kernel_rfl) (by kernel_rfl))) ?_
 intro W base args ds gs before hval0 hW hcnd _ hL _
 have hval : ∀ (j : Nat) t v, Tryz.f5.params[j]? = some t → args[j]? = some v → Value.okWide Tryz.prog W .any base t v := hval0
 have hW' := hW
 obtain ⟨p, q, hA0, hV, rfl, hfz, hnd⟩ := hW
 have hA : DataW.TrodAll enc Tryz.prog W 0 (fun _ => true) true Tryz.f5.params.toList args.toList ds p := hA0
 rw [Tryz.params5] at hA hval
 obtain ⟨v0, vs0, d0, ds0, p0, q0, hargs, rfl, rfl, h0, r0⟩ := trodAll_cons hA
 obtain ⟨v1, vs1, d1, ds1, p1, q1, rfl, rfl, rfl, h1, r1⟩ := trodAll_cons r0
 obtain ⟨rfl, rfl, rfl⟩ := trodAll_nil r1
 obtain rfl : args = #[v0, v1] := by cases args; simp_all
 obtain ⟨rfl, rfl⟩ := trodVars_none hV
 obtain ⟨cs0, rfl, _⟩ := okWide_struct Tryz.underlying26 (hval 0 26 v0 rfl rfl)
 obtain ⟨P0, hm0, hl0⟩ := Rd.agg rdRules h0
 obtain ⟨n1, rfl, rfl, rfl, hw1⟩ := open_int Tryz.underlying3 (hval 1 3 v1 rfl rfl) h1
 have hl1 : VR W (fun b => b < W.heap.size) (fun _ => none) (.int .i64 n1) (.int .i64 n1) := .int _ _ _
 refine (zMc (zHg P0 n1 hm0) Z (fun i hi => ?_) (pin_up (retroBests_pin hL))).mono fun e W' ⟨he, ho, hp, hk⟩ => ⟨_, he, ?_⟩
 ·match i, hi with
  | 0, _ => exact hl0
  | 1, _ => exact hl1
 ·exact zMo (t := 4) hW' Z Z Z Tryz.underlying4 laidIt zL5 fullIt (by kernel_rfl) ho hp hk
theorem retroBests_j1 : Rows.retroBestsRow.wf (OpenSpec.ofChange Rows.retroBestsSpec) = true := by kernel_rfl
theorem retroBests_j2 : (Rows.retroBestsRow.inPlace == Tryz.prog.inPlace 5) = true := by kernel_rfl
theorem retroBests_j3 : (Rows.retroBestsRow.unfollowed == Tryz.prog.unfollowed 5) = true := by kernel_rfl
theorem retroBests_j4 : (Rows.retroBestsRow.recurses == Tryz.prog.recurses 5) = true := by kernel_rfl
theorem retroBests_j5 : (Rows.retroBestsRow.named == Tryz.prog.varsNamed 5) = true := by kernel_rfl
theorem retroBests_j6 : (Rows.retroBestsRow.lifted == Tryz.prog.liftsFinal) = true := liftIt
theorem retroBests_j7 : (Tryz.prog.make == some Rows.retroBestsRow.make) = true := makeIt
theorem retroBests_j8 : (Rows.retroBestsRow.plainKeys == Tryz.prog.plainKeys) = true := plainIt
theorem retroBests_joined : joinedFacts Tryz.prog 5 Tryz.f5 Rows.retroBestsSpec Rows.retroBestsRow = true := by
 unfold joinedFacts
 rw [retroBests_j1, laidIt, zL5, stopsIt, knobsIt, retroBests_j2, retroBests_j3, retroBests_j4, retroBests_j5, retroBests_j8, heardIt, enterIt, retroBests_j6, retroBests_j7]
 kernel_rfl
theorem retroBests_named : Tryz.prog.funcNamed Rows.retroBestsRow.func = some 5 := by kernel_rfl
theorem retroBests_inst : Tryz.f5.isInstance Tryz.prog Rows.retroBestsRow.origin Rows.retroBestsRow.targs := of_decide_eq_true (by kernel_rfl)
theorem retroBests_wrap : Tryz.f5.isWrapper Tryz.prog Rows.retroBestsRow.wrapper Rows.retroBestsRow.mainSum := by unfold Func.isWrapper; first | (rw [if_pos (by decide +kernel)]; kernel_rfl) | (rw [if_neg (by decide +kernel)]; exact ⟨rfl, rfl⟩)
theorem retroBests_holds : Rows.RetroBestsSaid :=
 OpenClaim.holds_of_wide 5 Tryz.f5 rfl rfl rfl rfl rfl rfl rfl ⟨rfl, rfl, rfl, rfl, rfl⟩ rfl rfl rfl rfl rfl retroBests_named Tryz.func5 retroBests_joined
  retroBests_inst retroBests_wrap
  (fun os started H enc _ => retroBests_lifted os started H enc)
theorem retroBests_c1 : Rows.retroBestsRow.wfByText (OpenSpec.ofChange Rows.retroBestsSpec) = true := by kernel_rfl
theorem retroBests_c2 : ([26, 3].all fun u => !Tryz.prog.wantsStandIn u) = true := by kernel_rfl
theorem retroBests_c3 : false = Rows.retroBestsRow.goesBy Tryz.prog := by kernel_rfl
theorem retroBests_card : Rows.RetroBestsCardSaid :=
 Claim7.holds_tied_plain_at .later [] [.data, .data, .data] true (true, "2ce54dd2d931fe3267d45603db6cf7fe51a52f562ad782d581866e6a342fe84b") false
  retroBests_holds (fun _ h => by cases h) retroBests_c1 (fun _ h => by cases h) retroBests_row_tie rfl ⟨rfl, rfl⟩ zMa rfl
  (fun f fn hf hfn => by
   obtain rfl : f = 5 := Option.some.inj (retroBests_named.symm.trans hf) |>.symm
   obtain rfl : fn = Tryz.f5 := (Option.some.inj (Tryz.func5.symm.trans hfn)).symm
   exact ⟨looksIt, fun j t ht => by
    rw [Tryz.params5] at ht
    have hm : t ∈ [26, 3] := by simpa using Array.mem_of_getElem? ht
    exact (show Tryz.prog.wantsStandIn t = false by simpa using List.all_eq_true.1 retroBests_c2 t hm)⟩)
  retroBests_c3
end Go.Proofs.YtiifcejepaeepaaGreatDoor
