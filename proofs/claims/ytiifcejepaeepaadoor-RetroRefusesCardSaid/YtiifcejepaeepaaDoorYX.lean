/- RetroRefuses of the given program returns true for every input and leaves its arguments as they were; no conditions. -/
import Derived.Test.YtiifcejepaeepaaDoorRows
import Derived.Test.YtiifcejepaeepaaDoorTie
import Derived.Test.YtiifcejepaeepaaDoorCards
import Derived.LaidMore
import Derived.Lay
import Derived.SevenTiedAt
import Derived.Stop.Joined
import Derived.Stop.ErrReads
import Derived.MakeChecks
import Derived.Test.YtiifcejepaeepaaDoorY6
set_option linter.unusedVariables false
set_option linter.unusedSimpArgs false
namespace Go.Proofs.YtiifcejepaeepaaDoor
open Go.Ax Go.ChangeShapes Go.WideShapes Go.ChangeAt Go.RowKit
theorem retroRefuses_pin {W : World} (h0 : laidMetH Tryd.prog Rows.retroRefusesRow.laid W) : pinG W := by
 rw [MakeChecks.laidMetH_plain _ _ _ (by kernel_rfl)] at h0
 have h := h0
 exact ⟨trivial, Lib.tabIs_of_head (k := .u64) (zs := Lib.pow10Tab) (g := 0) (t := 145) (e := 118) (n := 20) (by kernel_rfl) (by kernel_rfl) Tryd.underlying145 Tryd.underlying118 (by kernel_rfl) (by kernel_rfl) (h.tail.tail), trivial⟩
set_option maxRecDepth 100000 in
theorem retroRefuses_lifted (os : Os) (started : os.Started) (H : Type) (enc : TypeId × Value → H) :
 ReturnsInHanded {} Tryd.checked os 3 .any (fun w args => (Rows.retroRefusesSpec.pre enc Tryd.prog Tryd.f3 Rows.retroRefusesRow.domain false w args ∧ laidMetH Tryd.prog Rows.retroRefusesRow.laid w) ∧ sizedMet enc Tryd.prog Tryd.f3 (OpenSpec.ofChange Rows.retroRefusesSpec) false w args)
  (Rows.retroRefusesSpec.post enc Tryd.prog Tryd.f3 false true false false) := by
 refine returnsInHanded_of_change_and (C := Tryd.checked) (X := fun w _ => laidMetH Tryd.prog Rows.retroRefusesRow.laid w) (fun _ _ _ hh h => h.of_heap hh) ownIt started (by kernel_rfl) Tryd.func3
  (ChangeSpec.witness_shaped (enc := enc) (C := Tryd.checked) (os := os) (X := fun w _ => laidMetH Tryd.prog Rows.retroRefusesRow.laid w) false (World.laidAll Tryd.prog os Rows.retroRefusesRow.laid) #[.agg #[.string ⟨#[]⟩, .int .i64 0, .int .i64 0, .slice none 0 0, .slice none 0 0, .bool false, .bool false, .slice none 0 0, .int .i64 0, .int .i64 0, .int .i64 0], .agg #[.slice none 0 0, .slice none 0 0, .slice none 0 0, .int .i64 0, .int .i64 0]] 8 (World.laidAll_os _ _ _)
   (World.shaped_of_ZipB (by kernel_rfl) (by kernel_rfl)) (by kernel_rfl) (by kernel_rfl) (by kernel_rfl)
   (by rw [MakeChecks.laidMetH_plain _ _ _ (by kernel_rfl)]; exact laidMet_laidAll _ (by kernel_rfl) (by kernel_rfl))) ?_
 intro W base args ds gs before hval0 hW hcnd _ hL _
 have hval : ∀ (j : Nat) t v, Tryd.f3.params[j]? = some t → args[j]? = some v → Value.okWide Tryd.prog W .any base t v := hval0
 have hW' := hW
 obtain ⟨p, q, hA0, hV, rfl, hfz, hnd⟩ := hW
 have hA : DataW.TrodAll enc Tryd.prog W 0 (fun _ => true) true Tryd.f3.params.toList args.toList ds p := hA0
 rw [Tryd.params3] at hA hval
 obtain ⟨v0, vs0, d0, ds0, p0, q0, hargs, rfl, rfl, h0, r0⟩ := trodAll_cons hA
 obtain ⟨v1, vs1, d1, ds1, p1, q1, rfl, rfl, rfl, h1, r1⟩ := trodAll_cons r0
 obtain ⟨rfl, rfl, rfl⟩ := trodAll_nil r1
 obtain rfl : args = #[v0, v1] := by cases args; simp_all
 obtain ⟨rfl, rfl⟩ := trodVars_none hV
 obtain ⟨cs0, rfl, _⟩ := okWide_struct Tryd.underlying26 (hval 0 26 v0 rfl rfl)
 obtain ⟨P0, hm0, hl0⟩ := Rd.agg rdRules h0
 obtain ⟨cs1, rfl, _⟩ := okWide_struct Tryd.underlying29 (hval 1 29 v1 rfl rfl)
 obtain ⟨P1, hm1, hl1⟩ := Rd.agg rdPos h1
 refine (zLp (zGD P0 P1 hm0 hm1) J (fun i hi => ?_) (pin_up (retroRefuses_pin hL))).mono fun e W' ⟨he, ho, hp, hk⟩ => ⟨_, he, ?_⟩
 ·match i, hi with
  | 0, _ => exact hl0
  | 1, _ => exact hl1
 ·exact zL1 (t := 4) hW' J J J Tryd.underlying4 laidIt zLM fullIt (by kernel_rfl) ho hp hk
theorem retroRefuses_j1 : Rows.retroRefusesRow.wf (OpenSpec.ofChange Rows.retroRefusesSpec) = true := by kernel_rfl
theorem retroRefuses_j2 : (Rows.retroRefusesRow.inPlace == Tryd.prog.inPlace 3) = true := by kernel_rfl
theorem retroRefuses_j3 : (Rows.retroRefusesRow.unfollowed == Tryd.prog.unfollowed 3) = true := by kernel_rfl
theorem retroRefuses_j4 : (Rows.retroRefusesRow.recurses == Tryd.prog.recurses 3) = true := by kernel_rfl
theorem retroRefuses_j5 : (Rows.retroRefusesRow.named == Tryd.prog.varsNamed 3) = true := by kernel_rfl
theorem retroRefuses_j6 : (Rows.retroRefusesRow.lifted == Tryd.prog.liftsFinal) = true := liftIt
theorem retroRefuses_j7 : (Tryd.prog.make == some Rows.retroRefusesRow.make) = true := makeIt
theorem retroRefuses_j8 : (Rows.retroRefusesRow.plainKeys == Tryd.prog.plainKeys) = true := plainIt
theorem retroRefuses_joined : joinedFacts Tryd.prog 3 Tryd.f3 Rows.retroRefusesSpec Rows.retroRefusesRow = true := by
 unfold joinedFacts
 rw [retroRefuses_j1, laidIt, zLM, stopsIt, knobsIt, retroRefuses_j2, retroRefuses_j3, retroRefuses_j4, retroRefuses_j5, retroRefuses_j8, heardIt, enterIt, retroRefuses_j6, retroRefuses_j7]
 kernel_rfl
theorem retroRefuses_named : Tryd.prog.funcNamed Rows.retroRefusesRow.func = some 3 := by kernel_rfl
theorem retroRefuses_inst : Tryd.f3.isInstance Tryd.prog Rows.retroRefusesRow.origin Rows.retroRefusesRow.targs := of_decide_eq_true (by kernel_rfl)
theorem retroRefuses_wrap : Tryd.f3.isWrapper Tryd.prog Rows.retroRefusesRow.wrapper Rows.retroRefusesRow.mainSum := by unfold Func.isWrapper; first | (rw [if_pos (by decide +kernel)]; kernel_rfl) | (rw [if_neg (by decide +kernel)]; exact ⟨rfl, rfl⟩)
theorem retroRefuses_holds : Rows.RetroRefusesSaid :=
 OpenClaim.holds_of_wide 3 Tryd.f3 rfl rfl rfl rfl rfl rfl rfl ⟨rfl, rfl, rfl, rfl, rfl⟩ rfl rfl rfl rfl rfl retroRefuses_named Tryd.func3 retroRefuses_joined
  retroRefuses_inst retroRefuses_wrap
  (fun os started H enc _ => retroRefuses_lifted os started H enc)
theorem retroRefuses_c1 : Rows.retroRefusesRow.wfByText (OpenSpec.ofChange Rows.retroRefusesSpec) = true := by kernel_rfl
theorem retroRefuses_c2 : ([26, 29].all fun u => !Tryd.prog.wantsStandIn u) = true := by kernel_rfl
theorem retroRefuses_c3 : false = Rows.retroRefusesRow.goesBy Tryd.prog := by kernel_rfl
theorem retroRefuses_card : Rows.RetroRefusesCardSaid :=
 Claim7.holds_tied_plain_at .later [] [.data, .data, .data] true (true, "ad55fd3a6a4be0c73303237172f97089a011862a1d1882085510d131060b00e2") false
  retroRefuses_holds (fun _ h => by cases h) retroRefuses_c1 (fun _ h => by cases h) retroRefuses_row_tie rfl ⟨rfl, rfl⟩ zLn rfl
  (fun f fn hf hfn => by
   obtain rfl : f = 3 := Option.some.inj (retroRefuses_named.symm.trans hf) |>.symm
   obtain rfl : fn = Tryd.f3 := (Option.some.inj (Tryd.func3.symm.trans hfn)).symm
   exact ⟨looksIt, fun j t ht => by
    rw [Tryd.params3] at ht
    have hm : t ∈ [26, 29] := by simpa using Array.mem_of_getElem? ht
    exact (show Tryd.prog.wantsStandIn t = false by simpa using List.all_eq_true.1 retroRefuses_c2 t hm)⟩)
  retroRefuses_c3
end Go.Proofs.YtiifcejepaeepaaDoor
