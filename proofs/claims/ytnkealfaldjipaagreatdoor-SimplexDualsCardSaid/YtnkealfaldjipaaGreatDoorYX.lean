/- SimplexDuals of the given program returns true for every input and leaves its arguments as they were; no conditions. -/
import Derived.Test.YtnkealfaldjipaaGreatDoorRows
import Derived.Test.YtnkealfaldjipaaGreatDoorTie
import Derived.Test.YtnkealfaldjipaaGreatDoorCards
import Derived.LaidMore
import Derived.Lay
import Derived.SevenTiedAt
import Derived.Stop.Joined
import Derived.Stop.ErrReads
import Derived.MakeChecks
import Derived.Test.YtnkealfaldjipaaGreatDoorY8
set_option linter.unusedVariables false
set_option linter.unusedSimpArgs false
namespace Go.Proofs.YtnkealfaldjipaaGreatDoor
open Go.Ax Go.ChangeShapes Go.WideShapes Go.ChangeAt Go.RowKit
theorem simplexDuals_pin {W : World} (h0 : laidMetH Tryz.prog Rows.simplexDualsRow.laid W) : pinG W := by
 rw [MakeChecks.laidMetH_plain _ _ _ (by kernel_rfl)] at h0
 have h := h0
 exact ⟨trivial, Lib.tabIs_of_head (k := .u64) (zs := Lib.pow10Tab) (g := 5) (t := 337) (e := 229) (n := 20) (by kernel_rfl) (by kernel_rfl) Tryz.underlying337 Tryz.underlying229 (by kernel_rfl) (by kernel_rfl) (h.tail.tail), trivial⟩
set_option maxRecDepth 100000 in
theorem simplexDuals_lifted (os : Os) (started : os.Started) (H : Type) (enc : TypeId × Value → H) :
 ReturnsInHanded {} Tryz.checked os 13 .any (fun w args => (Rows.simplexDualsSpec.pre enc Tryz.prog Tryz.f13 Rows.simplexDualsRow.domain false w args ∧ laidMetH Tryz.prog Rows.simplexDualsRow.laid w) ∧ sizedMet enc Tryz.prog Tryz.f13 (OpenSpec.ofChange Rows.simplexDualsSpec) false w args)
  (Rows.simplexDualsSpec.post enc Tryz.prog Tryz.f13 false true false false) := by
 refine returnsInHanded_of_change_and (C := Tryz.checked) (X := fun w _ => laidMetH Tryz.prog Rows.simplexDualsRow.laid w) (fun _ _ _ hh h => h.of_heap hh) ownIt started (by kernel_rfl) Tryz.func13
  (ChangeSpec.witness_shaped (enc := enc) (C := Tryz.checked) (os := os) (X := fun w _ => laidMetH Tryz.prog Rows.simplexDualsRow.laid w) false (World.laidAll Tryz.prog os Rows.simplexDualsRow.laid) #[.agg #[.slice none 0 0, .slice none 0 0, .slice none 0 0]] 8 (World.laidAll_os _ _ _)
   (World.shaped_of_ZipB (by kernel_rfl) (by kernel_rfl)) (by kernel_rfl) (by kernel_rfl) (by kernel_rfl)
   (by rw [MakeChecks.laidMetH_plain _ _ _ (by kernel_rfl)]; exact laidMet_laidAll _ (by kernel_rfl) (by kernel_rfl))) ?_
 intro W base args ds gs before hval0 hW hcnd _ hL _
 have hval : ∀ (j : Nat) t v, Tryz.f13.params[j]? = some t → args[j]? = some v → Value.okWide Tryz.prog W .any base t v := hval0
 have hW' := hW
 obtain ⟨p, q, hA0, hV, rfl, hfz, hnd⟩ := hW
 have hA : DataW.TrodAll enc Tryz.prog W 0 (fun _ => true) true Tryz.f13.params.toList args.toList ds p := hA0
 rw [Tryz.params13] at hA hval
 obtain ⟨v0, vs0, d0, ds0, p0, q0, hargs, rfl, rfl, h0, r0⟩ := trodAll_cons hA
 obtain ⟨rfl, rfl, rfl⟩ := trodAll_nil r0
 obtain rfl : args = #[v0] := by cases args; simp_all
 obtain ⟨rfl, rfl⟩ := trodVars_none hV
 obtain ⟨cs0, rfl, _⟩ := okWide_struct Tryz.underlying85 (hval 0 85 v0 rfl rfl)
 obtain ⟨P0, hm0, hl0⟩ := Rd.agg rdProb h0
 refine (zQh (zzAL P0.A P0.B P0.C hm0) Z (fun i hi => ?_) (pin_up (simplexDuals_pin hL))).mono fun e W' ⟨he, ho, hp, hk⟩ => ⟨_, he, ?_⟩
 ·match i, hi with
  | 0, _ => exact hl0
 ·exact zQ4 (t := 4) hW' Z Z Z Tryz.underlying4 laidIt zPK fullIt (by kernel_rfl) ho hp hk
theorem simplexDuals_j1 : Rows.simplexDualsRow.wf (OpenSpec.ofChange Rows.simplexDualsSpec) = true := by kernel_rfl
theorem simplexDuals_j2 : (Rows.simplexDualsRow.inPlace == Tryz.prog.inPlace 13) = true := by kernel_rfl
theorem simplexDuals_j3 : (Rows.simplexDualsRow.unfollowed == Tryz.prog.unfollowed 13) = true := by kernel_rfl
theorem simplexDuals_j4 : (Rows.simplexDualsRow.recurses == Tryz.prog.recurses 13) = true := by kernel_rfl
theorem simplexDuals_j5 : (Rows.simplexDualsRow.named == Tryz.prog.varsNamed 13) = true := by kernel_rfl
theorem simplexDuals_j6 : (Rows.simplexDualsRow.lifted == Tryz.prog.liftsFinal) = true := liftIt
theorem simplexDuals_j7 : (Tryz.prog.make == some Rows.simplexDualsRow.make) = true := makeIt
theorem simplexDuals_j8 : (Rows.simplexDualsRow.plainKeys == Tryz.prog.plainKeys) = true := plainIt
theorem simplexDuals_joined : joinedFacts Tryz.prog 13 Tryz.f13 Rows.simplexDualsSpec Rows.simplexDualsRow = true := by
 unfold joinedFacts
 rw [simplexDuals_j1, laidIt, zPK, stopsIt, knobsIt, simplexDuals_j2, simplexDuals_j3, simplexDuals_j4, simplexDuals_j5, simplexDuals_j8, heardIt, enterIt, simplexDuals_j6, simplexDuals_j7]
 kernel_rfl
theorem simplexDuals_named : Tryz.prog.funcNamed Rows.simplexDualsRow.func = some 13 := by kernel_rfl
theorem simplexDuals_inst : Tryz.f13.isInstance Tryz.prog Rows.simplexDualsRow.origin Rows.simplexDualsRow.targs := of_decide_eq_true (by kernel_rfl)
theorem simplexDuals_wrap : Tryz.f13.isWrapper Tryz.prog Rows.simplexDualsRow.wrapper Rows.simplexDualsRow.mainSum := by unfold Func.isWrapper; first | (rw [if_pos (by decide +kernel)]; kernel_rfl) | (rw [if_neg (by decide +kernel)]; exact ⟨rfl, rfl⟩)
theorem simplexDuals_holds : Rows.SimplexDualsSaid :=
 OpenClaim.holds_of_wide 13 Tryz.f13 rfl rfl rfl rfl rfl rfl rfl ⟨rfl, rfl, rfl, rfl, rfl⟩ rfl rfl rfl rfl rfl simplexDuals_named Tryz.func13 simplexDuals_joined
  simplexDuals_inst simplexDuals_wrap
  (fun os started H enc _ => simplexDuals_lifted os started H enc)
theorem simplexDuals_c1 : Rows.simplexDualsRow.wfByText (OpenSpec.ofChange Rows.simplexDualsSpec) = true := by kernel_rfl
theorem simplexDuals_c2 : ([85].all fun u => !Tryz.prog.wantsStandIn u) = true := by kernel_rfl
theorem simplexDuals_c3 : false = Rows.simplexDualsRow.goesBy Tryz.prog := by kernel_rfl
theorem simplexDuals_card : Rows.SimplexDualsCardSaid :=
 Claim7.holds_tied_plain_at .later [] [.data, .data, .data, .data, .sentinel, .sentinel, .pinned] true (true, "9a7b365347614a0287077179d20768685206a4b5ee48bcf94245b18e3653b2c2") true
  simplexDuals_holds (fun _ h => by cases h) simplexDuals_c1 (fun _ h => by cases h) simplexDuals_row_tie rfl ⟨rfl, rfl⟩ zQc rfl
  (fun f fn hf hfn => by
   obtain rfl : f = 13 := Option.some.inj (simplexDuals_named.symm.trans hf) |>.symm
   obtain rfl : fn = Tryz.f13 := (Option.some.inj (Tryz.func13.symm.trans hfn)).symm
   exact ⟨looksIt, fun j t ht => by
    rw [Tryz.params13] at ht
    have hm : t ∈ [85] := by simpa using Array.mem_of_getElem? ht
    exact (show Tryz.prog.wantsStandIn t = false by simpa using List.all_eq_true.1 simplexDuals_c2 t hm)⟩)
  simplexDuals_c3
end Go.Proofs.YtnkealfaldjipaaGreatDoor
