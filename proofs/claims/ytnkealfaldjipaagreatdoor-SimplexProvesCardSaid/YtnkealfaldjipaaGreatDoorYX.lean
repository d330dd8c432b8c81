/- SimplexProves of the given program returns true for every input and leaves its arguments as they were; no conditions. -/
import Derived.Test.YtnkealfaldjipaaGreatDoorRows
import Derived.Test.YtnkealfaldjipaaGreatDoorTie
import Derived.Test.YtnkealfaldjipaaGreatDoorCards
import Derived.LaidMore
import Derived.Lay
import Derived.SevenTiedAt
import Derived.Stop.Joined
import Derived.Stop.ErrReads
import Derived.MakeChecks
import Derived.Test.YtnkealfaldjipaaGreatDoorY8
set_option linter.unusedVariables false
set_option linter.unusedSimpArgs false
namespace Go.Proofs.YtnkealfaldjipaaGreatDoor
open Go.Ax Go.ChangeShapes Go.WideShapes Go.ChangeAt Go.RowKit
theorem simplexProves_pin {W : World} (h0 : laidMetH Tryz.prog Rows.simplexProvesRow.laid W) : pinG W := by
 rw [MakeChecks.laidMetH_plain _ _ _ (by kernel_rfl)] at h0
 have h := h0
 exact ⟨trivial, Lib.tabIs_of_head (k := .u64) (zs := Lib.pow10Tab) (g := 5) (t := 337) (e := 229) (n := 20) (by kernel_rfl) (by kernel_rfl) Tryz.underlying337 Tryz.underlying229 (by kernel_rfl) (by kernel_rfl) (h.tail.tail), trivial⟩
set_option maxRecDepth 100000 in
theorem simplexProves_lifted (os : Os) (started : os.Started) (H : Type) (enc : TypeId × Value → H) :
 ReturnsInHanded {} Tryz.checked os 11 .any (fun w args => (Rows.simplexProvesSpec.pre enc Tryz.prog Tryz.f11 Rows.simplexProvesRow.domain false w args ∧ laidMetH Tryz.prog Rows.simplexProvesRow.laid w) ∧ sizedMet enc Tryz.prog Tryz.f11 (OpenSpec.ofChange Rows.simplexProvesSpec) false w args)
  (Rows.simplexProvesSpec.post enc Tryz.prog Tryz.f11 false true false false) := by
 refine returnsInHanded_of_change_and (C := Tryz.checked) (X := fun w _ => laidMetH Tryz.prog Rows.simplexProvesRow.laid w) (fun _ _ _ hh h => h.of_heap hh) ownIt started (by kernel_rfl) Tryz.func11
  (ChangeSpec.witness_shaped (enc := enc) (C := Tryz.checked) (os := os) (X := fun w _ => laidMetH Tryz.prog Rows.simplexProvesRow.laid w) false (World.laidAll Tryz.prog os Rows.simplexProvesRow.laid) #[.agg #[.slice none 0 0, .slice none 0 0, .slice none 0 0]] 8 (World.laidAll_os _ _ _)
   (World.shaped_of_ZipB (by kernel_rfl) (by kernel_rfl)) (by kernel_rfl) (by kernel_rfl) (by kernel_rfl)
   (by rw [MakeChecks.laidMetH_plain _ _ _ (by kernel_rfl)]; exact laidMet_laidAll _ (by kernel_rfl) (by kernel_rfl))) ?_
 intro W base args ds gs before hval0 hW hcnd _ hL _
 have hval : ∀ (j : Nat) t v, Tryz.f11.params[j]? = some t → args[j]? = some v → Value.okWide Tryz.prog W .any base t v := hval0
 have hW' := hW
 obtain ⟨p, q, hA0, hV, rfl, hfz, hnd⟩ := hW
 have hA : DataW.TrodAll enc Tryz.prog W 0 (fun _ => true) true Tryz.f11.params.toList args.toList ds p := hA0
 rw [Tryz.params11] at hA hval
 obtain ⟨v0, vs0, d0, ds0, p0, q0, hargs, rfl, rfl, h0, r0⟩ := trodAll_cons hA
 obtain ⟨rfl, rfl, rfl⟩ := trodAll_nil r0
 obtain rfl : args = #[v0] := by cases args; simp_all
 obtain ⟨rfl, rfl⟩ := trodVars_none hV
 obtain ⟨cs0, rfl, _⟩ := okWide_struct Tryz.underlying85 (hval 0 85 v0 rfl rfl)
 obtain ⟨P0, hm0, hl0⟩ := Rd.agg rdProb h0
 refine (zQh (zPx P0.A P0.B P0.C hm0) Z (fun i hi => ?_) (pin_up (simplexProves_pin hL))).mono fun e W' ⟨he, ho, hp, hk⟩ => ⟨_, he, ?_⟩
 ·match i, hi with
  | 0, _ => exact hl0
 ·exact zQ4 (t := 4) hW' Z Z Z Tryz.underlying4 laidIt zPK fullIt (by kernel_rfl) ho hp hk
theorem simplexProves_j1 : Rows.simplexProvesRow.wf (OpenSpec.ofChange Rows.simplexProvesSpec) = true := by kernel_rfl
theorem simplexProves_j2 : (Rows.simplexProvesRow.inPlace == Tryz.prog.inPlace 11) = true := by kernel_rfl
theorem simplexProves_j3 : (Rows.simplexProvesRow.unfollowed == Tryz.prog.unfollowed 11) = true := by kernel_rfl
theorem simplexProves_j4 : (Rows.simplexProvesRow.recurses == Tryz.prog.recurses 11) = true := by kernel_rfl
theorem simplexProves_j5 : (Rows.simplexProvesRow.named == Tryz.prog.varsNamed 11) = true := by kernel_rfl
theorem simplexProves_j6 : (Rows.simplexProvesRow.lifted == Tryz.prog.liftsFinal) = true := liftIt
theorem simplexProves_j7 : (Tryz.prog.make == some Rows.simplexProvesRow.make) = true := makeIt
theorem simplexProves_j8 : (Rows.simplexProvesRow.plainKeys == Tryz.prog.plainKeys) = true := plainIt
theorem simplexProves_joined : joinedFacts Tryz.prog 11 Tryz.f11 Rows.simplexProvesSpec Rows.simplexProvesRow = true := by
 unfold joinedFacts
 rw [simplexProves_j1, laidIt, zPK, stopsIt, knobsIt, simplexProves_j2, simplexProves_j3, simplexProves_j4, simplexProves_j5, simplexProves_j8, heardIt, enterIt, simplexProves_j6, simplexProves_j7]
 kernel_rfl
theorem simplexProves_named : Tryz.prog.funcNamed Rows.simplexProvesRow.func = some 11 := by kernel_rfl
theorem simplexProves_inst : Tryz.f11.isInstance Tryz.prog Rows.simplexProvesRow.origin Rows.simplexProvesRow.targs := of_decide_eq_true (by kernel_rfl)
theorem simplexProves_wrap : Tryz.f11.isWrapper Tryz.prog Rows.simplexProvesRow.wrapper Rows.simplexProvesRow.mainSum := by unfold Func.isWrapper; first | (rw [if_pos (by decide +kernel)]; kernel_rfl) | (rw [if_neg (by decide +kernel)]; exact ⟨rfl, rfl⟩)
theorem simplexProves_holds : Rows.SimplexProvesSaid :=
 OpenClaim.holds_of_wide 11 Tryz.f11 rfl rfl rfl rfl rfl rfl rfl ⟨rfl, rfl, rfl, rfl, rfl⟩ rfl rfl rfl rfl rfl simplexProves_named Tryz.func11 simplexProves_joined
  simplexProves_inst simplexProves_wrap
  (fun os started H enc _ => simplexProves_lifted os started H enc)
theorem simplexProves_c1 : Rows.simplexProvesRow.wfByText (OpenSpec.ofChange Rows.simplexProvesSpec) = true := by kernel_rfl
theorem simplexProves_c2 : ([85].all fun u => !Tryz.prog.wantsStandIn u) = true := by kernel_rfl
theorem simplexProves_c3 : false = Rows.simplexProvesRow.goesBy Tryz.prog := by kernel_rfl
theorem simplexProves_card : Rows.SimplexProvesCardSaid :=
 Claim7.holds_tied_plain_at .later [] [.data, .data, .data, .data, .sentinel, .sentinel, .pinned] true (true, "9a7b365347614a0287077179d20768685206a4b5ee48bcf94245b18e3653b2c2") true
  simplexProves_holds (fun _ h => by cases h) simplexProves_c1 (fun _ h => by cases h) simplexProves_row_tie rfl ⟨rfl, rfl⟩ zQc rfl
  (fun f fn hf hfn => by
   obtain rfl : f = 11 := Option.some.inj (simplexProves_named.symm.trans hf) |>.symm
   obtain rfl : fn = Tryz.f11 := (Option.some.inj (Tryz.func11.symm.trans hfn)).symm
   exact ⟨looksIt, fun j t ht => by
    rw [Tryz.params11] at ht
    have hm : t ∈ [85] := by simpa using Array.mem_of_getElem? ht
    exact (show Tryz.prog.wantsStandIn t = false by simpa using List.all_eq_true.1 simplexProves_c2 t hm)⟩)
  simplexProves_c3
end Go.Proofs.YtnkealfaldjipaaGreatDoor
