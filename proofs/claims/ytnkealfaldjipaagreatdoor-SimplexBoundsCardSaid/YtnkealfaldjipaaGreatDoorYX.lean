/- SimplexBounds of the given program returns true for every input and leaves its arguments as they were; no conditions. -/
import Derived.Test.YtnkealfaldjipaaGreatDoorRows
import Derived.Test.YtnkealfaldjipaaGreatDoorTie
import Derived.Test.YtnkealfaldjipaaGreatDoorCards
import Derived.LaidMore
import Derived.Lay
import Derived.SevenTiedAt
import Derived.Stop.Joined
import Derived.Stop.ErrReads
import Derived.MakeChecks
import Derived.Test.YtnkealfaldjipaaGreatDoorY8
set_option linter.unusedVariables false
set_option linter.unusedSimpArgs false
namespace Go.Proofs.YtnkealfaldjipaaGreatDoor
open Go.Ax Go.ChangeShapes Go.WideShapes Go.ChangeAt Go.RowKit
theorem simplexBounds_pin {W : World} (h0 : laidMetH Tryz.prog Rows.simplexBoundsRow.laid W) : pinG W := by
 rw [MakeChecks.laidMetH_plain _ _ _ (by kernel_rfl)] at h0
 have h := h0
 exact ⟨trivial, Lib.tabIs_of_head (k := .u64) (zs := Lib.pow10Tab) (g := 5) (t := 337) (e := 229) (n := 20) (by kernel_rfl) (by kernel_rfl) Tryz.underlying337 Tryz.underlying229 (by kernel_rfl) (by kernel_rfl) (h.tail.tail), trivial⟩
set_option maxRecDepth 100000 in
theorem simplexBounds_lifted (os : Os) (started : os.Started) (H : Type) (enc : TypeId × Value → H) :
 ReturnsInHanded {} Tryz.checked os 14 .any (fun w args => (Rows.simplexBoundsSpec.pre enc Tryz.prog Tryz.f14 Rows.simplexBoundsRow.domain false w args ∧ laidMetH Tryz.prog Rows.simplexBoundsRow.laid w) ∧ sizedMet enc Tryz.prog Tryz.f14 (OpenSpec.ofChange Rows.simplexBoundsSpec) false w args)
  (Rows.simplexBoundsSpec.post enc Tryz.prog Tryz.f14 false true false false) := by
 refine returnsInHanded_of_change_and (C := Tryz.checked) (X := fun w _ => laidMetH Tryz.prog Rows.simplexBoundsRow.laid w) (fun _ _ _ hh h => h.of_heap hh) ownIt started (by kernel_rfl) Tryz.func14
  (ChangeSpec.witness_shaped (enc := enc) (C := Tryz.checked) (os := os) (X := fun w _ => laidMetH Tryz.prog Rows.simplexBoundsRow.laid w) false (World.laidAll Tryz.prog os Rows.simplexBoundsRow.laid) #[.agg #[.slice none 0 0, .slice none 0 0, .slice none 0 0], .slice none 0 0] 8 (World.laidAll_os _ _ _)
   (World.shaped_of_ZipB (by kernel_rfl) (by kernel_rfl)) (by kernel_rfl) (by kernel_rfl) (by kernel_rfl)
   (by rw [MakeChecks.laidMetH_plain _ _ _ (by kernel_rfl)]; exact laidMet_laidAll _ (by kernel_rfl) (by kernel_rfl))) ?_
 intro W base args ds gs before hval0 hW hcnd _ hL _
 have hval : ∀ (j : Nat) t v, Tryz.f14.params[j]? = some t → args[j]? = some v → Value.okWide Tryz.prog W .any base t v := hval0
 have hW' := hW
 obtain ⟨p, q, hA0, hV, rfl, hfz, hnd⟩ := hW
 have hA : DataW.TrodAll enc Tryz.prog W 0 (fun _ => true) true Tryz.f14.params.toList args.toList ds p := hA0
 rw [Tryz.params14] at hA hval
 obtain ⟨v0, vs0, d0, ds0, p0, q0, hargs, rfl, rfl, h0, r0⟩ := trodAll_cons hA
 obtain ⟨v1, vs1, d1, ds1, p1, q1, rfl, rfl, rfl, h1, r1⟩ := trodAll_cons r0
 obtain ⟨rfl, rfl, rfl⟩ := trodAll_nil r1
 obtain rfl : args = #[v0, v1] := by cases args; simp_all
 obtain ⟨rfl, rfl⟩ := trodVars_none hV
 obtain ⟨cs0, rfl, _⟩ := okWide_struct Tryz.underlying85 (hval 0 85 v0 rfl rfl)
 obtain ⟨P0, hm0, hl0⟩ := Rd.agg rdProb h0
 obtain ⟨ad1, sn1, sc1, rfl⟩ := okWide_slice Tryz.underlying83 (hval 1 83 v1 rfl rfl)
 obtain ⟨l1, ⟨hm1, hx1⟩, hl1⟩ := Rd.one (Rd.strs Tryz.underlying83 (by kernel_rfl) Tryz.underlying27) rfl h1
 refine (zQh (zzAJ P0.A P0.B P0.C l1 hm0 hm1 hx1) Z (fun i hi => ?_) (pin_up (simplexBounds_pin hL))).mono fun e W' ⟨he, ho, hp, hk⟩ => ⟨_, he, ?_⟩
 ·match i, hi with
  | 0, _ => exact hl0
  | 1, _ => exact hl1
 ·exact zQ4 (t := 4) hW' Z Z Z Tryz.underlying4 laidIt zPK fullIt (by kernel_rfl) ho hp hk
theorem simplexBounds_j1 : Rows.simplexBoundsRow.wf (OpenSpec.ofChange Rows.simplexBoundsSpec) = true := by kernel_rfl
theorem simplexBounds_j2 : (Rows.simplexBoundsRow.inPlace == Tryz.prog.inPlace 14) = true := by kernel_rfl
theorem simplexBounds_j3 : (Rows.simplexBoundsRow.unfollowed == Tryz.prog.unfollowed 14) = true := by kernel_rfl
theorem simplexBounds_j4 : (Rows.simplexBoundsRow.recurses == Tryz.prog.recurses 14) = true := by kernel_rfl
theorem simplexBounds_j5 : (Rows.simplexBoundsRow.named == Tryz.prog.varsNamed 14) = true := by kernel_rfl
theorem simplexBounds_j6 : (Rows.simplexBoundsRow.lifted == Tryz.prog.liftsFinal) = true := liftIt
theorem simplexBounds_j7 : (Tryz.prog.make == some Rows.simplexBoundsRow.make) = true := makeIt
theorem simplexBounds_j8 : (Rows.simplexBoundsRow.plainKeys == Tryz.prog.plainKeys) = true := plainIt
theorem simplexBounds_joined : joinedFacts Tryz.prog 14 Tryz.f14 Rows.simplexBoundsSpec Rows.simplexBoundsRow = true := by
 unfold joinedFacts
 rw [simplexBounds_j1, laidIt, zPK, stopsIt, knobsIt, simplexBounds_j2, simplexBounds_j3, simplexBounds_j4, simplexBounds_j5, simplexBounds_j8, heardIt, enterIt, simplexBounds_j6, simplexBounds_j7]
 kernel_rfl
theorem simplexBounds_named : Tryz.prog.funcNamed Rows.simplexBoundsRow.func = some 14 := by kernel_rfl
theorem simplexBounds_inst : Tryz.f14.isInstance Tryz.prog Rows.simplexBoundsRow.origin Rows.simplexBoundsRow.targs := of_decide_eq_true (by kernel_rfl)
theorem simplexBounds_wrap : Tryz.f14.isWrapper Tryz.prog Rows.simplexBoundsRow.wrapper Rows.simplexBoundsRow.mainSum := by unfold Func.isWrapper; first | (rw [if_pos (by decide +kernel)]; kernel_rfl) | (rw [if_neg (by decide +kernel)]; exact ⟨rfl, rfl⟩)
theorem simplexBounds_holds : Rows.SimplexBoundsSaid :=
 OpenClaim.holds_of_wide 14 Tryz.f14 rfl rfl rfl rfl rfl rfl rfl ⟨rfl, rfl, rfl, rfl, rfl⟩ rfl rfl rfl rfl rfl simplexBounds_named Tryz.func14 simplexBounds_joined
  simplexBounds_inst simplexBounds_wrap
  (fun os started H enc _ => simplexBounds_lifted os started H enc)
theorem simplexBounds_c1 : Rows.simplexBoundsRow.wfByText (OpenSpec.ofChange Rows.simplexBoundsSpec) = true := by kernel_rfl
theorem simplexBounds_c2 : ([85, 83].all fun u => !Tryz.prog.wantsStandIn u) = true := by kernel_rfl
theorem simplexBounds_c3 : false = Rows.simplexBoundsRow.goesBy Tryz.prog := by kernel_rfl
theorem simplexBounds_card : Rows.SimplexBoundsCardSaid :=
 Claim7.holds_tied_plain_at .later [] [.data, .data, .data, .data, .sentinel, .sentinel, .pinned] true (true, "9a7b365347614a0287077179d20768685206a4b5ee48bcf94245b18e3653b2c2") true
  simplexBounds_holds (fun _ h => by cases h) simplexBounds_c1 (fun _ h => by cases h) simplexBounds_row_tie rfl ⟨rfl, rfl⟩ zQc rfl
  (fun f fn hf hfn => by
   obtain rfl : f = 14 := Option.some.inj (simplexBounds_named.symm.trans hf) |>.symm
   obtain rfl : fn = Tryz.f14 := (Option.some.inj (Tryz.func14.symm.trans hfn)).symm
   exact ⟨looksIt, fun j t ht => by
    rw [Tryz.params14] at ht
    have hm : t ∈ [85, 83] := by simpa using Array.mem_of_getElem? ht
    exact (show Tryz.prog.wantsStandIn t = false by simpa using List.all_eq_true.1 simplexBounds_c2 t hm)⟩)
  simplexBounds_c3
end Go.Proofs.YtnkealfaldjipaaGreatDoor
