/- SimplexRefuses of the given program returns true for every input and leaves its arguments as they were; no conditions. -/
import Derived.Test.YtnkealfaldjipaaGreatDoorRows
import Derived.Test.YtnkealfaldjipaaGreatDoorTie
import Derived.Test.YtnkealfaldjipaaGreatDoorCards
import Derived.LaidMore
import Derived.Lay
import Derived.SevenTiedAt
import Derived.Stop.Joined
import Derived.Stop.ErrReads
import Derived.MakeChecks
import Derived.Test.YtnkealfaldjipaaGreatDoorY8
set_option linter.unusedVariables false
set_option linter.unusedSimpArgs false
namespace Go.Proofs.YtnkealfaldjipaaGreatDoor
open Go.Ax Go.ChangeShapes Go.WideShapes Go.ChangeAt Go.RowKit
theorem simplexRefuses_pin {W : World} (h0 : laidMetH Tryz.prog Rows.simplexRefusesRow.laid W) : pinG W := by
 rw [MakeChecks.laidMetH_plain _ _ _ (by kernel_rfl)] at h0
 have h := h0
 exact ⟨trivial, Lib.tabIs_of_head (k := .u64) (zs := Lib.pow10Tab) (g := 5) (t := 337) (e := 229) (n := 20) (by kernel_rfl) (by kernel_rfl) Tryz.underlying337 Tryz.underlying229 (by kernel_rfl) (by kernel_rfl) (h.tail.tail), trivial⟩
set_option maxRecDepth 100000 in
theorem simplexRefuses_lifted (os : Os) (started : os.Started) (H : Type) (enc : TypeId × Value → H) :
 ReturnsInHanded {} Tryz.checked os 12 .any (fun w args => (Rows.simplexRefusesSpec.pre enc Tryz.prog Tryz.f12 Rows.simplexRefusesRow.domain false w args ∧ laidMetH Tryz.prog Rows.simplexRefusesRow.laid w) ∧ sizedMet enc Tryz.prog Tryz.f12 (OpenSpec.ofChange Rows.simplexRefusesSpec) false w args)
  (Rows.simplexRefusesSpec.post enc Tryz.prog Tryz.f12 false true false false) := by
 refine returnsInHanded_of_change_and (C := Tryz.checked) (X := fun w _ => laidMetH Tryz.prog Rows.simplexRefusesRow.laid w) (fun _ _ _ hh h => h.of_heap hh) ownIt started (by kernel_rfl) Tryz.func12
  (ChangeSpec.witness_shaped (enc := enc) (C := Tryz.checked) (os := os) (X := fun w _ => laidMetH Tryz.prog Rows.simplexRefusesRow.laid w) false (World.laidAll Tryz.prog os Rows.simplexRefusesRow.laid) #[.agg #[.slice none 0 0, .slice none 0 0, .slice none 0 0], .int .i64 0] 8 (World.laidAll_os _ _ _)
   (World.shaped_of_ZipB (by kernel_rfl) (by kernel_rfl)) (by kernel_rfl) (by kernel_rfl) (by kernel_rfl)
   (by rw [MakeChecks.laidMetH_plain _ _ _ (by kernel_rfl)]; exact laidMet_laidAll _ (by kernel_rfl) (by kernel_rfl))) ?_
 intro W base args ds gs before hval0 hW hcnd _ hL _
 have hval : ∀ (j : Nat) t v, Tryz.f12.params[j]? = some t → args[j]? = some v → Value.okWide Tryz.prog W .any base t v := hval0
 have hW' := hW
 obtain ⟨p, q, hA0, hV, rfl, hfz, hnd⟩ := hW
 have hA : DataW.TrodAll enc Tryz.prog W 0 (fun _ => true) true Tryz.f12.params.toList args.toList ds p := hA0
 rw [Tryz.params12] at hA hval
 obtain ⟨v0, vs0, d0, ds0, p0, q0, hargs, rfl, rfl, h0, r0⟩ := trodAll_cons hA
 obtain ⟨v1, vs1, d1, ds1, p1, q1, rfl, rfl, rfl, h1, r1⟩ := trodAll_cons r0
 obtain ⟨rfl, rfl, rfl⟩ := trodAll_nil r1
 obtain rfl : args = #[v0, v1] := by cases args; simp_all
 obtain ⟨rfl, rfl⟩ := trodVars_none hV
 obtain ⟨cs0, rfl, _⟩ := okWide_struct Tryz.underlying85 (hval 0 85 v0 rfl rfl)
 obtain ⟨P0, hm0, hl0⟩ := Rd.agg rdProb h0
 obtain ⟨n1, rfl, rfl, rfl, hw1⟩ := open_int Tryz.underlying3 (hval 1 3 v1 rfl rfl) h1
 have hl1 : VR W (fun b => b < W.heap.size) (fun _ => none) (.int .i64 n1) (.int .i64 n1) := .int _ _ _
 refine (zQh (zzAE P0.A P0.B P0.C n1 hm0) Z (fun i hi => ?_) (pin_up (simplexRefuses_pin hL))).mono fun e W' ⟨he, ho, hp, hk⟩ => ⟨_, he, ?_⟩
 ·match i, hi with
  | 0, _ => exact hl0
  | 1, _ => exact hl1
 ·exact zQ4 (t := 4) hW' Z Z Z Tryz.underlying4 laidIt zPK fullIt (by kernel_rfl) ho hp hk
theorem simplexRefuses_j1 : Rows.simplexRefusesRow.wf (OpenSpec.ofChange Rows.simplexRefusesSpec) = true := by kernel_rfl
theorem simplexRefuses_j2 : (Rows.simplexRefusesRow.inPlace == Tryz.prog.inPlace 12) = true := by kernel_rfl
theorem simplexRefuses_j3 : (Rows.simplexRefusesRow.unfollowed == Tryz.prog.unfollowed 12) = true := by kernel_rfl
theorem simplexRefuses_j4 : (Rows.simplexRefusesRow.recurses == Tryz.prog.recurses 12) = true := by kernel_rfl
theorem simplexRefuses_j5 : (Rows.simplexRefusesRow.named == Tryz.prog.varsNamed 12) = true := by kernel_rfl
theorem simplexRefuses_j6 : (Rows.simplexRefusesRow.lifted == Tryz.prog.liftsFinal) = true := liftIt
theorem simplexRefuses_j7 : (Tryz.prog.make == some Rows.simplexRefusesRow.make) = true := makeIt
theorem simplexRefuses_j8 : (Rows.simplexRefusesRow.plainKeys == Tryz.prog.plainKeys) = true := plainIt
theorem simplexRefuses_joined : joinedFacts Tryz.prog 12 Tryz.f12 Rows.simplexRefusesSpec Rows.simplexRefusesRow = true := by
 unfold joinedFacts
 rw [simplexRefuses_j1, laidIt, zPK, stopsIt, knobsIt, simplexRefuses_j2, simplexRefuses_j3, simplexRefuses_j4, simplexRefuses_j5, simplexRefuses_j8, heardIt, enterIt, simplexRefuses_j6, simplexRefuses_j7]
 kernel_rfl
theorem simplexRefuses_named : Tryz.prog.funcNamed Rows.simplexRefusesRow.func = some 12 := by kernel_rfl
theorem simplexRefuses_inst : Tryz.f12.isInstance Tryz.prog Rows.simplexRefusesRow.origin Rows.simplexRefusesRow.targs := of_decide_eq_true (by kernel_rfl)
theorem simplexRefuses_wrap : Tryz.f12.isWrapper Tryz.prog Rows.simplexRefusesRow.wrapper Rows.simplexRefusesRow.mainSum := by unfold Func.isWrapper; first | (rw [if_pos (by decide +kernel)]; kernel_rfl) | (rw [if_neg (by decide +kernel)]; exact ⟨rfl, rfl⟩)
theorem simplexRefuses_holds : Rows.SimplexRefusesSaid :=
 OpenClaim.holds_of_wide 12 Tryz.f12 rfl rfl rfl rfl rfl rfl rfl ⟨rfl, rfl, rfl, rfl, rfl⟩ rfl rfl rfl rfl rfl simplexRefuses_named Tryz.func12 simplexRefuses_joined
  simplexRefuses_inst simplexRefuses_wrap
  (fun os started H enc _ => simplexRefuses_lifted os started H enc)
theorem simplexRefuses_c1 : Rows.simplexRefusesRow.wfByText (OpenSpec.ofChange Rows.simplexRefusesSpec) = true := by kernel_rfl
theorem simplexRefuses_c2 : ([85, 3].all fun u => !Tryz.prog.wantsStandIn u) = true := by kernel_rfl
theorem simplexRefuses_c3 : false = Rows.simplexRefusesRow.goesBy Tryz.prog := by kernel_rfl
theorem simplexRefuses_card : Rows.SimplexRefusesCardSaid :=
 Claim7.holds_tied_plain_at .later [] [.data, .data, .data, .data, .sentinel, .sentinel, .pinned] true (true, "9a7b365347614a0287077179d20768685206a4b5ee48bcf94245b18e3653b2c2") true
  simplexRefuses_holds (fun _ h => by cases h) simplexRefuses_c1 (fun _ h => by cases h) simplexRefuses_row_tie rfl ⟨rfl, rfl⟩ zQc rfl
  (fun f fn hf hfn => by
   obtain rfl : f = 12 := Option.some.inj (simplexRefuses_named.symm.trans hf) |>.symm
   obtain rfl : fn = Tryz.f12 := (Option.some.inj (Tryz.func12.symm.trans hfn)).symm
   exact ⟨looksIt, fun j t ht => by
    rw [Tryz.params12] at ht
    have hm : t ∈ [85, 3] := by simpa using Array.mem_of_getElem? ht
    exact (show Tryz.prog.wantsStandIn t = false by simpa using List.all_eq_true.1 simplexRefuses_c2 t hm)⟩)
  simplexRefuses_c3
end Go.Proofs.YtnkealfaldjipaaGreatDoor
