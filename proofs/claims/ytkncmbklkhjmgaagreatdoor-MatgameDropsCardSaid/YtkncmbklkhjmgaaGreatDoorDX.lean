/- MatgameDrops of the given program returns true for every input and leaves its arguments as they were; no conditions. -/
import Derived.Test.YtkncmbklkhjmgaaGreatDoorRows
import Derived.Test.YtkncmbklkhjmgaaGreatDoorTie
import Derived.Test.YtkncmbklkhjmgaaGreatDoorCards
import Derived.LaidMore
import Derived.Lay
import Derived.SevenTiedAt
import Derived.Stop.Joined
import Derived.Stop.ErrReads
import Derived.MakeChecks
import Derived.Test.YtkncmbklkhjmgaaGreatDoorD8
set_option linter.unusedVariables false
set_option linter.unusedSimpArgs false
namespace Go.Proofs.YtkncmbklkhjmgaaGreatDoor
open Go.Ax Go.ChangeShapes Go.WideShapes Go.ChangeAt Go.RowKit
theorem starIt : "*" ++ "errors.errorString" = "*errors.errorString" := by decide
theorem rowE (u : TypeId) (h : Tryz.prog.typeName? 3 u = some "*errors.errorString") : u = 352 :=
 typeName_ptr_named (nm := "errors.errorString") (by rw [starIt]; kernel_rfl) (by kernel_rfl) (by decide) u (by rw [starIt]; exact h)
theorem matgameDrops_pin {W : World} (h0 : laidMetH Tryz.prog Rows.matgameDropsRow.laid W) : pinG W := by
 rw [MakeChecks.laidMetH_plain _ _ _ (by kernel_rfl)] at h0
 have h := h0
 exact ⟨trivial, Lib.tabIs_of_head (k := .u64) (zs := Lib.pow10Tab) (g := 5) (t := 356) (e := 228) (n := 20) (by kernel_rfl) (by kernel_rfl) Tryz.underlying356 Tryz.underlying228 (by kernel_rfl) (by kernel_rfl) (h.tail.tail), (let ⟨a, _, e, _⟩ := laid_sentinel (g := 1) (ti := 163) (te := 354) (ts := 9) (h.tail.tail.tail.tail.tail) (by kernel_rfl) (by kernel_rfl) Tryz.underlying163 rowE Tryz.underlying352 Tryz.underlying354 Z Z Tryz.underlying9 (by kernel_rfl) (by kernel_rfl); ⟨_, _, e⟩), (let ⟨a, _, e, _⟩ := laid_sentinel (g := 2) (ti := 163) (te := 354) (ts := 9) (h.tail.tail.tail.tail) (by kernel_rfl) (by kernel_rfl) Tryz.underlying163 rowE Tryz.underlying352 Tryz.underlying354 Z Z Tryz.underlying9 (by kernel_rfl) (by kernel_rfl); ⟨_, _, e⟩), trivial⟩
set_option maxRecDepth 100000 in
theorem matgameDrops_lifted (os : Os) (started : os.Started) (H : Type) (enc : TypeId × Value → H) :
 ReturnsInHanded {} Tryz.checked os 5 .any (fun w args => (Rows.matgameDropsSpec.pre enc Tryz.prog Tryz.f5 Rows.matgameDropsRow.domain false w args ∧ laidMetH Tryz.prog Rows.matgameDropsRow.laid w) ∧ sizedMet enc Tryz.prog Tryz.f5 (OpenSpec.ofChange Rows.matgameDropsSpec) false w args)
  (Rows.matgameDropsSpec.post enc Tryz.prog Tryz.f5 false true false false) := by
 refine returnsInHanded_of_change_and (C := Tryz.checked) (X := fun w _ => laidMetH Tryz.prog Rows.matgameDropsRow.laid w) (fun _ _ _ hh h => h.of_heap hh) ownIt started (by kernel_rfl) Tryz.func5
  (ChangeSpec.witness_shaped (enc := enc) (C := Tryz.checked) (os := os) (X := fun w _ => laidMetH Tryz.prog Rows.matgameDropsRow.laid w) false (World.laidAll Tryz.prog os Rows.matgameDropsRow.laid) #[.slice none 0 0] 8 (World.laidAll_os _ _ _)
   (World.shaped_of_ZipB (by kernel_rfl) (by kernel_rfl)) (by kernel_rfl) (by kernel_rfl) (by kernel_rfl)
   (by rw [MakeChecks.laidMetH_plain _ _ _ (by kernel_rfl)]; exact laidMet_laidAll _ (by kernel_rfl) (by kernel_rfl))) ?_
 intro W base args ds gs before hval0 hW hcnd _ hL _
 have hval : ∀ (j : Nat) t v, Tryz.f5.params[j]? = some t → args[j]? = some v → Value.okWide Tryz.prog W .any base t v := hval0
 have hW' := hW
 obtain ⟨p, q, hA0, hV, rfl, hfz, hnd⟩ := hW
 have hA : DataW.TrodAll enc Tryz.prog W 0 (fun _ => true) true Tryz.f5.params.toList args.toList ds p := hA0
 rw [Tryz.params5] at hA hval
 obtain ⟨v0, vs0, d0, ds0, p0, q0, hargs, rfl, rfl, h0, r0⟩ := trodAll_cons hA
 obtain ⟨rfl, rfl, rfl⟩ := trodAll_nil r0
 obtain rfl : args = #[v0] := by cases args; simp_all
 obtain ⟨rfl, rfl⟩ := trodVars_none hV
 obtain ⟨ad0, sn0, sc0, rfl⟩ := okWide_slice Tryz.underlying23 (hval 0 23 v0 rfl rfl)
 obtain ⟨l0, ⟨hm0, hx0⟩, hl0⟩ := Rd.one (Rd.slice [] Tryz.underlying23 (by kernel_rfl) rfl (Rd.strs Tryz.underlying28 (by kernel_rfl) Tryz.underlying26)) rfl h0
 refine (zQv (zI0 l0 ⟨hm0, hx0⟩) Z (fun i hi => ?_) (pin_up (matgameDrops_pin hL))).mono fun e W' ⟨he, ho, hp, hk⟩ => ⟨_, he, ?_⟩
 ·match i, hi with
  | 0, _ => exact hl0
 ·exact zRA (t := 4) hW' Z Z Z Tryz.underlying4 laidIt zQD fullIt (by kernel_rfl) ho hp hk
theorem matgameDrops_j1 : Rows.matgameDropsRow.wf (OpenSpec.ofChange Rows.matgameDropsSpec) = true := by kernel_rfl
theorem matgameDrops_j2 : (Rows.matgameDropsRow.inPlace == Tryz.prog.inPlace 5) = true := by kernel_rfl
theorem matgameDrops_j3 : (Rows.matgameDropsRow.unfollowed == Tryz.prog.unfollowed 5) = true := by kernel_rfl
theorem matgameDrops_j4 : (Rows.matgameDropsRow.recurses == Tryz.prog.recurses 5) = true := by kernel_rfl
theorem matgameDrops_j5 : (Rows.matgameDropsRow.named == Tryz.prog.varsNamed 5) = true := by kernel_rfl
theorem matgameDrops_j6 : (Rows.matgameDropsRow.lifted == Tryz.prog.liftsFinal) = true := liftIt
theorem matgameDrops_j7 : (Tryz.prog.make == some Rows.matgameDropsRow.make) = true := makeIt
theorem matgameDrops_j8 : (Rows.matgameDropsRow.plainKeys == Tryz.prog.plainKeys) = true := plainIt
theorem matgameDrops_joined : joinedFacts Tryz.prog 5 Tryz.f5 Rows.matgameDropsSpec Rows.matgameDropsRow = true := by
 unfold joinedFacts
 rw [matgameDrops_j1, laidIt, zQD, stopsIt, knobsIt, matgameDrops_j2, matgameDrops_j3, matgameDrops_j4, matgameDrops_j5, matgameDrops_j8, heardIt, enterIt, matgameDrops_j6, matgameDrops_j7]
 kernel_rfl
theorem matgameDrops_named : Tryz.prog.funcNamed Rows.matgameDropsRow.func = some 5 := by kernel_rfl
theorem matgameDrops_inst : Tryz.f5.isInstance Tryz.prog Rows.matgameDropsRow.origin Rows.matgameDropsRow.targs := of_decide_eq_true (by kernel_rfl)
theorem matgameDrops_wrap : Tryz.f5.isWrapper Tryz.prog Rows.matgameDropsRow.wrapper Rows.matgameDropsRow.mainSum := by unfold Func.isWrapper; first | (rw [if_pos (by decide +kernel)]; kernel_rfl) | (rw [if_neg (by decide +kernel)]; exact ⟨rfl, rfl⟩)
theorem matgameDrops_holds : Rows.MatgameDropsSaid :=
 OpenClaim.holds_of_wide 5 Tryz.f5 rfl rfl rfl rfl rfl rfl rfl ⟨rfl, rfl, rfl, rfl, rfl⟩ rfl rfl rfl rfl rfl matgameDrops_named Tryz.func5 matgameDrops_joined
  matgameDrops_inst matgameDrops_wrap
  (fun os started H enc _ => matgameDrops_lifted os started H enc)
theorem matgameDrops_c1 : Rows.matgameDropsRow.wfByText (OpenSpec.ofChange Rows.matgameDropsSpec) = true := by kernel_rfl
theorem matgameDrops_c2 : ([23].all fun u => !Tryz.prog.wantsStandIn u) = true := by kernel_rfl
theorem matgameDrops_c3 : false = Rows.matgameDropsRow.goesBy Tryz.prog := by kernel_rfl
theorem matgameDrops_card : Rows.MatgameDropsCardSaid :=
 Claim7.holds_tied_plain_at .later [] [.data, .data, .data, .data, .sentinel, .sentinel, .pinned] true (true, "3ea313bfc84e18d7a14057297d76a6f07cbc7b38cde80ce9b3cbed387549a276") true
  matgameDrops_holds (fun _ h => by cases h) matgameDrops_c1 (fun _ h => by cases h) matgameDrops_row_tie rfl ⟨rfl, rfl⟩ zQs rfl
  (fun f fn hf hfn => by
   obtain rfl : f = 5 := Option.some.inj (matgameDrops_named.symm.trans hf) |>.symm
   obtain rfl : fn = Tryz.f5 := (Option.some.inj (Tryz.func5.symm.trans hfn)).symm
   exact ⟨looksIt, fun j t ht => by
    rw [Tryz.params5] at ht
    have hm : t ∈ [23] := by simpa using Array.mem_of_getElem? ht
    exact (show Tryz.prog.wantsStandIn t = false by simpa using List.all_eq_true.1 matgameDrops_c2 t hm)⟩)
  matgameDrops_c3
end Go.Proofs.YtkncmbklkhjmgaaGreatDoor
