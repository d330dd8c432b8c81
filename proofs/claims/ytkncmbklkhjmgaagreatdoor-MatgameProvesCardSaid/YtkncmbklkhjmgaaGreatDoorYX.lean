/- MatgameProves of the given program returns true for every input and leaves its arguments as they were; no conditions. -/
import Derived.Test.YtkncmbklkhjmgaaGreatDoorRows
import Derived.Test.YtkncmbklkhjmgaaGreatDoorTie
import Derived.Test.YtkncmbklkhjmgaaGreatDoorCards
import Derived.LaidMore
import Derived.Lay
import Derived.SevenTiedAt
import Derived.Stop.Joined
import Derived.Stop.ErrReads
import Derived.MakeChecks
import Derived.Test.YtkncmbklkhjmgaaGreatDoorY8
set_option linter.unusedVariables false
set_option linter.unusedSimpArgs false
namespace Go.Proofs.YtkncmbklkhjmgaaGreatDoor
open Go.Ax Go.ChangeShapes Go.WideShapes Go.ChangeAt Go.RowKit
theorem starIt : "*" ++ "errors.errorString" = "*errors.errorString" := by decide
theorem rowE (u : TypeId) (h : Tryz.prog.typeName? 3 u = some "*errors.errorString") : u = 352 :=
 typeName_ptr_named (nm := "errors.errorString") (by rw [starIt]; kernel_rfl) (by kernel_rfl) (by decide) u (by rw [starIt]; exact h)
theorem matgameProves_pin {W : World} (h0 : laidMetH Tryz.prog Rows.matgameProvesRow.laid W) : pinG W := by
 rw [MakeChecks.laidMetH_plain _ _ _ (by kernel_rfl)] at h0
 have h := h0
 exact ⟨trivial, Lib.tabIs_of_head (k := .u64) (zs := Lib.pow10Tab) (g := 5) (t := 356) (e := 228) (n := 20) (by kernel_rfl) (by kernel_rfl) Tryz.underlying356 Tryz.underlying228 (by kernel_rfl) (by kernel_rfl) (h.tail.tail), (let ⟨a, _, e, _⟩ := laid_sentinel (g := 1) (ti := 163) (te := 354) (ts := 9) (h.tail.tail.tail.tail.tail) (by kernel_rfl) (by kernel_rfl) Tryz.underlying163 rowE Tryz.underlying352 Tryz.underlying354 Z Z Tryz.underlying9 (by kernel_rfl) (by kernel_rfl); ⟨_, _, e⟩), (let ⟨a, _, e, _⟩ := laid_sentinel (g := 2) (ti := 163) (te := 354) (ts := 9) (h.tail.tail.tail.tail) (by kernel_rfl) (by kernel_rfl) Tryz.underlying163 rowE Tryz.underlying352 Tryz.underlying354 Z Z Tryz.underlying9 (by kernel_rfl) (by kernel_rfl); ⟨_, _, e⟩), trivial⟩
set_option maxRecDepth 100000 in
theorem matgameProves_lifted (os : Os) (started : os.Started) (H : Type) (enc : TypeId × Value → H) :
 ReturnsInHanded {} Tryz.checked os 3 .any (fun w args => (Rows.matgameProvesSpec.pre enc Tryz.prog Tryz.f3 Rows.matgameProvesRow.domain false w args ∧ laidMetH Tryz.prog Rows.matgameProvesRow.laid w) ∧ sizedMet enc Tryz.prog Tryz.f3 (OpenSpec.ofChange Rows.matgameProvesSpec) false w args)
  (Rows.matgameProvesSpec.post enc Tryz.prog Tryz.f3 false true false false) := by
 refine returnsInHanded_of_change_and (C := Tryz.checked) (X := fun w _ => laidMetH Tryz.prog Rows.matgameProvesRow.laid w) (fun _ _ _ hh h => h.of_heap hh) ownIt started (by kernel_rfl) Tryz.func3
  (ChangeSpec.witness_shaped (enc := enc) (C := Tryz.checked) (os := os) (X := fun w _ => laidMetH Tryz.prog Rows.matgameProvesRow.laid w) false (World.laidAll Tryz.prog os Rows.matgameProvesRow.laid) #[.slice none 0 0] 8 (World.laidAll_os _ _ _)
   (World.shaped_of_ZipB (by kernel_rfl) (by kernel_rfl)) (by kernel_rfl) (by kernel_rfl) (by kernel_rfl)
   (by rw [MakeChecks.laidMetH_plain _ _ _ (by kernel_rfl)]; exact laidMet_laidAll _ (by kernel_rfl) (by kernel_rfl))) ?_
 intro W base args ds gs before hval0 hW hcnd _ hL _
 have hval : ∀ (j : Nat) t v, Tryz.f3.params[j]? = some t → args[j]? = some v → Value.okWide Tryz.prog W .any base t v := hval0
 have hW' := hW
 obtain ⟨p, q, hA0, hV, rfl, hfz, hnd⟩ := hW
 have hA : DataW.TrodAll enc Tryz.prog W 0 (fun _ => true) true Tryz.f3.params.toList args.toList ds p := hA0
 rw [Tryz.params3] at hA hval
 obtain ⟨v0, vs0, d0, ds0, p0, q0, hargs, rfl, rfl, h0, r0⟩ := trodAll_cons hA
 obtain ⟨rfl, rfl, rfl⟩ := trodAll_nil r0
 obtain rfl : args = #[v0] := by cases args; simp_all
 obtain ⟨rfl, rfl⟩ := trodVars_none hV
 obtain ⟨ad0, sn0, sc0, rfl⟩ := okWide_slice Tryz.underlying23 (hval 0 23 v0 rfl rfl)
 obtain ⟨l0, ⟨hm0, hx0⟩, hl0⟩ := Rd.one (Rd.slice [] Tryz.underlying23 (by kernel_rfl) rfl (Rd.strs Tryz.underlying28 (by kernel_rfl) Tryz.underlying26)) rfl h0
 refine (zQq (zIE l0 ⟨hm0, hx0⟩) Z (fun i hi => ?_) (pin_up (matgameProves_pin hL))).mono fun e W' ⟨he, ho, hp, hk⟩ => ⟨_, he, ?_⟩
 ·match i, hi with
  | 0, _ => exact hl0
 ·exact zQ7 (t := 4) hW' Z Z Z Tryz.underlying4 laidIt zP7 fullIt (by kernel_rfl) ho hp hk
theorem matgameProves_j1 : Rows.matgameProvesRow.wf (OpenSpec.ofChange Rows.matgameProvesSpec) = true := by kernel_rfl
theorem matgameProves_j2 : (Rows.matgameProvesRow.inPlace == Tryz.prog.inPlace 3) = true := by kernel_rfl
theorem matgameProves_j3 : (Rows.matgameProvesRow.unfollowed == Tryz.prog.unfollowed 3) = true := by kernel_rfl
theorem matgameProves_j4 : (Rows.matgameProvesRow.recurses == Tryz.prog.recurses 3) = true := by kernel_rfl
theorem matgameProves_j5 : (Rows.matgameProvesRow.named == Tryz.prog.varsNamed 3) = true := by kernel_rfl
theorem matgameProves_j6 : (Rows.matgameProvesRow.lifted == Tryz.prog.liftsFinal) = true := liftIt
theorem matgameProves_j7 : (Tryz.prog.make == some Rows.matgameProvesRow.make) = true := makeIt
theorem matgameProves_j8 : (Rows.matgameProvesRow.plainKeys == Tryz.prog.plainKeys) = true := plainIt
theorem matgameProves_joined : joinedFacts Tryz.prog 3 Tryz.f3 Rows.matgameProvesSpec Rows.matgameProvesRow = true := by
 unfold joinedFacts
 rw [matgameProves_j1, laidIt, zP7, stopsIt, knobsIt, matgameProves_j2, matgameProves_j3, matgameProves_j4, matgameProves_j5, matgameProves_j8, heardIt, enterIt, matgameProves_j6, matgameProves_j7]
 kernel_rfl
theorem matgameProves_named : Tryz.prog.funcNamed Rows.matgameProvesRow.func = some 3 := by kernel_rfl
theorem matgameProves_inst : Tryz.f3.isInstance Tryz.prog Rows.matgameProvesRow.origin Rows.matgameProvesRow.targs := of_decide_eq_true (by kernel_rfl)
theorem matgameProves_wrap : Tryz.f3.isWrapper Tryz.prog Rows.matgameProvesRow.wrapper Rows.matgameProvesRow.mainSum := by unfold Func.isWrapper; first | (rw [if_pos (by decide +kernel)]; kernel_rfl) | (rw [if_neg (by decide +kernel)]; exact ⟨rfl, rfl⟩)
theorem matgameProves_holds : Rows.MatgameProvesSaid :=
 OpenClaim.holds_of_wide 3 Tryz.f3 rfl rfl rfl rfl rfl rfl rfl ⟨rfl, rfl, rfl, rfl, rfl⟩ rfl rfl rfl rfl rfl matgameProves_named Tryz.func3 matgameProves_joined
  matgameProves_inst matgameProves_wrap
  (fun os started H enc _ => matgameProves_lifted os started H enc)
theorem matgameProves_c1 : Rows.matgameProvesRow.wfByText (OpenSpec.ofChange Rows.matgameProvesSpec) = true := by kernel_rfl
theorem matgameProves_c2 : ([23].all fun u => !Tryz.prog.wantsStandIn u) = true := by kernel_rfl
theorem matgameProves_c3 : false = Rows.matgameProvesRow.goesBy Tryz.prog := by kernel_rfl
theorem matgameProves_card : Rows.MatgameProvesCardSaid :=
 Claim7.holds_tied_plain_at .later [] [.data, .data, .data, .data, .sentinel, .sentinel, .pinned] true (true, "3ea313bfc84e18d7a14057297d76a6f07cbc7b38cde80ce9b3cbed387549a276") true
  matgameProves_holds (fun _ h => by cases h) matgameProves_c1 (fun _ h => by cases h) matgameProves_row_tie rfl ⟨rfl, rfl⟩ zQn rfl
  (fun f fn hf hfn => by
   obtain rfl : f = 3 := Option.some.inj (matgameProves_named.symm.trans hf) |>.symm
   obtain rfl : fn = Tryz.f3 := (Option.some.inj (Tryz.func3.symm.trans hfn)).symm
   exact ⟨looksIt, fun j t ht => by
    rw [Tryz.params3] at ht
    have hm : t ∈ [23] := by simpa using Array.mem_of_getElem? ht
    exact (show Tryz.prog.wantsStandIn t = false by simpa using List.all_eq_true.1 matgameProves_c2 t hm)⟩)
  matgameProves_c3
end Go.Proofs.YtkncmbklkhjmgaaGreatDoor
