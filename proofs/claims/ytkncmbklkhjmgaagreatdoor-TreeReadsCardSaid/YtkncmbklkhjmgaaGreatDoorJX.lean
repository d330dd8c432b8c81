/- TreeReads of the given program returns true for every input and leaves its arguments as they were; no conditions. -/
import Derived.Test.YtkncmbklkhjmgaaGreatDoorRows
import Derived.Test.YtkncmbklkhjmgaaGreatDoorTie
import Derived.Test.YtkncmbklkhjmgaaGreatDoorCards
import Derived.LaidMore
import Derived.Lay
import Derived.SevenTiedAt
import Derived.Stop.Joined
import Derived.Stop.ErrReads
import Derived.MakeChecks
import Derived.Test.YtkncmbklkhjmgaaGreatDoorJ7
set_option linter.unusedVariables false
set_option linter.unusedSimpArgs false
namespace Go.Proofs.YtkncmbklkhjmgaaGreatDoor
open Go.Ax Go.ChangeShapes Go.WideShapes Go.ChangeAt Go.RowKit
theorem starIt : "*" ++ "errors.errorString" = "*errors.errorString" := by decide
theorem rowE (u : TypeId) (h : Tryz.prog.typeName? 3 u = some "*errors.errorString") : u = 352 :=
 typeName_ptr_named (nm := "errors.errorString") (by rw [starIt]; kernel_rfl) (by kernel_rfl) (by decide) u (by rw [starIt]; exact h)
theorem treeReads_pin {W : World} (h0 : laidMetH Tryz.prog Rows.treeReadsRow.laid W) : pinG W := by
 rw [MakeChecks.laidMetH_plain _ _ _ (by kernel_rfl)] at h0
 have h := h0
 exact ⟨trivial, Lib.tabIs_of_head (k := .u64) (zs := Lib.pow10Tab) (g := 5) (t := 356) (e := 228) (n := 20) (by kernel_rfl) (by kernel_rfl) Tryz.underlying356 Tryz.underlying228 (by kernel_rfl) (by kernel_rfl) (h.tail.tail), (let ⟨a, _, e, _⟩ := laid_sentinel (g := 1) (ti := 163) (te := 354) (ts := 9) (h.tail.tail.tail.tail.tail) (by kernel_rfl) (by kernel_rfl) Tryz.underlying163 rowE Tryz.underlying352 Tryz.underlying354 Y Y Tryz.underlying9 (by kernel_rfl) (by kernel_rfl); ⟨_, _, e⟩), (let ⟨a, _, e, _⟩ := laid_sentinel (g := 2) (ti := 163) (te := 354) (ts := 9) (h.tail.tail.tail.tail) (by kernel_rfl) (by kernel_rfl) Tryz.underlying163 rowE Tryz.underlying352 Tryz.underlying354 Y Y Tryz.underlying9 (by kernel_rfl) (by kernel_rfl); ⟨_, _, e⟩), trivial⟩
set_option maxRecDepth 100000 in
theorem treeReads_lifted (os : Os) (started : os.Started) (H : Type) (enc : TypeId × Value → H) :
 ReturnsInHanded {} Tryz.checked os 9 .any (fun w args => (Rows.treeReadsSpec.pre enc Tryz.prog Tryz.f9 Rows.treeReadsRow.domain false w args ∧ laidMetH Tryz.prog Rows.treeReadsRow.laid w) ∧ sizedMet enc Tryz.prog Tryz.f9 (OpenSpec.ofChange Rows.treeReadsSpec) false w args)
  (Rows.treeReadsSpec.post enc Tryz.prog Tryz.f9 false true false false) := by
 refine returnsInHanded_of_change_and (C := Tryz.checked) (X := fun w _ => laidMetH Tryz.prog Rows.treeReadsRow.laid w) (fun _ _ _ hh h => h.of_heap hh) ownIt started (by kernel_rfl) Tryz.func9
  (ChangeSpec.witness_shaped (enc := enc) (C := Tryz.checked) (os := os) (X := fun w _ => laidMetH Tryz.prog Rows.treeReadsRow.laid w) false (World.laidAll Tryz.prog os Rows.treeReadsRow.laid) #[.string ⟨#[]⟩] 8 (World.laidAll_os _ _ _)
   (World.shaped_of_ZipB (by kernel_rfl) (by kernel_rfl)) (by kernel_rfl) (by kernel_rfl) (by kernel_rfl)
   (by rw [MakeChecks.laidMetH_plain _ _ _ (by kernel_rfl)]; exact laidMet_laidAll _ (by kernel_rfl) (by kernel_rfl))) ?_
 intro W base args ds gs before hval0 hW hcnd _ hL _
 have hval : ∀ (j : Nat) t v, Tryz.f9.params[j]? = some t → args[j]? = some v → Value.okWide Tryz.prog W .any base t v := hval0
 have hW' := hW
 obtain ⟨p, q, hA0, hV, rfl, hfz, hnd⟩ := hW
 have hA : DataW.TrodAll enc Tryz.prog W 0 (fun _ => true) true Tryz.f9.params.toList args.toList ds p := hA0
 rw [Tryz.params9] at hA hval
 obtain ⟨v0, vs0, d0, ds0, p0, q0, hargs, rfl, rfl, h0, r0⟩ := trodAll_cons hA
 obtain ⟨rfl, rfl, rfl⟩ := trodAll_nil r0
 obtain rfl : args = #[v0] := by cases args; simp_all
 obtain ⟨rfl, rfl⟩ := trodVars_none hV
 obtain ⟨s0, rfl, rfl, rfl, hw0⟩ := Go.ChangeMaps.open_string Tryz.underlying9 (hval 0 9 v0 rfl rfl) h0
 have hl0 : VR W (fun b => b < W.heap.size) (fun _ => none) (.str s0.data.toList) (.string s0) := VR.str _ s0.data.toList
 have hm0 : s0.data.toList.length ≤ 9223372036854775807 := by unfold maxLen at hw0; simpa using hw0
 refine (zL3 (zHQ s0.data.toList hm0) Y (fun i hi => ?_) (pin_up (treeReads_pin hL))).mono fun e W' ⟨he, ho, hp, hk⟩ => ⟨_, he, ?_⟩
 ·match i, hi with
  | 0, _ => exact hl0
 ·exact zMD (t := 4) hW' Y Y Y Tryz.underlying4 laidIt zLd fullIt (by kernel_rfl) ho hp hk
theorem treeReads_j1 : Rows.treeReadsRow.wf (OpenSpec.ofChange Rows.treeReadsSpec) = true := by kernel_rfl
theorem treeReads_j2 : (Rows.treeReadsRow.inPlace == Tryz.prog.inPlace 9) = true := by kernel_rfl
theorem treeReads_j3 : (Rows.treeReadsRow.unfollowed == Tryz.prog.unfollowed 9) = true := by kernel_rfl
theorem treeReads_j4 : (Rows.treeReadsRow.recurses == Tryz.prog.recurses 9) = true := by kernel_rfl
theorem treeReads_j5 : (Rows.treeReadsRow.named == Tryz.prog.varsNamed 9) = true := by kernel_rfl
theorem treeReads_j6 : (Rows.treeReadsRow.lifted == Tryz.prog.liftsFinal) = true := liftIt
theorem treeReads_j7 : (Tryz.prog.make == some Rows.treeReadsRow.make) = true := makeIt
theorem treeReads_j8 : (Rows.treeReadsRow.plainKeys == Tryz.prog.plainKeys) = true := plainIt
theorem treeReads_joined : joinedFacts Tryz.prog 9 Tryz.f9 Rows.treeReadsSpec Rows.treeReadsRow = true := by
 unfold joinedFacts
 rw [treeReads_j1, laidIt, zLd, stopsIt, knobsIt, treeReads_j2, treeReads_j3, treeReads_j4, treeReads_j5, treeReads_j8, heardIt, enterIt, treeReads_j6, treeReads_j7]
 kernel_rfl
theorem treeReads_named : Tryz.prog.funcNamed Rows.treeReadsRow.func = some 9 := by kernel_rfl
theorem treeReads_inst : Tryz.f9.isInstance Tryz.prog Rows.treeReadsRow.origin Rows.treeReadsRow.targs := of_decide_eq_true (by kernel_rfl)
theorem treeReads_wrap : Tryz.f9.isWrapper Tryz.prog Rows.treeReadsRow.wrapper Rows.treeReadsRow.mainSum := by unfold Func.isWrapper; first | (rw [if_pos (by decide +kernel)]; kernel_rfl) | (rw [if_neg (by decide +kernel)]; exact ⟨rfl, rfl⟩)
theorem treeReads_holds : Rows.TreeReadsSaid :=
 OpenClaim.holds_of_wide 9 Tryz.f9 rfl rfl rfl rfl rfl rfl rfl ⟨rfl, rfl, rfl, rfl, rfl⟩ rfl rfl rfl rfl rfl treeReads_named Tryz.func9 treeReads_joined
  treeReads_inst treeReads_wrap
  (fun os started H enc _ => treeReads_lifted os started H enc)
theorem treeReads_c1 : Rows.treeReadsRow.wfByText (OpenSpec.ofChange Rows.treeReadsSpec) = true := by kernel_rfl
theorem treeReads_c2 : ([9].all fun u => !Tryz.prog.wantsStandIn u) = true := by kernel_rfl
theorem treeReads_c3 : false = Rows.treeReadsRow.goesBy Tryz.prog := by kernel_rfl
theorem treeReads_card : Rows.TreeReadsCardSaid :=
 Claim7.holds_tied_plain_at .later [] [.data, .data, .data, .data, .sentinel, .sentinel, .pinned] true (true, "3ea313bfc84e18d7a14057297d76a6f07cbc7b38cde80ce9b3cbed387549a276") true
  treeReads_holds (fun _ h => by cases h) treeReads_c1 (fun _ h => by cases h) treeReads_row_tie rfl ⟨rfl, rfl⟩ zL1 rfl
  (fun f fn hf hfn => by
   obtain rfl : f = 9 := Option.some.inj (treeReads_named.symm.trans hf) |>.symm
   obtain rfl : fn = Tryz.f9 := (Option.some.inj (Tryz.func9.symm.trans hfn)).symm
   exact ⟨looksIt, fun j t ht => by
    rw [Tryz.params9] at ht
    have hm : t ∈ [9] := by simpa using Array.mem_of_getElem? ht
    exact (show Tryz.prog.wantsStandIn t = false by simpa using List.all_eq_true.1 treeReads_c2 t hm)⟩)
  treeReads_c3
end Go.Proofs.YtkncmbklkhjmgaaGreatDoor
