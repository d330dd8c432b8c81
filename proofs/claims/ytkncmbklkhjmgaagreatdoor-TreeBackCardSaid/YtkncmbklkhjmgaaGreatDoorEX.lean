/- TreeBack of the given program returns true for every input and leaves its arguments as they were; no conditions. -/
import Derived.Test.YtkncmbklkhjmgaaGreatDoorRows
import Derived.Test.YtkncmbklkhjmgaaGreatDoorTie
import Derived.Test.YtkncmbklkhjmgaaGreatDoorCards
import Derived.LaidMore
import Derived.Lay
import Derived.SevenTiedAt
import Derived.Stop.Joined
import Derived.Stop.ErrReads
import Derived.MakeChecks
import Derived.Test.YtkncmbklkhjmgaaGreatDoorE7
set_option linter.unusedVariables false
set_option linter.unusedSimpArgs false
namespace Go.Proofs.YtkncmbklkhjmgaaGreatDoor
open Go.Ax Go.ChangeShapes Go.WideShapes Go.ChangeAt Go.RowKit
theorem starIt : "*" ++ "errors.errorString" = "*errors.errorString" := by decide
theorem rowE (u : TypeId) (h : Tryz.prog.typeName? 3 u = some "*errors.errorString") : u = 352 :=
 typeName_ptr_named (nm := "errors.errorString") (by rw [starIt]; kernel_rfl) (by kernel_rfl) (by decide) u (by rw [starIt]; exact h)
theorem treeBack_pin {W : World} (h0 : laidMetH Tryz.prog Rows.treeBackRow.laid W) : pinG W := by
 rw [MakeChecks.laidMetH_plain _ _ _ (by kernel_rfl)] at h0
 have h := h0
 exact ⟨trivial, Lib.tabIs_of_head (k := .u64) (zs := Lib.pow10Tab) (g := 5) (t := 356) (e := 228) (n := 20) (by kernel_rfl) (by kernel_rfl) Tryz.underlying356 Tryz.underlying228 (by kernel_rfl) (by kernel_rfl) (h.tail.tail), (let ⟨a, _, e, _⟩ := laid_sentinel (g := 1) (ti := 163) (te := 354) (ts := 9) (h.tail.tail.tail.tail.tail) (by kernel_rfl) (by kernel_rfl) Tryz.underlying163 rowE Tryz.underlying352 Tryz.underlying354 Y Y Tryz.underlying9 (by kernel_rfl) (by kernel_rfl); ⟨_, _, e⟩), (let ⟨a, _, e, _⟩ := laid_sentinel (g := 2) (ti := 163) (te := 354) (ts := 9) (h.tail.tail.tail.tail) (by kernel_rfl) (by kernel_rfl) Tryz.underlying163 rowE Tryz.underlying352 Tryz.underlying354 Y Y Tryz.underlying9 (by kernel_rfl) (by kernel_rfl); ⟨_, _, e⟩), trivial⟩
set_option maxRecDepth 100000 in
theorem treeBack_lifted (os : Os) (started : os.Started) (H : Type) (enc : TypeId × Value → H) :
 ReturnsInHanded {} Tryz.checked os 10 .any (fun w args => (Rows.treeBackSpec.pre enc Tryz.prog Tryz.f10 Rows.treeBackRow.domain false w args ∧ laidMetH Tryz.prog Rows.treeBackRow.laid w) ∧ sizedMet enc Tryz.prog Tryz.f10 (OpenSpec.ofChange Rows.treeBackSpec) false w args)
  (Rows.treeBackSpec.post enc Tryz.prog Tryz.f10 false true false false) := by
 refine returnsInHanded_of_change_and (C := Tryz.checked) (X := fun w _ => laidMetH Tryz.prog Rows.treeBackRow.laid w) (fun _ _ _ hh h => h.of_heap hh) ownIt started (by kernel_rfl) Tryz.func10
  (ChangeSpec.witness_shaped (enc := enc) (C := Tryz.checked) (os := os) (X := fun w _ => laidMetH Tryz.prog Rows.treeBackRow.laid w) false (World.laidAll Tryz.prog os Rows.treeBackRow.laid) #[.slice none 0 0] 8 (World.laidAll_os _ _ _)
   (World.shaped_of_ZipB (by kernel_rfl) (by kernel_rfl)) (by kernel_rfl) (by kernel_rfl) (by kernel_rfl)
   (by rw [MakeChecks.laidMetH_plain _ _ _ (by kernel_rfl)]; exact laidMet_laidAll _ (by kernel_rfl) (by kernel_rfl))) ?_
 intro W base args ds gs before hval0 hW hcnd _ hL _
 have hval : ∀ (j : Nat) t v, Tryz.f10.params[j]? = some t → args[j]? = some v → Value.okWide Tryz.prog W .any base t v := hval0
 have hW' := hW
 obtain ⟨p, q, hA0, hV, rfl, hfz, hnd⟩ := hW
 have hA : DataW.TrodAll enc Tryz.prog W 0 (fun _ => true) true Tryz.f10.params.toList args.toList ds p := hA0
 rw [Tryz.params10] at hA hval
 obtain ⟨v0, vs0, d0, ds0, p0, q0, hargs, rfl, rfl, h0, r0⟩ := trodAll_cons hA
 obtain ⟨rfl, rfl, rfl⟩ := trodAll_nil r0
 obtain rfl : args = #[v0] := by cases args; simp_all
 obtain ⟨rfl, rfl⟩ := trodVars_none hV
 obtain ⟨ad0, sn0, sc0, rfl⟩ := okWide_slice Tryz.underlying60 (hval 0 60 v0 rfl rfl)
 obtain ⟨l0, hm0, hl0⟩ := Rd.one (Rd.slice Go.Ax.Rt.zQ Tryz.underlying60 (by kernel_rfl) rfl rdNode) rfl h0
 refine (zL3 (TreeBack_law l0 ⟨hm0.1, hm0.2⟩) Y (fun i hi => ?_) (pin_up (treeBack_pin hL))).mono fun e W' ⟨he, ho, hp, hk⟩ => ⟨_, he, ?_⟩
 ·match i, hi with
  | 0, _ => exact hl0
 ·exact zMD (t := 4) hW' Y Y Y Tryz.underlying4 laidIt zLd fullIt (by kernel_rfl) ho hp hk
theorem treeBack_j1 : Rows.treeBackRow.wf (OpenSpec.ofChange Rows.treeBackSpec) = true := by kernel_rfl
theorem treeBack_j2 : (Rows.treeBackRow.inPlace == Tryz.prog.inPlace 10) = true := by kernel_rfl
theorem treeBack_j3 : (Rows.treeBackRow.unfollowed == Tryz.prog.unfollowed 10) = true := by kernel_rfl
theorem treeBack_j4 : (Rows.treeBackRow.recurses == Tryz.prog.recurses 10) = true := by kernel_rfl
theorem treeBack_j5 : (Rows.treeBackRow.named == Tryz.prog.varsNamed 10) = true := by kernel_rfl
theorem treeBack_j6 : (Rows.treeBackRow.lifted == Tryz.prog.liftsFinal) = true := liftIt
theorem treeBack_j7 : (Tryz.prog.make == some Rows.treeBackRow.make) = true := makeIt
theorem treeBack_j8 : (Rows.treeBackRow.plainKeys == Tryz.prog.plainKeys) = true := plainIt
theorem treeBack_joined : joinedFacts Tryz.prog 10 Tryz.f10 Rows.treeBackSpec Rows.treeBackRow = true := by
 unfold joinedFacts
 rw [treeBack_j1, laidIt, zLd, stopsIt, knobsIt, treeBack_j2, treeBack_j3, treeBack_j4, treeBack_j5, treeBack_j8, heardIt, enterIt, treeBack_j6, treeBack_j7]
 kernel_rfl
theorem treeBack_named : Tryz.prog.funcNamed Rows.treeBackRow.func = some 10 := by kernel_rfl
theorem treeBack_inst : Tryz.f10.isInstance Tryz.prog Rows.treeBackRow.origin Rows.treeBackRow.targs := of_decide_eq_true (by kernel_rfl)
theorem treeBack_wrap : Tryz.f10.isWrapper Tryz.prog Rows.treeBackRow.wrapper Rows.treeBackRow.mainSum := by unfold Func.isWrapper; first | (rw [if_pos (by decide +kernel)]; kernel_rfl) | (rw [if_neg (by decide +kernel)]; exact ⟨rfl, rfl⟩)
theorem treeBack_holds : Rows.TreeBackSaid :=
 OpenClaim.holds_of_wide 10 Tryz.f10 rfl rfl rfl rfl rfl rfl rfl ⟨rfl, rfl, rfl, rfl, rfl⟩ rfl rfl rfl rfl rfl treeBack_named Tryz.func10 treeBack_joined
  treeBack_inst treeBack_wrap
  (fun os started H enc _ => treeBack_lifted os started H enc)
theorem treeBack_c1 : Rows.treeBackRow.wfByText (OpenSpec.ofChange Rows.treeBackSpec) = true := by kernel_rfl
theorem treeBack_c2 : ([60].all fun u => !Tryz.prog.wantsStandIn u) = true := by kernel_rfl
theorem treeBack_c3 : false = Rows.treeBackRow.goesBy Tryz.prog := by kernel_rfl
theorem treeBack_card : Rows.TreeBackCardSaid :=
 Claim7.holds_tied_plain_at .later [] [.data, .data, .data, .data, .sentinel, .sentinel, .pinned] true (true, "3ea313bfc84e18d7a14057297d76a6f07cbc7b38cde80ce9b3cbed387549a276") true
  treeBack_holds (fun _ h => by cases h) treeBack_c1 (fun _ h => by cases h) treeBack_row_tie rfl ⟨rfl, rfl⟩ zL1 rfl
  (fun f fn hf hfn => by
   obtain rfl : f = 10 := Option.some.inj (treeBack_named.symm.trans hf) |>.symm
   obtain rfl : fn = Tryz.f10 := (Option.some.inj (Tryz.func10.symm.trans hfn)).symm
   exact ⟨looksIt, fun j t ht => by
    rw [Tryz.params10] at ht
    have hm : t ∈ [60] := by simpa using Array.mem_of_getElem? ht
    exact (show Tryz.prog.wantsStandIn t = false by simpa using List.all_eq_true.1 treeBack_c2 t hm)⟩)
  treeBack_c3
end Go.Proofs.YtkncmbklkhjmgaaGreatDoor
