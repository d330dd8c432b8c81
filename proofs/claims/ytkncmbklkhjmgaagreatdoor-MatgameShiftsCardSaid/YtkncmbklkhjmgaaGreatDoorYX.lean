/- MatgameShifts of the given program returns true for every input and leaves its arguments as they were; no conditions. -/
import Derived.Test.YtkncmbklkhjmgaaGreatDoorRows
import Derived.Test.YtkncmbklkhjmgaaGreatDoorTie
import Derived.Test.YtkncmbklkhjmgaaGreatDoorCards
import Derived.LaidMore
import Derived.Lay
import Derived.SevenTiedAt
import Derived.Stop.Joined
import Derived.Stop.ErrReads
import Derived.MakeChecks
import Derived.Test.YtkncmbklkhjmgaaGreatDoorY8
set_option linter.unusedVariables false
set_option linter.unusedSimpArgs false
namespace Go.Proofs.YtkncmbklkhjmgaaGreatDoor
open Go.Ax Go.ChangeShapes Go.WideShapes Go.ChangeAt Go.RowKit
theorem starIt : "*" ++ "errors.errorString" = "*errors.errorString" := by decide
theorem rowE (u : TypeId) (h : Tryz.prog.typeName? 3 u = some "*errors.errorString") : u = 352 :=
 typeName_ptr_named (nm := "errors.errorString") (by rw [starIt]; kernel_rfl) (by kernel_rfl) (by decide) u (by rw [starIt]; exact h)
theorem matgameShifts_pin {W : World} (h0 : laidMetH Tryz.prog Rows.matgameShiftsRow.laid W) : pinG W := by
 rw [MakeChecks.laidMetH_plain _ _ _ (by kernel_rfl)] at h0
 have h := h0
 exact ⟨trivial, Lib.tabIs_of_head (k := .u64) (zs := Lib.pow10Tab) (g := 5) (t := 356) (e := 228) (n := 20) (by kernel_rfl) (by kernel_rfl) Tryz.underlying356 Tryz.underlying228 (by kernel_rfl) (by kernel_rfl) (h.tail.tail), (let ⟨a, _, e, _⟩ := laid_sentinel (g := 1) (ti := 163) (te := 354) (ts := 9) (h.tail.tail.tail.tail.tail) (by kernel_rfl) (by kernel_rfl) Tryz.underlying163 rowE Tryz.underlying352 Tryz.underlying354 Z Z Tryz.underlying9 (by kernel_rfl) (by kernel_rfl); ⟨_, _, e⟩), (let ⟨a, _, e, _⟩ := laid_sentinel (g := 2) (ti := 163) (te := 354) (ts := 9) (h.tail.tail.tail.tail) (by kernel_rfl) (by kernel_rfl) Tryz.underlying163 rowE Tryz.underlying352 Tryz.underlying354 Z Z Tryz.underlying9 (by kernel_rfl) (by kernel_rfl); ⟨_, _, e⟩), trivial⟩
set_option maxRecDepth 100000 in
theorem matgameShifts_lifted (os : Os) (started : os.Started) (H : Type) (enc : TypeId × Value → H) :
 ReturnsInHanded {} Tryz.checked os 6 .any (fun w args => (Rows.matgameShiftsSpec.pre enc Tryz.prog Tryz.f6 Rows.matgameShiftsRow.domain false w args ∧ laidMetH Tryz.prog Rows.matgameShiftsRow.laid w) ∧ sizedMet enc Tryz.prog Tryz.f6 (OpenSpec.ofChange Rows.matgameShiftsSpec) false w args)
  (Rows.matgameShiftsSpec.post enc Tryz.prog Tryz.f6 false true false false) := by
 refine returnsInHanded_of_change_and (C := Tryz.checked) (X := fun w _ => laidMetH Tryz.prog Rows.matgameShiftsRow.laid w) (fun _ _ _ hh h => h.of_heap hh) ownIt started (by kernel_rfl) Tryz.func6
  (ChangeSpec.witness_shaped (enc := enc) (C := Tryz.checked) (os := os) (X := fun w _ => laidMetH Tryz.prog Rows.matgameShiftsRow.laid w) false (World.laidAll Tryz.prog os Rows.matgameShiftsRow.laid) #[.slice none 0 0, .string ⟨#[]⟩, .string ⟨#[]⟩] 8 (World.laidAll_os _ _ _)
   (World.shaped_of_ZipB (by kernel_rfl) (by kernel_rfl)) (by kernel_rfl) (by kernel_rfl) (by kernel_rfl)
   (by rw [MakeChecks.laidMetH_plain _ _ _ (by kernel_rfl)]; exact laidMet_laidAll _ (by kernel_rfl) (by kernel_rfl))) ?_
 intro W base args ds gs before hval0 hW hcnd _ hL _
 have hval : ∀ (j : Nat) t v, Tryz.f6.params[j]? = some t → args[j]? = some v → Value.okWide Tryz.prog W .any base t v := hval0
 have hW' := hW
 obtain ⟨p, q, hA0, hV, rfl, hfz, hnd⟩ := hW
 have hA : DataW.TrodAll enc Tryz.prog W 0 (fun _ => true) true Tryz.f6.params.toList args.toList ds p := hA0
 rw [Tryz.params6] at hA hval
 obtain ⟨v0, vs0, d0, ds0, p0, q0, hargs, rfl, rfl, h0, r0⟩ := trodAll_cons hA
 obtain ⟨v1, vs1, d1, ds1, p1, q1, rfl, rfl, rfl, h1, r1⟩ := trodAll_cons r0
 obtain ⟨v2, vs2, d2, ds2, p2, q2, rfl, rfl, rfl, h2, r2⟩ := trodAll_cons r1
 obtain ⟨rfl, rfl, rfl⟩ := trodAll_nil r2
 obtain rfl : args = #[v0, v1, v2] := by cases args; simp_all
 obtain ⟨rfl, rfl⟩ := trodVars_none hV
 obtain ⟨ad0, sn0, sc0, rfl⟩ := okWide_slice Tryz.underlying23 (hval 0 23 v0 rfl rfl)
 obtain ⟨l0, ⟨hm0, hx0⟩, hl0⟩ := Rd.one (Rd.slice [] Tryz.underlying23 (by kernel_rfl) rfl (Rd.strs Tryz.underlying28 (by kernel_rfl) Tryz.underlying26)) rfl h0
 obtain ⟨s1, rfl, rfl, rfl, hw1⟩ := Go.ChangeMaps.open_string Tryz.underlying26 (hval 1 26 v1 rfl rfl) h1
 have hl1 : VR W (fun b => b < W.heap.size) (fun _ => none) (.str s1.data.toList) (.string s1) := VR.str _ s1.data.toList
 have hm1 : s1.data.toList.length ≤ 9223372036854775807 := by unfold maxLen at hw1; simpa using hw1
 obtain ⟨s2, rfl, rfl, rfl, hw2⟩ := Go.ChangeMaps.open_string Tryz.underlying26 (hval 2 26 v2 rfl rfl) h2
 have hl2 : VR W (fun b => b < W.heap.size) (fun _ => none) (.str s2.data.toList) (.string s2) := VR.str _ s2.data.toList
 have hm2 : s2.data.toList.length ≤ 9223372036854775807 := by unfold maxLen at hw2; simpa using hw2
 refine (zQq (MatgameShifts_law l0 s1.data.toList s2.data.toList ⟨hm0, hx0⟩ hm1 hm2) Z (fun i hi => ?_) (pin_up (matgameShifts_pin hL))).mono fun e W' ⟨he, ho, hp, hk⟩ => ⟨_, he, ?_⟩
 ·match i, hi with
  | 0, _ => exact hl0
  | 1, _ => exact hl1
  | 2, _ => exact hl2
 ·exact zQ7 (t := 4) hW' Z Z Z Tryz.underlying4 laidIt zP7 fullIt (by kernel_rfl) ho hp hk
theorem matgameShifts_j1 : Rows.matgameShiftsRow.wf (OpenSpec.ofChange Rows.matgameShiftsSpec) = true := by kernel_rfl
theorem matgameShifts_j2 : (Rows.matgameShiftsRow.inPlace == Tryz.prog.inPlace 6) = true := by kernel_rfl
theorem matgameShifts_j3 : (Rows.matgameShiftsRow.unfollowed == Tryz.prog.unfollowed 6) = true := by kernel_rfl
theorem matgameShifts_j4 : (Rows.matgameShiftsRow.recurses == Tryz.prog.recurses 6) = true := by kernel_rfl
theorem matgameShifts_j5 : (Rows.matgameShiftsRow.named == Tryz.prog.varsNamed 6) = true := by kernel_rfl
theorem matgameShifts_j6 : (Rows.matgameShiftsRow.lifted == Tryz.prog.liftsFinal) = true := liftIt
theorem matgameShifts_j7 : (Tryz.prog.make == some Rows.matgameShiftsRow.make) = true := makeIt
theorem matgameShifts_j8 : (Rows.matgameShiftsRow.plainKeys == Tryz.prog.plainKeys) = true := plainIt
theorem matgameShifts_joined : joinedFacts Tryz.prog 6 Tryz.f6 Rows.matgameShiftsSpec Rows.matgameShiftsRow = true := by
 unfold joinedFacts
 rw [matgameShifts_j1, laidIt, zP7, stopsIt, knobsIt, matgameShifts_j2, matgameShifts_j3, matgameShifts_j4, matgameShifts_j5, matgameShifts_j8, heardIt, enterIt, matgameShifts_j6, matgameShifts_j7]
 kernel_rfl
theorem matgameShifts_named : Tryz.prog.funcNamed Rows.matgameShiftsRow.func = some 6 := by kernel_rfl
theorem matgameShifts_inst : Tryz.f6.isInstance Tryz.prog Rows.matgameShiftsRow.origin Rows.matgameShiftsRow.targs := of_decide_eq_true (by kernel_rfl)
theorem matgameShifts_wrap : Tryz.f6.isWrapper Tryz.prog Rows.matgameShiftsRow.wrapper Rows.matgameShiftsRow.mainSum := by unfold Func.isWrapper; first | (rw [if_pos (by decide +kernel)]; kernel_rfl) | (rw [if_neg (by decide +kernel)]; exact ⟨rfl, rfl⟩)
theorem matgameShifts_holds : Rows.MatgameShiftsSaid :=
 OpenClaim.holds_of_wide 6 Tryz.f6 rfl rfl rfl rfl rfl rfl rfl ⟨rfl, rfl, rfl, rfl, rfl⟩ rfl rfl rfl rfl rfl matgameShifts_named Tryz.func6 matgameShifts_joined
  matgameShifts_inst matgameShifts_wrap
  (fun os started H enc _ => matgameShifts_lifted os started H enc)
theorem matgameShifts_c1 : Rows.matgameShiftsRow.wfByText (OpenSpec.ofChange Rows.matgameShiftsSpec) = true := by kernel_rfl
theorem matgameShifts_c2 : ([23, 26, 26].all fun u => !Tryz.prog.wantsStandIn u) = true := by kernel_rfl
theorem matgameShifts_c3 : false = Rows.matgameShiftsRow.goesBy Tryz.prog := by kernel_rfl
theorem matgameShifts_card : Rows.MatgameShiftsCardSaid :=
 Claim7.holds_tied_plain_at .later [] [.data, .data, .data, .data, .sentinel, .sentinel, .pinned] true (true, "3ea313bfc84e18d7a14057297d76a6f07cbc7b38cde80ce9b3cbed387549a276") true
  matgameShifts_holds (fun _ h => by cases h) matgameShifts_c1 (fun _ h => by cases h) matgameShifts_row_tie rfl ⟨rfl, rfl⟩ zQn rfl
  (fun f fn hf hfn => by
   obtain rfl : f = 6 := Option.some.inj (matgameShifts_named.symm.trans hf) |>.symm
   obtain rfl : fn = Tryz.f6 := (Option.some.inj (Tryz.func6.symm.trans hfn)).symm
   exact ⟨looksIt, fun j t ht => by
    rw [Tryz.params6] at ht
    have hm : t ∈ [23, 26, 26] := by simpa using Array.mem_of_getElem? ht
    exact (show Tryz.prog.wantsStandIn t = false by simpa using List.all_eq_true.1 matgameShifts_c2 t hm)⟩)
  matgameShifts_c3
end Go.Proofs.YtkncmbklkhjmgaaGreatDoor
