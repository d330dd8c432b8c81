/- MatrixKinds of the given program returns true for every input and leaves its arguments as they were; no conditions. -/
import Derived.Test.YtgmleamhjnlknaaGreatDoorRows
import Derived.Test.YtgmleamhjnlknaaGreatDoorTie
import Derived.Test.YtgmleamhjnlknaaGreatDoorCards
import Derived.LaidMore
import Derived.Lay
import Derived.SevenTiedAt
import Derived.Stop.Joined
import Derived.Stop.ErrReads
import Derived.MakeChecks
import Derived.Test.YtgmleamhjnlknaaGreatDoorY5
set_option linter.unusedVariables false
set_option linter.unusedSimpArgs false
namespace Go.Proofs.YtgmleamhjnlknaaGreatDoor
open Go.Ax Go.ChangeShapes Go.WideShapes Go.ChangeAt Go.RowKit

theorem matrixKinds_pin {W : World} (h0 : laidMetH Tryz.prog Rows.matrixKindsRow.laid W) : pinG W := by
  rw [MakeChecks.laidMetH_plain _ _ _ (by kernel_rfl)] at h0
  have h := h0
  exact ⟨trivial, Lib.tabIs_of_head (k := .u64) (zs := Lib.pow10Tab) (g := 5) (t := 304) (e := 145) (n := 20) (by kernel_rfl) (by kernel_rfl) Tryz.underlying304 Tryz.underlying145 (by kernel_rfl) (by kernel_rfl) (h.tail.tail), trivial⟩

set_option maxRecDepth 100000 in
theorem matrixKinds_lifted (os : Os) (started : os.Started) (H : Type) (enc : TypeId × Value → H) :
    ReturnsInHanded {} Tryz.checked os 8 .any (fun w args => (Rows.matrixKindsSpec.pre enc Tryz.prog Tryz.f8 Rows.matrixKindsRow.domain false w args ∧ laidMetH Tryz.prog Rows.matrixKindsRow.laid w) ∧ sizedMet enc Tryz.prog Tryz.f8 (OpenSpec.ofChange Rows.matrixKindsSpec) false w args)
      (Rows.matrixKindsSpec.post enc Tryz.prog Tryz.f8 false true false false) := by
  refine returnsInHanded_of_change_and (C := Tryz.checked) (X := fun w _ => laidMetH Tryz.prog Rows.matrixKindsRow.laid w) (fun _ _ _ hh h => h.of_heap hh) ownIt started (by kernel_rfl) Tryz.func8
    (ChangeSpec.witness_shaped (enc := enc) (C := Tryz.checked) (os := os) (X := fun w _ => laidMetH Tryz.prog Rows.matrixKindsRow.laid w) false (World.laidAll Tryz.prog os Rows.matrixKindsRow.laid) #[.slice none 0 0, .slice none 0 0] 8 (World.laidAll_os _ _ _)
      (World.shaped_of_ZipB (by kernel_rfl) (by kernel_rfl)) (by kernel_rfl) (by kernel_rfl) (by kernel_rfl)
      (by rw [MakeChecks.laidMetH_plain _ _ _ (by kernel_rfl)]; exact laidMet_laidAll _ (by kernel_rfl) (by kernel_rfl))) ?_
  intro W base args ds gs before hval0 hW hcnd _ hL _
  have hval : ∀ (j : Nat) t v, Tryz.f8.params[j]? = some t → args[j]? = some v → Value.okWide Tryz.prog W .any base t v := hval0
  have hW' := hW
  obtain ⟨p, q, hA0, hV, rfl, hfz, hnd⟩ := hW
  have hA : DataW.TrodAll enc Tryz.prog W 0 (fun _ => true) true Tryz.f8.params.toList args.toList ds p := hA0
  rw [Tryz.params8] at hA hval
  obtain ⟨v0, vs0, d0, ds0, p0, q0, hargs, rfl, rfl, h0, r0⟩ := trodAll_cons hA
  obtain ⟨v1, vs1, d1, ds1, p1, q1, rfl, rfl, rfl, h1, r1⟩ := trodAll_cons r0
  obtain ⟨rfl, rfl, rfl⟩ := trodAll_nil r1
  obtain rfl : args = #[v0, v1] := by cases args; simp_all
  obtain ⟨rfl, rfl⟩ := trodVars_none hV
  obtain ⟨ad0, sn0, sc0, rfl⟩ := okWide_slice Tryz.underlying23 (hval 0 23 v0 rfl rfl)
  obtain ⟨l0, ⟨hm0, hx0⟩, hl0⟩ := Rd.one (Rd.slice [] Tryz.underlying23 (by kernel_rfl) rfl (Rd.strs Tryz.underlying36 (by kernel_rfl) Tryz.underlying40)) rfl h0
  obtain ⟨ad1, sn1, sc1, rfl⟩ := okWide_slice Tryz.underlying36 (hval 1 36 v1 rfl rfl)
  obtain ⟨l1, ⟨hm1, hx1⟩, hl1⟩ := Rd.one (Rd.strs Tryz.underlying36 (by kernel_rfl) Tryz.underlying40) rfl h1
  refine (law_calls (MatrixKinds_law l0 l1 hm0 hx0 hm1 hx1) rfl (fun i hi => ?_) (pin_up (matrixKinds_pin hL))).mono fun e W' ⟨he, ho, hp, hk⟩ => ⟨_, he, ?_⟩
  · match i, hi with
    | 0, _ => exact hl0
    | 1, _ => exact hl1
  · exact post_true (t := 4) hW' rfl rfl rfl Tryz.underlying4 laidIt rowedIt fullIt (by kernel_rfl) ho hp hk

theorem matrixKinds_j1 : Rows.matrixKindsRow.wf (OpenSpec.ofChange Rows.matrixKindsSpec) = true := by kernel_rfl
theorem matrixKinds_j2 : (Rows.matrixKindsRow.inPlace == Tryz.prog.inPlace 8) = true := by kernel_rfl
theorem matrixKinds_j3 : (Rows.matrixKindsRow.unfollowed == Tryz.prog.unfollowed 8) = true := by kernel_rfl
theorem matrixKinds_j4 : (Rows.matrixKindsRow.recurses == Tryz.prog.recurses 8) = true := by kernel_rfl
theorem matrixKinds_j5 : (Rows.matrixKindsRow.named == Tryz.prog.varsNamed 8) = true := by kernel_rfl
theorem matrixKinds_j6 : (Rows.matrixKindsRow.lifted == Tryz.prog.liftsFinal) = true := liftIt
theorem matrixKinds_j7 : (Tryz.prog.make == some Rows.matrixKindsRow.make) = true := makeIt
theorem matrixKinds_j8 : (Rows.matrixKindsRow.plainKeys == Tryz.prog.plainKeys) = true := plainIt
theorem matrixKinds_joined : joinedFacts Tryz.prog 8 Tryz.f8 Rows.matrixKindsSpec Rows.matrixKindsRow = true := by
  unfold joinedFacts
  rw [matrixKinds_j1, laidIt, rowedIt, stopsIt, knobsIt, matrixKinds_j2, matrixKinds_j3, matrixKinds_j4, matrixKinds_j5, matrixKinds_j8, heardIt, enterIt, matrixKinds_j6, matrixKinds_j7]
  kernel_rfl
theorem matrixKinds_named : Tryz.prog.funcNamed Rows.matrixKindsRow.func = some 8 := by kernel_rfl
theorem matrixKinds_inst : Tryz.f8.isInstance Tryz.prog Rows.matrixKindsRow.origin Rows.matrixKindsRow.targs := of_decide_eq_true (by kernel_rfl)
theorem matrixKinds_wrap : Tryz.f8.isWrapper Tryz.prog Rows.matrixKindsRow.wrapper Rows.matrixKindsRow.mainSum := by unfold Func.isWrapper; first | (rw [if_pos (by decide +kernel)]; kernel_rfl) | (rw [if_neg (by decide +kernel)]; exact ⟨rfl, rfl⟩)
theorem matrixKinds_holds : Rows.MatrixKindsSaid :=
  OpenClaim.holds_of_wide 8 Tryz.f8 rfl rfl rfl rfl rfl rfl rfl ⟨rfl, rfl, rfl, rfl, rfl⟩ rfl rfl rfl rfl rfl matrixKinds_named Tryz.func8 matrixKinds_joined
    matrixKinds_inst matrixKinds_wrap
    (fun os started H enc _ => matrixKinds_lifted os started H enc)
theorem matrixKinds_c1 : Rows.matrixKindsRow.wfByText (OpenSpec.ofChange Rows.matrixKindsSpec) = true := by kernel_rfl
theorem matrixKinds_c2 : ([23, 36].all fun u => !Tryz.prog.wantsStandIn u) = true := by kernel_rfl
theorem matrixKinds_c3 : false = Rows.matrixKindsRow.goesBy Tryz.prog := by kernel_rfl
theorem matrixKinds_card : Rows.MatrixKindsCardSaid :=
  Claim7.holds_tied_plain_at .later [] [.data, .data, .data, .data, .sentinel, .sentinel, .pinned] true (true, "01fbb469cf8b0980b89ab124d6c951f307d4b37b82991b3a2bba3582623a25d4") true
    matrixKinds_holds (fun _ h => by cases h) matrixKinds_c1 (fun _ h => by cases h) matrixKinds_row_tie rfl ⟨rfl, rfl⟩ harnessIt rfl
    (fun f fn hf hfn => by
      obtain rfl : f = 8 := Option.some.inj (matrixKinds_named.symm.trans hf) |>.symm
      obtain rfl : fn = Tryz.f8 := (Option.some.inj (Tryz.func8.symm.trans hfn)).symm
      exact ⟨looksIt, fun j t ht => by
        rw [Tryz.params8] at ht
        have hm : t ∈ [23, 36] := by simpa using Array.mem_of_getElem? ht
        exact (show Tryz.prog.wantsStandIn t = false by simpa using List.all_eq_true.1 matrixKinds_c2 t hm)⟩)
    matrixKinds_c3
end Go.Proofs.YtgmleamhjnlknaaGreatDoor

