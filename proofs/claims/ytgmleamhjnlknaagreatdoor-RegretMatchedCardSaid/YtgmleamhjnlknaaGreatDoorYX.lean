/- RegretMatched of the given program returns true for every input and leaves its arguments as they were; no conditions. -/
import Derived.Test.YtgmleamhjnlknaaGreatDoorRows
import Derived.Test.YtgmleamhjnlknaaGreatDoorTie
import Derived.Test.YtgmleamhjnlknaaGreatDoorCards
import Derived.LaidMore
import Derived.Lay
import Derived.SevenTiedAt
import Derived.Stop.Joined
import Derived.Stop.ErrReads
import Derived.MakeChecks
import Derived.Test.YtgmleamhjnlknaaGreatDoorY5
set_option linter.unusedVariables false
set_option linter.unusedSimpArgs false
namespace Go.Proofs.YtgmleamhjnlknaaGreatDoor
open Go.Ax Go.ChangeShapes Go.WideShapes Go.ChangeAt Go.RowKit

theorem regretMatched_pin {W : World} (h0 : laidMetH Tryz.prog Rows.regretMatchedRow.laid W) : pinG W := by
  rw [MakeChecks.laidMetH_plain _ _ _ (by kernel_rfl)] at h0
  have h := h0
  exact ⟨trivial, Lib.tabIs_of_head (k := .u64) (zs := Lib.pow10Tab) (g := 5) (t := 304) (e := 145) (n := 20) (by kernel_rfl) (by kernel_rfl) Tryz.underlying304 Tryz.underlying145 (by kernel_rfl) (by kernel_rfl) (h.tail.tail), trivial⟩

set_option maxRecDepth 100000 in
theorem regretMatched_lifted (os : Os) (started : os.Started) (H : Type) (enc : TypeId × Value → H) :
    ReturnsInHanded {} Tryz.checked os 4 .any (fun w args => (Rows.regretMatchedSpec.pre enc Tryz.prog Tryz.f4 Rows.regretMatchedRow.domain false w args ∧ laidMetH Tryz.prog Rows.regretMatchedRow.laid w) ∧ sizedMet enc Tryz.prog Tryz.f4 (OpenSpec.ofChange Rows.regretMatchedSpec) false w args)
      (Rows.regretMatchedSpec.post enc Tryz.prog Tryz.f4 false true false false) := by
  refine returnsInHanded_of_change_and (C := Tryz.checked) (X := fun w _ => laidMetH Tryz.prog Rows.regretMatchedRow.laid w) (fun _ _ _ hh h => h.of_heap hh) ownIt started (by kernel_rfl) Tryz.func4
    (ChangeSpec.witness_shaped (enc := enc) (C := Tryz.checked) (os := os) (X := fun w _ => laidMetH Tryz.prog Rows.regretMatchedRow.laid w) false (World.laidAll Tryz.prog os Rows.regretMatchedRow.laid) #[.slice none 0 0] 8 (World.laidAll_os _ _ _)
      (World.shaped_of_ZipB (by kernel_rfl) (by kernel_rfl)) (by kernel_rfl) (by kernel_rfl) (by kernel_rfl)
      (by rw [MakeChecks.laidMetH_plain _ _ _ (by kernel_rfl)]; exact laidMet_laidAll _ (by kernel_rfl) (by kernel_rfl))) ?_
  intro W base args ds gs before hval0 hW hcnd _ hL _
  have hval : ∀ (j : Nat) t v, Tryz.f4.params[j]? = some t → args[j]? = some v → Value.okWide Tryz.prog W .any base t v := hval0
  have hW' := hW
  obtain ⟨p, q, hA0, hV, rfl, hfz, hnd⟩ := hW
  have hA : DataW.TrodAll enc Tryz.prog W 0 (fun _ => true) true Tryz.f4.params.toList args.toList ds p := hA0
  rw [Tryz.params4] at hA hval
  obtain ⟨v0, vs0, d0, ds0, p0, q0, hargs, rfl, rfl, h0, r0⟩ := trodAll_cons hA
  obtain ⟨rfl, rfl, rfl⟩ := trodAll_nil r0
  obtain rfl : args = #[v0] := by cases args; simp_all
  obtain ⟨rfl, rfl⟩ := trodVars_none hV
  obtain ⟨ad0, sn0, sc0, rfl⟩ := okWide_slice Tryz.underlying36 (hval 0 36 v0 rfl rfl)
  obtain ⟨l0, ⟨hm0, hx0⟩, hl0⟩ := Rd.one (Rd.strs Tryz.underlying36 (by kernel_rfl) Tryz.underlying40) rfl h0
  refine (law_calls (RegretMatched_law l0 hm0 hx0) rfl (fun i hi => ?_) (pin_up (regretMatched_pin hL))).mono fun e W' ⟨he, ho, hp, hk⟩ => ⟨_, he, ?_⟩
  · match i, hi with
    | 0, _ => exact hl0
  · exact post_true (t := 4) hW' rfl rfl rfl Tryz.underlying4 laidIt rowedIt fullIt (by kernel_rfl) ho hp hk

theorem regretMatched_j1 : Rows.regretMatchedRow.wf (OpenSpec.ofChange Rows.regretMatchedSpec) = true := by kernel_rfl
theorem regretMatched_j2 : (Rows.regretMatchedRow.inPlace == Tryz.prog.inPlace 4) = true := by kernel_rfl
theorem regretMatched_j3 : (Rows.regretMatchedRow.unfollowed == Tryz.prog.unfollowed 4) = true := by kernel_rfl
theorem regretMatched_j4 : (Rows.regretMatchedRow.recurses == Tryz.prog.recurses 4) = true := by kernel_rfl
theorem regretMatched_j5 : (Rows.regretMatchedRow.named == Tryz.prog.varsNamed 4) = true := by kernel_rfl
theorem regretMatched_j6 : (Rows.regretMatchedRow.lifted == Tryz.prog.liftsFinal) = true := liftIt
theorem regretMatched_j7 : (Tryz.prog.make == some Rows.regretMatchedRow.make) = true := makeIt
theorem regretMatched_j8 : (Rows.regretMatchedRow.plainKeys == Tryz.prog.plainKeys) = true := plainIt
theorem regretMatched_joined : joinedFacts Tryz.prog 4 Tryz.f4 Rows.regretMatchedSpec Rows.regretMatchedRow = true := by
  unfold joinedFacts
  rw [regretMatched_j1, laidIt, rowedIt, stopsIt, knobsIt, regretMatched_j2, regretMatched_j3, regretMatched_j4, regretMatched_j5, regretMatched_j8, heardIt, enterIt, regretMatched_j6, regretMatched_j7]
  kernel_rfl
theorem regretMatched_named : Tryz.prog.funcNamed Rows.regretMatchedRow.func = some 4 := by kernel_rfl
theorem regretMatched_inst : Tryz.f4.isInstance Tryz.prog Rows.regretMatchedRow.origin Rows.regretMatchedRow.targs := of_decide_eq_true (by kernel_rfl)
theorem regretMatched_wrap : Tryz.f4.isWrapper Tryz.prog Rows.regretMatchedRow.wrapper Rows.regretMatchedRow.mainSum := by unfold Func.isWrapper; first | (rw [if_pos (by decide +kernel)]; kernel_rfl) | (rw [if_neg (by decide +kernel)]; exact ⟨rfl, rfl⟩)
theorem regretMatched_holds : Rows.RegretMatchedSaid :=
  OpenClaim.holds_of_wide 4 Tryz.f4 rfl rfl rfl rfl rfl rfl rfl ⟨rfl, rfl, rfl, rfl, rfl⟩ rfl rfl rfl rfl rfl regretMatched_named Tryz.func4 regretMatched_joined
    regretMatched_inst regretMatched_wrap
    (fun os started H enc _ => regretMatched_lifted os started H enc)
theorem regretMatched_c1 : Rows.regretMatchedRow.wfByText (OpenSpec.ofChange Rows.regretMatchedSpec) = true := by kernel_rfl
theorem regretMatched_c2 : ([36].all fun u => !Tryz.prog.wantsStandIn u) = true := by kernel_rfl
theorem regretMatched_c3 : false = Rows.regretMatchedRow.goesBy Tryz.prog := by kernel_rfl
theorem regretMatched_card : Rows.RegretMatchedCardSaid :=
  Claim7.holds_tied_plain_at .later [] [.data, .data, .data, .data, .sentinel, .sentinel, .pinned] true (true, "01fbb469cf8b0980b89ab124d6c951f307d4b37b82991b3a2bba3582623a25d4") true
    regretMatched_holds (fun _ h => by cases h) regretMatched_c1 (fun _ h => by cases h) regretMatched_row_tie rfl ⟨rfl, rfl⟩ harnessIt rfl
    (fun f fn hf hfn => by
      obtain rfl : f = 4 := Option.some.inj (regretMatched_named.symm.trans hf) |>.symm
      obtain rfl : fn = Tryz.f4 := (Option.some.inj (Tryz.func4.symm.trans hfn)).symm
      exact ⟨looksIt, fun j t ht => by
        rw [Tryz.params4] at ht
        have hm : t ∈ [36] := by simpa using Array.mem_of_getElem? ht
        exact (show Tryz.prog.wantsStandIn t = false by simpa using List.all_eq_true.1 regretMatched_c2 t hm)⟩)
    regretMatched_c3
end Go.Proofs.YtgmleamhjnlknaaGreatDoor

