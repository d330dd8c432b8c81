/- RecallNumbers of the given program returns true for every input and leaves its arguments as they were; no conditions. -/
import Derived.Test.YtgmleamhjnlknaaGreatDoorRows
import Derived.Test.YtgmleamhjnlknaaGreatDoorTie
import Derived.Test.YtgmleamhjnlknaaGreatDoorCards
import Derived.LaidMore
import Derived.Lay
import Derived.SevenTiedAt
import Derived.Stop.Joined
import Derived.Stop.ErrReads
import Derived.MakeChecks
import Derived.Test.YtgmleamhjnlknaaGreatDoorY5
set_option linter.unusedVariables false
set_option linter.unusedSimpArgs false
namespace Go.Proofs.YtgmleamhjnlknaaGreatDoor
open Go.Ax Go.ChangeShapes Go.WideShapes Go.ChangeAt Go.RowKit

theorem recallNumbers_pin {W : World} (h0 : laidMetH Tryz.prog Rows.recallNumbersRow.laid W) : pinG W := by
  rw [MakeChecks.laidMetH_plain _ _ _ (by kernel_rfl)] at h0
  have h := h0
  exact ⟨trivial, Lib.tabIs_of_head (k := .u64) (zs := Lib.pow10Tab) (g := 5) (t := 304) (e := 145) (n := 20) (by kernel_rfl) (by kernel_rfl) Tryz.underlying304 Tryz.underlying145 (by kernel_rfl) (by kernel_rfl) (h.tail.tail), trivial⟩

set_option maxRecDepth 100000 in
theorem recallNumbers_lifted (os : Os) (started : os.Started) (H : Type) (enc : TypeId × Value → H) :
    ReturnsInHanded {} Tryz.checked os 10 .any (fun w args => (Rows.recallNumbersSpec.pre enc Tryz.prog Tryz.f10 Rows.recallNumbersRow.domain false w args ∧ laidMetH Tryz.prog Rows.recallNumbersRow.laid w) ∧ sizedMet enc Tryz.prog Tryz.f10 (OpenSpec.ofChange Rows.recallNumbersSpec) false w args)
      (Rows.recallNumbersSpec.post enc Tryz.prog Tryz.f10 false true false false) := by
  refine returnsInHanded_of_change_and (C := Tryz.checked) (X := fun w _ => laidMetH Tryz.prog Rows.recallNumbersRow.laid w) (fun _ _ _ hh h => h.of_heap hh) ownIt started (by kernel_rfl) Tryz.func10
    (ChangeSpec.witness_shaped (enc := enc) (C := Tryz.checked) (os := os) (X := fun w _ => laidMetH Tryz.prog Rows.recallNumbersRow.laid w) false (World.laidAll Tryz.prog os Rows.recallNumbersRow.laid) #[.slice none 0 0, .int .i64 0] 8 (World.laidAll_os _ _ _)
      (World.shaped_of_ZipB (by kernel_rfl) (by kernel_rfl)) (by kernel_rfl) (by kernel_rfl) (by kernel_rfl)
      (by rw [MakeChecks.laidMetH_plain _ _ _ (by kernel_rfl)]; exact laidMet_laidAll _ (by kernel_rfl) (by kernel_rfl))) ?_
  intro W base args ds gs before hval0 hW hcnd _ hL _
  have hval : ∀ (j : Nat) t v, Tryz.f10.params[j]? = some t → args[j]? = some v → Value.okWide Tryz.prog W .any base t v := hval0
  have hW' := hW
  obtain ⟨p, q, hA0, hV, rfl, hfz, hnd⟩ := hW
  have hA : DataW.TrodAll enc Tryz.prog W 0 (fun _ => true) true Tryz.f10.params.toList args.toList ds p := hA0
  rw [Tryz.params10] at hA hval
  obtain ⟨v0, vs0, d0, ds0, p0, q0, hargs, rfl, rfl, h0, r0⟩ := trodAll_cons hA
  obtain ⟨v1, vs1, d1, ds1, p1, q1, rfl, rfl, rfl, h1, r1⟩ := trodAll_cons r0
  obtain ⟨rfl, rfl, rfl⟩ := trodAll_nil r1
  obtain rfl : args = #[v0, v1] := by cases args; simp_all
  obtain ⟨rfl, rfl⟩ := trodVars_none hV
  obtain ⟨ad0, sn0, sc0, rfl⟩ := okWide_slice Tryz.underlying66 (hval 0 66 v0 rfl rfl)
  obtain ⟨l0, hm0, hl0⟩ := Rd.one (Rd.slice Go.Ax.Rt.node0 Tryz.underlying66 (by kernel_rfl) rfl rdNode) rfl h0
  obtain ⟨n1, rfl, rfl, rfl, hw1⟩ := open_int Tryz.underlying3 (hval 1 3 v1 rfl rfl) h1
  have hl1 : VR W (fun b => b < W.heap.size) (fun _ => none) (.int .i64 n1) (.int .i64 n1) := .int _ _ _
  refine (law_calls (RecallNumbers_law l0 n1 hm0) rfl (fun i hi => ?_) (pin_up (recallNumbers_pin hL))).mono fun e W' ⟨he, ho, hp, hk⟩ => ⟨_, he, ?_⟩
  · match i, hi with
    | 0, _ => exact hl0
    | 1, _ => exact hl1
  · exact post_true (t := 4) hW' rfl rfl rfl Tryz.underlying4 laidIt rowedIt fullIt (by kernel_rfl) ho hp hk

theorem recallNumbers_j1 : Rows.recallNumbersRow.wf (OpenSpec.ofChange Rows.recallNumbersSpec) = true := by kernel_rfl
theorem recallNumbers_j2 : (Rows.recallNumbersRow.inPlace == Tryz.prog.inPlace 10) = true := by kernel_rfl
theorem recallNumbers_j3 : (Rows.recallNumbersRow.unfollowed == Tryz.prog.unfollowed 10) = true := by kernel_rfl
theorem recallNumbers_j4 : (Rows.recallNumbersRow.recurses == Tryz.prog.recurses 10) = true := by kernel_rfl
theorem recallNumbers_j5 : (Rows.recallNumbersRow.named == Tryz.prog.varsNamed 10) = true := by kernel_rfl
theorem recallNumbers_j6 : (Rows.recallNumbersRow.lifted == Tryz.prog.liftsFinal) = true := liftIt
theorem recallNumbers_j7 : (Tryz.prog.make == some Rows.recallNumbersRow.make) = true := makeIt
theorem recallNumbers_j8 : (Rows.recallNumbersRow.plainKeys == Tryz.prog.plainKeys) = true := plainIt
theorem recallNumbers_joined : joinedFacts Tryz.prog 10 Tryz.f10 Rows.recallNumbersSpec Rows.recallNumbersRow = true := by
  unfold joinedFacts
  rw [recallNumbers_j1, laidIt, rowedIt, stopsIt, knobsIt, recallNumbers_j2, recallNumbers_j3, recallNumbers_j4, recallNumbers_j5, recallNumbers_j8, heardIt, enterIt, recallNumbers_j6, recallNumbers_j7]
  kernel_rfl
theorem recallNumbers_named : Tryz.prog.funcNamed Rows.recallNumbersRow.func = some 10 := by kernel_rfl
theorem recallNumbers_inst : Tryz.f10.isInstance Tryz.prog Rows.recallNumbersRow.origin Rows.recallNumbersRow.targs := of_decide_eq_true (by kernel_rfl)
theorem recallNumbers_wrap : Tryz.f10.isWrapper Tryz.prog Rows.recallNumbersRow.wrapper Rows.recallNumbersRow.mainSum := by unfold Func.isWrapper; first | (rw [if_pos (by decide +kernel)]; kernel_rfl) | (rw [if_neg (by decide +kernel)]; exact ⟨rfl, rfl⟩)
theorem recallNumbers_holds : Rows.RecallNumbersSaid :=
  OpenClaim.holds_of_wide 10 Tryz.f10 rfl rfl rfl rfl rfl rfl rfl ⟨rfl, rfl, rfl, rfl, rfl⟩ rfl rfl rfl rfl rfl recallNumbers_named Tryz.func10 recallNumbers_joined
    recallNumbers_inst recallNumbers_wrap
    (fun os started H enc _ => recallNumbers_lifted os started H enc)
theorem recallNumbers_c1 : Rows.recallNumbersRow.wfByText (OpenSpec.ofChange Rows.recallNumbersSpec) = true := by kernel_rfl
theorem recallNumbers_c2 : ([66, 3].all fun u => !Tryz.prog.wantsStandIn u) = true := by kernel_rfl
theorem recallNumbers_c3 : false = Rows.recallNumbersRow.goesBy Tryz.prog := by kernel_rfl
theorem recallNumbers_card : Rows.RecallNumbersCardSaid :=
  Claim7.holds_tied_plain_at .later [] [.data, .data, .data, .data, .sentinel, .sentinel, .pinned] true (true, "01fbb469cf8b0980b89ab124d6c951f307d4b37b82991b3a2bba3582623a25d4") true
    recallNumbers_holds (fun _ h => by cases h) recallNumbers_c1 (fun _ h => by cases h) recallNumbers_row_tie rfl ⟨rfl, rfl⟩ harnessIt rfl
    (fun f fn hf hfn => by
      obtain rfl : f = 10 := Option.some.inj (recallNumbers_named.symm.trans hf) |>.symm
      obtain rfl : fn = Tryz.f10 := (Option.some.inj (Tryz.func10.symm.trans hfn)).symm
      exact ⟨looksIt, fun j t ht => by
        rw [Tryz.params10] at ht
        have hm : t ∈ [66, 3] := by simpa using Array.mem_of_getElem? ht
        exact (show Tryz.prog.wantsStandIn t = false by simpa using List.all_eq_true.1 recallNumbers_c2 t hm)⟩)
    recallNumbers_c3
end Go.Proofs.YtgmleamhjnlknaaGreatDoor

