/- RegretContinues of the given program returns true for every input and leaves its arguments as they were; no conditions. -/
import Derived.Test.YtgmleamhjnlknaaGreatDoorRows
import Derived.Test.YtgmleamhjnlknaaGreatDoorTie
import Derived.Test.YtgmleamhjnlknaaGreatDoorCards
import Derived.LaidMore
import Derived.Lay
import Derived.SevenTiedAt
import Derived.Stop.Joined
import Derived.Stop.ErrReads
import Derived.MakeChecks
import Derived.Test.YtgmleamhjnlknaaGreatDoorY5
set_option linter.unusedVariables false
set_option linter.unusedSimpArgs false
namespace Go.Proofs.YtgmleamhjnlknaaGreatDoor
open Go.Ax Go.ChangeShapes Go.WideShapes Go.ChangeAt Go.RowKit

theorem regretContinues_pin {W : World} (h0 : laidMetH Tryz.prog Rows.regretContinuesRow.laid W) : pinG W := by
  rw [MakeChecks.laidMetH_plain _ _ _ (by kernel_rfl)] at h0
  have h := h0
  exact ⟨trivial, Lib.tabIs_of_head (k := .u64) (zs := Lib.pow10Tab) (g := 5) (t := 304) (e := 145) (n := 20) (by kernel_rfl) (by kernel_rfl) Tryz.underlying304 Tryz.underlying145 (by kernel_rfl) (by kernel_rfl) (h.tail.tail), trivial⟩

set_option maxRecDepth 100000 in
theorem regretContinues_lifted (os : Os) (started : os.Started) (H : Type) (enc : TypeId × Value → H) :
    ReturnsInHanded {} Tryz.checked os 3 .any (fun w args => (Rows.regretContinuesSpec.pre enc Tryz.prog Tryz.f3 Rows.regretContinuesRow.domain false w args ∧ laidMetH Tryz.prog Rows.regretContinuesRow.laid w) ∧ sizedMet enc Tryz.prog Tryz.f3 (OpenSpec.ofChange Rows.regretContinuesSpec) false w args)
      (Rows.regretContinuesSpec.post enc Tryz.prog Tryz.f3 false true false false) := by
  refine returnsInHanded_of_change_and (C := Tryz.checked) (X := fun w _ => laidMetH Tryz.prog Rows.regretContinuesRow.laid w) (fun _ _ _ hh h => h.of_heap hh) ownIt started (by kernel_rfl) Tryz.func3
    (ChangeSpec.witness_shaped (enc := enc) (C := Tryz.checked) (os := os) (X := fun w _ => laidMetH Tryz.prog Rows.regretContinuesRow.laid w) false (World.laidAll Tryz.prog os Rows.regretContinuesRow.laid) #[.slice none 0 0, .int .i64 0, .int .i64 0] 8 (World.laidAll_os _ _ _)
      (World.shaped_of_ZipB (by kernel_rfl) (by kernel_rfl)) (by kernel_rfl) (by kernel_rfl) (by kernel_rfl)
      (by rw [MakeChecks.laidMetH_plain _ _ _ (by kernel_rfl)]; exact laidMet_laidAll _ (by kernel_rfl) (by kernel_rfl))) ?_
  intro W base args ds gs before hval0 hW hcnd _ hL _
  have hval : ∀ (j : Nat) t v, Tryz.f3.params[j]? = some t → args[j]? = some v → Value.okWide Tryz.prog W .any base t v := hval0
  have hW' := hW
  obtain ⟨p, q, hA0, hV, rfl, hfz, hnd⟩ := hW
  have hA : DataW.TrodAll enc Tryz.prog W 0 (fun _ => true) true Tryz.f3.params.toList args.toList ds p := hA0
  rw [Tryz.params3] at hA hval
  obtain ⟨v0, vs0, d0, ds0, p0, q0, hargs, rfl, rfl, h0, r0⟩ := trodAll_cons hA
  obtain ⟨v1, vs1, d1, ds1, p1, q1, rfl, rfl, rfl, h1, r1⟩ := trodAll_cons r0
  obtain ⟨v2, vs2, d2, ds2, p2, q2, rfl, rfl, rfl, h2, r2⟩ := trodAll_cons r1
  obtain ⟨rfl, rfl, rfl⟩ := trodAll_nil r2
  obtain rfl : args = #[v0, v1, v2] := by cases args; simp_all
  obtain ⟨rfl, rfl⟩ := trodVars_none hV
  obtain ⟨ad0, sn0, sc0, rfl⟩ := okWide_slice Tryz.underlying23 (hval 0 23 v0 rfl rfl)
  obtain ⟨l0, ⟨hm0, hx0⟩, hl0⟩ := Rd.one (Rd.slice [] Tryz.underlying23 (by kernel_rfl) rfl (Rd.strs Tryz.underlying36 (by kernel_rfl) Tryz.underlying40)) rfl h0
  obtain ⟨n1, rfl, rfl, rfl, hw1⟩ := open_int Tryz.underlying3 (hval 1 3 v1 rfl rfl) h1
  have hl1 : VR W (fun b => b < W.heap.size) (fun _ => none) (.int .i64 n1) (.int .i64 n1) := .int _ _ _
  obtain ⟨n2, rfl, rfl, rfl, hw2⟩ := open_int Tryz.underlying3 (hval 2 3 v2 rfl rfl) h2
  have hl2 : VR W (fun b => b < W.heap.size) (fun _ => none) (.int .i64 n2) (.int .i64 n2) := .int _ _ _
  refine (law_calls (RegretContinues_law l0 n1 n2 hm0 hx0) rfl (fun i hi => ?_) (pin_up (regretContinues_pin hL))).mono fun e W' ⟨he, ho, hp, hk⟩ => ⟨_, he, ?_⟩
  · match i, hi with
    | 0, _ => exact hl0
    | 1, _ => exact hl1
    | 2, _ => exact hl2
  · exact post_true (t := 4) hW' rfl rfl rfl Tryz.underlying4 laidIt rowedIt fullIt (by kernel_rfl) ho hp hk

theorem regretContinues_j1 : Rows.regretContinuesRow.wf (OpenSpec.ofChange Rows.regretContinuesSpec) = true := by kernel_rfl
theorem regretContinues_j2 : (Rows.regretContinuesRow.inPlace == Tryz.prog.inPlace 3) = true := by kernel_rfl
theorem regretContinues_j3 : (Rows.regretContinuesRow.unfollowed == Tryz.prog.unfollowed 3) = true := by kernel_rfl
theorem regretContinues_j4 : (Rows.regretContinuesRow.recurses == Tryz.prog.recurses 3) = true := by kernel_rfl
theorem regretContinues_j5 : (Rows.regretContinuesRow.named == Tryz.prog.varsNamed 3) = true := by kernel_rfl
theorem regretContinues_j6 : (Rows.regretContinuesRow.lifted == Tryz.prog.liftsFinal) = true := liftIt
theorem regretContinues_j7 : (Tryz.prog.make == some Rows.regretContinuesRow.make) = true := makeIt
theorem regretContinues_j8 : (Rows.regretContinuesRow.plainKeys == Tryz.prog.plainKeys) = true := plainIt
theorem regretContinues_joined : joinedFacts Tryz.prog 3 Tryz.f3 Rows.regretContinuesSpec Rows.regretContinuesRow = true := by
  unfold joinedFacts
  rw [regretContinues_j1, laidIt, rowedIt, stopsIt, knobsIt, regretContinues_j2, regretContinues_j3, regretContinues_j4, regretContinues_j5, regretContinues_j8, heardIt, enterIt, regretContinues_j6, regretContinues_j7]
  kernel_rfl
theorem regretContinues_named : Tryz.prog.funcNamed Rows.regretContinuesRow.func = some 3 := by kernel_rfl
theorem regretContinues_inst : Tryz.f3.isInstance Tryz.prog Rows.regretContinuesRow.origin Rows.regretContinuesRow.targs := of_decide_eq_true (by kernel_rfl)
theorem regretContinues_wrap : Tryz.f3.isWrapper Tryz.prog Rows.regretContinuesRow.wrapper Rows.regretContinuesRow.mainSum := by unfold Func.isWrapper; first | (rw [if_pos (by decide +kernel)]; kernel_rfl) | (rw [if_neg (by decide +kernel)]; exact ⟨rfl, rfl⟩)
theorem regretContinues_holds : Rows.RegretContinuesSaid :=
  OpenClaim.holds_of_wide 3 Tryz.f3 rfl rfl rfl rfl rfl rfl rfl ⟨rfl, rfl, rfl, rfl, rfl⟩ rfl rfl rfl rfl rfl regretContinues_named Tryz.func3 regretContinues_joined
    regretContinues_inst regretContinues_wrap
    (fun os started H enc _ => regretContinues_lifted os started H enc)
theorem regretContinues_c1 : Rows.regretContinuesRow.wfByText (OpenSpec.ofChange Rows.regretContinuesSpec) = true := by kernel_rfl
theorem regretContinues_c2 : ([23, 3, 3].all fun u => !Tryz.prog.wantsStandIn u) = true := by kernel_rfl
theorem regretContinues_c3 : false = Rows.regretContinuesRow.goesBy Tryz.prog := by kernel_rfl
theorem regretContinues_card : Rows.RegretContinuesCardSaid :=
  Claim7.holds_tied_plain_at .later [] [.data, .data, .data, .data, .sentinel, .sentinel, .pinned] true (true, "01fbb469cf8b0980b89ab124d6c951f307d4b37b82991b3a2bba3582623a25d4") true
    regretContinues_holds (fun _ h => by cases h) regretContinues_c1 (fun _ h => by cases h) regretContinues_row_tie rfl ⟨rfl, rfl⟩ harnessIt rfl
    (fun f fn hf hfn => by
      obtain rfl : f = 3 := Option.some.inj (regretContinues_named.symm.trans hf) |>.symm
      obtain rfl : fn = Tryz.f3 := (Option.some.inj (Tryz.func3.symm.trans hfn)).symm
      exact ⟨looksIt, fun j t ht => by
        rw [Tryz.params3] at ht
        have hm : t ∈ [23, 3, 3] := by simpa using Array.mem_of_getElem? ht
        exact (show Tryz.prog.wantsStandIn t = false by simpa using List.all_eq_true.1 regretContinues_c2 t hm)⟩)
    regretContinues_c3
end Go.Proofs.YtgmleamhjnlknaaGreatDoor

