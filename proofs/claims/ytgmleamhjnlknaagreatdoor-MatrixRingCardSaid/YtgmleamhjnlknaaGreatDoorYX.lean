/- MatrixRing of the given program returns true for every input and leaves its arguments as they were; no conditions. -/
import Derived.Test.YtgmleamhjnlknaaGreatDoorRows
import Derived.Test.YtgmleamhjnlknaaGreatDoorTie
import Derived.Test.YtgmleamhjnlknaaGreatDoorCards
import Derived.LaidMore
import Derived.Lay
import Derived.SevenTiedAt
import Derived.Stop.Joined
import Derived.Stop.ErrReads
import Derived.MakeChecks
import Derived.Test.YtgmleamhjnlknaaGreatDoorY5
set_option linter.unusedVariables false
set_option linter.unusedSimpArgs false
namespace Go.Proofs.YtgmleamhjnlknaaGreatDoor
open Go.Ax Go.ChangeShapes Go.WideShapes Go.ChangeAt Go.RowKit

theorem matrixRing_pin {W : World} (h0 : laidMetH Tryz.prog Rows.matrixRingRow.laid W) : pinG W := by
  rw [MakeChecks.laidMetH_plain _ _ _ (by kernel_rfl)] at h0
  have h := h0
  exact ⟨trivial, Lib.tabIs_of_head (k := .u64) (zs := Lib.pow10Tab) (g := 5) (t := 304) (e := 145) (n := 20) (by kernel_rfl) (by kernel_rfl) Tryz.underlying304 Tryz.underlying145 (by kernel_rfl) (by kernel_rfl) (h.tail.tail), trivial⟩

set_option maxRecDepth 100000 in
theorem matrixRing_lifted (os : Os) (started : os.Started) (H : Type) (enc : TypeId × Value → H) :
    ReturnsInHanded {} Tryz.checked os 6 .any (fun w args => (Rows.matrixRingSpec.pre enc Tryz.prog Tryz.f6 Rows.matrixRingRow.domain false w args ∧ laidMetH Tryz.prog Rows.matrixRingRow.laid w) ∧ sizedMet enc Tryz.prog Tryz.f6 (OpenSpec.ofChange Rows.matrixRingSpec) false w args)
      (Rows.matrixRingSpec.post enc Tryz.prog Tryz.f6 false true false false) := by
  refine returnsInHanded_of_change_and (C := Tryz.checked) (X := fun w _ => laidMetH Tryz.prog Rows.matrixRingRow.laid w) (fun _ _ _ hh h => h.of_heap hh) ownIt started (by kernel_rfl) Tryz.func6
    (ChangeSpec.witness_shaped (enc := enc) (C := Tryz.checked) (os := os) (X := fun w _ => laidMetH Tryz.prog Rows.matrixRingRow.laid w) false (World.laidAll Tryz.prog os Rows.matrixRingRow.laid) #[.slice none 0 0, .slice none 0 0, .slice none 0 0, .slice none 0 0] 8 (World.laidAll_os _ _ _)
      (World.shaped_of_ZipB (by kernel_rfl) (by kernel_rfl)) (by kernel_rfl) (by kernel_rfl) (by kernel_rfl)
      (by rw [MakeChecks.laidMetH_plain _ _ _ (by kernel_rfl)]; exact laidMet_laidAll _ (by kernel_rfl) (by kernel_rfl))) ?_
  intro W base args ds gs before hval0 hW hcnd _ hL _
  have hval : ∀ (j : Nat) t v, Tryz.f6.params[j]? = some t → args[j]? = some v → Value.okWide Tryz.prog W .any base t v := hval0
  have hW' := hW
  obtain ⟨p, q, hA0, hV, rfl, hfz, hnd⟩ := hW
  have hA : DataW.TrodAll enc Tryz.prog W 0 (fun _ => true) true Tryz.f6.params.toList args.toList ds p := hA0
  rw [Tryz.params6] at hA hval
  obtain ⟨v0, vs0, d0, ds0, p0, q0, hargs, rfl, rfl, h0, r0⟩ := trodAll_cons hA
  obtain ⟨v1, vs1, d1, ds1, p1, q1, rfl, rfl, rfl, h1, r1⟩ := trodAll_cons r0
  obtain ⟨v2, vs2, d2, ds2, p2, q2, rfl, rfl, rfl, h2, r2⟩ := trodAll_cons r1
  obtain ⟨v3, vs3, d3, ds3, p3, q3, rfl, rfl, rfl, h3, r3⟩ := trodAll_cons r2
  obtain ⟨rfl, rfl, rfl⟩ := trodAll_nil r3
  obtain rfl : args = #[v0, v1, v2, v3] := by cases args; simp_all
  obtain ⟨rfl, rfl⟩ := trodVars_none hV
  obtain ⟨ad0, sn0, sc0, rfl⟩ := okWide_slice Tryz.underlying23 (hval 0 23 v0 rfl rfl)
  obtain ⟨l0, ⟨hm0, hx0⟩, hl0⟩ := Rd.one (Rd.slice [] Tryz.underlying23 (by kernel_rfl) rfl (Rd.strs Tryz.underlying36 (by kernel_rfl) Tryz.underlying40)) rfl h0
  obtain ⟨ad1, sn1, sc1, rfl⟩ := okWide_slice Tryz.underlying23 (hval 1 23 v1 rfl rfl)
  obtain ⟨l1, ⟨hm1, hx1⟩, hl1⟩ := Rd.one (Rd.slice [] Tryz.underlying23 (by kernel_rfl) rfl (Rd.strs Tryz.underlying36 (by kernel_rfl) Tryz.underlying40)) rfl h1
  obtain ⟨ad2, sn2, sc2, rfl⟩ := okWide_slice Tryz.underlying23 (hval 2 23 v2 rfl rfl)
  obtain ⟨l2, ⟨hm2, hx2⟩, hl2⟩ := Rd.one (Rd.slice [] Tryz.underlying23 (by kernel_rfl) rfl (Rd.strs Tryz.underlying36 (by kernel_rfl) Tryz.underlying40)) rfl h2
  obtain ⟨ad3, sn3, sc3, rfl⟩ := okWide_slice Tryz.underlying36 (hval 3 36 v3 rfl rfl)
  obtain ⟨l3, ⟨hm3, hx3⟩, hl3⟩ := Rd.one (Rd.strs Tryz.underlying36 (by kernel_rfl) Tryz.underlying40) rfl h3
  refine (law_calls (MatrixRing_law l0 l1 l2 l3 hm0 hx0 hm1 hx1 hm2 hx2 hm3 hx3) rfl (fun i hi => ?_) (pin_up (matrixRing_pin hL))).mono fun e W' ⟨he, ho, hp, hk⟩ => ⟨_, he, ?_⟩
  · match i, hi with
    | 0, _ => exact hl0
    | 1, _ => exact hl1
    | 2, _ => exact hl2
    | 3, _ => exact hl3
  · exact post_true (t := 4) hW' rfl rfl rfl Tryz.underlying4 laidIt rowedIt fullIt (by kernel_rfl) ho hp hk

theorem matrixRing_j1 : Rows.matrixRingRow.wf (OpenSpec.ofChange Rows.matrixRingSpec) = true := by kernel_rfl
theorem matrixRing_j2 : (Rows.matrixRingRow.inPlace == Tryz.prog.inPlace 6) = true := by kernel_rfl
theorem matrixRing_j3 : (Rows.matrixRingRow.unfollowed == Tryz.prog.unfollowed 6) = true := by kernel_rfl
theorem matrixRing_j4 : (Rows.matrixRingRow.recurses == Tryz.prog.recurses 6) = true := by kernel_rfl
theorem matrixRing_j5 : (Rows.matrixRingRow.named == Tryz.prog.varsNamed 6) = true := by kernel_rfl
theorem matrixRing_j6 : (Rows.matrixRingRow.lifted == Tryz.prog.liftsFinal) = true := liftIt
theorem matrixRing_j7 : (Tryz.prog.make == some Rows.matrixRingRow.make) = true := makeIt
theorem matrixRing_j8 : (Rows.matrixRingRow.plainKeys == Tryz.prog.plainKeys) = true := plainIt
theorem matrixRing_joined : joinedFacts Tryz.prog 6 Tryz.f6 Rows.matrixRingSpec Rows.matrixRingRow = true := by
  unfold joinedFacts
  rw [matrixRing_j1, laidIt, rowedIt, stopsIt, knobsIt, matrixRing_j2, matrixRing_j3, matrixRing_j4, matrixRing_j5, matrixRing_j8, heardIt, enterIt, matrixRing_j6, matrixRing_j7]
  kernel_rfl
theorem matrixRing_named : Tryz.prog.funcNamed Rows.matrixRingRow.func = some 6 := by kernel_rfl
theorem matrixRing_inst : Tryz.f6.isInstance Tryz.prog Rows.matrixRingRow.origin Rows.matrixRingRow.targs := of_decide_eq_true (by kernel_rfl)
theorem matrixRing_wrap : Tryz.f6.isWrapper Tryz.prog Rows.matrixRingRow.wrapper Rows.matrixRingRow.mainSum := by unfold Func.isWrapper; first | (rw [if_pos (by decide +kernel)]; kernel_rfl) | (rw [if_neg (by decide +kernel)]; exact ⟨rfl, rfl⟩)
theorem matrixRing_holds : Rows.MatrixRingSaid :=
  OpenClaim.holds_of_wide 6 Tryz.f6 rfl rfl rfl rfl rfl rfl rfl ⟨rfl, rfl, rfl, rfl, rfl⟩ rfl rfl rfl rfl rfl matrixRing_named Tryz.func6 matrixRing_joined
    matrixRing_inst matrixRing_wrap
    (fun os started H enc _ => matrixRing_lifted os started H enc)
theorem matrixRing_c1 : Rows.matrixRingRow.wfByText (OpenSpec.ofChange Rows.matrixRingSpec) = true := by kernel_rfl
theorem matrixRing_c2 : ([23, 23, 23, 36].all fun u => !Tryz.prog.wantsStandIn u) = true := by kernel_rfl
theorem matrixRing_c3 : false = Rows.matrixRingRow.goesBy Tryz.prog := by kernel_rfl
theorem matrixRing_card : Rows.MatrixRingCardSaid :=
  Claim7.holds_tied_plain_at .later [] [.data, .data, .data, .data, .sentinel, .sentinel, .pinned] true (true, "01fbb469cf8b0980b89ab124d6c951f307d4b37b82991b3a2bba3582623a25d4") true
    matrixRing_holds (fun _ h => by cases h) matrixRing_c1 (fun _ h => by cases h) matrixRing_row_tie rfl ⟨rfl, rfl⟩ harnessIt rfl
    (fun f fn hf hfn => by
      obtain rfl : f = 6 := Option.some.inj (matrixRing_named.symm.trans hf) |>.symm
      obtain rfl : fn = Tryz.f6 := (Option.some.inj (Tryz.func6.symm.trans hfn)).symm
      exact ⟨looksIt, fun j t ht => by
        rw [Tryz.params6] at ht
        have hm : t ∈ [23, 23, 23, 36] := by simpa using Array.mem_of_getElem? ht
        exact (show Tryz.prog.wantsStandIn t = false by simpa using List.all_eq_true.1 matrixRing_c2 t hm)⟩)
    matrixRing_c3
end Go.Proofs.YtgmleamhjnlknaaGreatDoor

