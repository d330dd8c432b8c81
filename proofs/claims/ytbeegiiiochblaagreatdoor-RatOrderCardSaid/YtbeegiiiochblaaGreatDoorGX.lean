/- RatOrder of the given program returns true for every input and leaves its arguments as they were; no conditions. -/
import Derived.Test.YtbeegiiiochblaaGreatDoorRows
import Derived.Test.YtbeegiiiochblaaGreatDoorTie
import Derived.Test.YtbeegiiiochblaaGreatDoorCards
import Derived.LaidMore
import Derived.Lay
import Derived.SevenTiedAt
import Derived.Stop.Joined
import Derived.Stop.ErrReads
import Derived.MakeChecks
import Derived.Test.YtbeegiiiochblaaGreatDoorG5
set_option linter.unusedVariables false
set_option linter.unusedSimpArgs false
namespace Go.Proofs.YtbeegiiiochblaaGreatDoor
open Go.Ax Go.ChangeShapes Go.WideShapes Go.ChangeAt Go.RowKit

theorem ownIt : ownKnob Tryz.prog.godebug = none := by kernel_rfl
theorem laidIt : laidOutB Tryz.prog = true := by kernel_rfl
theorem rowedIt : mapsRowed Tryz.prog = true := by kernel_rfl
theorem fullIt : ((List.range Tryz.prog.types.size).all fun t => match Tryz.prog.underlying t with | some (.slice e) => decide (0 < Tryz.prog.cellsOf e) | _ => true) = true := by kernel_rfl
theorem ratOrder_pin {W : World} (h0 : laidMetH Tryz.prog Rows.ratOrderRow.laid W) : pinG W := by
  rw [MakeChecks.laidMetH_plain _ _ _ (by kernel_rfl)] at h0
  have h := h0
  exact ⟨trivial, Lib.tabIs_of_head (k := .u64) (zs := Lib.pow10Tab) (g := 5) (t := 180) (e := 94) (n := 20) (by kernel_rfl) (by kernel_rfl) Tryz.underlying180 Tryz.underlying94 (by kernel_rfl) (by kernel_rfl) (h.tail.tail), trivial⟩

set_option maxRecDepth 100000 in
theorem ratOrder_lifted (os : Os) (started : os.Started) (H : Type) (enc : TypeId × Value → H) :
    ReturnsInHanded {} Tryz.checked os 8 .any (fun w args => (Rows.ratOrderSpec.pre enc Tryz.prog Tryz.f8 Rows.ratOrderRow.domain false w args ∧ laidMetH Tryz.prog Rows.ratOrderRow.laid w) ∧ sizedMet enc Tryz.prog Tryz.f8 (OpenSpec.ofChange Rows.ratOrderSpec) false w args)
      (Rows.ratOrderSpec.post enc Tryz.prog Tryz.f8 false true false false) := by
  refine returnsInHanded_of_change_and (C := Tryz.checked) (X := fun w _ => laidMetH Tryz.prog Rows.ratOrderRow.laid w) (fun _ _ _ hh h => h.of_heap hh) ownIt started (by kernel_rfl) Tryz.func8
    (ChangeSpec.witness_shaped (enc := enc) (C := Tryz.checked) (os := os) (X := fun w _ => laidMetH Tryz.prog Rows.ratOrderRow.laid w) false (World.laidAll Tryz.prog os Rows.ratOrderRow.laid) #[.string ⟨#[]⟩, .string ⟨#[]⟩, .string ⟨#[]⟩] 8 (World.laidAll_os _ _ _)
      (World.shaped_of_ZipB (by kernel_rfl) (by kernel_rfl)) (by kernel_rfl) (by kernel_rfl) (by kernel_rfl)
      (by rw [MakeChecks.laidMetH_plain _ _ _ (by kernel_rfl)]; exact laidMet_laidAll _ (by kernel_rfl) (by kernel_rfl))) ?_
  intro W base args ds gs before hval0 hW hcnd _ hL _
  have hval : ∀ (j : Nat) t v, Tryz.f8.params[j]? = some t → args[j]? = some v → Value.okWide Tryz.prog W .any base t v := hval0
  have hW' := hW
  obtain ⟨p, q, hA0, hV, rfl, hfz, hnd⟩ := hW
  have hA : DataW.TrodAll enc Tryz.prog W 0 (fun _ => true) true Tryz.f8.params.toList args.toList ds p := hA0
  rw [Tryz.params8] at hA hval
  obtain ⟨v0, vs0, d0, ds0, p0, q0, hargs, rfl, rfl, h0, r0⟩ := trodAll_cons hA
  obtain ⟨v1, vs1, d1, ds1, p1, q1, rfl, rfl, rfl, h1, r1⟩ := trodAll_cons r0
  obtain ⟨v2, vs2, d2, ds2, p2, q2, rfl, rfl, rfl, h2, r2⟩ := trodAll_cons r1
  obtain ⟨rfl, rfl, rfl⟩ := trodAll_nil r2
  obtain rfl : args = #[v0, v1, v2] := by cases args; simp_all
  obtain ⟨rfl, rfl⟩ := trodVars_none hV
  obtain ⟨s0, rfl, rfl, rfl, hw0⟩ := Go.ChangeMaps.open_string Tryz.underlying38 (hval 0 38 v0 rfl rfl) h0
  have hl0 : VR W (fun b => b < W.heap.size) (fun _ => none) (.str s0.data.toList) (.string s0) := VR.str _ s0.data.toList
  have hm0 : s0.data.toList.length ≤ 9223372036854775807 := by unfold maxLen at hw0; simpa using hw0
  obtain ⟨s1, rfl, rfl, rfl, hw1⟩ := Go.ChangeMaps.open_string Tryz.underlying38 (hval 1 38 v1 rfl rfl) h1
  have hl1 : VR W (fun b => b < W.heap.size) (fun _ => none) (.str s1.data.toList) (.string s1) := VR.str _ s1.data.toList
  have hm1 : s1.data.toList.length ≤ 9223372036854775807 := by unfold maxLen at hw1; simpa using hw1
  obtain ⟨s2, rfl, rfl, rfl, hw2⟩ := Go.ChangeMaps.open_string Tryz.underlying38 (hval 2 38 v2 rfl rfl) h2
  have hl2 : VR W (fun b => b < W.heap.size) (fun _ => none) (.str s2.data.toList) (.string s2) := VR.str _ s2.data.toList
  have hm2 : s2.data.toList.length ≤ 9223372036854775807 := by unfold maxLen at hw2; simpa using hw2
  refine (law_calls (RatOrder_law s0.data.toList s1.data.toList s2.data.toList hm0 hm1 hm2) rfl (fun i hi => ?_) (pin_up (ratOrder_pin hL))).mono fun e W' ⟨he, ho, hp, hk⟩ => ⟨_, he, ?_⟩
  · match i, hi with
    | 0, _ => exact hl0
    | 1, _ => exact hl1
    | 2, _ => exact hl2
  · exact post_true (t := 4) hW' rfl rfl rfl Tryz.underlying4 laidIt rowedIt fullIt (by kernel_rfl) ho hp hk

theorem ratOrder_holds : Rows.RatOrderSaid :=
  OpenClaim.holds_of_wide 8 Tryz.f8 rfl rfl rfl rfl rfl rfl rfl ⟨rfl, rfl, rfl, rfl, rfl⟩ rfl rfl rfl rfl rfl (by kernel_rfl) Tryz.func8 (by kernel_rfl)
    (of_decide_eq_true (by kernel_rfl)) (by unfold Func.isWrapper; first | (rw [if_pos (by decide +kernel)]; kernel_rfl) | (rw [if_neg (by decide +kernel)]; exact ⟨rfl, rfl⟩))
    (fun os started H enc _ => ratOrder_lifted os started H enc)
theorem ratOrder_card : Rows.RatOrderCardSaid :=
  Claim7.holds_tied_plain_at .later [] [.data, .data, .data, .data, .sentinel, .sentinel, .pinned] true (true, "4eea6098d88c722099cca881e29dd347c8f2c126615b788fe8573f6d166807d2") true
    ratOrder_holds (fun _ h => by cases h) (by kernel_rfl) (fun _ h => by cases h) ratOrder_row_tie rfl ⟨rfl, rfl⟩ (by kernel_rfl) rfl
    (fun f fn hf hfn => by
      obtain rfl : f = 8 := Option.some.inj ((show Tryz.prog.funcNamed "gamehall/gamehallkeep2.RatOrder" = some 8 by kernel_rfl).symm.trans hf) |>.symm
      obtain rfl : fn = Tryz.f8 := (Option.some.inj (Tryz.func8.symm.trans hfn)).symm
      exact ⟨by kernel_rfl, fun j t ht => by
        rw [Tryz.params8] at ht
        have hm : t ∈ [38, 38, 38] := by simpa using Array.mem_of_getElem? ht
        have hall : ([38, 38, 38].all fun u => !Tryz.prog.wantsStandIn u) = true := by kernel_rfl
        exact (show Tryz.prog.wantsStandIn t = false by simpa using List.all_eq_true.1 hall t hm)⟩)
    (by kernel_rfl)
end Go.Proofs.YtbeegiiiochblaaGreatDoor

