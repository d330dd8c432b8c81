/- DealEach of the given program returns true for every input and leaves its arguments as they were; no conditions. -/
import Derived.Test.YtmfhdfofmdggaaaDoorRows
import Derived.Test.YtmfhdfofmdggaaaDoorTie
import Derived.Test.YtmfhdfofmdggaaaDoorCards
import Derived.LaidMore
import Derived.Lay
import Derived.SevenTiedAt
import Derived.Stop.Joined
import Derived.Test.YtmfhdfofmdggaaaDoorG3
set_option linter.unusedVariables false
set_option linter.unusedSimpArgs false
namespace Go.Proofs.YtmfhdfofmdggaaaDoor
open Go.Ax Go.ChangeShapes Go.WideShapes Go.ChangeAt Go.RowKit

theorem ownIt : ownKnob Tryd.prog.godebug = none := by kernel_rfl
theorem laidIt : laidOutB Tryd.prog = true := by kernel_rfl
theorem rowedIt : mapsRowed Tryd.prog = true := by kernel_rfl
theorem fullIt : ((List.range Tryd.prog.types.size).all fun t => match Tryd.prog.underlying t with | some (.slice e) => decide (0 < Tryd.prog.cellsOf e) | _ => true) = true := by kernel_rfl

set_option maxRecDepth 100000 in
theorem dealEach_lifted (os : Os) (started : os.Started) (H : Type) (enc : TypeId × Value → H) :
    ReturnsInHanded {} Tryd.checked os 8 .any (fun w args => (Rows.dealEachSpec.pre enc Tryd.prog Tryd.f8 Rows.dealEachRow.domain false w args ∧ laidMetH Tryd.prog Rows.dealEachRow.laid w) ∧ sizedMet enc Tryd.prog Tryd.f8 (OpenSpec.ofChange Rows.dealEachSpec) false w args)
      (Rows.dealEachSpec.post enc Tryd.prog Tryd.f8 false true false false) := by
  refine returnsInHanded_of_change_and (C := Tryd.checked) (X := fun w _ => laidMetH Tryd.prog Rows.dealEachRow.laid w) (fun _ _ _ hh h => h.of_heap hh) ownIt started (by kernel_rfl) Tryd.func8
    (ChangeSpec.witness_shaped (enc := enc) (C := Tryd.checked) (os := os) (X := fun w _ => laidMetH Tryd.prog Rows.dealEachRow.laid w) false (World.laidAll Tryd.prog os Rows.dealEachRow.laid) #[.int .i64 0, .slice none 0 0] 8 (World.laidAll_os _ _ _)
      (World.shaped_of_ZipB (by kernel_rfl) (by kernel_rfl)) (by kernel_rfl) (by kernel_rfl) (by kernel_rfl)
      (by rw [MakeChecks.laidMetH_plain _ _ _ (by kernel_rfl)]; exact laidMet_laidAll _ (by kernel_rfl) (by kernel_rfl))) ?_
  intro W base args ds gs before hval0 hW hcnd _ hL _
  have hval : ∀ (j : Nat) t v, Tryd.f8.params[j]? = some t → args[j]? = some v → Value.okWide Tryd.prog W .any base t v := hval0
  have hW' := hW
  obtain ⟨p, q, hA0, hV, rfl, hfz, hnd⟩ := hW
  have hA : DataW.TrodAll enc Tryd.prog W 0 (fun _ => true) true Tryd.f8.params.toList args.toList ds p := hA0
  rw [Tryd.params8] at hA hval
  obtain ⟨v0, vs0, d0, ds0, p0, q0, hargs, rfl, rfl, h0, r0⟩ := trodAll_cons hA
  obtain ⟨v1, vs1, d1, ds1, p1, q1, rfl, rfl, rfl, h1, r1⟩ := trodAll_cons r0
  obtain ⟨rfl, rfl, rfl⟩ := trodAll_nil r1
  obtain rfl : args = #[v0, v1] := by cases args; simp_all
  obtain ⟨rfl, rfl⟩ := trodVars_none hV
  obtain ⟨n0, rfl, rfl, rfl, hw0⟩ := open_int Tryd.underlying3 (hval 0 3 v0 rfl rfl) h0
  have hl0 : VR W (fun b => b < W.heap.size) (fun _ => none) (.int .i64 n0) (.int .i64 n0) := .int _ _ _
  obtain ⟨l1, hl1, _, hm1⟩ := vr_ints Tryd.underlying22 Tryd.underlying3 (by kernel_rfl) (okWide_slice Tryd.underlying22 (hval 1 22 v1 rfl rfl)) h1
  unfold maxLen at hm1
  refine (law_calls (dealEach n0 l1 hm1) rfl (fun i hi => ?_)).mono fun e W' ⟨he, ho, hp, hk⟩ => ⟨_, he, ?_⟩
  · match i, hi with
    | 0, _ => exact hl0
    | 1, _ => exact hl1
  · exact post_true (t := 4) hW' rfl rfl rfl Tryd.underlying4 laidIt rowedIt fullIt (by kernel_rfl) ho hp hk

theorem dealEach_holds : Rows.DealEachSaid :=
  OpenClaim.holds_of_wide 8 Tryd.f8 rfl rfl rfl rfl rfl rfl rfl ⟨rfl, rfl, rfl, rfl, rfl⟩ rfl rfl rfl rfl rfl (by kernel_rfl) Tryd.func8 (by kernel_rfl)
    (of_decide_eq_true (by kernel_rfl)) (by unfold Func.isWrapper; first | (rw [if_pos (by decide +kernel)]; kernel_rfl) | (rw [if_neg (by decide +kernel)]; exact ⟨rfl, rfl⟩))
    (fun os started H enc _ => dealEach_lifted os started H enc)
theorem dealEach_card : Rows.DealEachCardSaid :=
  Claim7.holds_tied_plain_at .later [] [.data, .pinned] true (true, "3ed8e63f4df339e59d018c20b864f861c4bfdbf8c95c24fd7edb7be583d528a8") false
    dealEach_holds (fun _ h => by cases h) (by kernel_rfl) (fun _ h => by cases h) dealEach_row_tie rfl ⟨rfl, rfl⟩ (by kernel_rfl) rfl
    (fun f fn hf hfn => by
      obtain rfl : f = 8 := Option.some.inj ((show Tryd.prog.funcNamed "gamehall/gamehallkeep2.DealEach" = some 8 by kernel_rfl).symm.trans hf) |>.symm
      obtain rfl : fn = Tryd.f8 := (Option.some.inj (Tryd.func8.symm.trans hfn)).symm
      exact ⟨by kernel_rfl, fun j t ht => by
        rw [Tryd.params8] at ht
        have hm : t ∈ [3, 22] := by simpa using Array.mem_of_getElem? ht
        have hall : ([3, 22].all fun u => !Tryd.prog.wantsStandIn u) = true := by kernel_rfl
        exact (show Tryd.prog.wantsStandIn t = false by simpa using List.all_eq_true.1 hall t hm)⟩)
    (by kernel_rfl)
end Go.Proofs.YtmfhdfofmdggaaaDoor

