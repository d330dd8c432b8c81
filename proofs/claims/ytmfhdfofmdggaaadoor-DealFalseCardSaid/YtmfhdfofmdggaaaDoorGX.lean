/- DealFalse of the given program returns true for every input and leaves its arguments as they were; no conditions. -/
import Derived.Test.YtmfhdfofmdggaaaDoorRows
import Derived.Test.YtmfhdfofmdggaaaDoorTie
import Derived.Test.YtmfhdfofmdggaaaDoorCards
import Derived.LaidMore
import Derived.Lay
import Derived.SevenTiedAt
import Derived.Stop.Joined
import Derived.Test.YtmfhdfofmdggaaaDoorG3
set_option linter.unusedVariables false
set_option linter.unusedSimpArgs false
namespace Go.Proofs.YtmfhdfofmdggaaaDoor
open Go.Ax Go.ChangeShapes Go.WideShapes Go.ChangeAt Go.RowKit

theorem ownIt : ownKnob Tryd.prog.godebug = none := by kernel_rfl
theorem laidIt : laidOutB Tryd.prog = true := by kernel_rfl
theorem rowedIt : mapsRowed Tryd.prog = true := by kernel_rfl
theorem fullIt : ((List.range Tryd.prog.types.size).all fun t => match Tryd.prog.underlying t with | some (.slice e) => decide (0 < Tryd.prog.cellsOf e) | _ => true) = true := by kernel_rfl

set_option maxRecDepth 100000 in
theorem dealFalse_lifted (os : Os) (started : os.Started) (H : Type) (enc : TypeId × Value → H) :
    ReturnsInHanded {} Tryd.checked os 9 .any (fun w args => (Rows.dealFalseSpec.pre enc Tryd.prog Tryd.f9 Rows.dealFalseRow.domain false w args ∧ laidMetH Tryd.prog Rows.dealFalseRow.laid w) ∧ sizedMet enc Tryd.prog Tryd.f9 (OpenSpec.ofChange Rows.dealFalseSpec) false w args)
      (Rows.dealFalseSpec.post enc Tryd.prog Tryd.f9 false true false false) := by
  refine returnsInHanded_of_change_and (C := Tryd.checked) (X := fun w _ => laidMetH Tryd.prog Rows.dealFalseRow.laid w) (fun _ _ _ hh h => h.of_heap hh) ownIt started (by kernel_rfl) Tryd.func9
    (ChangeSpec.witness_shaped (enc := enc) (C := Tryd.checked) (os := os) (X := fun w _ => laidMetH Tryd.prog Rows.dealFalseRow.laid w) false (World.laidAll Tryd.prog os Rows.dealFalseRow.laid) #[.int .i64 0, .slice none 0 0, .int .i64 0, .int .i64 0] 8 (World.laidAll_os _ _ _)
      (World.shaped_of_ZipB (by kernel_rfl) (by kernel_rfl)) (by kernel_rfl) (by kernel_rfl) (by kernel_rfl)
      (by rw [MakeChecks.laidMetH_plain _ _ _ (by kernel_rfl)]; exact laidMet_laidAll _ (by kernel_rfl) (by kernel_rfl))) ?_
  intro W base args ds gs before hval0 hW hcnd _ hL _
  have hval : ∀ (j : Nat) t v, Tryd.f9.params[j]? = some t → args[j]? = some v → Value.okWide Tryd.prog W .any base t v := hval0
  have hW' := hW
  obtain ⟨p, q, hA0, hV, rfl, hfz, hnd⟩ := hW
  have hA : DataW.TrodAll enc Tryd.prog W 0 (fun _ => true) true Tryd.f9.params.toList args.toList ds p := hA0
  rw [Tryd.params9] at hA hval
  obtain ⟨v0, vs0, d0, ds0, p0, q0, hargs, rfl, rfl, h0, r0⟩ := trodAll_cons hA
  obtain ⟨v1, vs1, d1, ds1, p1, q1, rfl, rfl, rfl, h1, r1⟩ := trodAll_cons r0
  obtain ⟨v2, vs2, d2, ds2, p2, q2, rfl, rfl, rfl, h2, r2⟩ := trodAll_cons r1
  obtain ⟨v3, vs3, d3, ds3, p3, q3, rfl, rfl, rfl, h3, r3⟩ := trodAll_cons r2
  obtain ⟨rfl, rfl, rfl⟩ := trodAll_nil r3
  obtain rfl : args = #[v0, v1, v2, v3] := by cases args; simp_all
  obtain ⟨rfl, rfl⟩ := trodVars_none hV
  obtain ⟨n0, rfl, rfl, rfl, hw0⟩ := open_int Tryd.underlying3 (hval 0 3 v0 rfl rfl) h0
  have hl0 : VR W (fun b => b < W.heap.size) (fun _ => none) (.int .i64 n0) (.int .i64 n0) := .int _ _ _
  obtain ⟨ad1, sn1, sc1, rfl⟩ := okWide_slice Tryd.underlying31 (hval 1 31 v1 rfl rfl)
  obtain ⟨l1, ⟨hm1, hx1⟩, hl1⟩ := Rd.one (Rd.intss Tryd.underlying31 (by kernel_rfl) Tryd.underlying22 (by kernel_rfl) Tryd.underlying3) rfl h1
  obtain ⟨n2, rfl, rfl, rfl, hw2⟩ := open_int Tryd.underlying3 (hval 2 3 v2 rfl rfl) h2
  have hl2 : VR W (fun b => b < W.heap.size) (fun _ => none) (.int .i64 n2) (.int .i64 n2) := .int _ _ _
  obtain ⟨n3, rfl, rfl, rfl, hw3⟩ := open_int Tryd.underlying3 (hval 3 3 v3 rfl rfl) h3
  have hl3 : VR W (fun b => b < W.heap.size) (fun _ => none) (.int .i64 n3) (.int .i64 n3) := .int _ _ _
  refine (law_calls (dealFalse n0 l1 n2 n3 hm1 (fun s hs => (hx1 s hs).1)) rfl (fun i hi => ?_)).mono fun e W' ⟨he, ho, hp, hk⟩ => ⟨_, he, ?_⟩
  · match i, hi with
    | 0, _ => exact hl0
    | 1, _ => exact hl1
    | 2, _ => exact hl2
    | 3, _ => exact hl3
  · exact post_true (t := 4) hW' rfl rfl rfl Tryd.underlying4 laidIt rowedIt fullIt (by kernel_rfl) ho hp hk

theorem dealFalse_holds : Rows.DealFalseSaid :=
  OpenClaim.holds_of_wide 9 Tryd.f9 rfl rfl rfl rfl rfl rfl rfl ⟨rfl, rfl, rfl, rfl, rfl⟩ rfl rfl rfl rfl rfl (by kernel_rfl) Tryd.func9 (by kernel_rfl)
    (of_decide_eq_true (by kernel_rfl)) (by unfold Func.isWrapper; first | (rw [if_pos (by decide +kernel)]; kernel_rfl) | (rw [if_neg (by decide +kernel)]; exact ⟨rfl, rfl⟩))
    (fun os started H enc _ => dealFalse_lifted os started H enc)
theorem dealFalse_card : Rows.DealFalseCardSaid :=
  Claim7.holds_tied_plain_at .later [] [.data, .pinned] true (true, "3ed8e63f4df339e59d018c20b864f861c4bfdbf8c95c24fd7edb7be583d528a8") false
    dealFalse_holds (fun _ h => by cases h) (by kernel_rfl) (fun _ h => by cases h) dealFalse_row_tie rfl ⟨rfl, rfl⟩ (by kernel_rfl) rfl
    (fun f fn hf hfn => by
      obtain rfl : f = 9 := Option.some.inj ((show Tryd.prog.funcNamed "gamehall/gamehallkeep2.DealFalse" = some 9 by kernel_rfl).symm.trans hf) |>.symm
      obtain rfl : fn = Tryd.f9 := (Option.some.inj (Tryd.func9.symm.trans hfn)).symm
      exact ⟨by kernel_rfl, fun j t ht => by
        rw [Tryd.params9] at ht
        have hm : t ∈ [3, 31, 3, 3] := by simpa using Array.mem_of_getElem? ht
        have hall : ([3, 31, 3, 3].all fun u => !Tryd.prog.wantsStandIn u) = true := by kernel_rfl
        exact (show Tryd.prog.wantsStandIn t = false by simpa using List.all_eq_true.1 hall t hm)⟩)
    (by kernel_rfl)
end Go.Proofs.YtmfhdfofmdggaaaDoor

