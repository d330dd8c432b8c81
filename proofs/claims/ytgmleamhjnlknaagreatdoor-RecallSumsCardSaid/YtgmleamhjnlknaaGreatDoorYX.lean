/- RecallSums of the given program returns true for every input and leaves its arguments as they were; no conditions. -/
import Derived.Test.YtgmleamhjnlknaaGreatDoorRows
import Derived.Test.YtgmleamhjnlknaaGreatDoorTie
import Derived.Test.YtgmleamhjnlknaaGreatDoorCards
import Derived.LaidMore
import Derived.Lay
import Derived.SevenTiedAt
import Derived.Stop.Joined
import Derived.Stop.ErrReads
import Derived.MakeChecks
import Derived.Test.YtgmleamhjnlknaaGreatDoorY5
set_option linter.unusedVariables false
set_option linter.unusedSimpArgs false
namespace Go.Proofs.YtgmleamhjnlknaaGreatDoor
open Go.Ax Go.ChangeShapes Go.WideShapes Go.ChangeAt Go.RowKit
theorem recallSums_pin {W : World} (h0 : laidMetH Tryz.prog Rows.recallSumsRow.laid W) : pinG W := by
 rw [MakeChecks.laidMetH_plain _ _ _ (by kernel_rfl)] at h0
 have h := h0
 exact ⟨trivial, Lib.tabIs_of_head (k := .u64) (zs := Lib.pow10Tab) (g := 5) (t := 304) (e := 145) (n := 20) (by kernel_rfl) (by kernel_rfl) Tryz.underlying304 Tryz.underlying145 (by kernel_rfl) (by kernel_rfl) (h.tail.tail), trivial⟩
set_option maxRecDepth 100000 in
theorem recallSums_lifted (os : Os) (started : os.Started) (H : Type) (enc : TypeId × Value → H) :
   ReturnsInHanded {} Tryz.checked os 11 .any (fun w args => (Rows.recallSumsSpec.pre enc Tryz.prog Tryz.f11 Rows.recallSumsRow.domain false w args ∧ laidMetH Tryz.prog Rows.recallSumsRow.laid w) ∧ sizedMet enc Tryz.prog Tryz.f11 (OpenSpec.ofChange Rows.recallSumsSpec) false w args)
     (Rows.recallSumsSpec.post enc Tryz.prog Tryz.f11 false true false false) := by
 refine returnsInHanded_of_change_and (C := Tryz.checked) (X := fun w _ => laidMetH Tryz.prog Rows.recallSumsRow.laid w) (fun _ _ _ hh h => h.of_heap hh) ownIt started (by kernel_rfl) Tryz.func11
   (ChangeSpec.witness_shaped (enc := enc) (C := Tryz.checked) (os := os) (X := fun w _ => laidMetH Tryz.prog Rows.recallSumsRow.laid w) false (World.laidAll Tryz.prog os Rows.recallSumsRow.laid) #[.slice none 0 0, .int .i64 0, .slice none 0 0] 8 (World.laidAll_os _ _ _)
     (World.shaped_of_ZipB (by kernel_rfl) (by kernel_rfl)) (by kernel_rfl) (by kernel_rfl) (by kernel_rfl)
     (by rw [MakeChecks.laidMetH_plain _ _ _ (by kernel_rfl)]; exact laidMet_laidAll _ (by kernel_rfl) (by kernel_rfl))) ?_
 intro W base args ds gs before hval0 hW hcnd _ hL _
 have hval : ∀ (j : Nat) t v, Tryz.f11.params[j]? = some t → args[j]? = some v → Value.okWide Tryz.prog W .any base t v := hval0
 have hW' := hW
 obtain ⟨p, q, hA0, hV, rfl, hfz, hnd⟩ := hW
 have hA : DataW.TrodAll enc Tryz.prog W 0 (fun _ => true) true Tryz.f11.params.toList args.toList ds p := hA0
 rw [Tryz.params11] at hA hval
 obtain ⟨v0, vs0, d0, ds0, p0, q0, hargs, rfl, rfl, h0, r0⟩ := trodAll_cons hA
 obtain ⟨v1, vs1, d1, ds1, p1, q1, rfl, rfl, rfl, h1, r1⟩ := trodAll_cons r0
 obtain ⟨v2, vs2, d2, ds2, p2, q2, rfl, rfl, rfl, h2, r2⟩ := trodAll_cons r1
 obtain ⟨rfl, rfl, rfl⟩ := trodAll_nil r2
 obtain rfl : args = #[v0, v1, v2] := by cases args; simp_all
 obtain ⟨rfl, rfl⟩ := trodVars_none hV
 obtain ⟨ad0, sn0, sc0, rfl⟩ := okWide_slice Tryz.underlying66 (hval 0 66 v0 rfl rfl)
 obtain ⟨l0, hm0, hl0⟩ := Rd.one (Rd.slice Go.Ax.Rt.node0 Tryz.underlying66 (by kernel_rfl) rfl rdNode) rfl h0
 obtain ⟨n1, rfl, rfl, rfl, hw1⟩ := open_int Tryz.underlying3 (hval 1 3 v1 rfl rfl) h1
 have hl1 : VR W (fun b => b < W.heap.size) (fun _ => none) (.int .i64 n1) (.int .i64 n1) := .int _ _ _
 obtain ⟨ad2, sn2, sc2, rfl⟩ := okWide_slice Tryz.underlying81 (hval 2 81 v2 rfl rfl)
 obtain ⟨l2, hm2, hl2⟩ := Rd.one (Rd.slice Go.Ax.Rt.ch0 Tryz.underlying81 (by kernel_rfl) rfl rdChoice) rfl h2
 refine (zMt (zH8 l0 n1 l2 hm0 hm2) rfl (fun i hi => ?_) (pin_up (recallSums_pin hL))).mono fun e W' ⟨he, ho, hp, hk⟩ => ⟨_, he, ?_⟩
 · match i, hi with
   | 0, _ => exact hl0
   | 1, _ => exact hl1
   | 2, _ => exact hl2
 · exact zMR (t := 4) hW' rfl rfl rfl Tryz.underlying4 laidIt zLJ fullIt (by kernel_rfl) ho hp hk
theorem recallSums_j1 : Rows.recallSumsRow.wf (OpenSpec.ofChange Rows.recallSumsSpec) = true := by kernel_rfl
theorem recallSums_j2 : (Rows.recallSumsRow.inPlace == Tryz.prog.inPlace 11) = true := by kernel_rfl
theorem recallSums_j3 : (Rows.recallSumsRow.unfollowed == Tryz.prog.unfollowed 11) = true := by kernel_rfl
theorem recallSums_j4 : (Rows.recallSumsRow.recurses == Tryz.prog.recurses 11) = true := by kernel_rfl
theorem recallSums_j5 : (Rows.recallSumsRow.named == Tryz.prog.varsNamed 11) = true := by kernel_rfl
theorem recallSums_j6 : (Rows.recallSumsRow.lifted == Tryz.prog.liftsFinal) = true := liftIt
theorem recallSums_j7 : (Tryz.prog.make == some Rows.recallSumsRow.make) = true := makeIt
theorem recallSums_j8 : (Rows.recallSumsRow.plainKeys == Tryz.prog.plainKeys) = true := plainIt
theorem recallSums_joined : joinedFacts Tryz.prog 11 Tryz.f11 Rows.recallSumsSpec Rows.recallSumsRow = true := by
 unfold joinedFacts
 rw [recallSums_j1, laidIt, zLJ, stopsIt, knobsIt, recallSums_j2, recallSums_j3, recallSums_j4, recallSums_j5, recallSums_j8, heardIt, enterIt, recallSums_j6, recallSums_j7]
 kernel_rfl
theorem recallSums_named : Tryz.prog.funcNamed Rows.recallSumsRow.func = some 11 := by kernel_rfl
theorem recallSums_inst : Tryz.f11.isInstance Tryz.prog Rows.recallSumsRow.origin Rows.recallSumsRow.targs := of_decide_eq_true (by kernel_rfl)
theorem recallSums_wrap : Tryz.f11.isWrapper Tryz.prog Rows.recallSumsRow.wrapper Rows.recallSumsRow.mainSum := by unfold Func.isWrapper; first | (rw [if_pos (by decide +kernel)]; kernel_rfl) | (rw [if_neg (by decide +kernel)]; exact ⟨rfl, rfl⟩)
theorem recallSums_holds : Rows.RecallSumsSaid :=
 OpenClaim.holds_of_wide 11 Tryz.f11 rfl rfl rfl rfl rfl rfl rfl ⟨rfl, rfl, rfl, rfl, rfl⟩ rfl rfl rfl rfl rfl recallSums_named Tryz.func11 recallSums_joined
   recallSums_inst recallSums_wrap
   (fun os started H enc _ => recallSums_lifted os started H enc)
theorem recallSums_c1 : Rows.recallSumsRow.wfByText (OpenSpec.ofChange Rows.recallSumsSpec) = true := by kernel_rfl
theorem recallSums_c2 : ([66, 3, 81].all fun u => !Tryz.prog.wantsStandIn u) = true := by kernel_rfl
theorem recallSums_c3 : false = Rows.recallSumsRow.goesBy Tryz.prog := by kernel_rfl
theorem recallSums_card : Rows.RecallSumsCardSaid :=
 Claim7.holds_tied_plain_at .later [] [.data, .data, .data, .data, .sentinel, .sentinel, .pinned] true (true, "01fbb469cf8b0980b89ab124d6c951f307d4b37b82991b3a2bba3582623a25d4") true
   recallSums_holds (fun _ h => by cases h) recallSums_c1 (fun _ h => by cases h) recallSums_row_tie rfl ⟨rfl, rfl⟩ zMe rfl
   (fun f fn hf hfn => by
     obtain rfl : f = 11 := Option.some.inj (recallSums_named.symm.trans hf) |>.symm
     obtain rfl : fn = Tryz.f11 := (Option.some.inj (Tryz.func11.symm.trans hfn)).symm
     exact ⟨looksIt, fun j t ht => by
       rw [Tryz.params11] at ht
       have hm : t ∈ [66, 3, 81] := by simpa using Array.mem_of_getElem? ht
       exact (show Tryz.prog.wantsStandIn t = false by simpa using List.all_eq_true.1 recallSums_c2 t hm)⟩)
   recallSums_c3
end Go.Proofs.YtgmleamhjnlknaaGreatDoor
