/- ReplyGets of the given program returns true for every input and leaves its arguments as they were; no conditions. -/
import Derived.Test.YtnkealfaldjipaaGreatDoorRows
import Derived.Test.YtnkealfaldjipaaGreatDoorTie
import Derived.Test.YtnkealfaldjipaaGreatDoorCards
import Derived.LaidMore
import Derived.Lay
import Derived.SevenTiedAt
import Derived.Stop.Joined
import Derived.Stop.ErrReads
import Derived.MakeChecks
import Derived.Test.YtnkealfaldjipaaGreatDoorY6
set_option linter.unusedVariables false
set_option linter.unusedSimpArgs false
namespace Go.Proofs.YtnkealfaldjipaaGreatDoor
open Go.Ax Go.ChangeShapes Go.WideShapes Go.ChangeAt Go.RowKit
theorem replyGets_pin {W : World} (h0 : laidMetH Tryz.prog Rows.replyGetsRow.laid W) : pinG W := by
 rw [MakeChecks.laidMetH_plain _ _ _ (by kernel_rfl)] at h0
 have h := h0
 exact ⟨trivial, Lib.tabIs_of_head (k := .u64) (zs := Lib.pow10Tab) (g := 5) (t := 337) (e := 229) (n := 20) (by kernel_rfl) (by kernel_rfl) Tryz.underlying337 Tryz.underlying229 (by kernel_rfl) (by kernel_rfl) (h.tail.tail), trivial⟩
set_option maxRecDepth 100000 in
theorem replyGets_lifted (os : Os) (started : os.Started) (H : Type) (enc : TypeId × Value → H) :
   ReturnsInHanded {} Tryz.checked os 3 .any (fun w args => (Rows.replyGetsSpec.pre enc Tryz.prog Tryz.f3 Rows.replyGetsRow.domain false w args ∧ laidMetH Tryz.prog Rows.replyGetsRow.laid w) ∧ sizedMet enc Tryz.prog Tryz.f3 (OpenSpec.ofChange Rows.replyGetsSpec) false w args)
     (Rows.replyGetsSpec.post enc Tryz.prog Tryz.f3 false true false false) := by
 refine returnsInHanded_of_change_and (C := Tryz.checked) (X := fun w _ => laidMetH Tryz.prog Rows.replyGetsRow.laid w) (fun _ _ _ hh h => h.of_heap hh) ownIt started (by kernel_rfl) Tryz.func3
   (ChangeSpec.witness_shaped (enc := enc) (C := Tryz.checked) (os := os) (X := fun w _ => laidMetH Tryz.prog Rows.replyGetsRow.laid w) false (World.laidAll Tryz.prog os Rows.replyGetsRow.laid) #[.slice none 0 0, .int .i64 0, .slice none 0 0] 8 (World.laidAll_os _ _ _)
     (World.shaped_of_ZipB (by kernel_rfl) (by kernel_rfl)) (by kernel_rfl) (by kernel_rfl) (by kernel_rfl)
     (by rw [MakeChecks.laidMetH_plain _ _ _ (by kernel_rfl)]; exact laidMet_laidAll _ (by kernel_rfl) (by kernel_rfl))) ?_
 intro W base args ds gs before hval0 hW hcnd hZ hL _
 have hval : ∀ (j : Nat) t v, Tryz.f3.params[j]? = some t → args[j]? = some v → Value.okWide Tryz.prog W .any base t v := hval0
 have hW' := hW
 obtain ⟨p, q, hA0, hV, rfl, hfz, hnd⟩ := hW
 have hA : DataW.TrodAll enc Tryz.prog W 0 (fun _ => true) true Tryz.f3.params.toList args.toList ds p := hA0
 rw [Tryz.params3] at hA hval
 obtain ⟨v0, vs0, d0, ds0, p0, q0, hargs, rfl, rfl, h0, r0⟩ := trodAll_cons hA
 obtain ⟨v1, vs1, d1, ds1, p1, q1, rfl, rfl, rfl, h1, r1⟩ := trodAll_cons r0
 obtain ⟨v2, vs2, d2, ds2, p2, q2, rfl, rfl, rfl, h2, r2⟩ := trodAll_cons r1
 obtain ⟨rfl, rfl, rfl⟩ := trodAll_nil r2
 obtain rfl : args = #[v0, v1, v2] := by cases args; simp_all
 obtain ⟨rfl, rfl⟩ := trodVars_none hV
 obtain ⟨ad0, sn0, sc0, rfl⟩ := okWide_slice Tryz.underlying22 (hval 0 22 v0 rfl rfl)
 obtain ⟨l0, hm0, hl0⟩ := Rd.one (Rd.slice Go.Ax.Rt.node0 Tryz.underlying22 (by kernel_rfl) rfl rdNode) rfl h0
 obtain ⟨n1, rfl, rfl, rfl, hw1⟩ := open_int Tryz.underlying3 (hval 1 3 v1 rfl rfl) h1
 have hl1 : VR W (fun b => b < W.heap.size) (fun _ => none) (.int .i64 n1) (.int .i64 n1) := .int _ _ _
 obtain ⟨ad2, sn2, sc2, rfl⟩ := okWide_slice Tryz.underlying23 (hval 2 23 v2 rfl rfl)
 obtain ⟨l2, hm2, hl2⟩ := Rd.one (Rd.slice Go.Ax.Rt.ch0 Tryz.underlying23 (by kernel_rfl) rfl rdChoice) rfl h2
 have hz2 := zPF (b := 32) hZ (j := 2) rfl rfl Tryz.underlying23 (by kernel_rfl) h2 hl2
 unfold reachBytes at hz2
 refine (zOw (zJ3 l0 n1 l2 hm0 hm2 (by omega)) rfl (fun i hi => ?_) (pin_up (replyGets_pin hL))).mono fun e W' ⟨he, ho, hp, hk⟩ => ⟨_, he, ?_⟩
 · match i, hi with
   | 0, _ => exact hl0
   | 1, _ => exact hl1
   | 2, _ => exact hl2
 · exact zPQ (t := 4) hW' rfl rfl rfl Tryz.underlying4 laidIt zOd fullIt (by kernel_rfl) ho hp hk
theorem replyGets_j1 : Rows.replyGetsRow.wf (OpenSpec.ofChange Rows.replyGetsSpec) = true := by kernel_rfl
theorem replyGets_j2 : (Rows.replyGetsRow.inPlace == Tryz.prog.inPlace 3) = true := by kernel_rfl
theorem replyGets_j3 : (Rows.replyGetsRow.unfollowed == Tryz.prog.unfollowed 3) = true := by kernel_rfl
theorem replyGets_j4 : (Rows.replyGetsRow.recurses == Tryz.prog.recurses 3) = true := by kernel_rfl
theorem replyGets_j5 : (Rows.replyGetsRow.named == Tryz.prog.varsNamed 3) = true := by kernel_rfl
theorem replyGets_j6 : (Rows.replyGetsRow.lifted == Tryz.prog.liftsFinal) = true := liftIt
theorem replyGets_j7 : (Tryz.prog.make == some Rows.replyGetsRow.make) = true := makeIt
theorem replyGets_j8 : (Rows.replyGetsRow.plainKeys == Tryz.prog.plainKeys) = true := plainIt
theorem replyGets_joined : joinedFacts Tryz.prog 3 Tryz.f3 Rows.replyGetsSpec Rows.replyGetsRow = true := by
 unfold joinedFacts
 rw [replyGets_j1, laidIt, zOd, stopsIt, knobsIt, replyGets_j2, replyGets_j3, replyGets_j4, replyGets_j5, replyGets_j8, heardIt, enterIt, replyGets_j6, replyGets_j7]
 kernel_rfl
theorem replyGets_named : Tryz.prog.funcNamed Rows.replyGetsRow.func = some 3 := by kernel_rfl
theorem replyGets_inst : Tryz.f3.isInstance Tryz.prog Rows.replyGetsRow.origin Rows.replyGetsRow.targs := of_decide_eq_true (by kernel_rfl)
theorem replyGets_wrap : Tryz.f3.isWrapper Tryz.prog Rows.replyGetsRow.wrapper Rows.replyGetsRow.mainSum := by unfold Func.isWrapper; first | (rw [if_pos (by decide +kernel)]; kernel_rfl) | (rw [if_neg (by decide +kernel)]; exact ⟨rfl, rfl⟩)
theorem replyGets_holds : Rows.ReplyGetsSaid :=
 OpenClaim.holds_of_wide 3 Tryz.f3 rfl rfl rfl rfl rfl rfl rfl ⟨rfl, rfl, rfl, rfl, rfl⟩ rfl rfl rfl rfl rfl replyGets_named Tryz.func3 replyGets_joined
   replyGets_inst replyGets_wrap
   (fun os started H enc _ => replyGets_lifted os started H enc)
theorem replyGets_c1 : Rows.replyGetsRow.wfByText (OpenSpec.ofChange Rows.replyGetsSpec) = true := by kernel_rfl
theorem replyGets_c2 : ([22, 3, 23].all fun u => !Tryz.prog.wantsStandIn u) = true := by kernel_rfl
theorem replyGets_c3 : false = Rows.replyGetsRow.goesBy Tryz.prog := by kernel_rfl
theorem replyGets_card : Rows.ReplyGetsCardSaid :=
 Claim7.holds_tied_plain_at .later [] [.data, .data, .data, .data, .sentinel, .sentinel, .pinned] true (true, "9a7b365347614a0287077179d20768685206a4b5ee48bcf94245b18e3653b2c2") true
   replyGets_holds (fun _ h => by cases h) replyGets_c1 (fun _ h => by cases h) replyGets_row_tie rfl ⟨rfl, rfl⟩ zPo rfl
   (fun f fn hf hfn => by
     obtain rfl : f = 3 := Option.some.inj (replyGets_named.symm.trans hf) |>.symm
     obtain rfl : fn = Tryz.f3 := (Option.some.inj (Tryz.func3.symm.trans hfn)).symm
     exact ⟨looksIt, fun j t ht => by
       rw [Tryz.params3] at ht
       have hm : t ∈ [22, 3, 23] := by simpa using Array.mem_of_getElem? ht
       exact (show Tryz.prog.wantsStandIn t = false by simpa using List.all_eq_true.1 replyGets_c2 t hm)⟩)
   replyGets_c3
end Go.Proofs.YtnkealfaldjipaaGreatDoor
