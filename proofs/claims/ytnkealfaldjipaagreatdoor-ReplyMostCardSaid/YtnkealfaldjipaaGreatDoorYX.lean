/- ReplyMost of the given program returns true for every input and leaves its arguments as they were; no conditions. -/
import Derived.Test.YtnkealfaldjipaaGreatDoorRows
import Derived.Test.YtnkealfaldjipaaGreatDoorTie
import Derived.Test.YtnkealfaldjipaaGreatDoorCards
import Derived.LaidMore
import Derived.Lay
import Derived.SevenTiedAt
import Derived.Stop.Joined
import Derived.Stop.ErrReads
import Derived.MakeChecks
import Derived.Test.YtnkealfaldjipaaGreatDoorY6
set_option linter.unusedVariables false
set_option linter.unusedSimpArgs false
namespace Go.Proofs.YtnkealfaldjipaaGreatDoor
open Go.Ax Go.ChangeShapes Go.WideShapes Go.ChangeAt Go.RowKit
theorem replyMost_pin {W : World} (h0 : laidMetH Tryz.prog Rows.replyMostRow.laid W) : pinG W := by
 rw [MakeChecks.laidMetH_plain _ _ _ (by kernel_rfl)] at h0
 have h := h0
 exact ⟨trivial, Lib.tabIs_of_head (k := .u64) (zs := Lib.pow10Tab) (g := 5) (t := 337) (e := 229) (n := 20) (by kernel_rfl) (by kernel_rfl) Tryz.underlying337 Tryz.underlying229 (by kernel_rfl) (by kernel_rfl) (h.tail.tail), trivial⟩
set_option maxRecDepth 100000 in
theorem replyMost_lifted (os : Os) (started : os.Started) (H : Type) (enc : TypeId × Value → H) :
   ReturnsInHanded {} Tryz.checked os 5 .any (fun w args => (Rows.replyMostSpec.pre enc Tryz.prog Tryz.f5 Rows.replyMostRow.domain false w args ∧ laidMetH Tryz.prog Rows.replyMostRow.laid w) ∧ sizedMet enc Tryz.prog Tryz.f5 (OpenSpec.ofChange Rows.replyMostSpec) false w args)
     (Rows.replyMostSpec.post enc Tryz.prog Tryz.f5 false true false false) := by
 refine returnsInHanded_of_change_and (C := Tryz.checked) (X := fun w _ => laidMetH Tryz.prog Rows.replyMostRow.laid w) (fun _ _ _ hh h => h.of_heap hh) ownIt started (by kernel_rfl) Tryz.func5
   (ChangeSpec.witness_shaped (enc := enc) (C := Tryz.checked) (os := os) (X := fun w _ => laidMetH Tryz.prog Rows.replyMostRow.laid w) false (World.laidAll Tryz.prog os Rows.replyMostRow.laid) #[.slice none 0 0, .slice none 0 0, .slice none 0 0] 8 (World.laidAll_os _ _ _)
     (World.shaped_of_ZipB (by kernel_rfl) (by kernel_rfl)) (by kernel_rfl) (by kernel_rfl) (by kernel_rfl)
     (by rw [MakeChecks.laidMetH_plain _ _ _ (by kernel_rfl)]; exact laidMet_laidAll _ (by kernel_rfl) (by kernel_rfl))) ?_
 intro W base args ds gs before hval0 hW hcnd hZ hL _
 have hval : ∀ (j : Nat) t v, Tryz.f5.params[j]? = some t → args[j]? = some v → Value.okWide Tryz.prog W .any base t v := hval0
 have hW' := hW
 obtain ⟨p, q, hA0, hV, rfl, hfz, hnd⟩ := hW
 have hA : DataW.TrodAll enc Tryz.prog W 0 (fun _ => true) true Tryz.f5.params.toList args.toList ds p := hA0
 rw [Tryz.params5] at hA hval
 obtain ⟨v0, vs0, d0, ds0, p0, q0, hargs, rfl, rfl, h0, r0⟩ := trodAll_cons hA
 obtain ⟨v1, vs1, d1, ds1, p1, q1, rfl, rfl, rfl, h1, r1⟩ := trodAll_cons r0
 obtain ⟨v2, vs2, d2, ds2, p2, q2, rfl, rfl, rfl, h2, r2⟩ := trodAll_cons r1
 obtain ⟨rfl, rfl, rfl⟩ := trodAll_nil r2
 obtain rfl : args = #[v0, v1, v2] := by cases args; simp_all
 obtain ⟨rfl, rfl⟩ := trodVars_none hV
 obtain ⟨ad0, sn0, sc0, rfl⟩ := okWide_slice Tryz.underlying22 (hval 0 22 v0 rfl rfl)
 obtain ⟨l0, hm0, hl0⟩ := Rd.one (Rd.slice Go.Ax.Rt.node0 Tryz.underlying22 (by kernel_rfl) rfl rdNode) rfl h0
 obtain ⟨ad1, sn1, sc1, rfl⟩ := okWide_slice Tryz.underlying23 (hval 1 23 v1 rfl rfl)
 obtain ⟨l1, hm1, hl1⟩ := Rd.one (Rd.slice Go.Ax.Rt.ch0 Tryz.underlying23 (by kernel_rfl) rfl zMW) rfl h1
 obtain ⟨ad2, sn2, sc2, rfl⟩ := okWide_slice Tryz.underlying23 (hval 2 23 v2 rfl rfl)
 obtain ⟨l2, hm2, hl2⟩ := Rd.one (Rd.slice Go.Ax.Rt.ch0 Tryz.underlying23 (by kernel_rfl) rfl zMW) rfl h2
 have hz1 := zKt (b := 32) hZ (j := 1) rfl rfl Tryz.underlying23 (by kernel_rfl) h1 hl1
 unfold reachBytes at hz1
 have hz2 := zKt (b := 32) hZ (j := 2) rfl rfl Tryz.underlying23 (by kernel_rfl) h2 hl2
 unfold reachBytes at hz2
 refine (zPH (zKN l0 l1 l2 hm0 hm1 hm2 (by omega) (by omega)) rfl (fun i hi => ?_) (pin_up (replyMost_pin hL))).mono fun e W' ⟨he, ho, hp, hk⟩ => ⟨_, he, ?_⟩
 · match i, hi with
   | 0, _ => exact hl0
   | 1, _ => exact hl1
   | 2, _ => exact hl2
 · exact zPd (t := 4) hW' rfl rfl rfl Tryz.underlying4 laidIt zOG fullIt (by kernel_rfl) ho hp hk
theorem replyMost_j1 : Rows.replyMostRow.wf (OpenSpec.ofChange Rows.replyMostSpec) = true := by kernel_rfl
theorem replyMost_j2 : (Rows.replyMostRow.inPlace == Tryz.prog.inPlace 5) = true := by kernel_rfl
theorem replyMost_j3 : (Rows.replyMostRow.unfollowed == Tryz.prog.unfollowed 5) = true := by kernel_rfl
theorem replyMost_j4 : (Rows.replyMostRow.recurses == Tryz.prog.recurses 5) = true := by kernel_rfl
theorem replyMost_j5 : (Rows.replyMostRow.named == Tryz.prog.varsNamed 5) = true := by kernel_rfl
theorem replyMost_j6 : (Rows.replyMostRow.lifted == Tryz.prog.liftsFinal) = true := liftIt
theorem replyMost_j7 : (Tryz.prog.make == some Rows.replyMostRow.make) = true := makeIt
theorem replyMost_j8 : (Rows.replyMostRow.plainKeys == Tryz.prog.plainKeys) = true := plainIt
theorem replyMost_joined : joinedFacts Tryz.prog 5 Tryz.f5 Rows.replyMostSpec Rows.replyMostRow = true := by
 unfold joinedFacts
 rw [replyMost_j1, laidIt, zOG, stopsIt, knobsIt, replyMost_j2, replyMost_j3, replyMost_j4, replyMost_j5, replyMost_j8, heardIt, enterIt, replyMost_j6, replyMost_j7]
 kernel_rfl
theorem replyMost_named : Tryz.prog.funcNamed Rows.replyMostRow.func = some 5 := by kernel_rfl
theorem replyMost_inst : Tryz.f5.isInstance Tryz.prog Rows.replyMostRow.origin Rows.replyMostRow.targs := of_decide_eq_true (by kernel_rfl)
theorem replyMost_wrap : Tryz.f5.isWrapper Tryz.prog Rows.replyMostRow.wrapper Rows.replyMostRow.mainSum := by unfold Func.isWrapper; first | (rw [if_pos (by decide +kernel)]; kernel_rfl) | (rw [if_neg (by decide +kernel)]; exact ⟨rfl, rfl⟩)
theorem replyMost_holds : Rows.ReplyMostSaid :=
 OpenClaim.holds_of_wide 5 Tryz.f5 rfl rfl rfl rfl rfl rfl rfl ⟨rfl, rfl, rfl, rfl, rfl⟩ rfl rfl rfl rfl rfl replyMost_named Tryz.func5 replyMost_joined
   replyMost_inst replyMost_wrap
   (fun os started H enc _ => replyMost_lifted os started H enc)
theorem replyMost_c1 : Rows.replyMostRow.wfByText (OpenSpec.ofChange Rows.replyMostSpec) = true := by kernel_rfl
theorem replyMost_c2 : ([22, 23, 23].all fun u => !Tryz.prog.wantsStandIn u) = true := by kernel_rfl
theorem replyMost_c3 : false = Rows.replyMostRow.goesBy Tryz.prog := by kernel_rfl
theorem replyMost_card : Rows.ReplyMostCardSaid :=
 Claim7.holds_tied_plain_at .later [] [.data, .data, .data, .data, .sentinel, .sentinel, .pinned] true (true, "9a7b365347614a0287077179d20768685206a4b5ee48bcf94245b18e3653b2c2") true
   replyMost_holds (fun _ h => by cases h) replyMost_c1 (fun _ h => by cases h) replyMost_row_tie rfl ⟨rfl, rfl⟩ zPX rfl
   (fun f fn hf hfn => by
     obtain rfl : f = 5 := Option.some.inj (replyMost_named.symm.trans hf) |>.symm
     obtain rfl : fn = Tryz.f5 := (Option.some.inj (Tryz.func5.symm.trans hfn)).symm
     exact ⟨looksIt, fun j t ht => by
       rw [Tryz.params5] at ht
       have hm : t ∈ [22, 23, 23] := by simpa using Array.mem_of_getElem? ht
       exact (show Tryz.prog.wantsStandIn t = false by simpa using List.all_eq_true.1 replyMost_c2 t hm)⟩)
   replyMost_c3
end Go.Proofs.YtnkealfaldjipaaGreatDoor
