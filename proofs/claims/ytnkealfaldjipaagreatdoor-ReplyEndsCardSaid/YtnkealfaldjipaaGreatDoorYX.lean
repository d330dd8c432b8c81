/- ReplyEnds of the given program returns true for every input and leaves its arguments as they were; no conditions. -/
import Derived.Test.YtnkealfaldjipaaGreatDoorRows
import Derived.Test.YtnkealfaldjipaaGreatDoorTie
import Derived.Test.YtnkealfaldjipaaGreatDoorCards
import Derived.LaidMore
import Derived.Lay
import Derived.SevenTiedAt
import Derived.Stop.Joined
import Derived.Stop.ErrReads
import Derived.MakeChecks
import Derived.Test.YtnkealfaldjipaaGreatDoorY6
set_option linter.unusedVariables false
set_option linter.unusedSimpArgs false
namespace Go.Proofs.YtnkealfaldjipaaGreatDoor
open Go.Ax Go.ChangeShapes Go.WideShapes Go.ChangeAt Go.RowKit
theorem replyEnds_pin {W : World} (h0 : laidMetH Tryz.prog Rows.replyEndsRow.laid W) : pinG W := by
 rw [MakeChecks.laidMetH_plain _ _ _ (by kernel_rfl)] at h0
 have h := h0
 exact ⟨trivial, Lib.tabIs_of_head (k := .u64) (zs := Lib.pow10Tab) (g := 5) (t := 337) (e := 229) (n := 20) (by kernel_rfl) (by kernel_rfl) Tryz.underlying337 Tryz.underlying229 (by kernel_rfl) (by kernel_rfl) (h.tail.tail), trivial⟩
set_option maxRecDepth 100000 in
theorem replyEnds_lifted (os : Os) (started : os.Started) (H : Type) (enc : TypeId × Value → H) :
   ReturnsInHanded {} Tryz.checked os 4 .any (fun w args => (Rows.replyEndsSpec.pre enc Tryz.prog Tryz.f4 Rows.replyEndsRow.domain false w args ∧ laidMetH Tryz.prog Rows.replyEndsRow.laid w) ∧ sizedMet enc Tryz.prog Tryz.f4 (OpenSpec.ofChange Rows.replyEndsSpec) false w args)
     (Rows.replyEndsSpec.post enc Tryz.prog Tryz.f4 false true false false) := by
 refine returnsInHanded_of_change_and (C := Tryz.checked) (X := fun w _ => laidMetH Tryz.prog Rows.replyEndsRow.laid w) (fun _ _ _ hh h => h.of_heap hh) ownIt started (by kernel_rfl) Tryz.func4
   (ChangeSpec.witness_shaped (enc := enc) (C := Tryz.checked) (os := os) (X := fun w _ => laidMetH Tryz.prog Rows.replyEndsRow.laid w) false (World.laidAll Tryz.prog os Rows.replyEndsRow.laid) #[.slice none 0 0, .slice none 0 0, .slice none 0 0] 8 (World.laidAll_os _ _ _)
     (World.shaped_of_ZipB (by kernel_rfl) (by kernel_rfl)) (by kernel_rfl) (by kernel_rfl) (by kernel_rfl)
     (by rw [MakeChecks.laidMetH_plain _ _ _ (by kernel_rfl)]; exact laidMet_laidAll _ (by kernel_rfl) (by kernel_rfl))) ?_
 intro W base args ds gs before hval0 hW hcnd hZ hL _
 have hval : ∀ (j : Nat) t v, Tryz.f4.params[j]? = some t → args[j]? = some v → Value.okWide Tryz.prog W .any base t v := hval0
 have hW' := hW
 obtain ⟨p, q, hA0, hV, rfl, hfz, hnd⟩ := hW
 have hA : DataW.TrodAll enc Tryz.prog W 0 (fun _ => true) true Tryz.f4.params.toList args.toList ds p := hA0
 rw [Tryz.params4] at hA hval
 obtain ⟨v0, vs0, d0, ds0, p0, q0, hargs, rfl, rfl, h0, r0⟩ := trodAll_cons hA
 obtain ⟨v1, vs1, d1, ds1, p1, q1, rfl, rfl, rfl, h1, r1⟩ := trodAll_cons r0
 obtain ⟨v2, vs2, d2, ds2, p2, q2, rfl, rfl, rfl, h2, r2⟩ := trodAll_cons r1
 obtain ⟨rfl, rfl, rfl⟩ := trodAll_nil r2
 obtain rfl : args = #[v0, v1, v2] := by cases args; simp_all
 obtain ⟨rfl, rfl⟩ := trodVars_none hV
 obtain ⟨ad0, sn0, sc0, rfl⟩ := okWide_slice Tryz.underlying22 (hval 0 22 v0 rfl rfl)
 obtain ⟨l0, hm0, hl0⟩ := Rd.one (Rd.slice Go.Ax.Rt.node0 Tryz.underlying22 (by kernel_rfl) rfl rdNode) rfl h0
 obtain ⟨ad1, sn1, sc1, rfl⟩ := okWide_slice Tryz.underlying23 (hval 1 23 v1 rfl rfl)
 obtain ⟨l1, hm1, hl1⟩ := Rd.one (Rd.slice Go.Ax.Rt.ch0 Tryz.underlying23 (by kernel_rfl) rfl zL4) rfl h1
 obtain ⟨ad2, sn2, sc2, rfl⟩ := okWide_slice Tryz.underlying23 (hval 2 23 v2 rfl rfl)
 obtain ⟨l2, hm2, hl2⟩ := Rd.one (Rd.slice Go.Ax.Rt.ch0 Tryz.underlying23 (by kernel_rfl) rfl zL4) rfl h2
 have hz1 := zKg (b := 32) hZ (j := 1) rfl rfl Tryz.underlying23 (by kernel_rfl) h1 hl1
 unfold reachBytes at hz1
 have hz2 := zKg (b := 32) hZ (j := 2) rfl rfl Tryz.underlying23 (by kernel_rfl) h2 hl2
 unfold reachBytes at hz2
 refine (zPi (zKD l0 l1 l2 hm0 hm1 hm2 (by omega) (by omega)) rfl (fun i hi => ?_) (pin_up (replyEnds_pin hL))).mono fun e W' ⟨he, ho, hp, hk⟩ => ⟨_, he, ?_⟩
 · match i, hi with
   | 0, _ => exact hl0
   | 1, _ => exact hl1
   | 2, _ => exact hl2
 · exact zPC (t := 4) hW' rfl rfl rfl Tryz.underlying4 laidIt zOY fullIt (by kernel_rfl) ho hp hk
theorem replyEnds_j1 : Rows.replyEndsRow.wf (OpenSpec.ofChange Rows.replyEndsSpec) = true := by kernel_rfl
theorem replyEnds_j2 : (Rows.replyEndsRow.inPlace == Tryz.prog.inPlace 4) = true := by kernel_rfl
theorem replyEnds_j3 : (Rows.replyEndsRow.unfollowed == Tryz.prog.unfollowed 4) = true := by kernel_rfl
theorem replyEnds_j4 : (Rows.replyEndsRow.recurses == Tryz.prog.recurses 4) = true := by kernel_rfl
theorem replyEnds_j5 : (Rows.replyEndsRow.named == Tryz.prog.varsNamed 4) = true := by kernel_rfl
theorem replyEnds_j6 : (Rows.replyEndsRow.lifted == Tryz.prog.liftsFinal) = true := liftIt
theorem replyEnds_j7 : (Tryz.prog.make == some Rows.replyEndsRow.make) = true := makeIt
theorem replyEnds_j8 : (Rows.replyEndsRow.plainKeys == Tryz.prog.plainKeys) = true := plainIt
theorem replyEnds_joined : joinedFacts Tryz.prog 4 Tryz.f4 Rows.replyEndsSpec Rows.replyEndsRow = true := by
 unfold joinedFacts
 rw [replyEnds_j1, laidIt, zOY, stopsIt, knobsIt, replyEnds_j2, replyEnds_j3, replyEnds_j4, replyEnds_j5, replyEnds_j8, heardIt, enterIt, replyEnds_j6, replyEnds_j7]
 kernel_rfl
theorem replyEnds_named : Tryz.prog.funcNamed Rows.replyEndsRow.func = some 4 := by kernel_rfl
theorem replyEnds_inst : Tryz.f4.isInstance Tryz.prog Rows.replyEndsRow.origin Rows.replyEndsRow.targs := of_decide_eq_true (by kernel_rfl)
theorem replyEnds_wrap : Tryz.f4.isWrapper Tryz.prog Rows.replyEndsRow.wrapper Rows.replyEndsRow.mainSum := by unfold Func.isWrapper; first | (rw [if_pos (by decide +kernel)]; kernel_rfl) | (rw [if_neg (by decide +kernel)]; exact ⟨rfl, rfl⟩)
theorem replyEnds_holds : Rows.ReplyEndsSaid :=
 OpenClaim.holds_of_wide 4 Tryz.f4 rfl rfl rfl rfl rfl rfl rfl ⟨rfl, rfl, rfl, rfl, rfl⟩ rfl rfl rfl rfl rfl replyEnds_named Tryz.func4 replyEnds_joined
   replyEnds_inst replyEnds_wrap
   (fun os started H enc _ => replyEnds_lifted os started H enc)
theorem replyEnds_c1 : Rows.replyEndsRow.wfByText (OpenSpec.ofChange Rows.replyEndsSpec) = true := by kernel_rfl
theorem replyEnds_c2 : ([22, 23, 23].all fun u => !Tryz.prog.wantsStandIn u) = true := by kernel_rfl
theorem replyEnds_c3 : false = Rows.replyEndsRow.goesBy Tryz.prog := by kernel_rfl
theorem replyEnds_card : Rows.ReplyEndsCardSaid :=
 Claim7.holds_tied_plain_at .later [] [.data, .data, .data, .data, .sentinel, .sentinel, .pinned] true (true, "9a7b365347614a0287077179d20768685206a4b5ee48bcf94245b18e3653b2c2") true
   replyEnds_holds (fun _ h => by cases h) replyEnds_c1 (fun _ h => by cases h) replyEnds_row_tie rfl ⟨rfl, rfl⟩ zP1 rfl
   (fun f fn hf hfn => by
     obtain rfl : f = 4 := Option.some.inj (replyEnds_named.symm.trans hf) |>.symm
     obtain rfl : fn = Tryz.f4 := (Option.some.inj (Tryz.func4.symm.trans hfn)).symm
     exact ⟨looksIt, fun j t ht => by
       rw [Tryz.params4] at ht
       have hm : t ∈ [22, 23, 23] := by simpa using Array.mem_of_getElem? ht
       exact (show Tryz.prog.wantsStandIn t = false by simpa using List.all_eq_true.1 replyEnds_c2 t hm)⟩)
   replyEnds_c3
end Go.Proofs.YtnkealfaldjipaaGreatDoor
