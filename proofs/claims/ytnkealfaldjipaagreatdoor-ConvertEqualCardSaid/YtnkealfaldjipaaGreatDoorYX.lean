/- ConvertEqual of the given program returns true for every input and leaves its arguments as they were; no conditions. -/
import Derived.Test.YtnkealfaldjipaaGreatDoorRows
import Derived.Test.YtnkealfaldjipaaGreatDoorTie
import Derived.Test.YtnkealfaldjipaaGreatDoorCards
import Derived.LaidMore
import Derived.Lay
import Derived.SevenTiedAt
import Derived.Stop.Joined
import Derived.Stop.ErrReads
import Derived.MakeChecks
import Derived.Test.YtnkealfaldjipaaGreatDoorY6
set_option linter.unusedVariables false
set_option linter.unusedSimpArgs false
namespace Go.Proofs.YtnkealfaldjipaaGreatDoor
open Go.Ax Go.ChangeShapes Go.WideShapes Go.ChangeAt Go.RowKit
theorem convertEqual_pin {W : World} (h0 : laidMetH Tryz.prog Rows.convertEqualRow.laid W) : pinG W := by
 rw [MakeChecks.laidMetH_plain _ _ _ (by kernel_rfl)] at h0
 have h := h0
 exact ⟨trivial, Lib.tabIs_of_head (k := .u64) (zs := Lib.pow10Tab) (g := 5) (t := 337) (e := 229) (n := 20) (by kernel_rfl) (by kernel_rfl) Tryz.underlying337 Tryz.underlying229 (by kernel_rfl) (by kernel_rfl) (h.tail.tail), trivial⟩
set_option maxRecDepth 100000 in
theorem convertEqual_lifted (os : Os) (started : os.Started) (H : Type) (enc : TypeId × Value → H) :
   ReturnsInHanded {} Tryz.checked os 9 .any (fun w args => (Rows.convertEqualSpec.pre enc Tryz.prog Tryz.f9 Rows.convertEqualRow.domain false w args ∧ laidMetH Tryz.prog Rows.convertEqualRow.laid w) ∧ sizedMet enc Tryz.prog Tryz.f9 (OpenSpec.ofChange Rows.convertEqualSpec) false w args)
     (Rows.convertEqualSpec.post enc Tryz.prog Tryz.f9 false true false false) := by
 refine returnsInHanded_of_change_and (C := Tryz.checked) (X := fun w _ => laidMetH Tryz.prog Rows.convertEqualRow.laid w) (fun _ _ _ hh h => h.of_heap hh) ownIt started (by kernel_rfl) Tryz.func9
   (ChangeSpec.witness_shaped (enc := enc) (C := Tryz.checked) (os := os) (X := fun w _ => laidMetH Tryz.prog Rows.convertEqualRow.laid w) false (World.laidAll Tryz.prog os Rows.convertEqualRow.laid) #[.slice none 0 0, .int .i64 0, .slice none 0 0, .slice none 0 0] 8 (World.laidAll_os _ _ _)
     (World.shaped_of_ZipB (by kernel_rfl) (by kernel_rfl)) (by kernel_rfl) (by kernel_rfl) (by kernel_rfl)
     (by rw [MakeChecks.laidMetH_plain _ _ _ (by kernel_rfl)]; exact laidMet_laidAll _ (by kernel_rfl) (by kernel_rfl))) ?_
 intro W base args ds gs before hval0 hW hcnd hZ hL _
 have hval : ∀ (j : Nat) t v, Tryz.f9.params[j]? = some t → args[j]? = some v → Value.okWide Tryz.prog W .any base t v := hval0
 have hW' := hW
 obtain ⟨p, q, hA0, hV, rfl, hfz, hnd⟩ := hW
 have hA : DataW.TrodAll enc Tryz.prog W 0 (fun _ => true) true Tryz.f9.params.toList args.toList ds p := hA0
 rw [Tryz.params9] at hA hval
 obtain ⟨v0, vs0, d0, ds0, p0, q0, hargs, rfl, rfl, h0, r0⟩ := trodAll_cons hA
 obtain ⟨v1, vs1, d1, ds1, p1, q1, rfl, rfl, rfl, h1, r1⟩ := trodAll_cons r0
 obtain ⟨v2, vs2, d2, ds2, p2, q2, rfl, rfl, rfl, h2, r2⟩ := trodAll_cons r1
 obtain ⟨v3, vs3, d3, ds3, p3, q3, rfl, rfl, rfl, h3, r3⟩ := trodAll_cons r2
 obtain ⟨rfl, rfl, rfl⟩ := trodAll_nil r3
 obtain rfl : args = #[v0, v1, v2, v3] := by cases args; simp_all
 obtain ⟨rfl, rfl⟩ := trodVars_none hV
 obtain ⟨ad0, sn0, sc0, rfl⟩ := okWide_slice Tryz.underlying22 (hval 0 22 v0 rfl rfl)
 obtain ⟨l0, hm0, hl0⟩ := Rd.one (Rd.slice Go.Ax.Rt.node0 Tryz.underlying22 (by kernel_rfl) rfl rdNode) rfl h0
 obtain ⟨n1, rfl, rfl, rfl, hw1⟩ := open_int Tryz.underlying3 (hval 1 3 v1 rfl rfl) h1
 have hl1 : VR W (fun b => b < W.heap.size) (fun _ => none) (.int .i64 n1) (.int .i64 n1) := .int _ _ _
 obtain ⟨ad2, sn2, sc2, rfl⟩ := okWide_slice Tryz.underlying57 (hval 2 57 v2 rfl rfl)
 obtain ⟨l2, hm2, hl2⟩ := Rd.one (Rd.slice Go.Ax.Rt.cp0 Tryz.underlying57 (by kernel_rfl) rfl rdPlan) rfl h2
 obtain ⟨ad3, sn3, sc3, rfl⟩ := okWide_slice Tryz.underlying23 (hval 3 23 v3 rfl rfl)
 obtain ⟨l3, hm3, hl3⟩ := Rd.one (Rd.slice Go.Ax.Rt.ch0 Tryz.underlying23 (by kernel_rfl) rfl rdChoice) rfl h3
 have hz3 := zQ7 (b := 32) hZ (j := 3) rfl rfl Tryz.underlying23 (by kernel_rfl) h3 hl3
 unfold reachBytes at hz3
 refine (zRJ (zIb l0 n1 l2 l3 hm0 hm2 hm3 (by omega)) Y (fun i hi => ?_) (pin_up (convertEqual_pin hL))).mono fun e W' ⟨he, ho, hp, hk⟩ => ⟨_, he, ?_⟩
 · match i, hi with
   | 0, _ => exact hl0
   | 1, _ => exact hl1
   | 2, _ => exact hl2
   | 3, _ => exact hl3
 · exact zRF (t := 4) hW' Y Y Y Tryz.underlying4 laidIt zPv fullIt (by kernel_rfl) ho hp hk
theorem convertEqual_j1 : Rows.convertEqualRow.wf (OpenSpec.ofChange Rows.convertEqualSpec) = true := by kernel_rfl
theorem convertEqual_j2 : (Rows.convertEqualRow.inPlace == Tryz.prog.inPlace 9) = true := by kernel_rfl
theorem convertEqual_j3 : (Rows.convertEqualRow.unfollowed == Tryz.prog.unfollowed 9) = true := by kernel_rfl
theorem convertEqual_j4 : (Rows.convertEqualRow.recurses == Tryz.prog.recurses 9) = true := by kernel_rfl
theorem convertEqual_j5 : (Rows.convertEqualRow.named == Tryz.prog.varsNamed 9) = true := by kernel_rfl
theorem convertEqual_j6 : (Rows.convertEqualRow.lifted == Tryz.prog.liftsFinal) = true := liftIt
theorem convertEqual_j7 : (Tryz.prog.make == some Rows.convertEqualRow.make) = true := makeIt
theorem convertEqual_j8 : (Rows.convertEqualRow.plainKeys == Tryz.prog.plainKeys) = true := plainIt
theorem convertEqual_joined : joinedFacts Tryz.prog 9 Tryz.f9 Rows.convertEqualSpec Rows.convertEqualRow = true := by
 unfold joinedFacts
 rw [convertEqual_j1, laidIt, zPv, stopsIt, knobsIt, convertEqual_j2, convertEqual_j3, convertEqual_j4, convertEqual_j5, convertEqual_j8, heardIt, enterIt, convertEqual_j6, convertEqual_j7]
 kernel_rfl
theorem convertEqual_named : Tryz.prog.funcNamed Rows.convertEqualRow.func = some 9 := by kernel_rfl
theorem convertEqual_inst : Tryz.f9.isInstance Tryz.prog Rows.convertEqualRow.origin Rows.convertEqualRow.targs := of_decide_eq_true (by kernel_rfl)
theorem convertEqual_wrap : Tryz.f9.isWrapper Tryz.prog Rows.convertEqualRow.wrapper Rows.convertEqualRow.mainSum := by unfold Func.isWrapper; first | (rw [if_pos (by decide +kernel)]; kernel_rfl) | (rw [if_neg (by decide +kernel)]; exact ⟨rfl, rfl⟩)
theorem convertEqual_holds : Rows.ConvertEqualSaid :=
 OpenClaim.holds_of_wide 9 Tryz.f9 rfl rfl rfl rfl rfl rfl rfl ⟨rfl, rfl, rfl, rfl, rfl⟩ rfl rfl rfl rfl rfl convertEqual_named Tryz.func9 convertEqual_joined
   convertEqual_inst convertEqual_wrap
   (fun os started H enc _ => convertEqual_lifted os started H enc)
theorem convertEqual_c1 : Rows.convertEqualRow.wfByText (OpenSpec.ofChange Rows.convertEqualSpec) = true := by kernel_rfl
theorem convertEqual_c2 : ([22, 3, 57, 23].all fun u => !Tryz.prog.wantsStandIn u) = true := by kernel_rfl
theorem convertEqual_c3 : false = Rows.convertEqualRow.goesBy Tryz.prog := by kernel_rfl
theorem convertEqual_card : Rows.ConvertEqualCardSaid :=
 Claim7.holds_tied_plain_at .later [] [.data, .data, .data, .data, .sentinel, .sentinel, .pinned] true (true, "9a7b365347614a0287077179d20768685206a4b5ee48bcf94245b18e3653b2c2") true
   convertEqual_holds (fun _ h => by cases h) convertEqual_c1 (fun _ h => by cases h) convertEqual_row_tie rfl ⟨rfl, rfl⟩ zQd rfl
   (fun f fn hf hfn => by
     obtain rfl : f = 9 := Option.some.inj (convertEqual_named.symm.trans hf) |>.symm
     obtain rfl : fn = Tryz.f9 := (Option.some.inj (Tryz.func9.symm.trans hfn)).symm
     exact ⟨looksIt, fun j t ht => by
       rw [Tryz.params9] at ht
       have hm : t ∈ [22, 3, 57, 23] := by simpa using Array.mem_of_getElem? ht
       exact (show Tryz.prog.wantsStandIn t = false by simpa using List.all_eq_true.1 convertEqual_c2 t hm)⟩)
   convertEqual_c3
end Go.Proofs.YtnkealfaldjipaaGreatDoor
