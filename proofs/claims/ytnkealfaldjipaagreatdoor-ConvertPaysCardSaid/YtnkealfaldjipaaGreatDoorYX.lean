/- ConvertPays of the given program returns true for every input and leaves its arguments as they were; no conditions. -/
import Derived.Test.YtnkealfaldjipaaGreatDoorRows
import Derived.Test.YtnkealfaldjipaaGreatDoorTie
import Derived.Test.YtnkealfaldjipaaGreatDoorCards
import Derived.LaidMore
import Derived.Lay
import Derived.SevenTiedAt
import Derived.Stop.Joined
import Derived.Stop.ErrReads
import Derived.MakeChecks
import Derived.Test.YtnkealfaldjipaaGreatDoorY6
set_option linter.unusedVariables false
set_option linter.unusedSimpArgs false
namespace Go.Proofs.YtnkealfaldjipaaGreatDoor
open Go.Ax Go.ChangeShapes Go.WideShapes Go.ChangeAt Go.RowKit
theorem convertPays_pin {W : World} (h0 : laidMetH Tryz.prog Rows.convertPaysRow.laid W) : pinG W := by
 rw [MakeChecks.laidMetH_plain _ _ _ (by kernel_rfl)] at h0
 have h := h0
 exact ⟨trivial, Lib.tabIs_of_head (k := .u64) (zs := Lib.pow10Tab) (g := 5) (t := 337) (e := 229) (n := 20) (by kernel_rfl) (by kernel_rfl) Tryz.underlying337 Tryz.underlying229 (by kernel_rfl) (by kernel_rfl) (h.tail.tail), trivial⟩
set_option maxRecDepth 100000 in
theorem convertPays_lifted (os : Os) (started : os.Started) (H : Type) (enc : TypeId × Value → H) :
   ReturnsInHanded {} Tryz.checked os 10 .any (fun w args => (Rows.convertPaysSpec.pre enc Tryz.prog Tryz.f10 Rows.convertPaysRow.domain false w args ∧ laidMetH Tryz.prog Rows.convertPaysRow.laid w) ∧ sizedMet enc Tryz.prog Tryz.f10 (OpenSpec.ofChange Rows.convertPaysSpec) false w args)
     (Rows.convertPaysSpec.post enc Tryz.prog Tryz.f10 false true false false) := by
 refine returnsInHanded_of_change_and (C := Tryz.checked) (X := fun w _ => laidMetH Tryz.prog Rows.convertPaysRow.laid w) (fun _ _ _ hh h => h.of_heap hh) ownIt started (by kernel_rfl) Tryz.func10
   (ChangeSpec.witness_shaped (enc := enc) (C := Tryz.checked) (os := os) (X := fun w _ => laidMetH Tryz.prog Rows.convertPaysRow.laid w) false (World.laidAll Tryz.prog os Rows.convertPaysRow.laid) #[.slice none 0 0, .int .i64 0, .slice none 0 0, .slice none 0 0] 8 (World.laidAll_os _ _ _)
     (World.shaped_of_ZipB (by kernel_rfl) (by kernel_rfl)) (by kernel_rfl) (by kernel_rfl) (by kernel_rfl)
     (by rw [MakeChecks.laidMetH_plain _ _ _ (by kernel_rfl)]; exact laidMet_laidAll _ (by kernel_rfl) (by kernel_rfl))) ?_
 intro W base args ds gs before hval0 hW hcnd hZ hL _
 have hval : ∀ (j : Nat) t v, Tryz.f10.params[j]? = some t → args[j]? = some v → Value.okWide Tryz.prog W .any base t v := hval0
 have hW' := hW
 obtain ⟨p, q, hA0, hV, rfl, hfz, hnd⟩ := hW
 have hA : DataW.TrodAll enc Tryz.prog W 0 (fun _ => true) true Tryz.f10.params.toList args.toList ds p := hA0
 rw [Tryz.params10] at hA hval
 obtain ⟨v0, vs0, d0, ds0, p0, q0, hargs, rfl, rfl, h0, r0⟩ := trodAll_cons hA
 obtain ⟨v1, vs1, d1, ds1, p1, q1, rfl, rfl, rfl, h1, r1⟩ := trodAll_cons r0
 obtain ⟨v2, vs2, d2, ds2, p2, q2, rfl, rfl, rfl, h2, r2⟩ := trodAll_cons r1
 obtain ⟨v3, vs3, d3, ds3, p3, q3, rfl, rfl, rfl, h3, r3⟩ := trodAll_cons r2
 obtain ⟨rfl, rfl, rfl⟩ := trodAll_nil r3
 obtain rfl : args = #[v0, v1, v2, v3] := by cases args; simp_all
 obtain ⟨rfl, rfl⟩ := trodVars_none hV
 obtain ⟨ad0, sn0, sc0, rfl⟩ := okWide_slice Tryz.underlying22 (hval 0 22 v0 rfl rfl)
 obtain ⟨l0, hm0, hl0⟩ := Rd.one (Rd.slice Go.Ax.Rt.node0 Tryz.underlying22 (by kernel_rfl) rfl rdNode) rfl h0
 obtain ⟨n1, rfl, rfl, rfl, hw1⟩ := open_int Tryz.underlying3 (hval 1 3 v1 rfl rfl) h1
 have hl1 : VR W (fun b => b < W.heap.size) (fun _ => none) (.int .i64 n1) (.int .i64 n1) := .int _ _ _
 obtain ⟨ad2, sn2, sc2, rfl⟩ := okWide_slice Tryz.underlying23 (hval 2 23 v2 rfl rfl)
 obtain ⟨l2, hm2, hl2⟩ := Rd.one (Rd.slice Go.Ax.Rt.ch0 Tryz.underlying23 (by kernel_rfl) rfl zNA) rfl h2
 obtain ⟨ad3, sn3, sc3, rfl⟩ := okWide_slice Tryz.underlying23 (hval 3 23 v3 rfl rfl)
 obtain ⟨l3, hm3, hl3⟩ := Rd.one (Rd.slice Go.Ax.Rt.ch0 Tryz.underlying23 (by kernel_rfl) rfl zNA) rfl h3
 have hz2 := zLi (b := 32) hZ (j := 2) rfl rfl Tryz.underlying23 (by kernel_rfl) h2 hl2
 unfold reachBytes at hz2
 have hz3 := zLi (b := 32) hZ (j := 3) rfl rfl Tryz.underlying23 (by kernel_rfl) h3 hl3
 unfold reachBytes at hz3
 refine (zRo (zJV l0 n1 l2 l3 hm0 hm2 hm3 (by omega) (by omega)) Y (fun i hi => ?_) (pin_up (convertPays_pin hL))).mono fun e W' ⟨he, ho, hp, hk⟩ => ⟨_, he, ?_⟩
 · match i, hi with
   | 0, _ => exact hl0
   | 1, _ => exact hl1
   | 2, _ => exact hl2
   | 3, _ => exact hl3
 · exact zRq (t := 4) hW' Y Y Y Tryz.underlying4 laidIt zQN fullIt (by kernel_rfl) ho hp hk
theorem convertPays_j1 : Rows.convertPaysRow.wf (OpenSpec.ofChange Rows.convertPaysSpec) = true := by kernel_rfl
theorem convertPays_j2 : (Rows.convertPaysRow.inPlace == Tryz.prog.inPlace 10) = true := by kernel_rfl
theorem convertPays_j3 : (Rows.convertPaysRow.unfollowed == Tryz.prog.unfollowed 10) = true := by kernel_rfl
theorem convertPays_j4 : (Rows.convertPaysRow.recurses == Tryz.prog.recurses 10) = true := by kernel_rfl
theorem convertPays_j5 : (Rows.convertPaysRow.named == Tryz.prog.varsNamed 10) = true := by kernel_rfl
theorem convertPays_j6 : (Rows.convertPaysRow.lifted == Tryz.prog.liftsFinal) = true := liftIt
theorem convertPays_j7 : (Tryz.prog.make == some Rows.convertPaysRow.make) = true := makeIt
theorem convertPays_j8 : (Rows.convertPaysRow.plainKeys == Tryz.prog.plainKeys) = true := plainIt
theorem convertPays_joined : joinedFacts Tryz.prog 10 Tryz.f10 Rows.convertPaysSpec Rows.convertPaysRow = true := by
 unfold joinedFacts
 rw [convertPays_j1, laidIt, zQN, stopsIt, knobsIt, convertPays_j2, convertPays_j3, convertPays_j4, convertPays_j5, convertPays_j8, heardIt, enterIt, convertPays_j6, convertPays_j7]
 kernel_rfl
theorem convertPays_named : Tryz.prog.funcNamed Rows.convertPaysRow.func = some 10 := by kernel_rfl
theorem convertPays_inst : Tryz.f10.isInstance Tryz.prog Rows.convertPaysRow.origin Rows.convertPaysRow.targs := of_decide_eq_true (by kernel_rfl)
theorem convertPays_wrap : Tryz.f10.isWrapper Tryz.prog Rows.convertPaysRow.wrapper Rows.convertPaysRow.mainSum := by unfold Func.isWrapper; first | (rw [if_pos (by decide +kernel)]; kernel_rfl) | (rw [if_neg (by decide +kernel)]; exact ⟨rfl, rfl⟩)
theorem convertPays_holds : Rows.ConvertPaysSaid :=
 OpenClaim.holds_of_wide 10 Tryz.f10 rfl rfl rfl rfl rfl rfl rfl ⟨rfl, rfl, rfl, rfl, rfl⟩ rfl rfl rfl rfl rfl convertPays_named Tryz.func10 convertPays_joined
   convertPays_inst convertPays_wrap
   (fun os started H enc _ => convertPays_lifted os started H enc)
theorem convertPays_c1 : Rows.convertPaysRow.wfByText (OpenSpec.ofChange Rows.convertPaysSpec) = true := by kernel_rfl
theorem convertPays_c2 : ([22, 3, 23, 23].all fun u => !Tryz.prog.wantsStandIn u) = true := by kernel_rfl
theorem convertPays_c3 : false = Rows.convertPaysRow.goesBy Tryz.prog := by kernel_rfl
theorem convertPays_card : Rows.ConvertPaysCardSaid :=
 Claim7.holds_tied_plain_at .later [] [.data, .data, .data, .data, .sentinel, .sentinel, .pinned] true (true, "9a7b365347614a0287077179d20768685206a4b5ee48bcf94245b18e3653b2c2") true
   convertPays_holds (fun _ h => by cases h) convertPays_c1 (fun _ h => by cases h) convertPays_row_tie rfl ⟨rfl, rfl⟩ zRZ rfl
   (fun f fn hf hfn => by
     obtain rfl : f = 10 := Option.some.inj (convertPays_named.symm.trans hf) |>.symm
     obtain rfl : fn = Tryz.f10 := (Option.some.inj (Tryz.func10.symm.trans hfn)).symm
     exact ⟨looksIt, fun j t ht => by
       rw [Tryz.params10] at ht
       have hm : t ∈ [22, 3, 23, 23] := by simpa using Array.mem_of_getElem? ht
       exact (show Tryz.prog.wantsStandIn t = false by simpa using List.all_eq_true.1 convertPays_c2 t hm)⟩)
   convertPays_c3
end Go.Proofs.YtnkealfaldjipaaGreatDoor
