/- ConvertBack of the given program returns true for every input and leaves its arguments as they were; no conditions. -/
import Derived.Test.YtnkealfaldjipaaGreatDoorRows
import Derived.Test.YtnkealfaldjipaaGreatDoorTie
import Derived.Test.YtnkealfaldjipaaGreatDoorCards
import Derived.LaidMore
import Derived.Lay
import Derived.SevenTiedAt
import Derived.Stop.Joined
import Derived.Stop.ErrReads
import Derived.MakeChecks
import Derived.Test.YtnkealfaldjipaaGreatDoorY6
set_option linter.unusedVariables false
set_option linter.unusedSimpArgs false
namespace Go.Proofs.YtnkealfaldjipaaGreatDoor
open Go.Ax Go.ChangeShapes Go.WideShapes Go.ChangeAt Go.RowKit
theorem convertBack_pin {W : World} (h0 : laidMetH Tryz.prog Rows.convertBackRow.laid W) : pinG W := by
 rw [MakeChecks.laidMetH_plain _ _ _ (by kernel_rfl)] at h0
 have h := h0
 exact ⟨trivial, Lib.tabIs_of_head (k := .u64) (zs := Lib.pow10Tab) (g := 5) (t := 337) (e := 229) (n := 20) (by kernel_rfl) (by kernel_rfl) Tryz.underlying337 Tryz.underlying229 (by kernel_rfl) (by kernel_rfl) (h.tail.tail), trivial⟩
set_option maxRecDepth 100000 in
theorem convertBack_lifted (os : Os) (started : os.Started) (H : Type) (enc : TypeId × Value → H) :
   ReturnsInHanded {} Tryz.checked os 8 .any (fun w args => (Rows.convertBackSpec.pre enc Tryz.prog Tryz.f8 Rows.convertBackRow.domain false w args ∧ laidMetH Tryz.prog Rows.convertBackRow.laid w) ∧ sizedMet enc Tryz.prog Tryz.f8 (OpenSpec.ofChange Rows.convertBackSpec) false w args)
     (Rows.convertBackSpec.post enc Tryz.prog Tryz.f8 false true false false) := by
 refine returnsInHanded_of_change_and (C := Tryz.checked) (X := fun w _ => laidMetH Tryz.prog Rows.convertBackRow.laid w) (fun _ _ _ hh h => h.of_heap hh) ownIt started (by kernel_rfl) Tryz.func8
   (ChangeSpec.witness_shaped (enc := enc) (C := Tryz.checked) (os := os) (X := fun w _ => laidMetH Tryz.prog Rows.convertBackRow.laid w) false (World.laidAll Tryz.prog os Rows.convertBackRow.laid) #[.slice none 0 0, .int .i64 0, .slice none 0 0] 8 (World.laidAll_os _ _ _)
     (World.shaped_of_ZipB (by kernel_rfl) (by kernel_rfl)) (by kernel_rfl) (by kernel_rfl) (by kernel_rfl)
     (by rw [MakeChecks.laidMetH_plain _ _ _ (by kernel_rfl)]; exact laidMet_laidAll _ (by kernel_rfl) (by kernel_rfl))) ?_
 intro W base args ds gs before hval0 hW hcnd hZ hL _
 have hval : ∀ (j : Nat) t v, Tryz.f8.params[j]? = some t → args[j]? = some v → Value.okWide Tryz.prog W .any base t v := hval0
 have hW' := hW
 obtain ⟨p, q, hA0, hV, rfl, hfz, hnd⟩ := hW
 have hA : DataW.TrodAll enc Tryz.prog W 0 (fun _ => true) true Tryz.f8.params.toList args.toList ds p := hA0
 rw [Tryz.params8] at hA hval
 obtain ⟨v0, vs0, d0, ds0, p0, q0, hargs, rfl, rfl, h0, r0⟩ := trodAll_cons hA
 obtain ⟨v1, vs1, d1, ds1, p1, q1, rfl, rfl, rfl, h1, r1⟩ := trodAll_cons r0
 obtain ⟨v2, vs2, d2, ds2, p2, q2, rfl, rfl, rfl, h2, r2⟩ := trodAll_cons r1
 obtain ⟨rfl, rfl, rfl⟩ := trodAll_nil r2
 obtain rfl : args = #[v0, v1, v2] := by cases args; simp_all
 obtain ⟨rfl, rfl⟩ := trodVars_none hV
 obtain ⟨ad0, sn0, sc0, rfl⟩ := okWide_slice Tryz.underlying22 (hval 0 22 v0 rfl rfl)
 obtain ⟨l0, hm0, hl0⟩ := Rd.one (Rd.slice Go.Ax.Rt.node0 Tryz.underlying22 (by kernel_rfl) rfl rdNode) rfl h0
 obtain ⟨n1, rfl, rfl, rfl, hw1⟩ := open_int Tryz.underlying3 (hval 1 3 v1 rfl rfl) h1
 have hl1 : VR W (fun b => b < W.heap.size) (fun _ => none) (.int .i64 n1) (.int .i64 n1) := .int _ _ _
 obtain ⟨ad2, sn2, sc2, rfl⟩ := okWide_slice Tryz.underlying23 (hval 2 23 v2 rfl rfl)
 obtain ⟨l2, hm2, hl2⟩ := Rd.one (Rd.slice Go.Ax.Rt.ch0 Tryz.underlying23 (by kernel_rfl) rfl rdChoice) rfl h2
 have hz2 := zQ7 (b := 32) hZ (j := 2) rfl rfl Tryz.underlying23 (by kernel_rfl) h2 hl2
 unfold reachBytes at hz2
 refine (zQI (zJE l0 n1 l2 hm0 hm2 (by omega)) rfl (fun i hi => ?_) (pin_up (convertBack_pin hL))).mono fun e W' ⟨he, ho, hp, hk⟩ => ⟨_, he, ?_⟩
 · match i, hi with
   | 0, _ => exact hl0
   | 1, _ => exact hl1
   | 2, _ => exact hl2
 · exact zQ3 (t := 4) hW' rfl rfl rfl Tryz.underlying4 laidIt zPE fullIt (by kernel_rfl) ho hp hk
theorem convertBack_j1 : Rows.convertBackRow.wf (OpenSpec.ofChange Rows.convertBackSpec) = true := by kernel_rfl
theorem convertBack_j2 : (Rows.convertBackRow.inPlace == Tryz.prog.inPlace 8) = true := by kernel_rfl
theorem convertBack_j3 : (Rows.convertBackRow.unfollowed == Tryz.prog.unfollowed 8) = true := by kernel_rfl
theorem convertBack_j4 : (Rows.convertBackRow.recurses == Tryz.prog.recurses 8) = true := by kernel_rfl
theorem convertBack_j5 : (Rows.convertBackRow.named == Tryz.prog.varsNamed 8) = true := by kernel_rfl
theorem convertBack_j6 : (Rows.convertBackRow.lifted == Tryz.prog.liftsFinal) = true := liftIt
theorem convertBack_j7 : (Tryz.prog.make == some Rows.convertBackRow.make) = true := makeIt
theorem convertBack_j8 : (Rows.convertBackRow.plainKeys == Tryz.prog.plainKeys) = true := plainIt
theorem convertBack_joined : joinedFacts Tryz.prog 8 Tryz.f8 Rows.convertBackSpec Rows.convertBackRow = true := by
 unfold joinedFacts
 rw [convertBack_j1, laidIt, zPE, stopsIt, knobsIt, convertBack_j2, convertBack_j3, convertBack_j4, convertBack_j5, convertBack_j8, heardIt, enterIt, convertBack_j6, convertBack_j7]
 kernel_rfl
theorem convertBack_named : Tryz.prog.funcNamed Rows.convertBackRow.func = some 8 := by kernel_rfl
theorem convertBack_inst : Tryz.f8.isInstance Tryz.prog Rows.convertBackRow.origin Rows.convertBackRow.targs := of_decide_eq_true (by kernel_rfl)
theorem convertBack_wrap : Tryz.f8.isWrapper Tryz.prog Rows.convertBackRow.wrapper Rows.convertBackRow.mainSum := by unfold Func.isWrapper; first | (rw [if_pos (by decide +kernel)]; kernel_rfl) | (rw [if_neg (by decide +kernel)]; exact ⟨rfl, rfl⟩)
theorem convertBack_holds : Rows.ConvertBackSaid :=
 OpenClaim.holds_of_wide 8 Tryz.f8 rfl rfl rfl rfl rfl rfl rfl ⟨rfl, rfl, rfl, rfl, rfl⟩ rfl rfl rfl rfl rfl convertBack_named Tryz.func8 convertBack_joined
   convertBack_inst convertBack_wrap
   (fun os started H enc _ => convertBack_lifted os started H enc)
theorem convertBack_c1 : Rows.convertBackRow.wfByText (OpenSpec.ofChange Rows.convertBackSpec) = true := by kernel_rfl
theorem convertBack_c2 : ([22, 3, 23].all fun u => !Tryz.prog.wantsStandIn u) = true := by kernel_rfl
theorem convertBack_c3 : false = Rows.convertBackRow.goesBy Tryz.prog := by kernel_rfl
theorem convertBack_card : Rows.ConvertBackCardSaid :=
 Claim7.holds_tied_plain_at .later [] [.data, .data, .data, .data, .sentinel, .sentinel, .pinned] true (true, "9a7b365347614a0287077179d20768685206a4b5ee48bcf94245b18e3653b2c2") true
   convertBack_holds (fun _ h => by cases h) convertBack_c1 (fun _ h => by cases h) convertBack_row_tie rfl ⟨rfl, rfl⟩ zQ9 rfl
   (fun f fn hf hfn => by
     obtain rfl : f = 8 := Option.some.inj (convertBack_named.symm.trans hf) |>.symm
     obtain rfl : fn = Tryz.f8 := (Option.some.inj (Tryz.func8.symm.trans hfn)).symm
     exact ⟨looksIt, fun j t ht => by
       rw [Tryz.params8] at ht
       have hm : t ∈ [22, 3, 23] := by simpa using Array.mem_of_getElem? ht
       exact (show Tryz.prog.wantsStandIn t = false by simpa using List.all_eq_true.1 convertBack_c2 t hm)⟩)
   convertBack_c3
end Go.Proofs.YtnkealfaldjipaaGreatDoor
