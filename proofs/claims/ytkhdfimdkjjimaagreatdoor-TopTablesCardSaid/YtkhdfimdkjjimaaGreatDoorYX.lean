/- TopTables of the given program returns true for every input and leaves its arguments as they were; no conditions. -/
import Derived.Test.YtkhdfimdkjjimaaGreatDoorRows
import Derived.Test.YtkhdfimdkjjimaaGreatDoorTie
import Derived.Test.YtkhdfimdkjjimaaGreatDoorCards
import Derived.LaidMore
import Derived.Lay
import Derived.SevenTiedAt
import Derived.Stop.Joined
import Derived.Stop.ErrReads
import Derived.MakeChecks
import Derived.Test.YtkhdfimdkjjimaaGreatDoorY8
set_option linter.unusedVariables false
set_option linter.unusedSimpArgs false
namespace Go.Proofs.YtkhdfimdkjjimaaGreatDoor
open Go.Ax Go.ChangeShapes Go.WideShapes Go.ChangeAt Go.RowKit
theorem topTables_pin {W : World} (h0 : laidMetH Tryz.prog Rows.topTablesRow.laid W) : pinG W := by
 rw [MakeChecks.laidMetH_plain _ _ _ (by kernel_rfl)] at h0
 have h := h0
 exact ⟨trivial, Lib.tabIs_of_head (k := .u64) (zs := Lib.pow10Tab) (g := 0) (t := 191) (e := 168) (n := 20) (by kernel_rfl) (by kernel_rfl) Tryz.underlying191 Tryz.underlying168 (by kernel_rfl) (by kernel_rfl) (h.tail.tail), trivial⟩
set_option maxRecDepth 100000 in
theorem topTables_lifted (os : Os) (started : os.Started) (H : Type) (enc : TypeId × Value → H) :
 ReturnsInHanded {} Tryz.checked os 3 .any (fun w args => (Rows.topTablesSpec.pre enc Tryz.prog Tryz.f3 Rows.topTablesRow.domain false w args ∧ laidMetH Tryz.prog Rows.topTablesRow.laid w) ∧ sizedMet enc Tryz.prog Tryz.f3 (OpenSpec.ofChange Rows.topTablesSpec) false w args)
  (Rows.topTablesSpec.post enc Tryz.prog Tryz.f3 false true false false) := by
 refine returnsInHanded_of_change_and (C := Tryz.checked) (X := fun w _ => laidMetH Tryz.prog Rows.topTablesRow.laid w) (fun _ _ _ hh h => h.of_heap hh) ownIt started (by kernel_rfl) Tryz.func3
  (ChangeSpec.witness_shaped (enc := enc) (C := Tryz.checked) (os := os) (X := fun w _ => laidMetH Tryz.prog Rows.topTablesRow.laid w) false (World.laidAll Tryz.prog os Rows.topTablesRow.laid) #[.agg #[.string ⟨#[]⟩, .int .i64 0, .int .i64 0, .slice none 0 0, .slice none 0 0, .bool false, .bool false, .slice none 0 0, .int .i64 0, .int .i64 0, .int .i64 0], .slice none 0 0] 8 (World.laidAll_os _ _ _)
   (World.shaped_of_ZipB (by kernel_rfl) (by kernel_rfl)) (by kernel_rfl) (by kernel_rfl) (by kernel_rfl)
   (by rw [MakeChecks.laidMetH_plain _ _ _ (by kernel_rfl)]; exact laidMet_laidAll _ (by kernel_rfl) (by kernel_rfl))) ?_
 intro W base args ds gs before hval0 hW hcnd _ hL _
 have hval : ∀ (j : Nat) t v, Tryz.f3.params[j]? = some t → args[j]? = some v → Value.okWide Tryz.prog W .any base t v := hval0
 have hW' := hW
 obtain ⟨p, q, hA0, hV, rfl, hfz, hnd⟩ := hW
 have hA : DataW.TrodAll enc Tryz.prog W 0 (fun _ => true) true Tryz.f3.params.toList args.toList ds p := hA0
 rw [Tryz.params3] at hA hval
 obtain ⟨v0, vs0, d0, ds0, p0, q0, hargs, rfl, rfl, h0, r0⟩ := trodAll_cons hA
 obtain ⟨v1, vs1, d1, ds1, p1, q1, rfl, rfl, rfl, h1, r1⟩ := trodAll_cons r0
 obtain ⟨rfl, rfl, rfl⟩ := trodAll_nil r1
 obtain rfl : args = #[v0, v1] := by cases args; simp_all
 obtain ⟨rfl, rfl⟩ := trodVars_none hV
 obtain ⟨cs0, rfl, _⟩ := okWide_struct Tryz.underlying26 (hval 0 26 v0 rfl rfl)
 obtain ⟨P0, hm0, hl0⟩ := Rd.agg rdRules h0
 obtain ⟨l1, hl1, _, hm1⟩ := vr_ints Tryz.underlying23 Tryz.underlying3 (by kernel_rfl) (okWide_slice Tryz.underlying23 (hval 1 23 v1 rfl rfl)) h1
 unfold maxLen at hm1
 refine (zOB (zJg P0 l1 hm0 hm1) U (fun i hi => ?_) (pin_up (topTables_pin hL))).mono fun e W' ⟨he, ho, hp, hk⟩ => ⟨_, he, ?_⟩
 ·match i, hi with
  | 0, _ => exact hl0
  | 1, _ => exact hl1
 ·exact zOP (t := 4) hW' U U U Tryz.underlying4 laidIt zNg fullIt (by kernel_rfl) ho hp hk
theorem topTables_j1 : Rows.topTablesRow.wf (OpenSpec.ofChange Rows.topTablesSpec) = true := by kernel_rfl
theorem topTables_j2 : (Rows.topTablesRow.inPlace == Tryz.prog.inPlace 3) = true := by kernel_rfl
theorem topTables_j3 : (Rows.topTablesRow.unfollowed == Tryz.prog.unfollowed 3) = true := by kernel_rfl
theorem topTables_j4 : (Rows.topTablesRow.recurses == Tryz.prog.recurses 3) = true := by kernel_rfl
theorem topTables_j5 : (Rows.topTablesRow.named == Tryz.prog.varsNamed 3) = true := by kernel_rfl
theorem topTables_j6 : (Rows.topTablesRow.lifted == Tryz.prog.liftsFinal) = true := liftIt
theorem topTables_j7 : (Tryz.prog.make == some Rows.topTablesRow.make) = true := makeIt
theorem topTables_j8 : (Rows.topTablesRow.plainKeys == Tryz.prog.plainKeys) = true := plainIt
theorem topTables_joined : joinedFacts Tryz.prog 3 Tryz.f3 Rows.topTablesSpec Rows.topTablesRow = true := by
 unfold joinedFacts
 rw [topTables_j1, laidIt, zNg, stopsIt, knobsIt, topTables_j2, topTables_j3, topTables_j4, topTables_j5, topTables_j8, heardIt, enterIt, topTables_j6, topTables_j7]
 kernel_rfl
theorem topTables_named : Tryz.prog.funcNamed Rows.topTablesRow.func = some 3 := by kernel_rfl
theorem topTables_inst : Tryz.f3.isInstance Tryz.prog Rows.topTablesRow.origin Rows.topTablesRow.targs := of_decide_eq_true (by kernel_rfl)
theorem topTables_wrap : Tryz.f3.isWrapper Tryz.prog Rows.topTablesRow.wrapper Rows.topTablesRow.mainSum := by unfold Func.isWrapper; first | (rw [if_pos (by decide +kernel)]; kernel_rfl) | (rw [if_neg (by decide +kernel)]; exact ⟨rfl, rfl⟩)
theorem topTables_holds : Rows.TopTablesSaid :=
 OpenClaim.holds_of_wide 3 Tryz.f3 rfl rfl rfl rfl rfl rfl rfl ⟨rfl, rfl, rfl, rfl, rfl⟩ rfl rfl rfl rfl rfl topTables_named Tryz.func3 topTables_joined
  topTables_inst topTables_wrap
  (fun os started H enc _ => topTables_lifted os started H enc)
theorem topTables_c1 : Rows.topTablesRow.wfByText (OpenSpec.ofChange Rows.topTablesSpec) = true := by kernel_rfl
theorem topTables_c2 : ([26, 23].all fun u => !Tryz.prog.wantsStandIn u) = true := by kernel_rfl
theorem topTables_c3 : false = Rows.topTablesRow.goesBy Tryz.prog := by kernel_rfl
theorem topTables_card : Rows.TopTablesCardSaid :=
 Claim7.holds_tied_plain_at .later [] [.data, .data, .data] true (true, "d04956e65b91b327675e25521f565e823676404f8caa57188f889227c462b92f") false
  topTables_holds (fun _ h => by cases h) topTables_c1 (fun _ h => by cases h) topTables_row_tie rfl ⟨rfl, rfl⟩ zN9 rfl
  (fun f fn hf hfn => by
   obtain rfl : f = 3 := Option.some.inj (topTables_named.symm.trans hf) |>.symm
   obtain rfl : fn = Tryz.f3 := (Option.some.inj (Tryz.func3.symm.trans hfn)).symm
   exact ⟨looksIt, fun j t ht => by
    rw [Tryz.params3] at ht
    have hm : t ∈ [26, 23] := by simpa using Array.mem_of_getElem? ht
    exact (show Tryz.prog.wantsStandIn t = false by simpa using List.all_eq_true.1 topTables_c2 t hm)⟩)
  topTables_c3
end Go.Proofs.YtkhdfimdkjjimaaGreatDoor
