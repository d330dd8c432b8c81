/- MatgameSafe of the given program returns true for every input and leaves its arguments as they were; no conditions. -/
import Derived.Test.YtkncmbklkhjmgaaGreatDoorRows
import Derived.Test.YtkncmbklkhjmgaaGreatDoorTie
import Derived.Test.YtkncmbklkhjmgaaGreatDoorCards
import Derived.LaidMore
import Derived.Lay
import Derived.SevenTiedAt
import Derived.Stop.Joined
import Derived.Stop.ErrReads
import Derived.MakeChecks
import Derived.Test.YtkncmbklkhjmgaaGreatDoorY8
set_option linter.unusedVariables false
set_option linter.unusedSimpArgs false
namespace Go.Proofs.YtkncmbklkhjmgaaGreatDoor
open Go.Ax Go.ChangeShapes Go.WideShapes Go.ChangeAt Go.RowKit
theorem starIt : "*" ++ "errors.errorString" = "*errors.errorString" := by decide
theorem rowE (u : TypeId) (h : Tryz.prog.typeName? 3 u = some "*errors.errorString") : u = 352 :=
 typeName_ptr_named (nm := "errors.errorString") (by rw [starIt]; kernel_rfl) (by kernel_rfl) (by decide) u (by rw [starIt]; exact h)
theorem matgameSafe_pin {W : World} (h0 : laidMetH Tryz.prog Rows.matgameSafeRow.laid W) : pinG W := by
 rw [MakeChecks.laidMetH_plain _ _ _ (by kernel_rfl)] at h0
 have h := h0
 exact ⟨trivial, Lib.tabIs_of_head (k := .u64) (zs := Lib.pow10Tab) (g := 5) (t := 356) (e := 228) (n := 20) (by kernel_rfl) (by kernel_rfl) Tryz.underlying356 Tryz.underlying228 (by kernel_rfl) (by kernel_rfl) (h.tail.tail), (let ⟨a, _, e, _⟩ := laid_sentinel (g := 1) (ti := 163) (te := 354) (ts := 9) (h.tail.tail.tail.tail.tail) (by kernel_rfl) (by kernel_rfl) Tryz.underlying163 rowE Tryz.underlying352 Tryz.underlying354 Z Z Tryz.underlying9 (by kernel_rfl) (by kernel_rfl); ⟨_, _, e⟩), (let ⟨a, _, e, _⟩ := laid_sentinel (g := 2) (ti := 163) (te := 354) (ts := 9) (h.tail.tail.tail.tail) (by kernel_rfl) (by kernel_rfl) Tryz.underlying163 rowE Tryz.underlying352 Tryz.underlying354 Z Z Tryz.underlying9 (by kernel_rfl) (by kernel_rfl); ⟨_, _, e⟩), trivial⟩
set_option maxRecDepth 100000 in
theorem matgameSafe_lifted (os : Os) (started : os.Started) (H : Type) (enc : TypeId × Value → H) :
 ReturnsInHanded {} Tryz.checked os 4 .any (fun w args => (Rows.matgameSafeSpec.pre enc Tryz.prog Tryz.f4 Rows.matgameSafeRow.domain false w args ∧ laidMetH Tryz.prog Rows.matgameSafeRow.laid w) ∧ sizedMet enc Tryz.prog Tryz.f4 (OpenSpec.ofChange Rows.matgameSafeSpec) false w args)
  (Rows.matgameSafeSpec.post enc Tryz.prog Tryz.f4 false true false false) := by
 refine returnsInHanded_of_change_and (C := Tryz.checked) (X := fun w _ => laidMetH Tryz.prog Rows.matgameSafeRow.laid w) (fun _ _ _ hh h => h.of_heap hh) ownIt started (by kernel_rfl) Tryz.func4
  (ChangeSpec.witness_shaped (enc := enc) (C := Tryz.checked) (os := os) (X := fun w _ => laidMetH Tryz.prog Rows.matgameSafeRow.laid w) false (World.laidAll Tryz.prog os Rows.matgameSafeRow.laid) #[.slice none 0 0, .slice none 0 0, .slice none 0 0] 8 (World.laidAll_os _ _ _)
   (World.shaped_of_ZipB (by kernel_rfl) (by kernel_rfl)) (by kernel_rfl) (by kernel_rfl) (by kernel_rfl)
   (by rw [MakeChecks.laidMetH_plain _ _ _ (by kernel_rfl)]; exact laidMet_laidAll _ (by kernel_rfl) (by kernel_rfl))) ?_
 intro W base args ds gs before hval0 hW hcnd _ hL _
 have hval : ∀ (j : Nat) t v, Tryz.f4.params[j]? = some t → args[j]? = some v → Value.okWide Tryz.prog W .any base t v := hval0
 have hW' := hW
 obtain ⟨p, q, hA0, hV, rfl, hfz, hnd⟩ := hW
 have hA : DataW.TrodAll enc Tryz.prog W 0 (fun _ => true) true Tryz.f4.params.toList args.toList ds p := hA0
 rw [Tryz.params4] at hA hval
 obtain ⟨v0, vs0, d0, ds0, p0, q0, hargs, rfl, rfl, h0, r0⟩ := trodAll_cons hA
 obtain ⟨v1, vs1, d1, ds1, p1, q1, rfl, rfl, rfl, h1, r1⟩ := trodAll_cons r0
 obtain ⟨v2, vs2, d2, ds2, p2, q2, rfl, rfl, rfl, h2, r2⟩ := trodAll_cons r1
 obtain ⟨rfl, rfl, rfl⟩ := trodAll_nil r2
 obtain rfl : args = #[v0, v1, v2] := by cases args; simp_all
 obtain ⟨rfl, rfl⟩ := trodVars_none hV
 obtain ⟨ad0, sn0, sc0, rfl⟩ := okWide_slice Tryz.underlying23 (hval 0 23 v0 rfl rfl)
 obtain ⟨l0, ⟨hm0, hx0⟩, hl0⟩ := Rd.one (Rd.slice [] Tryz.underlying23 (by kernel_rfl) rfl (Rd.strs Tryz.underlying28 (by kernel_rfl) Tryz.underlying26)) rfl h0
 obtain ⟨ad1, sn1, sc1, rfl⟩ := okWide_slice Tryz.underlying28 (hval 1 28 v1 rfl rfl)
 obtain ⟨l1, ⟨hm1, hx1⟩, hl1⟩ := Rd.one (Rd.strs Tryz.underlying28 (by kernel_rfl) Tryz.underlying26) rfl h1
 obtain ⟨ad2, sn2, sc2, rfl⟩ := okWide_slice Tryz.underlying28 (hval 2 28 v2 rfl rfl)
 obtain ⟨l2, ⟨hm2, hx2⟩, hl2⟩ := Rd.one (Rd.strs Tryz.underlying28 (by kernel_rfl) Tryz.underlying26) rfl h2
 refine (zQq (MatgameSafe_law l0 l1 l2 ⟨hm0, hx0⟩ ⟨hm1, hx1⟩ ⟨hm2, hx2⟩) Z (fun i hi => ?_) (pin_up (matgameSafe_pin hL))).mono fun e W' ⟨he, ho, hp, hk⟩ => ⟨_, he, ?_⟩
 ·match i, hi with
  | 0, _ => exact hl0
  | 1, _ => exact hl1
  | 2, _ => exact hl2
 ·exact zQ7 (t := 4) hW' Z Z Z Tryz.underlying4 laidIt zP7 fullIt (by kernel_rfl) ho hp hk
theorem matgameSafe_j1 : Rows.matgameSafeRow.wf (OpenSpec.ofChange Rows.matgameSafeSpec) = true := by kernel_rfl
theorem matgameSafe_j2 : (Rows.matgameSafeRow.inPlace == Tryz.prog.inPlace 4) = true := by kernel_rfl
theorem matgameSafe_j3 : (Rows.matgameSafeRow.unfollowed == Tryz.prog.unfollowed 4) = true := by kernel_rfl
theorem matgameSafe_j4 : (Rows.matgameSafeRow.recurses == Tryz.prog.recurses 4) = true := by kernel_rfl
theorem matgameSafe_j5 : (Rows.matgameSafeRow.named == Tryz.prog.varsNamed 4) = true := by kernel_rfl
theorem matgameSafe_j6 : (Rows.matgameSafeRow.lifted == Tryz.prog.liftsFinal) = true := liftIt
theorem matgameSafe_j7 : (Tryz.prog.make == some Rows.matgameSafeRow.make) = true := makeIt
theorem matgameSafe_j8 : (Rows.matgameSafeRow.plainKeys == Tryz.prog.plainKeys) = true := plainIt
theorem matgameSafe_joined : joinedFacts Tryz.prog 4 Tryz.f4 Rows.matgameSafeSpec Rows.matgameSafeRow = true := by
 unfold joinedFacts
 rw [matgameSafe_j1, laidIt, zP7, stopsIt, knobsIt, matgameSafe_j2, matgameSafe_j3, matgameSafe_j4, matgameSafe_j5, matgameSafe_j8, heardIt, enterIt, matgameSafe_j6, matgameSafe_j7]
 kernel_rfl
theorem matgameSafe_named : Tryz.prog.funcNamed Rows.matgameSafeRow.func = some 4 := by kernel_rfl
theorem matgameSafe_inst : Tryz.f4.isInstance Tryz.prog Rows.matgameSafeRow.origin Rows.matgameSafeRow.targs := of_decide_eq_true (by kernel_rfl)
theorem matgameSafe_wrap : Tryz.f4.isWrapper Tryz.prog Rows.matgameSafeRow.wrapper Rows.matgameSafeRow.mainSum := by unfold Func.isWrapper; first | (rw [if_pos (by decide +kernel)]; kernel_rfl) | (rw [if_neg (by decide +kernel)]; exact ⟨rfl, rfl⟩)
theorem matgameSafe_holds : Rows.MatgameSafeSaid :=
 OpenClaim.holds_of_wide 4 Tryz.f4 rfl rfl rfl rfl rfl rfl rfl ⟨rfl, rfl, rfl, rfl, rfl⟩ rfl rfl rfl rfl rfl matgameSafe_named Tryz.func4 matgameSafe_joined
  matgameSafe_inst matgameSafe_wrap
  (fun os started H enc _ => matgameSafe_lifted os started H enc)
theorem matgameSafe_c1 : Rows.matgameSafeRow.wfByText (OpenSpec.ofChange Rows.matgameSafeSpec) = true := by kernel_rfl
theorem matgameSafe_c2 : ([23, 28, 28].all fun u => !Tryz.prog.wantsStandIn u) = true := by kernel_rfl
theorem matgameSafe_c3 : false = Rows.matgameSafeRow.goesBy Tryz.prog := by kernel_rfl
theorem matgameSafe_card : Rows.MatgameSafeCardSaid :=
 Claim7.holds_tied_plain_at .later [] [.data, .data, .data, .data, .sentinel, .sentinel, .pinned] true (true, "3ea313bfc84e18d7a14057297d76a6f07cbc7b38cde80ce9b3cbed387549a276") true
  matgameSafe_holds (fun _ h => by cases h) matgameSafe_c1 (fun _ h => by cases h) matgameSafe_row_tie rfl ⟨rfl, rfl⟩ zQn rfl
  (fun f fn hf hfn => by
   obtain rfl : f = 4 := Option.some.inj (matgameSafe_named.symm.trans hf) |>.symm
   obtain rfl : fn = Tryz.f4 := (Option.some.inj (Tryz.func4.symm.trans hfn)).symm
   exact ⟨looksIt, fun j t ht => by
    rw [Tryz.params4] at ht
    have hm : t ∈ [23, 28, 28] := by simpa using Array.mem_of_getElem? ht
    exact (show Tryz.prog.wantsStandIn t = false by simpa using List.all_eq_true.1 matgameSafe_c2 t hm)⟩)
  matgameSafe_c3
end Go.Proofs.YtkncmbklkhjmgaaGreatDoor
