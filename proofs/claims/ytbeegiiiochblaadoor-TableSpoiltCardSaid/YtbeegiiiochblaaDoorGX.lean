/- TableSpoilt of the given program returns true for every input and leaves its arguments as they were; no conditions. -/
import Derived.Test.YtbeegiiiochblaaDoorRows
import Derived.Test.YtbeegiiiochblaaDoorTie
import Derived.Test.YtbeegiiiochblaaDoorCards
import Derived.LaidMore
import Derived.Lay
import Derived.SevenTiedAt
import Derived.Stop.Joined
import Derived.Stop.ErrReads
import Derived.MakeChecks
import Derived.Test.YtbeegiiiochblaaDoorG3
set_option linter.unusedVariables false
set_option linter.unusedSimpArgs false
namespace Go.Proofs.YtbeegiiiochblaaDoor
open Go.Ax Go.ChangeShapes Go.WideShapes Go.ChangeAt Go.RowKit

theorem ownIt : ownKnob Tryd.prog.godebug = none := by kernel_rfl
theorem laidIt : laidOutB Tryd.prog = true := by kernel_rfl
theorem rowedIt : mapsRowed Tryd.prog = true := by kernel_rfl
theorem fullIt : ((List.range Tryd.prog.types.size).all fun t => match Tryd.prog.underlying t with | some (.slice e) => decide (0 < Tryd.prog.cellsOf e) | _ => true) = true := by kernel_rfl
theorem starIt : "*" ++ "errors.errorString" = "*errors.errorString" := by decide
theorem rowE (u : TypeId) (h : Tryd.prog.typeName? 3 u = some "*errors.errorString") : u = 110 :=
  typeName_ptr_named (nm := "errors.errorString") (by rw [starIt]; kernel_rfl) (by kernel_rfl) (by decide) u (by rw [starIt]; exact h)
theorem tableSpoilt_pin {W : World} (h0 : laidMetH Tryd.prog Rows.tableSpoiltRow.laid W) : pinG W := by
  rw [MakeChecks.laidMetH_plain _ _ _ (by kernel_rfl)] at h0
  have h := h0
  exact ⟨trivial, Lib.tabIs_of_head (k := .u64) (zs := Lib.pow10Tab) (g := 1) (t := 97) (e := 80) (n := 20) (by kernel_rfl) (by kernel_rfl) Tryd.underlying97 Tryd.underlying80 (by kernel_rfl) (by kernel_rfl) (h.tail.tail), (let ⟨a, _, e, _⟩ := laid_sentinel (g := 2) (ti := 49) (te := 112) (ts := 9) (h.tail.tail.tail.tail) (by kernel_rfl) (by kernel_rfl) Tryd.underlying49 rowE Tryd.underlying110 Tryd.underlying112 rfl rfl Tryd.underlying9 (by kernel_rfl) (by kernel_rfl); ⟨_, _, e⟩), (let ⟨a, _, e, _⟩ := laid_sentinel (g := 3) (ti := 49) (te := 112) (ts := 9) (h.tail.tail.tail) (by kernel_rfl) (by kernel_rfl) Tryd.underlying49 rowE Tryd.underlying110 Tryd.underlying112 rfl rfl Tryd.underlying9 (by kernel_rfl) (by kernel_rfl); ⟨_, _, e⟩), trivial⟩

set_option maxRecDepth 100000 in
theorem tableSpoilt_lifted (os : Os) (started : os.Started) (H : Type) (enc : TypeId × Value → H) :
    ReturnsInHanded {} Tryd.checked os 4 .any (fun w args => (Rows.tableSpoiltSpec.pre enc Tryd.prog Tryd.f4 Rows.tableSpoiltRow.domain false w args ∧ laidMetH Tryd.prog Rows.tableSpoiltRow.laid w) ∧ sizedMet enc Tryd.prog Tryd.f4 (OpenSpec.ofChange Rows.tableSpoiltSpec) false w args)
      (Rows.tableSpoiltSpec.post enc Tryd.prog Tryd.f4 false true false false) := by
  refine returnsInHanded_of_change_and (C := Tryd.checked) (X := fun w _ => laidMetH Tryd.prog Rows.tableSpoiltRow.laid w) (fun _ _ _ hh h => h.of_heap hh) ownIt started (by kernel_rfl) Tryd.func4
    (ChangeSpec.witness_shaped (enc := enc) (C := Tryd.checked) (os := os) (X := fun w _ => laidMetH Tryd.prog Rows.tableSpoiltRow.laid w) false (World.laidAll Tryd.prog os Rows.tableSpoiltRow.laid) #[.slice none 0 0, .int .i64 0, .int .u8 0] 8 (World.laidAll_os _ _ _)
      (World.shaped_of_ZipB (by kernel_rfl) (by kernel_rfl)) (by kernel_rfl) (by kernel_rfl) (by kernel_rfl)
      (by rw [MakeChecks.laidMetH_plain _ _ _ (by kernel_rfl)]; exact laidMet_laidAll _ (by kernel_rfl) (by kernel_rfl))) ?_
  intro W base args ds gs before hval0 hW hcnd _ hL _
  have hval : ∀ (j : Nat) t v, Tryd.f4.params[j]? = some t → args[j]? = some v → Value.okWide Tryd.prog W .any base t v := hval0
  have hW' := hW
  obtain ⟨p, q, hA0, hV, rfl, hfz, hnd⟩ := hW
  have hA : DataW.TrodAll enc Tryd.prog W 0 (fun _ => true) true Tryd.f4.params.toList args.toList ds p := hA0
  rw [Tryd.params4] at hA hval
  obtain ⟨v0, vs0, d0, ds0, p0, q0, hargs, rfl, rfl, h0, r0⟩ := trodAll_cons hA
  obtain ⟨v1, vs1, d1, ds1, p1, q1, rfl, rfl, rfl, h1, r1⟩ := trodAll_cons r0
  obtain ⟨v2, vs2, d2, ds2, p2, q2, rfl, rfl, rfl, h2, r2⟩ := trodAll_cons r1
  obtain ⟨rfl, rfl, rfl⟩ := trodAll_nil r2
  obtain rfl : args = #[v0, v1, v2] := by cases args; simp_all
  obtain ⟨rfl, rfl⟩ := trodVars_none hV
  obtain ⟨l0, hl0, _, hm0⟩ := vr_ints Tryd.underlying22 Tryd.underlying3 (by kernel_rfl) (okWide_slice Tryd.underlying22 (hval 0 22 v0 rfl rfl)) h0
  unfold maxLen at hm0
  obtain ⟨n1, rfl, rfl, rfl, hw1⟩ := open_int Tryd.underlying3 (hval 1 3 v1 rfl rfl) h1
  have hl1 : VR W (fun b => b < W.heap.size) (fun _ => none) (.int .i64 n1) (.int .i64 n1) := .int _ _ _
  obtain ⟨n2, rfl, rfl, rfl, hw2⟩ := open_int Tryd.underlying5 (hval 2 5 v2 rfl rfl) h2
  have hl2 : VR W (fun b => b < W.heap.size) (fun _ => none) (.int .u8 n2) (.int .u8 n2) := .int _ _ _
  refine (law_calls (TableSpoilt_law l0 n1 n2 hm0 hw2) rfl (fun i hi => ?_) (pin_up (tableSpoilt_pin hL))).mono fun e W' ⟨he, ho, hp, hk⟩ => ⟨_, he, ?_⟩
  · match i, hi with
    | 0, _ => exact hl0
    | 1, _ => exact hl1
    | 2, _ => exact hl2
  · exact post_true (t := 4) hW' rfl rfl rfl Tryd.underlying4 laidIt rowedIt fullIt (by kernel_rfl) ho hp hk

theorem tableSpoilt_holds : Rows.TableSpoiltSaid :=
  OpenClaim.holds_of_wide 4 Tryd.f4 rfl rfl rfl rfl rfl rfl rfl ⟨rfl, rfl, rfl, rfl, rfl⟩ rfl rfl rfl rfl rfl (by kernel_rfl) Tryd.func4 (by kernel_rfl)
    (of_decide_eq_true (by kernel_rfl)) (by unfold Func.isWrapper; first | (rw [if_pos (by decide +kernel)]; kernel_rfl) | (rw [if_neg (by decide +kernel)]; exact ⟨rfl, rfl⟩))
    (fun os started H enc _ => tableSpoilt_lifted os started H enc)
theorem tableSpoilt_card : Rows.TableSpoiltCardSaid :=
  Claim7.holds_tied_plain_at .later [] [.data, .data, .data, .sentinel, .sentinel] true (true, "77625db888213adcc614416835c6162403920da64ba448daf8bd7eefc4c9a856") true
    tableSpoilt_holds (fun _ h => by cases h) (by kernel_rfl) (fun _ h => by cases h) tableSpoilt_row_tie rfl ⟨rfl, rfl⟩ (by kernel_rfl) rfl
    (fun f fn hf hfn => by
      obtain rfl : f = 4 := Option.some.inj ((show Tryd.prog.funcNamed "gamehall/gamehallkeep2.TableSpoilt" = some 4 by kernel_rfl).symm.trans hf) |>.symm
      obtain rfl : fn = Tryd.f4 := (Option.some.inj (Tryd.func4.symm.trans hfn)).symm
      exact ⟨by kernel_rfl, fun j t ht => by
        rw [Tryd.params4] at ht
        have hm : t ∈ [22, 3, 5] := by simpa using Array.mem_of_getElem? ht
        have hall : ([22, 3, 5].all fun u => !Tryd.prog.wantsStandIn u) = true := by kernel_rfl
        exact (show Tryd.prog.wantsStandIn t = false by simpa using List.all_eq_true.1 hall t hm)⟩)
    (by kernel_rfl)
end Go.Proofs.YtbeegiiiochblaaDoor

