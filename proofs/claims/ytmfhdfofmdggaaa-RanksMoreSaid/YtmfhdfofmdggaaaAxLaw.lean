/-
  From a contract on a law to its row: it returns true, and its arguments read as they did.
-/
import Derived.Test.YtmfhdfofmdggaaaAxHeap
import Derived.ProofKit
import Derived.OpenShut
import Derived.ReadAgain
import Derived.ChangeSlices
set_option linter.unusedVariables false
set_option linter.unusedSimpArgs false
namespace Go.Ax
open Go.ChangeShapes Go.WideShapes Go.ChangeAt Go.RowKit

section
variable {H : Type} {enc : TypeId × Value → H} {P : Program} {W W' : World}

theorem sameAt_of_heap (hk : ∀ b, b < W.heap.size → W'.heap[b]? = W.heap[b]?) (p : MemPlace) (hp : p.block < W.heap.size) : W.sameAt W' p := by
  cases p with
  | cell b off =>
    show W'.cell? _ = W.cell? _
    exact World.cell?_of_block (hk b hp)
  | map b => exact hk b hp

theorem trodAll_stays {spare : Nat → Bool} {base : Nat} {held : Bool} : ∀ {ts : List TypeId} {vs : List Value} {ds : List (DataW H)} {ps : List MemPlace}, DataW.TrodAll enc P W base spare held ts vs ds ps → (∀ p ∈ ps, W.sameAt W' p) → DataW.TrodAll enc P W' base spare held ts vs ds ps
  | [], [], [], _, h, _ => h
  | _ :: _, _ :: _, _ :: _, _, ⟨p, q, ⟨n, h1⟩, h2, e⟩, hs =>
    ⟨p, q, ⟨n, DataW.trod_carry n _ _ _ h1 (fun x hx => hs x (by rw [e]; exact List.mem_append_left _ hx))⟩, trodAll_stays h2 (fun x hx => hs x (by rw [e]; exact List.mem_append_right _ hx)), e⟩

theorem keptBut_of_heap (ho : W'.os = W.os) (hp : W'.output = W.output) (hk : ∀ b, b < W.heap.size → W'.heap[b]? = W.heap[b]?) (may : MemPlace → Prop) : W.keptBut W' may := by
  refine ⟨ho, hp, fun i hi => ?_⟩
  rw [hk i hi]
  split
  · rename_i h1 h2; rw [h1] at h2; cases h2; exact ⟨rfl, rfl, rfl, fun _ _ => rfl⟩
  · rename_i h1 h2; rw [h1] at h2; cases h2; exact .inr ⟨rfl, rfl⟩
  · rfl

/-- What a law's row asks behind the call. -/
theorem post_true {f : Func} {s : ChangeSpec} {t : TypeId} {apart fresh handsOn : Bool} {args : Array Value} {ds gs : List (DataW H)} {before : List MemPlace}
    (hW : DataW.Whole enc P f.params.toList s.vars apart W args.toList ds gs before) (hv : s.vars = []) (hs : s.fn H ds = { results := [.lit (.bool true)], args := ds, vars := [] })
    (hr : f.resultTypes = #[t]) (ht : P.underlying t = some .bool) (hl : laidOutB P = true) (hm : mapsRowed P = true)
    (hz : ((List.range P.types.size).all fun t => match P.underlying t with | some (.slice e) => decide (0 < P.cellsOf e) | _ => true) = true) (hts : (f.params.toList.all (fun t => decide (t < P.types.size))) = true)
    (ho : W'.os = W.os) (hp : W'.output = W.output) (hk : ∀ b, b < W.heap.size → W'.heap[b]? = W.heap[b]?) :
    s.post enc P f apart fresh handsOn false W args (.bool true) W' := by
  have hlt := hW.lt
  have hW' := hW
  obtain ⟨p, q, hA, hV, hpq, _, _⟩ := hW
  rw [hv] at hV
  have hgs : gs = [] ∧ q = [] := by
    cases gs with
    | nil => exact ⟨rfl, hV⟩
    | cons g r => exact hV.elim
  obtain ⟨rfl, rfl⟩ := hgs
  simp only [List.append_nil] at hpq
  subst hpq
  have hA2 := DataW.TrodAll.respare (spare' := fun b => decide (b < W.heap.size)) (kids_rows hl hm) (slices_full_of P hz) (fun t ht => by simpa using List.all_eq_true.1 hts t ht) hA (fun x hx => by simpa using hlt x hx)
  have hA3 := trodAll_stays (W' := W') hA2 (fun x hx => sameAt_of_heap hk x (hlt x hx))
  refine ⟨ds, [], before, [], before, [], hW', ?_, ?_, ?_, keptBut_of_heap ho hp hk _, fun h => nomatch h⟩
  · rw [List.append_nil, hs, hr]
    exact trodAll_cons_mk (shut_bool ht _) trodAll_mk0
  · rw [List.append_nil, hs]; exact hA3
  · rw [List.append_nil, hs, hv]; exact rfl

theorem vr_ints {t e : TypeId} {k : IntKind} {v : Value} {d : DataW H} {p : List MemPlace} (ht : P.underlying t = some (.slice e)) (he : P.underlying e = some (.int k)) (hc : P.cellsOf e = 1)
    (hv : ∃ a len cap, v = .slice a len cap) (h : DataW.Trod enc P W 0 (fun _ => true) true t v d p) :
    ∃ l : List Int, VR W (fun b => b < W.heap.size) (fun _ => none) (.ro (.ints k l) 0 l.length) v ∧ (∀ n ∈ l, (Lit.int k n).wf = true) ∧ l.length ≤ maxLen := by
  obtain ⟨a0, len0, cap0, rfl⟩ := hv
  obtain ⟨n, h⟩ := h
  rcases open_ints ht he hc h with ⟨hcs, _⟩ | ⟨a, len, cap, zs, hcs, _, hl, hmx, hzl, _, hcell, hwf⟩
  · simp [Value.cells] at hcs
    obtain ⟨rfl, rfl, rfl⟩ := hcs
    exact ⟨[], .ro0 _ _ _ _ _, fun n hn => by simp at hn, Nat.zero_le _⟩
  · simp [Value.cells] at hcs
    obtain ⟨rfl, rfl, rfl⟩ := hcs
    simp only [if_true] at hzl
    have htl : (zs.take len0).length = len0 := by simp; omega
    refine ⟨zs.take len0, ?_, fun n hn => hwf n (List.mem_of_mem_take hn), by omega⟩
    rw [htl]
    cases len0 with
    | zero => exact .ro0 _ _ _ _ _
    | succ m =>
      have h0 := hcell 0 (by omega)
      have ha : a = ⟨a.block, a.off, none⟩ := by
        have hb := h0
        simp only [Addr.add, if_true] at hb
        unfold World.cell? at hb
        split at hb
        · cases hsp : a.spot with
          | none => cases a; simp_all
          | some s => simp [hsp] at hb
        · cases hb
      have hblk : a.block < W.heap.size := by
        rcases Nat.lt_or_ge a.block W.heap.size with hh | hh
        · exact hh
        · rw [ha] at h0
          unfold World.cell? at h0
          have : W.heap[a.block]? = none := by simp [hh]
          simp [Addr.add, this] at h0
      rw [ha]
      refine .ro _ _ _ _ _ _ _ (fun d _ => .int k (zs.getD d 0)) hblk hl (fun d j hd hj => ?_) (fun d j hd hj => ?_) (fun d j _ _ => rfl)
      · have hj0 : j = 0 := by simp only [Cells.sz] at hj; omega
        subst hj0
        have := hcell d (by omega)
        rw [ha, add_plain] at this
        simpa [Cells.sz] using this
      · simp only [Cells.at, Nat.zero_add]
        have e : (zs.take (m + 1)).getD d 0 = zs.getD d 0 := by
          simp only [List.getD]; rw [List.getElem?_take_of_lt hd]
        rw [e]; exact .int _ _ _

/-- A law, called with what is read. -/
theorem law_calls {f : FuncId} {as : List AV} {args : Array Value} (hc : VCall P f as (.bool true)) (hsz : args.size = as.length) (hv : ∀ i, i < as.length → VR W (fun b => b < W.heap.size) (fun _ => none) (as.getD i .any) (args.getD i undef)) :
    Calls P f args W (fun e W' => e = .returned (.bool true) ∧ W'.os = W.os ∧ W'.output = W.output ∧ ∀ b, b < W.heap.size → W'.heap[b]? = W.heap[b]?) := by
  have hr : HR W (fun b => b < W.heap.size) (fun _ => none) [] := ⟨fun h o ho => by simp at ho, fun h h' o o' b s C s' C' q => by simp at q, fun b h => h, fun _ _ => rfl⟩
  refine Calls.mono ((hc []).2 W (fun _ => none) (fun b => b < W.heap.size) args hr (fun h hh => hh) ⟨hsz, hv⟩) fun e W' he => ?_
  obtain ⟨v, r, σ', S', H', rfl, g2, g3, g4, rfl, g6⟩ := he
  have : v = .bool true := by cases g3; rfl
  subst this
  refine ⟨rfl, g4.os, g4.output, fun b hb => g4.block b hb ?_⟩
  rintro ⟨h, o, s, C, q, _⟩
  simp at q
end
end Go.Ax
