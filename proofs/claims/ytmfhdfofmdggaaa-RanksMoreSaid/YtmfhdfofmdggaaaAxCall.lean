/-
  Contracts, and how a call uses one.
-/
import Derived.Test.YtmfhdfofmdggaaaAxAppend2
set_option linter.unusedVariables false
set_option linter.unusedSimpArgs false
namespace Go.Ax
open Go.RowKit

def Owned (σ : Nat → Option Blk) (H : AHeap) (b : Nat) : Prop := ∃ h o s C, H[h]? = some (some o) ∧ σ h = some (.at b s C)

def mkCtx (w : World) (S : Nat → Prop) (σ : Nat → Option Blk) (H : AHeap) (fix : Nat → Prop) (R : AV → AHeap → Prop) : Ctx := ⟨w, S, Owned σ H, σ, fix, R⟩

def VRs (w : World) (S : Nat → Prop) (σ : Nat → Option Blk) (args : List AV) (vals : Array Value) : Prop :=
  vals.size = args.length ∧ ∀ i, i < args.length → VR w S σ (args.getD i .any) (vals.getD i undef)

/-- A contract: called on such arguments, over such memory, the function returns a result and leaves memory of which K holds. -/
def ACall (P : Program) (f : FuncId) (args : List AV) (H : AHeap) (fix : Nat → Prop) (K : AV → AHeap → Prop) : Prop :=
  (∃ fn, P.funcs[f]? = some fn ∧ (fn.name == "runtime.NumGoroutine") = false ∧ fn.body.isNone = false) ∧
  ∀ w σ S vals, HR w S σ H → (∀ h, fix h → h < H.length) → VRs w S σ args vals →
    Calls P f vals w (fun e w' => ∃ v r σ' S' H', e = .returned v ∧ HR w' S' σ' H' ∧ VR w' S' σ' r v ∧ Kp (mkCtx w S σ H fix K) w' S' σ' H' ∧ K r H')

section
variable {P : Program} {fn : Func} {c : Ctx} {fr : Fr} {H : AHeap} {k : List It}

theorem ares1_spec {w : World} {a : Act} {σ : Nat → Option Blk} {S : Nat → Prop} {n : Nat} (hr : Rep c w a σ S n fr H) {r : ResultVar} {v : AV} (h : ares1 P fr H r = some v) :
    ∃ x, ((match r with
      | .tmp t => pure (a.tmps.getD t undef)
      | .cell ad t => do loadVar t (← asAddr (a.tmps.getD ad undef)) : Sem Value)).run P w = .ok x w ∧ VR w S σ v x := by
  cases r with
  | tmp t => exact ⟨_, rfl, (hr.slots t v h).2⟩
  | cell t ty =>
    simp only [ares1] at h
    cases h1 : look t fr with
    | none => simp [h1] at h
    | some p =>
      cases p <;> try (simp [h1] at h; done)
      rename_i ob i j
      cases i with
      | succ _ => simp [h1] at h
      | zero => cases j with
        | succ _ => simp [h1] at h
        | zero =>
          simp only [h1] at h
          cases h2 : H[ob]? with
          | none => simp [h2] at h
          | some oo => cases oo with
            | none => simp [h2] at h
            | some o =>
              simp only [h2] at h
              obtain ⟨oty, oc⟩ := o
              cases oc <;> try (simp at h; done)
              rename_i l
              simp only at h
              have h3 := (hr.slots t _ h1).2
              generalize hz : a.tmps.getD t undef = z at h3
              cases h3 with
              | ptr _ _ _ _ b s C hσ =>
                obtain ⟨hs, cur, g1, g2, g3, g4, g5, g6⟩ := hr.obj h2 hσ
                simp only [Cells.sz] at hs g2 g6
                simp only [Cells.len] at g4 g6
                have hcell : ∀ j, j < l.length → ∃ x, w.cell? ⟨b, j, none⟩ = some x ∧ VR w S σ (l.getD j .any) x ∧ x.oneCell' = true := by
                  intro j hj
                  obtain ⟨x, e1, e2, e3⟩ := g6 0 j (by omega) hj
                  refine ⟨x, ?_, e2, e3⟩
                  simp only [Nat.zero_mul, Nat.zero_add] at e1
                  simp [World.cell?, g1, e1]
                have hagg : ∀ inf : TypeInfo, P.info? ty = some inf → Nat.beq inf.size l.length = true → isAggD (P.underlying ty |>.getD .string) = true → (P.underlying ty).isSome = true →
                    ∃ x, (loadVar ty ⟨b, 0, none⟩).run P w = .ok x w ∧ VR w S σ (.agg l) x := by
                  intro inf hinf hsz hag hsome
                  obtain ⟨u, hu⟩ := Option.isSome_iff_exists.1 hsome
                  have hs2 := Nat.eq_of_beq_eq_true hsz
                  let cs : List Value := (List.range l.length).map (fun j => (w.cell? ⟨b, j, none⟩).getD undef)
                  have hl := run_loadCells_list (P := P) w ⟨b, 0, none⟩ cs (fun j v hv => by
                    have hj : j < l.length := by simpa [cs] using (List.getElem?_eq_some_iff.1 hv).1
                    obtain ⟨x, e1, _, _⟩ := hcell j hj
                    simp only [cs, List.getElem?_map, List.getElem?_range hj, Option.map_some, Option.some.injEq] at hv
                    subst hv
                    simp [Addr.add_lit, e1])
                  have hcl : cs.length = inf.size := by simp [cs, hs2]
                  refine ⟨.agg cs.toArray, ?_, .agg _ _ _ (by simp [cs]) (fun j hj => ?_) (fun j hj => ?_)⟩
                  · have hu2 : isAggD u = true := by rw [hu] at hag; exact hag
                    rw [hcl] at hl
                    simp [loadVar, run_isAgg hu, hu2, sizeOf, typeInfo, hinf, hl]
                  · obtain ⟨x, e1, e2, _⟩ := hcell j hj
                    simpa [cs, Array.getD, hj, e1] using e2
                  · obtain ⟨x, e1, _, e3⟩ := hcell j hj
                    simpa [cs, Array.getD, hj, e1] using e3
                have hone : ∀ u, P.underlying ty = some u → isAggD u = false → Nat.beq 1 l.length = true → l[0]? = some v → ∃ x, (loadVar ty ⟨b, 0, none⟩).run P w = .ok x w ∧ VR w S σ v x := by
                  intro u hu hag hsz hv
                  have hs2 := Nat.eq_of_beq_eq_true hsz
                  obtain ⟨x, e1, e2, _⟩ := hcell 0 (by omega)
                  have : l.getD 0 .any = v := by simp [List.getD, hv]
                  rw [this] at e2
                  exact ⟨x, by simp [loadVar, run_isAgg hu, hag, load, Sem.run, e1], e2⟩
                have fin : (∃ x, (loadVar ty ⟨b, 0, none⟩).run P w = .ok x w ∧ VR w S σ v x) → ∃ x, (do loadVar ty (← asAddr (.pointer (some ⟨b, 0 * s + 0, none⟩))) : Sem Value).run P w = .ok x w ∧ VR w S σ v x := by
                  rintro ⟨x, e1, e2⟩
                  exact ⟨x, by simp [asAddr, e1], e2⟩
                show ∃ x, (do loadVar ty (← asAddr (a.tmps.getD t undef)) : Sem Value).run P w = .ok x w ∧ VR w S σ v x
                rw [hz]
                apply fin
                cases hu : P.underlying ty with
                | none => simp [hu] at h
                | some u =>
                  cases hinf : P.info? ty with
                  | none =>
                    cases u <;> simp only [hu, hinf] at h <;> try (cases h; done)
                    all_goals
                      cases hb : Nat.beq 1 l.length with
                      | false => simp [hb] at h
                      | true => simp only [hb, cond_true] at h; exact hone _ hu rfl hb h
                  | some inf =>
                    cases u <;> simp only [hu, hinf] at h
                    case struct =>
                      cases hb : Nat.beq inf.size l.length with
                      | false => simp [hb] at h
                      | true => simp only [hb, cond_true, Option.some.injEq] at h; subst h; exact hagg inf hinf hb (by simp [hu, isAggD]) (by simp [hu])
                    case array =>
                      cases hb : Nat.beq inf.size l.length with
                      | false => simp [hb] at h
                      | true => simp only [hb, cond_true, Option.some.injEq] at h; subst h; exact hagg inf hinf hb (by simp [hu, isAggD]) (by simp [hu])
                    all_goals
                      cases hb : Nat.beq 1 l.length with
                      | false => simp [hb] at h
                      | true => simp only [hb, cond_true] at h; exact hone _ hu rfl hb h

theorem results_spec {w : World} {a : Act} {σ : Nat → Option Blk} {S : Nat → Prop} {n : Nat} (hr : Rep c w a σ S n fr H) {vs : List AV} (h : aresL P fr H fn.results.toList = some vs) :
    ∃ x, (results fn a.tmps).run P w = .ok x w ∧ VR w S σ (tupOf vs) x := by
  have key : ∀ (rs : List ResultVar) (vs : List AV), aresL P fr H rs = some vs → ∃ xs : List Value, (rs.mapM (fun (r : ResultVar) => ((match r with
      | .tmp t => pure (a.tmps.getD t undef)
      | .cell ad t => do loadVar t (← asAddr (a.tmps.getD ad undef))) : Sem Value))).run P w = .ok xs w ∧ xs.length = vs.length ∧ ∀ i, i < vs.length → VR w S σ (vs.getD i .any) (xs.getD i undef) := by
    intro rs
    induction rs with
    | nil => intro vs h; simp [aresL] at h; subst h; exact ⟨[], by simp, rfl, fun i hi => by simp at hi⟩
    | cons r rs ih =>
      intro vs h
      simp only [aresL] at h
      cases h1 : ares1 P fr H r with
      | none => simp [h1] at h
      | some v =>
        cases h2 : aresL P fr H rs with
        | none => simp [h1, h2] at h
        | some vs' =>
          simp [h1, h2] at h
          subst h
          obtain ⟨x, e1, e2⟩ := ares1_spec hr h1
          obtain ⟨xs, i1, i2, i3⟩ := ih vs' h2
          refine ⟨x :: xs, ?_, by simp [i2], fun i hi => ?_⟩
          · rw [List.mapM_cons, Sem.run_bind, e1]
            simp only [Result.andThen_ok, Sem.run_bind, i1, Sem.run_pure]
          · cases i with
            | zero => exact e2
            | succ i => simpa using i3 i (by simpa using hi)
  obtain ⟨xs, e1, e2, e3⟩ := key _ _ h
  refine ⟨if h : xs.toArray.size = 1 then xs.toArray[0] else .tuple xs.toArray, ?_, ?_⟩
  · unfold results
    rw [Array.mapM_eq_mapM_toList]
    simp only [Sem.run_bind, Sem.run_map]
    have key2 : ∀ r : Result (List Value), r = .ok xs w → ((r.andThen fun a w' => Result.ok a.toArray w').andThen fun (a : Array Value) w' => Sem.run P (pure (if h : a.size = 1 then a[0] else Value.tuple a)) w') = Result.ok (if h : xs.toArray.size = 1 then xs.toArray[0] else Value.tuple xs.toArray) w := by
      rintro _ rfl; rfl
    exact key2 _ e1
  · match vs, xs, e2 with
    | [v], [x], _ => exact e3 0 (by simp)
    | [], [], _ => exact .tup _ _ _ rfl (fun i hi => by simp at hi)
    | v1 :: v2 :: r, x1 :: x2 :: q, e2 =>
      have : ¬ (x1 :: x2 :: q).toArray.size = 1 := by simp
      rw [dif_neg this]
      refine .tup _ _ _ (by simpa using e2) (fun i hi => ?_)
      have := e3 i hi
      have hlt : i < (x1 :: x2 :: q).length := by rw [e2]; exact hi
      have e : (x1 :: x2 :: q).toArray.getD i undef = (x1 :: x2 :: q).getD i undef := by
        simp only [Array.getD, List.size_toArray, hlt, dite_true, List.getD, List.getElem?_eq_getElem hlt, Option.getD_some]
        rfl
      rw [e]; exact this

def argsFr : Nat → List AV → Fr
  | _, [] => []
  | i, v :: r => (i, v) :: argsFr (i + 1) r

theorem look_argsFr (args : List AV) : ∀ i t v, look t (argsFr i args) = some v → i ≤ t ∧ t < i + args.length ∧ args.getD (t - i) .any = v := by
  induction args with
  | nil => intro i t v h; simp [argsFr, look] at h
  | cons x r ih =>
    intro i t v h
    simp only [argsFr, look] at h
    by_cases he : t = i
    · subst he
      simp at h
      subst h
      exact ⟨Nat.le_refl _, by simp, by simp⟩
    · simp only [beq_ne he, cond_false] at h
      obtain ⟨h1, h2, h3⟩ := ih (i + 1) t v h
      refine ⟨by omega, by simp; omega, ?_⟩
      rw [show t - i = (t - (i + 1)) + 1 by omega]
      simpa using h3

/-- A contract, out of a walk. -/
theorem acall_of_ax {f : FuncId} {code : Code} {args : List AV} {fix : Nat → Prop} {R : AV → AHeap → Prop} (hf : P.funcs[f]? = some fn) (hb : fn.body = some code) (hn : (fn.name == "runtime.NumGoroutine") = false) (hsz : Nat.ble args.length fn.ntmps = true)
    (h : ∀ c : Ctx, c.R = R → c.fix = fix → Ax P fn c (.code code []) (argsFr 0 args) H) : ACall P f args H fix R := by
  refine ⟨⟨fn, hf, hn, by rw [hb]; rfl⟩, fun w σ S vals hhr hfl hv => ?_⟩
  refine calls_of_wp hf hb ?_
  have hsz' : args.length ≤ fn.ntmps := Nat.le_of_ble_eq_true hsz
  have hrep : Rep (mkCtx w S σ H fix R) w { tmps := vals ++ Array.replicate (fn.ntmps - vals.size) undef, defers := [] } σ S fn.ntmps (argsFr 0 args) H := by
    refine ⟨hhr, ⟨rfl, rfl, rfl, Nat.le_refl _, fun _ _ _ => rfl, fun _ h => h, fun _ h => .inl h, fun _ _ => rfl, hfl, fun h o b s C h1 h2 => .inl ⟨h, o, s, C, h1, h2⟩⟩, rfl, by simp [hv.1]; omega, fun t v hl => ?_⟩
    obtain ⟨_, h2, h3⟩ := look_argsFr args 0 t v hl
    simp only [Nat.zero_add, Nat.sub_zero] at h2 h3
    refine ⟨by omega, ?_⟩
    have := hv.2 t h2
    rw [h3] at this
    have hlt : t < vals.size := by rw [hv.1]; exact h2
    have e : (vals ++ Array.replicate (fn.ntmps - vals.size) undef).getD t undef = vals.getD t undef := by
      simp [Array.getElem?_append, hlt]
    rw [e]; exact this
  refine wp_mono (h (mkCtx w S σ H fix R) rfl rfl w _ σ S hrep) ?_
  rintro e a' w' ⟨σ', S', fr', H', hr', hp⟩
  obtain ⟨he, vs, hvs, hR⟩ := hp
  obtain ⟨x, hx, hvx⟩ := results_spec hr' hvs
  have fin : a'.defers = [] ∧ ∃ v, (results fn a'.tmps).run P w' = .ok v w' ∧ ∃ v_1 r σ'_1 S'_1 H'_1, Ending.returned v = .returned v_1 ∧ HR w' S'_1 σ'_1 H'_1 ∧ VR w' S'_1 σ'_1 r v_1 ∧ Kp (mkCtx w S σ H fix R) w' S'_1 σ'_1 H'_1 ∧ R r H'_1 :=
    ⟨hr'.defers, x, hx, x, tupOf vs, σ', S', H', rfl, hr'.hr, hvx, hr'.kp, hR⟩
  rcases he with rfl | rfl
  · exact fin
  · exact fin

def evs (fr : Fr) : List Operand → Option (List AV)
  | [] => some []
  | x :: r => match ev fr x with
    | some v => match evs fr r with
      | some l => some (v :: l)
      | none => none
    | none => none

theorem evs_spec {w : World} {a : Act} {σ : Nat → Option Blk} {S : Nat → Prop} {n : Nat} (hr : Rep c w a σ S n fr H) : ∀ (xs : List Operand) (l : List AV), evs fr xs = some l → xs.length = l.length ∧ ∀ i, i < l.length → VR w S σ (l.getD i .any) ((xs.map a.eval).getD i undef)
  | [], l, h => by simp [evs] at h; subst h; exact ⟨rfl, fun i hi => by simp at hi⟩
  | x :: r, l, h => by
    simp only [evs] at h
    cases h1 : ev fr x with
    | none => simp [h1] at h
    | some v =>
      cases h2 : evs fr r with
      | none => simp [h1, h2] at h
      | some l' =>
        simp [h1, h2] at h
        subst h
        obtain ⟨i1, i2⟩ := evs_spec hr r l' h2
        refine ⟨by simp [i1], fun i hi => ?_⟩
        cases i with
        | zero => exact hr.evAt h1
        | succ i => simpa using i2 i (by simpa using hi)

/-- Behind a call: the caller's state, in the callee's world. -/
theorem Rep.called {w w' : World} {a : Act} {σ σ' : Nat → Option Blk} {S S' : Nat → Prop} {n : Nat} {H' : AHeap} {fix : Nat → Prop} {K : AV → AHeap → Prop} (hr : Rep c w a σ S n fr H) (hall : ∀ h, h < H.length → fix h) (hhr : HR w' S' σ' H') (hkp : Kp (mkCtx w S σ H fix K) w' S' σ' H') :
    Rep c w' a σ' S' n fr H' := by
  have hσ : ∀ h B, σ h = some B → σ' h = some B := by
    intro h B hB
    have hlt : h < H.length := by
      rcases Nat.lt_or_ge h H.length with hl | hl
      · exact hl
      · rw [hr.hr.dom h hl] at hB; cases hB
    have := hkp.fixed h (hall h hlt)
    rw [this]; exact hB
  have hSO : ∀ b, S b → ¬ Owned σ H b := by
    rintro b hs ⟨h, o, s, C, h1, h2⟩
    exact (hr.obj h1 h2).2.choose_spec.2.2.2.2.1 hs
  have hS : ∀ b, S b → w'.heap[b]? = w.heap[b]? := fun b hs => hkp.block b (hr.hr.small b hs) (hSO b hs)
  refine ⟨hhr, ?_, hr.defers, hr.size, fun t v hl => ⟨(hr.slots t v hl).1, (hr.slots t v hl).2.mono hkp.S1 hS _ hσ⟩⟩
  refine ⟨hkp.os.trans hr.kp.os, hkp.output.trans hr.kp.output, hkp.tape.trans hr.kp.tape, Nat.le_trans hr.kp.size hkp.size, fun b hb ho => ?_, fun b hb => hkp.S1 b (hr.kp.S1 b hb), fun b hb => ?_, fun h hf => ?_, fun h hf => hkp.fixlt h (hall h (hr.kp.fixlt h hf)), fun h o b s C h1 h2 => ?_⟩
  · rw [← hr.kp.block b hb ho]
    have hs1 := hr.kp.size
    refine hkp.block b (by simp only [mkCtx]; omega) ?_
    rintro ⟨h, o, s, C, h1, h2⟩
    rcases hr.kp.own h o b s C h1 h2 with h3 | h3
    · exact ho h3
    · omega
  · rcases hkp.S2 b hb with h1 | h1 | h1
    · exact hr.kp.S2 b h1
    · obtain ⟨h, o, s, C, g1, g2⟩ := h1
      rcases hr.kp.own h o b s C g1 g2 with g3 | g3
      · exact .inr (.inl g3)
      · exact .inr (.inr g3)
    · right; right; have := hr.kp.size; simp only [mkCtx] at h1; omega
  · rw [hkp.fixed h (hall h (hr.kp.fixlt h hf))]
    exact hr.kp.fixed h hf
  · rcases hkp.own h o b s C h1 h2 with ⟨h', o', s', C', g1, g2⟩ | h3
    · exact hr.kp.own h' o' b s' C' g1 g2
    · right; have := hr.kp.size; simp only [mkCtx] at h3; omega

/-- A call. -/
theorem ax_call {all : Array Oper} {d : Option Nat} {g : Operand} {args : List Operand} {ats : Array TypeId} {ty : TypeId} {pos : String} {after : Array Edge} {rest : List Oper} {f : FuncId} {caps as as' : List AV} {fix : Nat → Prop} {K : AV → AHeap → Prop}
    (hg : ev fr g = some (.fn f caps)) (ha : evs fr args = some as) (has : as ++ caps = as') (hcall : ACall P f as' H fix K) (hall : ∀ h, h < H.length → fix h) (hfl : ∀ h, fix h → h < H.length)
    (hk : ∀ r H', K r H' → Ax P fn c (.ops false all rest k) (match d with | some d => (d, r) :: fr | none => fr) H') : Ax P fn c (.ops false all (⟨d, .call { callee := .value g, args := args.toArray, argTypes := ats }, ty, pos, after, none⟩ :: rest) k) fr H := by
  intro hd w a σ S hr
  obtain ⟨hd1, hd2⟩ := dsts_cons hd
  obtain ⟨⟨gfn, hgf, hgn, hgb⟩, hc⟩ := hcall
  subst has
  have h1 := hr.evAt hg
  obtain ⟨e1, e2⟩ := evs_spec hr args as ha
  generalize hz : a.eval g = z at h1
  refine wpList_step (fun K' hK' => ?_)
  simp only [Region.wanted, if_true]
  unfold Oper.wp
  cases h1 with
  | fn _ _ _ vs hl hv =>
    have hrun : (execOp a.eval ⟨d, .call { callee := .value g, args := args.toArray, argTypes := ats }, ty, pos, after, none⟩).run P w = .ok (.enter f ((args.map a.eval).toArray ++ vs)) w := by
      simp only [execOp, resolve, hz, Deferred.ofValue, Sem.run_bind, Sem.run_pure, Result.andThen_ok, invoke, callFunc, List.map_toArray, Array.empty_append, program, Sem.run, hgf]
      simp [hgn, hgb]
    rw [hrun]
    have hargs : VRs w S σ (as ++ caps) ((args.map a.eval).toArray ++ vs) := by
      refine ⟨by simp [e1, hl], fun i hi => ?_⟩
      simp only [List.length_append] at hi
      by_cases hlt : i < as.length
      · have := e2 i hlt
        have hlt' : i < args.length := by omega
        have ea : (as ++ caps).getD i .any = as.getD i .any := by simp [List.getD, List.getElem?_append, hlt]
        have eb : ((args.map a.eval).toArray ++ vs).getD i undef = (args.map a.eval).getD i undef := by simp [Array.getElem?_append, hlt', List.getD]
        rw [ea, eb]; exact this
      · have := hv (i - as.length) (by omega)
        have hnl : ¬ i < args.length := by omega
        have ea : (as ++ caps).getD i .any = caps.getD (i - as.length) .any := by simp [List.getD, List.getElem?_append, hlt]
        have eb : ((args.map a.eval).toArray ++ vs).getD i undef = vs.getD (i - as.length) undef := by simp [Array.getElem?_append, e1, hlt]
        rw [ea, eb]; exact this
    refine Calls.mono (hc w σ S _ hr.hr hfl hargs) ?_
    rintro e w' ⟨v, r, σ', S', H', rfl, g1, g2, g3, g4⟩
    have hrep := hr.called hall g1 g3
    refine hK' _ _ ?_
    cases d with
    | none => exact hk r H' g4 hd2 w' _ σ' S' hrep
    | some d => exact hk r H' g4 hd2 w' _ σ' S' (hrep.put g2 (hd1 d rfl))
end
end Go.Ax
