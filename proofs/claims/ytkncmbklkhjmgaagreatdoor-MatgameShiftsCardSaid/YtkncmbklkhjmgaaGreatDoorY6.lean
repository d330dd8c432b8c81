import Derived.Test.YtkncmbklkhjmgaaGreatDoorY5
set_option linter.unusedVariables false
set_option linter.unusedSimpArgs false
set_option maxRecDepth 100000
set_option maxHeartbeats 4000000
namespace Go.Ax
variable [Pins]
open Go.RowKit
/-- Does operation j wait, at last, for operation i? -/
def zNW (all : Array Oper) (idx : List Nat) : Nat → Nat → Nat → Bool
 | 0, _, _ => false
 | n + 1, j, i => match all[j]? with
  | some o => o.after.toList.any (fun e => Region.binds .any e && Nat.beq e.on i) || o.after.toList.any (fun e => Region.binds .any e && (idx.contains e.on && zNW all idx n e.on i))
  | none => false
theorem zLZ {cur : Array Bool} {i : Nat} (h : cur.getD i false = true) : cur.getD i true = true := by
 have _p := ‹Pins›
 unfold Array.getD at h ⊢
 split at h
 ·rename_i q
  rw [dif_pos q]; exact h
 ·cases h
theorem zHv {all : Array Oper} {idx : List Nat} {cur : Array Bool} (hcl : ∀ m' ∈ idx, cur.getD m' true = true → ∀ o, all[m']? = some o → ∀ e ∈ o.after, Region.binds .any e = true → cur.getD e.on false = true) :
 ∀ (n j i : Nat), zNW all idx n j i = true → (∀ o, all[j]? = some o → ∀ e ∈ o.after, Region.binds .any e = true → cur.getD e.on false = true) → cur.getD i true = true
 | 0, _, _, h, _ => by cases h
 | n + 1, j, i, h, hd => by
  have _p := ‹Pins›
  rw [zNW] at h
  split at h
  ·rename_i o ho
   rw [Bool.or_eq_true] at h
   rcases h with h | h
   ·obtain ⟨e, he1, he2⟩ := List.any_eq_true.1 h
    rw [Bool.and_eq_true] at he2
    have h3 := hd o ho e (Array.mem_toList_iff.1 he1) he2.1
    rw [Nat.eq_of_beq_eq_true he2.2] at h3
    exact zLZ h3
   ·obtain ⟨e, he1, he2⟩ := List.any_eq_true.1 h
    simp only [Bool.and_eq_true] at he2
    have h3 := zLZ (hd o ho e (Array.mem_toList_iff.1 he1) he2.1)
    have hm : e.on ∈ idx := by simpa using he2.2.1
    exact zHv hcl n e.on i he2.2.2 (hcl e.on hm h3)
  ·cases h
theorem zNx {cur : Array Bool} {i j : Nat} (h : cur.getD j false = true) : (cur.setIfInBounds i true).getD j false = true := by
 have _p := ‹Pins›
 simp only [Array.getD_eq_getD_getElem?, Array.getElem?_setIfInBounds] at h ⊢
 split
 ·split
  ·rfl
  ·rename_i h1 h2
   subst h1
   rw [Array.getElem?_eq_none (by omega)] at h
   cases h
 ·exact h
theorem zLN {all : Array Oper} {idx : List Nat} {cur : Array Bool} {i : Nat} (_hi : i ∈ idx) (hcl : ∀ m' ∈ idx, cur.getD m' true = true → ∀ o, all[m']? = some o → ∀ e ∈ o.after, Region.binds .any e = true → cur.getD e.on false = true)
 (hd : ∀ o, all[i]? = some o → ∀ e ∈ o.after, Region.binds .any e = true → cur.getD e.on false = true) :
 ∀ m' ∈ idx, (cur.setIfInBounds i true).getD m' true = true → ∀ o, all[m']? = some o → ∀ e ∈ o.after, Region.binds .any e = true → (cur.setIfInBounds i true).getD e.on false = true := by
 have _p := ‹Pins›
 intro m' hm' hu o ho e he hb
 by_cases h : m' = i
 ·subst h
  exact zNx (hd o ho e he hb)
 ·refine zNx (hcl m' hm' ?_ o ho e he hb)
  have h' : ¬ i = m' := fun q => h q.symm
  simpa [Array.getD_eq_getD_getElem?, Array.getElem?_setIfInBounds, h'] using hu
/-- May these operations run in any order, ahead of all others? -/
def okRunT (all : Array Oper) (listed : Array Bool) (idx : List Nat) (k0 : List Nat) : Bool :=
 (idx.all fun i => !listed.getD i true && (match all[i]? with
  | some o => (match o.dst with | some d => !k0.contains d | none => false) && o.after.toList.all (fun e => !Region.binds .any e || (Nat.blt e.on i && (idx.contains e.on || listed.getD e.on false)))
  | none => false)) &&
 ((List.range all.size).all fun j => idx.contains j || listed.getD j true || idx.all (fun i => zNW all idx (idx.length + 1) j i)) &&
 (idx.all fun i => idx.all fun j => Nat.beq i j || !(match all[i]?, all[j]? with | some o, some o' => o.dst == o'.dst | _, _ => false))
section
variable {P : Program} {fn : Func} {c : Ctx} {fr : Fr} {H : zN} {k : List It}
theorem zCq {all : Array Oper} {fuel : Nat} {listed listed' : Array Bool} (idx : List Nat) (K0 : Fr) (hK : zCD fr K0) (hok : okRunT all listed idx (K0.map (·.1)) = true) (hnd : idx.Nodup) (hd : zDR fn.ntmps all.toList = true) (hl : zGQ listed idx = listed')
 (h : zED P fn c H all K0 idx [] (fun st => Ax P fn c (.any all fuel listed' k) (st.map (·.2) ++ K0) H)) : Ax P fn c (.any all (fuel + idx.length) listed k) fr H := by
 obtain ⟨st, hG, hidx, hst⟩ := zGM h (fun s hs => by simp at hs)
 rw [List.map_nil, List.append_nil] at hidx
 clear h
 unfold okRunT at hok
 simp only [Bool.and_eq_true] at hok
 obtain ⟨⟨ok1, ok2⟩, ok3⟩ := hok
 rw [List.all_eq_true] at ok1 ok2 ok3
 have hmem : ∀ i, i ∈ idx ↔ ∃ s ∈ st, s.1 = i := fun i => by
  have : i ∈ idx.reverse ↔ ∃ s ∈ st, s.1 = i := by rw [← hidx]; simp
  rw [← this, List.mem_reverse]
 have hlen : st.length = idx.length := by
  have := congrArg List.length hidx
  simpa using this
 have hnd' : (st.map (·.1)).Nodup := by rw [hidx]; exact (List.reverse_perm idx).nodup_iff.2 hnd
 have hlt : ∀ i ∈ idx, i < listed.size := fun i hi => by
  have := ok1 i hi
  simp only [Bool.and_eq_true, Bool.not_eq_true'] at this
  rcases Nat.lt_or_ge i listed.size with q | q
  ·exact q
  ·have h1 := this.1
   simp only [Array.getD, show ¬ i < listed.size by omega, dite_false] at h1
   cases h1
 -- the induction
 have key : ∀ (m : Nat) (cur : Array Bool) (fr : Fr), cur.size = listed.size → (∀ j, j ∉ idx → cur[j]? = listed[j]?) → unl cur st = m → (∀ s ∈ st, cur.getD s.1 true = true → look s.2.1 fr = some s.2.2) → zCD fr K0 → (∀ m' ∈ idx, cur.getD m' true = true → ∀ o, all[m']? = some o → ∀ e ∈ o.after, Region.binds .any e = true → cur.getD e.on false = true) → Ax P fn c (.any all (fuel + m) cur k) fr H := by
  intro m
  induction m with
  | zero =>
   intro cur fr hcs hco hcm hck hk0 hcl
   have hall : ∀ s ∈ st, cur.getD s.1 true = true := fun s hs => by
    cases hq : cur.getD s.1 true with
    | true => rfl
    | false =>
     exfalso
     have h0 : st.filter (fun s => !cur.getD s.1 true) = [] := List.length_eq_zero_iff.1 hcm
     have : s ∈ st.filter (fun s => !cur.getD s.1 true) := List.mem_filter.2 ⟨hs, by rw [hq]; rfl⟩
     rw [h0] at this; simp at this
   have hcur : cur = listed' := by
    rw [← hl]
    apply Array.ext_getElem?
    intro j
    rcases Nat.lt_or_ge j listed.size with q | q
    ·rw [zGR idx listed j q]
     by_cases hj : j ∈ idx
     ·rw [if_pos hj]
      obtain ⟨s, hs1, hs2⟩ := (hmem j).1 hj
      have := hall s hs1
      rw [hs2] at this
      simp only [Array.getD, show j < cur.size by omega, dite_true] at this
      rw [Array.getElem?_eq_getElem (by omega)]
      exact congrArg some this
     ·rw [if_neg hj]; exact hco j hj
    ·rw [Array.getElem?_eq_none (by omega), Array.getElem?_eq_none (by rw [zFS]; omega)]
   subst hcur
   intro w a σ S hr
   refine hG w a σ S (hr.weaken (zDE fun p hp => ?_))
   rcases List.mem_append.1 hp with q | q
   ·obtain ⟨s, q1, q2⟩ := List.mem_map.1 q
    rw [← q2]; exact hck s q1 (hall s q1)
   ·exact zDF hk0 p q
  | succ m ih =>
   intro cur fr hcs hco hcm hck hk0 hcl
   -- some step is left
   obtain ⟨s0, hs0, hs0u⟩ : ∃ s ∈ st, cur.getD s.1 true = false := by
    rcases hq : st.filter (fun s => !cur.getD s.1 true) with _ | ⟨s, r⟩
    ·unfold unl at hcm; rw [hq] at hcm; simp at hcm
    ·have : s ∈ st.filter (fun s => !cur.getD s.1 true) := by rw [hq]; simp
     obtain ⟨h1, h2⟩ := List.mem_filter.1 this
     exact ⟨s, h1, by simpa using h2⟩
   have hsub : ∀ i ∈ Region.ready .any all cur, i ∈ idx ∧ cur.getD i true = false := by
    intro i hi
    obtain ⟨h1, o, ho, hdeps⟩ := mem_ready.1 hi
    refine ⟨?_, h1⟩
    apply Classical.byContradiction
    intro hni
    have hjs : i < all.size := (Array.getElem?_eq_some_iff.1 ho).1
    have := ok2 i (List.mem_range.2 hjs)
    simp only [Bool.or_eq_true, ho] at this
    rcases this with (q | q) | q
    ·exact hni (by simpa using q)
    ·have hco' := hco i hni
     have h2 : listed.getD i true = cur.getD i true := by
      simp only [Array.getD_eq_getD_getElem?, hco']
     rw [h2, h1] at q; cases q
    ·rw [List.all_eq_true] at q
     have h3 := zHv hcl _ i s0.1 (q s0.1 ((hmem s0.1).2 ⟨s0, hs0, rfl⟩)) (fun o' ho' e he hb => by
      rw [ho] at ho'
      obtain rfl := Option.some.inj ho'
      exact hdeps e he hb)
     rw [h3] at hs0u; cases hs0u
   have hne : Region.ready .any all cur ≠ [] := by
    intro h0
    -- the least one that is left
    have hex : ∃ i, i ∈ idx ∧ cur.getD i true = false := ⟨s0.1, (hmem s0.1).2 ⟨s0, hs0, rfl⟩, hs0u⟩
    have least : ∀ n i, i ≤ n → i ∈ idx → cur.getD i true = false → False := by
     intro n
     induction n with
     | zero =>
      intro i hi him hiu
      have h1 := ok1 i him
      simp only [Bool.and_eq_true] at h1
      cases hoo : all[i]? with
      | none => rw [hoo] at h1; exact absurd h1.2 (by simp)
      | some o =>
       rw [hoo] at h1
       simp only [Bool.and_eq_true] at h1
       have h2 := List.all_eq_true.1 h1.2.2
       have : i ∈ Region.ready .any all cur := mem_ready.2 ⟨hiu, o, hoo, fun e he hb => by
        have := h2 e (Array.mem_toList_iff.2 he)
        rw [hb] at this
        simp only [Bool.not_true, Bool.false_or, Bool.and_eq_true] at this
        have := Nat.le_of_ble_eq_true this.1
        omega⟩
       rw [h0] at this; simp at this
     | succ n ihn =>
      intro i hi him hiu
      have h1 := ok1 i him
      simp only [Bool.and_eq_true] at h1
      cases hoo : all[i]? with
      | none => rw [hoo] at h1; exact absurd h1.2 (by simp)
      | some o =>
       rw [hoo] at h1
       simp only [Bool.and_eq_true] at h1
       have h2 := List.all_eq_true.1 h1.2.2
       have : i ∈ Region.ready .any all cur := mem_ready.2 ⟨hiu, o, hoo, fun e he hb => by
        have h3 := h2 e (Array.mem_toList_iff.2 he)
        rw [hb] at h3
        simp only [Bool.not_true, Bool.false_or, Bool.and_eq_true, Bool.or_eq_true] at h3
        have hlt' : e.on < i := Nat.le_of_ble_eq_true h3.1
        by_cases hei : e.on ∈ idx
        ·cases hq : cur.getD e.on true with
         | false => exact (ihn e.on (by omega) hei hq).elim
         | true =>
          have hsz := hlt e.on hei
          simp only [Array.getD, show e.on < cur.size by omega, dite_true] at hq ⊢
          exact hq
        ·rcases h3.2 with q | q
         ·exact absurd (by simpa using q) hei
         ·have h2 : cur.getD e.on false = listed.getD e.on false := by simp only [Array.getD_eq_getD_getElem?, hco e.on hei]
          rw [h2]; exact q⟩
       rw [h0] at this; simp at this
    obtain ⟨i, hi1, hi2⟩ := hex
    exact least i i (Nat.le_refl _) hi1 hi2
   refine zF Z hne hd (zJq (fun i hi o ho => ?_))
   obtain ⟨him, hiu⟩ := hsub i hi
   obtain ⟨s, hs1, hs2⟩ := (hmem i).1 him
   obtain ⟨o', K, g1, g2, g3, g4⟩ := hst s hs1
   rw [hs2, ho] at g1
   obtain rfl := Option.some.inj g1
   obtain ⟨_, o2, ho2, hdeps⟩ := mem_ready.1 hi
   rw [ho] at ho2
   obtain rfl := Option.some.inj ho2
   refine g3 _ fr (zDE fun p hp => ?_) (zR (zAG ?_))
   ·rcases g4 p hp with q | ⟨s', q1, ⟨e, q2, q3, q4⟩, q5⟩
    ·exact zDF hk0 p q
    ·have h1 := hdeps e q2 q3
     rw [q4] at h1
     rw [← q5]
     refine hck s' q1 ?_
     have hsz := hlt s'.1 ((hmem s'.1).2 ⟨s', q1, rfl⟩)
     simp only [Array.getD, show s'.1 < cur.size by omega, dite_true] at h1 ⊢
     exact h1
   ·have hisz := hlt i him
    refine ih (cur.setIfInBounds i true) _ (by simpa using hcs) (fun j hj => ?_) ?_ (fun s' hs' hu => ?_) ?_ (zLN him hcl (fun o' ho' e he hb => by rw [ho] at ho'; obtain rfl := Option.some.inj ho'; exact hdeps e he hb))
    ·rw [Array.getElem?_setIfInBounds_ne (show i ≠ j from fun e => hj (e ▸ him))]; exact hco j hj
    ·-- one less
     have hf : st.filter (fun s' => !(cur.setIfInBounds i true).getD s'.1 true) = (st.filter (fun s' => !cur.getD s'.1 true)).filter (fun s' => decide (s'.1 ≠ i)) := by
      rw [List.filter_filter]
      congr 1
      funext s'
      by_cases hq : s'.1 = i
      ·rw [hq]; simp [Array.getD, show i < cur.size by omega]
      ·have hq' : ¬ i = s'.1 := fun e => hq e.symm
       simp [Array.getD_eq_getD_getElem?, Array.getElem?_setIfInBounds, hq, hq']
     unfold unl at hcm ⊢
     rw [hf]
     have hmemf : s ∈ st.filter (fun s' => !cur.getD s'.1 true) := List.mem_filter.2 ⟨hs1, by rw [hs2, hiu]; rfl⟩
     have hndf : ((st.filter (fun s' => !cur.getD s'.1 true)).map (·.1)).Nodup := List.Nodup.sublist (List.Sublist.map _ List.filter_sublist) hnd'
     revert hcm hmemf hndf
     generalize st.filter (fun s' => !cur.getD s'.1 true) = L
     intro hcm hmemf hndf
     have gen : ∀ (L : Steps) (n : Nat), L.length = n + 1 → s ∈ L → (L.map (·.1)).Nodup → (L.filter (fun s' => decide (s'.1 ≠ i))).length = n := by
      intro L
      induction L with
      | nil => intro n h; simp at h
      | cons x r ihL =>
       intro n hn hm hnd
       simp only [List.map_cons, List.nodup_cons] at hnd
       rcases List.mem_cons.1 hm with rfl | hm
       ·have hno : ∀ y ∈ r, y.1 ≠ i := fun y hy e => hnd.1 (List.mem_map.2 ⟨y, hy, by rw [e, hs2]⟩)
        have : (r.filter (fun s' => decide (s'.1 ≠ i))) = r := List.filter_eq_self.2 (fun y hy => by simpa using hno y hy)
        rw [List.filter_cons_of_neg (by simp [hs2]), this]
        simpa using hn
       ·have hx : x.1 ≠ i := fun e => hnd.1 (List.mem_map.2 ⟨s, hm, by rw [hs2, e]⟩)
        have hr0 : 0 < r.length := List.length_pos_iff.2 (by rintro rfl; simp at hm)
        obtain ⟨n', rfl⟩ : ∃ n', n = n' + 1 := ⟨n - 1, by simp at hn; omega⟩
        rw [List.filter_cons_of_pos (by simpa using hx), List.length_cons, ihL n' (by simpa using hn) hm hnd.2]
     exact gen L m hcm hmemf hndf
    ·by_cases hq : s'.1 = i
     ·have : s' = s := by
       have h1 : s ∈ st := hs1
       have hinj : ∀ (L : Steps), (L.map (·.1)).Nodup → ∀ x ∈ L, ∀ y ∈ L, x.1 = y.1 → x = y := by
        intro L
        induction L with
        | nil => intro _ x hx; simp at hx
        | cons z r ihL =>
         intro hnd x hx y hy hxy
         simp only [List.map_cons, List.nodup_cons] at hnd
         rcases List.mem_cons.1 hx with hx | hx <;> rcases List.mem_cons.1 hy with hy | hy
         ·rw [hx, hy]
         ·exact absurd (List.mem_map.2 ⟨y, hy, by rw [← hxy, hx]⟩) hnd.1
         ·exact absurd (List.mem_map.2 ⟨x, hx, by rw [hxy, hy]⟩) hnd.1
         ·exact ihL hnd.2 x hx y hy hxy
       exact hinj st hnd' s' hs' s hs1 (by rw [hq, hs2])
      rw [this]
      exact zMV _ _ _
     ·have h1 : cur.getD s'.1 true = true := by
       have hq' : ¬ i = s'.1 := fun e => hq e.symm
       simpa [Array.getD_eq_getD_getElem?, Array.getElem?_setIfInBounds, hq'] using hu
      have h2 := hck s' hs' h1
      -- another slot
      have hne2 : s'.2.1 ≠ s.2.1 := by
       intro e
       obtain ⟨o3, _, f1, f2, _, _⟩ := hst s' hs'
       have h3 := List.all_eq_true.1 (ok3 s'.1 ((hmem s'.1).2 ⟨s', hs', rfl⟩)) i him
       rw [f1, ho] at h3
       simp only [Bool.or_eq_true, Bool.not_eq_true', f2, g2] at h3
       rcases h3 with h3 | h3
       ·exact hq (Nat.eq_of_beq_eq_true h3)
       ·rw [e] at h3; simp at h3
      show (bif Nat.beq s'.2.1 s.2.1 then some s.2.2 else look s'.2.1 fr) = _
      rw [zq hne2]; exact h2
    ·refine zDE fun p hp => ?_
     have h1 := ok1 i him
     simp only [Bool.and_eq_true] at h1
     rw [ho] at h1
     simp only [g2, Bool.and_eq_true, Bool.not_eq_true'] at h1
     have hne3 : p.1 ≠ s.2.1 := by
      intro e
      have : (K0.map (·.1)).contains s.2.1 = true := by
       rw [List.contains_iff_mem]
       exact List.mem_map.2 ⟨p, hp, e⟩
      rw [h1.2.1] at this; cases this
     show (bif Nat.beq p.1 s.2.1 then some s.2.2 else look p.1 fr) = _
     rw [zq hne3]; exact zDF hk0 p hp
 have hm0 : unl listed st = idx.length := by
  unfold unl
  rw [List.filter_eq_self.2 (fun s hs => ?_), hlen]
  have := ok1 s.1 ((hmem s.1).2 ⟨s, hs, rfl⟩)
  simp only [Bool.and_eq_true] at this
  exact this.1
 have := key idx.length listed fr rfl (fun _ _ => rfl) hm0 (fun s hs hu => by
  have h1 := ok1 s.1 ((hmem s.1).2 ⟨s, hs, rfl⟩)
  simp only [Bool.and_eq_true, Bool.not_eq_true'] at h1
  rw [h1.1] at hu; cases hu) hK (fun m' hm' hu => by
  have h1 := ok1 m' hm'
  simp only [Bool.and_eq_true, Bool.not_eq_true'] at h1
  rw [h1.1] at hu; cases hu)
 exact this
end
end Go.Ax
namespace Go.Ax
variable [Pins]
open Go.RowKit
theorem zHg {P : Program} {fn : Func} {c : Ctx} {H : zN} {all : Array Oper} {K0 : Fr} {i : Nat} {r : List Nat} {st : Steps} {G : Steps → Prop} {d : Nat} {g : Operand} {args : List Operand} {ats : Array TypeId} {ty : TypeId} {pos : String} {after : Array Edge} {f : FuncId} {caps ags ags' : List AV} {v : AV} {K : Fr} {j t : Nat} {p : Bool}
 (hi : all[i]? = some ⟨some d, .call { callee := .value g, args := args.toArray, argTypes := ats }, ty, pos, after, some (j, p)⟩)
 (hK : zFt st K0 ⟨some d, .call { callee := .value g, args := args.toArray, argTypes := ats }, ty, pos, after, some (j, p)⟩ = K) (hy : zEb all j = some t) (hb : look t K = some (.bool p)) (hg : ev K g = some (.fn f caps)) (ha : evs K args = some ags) (has : ags ++ caps = ags') (hcall : zU P f ags' v)
 (h : zED P fn c H all K0 r ((i, d, v) :: st) G) : zED P fn c H all K0 (i :: r) st G :=
 ⟨_, _, _, hi, rfl, hK ▸ zJH hy hb (pure_v hg ha has hcall), h⟩
end Go.Ax
namespace Go.Ax.Rt
open Go.Ax.Bg Go.Ax.Dt
def allV : List zu → List Rat → Bool
 | [], [] => true
 | s :: r, q :: t => decide (IsQ s q) && allV r t
 | _, _ => false
theorem zMs : ∀ {s : List zu} {l : List Rat}, allV s l = true → l.map zn = s ∧ l.all zBx = true
 | [], [], _ => ⟨rfl, rfl⟩
 | [], _ :: _, h => by cases h
 | _ :: _, [], h => by cases h
 | a :: r, q :: t, h => by
  simp only [allV, Bool.and_eq_true, decide_eq_true_eq] at h
  obtain ⟨h1, h2⟩ := zMs h.2
  refine ⟨by rw [List.map_cons, h.1.text, h1], ?_⟩
  rw [List.all_cons, h.1.fit, h2]; rfl
end Go.Ax.Rt
namespace Go.Ax.Mg
open Go.Ax.Dt Go.Ax.Rt Go.Ax.Bg Go.Ax.Sx
def zDt : List (List zu) := [[[49], [45, 49]], [[45, 49], [49]]]
def sadT : List (List zu) := [[[50], [51]], [[49], [48]]]
def zAk : zu := [49, 47, 50]
theorem zKS : zAu zDt = 0 := by decide +kernel
theorem zQ5 : Stops (zAT (inM zDt) (zAC zDt)) 0 2 := by
 refine ⟨fun h => absurd h (by decide +kernel), fun _ => ?_⟩
 exact Option.isNone_iff_eq_none.1 (by decide +kernel)
theorem pen_v : (zAL (inM zDt) (zAC zDt) 0 2).1 = 0 := by decide +kernel
theorem pen_r : (zAL (inM zDt) (zAC zDt) 0 2).2.1 = [Rat.divInt 1 2, Rat.divInt 1 2] := by decide +kernel
theorem pen_c : (zAL (inM zDt) (zAC zDt) 0 2).2.2 = [Rat.divInt 1 2, Rat.divInt 1 2] := by decide +kernel
theorem pen_q : zAL (inM zDt) (zAC zDt) 0 2 = (0, [Rat.divInt 1 2, Rat.divInt 1 2], [Rat.divInt 1 2, Rat.divInt 1 2]) := by
 have h1 := pen_v
 have h2 := pen_r
 have h3 := pen_c
 generalize zAL (inM zDt) (zAC zDt) 0 2 = r at *
 obtain ⟨a, b, c⟩ := r
 simp only at *
 subst h1 h2 h3
 rfl
theorem zQ4 : zBS zDt 0 2 = (([48], [zAk, zAk], [zAk, zAk]), 0) := by
 have h : allV [[48], zAk, zAk, zAk, zAk] [0, Rat.divInt 1 2, Rat.divInt 1 2, Rat.divInt 1 2, Rat.divInt 1 2] = true := by decide +kernel
 obtain ⟨h1, h2⟩ := zMs h
 unfold zBS
 rw [pen_q, if_neg (fun q => q zKS), if_pos (show zLW (0, [Rat.divInt 1 2, Rat.divInt 1 2], [Rat.divInt 1 2, Rat.divInt 1 2]) = true from h2)]
 have e1 : zn 0 = [48] := (List.cons.inj h1).1
 have e2 : zn (Rat.divInt 1 2) = zAk := (List.cons.inj (List.cons.inj h1).2).1
 show ((zn 0, [zn (Rat.divInt 1 2), zn (Rat.divInt 1 2)], [zn (Rat.divInt 1 2), zn (Rat.divInt 1 2)]), (0 : Int)) = _
 rw [e1, e2]
theorem pen_pay : zGy zDt [[49], [48]] [[49], [48]] = ([49], 0) := by
 have h : IsQ [49] (zAK ([[49], [48]].map zt) ((inM zDt).map (fun row => zAK row ([[49], [48]].map zt)))) := by decide +kernel
 unfold zGy
 rw [if_neg (by decide +kernel), if_neg (by decide +kernel), h.out]
theorem pen_ver : verG zDt [48] [zAk, zAk] [zAk, zAk] = 0 := by decide +kernel
theorem pen_bad : verG zDt [49] [zAk, zAk] [zAk, zAk] = 16 := by decide +kernel
theorem sad_dom : domL (inM sadT) = [1] := by decide +kernel
theorem zNv : zAu sadT = 0 := by decide +kernel
end Go.Ax.Mg
namespace Go.Proofs.YtkncmbklkhjmgaaGreatDoor
open Go.Ax Go.Ax.Bg Go.Ax.Rt Go.RowKit Go.Ax.Dt Go.Ax.Sx Go.Ax.Mg
attribute [local irreducible] Ax zBI QOp zP zAl
theorem belowI {n : Nat} {o1 : AObj} (h1 : zA8 n o1.c) : ∀ (h : Nat) (o : AObj), ([some o1] : zN)[h]? = some (some o) → zA8 n o.c := by
 intro h o ho
 match h, ho with
 | 0, ho => cases ho; exact h1
 | _ + 1, ho => simp at ho
def domA (p : List Int × Int) : AV := .tup [.ro (.ints .i64 p.1) 0 p.1.length, .int .i64 p.2]
theorem zML (m : List (List zu)) (hm : zDL m) : zU Tryz.prog 22 [.ro (zCF m) 0 m.length] (domA (domR m)) := by
 have cg := zFK m hm.1 hm.2
 refine zP.value0 (zE (P := Tryz.prog) (fn := Tryz.f22) Z Z (by kernel_rfl) Z (fun c hR hfix => ?_)) (fix := fun _ => False) (fun _ h => h) Z Z
 unfold domR at hR
 refine rn0 ?_
 refine zB Z Z Z cg ?_
 refine rn3 ?_
 refine zA Z (fun h1 => ?_) (fun h1 => ?_)
 ·rw [if_pos h1] at hR
  refine rn7 ?_
  refine zAE 2 (.ro (.ints .i64 []) 0 0) Z AEq.nil ?_
  refine rn2 ?_
  exact zL hR Z Z
 rw [if_neg h1] at hR
 obtain ⟨g1, g2, g3, g4, g5⟩ := zE3 (Classical.not_not.1 h1)
 have hM := zFw g1
 have hv := zIy g1
 have hml : (inM m).length = m.length := zDk m
 have nm := zKN m (by omega) (fun r h => ⟨by have := hM.cols r h; omega, fun s hs => ⟨(hm.2 r h).2 s hs, hM.ok r h s hs⟩⟩)
 have hel : ∀ i j, i < m.length → j < zAC m → Sz 100000 (((inM m).getD i []).getD j 0) := fun i j hi hj => by
  obtain ⟨v1, v2⟩ := hv _ (zAN [] (show i < (inM m).length by omega))
  exact zFE ((v2 _ (zAD 0 (by omega))).mono (by omega))
 have hrow : ∀ i, i < m.length → ((inM m).getD i []).length = zAC m := fun i hi => (hv _ (zAN [] (show i < (inM m).length by omega))).1
 clear hv hM
 generalize inM m = M at *
 generalize zAC m = w at *
 generalize m.length = n at *
 refine rn1 ?_
 refine zB Z Z Z nm ?_
 refine rn8 ?_
 refine zAo 6 ⟨3, .ints .i64 []⟩ Z Z ?_
 repeat (refine zAF ?_)
 refine ze (ι := Nat) (fun i => [(5, .ro (zY M) 0 n), (6, .sl 0 0 (zIT M i).length), (21, .ro (zY M) 0 n), (22, iN n), (23, iN i)]) (fun i => [some ⟨3, .ints .i64 (zIT M i)⟩])
  (fun i => i ≤ n) (fun i => n - i) 0 ⟨⟨rfl, rfl, rfl, rfl, rfl, trivial⟩, rfl, Nat.zero_le _⟩ ?_
 intro i hi
 refine rn4 ?_
 refine zA Z (fun h => ?_) (fun h => ?_)
 ·have hi' : i < n := by omega
  have hiM : i < M.length := by omega
  have hsn := zQZ M i
  have hdl := domI_len M i
  have hrl := hrow i hi'
  generalize hI2 : zIT M (i + 1) = I2 at *
  generalize zIT M i = I at *
  refine rn6 ?_
  refine zAE 8 (.ro (qsC (M.getD i [])) 0 w) Z (AEq.of_eq (by show AV.ro (qsC (M.getD i [])) 0 (M.getD i []).length = _; rw [hrl])) ?_
  skip
  refine ze (ι := Nat) (fun o => [(5, .ro (zY M) 0 n), (6, .sl 0 0 I.length), (7, iN i), (8, .ro (qsC (M.getD i [])) 0 w), (21, .ro (zY M) 0 n), (22, iN n), (23, iN i), (28, .ro (zY M) 0 n), (29, iN n), (30, iN o)]) (fun o => [some ⟨3, .ints .i64 I⟩])
   (fun o => o ≤ n ∧ ∀ a, a < o → zH8 M i a = false) (fun o => n - o) 0 ⟨⟨rfl, rfl, rfl, rfl, rfl, rfl, rfl, rfl, rfl, rfl, trivial⟩, rfl, Nat.zero_le _, fun a h => absurd h (Nat.not_lt_zero _)⟩ ?_
  rintro o ⟨ho, hno⟩
  refine rn4 ?_
  refine zA Z (fun h => ?_) (fun h => ?_)
  ·have ho' : o < n := by omega
   have hol := hrow o ho'
   refine rn6 ?_
   refine zAE 10 (.ro (qsC (M.getD o [])) 0 w) Z (AEq.of_eq (by show AV.ro (qsC (M.getD o [])) 0 (M.getD o []).length = _; rw [hol])) ?_
   skip
   refine ze (ι := Nat) (fun k => [(5, .ro (zY M) 0 n), (6, .sl 0 0 I.length), (7, iN i), (8, .ro (qsC (M.getD i [])) 0 w), (10, .ro (qsC (M.getD o [])) 0 w), (11, .bool (zH9 M i o k)), (21, .ro (zY M) 0 n), (22, iN n), (23, iN i), (28, .ro (zY M) 0 n), (29, iN n), (30, iN o), (34, .ro (qsC (M.getD i [])) 0 w), (35, iN w), (36, iN k)]) (fun k => [some ⟨3, .ints .i64 I⟩])
    (fun k => k ≤ w) (fun k => w - k) 0 ⟨⟨rfl, rfl, rfl, rfl, rfl, rfl, rfl, rfl, rfl, rfl, rfl, rfl, rfl, rfl, rfl, trivial⟩, rfl, Nat.zero_le _⟩ ?_
   intro k hk
   refine rn4 ?_
   refine zA Z (fun h => ?_) (fun h => ?_)
   ·have hk' : k < w := by omega
    have cq := zFQ ((M.getD o []).getD k 0) ((M.getD i []).getD k 0) (hel o k ho' hk') (hel i k hi' hk')
    have hsu := zOA M i o k
    refine rn6 ?_
    refine zD 40 (.agg (zT ((M.getD i []).getD k 0))) Z (AEq.of_eq Z) ?_
    skip
    refine sa1 (c' := .box (zT ((M.getD i []).getD k 0))) Z Z Z Z Z Z Z ?_
    generalize hu2 : zH9 M i o (k + 1) = u2 at *
    generalize zH9 M i o k = u at *
    cases u
    ·rw [Bool.false_and] at hsu
     refine rn0 ?_
     refine zi (by kernel_rfl) ?_
     refine zV 0 Z (by kernel_rfl) (by kernel_rfl) (by kernel_rfl) Z (zJ Z) Z ?_
     refine zV 1 Z (by kernel_rfl) (by kernel_rfl) (by kernel_rfl) Z (zJ Z) Z ?_
     refine zp (fuel := 0) [2, 3, 4, 5, 6, 7, 8, 9, 10] [(5, .ro (zY M) 0 n), (6, .sl 0 0 I.length), (7, iN i), (8, .ro (qsC (M.getD i [])) 0 w), (10, .ro (qsC (M.getD o [])) 0 w), (42, .bool false), (12, iN k), (13, .ptr 1 0 0), (21, .ro (zY M) 0 n), (22, iN n), (23, iN i), (28, .ro (zY M) 0 n), (29, iN n), (30, iN o), (34, .ro (qsC (M.getD i [])) 0 w), (35, iN w), (36, iN k)] ⟨Z, Z, Z, Z, Z, Z, Z, Z, Z, Z, Z, Z, Z, Z, Z, Z, Z, trivial⟩ (by kernel_rfl) (by decide) Z Z ?_
     refine zBg Z Z Z Z Z ?_
     refine zBg Z Z Z Z Z ?_
     refine zBg Z Z Z Z Z ?_
     refine zBg Z Z Z Z Z ?_
     refine zBg Z Z Z Z Z ?_
     refine zBg Z Z Z Z Z ?_
     refine zBg Z Z Z Z Z ?_
     refine zM Z Z (zBJ Z Z) ?_
     refine zM Z Z (zm Z) ?_
     refine zAA ?_
     refine zW (by kernel_rfl) ?_
     repeat (refine zAP ?_)
     refine zI ?_
     refine zBF [some ⟨3, .ints .i64 I⟩] [some ⟨104, .box (zT ((M.getD i []).getD k 0))⟩] [(5, .ro (zY M) 0 n), (6, .sl 0 0 I.length), (7, iN i), (8, .ro (qsC (M.getD i [])) 0 w), (10, .ro (qsC (M.getD o [])) 0 w), (11, .bool false), (21, .ro (zY M) 0 n), (22, iN n), (23, iN i), (28, .ro (zY M) 0 n), (29, iN n), (30, iN o), (34, .ro (qsC (M.getD i [])) 0 w), (35, iN w), (36, iN k)] Z ⟨Z, Z, Z, Z, Z, Z, Z, Z, Z, Z, Z, Z, Z, Z, Z, trivial⟩ (fun h hh => by rw [hfix] at hh; exact absurd hh id) (belowI (fun _ _ _ _ => rfl)) Z ?_
     refine rn3 ?_
     exact zK ⟨k + 1, by omega, by omega, ⟨Z, Z, Z, Z, Z, by rw [hu2, hsu]; rfl, Z, Z, Z, Z, Z, Z, Z, Z, Z, trivial⟩, Z⟩
    ·rw [Bool.true_and] at hsu
     refine rn0 ?_
     refine zi (by kernel_rfl) ?_
     refine zV 0 Z (by kernel_rfl) (by kernel_rfl) (by kernel_rfl) Z (zJ Z) Z ?_
     refine zV 1 Z (by kernel_rfl) (by kernel_rfl) (by kernel_rfl) Z (zJ Z) Z ?_
     refine zp (fuel := 0) [2, 3, 4, 5, 6, 7, 8, 9, 10] [(5, .ro (zY M) 0 n), (6, .sl 0 0 I.length), (7, iN i), (8, .ro (qsC (M.getD i [])) 0 w), (10, .ro (qsC (M.getD o [])) 0 w), (42, .bool true), (12, iN k), (13, .ptr 1 0 0), (21, .ro (zY M) 0 n), (22, iN n), (23, iN i), (28, .ro (zY M) 0 n), (29, iN n), (30, iN o), (34, .ro (qsC (M.getD i [])) 0 w), (35, iN w), (36, iN k)] ⟨Z, Z, Z, Z, Z, Z, Z, Z, Z, Z, Z, Z, Z, Z, Z, Z, Z, trivial⟩ (by kernel_rfl) (by decide) Z Z ?_
     refine zAR Z Z Z Z (zJ Z) ?_
     refine zAR Z Z Z Z (zJ Z) ?_
     refine zAR Z Z Z Z (zAB Z Z Z Z (by first | (simp only [Nat.zero_add, Int.toNat_natCast, Int.toNat_zero]; exact Z) | exact Z) (by omega)) ?_
     refine zAR Z Z Z Z (zA7 Z Z Z Z Z Z) ?_
     refine zAR Z Z Z Z (qpp Z Z Z Z Z Z Z) ?_
     refine zHg Z Z Z Z Z Z Z cq ?_
     refine zAR Z Z Z Z (zKa Z Z) ?_
     refine zM Z Z (zBJ Z Z) ?_
     refine zM Z Z (zm Z) ?_
     refine zAA ?_
     refine zW (by kernel_rfl) ?_
     repeat (refine zAP ?_)
     refine zI ?_
     refine zBF [some ⟨3, .ints .i64 I⟩] [some ⟨104, .box (zT ((M.getD i []).getD k 0))⟩] [(5, .ro (zY M) 0 n), (6, .sl 0 0 I.length), (7, iN i), (8, .ro (qsC (M.getD i [])) 0 w), (10, .ro (qsC (M.getD o [])) 0 w), (11, .bool (decide (0 < zCG ((M.getD o []).getD k 0) ((M.getD i []).getD k 0)))), (21, .ro (zY M) 0 n), (22, iN n), (23, iN i), (28, .ro (zY M) 0 n), (29, iN n), (30, iN o), (34, .ro (qsC (M.getD i [])) 0 w), (35, iN w), (36, iN k)] Z ⟨Z, Z, Z, Z, Z, Z, Z, Z, Z, Z, Z, Z, Z, Z, Z, trivial⟩ (fun h hh => by rw [hfix] at hh; exact absurd hh id) (belowI (fun _ _ _ _ => rfl)) Z ?_
     refine rn3 ?_
     exact zK ⟨k + 1, by omega, by omega, ⟨Z, Z, Z, Z, Z, by rw [hu2, hsu]; rfl, Z, Z, Z, Z, Z, Z, Z, Z, Z, trivial⟩, Z⟩
   ·have hke : k = w := by omega
    have hub : zH9 M i o k = zH8 M i o := by rw [hke, ← hrl]; rfl
    rw [hub]
    cases hb : zH8 M i o
    ·refine rn5 ?_
     exact zK ⟨o + 1, ⟨by omega, fun a ha => by
      rcases Nat.lt_or_ge a o with q | q
      ·exact hno a q
      ·obtain rfl : a = o := by omega
       exact hb⟩, by omega, ⟨Z, Z, Z, Z, Z, Z, Z, Z, Z, Z, trivial⟩, Z⟩
    ·rw [if_pos (domB_yes M (show o < M.length by omega) hb)] at hsn
     refine rn5 ?_
     refine zr Z Z Z Z Z Z Z Z Z Z Z Z (by show 0 + 1 ≤ 1; omega) Z (by show (I.length + 1) * 8 ≤ _ ∧ _; omega) (fun i j _ _ => rfl) (by rw [hfix]; exact fun h => h) ?_
     refine rn14 ?_
     exact zK ⟨i + 1, by omega, by omega, ⟨Z, by rw [hI2, hsn, List.length_append]; rfl, Z, Z, Z, trivial⟩, by rw [hI2, hsn]; rfl⟩
  ·have hoe : o = n := by omega
   rw [if_neg (by rw [domB_no M (fun a ha => hno a (by omega))]; exact fun z => by cases z)] at hsn
   refine rn5 ?_
   exact zK ⟨i + 1, by omega, by omega, ⟨Z, by rw [hI2, hsn]; rfl, Z, Z, Z, trivial⟩, by rw [hI2, hsn]⟩
 ·have hie : i = n := by omega
  subst hie
  refine zHb ?_
  refine zAd 0 6 (zIT M i).length [] Z (zAs) Z (by show _ ≤ (zIT M i).length; omega) trivial ?_
  refine rn0 ?_
  exact zL hR Z Z
end Go.Proofs.YtkncmbklkhjmgaaGreatDoor
namespace Go.Proofs.YtkncmbklkhjmgaaGreatDoor
open Go.Ax Go.Ax.Bg Go.Ax.Rt Go.RowKit Go.Ax.Dt
attribute [local irreducible] Ax zBI QOp zP zAl
theorem zFL {n m k : Nat} (h : n ≤ 10 ^ k) (hk : k + 1 ≤ 9 * m) : (zS n).length ≤ m := by
 refine zAc (Nat.lt_of_lt_of_le (m := 10 ^ (9 * m)) ?_ ?_)
 ·have h1 : 10 ^ (k + 1) ≤ 10 ^ (9 * m) := Nat.pow_le_pow_right (by decide) hk
  have h2 : 0 < 10 ^ k := Nat.pow_pos (by decide)
  rw [Nat.pow_succ] at h1
  omega
 ·rw [Nat.pow_mul]
  exact Nat.pow_le_pow_left (by decide) m
theorem zQo (x d : Int) (hd : d ≠ 0) (hx : (zS x.natAbs).length ≤ 1000000) (hdl : (zS d.natAbs).length ≤ 1000000) : zU Tryz.prog 276 [zA0 x, zA0 d] (zA0 (zDi x d)) := by
 have c1 := zI7 x.natAbs d.natAbs (by omega) hx hdl
 have c2 := zFM (!(decide (x < 0) == decide (d < 0))) (x.natAbs / d.natAbs)
 have e : zEm (!(decide (x < 0) == decide (d < 0))) (x.natAbs / d.natAbs) = zDi x d := rfl
 rw [e] at c2
 refine zP.value0 (zE (P := Tryz.prog) (fn := Tryz.f276) Z Z (by kernel_rfl) Z (fun c hR hfix => ?_)) (fix := fun _ => False) (fun _ h => h) Z Z
 unfold zA0 at *
 generalize zDi x d = q at *
 refine rn6 ?_
 refine zB Z Z Z c1 ?_
 repeat (first | refine zG (zJ rfl) ?_ | refine zG (zm rfl) ?_ | refine zR ?_ | refine zI ?_ | refine z7 ?_ | refine zg rfl ?_ | refine zG (zX rfl rfl rfl rfl rfl) ?_ | refine zG (zBn rfl rfl) ?_ | refine zG (zH rfl rfl rfl rfl rfl rfl) ?_ | refine zG (zJI rfl rfl rfl) ?_)
 refine zB Z Z Z c2 ?_
 skip
 refine sa1 (c' := .box [.bool (decide (q < 0)), zh q.natAbs]) Z Z Z Z Z Z Z ?_
 refine rn0 ?_
 exact zL hR Z Z
def zj (x : Int) : List AV := [.bool (decide (x < 0)), zh x.natAbs]
abbrev zC (l : List Int) : Cells := rowE 0 2 zj l
theorem zIL (x : Int) (j h : Nat) (hj : j < 2) : ((zj x).getD j .any).forget h = (zj x).getD j .any := by
 match j, hj with
 | 0, _ => rfl
 | 1, _ => rfl
theorem rowI1 (x : Int) (j : Nat) (hj : j < 2) : (zBp 1 2 [.bool (decide (x < 0)), zh x.natAbs]).at 0 j = (zj x).getD j .any := by
 match j, hj with
 | 0, _ => rfl
 | 1, _ => rfl
theorem zLU (q : Rat) : ∀ (l : List Rat) (f : Nat), zCs f (l ++ [q]) = zCs f l * (q.den / Nat.gcd (zCs f l) q.den)
 | [], f => rfl
 | a :: r, f => by rw [List.cons_append, zCs, zCs, zLU q r]
theorem zLV {l : List Rat} {K k : Nat} (h : ∀ q ∈ l, D K q) : zCs 1 (l.take k) ≤ 10 ^ (K * l.length) := by
 refine Nat.le_trans (zIW (k := K) (l.take k) 1 (fun q hq => (h q (List.mem_of_mem_take hq)).2)) ?_
 rw [Nat.one_mul]
 refine Nat.pow_le_pow_right (by decide) (Nat.mul_le_mul_left _ ?_)
 rw [List.length_take]; exact Nat.min_le_right _ _
theorem zRb (l : List Rat) (K : Nat) (hD : ∀ q ∈ l, D K q) (hlen : l.length ≤ 1000) (hK : K * l.length + K ≤ 900000) :
 MCall Tryz.prog 245 [.ro (qsC l) 0 l.length] (.tup [.sl 0 0 l.length, zh (zCs 1 l)]) [some ⟨102, zC (zAj l)⟩] := by
 have hsz : ∀ n k : Nat, n ≤ 10 ^ k → k ≤ 900000 → (zS n).length ≤ 100001 := fun n k h hk => zFL h (by omega)
 have c0 := zG5 1 (by decide)
 refine zP.many (zE (P := Tryz.prog) (fn := Tryz.f245) Z Z (by kernel_rfl) Z (fun c hR hfix => ?_)) (fix := fun _ => False) (fun _ h => h) Z
 refine rn0 ?_
 refine zB Z Z Z c0 ?_
 refine rn3 ?_
 refine ze (ι := Nat) (fun k => [(0, .ro (qsC l) 0 l.length), (4, zh (zCs 1 (l.take k))), (16, .ro (qsC l) 0 l.length), (17, iN l.length), (18, iN k)]) (fun _ => [])
  (fun k => k ≤ l.length) (fun k => l.length - k) 0 ⟨⟨rfl, rfl, rfl, rfl, rfl, trivial⟩, rfl, Nat.zero_le _⟩ ?_
 intro k hk
 refine rn4 ?_
 refine zA Z (fun h => ?_) (fun h => ?_)
 ·have hk' : k < l.length := by omega
  have hq := hD _ (zAD 0 hk')
  have hsn : zCs 1 (l.take (k + 1)) = zCs 1 (l.take k) * ((l.getD k 0).den / Nat.gcd (zCs 1 (l.take k)) (l.getD k 0).den) := by
   rw [List.take_succ_eq_append_getElem hk', zLU, zDy 0 hk']
  have hF := hsz _ _ (zLV (k := k) hD) (by omega)
  have hp := zIX (l.take k) 1 (by decide)
  generalize zCs 1 (l.take k) = F at *
  generalize hqe : l.getD k 0 = q at *
  have hden := hsz q.den K (Nat.le_of_lt hq.2) (by omega)
  have hg : 0 < Nat.gcd F q.den := Nat.gcd_pos_of_pos_left _ hp
  have hgl : Nat.gcd F q.den ≤ 10 ^ K := Nat.le_trans (Nat.le_of_dvd q.den_pos (Nat.gcd_dvd_right F q.den)) (Nat.le_of_lt hq.2)
  have c1 := zOl F q.den (by omega) (by omega)
  have c2 := zI7 q.den (Nat.gcd F q.den) hg (by omega) (Nat.le_trans (hsz (Nat.gcd F q.den) K hgl (by omega)) (by decide))
  have c3 := zMX F (q.den / Nat.gcd F q.den) (by omega) (Nat.le_trans (hsz (q.den / Nat.gcd F q.den) K (Nat.le_trans (Nat.div_le_self _ _) (Nat.le_of_lt hq.2)) (by omega)) (by decide))
  refine rn6 ?_
  refine zD 21 (.agg (zT q)) Z (AEq.of_eq (by rw [← hqe]; rfl)) ?_
  refine sa1 (c' := .box (zT q)) Z Z Z Z Z Z Z ?_
  refine rn5 ?_
  refine zB Z Z Z c1 ?_
  refine rn5 ?_
  refine zB Z Z Z c2 ?_
  refine rn2 ?_
  refine zB Z Z Z c3 ?_
  refine zEO ?_
  refine zI ?_
  refine zBi [none] (zQ.drop zQ.nil) ?_
  refine zEe (H1 := []) Z (by rw [hfix]; exact fun h => h) ?_
  refine rn3 ?_
  exact zK ⟨k + 1, by omega, by omega, ⟨Z, by rw [hsn]; rfl, Z, Z, Z, trivial⟩, Z⟩
 have hke : k = l.length := by omega
 subst hke
 rw [List.take_length]
 have hFb := zLV (k := l.length) hD
 rw [List.take_length] at hFb
 have hF := hsz _ _ hFb (by omega)
 unfold zAj at hR
 generalize zCs 1 l = F at *
 have eg : ∃ g : Rat → Int, g = (fun q => q.num * ((F / q.den : Nat) : Int)) := ⟨_, rfl⟩
 obtain ⟨g, eg⟩ := eg
 rw [← eg] at hR
 refine rn14 ?_
 refine zAo 10 ⟨102, zC []⟩ Z Z ?_
 repeat (refine zAF ?_)
 refine ze (ι := Nat) (fun k => [(4, zh F), (10, .sl 0 0 k), (37, .ro (qsC l) 0 l.length), (38, iN l.length), (39, iN k)]) (fun k => [some ⟨102, zC ((l.take k).map g)⟩])
  (fun k => k ≤ l.length) (fun k => l.length - k) 0 ⟨⟨rfl, rfl, rfl, rfl, rfl, trivial⟩, rfl, Nat.zero_le _⟩ ?_
 intro k hk
 refine rn4 ?_
 refine zA Z (fun h => ?_) (fun h => ?_)
 ·have hk' : k < l.length := by omega
  have hq := hD _ (zAD 0 hk')
  have htk := zCl g l 0 k hk'
  have hml : ((l.take k).map g).length = k := by rw [List.length_map, List.length_take]; omega
  generalize (l.take k).map g = zs at *
  generalize hqe : l.getD k 0 = q at *
  have hden := hsz q.den K (Nat.le_of_lt hq.2) (by omega)
  have hnum := hsz q.num.natAbs K (Nat.le_of_lt hq.1) (by omega)
  have hquo := hsz _ _ (Nat.le_trans (Nat.div_le_self F q.den) hFb) (by omega)
  have hgq : g q = q.num * ((F / q.den : Nat) : Int) := by rw [eg]
  have c1 := zI7 F q.den q.den_pos (by omega) (by omega)
  have c2 := zCS q.num ((F / q.den : Nat) : Int) (by omega) (by rw [Int.natAbs_natCast]; omega)
  rw [← hgq] at c2
  refine rn6 ?_
  refine zD 42 (.agg (zT q)) Z (AEq.of_eq (by rw [← hqe]; rfl)) ?_
  refine sa1 (c' := .box (zT q)) Z Z Z Z Z Z Z ?_
  refine rn5 ?_
  refine zB Z Z Z c1 ?_
  refine rn9 ?_
  refine zD 54 (zA0 ((F / q.den : Nat) : Int)) Z (AEq.of_eq (by
   unfold zA0
   rw [decide_eq_false (Int.not_lt.2 (Int.natCast_nonneg (F / q.den))), Int.natAbs_natCast]; rfl)) ?_
  refine zB Z Z Z c2 ?_
  unfold zA0
  repeat (refine zf rfl rfl rfl rfl rfl rfl rfl rfl rfl rfl rfl ?_)
  refine zr Z Z Z Z Z Z Z Z Z hml Z Z (by show 0 + 1 ≤ 1; omega) Z (by show (k + 1) * 32 ≤ _ ∧ _; omega) ?_ (by rw [hfix]; exact fun h => h) ?_
  ·intro i' j hi hj
   exact zAM 0 2 zj zIL zs (g q) _ (rowI1 _) 0 i' j hi hj
  refine zEO ?_
  refine zI ?_
  refine zBi ([some ⟨102, zC ((l.take (k + 1)).map g)⟩] ++ [none]) ?_ ?_
  ·rw [htk]
   exact zQ.eqv (zAX 0 2 zj zs (g q) _ (rowI1 _)) (zQ.drop zQ.nil)
  refine zEe (H1 := [some ⟨102, zC ((l.take (k + 1)).map g)⟩]) Z (by rw [hfix]; exact fun h => h) ?_
  refine zBi [some ⟨102, zC ((l.take (k + 1)).map g)⟩] ?_ ?_
  ·exact zQ.eqv ⟨Z, Z, fun i j _ hj => (zIL _ j _ hj).symm⟩ zQ.nil
  refine rn3 ?_
  exact zK ⟨k + 1, by omega, by omega, ⟨Z, Z, Z, Z, Z, trivial⟩, Z⟩
 ·have hke : k = l.length := by omega
  subst hke
  rw [List.take_length]
  refine rn5 ?_
  exact zL hR Z ⟨Z, Z⟩
end Go.Proofs.YtkncmbklkhjmgaaGreatDoor
namespace Go.Ax
variable [Pins]
open Go.RowKit
section
variable {P : Program} {fn : Func} {c : Ctx} {fr : Fr} {H : zN} {k : List It} {ind : Bool} {d : Option Nat} {ty : TypeId} {pos : String} {after : Array Edge} {g : Option (Nat × Bool)}
end
end Go.Ax
namespace Go.Proofs.YtkncmbklkhjmgaaGreatDoor
open Go.Ax Go.Ax.Bg Go.Ax.Rt Go.RowKit Go.Ax.Idx Go.Ax.Cd Go.Ax.Sx
attribute [local irreducible] Ax zBI QOp zP zAl
end Go.Proofs.YtkncmbklkhjmgaaGreatDoor
namespace Go.Ax
variable [Pins]
open Go.RowKit
/-- Does operation j wait, at last, for operation i? -/
def waitsU (all : Array Oper) (listed : Array Bool) (idx : List Nat) (j : Nat) : Bool := match all[j]? with
 | some o => o.after.toList.any (fun e => Region.binds .any e && (!idx.contains e.on && !listed.getD e.on true))
 | none => false
/-- May these operations run in any order, ahead of all others? -/
def okRunU (all : Array Oper) (listed : Array Bool) (idx : List Nat) (k0 : List Nat) : Bool :=
 (idx.all fun i => !listed.getD i true && (match all[i]? with
  | some o => (match o.dst with | some d => !k0.contains d | none => false) && o.after.toList.all (fun e => !Region.binds .any e || (Nat.blt e.on i && (idx.contains e.on || listed.getD e.on false)))
  | none => false)) &&
 ((List.range all.size).all fun j => idx.contains j || listed.getD j true || idx.all (fun i => zNW all idx (idx.length + 1) j i) || waitsU all listed idx j) &&
 (idx.all fun i => idx.all fun j => Nat.beq i j || !(match all[i]?, all[j]? with | some o, some o' => o.dst == o'.dst | _, _ => false))
section
variable {P : Program} {fn : Func} {c : Ctx} {fr : Fr} {H : zN} {k : List It}
theorem zFF {all : Array Oper} {fuel : Nat} {listed listed' : Array Bool} (idx : List Nat) (K0 : Fr) (hK : zCD fr K0) (hok : okRunU all listed idx (K0.map (·.1)) = true) (hnd : idx.Nodup) (hd : zDR fn.ntmps all.toList = true) (hl : zGQ listed idx = listed')
 (h : zED P fn c H all K0 idx [] (fun st => Ax P fn c (.any all fuel listed' k) (st.map (·.2) ++ K0) H)) : Ax P fn c (.any all (fuel + idx.length) listed k) fr H := by
 obtain ⟨st, hG, hidx, hst⟩ := zGM h (fun s hs => by simp at hs)
 rw [List.map_nil, List.append_nil] at hidx
 clear h
 unfold okRunU at hok
 simp only [Bool.and_eq_true] at hok
 obtain ⟨⟨ok1, ok2⟩, ok3⟩ := hok
 rw [List.all_eq_true] at ok1 ok2 ok3
 have hmem : ∀ i, i ∈ idx ↔ ∃ s ∈ st, s.1 = i := fun i => by
  have : i ∈ idx.reverse ↔ ∃ s ∈ st, s.1 = i := by rw [← hidx]; simp
  rw [← this, List.mem_reverse]
 have hlen : st.length = idx.length := by
  have := congrArg List.length hidx
  simpa using this
 have hnd' : (st.map (·.1)).Nodup := by rw [hidx]; exact (List.reverse_perm idx).nodup_iff.2 hnd
 have hlt : ∀ i ∈ idx, i < listed.size := fun i hi => by
  have := ok1 i hi
  simp only [Bool.and_eq_true, Bool.not_eq_true'] at this
  rcases Nat.lt_or_ge i listed.size with q | q
  ·exact q
  ·have h1 := this.1
   simp only [Array.getD, show ¬ i < listed.size by omega, dite_false] at h1
   cases h1
 -- the induction
 have key : ∀ (m : Nat) (cur : Array Bool) (fr : Fr), cur.size = listed.size → (∀ j, j ∉ idx → cur[j]? = listed[j]?) → unl cur st = m → (∀ s ∈ st, cur.getD s.1 true = true → look s.2.1 fr = some s.2.2) → zCD fr K0 → (∀ m' ∈ idx, cur.getD m' true = true → ∀ o, all[m']? = some o → ∀ e ∈ o.after, Region.binds .any e = true → cur.getD e.on false = true) → Ax P fn c (.any all (fuel + m) cur k) fr H := by
  intro m
  induction m with
  | zero =>
   intro cur fr hcs hco hcm hck hk0 hcl
   have hall : ∀ s ∈ st, cur.getD s.1 true = true := fun s hs => by
    cases hq : cur.getD s.1 true with
    | true => rfl
    | false =>
     exfalso
     have h0 : st.filter (fun s => !cur.getD s.1 true) = [] := List.length_eq_zero_iff.1 hcm
     have : s ∈ st.filter (fun s => !cur.getD s.1 true) := List.mem_filter.2 ⟨hs, by rw [hq]; rfl⟩
     rw [h0] at this; simp at this
   have hcur : cur = listed' := by
    rw [← hl]
    apply Array.ext_getElem?
    intro j
    rcases Nat.lt_or_ge j listed.size with q | q
    ·rw [zGR idx listed j q]
     by_cases hj : j ∈ idx
     ·rw [if_pos hj]
      obtain ⟨s, hs1, hs2⟩ := (hmem j).1 hj
      have := hall s hs1
      rw [hs2] at this
      simp only [Array.getD, show j < cur.size by omega, dite_true] at this
      rw [Array.getElem?_eq_getElem (by omega)]
      exact congrArg some this
     ·rw [if_neg hj]; exact hco j hj
    ·rw [Array.getElem?_eq_none (by omega), Array.getElem?_eq_none (by rw [zFS]; omega)]
   subst hcur
   intro w a σ S hr
   refine hG w a σ S (hr.weaken (zDE fun p hp => ?_))
   rcases List.mem_append.1 hp with q | q
   ·obtain ⟨s, q1, q2⟩ := List.mem_map.1 q
    rw [← q2]; exact hck s q1 (hall s q1)
   ·exact zDF hk0 p q
  | succ m ih =>
   intro cur fr hcs hco hcm hck hk0 hcl
   -- some step is left
   obtain ⟨s0, hs0, hs0u⟩ : ∃ s ∈ st, cur.getD s.1 true = false := by
    rcases hq : st.filter (fun s => !cur.getD s.1 true) with _ | ⟨s, r⟩
    ·unfold unl at hcm; rw [hq] at hcm; simp at hcm
    ·have : s ∈ st.filter (fun s => !cur.getD s.1 true) := by rw [hq]; simp
     obtain ⟨h1, h2⟩ := List.mem_filter.1 this
     exact ⟨s, h1, by simpa using h2⟩
   have hsub : ∀ i ∈ Region.ready .any all cur, i ∈ idx ∧ cur.getD i true = false := by
    intro i hi
    obtain ⟨h1, o, ho, hdeps⟩ := mem_ready.1 hi
    refine ⟨?_, h1⟩
    apply Classical.byContradiction
    intro hni
    have hjs : i < all.size := (Array.getElem?_eq_some_iff.1 ho).1
    have := ok2 i (List.mem_range.2 hjs)
    simp only [Bool.or_eq_true, ho] at this
    rcases this with ((q | q) | q) | q
    ·exact hni (by simpa using q)
    ·have hco' := hco i hni
     have h2 : listed.getD i true = cur.getD i true := by
      simp only [Array.getD_eq_getD_getElem?, hco']
     rw [h2, h1] at q; cases q
    ·rw [List.all_eq_true] at q
     have h3 := zHv hcl _ i s0.1 (q s0.1 ((hmem s0.1).2 ⟨s0, hs0, rfl⟩)) (fun o' ho' e he hb => by
      rw [ho] at ho'
      obtain rfl := Option.some.inj ho'
      exact hdeps e he hb)
     rw [h3] at hs0u; cases hs0u
    ·unfold waitsU at q
     rw [ho] at q
     obtain ⟨e, he1, he2⟩ := List.any_eq_true.1 q
     simp only [Bool.and_eq_true, Bool.not_eq_true'] at he2
     obtain ⟨hb, hne, hnl⟩ := he2
     have hni' : e.on ∉ idx := fun q => by
      have : idx.contains e.on = true := by simpa using q
      rw [this] at hne; cases hne
     have hd1 := hdeps e (Array.mem_toList_iff.1 he1) hb
     have hco' := hco e.on hni'
     rw [Array.getD_eq_getD_getElem?] at hd1 hnl
     rw [hco'] at hd1
     cases hx : listed[e.on]? with
     | none => rw [hx] at hd1; cases hd1
     | some b =>
      rw [hx] at hd1 hnl
      have e1 : b = true := hd1
      have e2 : b = false := hnl
      rw [e1] at e2; cases e2
   have hne : Region.ready .any all cur ≠ [] := by
    intro h0
    -- the least one that is left
    have hex : ∃ i, i ∈ idx ∧ cur.getD i true = false := ⟨s0.1, (hmem s0.1).2 ⟨s0, hs0, rfl⟩, hs0u⟩
    have least : ∀ n i, i ≤ n → i ∈ idx → cur.getD i true = false → False := by
     intro n
     induction n with
     | zero =>
      intro i hi him hiu
      have h1 := ok1 i him
      simp only [Bool.and_eq_true] at h1
      cases hoo : all[i]? with
      | none => rw [hoo] at h1; exact absurd h1.2 (by simp)
      | some o =>
       rw [hoo] at h1
       simp only [Bool.and_eq_true] at h1
       have h2 := List.all_eq_true.1 h1.2.2
       have : i ∈ Region.ready .any all cur := mem_ready.2 ⟨hiu, o, hoo, fun e he hb => by
        have := h2 e (Array.mem_toList_iff.2 he)
        rw [hb] at this
        simp only [Bool.not_true, Bool.false_or, Bool.and_eq_true] at this
        have := Nat.le_of_ble_eq_true this.1
        omega⟩
       rw [h0] at this; simp at this
     | succ n ihn =>
      intro i hi him hiu
      have h1 := ok1 i him
      simp only [Bool.and_eq_true] at h1
      cases hoo : all[i]? with
      | none => rw [hoo] at h1; exact absurd h1.2 (by simp)
      | some o =>
       rw [hoo] at h1
       simp only [Bool.and_eq_true] at h1
       have h2 := List.all_eq_true.1 h1.2.2
       have : i ∈ Region.ready .any all cur := mem_ready.2 ⟨hiu, o, hoo, fun e he hb => by
        have h3 := h2 e (Array.mem_toList_iff.2 he)
        rw [hb] at h3
        simp only [Bool.not_true, Bool.false_or, Bool.and_eq_true, Bool.or_eq_true] at h3
        have hlt' : e.on < i := Nat.le_of_ble_eq_true h3.1
        by_cases hei : e.on ∈ idx
        ·cases hq : cur.getD e.on true with
         | false => exact (ihn e.on (by omega) hei hq).elim
         | true =>
          have hsz := hlt e.on hei
          simp only [Array.getD, show e.on < cur.size by omega, dite_true] at hq ⊢
          exact hq
        ·rcases h3.2 with q | q
         ·exact absurd (by simpa using q) hei
         ·have h2 : cur.getD e.on false = listed.getD e.on false := by simp only [Array.getD_eq_getD_getElem?, hco e.on hei]
          rw [h2]; exact q⟩
       rw [h0] at this; simp at this
    obtain ⟨i, hi1, hi2⟩ := hex
    exact least i i (Nat.le_refl _) hi1 hi2
   refine zF Z hne hd (zJq (fun i hi o ho => ?_))
   obtain ⟨him, hiu⟩ := hsub i hi
   obtain ⟨s, hs1, hs2⟩ := (hmem i).1 him
   obtain ⟨o', K, g1, g2, g3, g4⟩ := hst s hs1
   rw [hs2, ho] at g1
   obtain rfl := Option.some.inj g1
   obtain ⟨_, o2, ho2, hdeps⟩ := mem_ready.1 hi
   rw [ho] at ho2
   obtain rfl := Option.some.inj ho2
   refine g3 _ fr (zDE fun p hp => ?_) (zR (zAG ?_))
   ·rcases g4 p hp with q | ⟨s', q1, ⟨e, q2, q3, q4⟩, q5⟩
    ·exact zDF hk0 p q
    ·have h1 := hdeps e q2 q3
     rw [q4] at h1
     rw [← q5]
     refine hck s' q1 ?_
     have hsz := hlt s'.1 ((hmem s'.1).2 ⟨s', q1, rfl⟩)
     simp only [Array.getD, show s'.1 < cur.size by omega, dite_true] at h1 ⊢
     exact h1
   ·have hisz := hlt i him
    refine ih (cur.setIfInBounds i true) _ (by simpa using hcs) (fun j hj => ?_) ?_ (fun s' hs' hu => ?_) ?_ (zLN him hcl (fun o' ho' e he hb => by rw [ho] at ho'; obtain rfl := Option.some.inj ho'; exact hdeps e he hb))
    ·rw [Array.getElem?_setIfInBounds_ne (show i ≠ j from fun e => hj (e ▸ him))]; exact hco j hj
    ·-- one less
     have hf : st.filter (fun s' => !(cur.setIfInBounds i true).getD s'.1 true) = (st.filter (fun s' => !cur.getD s'.1 true)).filter (fun s' => decide (s'.1 ≠ i)) := by
      rw [List.filter_filter]
      congr 1
      funext s'
      by_cases hq : s'.1 = i
      ·rw [hq]; simp [Array.getD, show i < cur.size by omega]
      ·have hq' : ¬ i = s'.1 := fun e => hq e.symm
       simp [Array.getD_eq_getD_getElem?, Array.getElem?_setIfInBounds, hq, hq']
     unfold unl at hcm ⊢
     rw [hf]
     have hmemf : s ∈ st.filter (fun s' => !cur.getD s'.1 true) := List.mem_filter.2 ⟨hs1, by rw [hs2, hiu]; rfl⟩
     have hndf : ((st.filter (fun s' => !cur.getD s'.1 true)).map (·.1)).Nodup := List.Nodup.sublist (List.Sublist.map _ List.filter_sublist) hnd'
     revert hcm hmemf hndf
     generalize st.filter (fun s' => !cur.getD s'.1 true) = L
     intro hcm hmemf hndf
     have gen : ∀ (L : Steps) (n : Nat), L.length = n + 1 → s ∈ L → (L.map (·.1)).Nodup → (L.filter (fun s' => decide (s'.1 ≠ i))).length = n := by
      intro L
      induction L with
      | nil => intro n h; simp at h
      | cons x r ihL =>
       intro n hn hm hnd
       simp only [List.map_cons, List.nodup_cons] at hnd
       rcases List.mem_cons.1 hm with rfl | hm
       ·have hno : ∀ y ∈ r, y.1 ≠ i := fun y hy e => hnd.1 (List.mem_map.2 ⟨y, hy, by rw [e, hs2]⟩)
        have : (r.filter (fun s' => decide (s'.1 ≠ i))) = r := List.filter_eq_self.2 (fun y hy => by simpa using hno y hy)
        rw [List.filter_cons_of_neg (by simp [hs2]), this]
        simpa using hn
       ·have hx : x.1 ≠ i := fun e => hnd.1 (List.mem_map.2 ⟨s, hm, by rw [hs2, e]⟩)
        have hr0 : 0 < r.length := List.length_pos_iff.2 (by rintro rfl; simp at hm)
        obtain ⟨n', rfl⟩ : ∃ n', n = n' + 1 := ⟨n - 1, by simp at hn; omega⟩
        rw [List.filter_cons_of_pos (by simpa using hx), List.length_cons, ihL n' (by simpa using hn) hm hnd.2]
     exact gen L m hcm hmemf hndf
    ·by_cases hq : s'.1 = i
     ·have : s' = s := by
       have h1 : s ∈ st := hs1
       have hinj : ∀ (L : Steps), (L.map (·.1)).Nodup → ∀ x ∈ L, ∀ y ∈ L, x.1 = y.1 → x = y := by
        intro L
        induction L with
        | nil => intro _ x hx; simp at hx
        | cons z r ihL =>
         intro hnd x hx y hy hxy
         simp only [List.map_cons, List.nodup_cons] at hnd
         rcases List.mem_cons.1 hx with hx | hx <;> rcases List.mem_cons.1 hy with hy | hy
         ·rw [hx, hy]
         ·exact absurd (List.mem_map.2 ⟨y, hy, by rw [← hxy, hx]⟩) hnd.1
         ·exact absurd (List.mem_map.2 ⟨x, hx, by rw [hxy, hy]⟩) hnd.1
         ·exact ihL hnd.2 x hx y hy hxy
       exact hinj st hnd' s' hs' s hs1 (by rw [hq, hs2])
      rw [this]
      exact zMV _ _ _
     ·have h1 : cur.getD s'.1 true = true := by
       have hq' : ¬ i = s'.1 := fun e => hq e.symm
       simpa [Array.getD_eq_getD_getElem?, Array.getElem?_setIfInBounds, hq'] using hu
      have h2 := hck s' hs' h1
      -- another slot
      have hne2 : s'.2.1 ≠ s.2.1 := by
       intro e
       obtain ⟨o3, _, f1, f2, _, _⟩ := hst s' hs'
       have h3 := List.all_eq_true.1 (ok3 s'.1 ((hmem s'.1).2 ⟨s', hs', rfl⟩)) i him
       rw [f1, ho] at h3
       simp only [Bool.or_eq_true, Bool.not_eq_true', f2, g2] at h3
       rcases h3 with h3 | h3
       ·exact hq (Nat.eq_of_beq_eq_true h3)
       ·rw [e] at h3; simp at h3
      show (bif Nat.beq s'.2.1 s.2.1 then some s.2.2 else look s'.2.1 fr) = _
      rw [zq hne2]; exact h2
    ·refine zDE fun p hp => ?_
     have h1 := ok1 i him
     simp only [Bool.and_eq_true] at h1
     rw [ho] at h1
     simp only [g2, Bool.and_eq_true, Bool.not_eq_true'] at h1
     have hne3 : p.1 ≠ s.2.1 := by
      intro e
      have : (K0.map (·.1)).contains s.2.1 = true := by
       rw [List.contains_iff_mem]
       exact List.mem_map.2 ⟨p, hp, e⟩
      rw [h1.2.1] at this; cases this
     show (bif Nat.beq p.1 s.2.1 then some s.2.2 else look p.1 fr) = _
     rw [zq hne3]; exact zDF hk0 p hp
 have hm0 : unl listed st = idx.length := by
  unfold unl
  rw [List.filter_eq_self.2 (fun s hs => ?_), hlen]
  have := ok1 s.1 ((hmem s.1).2 ⟨s, hs, rfl⟩)
  simp only [Bool.and_eq_true] at this
  exact this.1
 have := key idx.length listed fr rfl (fun _ _ => rfl) hm0 (fun s hs hu => by
  have h1 := ok1 s.1 ((hmem s.1).2 ⟨s, hs, rfl⟩)
  simp only [Bool.and_eq_true, Bool.not_eq_true'] at h1
  rw [h1.1] at hu; cases hu) hK (fun m' hm' hu => by
  have h1 := ok1 m' hm'
  simp only [Bool.and_eq_true, Bool.not_eq_true'] at h1
  rw [h1.1] at hu; cases hu)
 exact this
end
end Go.Ax
namespace Go.Proofs.YtkncmbklkhjmgaaGreatDoor
open Go.Ax Go.Ax.Bg Go.Ax.Rt Go.RowKit Go.Ax.Idx Go.Ax.Cd Go.Ax.Sx
attribute [local irreducible] Ax zBI QOp zP zAl
end Go.Proofs.YtkncmbklkhjmgaaGreatDoor
namespace Go.Ax.Rt
open Go.Ax.Bg Go.Ax.Dt
/-- The first k elements are new. -/
def chg {α : Type} (g : Nat → α) (d : α) (x : List α) (k : Nat) : List α := (List.range x.length).map (fun j => if j < k then g j else x.getD j d)
theorem zCn {α : Type} (g : Nat → α) (d : α) (x : List α) (k : Nat) : (chg g d x k).length = x.length := by simp [chg]
theorem zC9 {α : Type} (g : Nat → α) (d : α) (x : List α) : chg g d x 0 = x := by
 apply List.ext_getElem (zCn _ _ _ _)
 intro i h1 h2
 simp [chg, List.getD, h2]
theorem zC2 {α : Type} (g : Nat → α) (d : α) (x : List α) {k i : Nat} (hi : i < x.length) : (chg g d x k).getD i d = if i < k then g i else x.getD i d := by
 unfold chg
 rw [zB8 _ _ 0 _ _ (by simpa using hi)]
 simp [List.getD, hi]
theorem zDg {α : Type} (g : Nat → α) (d : α) (x : List α) {k : Nat} (hk : k < x.length) : (chg g d x k).set k (g k) = chg g d x (k + 1) := by
 apply List.ext_getElem (by simp [chg])
 intro i h1 h2
 have hi : i < x.length := by simpa [chg] using h2
 have e1 := zC2 g d x (k := k + 1) hi
 rw [zDy d h2] at e1
 rw [e1, List.getElem_set]
 by_cases hik : k = i
 ·subst hik; simp
 ·have e2 := zC2 g d x (k := k) hi
  rw [zDy d (by rw [zCn]; exact hi)] at e2
  rw [if_neg hik, e2]
  by_cases h3 : i < k
  ·rw [if_pos h3, if_pos (by omega)]
  ·rw [if_neg h3, if_neg (by omega)]
theorem zEg {α : Type} (g : Nat → α) (d : α) (x : List α) : chg g d x x.length = (List.range x.length).map g := by
 unfold chg
 refine List.map_congr_left (fun j hj => ?_)
 rw [if_pos (by simpa using hj)]
theorem chg_same {α : Type} (g : Nat → α) (d : α) (x : List α) {k : Nat} (hk : k < x.length) (h : g k = x.getD k d) : chg g d x (k + 1) = chg g d x k := by
 rw [← zDg g d x hk, h]
 apply List.ext_getElem (by simp [chg])
 intro i h1 h2
 rw [List.getElem_set]
 split
 ·rename_i e; subst e
  have e2 := zC2 g d x (k := k) hk
  rw [if_neg (Nat.lt_irrefl k)] at e2
  rw [← zDy d h2, e2]
 ·rfl
/-- The rows that are new, one by one. -/
def zCQ (T : Tab) (k c : Nat) (d : Int) (i : Nat) : List Int := if i = k then T.getD k [] else zFI (T.getD i []) (T.getD k []) (at2 T k c) (at2 T i c) d
theorem zKG (T : Tab) (k c : Nat) (d : Int) : zEY T k c d = chg (zCQ T k c d) [] T T.length := by rw [zEg]; rfl
def rowG (R K : List Int) (p f d : Int) (j : Nat) : Int := zDi (R.getD j 0 * p - f * K.getD j 0) d
theorem row_chg (R K : List Int) (p f d : Int) : zFI R K p f d = chg (rowG R K p f d) 0 R R.length := by rw [zEg]; rfl
end Go.Ax.Rt
namespace Go.Ax.Tb
open Go.Ax.Bg (zDC)
end Go.Ax.Tb
namespace Go.Ax
variable [Pins]
section
variable {P : Program} {fn : Func} {c : Ctx} {fr : Fr} {H : zN} {k : List It}
theorem zEy {x : Code} (h : Nat) (o : AObj) {ob : AObj} (c' : Cells) (hh : H[h]? = some (some ob)) (ho : o.c.len = 0) (h1 : c'.len = ob.c.len) (h2 : c'.kd = ob.c.kd)
 (h3 : ∀ i j, i < ob.c.len → j < ob.c.sz → c'.at i j = ob.c.at i j ∨ (ob.c.at i j = .nil ∧ c'.at i j = .sl H.length 0 0)) (hk : Ax P fn c (.code x k) fr ((H ++ [some o]).set h (some ⟨ob.ty, c'⟩))) : Ax P fn c (.code x k) fr H := by
 intro w a σ S hr
 have g1 := hr.nowhere1 ho
 have hlt : h < H.length := (List.getElem?_eq_some_iff.1 hh).1
 have hh' : (H ++ [some o])[h]? = some (some ob) := by rw [List.getElem?_append_left hlt]; exact hh
 refine hk w a _ S (g1.recell hh' h1 h2 (fun i j v hi hj hv => ?_))
 rcases h3 i j hi hj with e | ⟨e1, e2⟩
 ·rw [e]; exact hv
 ·rw [e1] at hv
  rw [e2]
  cases hv
  exact .sl0 _ _ (by simp [upσ])
end
end Go.Ax
namespace Go.Ax
variable [Pins]
open Go.RowKit
section
variable {ind : Bool} {P : Program} {fn : Func} {c : Ctx} {fr : Fr} {H : zN} {k : List It}
variable {d : Option Nat} {ty : TypeId} {pos : String} {after : Array Edge} {g : Option (Nat × Bool)}
theorem zG0 {x : Operand} {t : TypeId} {u : TypeDesc} {h i : Nat} {oty : TypeId} {kk : IntKind} {l : List Int} (ht : P.underlying t = some u) (hu : zBY u = false) (hx : ev fr x = some (.ptr h i 0)) (hh : H[h]? = some (some ⟨oty, .ints kk l⟩)) (hi : i < l.length) :
 QOp false P fn c fr H ⟨d, .load t x, ty, pos, after, g⟩ (.int kk (l.getD i 0)) := zFO ht hu hx hh hi
theorem zAx {x : Operand} {t : TypeId} {u : TypeDesc} {h i j : Nat} {oty : TypeId} {n s : Nat} {f : Nat → Nat → AV} (ht : P.underlying t = some u) (hu : zBY u = false) (hx : ev fr x = some (.ptr h i j)) (hh : H[h]? = some (some ⟨oty, .fn n s f⟩)) (hj : Nat.blt j s = true) (hi : i < n) :
 QOp false P fn c fr H ⟨d, .load t x, ty, pos, after, g⟩ (f i j) := zGz ht hu hx hh hj hi
end
end Go.Ax
namespace Go.Proofs.YtkncmbklkhjmgaaGreatDoor
open Go.Ax Go.Ax.Bg Go.Ax.Rt Go.RowKit Go.Ax.Dt Go.Ax.Sx
theorem zq {a b : Nat} (h : a ≠ b) : Nat.beq a b = false := by
 cases h' : Nat.beq a b
 ·rfl
 ·exact absurd (Nat.eq_of_beq_eq_true h') h
theorem zAq {h : Nat} {fr : Fr} : ∀ {L : Fr}, zCD fr L → (∀ p ∈ L, p.2.forget h = p.2) → zCD (zB6 h fr) L
 | [], _, _ => trivial
 | (t, v) :: r, hk, hp => by
  refine ⟨?_, zAq hk.2 (fun p hp' => hp p (List.mem_cons_of_mem _ hp'))⟩
  have h1 := hk.1
  have hv : v.forget h = v := hp (t, v) (List.mem_cons_self ..)
  clear hk hp
  induction fr with
  | nil => cases h1
  | cons q s ih =>
   obtain ⟨u, x⟩ := q
   show Go.Ax.look t ((u, x.forget h) :: zB6 h s) = some v
   simp only [Go.Ax.look] at h1 ⊢
   cases hq : Nat.beq t u with
   | true => rw [hq] at h1; simp at h1; subst h1; rw [hv]; rfl
   | false => rw [hq] at h1; exact ih (by simpa using h1)
section
variable {P : Program} {fn : Func} {c : Ctx} {fr : Fr} {H : zN} {k : List It}
theorem zPQ {x : Code} (L : Fr) (hL : zCD fr L) (hk : Ax P fn c (.code x k) L H) : Ax P fn c (.code x k) fr H := fun w a σ S hr => hk w a σ S (hr.weaken hL)
theorem zBk {q : Bool} {all : Array Oper} {rest : List Oper} (L : Fr) (hL : zCD fr L) (hk : Ax P fn c (.ops q all rest k) L H) : Ax P fn c (.ops q all rest k) fr H := by
 cases q with
 | true => exact fun hd w a σ S hr => hk hd w a σ S (hr.weaken hL)
 | false => exact fun hd w a σ S hr => hk hd w a σ S (hr.weaken hL)
end
abbrev zBy (l : List Nat) : Cells := .ints .i64 (l.map (fun a : Nat => (a : Int)))
theorem zJL (x : Int) : (sgn x = 0) = (x = 0) := by
 apply propext
 unfold sgn
 constructor
 ·intro h; split at h
  ·exact absurd h (by decide)
  ·split at h
   ·assumption
   ·exact absurd h (by decide)
 ·intro h; subst h; rfl
theorem zBN (h : Nat) (a : List Int) : (zC a).forget h = zC a := by
 show Cells.fn _ _ _ = Cells.fn _ _ _
 congr 1
 funext i j
 match j with
 | 0 => rfl
 | 1 => rfl
 | _ + 2 => rfl
theorem zMH (m : Nat) (x : Int) : zA8 m (.box (zj x)) := by
 intro i j hi hj
 have hj' : j < 2 := hj
 match j, hj' with
 | 0, _ => rfl
 | 1, _ => rfl
theorem zLl (l : List Nat) (a : Nat) : CEq (.ints .i64 (l.map (fun a : Nat => (a : Int)) ++ [(a : Int)])) (zBy (l ++ [a])) := by
 show CEq _ (.ints .i64 ((l ++ [a]).map (fun a : Nat => (a : Int))))
 rw [List.map_append]
 exact CEq.refl _
theorem zDK (l : List Int) (j : Nat) (v : Int) : ∀ i' j', i' < (zC l).len → j' < 2 → (zC (l.set j v)).at i' j' = if i' = j then (zj v).getD j' .any else (zC l).at i' j' := by
 intro i' j' hi' hj'
 show (zj ((l.set j v).getD i' 0)).getD j' .any = if i' = j then _ else (zj (l.getD i' 0)).getD j' .any
 rw [getD_set]
 have hl : i' < l.length := hi'
 by_cases h : i' = j
 ·rw [if_pos ⟨h, by omega⟩, if_pos h]
 ·rw [if_neg (fun q => h q.1), if_neg h]
theorem zNy {α : Type} (l : List α) (d : α) (i : Nat) (hi : i < l.length) : l.set i (l.getD i d) = l := by
 apply List.ext_getElem (by simp)
 intro a h1 h2
 rw [List.getElem_set]
 split
 ·rename_i e; subst e; rw [zDy d hi]
 ·rfl
theorem zKH {x p f y : Int} {E : Nat} (hx : x.natAbs ≤ 10 ^ E) (hp : p.natAbs ≤ 10 ^ E) (hf : f.natAbs ≤ 10 ^ E) (hy : y.natAbs ≤ 10 ^ E) (hE : E ≤ 3600000) :
 (zS (x * p).natAbs).length ≤ 1000000 ∧ (zS (f * y).natAbs).length ≤ 1000000 ∧ (zS (x * p - f * y).natAbs).length ≤ 1000000 := by
 have e1 : (x * p).natAbs ≤ 10 ^ (E + E) := by rw [Int.natAbs_mul, Nat.pow_add]; exact Nat.mul_le_mul hx hp
 have e2 : (f * y).natAbs ≤ 10 ^ (E + E) := by rw [Int.natAbs_mul, Nat.pow_add]; exact Nat.mul_le_mul hf hy
 have e3 : (x * p - f * y).natAbs ≤ 10 ^ (E + E + 1) := by
  refine Nat.le_trans (Int.natAbs_sub_le _ _) ?_
  rw [Nat.pow_succ]; omega
 exact ⟨zFL e1 (by omega), zFL e2 (by omega), zFL e3 (by omega)⟩
abbrev zBh (b n L : Nat) : Cells := .fn n 1 (fun i _ => .sl (b + 4 + i) 0 L)
abbrev zDu (b k m w : Nat) (d : Int) : Cells := .box [.sl (b + 3) 0 k, .bool (decide (d < 0)), zh d.natAbs, .sl (b + 2) 0 m, iN w]
/-- The memory of a tableau: what was there, the table, what is behind it. -/
abbrev zZ (G : zN) (F : Option AObj) (L w k : Nat) (X : Tab) (d : Int) (β : List Nat) (T : zN) : zN :=
 G ++ (some ⟨270, zDu G.length k β.length w d⟩ :: F :: some ⟨3, zBy β⟩ :: zAm ⟨265, zBh G.length X.length L⟩ 102 zC X T)
def OkG (G : zN) : Prop := ∀ m, G.length ≤ m → ∀ o : AObj, some o ∈ G → zA8 m o.c
section
variable {G : zN} {F : Option AObj} {L w k : Nat} {X : Tab} {d : Int} {β : List Nat} {T : zN}
theorem zA1 : (zZ G F L w k X d β T)[G.length]? = some (some ⟨270, zDu G.length k β.length w d⟩) := zD8 (i := 0) rfl
theorem tb_fac : (zZ G F L w k X d β T)[G.length + 1]? = some F := zD8 (i := 1) rfl
theorem zFi : (zZ G F L w k X d β T)[G.length + 2]? = some (some ⟨3, zBy β⟩) := zD8 (i := 2) rfl
theorem zCm : (zZ G F L w k X d β T)[G.length + 3]? = some (some ⟨265, zBh G.length X.length L⟩) := zD8 (i := 3) rfl
theorem zCZ {a : Nat} (ha : a < X.length) : (zZ G F L w k X d β T)[G.length + 4 + a]? = some (some ⟨102, zC (X.getD a [])⟩) := by
 rw [show G.length + 4 + a = G.length + (3 + (a + 1)) by omega]
 refine (zD8 (i := 3 + (a + 1)) Z).trans ?_
 rw [show 3 + (a + 1) = (a + 1) + 3 by omega]
 exact nest_row (O := ⟨265, zBh G.length X.length L⟩) (t := 102) (f := zC) (X := X) (L := T) [] ha
theorem zAZ (j : Nat) : (zZ G F L w k X d β T)[G.length + 4 + X.length + j]? = T[j]? := by
 rw [show G.length + 4 + X.length + j = G.length + ((X.length + 1 + j) + 3) by omega]
 refine (zD8 (i := (X.length + 1 + j) + 3) Z).trans ?_
 exact nest_loc (O := ⟨265, zBh G.length X.length L⟩) (t := 102) (f := zC) (X := X) (L := T)
theorem zBB : (zZ G F L w k X d β T).length = G.length + 4 + X.length + T.length := by
 unfold zZ
 rw [List.length_append, List.length_cons, List.length_cons, List.length_cons, nest_len]; omega
theorem zAY (T' : zN) : zZ G F L w k X d β T ++ T' = zZ G F L w k X d β (T ++ T') := by
 unfold zZ
 rw [List.append_assoc, List.cons_append, List.cons_append, List.cons_append, nest_app]
theorem zH7 (k' w' : Nat) (d' : Int) : (zZ G F L w k X d β T).set G.length (some ⟨270, zDu G.length k' β.length w' d'⟩) = zZ G F L w' k' X d' β T := zCA (i := 0) _ rfl
theorem zKz {β' : List Nat} (hb : β'.length = β.length) : (zZ G F L w k X d β T).set (G.length + 2) (some ⟨3, zBy β'⟩) = zZ G F L w k X d β' T := by
 refine (zCA (i := 2) _ Z).trans ?_
 show G ++ (some ⟨_, zDu G.length k β.length w d⟩ :: F :: some ⟨_, zBy β'⟩ :: _) = _
 rw [← hb]
theorem zK0 {a : Nat} (ha : a < X.length) (x : List Int) : (zZ G F L w k X d β T).set (G.length + 4 + a) (some ⟨102, zC x⟩) = zZ G F L w k (X.set a x) d β T := by
 rw [show G.length + 4 + a = G.length + ((a + 1) + 3) by omega]
 refine (zCA (i := (a + 1) + 3) _ Z).trans ?_
 have h := zMZ (O := ⟨265, zBh G.length X.length L⟩) (t := 102) (f := zC) (X := X) (L := T) x ha
 show G ++ (_ :: F :: _ :: (zAm _ _ _ X T).set (a + 1) _) = _
 rw [h]
 unfold zZ
 rw [List.length_set]
theorem zAI (j : Nat) (x : Option AObj) : (zZ G F L w k X d β T).set (G.length + 4 + X.length + j) x = zZ G F L w k X d β (T.set j x) := by
 rw [show G.length + 4 + X.length + j = G.length + ((X.length + 1 + j) + 3) by omega]
 refine (zCA (i := (X.length + 1 + j) + 3) _ Z).trans ?_
 show G ++ (_ :: F :: _ :: (zAm _ _ _ X T).set (X.length + 1 + j) _) = _
 rw [zMY]
theorem zCN (hG : OkG G) (m : Nat) (hm : G.length + 4 + X.length ≤ m) (hF : ∀ o : AObj, F = some o → zA8 m o.c) (hT : ∀ o : AObj, some o ∈ T → zA8 m o.c) : ∀ (h : Nat) (o : AObj), (zZ G F L w k X d β T)[h]? = some (some o) → zA8 m o.c := by
 intro h o ho
 have hmem := List.mem_of_getElem? ho
 unfold zZ zAm at hmem
 rw [List.mem_append] at hmem
 rcases hmem with hmem | hmem
 ·exact hG m (by omega) o hmem
 rw [List.mem_cons, List.mem_cons, List.mem_cons, List.mem_cons, List.mem_append] at hmem
 rcases hmem with e | e | e | e | hmem | hmem
 ·cases e
  intro i j hi hj
  have hj' : j < 5 := hj
  match j, hj' with
  | 0, _ => exact Nat.ble_eq_true_of_le (show G.length + 3 + 1 ≤ m by omega)
  | 1, _ => rfl
  | 2, _ => rfl
  | 3, _ => exact Nat.ble_eq_true_of_le (show G.length + 2 + 1 ≤ m by omega)
  | 4, _ => rfl
 ·exact hF o e.symm
 ·cases e
  exact fun i j _ _ => rfl
 ·cases e
  intro i j hi hj
  have hi' : i < X.length := hi
  exact Nat.ble_eq_true_of_le (show G.length + 4 + i + 1 ≤ m by omega)
 ·obtain ⟨a, _, e⟩ := List.mem_map.1 hmem
  cases e
  intro i j hi hj
  have hj' : j < 2 := hj
  match j, hj' with
  | 0, _ => rfl
  | 1, _ => rfl
 ·exact hT o hmem
theorem tabB_den (b k m w : Nat) (d v : Int) : ∀ i' j', i' < (zDu b k m w d).len → j' < (zDu b k m w d).sz → (zDu b k m w v).at i' j' = if i' = 0 ∧ 1 ≤ j' ∧ j' < 1 + 2 then (zj v).getD (j' - 1) .any else (zDu b k m w d).at i' j' := by
 intro i' j' hi' hj'
 obtain rfl := Nat.lt_one_iff.1 (show i' < 1 from hi')
 have hj2 : j' < 5 := hj'
 match j', hj2 with
 | 0, _ => rfl
 | 1, _ => rfl
 | 2, _ => rfl
 | 3, _ => rfl
 | 4, _ => rfl
end
end Go.Proofs.YtkncmbklkhjmgaaGreatDoor
namespace Go.Proofs.YtkncmbklkhjmgaaGreatDoor
open Go.Ax Go.Ax.Bg Go.Ax.Rt Go.RowKit Go.Ax.Dt Go.Ax.Sx
attribute [local irreducible] Ax zBI QOp zP zAl
theorem zF5 (x : Int) : (sgn x < 0) = (x < 0) := by
 apply propext
 unfold sgn
 constructor
 ·intro h
  split at h
  ·assumption
  ·split at h <;> omega
 ·intro h
  rw [if_pos h]; decide
theorem zLr {α β : Type} (f : α → β) (l : List α) (d : α) : (List.range l.length).map (fun i => f (l.getD i d)) = l.map f := by
 apply List.ext_getElem (by simp)
 intro i h1 h2
 simp [List.getD, List.getElem?_eq_getElem (by simpa using h2 : i < l.length)]
theorem zNd (G : zN) (hG : OkG G) (L w n : Nat) (X : Tab) (d : Int) (β : List Nat) (r cc : Nat) (E : Nat) (hn : X.length = n) (hn40 : n ≤ 1000000) (hL : ∀ x ∈ X, x.length = L) (hL40 : L ≤ 1000000) (hr : r < β.length) (hβ : β.length ≤ n) (hc : cc < L) (hd : d ≠ 0)
 (hX : ∀ i j, i < n → j < L → (at2 X i j).natAbs ≤ 10 ^ E) (hdE : d.natAbs ≤ 10 ^ E) (hE : E ≤ 3600000) :
 zP Tryz.prog 244 [.ptr G.length 0 0, iN r, iN cc] (zZ G none L w n X d β []) (fun h => h < (zZ G none L w n X d β []).length)
  (fun r' H' => r' = .tup [] ∧ H' = zZ G none L w n (zEl X r cc d) (if at2 X r cc < 0 then -(at2 X r cc) else at2 X r cc) (β.set r cc) []) := by
 refine zE (P := Tryz.prog) (fn := Tryz.f244) Z Z (by kernel_rfl) Z (fun c hR hfix => ?_)
 have hrn : r < n := Nat.lt_of_lt_of_le hr hβ
 have hlen : (zZ G none L w n X d β []).length = G.length + 4 + n := by rw [zBB, hn]; rfl
 rw [hlen] at hfix
 have f1 := zA1 (G := G) (F := none) (L := L) (w := w) (k := n) (X := X) (d := d) (β := β) (T := [])
 have f2 := zCm (G := G) (F := none) (L := L) (w := w) (k := n) (X := X) (d := d) (β := β) (T := [])
 have f3 := zCZ (G := G) (F := none) (L := L) (w := w) (k := n) (X := X) (d := d) (β := β) (T := []) (a := r) (by rw [hn]; exact hrn)
 have lr : (X.getD r []).length = L := hL _ (zAD [] (by rw [hn]; exact hrn))
 have g1 : r < (zBh G.length X.length L).len := by show r < X.length; rw [hn]; exact hrn
 have g2 : cc < (zC (X.getD r [])).len := by show cc < (X.getD r []).length; rw [lr]; exact hc
 refine rn7 ?_
 refine zO (zZ G none L w n X d β [some ⟨102, .box [.bool false, .nil]⟩]) (by rw [zAY]; rfl) ?_
 refine zD 6 (.ptr (G.length + 4 + n) 0 0) Z (AEq.of_eq (by rw [hlen])) ?_
 refine zD 23 (zA0 (at2 X r cc)) Z (AEq.of_eq Z) ?_
 have q0 := zAZ (G := G) (F := none) (L := L) (w := w) (k := n) (X := X) (d := d) (β := β) (T := [some ⟨102, .box [.bool false, .nil]⟩]) 0
 rw [hn] at q0
 refine zz (c' := .box (zj (at2 X r cc))) Z Z Z q0 Z Nat.zero_lt_one Z Z (fun i' j' hi' hj' => ?_) ?_
 ·rw [if_pos (Nat.lt_one_iff.1 hi')]; rfl
 refine zO (zZ G none L w n X d β [some ⟨102, .box (zj (at2 X r cc))⟩]) (by have q := zAI (G := G) (F := none) (L := L) (w := w) (k := n) (X := X) (d := d) (β := β) (T := [some ⟨102, .box [.bool false, .nil]⟩]) 0 (some ⟨102, .box (zj (at2 X r cc))⟩); rw [hn] at q; exact q) ?_
 clear f1 f2 f3 q0
 have f1 := zA1 (G := G) (F := none) (L := L) (w := w) (k := n) (X := X) (d := d) (β := β) (T := [some ⟨102, .box (zj (at2 X r cc))⟩])
 have hsz : ∀ x : Int, x.natAbs ≤ 10 ^ E → (zS x.natAbs).length ≤ 400001 := fun x hx => zFL hx (by omega)
 have bp := hX r cc hrn hc
 refine rn7 ?_
 refine ze (ι := Nat) (fun a => [(0, .ptr G.length 0 0), (1, iN r), (2, iN cc), (6, .ptr (G.length + 4 + n) 0 0), (27, .sl (G.length + 3) 0 n), (28, iN n), (29, iN a)]) (fun a => zZ G none L w n (chg (zCQ X r cc d) [] X a) d β [some ⟨102, .box (zj (at2 X r cc))⟩]) (fun a => a ≤ n) (fun a => n - a) 0 ⟨⟨Z, Z, Z, Z, Z, Z, Z, trivial⟩, by rw [zC9], Nat.zero_le _⟩ ?_
 clear f1
 intro a ha
 have hXl : (chg (zCQ X r cc d) [] X a).length = n := by rw [zCn, hn]
 refine rn4 ?_
 refine zA Z (fun h7 => ?_) (fun h7 => ?_)
 ·have ha' : a < n := by omega
  have eA : (chg (zCQ X r cc d) [] X a).getD a [] = X.getD a [] := by rw [zC2 _ _ _ (by omega), if_neg (Nat.lt_irrefl a)]
  have eK : (chg (zCQ X r cc d) [] X a).getD r [] = X.getD r [] := by
   rw [zC2 _ _ _ (by omega)]
   split
   ·unfold zCQ; rw [if_pos rfl]
   ·rfl
  have lA : (X.getD a []).length = L := hL _ (zAD [] (by omega))
  have f2 := zCm (G := G) (F := none) (L := L) (w := w) (k := n) (X := (chg (zCQ X r cc d) [] X a)) (d := d) (β := β) (T := [some ⟨102, .box (zj (at2 X r cc))⟩])
  have f3 := zCZ (G := G) (F := none) (L := L) (w := w) (k := n) (X := (chg (zCQ X r cc d) [] X a)) (d := d) (β := β) (T := [some ⟨102, .box (zj (at2 X r cc))⟩]) (a := a) (by omega)
  rw [eA] at f3
  have g3 : a < (zBh G.length (chg (zCQ X r cc d) [] X a).length L).len := by show a < (chg (zCQ X r cc d) [] X a).length; omega
  have g4 : cc < (zC (X.getD a [])).len := by show cc < (X.getD a []).length; omega
  refine rn18 ?_
  refine zA Z (fun h8 => ?_) (fun h8 => ?_)
  ·have h8' : a = r := by omega
   refine rn5 ?_
   exact zK ⟨a + 1, by omega, by omega, ⟨Z, Z, Z, Z, Z, Z, Z, trivial⟩, by rw [chg_same _ _ _ (by omega) (by rw [h8']; unfold zCQ; rw [if_pos rfl])]⟩
  ·have hne : ¬ a = r := by omega
   refine rn7 ?_
   have hl2 : (zZ G none L w n (chg (zCQ X r cc d) [] X a) d β [some ⟨102, .box (zj (at2 X r cc))⟩]).length = G.length + 5 + n := by rw [zBB, hXl]; show _ + 1 = _; omega
   refine zO (zZ G none L w n (chg (zCQ X r cc d) [] X a) d β [some ⟨102, .box (zj (at2 X r cc))⟩, some ⟨102, .box [.bool false, .nil]⟩]) (by rw [zAY]; rfl) ?_
   refine zD 9 (.ptr (G.length + 5 + n) 0 0) Z (AEq.of_eq (by rw [hl2])) ?_
   refine zD 40 (zA0 (at2 X a cc)) Z (AEq.of_eq Z) ?_
   have q1 := zAZ (G := G) (F := none) (L := L) (w := w) (k := n) (X := (chg (zCQ X r cc d) [] X a)) (d := d) (β := β) (T := [some ⟨102, .box (zj (at2 X r cc))⟩, some ⟨102, .box [.bool false, .nil]⟩]) 1
   rw [hXl, show G.length + 4 + n + 1 = G.length + 5 + n by omega] at q1
   refine zz (c' := .box (zj (at2 X a cc))) Z Z Z q1 Z Nat.zero_lt_one Z Z (fun i' j' hi' hj' => ?_) ?_
   ·rw [if_pos (Nat.lt_one_iff.1 hi')]; rfl
   refine zO (zZ G none L w n (chg (zCQ X r cc d) [] X a) d β [some ⟨102, .box (zj (at2 X r cc))⟩, some ⟨102, .box (zj (at2 X a cc))⟩]) (by have q := zAI (G := G) (F := none) (L := L) (w := w) (k := n) (X := (chg (zCQ X r cc d) [] X a)) (d := d) (β := β) (T := [some ⟨102, .box (zj (at2 X r cc))⟩, some ⟨102, .box [.bool false, .nil]⟩]) 1 (some ⟨102, .box (zj (at2 X a cc))⟩); rw [hXl, show G.length + 4 + n + 1 = G.length + 5 + n by omega] at q; exact q) ?_
   clear f2 f3 q1
   refine rn3 ?_
   refine ze (ι := Nat) (fun j => [(0, .ptr G.length 0 0), (1, iN r), (2, iN cc), (6, .ptr (G.length + 4 + n) 0 0), (7, iN a), (8, .sl (G.length + 4 + a) 0 L), (9, .ptr (G.length + 5 + n) 0 0), (27, .sl (G.length + 3) 0 n), (28, iN n), (29, iN a), (42, iN L), (43, iN j)]) (fun j => zZ G none L w n ((chg (zCQ X r cc d) [] X a).set a (chg (rowG (X.getD a []) (X.getD r []) (at2 X r cc) (at2 X a cc) d) 0 (X.getD a []) j)) d β [some ⟨102, .box (zj (at2 X r cc))⟩, some ⟨102, .box (zj (at2 X a cc))⟩]) (fun j => j ≤ L) (fun j => L - j) 0 ⟨⟨Z, Z, Z, Z, Z, Z, Z, Z, Z, Z, Z, Z, trivial⟩, by rw [zC9, ← eA, zNy (chg (zCQ X r cc d) [] X a) [] _ (by omega)], Nat.zero_le _⟩ ?_
   intro j hj
   refine rn4 ?_
   refine zA Z (fun h9 => ?_) (fun h9 => ?_)
   ·have hj' : j < L := by omega
    have hgj := zC2 (rowG (X.getD a []) (X.getD r []) (at2 X r cc) (at2 X a cc) d) 0 (X.getD a []) (k := j) (i := j) (by omega)
    rw [if_neg (Nat.lt_irrefl j)] at hgj
    have hsj := zDg (rowG (X.getD a []) (X.getD r []) (at2 X r cc) (at2 X a cc) d) 0 (X.getD a []) (k := j) (by omega)
    have hlj := zCn (rowG (X.getD a []) (X.getD r []) (at2 X r cc) (at2 X a cc) d) 0 (X.getD a []) j
    have hgx : (rowG (X.getD a []) (X.getD r []) (at2 X r cc) (at2 X a cc) d) j = zDi ((X.getD a []).getD j 0 * at2 X r cc - at2 X a cc * (X.getD r []).getD j 0) d := rfl
    rw [← hgj] at hgx
    rw [hgx] at hsj
    have ex : ((chg (rowG (X.getD a []) (X.getD r []) (at2 X r cc) (at2 X a cc) d) 0 (X.getD a []) j).getD j 0).natAbs ≤ 10 ^ E := by rw [hgj]; exact hX a j ha' hj'
    clear hgj hgx
    generalize (chg (rowG (X.getD a []) (X.getD r []) (at2 X r cc) (at2 X a cc) d) 0 (X.getD a []) j) = row at *
    generalize hXA : (chg (zCQ X r cc d) [] X a) = XA at *
    have hXl2 : (XA.set a row).length = n := by rw [List.length_set]; exact hXl
    have rA : (XA.set a row).getD a [] = row := by rw [getD_set, if_pos ⟨rfl, by omega⟩]
    have rK : (XA.set a row).getD r [] = X.getD r [] := by rw [getD_set, if_neg (fun q => hne q.1.symm), eK]
    have q4 := zCm (G := G) (F := none) (L := L) (w := w) (k := n) (X := (XA.set a row)) (d := d) (β := β) (T := [some ⟨102, .box (zj (at2 X r cc))⟩, some ⟨102, .box (zj (at2 X a cc))⟩])
    have q5 := zCZ (G := G) (F := none) (L := L) (w := w) (k := n) (X := (XA.set a row)) (d := d) (β := β) (T := [some ⟨102, .box (zj (at2 X r cc))⟩, some ⟨102, .box (zj (at2 X a cc))⟩]) (a := a) (by omega)
    rw [rA] at q5
    have q6 := zCZ (G := G) (F := none) (L := L) (w := w) (k := n) (X := (XA.set a row)) (d := d) (β := β) (T := [some ⟨102, .box (zj (at2 X r cc))⟩, some ⟨102, .box (zj (at2 X a cc))⟩]) (a := r) (by omega)
    rw [rK] at q6
    have q7 := zA1 (G := G) (F := none) (L := L) (w := w) (k := n) (X := (XA.set a row)) (d := d) (β := β) (T := [some ⟨102, .box (zj (at2 X r cc))⟩, some ⟨102, .box (zj (at2 X a cc))⟩])
    have q8 := zAZ (G := G) (F := none) (L := L) (w := w) (k := n) (X := (XA.set a row)) (d := d) (β := β) (T := [some ⟨102, .box (zj (at2 X r cc))⟩, some ⟨102, .box (zj (at2 X a cc))⟩]) 0
    rw [hXl2, Nat.add_zero] at q8
    have q9 := zAZ (G := G) (F := none) (L := L) (w := w) (k := n) (X := (XA.set a row)) (d := d) (β := β) (T := [some ⟨102, .box (zj (at2 X r cc))⟩, some ⟨102, .box (zj (at2 X a cc))⟩]) 1
    rw [hXl2, show G.length + 4 + n + 1 = G.length + 5 + n by omega] at q9
    have g5 : r < (zBh G.length (XA.set a row).length L).len := by show r < (XA.set a row).length; omega
    have g6 : j < (zC row).len := by show j < row.length; omega
    have g7 : j < (zC (X.getD r [])).len := by show j < (X.getD r []).length; omega
    have bK : ((X.getD r []).getD j 0).natAbs ≤ 10 ^ E := hX r j hrn hj'
    have bf : (at2 X a cc).natAbs ≤ 10 ^ E := hX a cc ha' hc
    obtain ⟨s1, s2, s3⟩ := zKH ex bp bf bK hE
    have m1 := zCS (row.getD j 0) (at2 X r cc) (by have := hsz _ ex; omega) (by have := hsz _ bp; omega)
    have m2 := zCS (at2 X a cc) ((X.getD r []).getD j 0) (by have := hsz _ bf; omega) (by have := hsz _ bK; omega)
    have m3 := zMU (row.getD j 0 * at2 X r cc) (at2 X a cc * (X.getD r []).getD j 0) s1 s2
    have m4 := zQo (row.getD j 0 * at2 X r cc - at2 X a cc * (X.getD r []).getD j 0) d hd s3 (by have := hsz _ hdE; omega)
    refine rn1 ?_
    refine zi (by kernel_rfl) ?_
    refine zp (fuel := 1) [0, 1, 2, 3, 4, 5, 6, 7, 8, 9, 10, 11, 12, 13, 14, 15, 16, 17, 18, 19, 20, 21, 22, 23, 24, 25, 26] [(0, .ptr G.length 0 0), (1, iN r), (2, iN cc), (6, .ptr (G.length + 4 + n) 0 0), (7, iN a), (8, .sl (G.length + 4 + a) 0 L), (9, .ptr (G.length + 5 + n) 0 0), (27, .sl (G.length + 3) 0 n), (28, iN n), (29, iN a), (42, iN L), (43, iN j), (10, iN j)] ⟨Z, Z, Z, Z, Z, Z, Z, Z, Z, Z, Z, Z, Z, trivial⟩ (by kernel_rfl) (by decide) Z Z ?_
    refine zM Z Z (zJ Z) ?_
    refine zM Z Z (zJ Z) ?_
    refine zM Z Z (zJ Z) ?_
    refine zM Z Z (zJ Z) ?_
    refine zM Z Z (qis Z Z Z) ?_
    refine zM Z Z (qas Z Z Z Z) ?_
    refine zM Z Z (qas Z Z Z Z) ?_
    refine zA6 Z Z Z Z Z m1 ?_
    refine zM Z Z (qas Z Z Z Z) ?_
    refine zM Z Z (zJ Z) ?_
    refine zM Z Z (zc Z) ?_
    refine zM Z Z (zH Z Z Z Z Z Z) ?_
    refine zM Z Z (z8 Z Z Z (by assumption) (by rfl)) ?_
    refine zM Z Z (zJ Z) ?_
    refine zM Z Z (qis Z Z Z) ?_
    refine zM Z Z (zAx Z Z Z (by assumption) Z (by first | assumption | omega)) ?_
    refine zM Z Z (zJ Z) ?_
    refine zM Z Z (qis Z Z Z) ?_
    refine zM Z Z (qas Z Z Z Z) ?_
    refine zA6 Z Z Z Z Z m2 ?_
    refine zA6 Z Z Z Z Z m3 ?_
    refine zM Z Z (zJ Z) ?_
    refine zM Z Z (zc Z) ?_
    refine zM Z Z (zH Z Z Z Z Z Z) ?_
    refine zM Z Z (qps Z Z Z Z) ?_
    refine zA6 Z Z Z Z Z m4 ?_
    refine zM Z Z (qis Z Z Z) ?_
    refine zAA ?_
    generalize zDi (row.getD j 0 * at2 X r cc - at2 X a cc * (X.getD r []).getD j 0) d = v at *
    refine zF (is := [27]) (by kernel_rfl) (by simp) Z ⟨fun o ho => ?_, trivial⟩
    all_goals (cases ho)
    refine zz (c' := zC (row.set j v)) Z Z Z q5 Z g6 (List.length_set ..) Z (zDK row j v) ?_
    refine zO (zZ G none L w n (XA.set a (row.set j v)) d β [some ⟨102, .box (zj (at2 X r cc))⟩, some ⟨102, .box (zj (at2 X a cc))⟩]) ((zK0 (by omega) _).trans (by rw [List.set_set])) ?_
    refine rn1 ?_
    refine zW (by kernel_rfl) ?_
    refine rn5 ?_
    exact zK ⟨j + 1, by omega, by omega, ⟨Z, Z, Z, Z, Z, Z, Z, Z, Z, Z, Z, Z, trivial⟩, by rw [hsj]⟩
   ·have hje : L = j := by omega
    subst hje
    have hall := row_chg (X.getD a []) (X.getD r []) (at2 X r cc) (at2 X a cc) d
    rw [lA] at hall
    have hel : zCQ X r cc d a = zFI (X.getD a []) (X.getD r []) (at2 X r cc) (at2 X a cc) d := by unfold zCQ; rw [if_neg hne]
    rw [← hall, ← hel, zDg _ _ _ (by omega)]
    have hXl3 : (chg (zCQ X r cc d) [] X (a + 1)).length = n := by rw [zCn, hn]
    have hl3 : (zZ G none L w n (chg (zCQ X r cc d) [] X (a + 1)) d β [some ⟨102, .box (zj (at2 X r cc))⟩]).length = G.length + 5 + n := by rw [zBB, hXl3]; show _ + 1 = _; omega
    refine zEO ?_
    refine zI ?_
    refine zBF (zZ G none L w n (chg (zCQ X r cc d) [] X (a + 1)) d β [some ⟨102, .box (zj (at2 X r cc))⟩]) [some ⟨102, .box (zj (at2 X a cc))⟩] [(0, .ptr G.length 0 0), (1, iN r), (2, iN cc), (6, .ptr (G.length + 4 + n) 0 0), (27, .sl (G.length + 3) 0 n), (28, iN n), (29, iN a)] (by rw [zAY]; rfl) ⟨Z, Z, Z, Z, Z, Z, Z, trivial⟩ (fun h hh => by rw [hfix] at hh; rw [hl3]; omega)
     (by rw [hl3]; exact zCN hG _ (by omega) (fun o ho => by cases ho) (fun o ho => by cases List.mem_singleton.1 ho; exact zMH _ _)) (by rw [hl3]; simp [zDP, zCB]; omega) ?_
    refine rn3 ?_
    exact zK ⟨a + 1, by omega, by omega, ⟨Z, Z, Z, Z, Z, Z, Z, trivial⟩, Z⟩
 have hae : n = a := by omega
 subst hae
 rw [show chg (zCQ X r cc d) [] X n = zEY X r cc d by rw [zKG, hn]]
 have hYL := zI9 X r cc d (by omega) hL
 have hYl : (zEY X r cc d).length = n := by rw [zI8, hn]
 have eP : zEl X r cc d = if at2 X r cc < 0 then (zEY X r cc d).map (fun l => l.map (fun x => -x)) else zEY X r cc d := rfl
 have hEl : (zEl X r cc d).length = n := by rw [zKV, hn]
 clear ha hXl h7
 generalize zEY X r cc d = Y at *
 refine zBa ?_
 refine z7 ?_
 apply zAJ (H := zZ G none L w n (zEl X r cc d) d β [some ⟨102, .box (zj (if at2 X r cc < 0 then -(at2 X r cc) else at2 X r cc))⟩]) [(0, .ptr G.length 0 0), (1, iN r), (2, iN cc), (6, .ptr (G.length + 4 + n) 0 0)]
 ·intro fin
  have f1 := zA1 (G := G) (F := none) (L := L) (w := w) (k := n) (X := Y) (d := d) (β := β) (T := [some ⟨102, .box (zj (at2 X r cc))⟩])
  have q0 := zAZ (G := G) (F := none) (L := L) (w := w) (k := n) (X := Y) (d := d) (β := β) (T := [some ⟨102, .box (zj (at2 X r cc))⟩]) 0
  rw [hYl, Nat.add_zero] at q0
  have cs := zEJ (at2 X r cc)
  refine rn7 ?_
  refine zD 75 (zA0 (at2 X r cc)) Z (AEq.of_eq Z) ?_
  refine zB Z Z Z cs ?_
  refine zBa ?_
  refine zA Z (fun h1 => ?_) (fun h1 => ?_)
  ·rw [zF5] at h1
   rw [if_pos h1] at eP
   rw [if_pos h1] at fin
   have co := zGH (at2 X r cc)
   refine rn7 ?_
   refine zD 78 (zA0 (at2 X r cc)) Z (AEq.of_eq Z) ?_
   refine zB Z Z Z co ?_
   skip
   refine zz (c' := .box (zj (-(at2 X r cc)))) Z Z Z q0 Z Nat.zero_lt_one Z Z (fun i' j' hi' hj' => ?_) ?_
   ·rw [if_pos (Nat.lt_one_iff.1 hi')]; rfl
   refine zO (zZ G none L w n Y d β [some ⟨102, .box (zj (-(at2 X r cc)))⟩]) (by have q := zAI (G := G) (F := none) (L := L) (w := w) (k := n) (X := Y) (d := d) (β := β) (T := [some ⟨102, .box (zj (at2 X r cc))⟩]) 0 (some ⟨102, .box (zj (-(at2 X r cc)))⟩); rw [hYl, Nat.add_zero] at q; exact q) ?_
   clear f1 q0
   have f1 := zA1 (G := G) (F := none) (L := L) (w := w) (k := n) (X := Y) (d := d) (β := β) (T := [some ⟨102, .box (zj (-(at2 X r cc)))⟩])
   refine rn7 ?_
   refine ze (ι := Nat) (fun a => [(0, .ptr G.length 0 0), (1, iN r), (2, iN cc), (6, .ptr (G.length + 4 + n) 0 0), (83, .sl (G.length + 3) 0 n), (84, iN n), (85, iN a)]) (fun a => zZ G none L w n (chg (fun i => (Y.getD i []).map (fun x => -x)) [] Y a) d β [some ⟨102, .box (zj (-(at2 X r cc)))⟩]) (fun a => a ≤ n) (fun a => n - a) 0 ⟨⟨Z, Z, Z, Z, Z, Z, Z, trivial⟩, by rw [zC9], Nat.zero_le _⟩ ?_
   clear f1
   intro a ha
   have hXl : (chg (fun i => (Y.getD i []).map (fun x => -x)) [] Y a).length = n := by rw [zCn, hYl]
   refine rn4 ?_
   refine zA Z (fun h7 => ?_) (fun h7 => ?_)
   ·have ha' : a < n := by omega
    have eA : (chg (fun i => (Y.getD i []).map (fun x => -x)) [] Y a).getD a [] = Y.getD a [] := by rw [zC2 _ _ _ (by omega), if_neg (Nat.lt_irrefl a)]
    have lA : (Y.getD a []).length = L := hYL _ (zAD [] (by omega))
    have hst := zDg (fun i => (Y.getD i []).map (fun x => -x)) [] Y (k := a) (by omega)
    have f2 := zCm (G := G) (F := none) (L := L) (w := w) (k := n) (X := (chg (fun i => (Y.getD i []).map (fun x => -x)) [] Y a)) (d := d) (β := β) (T := [some ⟨102, .box (zj (-(at2 X r cc)))⟩])
    have g3 : a < (zBh G.length (chg (fun i => (Y.getD i []).map (fun x => -x)) [] Y a).length L).len := by show a < (chg (fun i => (Y.getD i []).map (fun x => -x)) [] Y a).length; omega
    refine rn7 ?_
    generalize hZA : (chg (fun i => (Y.getD i []).map (fun x => -x)) [] Y a) = ZA at *
    generalize hy : Y.getD a [] = y at *
    refine ze (ι := Nat) (fun j => [(0, .ptr G.length 0 0), (1, iN r), (2, iN cc), (6, .ptr (G.length + 4 + n) 0 0), (12, .sl (G.length + 4 + a) 0 L), (83, .sl (G.length + 3) 0 n), (84, iN n), (85, iN a), (90, iN L), (91, iN j)]) (fun j => zZ G none L w n (ZA.set a (chg (fun j => -(y.getD j 0)) 0 y j)) d β [some ⟨102, .box (zj (-(at2 X r cc)))⟩]) (fun j => j ≤ L) (fun j => L - j) 0 ⟨⟨Z, Z, Z, Z, Z, Z, Z, Z, Z, Z, trivial⟩, by rw [zC9, ← eA, zNy ZA [] _ (by omega)], Nat.zero_le _⟩ ?_
    intro j hj
    refine rn4 ?_
    refine zA Z (fun h9 => ?_) (fun h9 => ?_)
    ·have hj' : j < L := by omega
     have hgj := zC2 (fun j => -(y.getD j 0)) 0 y (k := j) (i := j) (by omega)
     rw [if_neg (Nat.lt_irrefl j)] at hgj
     have hsj := zDg (fun j => -(y.getD j 0)) 0 y (k := j) (by omega)
     have hlj := zCn (fun j => -(y.getD j 0)) 0 y j
     rw [← hgj] at hsj
     generalize (chg (fun j => -(y.getD j 0)) 0 y j) = row at *
     have hXl2 : (ZA.set a row).length = n := by rw [List.length_set]; exact hXl
     have rA : (ZA.set a row).getD a [] = row := by rw [getD_set, if_pos ⟨rfl, by omega⟩]
     have q5 := zCZ (G := G) (F := none) (L := L) (w := w) (k := n) (X := (ZA.set a row)) (d := d) (β := β) (T := [some ⟨102, .box (zj (-(at2 X r cc)))⟩]) (a := a) (by omega)
     rw [rA] at q5
     have g6 : j < (zC row).len := by show j < row.length; omega
     have co := zGH (row.getD j 0)
     refine rn7 ?_
     refine zD 99 (zA0 (row.getD j 0)) Z (AEq.of_eq Z) ?_
     refine zB Z Z Z co ?_
     repeat (refine zG (qis rfl rfl rfl) ?_)
     refine zz (c' := zC (row.set j (-(row.getD j 0)))) Z Z Z q5 Z g6 (List.length_set ..) Z (zDK row j _) ?_
     refine zO (zZ G none L w n (ZA.set a (row.set j (-(row.getD j 0)))) d β [some ⟨102, .box (zj (-(at2 X r cc)))⟩]) ((zK0 (by omega) _).trans (by rw [List.set_set])) ?_
     refine rn5 ?_
     exact zK ⟨j + 1, by omega, by omega, ⟨Z, Z, Z, Z, Z, Z, Z, Z, Z, Z, trivial⟩, by rw [hsj]⟩
    ·have hje : L = j := by omega
     subst hje
     have hall : chg (fun j => -(y.getD j 0)) 0 y L = y.map (fun x => -x) := by rw [← lA, zEg, zLr (fun x => -x) y 0]
     rw [hall, hst]
     refine rn5 ?_
     exact zK ⟨a + 1, by omega, by omega, ⟨Z, Z, Z, Z, Z, Z, Z, trivial⟩, Z⟩
   ·have hae : a = n := by omega
    have hall : (chg (fun i => (Y.getD i []).map (fun x => -x)) [] Y a) = zEl X r cc d := by rw [hae, ← hYl, zEg, zLr (fun l : List Int => l.map (fun x => -x)) Y [], eP]
    rw [hall]
    refine zBa ?_
    exact fin _ ⟨Z, Z, Z, Z, trivial⟩
  ·rw [zF5] at h1
   rw [if_neg h1] at eP
   rw [if_neg h1, eP] at fin
   refine zBa ?_
   exact fin _ ⟨Z, Z, Z, Z, trivial⟩
 clear eP hYl hYL
 clear Y
 generalize hPV : (if at2 X r cc < 0 then -(at2 X r cc) else at2 X r cc) = PV at *
 have f1 := zA1 (G := G) (F := none) (L := L) (w := w) (k := n) (X := (zEl X r cc d)) (d := d) (β := β) (T := [some ⟨102, .box (zj PV)⟩])
 have q0 := zAZ (G := G) (F := none) (L := L) (w := w) (k := n) (X := (zEl X r cc d)) (d := d) (β := β) (T := [some ⟨102, .box (zj PV)⟩]) 0
 rw [hEl, Nat.add_zero] at q0
 refine rn7 ?_
 refine zD 105 (zA0 PV) Z (AEq.of_eq Z) ?_
 refine zME (s := 2) (c' := zDu G.length n β.length w PV) Z Z Z f1 Z (show 1 + 2 ≤ 5 from by decide) Nat.zero_lt_one Z Z (tabB_den _ _ _ _ _ _) ?_
 refine zO (zZ G none L w n (zEl X r cc d) PV β [some ⟨102, .box (zj PV)⟩]) (zH7 n w PV) ?_
 refine zHb ?_
 have hle : (zZ G none L w n (zEl X r cc d) PV β []).length = G.length + 4 + n := by rw [zBB, hEl]; rfl
 refine zBF (zZ G none L w n (zEl X r cc d) PV β []) [some ⟨102, .box (zj PV)⟩] [(0, .ptr G.length 0 0), (1, iN r), (2, iN cc)] (by rw [zAY]; rfl) ⟨Z, Z, Z, trivial⟩ (fun h hh => by rw [hfix] at hh; rw [hle]; exact hh)
  (by rw [hle]; exact zCN hG _ (by omega) (fun o ho => by cases ho) (fun o ho => by cases ho)) (by rw [hle]; simp [zDP, zCB]; omega) ?_
 clear f1 q0
 have f1 := zA1 (G := G) (F := none) (L := L) (w := w) (k := n) (X := zEl X r cc d) (d := PV) (β := β) (T := [])
 have f2 := zFi (G := G) (F := none) (L := L) (w := w) (k := n) (X := zEl X r cc d) (d := PV) (β := β) (T := [])
 refine rn7 ?_
 refine zBe Z Z Z Z f2 Z Z (by show r < (β.map _).length; rw [List.length_map]; exact hr) ?_
 refine zO (zZ G none L w n (zEl X r cc d) PV (β.set r cc) []) (by
  rw [← zKz (β := β) (List.length_set ..)]
  show _ = List.set _ _ (some (⟨3, .ints .i64 ((β.set r cc).map (fun a : Nat => (a : Int)))⟩ : AObj))
  rw [List.map_set]) ?_
 repeat (refine zR ?_)
 exact ax_end hR Z ⟨Z, Z⟩
end Go.Proofs.YtkncmbklkhjmgaaGreatDoor
namespace Go.Ax.Sx
open Go.Ax.Dt Go.Ax.Rt Go.Ax.Bg
def optZ : Option Nat → Int
 | none => -1
 | some b => (b : Int)
section
variable {T : Tab} {β : List Nat} {c e k b : Nat}
theorem zOt (h : at2 T k c ≤ 0) : zBZ T β c e (k + 1) = zBZ T β c e k := by
 rw [zBZ]
 cases zBZ T β c e k with
 | none => show (if _ then _ else _) = _; rw [if_pos h]
 | some b => show (if _ then _ else _) = _; rw [if_pos h]
theorem zNP (h : ¬ at2 T k c ≤ 0) (hl : zBZ T β c e k = none) : zBZ T β c e (k + 1) = some k := by
 rw [zBZ, hl]
 show (if _ then _ else _) = _
 rw [if_neg h]
theorem zOs (h : ¬ at2 T k c ≤ 0) (hl : zBZ T β c e k = some b) : zBZ T β c e (k + 1) = if zHl T β c e k b then some k else some b := by
 rw [zBZ, hl]
 show (if _ then _ else _) = _
 rw [if_neg h]
end
theorem zNa (o : Option Nat) : (optZ o < 0) = (o = none) := by
 apply propext
 cases o with
 | none => exact ⟨fun _ => rfl, fun _ => by show (-1 : Int) < 0; omega⟩
 | some b => exact ⟨fun h => absurd h (by show ¬ (b : Int) < 0; omega), fun h => by cases h⟩
section
variable {m N w : Nat} {s : St}
theorem zLb {k : Nat} (h : zBw m N w (zAa m N w s k) = none) : ∀ j, zAa m N w s (k + j) = zAa m N w s k
 | 0 => rfl
 | j + 1 => by
  have e := zLb h j
  show (zBw m N w (zAa m N w s (k + j))).getD (zAa m N w s (k + j)) = _
  rw [e, h]; rfl
theorem iter_end {k K : Nat} (h : zBw m N w (zAa m N w s k) = none) (hk : k ≤ K) : zAa m N w s K = zAa m N w s k := by
 obtain ⟨j, rfl⟩ : ∃ j, K = k + j := ⟨K - k, by omega⟩
 exact zLb h j
theorem zQp {k : Nat} {s' : St} (h : zBw m N w (zAa m N w s k) = some s') : zAa m N w s (k + 1) = s' := by
 show (zBw m N w (zAa m N w s k)).getD _ = _
 rw [h]; rfl
/-- the column of a direction without an end, or -1 -/
def resZ (m w : Nat) (s : St) : Int := if zCH m w s = w then -1 else (zCH m w s : Int)
theorem zRQ (h : zCH m w s = w) : zBw m N w s = none := by
 unfold zBw; unfold zCH at h; rw [if_pos h]
theorem zRP (h : zCH m w s ≠ w) (hl : zBZ s.rows s.basis (zCH m w s) N m = none) : zBw m N w s = none := by
 unfold zBw; unfold zCH at h hl; rw [if_neg h, hl]
theorem step_go (h : zCH m w s ≠ w) {r : Nat} (hl : zBZ s.rows s.basis (zCH m w s) N m = some r) : zBw m N w s = some (piv s r (zCH m w s)) := by
 unfold zBw; unfold zCH at h hl ⊢; rw [if_neg h, hl]
end
/-- from column c on -/
theorem zOf {T : Tab} {m f c : Nat} (h : at2 T m c < 0) : zCR T m f c = c := by
 cases f with
 | zero => rfl
 | succ f => rw [zCR, if_pos h]
theorem enter_go {T : Tab} {m f c : Nat} (h : ¬ at2 T m c < 0) : zCR T m (f + 1) c = zCR T m f (c + 1) := by rw [zCR, if_neg h]
theorem nz_stop {T : Tab} {i f c : Nat} (h : at2 T i c ≠ 0) : nzN T i f c = c := by
 cases f with
 | zero => rfl
 | succ f => rw [nzN, if_pos h]
theorem nz_go {T : Tab} {i f c : Nat} (h : ¬ at2 T i c ≠ 0) : nzN T i (f + 1) c = nzN T i f (c + 1) := by rw [nzN, if_neg h]
/-- a table without its last rows -/
def cutS (m : Nat) (s : St) : St := ⟨s.rows.take m, s.den, s.basis⟩
theorem zEE {T : Tab} {m i : Nat} (hi : i < m) (j : Nat) : at2 (T.take m) i j = at2 T i j := by
 unfold at2
 simp only [List.getD, List.getElem?_take, if_pos hi]
theorem zL3 {T : Tab} {m i : Nat} (hi : i < m) : (T.take m).getD i [] = T.getD i [] := by
 simp only [List.getD, List.getElem?_take, if_pos hi]
theorem zQd {T : Tab} {m r c : Nat} {d : Int} (hr : r < m) (hm : m ≤ T.length) : zEY (T.take m) r c d = (zEY T r c d).take m := by
 rw [zKG, zKG, zEg, zEg, ← List.map_take, List.take_range, List.length_take, Nat.min_eq_left hm]
 refine List.map_congr_left (fun i hi => ?_)
 have hi : i < m := by simpa using hi
 unfold zCQ
 rw [zL3 hr, zL3 hi, zEE hr, zEE hi]
theorem piv_cut {s : St} {m r c : Nat} (hr : r < m) (hm : m ≤ s.rows.length) : piv (cutS m s) r c = cutS m (piv s r c) := by
 unfold piv cutS zEl
 simp only [zEE hr, zQd hr hm]
 split
 ·rw [List.map_take]
 ·rfl
theorem nz_cut {T : Tab} {m i : Nat} (hi : i < m) : ∀ f c, nzN (T.take m) i f c = nzN T i f c
 | 0, c => rfl
 | f + 1, c => by rw [nzN, nzN, zEE hi, nz_cut hi f (c + 1)]
theorem zQb {s : St} {m w k : Nat} (hk : k < m) (hm : m ≤ s.rows.length) : zBz w (cutS m s) k = cutS m (zBz w s k) := by
 unfold zBz
 rw [show (cutS m s).basis = s.basis from rfl, show (cutS m s).rows = s.rows.take m from rfl, nz_cut hk]
 split
 ·rfl
 ·split
  ·rfl
  ·exact piv_cut hk hm
theorem zHI {s : St} {w : Nat} : ∀ k, (zBR w s k).rows.length = s.rows.length
 | 0 => rfl
 | k + 1 => by
  rw [zBR]
  unfold zBz
  split
  ·exact zHI k
  ·split
   ·exact zHI k
   ·show (zEl _ _ _ _).length = _
    rw [zKV]; exact zHI k
theorem zHo {s : St} {m w : Nat} (hm : m ≤ s.rows.length) : ∀ k, k ≤ m → zBR w (cutS m s) k = cutS m (zBR w s k)
 | 0, _ => rfl
 | k + 1, hk => by
  rw [zBR, zBR, zHo hm k (by omega)]
  exact zQb (by omega) (by rw [zHI]; exact hm)
/-- the costs of the first phase, after i rows -/
def zC5 (w N : Nat) (s : St) (i : Nat) : List Int := (List.range (N + 1)).map (fun j => -(zw (fun q => if w ≤ s.basis.getD q 0 then at2 s.rows q j else 0) i))
def zBX (w a N : Nat) (s : St) (m k : Nat) : List Int := (List.range (N + 1)).map (fun j => if w ≤ j ∧ j < w + k then 0 else (zC5 w N s m).getD j 0)
def zDA (k : Nat → Int) (N : Nat) (s : St) (i : Nat) : List Int := (List.range (N + 1)).map (fun j => s.den * k j - zw (fun q => k (s.basis.getD q 0) * at2 s.rows q j) i)
theorem zHD (w N : Nat) (s : St) (i : Nat) : (zC5 w N s i).length = N + 1 := by simp [zC5]
theorem zHF (k : Nat → Int) (N : Nat) (s : St) (i : Nat) : (zDA k N s i).length = N + 1 := by simp [zDA]
theorem zFm {w N : Nat} {s : St} {i j : Nat} (hj : j < N + 1) : (zC5 w N s i).getD j 0 = -(zw (fun q => if w ≤ s.basis.getD q 0 then at2 s.rows q j else 0) i) := zA9 hj
theorem zHE {k : Nat → Int} {N : Nat} {s : St} {i j : Nat} (hj : j < N + 1) : (zDA k N s i).getD j 0 = s.den * k j - zw (fun q => k (s.basis.getD q 0) * at2 s.rows q j) i := zA9 hj
theorem zOQ {w N : Nat} {s : St} {i : Nat} (h : ¬ w ≤ s.basis.getD i 0) : zC5 w N s (i + 1) = zC5 w N s i := by
 unfold zC5
 refine List.map_congr_left (fun j _ => ?_)
 show -(zw _ i + (if w ≤ s.basis.getD i 0 then at2 s.rows i j else 0)) = _
 rw [if_neg h]; omega
theorem zOP {w N : Nat} {s : St} {i j : Nat} (h : w ≤ s.basis.getD i 0) (hj : j < N + 1) : (zC5 w N s (i + 1)).getD j 0 = (zC5 w N s i).getD j 0 - at2 s.rows i j := by
 rw [zFm hj, zFm hj]
 show -(zw _ i + (if w ≤ s.basis.getD i 0 then at2 s.rows i j else 0)) = _
 rw [if_pos h]; omega
theorem zOT {k : Nat → Int} {N : Nat} {s : St} {i : Nat} (h : k (s.basis.getD i 0) = 0) : zDA k N s (i + 1) = zDA k N s i := by
 unfold zDA
 refine List.map_congr_left (fun j _ => ?_)
 show _ - (zw _ i + k (s.basis.getD i 0) * at2 s.rows i j) = _
 rw [h, Int.zero_mul]; omega
theorem zOS {k : Nat → Int} {N : Nat} {s : St} {i j : Nat} (hj : j < N + 1) : (zDA k N s (i + 1)).getD j 0 = (zDA k N s i).getD j 0 + -(k (s.basis.getD i 0)) * at2 s.rows i j := by
 rw [zHE hj, zHE hj]
 show _ - (zw _ i + k (s.basis.getD i 0) * at2 s.rows i j) = _
 rw [Int.neg_mul]; omega
theorem zC4 {l l' : List Int} {n : Nat} (h1 : l.length = n) (h2 : l'.length = n) (h : ∀ j, j < n → l.getD j 0 = l'.getD j 0) : l = l' := by
 apply List.ext_getElem (by omega)
 intro j g1 g2
 have := h j (by omega)
 rw [zDy 0 g1, zDy 0 g2] at this
 exact this
theorem zOR (w N : Nat) (s : St) : zC5 w N s 0 = List.replicate (N + 1) 0 := by
 refine zC4 (zHD ..) (by simp) (fun j hj => ?_)
 rw [zFm hj]
 show -(0 : Int) = _
 simp [List.getD, hj]
/-- a row changed from its beginning on -/
theorem chg_to {l l' : List Int} {n : Nat} (h1 : l.length = n) (h2 : l'.length = n) : chg (fun j => l'.getD j 0) 0 l n = l' := by
 rw [← h1, zEg]
 refine zC4 (n := n) (by simp [h1]) h2 (fun j hj => ?_)
 exact zA9 (by omega)
theorem zKq {B : Nat} : ∀ {n : Nat} {f : Nat → Int}, (∀ i, i < n → (f i).natAbs ≤ B) → (zw f n).natAbs ≤ n * B
 | 0, f, _ => by rw [Nat.zero_mul]; exact Nat.le_refl 0
 | n + 1, f, h => by
  have h1 := zKq (n := n) (f := f) (fun i hi => h i (by omega))
  have h2 := h n (Nat.lt_succ_self n)
  show (zw f n + f n).natAbs ≤ _
  have h3 := Int.natAbs_add_le (zw f n) (f n)
  rw [Nat.succ_mul]; omega
theorem art_row (p : Prog) {k : Nat} (hk : k < p.a) : ∃ i, i < p.m ∧ p.neg i = true ∧ zBc p.B i = k := by
 have key : ∀ n, k < zBc p.B n → ∃ i, i < n ∧ p.neg i = true ∧ zBc p.B i = k := by
  intro n
  induction n with
  | zero => intro h; exact absurd h (Nat.not_lt_zero k)
  | succ n ih =>
   intro h
   by_cases hn : (p.B.getD n 0).num < 0
   ·rw [zMv hn] at h
    by_cases e : zBc p.B n = k
    ·exact ⟨n, by omega, by simpa using hn, e⟩
    ·obtain ⟨i, h1, h2⟩ := ih (by omega)
     exact ⟨i, by omega, h2⟩
   ·have e : zBc p.B (n + 1) = zBc p.B n := by
     show (zAU _ _).length = _
     rw [zAU, if_neg hn]
    rw [e] at h
    obtain ⟨i, h1, h2⟩ := ih h
    exact ⟨i, by omega, h2⟩
 exact key _ hk
/-- The costs of the first phase. -/
theorem zOM (p : Prog) (i : Nat) (hi : i = p.a) : zBX (p.n + p.m) p.a p.N (zAO p) p.m i = zHG (zCz p) p.m p.N (zAO p) := by
 subst hi
 have hN : p.N = p.n + p.m + p.a := rfl
 have hinv := zEv p
 have hd : (zAO p).den = 1 := rfl
 unfold zBX zHG
 refine List.map_congr_left (fun j hj => ?_)
 have hj : j < p.N + 1 := by simpa using hj
 rw [zFm hj, hd, Int.one_mul]
 have hk : ∀ q, q < p.m → (if p.n + p.m ≤ (zAO p).basis.getD q 0 then at2 (zAO p).rows q j else 0) = zCz p ((zAO p).basis.getD q 0) * at2 (zAO p).rows q j := by
  intro q hq
  have := hinv.bc q hq
  unfold zCz
  by_cases h : p.n + p.m ≤ (zAO p).basis.getD q 0
  ·rw [if_pos h, if_pos ⟨h, this⟩, Int.one_mul]
  ·rw [if_neg h, if_neg (fun e => h e.1), Int.zero_mul]
 rw [zo hk]
 by_cases h : p.n + p.m ≤ j ∧ j < p.n + p.m + p.a
 ·rw [if_pos h]
  obtain ⟨k, rfl⟩ : ∃ k, j = p.n + p.m + k := ⟨j - (p.n + p.m), by omega⟩
  have hka : k < p.a := by omega
  have h1 : zCz p (p.n + p.m + k) = 1 := by unfold zCz; rw [if_pos (by omega)]
  rw [h1]
  -- the row of this artificial unknown
  obtain ⟨i, hi, hneg, hik⟩ := art_row p hka
  have hb : (zAO p).basis.getD i 0 = p.n + p.m + k := by
   show (zBb p).getD i 0 = _
   rw [zGS p hi, if_pos hneg, hik]
  have hu : ∀ q, q < p.m → at2 (zAO p).rows q (p.n + p.m + k) = if q = i then 1 else 0 := by
   intro q hq
   have := hinv.unit q i (by omega) hi
   rw [hb, hd] at this
   exact this
  rw [zEP i hi (fun q hq hne => by rw [hu q hq, if_neg hne, Int.mul_zero]), hu i hi, if_pos rfl, hb, h1]; rfl
 ·rw [if_neg h]
  have : zCz p j = 0 := by unfold zCz; rw [if_neg (by omega)]
  rw [this]; omega
theorem zNw (T : Tab) (L L' : List Int) : zBH (T ++ [L]) T.length L' = T ++ [L'] := by
 unfold zBH
 rw [List.take_left]
theorem ph1_rows (p : Prog) : (ph1 p).rows = zBA p ++ [zHG (zCz p) p.m p.N (zAO p)] := by
 show zBH (zBA p ++ [_]) p.m _ = _
 rw [← zCY p]
 exact zNw _ _ _
theorem zJN (p : Prog) : cutS p.m (zAO p) = ⟨zBA p, 1, zBb p⟩ := by
 show (⟨(zBA p ++ [_]).take p.m, 1, zBb p⟩ : St) = _
 rw [← zCY p, List.take_left]
theorem mid_cut0 (p : Prog) (K : Nat) (h : p.a = 0) : cutS p.m (mid p K) = ⟨zBA p, 1, zBb p⟩ := by
 unfold mid
 rw [if_pos h]; exact zJN p
theorem zNS (p : Prog) (hp : p.Ok) (K : Nat) (h : p.a ≠ 0) : cutS p.m (mid p K) = zBR (p.n + p.m) (cutS p.m (zCC p K)) p.m := by
 unfold mid
 rw [if_neg h]
 refine (zHo ?_ p.m (Nat.le_refl _)).symm
 rw [(zEr p hp K).1.n]; exact Nat.le_succ _
theorem ph2_rows (p : Prog) (K : Nat) : (ph2 p K).rows = (cutS p.m (mid p K)).rows ++ [zDA (zBU p) p.N (mid p K) p.m] := rfl
theorem zQY {k : Nat → Int} {N m i : Nat} {s : St} (hi : i ≤ m) : zDA k N (cutS m s) i = zDA k N s i := by
 unfold zDA
 refine List.map_congr_left (fun j _ => ?_)
 show s.den * k j - zw (fun q => k (s.basis.getD q 0) * at2 (s.rows.take m) q j) i = _
 congr 1
 refine zo (fun q hq => ?_)
 rw [zEE (by omega)]
theorem zDx (w a N : Nat) (s : St) (m k : Nat) : (zBX w a N s m k).length = N + 1 := by simp [zBX]
theorem zHn {w a N : Nat} {s : St} {m k j : Nat} (hj : j < N + 1) : (zBX w a N s m k).getD j 0 = if w ≤ j ∧ j < w + k then 0 else (zC5 w N s m).getD j 0 := zA9 hj
theorem zM5 (w a N : Nat) (s : St) (m : Nat) : zBX w a N s m 0 = zC5 w N s m := by
 refine zC4 (zDx ..) (zHD ..) (fun j hj => ?_)
 rw [zHn hj, if_neg (by omega)]
theorem zOO {w a N : Nat} {s : St} {m k : Nat} (hk : w + k < N + 1) : (zBX w a N s m k).set (w + k) 0 = zBX w a N s m (k + 1) := by
 refine zC4 (by rw [List.length_set]; exact zDx ..) (zDx ..) (fun j hj => ?_)
 rw [Go.Ax.Dt.getD_set, zHn hj, zHn hj, zDx]
 by_cases h1 : j = w + k
 ·rw [if_pos ⟨h1, hk⟩, if_pos (by omega)]
 ·rw [if_neg (fun q => h1 q.1)]
  by_cases h2 : w ≤ j ∧ j < w + k
  ·rw [if_pos h2, if_pos (by omega)]
  ·rw [if_neg h2, if_neg (by omega)]
theorem zQV {w N E : Nat} {s : St} {i j : Nat} (hi : i ≤ 100) (h : ∀ q, q < i → (at2 s.rows q j).natAbs ≤ 10 ^ E) (hj : j < N + 1) : ((zC5 w N s i).getD j 0).natAbs ≤ 10 ^ (E + 2) := by
 rw [zFm hj, Int.natAbs_neg]
 have h1 := zKq (B := 10 ^ E) (n := i) (f := fun q => if w ≤ s.basis.getD q 0 then at2 s.rows q j else 0) (fun q hq => by
  show (if w ≤ s.basis.getD q 0 then at2 s.rows q j else 0).natAbs ≤ _
  split
  ·exact h q hq
  ·exact Nat.zero_le _)
 refine Nat.le_trans h1 ?_
 rw [Nat.pow_add, Nat.mul_comm]
 exact Nat.mul_le_mul_left _ hi
theorem zQW {w N m i : Nat} {s : St} (hi : i ≤ m) : zC5 w N (cutS m s) i = zC5 w N s i := by
 unfold zC5
 refine List.map_congr_left (fun j _ => ?_)
 congr 1
 refine zo (fun q hq => ?_)
 show (if w ≤ s.basis.getD q 0 then at2 (s.rows.take m) q j else 0) = _
 rw [zEE (by omega)]
theorem zON {w a N m k : Nat} {s : St} : zBX w a N (cutS m s) m k = zBX w a N s m k := by
 unfold zBX
 rw [zQW (Nat.le_refl _)]
def zEM (n N : Nat) (W : List Int) : List Int := (List.range (N + 1)).map (fun j => if j < n then W.getD j 0 else 0)
def zEW (n m a : Nat) (W : List Int) (i : Nat) : List Int := (List.range (n + m + a + 1)).map (zIK n m a W i)
theorem zHR (n N : Nat) (W : List Int) : (zEM n N W).length = N + 1 := by simp [zEM]
theorem zDW (n m a : Nat) (W : List Int) (i : Nat) : (zEW n m a W i).length = n + m + a + 1 := by simp [zEW]
theorem zO0 {N : Nat} {W : List Int} : zEM 0 N W = List.replicate (N + 1) 0 := by
 refine zC4 (zHR ..) (by simp) (fun j hj => ?_)
 rw [show (zEM 0 N W).getD j 0 = 0 from (zA9 hj).trans (if_neg (Nat.not_lt_zero j))]
 simp [List.getD, hj]
theorem out_base {n m a i : Nat} {W : List Int} (hi : i < m) : ((zEM n (n + m + a) W).set (n + i) 1).set (n + m + a) (W.getD n 0) = zEW n m a W i := by
 refine zC4 (n := n + m + a + 1) (by rw [List.length_set, List.length_set]; exact zHR ..) (zDW ..) (fun j hj => ?_)
 rw [Go.Ax.Dt.getD_set, Go.Ax.Dt.getD_set, List.length_set, zHR, show (zEW n m a W i).getD j 0 = zIK n m a W i j from zA9 hj, show (zEM n (n + m + a) W).getD j 0 = (if j < n then W.getD j 0 else 0) from zA9 hj]
 unfold zIK
 by_cases h1 : j = n + m + a
 ·rw [if_pos ⟨h1, by omega⟩, if_neg (by omega), if_neg (by omega), if_pos h1]
 ·rw [if_neg (fun q => h1 q.1)]
  by_cases h2 : j = n + i
  ·rw [if_pos ⟨h2, by omega⟩, if_neg (by omega), if_pos h2]
  ·rw [if_neg (fun q => h2 q.1)]
   by_cases h3 : j < n
   ·rw [if_pos h3, if_pos h3]
   ·rw [if_neg h3, if_neg h3, if_neg h2, if_neg h1]
theorem neg_base {n m a i : Nat} {W : List Int} : chg (fun j => -((zEW n m a W i).getD j 0)) 0 (zEW n m a W i) (n + m + a + 1) = (zEW n m a W i).map (fun x => -x) := by
 have e := zEg (fun j => -((zEW n m a W i).getD j 0)) 0 (zEW n m a W i)
 rw [zDW] at e
 rw [e]
 refine zC4 (n := n + m + a + 1) (by simp) (by rw [List.length_map]; exact zDW ..) (fun j hj => ?_)
 rw [show ((List.range (n + m + a + 1)).map (fun j => -((zEW n m a W i).getD j 0))).getD j 0 = -((zEW n m a W i).getD j 0) from zA9 hj, zB8 _ _ 0 _ _ (by rw [zDW]; exact hj)]
theorem row_neg {n m a i k : Nat} {W : List Int} (hk : k < a) : ((zEW n m a W i).map (fun x => -x)).set (n + m + k) 1 = zDH n m a W i true k := by
 refine zC4 (n := n + m + a + 1) (by rw [List.length_set, List.length_map]; exact zDW ..) (by simp [zDH]) (fun j hj => ?_)
 rw [Go.Ax.Dt.getD_set, List.length_map, zDW, show (zDH n m a W i true k).getD j 0 = zG6 n m a W i true k j from zA9 hj]
 unfold zG6
 rw [if_pos rfl]
 by_cases h : j = n + m + k
 ·rw [if_pos ⟨h, by omega⟩, if_pos h]
 ·rw [if_neg (fun q => h q.1), if_neg h, zB8 _ _ 0 _ _ (by rw [zDW]; exact hj)]
  exact congrArg (fun x : Int => -x) (zA9 hj)
theorem row_pos {n m a i k : Nat} {W : List Int} : zEW n m a W i = zDH n m a W i false k := rfl
theorem zKu {α : Type} (l : List α) (d : α) {i : Nat} (hi : i < l.length) : l.take (i + 1) = l.take i ++ [l.getD i d] := by
 rw [List.take_add_one, zDy d hi]
 simp [hi]
end Go.Ax.Sx
namespace Go.Proofs.YtkncmbklkhjmgaaGreatDoor
open Go.Ax Go.Ax.Bg Go.Ax.Rt Go.RowKit Go.Ax.Dt Go.Ax.Sx
attribute [local irreducible] Ax zBI QOp zP zAl
theorem zEi (β : List Nat) (i : Nat) : (β.map (fun a : Nat => (a : Int))).getD i 0 = ((β.getD i 0 : Nat) : Int) := by
 simp only [List.getD, List.getElem?_map]
 cases β[i]? <;> rfl
theorem zN0 (x : Int) : (sgn x ≤ 0) = (x ≤ 0) := by
 apply propext
 unfold sgn
 constructor
 ·intro h
  split at h
  ·omega
  ·split at h
   ·omega
   ·exact absurd h (by decide)
 ·intro h
  by_cases h1 : x < 0
  ·rw [if_pos h1]; decide
  ·rw [if_neg h1, if_pos (by omega)]; decide
theorem sgn_neg {x : Int} (h : x < 0) : sgn x = -1 := by unfold sgn; rw [if_pos h]
theorem sgn_zer {x : Int} (h : x = 0) : sgn x = 0 := by subst h; rfl
theorem sgn_pos {x : Int} (h : 0 < x) : sgn x = 1 := by unfold sgn; rw [if_neg (by omega), if_neg (by omega)]
theorem leave_ok (G : zN) (hG : OkG G) (N w n : Nat) (X : Tab) (d : Int) (β : List Nat) (cc : Nat) (E : Nat) (hn : X.length = n) (hn0 : 0 < n) (hn40 : n ≤ 1000000) (hL : ∀ x ∈ X, x.length = N + 1) (hL40 : N + 1 ≤ 1000000) (hβ : β.length ≤ n) (hc : cc < N + 1)
 (hX : ∀ i j, i < n → j < N + 1 → (at2 X i j).natAbs ≤ 10 ^ E) (hE : E ≤ 3600000) :
 zP Tryz.prog 248 [.ptr G.length 0 0, iN cc] (zZ G none (N + 1) w n X d β []) (fun h => h < (zZ G none (N + 1) w n X d β []).length)
  (fun r' H' => r' = .int .i64 (optZ (zBZ X β cc N β.length)) ∧ H' = zZ G none (N + 1) w n X d β []) := by
 refine zE (P := Tryz.prog) (fn := Tryz.f248) Z Z (by kernel_rfl) Z (fun c hR hfix => ?_)
 have hlen : (zZ G none (N + 1) w n X d β []).length = G.length + 4 + n := by rw [zBB, hn]; rfl
 rw [hlen] at hfix
 have f1 := zA1 (G := G) (F := none) (L := N + 1) (w := w) (k := n) (X := X) (d := d) (β := β) (T := [])
 have f2 := zCm (G := G) (F := none) (L := N + 1) (w := w) (k := n) (X := X) (d := d) (β := β) (T := [])
 have g1 : 0 < (zBh G.length X.length (N + 1)).len := by show 0 < X.length; omega
 refine rn0 ?_
 refine zi (by kernel_rfl) ?_
 refine zp (fuel := 0) [0, 1, 2, 3, 4, 5, 6, 7, 8, 9] [(0, .ptr G.length 0 0), (1, iN cc)] ⟨Z, Z, trivial⟩ (by kernel_rfl) (by decide) Z Z ?_
 refine zM Z Z (zJ Z) ?_
 refine zM Z Z (zc Z) ?_
 refine zM Z Z (zH Z Z Z Z Z Z) ?_
 refine zM Z Z (z8 Z Z Z (by assumption) (by rfl)) ?_
 refine zM Z Z (qis Z Z Z) ?_
 refine zM Z Z (zAx Z Z Z (by assumption) Z (by first | assumption | omega)) ?_
 refine zM Z Z (zBv Z Z Z) ?_
 refine zM Z Z (zE7 Z Z (by omega)) ?_
 refine zM Z Z (zm Z) ?_
 refine zM Z Z (zm Z) ?_
 refine zAA ?_
 refine zW (by kernel_rfl) ?_
 repeat (refine zI ?_)
 refine zAE 6 (iN N) Z (AEq.of_eq (by show AV.int .i64 (((N + 1 : Nat) : Int) - 1) = _; rw [show ((N + 1 : Nat) : Int) - 1 = (N : Nat) by omega])) ?_
 have f3 := zFi (G := G) (F := none) (L := N + 1) (w := w) (k := n) (X := X) (d := d) (β := β) (T := [])
 refine rn7 ?_
 refine ze (ι := Nat) (fun i => [(0, .ptr G.length 0 0), (1, iN cc), (5, .int .i64 (optZ (zBZ X β cc N i))), (6, iN N), (22, iN β.length), (23, iN i)]) (fun i => zZ G none (N + 1) w n X d β []) (fun i => i ≤ β.length) (fun i => β.length - i) 0 ⟨⟨Z, Z, Z, Z, Z, Z, trivial⟩, Z, Nat.zero_le _⟩ ?_
 clear f3
 intro i hi
 refine rn4 ?_
 refine zA Z (fun h => ?_) (fun h => ?_)
 ·have hi' : i < β.length := by omega
  have hin : i < n := by omega
  have lI : (X.getD i []).length = N + 1 := hL _ (zAD [] (by omega))
  have f3 := zCZ (G := G) (F := none) (L := N + 1) (w := w) (k := n) (X := X) (d := d) (β := β) (T := []) (a := i) (by omega)
  have g3 : i < (zBh G.length X.length (N + 1)).len := by show i < X.length; omega
  have g4 : cc < (zC (X.getD i [])).len := by show cc < (X.getD i []).length; omega
  refine rn7 ?_
  refine zO (zZ G none (N + 1) w n X d β [some ⟨102, .box [.bool false, .nil]⟩]) (by rw [zAY]; rfl) ?_
  refine zD 8 (.ptr (G.length + 4 + n) 0 0) Z (AEq.of_eq (by rw [hlen])) ?_
  refine zD 35 (zA0 (at2 X i cc)) Z (AEq.of_eq Z) ?_
  have q0 := zAZ (G := G) (F := none) (L := N + 1) (w := w) (k := n) (X := X) (d := d) (β := β) (T := [some ⟨102, .box [.bool false, .nil]⟩]) 0
  rw [hn] at q0
  refine zz (c' := .box (zj (at2 X i cc))) Z Z Z q0 Z Nat.zero_lt_one Z Z (fun i' j' hi' hj' => ?_) ?_
  ·rw [if_pos (Nat.lt_one_iff.1 hi')]; rfl
  refine zO (zZ G none (N + 1) w n X d β [some ⟨102, .box (zj (at2 X i cc))⟩]) (by have q := zAI (G := G) (F := none) (L := N + 1) (w := w) (k := n) (X := X) (d := d) (β := β) (T := [some ⟨102, .box [.bool false, .nil]⟩]) 0 (some ⟨102, .box (zj (at2 X i cc))⟩); rw [hn] at q; exact q) ?_
  clear f1 f2 f3 q0
  apply zAJ (H := zZ G none (N + 1) w n X d β [some ⟨102, .box (zj (at2 X i cc))⟩]) [(0, .ptr G.length 0 0), (1, iN cc), (5, .int .i64 (optZ (zBZ X β cc N (i + 1)))), (6, iN N), (22, iN β.length), (23, iN i)]
  ·intro fin
   have f1 := zA1 (G := G) (F := none) (L := N + 1) (w := w) (k := n) (X := X) (d := d) (β := β) (T := [some ⟨102, .box (zj (at2 X i cc))⟩])
   have f2 := zCm (G := G) (F := none) (L := N + 1) (w := w) (k := n) (X := X) (d := d) (β := β) (T := [some ⟨102, .box (zj (at2 X i cc))⟩])
   have q0 := zAZ (G := G) (F := none) (L := N + 1) (w := w) (k := n) (X := X) (d := d) (β := β) (T := [some ⟨102, .box (zj (at2 X i cc))⟩]) 0
   rw [hn, Nat.add_zero] at q0
   have cs := zEJ (at2 X i cc)
   refine rn7 ?_
   refine zD 36 (zA0 (at2 X i cc)) Z (AEq.of_eq Z) ?_
   refine zB Z Z Z cs ?_
   refine rn8 ?_
   refine zA Z (fun h1 => ?_) (fun h1 => ?_)
   ·rw [zN0] at h1
    rw [zOt h1] at fin
    refine zBa ?_
    exact fin _ ⟨Z, Z, Z, Z, Z, Z, trivial⟩
   ·rw [zN0] at h1
    refine rn4 ?_
    refine zA Z (fun h2 => ?_) (fun h2 => ?_)
    ·rw [zNa] at h2
     rw [zNP h1 h2] at fin
     skip
     refine z7 ?_
     refine zg Z ?_
     refine zBa ?_
     exact fin _ ⟨Z, Z, Z, Z, Z, Z, trivial⟩
    ·cases hl : zBZ X β cc N i with
     | none => rw [hl] at h2; exact absurd (show (-1 : Int) < 0 by decide) h2
     | some b =>
      have hb := (zGJ X β cc N i b hl).lt
      have hbn : b < n := by omega
      have hnx := zOs (T := X) (β := β) (c := cc) (e := N) h1 hl
      rw [hnx] at fin
      have lB : (X.getD b []).length = N + 1 := hL _ (zAD [] (by omega))
      have f3 := zCZ (G := G) (F := none) (L := N + 1) (w := w) (k := n) (X := X) (d := d) (β := β) (T := [some ⟨102, .box (zj (at2 X i cc))⟩]) (a := i) (by omega)
      have f4 := zCZ (G := G) (F := none) (L := N + 1) (w := w) (k := n) (X := X) (d := d) (β := β) (T := [some ⟨102, .box (zj (at2 X i cc))⟩]) (a := b) (by omega)
      have g3 : i < (zBh G.length X.length (N + 1)).len := by show i < X.length; omega
      have g4 : b < (zBh G.length X.length (N + 1)).len := by show b < X.length; omega
      have g5 : cc < (zC (X.getD b [])).len := by show cc < (X.getD b []).length; omega
      have g6 : N < (zC (X.getD b [])).len := by show N < (X.getD b []).length; omega
      have g7 : N < (zC (X.getD i [])).len := by show N < (X.getD i []).length; omega
      have bi := hX i cc hin hc
      have bb := hX b cc hbn hc
      have ei := hX i N hin (Nat.lt_succ_self N)
      have eb := hX b N hbn (Nat.lt_succ_self N)
      have hsz : ∀ x : Int, x.natAbs ≤ 10 ^ E → (zS x.natAbs).length ≤ 400001 := fun x hx => zFL hx (by omega)
      obtain ⟨s1, s2, s3⟩ := zKH ei bb bi eb hE
      rw [Int.mul_comm (at2 X i cc) (at2 X b N)] at s2
      have m1 := zCS (at2 X i N) (at2 X b cc) (by have := hsz _ ei; omega) (by have := hsz _ bb; omega)
      have m2 := zCS (at2 X b N) (at2 X i cc) (by have := hsz _ eb; omega) (by have := hsz _ bi; omega)
      have m3 := zPp (at2 X i N * at2 X b cc) (at2 X b N * at2 X i cc) s1 s2
      refine rn20 ?_
      refine zAE 5 (iN b) Z (AEq.of_eq Z) ?_
      refine zi (by kernel_rfl) ?_
      refine zp (fuel := 0) [0, 1, 2, 3, 4, 5, 6, 7, 8, 9, 10, 11, 12, 13, 14, 15, 16, 17, 18, 19, 20, 21, 22, 23, 24, 25, 26, 27, 28, 29, 30, 31, 32, 33, 34] [(0, .ptr G.length 0 0), (1, iN cc), (5, iN b), (6, iN N), (7, iN i), (8, .ptr (G.length + 4 + n) 0 0), (22, iN β.length), (23, iN i)] ⟨Z, Z, Z, Z, Z, Z, Z, Z, trivial⟩ (by kernel_rfl) (by decide) Z Z ?_
      refine zM Z Z (zJ Z) ?_
      refine zM Z Z (zc Z) ?_
      refine zM Z Z (zH Z Z Z Z Z Z) ?_
      refine zM Z Z (z8 Z Z Z (by assumption) (by rfl)) ?_
      refine zM Z Z (zJ Z) ?_
      refine zM Z Z (qis Z Z Z) ?_
      refine zM Z Z (zAx Z Z Z (by assumption) Z (by first | assumption | omega)) ?_
      refine zM Z Z (zJ Z) ?_
      refine zM Z Z (qis Z Z Z) ?_
      refine zM Z Z (qas Z Z Z Z) ?_
      refine zM Z Z (zJ Z) ?_
      refine zM Z Z (zc Z) ?_
      refine zM Z Z (zH Z Z Z Z Z Z) ?_
      refine zM Z Z (z8 Z Z Z (by assumption) (by rfl)) ?_
      refine zM Z Z (zJ Z) ?_
      refine zM Z Z (qis Z Z Z) ?_
      refine zM Z Z (zAx Z Z Z (by assumption) Z (by first | assumption | omega)) ?_
      refine zM Z Z (zJ Z) ?_
      refine zM Z Z (qis Z Z Z) ?_
      refine zM Z Z (qas Z Z Z Z) ?_
      refine zA6 Z Z Z Z Z m1 ?_
      refine zM Z Z (zJ Z) ?_
      refine zM Z Z (zc Z) ?_
      refine zM Z Z (zH Z Z Z Z Z Z) ?_
      refine zM Z Z (z8 Z Z Z (by assumption) (by rfl)) ?_
      refine zM Z Z (zJ Z) ?_
      refine zM Z Z (qis Z Z Z) ?_
      refine zM Z Z (zAx Z Z Z (by assumption) Z (by first | assumption | omega)) ?_
      refine zM Z Z (zJ Z) ?_
      refine zM Z Z (qis Z Z Z) ?_
      refine zM Z Z (qas Z Z Z Z) ?_
      refine zM Z Z (qas Z Z Z Z) ?_
      refine zA6 Z Z Z Z Z m2 ?_
      refine zA6 Z Z Z Z Z m3 ?_
      refine zM Z Z (zm Z) ?_
      refine zAA ?_
      refine zW (by kernel_rfl) ?_
      repeat (refine zI ?_)
      have f5 := zFi (G := G) (F := none) (L := N + 1) (w := w) (k := n) (X := X) (d := d) (β := β) (T := [some ⟨102, .box (zj (at2 X i cc))⟩])
      have g8 : i < (β.map (fun a : Nat => (a : Int))).length := by rw [List.length_map]; exact hi'
      have g9 : b < (β.map (fun a : Nat => (a : Int))).length := by rw [List.length_map]; omega
      clear f2 f3 f4 m1 m2 m3
      rcases Int.lt_trichotomy (at2 X i N * at2 X b cc - at2 X b N * at2 X i cc) 0 with hD | hD | hD
      ·rw [if_pos (.inl (by omega))] at fin
       refine zAE 9 (.int .i64 (-1)) Z (AEq.of_eq (by rw [sgn_neg hD])) ?_
       repeat (refine z7 ?_)
       refine zi (by kernel_rfl) ?_
       refine zp (fuel := 0) [0, 1, 2, 3, 4, 5, 6, 7, 8, 9, 10, 11, 12, 13, 14, 15, 16, 17, 18, 19, 20, 21, 22] [(0, .ptr G.length 0 0), (1, iN cc), (5, iN b), (6, iN N), (7, iN i), (8, .ptr (G.length + 4 + n) 0 0), (22, iN β.length), (23, iN i), (9, .int .i64 (-1))] ⟨Z, Z, Z, Z, Z, Z, Z, Z, Z, trivial⟩ (by kernel_rfl) (by decide) Z Z ?_
       refine zM Z Z (zJ Z) ?_
       refine zM Z Z (zEa Z Z) ?_
       refine zM Z Z (zJ Z) ?_
       refine zBg Z Z Z Z Z ?_
       refine zBg Z Z Z Z Z ?_
       refine zBg Z Z Z Z Z ?_
       refine zCW Z Z Z Z ?_
       refine zCW Z Z Z Z ?_
       refine zCW Z Z Z Z ?_
       refine zCW Z Z Z Z ?_
       refine zCW Z Z Z Z ?_
       refine zCW Z Z Z Z ?_
       refine zCW Z Z Z Z ?_
       refine zCW Z Z Z Z ?_
       refine zCW Z Z Z Z ?_
       refine zCW Z Z Z Z ?_
       refine zCW Z Z Z Z ?_
       refine zCW Z Z Z Z ?_
       refine zCW Z Z Z Z ?_
       refine zCW Z Z Z Z ?_
       refine zCW Z Z Z Z ?_
       refine zBg Z Z Z Z Z ?_
       refine zM Z Z (zBJ Z Z) ?_
       refine zAA ?_
       refine zW (by kernel_rfl) ?_
       repeat (first | refine zI ?_ | refine zBd rfl ?_)
       refine zg Z ?_
       refine zBa ?_
       exact fin _ ⟨Z, Z, Z, Z, Z, Z, trivial⟩
      ·refine zAE 9 (.int .i64 0) Z (AEq.of_eq (by rw [sgn_zer hD])) ?_
       repeat (refine z7 ?_)
       refine zi (by kernel_rfl) ?_
       refine zp (fuel := 0) [0, 1, 2, 3, 4, 5, 6, 7, 8, 9, 10, 11, 12, 13, 14, 15, 16, 17, 18, 19, 20, 21, 22] [(0, .ptr G.length 0 0), (1, iN cc), (5, iN b), (6, iN N), (7, iN i), (8, .ptr (G.length + 4 + n) 0 0), (22, iN β.length), (23, iN i), (9, .int .i64 (0))] ⟨Z, Z, Z, Z, Z, Z, Z, Z, Z, trivial⟩ (by kernel_rfl) (by decide) Z Z ?_
       refine zM Z Z (zJ Z) ?_
       refine zM Z Z (zEa Z Z) ?_
       refine zM Z Z (zJ Z) ?_
       refine zAR Z Z Z Z (zJ Z) ?_
       refine zAR Z Z Z Z (zEN Z Z) ?_
       refine zAR Z Z Z Z (zJ Z) ?_
       refine zAR Z Z Z Z (zJ Z) ?_
       refine zAR Z Z Z Z (zc Z) ?_
       refine zAR Z Z Z Z (zH Z Z Z Z Z Z) ?_
       refine zAR Z Z Z Z (z8 Z Z Z (by assumption) (by rfl)) ?_
       refine zAR Z Z Z Z (zJ Z) ?_
       refine zAR Z Z Z Z (qis Z Z Z) ?_
       refine zAR Z Z Z Z (zG0 Z Z Z (by assumption) (by first | assumption | omega)) ?_
       refine zAR Z Z Z Z (zJ Z) ?_
       refine zAR Z Z Z Z (zc Z) ?_
       refine zAR Z Z Z Z (zH Z Z Z Z Z Z) ?_
       refine zAR Z Z Z Z (z8 Z Z Z (by assumption) (by rfl)) ?_
       refine zAR Z Z Z Z (zJ Z) ?_
       refine zAR Z Z Z Z (qis Z Z Z) ?_
       refine zAR Z Z Z Z (zG0 Z Z Z (by assumption) (by first | assumption | omega)) ?_
       refine zAR Z Z Z Z (zEa Z Z) ?_
       refine zAR Z Z Z Z (zBJ Z Z) ?_
       refine zM Z Z (zBJ Z Z) ?_
       refine zAA ?_
       refine zW (by kernel_rfl) ?_
       repeat (refine zI ?_)
       refine zA Z (fun h3 => ?_) (fun h3 => ?_)
       ·rw [zEi, zEi] at h3
        rw [if_pos (.inr ⟨by omega, by omega⟩)] at fin
        skip
        refine zg Z ?_
        refine zBa ?_
        exact fin _ ⟨Z, Z, Z, Z, Z, Z, trivial⟩
       ·rw [zEi, zEi] at h3
        rw [if_neg (by unfold zHl; omega)] at fin
        refine zBa ?_
        exact fin _ ⟨Z, Z, Z, Z, Z, Z, trivial⟩
      ·rw [if_neg (by unfold zHl; omega)] at fin
       refine zAE 9 (.int .i64 1) Z (AEq.of_eq (by rw [sgn_pos hD])) ?_
       repeat (refine z7 ?_)
       refine zi (by kernel_rfl) ?_
       refine zp (fuel := 0) [0, 1, 2, 3, 4, 5, 6, 7, 8, 9, 10, 11, 12, 13, 14, 15, 16, 17, 18, 19, 20, 21, 22] [(0, .ptr G.length 0 0), (1, iN cc), (5, iN b), (6, iN N), (7, iN i), (8, .ptr (G.length + 4 + n) 0 0), (22, iN β.length), (23, iN i), (9, .int .i64 (1))] ⟨Z, Z, Z, Z, Z, Z, Z, Z, Z, trivial⟩ (by kernel_rfl) (by decide) Z Z ?_
       refine zM Z Z (zJ Z) ?_
       refine zM Z Z (zEa Z Z) ?_
       refine zM Z Z (zJ Z) ?_
       refine zAR Z Z Z Z (zJ Z) ?_
       refine zAR Z Z Z Z (zEN Z Z) ?_
       refine zAR Z Z Z Z (zJ Z) ?_
       refine zBg Z Z Z Z Z ?_
       refine zBg Z Z Z Z Z ?_
       refine zBg Z Z Z Z Z ?_
       refine zBg Z Z Z Z Z ?_
       refine zBg Z Z Z Z Z ?_
       refine zBg Z Z Z Z Z ?_
       refine zBg Z Z Z Z Z ?_
       refine zBg Z Z Z Z Z ?_
       refine zBg Z Z Z Z Z ?_
       refine zBg Z Z Z Z Z ?_
       refine zBg Z Z Z Z Z ?_
       refine zBg Z Z Z Z Z ?_
       refine zBg Z Z Z Z Z ?_
       refine zBg Z Z Z Z Z ?_
       refine zBg Z Z Z Z Z ?_
       refine zAR Z Z Z Z (zBJ Z Z) ?_
       refine zM Z Z (zBJ Z Z) ?_
       refine zAA ?_
       refine zW (by kernel_rfl) ?_
       refine zBa ?_
       exact fin _ ⟨Z, Z, Z, Z, Z, Z, trivial⟩
  ·refine zBF (zZ G none (N + 1) w n X d β []) [some ⟨102, .box (zj (at2 X i cc))⟩] [(0, .ptr G.length 0 0), (1, iN cc), (5, .int .i64 (optZ (zBZ X β cc N (i + 1)))), (6, iN N), (22, iN β.length), (23, iN i)] (by rw [zAY]; rfl) ⟨Z, Z, Z, Z, Z, Z, trivial⟩ (fun h hh => by rw [hfix] at hh; rw [hlen]; exact hh)
    (by rw [hlen]; exact zCN hG _ (by omega) (fun o ho => by cases ho) (fun o ho => by cases ho)) (by rw [hlen]; simp [zDP, zCB]; omega) ?_
   refine rn3 ?_
   exact zK ⟨i + 1, by omega, by omega, ⟨Z, Z, Z, Z, Z, Z, trivial⟩, Z⟩
 ·have hie : i = β.length := by omega
  subst hie
  refine rn5 ?_
  exact zL hR Z ⟨Z, Z⟩
theorem zNz (x : Int) : (0 ≤ sgn x) = (¬ x < 0) := by
 apply propext
 unfold sgn
 constructor
 ·intro h
  split at h
  ·exact absurd h (by decide)
  ·assumption
 ·intro h
  rw [if_neg h]
  split <;> decide
/-- the tableau of a state -/
abbrev stH (G : zN) (N w n : Nat) (t : St) : zN := zZ G none (N + 1) w n t.rows t.den t.basis []
theorem run_ok (G : zN) (hG : OkG G) (m N w : Nat) (M : Tab) (s : St) (hi : Inv m N M s) (hf : zDf m N s) (hw : w ≤ N) (K : Nat) (hK : zBw m N w (zAa m N w s K) = none) (E : Nat) (hm : m + 1 ≤ 1000000) (hN : N + 1 ≤ 1000000)
 (hB : ∀ t, Inv m N M t → (∀ i j, i < m + 1 → j < N + 1 → (at2 t.rows i j).natAbs ≤ 10 ^ E) ∧ t.den.natAbs ≤ 10 ^ E) (hE : E ≤ 3600000) :
 zP Tryz.prog 198 [.ptr G.length 0 0] (stH G N w (m + 1) s) (fun h => h < (stH G N w (m + 1) s).length)
  (fun r' H' => r' = .int .i64 (resZ m w (zAa m N w s K)) ∧ H' = stH G N w (m + 1) (zAa m N w s K)) := by
 refine zE (P := Tryz.prog) (fn := Tryz.f198) Z Z (by kernel_rfl) Z (fun c hR hfix => ?_)
 have hlen : ∀ t : St, t.rows.length = m + 1 → (stH G N w (m + 1) t).length = G.length + 4 + (m + 1) := fun t ht => by rw [zBB, ht]; rfl
 rw [hlen s hi.n] at hfix
 refine rn1 ?_
 refine ze (ι := Nat) (fun k => [(0, .ptr G.length 0 0)]) (fun k => stH G N w (m + 1) (zAa m N w s k)) (fun k => k ≤ K) (fun k => K - k) 0 ⟨⟨Z, trivial⟩, Z, Nat.zero_le _⟩ ?_
 intro k hk
 obtain ⟨hi', hf'⟩ := zEq hi hf hw k
 obtain ⟨hB1, hB2⟩ := hB _ hi'
 have hnx := fun s' => @zQp m N w s k s'
 have hen := @iter_end m N w s k K
 have hkK : zBw m N w (zAa m N w s k) ≠ none → k ≠ K := fun h e => h (by rw [e]; exact hK)
 generalize zAa m N w s k = t at *
 have hn := hi'.n
 have hβ := hi'.b
 have hrow := hi'.row
 have hd : t.den ≠ 0 := by have := hi'.dp; omega
 have lm : (t.rows.getD m []).length = N + 1 := hrow _ (zAD [] (by omega))
 have f1 := zA1 (G := G) (F := none) (L := N + 1) (w := w) (k := m + 1) (X := t.rows) (d := t.den) (β := t.basis) (T := [])
 have f2 := zCm (G := G) (F := none) (L := N + 1) (w := w) (k := m + 1) (X := t.rows) (d := t.den) (β := t.basis) (T := [])
 have f3 := zCZ (G := G) (F := none) (L := N + 1) (w := w) (k := m + 1) (X := t.rows) (d := t.den) (β := t.basis) (T := []) (a := m) (by omega)
 refine rn1 ?_
 refine zi (by kernel_rfl) ?_
 refine zp (fuel := 0) [0, 1, 2, 3, 4, 5, 6, 7, 8, 9, 10, 11, 12] [(0, .ptr G.length 0 0)] ⟨Z, trivial⟩ (by kernel_rfl) (by decide) Z Z ?_
 refine zM Z Z (zJ Z) ?_
 refine zM Z Z (zc Z) ?_
 refine zM Z Z (zH Z Z Z Z Z Z) ?_
 refine zM Z Z (z8 Z Z Z (by assumption) (by rfl)) ?_
 refine zM Z Z (zJ Z) ?_
 refine zM Z Z (zc Z) ?_
 refine zM Z Z (zH Z Z Z Z Z Z) ?_
 refine zM Z Z (z8 Z Z Z (by assumption) (by rfl)) ?_
 refine zM Z Z (zBv Z Z Z) ?_
 refine zM Z Z (zE7 Z Z (by omega)) ?_
 refine zM Z Z (qis Z Z Z) ?_
 refine zM Z Z (zAx Z Z Z (by assumption) Z (by first | assumption | omega)) ?_
 refine zM Z Z (zm Z) ?_
 refine zAA ?_
 refine zW (by kernel_rfl) ?_
 repeat (refine zI ?_)
 refine zAE 3 (.sl (G.length + 4 + m) 0 (N + 1)) Z (AEq.of_eq (by show AV.sl (G.length + 4 + (((m + 1 : Nat) : Int) - 1).toNat) 0 (N + 1) = _; rw [show (((m + 1 : Nat) : Int) - 1).toNat = m by omega])) ?_
 skip
 refine z7 ?_
 apply zAJ (H := stH G N w (m + 1) t) [(0, .ptr G.length 0 0), (4, iN (zCH m w t))]
 ·intro fin
  refine rn1 ?_
  refine ze (ι := Nat) (fun a => [(0, .ptr G.length 0 0), (3, .sl (G.length + 4 + m) 0 (N + 1)), (4, iN a)]) (fun _ => stH G N w (m + 1) t) (fun a => a ≤ w ∧ zCR t.rows m (w - a) a = zCH m w t) (fun a => w - a) 0 ⟨⟨Z, Z, Z, trivial⟩, Z, Nat.zero_le _, Z⟩ ?_
  rintro a ⟨ha, hcol⟩
  by_cases haw : a < w
  ·have g1 : a < (zC (t.rows.getD m [])).len := by show a < (t.rows.getD m []).length; omega
   have cs := zEJ (at2 t.rows m a)
   refine rn7 ?_
   refine zD 24 (.bool true) Z (AEq.of_eq (by rw [decide_eq_true (by omega)])) ?_
   refine zEO ?_
   refine zD 28 (zA0 (at2 t.rows m a)) Z (AEq.of_eq Z) ?_
   refine zB Z Z Z cs ?_
   refine zBa ?_
   refine zA Z (fun h1 => ?_) (fun h1 => ?_)
   ·rw [zNz] at h1
    refine rn5 ?_
    exact zK ⟨a + 1, ⟨by omega, by rw [← hcol, show w - a = (w - (a + 1)) + 1 by omega, enter_go h1]⟩, by omega, ⟨Z, Z, Z, trivial⟩, Z⟩
   ·rw [zNz] at h1
    rw [zOf (by omega)] at hcol
    refine zBa ?_
    exact fin _ ⟨Z, by rw [← hcol]; rfl, trivial⟩
  ·have haw' : a = w := by omega
   subst haw'
   rw [Nat.sub_self] at hcol
   have hcol : a = zCH m a t := hcol
   refine rn7 ?_
   refine zD 24 (.bool false) Z (AEq.of_eq (by rw [decide_eq_false (by omega)])) ?_
   refine zBa ?_
   exact fin _ ⟨Z, by rw [← hcol]; rfl, trivial⟩
 ·have hcl : zCH m w t ≤ w := Nat.le_trans (zE2 t.rows m w 0).2.1 (by omega)
  refine rn15 ?_
  refine zA Z (fun h1 => ?_) (fun h1 => ?_)
  ·have h1' : zCH m w t = w := by omega
   have e := hen (zRQ h1') hk
   refine rn6 ?_
   exact zL hR Z ⟨by rw [e]; unfold resZ; rw [if_pos h1']; rfl, by rw [e]⟩
  ·have h1' : zCH m w t ≠ w := by omega
   have cl := leave_ok G hG N w (m + 1) t.rows t.den t.basis (zCH m w t) E hn (by omega) hm hrow hN (by omega) (by omega) hB1 hE
   rw [hβ] at cl
   refine rn1 ?_
   refine zCb Z Z Z cl (fun _ h => h) (fun _ h => h) ?_
   rintro r' H' ⟨rfl, rfl⟩
   refine rn4 ?_
   refine zA Z (fun h2 => ?_) (fun h2 => ?_)
   ·rw [zNa] at h2
    have e := hen (zRP h1' h2) hk
    refine rn6 ?_
    exact zL hR Z ⟨by rw [e]; unfold resZ; rw [if_neg h1']; rfl, by rw [e]⟩
   ·cases hl : zBZ t.rows t.basis (zCH m w t) N m with
    | none => rw [hl] at h2; exact absurd (show (-1 : Int) < 0 by decide) h2
    | some r =>
     have hs := step_go h1' hl
     have hr := (zGJ _ _ _ _ _ _ hl).lt
     have hkk := hkK (by rw [hs]; exact fun q => by cases q)
     have e := hnx _ hs
     have cp := zNd G hG (N + 1) w (m + 1) t.rows t.den t.basis r (zCH m w t) E hn hm hrow hN (by omega) (by omega) (by omega) hd hB1 hB2 hE
     refine rn1 ?_
     refine zCb Z Z Z cp (fun _ h => h) (fun _ h => h) ?_
     rintro r' H' ⟨rfl, rfl⟩
     refine rn5 ?_
     exact zK ⟨k + 1, by omega, by omega, ⟨Z, trivial⟩, by rw [e]; rfl⟩
end Go.Proofs.YtkncmbklkhjmgaaGreatDoor
namespace Go.Ax
variable [Pins]
open Go.RowKit
theorem zP.cutR {P : Program} {f : FuncId} {args : List AV} {H : zN} {fix : Nat → Prop} {K K' : AV → zN → Prop} (hc : zP P f args H fix K)
 (hK : ∀ r H', K r H' → ∃ H0 H1, H' = H0 ++ H1 ∧ (∀ h, fix h → h < H0.length) ∧ (∀ (h : Nat) (o : AObj), H0[h]? = some (some o) → zA8 H0.length o.c) ∧ zCB H0.length r = true ∧ K' r H0) : zP P f args H fix K' := by
 refine ⟨hc.1, fun w σ S vals h0 h1 h2 h3 => Calls.mono (hc.2 w σ S vals h0 h1 h2 h3) fun e w' he => ?_⟩
 obtain ⟨v, r, σ', S', H', g1, g2, g3, g4, g5⟩ := he
 obtain ⟨H0, H1, rfl, hf, hbH, hbr, hk⟩ := hK _ _ g5
 have hs : ∀ h, h < H0.length → cutσ H0.length σ' h = σ' h := fun h hl => if_pos hl
 have hget : ∀ {h : Nat} {o : AObj}, H0[h]? = some (some o) → h < H0.length ∧ (H0 ++ H1)[h]? = some (some o) := by
  intro h o ho
  have hl : h < H0.length := (List.getElem?_eq_some_iff.1 ho).1
  exact ⟨hl, by rw [List.getElem?_append_left hl]; exact ho⟩
 refine ⟨v, r, cutσ H0.length σ', S', H0, g1, ⟨fun h o ho => ?_, fun h h' o o' b s C s' C' q1 q2 e1 e2 => ?_, g2.small, fun h hl => if_neg (by omega)⟩, g3.cutv hbr _ hs, ⟨g4.os, g4.output, g4.tape, g4.size, g4.block, g4.S1, g4.S2, fun h hh => by rw [hs h (hf h hh)]; exact g4.fixed h hh, hf, fun h o b s C q e => ?_⟩, hk⟩
 ·obtain ⟨hl, ho'⟩ := hget ho
  rw [hs h hl]
  rcases g2.live h o ho' with g | ⟨b, C, cur, k1, k2, k3, k4, k5, k6, k7⟩
  ·exact .inl g
  ·refine .inr ⟨b, C, cur, k1, k2.cutv (fun ks vs hc => (hbH h o ho).mp hc) hs, k3, k4, k5, k6, fun i j hi hj => ?_⟩
   obtain ⟨v, m1, m2, m3⟩ := k7 i j hi hj
   exact ⟨v, m1, m2.cutv ((hbH h o ho).row i j hi hj) _ hs, m3⟩
 ·obtain ⟨hl, ho⟩ := hget q1
  obtain ⟨hl', ho'⟩ := hget q2
  rw [hs h hl] at e1
  rw [hs h' hl'] at e2
  exact g2.dist h h' o o' b s C s' C' ho ho' e1 e2
 ·obtain ⟨hl, ho⟩ := hget q
  rw [hs h hl] at e
  exact g4.own h o b s C ho e
/-- The result lies in a cell that is known by a fact. -/
theorem zGA {P : Program} {fr : Fr} {H : zN} {t h : Nat} {ty oty : TypeId} {l : List AV} {fs : Array Field} {i : TypeInfo} (hl : look t fr = some (.ptr h 0 0)) (hh : H[h]? = some (some ⟨oty, .box l⟩)) (hu : P.underlying ty = some (.struct fs)) (hi : P.info? ty = some i) (hsz : Nat.beq i.size l.length = true) :
 zGe P fr H [.cell t ty] = some [.agg l] := by
 have _p := ‹Pins›
 simp only [zGe, zMt, hl, hh, hu, hi, hsz]
 rfl
/-- A call that reads the own memory and leaves it as it is. -/
theorem px_c {P : Program} {fn : Func} {c : Ctx} {H : zN} {all : Array Oper} {K0 : Fr} {i : Nat} {r : List Nat} {st : Steps} {G : Steps → Prop} {d : Nat} {g : Operand} {args : List Operand} {ats : Array TypeId} {ty : TypeId} {pos : String} {after : Array Edge} {f : FuncId} {caps ags ags' : List AV} {v : AV} {K : Fr} (hi : all[i]? = some ⟨some d, .call { callee := .value g, args := args.toArray, argTypes := ats }, ty, pos, after, none⟩)
 (hK : zFt st K0 ⟨some d, .call { callee := .value g, args := args.toArray, argTypes := ats }, ty, pos, after, none⟩ = K) (hg : ev K g = some (.fn f caps)) (ha : evs K args = some ags) (has : ags ++ caps = ags') (hcall : zP P f ags' H (fun h => h < H.length) (fun r' H' => r' = v ∧ H' = H))
 (h : zED P fn c H all K0 r ((i, d, v) :: st) G) : zED P fn c H all K0 (i :: r) st G :=
 zJz hi (hK ▸ fun k fr hk h2 => zCb (zIV hk hg) (zJA hk ha) has hcall (fun _ h => h) (fun _ h => h) (fun r H' e => by obtain ⟨rfl, rfl⟩ := e; exact h2)) h
end Go.Ax
namespace Go.Proofs.YtkncmbklkhjmgaaGreatDoor
open Go.Ax Go.Ax.Bg Go.Ax.Rt Go.RowKit Go.Ax.Dt Go.Ax.Sx
attribute [local irreducible] Ax zBI QOp zP zAl
section
variable {G : zN} {F : Option AObj} {L w k : Nat} {X : Tab} {d : Int} {β : List Nat} {T : zN}
theorem zGV (o : Option AObj) : (zZ G F L w k X d β (T ++ [o]))[G.length + 4 + X.length + T.length]? = some o := by
 rw [zAZ, List.getElem?_append_right (Nat.le_refl _), Nat.sub_self]; rfl
theorem zCw (o o' : Option AObj) : (zZ G F L w k X d β (T ++ [o])).set (G.length + 4 + X.length + T.length) o' = zZ G F L w k X d β (T ++ [o']) := by
 rw [zAI]
 congr 1
 rw [List.set_append_right _ _ (Nat.le_refl _), Nat.sub_self]; rfl
end
theorem q_ok (G : zN) (hG : OkG G) (L w k : Nat) (X : Tab) (d : Int) (β : List Nat) (T : zN) (hT : ∀ o : AObj, some o ∈ T → zA8 (zZ G none L w k X d β T).length o.c) (x : Int) (hd : d ≠ 0) (hx : (zS x.natAbs).length ≤ 1000000) (hdl : (zS d.natAbs).length ≤ 1000000) :
 zP Tryz.prog 243 [.ptr G.length 0 0, zA0 x] (zZ G none L w k X d β T) (fun h => h < (zZ G none L w k X d β T).length)
  (fun r' H' => r' = qA (Rat.divInt x d) ∧ H' = zZ G none L w k X d β T) := by
 have hlen : (zZ G none L w k X d β T).length = G.length + 4 + X.length + T.length := zBB
 refine zP.cutR (K := fun r' H' => r' = qA (Rat.divInt x d) ∧ ∃ H1, H' = zZ G none L w k X d β T ++ H1) ?_ (fun r' H' h => ?_)
 ·refine zE (P := Tryz.prog) (fn := Tryz.f243) Z Z (by kernel_rfl) Z (fun c hR hfix => ?_)
  have cf := zHM x d hd hx hdl
  refine rn6 ?_
  refine zAi (zZ G none L w k X d β (T ++ [some ⟨102, .box (zj x)⟩] ++ [some ⟨104, .box [.bool false, .nil, .nil]⟩])) (by rw [zAY, zAY]; rfl) ?_
  refine zAE 3 (.ptr (G.length + 4 + X.length + T.length) 0 0) Z (AEq.of_eq (by rw [hlen])) ?_
  refine zAE 4 (.ptr (G.length + 4 + X.length + (T ++ [some (⟨102, .box (zj x)⟩ : AObj)]).length) 0 0) Z (AEq.of_eq (by rw [zAY, zBB]; rfl)) ?_
  have f1 := zA1 (G := G) (F := none) (L := L) (w := w) (k := k) (X := X) (d := d) (β := β) (T := T ++ [some ⟨102, .box (zj x)⟩] ++ [some ⟨104, .box [.bool false, .nil, .nil]⟩])
  have f2 := zAZ (G := G) (F := none) (L := L) (w := w) (k := k) (X := X) (d := d) (β := β) (T := T ++ ([some ⟨102, .box (zj x)⟩] ++ [some ⟨104, .box [.bool false, .nil, .nil]⟩])) T.length
  rw [List.getElem?_append_right (Nat.le_refl _), Nat.sub_self] at f2
  rw [← List.append_assoc] at f2
  have f3 := zGV (G := G) (F := none) (L := L) (w := w) (k := k) (X := X) (d := d) (β := β) (T := T ++ [some ⟨102, .box (zj x)⟩]) (some ⟨104, .box [.bool false, .nil, .nil]⟩)
  have f2 : (zZ G none L w k X d β (T ++ [some ⟨102, .box (zj x)⟩] ++ [some ⟨104, .box [.bool false, .nil, .nil]⟩]))[G.length + 4 + X.length + T.length]? = some (some (⟨102, .box (zj x)⟩ : AObj)) := f2
  refine zi (by kernel_rfl) ?_
  refine zp (fuel := 1) [0, 1, 2, 3, 4, 5] [(0, .ptr G.length 0 0), (3, .ptr (G.length + 4 + X.length + T.length) 0 0), (4, .ptr (G.length + 4 + X.length + (T ++ [some (⟨102, .box (zj x)⟩ : AObj)]).length) 0 0)] ⟨Z, Z, Z, trivial⟩ (by kernel_rfl) (by decide) Z Z ?_
  refine zM Z Z (qas Z Z Z Z) ?_
  refine zM Z Z (zJ Z) ?_
  refine zM Z Z (zc Z) ?_
  refine zM Z Z (zH Z Z Z Z Z Z) ?_
  refine zM Z Z (qps Z Z Z Z) ?_
  refine zA6 Z Z Z Z Z cf ?_
  refine zAA ?_
  unfold qA
  refine zF (is := [6]) (by kernel_rfl) (by simp) Z ⟨fun o ho => ?_, trivial⟩
  all_goals (cases ho)
  refine zz (c' := .box (zT (Rat.divInt x d))) Z Z Z f3 Z Nat.zero_lt_one Z Z (fun i' j' hi' hj' => ?_) ?_
  ·rw [if_pos (Nat.lt_one_iff.1 hi')]; rfl
  refine zO (zZ G none L w k X d β (T ++ [some ⟨102, .box (zj x)⟩] ++ [some ⟨104, .box (zT (Rat.divInt x d))⟩])) (zCw _ _) ?_
  have f4 := zGV (G := G) (F := none) (L := L) (w := w) (k := k) (X := X) (d := d) (β := β) (T := T ++ [some ⟨102, .box (zj x)⟩]) (some ⟨104, .box (zT (Rat.divInt x d))⟩)
  refine rn1 ?_
  refine zW (by kernel_rfl) ?_
  refine rn0 ?_
  exact zL hR (zGA Z f4 Z Z Z) ⟨Z, _, by rw [zAY, List.append_assoc]⟩
 ·obtain ⟨rfl, H1, rfl⟩ := h
  exact ⟨_, H1, rfl, fun h hh => hh, zCN hG _ (by omega) (fun o ho => by cases ho) hT, rfl, rfl, rfl⟩
end Go.Proofs.YtkncmbklkhjmgaaGreatDoor
namespace Go.Proofs.YtkncmbklkhjmgaaGreatDoor
open Go.Ax Go.Ax.Bg Go.Ax.Rt Go.RowKit Go.Ax.Dt Go.Ax.Sx
/-- A row of zeros. -/
theorem zID {A : zN} {t : TypeId} {n : Nat} : ∀ (h : Nat) (o' : AObj), (A ++ [some ⟨t, zC (List.replicate n 0)⟩])[h]? = some (some o') → ∃ o : AObj, (A ++ [some ⟨t, zBE n [.bool false, .nil]⟩])[h]? = some (some o) ∧ o'.ty = o.ty ∧ o'.c.len = o.c.len ∧ o'.c.kd = o.c.kd ∧ ∀ i j, i < o.c.len → j < o.c.sz → AEq (o.c.at i j) (o'.c.at i j) := by
 intro h o' ho'
 by_cases hl : h < A.length
 ·rw [List.getElem?_append_left hl] at ho'
  refine ⟨o', by rw [List.getElem?_append_left hl]; exact ho', Z, Z, Z, fun i j _ _ => AEq.of_eq Z⟩
 ·have hh : h = A.length := by
   have h1 := (List.getElem?_eq_some_iff.1 ho').1
   rw [List.length_append] at h1
   have h1 : h < A.length + 1 := h1
   omega
  subst hh
  rw [List.getElem?_append_right (Nat.le_refl _), Nat.sub_self] at ho'
  cases ho'
  refine ⟨⟨t, zBE n [.bool false, .nil]⟩, by rw [List.getElem?_append_right (Nat.le_refl _), Nat.sub_self]; rfl, Z, ?_, Z, fun i j hi hj => ?_⟩
  ·simp [rowE, Cells.len, zBE]
  ·have hi : i < n := by simpa [Cells.len, zBE] using hi
   have hj : j < 2 := hj
   show AEq _ ((zj ((List.replicate n (0 : Int)).getD i 0)).getD j .any)
   rw [zDy 0 (by simpa using hi), List.getElem_replicate]
   match j, hj with
   | 0, _ => exact AEq.of_eq rfl
   | 1, _ => exact AEq.natNil
theorem zQ.set {H H' : zN} (hs : zQ H H') (h : Nat) {x x' : Option AObj} (hx : ∀ o', x' = some o' → ∃ o, x = some o ∧ o'.ty = o.ty ∧ CEq o.c o'.c) : zQ (H.set h x) (H'.set h x') := by
 refine ⟨by rw [List.length_set, List.length_set, hs.1], fun i o' ho' => ?_⟩
 rw [List.getElem?_set] at ho' ⊢
 by_cases e : h = i
 ·rw [if_pos e] at ho' ⊢
  split at ho'
  ·rename_i hl
   rw [if_pos (by rw [← hs.1]; exact hl)]
   cases ho'
   obtain ⟨o, h1, h2⟩ := hx o' rfl
   exact ⟨o, by rw [h1], h2⟩
  ·cases ho'
 ·rw [if_neg e] at ho' ⊢
  exact hs.2 i o' ho'
theorem zQ.trans' {A B C : zN} (h1 : zQ A B) (h2 : zQ B C) : zQ A C := by
 refine ⟨h2.1.trans h1.1, fun h o ho => ?_⟩
 obtain ⟨o1, g1, g2, g3⟩ := h2.2 h o ho
 obtain ⟨o2, k1, k2, k3⟩ := h1.2 h o1 g1
 refine ⟨o2, k1, g2.trans k2, ?_⟩
 obtain ⟨a1, a2, a3⟩ := k3
 obtain ⟨b1, b2, b3⟩ := g3
 exact ⟨b1.trans a1, b2.trans a2, fun i j hi hj => (b3 i j (by rw [a1]; exact hi) (by rw [zLd a2]; exact hj)).trans (a3 i j hi hj)⟩
/-- The tableau while its rows are moved. -/
abbrev zKs (G : zN) (L w : Nat) (X : Tab) (d : Int) (β : List Nat) (T : zN) : zN :=
 G ++ (some ⟨270, .box [.any, .bool (decide (d < 0)), zh d.natAbs, .sl (G.length + 2) 0 β.length, iN w]⟩ :: none :: some ⟨3, zBy β⟩ :: zAm ⟨265, zBh G.length X.length L⟩ 102 zC X T)
theorem zPL {G : zN} {L w : Nat} {X : Tab} {d : Int} {β : List Nat} {T : zN} : (zKs G L w X d β T)[G.length]? = some (some ⟨270, .box [.any, .bool (decide (d < 0)), zh d.natAbs, .sl (G.length + 2) 0 β.length, iN w]⟩) := zD8 (i := 0) rfl
theorem zPN {G : zN} {L w k : Nat} {X : Tab} {d : Int} {β : List Nat} {T : zN} : (zKs G L w X d β T).set G.length (some ⟨270, zDu G.length k β.length w d⟩) = zZ G none L w k X d β T := zCA (i := 0) _ rfl
theorem zJF {α : Type} {O : AObj} {t : TypeId} {f : α → Cells} {X : List α} {x : α} {T : zN} : zAm O t f X (some ⟨t, f x⟩ :: T) = zAm O t f (X ++ [x]) T := by
 unfold zAm
 congr 1
 show zCJ t f X ++ ([some ⟨t, f x⟩] ++ T) = _
 rw [← List.append_assoc, zOu]
/-- A row more: the outer row is moved. -/
theorem zL4 {G : zN} {L w k : Nat} {X : Tab} {x : List Int} {d : Int} {β : List Nat} {a : Option AObj} {c' : Cells} (hG : zl (G.length + 3) G = G)
 (hc : CEq c' (zBh G.length (X.length + 1) L)) :
 zQ ((zl (G.length + 3) (zZ G none L w k X d β [some ⟨102, zC x⟩, a])).set (G.length + 3) (some ⟨265, c'⟩)) (zKs G L w (X ++ [x]) d β [none]) := by
 unfold zZ
 rw [zDS, hG]
 have e : zl (G.length + 3) (some (⟨270, zDu G.length k β.length w d⟩ : AObj) :: none :: some ⟨3, zBy β⟩ :: zAm ⟨265, zBh G.length X.length L⟩ 102 zC X [some ⟨102, zC x⟩, a])
  = some ⟨270, .box [.any, .bool (decide (d < 0)), zh d.natAbs, .sl (G.length + 2) 0 β.length, iN w]⟩ :: none :: some ⟨3, zBy β⟩ :: zAm ⟨265, (zBh G.length X.length L).forget (G.length + 3)⟩ 102 zC X (zl (G.length + 3) [some ⟨102, zC x⟩, a]) := by
  show some (⟨_, Cells.box (AV.forgets _ _)⟩ : AObj) :: none :: some (⟨_, zBy β⟩ : AObj) :: zl (G.length + 3) (zAm _ _ _ X _) = _
  rw [zEI (G.length + 3) (zBN (G.length + 3))]
  simp [AV.forgets, AV.forget, zh, zq]
 rw [e]
 refine zQ.trans' (B := G ++ (some ⟨270, .box [.any, .bool (decide (d < 0)), zh d.natAbs, .sl (G.length + 2) 0 β.length, iN w]⟩ :: none :: some ⟨3, zBy β⟩ :: zAm ⟨265, c'⟩ 102 zC X (zl (G.length + 3) [some ⟨102, zC x⟩, a]))) ?_ ?_
 ·rw [show (G ++ (some (⟨270, .box [.any, .bool (decide (d < 0)), zh d.natAbs, .sl (G.length + 2) 0 β.length, iN w]⟩ : AObj) :: none :: some ⟨3, zBy β⟩ :: zAm ⟨265, (zBh G.length X.length L).forget (G.length + 3)⟩ 102 zC X (zl (G.length + 3) [some ⟨102, zC x⟩, a]))).set (G.length + 3) (some ⟨265, c'⟩) = _ from zCA (i := 3) _ rfl]
  exact zQ.refl _
 ·refine zQ.append (zQ.refl _) (zQ.same (zQ.same (zQ.same ?_)))
  have hl : zl (G.length + 3) [some (⟨102, zC x⟩ : AObj), a] = [some ⟨102, zC x⟩, zAp (G.length + 3) a] := by
   show [some (⟨102, (zC x).forget _⟩ : AObj), _] = _
   rw [zBN]
  rw [hl, zJF]
  refine zGv ⟨Z, ?_⟩ (zQ.drop zQ.nil)
  show CEq c' (zBh G.length (X ++ [x]).length L)
  rw [List.length_append]; exact hc
theorem zEs (b n L : Nat) (cx : Cells) (h0 : cx.at 0 0 = .sl (b + 4 + n) 0 L) : CEq (.fn (n + 1) 1 (fun i j => bif Nat.blt i n then (zBh b n L).at i j else cx.at (0 + (i - n)) j)) (zBh b (n + 1) L) := by
 refine ⟨Z, Z, fun i j hi hj => ?_⟩
 obtain rfl := Nat.lt_one_iff.1 (show j < 1 from hj)
 have hi : i < n + 1 := hi
 show AV.sl (b + 4 + i) 0 L = bif Nat.blt i n then AV.sl (b + 4 + i) 0 L else cx.at (0 + (i - n)) 0
 by_cases e : i < n
 ·rw [show Nat.blt i n = true from Nat.ble_eq_true_of_le e]; rfl
 ·have e2 : i = n := by omega
  subst e2
  rw [show Nat.blt i i = false by
   cases h : Nat.blt i i with
   | false => rfl
   | true => exact absurd (Nat.le_of_ble_eq_true h) (Nat.not_succ_le_self i)]
  rw [Nat.sub_self, Nat.add_zero]
  exact h0.symm
theorem zIr {H : zN} {h i m : Nat} {o : AObj} (hh : H[h]? = some (some o)) : zLu H (.sl h i m) = some (o.c, i, m) := by
 simp only [zLu, hh]
/-- forgetting what lies behind the tableau -/
theorem zJP {G : zN} {L w k : Nat} {X : Tab} {d : Int} {β : List Nat} {T T' : zN} (h : Nat) (hG : zl h G = G) (hh : G.length + 4 + X.length ≤ h) (hT : zQ (zl h T) T') :
 zQ (zl h (zZ G none L w k X d β T)) (zZ G none L w k X d β T') := by
 unfold zZ
 rw [zDS, hG]
 refine zQ.append (zQ.refl _) ?_
 have e : zl h (some (⟨270, zDu G.length k β.length w d⟩ : AObj) :: none :: some ⟨3, zBy β⟩ :: zAm ⟨265, zBh G.length X.length L⟩ 102 zC X T)
  = some ⟨270, zDu G.length k β.length w d⟩ :: none :: some ⟨3, zBy β⟩ :: zAm ⟨265, (zBh G.length X.length L).forget h⟩ 102 zC X (zl h T) := by
  show some (⟨_, Cells.box (AV.forgets _ _)⟩ : AObj) :: none :: some (⟨_, zBy β⟩ : AObj) :: zl h (zAm _ _ _ X _) = _
  rw [zEI h (zBN h)]
  simp [AV.forgets, AV.forget, zh, zq (show G.length + 3 ≠ h by omega), zq (show G.length + 2 ≠ h by omega)]
 rw [e]
 refine zQ.same (zQ.same (zQ.same (zGv ⟨Z, Z, Z, fun i j hi hj => ?_⟩ hT)))
 obtain rfl := Nat.lt_one_iff.1 (show j < 1 from hj)
 have hi : i < X.length := hi
 show AV.sl (G.length + 4 + i) 0 L = AV.forget h (AV.sl (G.length + 4 + i) 0 L)
 unfold AV.forget
 rw [zq (show G.length + 4 + i ≠ h by omega)]; rfl
/-- an object behind the tableau grows -/
theorem zLG {G : zN} {L w k : Nat} {X : Tab} {d : Int} {β : List Nat} {y : Option AObj} {t : TypeId} {c' c'' : Cells} (hG : zl (G.length + 4 + X.length) G = G) (hc : CEq c' c'') :
 zQ ((zl (G.length + 4 + X.length) (zZ G none L w k X d β [y])).set (G.length + 4 + X.length) (some ⟨t, c'⟩)) (zZ G none L w k X d β [some ⟨t, c''⟩]) := by
 have e : zZ G none L w k X d β [some ⟨t, c''⟩] = (zZ G none L w k X d β [none]).set (G.length + 4 + X.length) (some ⟨t, c''⟩) := by
  have q := zAI (G := G) (F := none) (L := L) (w := w) (k := k) (X := X) (d := d) (β := β) (T := [none]) 0 (some ⟨t, c''⟩)
  exact q.symm
 rw [e]
 exact zQ.set (zJP (T := [y]) (T' := [none]) _ hG (Nat.le_refl _) (show zQ [zAp _ y] [none] from zQ.drop zQ.nil)) _ (fun o ho => by cases ho; exact ⟨_, rfl, rfl, hc⟩)
theorem zRU {X : Tab} {m : Nat} (h : X.length = m + 1) : X.take m ++ [X.getD m []] = X := by
 apply List.ext_getElem (by rw [List.length_append, List.length_take, h]; show min m (m + 1) + 1 = m + 1; omega)
 intro i h1 h2
 by_cases e : i < m
 ·rw [List.getElem_append_left (by rw [List.length_take]; omega), List.getElem_take]
 ·have e2 : i = m := by omega
  subst e2
  rw [List.getElem_append_right (by rw [List.length_take]; omega)]
  simp [List.getD, h]
/-- without its last row -/
theorem tb_trunc {G : zN} {L w k m : Nat} {X : Tab} {d : Int} {β : List Nat} (h : X.length = m + 1) :
 (zZ G none L w k X d β []).set (G.length + 3) (some ⟨265, zBh G.length m L⟩) = zZ G none L w k (X.take m) d β [some ⟨102, zC (X.getD m [])⟩] := by
 refine (zCA (i := 3) _ Z).trans ?_
 show G ++ (_ :: _ :: _ :: zAm ⟨_, zBh G.length m L⟩ _ _ X []) = _
 have hl : (X.take m).length = m := by rw [List.length_take, h]; omega
 unfold zZ
 rw [zJF, zRU h, hl]
end Go.Proofs.YtkncmbklkhjmgaaGreatDoor
namespace Go.Proofs.YtkncmbklkhjmgaaGreatDoor
open Go.Ax Go.Ax.Bg Go.Ax.Rt Go.RowKit Go.Ax.Dt Go.Ax.Sx
attribute [local irreducible] Ax zBI QOp zP zAl
/-- rows of natural numbers -/
abbrev nsC (l : List Nat) : Cells := rowE 0 1 (fun n : Nat => [zh n]) l
def zJS (y : List Rat) (f : List Nat) (k : Nat) : List Rat := (List.range k).map (fun i => y.getD i 0 * ((f.getD i 0 : Nat) : Rat))
theorem zRX (y : List Rat) (f : List Nat) (k : Nat) : zJS y f (k + 1) = zJS y f k ++ [y.getD k 0 * ((f.getD k 0 : Nat) : Rat)] := by
 unfold zJS
 rw [List.range_succ, List.map_append]; rfl
theorem zOB (y : List Rat) (f : List Nat) (k : Nat) : (zJS y f k).length = k := by simp [zJS]
theorem qA_nat (n : Nat) : qA ((n : Nat) : Rat) = .agg [.bool false, zh n, zh 1] := by
 unfold qA
 have h1 : ((n : Nat) : Rat).num = (n : Int) := rfl
 have h2 : ((n : Nat) : Rat).den = 1 := rfl
 rw [h1, h2, Int.natAbs_natCast, decide_eq_false (by omega)]
theorem belowQ (l : List Rat) (n : Nat) : zA8 n (qsC l) := by
 intro i j _ hj
 show zCB n ((zT (l.getD i 0)).getD j .any) = true
 have hj : j < 3 := hj
 match j, hj with
 | 0, _ => rfl
 | 1, _ => rfl
 | 2, _ => rfl
theorem zK2 (y : List Rat) (f : List Nat) (K : Nat) (hl : y.length = f.length) (hy40 : y.length ≤ 1000000) (hy : ∀ q ∈ y, D K q) (hf : ∀ n ∈ f, n < 10 ^ K) (hK : K ≤ 800000) :
 zU Tryz.prog 195 [.ro (qsC y) 0 y.length, .ro (nsC f) 0 f.length] (.ro (qsC (zJS y f y.length)) 0 y.length) := by
 have c1 := zG5 1 (by decide)
 refine zP.value (K := fun r H => r = .sl 0 0 y.length ∧ H = [some ⟨104, qsC (zJS y f y.length)⟩]) (zE (P := Tryz.prog) (fn := Tryz.f195) Z Z (by kernel_rfl) Z (fun c hR hfix => ?_)) (fix := fun _ => False) (fun _ h => h) Z ?_
 ·refine rn8 ?_
  refine zAo 5 ⟨104, qsC (zJS y f 0)⟩ Z Z ?_
  repeat (refine zAF ?_)
  refine ze (ι := Nat) (fun k => [(1, .ro (nsC f) 0 f.length), (5, .sl 0 0 k), (8, .ro (qsC y) 0 y.length), (9, iN y.length), (10, iN k)]) (fun k => [some ⟨104, qsC (zJS y f k)⟩])
   (fun k => k ≤ y.length) (fun k => y.length - k) 0 ⟨⟨rfl, rfl, rfl, rfl, rfl, trivial⟩, rfl, Nat.zero_le _⟩ ?_
  intro k hk
  refine rn4 ?_
  refine zA Z (fun h => ?_) (fun h => ?_)
  ·have hk' : k < y.length := by omega
   have hkf : k < f.length := by omega
   have hs := zRX y f k
   have hul := zOB y f k
   have hDy := hy _ (zAD 0 hk')
   have hDf : D (K + 1) ((f.getD k 0 : Nat) : Rat) := nat_D (Nat.le_of_lt (hf _ (zAD 0 hkf)))
   have cm := zMg (y.getD k 0) ((f.getD k 0 : Nat) : Rat) (zFE (hDy.mono (by omega))) (zFE (hDf.mono (by omega)))
   rw [qA_nat] at cm
   generalize hU2 : zJS y f (k + 1) = U2 at *
   generalize zJS y f k = U at *
   refine rn6 ?_
   refine zO [some ⟨104, qsC U⟩, some ⟨104, .box [.bool false, .nil, .nil]⟩] Z ?_
   refine zD 7 (.ptr 1 0 0) Z (AEq.of_eq Z) ?_
   refine zD 14 (.agg (zT (y.getD k 0))) Z (AEq.of_eq Z) ?_
   refine sa1 (c' := .box (zT (y.getD k 0))) Z Z Z Z Z Z Z ?_
   refine rn0 ?_
   refine zAi [some ⟨104, qsC U⟩, some ⟨104, .box (zT (y.getD k 0))⟩] Z ?_
   refine zi (by kernel_rfl) ?_
   refine zV 0 Z (by kernel_rfl) (by kernel_rfl) (by kernel_rfl) Z (zJ Z) Z ?_
   refine zCq (fuel := 3) [1, 2, 3, 4, 5, 6, 7, 8, 9] [(15, .sl 0 0 k), (1, .ro (nsC f) 0 f.length), (5, .sl 0 0 k), (8, .ro (qsC y) 0 y.length), (9, iN y.length), (10, iN k), (6, iN k), (7, .ptr 1 0 0)] ⟨Z, Z, Z, Z, Z, Z, Z, Z, trivial⟩ (by kernel_rfl) (by decide) Z Z ?_
   refine zM Z Z (qpp Z Z Z Z Z Z Z) ?_
   refine zM Z Z (zJ Z) ?_
   refine zM Z Z (zJ Z) ?_
   refine zM Z Z (zAB Z Z Z Z (by first | (simp only [Nat.zero_add, Int.toNat_natCast, Int.toNat_zero]; exact Z) | exact Z) (by omega)) ?_
   refine zM Z Z (zCX Z Z Z Z) ?_
   refine zM Z Z (zBG Z Z Z Z Z Z) ?_
   refine zA6 Z Z Z Z Z c1 ?_
   refine zM Z Z (zBG Z Z Z Z Z Z) ?_
   refine zA6 Z Z Z Z Z cm ?_
   refine zAA ?_
   unfold qA
   refine zF (is := [10]) (by kernel_rfl) (by simp) Z ⟨fun o ho => ?_, trivial⟩
   all_goals (cases ho)
   refine rn3 ?_
   refine zF (is := [11]) (by kernel_rfl) (by simp) Z ⟨fun o ho => ?_, trivial⟩
   all_goals (cases ho)
   refine zr Z Z Z Z Z Z Z Z Z hul Z Z (by show 0 + 1 ≤ 1; omega) Z (by show (k + 1) * 56 ≤ _ ∧ _; omega) ?_ (by rw [hfix]; exact fun h => h) ?_
   ·intro i' j hi hj
    exact zAM 0 3 zT zAe U _ _ (zCg _) 0 i' j hi hj
   refine zv [some ⟨104, qsC U2⟩, some ⟨104, .box (zT (y.getD k 0))⟩] ?_ ?_
   ·rw [hs]
    exact zQ.eqv (zAX 0 3 zT U _ _ (zCg _)) (zQ.eqv (CEq.refl _) zQ.nil)
   refine rn1 ?_
   refine zV 12 Z (by kernel_rfl) (by kernel_rfl) (by kernel_rfl) Z (zm Z) Z ?_
   refine zW (by kernel_rfl) ?_
   repeat (refine zAP ?_)
   refine zI ?_
   refine zBF [some ⟨104, qsC U2⟩] [some ⟨104, .box (zT (y.getD k 0))⟩] [(1, .ro (nsC f) 0 f.length), (5, .sl 0 0 (k + 1)), (8, .ro (qsC y) 0 y.length), (9, iN y.length), (10, iN k)] Z ⟨Z, Z, Z, Z, Z, trivial⟩ (fun h hh => by rw [hfix] at hh; exact hh.elim) (fun h o ho => by
    match h, ho with
    | 0, ho => cases ho; exact belowQ U2 _) rfl ?_
   refine rn3 ?_
   exact zK ⟨k + 1, by omega, by omega, ⟨Z, Z, Z, Z, Z, trivial⟩, by rw [hU2]⟩
  ·have hke : k = y.length := by omega
   subst hke
   refine rn5 ?_
   exact zL hR Z ⟨Z, Z⟩
 ·rintro r H ⟨rfl, rfl⟩
  exact ⟨rfl, fun o ho => by simp at ho; subst ho; exact Nat.le_of_eq (by simp [Cells.len, rowE, zOB]), zKf (zAw _)⟩
end Go.Proofs.YtkncmbklkhjmgaaGreatDoor
namespace Go.Ax
variable [Pins]
open Go.RowKit
def mvσ (σ : Nat → Option Blk) (h1 h2 : Nat) : Nat → Option Blk := fun h => if h = h1 then σ h2 else σ h
def mvH (H : zN) (h1 h2 : Nat) (o : AObj) : zN := ((zl h1 H).set h1 (some ⟨o.ty, o.c.forget h1⟩)).set h2 none
theorem zIf {H : zN} {h1 h2 : Nat} {o : AObj} (hne : h1 ≠ h2) (h1H : h1 < H.length) {h : Nat} {o' : AObj} (hh : (mvH H h1 h2 o)[h]? = some (some o')) :
 (h = h1 ∧ o' = ⟨o.ty, o.c.forget h1⟩) ∨ (h ≠ h1 ∧ h ≠ h2 ∧ ∃ o0 : AObj, H[h]? = some (some o0) ∧ o' = ⟨o0.ty, o0.c.forget h1⟩) := by
 unfold mvH at hh
 by_cases e2 : h = h2
 ·exfalso
  subst e2
  rw [List.getElem?_set] at hh
  rw [if_pos rfl] at hh
  split at hh <;> cases hh
 rw [List.getElem?_set_ne (fun q => e2 q.symm)] at hh
 by_cases e1 : h = h1
 ·subst e1
  rw [List.getElem?_set_self (by rw [zAz]; exact h1H)] at hh
  cases hh
  exact .inl ⟨Z, Z⟩
 ·rw [List.getElem?_set_ne (fun q => e1 q.symm), zFJ] at hh
  cases hx : H[h]? with
  | none => rw [hx] at hh; cases hh
  | some x =>
   rw [hx] at hh
   cases x with
   | none => cases hh
   | some o0 => cases hh; exact .inr ⟨e1, e2, o0, rfl, rfl⟩
theorem Rep.move {c : Ctx} {w : World} {a : Act} {σ : Nat → Option Blk} {S : Nat → Prop} {n : Nat} {fr : Fr} {H : zN} (hr : Rep c w a σ S n fr H) (h1 h2 t len : Nat) {o : AObj} (hne : h1 ≠ h2) (h1H : h1 < H.length) (h2o : H[h2]? = some (some o))
 (hf1 : ¬ c.fix h1) (hl : look t fr = some (.sl h2 0 len)) : Rep c w a (mvσ σ h1 h2) S n ((t, .sl h1 0 len) :: zB6 h1 fr) (mvH H h1 h2 o) := by
 have hv : ∀ {x v}, VR w S σ x v → VR w S (mvσ σ h1 h2) (x.forget h1) v := fun h => h.forget _ (fun h' q => if_neg q)
 have s1 : mvσ σ h1 h2 h1 = σ h2 := if_pos rfl
 have s2 : ∀ h, h ≠ h1 → mvσ σ h1 h2 h = σ h := fun h q => if_neg q
 have hlen : (mvH H h1 h2 o).length = H.length := by unfold mvH; rw [List.length_set, List.length_set, zAz]
 have key : ∀ (h : Nat) (o0 : AObj), H[h]? = some (some o0) → ((σ h = some .nowhere ∧ (o0.c.forget h1).len = 0) ∨
  ∃ b C cur, σ h = some (.at b (o0.c.forget h1).sz C) ∧ Lays w S (mvσ σ h1 h2) ⟨o0.ty, o0.c.forget h1⟩ b cur C ∧ cur.size = C * (o0.c.forget h1).sz ∧ C ≤ maxLen + 1 ∧ (o0.c.forget h1).len ≤ C ∧ ¬ S b ∧
  ∀ i j, i < (o0.c.forget h1).len → j < (o0.c.forget h1).sz → ∃ v, cur[i * (o0.c.forget h1).sz + j]? = some v ∧ VR w S (mvσ σ h1 h2) ((o0.c.forget h1).at i j) v ∧ v.oneCell' = true) := by
  intro h o0 ho0
  rw [Cells.forget_len, Cells.forget_sz]
  rcases hr.hr.live h o0 ho0 with g | ⟨b, C, cur, g1, g2, g3, g4, g5, g6, g7⟩
  ·exact .inl g
  ·refine .inr ⟨b, C, cur, g1, g2.forget Z hv, g3, g4, g5, g6, fun i j hi hj => ?_⟩
   obtain ⟨v, k1, k2, k3⟩ := g7 i j hi hj
   exact ⟨v, k1, by rw [Cells.forget_at _ _ _ _ hj]; exact hv k2, k3⟩
 refine ⟨⟨fun h o' ho => ?_, fun h h' o1 o1' b s C s' C' q1 q2 e1 e2 => ?_, hr.hr.small, fun h hl' => ?_⟩, ⟨hr.kp.os, hr.kp.output, hr.kp.tape, hr.kp.size, hr.kp.block, hr.kp.S1, hr.kp.S2, fun h hh => ?_, fun h hh => ?_, fun h o' b s C q e => ?_⟩, hr.defers, hr.size, fun t' v hl' => ?_⟩
 ·rcases zIf hne h1H ho with ⟨rfl, rfl⟩ | ⟨g1, g2, o0, g3, rfl⟩
  ·rw [s1]; exact key h2 o h2o
  ·rw [s2 h g1]; exact key h o0 g3
 ·rcases zIf hne h1H q1 with ⟨rfl, rfl⟩ | ⟨g1, g2, o0, g3, rfl⟩
  ·rcases zIf hne h1H q2 with ⟨rfl, rfl⟩ | ⟨k1, k2, o0', k3, rfl⟩
   ·rfl
   ·rw [s1] at e1
    rw [s2 h' k1] at e2
    exact absurd (hr.hr.dist h2 h' o o0' b s C s' C' h2o k3 e1 e2) (fun q => k2 q.symm)
  ·rcases zIf hne h1H q2 with ⟨rfl, rfl⟩ | ⟨k1, k2, o0', k3, rfl⟩
   ·rw [s1] at e2
    rw [s2 h g1] at e1
    exact absurd (hr.hr.dist h h2 o0 o b s C s' C' g3 h2o e1 e2) g2
   ·rw [s2 h g1] at e1
    rw [s2 h' k1] at e2
    exact hr.hr.dist h h' o0 o0' b s C s' C' g3 k3 e1 e2
 ·rw [hlen] at hl'
  rw [s2 h (by omega)]; exact hr.hr.dom h hl'
 ·rw [s2 h (fun q => hf1 (q ▸ hh))]; exact hr.kp.fixed h hh
 ·rw [hlen]; exact hr.kp.fixlt h hh
 ·rcases zIf hne h1H q with ⟨rfl, rfl⟩ | ⟨g1, g2, o0, g3, rfl⟩
  ·rw [s1] at e; exact hr.kp.own h2 o b s C h2o e
  ·rw [s2 h g1] at e; exact hr.kp.own h o0 b s C g3 e
 ·have hsl := hr.slots t _ hl
  simp only [look] at hl'
  cases hb : Nat.beq t' t with
  | true =>
   rw [hb] at hl'
   have et := Nat.eq_of_beq_eq_true hb
   subst et
   cases hl'
   refine ⟨hsl.1, ?_⟩
   have h2 := hsl.2
   generalize a.tmps.getD t' undef = x at h2
   cases h2 with
   | sl _ _ _ _ b s C cap e1 e2 e3 => exact .sl _ _ _ _ _ _ _ _ (by rw [s1]; exact e1) e2 e3
   | sl0 _ _ e => exact .sl0 _ _ (by rw [s1]; exact e)
  | false =>
   rw [hb] at hl'
   have hl' : look t' (zB6 h1 fr) = some v := hl'
   rw [zDm] at hl'
   cases hx : look t' fr with
   | none => rw [hx] at hl'; cases hl'
   | some v0 =>
    rw [hx] at hl'
    cases hl'
    have hs := hr.slots t' v0 hx
    exact ⟨hs.1, hv hs.2⟩
section
variable {P : Program} {fn : Func} {c : Ctx} {fr : Fr} {H : zN} {k : List It}
theorem zPR {x : Code} (h1 h2 t len : Nat) {o : AObj} (hne : h1 ≠ h2) (h1H : h1 < H.length) (h2o : H[h2]? = some (some o)) (hf1 : ¬ c.fix h1) (hl : look t fr = some (.sl h2 0 len))
 (hk : Ax P fn c (.code x k) ((t, .sl h1 0 len) :: zB6 h1 fr) (mvH H h1 h2 o)) : Ax P fn c (.code x k) fr H :=
 fun w a σ S hr => hk w a _ S (hr.move h1 h2 t len hne h1H h2o hf1 hl)
end
theorem zFb {fr K : Fr} (h : zCD fr K) : ∀ {xs : List (Nat × Operand)} {l : List (Nat × AV)}, zCo K xs = some l → zCo fr xs = some l
 | [], l, he => he
 | (n, x) :: r, l, he => by
  simp only [zCo] at he ⊢
  split at he
  ·rename_i v hv
   split at he
   ·rename_i q hq
    rw [zIV h hv, zFb h hq]
    exact he
   ·cases he
  ·cases he
/-- a slice of plain values is built without a look at the memory -/
theorem px_b {P : Program} {fn : Func} {c : Ctx} {H : zN} {all : Array Oper} {K0 : Fr} {i : Nat} {r : List Nat} {st : Go.Ax.Steps} {G : Go.Ax.Steps → Prop} {d : Nat} {t e : TypeId} {n : Nat} {parts : List (Nat × Operand)} {ty : TypeId} {pos : String} {after : Array Edge} {it : TypeInfo} {z : Value} {zs L : List AV} {l : List (Nat × AV)} {cl : Cells} {K : Fr}
 (hi : all[i]? = some ⟨some d, .buildSlice t n parts.toArray, ty, pos, after, none⟩) (hK : zFt st K0 ⟨some d, .buildSlice t n parts.toArray, ty, pos, after, none⟩ = K)
 (ht : P.underlying t = some (.slice e)) (hinf : P.info? e = some it) (hz : it.zero = some z) (hzs : zav z = some zs) (hsz : it.size = zs.length) (hpos : Nat.blt 0 zs.length = true) (hsmall : Nat.ble (n * zs.length) 16777216 = true)
 (hl : zCo K parts = some l) (hf : zFp (fun i => some (i * zs.length, zs.length)) (zDQ zs n) l = some L) (hcl : zBp n zs.length L = cl) (hn : noRef.noRefs L = true)
 (h : zED P fn c H all K0 r ((i, d, .ro cl 0 n) :: st) G) : zED P fn c H all K0 (i :: r) st G :=
 zJz hi (hK ▸ fun k fr hk h2 => zf ht hinf hz hzs hsz hpos hsmall (zFb hk hl) hf hcl hn h2) h
end Go.Ax
namespace Go.Ax
variable [Pins]
open Go.RowKit
section
variable {P : Program} {fn : Func} {c : Ctx} {fr : Fr} {H : zN} {k : List It}
theorem zJj {w : World} {size : Nat} {a : Option Addr} {m cap : Nat} : (Builtin.firstCells size 0 (.slice a m cap)).run P w = .ok #[] w := by
 have _p := ‹Pins›
 cases a with
 | none => rfl
 | some a =>
  show (loadCells a (0 * size)).run P w = _
  rw [Nat.zero_mul]; rfl
theorem ax_copy0 {all : Array Oper} {d : Nat} {t tx e : TypeId} {x y : Operand} {ty : TypeId} {pos : String} {after : Array Edge} {rest : List Oper} {inf : TypeInfo} {h i n : Nat} {h2 i2 : Nat}
 (ht : P.underlying t = some (.slice e)) (hi : P.info? e = some inf) (hx : ev fr x = some (.sl h i n)) (hy : ev fr y = some (.sl h2 i2 0))
 (hk : Ax P fn c (.ops false all rest k) ((d, .int .i64 0) :: fr) H) : Ax P fn c (.ops false all (⟨some d, .call { callee := .builtin .copy, args := #[x, y], argTypes := #[t, tx] }, ty, pos, after, none⟩ :: rest) k) fr H := by
 refine ax_w (fun w a σ S hr => ?_) hk
 have h1 := hr.evAt hx
 have h2 := hr.evAt hy
 have hexec : ∀ r w', (Builtin.copy_ #[t, tx] ty #[a.eval x, a.eval y]).run P w = .ok r w' → (execOp a.eval ⟨some d, .call { callee := .builtin .copy, args := #[x, y], argTypes := #[t, tx] }, ty, pos, after, none⟩).run P w = .ok (.value r) w' := by
  intro r w' h
  simp [execOp, resolve, invoke, builtin, h]
 generalize hzx : a.eval x = vx at h1 hexec
 generalize hzy : a.eval y = vy at h2 hexec
 have key : ∀ (ax ay : Option Addr) (lx cx cy : Nat), (Builtin.copy_ #[t, tx] ty #[.slice ax lx cx, .slice ay 0 cy]).run P w = .ok (.int .i64 (0 : Nat)) w := by
  intro ax ay lx cx cy
  have hf := zJj (P := P) (w := w) (size := inf.size) (a := ay) (m := 0) (cap := cy)
  have hm : Nat.min 0 lx = 0 := Nat.zero_min lx
  cases ax with
  | none => simp [Builtin.copy_, run_underlying ht, sizeOf, typeInfo, hi, Builtin.lenOf, hm, hf, goInt]
  | some ad => simp [Builtin.copy_, run_underlying ht, sizeOf, typeInfo, hi, Builtin.lenOf, hm, hf, goInt, storeCells]
 cases h1 with
 | sl0 _ _ hσ =>
  cases h2 with
  | sl0 _ _ hσ2 => exact ⟨_, _, σ, S, hexec _ _ (key _ _ _ _ _), hr, .int _ _ _⟩
  | sl _ _ _ _ b s C cap hσ2 hlen hcap => exact ⟨_, _, σ, S, hexec _ _ (key _ _ _ _ _), hr, .int _ _ _⟩
 | sl _ _ _ _ b s C cap hσ hlen hcap =>
  cases h2 with
  | sl0 _ _ hσ2 => exact ⟨_, _, σ, S, hexec _ _ (key _ _ _ _ _), hr, .int _ _ _⟩
  | sl _ _ _ _ b s C cap hσ2 hlen hcap => exact ⟨_, _, σ, S, hexec _ _ (key _ _ _ _ _), hr, .int _ _ _⟩
end
end Go.Ax
namespace Go.Proofs.YtkncmbklkhjmgaaGreatDoor
open Go.Ax Go.Ax.Bg Go.Ax.Rt Go.RowKit Go.Ax.Dt Go.Ax.Sx
attribute [local irreducible] Ax zBI QOp zP zAl
theorem zEu {α : Type} (d : α) (n : Nat) (e : α → List AV) (a b : List α) : CEq (.fn (a.length + b.length) n (fun i j => bif Nat.blt i a.length then (rowE d n e a).at i j else (rowE d n e b).at (0 + (i - a.length)) j)) (rowE d n e (a ++ b)) := by
 refine ⟨by simp [rowE, Cells.len], Z, fun i j hi hj => ?_⟩
 show (e ((a ++ b).getD i d)).getD j .any = bif Nat.blt i a.length then (e (a.getD i d)).getD j .any else (e (b.getD (0 + (i - a.length)) d)).getD j .any
 by_cases h : i < a.length
 ·rw [show Nat.blt i a.length = true from Nat.ble_eq_true_of_le h, zJv d h]; rfl
 ·have h2 : Nat.blt i a.length = false := by
   cases e : Nat.blt i a.length with
   | false => rfl
   | true => have : i + 1 ≤ a.length := Nat.le_of_ble_eq_true e
             omega
  rw [h2, Nat.zero_add]
  have : (a ++ b).getD i d = b.getD (i - a.length) d := by
   simp only [List.getD]
   rw [List.getElem?_append_right (by omega)]
  rw [this]; rfl
theorem cloneQ (l : List Rat) (hl : l.length ≤ 1000000) : FCall Tryz.prog 241 [.ro (qsC l) 0 l.length] (fun N => .sl N 0 l.length) ⟨104, qsC l⟩ := by
 refine zP.fresh (K := fun r H => r = .sl 0 0 l.length ∧ H = [some ⟨104, qsC l⟩]) (zE (P := Tryz.prog) (fn := Tryz.f241) Z Z (by kernel_rfl) Z (fun c hR hfix => ?_)) (fix := fun _ => False) (fun _ h => h) Z (fun H => ⟨Z, by simp [zJD, inB]⟩) ?_
 ·refine rn0 ?_
  refine zMy Z Z Z (fun b hb => ?_)
  refine rn0 ?_
  refine zEd Z (fun h => ?_) (fun h => ?_)
  ·have := hb h
   have hn : l = [] := List.length_eq_zero_iff.mp this
   subst hn
   refine rn7 ?_
   refine zAo 2 ⟨104, qsC []⟩ Z Z ?_
   refine rn2 ?_
   exact zL hR Z ⟨Z, Z⟩
  ·refine rn1 ?_
   refine zCi Z Z Z Z Z Z Z Z Z Z ?_
   refine zv [some ⟨104, qsC []⟩] (zQ.eqv ⟨Z, Z, fun i j hi => absurd hi (Nat.not_lt_zero _)⟩ zQ.nil) ?_
   repeat (refine zG (zJ rfl) ?_)
   refine zr Z Z Z Z Z Z Z Z Z Z Z Z (by show 0 + l.length ≤ l.length; omega) Z (by show (0 + l.length) * 56 ≤ _ ∧ _; omega) ?_ (by rw [hfix]; exact fun h => h) ?_
   ·intro i' j' hi' hj'
    have q := (zEu 0 3 zT [] l).2.2 i' j' hi' hj'
    refine (congrArg (AV.forget 0) q.symm).trans (Eq.trans ?_ q)
    exact zAe _ j' 0 hj'
   refine zv [some ⟨104, qsC l⟩] (zQ.eqv (zEu 0 3 zT [] l) zQ.nil) ?_
   refine rn0 ?_
   refine zL hR Z ⟨?_, Z⟩
   show AV.sl 0 0 (0 + l.length) = _; rw [Nat.zero_add]
 ·rintro r H ⟨rfl, rfl⟩
  refine ⟨?_, fun h o ho => zKf (zAw _) h o ho, 0, Z, fun n => rfl⟩
  intro o ho; simp at ho; subst ho; show 0 + l.length ≤ l.length; omega
theorem zHZ (N : Nat) (a : List Int) : (zC a).shift N = zC a := by
 show Cells.fn _ _ _ = Cells.fn _ _ _
 congr 1
 funext i j
 match j with
 | 0 => rfl
 | 1 => rfl
 | _ + 2 => rfl
theorem zMp (l : List Rat) (K : Nat) (hD : ∀ q ∈ l, D K q) (hlen : l.length ≤ 1000) (hK : K * l.length + K ≤ 900000) :
 MCall Tryz.prog 196 [.ro (qsC l) 0 l.length] (.tup [.sl 0 0 l.length, zh (zCs 1 l)]) [some ⟨102, zC (zAj l)⟩] := by
 have c1 := zRb l K hD hlen hK
 refine zP.many (zE (P := Tryz.prog) (fn := Tryz.f196) Z Z (by kernel_rfl) Z (fun c hR hfix => ?_)) (fix := fun _ => False) (fun _ h => h) Z
 refine rn0 ?_
 refine zII (.tup [.sl 0 0 l.length, zh (zCs 1 l)]) [some ⟨102, zC (zAj l)⟩] Z Z Z c1 Z (by show [] ++ [some (⟨_, (zC (zAj l)).shift 0⟩ : AObj)] = _; rw [zHZ]; rfl) ?_
 refine rn2 ?_
 exact zL hR Z ⟨Z, Z⟩
/-- where an unknown stands among those that need an artificial one -/
theorem zKQ (B : List Rat) (i : Nat) (hi : (B.getD i 0).num < 0) : ∀ d, ∃ r, zAU B (i + 1 + d) = zAU B i ++ i :: r
 | 0 => ⟨[], by show zAU B (i + 1) = _; rw [zAU, if_pos hi]⟩
 | d + 1 => by
  obtain ⟨r, hr⟩ := zKQ B i hi d
  show ∃ r, zAU B (i + 1 + d + 1) = _
  rw [zAU]
  split
  ·exact ⟨r ++ [i + 1 + d], by rw [hr]; simp⟩
  ·exact ⟨r, hr⟩
theorem need_idx (B : List Rat) {i m : Nat} (hi : i < m) : Go.Ax.Idx.idxF (Go.Ax.Cd.eqp (i : Int)) ((zAU B m).map (fun a : Nat => (a : Int))) = if (B.getD i 0).num < 0 then ((zBc B i : Nat) : Int) else -1 := by
 have hany : ∀ l : List Nat, i ∉ l → (l.map (fun a : Nat => (a : Int))).any (Go.Ax.Cd.eqp (i : Int)) = false := by
  intro l hl
  rw [List.any_eq_false]
  intro x hx
  obtain ⟨a, ha, rfl⟩ := List.mem_map.1 hx
  simp only [Go.Ax.Cd.eqp, decide_eq_true_eq]
  intro e
  have : i = a := by omega
  exact hl (this ▸ ha)
 by_cases h : (B.getD i 0).num < 0
 ·rw [if_pos h]
  obtain ⟨r, hr⟩ := zKQ B i h (m - (i + 1))
  rw [show i + 1 + (m - (i + 1)) = m by omega] at hr
  have hni : i ∉ zAU B i := fun q => absurd (zIg.1 q).1 (Nat.lt_irrefl i)
  have hl : (zAU B i).length ≤ ((zAU B m).map (fun a : Nat => (a : Int))).length := by rw [hr]; simp
  have ht : ((zAU B m).map (fun a : Nat => (a : Int))).take (zAU B i).length = (zAU B i).map (fun a : Nat => (a : Int)) := by rw [hr, List.map_append, List.take_left' (by simp)]
  have hd : ((zAU B m).map (fun a : Nat => (a : Int))).drop (zAU B i).length = (i : Int) :: r.map (fun a : Nat => (a : Int)) := by rw [hr, List.map_append, List.drop_left' (by simp)]; rfl
  rw [Go.Ax.Idx.idxF_take _ _ (zAU B i).length (by rw [ht]; exact hany _ hni) hl, hd]
  have e0 : Go.Ax.Idx.idxF (Go.Ax.Cd.eqp (i : Int)) ((i : Int) :: r.map (fun a : Nat => (a : Int))) = 0 := by
   rw [Go.Ax.Idx.idxF, if_pos (by simp [Go.Ax.Cd.eqp])]
  rw [e0, if_neg (by omega)]
  show (0 : Int) + ((zAU B i).length : Nat) = _
  rw [Int.zero_add]
 ·rw [if_neg h]
  have hni : i ∉ zAU B m := fun q => h (zIg.1 q).2
  rw [Go.Ax.Idx.idxF_take _ _ ((zAU B m).map (fun a : Nat => (a : Int))).length (by rw [List.take_length]; exact hany _ hni) (Nat.le_refl _), List.drop_length]
  rfl
section
variable {G : zN} {F : Option AObj} {L w k : Nat} {X : Tab} {d : Int} {β : List Nat} {T T' : zN}
abbrev zJ4 (G : zN) (F : Option AObj) (L w : Nat) (X : Tab) (d : Int) (β : List Nat) (T : zN) : zN :=
 G ++ (some ⟨270, .box [.any, .bool (decide (d < 0)), zh d.natAbs, .sl (G.length + 2) 0 β.length, iN w]⟩ :: F :: some ⟨3, zBy β⟩ :: zAm ⟨265, zBh G.length X.length L⟩ 102 zC X T)
theorem anyF_box : (zJ4 G F L w X d β T)[G.length]? = some (some ⟨270, .box [.any, .bool (decide (d < 0)), zh d.natAbs, .sl (G.length + 2) 0 β.length, iN w]⟩) := zD8 (i := 0) rfl
theorem anyF_set : (zJ4 G F L w X d β T).set G.length (some ⟨270, zDu G.length k β.length w d⟩) = zZ G F L w k X d β T := zCA (i := 0) _ rfl
/-- the basis while it is moved -/
abbrev zKt (G : zN) (F : Option AObj) (L w k : Nat) (X : Tab) (d : Int) (β : List Nat) (T : zN) : zN :=
 G ++ (some ⟨270, .box [.sl (G.length + 3) 0 k, .bool (decide (d < 0)), zh d.natAbs, .any, iN w]⟩ :: F :: some ⟨3, zBy β⟩ :: zAm ⟨265, zBh G.length X.length L⟩ 102 zC X T)
theorem bas_box : (zKt G F L w k X d β T)[G.length]? = some (some ⟨270, .box [.sl (G.length + 3) 0 k, .bool (decide (d < 0)), zh d.natAbs, .any, iN w]⟩) := zD8 (i := 0) rfl
theorem bas_set : (zKt G F L w k X d β T).set G.length (some ⟨270, zDu G.length k β.length w d⟩) = zZ G F L w k X d β T := zCA (i := 0) _ rfl
theorem zPj (h : Nat) (B : Cells) (hG : zl h G = G) (hF : zAp h F = F) {O : Cells} (hO : CEq (O.forget h) O) (hT : zQ (zl h T) T') :
 zQ (zl h (G ++ (some ⟨270, B⟩ :: F :: some ⟨3, zBy β⟩ :: zAm ⟨265, O⟩ 102 zC X T))) (G ++ (some ⟨270, B.forget h⟩ :: F :: some ⟨3, zBy β⟩ :: zAm ⟨265, O⟩ 102 zC X T')) := by
 rw [zDS, hG]
 refine zQ.append (zQ.refl _) ?_
 have e : zl h (some (⟨270, B⟩ : AObj) :: F :: some ⟨3, zBy β⟩ :: zAm ⟨265, O⟩ 102 zC X T)
  = some ⟨270, B.forget h⟩ :: F :: some ⟨3, zBy β⟩ :: zAm ⟨265, O.forget h⟩ 102 zC X (zl h T) := by
  show some (⟨_, B.forget h⟩ : AObj) :: zAp h F :: some (⟨_, zBy β⟩ : AObj) :: zl h (zAm _ _ _ X _) = _
  rw [zEI h (zBN h), hF]
 rw [e]
 exact zQ.same (zQ.same (zQ.same (zGv ⟨Z, hO⟩ hT)))
theorem zMb (b n L h : Nat) (hh : b + 4 + n ≤ h ∨ h < b + 4) : CEq ((zBh b n L).forget h) (zBh b n L) := by
 refine ⟨Z, Z, fun i j hi hj => ?_⟩
 obtain rfl := Nat.lt_one_iff.1 (show j < 1 from hj)
 have hi : i < n := hi
 show AV.sl (b + 4 + i) 0 L = AV.forget h (AV.sl (b + 4 + i) 0 L)
 unfold AV.forget
 rw [zq (show b + 4 + i ≠ h by omega)]; rfl
theorem zQG (b k m w h : Nat) (d : Int) (h1 : b + 3 ≠ h) (h2 : b + 2 ≠ h) : (zDu b k m w d).forget h = zDu b k m w d := by
 show Cells.box (AV.forgets h _) = _
 simp [AV.forgets, AV.forget, zh, zq h1, zq h2]
theorem tabB_fgR (b k m w : Nat) (d : Int) : (zDu b k m w d).forget (b + 3) = .box [.any, .bool (decide (d < 0)), zh d.natAbs, .sl (b + 2) 0 m, iN w] := by
 show Cells.box (AV.forgets _ _) = _
 simp [AV.forgets, AV.forget, zh, zq (show b + 2 ≠ b + 3 by omega)]
theorem tabB_fgB (b k m w : Nat) (d : Int) : (zDu b k m w d).forget (b + 2) = .box [.sl (b + 3) 0 k, .bool (decide (d < 0)), zh d.natAbs, .any, iN w] := by
 show Cells.box (AV.forgets _ _) = _
 simp [AV.forgets, AV.forget, zh, zq (show b + 3 ≠ b + 2 by omega)]
/-- forgetting what lies behind the tableau, or where the factors lie -/
theorem zKy (h : Nat) (hh : G.length + 4 + X.length ≤ h ∨ h = G.length + 1) (hG : zl h G = G) (hF : zAp h F = F) (hT : zQ (zl h T) T') : zQ (zl h (zZ G F L w k X d β T)) (zZ G F L w k X d β T') := by
 have q := zPj (X := X) (β := β) h (zDu G.length k β.length w d) hG hF (zMb G.length X.length L h (by omega)) hT
 rw [zQG _ _ _ _ _ _ (by omega) (by omega)] at q
 exact q
/-- an object behind the tableau grows -/
theorem zKx {y : Option AObj} {t : TypeId} {c' c'' : Cells} (hG : zl (G.length + 4 + X.length) G = G) (hF : zAp (G.length + 4 + X.length) F = F) (hc : CEq c' c'') :
 zQ ((zl (G.length + 4 + X.length) (zZ G F L w k X d β [y])).set (G.length + 4 + X.length) (some ⟨t, c'⟩)) (zZ G F L w k X d β [some ⟨t, c''⟩]) := by
 have e : zZ G F L w k X d β [some ⟨t, c''⟩] = (zZ G F L w k X d β [none]).set (G.length + 4 + X.length) (some ⟨t, c''⟩) := by
  have q := zAI (G := G) (F := F) (L := L) (w := w) (k := k) (X := X) (d := d) (β := β) (T := [none]) 0 (some ⟨t, c''⟩)
  exact q.symm
 rw [e]
 exact zQ.set (zKy (T := [y]) (T' := [none]) _ (.inl (Nat.le_refl _)) hG hF (show zQ [zAp _ y] [none] from zQ.drop zQ.nil)) _ (fun o ho => by cases ho; exact ⟨_, rfl, rfl, hc⟩)
/-- the factors grow -/
theorem zKw {c' c'' : Cells} {t : TypeId} (hG : zl (G.length + 1) G = G) (hc : CEq c' c'') (hT : zQ (zl (G.length + 1) T) T') :
 zQ ((zl (G.length + 1) (zZ G F L w k X d β T)).set (G.length + 1) (some ⟨t, c'⟩)) (zZ G (some ⟨t, c''⟩) L w k X d β T') := by
 have e : zZ G (some ⟨t, c''⟩) L w k X d β T' = (zZ G none L w k X d β T').set (G.length + 1) (some ⟨t, c''⟩) := by
  refine Eq.symm ((zCA (i := 1) _ Z).trans ?_)
  rfl
 rw [e]
 have e2 : zl (G.length + 1) (zZ G F L w k X d β T) = G ++ (some ⟨270, zDu G.length k β.length w d⟩ :: zAp (G.length + 1) F :: some ⟨3, zBy β⟩ :: zAm ⟨265, (zBh G.length X.length L).forget (G.length + 1)⟩ 102 zC X (zl (G.length + 1) T)) := by
  unfold zZ
  rw [zDS, hG]
  show G ++ (some (⟨_, (zDu G.length k β.length w d).forget (G.length + 1)⟩ : AObj) :: zAp (G.length + 1) F :: some (⟨_, zBy β⟩ : AObj) :: zl (G.length + 1) (zAm _ _ _ X _)) = _
  rw [zEI (G.length + 1) (zBN (G.length + 1)), zQG _ _ _ _ _ _ (by omega) (by omega)]
 rw [e2]
 have q : zQ (G ++ (some ⟨270, zDu G.length k β.length w d⟩ :: zAp (G.length + 1) F :: some ⟨3, zBy β⟩ :: zAm ⟨265, (zBh G.length X.length L).forget (G.length + 1)⟩ 102 zC X (zl (G.length + 1) T))) (zZ G none L w k X d β T') :=
  zQ.append (zQ.refl _) (zQ.same (zQ.drop (zQ.same (zGv (O := ⟨265, (zBh G.length X.length L).forget (G.length + 1)⟩) (O' := ⟨265, zBh G.length X.length L⟩) ⟨rfl, zMb G.length X.length L (G.length + 1) (.inr (by omega))⟩ hT))))
 exact zQ.set q _ (fun o ho => by cases ho; exact ⟨_, rfl, rfl, hc⟩)
/-- the basis grows -/
theorem zKv {c' : Cells} {β' : List Nat} (hG : zl (G.length + 2) G = G) (hF : zAp (G.length + 2) F = F) (hc : CEq c' (zBy β')) (hT : zQ (zl (G.length + 2) T) T') :
 zQ ((zl (G.length + 2) (zZ G F L w k X d β T)).set (G.length + 2) (some ⟨3, c'⟩)) (zKt G F L w k X d β' T') := by
 have q := zPj (X := X) (β := β) (G.length + 2) (zDu G.length k β.length w d) hG hF (zMb G.length X.length L _ (by omega)) hT
 rw [tabB_fgB] at q
 have e : zKt G F L w k X d β' T' = (G ++ (some ⟨270, .box [.sl (G.length + 3) 0 k, .bool (decide (d < 0)), zh d.natAbs, .any, iN w]⟩ :: F :: some ⟨3, zBy β⟩ :: zAm ⟨265, zBh G.length X.length L⟩ 102 zC X T')).set (G.length + 2) (some ⟨3, zBy β'⟩) := by
  refine Eq.symm ((zCA (i := 2) _ Z).trans ?_)
  rfl
 rw [e]
 exact zQ.set q _ (fun o ho => by cases ho; exact ⟨_, rfl, rfl, hc⟩)
/-- a row more -/
theorem zPH {x : List Int} {a : Option AObj} {c' : Cells} (hG : zl (G.length + 3) G = G) (hF : zAp (G.length + 3) F = F) (hc : CEq c' (zBh G.length (X.length + 1) L)) :
 zQ ((zl (G.length + 3) (zZ G F L w k X d β [some ⟨102, zC x⟩, a])).set (G.length + 3) (some ⟨265, c'⟩)) (zJ4 G F L w (X ++ [x]) d β [none]) := by
 have e2 : zl (G.length + 3) (zZ G F L w k X d β [some ⟨102, zC x⟩, a]) = G ++ (some ⟨270, .box [.any, .bool (decide (d < 0)), zh d.natAbs, .sl (G.length + 2) 0 β.length, iN w]⟩ :: F :: some ⟨3, zBy β⟩ :: zAm ⟨265, (zBh G.length X.length L).forget (G.length + 3)⟩ 102 zC X [some ⟨102, zC x⟩, zAp (G.length + 3) a]) := by
  unfold zZ
  rw [zDS, hG]
  show G ++ (some (⟨_, (zDu G.length k β.length w d).forget (G.length + 3)⟩ : AObj) :: zAp (G.length + 3) F :: some (⟨_, zBy β⟩ : AObj) :: zl (G.length + 3) (zAm _ _ _ X _)) = _
  rw [zEI (G.length + 3) (zBN (G.length + 3)), tabB_fgR, hF]
  show _ = G ++ (_ :: _ :: _ :: zAm _ _ _ X [some (⟨102, zC x⟩ : AObj), _])
  rw [show zl (G.length + 3) [some (⟨102, zC x⟩ : AObj), a] = [some ⟨102, (zC x).forget (G.length + 3)⟩, zAp (G.length + 3) a] from rfl, zBN]
 rw [e2, show ∀ O' : Option AObj, (G ++ (some (⟨270, .box [.any, .bool (decide (d < 0)), zh d.natAbs, .sl (G.length + 2) 0 β.length, iN w]⟩ : AObj) :: F :: some ⟨3, zBy β⟩ :: zAm ⟨265, (zBh G.length X.length L).forget (G.length + 3)⟩ 102 zC X [some ⟨102, zC x⟩, zAp (G.length + 3) a])).set (G.length + 3) O' = _ from fun O' => zCA (i := 3) _ rfl]
 refine zQ.append (zQ.refl _) (zQ.same (zQ.same (zQ.same ?_)))
 show zQ (zAm ⟨265, c'⟩ 102 zC X _) _
 rw [zJF]
 refine zGv ⟨Z, ?_⟩ (zQ.drop zQ.nil)
 show CEq c' (zBh G.length (X ++ [x]).length L)
 rw [List.length_append]; exact hc
end
theorem nsC_fg (h : Nat) (l : List Nat) : (nsC l).forget h = nsC l := by
 show Cells.fn _ _ _ = Cells.fn _ _ _
 congr 1
 funext i j
 match j with
 | 0 => rfl
 | _ + 1 => rfl
theorem zO9 (l : List Nat) : zAb (nsC l) := by
 intro i j _ hj
 obtain rfl := Nat.lt_one_iff.1 (show j < 1 from hj)
 rfl
end Go.Proofs.YtkncmbklkhjmgaaGreatDoor
