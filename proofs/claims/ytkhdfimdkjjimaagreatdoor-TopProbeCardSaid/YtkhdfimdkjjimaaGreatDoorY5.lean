import Derived.Test.YtkhdfimdkjjimaaGreatDoorProg
import Derived.Shelf.RegionOpenPlain
import Derived.WalkKit
import Derived.Deep.LoopGhost
import Derived.Deep.Draws
import Derived.Lib.Walk
import Derived.Lib.Slices
import Derived.StillTailTactics
import Derived.Lib.LaidTab
import Derived.Lib.ItoaNum
import Derived.Stop.LaidErr
import Derived.Shelf.SlSortCmp.NoneTotal
import Derived.Ground.SlsfProg
import Derived.Shelf.Strconv.AppendIntPublic10
import Derived.Test.YtkhdfimdkjjimaaGreatDoorY4
set_option linter.unusedVariables false
set_option linter.unusedSimpArgs false
set_option maxRecDepth 100000
set_option maxHeartbeats 4000000
namespace Go.Ax
variable [Pins]
open Go.RowKit
abbrev zCH := List (Nat × Fr)
def zHj : zCH → Fr
 | [] => []
 | s :: r => s.2 ++ zHj r
theorem zGi {p : Nat × AV} : ∀ {st : zCH}, p ∈ zHj st ↔ ∃ s ∈ st, p ∈ s.2
 | [] => have _p := ‹Pins›; by simp [zHj]
 | s :: r => by
  have _p := ‹Pins›
  have := zGi (p := p) (st := r)
  simp [zHj, this]
def zHA (st : zCH) (K0 : Fr) (o : Oper) : Fr := zHj (st.filter (fun s => o.after.toList.any (fun e => Nat.beq e.on s.1 && Region.binds .any e))) ++ K0
/-- May operation i come up when j operations of the chain have run? -/
def zGh (all : Array Oper) (idx chain : List Nat) (i j : Nat) : Bool :=
 Nat.ble j chain.length && (List.range chain.length).all fun p =>
  (!zE3 all idx (idx.length + 1) i (chain.getD p 0) || Nat.blt p j) && ((!zE3 all idx (idx.length + 1) (chain.getD p 0) i || Nat.ble j p) && (!Nat.beq (chain.getD p 0) i || Nat.beq j p))
/-- Is the chain a chain? -/
def zK0 (all : Array Oper) (idx chain : List Nat) : Bool :=
 chain.all (fun i => idx.contains i) && (List.range chain.length).all fun p => (List.range p).all fun q => !Nat.beq (chain.getD q 0) (chain.getD p 0) && zE3 all idx (idx.length + 1) (chain.getD p 0) (chain.getD q 0)
def zKq (fs : Fr) (o : Oper) : Prop := (fs = [] ∧ o.dst = none) ∨ ∃ d v, fs = [(d, v)] ∧ o.dst = some d
def okRunM (all : Array Oper) (listed : Array Bool) (idx : List Nat) (k0 : List Nat) : Bool :=
 (idx.all fun i => !listed.getD i true && (match all[i]? with
  | some o => (match o.dst with | some d => !k0.contains d | none => true) && o.after.toList.all (fun e => !Region.binds .any e || (Nat.blt e.on i && (idx.contains e.on || listed.getD e.on false)))
  | none => false)) &&
 ((List.range all.size).all fun j => idx.contains j || listed.getD j true || idx.all (fun i => zE3 all idx (idx.length + 1) j i) || zLN all listed idx j) &&
 (idx.all fun i => idx.all fun j => Nat.beq i j || !(match all[i]?, all[j]? with | some o, some o' => (match o.dst, o'.dst with | some d, some d' => Nat.beq d d' | _, _ => false) | _, _ => false))
section
variable {P : Program} {fn : Func} {c : Ctx} {fr : Fr} {H : zP} {k : List It}
/-- One operation: what it asks of the slots, what it leaves. -/
def zKb (P : Program) (fn : Func) (c : Ctx) (H H' : zP) (all : Array Oper) (K : Fr) (o : Oper) (fs : Fr) : Prop :=
 ∀ (k : List It) (fr : Fr), zA3 fr K → Ax P fn c (.ops false all [] k) (fs ++ fr) H' → Ax P fn c (.ops false all [o] k) fr H
def zEY (chain : List Nat) (i j : Nat) : Nat := if chain.contains i then j + 1 else j
def zDR (P : Program) (fn : Func) (c : Ctx) (Hs : Nat → zP) (all : Array Oper) (K0 : Fr) (idx0 chain : List Nat) : List Nat → zCH → (zCH → Prop) → Prop
 | [], st, G => G st
 | i :: r, st, G => ∃ o fs, all[i]? = some o ∧ zKq fs o ∧ (∀ j, zGh all idx0 chain i j = true → zKb P fn c (Hs j) (Hs (zEY chain i j)) all (zHA st K0 o) o fs) ∧ zDR P fn c Hs all K0 idx0 chain r ((i, fs) :: st) G
def zF6 (P : Program) (fn : Func) (c : Ctx) (Hs : Nat → zP) (all : Array Oper) (K0 : Fr) (idx0 chain : List Nat) (st : zCH) (s : Nat × Fr) : Prop :=
 ∃ o K, all[s.1]? = some o ∧ zKq s.2 o ∧ (∀ j, zGh all idx0 chain s.1 j = true → zKb P fn c (Hs j) (Hs (zEY chain s.1 j)) all K o s.2) ∧ ∀ p ∈ K, p ∈ K0 ∨ ∃ s' ∈ st, (∃ e ∈ o.after, Region.binds .any e = true ∧ e.on = s'.1) ∧ p ∈ s'.2
theorem zF6.mono {Hs : Nat → zP} {all : Array Oper} {K0 : Fr} {idx0 chain : List Nat} {st st' : zCH} {s : Nat × Fr} (hs : ∀ x ∈ st, x ∈ st') (h : zF6 P fn c Hs all K0 idx0 chain st s) : zF6 P fn c Hs all K0 idx0 chain st' s := by
 obtain ⟨o, K, h1, h2, h3, h4⟩ := h
 refine ⟨o, K, h1, h2, h3, fun p hp => ?_⟩
 rcases h4 p hp with q | ⟨s', q1, q2⟩
 ·exact .inl q
 ·exact .inr ⟨s', hs _ q1, q2⟩
theorem zI5 {Hs : Nat → zP} {all : Array Oper} {K0 : Fr} {idx0 chain : List Nat} {G : zCH → Prop} : ∀ {idx : List Nat} {st : zCH}, zDR P fn c Hs all K0 idx0 chain idx st G → (∀ s ∈ st, zF6 P fn c Hs all K0 idx0 chain st s) → ∃ st', G st' ∧ st'.map (·.1) = idx.reverse ++ st.map (·.1) ∧ (∀ s ∈ st', zF6 P fn c Hs all K0 idx0 chain st' s)
 | [], st, h, hs => ⟨st, h, by simp, hs⟩
 | i :: r, st, h, hs => by
  obtain ⟨o, fs, h1, h2, h3, h4⟩ := h
  have hsub : ∀ x ∈ st, x ∈ (i, fs) :: st := fun x hx => List.mem_cons_of_mem _ hx
  have hstep : zF6 P fn c Hs all K0 idx0 chain ((i, fs) :: st) (i, fs) := by
   refine ⟨o, zHA st K0 o, h1, h2, h3, fun p hp => ?_⟩
   unfold zHA at hp
   rcases List.mem_append.1 hp with q | q
   ·obtain ⟨s, q1, q2⟩ := zGi.1 q
    obtain ⟨q3, q4⟩ := List.mem_filter.1 q1
    obtain ⟨e, q5, q6⟩ := List.any_eq_true.1 q4
    rw [Bool.and_eq_true] at q6
    exact .inr ⟨s, hsub _ q3, ⟨e, Array.mem_toList_iff.1 q5, q6.2, Nat.eq_of_beq_eq_true q6.1⟩, q2⟩
   ·exact .inl q
  obtain ⟨st', g1, g2, g3⟩ := zI5 h4 (fun s hs' => by
   rcases List.mem_cons.1 hs' with rfl | q
   ·exact hstep
   ·exact (hs s q).mono hsub)
  exact ⟨st', g1, by rw [g2]; simp, g3⟩
def unlM (cur : Array Bool) (st : zCH) : Nat := (st.filter (fun s => !cur.getD s.1 true)).length
theorem zI2 {fs : Fr} {t : Nat} (h : ∀ p ∈ fs, p.1 ≠ t) : zAa t (fs ++ fr) = zAa t fr := by
 have _p := ‹Pins›
 induction fs with
 | nil => rfl
 | cons p r ih =>
  obtain ⟨u, v⟩ := p
  show (bif Nat.beq t u then some v else zAa t (r ++ fr)) = _
  rw [zBX (fun e => h (u, v) (by simp) e.symm)]
  exact ih (fun q hq => h q (by simp [hq]))
theorem zFd {all : Array Oper} {fuel : Nat} {listed listed' : Array Bool} (idx chain : List Nat) (Hs : Nat → zP) (K0 : Fr) (hK : zA3 fr K0) (hok : okRunM all listed idx (K0.map (·.1)) = true) (hch : zK0 all idx chain = true) (hH : Hs 0 = H) (hnd : idx.Nodup) (hd : zCv fn.ntmps all.toList = true) (hl : zFQ listed idx = listed')
 (h : zDR P fn c Hs all K0 idx chain idx [] (fun st => Ax P fn c (.any all fuel listed' k) (zHj st ++ K0) (Hs chain.length))) : Ax P fn c (.any all (fuel + idx.length) listed k) fr H := by
 obtain ⟨st, hG, hidx, hst⟩ := zI5 h (fun s hs => by simp at hs)
 rw [List.map_nil, List.append_nil] at hidx
 clear h
 unfold okRunM at hok
 simp only [Bool.and_eq_true] at hok
 obtain ⟨⟨ok1, ok2⟩, ok3⟩ := hok
 rw [List.all_eq_true] at ok1 ok2 ok3
 have hmem : ∀ i, i ∈ idx ↔ ∃ s ∈ st, s.1 = i := fun i => by
  have : i ∈ idx.reverse ↔ ∃ s ∈ st, s.1 = i := by rw [← hidx]; simp
  rw [← this, List.mem_reverse]
 have hlen : st.length = idx.length := by
  have := congrArg List.length hidx
  simpa using this
 have hnd' : (st.map (·.1)).Nodup := by rw [hidx]; exact (List.reverse_perm idx).nodup_iff.2 hnd
 have hlt : ∀ i ∈ idx, i < listed.size := fun i hi => by
  have := ok1 i hi
  simp only [Bool.and_eq_true, Bool.not_eq_true'] at this
  rcases Nat.lt_or_ge i listed.size with q | q
  ·exact q
  ·have h1 := this.1
   simp only [Array.getD, show ¬ i < listed.size by omega, dite_false] at h1
   cases h1
 have chin : ∀ i ∈ chain, i ∈ idx := by
  unfold zK0 at hch
  rw [Bool.and_eq_true, List.all_eq_true] at hch
  intro i hi
  simpa using hch.1 i hi
 have chpair : ∀ p q, p < chain.length → q < p → chain.getD q 0 ≠ chain.getD p 0 ∧ zE3 all idx (idx.length + 1) (chain.getD p 0) (chain.getD q 0) = true := by
  unfold zK0 at hch
  rw [Bool.and_eq_true, List.all_eq_true, List.all_eq_true] at hch
  intro p q hp hq
  have h1 := List.all_eq_true.1 (hch.2 p (List.mem_range.2 hp)) q (List.mem_range.2 hq)
  rw [Bool.and_eq_true, Bool.not_eq_true'] at h1
  exact ⟨fun e => by (rw [e, Nat.beq_refl] at h1; exact absurd h1.1 (by decide)), h1.2⟩
 -- the induction
 have key : ∀ (m : Nat) (j0 : Nat) (cur : Array Bool) (fr : Fr), j0 ≤ chain.length → (∀ p, p < chain.length → (cur.getD (chain.getD p 0) true = true ↔ p < j0)) → cur.size = listed.size → (∀ j, j ∉ idx → cur[j]? = listed[j]?) → unlM cur st = m → (∀ s ∈ st, cur.getD s.1 true = true → ∀ f ∈ s.2, zAa f.1 fr = some f.2) → zA3 fr K0 → (∀ m' ∈ idx, cur.getD m' true = true → ∀ o, all[m']? = some o → ∀ e ∈ o.after, Region.binds .any e = true → cur.getD e.on false = true) → Ax P fn c (.any all (fuel + m) cur k) fr (Hs j0) := by
  intro m
  induction m with
  | zero =>
   intro j0 cur fr hj1 hj2 hcs hco hcm hck hk0 hcl
   have hall : ∀ s ∈ st, cur.getD s.1 true = true := fun s hs => by
    cases hq : cur.getD s.1 true with
    | true => rfl
    | false =>
     exfalso
     have h0 : st.filter (fun s => !cur.getD s.1 true) = [] := List.length_eq_zero_iff.1 hcm
     have : s ∈ st.filter (fun s => !cur.getD s.1 true) := List.mem_filter.2 ⟨hs, by rw [hq]; rfl⟩
     rw [h0] at this; simp at this
   have hcur : cur = listed' := by
    rw [← hl]
    apply Array.ext_getElem?
    intro j
    rcases Nat.lt_or_ge j listed.size with q | q
    ·rw [zFR idx listed j q]
     by_cases hj : j ∈ idx
     ·rw [if_pos hj]
      obtain ⟨s, hs1, hs2⟩ := (hmem j).1 hj
      have := hall s hs1
      rw [hs2] at this
      simp only [Array.getD, show j < cur.size by omega, dite_true] at this
      rw [Array.getElem?_eq_getElem (by omega)]
      exact congrArg some this
     ·rw [if_neg hj]; exact hco j hj
    ·rw [Array.getElem?_eq_none (by omega), Array.getElem?_eq_none (by rw [zEe]; omega)]
   subst hcur
   have hjm : j0 = chain.length := by
    apply Classical.byContradiction
    intro hne
    have hlt0 : j0 < chain.length := by omega
    have hm0 := chin _ (zAR 0 hlt0)
    obtain ⟨s, hs1, hs2⟩ := (hmem _).1 hm0
    have h1 := hall s hs1
    rw [hs2] at h1
    have := (hj2 j0 hlt0).1 h1
    omega
   rw [hjm]
   intro w a σ S hr
   refine hG w a σ S (hr.weaken (zCl fun p hp => ?_))
   rcases List.mem_append.1 hp with q | q
   ·obtain ⟨s, q1, q2⟩ := zGi.1 q
    exact hck s q1 (hall s q1) p q2
   ·exact zCm hk0 p q
  | succ m ih =>
   intro j0 cur fr hj1 hj2 hcs hco hcm hck hk0 hcl
   -- some step is left
   obtain ⟨s0, hs0, hs0u⟩ : ∃ s ∈ st, cur.getD s.1 true = false := by
    rcases hq : st.filter (fun s => !cur.getD s.1 true) with _ | ⟨s, r⟩
    ·unfold unlM at hcm; rw [hq] at hcm; simp at hcm
    ·have : s ∈ st.filter (fun s => !cur.getD s.1 true) := by rw [hq]; simp
     obtain ⟨h1, h2⟩ := List.mem_filter.1 this
     exact ⟨s, h1, by simpa using h2⟩
   have hsub : ∀ i ∈ Region.ready .any all cur, i ∈ idx ∧ cur.getD i true = false := by
    intro i hi
    obtain ⟨h1, o, ho, hdeps⟩ := mem_ready.1 hi
    refine ⟨?_, h1⟩
    apply Classical.byContradiction
    intro hni
    have hjs : i < all.size := (Array.getElem?_eq_some_iff.1 ho).1
    have := ok2 i (List.mem_range.2 hjs)
    simp only [Bool.or_eq_true, ho] at this
    rcases this with ((q | q) | q) | q
    ·exact hni (by simpa using q)
    ·have hco' := hco i hni
     have h2 : listed.getD i true = cur.getD i true := by
      simp only [Array.getD_eq_getD_getElem?, hco']
     rw [h2, h1] at q; cases q
    ·rw [List.all_eq_true] at q
     have h3 := zEI hcl _ i s0.1 (q s0.1 ((hmem s0.1).2 ⟨s0, hs0, rfl⟩)) (fun o' ho' e he hb => by
      rw [ho] at ho'
      obtain rfl := Option.some.inj ho'
      exact hdeps e he hb)
     rw [h3] at hs0u; cases hs0u
    ·unfold zLN at q
     rw [ho] at q
     obtain ⟨e, he1, he2⟩ := List.any_eq_true.1 q
     simp only [Bool.and_eq_true, Bool.not_eq_true'] at he2
     obtain ⟨hb, hne, hnl⟩ := he2
     have hni' : e.on ∉ idx := fun q => by
      have : idx.contains e.on = true := by simpa using q
      rw [this] at hne; cases hne
     have hd1 := hdeps e (Array.mem_toList_iff.1 he1) hb
     have hco' := hco e.on hni'
     rw [Array.getD_eq_getD_getElem?] at hd1 hnl
     rw [hco'] at hd1
     cases hx : listed[e.on]? with
     | none => rw [hx] at hd1; cases hd1
     | some b =>
      rw [hx] at hd1 hnl
      have e1 : b = true := hd1
      have e2 : b = false := hnl
      rw [e1] at e2; cases e2
   have hne : Region.ready .any all cur ≠ [] := by
    intro h0
    -- the least one that is left
    have hex : ∃ i, i ∈ idx ∧ cur.getD i true = false := ⟨s0.1, (hmem s0.1).2 ⟨s0, hs0, rfl⟩, hs0u⟩
    have least : ∀ n i, i ≤ n → i ∈ idx → cur.getD i true = false → False := by
     intro n
     induction n with
     | zero =>
      intro i hi him hiu
      have h1 := ok1 i him
      simp only [Bool.and_eq_true] at h1
      cases hoo : all[i]? with
      | none => rw [hoo] at h1; exact absurd h1.2 (by simp)
      | some o =>
       rw [hoo] at h1
       simp only [Bool.and_eq_true] at h1
       have h2 := List.all_eq_true.1 h1.2.2
       have : i ∈ Region.ready .any all cur := mem_ready.2 ⟨hiu, o, hoo, fun e he hb => by
        have := h2 e (Array.mem_toList_iff.2 he)
        rw [hb] at this
        simp only [Bool.not_true, Bool.false_or, Bool.and_eq_true] at this
        have := Nat.le_of_ble_eq_true this.1
        omega⟩
       rw [h0] at this; simp at this
     | succ n ihn =>
      intro i hi him hiu
      have h1 := ok1 i him
      simp only [Bool.and_eq_true] at h1
      cases hoo : all[i]? with
      | none => rw [hoo] at h1; exact absurd h1.2 (by simp)
      | some o =>
       rw [hoo] at h1
       simp only [Bool.and_eq_true] at h1
       have h2 := List.all_eq_true.1 h1.2.2
       have : i ∈ Region.ready .any all cur := mem_ready.2 ⟨hiu, o, hoo, fun e he hb => by
        have h3 := h2 e (Array.mem_toList_iff.2 he)
        rw [hb] at h3
        simp only [Bool.not_true, Bool.false_or, Bool.and_eq_true, Bool.or_eq_true] at h3
        have hlt' : e.on < i := Nat.le_of_ble_eq_true h3.1
        by_cases hei : e.on ∈ idx
        ·cases hq : cur.getD e.on true with
         | false => exact (ihn e.on (by omega) hei hq).elim
         | true =>
          have hsz := hlt e.on hei
          simp only [Array.getD, show e.on < cur.size by omega, dite_true] at hq ⊢
          exact hq
        ·rcases h3.2 with q | q
         ·exact absurd (by simpa using q) hei
         ·have h2 : cur.getD e.on false = listed.getD e.on false := by simp only [Array.getD_eq_getD_getElem?, hco e.on hei]
          rw [h2]; exact q⟩
       rw [h0] at this; simp at this
    obtain ⟨i, hi1, hi2⟩ := hex
    exact least i i (Nat.le_refl _) hi1 hi2
   refine zH U hne hd (zIQ (fun i hi o ho => ?_))
   obtain ⟨him, hiu⟩ := hsub i hi
   obtain ⟨s, hs1, hs2⟩ := (hmem i).1 him
   obtain ⟨o', K, g1, g2, g3, g4⟩ := hst s hs1
   rw [hs2, ho] at g1
   obtain rfl := Option.some.inj g1
   obtain ⟨_, o2, ho2, hdeps⟩ := mem_ready.1 hi
   rw [ho] at ho2
   obtain rfl := Option.some.inj ho2
   have hdn : ∀ i', zE3 all idx (idx.length + 1) i i' = true → cur.getD i' true = true := fun i' h => zEI hcl _ i i' h (fun o' ho' e he hb => by
    rw [ho] at ho'
    obtain rfl := Option.some.inj ho'
    exact hdeps e he hb)
   have hup : ∀ p, p < chain.length → zE3 all idx (idx.length + 1) (chain.getD p 0) i = true → j0 ≤ p := fun p hp hn => by
    rcases Nat.lt_or_ge p j0 with q | q
    ·have h1 := (hj2 p hp).2 q
     have h2 := zEI hcl _ _ i hn (hcl _ (chin _ (zAR 0 hp)) h1)
     rw [hiu] at h2; cases h2
    ·exact q
   have hself : ∀ p, p < chain.length → chain.getD p 0 = i → j0 = p := fun p hp he => by
    have h1 : ¬ p < j0 := fun q => by
     have h2 := (hj2 p hp).2 q
     rw [he, hiu] at h2; cases h2
    have h3 : p ≤ j0 := by
     rcases Nat.eq_zero_or_pos p with q | q
     ·omega
     ·have h4 := (chpair p (p - 1) hp (by omega)).2
      rw [he] at h4
      have := (hj2 (p - 1) (by omega)).1 (hdn _ h4)
      omega
    omega
   have hmay : zGh all idx chain i j0 = true := by
    unfold zGh
    rw [Bool.and_eq_true, List.all_eq_true]
    refine ⟨Nat.ble_eq_true_of_le hj1, fun p hp => ?_⟩
    have hp := List.mem_range.1 hp
    simp only [Bool.and_eq_true, Bool.or_eq_true, Bool.not_eq_true']
    refine ⟨?_, ?_, ?_⟩
    ·cases hq : zE3 all idx (idx.length + 1) i (chain.getD p 0) with
     | false => exact .inl rfl
     | true => exact .inr (Nat.ble_eq_true_of_le ((hj2 p hp).1 (hdn _ hq)))
    ·cases hq : zE3 all idx (idx.length + 1) (chain.getD p 0) i with
     | false => exact .inl rfl
     | true => exact .inr (Nat.ble_eq_true_of_le (hup p hp hq))
    ·cases hq : Nat.beq (chain.getD p 0) i with
     | false => exact .inl rfl
     | true => exact .inr (by rw [hself p hp (Nat.eq_of_beq_eq_true hq)]; exact Nat.beq_refl _)
   rw [← hs2] at hmay
   refine g3 j0 hmay _ fr (zCl fun p hp => ?_) (zC (zX ?_))
   ·rcases g4 p hp with q | ⟨s', q1, ⟨e, q2, q3, q4⟩, q5⟩
    ·exact zCm hk0 p q
    ·have h1 := hdeps e q2 q3
     rw [q4] at h1
     refine hck s' q1 ?_ p q5
     have hsz := hlt s'.1 ((hmem s'.1).2 ⟨s', q1, rfl⟩)
     simp only [Array.getD, show s'.1 < cur.size by omega, dite_true] at h1 ⊢
     exact h1
   ·have hisz := hlt i him
    have hnx : zEY chain s.1 j0 ≤ chain.length ∧ ∀ p, p < chain.length → ((cur.setIfInBounds i true).getD (chain.getD p 0) true = true ↔ p < zEY chain s.1 j0) := by
     rw [hs2]
     by_cases hc : i ∈ chain
     ·obtain ⟨p0, hp0, he0⟩ := List.mem_iff_getElem.1 hc
      have he0' : chain.getD p0 0 = i := by rw [zCq 0 hp0]; exact he0
      have hj0 := hself p0 hp0 he0'
      have hn : zEY chain i j0 = j0 + 1 := by unfold zEY; rw [if_pos (by simpa using hc)]
      rw [hn]
      refine ⟨by omega, fun p hp => ?_⟩
      by_cases hpe : p = p0
      ·subst hpe
       rw [he0']
       exact ⟨fun _ => by omega, fun _ => by simp [Array.getD, show i < cur.size by omega]⟩
      ·have hne' : chain.getD p 0 ≠ i := by
        rw [← he0']
        rcases Nat.lt_or_ge p p0 with q | q
        ·exact (chpair p0 p hp0 q).1
        ·exact fun e => (chpair p p0 hp (by omega)).1 e.symm
       have hne'' : ¬ i = chain.getD p 0 := fun e => hne' e.symm
       have h1 : (cur.setIfInBounds i true).getD (chain.getD p 0) true = cur.getD (chain.getD p 0) true := by
        simp only [Array.getD_eq_getD_getElem?, Array.getElem?_setIfInBounds, hne'', if_false]
       rw [h1, hj2 p hp]
       omega
     ·have hn : zEY chain i j0 = j0 := by unfold zEY; rw [if_neg (by simpa using hc)]
      rw [hn]
      refine ⟨hj1, fun p hp => ?_⟩
      have hne'' : ¬ i = chain.getD p 0 := fun e => hc (e ▸ zAR 0 hp)
      have h1 : (cur.setIfInBounds i true).getD (chain.getD p 0) true = cur.getD (chain.getD p 0) true := by
       simp only [Array.getD_eq_getD_getElem?, Array.getElem?_setIfInBounds, hne'', if_false]
      rw [h1]
      exact hj2 p hp
    refine ih _ (cur.setIfInBounds i true) _ hnx.1 hnx.2 (by simpa using hcs) (fun j hj => ?_) ?_ (fun s' hs' hu => ?_) ?_ (zJ4 him hcl (fun o' ho' e he hb => by rw [ho] at ho'; obtain rfl := Option.some.inj ho'; exact hdeps e he hb))
    ·rw [Array.getElem?_setIfInBounds_ne (show i ≠ j from fun e => hj (e ▸ him))]; exact hco j hj
    ·-- one less
     have hf : st.filter (fun s' => !(cur.setIfInBounds i true).getD s'.1 true) = (st.filter (fun s' => !cur.getD s'.1 true)).filter (fun s' => decide (s'.1 ≠ i)) := by
      rw [List.filter_filter]
      congr 1
      funext s'
      by_cases hq : s'.1 = i
      ·rw [hq]; simp [Array.getD, show i < cur.size by omega]
      ·have hq' : ¬ i = s'.1 := fun e => hq e.symm
       simp [Array.getD_eq_getD_getElem?, Array.getElem?_setIfInBounds, hq, hq']
     unfold unlM at hcm ⊢
     rw [hf]
     have hmemf : s ∈ st.filter (fun s' => !cur.getD s'.1 true) := List.mem_filter.2 ⟨hs1, by rw [hs2, hiu]; rfl⟩
     have hndf : ((st.filter (fun s' => !cur.getD s'.1 true)).map (·.1)).Nodup := List.Nodup.sublist (List.Sublist.map _ List.filter_sublist) hnd'
     revert hcm hmemf hndf
     generalize st.filter (fun s' => !cur.getD s'.1 true) = L
     intro hcm hmemf hndf
     have gen : ∀ (L : zCH) (n : Nat), L.length = n + 1 → s ∈ L → (L.map (·.1)).Nodup → (L.filter (fun s' => decide (s'.1 ≠ i))).length = n := by
      intro L
      induction L with
      | nil => intro n h; simp at h
      | cons x r ihL =>
       intro n hn hm hnd
       simp only [List.map_cons, List.nodup_cons] at hnd
       rcases List.mem_cons.1 hm with rfl | hm
       ·have hno : ∀ y ∈ r, y.1 ≠ i := fun y hy e => hnd.1 (List.mem_map.2 ⟨y, hy, by rw [e, hs2]⟩)
        have : (r.filter (fun s' => decide (s'.1 ≠ i))) = r := List.filter_eq_self.2 (fun y hy => by simpa using hno y hy)
        rw [List.filter_cons_of_neg (by simp [hs2]), this]
        simpa using hn
       ·have hx : x.1 ≠ i := fun e => hnd.1 (List.mem_map.2 ⟨s, hm, by rw [hs2, e]⟩)
        have hr0 : 0 < r.length := List.length_pos_iff.2 (by rintro rfl; simp at hm)
        obtain ⟨n', rfl⟩ : ∃ n', n = n' + 1 := ⟨n - 1, by simp at hn; omega⟩
        rw [List.filter_cons_of_pos (by simpa using hx), List.length_cons, ihL n' (by simpa using hn) hm hnd.2]
     exact gen L m hcm hmemf hndf
    ·intro f hf
     by_cases hq : s'.1 = i
     ·have hss : s' = s := by
       have h1 : s ∈ st := hs1
       have hinj : ∀ (L : zCH), (L.map (·.1)).Nodup → ∀ x ∈ L, ∀ y ∈ L, x.1 = y.1 → x = y := by
        intro L
        induction L with
        | nil => intro _ x hx; simp at hx
        | cons z r ihL =>
         intro hnd x hx y hy hxy
         simp only [List.map_cons, List.nodup_cons] at hnd
         rcases List.mem_cons.1 hx with hx | hx <;> rcases List.mem_cons.1 hy with hy | hy
         ·rw [hx, hy]
         ·exact absurd (List.mem_map.2 ⟨y, hy, by rw [← hxy, hx]⟩) hnd.1
         ·exact absurd (List.mem_map.2 ⟨x, hx, by rw [hxy, hy]⟩) hnd.1
         ·exact ihL hnd.2 x hx y hy hxy
       exact hinj st hnd' s' hs' s hs1 (by rw [hq, hs2])
      rw [hss] at hf
      rcases g2 with ⟨e1, _⟩ | ⟨d, v, e1, _⟩
      ·rw [e1] at hf; simp at hf
      ·rw [e1] at hf ⊢
       obtain rfl := List.mem_singleton.1 hf
       exact zIT _ _ _
     ·have h1 : cur.getD s'.1 true = true := by
       have hq' : ¬ i = s'.1 := fun e => hq e.symm
       simpa [Array.getD_eq_getD_getElem?, Array.getElem?_setIfInBounds, hq'] using hu
      have h2 := hck s' hs' h1 f hf
      rw [zI2 (fun p hp e => ?_)]
      ·exact h2
      obtain ⟨o3, _, f1, f2, _, _⟩ := hst s' hs'
      have h3 := List.all_eq_true.1 (ok3 s'.1 ((hmem s'.1).2 ⟨s', hs', rfl⟩)) i him
      rw [f1, ho] at h3
      rcases g2 with ⟨e1, _⟩ | ⟨d, v, e1, e2⟩
      ·rw [e1] at hp; simp at hp
      rcases f2 with ⟨e3, _⟩ | ⟨d', v', e3, e4⟩
      ·rw [e3] at hf; simp at hf
      rw [e1] at hp
      obtain rfl := List.mem_singleton.1 hp
      rw [e3] at hf
      obtain rfl := List.mem_singleton.1 hf
      have e : d = d' := e
      simp only [e2, e4, Bool.or_eq_true, Bool.not_eq_true'] at h3
      rcases h3 with h3 | h3
      ·exact hq (Nat.eq_of_beq_eq_true h3)
      ·rw [e, Nat.beq_refl] at h3; cases h3
    ·refine zCl fun p hp => ?_
     have h1 := ok1 i him
     simp only [Bool.and_eq_true] at h1
     rw [ho] at h1
     rw [zI2 (fun x hx e => ?_)]
     ·exact zCm hk0 p hp
     rcases g2 with ⟨e1, _⟩ | ⟨d, v, e1, e2⟩
     ·rw [e1] at hx; simp at hx
     rw [e1] at hx
     obtain rfl := List.mem_singleton.1 hx
     have e : d = p.1 := e
     simp only [e2, Bool.and_eq_true, Bool.not_eq_true'] at h1
     have : (K0.map (·.1)).contains d = true := by
      rw [List.contains_iff_mem]
      exact List.mem_map.2 ⟨p, hp, e.symm⟩
     rw [h1.2.1] at this; cases this
 have hm0 : unlM listed st = idx.length := by
  unfold unlM
  rw [List.filter_eq_self.2 (fun s hs => ?_), hlen]
  have := ok1 s.1 ((hmem s.1).2 ⟨s, hs, rfl⟩)
  simp only [Bool.and_eq_true] at this
  exact this.1
 have hun : ∀ i ∈ idx, listed.getD i true = false := fun i hi => by
  have h1 := ok1 i hi
  simp only [Bool.and_eq_true, Bool.not_eq_true'] at h1
  exact h1.1
 have := key idx.length 0 listed fr (Nat.zero_le _) (fun p hp => by rw [hun _ (chin _ (zAR 0 hp))]; simp) rfl (fun _ _ => rfl) hm0 (fun s hs hu => by
  rw [hun _ ((hmem s.1).2 ⟨s, hs, rfl⟩)] at hu; cases hu) hK (fun m' hm' hu => by
  rw [hun _ hm'] at hu; cases hu)
 rw [hH] at this
 exact this
section
variable {Hs : Nat → zP} {all : Array Oper} {K0 : Fr} {idx0 chain : List Nat} {i : Nat} {r : List Nat} {st : zCH} {G : zCH → Prop}
theorem zKX {K : Fr} {o : Oper} {d : Nat} {v : AV} (h : zDf P fn c H all K o d v) : zKb P fn c H H all K o [(d, v)] := fun k fr hk h2 => h k fr hk h2
/-- An operation that only reads, whatever the memory. -/
theorem zNe {o : Oper} {d : Nat} {v : AV} {K : Fr} (hi : all[i]? = some o) (hd : o.dst = some d) (hK : zHA st K0 o = K) (hop : ∀ H, zDf P fn c H all K o d v) (h : zDR P fn c Hs all K0 idx0 chain r ((i, [(d, v)]) :: st) G) (hn : chain.contains i = false) : zDR P fn c Hs all K0 idx0 chain (i :: r) st G :=
 ⟨o, [(d, v)], hi, .inr ⟨d, v, rfl, hd⟩, fun j _ => by
  have e : zEY chain i j = j := by unfold zEY; rw [hn]; rfl
  rw [e, hK]
  exact zKX (hop _), h⟩
/-- .. that reads the own memory as it is then. -/
theorem pm_pureJ {o : Oper} {d : Nat} {v : AV} {K : Fr} {js : List Nat} (hi : all[i]? = some o) (hd : o.dst = some d) (hK : zHA st K0 o = K) (hj : (List.range (chain.length + 1)).filter (zGh all idx0 chain i) = js) (hop : ∀ j ∈ js, zDf P fn c (Hs j) all K o d v) (h : zDR P fn c Hs all K0 idx0 chain r ((i, [(d, v)]) :: st) G) (hn : chain.contains i = false) : zDR P fn c Hs all K0 idx0 chain (i :: r) st G :=
 ⟨o, [(d, v)], hi, .inr ⟨d, v, rfl, hd⟩, fun j hm => by
  have e : zEY chain i j = j := by unfold zEY; rw [hn]; rfl
  rw [e, hK]
  refine zKX (hop j ?_)
  rw [← hj]
  refine List.mem_filter.2 ⟨List.mem_range.2 ?_, hm⟩
  unfold zGh at hm
  rw [Bool.and_eq_true] at hm
  have := Nat.le_of_ble_eq_true hm.1
  omega, h⟩
theorem zEl {d : Nat} {op : Op} {ty : TypeId} {pos : String} {after : Array Edge} {v : AV} {K : Fr} (hi : all[i]? = some ⟨some d, op, ty, pos, after, none⟩) (hK : zHA st K0 ⟨some d, op, ty, pos, after, none⟩ = K) (hn : chain.contains i = false)
 (hop : ∀ H, QOp false P fn c K H ⟨some d, op, ty, pos, after, none⟩ v) (h : zDR P fn c Hs all K0 idx0 chain r ((i, [(d, v)]) :: st) G) : zDR P fn c Hs all K0 idx0 chain (i :: r) st G :=
 zNe hi rfl hK (fun H => zK6 (hop H)) h hn
def AllJ : List Nat → (Nat → Prop) → Prop
 | [], _ => True
 | j :: r, p => p j ∧ AllJ r p
theorem AllJ.get {p : Nat → Prop} : ∀ {js : List Nat}, AllJ js p → ∀ j ∈ js, p j
 | [], _, j, hj => have _p := ‹Pins›; by simp at hj
 | i :: r, h, j, hj => by
  have _p := ‹Pins›
  rcases List.mem_cons.1 hj with rfl | hj
  ·exact h.1
  ·exact AllJ.get h.2 j hj
/-- .. at some of the memories. -/
theorem zMC {d : Nat} {op : Op} {ty : TypeId} {pos : String} {after : Array Edge} {v : AV} {K : Fr} (js : List Nat) (hi : all[i]? = some ⟨some d, op, ty, pos, after, none⟩) (hK : zHA st K0 ⟨some d, op, ty, pos, after, none⟩ = K) (hn : chain.contains i = false) (hj : (List.range (chain.length + 1)).filter (zGh all idx0 chain i) = js)
 (hop : AllJ js (fun j => QOp false P fn c K (Hs j) ⟨some d, op, ty, pos, after, none⟩ v)) (h : zDR P fn c Hs all K0 idx0 chain r ((i, [(d, v)]) :: st) G) : zDR P fn c Hs all K0 idx0 chain (i :: r) st G :=
 pm_pureJ hi rfl hK hj (fun j' hj' => zK6 (hop.get j' hj')) h hn
theorem pm_v {d : Nat} {g : Operand} {args : List Operand} {ats : Array TypeId} {ty : TypeId} {pos : String} {after : Array Edge} {f : FuncId} {caps ags ags' : List AV} {v : AV} {K : Fr} (hi : all[i]? = some ⟨some d, .call { callee := .value g, args := args.toArray, argTypes := ats }, ty, pos, after, none⟩)
 (hK : zHA st K0 ⟨some d, .call { callee := .value g, args := args.toArray, argTypes := ats }, ty, pos, after, none⟩ = K) (hn : chain.contains i = false) (hg : ev K g = some (.fn f caps)) (ha : evs K args = some ags) (has : ags ++ caps = ags') (hcall : zl P f ags' v)
 (h : zDR P fn c Hs all K0 idx0 chain r ((i, [(d, v)]) :: st) G) : zDR P fn c Hs all K0 idx0 chain (i :: r) st G :=
 zNe hi rfl hK (fun H => zMy hg ha has hcall) h hn
/-- An operation of the chain. -/
theorem zHH {o : Oper} {fs K : Fr} {j : Nat} (hi : all[i]? = some o) (hf : zKq fs o) (hK : zHA st K0 o = K) (hn : chain.contains i = true) (hj : (List.range (chain.length + 1)).filter (zGh all idx0 chain i) = [j]) (hop : zKb P fn c (Hs j) (Hs (j + 1)) all K o fs)
 (h : zDR P fn c Hs all K0 idx0 chain r ((i, fs) :: st) G) : zDR P fn c Hs all K0 idx0 chain (i :: r) st G :=
 ⟨o, fs, hi, hf, fun j' hm => by
  have e : zEY chain i j' = j' + 1 := by unfold zEY; rw [hn]; rfl
  rw [e, hK]
  have hle : j' < chain.length + 1 := by
   unfold zGh at hm
   rw [Bool.and_eq_true] at hm
   have := Nat.le_of_ble_eq_true hm.1
   omega
  have hmem : j' ∈ (List.range (chain.length + 1)).filter (zGh all idx0 chain i) := List.mem_filter.2 ⟨List.mem_range.2 hle, hm⟩
  rw [hj] at hmem
  obtain rfl := List.mem_singleton.1 hmem
  exact hop, h⟩
theorem pm_alloc {d : Nat} {t ty : TypeId} {pos : String} {after : Array Edge} {inf : TypeInfo} {z : Value} {zs : List AV} {K : Fr} {j n : Nat} (hi : all[i]? = some ⟨some d, .alloc t, ty, pos, after, none⟩) (hK : zHA st K0 ⟨some d, .alloc t, ty, pos, after, none⟩ = K) (hn : chain.contains i = true) (hj : (List.range (chain.length + 1)).filter (zGh all idx0 chain i) = [j])
 (hin : P.info? t = some inf) (hz : inf.zero = some z) (hzs : zav z = some zs) (hl : (Hs j).length = n) (hH : Hs (j + 1) = Hs j ++ [some ⟨t, .box zs⟩])
 (h : zDR P fn c Hs all K0 idx0 chain r ((i, [(d, .ptr n 0 0)]) :: st) G) : zDR P fn c Hs all K0 idx0 chain (i :: r) st G :=
 zHH hi (.inr ⟨d, _, rfl, rfl⟩) hK hn hj (fun k fr hk h2 => zAI hin hz hzs (by rw [hl, ← hH]; exact h2)) h
theorem zMD {t : TypeId} {x y : Operand} {ty : TypeId} {pos : String} {after : Array Edge} {hd i' : Nat} {ob : AObj} {L : List AV} {K : Fr} {j : Nat} (c' : Cells) (hi : all[i]? = some ⟨none, .store t x y, ty, pos, after, none⟩) (hK : zHA st K0 ⟨none, .store t x y, ty, pos, after, none⟩ = K) (hn : chain.contains i = true) (hj : (List.range (chain.length + 1)).filter (zGh all idx0 chain i) = [j])
 (hx : ev K x = some (.ptr hd i' 0)) (hy : ev K y = some (.agg L)) (hs : (P.info? t).map (·.size) = some ob.c.sz) (hh : (Hs j)[hd]? = some (some ob)) (hl : L.length = ob.c.sz) (hil : i' < ob.c.len)
 (h1 : c'.len = ob.c.len) (h2 : c'.sz = ob.c.sz) (h3 : ∀ a b, a < ob.c.len → b < ob.c.sz → c'.at a b = if a = i' then L.getD b .any else ob.c.at a b) (hz0 : ob.c.sz ≠ 0) (hH : Hs (j + 1) = (Hs j).set hd (some ⟨ob.ty, c'⟩))
 (h : zDR P fn c Hs all K0 idx0 chain r ((i, []) :: st) G) : zDR P fn c Hs all K0 idx0 chain (i :: r) st G :=
 zHH hi (.inl ⟨rfl, rfl⟩) hK hn hj (fun k fr hk h4 => zDT (zD9 hk hx) (zD9 hk hy) hs hh hl hil h1 h2 h3 (by rw [← hH]; exact h4) hz0) h
theorem zH9 {t : TypeId} {x y : Operand} {ty : TypeId} {pos : String} {after : Array Edge} {hd : Nat} {ty' : TypeId} {l0 L : List AV} {K : Fr} {j : Nat} (L' : List AV) (hi : all[i]? = some ⟨none, .store t x y, ty, pos, after, none⟩) (hK : zHA st K0 ⟨none, .store t x y, ty, pos, after, none⟩ = K) (hn : chain.contains i = true) (hj : (List.range (chain.length + 1)).filter (zGh all idx0 chain i) = [j])
 (hx : ev K x = some (.ptr hd 0 0)) (hy : ev K y = some (.agg L)) (hs : (P.info? t).map (·.size) = some l0.length) (hh : (Hs j)[hd]? = some (some ⟨ty', .box l0⟩)) (hl : L.length = l0.length) (hL : L = L') (hz : Nat.blt 0 l0.length = true) (hH : Hs (j + 1) = (Hs j).set hd (some ⟨ty', .box L'⟩))
 (h : zDR P fn c Hs all K0 idx0 chain r ((i, []) :: st) G) : zDR P fn c Hs all K0 idx0 chain (i :: r) st G := by
 subst hL
 have hz := Nat.le_of_ble_eq_true hz
 refine zMD (ob := ⟨ty', .box l0⟩) (.box L) hi hK hn hj hx hy hs hh hl Nat.zero_lt_one U hl (fun a b ha hb => ?_) (by show l0.length ≠ 0; omega) hH h
 obtain rfl : a = 0 := Nat.lt_one_iff.1 ha
 rw [if_pos rfl]; rfl
theorem zK4 (h : G st) : zDR P fn c Hs all K0 idx0 chain [] st G := h
end
end
end Go.Ax
namespace Go.Ax.Gm
def zDC (r : Rules) (d : Nat) (p : Pos) (m : Mv) : Int := zCP (-(zAg r d (zf r p m)))
def zB8 (f : Mv → Int) (l : List Mv) (a : Mv × Int) : Mv × Int := l.foldl (fun a m => if a.2 < f m then (m, f m) else a) a
def zGc (r : Rules) (d : Nat) (p : Pos) : Mv × Int := zB8 (zDC r d p) (zr r p) (mv0, -2000)
theorem zH5 (f : Mv → Int) : ∀ (l : List Mv) (a : Mv × Int), (zB8 f l a).2 = l.foldl (fun a m => if a < f m then f m else a) a.2
 | [], a => rfl
 | m :: l, a => by
  show (zB8 f l (if a.2 < f m then (m, f m) else a)).2 = l.foldl _ (if a.2 < f m then f m else a.2)
  rw [zH5 f l]
  split <;> rfl
theorem zMj (r : Rules) (d : Nat) (p : Pos) (h : zb r p = 0) : (zGc r d p).2 = zAg r (d + 1) p := by
 rw [zAg, if_neg (fun c => c h)]
 exact zH5 _ _ _
theorem zKp (f : Mv → Int) (l : List Mv) (m : Mv) (a : Mv × Int) : zB8 f (l ++ [m]) a = if (zB8 f l a).2 < f m then (m, f m) else zB8 f l a := by
 unfold zB8
 rw [List.foldl_append]; rfl
theorem zKy {n : Int} (h : -2000 ≤ n ∧ n ≤ 2000) : -2000 ≤ zCP n ∧ zCP n ≤ 2000 := by
 unfold zCP
 split
 ·omega
 ·split <;> omega
theorem zIq (f : Mv → Int) (hf : ∀ m, -2000 ≤ f m ∧ f m ≤ 2000) : ∀ (l : List Mv) (a : Int), -2000 ≤ a ∧ a ≤ 2000 → -2000 ≤ l.foldl (fun a m => if a < f m then f m else a) a ∧ l.foldl (fun a m => if a < f m then f m else a) a ≤ 2000
 | [], a, h => h
 | m :: l, a, h => by
  rw [List.foldl_cons]
  refine zIq f hf l _ ?_
  have := hf m
  split <;> omega
theorem zI9 (p : Pos) (x : Int) : -2000 ≤ zGS p x ∧ zGS p x ≤ 2000 := by
 unfold zGS
 split
 ·omega
 ·split <;> omega
theorem zIE (r : Rules) : ∀ (d : Nat) (p : Pos), -2000 ≤ zAg r d p ∧ zAg r d p ≤ 2000
 | 0, p => by
  rw [zAg]
  split
  ·exact zI9 _ _
  ·omega
 | d + 1, p => by
  rw [zAg]
  split
  ·exact zI9 _ _
  ·exact zIq (zDC r d p) (fun m => zKy (by have := zIE r d (zf r p m); omega)) _ _ (by omega)
/-- what TopTables wants -/
def zKZ (t : Int) (e : Ent) : Int := if e.1 ≠ 3 ∧ e.2 ≤ 3 then (if decide (e.1 = 1) ≠ decide (t = 0) then -(1000 - e.2) else 1000 - e.2) else 0
theorem want_val {t : Int} {e : Ent} (ht : t = 0 ∨ t = 1) (he : 1 ≤ e.1 ∧ e.1 ≤ 3) : zKZ t e = valQ 3 t e := by
 unfold zKZ valQ
 by_cases h3 : e.1 = 3
 ·rw [if_neg (fun c => c.1 h3), if_neg (by omega), if_neg (by omega)]
 by_cases h2 : e.2 ≤ 3
 ·rw [if_pos ⟨h3, h2⟩]
  rcases ht with rfl | rfl
  ·by_cases h1 : e.1 = 1
   ·rw [if_neg (by simp [h1]), if_pos (by omega)]
   ·rw [if_pos (by simp [h1]), if_neg (by omega), if_pos (by omega)]
  ·by_cases h1 : e.1 = 1
   ·rw [if_pos (by simp [h1]), if_neg (by omega), if_pos (by omega)]
   ·rw [if_neg (by simp [h1]), if_pos (by omega)]
 ·rw [if_neg (by omega), if_neg (by omega), if_neg (by omega)]
end Go.Ax.Gm
namespace Go.Ax
variable [Pins]
open Go.RowKit
def frσ (n : Nat) (σ' σ : Nat → Option Blk) (h : Nat) : Option Blk := if h < n then σ' h else σ h
theorem zd.frame {P : Program} {f : FuncId} {args : List AV} {H : zP} (Hr : zP) {fix : Nat → Prop} {K K' : AV → zP → Prop} (hc : zd P f args H fix K) (hfl : ∀ h, fix h → h < H.length) (hargs : zB4 H.length args = true)
 (hbH : ∀ (h : Nat) (o : AObj), H[h]? = some (some o) → zAz H.length o.c) (hrl : ∀ (h : Nat) (o : AObj), Hr[h]? = some (some o) → zAG o.c)
 (hK : ∀ r H', K r H' → H'.length = H.length ∧ K' r (H' ++ Hr)) : zd P f args (H ++ Hr) (fun h => fix h ∨ (H.length ≤ h ∧ h < H.length + Hr.length)) K' := by
 refine ⟨hc.1, fun w σ S vals hp hr hf hv => ?_⟩
 have hs : ∀ h, h < H.length → zIM H.length σ h = σ h := fun h hl => if_pos hl
 have hget : ∀ {h : Nat} {o : AObj}, H[h]? = some (some o) → h < H.length ∧ (H ++ Hr)[h]? = some (some o) := by
  intro h o ho
  have hl : h < H.length := (List.getElem?_eq_some_iff.1 ho).1
  exact ⟨hl, by rw [List.getElem?_append_left hl]; exact ho⟩
 have hgetR : ∀ {h : Nat} {o : AObj}, Hr[h]? = some (some o) → h < Hr.length ∧ (H ++ Hr)[H.length + h]? = some (some o) := by
  intro h o ho
  have hl : h < Hr.length := (List.getElem?_eq_some_iff.1 ho).1
  exact ⟨hl, by rw [List.getElem?_append_right (by omega), Nat.add_sub_cancel_left]; exact ho⟩
 have hown : ∀ b, zDS (zIM H.length σ) H b → zDS σ (H ++ Hr) b := by
  rintro b ⟨h, o, s, C, h1, h2⟩
  obtain ⟨hl, ho⟩ := hget h1
  rw [hs h hl] at h2
  exact ⟨h, o, s, C, ho, h2⟩
 have hp0 : zC5 w S (zIM H.length σ) H := hp.less (fun _ h => h) hown
 have hr0 : HR w S (zIM H.length σ) H := by
  refine ⟨fun h o ho => ?_, fun h h' o o' b s C s' C' q1 q2 e1 e2 => ?_, hr.small, fun h hl => if_neg (by omega)⟩
  ·obtain ⟨hl, ho'⟩ := hget ho
   rw [hs h hl]
   rcases hr.live h o ho' with g | ⟨b, C, cur, k1, k2, k3, k4, k5, k6, k7⟩
   ·exact .inl g
   ·refine .inr ⟨b, C, cur, k1, k2.cutv (fun ks vs hc => (hbH h o ho).mp hc) hs, k3, k4, k5, k6, fun i j hi hj => ?_⟩
    obtain ⟨v, m1, m2, m3⟩ := k7 i j hi hj
    exact ⟨v, m1, m2.cutv ((hbH h o ho).row i j hi hj) _ hs, m3⟩
  ·obtain ⟨hl, ho⟩ := hget q1
   obtain ⟨hl', ho'⟩ := hget q2
   rw [hs h hl] at e1
   rw [hs h' hl'] at e2
   exact hr.dist h h' o o' b s C s' C' ho ho' e1 e2
 have hv0 : VRs w S (zIM H.length σ) args vals := ⟨hv.1, fun i hi => (hv.2 i hi).cutv (zCt hargs i hi) _ hs⟩
 refine (hc.2 w _ S vals hp0 hr0 hfl hv0).mono ?_
 rintro e w' ⟨v, r, σ', S', H', rfl, g1, g2, g3, g4⟩
 obtain ⟨hlen, hk⟩ := hK _ _ g4
 have hlto : ∀ h o b s C, (H ++ Hr)[h]? = some (some o) → σ h = some (.at b s C) → b < w.heap.size ∧ ¬ S b := by
  intro h o b s C ho hb
  rcases hr.live h o ho with ⟨hn, _⟩ | ⟨b', C', cur, hσ', g, _, _, _, hS, _⟩
  ·rw [hb] at hn; cases hn
  ·rw [hb] at hσ'
   simp only [Option.some.injEq, Blk.at.injEq] at hσ'
   rw [hσ'.1]
   exact ⟨g.lt, hS⟩
 -- the blocks of the further objects are not those of the first
 have hno : ∀ h o b s C, Hr[h]? = some (some o) → σ (H.length + h) = some (.at b s C) → ¬ zDS (zIM H.length σ) H b := by
  rintro h o b s C ho hb ⟨h', o', s', C', q1, q2⟩
  obtain ⟨hl, ho1⟩ := hget q1
  rw [hs h' hl] at q2
  have := hr.dist _ _ _ _ _ _ _ _ _ (hgetR ho).2 ho1 hb q2
  omega
 have hSb : ∀ b, S b → w'.heap[b]? = w.heap[b]? := fun b hb => g3.block b (hr.small b hb) (by
  rintro ⟨h', o', s', C', q1, q2⟩
  obtain ⟨hl, ho1⟩ := hget q1
  rw [hs h' hl] at q2
  exact (hlto _ _ _ _ _ ho1 q2).2 hb)
 have hlow : ∀ h, h < H.length → (frσ H.length σ' σ) h = σ' h := fun h hl => if_pos hl
 have hup : ∀ h, (frσ H.length σ' σ) (H.length + h) = σ (H.length + h) := fun h => if_neg (by omega)
 have hmono : ∀ h B, σ' h = some B → (frσ H.length σ' σ) h = some B := fun h B hB => by
  rcases Nat.lt_or_ge h H.length with q | q
  ·rw [hlow h q]; exact hB
  ·rw [g1.dom h (by omega)] at hB; cases hB
 have hcase : ∀ h' o', (H' ++ Hr)[h']? = some (some o') → (h' < H.length ∧ H'[h']? = some (some o')) ∨ ∃ h, h' = H.length + h ∧ Hr[h]? = some (some o') := by
  intro h' o' ho
  by_cases he : h' < H.length
  ·rw [List.getElem?_append_left (by omega)] at ho; exact .inl ⟨he, ho⟩
  ·rw [List.getElem?_append_right (by omega), hlen] at ho
   exact .inr ⟨h' - H.length, by omega, ho⟩
 have hnew : ∀ h o b s C, H'[h]? = some (some o) → σ' h = some (.at b s C) → ∀ h2 o2 s2 C2, Hr[h2]? = some (some o2) → σ (H.length + h2) = some (.at b s2 C2) → False := by
  intro h o b s C ho hb h2 o2 s2 C2 ho2 hb2
  rcases g3.own h o b s C ho hb with q | q
  ·exact hno _ _ _ _ _ ho2 hb2 q
  ·have := (hlto _ _ _ _ _ (hgetR ho2).2 hb2).1
   have q : w.heap.size ≤ b := q
   omega
 have hHR : HR w' S' (frσ H.length σ' σ) (H' ++ Hr) := by
  refine ⟨fun h o ho => ?_, fun h1 h2 o1 o2 b s C s' C' q1 q2 e1 e2 => ?_, g1.small, fun h hl => ?_⟩
  ·rcases hcase h o ho with ⟨hl, ho'⟩ | ⟨h', rfl, ho'⟩
   ·rw [hlow h hl]
    rcases g1.live h o ho' with g | ⟨b, C, cur, k1, k2, k3, k4, k5, k6, k7⟩
    ·exact .inl g
    ·refine .inr ⟨b, C, cur, k1, k2.mono U (fun hv => hv.mono (fun _ h => h) (fun _ _ => rfl) _ hmono), k3, k4, k5, k6, fun i j hi hj => ?_⟩
     obtain ⟨v, m1, m2, m3⟩ := k7 i j hi hj
     exact ⟨v, m1, m2.mono (fun _ h => h) (fun _ _ => rfl) _ hmono, m3⟩
   ·rw [hup h']
    rcases hr.live _ o (hgetR ho').2 with g | ⟨b, C, cur, k1, k2, k3, k4, k5, k6, k7⟩
    ·exact .inl g
    ·have hbw : w'.heap[b]? = w.heap[b]? := g3.block b k2.lt (hno h' o b _ C ho' k1)
     have hvm : ∀ {x v}, noRef x = true → VR w S σ x v → VR w' S' (frσ H.length σ' σ) x v := fun {x v} hx hv =>
      (hv.closed hx (fun _ => none)).mono (fun b hb => g3.S1 b hb) hSb _ (fun h B hB => by cases hB)
     refine .inr ⟨b, C, cur, k1, ?_, k3, k4, k5, fun hS => ?_, fun i j hi hj => ?_⟩
     ·cases k2 with
      | row mk h hm hC => exact .row mk (by rw [hbw]; exact h) hm hC
      | map ks vs es clock hc hC h hn hl hd he =>
       have hm := (hrl h' o ho').mp hc
       refine .map ks vs es clock hc hC (by rw [hbw]; exact h) hn hl hd (fun i hi => ?_)
       obtain ⟨e, e1, e2, e3⟩ := he i hi
       exact ⟨e, e1, hvm (zBe hm.1 i hi) e2, hvm (zBe hm.2 i (by omega)) e3⟩
     ·rcases g3.S2 b hS with q | q | q
      ·exact k6 q
      ·exact hno _ _ _ _ _ ho' k1 q
      ·have := k2.lt
       have q : w.heap.size ≤ b := q
       omega
     ·obtain ⟨v, m1, m2, m3⟩ := k7 i j hi hj
      exact ⟨v, m1, hvm ((hrl h' o ho').row i j hi hj) m2, m3⟩
  ·rcases hcase h1 o1 q1 with ⟨l1, r1⟩ | ⟨x1, rfl, r1⟩ <;> rcases hcase h2 o2 q2 with ⟨l2, r2⟩ | ⟨x2, rfl, r2⟩
   ·rw [hlow _ l1] at e1
    rw [hlow _ l2] at e2
    exact g1.dist _ _ _ _ _ _ _ _ _ r1 r2 e1 e2
   ·rw [hlow _ l1] at e1
    rw [hup] at e2
    exact (hnew _ _ _ _ _ r1 e1 _ _ _ _ r2 e2).elim
   ·rw [hup] at e1
    rw [hlow _ l2] at e2
    exact (hnew _ _ _ _ _ r2 e2 _ _ _ _ r1 e1).elim
   ·rw [hup] at e1
    rw [hup] at e2
    exact hr.dist _ _ _ _ _ _ _ _ _ (hgetR r1).2 (hgetR r2).2 e1 e2
  ·rw [List.length_append, hlen] at hl
   unfold frσ; rw [if_neg (by omega)]
   exact hr.dom h (by rw [List.length_append]; omega)
 refine ⟨v, r, _, S', _, U, hHR, g2.mono (fun _ h => h) (fun _ _ => rfl) _ hmono, ⟨g3.os, g3.output, g3.tape, g3.size, fun b hb hn => g3.block b hb (fun q => hn (hown b q)), g3.S1, fun b hb => ?_, fun h hh => ?_, fun h hh => ?_, fun h o b s C ho hb => ?_⟩, hk⟩
 ·rcases g3.S2 b hb with q | q | q
  ·exact .inl q
  ·exact .inr (.inl (hown b q))
  ·exact .inr (.inr q)
 ·rcases hh with hh | ⟨h1, h2⟩
  ·have hl := hfl h hh
   show frσ H.length σ' σ h = σ h
   rw [hlow h hl, ← hs h hl]
   exact g3.fixed h hh
  ·show frσ H.length σ' σ h = σ h
   unfold frσ; rw [if_neg (by omega)]
 ·rw [List.length_append, hlen]
  rcases hh with hh | ⟨h1, h2⟩
  ·have := hfl h hh; omega
  ·exact h2
 ·rcases hcase h o ho with ⟨hl, ho'⟩ | ⟨h', rfl, ho'⟩
  ·rw [hlow h hl] at hb
   rcases g3.own h o b s C ho' hb with q | q
   ·exact .inl (hown b q)
   ·exact .inr q
  ·rw [hup h'] at hb
   exact .inl ⟨_, o, s, C, (hgetR ho').2, hb⟩
end Go.Ax
namespace Go.Ax
variable [Pins]
open Go.RowKit
section
variable {P : Program} {fn : Func} {c : Ctx} {fr : Fr} {H : zP} {k : List It}
/-- A call that may move two objects. -/
theorem Rep.calledM2 {w w' : World} {a : Act} {σ σ' : Nat → Option Blk} {S S' : Nat → Prop} {n m m2 : Nat} {H' : zP} {fix : Nat → Prop} {K : AV → zP → Prop} (hr : Rep c w a σ S n fr H) (hall : ∀ h, h < H.length → h ≠ m → h ≠ m2 → fix h) (hcm : ¬ c.fix m) (hcm2 : ¬ c.fix m2) (hhr : HR w' S' σ' H') {hp : zC5 w S σ H} (hlen : H.length ≤ H'.length) (hkp : Kp (zBd w S σ H fix K hp) w' S' σ' H') :
 Rep c w' a σ' S' n (zBf m2 (zBf m fr)) H' := by
 have hne : ∀ h, h ≠ m → h ≠ m2 → ∀ B, σ h = some B → σ' h = some B := by
  intro h hm hm2 B hB
  have hlt : h < H.length := by
   rcases Nat.lt_or_ge h H.length with hl | hl
   ·exact hl
   ·rw [hr.hr.dom h hl] at hB; cases hB
  rw [hkp.fixed h (hall h hlt hm hm2)]; exact hB
 have hSO : ∀ b, S b → ¬ zDS σ H b := by
  rintro b hs ⟨h, o, s, C, h1, h2⟩
  exact (hr.obj h1 h2).2.choose_spec.2.2.2.2.1 hs
 have hS : ∀ b, S b → w'.heap[b]? = w.heap[b]? := fun b hs => hkp.block b (hr.hr.small b hs) (hSO b hs)
 refine ⟨hhr, ?_, hr.defers, hr.size, fun t v hl => ?_⟩
 ·refine ⟨hkp.os.trans hr.kp.os, hkp.output.trans hr.kp.output, hkp.tape.trans hr.kp.tape, Nat.le_trans hr.kp.size hkp.size, fun b hb ho => ?_, fun b hb => hkp.S1 b (hr.kp.S1 b hb), fun b hb => ?_, fun h hf => ?_, fun h hf => Nat.lt_of_lt_of_le (hr.kp.fixlt h hf) hlen, fun h o b s C h1 h2 => ?_⟩
  ·rw [← hr.kp.block b hb ho]
   have hs1 := hr.kp.size
   refine hkp.block b (by simp only [zBd]; omega) ?_
   rintro ⟨h, o, s, C, h1, h2⟩
   rcases hr.kp.own h o b s C h1 h2 with h3 | h3
   ·exact ho h3
   ·omega
  ·rcases hkp.S2 b hb with h1 | h1 | h1
   ·exact hr.kp.S2 b h1
   ·obtain ⟨h, o, s, C, g1, g2⟩ := h1
    rcases hr.kp.own h o b s C g1 g2 with g3 | g3
    ·exact .inr (.inl g3)
    ·exact .inr (.inr g3)
   ·right; right; have := hr.kp.size; simp only [zBd] at h1; omega
  ·have hm : h ≠ m := fun e => hcm (e ▸ hf)
   have hm2 : h ≠ m2 := fun e => hcm2 (e ▸ hf)
   rw [hkp.fixed h (hall h (hr.kp.fixlt h hf) hm hm2)]
   exact hr.kp.fixed h hf
  ·rcases hkp.own h o b s C h1 h2 with ⟨h', o', s', C', g1, g2⟩ | h3
   ·exact hr.kp.own h' o' b s' C' g1 g2
   ·right; have := hr.kp.size; simp only [zBd] at h3; omega
 ·rw [zDB, zDB] at hl
  cases hq : zAa t fr with
  | none => simp [hq] at hl
  | some v0 =>
   simp [hq] at hl
   subst hl
   obtain ⟨s1, s2⟩ := hr.slots t v0 hq
   refine ⟨s1, ?_⟩
   have s3 := s2.forget (h := m) (fun h => if h = m then σ' m else σ h) (fun h' hh => by simp [hh])
   have s4 := s3.forget (h := m2) (fun h => if h = m2 then σ' m2 else if h = m then σ' m else σ h) (fun h' hh => by simp [hh])
   exact s4.mono hkp.S1 hS _ (fun h B hB => by
    by_cases hh2 : h = m2
    ·subst hh2; simpa using hB
    ·simp only [hh2, if_false] at hB
     by_cases hh : h = m
     ·subst hh; simpa using hB
     ·simp only [hh, if_false] at hB; exact hne h hh hh2 B hB)
theorem zNp {all : Array Oper} {d : Option Nat} {g : Operand} {args : List Operand} {ats : Array TypeId} {ty : TypeId} {pos : String} {after : Array Edge} {rest : List Oper} {f : FuncId} {caps ags ags' : List AV} {fix : Nat → Prop} {K : AV → zP → Prop} (m m2 : Nat)
 (hg : ev fr g = some (.fn f caps)) (ha : evs fr args = some ags) (has : ags ++ caps = ags') (hcall : zd P f ags' H fix K) (hall : ∀ h, h < H.length → h ≠ m → h ≠ m2 → fix h) (hfl : ∀ h, fix h → h < H.length) (hcm : ¬ c.fix m) (hcm2 : ¬ c.fix m2)
 (hk : ∀ r H', K r H' → H.length ≤ H'.length ∧ Ax P fn c (.ops false all rest k) (match d with | some d => (d, r) :: zBf m2 (zBf m fr) | none => zBf m2 (zBf m fr)) H') : Ax P fn c (.ops false all (⟨d, .call { callee := .value g, args := args.toArray, argTypes := ats }, ty, pos, after, none⟩ :: rest) k) fr H := by
 intro hd w a σ S hr
 obtain ⟨hd1, hd2⟩ := zBV hd
 obtain ⟨⟨gfn, hgf, hgn, hgb⟩, hc⟩ := hcall
 subst has
 have h1 := hr.evAt hg
 obtain ⟨e1, e2⟩ := zFk hr args ags ha
 generalize hz : a.eval g = z at h1
 refine wpList_step (fun K' hK' => ?_)
 simp only [Region.wanted, if_true]
 unfold Oper.wp
 cases h1 with
 | fn _ _ _ vs hl hv =>
  have hrun : (execOp a.eval ⟨d, .call { callee := .value g, args := args.toArray, argTypes := ats }, ty, pos, after, none⟩).run P w = .ok (.enter f ((args.map a.eval).toArray ++ vs)) w := by
   simp only [execOp, resolve, hz, Deferred.ofValue, Sem.run_bind, Sem.run_pure, Result.andThen_ok, invoke, callFunc, List.map_toArray, Array.empty_append, program, Sem.run, hgf]
   simp [hgn, hgb]
  rw [hrun]
  have hargs : VRs w S σ (ags ++ caps) ((args.map a.eval).toArray ++ vs) := by
   refine ⟨by simp [e1, hl], fun i hi => ?_⟩
   simp only [List.length_append] at hi
   by_cases hlt : i < ags.length
   ·have := e2 i hlt
    have hlt' : i < args.length := by omega
    have ea : (ags ++ caps).getD i .any = ags.getD i .any := by simp [List.getD, List.getElem?_append, hlt]
    have eb : ((args.map a.eval).toArray ++ vs).getD i undef = (args.map a.eval).getD i undef := by simp [Array.getElem?_append, hlt', List.getD]
    rw [ea, eb]; exact this
   ·have := hv (i - ags.length) (by omega)
    have hnl : ¬ i < args.length := by omega
    have ea : (ags ++ caps).getD i .any = caps.getD (i - ags.length) .any := by simp [List.getD, List.getElem?_append, hlt]
    have eb : ((args.map a.eval).toArray ++ vs).getD i undef = vs.getD (i - ags.length) undef := by simp [Array.getElem?_append, e1, hlt]
    rw [ea, eb]; exact this
  refine Calls.mono (hc w σ S _ hr.pinUp hr.hr hfl hargs) ?_
  rintro e w' ⟨v, r, σ', S', H', rfl, g1, g2, g3, g4⟩
  obtain ⟨hlen, hk2⟩ := hk r H' g4
  have hrep := hr.calledM2 hall hcm hcm2 g1 hlen g3
  refine hK' _ _ ?_
  cases d with
  | none => exact hk2 hd2 w' _ σ' S' hrep
  | some d => exact hk2 hd2 w' _ σ' S' (hrep.put g2 (hd1 d rfl))
end
section
variable {P : Program} {fn : Func} {c : Ctx} {fr : Fr} {H : zP} {k : List It}
theorem pm_bs {Hs : Nat → zP} {all : Array Oper} {K0 : Fr} {idx0 chain : List Nat} {i : Nat} {r : List Nat} {st : zCH} {G : zCH → Prop} {d : Nat} {t e : TypeId} {n m : Nat} {parts : List (Nat × Operand)} {ty : TypeId} {pos : String} {after : Array Edge} {it : TypeInfo} {z : Value} {zs L : List AV} {l : List (Nat × AV)} {cl : Cells} {K : Fr} {j : Nat}
 (hi : all[i]? = some ⟨some d, .buildSlice t n parts.toArray, ty, pos, after, none⟩) (hK : zHA st K0 ⟨some d, .buildSlice t n parts.toArray, ty, pos, after, none⟩ = K) (hn : chain.contains i = true) (hj : (List.range (chain.length + 1)).filter (zGh all idx0 chain i) = [j])
 (ht : P.underlying t = some (.slice e)) (hinf : P.info? e = some it) (hz : it.zero = some z) (hzs : zav z = some zs) (hsz : it.size = zs.length) (hpos : Nat.blt 0 zs.length = true) (hsmall : Nat.ble (n * zs.length) 16777216 = true)
 (hl : zB7 K parts = some l) (hf : zET (fun i => some (i * zs.length, zs.length)) (zCu zs n) l = some L) (hcl : zFW n zs.length L = cl) (hlen : (Hs j).length = m) (hH : Hs (j + 1) = Hs j ++ [some ⟨e, cl⟩])
 (h : zDR P fn c Hs all K0 idx0 chain r ((i, [(d, .sl m 0 n)]) :: st) G) : zDR P fn c Hs all K0 idx0 chain (i :: r) st G :=
 zHH hi (.inr ⟨d, _, rfl, rfl⟩) hK hn hj (fun k fr hk h2 => zCj ht hinf hz hzs hsz hpos hsmall (zEh hk hl) hf hcl (by rw [hlen, ← hH]; exact h2)) h
theorem pm_box {Hs : Nat → zP} {all : Array Oper} {K0 : Fr} {idx0 chain : List Nat} {i : Nat} {r : List Nat} {st : zCH} {G : zCH → Prop} {d m : Nat} {t : TypeId} {x : Operand} {ty : TypeId} {pos : String} {after : Array Edge} {v : AV} {L : List AV} {K : Fr} {j : Nat}
 (hi : all[i]? = some ⟨some d, .box t x, ty, pos, after, none⟩) (hK : zHA st K0 ⟨some d, .box t x, ty, pos, after, none⟩ = K) (hn : chain.contains i = true) (hj : (List.range (chain.length + 1)).filter (zGh all idx0 chain i) = [j])
 (hx : ev K x = some v) (hc : v.cellsA = some L) (hlen : (Hs j).length = m) (hH : Hs (j + 1) = Hs j ++ [some ⟨t, .box L⟩])
 (h : zDR P fn c Hs all K0 idx0 chain r ((i, [(d, .ptr m 0 0)]) :: st) G) : zDR P fn c Hs all K0 idx0 chain (i :: r) st G :=
 zHH hi (.inr ⟨d, _, rfl, rfl⟩) hK hn hj (fun k fr hk h2 => zAO (zD9 hk hx) hc (by rw [hlen, ← hH]; exact h2)) h
end
end Go.Ax
namespace Go.Ax.Gm
theorem zJa : inT twoT (z7 two) := by show zAp twoL (z7 two) < twoL.length; decide +kernel
theorem zLH : zAo twoT (z7 two) = (2, 2) := by decide +kernel
theorem zHU : Sound two (z7 two) := zER (zAm zD2)
theorem zHT : zb two (z7 two) = 0 := zLK
theorem two_m0 : zf two ⟨[0, 0], [2], [2], 0, 0⟩ ⟨-1, 0, 0⟩ = ⟨[1, 0], [1], [2], 1, 0⟩ := by decide +kernel
theorem two_m1 : zf two ⟨[0, 0], [2], [2], 0, 0⟩ ⟨-1, 1, 0⟩ = ⟨[0, 1], [1], [2], 1, 0⟩ := by decide +kernel
theorem two_m2 : zf two ⟨[1, 0], [1], [2], 1, 0⟩ ⟨-1, 1, 0⟩ = ⟨[1, 2], [1], [1], 0, 0⟩ := by decide +kernel
theorem two_m3 : zf two ⟨[0, 1], [1], [2], 1, 0⟩ ⟨-1, 0, 0⟩ = ⟨[2, 1], [1], [1], 0, 0⟩ := by decide +kernel
theorem zNQ {r : Rules} {p : Pos} (h : zb r p ≠ 0) (d : Nat) : zC2 r d p ≤ 1 := by
 cases d with
 | zero => exact Nat.le_refl _
 | succ d =>
  show 1 + ((zAW r p).map _).sum ≤ 1
  unfold zAW
  rw [if_pos h]; exact Nat.le_refl _
theorem zIk {r : Rules} {p : Pos} {l : List Mv} {b : Nat} (h : zAW r p = l) (hb : ∀ d, 1 + ((l.map (fun m => zC2 r d (zf r p m))).sum) ≤ b) (h1 : 1 ≤ b) (d : Nat) : zC2 r d p ≤ b := by
 cases d with
 | zero => exact h1
 | succ d =>
  show 1 + ((zAW r p).map (fun m => zC2 r d (zf r p m))).sum ≤ b
  rw [h]; exact hb d
theorem two_c3 (d : Nat) : zC2 two d ⟨[1, 2], [1], [1], 0, 0⟩ ≤ 1 := zNQ (by rw [zNF]; decide) d
theorem two_c4 (d : Nat) : zC2 two d ⟨[2, 1], [1], [1], 0, 0⟩ ≤ 1 := zNQ (by rw [zNG]; decide) d
theorem two_c1 (d : Nat) : zC2 two d ⟨[1, 0], [1], [2], 1, 0⟩ ≤ 2 := zIk (l := [⟨-1, 1, 0⟩]) (zEX zNB zND rfl) (fun d => by
 have := two_c3 d
 show 1 + (zC2 two d (zf two ⟨[1, 0], [1], [2], 1, 0⟩ ⟨-1, 1, 0⟩) + 0) ≤ 2
 rw [two_m2]; omega) (by decide) d
theorem two_c2 (d : Nat) : zC2 two d ⟨[0, 1], [1], [2], 1, 0⟩ ≤ 2 := zIk (l := [⟨-1, 0, 0⟩]) (zEX zNC zNE rfl) (fun d => by
 have := two_c4 d
 show 1 + (zC2 two d (zf two ⟨[0, 1], [1], [2], 1, 0⟩ ⟨-1, 0, 0⟩) + 0) ≤ 2
 rw [two_m3]; omega) (by decide) d
theorem two_c0 (d : Nat) : zC2 two d (z7 two) ≤ 5 := zIk (l := [⟨-1, 0, 0⟩, ⟨-1, 1, 0⟩]) (zEX zLI zLK rfl) (fun d => by
 have h1 := two_c1 d
 have h2 := two_c2 d
 show 1 + (zC2 two d (zf two ⟨[0, 0], [2], [2], 0, 0⟩ ⟨-1, 0, 0⟩) + (zC2 two d (zf two ⟨[0, 0], [2], [2], 0, 0⟩ ⟨-1, 1, 0⟩) + 0)) ≤ 5
 rw [two_m0, two_m1]; omega) (by decide) d
theorem zGO : zBC two (z7 two) = 0 := zEK zD2 zHU
theorem zOn : zFP two (z7 two) 2 = (-998, 0) := by
 have hp : zBT two (z7 two) 2 = 0 := by
  unfold zBT
  rw [if_neg (fun c => c zGO), if_neg (by decide), if_neg]
  have := two_c0 (2 : Int).toNat
  omega
 have hs : zAg two 2 (z7 two) = -998 := by
  have := two_ok.score_table 2 (p := z7 two) (by decide) zJa
  rw [zLH] at this
  rw [show zAg two 2 (z7 two) = zAg twoT.r 2 (z7 two) from rfl, this]
  decide
 unfold zFP
 rw [if_neg (fun c => c hp)]
 show (zAg two 2 (z7 two), (0 : Int)) = _
 rw [hs]
theorem two_line : zMB two (zBo twoT 9 (z7 two)) (z7 two) ∧ (zBo twoT 9 (z7 two)).length = 2 ∧ zb two (zEu two (zBo twoT 9 (z7 two)) (z7 two)) = 2 := by
 obtain ⟨h1, _, h3⟩ := two_ok.line_ok 9 (p := z7 two) zHU zJa
 rw [zLH] at h3
 obtain ⟨h4, h5⟩ := h3 (by decide) (by decide)
 have h4 : ((zBo twoT 9 (z7 two)).length : Int) = 2 := h4
 exact ⟨h1, by omega, h5⟩
theorem zHt (k : Nat) : zC7 two k (z7 two) = [] := by
 refine Classical.byContradiction (fun c => ?_)
 obtain ⟨a, hm⟩ := List.exists_mem_of_ne_nil _ c
 unfold zC7 at hm
 obtain ⟨ha, hw⟩ := List.mem_filter.1 hm
 have c1 := (two_ok.wins_table (k := k) zJa zHT ha).1 hw
 have := (two_ok.win_iff zJa zHT (2 * (k : Int))).2 ⟨a, ha, c1⟩
 rw [zLH] at this
 exact absurd this.1 (by decide)
theorem zOl (k : Nat) (hk : k ≤ 2) : zBb two (z7 two) (2 * (k : Int) + 1) = 0 := by
 rw [zLa zD2 zHU zHT hk, if_neg]
 have := two_c0 (2 * k + 1)
 omega
theorem zOm : zKt two (z7 two) = (0, 8) := by
 show zEi two (z7 two) 3 0 = _
 have h := fun k hk => zOl k hk
 rw [zEi, if_neg (fun c => c (h 0 (by decide))), zHt, if_neg (by decide), zEi, if_neg (fun c => c (h (0 + 1) (by decide))), zHt, if_neg (by decide), zEi, if_neg (fun c => c (h (0 + 1 + 1) (by decide))), zHt, if_neg (by decide), zEi]
end Go.Ax.Gm
namespace Go.Proofs
open Go.Shelf Go.RowKit Go.Lib Go.Sort
theorem rIsNaN (x : Int) (w : World) : Calls Tryz.prog 85 #[.int .i64 x] w fun e w' => e = .returned (.bool false) ∧ w' = w := by
 go_enter Tryz.func85, Tryz.ntmps85
 go_wp2
 go_ret
 exact ⟨by simp, rfl⟩
theorem zJG (x y : Int) (w : World) : Calls Tryz.prog 50 #[.int .i64 x, .int .i64 y] w fun e w' => e = .returned (.int .i64 (Go.Ax.Gm.cmpI x y)) ∧ w' = w := by
 go_enter Tryz.func50, Tryz.ntmps50
 go_wp2_with (go_at_call 85; refine (rIsNaN _ _).mono ?_; rintro e w' ⟨rfl, hw⟩; rw [hw])
 all_goals (go_ret; refine ⟨?_, rfl⟩; unfold Go.Ax.Gm.cmpI; (repeat' split) <;> first | rfl | (exfalso; omega))
theorem rOr (b : Nat) (x0 x1 x2 : Int) (w : World) (h0 : w.cell? ⟨b, 0, none⟩ = some (.int .i64 x0)) (h1 : w.cell? ⟨b, 1, none⟩ = some (.int .i64 x1)) (h2 : w.cell? ⟨b, 2, none⟩ = some (.int .i64 x2)) :
 Calls Tryz.prog 49 #[.slice (some ⟨b, 0, none⟩) 3 3] w fun e w' => e = .returned (.int .i64 (if x0 ≠ 0 then x0 else if x1 ≠ 0 then x1 else x2)) ∧ w' = w := by
 go_enter Tryz.func49, Tryz.ntmps49
 go_wp2
 go_loopg [8] 3 (fun g s8 wr => ∃ k : Nat, k ≤ 3 ∧ 3 - k ≤ g ∧ s8 = .int .i64 k ∧ wr = w ∧ (0 < k → x0 = 0) ∧ (1 < k → x1 = 0) ∧ (2 < k → x2 = 0))
 case atStart => exact ⟨0, Nat.zero_le _, by omega, rfl, rfl, fun h => absurd h (Nat.not_lt_zero _), fun h => absurd h (Nat.not_lt_zero _), fun h => absurd h (Nat.not_lt_zero _)⟩
 case round =>
  obtain ⟨k, hk, hg, rfl, rfl, z0, z1, z2⟩ := hrel
  match k, hk with
  | 0, _ =>
   by_cases q : x0 = 0
   ·go_wp2
    go_roundg 2
    case measure => omega
    case rel => exact ⟨1, by omega, by omega, by go_num, rfl, fun _ => q, fun h => absurd h (by omega), fun h => absurd h (by omega)⟩
   ·go_wp2
    go_ret
    exact ⟨by first | rfl | rw [if_pos q], rfl⟩
  | 1, _ =>
   have q0 := z0 (by omega)
   by_cases q : x1 = 0
   ·go_wp2
    go_roundg 1
    case measure => omega
    case rel => exact ⟨2, by omega, by omega, by go_num, rfl, fun _ => q0, fun _ => q, fun h => absurd h (by omega)⟩
   ·go_wp2
    go_ret
    exact ⟨by first | rfl | rw [if_neg (fun h => h q0), if_pos q], rfl⟩
  | 2, _ =>
   have q0 := z0 (by omega)
   have q1 := z1 (by omega)
   by_cases q : x2 = 0
   ·go_wp2
    go_roundg 0
    case measure => omega
    case rel => exact ⟨3, by omega, by omega, by go_num, rfl, fun _ => q0, fun _ => q1, fun _ => q⟩
   ·go_wp2
    go_ret
    exact ⟨by first | rfl | rw [if_neg (fun h => h q0), if_neg (fun h => h q1)], rfl⟩
  | 3, _ =>
   have q0 := z0 (by omega)
   have q1 := z1 (by omega)
   have q2 := z2 (by omega)
   go_wp2
   go_ret
   exact ⟨by first | rfl | rw [if_neg (fun h => h q0), if_neg (fun h => h q1), q2], rfl⟩
theorem rClosure (a0 a1 a2 b0 b1 b2 : Int) (W : World) : Calls Tryz.prog 48 #[.agg #[.int .i64 a0, .int .i64 a1, .int .i64 a2], .agg #[.int .i64 b0, .int .i64 b1, .int .i64 b2]] W fun e w' =>
 e = .returned (.int .i64 (if Go.Ax.Gm.cmpI a0 b0 ≠ 0 then Go.Ax.Gm.cmpI a0 b0 else if Go.Ax.Gm.cmpI a1 b1 ≠ 0 then Go.Ax.Gm.cmpI a1 b1 else Go.Ax.Gm.cmpI a2 b2)) ∧ ∃ q os', w' = grow (W.drewN q) os' := by
 have c0 := zJG a0 b0
 have c1 := zJG a1 b1
 have c2 := zJG a2 b2
 generalize Go.Ax.Gm.cmpI a0 b0 = x0 at c0 ⊢
 generalize Go.Ax.Gm.cmpI a1 b1 = x1 at c1 ⊢
 generalize Go.Ax.Gm.cmpI a2 b2 = x2 at c2 ⊢
 have hor := fun b W' h0 h1 h2 => rOr b x0 x1 x2 W' h0 h1 h2
 generalize (if x0 ≠ 0 then x0 else if x1 ≠ 0 then x1 else x2) = res at hor ⊢
 go_enter Tryz.func48, Tryz.ntmps48
 go_wp2_with fail
 refine wp_region_still_tail 15 (by kernel_rfl) (by kernel_rfl) ?_
 simp only [List.take_succ_cons, List.take_zero, List.drop_succ_cons, List.drop_zero]
 change wpStill _ _ (World.drew _) (fun a' => wpList _ _ _ _ a' (World.drew _)) _ _
 generalize hw2 : World.drew _ = w2
 have g0 : w2.cell? ⟨W.heap.size, 0, none⟩ = some (.int .i64 a0) := by rw [← hw2]; simp
 have g1 : w2.cell? ⟨W.heap.size, 1, none⟩ = some (.int .i64 a1) := by rw [← hw2]; simp
 have g2 : w2.cell? ⟨W.heap.size, 2, none⟩ = some (.int .i64 a2) := by rw [← hw2]; simp
 have k0 : w2.cell? ⟨W.heap.size + 1, 0, none⟩ = some (.int .i64 b0) := by rw [← hw2]; simp
 have k1 : w2.cell? ⟨W.heap.size + 1, 1, none⟩ = some (.int .i64 b1) := by rw [← hw2]; simp
 have k2 : w2.cell? ⟨W.heap.size + 1, 2, none⟩ = some (.int .i64 b2) := by rw [← hw2]; simp
 have e2 : ∃ q os', w2 = grow (W.drewN q) os' := ⟨1, _, by rw [← hw2, alloc_eq_grow, alloc_eq_grow, grow_grow]; rfl⟩
 clear hw2
 repeat still_step
 still_call (c0 _)
 repeat still_step
 still_call (c1 _)
 repeat still_step
 still_call (c2 _)
 repeat still_step
 try refine wpStill_nil ?_
 clear c0 c1 c2 g0 g1 g2 k0 k1 k2
 go_wp2_with (go_at_call 49; refine (hor _ _ (by simp) (by simp) (by simp)).mono ?_; rintro e w' ⟨rfl, rfl⟩)
 go_ret
 obtain ⟨q, os, rfl⟩ := e2
 exact ⟨rfl, q, _, by rw [alloc_eq_grow, grow_grow]⟩
end Go.Proofs
namespace Go.Proofs.YtkhdfimdkjjimaaGreatDoor
open Go.Ax
/-- What the walks of this seat know of the listed variables. -/
def pinG (w : World) : Prop := True
 ∧ Lib.TabIs Tryz.prog w "internal/strconv.uint64pow10" .u64 Lib.pow10Tab
 ∧ True
instance : Pins := ⟨fun w _ => pinG w⟩
theorem zOq {n : String} {w w' : World} (h : ∀ b, b < w.heap.size → w'.heap[b]? = w.heap[b]?) {cs : Array Value} (hv : w.var? Tryz.prog n = some cs) : w'.var? Tryz.prog n = some cs := by
 unfold World.var? at hv ⊢
 cases hg : Tryz.prog.globalNamed n with
 | none => simp [hg] at hv
 | some g =>
  simp only [hg, Option.bind_some] at hv ⊢
  have hlt : g < w.heap.size := by
   rcases Nat.lt_or_ge g w.heap.size with q | q
   ·exact q
   ·have : w.heap[g]? = none := by simp [q]
    simp [this] at hv
  rw [h g hlt]; exact hv
theorem pin_up {W : World} {S : Nat → Prop} (h : pinG W) : zC5 W S (fun _ => none) [] := by
 intro w' S' _ _ hb
 have hb' : ∀ b, b < W.heap.size → w'.heap[b]? = W.heap[b]? := fun b hl => hb b hl (by rintro ⟨h, o, s, C, h1, _⟩; simp at h1)
 show pinG w'
 unfold pinG at h ⊢
 obtain ⟨_, h⟩ := h
 obtain ⟨h1, h⟩ := h
 refine ⟨trivial, ?_⟩
 refine ⟨zOq hb' h1, ?_⟩
 trivial
end Go.Proofs.YtkhdfimdkjjimaaGreatDoor
namespace Go.Proofs.YtkhdfimdkjjimaaGreatDoor
open Go.Ax Go.Ax.Idx Go.Ax.Cd
attribute [local irreducible] Ax zCT QOp zd
theorem zMl (l : List Int) (g : FuncId) (caps : List AV) (p : Int → Bool) (hc : noRef.noRefs caps = true) (hlen : l.length ≤ 9223372036854775807) (hp : ∀ x ∈ l, zl Tryz.prog g ([.int .i64 x] ++ caps) (.bool (p x))) :
 zl Tryz.prog 91 [.ro (.ints .i64 l) 0 l.length, .fn g caps] (.int .i64 (zDP p l)) := by
 refine zd.value0 (zL (P := Tryz.prog) (fn := Tryz.f91) U U (by kernel_rfl) U (fun c hR hfix => ?_)) (fix := fun _ => False) (fun _ h => h) (by simp [noRef.noRefs, noRef, hc]) U
 refine rn3 ?_
 refine zAA (ι := Nat) (fun k => [(0, .ro (.ints .i64 l) 0 l.length), (1, .fn g caps), (7, iN l.length), (8, iN k)]) (fun _ => [])
  (fun k => k ≤ l.length ∧ (l.take k).any p = false) (fun k => l.length - k) 0 ⟨⟨rfl, rfl, rfl, rfl, trivial⟩, rfl, Nat.zero_le _, rfl⟩ ?_
 intro k ⟨hk, hany⟩
 refine rn4 ?_
 refine zF U (fun h => ?_) (fun h => ?_)
 ·have hk' : k < l.length := by omega
  have hanys := zBr p l 0 k hk'
  refine rn6 ?_
  refine zQ U U U (hp _ (zAR 0 hk')) ?_
  refine rn0 ?_
  refine zAQ U (fun h2 => ?_) (fun h2 => ?_)
  ·refine rn6 ?_
   refine zN hR U ?_
   have := zBl p l k hany hk
   rw [zDz l 0 k hk'] at this
   simp only [zDP, h2, if_true] at this
   rw [this]; simp [zDo]
  ·refine rn5 ?_
   refine zR ⟨k + 1, ⟨by omega, by rw [hanys, hany, h2]; rfl⟩, by omega, ⟨U, U, U, U, trivial⟩, U⟩
 ·have hk' : k = l.length := by omega
  subst hk'
  refine rn5 ?_
  refine zN hR U ?_
  have := zBl p l l.length hany hk
  rw [List.drop_length] at this
  rw [this]; rfl
theorem zHg (l : List Int) (g : FuncId) (caps : List AV) (p : Int → Bool) (hc : noRef.noRefs caps = true) (hlen : l.length ≤ 9223372036854775807) (hp : ∀ x ∈ l, zl Tryz.prog g ([.int .i64 x] ++ caps) (.bool (p x))) :
 zl Tryz.prog 65 [.ro (.ints .i64 l) 0 l.length, .fn g caps] (.bool (l.any p)) := by
 refine zd.value0 (zL (P := Tryz.prog) (fn := Tryz.f65) U U (by kernel_rfl) U (fun c hR hfix => ?_)) (fix := fun _ => False) (fun _ h => h) (by simp [noRef.noRefs, noRef, hc]) U
 refine rn0 ?_
 refine zQ U U U (zMl l g caps p hc hlen hp) ?_
 refine rn8 ?_
 refine zN hR U ?_
 simp only [zDo, zHB]
theorem zLc (l : List Int) (hl : l.length ≤ 1000000) : zHy Tryz.prog 41 [.ro (.ints .i64 l) 0 l.length] (fun N => .sl N 0 l.length) ⟨3, .ints .i64 l⟩ := by
 refine zd.fresh (K := fun r H => r = .sl 0 0 l.length ∧ H = [some ⟨3, .ints .i64 l⟩]) (zL (P := Tryz.prog) (fn := Tryz.f41) U U (by kernel_rfl) U (fun c hR hfix => ?_)) (fix := fun _ => False) (fun _ h => h) U (fun H => ⟨U, by simp [zGf, inB]⟩) ?_
 ·refine rn0 ?_
  refine zIa U U U (fun b hb => ?_)
  refine rn0 ?_
  refine zAQ U (fun h => ?_) (fun h => ?_)
  ·have := hb h
   have hn : l = [] := List.length_eq_zero_iff.mp this
   subst hn
   refine rn7 ?_
   refine zCF 2 ⟨3, .ints .i64 []⟩ U U ?_
   refine rn2 ?_
   exact zN hR U ⟨U, U⟩
  ·refine rn1 ?_
   refine zCj U U U U U U U U U U ?_
   refine zBH [some ⟨3, .ints .i64 []⟩] (zAs.eqv ⟨U, U, fun i j hi => absurd hi (Nat.not_lt_zero _)⟩ zAs.nil) ?_
   repeat (refine zA (zG rfl) ?_)
   refine zAt U U U U U U U U U U U U (by show 0 + l.length ≤ l.length; omega) U (by show (0 + l.length) * 8 ≤ _ ∧ _; omega) (fun i j _ _ => rfl) (by rw [hfix]; exact fun h => h) ?_
   refine rn0 ?_
   refine zN hR U ⟨?_, ?_⟩
   ·show AV.sl 0 0 (0 + l.length) = _; rw [Nat.zero_add]
   ·show ([some ⟨3, .ints .i64 ([] ++ List.take l.length (List.drop 0 l))⟩] : zP) = _
    simp
 ·rintro r H ⟨rfl, rfl⟩
  refine ⟨?_, fun h o ho => zEN zAb h o ho, 0, U, fun n => rfl⟩
  intro o ho; simp at ho; subst ho; show 0 + l.length ≤ l.length; omega
end Go.Proofs.YtkhdfimdkjjimaaGreatDoor
namespace Go.Proofs.YtkhdfimdkjjimaaGreatDoor
open Go.Ax Go.Ax.Gm Go.RowKit Go.Ax.Idx Go.Ax.Cd
attribute [local irreducible] Ax zCT QOp zd
theorem zLw (l : List Go.Ax.Gm.Pc) (m : Nat) (g : FuncId) (caps : List AV) (p : Go.Ax.Gm.Pc → Bool) (hm : m ≤ l.length) (hc : noRef.noRefs caps = true) (hlen : l.length ≤ 9223372036854775807) (hp : ∀ x ∈ l, zl Tryz.prog g ([.agg (pcC x)] ++ caps) (.bool (p x))) :
 zl Tryz.prog 114 [.ro (zAj l) 0 m, .fn g caps] (.int .i64 (zDP p (l.take m))) := by
 refine zd.value0 (zL (P := Tryz.prog) (fn := Tryz.f114) U U (by kernel_rfl) U (fun c hR hfix => ?_)) (fix := fun _ => False) (fun _ h => h) (by simp [noRef.noRefs, noRef, hc]) U
 have hlt : (l.take m).length = m := by rw [List.length_take]; omega
 refine rn3 ?_
 refine zAA (ι := Nat) (fun k => [(0, .ro (zAj l) 0 m), (1, .fn g caps), (7, iN m), (8, iN k)]) (fun _ => [])
  (fun k => k ≤ m ∧ ((l.take m).take k).any p = false) (fun k => m - k) 0 ⟨⟨rfl, rfl, rfl, rfl, trivial⟩, rfl, Nat.zero_le _, rfl⟩ ?_
 intro k ⟨hk, hany⟩
 refine rn4 ?_
 refine zF U (fun h => ?_) (fun h => ?_)
 ·have hk' : k < m := by omega
  have hkl : k < l.length := by omega
  have hg : (l.take m).getD k pc0 = l.getD k pc0 := by simp [List.getD, hk', hkl]
  have hanys := zBr p (l.take m) pc0 k (by omega)
  rw [hg] at hanys
  refine rn6 ?_
  refine zQ U U U (hp _ (zAR pc0 hkl)) ?_
  refine rn0 ?_
  refine zAQ U (fun h2 => ?_) (fun h2 => ?_)
  ·refine rn6 ?_
   refine zN hR U ?_
   have := zBl p (l.take m) k hany (by omega)
   rw [zDz (l.take m) pc0 k (by omega), hg] at this
   simp only [zDP, h2, if_true] at this
   rw [this]; simp [zDo]
  ·refine rn5 ?_
   refine zR ⟨k + 1, ⟨by omega, by rw [hanys, hany, h2]; rfl⟩, by omega, ⟨U, U, U, U, trivial⟩, U⟩
 ·have hk' : k = m := by omega
  subst hk'
  refine rn5 ?_
  refine zN hR U ?_
  have := zBl p (l.take k) k hany (by omega)
  rw [List.drop_of_length_le (by omega)] at this
  rw [this]; rfl
theorem zMe (l : List Go.Ax.Gm.Pc) (m : Nat) (g : FuncId) (caps : List AV) (p : Go.Ax.Gm.Pc → Bool) (hm : m ≤ l.length) (hc : noRef.noRefs caps = true) (hlen : l.length ≤ 9223372036854775807) (hp : ∀ x ∈ l, zl Tryz.prog g ([.agg (pcC x)] ++ caps) (.bool (p x))) :
 zl Tryz.prog 97 [.ro (zAj l) 0 m, .fn g caps] (.bool ((l.take m).any p)) := by
 refine zd.value0 (zL (P := Tryz.prog) (fn := Tryz.f97) U U (by kernel_rfl) U (fun c hR hfix => ?_)) (fix := fun _ => False) (fun _ h => h) (by simp [noRef.noRefs, noRef, hc]) U
 refine rn0 ?_
 refine zQ U U U (zLw l m g caps p hm hc hlen hp) ?_
 refine rn8 ?_
 refine zN hR U ?_
 simp only [zDo, zHB]
theorem zLu (l : List Go.Ax.Gm.En) (m : Nat) (g : FuncId) (caps : List AV) (p : Go.Ax.Gm.En → Bool) (hm : m ≤ l.length) (hc : noRef.noRefs caps = true) (hlen : l.length ≤ 9223372036854775807) (hp : ∀ x ∈ l, zl Tryz.prog g ([.agg (enC x)] ++ caps) (.bool (p x))) :
 zl Tryz.prog 70 [.ro (zEv l) 0 m, .fn g caps] (.int .i64 (zDP p (l.take m))) := by
 refine zd.value0 (zL (P := Tryz.prog) (fn := Tryz.f70) U U (by kernel_rfl) U (fun c hR hfix => ?_)) (fix := fun _ => False) (fun _ h => h) (by simp [noRef.noRefs, noRef, hc]) U
 have hlt : (l.take m).length = m := by rw [List.length_take]; omega
 refine rn3 ?_
 refine zAA (ι := Nat) (fun k => [(0, .ro (zEv l) 0 m), (1, .fn g caps), (7, iN m), (8, iN k)]) (fun _ => [])
  (fun k => k ≤ m ∧ ((l.take m).take k).any p = false) (fun k => m - k) 0 ⟨⟨rfl, rfl, rfl, rfl, trivial⟩, rfl, Nat.zero_le _, rfl⟩ ?_
 intro k ⟨hk, hany⟩
 refine rn4 ?_
 refine zF U (fun h => ?_) (fun h => ?_)
 ·have hk' : k < m := by omega
  have hkl : k < l.length := by omega
  have hg : (l.take m).getD k en0 = l.getD k en0 := by simp [List.getD, hk', hkl]
  have hanys := zBr p (l.take m) en0 k (by omega)
  rw [hg] at hanys
  refine rn6 ?_
  refine zQ U U U (hp _ (zAR en0 hkl)) ?_
  refine rn0 ?_
  refine zAQ U (fun h2 => ?_) (fun h2 => ?_)
  ·refine rn6 ?_
   refine zN hR U ?_
   have := zBl p (l.take m) k hany (by omega)
   rw [zDz (l.take m) en0 k (by omega), hg] at this
   simp only [zDP, h2, if_true] at this
   rw [this]; simp [zDo]
  ·refine rn5 ?_
   refine zR ⟨k + 1, ⟨by omega, by rw [hanys, hany, h2]; rfl⟩, by omega, ⟨U, U, U, U, trivial⟩, U⟩
 ·have hk' : k = m := by omega
  subst hk'
  refine rn5 ?_
  refine zN hR U ?_
  have := zBl p (l.take k) k hany (by omega)
  rw [List.drop_of_length_le (by omega)] at this
  rw [this]; rfl
theorem zLv (l : List Go.Ax.Gm.Mv) (m : Nat) (g : FuncId) (caps : List AV) (p : Go.Ax.Gm.Mv → Bool) (hm : m ≤ l.length) (hc : noRef.noRefs caps = true) (hlen : l.length ≤ 9223372036854775807) (hp : ∀ x ∈ l, zl Tryz.prog g ([.agg (mvC x)] ++ caps) (.bool (p x))) :
 zl Tryz.prog 112 [.ro (zAv l) 0 m, .fn g caps] (.int .i64 (zDP p (l.take m))) := by
 refine zd.value0 (zL (P := Tryz.prog) (fn := Tryz.f112) U U (by kernel_rfl) U (fun c hR hfix => ?_)) (fix := fun _ => False) (fun _ h => h) (by simp [noRef.noRefs, noRef, hc]) U
 have hlt : (l.take m).length = m := by rw [List.length_take]; omega
 refine rn3 ?_
 refine zAA (ι := Nat) (fun k => [(0, .ro (zAv l) 0 m), (1, .fn g caps), (7, iN m), (8, iN k)]) (fun _ => [])
  (fun k => k ≤ m ∧ ((l.take m).take k).any p = false) (fun k => m - k) 0 ⟨⟨rfl, rfl, rfl, rfl, trivial⟩, rfl, Nat.zero_le _, rfl⟩ ?_
 intro k ⟨hk, hany⟩
 refine rn4 ?_
 refine zF U (fun h => ?_) (fun h => ?_)
 ·have hk' : k < m := by omega
  have hkl : k < l.length := by omega
  have hg : (l.take m).getD k mv0 = l.getD k mv0 := by simp [List.getD, hk', hkl]
  have hanys := zBr p (l.take m) mv0 k (by omega)
  rw [hg] at hanys
  refine rn6 ?_
  refine zQ U U U (hp _ (zAR mv0 hkl)) ?_
  refine rn0 ?_
  refine zAQ U (fun h2 => ?_) (fun h2 => ?_)
  ·refine rn6 ?_
   refine zN hR U ?_
   have := zBl p (l.take m) k hany (by omega)
   rw [zDz (l.take m) mv0 k (by omega), hg] at this
   simp only [zDP, h2, if_true] at this
   rw [this]; simp [zDo]
  ·refine rn5 ?_
   refine zR ⟨k + 1, ⟨by omega, by rw [hanys, hany, h2]; rfl⟩, by omega, ⟨U, U, U, U, trivial⟩, U⟩
 ·have hk' : k = m := by omega
  subst hk'
  refine rn5 ?_
  refine zN hR U ?_
  have := zBl p (l.take k) k hany (by omega)
  rw [List.drop_of_length_le (by omega)] at this
  rw [this]; rfl
/-- rules.within -/
theorem zA6 (n a b : Int) : zl Tryz.prog 75 [.int .i64 n, .int .i64 a, .int .i64 b] (.bool (within n a b)) := by
 refine zd.value0 (zL (P := Tryz.prog) (fn := Tryz.f75) U U (by kernel_rfl) U (fun c hR hfix => ?_)) (fix := fun _ => False) (fun _ h => h) U U
 refine rn7 ?_
 refine zj U U (fun h => ?_) (fun h => ?_)
 ·refine rn8 ?_
  refine zN hR U ?_
  have h : a ≤ n := h
  unfold within; rw [decide_eq_true h]; rfl
 ·refine rn6 ?_
  refine zN hR U ?_
  have h : ¬ a ≤ n := h
  unfold within; rw [decide_eq_false h]; rfl
/-- rules.Name -/
theorem name_ok (s : zCc) (hs : s.length ≤ 9223372036854775807) : zl Tryz.prog 74 [.str s] (.bool (zKM s)) := by
 refine zd.value0 (zL (P := Tryz.prog) (fn := Tryz.f74) U U (by kernel_rfl) U (fun c hR hfix => ?_)) (fix := fun _ => False) (fun _ h => h) U U
 refine rn6 ?_
 refine zAA (ι := Nat) (fun k => [(0, .str s), (6, iN s.length), (7, iN k)]) (fun _ => [])
  (fun k => k ≤ s.length ∧ (List.range k).all (zGR s) = true) (fun k => s.length - k) 0 ⟨⟨rfl, rfl, rfl, trivial⟩, rfl, Nat.zero_le _, rfl⟩ ?_
 intro k ⟨hk, hall⟩
 refine rn4 ?_
 refine zF U (fun h => ?_) (fun h => ?_)
 ·have hk' : k < s.length := by omega
  have hall' : (List.range (k + 1)).all (zGR s) = ((List.range k).all (zGR s) && zGR s k) := by rw [List.range_succ, List.all_append]; simp
  rw [hall, Bool.true_and] at hall'
  have hnat : (s.getD k 0).toNat = (s.getD ((k : Int).toNat) 0).toNat := rfl
  have bad : ((s.getD k 0).toNat < 65 ∨ 90 < (s.getD k 0).toNat) → (k = 0 ∨ (s.getD k 0).toNat < 48 ∨ 57 < (s.getD k 0).toNat) → zKM s = false := fun h1 h2 => by
   have : zGR s k = false := by
    unfold zGR isCap isNum
    rw [Bool.or_eq_false_iff, Bool.and_eq_false_iff, Bool.and_eq_false_iff, decide_eq_false_iff_not, decide_eq_false_iff_not, decide_eq_false_iff_not, Bool.and_eq_false_iff, decide_eq_false_iff_not, decide_eq_false_iff_not]
    omega
   unfold zKM
   rw [show (List.range s.length).all (zGR s) = false from Bool.eq_false_iff.2 (fun q => by rw [List.all_eq_true.1 q k (List.mem_range.2 hk')] at this; cases this)]
   rfl
  have good : ((65 ≤ (s.getD k 0).toNat ∧ (s.getD k 0).toNat ≤ 90) ∨ (k ≠ 0 ∧ 48 ≤ (s.getD k 0).toNat ∧ (s.getD k 0).toNat ≤ 57)) → zGR s k = true := fun h => by
   unfold zGR isCap isNum
   rw [Bool.or_eq_true, Bool.and_eq_true, Bool.and_eq_true, Bool.and_eq_true, decide_eq_true_eq, decide_eq_true_eq, decide_eq_true_eq, decide_eq_true_eq, decide_eq_true_eq]
   exact h
  refine zBz ?_
  refine zj U U (fun h1 => ?_) (fun h1 => ?_)
  ·repeat (first | refine zA (zG rfl) ?_ | refine zA (zM rfl) ?_ | refine zC ?_ | refine zB ?_ | refine zY ?_ | refine zJ rfl ?_ | refine zx rfl rfl ?_ | refine zA (q_leq rfl rfl) ?_ | refine zA (zDl rfl) ?_ | refine zA (zi rfl rfl) ?_ | refine zA (zEM rfl rfl rfl (by first | assumption | omega | simp)) ?_)
   refine zA2 U U (fun h2 => ?_) (fun h2 => ?_)
   ·rw [Bool.not_eq_true', decide_eq_false_iff_not] at h2
    refine rn4 ?_
    refine zj U U (fun h5 => ?_) (fun h5 => ?_)
    ·refine rn6 ?_
     refine zN hR U ?_
     exact congrArg AV.bool (bad (.inr (by omega)) (.inl (by omega))).symm
    ·repeat (first | refine zA (zG rfl) ?_ | refine zx rfl rfl ?_ | refine zA (zCR rfl rfl) ?_ | refine zA (zi rfl rfl) ?_ | refine zA (zEM rfl rfl rfl (by first | assumption | omega | simp)) ?_)
     refine zj U U (fun h6 => ?_) (fun h6 => ?_)
     ·refine rn6 ?_
      refine zN hR U ?_
      exact congrArg AV.bool (bad (.inr (by omega)) (.inr (.inl (by omega)))).symm
     ·repeat (first | refine zA (zG rfl) ?_ | refine zC ?_ | refine zB ?_ | refine zx rfl rfl ?_ | refine zA (zCa rfl rfl) ?_ | refine zA (zi rfl rfl) ?_ | refine zA (zEM rfl rfl rfl (by first | assumption | omega | simp)) ?_)
      refine zF U (fun h7 => ?_) (fun h7 => ?_)
      ·refine rn6 ?_
       refine zN hR U ?_
       exact congrArg AV.bool (bad (.inr (by omega)) (.inr (.inr (by omega)))).symm
      ·refine rn5 ?_
       exact zR ⟨k + 1, ⟨by omega, by rw [hall']; exact good (.inr ⟨by omega, by omega, by omega⟩)⟩, by omega, ⟨U, U, U, trivial⟩, U⟩
   ·rw [Bool.not_eq_false', decide_eq_true_eq] at h2
    refine rn14 ?_
    exact zR ⟨k + 1, ⟨by omega, by rw [hall']; exact good (.inl ⟨by omega, by omega⟩)⟩, by omega, ⟨U, U, U, trivial⟩, U⟩
  ·refine rn6 ?_
   refine zj U U (fun h5 => ?_) (fun h5 => ?_)
   ·refine rn6 ?_
    refine zN hR U ?_
    exact congrArg AV.bool (bad (.inl (by omega)) (.inl (by omega))).symm
   ·repeat (first | refine zA (zG rfl) ?_ | refine zx rfl rfl ?_ | refine zA (zCR rfl rfl) ?_ | refine zA (zi rfl rfl) ?_ | refine zA (zEM rfl rfl rfl (by first | assumption | omega | simp)) ?_)
    refine zj U U (fun h6 => ?_) (fun h6 => ?_)
    ·refine rn6 ?_
     refine zN hR U ?_
     exact congrArg AV.bool (bad (.inl (by omega)) (.inr (.inl (by omega)))).symm
    ·repeat (first | refine zA (zG rfl) ?_ | refine zC ?_ | refine zB ?_ | refine zx rfl rfl ?_ | refine zA (zCa rfl rfl) ?_ | refine zA (zi rfl rfl) ?_ | refine zA (zEM rfl rfl rfl (by first | assumption | omega | simp)) ?_)
     refine zF U (fun h7 => ?_) (fun h7 => ?_)
     ·refine rn6 ?_
      refine zN hR U ?_
      exact congrArg AV.bool (bad (.inl (by omega)) (.inr (.inr (by omega)))).symm
     ·refine rn5 ?_
      exact zR ⟨k + 1, ⟨by omega, by rw [hall']; exact good (.inr ⟨by omega, by omega, by omega⟩)⟩, by omega, ⟨U, U, U, trivial⟩, U⟩
 ·have hk' : k = s.length := by omega
  subst hk'
  repeat (first | refine zA (zG rfl) ?_ | refine zB ?_ | refine zY ?_ | refine zJ rfl ?_ | refine zCU ?_ | refine zAr ?_ | refine zAq ?_ | refine zAw ?_ | refine zA (zHK rfl rfl) ?_)
  refine zj U U (fun h1 => ?_) (fun h1 => ?_)
  ·refine rn8 ?_
   refine zN hR U ?_
   have h1 : ¬ s = [] := h1
   unfold zKM
   rw [hall, Bool.true_and, decide_eq_true (p := s ≠ []) h1, Bool.true_and]
   exact congrArg AV.bool (decide_eq_decide.2 (by omega))
  ·refine rn6 ?_
   refine zN hR U ?_
   have h1 : s = [] := Classical.not_not.1 h1
   rw [h1]; rfl
/-- rules.pieces$1 -/
theorem zMw (q p : Pc) : zl Tryz.prog 98 [.agg (pcC q), .rp (.box (pcC p)) 0 0] (.bool (decide (q.letter = p.letter))) := by
 refine zd.value0 (zL (P := Tryz.prog) (fn := Tryz.f98) U U (by kernel_rfl) U (fun c hR hfix => ?_)) (fix := fun _ => False) (fun _ h => h) U U
 repeat (first | refine zA (zM rfl) ?_ | refine zC ?_ | refine zB ?_ | refine zY ?_ | refine zJ rfl ?_ | refine z6 ?_ | refine zA (zU rfl rfl rfl rfl rfl) ?_ | refine zA (zBp rfl rfl) ?_ | refine zA (zD rfl rfl rfl rfl) ?_ | refine zA (zO rfl rfl rfl rfl rfl rfl) ?_ | refine zA (zK rfl rfl rfl rfl rfl rfl) ?_ | refine zAO rfl rfl ?_)
 exact zN hR U U
/-- rules.pieces -/
theorem zON (r : Go.Ax.Gm.Rules) (hr : Lens r) : zl Tryz.prog 76 [ruA r] (.int .i64 (zCr r.pcs)) := by
 refine zd.value0 (zL (P := Tryz.prog) (fn := Tryz.f76) U U (by kernel_rfl) U (fun c hR hfix => ?_)) (fix := fun _ => False) (fun _ h => h) U U
 have hpl := hr.pcs
 refine zY ?_
 repeat (first | refine zA (zM rfl) ?_ | refine zC ?_ | refine zB ?_ | refine zJ rfl ?_ | refine zAO rfl rfl ?_)
 refine zBi 1 [(2, .int .i64 0)] U ⟨U, U, trivial⟩ ⟨U, trivial⟩ U hfix ?_
 refine zBz ?_
 refine zF U (fun h => ?_) (fun h => ?_)
 ·refine rn2 ?_
  refine zN hR U ?_
  unfold zCr; rw [if_pos (by omega)]; rfl
 repeat (first | refine zC ?_ | refine zB ?_ | refine zY ?_ | refine zJ rfl ?_ | refine zAP ?_ | refine zA (zCa rfl rfl) ?_ | refine zA (zBK rfl rfl rfl) ?_ | refine zA (zD rfl rfl rfl rfl) ?_ | refine zA (zK rfl rfl rfl rfl rfl rfl) ?_)
 refine zF U (fun h1 => ?_) (fun h1 => ?_)
 ·refine rn2 ?_
  refine zN hR U ?_
  unfold zCr; rw [if_neg (by omega), if_pos (by omega)]; rfl
 refine zBz ?_
 refine zAA (ι := Nat) (fun k => [(1, .rp (.box (ruC r)) 0 0), (16, .ro (zAj r.pcs) 0 r.pcs.length), (17, iN r.pcs.length), (18, iN k)]) (fun _ => [])
  (fun k => k ≤ r.pcs.length ∧ upE (zDD r.pcs) k = 0) (fun k => r.pcs.length - k) 0 ⟨⟨rfl, rfl, rfl, rfl, trivial⟩, rfl, Nat.zero_le _, rfl⟩ ?_
 intro k ⟨hk, hup⟩
 refine rn4 ?_
 refine zF U (fun h2 => ?_) (fun h2 => ?_)
 ·have hk' : k < r.pcs.length := by omega
  have done : ∀ e, zDD r.pcs k = e → e ≠ 0 → zCr r.pcs = e := fun e he hne => by
   unfold zCr
   rw [if_neg (by omega), if_neg (by omega), zJb hup (by rw [he]; exact hne) hk', he]
  generalize hp : r.pcs.getD k pc0 = p
  have hpw := hr.ways p (by rw [← hp]; exact zAR pc0 hk')
  refine zGo ?_
  refine rn8 ?_
  refine zZ (pcC p) U U U U U (by rw [← hp]; rfl) U ?_
  refine rn0 ?_
  refine zBi 4 [(1, .rp (.box (ruC r)) 0 0), (16, .ro (zAj r.pcs) 0 r.pcs.length), (17, iN r.pcs.length), (18, iN k), (3, iN k)] U ⟨U, U, U, U, U, U, trivial⟩ ⟨U, U, U, U, U, trivial⟩ U hfix ?_
  repeat (first | refine zA (zG rfl) ?_ | refine zY ?_ | refine zJ rfl ?_ | refine zAX ?_ | refine zA (zCR rfl rfl) ?_ | refine zA (zD rfl rfl rfl rfl) ?_ | refine zA (zK rfl rfl rfl rfl rfl rfl) ?_)
  refine zj U U (fun h3 => ?_) (fun h3 => ?_)
  ·refine rn6 ?_
   refine zN hR U ?_
   rw [done 6 (by unfold zDD; rw [hp, if_pos (.inl h3)]) (by decide)]; rfl
  refine zBG ?_
  refine zF U (fun h4 => ?_) (fun h4 => ?_)
  ·refine rn6 ?_
   refine zN hR U ?_
   rw [done 6 (by unfold zDD; rw [hp, if_pos (.inr h4)]) (by decide)]; rfl
  repeat (first | refine zA (zG rfl) ?_ | refine zY ?_ | refine zJ rfl ?_ | refine zA (zFM rfl rfl rfl rfl rfl rfl rfl (by omega)) ?_ | refine zA (zD rfl rfl rfl rfl) ?_ | refine zA (zCn rfl) ?_ | refine zA (zK rfl rfl rfl rfl rfl rfl) ?_)
  refine zQ U U U (zMe r.pcs k 98 [.rp (.box (pcC p)) 0 0] (fun q => decide (q.letter = p.letter)) (by omega) U hpl (fun q _ => zMw q p)) ?_
  refine rn0 ?_
  refine zAQ U (fun h5 => ?_) (fun h5 => ?_)
  ·refine rn6 ?_
   refine zN hR U ?_
   rw [done 7 (by unfold zDD; rw [hp, if_neg (by omega), if_pos h5]) (by decide)]; rfl
  have h5 : ¬ ((r.pcs.take k).any (fun q => decide (q.letter = p.letter)) = true) := by rw [h5]; exact Bool.false_ne_true
  refine zBz ?_
  refine zQ U U U (zA6 _ _ _) ?_
  refine rn5 ?_
  refine zA2 U U (fun h6 => ?_) (fun h6 => ?_)
  ·refine rn6 ?_
   refine zN hR U ?_
   rw [Bool.not_eq_true'] at h6
   rw [done 4 (by unfold zDD; rw [hp, if_neg (by omega), if_neg h5, if_pos (fun q => by rw [h6] at q; exact Bool.false_ne_true q.1)]) (by decide)]; rfl
  rw [Bool.not_eq_false'] at h6
  refine zBG ?_
  refine zQ U U U (zA6 _ _ _) ?_
  refine rn5 ?_
  refine zAQ U (fun h7 => ?_) (fun h7 => ?_)
  ·refine rn6 ?_
   refine zN hR U ?_
   rw [Bool.not_eq_true'] at h7
   rw [done 4 (by unfold zDD; rw [hp, if_neg (by omega), if_neg h5, if_pos (fun q => by rw [h7] at q; exact Bool.false_ne_true q.2)]) (by decide)]; rfl
  rw [Bool.not_eq_false'] at h7
  have h67 : ¬ ¬ (within p.hand 0 64 = true ∧ within p.promote 0 r.pcs.length = true) := fun q => q ⟨h6, h7⟩
  repeat (first | refine zA (zM rfl) ?_ | refine zC ?_ | refine zB ?_ | refine zY ?_ | refine zJ rfl ?_ | refine zA (zCa rfl rfl) ?_ | refine zA (zBK rfl rfl rfl) ?_ | refine zA (zD rfl rfl rfl rfl) ?_ | refine zA (zK rfl rfl rfl rfl rfl rfl) ?_)
  refine zF U (fun h8 => ?_) (fun h8 => ?_)
  ·refine rn6 ?_
   refine zN hR U ?_
   rw [done 2 (by unfold zDD; rw [hp, if_neg (by omega), if_neg h5, if_neg h67, if_pos (by omega)]) (by decide)]; rfl
  have bad : p.ways.all zEQ = false → zCr r.pcs = 4 := fun q => done 4 (by unfold zDD; rw [hp, if_neg (by omega), if_neg h5, if_neg h67, if_neg (by omega), if_pos q]) (by decide)
  refine zBz ?_
  refine zAA (ι := Nat) (fun j => [(1, .rp (.box (ruC r)) 0 0), (16, .ro (zAj r.pcs) 0 r.pcs.length), (17, iN r.pcs.length), (18, iN k), (59, .ro (zE9 p.ways) 0 p.ways.length), (60, iN p.ways.length), (61, iN j)]) (fun _ => [])
   (fun j => j ≤ p.ways.length ∧ (p.ways.take j).all zEQ = true) (fun j => p.ways.length - j) 0 ⟨⟨rfl, rfl, rfl, rfl, rfl, rfl, rfl, trivial⟩, rfl, Nat.zero_le _, rfl⟩ ?_
  intro j ⟨hj, hall⟩
  refine rn4 ?_
  refine zF U (fun g1 => ?_) (fun g1 => ?_)
  ·have hj' : j < p.ways.length := by omega
   generalize hw : p.ways.getD j way0 = w
   have hwm : w ∈ p.ways := by rw [← hw]; exact zAR way0 hj'
   have no : zEQ w = false → zCr r.pcs = 4 := fun q => bad (Bool.eq_false_iff.2 (fun q2 => by rw [List.all_eq_true.1 q2 w hwm] at q; cases q))
   have yes : zEQ w = true → (p.ways.take (j + 1)).all zEQ = true := fun q => by rw [zAE _ way0 j hj', List.all_append, hall, hw]; simp [q]
   refine zGo ?_
   repeat (refine zAI rfl rfl rfl ?_)
   refine zZ (zF5 w) U U U U U (by rw [← hw]; rfl) U ?_
   refine zBG ?_
   refine zBi 6 [(1, .rp (.box (ruC r)) 0 0), (16, .ro (zAj r.pcs) 0 r.pcs.length), (17, iN r.pcs.length), (18, iN k), (59, .ro (zE9 p.ways) 0 p.ways.length), (60, iN p.ways.length), (61, iN j)] U ⟨U, U, U, U, U, U, U, U, trivial⟩ ⟨U, U, U, U, U, U, U, trivial⟩ U hfix ?_
   refine zBz ?_
   refine zQ U U U (zA6 _ _ _) ?_
   refine rn5 ?_
   refine zA2 U U (fun g2 => ?_) (fun g2 => ?_)
   ·repeat (first | refine zA (zG rfl) ?_ | refine zA (zM rfl) ?_ | refine zC ?_ | refine zB ?_ | refine zY ?_ | refine zJ rfl ?_ | refine zAu rfl rfl ?_ | refine zAZ rfl rfl rfl ?_ | refine zAi rfl ?_ | refine z6 ?_ | refine zA9 ?_ | refine zD5 ?_ | refine zFD ?_ | refine zA (zi rfl rfl) ?_)
    refine zN hR U ?_
    rw [Bool.not_eq_true'] at g2
    rw [no (by unfold zEQ; rw [g2]; rfl)]; rfl
   rw [Bool.not_eq_false'] at g2
   refine zBG ?_
   refine zQ U U U (zA6 _ _ _) ?_
   refine rn5 ?_
   refine zA2 U U (fun g3 => ?_) (fun g3 => ?_)
   ·repeat (first | refine zA (zG rfl) ?_ | refine zA (zM rfl) ?_ | refine zC ?_ | refine zB ?_ | refine zY ?_ | refine zJ rfl ?_ | refine zAu rfl rfl ?_ | refine zAZ rfl rfl rfl ?_ | refine zAi rfl ?_ | refine z6 ?_ | refine zA9 ?_ | refine zD5 ?_ | refine zFD ?_ | refine zA (zi rfl rfl) ?_)
    refine zN hR U ?_
    rw [Bool.not_eq_true'] at g3
    rw [no (by unfold zEQ; rw [g2, g3]; rfl)]; rfl
   rw [Bool.not_eq_false'] at g3
   refine zBG ?_
   refine zj U U (fun g4 => ?_) (fun g4 => ?_)
   ·refine zBG ?_
    refine zj U U (fun g5 => ?_) (fun g5 => ?_)
    ·refine rn6 ?_
     refine zN hR U ?_
     rw [no (by unfold zEQ; rw [g2, g3, decide_eq_true (show w.dx = 0 from g4), decide_eq_true (show w.dy = 0 from g5)]; rfl)]; rfl
    have gz : (!(decide (w.dx = 0) && decide (w.dy = 0))) = true := by rw [decide_eq_false (show ¬ w.dy = 0 from g5), Bool.and_false]; rfl
    refine zBG ?_
    refine zQ U U U (zA6 _ _ _) ?_
    refine rn5 ?_
    refine zA2 U U (fun g6 => ?_) (fun g6 => ?_)
    ·refine rn6 ?_
     refine zN hR U ?_
     rw [Bool.not_eq_true'] at g6
     rw [no (by unfold zEQ; rw [g2, g3, gz, g6]; rfl)]; rfl
    rw [Bool.not_eq_false'] at g6
    refine zBG ?_
    refine zQ U U U (zA6 _ _ _) ?_
    refine rn5 ?_
    refine zAQ U (fun g7 => ?_) (fun g7 => ?_)
    ·refine rn6 ?_
     refine zN hR U ?_
     rw [Bool.not_eq_true'] at g7
     rw [no (by unfold zEQ; rw [g2, g3, gz, g6, g7]; rfl)]; rfl
    rw [Bool.not_eq_false'] at g7
    refine rn5 ?_
    exact zR ⟨j + 1, ⟨by omega, yes (by unfold zEQ; rw [g2, g3, gz, g6, g7]; rfl)⟩, by omega, ⟨U, U, U, U, U, U, U, trivial⟩, U⟩
   have gz : (!(decide (w.dx = 0) && decide (w.dy = 0))) = true := by rw [decide_eq_false (show ¬ w.dx = 0 from g4)]; rfl
   refine zBG ?_
   refine zQ U U U (zA6 _ _ _) ?_
   refine rn5 ?_
   refine zA2 U U (fun g6 => ?_) (fun g6 => ?_)
   ·refine rn6 ?_
    refine zN hR U ?_
    rw [Bool.not_eq_true'] at g6
    rw [no (by unfold zEQ; rw [g2, g3, gz, g6]; rfl)]; rfl
   rw [Bool.not_eq_false'] at g6
   refine zBG ?_
   refine zQ U U U (zA6 _ _ _) ?_
   refine rn5 ?_
   refine zAQ U (fun g7 => ?_) (fun g7 => ?_)
   ·refine rn6 ?_
    refine zN hR U ?_
    rw [Bool.not_eq_true'] at g7
    rw [no (by unfold zEQ; rw [g2, g3, gz, g6, g7]; rfl)]; rfl
   rw [Bool.not_eq_false'] at g7
   refine rn5 ?_
   exact zR ⟨j + 1, ⟨by omega, yes (by unfold zEQ; rw [g2, g3, gz, g6, g7]; rfl)⟩, by omega, ⟨U, U, U, U, U, U, U, trivial⟩, U⟩
  ·have hj' : j = p.ways.length := by omega
   subst hj'
   rw [List.take_length] at hall
   refine rn5 ?_
   refine zR ⟨k + 1, ⟨by omega, zMT hup (by unfold zDD; rw [hp, if_neg (by omega), if_neg h5, if_neg h67, if_neg (by omega), if_neg (by rw [hall]; decide)])⟩, by omega, ⟨U, U, U, U, trivial⟩, U⟩
 ·have hk' : k = r.pcs.length := by omega
  subst hk'
  refine rn5 ?_
  refine zN hR U ?_
  unfold zCr; rw [if_neg (by omega), if_neg (by omega), hup]; rfl
/-- rules.Check$1 -/
theorem zNr (r : Go.Ax.Gm.Rules) (hr : Lens r) (h6 : r.pcs.length ≤ 6) (c0 : Int) : zl Tryz.prog 77 [.int .i64 c0, .rp (.box (ruC r)) 0 0] (.bool (!(zFT r.pcs.length c0))) := by
 refine zd.value0 (zL (P := Tryz.prog) (fn := Tryz.f77) U U (by kernel_rfl) U (fun c hR hfix => ?_)) (fix := fun _ => False) (fun _ h => h) U U
 have hpl := hr.pcs
 refine zBz ?_
 refine zA (zDF U U (by omega)) ?_
 skip
 refine zQ U U U (zA6 _ _ _) ?_
 refine rn5 ?_
 exact zN hR U U
/-- rules.conditions -/
theorem zJj (r : Go.Ax.Gm.Rules) (hr : Lens r) : zl Tryz.prog 78 [ruA r] (.int .i64 (zH4 r.pcs.length r.ends)) := by
 refine zd.value0 (zL (P := Tryz.prog) (fn := Tryz.f78) U U (by kernel_rfl) U (fun c hR hfix => ?_)) (fix := fun _ => False) (fun _ h => h) U U
 have hpl := hr.pcs
 have hel := hr.ends
 refine zY ?_
 repeat (first | refine zA (zM rfl) ?_ | refine zC ?_ | refine zB ?_ | refine zJ rfl ?_ | refine zAO rfl rfl ?_)
 refine zBi 1 [(2, .int .i64 0)] U ⟨U, U, trivial⟩ ⟨U, trivial⟩ U hfix ?_
 repeat (first | refine zC ?_ | refine zB ?_ | refine zY ?_ | refine zJ rfl ?_ | refine zA (zCa rfl rfl) ?_ | refine zA (zBK rfl rfl rfl) ?_ | refine zA (zD rfl rfl rfl rfl) ?_ | refine zA (zK rfl rfl rfl rfl rfl rfl) ?_)
 refine zF U (fun h => ?_) (fun h => ?_)
 ·refine rn2 ?_
  refine zN hR U ?_
  unfold zH4; rw [if_pos (by omega)]; rfl
 refine zBz ?_
 refine zAA (ι := Nat) (fun k => [(1, .rp (.box (ruC r)) 0 0), (12, .ro (zEv r.ends) 0 r.ends.length), (13, iN r.ends.length), (14, iN k)]) (fun _ => [])
  (fun k => k ≤ r.ends.length ∧ upE (fun i => zD8 r.pcs.length (r.ends.getD i en0)) k = 0) (fun k => r.ends.length - k) 0 ⟨⟨rfl, rfl, rfl, rfl, trivial⟩, rfl, Nat.zero_le _, rfl⟩ ?_
 intro k ⟨hk, hup⟩
 refine rn4 ?_
 refine zF U (fun h2 => ?_) (fun h2 => ?_)
 ·have hk' : k < r.ends.length := by omega
  generalize hx : r.ends.getD k en0 = x
  have done : ∀ e, zD8 r.pcs.length x = e → e ≠ 0 → zH4 r.pcs.length r.ends = e := fun e he hne => by
   unfold zH4
   rw [if_neg (by omega), zJb (f := fun i => zD8 r.pcs.length (r.ends.getD i en0)) hup (by show zD8 _ _ ≠ 0; rw [hx, he]; exact hne) hk']
   show zD8 _ _ = e; rw [hx, he]
  have next : zD8 r.pcs.length x = 0 → upE (fun i => zD8 r.pcs.length (r.ends.getD i en0)) (k + 1) = 0 := fun he => zMT hup (by show zD8 _ _ = 0; rw [hx, he])
  refine zGo ?_
  repeat (refine zAI rfl rfl rfl ?_)
  refine zZ (enC x) U U U U U (by rw [← hx]; rfl) U ?_
  refine zBG ?_
  refine zBi 4 [(1, .rp (.box (ruC r)) 0 0), (12, .ro (zEv r.ends) 0 r.ends.length), (13, iN r.ends.length), (14, iN k)] U ⟨U, U, U, U, U, trivial⟩ ⟨U, U, U, U, trivial⟩ U hfix ?_
  refine ze (by kernel_rfl) ?_
  refine zBW (fuel := 0) [0, 1, 2, 3, 4, 5, 6, 7, 8, 9, 10, 11] [(4, .rp (.box (enC x)) 0 0), (1, .rp (.box (ruC r)) 0 0), (12, .ro (zEv r.ends) 0 r.ends.length), (13, iN r.ends.length), (14, iN k)] ⟨U, U, U, U, U, trivial⟩ (by kernel_rfl) (by decide) U U ?_
  refine zI U U (zK U U U U U U) ?_
  refine zI U U (zD U U U U) ?_
  refine zBS U U U U U (zA6 _ _ _) ?_
  refine zI U U (zK U U U U U U) ?_
  refine zI U U (zD U U U U) ?_
  refine zI U U (zK U U U U U U) ?_
  refine zI U U (zD U U U U) ?_
  refine zI U U (zBK U U U) ?_
  refine zI U U (zA1 U U (by omega)) ?_
  refine zBS U U U U U (zA6 _ _ _) ?_
  refine zI U U (zM U) ?_
  refine zI U U (zM U) ?_
  refine zw ?_
  refine zW (by kernel_rfl) ?_
  refine zBz ?_
  refine zF U (fun k0 => ?_) (fun k0 => ?_)
  ·repeat (first | refine zA (zG rfl) ?_ | refine zA (zM rfl) ?_ | refine zC ?_ | refine zB ?_ | refine zY ?_ | refine zJ rfl ?_ | refine zAY ?_ | refine zA (zBp rfl rfl) ?_ | refine zA (zDl rfl) ?_ | refine zA (zD rfl rfl rfl rfl) ?_ | refine zA (zK rfl rfl rfl rfl rfl rfl) ?_)
   refine zA2 U U (fun g1 => ?_) (fun g1 => ?_)
   ·refine rn6 ?_
    refine zN hR U ?_
    rw [done 4 (by unfold zD8; rw [if_pos k0]; rw [Bool.not_eq_true', ← Bool.not_eq_true] at g1; rw [if_neg (fun q => g1 q.1)]) (by decide)]; rfl
   refine rn5 ?_
   refine zAQ U (fun g2 => ?_) (fun g2 => ?_)
   ·refine rn6 ?_
    refine zN hR U ?_
    rw [done 4 (by unfold zD8; rw [if_pos k0]; rw [Bool.not_eq_true', decide_eq_false_iff_not] at g2; rw [if_neg (fun q => g2 q.2)]) (by decide)]; rfl
   refine rn5 ?_
   exact zR ⟨k + 1, ⟨by omega, next (by unfold zD8; rw [if_pos k0]; rw [Bool.not_eq_false'] at g1; rw [Bool.not_eq_false', decide_eq_true_eq] at g2; rw [if_pos ⟨g1, g2⟩])⟩, by omega, ⟨U, U, U, U, trivial⟩, U⟩
  refine rn4 ?_
  refine zF U (fun k1 => ?_) (fun k1 => ?_)
  ·repeat (first | refine zA (zG rfl) ?_ | refine zA (zM rfl) ?_ | refine zC ?_ | refine zB ?_ | refine zY ?_ | refine zJ rfl ?_ | refine zAY ?_ | refine zA (zBp rfl rfl) ?_ | refine zA (zDl rfl) ?_ | refine zA (zD rfl rfl rfl rfl) ?_ | refine zA (zK rfl rfl rfl rfl rfl rfl) ?_)
   refine zA2 U U (fun g1 => ?_) (fun g1 => ?_)
   ·refine rn6 ?_
    refine zN hR U ?_
    rw [done 4 (by unfold zD8; rw [if_neg k0, if_pos k1]; rw [Bool.not_eq_true', decide_eq_false_iff_not] at g1; rw [if_neg (fun q => g1 q.1)]) (by decide)]; rfl
   refine rn5 ?_
   refine zAQ U (fun g2 => ?_) (fun g2 => ?_)
   ·refine rn6 ?_
    refine zN hR U ?_
    rw [done 4 (by unfold zD8; rw [if_neg k0, if_pos k1]; rw [Bool.not_eq_true', ← Bool.not_eq_true] at g2; rw [if_neg (fun q => g2 q.2)]) (by decide)]; rfl
   refine rn5 ?_
   exact zR ⟨k + 1, ⟨by omega, next (by unfold zD8; rw [if_neg k0, if_pos k1]; rw [Bool.not_eq_false', decide_eq_true_eq] at g1; rw [Bool.not_eq_false'] at g2; rw [if_pos ⟨g1, g2⟩])⟩, by omega, ⟨U, U, U, U, trivial⟩, U⟩
  refine rn4 ?_
  refine zF U (fun k2 => ?_) (fun k2 => ?_)
  ·refine rn5 ?_
   refine zA2 U U (fun g1 => ?_) (fun g1 => ?_)
   ·refine rn6 ?_
    refine zN hR U ?_
    rw [done 4 (by unfold zD8; rw [if_neg k0, if_neg k1, if_pos k2]; rw [Bool.not_eq_true', ← Bool.not_eq_true] at g1; rw [if_neg (fun q => g1 q.1)]) (by decide)]; rfl
   refine rn5 ?_
   refine zAQ U (fun g2 => ?_) (fun g2 => ?_)
   ·refine rn6 ?_
    refine zN hR U ?_
    rw [done 4 (by unfold zD8; rw [if_neg k0, if_neg k1, if_pos k2]; rw [Bool.not_eq_true', ← Bool.not_eq_true] at g2; rw [if_neg (fun q => g2 q.2)]) (by decide)]; rfl
   refine rn5 ?_
   exact zR ⟨k + 1, ⟨by omega, next (by unfold zD8; rw [if_neg k0, if_neg k1, if_pos k2]; rw [Bool.not_eq_false'] at g1; rw [Bool.not_eq_false'] at g2; rw [if_pos ⟨g1, g2⟩])⟩, by omega, ⟨U, U, U, U, trivial⟩, U⟩
  refine rn6 ?_
  refine zN hR U ?_
  rw [done 1 (by unfold zD8; rw [if_neg k0, if_neg k1, if_neg k2]) (by decide)]; rfl
 ·have hk' : k = r.ends.length := by omega
  subst hk'
  refine rn5 ?_
  refine zN hR U ?_
  unfold zH4; rw [if_neg (by omega), hup]; rfl
theorem zMU (a : Go.Ax.Gm.Way) (j k : Nat) (hj : j < 4) : ((zF5 a).getD j .any).forget k = (zF5 a).getD j .any := by
 match j, hj with
 | 0, _ => rfl
 | 1, _ => rfl
 | 2, _ => rfl
 | 3, _ => rfl
theorem zMg (a : Go.Ax.Gm.En) (j k : Nat) (hj : j < 4) : ((enC a).getD j .any).forget k = (enC a).getD j .any := by
 match j, hj with
 | 0, _ => rfl
 | 1, _ => rfl
 | 2, _ => rfl
 | 3, _ => rfl
theorem zMv (a : Go.Ax.Gm.Pc) (j k : Nat) (hj : j < 4) : ((pcC a).getD j .any).forget k = (pcC a).getD j .any := by
 match j, hj with
 | 0, _ => rfl
 | 1, _ => rfl
 | 2, _ => rfl
 | 3, _ => rfl
theorem zAc {α : Type} {d : α} {n : Nat} {e : α → List AV} {l : List α} (h : ∀ a j, j < n → noRef ((e a).getD j .any) = true) : zAG (zC3 d n e l) := fun i j _ hj => h _ j hj
theorem zNH (a : Go.Ax.Gm.Way) (j : Nat) (hj : j < 4) : noRef ((zF5 a).getD j .any) = true := by
 match j, hj with
 | 0, _ => rfl
 | 1, _ => rfl
 | 2, _ => rfl
 | 3, _ => rfl
theorem zN0 (a : Go.Ax.Gm.En) (j : Nat) (hj : j < 4) : noRef ((enC a).getD j .any) = true := by
 match j, hj with
 | 0, _ => rfl
 | 1, _ => rfl
 | 2, _ => rfl
 | 3, _ => rfl
theorem zOL (a : Go.Ax.Gm.Pc) (j : Nat) (hj : j < 4) : noRef ((pcC a).getD j .any) = true := by
 match j, hj with
 | 0, _ => rfl
 | 1, _ => rfl
 | 2, _ => rfl
 | 3, _ => rfl
/-- slices.Clone of gamehall/api.RuleWay -/
theorem cloneW (l : List Go.Ax.Gm.Way) (hl : l.length ≤ 1000000) : zl Tryz.prog 56 [.ro (zE9 l) 0 l.length] (.ro (zE9 l) 0 l.length) := by
 refine zd.value (K := fun r H => r = .sl 0 0 l.length ∧ H = [some ⟨105, zE9 l⟩]) (zL (P := Tryz.prog) (fn := Tryz.f56) U U (by kernel_rfl) U (fun c hR hfix => ?_)) (fix := fun _ => False) (fun _ h => h) U ?_
 ·refine rn0 ?_
  refine zIa U U U (fun b hb => ?_)
  refine rn0 ?_
  refine zAQ U (fun h => ?_) (fun h => ?_)
  ·have hn : l = [] := List.length_eq_zero_iff.mp (hb h)
   subst hn
   refine rn7 ?_
   refine zCF 2 ⟨105, zE9 []⟩ U U ?_
   refine rn2 ?_
   exact zN hR U ⟨U, U⟩
  ·refine rn1 ?_
   refine zCj U U U U U U U U U U ?_
   refine zBH [some ⟨105, zE9 []⟩] (zAs.eqv ⟨U, U, fun i j hi => absurd hi (Nat.not_lt_zero _)⟩ zAs.nil) ?_
   repeat (refine zA (zG rfl) ?_)
   refine zBN l U U U U U U U U U U U U U (by show 0 + l.length ≤ l.length; omega) (fun k j _ _ => by rw [Nat.zero_add]; rfl) (by show (0 + l.length) * 32 ≤ _ ∧ _; omega) zMU (by rw [hfix]; exact fun h => h) ?_
   refine rn0 ?_
   refine zN hR U ⟨?_, U⟩
   show AV.sl 0 0 (0 + l.length) = _; rw [Nat.zero_add]
 ·rintro r H ⟨rfl, rfl⟩
  refine ⟨U, ?_, fun h o ho => zEN (zAc zNH) h o ho⟩
  intro o ho; simp at ho; subst ho; show 0 + l.length ≤ l.length; omega
/-- slices.Clone of gamehall/api.RuleEnd -/
theorem cloneE (l : List Go.Ax.Gm.En) (hl : l.length ≤ 1000000) : zl Tryz.prog 57 [.ro (zEv l) 0 l.length] (.ro (zEv l) 0 l.length) := by
 refine zd.value (K := fun r H => r = .sl 0 0 l.length ∧ H = [some ⟨96, zEv l⟩]) (zL (P := Tryz.prog) (fn := Tryz.f57) U U (by kernel_rfl) U (fun c hR hfix => ?_)) (fix := fun _ => False) (fun _ h => h) U ?_
 ·refine rn0 ?_
  refine zIa U U U (fun b hb => ?_)
  refine rn0 ?_
  refine zAQ U (fun h => ?_) (fun h => ?_)
  ·have hn : l = [] := List.length_eq_zero_iff.mp (hb h)
   subst hn
   refine rn7 ?_
   refine zCF 2 ⟨96, zEv []⟩ U U ?_
   refine rn2 ?_
   exact zN hR U ⟨U, U⟩
  ·refine rn1 ?_
   refine zCj U U U U U U U U U U ?_
   refine zBH [some ⟨96, zEv []⟩] (zAs.eqv ⟨U, U, fun i j hi => absurd hi (Nat.not_lt_zero _)⟩ zAs.nil) ?_
   repeat (refine zA (zG rfl) ?_)
   refine zBN l U U U U U U U U U U U U U (by show 0 + l.length ≤ l.length; omega) (fun k j _ _ => by rw [Nat.zero_add]; rfl) (by show (0 + l.length) * 32 ≤ _ ∧ _; omega) zMg (by rw [hfix]; exact fun h => h) ?_
   refine rn0 ?_
   refine zN hR U ⟨?_, U⟩
   show AV.sl 0 0 (0 + l.length) = _; rw [Nat.zero_add]
 ·rintro r H ⟨rfl, rfl⟩
  refine ⟨U, ?_, fun h o ho => zEN (zAc zN0) h o ho⟩
  intro o ho; simp at ho; subst ho; show 0 + l.length ≤ l.length; omega
theorem zIi (l : List Int) (hl : l.length ≤ 1000000) : zl Tryz.prog 41 [z8 l] (z8 l) := zl.of_fcall (zLc l hl) zAb rfl rfl
/-- rules.IsLast -/
theorem zKG (r : Go.Ax.Gm.Rules) (hw : 1 ≤ r.w ∧ r.w ≤ 8) (hh : 1 ≤ r.h ∧ r.h ≤ 8) (player s : Int) (hs : 0 ≤ s ∧ s < 1000) : zl Tryz.prog 46 [ruA r, .int .i64 player, .int .i64 s] (.bool (zFq r player s)) := by
 refine zd.value0 (zL (P := Tryz.prog) (fn := Tryz.f46) U U (by kernel_rfl) U (fun c hR hfix => ?_)) (fix := fun _ => False) (fun _ h => h) U U
 refine zY ?_
 repeat (first | refine zA (zM rfl) ?_ | refine zC ?_ | refine zB ?_ | refine zJ rfl ?_ | refine zAO rfl rfl ?_)
 refine zBi 3 [(1, .int .i64 player), (2, .int .i64 s)] U ⟨U, U, U, trivial⟩ ⟨U, U, trivial⟩ U hfix ?_
 refine rn4 ?_
 refine zF U (fun h => ?_) (fun h => ?_)
 ·repeat (refine zY ?_)
  refine zMZ (by kernel_rfl) (by kernel_rfl) U ?_
  repeat (first | refine zA (zG rfl) ?_ | refine zA (zM rfl) ?_ | refine zC ?_ | refine zB ?_ | refine z6 ?_ | refine zA9 ?_ | refine zA (zBp rfl rfl) ?_ | refine zA (zA1 rfl rfl (by omega)) ?_ | refine zA (zIB rfl rfl (by omega)) ?_ | refine zA (zD rfl rfl rfl rfl) ?_ | refine zA (zK rfl rfl rfl rfl rfl rfl) ?_)
  refine zN hR U ?_
  unfold zFq; rw [if_pos h, Int.tdiv_eq_ediv_of_nonneg hs.1]; rfl
 ·repeat (first | refine zA (zG rfl) ?_ | refine zA (zM rfl) ?_ | refine zC ?_ | refine zB ?_ | refine zY ?_ | refine zJ rfl ?_ | refine zAP ?_ | refine z6 ?_ | refine zA (zBp rfl rfl) ?_ | refine zA (zIB rfl rfl (by omega)) ?_ | refine zA (zD rfl rfl rfl rfl) ?_ | refine zA (zK rfl rfl rfl rfl rfl rfl) ?_)
  refine zN hR U ?_
  unfold zFq; rw [if_neg h, Int.tdiv_eq_ediv_of_nonneg hs.1]; rfl
/-- rules.Check -/
theorem zIh (r : Go.Ax.Gm.Rules) (hr : Lens r) : zl Tryz.prog 42 [ruA r] (.int .i64 (zAl r)) := by
 refine zd.value0 (zL (P := Tryz.prog) (fn := Tryz.f42) U U (by kernel_rfl) U (fun c hR hfix => ?_)) (fix := fun _ => False) (fun _ h => h) U U
 have hpl := hr.pcs
 have hsl := hr.start
 refine zY ?_
 repeat (first | refine zA (zM rfl) ?_ | refine zC ?_ | refine zB ?_ | refine zJ rfl ?_ | refine zAO rfl rfl ?_)
 refine zBi 1 [(2, .int .i64 0)] U ⟨U, U, trivial⟩ ⟨U, trivial⟩ U hfix ?_
 refine zBz ?_
 refine zQ U U U (name_ok r.name hr.name) ?_
 refine rn5 ?_
 refine zAQ U (fun h1 => ?_) (fun h1 => ?_)
 ·rw [Bool.not_eq_true'] at h1
  refine rn2 ?_
  refine zN hR U ?_
  unfold zAl; rw [if_pos h1]; rfl
 rw [Bool.not_eq_false'] at h1
 have h1 : ¬ zKM r.name = false := by rw [h1]; decide
 refine zBz ?_
 refine zQ U U U (zA6 _ _ _) ?_
 refine rn5 ?_
 refine zA2 U U (fun h2 => ?_) (fun h2 => ?_)
 ·rw [Bool.not_eq_true', ← Bool.not_eq_true] at h2
  refine rn6 ?_
  refine zN hR U ?_
  unfold zAl; rw [if_neg h1, if_pos (fun q => h2 q.1)]; rfl
 rw [Bool.not_eq_false'] at h2
 refine zBG ?_
 refine zQ U U U (zA6 _ _ _) ?_
 refine rn5 ?_
 refine zAQ U (fun h3 => ?_) (fun h3 => ?_)
 ·rw [Bool.not_eq_true', ← Bool.not_eq_true] at h3
  refine rn2 ?_
  refine zN hR U ?_
  unfold zAl; rw [if_neg h1, if_pos (fun q => h3 q.2)]; rfl
 rw [Bool.not_eq_false'] at h3
 have h23 : ¬ ¬ (within r.w 1 8 = true ∧ within r.h 1 8 = true) := fun q => q ⟨h2, h3⟩
 have w2 := Go.Ax.Gm.within_iff.1 h2
 have w3 := Go.Ax.Gm.within_iff.1 h3
 have hwh : 0 ≤ r.w * r.h ∧ r.w * r.h ≤ 64 := ⟨Int.mul_nonneg (by omega) (by omega), by
  have a := Int.mul_le_mul w2.2 w3.2 (by omega) (by decide)
  exact Int.le_trans a (by decide)⟩
 refine rn6 ?_
 refine zQ U U U (zON r hr) ?_
 refine rn3 ?_
 refine zF U (fun h4 => ?_) (fun h4 => ?_)
 ·refine rn2 ?_
  refine zN hR U ?_
  unfold zAl; rw [if_neg h1, if_neg h23, if_pos h4]; rfl
 have h6 : r.pcs.length ≤ 6 := by
  have h4 := Classical.not_not.1 h4
  unfold zCr at h4
  split at h4
  ·cases h4
  split at h4
  ·cases h4
  ·omega
 refine zBz ?_
 refine zA (zDF U U (by omega)) ?_
 refine rn3 ?_
 refine zF U (fun h5 => ?_) (fun h5 => ?_)
 ·refine rn2 ?_
  refine zN hR U ?_
  unfold zAl; rw [if_neg h1, if_neg h23, if_neg h4, if_pos h5]; rfl
 refine zBz ?_
 refine zQ U U U (zHg r.start 77 [.rp (.box (ruC r)) 0 0] (fun c0 => !(zFT r.pcs.length c0)) U hsl (fun x _ => zNr r hr h6 x)) ?_
 refine rn0 ?_
 have hany : r.start.any (fun c0 => !(zFT r.pcs.length c0)) = !(r.start.all (zFT r.pcs.length)) := by rw [List.not_all_eq_any_not]
 rw [hany]
 refine zAQ U (fun h7 => ?_) (fun h7 => ?_)
 ·rw [Bool.not_eq_true'] at h7
  refine rn2 ?_
  refine zN hR U ?_
  unfold zAl; rw [if_neg h1, if_neg h23, if_neg h4, if_neg h5, if_pos h7]; rfl
 rw [Bool.not_eq_false'] at h7
 have h7 : ¬ r.start.all (zFT r.pcs.length) = false := by rw [h7]; decide
 refine rn6 ?_
 refine zQ U U U (zJj r hr) ?_
 refine rn3 ?_
 refine zF U (fun h8 => ?_) (fun h8 => ?_)
 ·refine rn2 ?_
  refine zN hR U ?_
  unfold zAl; rw [if_neg h1, if_neg h23, if_neg h4, if_neg h5, if_neg h7, if_pos h8]; rfl
 have fin : ∀ e, (if ¬ (within r.blocked 0 2 = true ∧ within r.quiet 0 200 = true ∧ (r.rep = 0 ∨ within r.rep 2 5 = true)) then (4 : Int) else 0) = e → zAl r = e := fun e q => by
  unfold zAl; rw [if_neg h1, if_neg h23, if_neg h4, if_neg h5, if_neg h7, if_neg h8, q]
 refine zBz ?_
 refine zQ U U U (zA6 _ _ _) ?_
 refine rn5 ?_
 refine zA2 U U (fun g1 => ?_) (fun g1 => ?_)
 ·rw [Bool.not_eq_true', ← Bool.not_eq_true] at g1
  refine rn16 ?_
  refine zN hR U ?_
  rw [fin 4 (if_pos (fun q => g1 q.1))]; rfl
 rw [Bool.not_eq_false'] at g1
 refine zBG ?_
 refine zQ U U U (zA6 _ _ _) ?_
 refine rn5 ?_
 refine zA2 U U (fun g2 => ?_) (fun g2 => ?_)
 ·rw [Bool.not_eq_true', ← Bool.not_eq_true] at g2
  refine rn16 ?_
  refine zN hR U ?_
  rw [fin 4 (if_pos (fun q => g2 q.2.1))]; rfl
 rw [Bool.not_eq_false'] at g2
 repeat (first | refine zA (zG rfl) ?_ | refine zx rfl rfl ?_ | refine zA (zBh rfl rfl) ?_ | refine zA (zD rfl rfl rfl rfl) ?_ | refine zA (zK rfl rfl rfl rfl rfl rfl) ?_)
 refine zj U U (fun g3 => ?_) (fun g3 => ?_)
 ·refine zBG ?_
  refine zQ U U U (zA6 _ _ _) ?_
  refine rn5 ?_
  refine zAQ U (fun g4 => ?_) (fun g4 => ?_)
  ·rw [Bool.not_eq_true', ← Bool.not_eq_true] at g4
   refine rn2 ?_
   refine zN hR U ?_
   rw [fin 4 (if_pos (fun q => q.2.2.elim g3 g4))]; rfl
  rw [Bool.not_eq_false'] at g4
  refine rn1 ?_
  refine zN hR U ?_
  rw [fin 0 (if_neg (fun q => q ⟨g1, g2, .inr g4⟩))]; rfl
 ·have g3 : r.rep = 0 := Classical.not_not.1 g3
  refine rn6 ?_
  refine zN hR U ?_
  rw [fin 0 (if_neg (fun q => q ⟨g1, g2, .inl g3⟩))]; rfl
end Go.Proofs.YtkhdfimdkjjimaaGreatDoor
namespace Go.Proofs.YtkhdfimdkjjimaaGreatDoor
open Go.Ax Go.Ax.Idx Go.Ax.Cd
attribute [local irreducible] Ax zCT QOp zd
theorem grow (n : Int) (h0 : 0 ≤ n) (h1 : n ≤ 1000000) : zHy Tryz.prog 99 [.nil, .int .i64 n] (fun N => .sl N 0 0) ⟨3, .ints .i64 []⟩ := by
 refine zd.fresh (K := fun r H => r = .sl 0 0 0 ∧ H = [some ⟨3, .ints .i64 []⟩]) (zL (P := Tryz.prog) (fn := Tryz.f99) U U (by kernel_rfl) U (fun c hR hfix => ?_)) (fix := fun _ => False) (fun _ h => h) U (fun H => ⟨U, by simp [zGf, inB]⟩) ?_
 ·refine rn4 ?_
  refine zF U (fun h => absurd h (by omega)) (fun h => ?_)
  repeat (first | refine zA (zG rfl) ?_ | refine zA (zM rfl) ?_ | refine zC ?_ | refine zB ?_ | refine zY ?_ | refine zJ rfl ?_ | refine zAP ?_ | refine zA (zCa rfl rfl) ?_ | refine zA (zBK rfl rfl rfl) ?_ | refine zA (zA1 rfl rfl (by omega)) ?_ | refine zA (zMF rfl rfl) ?_)
  refine zF U (fun h => ?_) (fun h => ?_)
  rotate_left
  ·refine rn7 ?_
   refine zCF 4 ⟨3, .ints .i64 []⟩ U U ?_
   repeat (refine z6 ?_)
   exact zN hR U ⟨U, U⟩
  repeat (first | refine zA (zG rfl) ?_ | refine zJ rfl ?_ | refine zA (zMF rfl rfl) ?_ | refine zA (zM2 rfl rfl rfl rfl rfl rfl rfl) ?_)
  refine ax_growz U U U U U U U U U (by show 0 < _ ∧ _ * 8 ≤ _ ∧ _; omega) ?_
  refine rn3 ?_
  refine zA (zMI U U U U U U U U (by omega)) ?_
  refine zKe 0 (.ints .i64 []) U ⟨Nat.zero_le _, U, fun i j hi => absurd hi (Nat.not_lt_zero _)⟩ ?_
  refine rn0 ?_
  exact zN hR U ⟨U, U⟩
 ·rintro r H ⟨rfl, rfl⟩
  refine ⟨?_, fun h o ho => zEN zAb h o ho, 0, U, fun n => rfl⟩
  intro o ho; simp at ho; subst ho; exact Nat.zero_le _
def zED (ls : List (List Int)) : Int := (ls.map fun l => (l.length : Int)).sum
theorem zE0 (ls : List (List Int)) (k : Nat) (h : k < ls.length) : zED (ls.take (k + 1)) = zED (ls.take k) + ((ls.getD k []).length : Int) := by
 unfold zED
 rw [zAE ls [] k h, List.map_append, List.sum_append]
 simp
theorem zCO (ls : List (List Int)) : zED ls = (ls.flatten.length : Int) := by
 induction ls with
 | nil => rfl
 | cons l r ih => unfold zED at ih ⊢; simp [ih]
theorem zGG (ls : List (List Int)) (k : Nat) : 0 ≤ zED (ls.take k) ∧ zED (ls.take k) ≤ zED ls := by
 have h : ls.flatten = (ls.take k).flatten ++ (ls.drop k).flatten := by rw [← List.flatten_append, List.take_append_drop]
 rw [zCO, zCO, h, List.length_append]; omega
theorem zG8 (ls : List (List Int)) (k : Nat) (h : k < ls.length) : (ls.take (k + 1)).flatten = (ls.take k).flatten ++ ls.getD k [] := by
 rw [zAE ls [] k h, List.flatten_append]; simp
theorem concat (ls : List (List Int)) (hlen : ls.length ≤ 1000000) (hs : zED ls ≤ 1000000) :
 zHy Tryz.prog 81 [.ro (zJK ls) 0 ls.length] (fun N => .sl N 0 ls.flatten.length) ⟨3, .ints .i64 ls.flatten⟩ := by
 refine zd.fresh (K := fun r H => r = .sl 0 0 ls.flatten.length ∧ H = [some ⟨3, .ints .i64 ls.flatten⟩]) (zL (P := Tryz.prog) (fn := Tryz.f81) U U (by kernel_rfl) U (fun c hR hfix => ?_)) (fix := fun _ => False) (fun _ h => h) U (fun H => ⟨U, by simp [zGf, inB]⟩) ?_
 ·refine rn3 ?_
  refine zAA (ι := Nat) (fun k => [(0, .ro (zJK ls) 0 ls.length), (3, .int .i64 (zED (ls.take k))), (9, .ro (zJK ls) 0 ls.length), (10, iN ls.length), (11, iN k)]) (fun _ => [])
   (fun k => k ≤ ls.length) (fun k => ls.length - k) 0 ⟨⟨rfl, rfl, rfl, rfl, rfl, trivial⟩, rfl, Nat.zero_le _⟩ ?_
  intro k hk
  refine rn4 ?_
  refine zF U (fun h1 => ?_) (fun h1 => ?_)
  ·have hk' : k < ls.length := by omega
   have hsum := zE0 ls k hk'
   have hb := zGG ls (k + 1)
   have hb0 := zGG ls k
   refine rn6 ?_
   refine zF U (fun h2 => absurd h2 (by omega)) (fun h2 => ?_)
   refine rn5 ?_
   exact zR ⟨k + 1, by omega, by omega, ⟨U, by rw [hsum]; rfl, U, U, U, trivial⟩, U⟩
  ·have hk' : k = ls.length := by omega
   subst hk'
   simp only [List.take_length] at *
   have hfl := zCO ls
   refine rn5 ?_
   refine zD4 U U U (grow (zED ls) (by omega) hs) ?_
   refine rn3 ?_
   refine zAA (ι := Nat) (fun k => [(6, .sl 0 0 (ls.take k).flatten.length), (25, .ro (zJK ls) 0 ls.length), (26, iN ls.length), (27, iN k)]) (fun k => [some ⟨3, .ints .i64 (ls.take k).flatten⟩])
    (fun k => k ≤ ls.length) (fun k => ls.length - k) 0 ⟨⟨rfl, rfl, rfl, rfl, trivial⟩, rfl, Nat.zero_le _⟩ ?_
   intro k hk
   refine rn4 ?_
   refine zF U (fun h1 => ?_) (fun h1 => ?_)
   ·have hk' : k < ls.length := by omega
    have hfs := zG8 ls k hk'
    have hb := zGG ls (k + 1)
    have hsl := zE0 ls k hk'
    have hb0 := zGG ls k
    have hfl0 := zCO (ls.take k)
    refine rn6 ?_
    refine zAt U U U U U U U U U U U U (by show 0 + (ls.getD k []).length ≤ (ls.getD k []).length; omega) U (by show ((ls.take k).flatten.length + (ls.getD k []).length) * 8 ≤ _ ∧ _; omega) (fun i j _ _ => rfl) (by rw [hfix]; exact fun h => h) ?_
    refine rn5 ?_
    refine zR ⟨k + 1, by omega, by omega, ⟨?_, U, U, U, trivial⟩, ?_⟩
    ·show some (AV.sl 0 0 ((ls.take k).flatten.length + (ls.getD k []).length)) = _
     rw [hfs, List.length_append]
    ·show ([some ⟨3, .ints .i64 ((ls.take k).flatten ++ List.take (ls.getD k []).length (List.drop 0 (ls.getD k [])))⟩] : zP) = _
     rw [hfs]; simp
   ·have hk' : k = ls.length := by omega
    subst hk'
    simp only [List.take_length] at *
    refine rn5 ?_
    exact zN hR U ⟨U, U⟩
 ·rintro r H ⟨rfl, rfl⟩
  refine ⟨?_, fun h o ho => zEN zAb h o ho, 0, U, fun n => rfl⟩
  intro o ho; simp at ho; subst ho; show 0 + ls.flatten.length ≤ ls.flatten.length; omega
end Go.Proofs.YtkhdfimdkjjimaaGreatDoor
namespace Go.Proofs.YtkhdfimdkjjimaaGreatDoor
open Go.Ax Go.Ax.Gm Go.RowKit Go.Ax.Idx Go.Ax.Cd
attribute [local irreducible] Ax zCT QOp zd
structure LenP (p : Pos) : Prop where
 c : p.cells.length ≤ 9223372036854775807
 h0 : p.h0.length ≤ 9223372036854775807
 h1 : p.h1.length ≤ 9223372036854775807
def outB (a b x : Int) : Bool := decide (x < a) || decide (b < x)
theorem outB_eq (a b x : Int) : outB a b x = !(Go.Ax.Gm.within x a b) := by
 unfold outB Go.Ax.Gm.within
 rw [Bool.not_and, ← decide_not, ← decide_not]
 congr 1
 ·exact decide_eq_decide.2 (by omega)
 ·exact decide_eq_decide.2 (by omega)
theorem any_out (l : List Int) (a b : Int) : l.any (outB a b) = !(l.all (fun x => Go.Ax.Gm.within x a b)) := by
 rw [List.not_all_eq_any_not]
 congr 1
 funext x; exact outB_eq a b x
/-- place.sound$1$1 -/
theorem zNc (a b x : Int) : zl Tryz.prog 80 [.int .i64 x, .rp (.box [.int .i64 a]) 0 0, .rp (.box [.int .i64 b]) 0 0] (.bool (outB a b x)) := by
 refine zd.value0 (zL (P := Tryz.prog) (fn := Tryz.f80) U U (by kernel_rfl) U (fun c hR hfix => ?_)) (fix := fun _ => False) (fun _ h => h) U U
 repeat (first | refine zA (zG rfl) ?_ | refine zA (zM rfl) ?_ | refine zC ?_ | refine zB ?_ | refine zY ?_ | refine zJ rfl ?_ | refine zA (zCR rfl rfl) ?_ | refine zA (zD rfl rfl rfl rfl) ?_)
 refine zj U U (fun h => ?_) (fun h => ?_)
 ·refine rn6 ?_
  refine zN hR U ?_
  unfold outB; rw [decide_eq_true (show x < a from h)]; rfl
 ·refine zBG ?_
  refine zN hR U ?_
  unfold outB; rw [decide_eq_false (show ¬ x < a from h)]; rfl
abbrev outF (a b : Int) : AV := .fn 80 [.rp (.box [.int .i64 a]) 0 0, .rp (.box [.int .i64 b]) 0 0]
/-- place.sound$1 -/
theorem zBg (a b : Int) : zl Tryz.prog 79 [.int .i64 a, .int .i64 b] (outF a b) := by
 refine zd.value (K := fun r H => r = .fn 80 [.ptr 0 0 0, .ptr 1 0 0] ∧ H = [some ⟨3, .box [.int .i64 a]⟩, some ⟨3, .box [.int .i64 b]⟩]) (zL (P := Tryz.prog) (fn := Tryz.f79) U U (by kernel_rfl) U (fun c hR hfix => ?_)) (fix := fun _ => False) (fun _ h => h) U ?_
 ·repeat (first | refine zA (zM rfl) ?_ | refine zC ?_ | refine zB ?_ | refine zY ?_ | refine zJ rfl ?_ | refine z6 ?_ | refine zA (zCn rfl) ?_ | refine zAO rfl rfl ?_)
  exact zN hR U ⟨U, U⟩
 ·rintro r H ⟨rfl, rfl⟩
  refine ⟨U, ?_, refl2 (zu U) (zu U)⟩
  exact ⟨fun o ho => by cases ho; exact Nat.zero_lt_one, fun o ho => by cases ho; exact Nat.zero_lt_one, trivial⟩
theorem zNS (a b : List Int) (h : a.length + b.length ≤ 1000000) : zl Tryz.prog 81 [.ro (zJK [a, b]) 0 2] (z8 (a ++ b)) := by
 have e : ([a, b] : List (List Int)).flatten = a ++ b := by simp
 have := zl.of_fcall (concat [a, b] (by show 2 ≤ 1000000; omega) (by rw [zCO, e, List.length_append]; omega)) zAb rfl rfl
 rw [e] at this
 exact this
/-- place.sound -/
theorem sound_ok (r : Go.Ax.Gm.Rules) (hv : ValidR r) (p : Pos) (hp : LenP p) : zl Tryz.prog 43 [ruA r, poA p] (.int .i64 (zDi r p)) := by
 refine zd.value0 (zL (P := Tryz.prog) (fn := Tryz.f43) U U (by kernel_rfl) U (fun c hR hfix => ?_)) (fix := fun _ => False) (fun _ h => h) U U
 have hn6 := hv.n6
 obtain ⟨hc, hh0, hh1⟩ := hp
 have w1 := hv.w1
 have w8 := hv.w8
 have g1 := hv.h1
 have g8 := hv.h8
 have hwh : 0 ≤ r.w * r.h ∧ r.w * r.h ≤ 64 := ⟨Int.mul_nonneg (by omega) (by omega), by
  have a := Int.mul_le_mul w8 g8 (by omega) (by decide)
  exact Int.le_trans a (by decide)⟩
 refine zY ?_
 repeat (first | refine zA (zM rfl) ?_ | refine zC ?_ | refine zB ?_ | refine zJ rfl ?_ | refine zAO rfl rfl ?_)
 refine zCp 2 3 [] U U U U trivial ⟨U, U, trivial⟩ U hfix ?_
 refine zBz ?_
 refine zA (zDF U U (by omega)) ?_
 refine rn3 ?_
 refine zj U U (fun h1 => ?_) (fun h1 => ?_)
 ·refine rn6 ?_
  refine zN hR U ?_
  unfold zDi; rw [if_pos (.inl h1)]; rfl
 repeat (first | refine zA (zG rfl) ?_ | refine zx rfl rfl ?_ | refine zA (zBh rfl rfl) ?_ | refine zA (zi rfl rfl) ?_ | refine zA (zBK rfl rfl rfl) ?_ | refine zA (zD rfl rfl rfl rfl) ?_ | refine zA (zK rfl rfl rfl rfl rfl rfl) ?_ | refine zA (zB1 rfl rfl rfl rfl (by first | (simp only [Nat.zero_add, Int.toNat_natCast]; exact rfl) | exact rfl) (by omega)) ?_)
 refine zj U U (fun h2 => ?_) (fun h2 => ?_)
 ·refine rn6 ?_
  refine zN hR U ?_
  unfold zDi; rw [if_pos (.inr (.inl (by omega)))]; rfl
 repeat (first | refine zA (zG rfl) ?_ | refine zC ?_ | refine zB ?_ | refine zx rfl rfl ?_ | refine zA (zBh rfl rfl) ?_ | refine zA (zi rfl rfl) ?_ | refine zA (zBK rfl rfl rfl) ?_ | refine zA (zD rfl rfl rfl rfl) ?_ | refine zA (zK rfl rfl rfl rfl rfl rfl) ?_ | refine zA (zB1 rfl rfl rfl rfl (by first | (simp only [Nat.zero_add, Int.toNat_natCast]; exact rfl) | exact rfl) (by omega)) ?_)
 refine zF U (fun h3 => ?_) (fun h3 => ?_)
 ·refine rn2 ?_
  refine zN hR U ?_
  unfold zDi; rw [if_pos (.inr (.inr (by omega)))]; rfl
 have h123 : ¬ ((p.cells.length : Int) ≠ r.w * r.h ∨ p.h0.length ≠ r.pcs.length ∨ p.h1.length ≠ r.pcs.length) := by
  rintro (q | q | q)
  ·exact h1 q
  ·omega
  ·omega
 repeat (first | refine zA (zM rfl) ?_ | refine zC ?_ | refine zB ?_ | refine zY ?_ | refine zJ rfl ?_ | refine zAP ?_ | refine zA (zD rfl rfl rfl rfl) ?_ | refine zA (zK rfl rfl rfl rfl rfl rfl) ?_ | refine zA (zB1 rfl rfl rfl rfl (by first | (simp only [Nat.zero_add, Int.toNat_natCast]; exact rfl) | exact rfl) (by omega)) ?_ | refine zAN rfl rfl rfl rfl rfl rfl rfl rfl rfl rfl rfl ?_)
 refine zBI 42 (.ro (zJK [p.h0, p.h1]) 0 2) U (AEq.ro U (fun d j hd hj => ?_)) ?_
 ·obtain rfl : j = 0 := Nat.lt_one_iff.1 hj
  match d, hd with
  | 0, _ => rfl
  | 1, _ => rfl
 refine zQ U U U (zNS p.h0 p.h1 (by omega)) ?_
 refine rn0 ?_
 have hlen2 : (p.h0 ++ p.h1).length ≤ 9223372036854775807 := by rw [List.length_append]; omega
 have bad : (p.cells.all (zFT r.pcs.length) = false ∨ (p.h0 ++ p.h1).all (fun n => Go.Ax.Gm.within n 0 1000) = false ∨ (p.turn ≠ 0 ∧ p.turn ≠ 1) ∨ p.quiet < 0 ∨ 200 < p.quiet) → zDi r p = 4 := fun q => by
  unfold zDi; rw [if_neg h123, if_pos q]
 have good : ¬ (p.cells.all (zFT r.pcs.length) = false ∨ (p.h0 ++ p.h1).all (fun n => Go.Ax.Gm.within n 0 1000) = false ∨ (p.turn ≠ 0 ∧ p.turn ≠ 1) ∨ p.quiet < 0 ∨ 200 < p.quiet) → zDi r p = 0 := fun q => by
  unfold zDi; rw [if_neg h123, if_neg q]
 have ccell := zHg p.cells 80 [.rp (.box [.int .i64 0]) 0 0, .rp (.box [.int .i64 (2 * (r.pcs.length : Int))]) 0 0] (outB 0 (2 * (r.pcs.length : Int))) rfl hc (fun x _ => zNc _ _ x)
 have chand := zHg (p.h0 ++ p.h1) 80 [.rp (.box [.int .i64 0]) 0 0, .rp (.box [.int .i64 1000]) 0 0] (outB 0 1000) rfl hlen2 (fun x _ => zNc _ _ x)
 rw [any_out] at ccell chand
 have ccell : zl Tryz.prog 65 [z8 p.cells, outF 0 (2 * (r.pcs.length : Int))] (.bool (!(p.cells.all (zFT r.pcs.length)))) := ccell
 have chand : zl Tryz.prog 65 [z8 (p.h0 ++ p.h1), outF 0 1000] (.bool (!((p.h0 ++ p.h1).all (fun n => Go.Ax.Gm.within n 0 1000)))) := chand
 cases b1 : p.cells.all (zFT r.pcs.length) with
 | false =>
  refine ze (by kernel_rfl) ?_
  refine zBW (fuel := 0) [0, 1, 2, 3, 4, 5, 6, 7, 8, 9, 10, 11, 12, 13, 14, 15, 16, 17, 18, 19, 20, 21, 22, 23, 24, 25, 26, 27, 28, 29, 30, 31, 32] [(2, .rp (.box (ruC r)) 0 0), (3, .rp (.box (poC p)) 0 0), (5, iN r.pcs.length), (6, .fn 79 []), (7, z8 (p.h0 ++ p.h1))] ⟨U, U, U, U, U, trivial⟩ (by kernel_rfl) (by decide) U U ?_
  refine zI U U (zK U U U U U U) ?_
  refine zI U U (zD U U U U) ?_
  refine zI U U (zG U) ?_
  refine zI U U (zG U) ?_
  refine zI U U (zDF U U (by omega)) ?_
  refine zBS U U U U U (zBg _ _) ?_
  refine zBS U U U U U ccell ?_
  rw [b1]
  refine zI U U (zG U) ?_
  refine zp U U U U U ?_
  refine zp U U U U U ?_
  first | refine zp rfl rfl rfl rfl rfl ?_ | refine zAy rfl rfl rfl rfl ?_ | refine zDJ rfl rfl rfl rfl rfl rfl rfl (zBg _ _) ?_
  first | refine zp rfl rfl rfl rfl rfl ?_ | refine zAy rfl rfl rfl rfl ?_ | refine zDJ rfl rfl rfl rfl rfl rfl rfl chand ?_
  refine zI U U (zi U U) ?_
  refine zI U U (zG U) ?_
  refine zp U U U U U ?_
  refine zp U U U U U ?_
  refine zp U U U U U ?_
  refine zp U U U U U ?_
  refine zAy U U U U ?_
  refine zAy U U U U ?_
  refine zAy U U U U ?_
  refine zp U U U U U ?_
  refine zI U U (zi U U) ?_
  refine zI U U (zG U) ?_
  refine zp U U U U U ?_
  refine zp U U U U U ?_
  refine zp U U U U U ?_
  refine zI U U (zi U U) ?_
  refine zI U U (zG U) ?_
  refine zp U U U U U ?_
  refine zp U U U U U ?_
  refine zp U U U U U ?_
  refine zI U U (zi U U) ?_
  refine zw ?_
  refine zW (by kernel_rfl) ?_
  refine rn5 ?_
  refine zN hR U ?_
  rw [bad (.inl b1)]; rfl
 | true =>
 cases b2 : (p.h0 ++ p.h1).all (fun n => Go.Ax.Gm.within n 0 1000) with
 | false =>
  refine ze (by kernel_rfl) ?_
  refine zBW (fuel := 0) [0, 1, 2, 3, 4, 5, 6, 7, 8, 9, 10, 11, 12, 13, 14, 15, 16, 17, 18, 19, 20, 21, 22, 23, 24, 25, 26, 27, 28, 29, 30, 31, 32] [(2, .rp (.box (ruC r)) 0 0), (3, .rp (.box (poC p)) 0 0), (5, iN r.pcs.length), (6, .fn 79 []), (7, z8 (p.h0 ++ p.h1))] ⟨U, U, U, U, U, trivial⟩ (by kernel_rfl) (by decide) U U ?_
  refine zI U U (zK U U U U U U) ?_
  refine zI U U (zD U U U U) ?_
  refine zI U U (zG U) ?_
  refine zI U U (zG U) ?_
  refine zI U U (zDF U U (by omega)) ?_
  refine zBS U U U U U (zBg _ _) ?_
  refine zBS U U U U U ccell ?_
  rw [b1]
  refine zI U U (zG U) ?_
  refine zt U U U U (zG U) ?_
  refine zt U U U U (zG U) ?_
  first | refine zp rfl rfl rfl rfl rfl ?_ | refine zAy rfl rfl rfl rfl ?_ | refine zDJ rfl rfl rfl rfl rfl rfl rfl (zBg _ _) ?_
  first | refine zp rfl rfl rfl rfl rfl ?_ | refine zAy rfl rfl rfl rfl ?_ | refine zDJ rfl rfl rfl rfl rfl rfl rfl chand ?_
  rw [b2]
  refine zI U U (zi U U) ?_
  refine zI U U (zG U) ?_
  refine zp U U U U U ?_
  refine zp U U U U U ?_
  refine zp U U U U U ?_
  refine zp U U U U U ?_
  refine zAy U U U U ?_
  refine zAy U U U U ?_
  refine zAy U U U U ?_
  refine zp U U U U U ?_
  refine zI U U (zi U U) ?_
  refine zI U U (zG U) ?_
  refine zp U U U U U ?_
  refine zp U U U U U ?_
  refine zp U U U U U ?_
  refine zI U U (zi U U) ?_
  refine zI U U (zG U) ?_
  refine zp U U U U U ?_
  refine zp U U U U U ?_
  refine zp U U U U U ?_
  refine zI U U (zi U U) ?_
  refine zw ?_
  refine zW (by kernel_rfl) ?_
  refine rn5 ?_
  refine zN hR U ?_
  rw [bad (.inr (.inl b2))]; rfl
 | true =>
 obtain ⟨cells, ha, hb, turn, quiet⟩ := p
 simp only at *
 by_cases t0 : turn = 0
 ·subst t0
  by_cases q0 : quiet < 0
  ·refine ze (by kernel_rfl) ?_
   refine zBW (fuel := 0) [0, 1, 2, 3, 4, 5, 6, 7, 8, 9, 10, 11, 12, 13, 14, 15, 16, 17, 18, 19, 20, 21, 22, 23, 24, 25, 26, 27, 28, 29, 30, 31, 32] [(2, .rp (.box (ruC r)) 0 0), (3, .rp (.box (poC ⟨cells, ha, hb, 0, quiet⟩)) 0 0), (5, iN r.pcs.length), (6, .fn 79 []), (7, z8 (ha ++ hb))] ⟨U, U, U, U, U, trivial⟩ (by kernel_rfl) (by decide) U U ?_
   refine zI U U (zK U U U U U U) ?_
   refine zI U U (zD U U U U) ?_
   refine zI U U (zG U) ?_
   refine zI U U (zG U) ?_
   refine zI U U (zDF U U (by omega)) ?_
   refine zBS U U U U U (zBg _ _) ?_
   refine zBS U U U U U ccell ?_
   rw [b1]
   refine zI U U (zG U) ?_
   refine zt U U U U (zG U) ?_
   refine zt U U U U (zG U) ?_
   first | refine zp rfl rfl rfl rfl rfl ?_ | refine zAy rfl rfl rfl rfl ?_ | refine zDJ rfl rfl rfl rfl rfl rfl rfl (zBg _ _) ?_
   first | refine zp rfl rfl rfl rfl rfl ?_ | refine zAy rfl rfl rfl rfl ?_ | refine zDJ rfl rfl rfl rfl rfl rfl rfl chand ?_
   rw [b2]
   refine zI U U (zi U U) ?_
   refine zI U U (zG U) ?_
   refine zt U U U U (zK U U U U U U) ?_
   refine zt U U U U (zD U U U U) ?_
   refine zt U U U U (zBh U U) ?_
   refine zt U U U U (zG U) ?_
   refine zp U U U U U ?_
   refine zp U U U U U ?_
   refine zp U U U U U ?_
   refine zt U U U U (zi U U) ?_
   refine zI U U (zi U U) ?_
   refine zI U U (zG U) ?_
   refine zt U U U U (zK U U U U U U) ?_
   refine zt U U U U (zD U U U U) ?_
   refine zt U U U U (zCR U U) ?_
   rw [decide_eq_true q0]
   refine zI U U (zi U U) ?_
   refine zI U U (zG U) ?_
   refine zp U U U U U ?_
   refine zp U U U U U ?_
   refine zp U U U U U ?_
   refine zI U U (zi U U) ?_
   refine zw ?_
   refine zW (by kernel_rfl) ?_
   refine rn5 ?_
   refine zN hR U ?_
   rw [bad (.inr (.inr (.inr (.inl q0))))]; rfl
  by_cases q1 : 200 < quiet
  ·refine ze (by kernel_rfl) ?_
   refine zBW (fuel := 0) [0, 1, 2, 3, 4, 5, 6, 7, 8, 9, 10, 11, 12, 13, 14, 15, 16, 17, 18, 19, 20, 21, 22, 23, 24, 25, 26, 27, 28, 29, 30, 31, 32] [(2, .rp (.box (ruC r)) 0 0), (3, .rp (.box (poC ⟨cells, ha, hb, 0, quiet⟩)) 0 0), (5, iN r.pcs.length), (6, .fn 79 []), (7, z8 (ha ++ hb))] ⟨U, U, U, U, U, trivial⟩ (by kernel_rfl) (by decide) U U ?_
   refine zI U U (zK U U U U U U) ?_
   refine zI U U (zD U U U U) ?_
   refine zI U U (zG U) ?_
   refine zI U U (zG U) ?_
   refine zI U U (zDF U U (by omega)) ?_
   refine zBS U U U U U (zBg _ _) ?_
   refine zBS U U U U U ccell ?_
   rw [b1]
   refine zI U U (zG U) ?_
   refine zt U U U U (zG U) ?_
   refine zt U U U U (zG U) ?_
   first | refine zp rfl rfl rfl rfl rfl ?_ | refine zAy rfl rfl rfl rfl ?_ | refine zDJ rfl rfl rfl rfl rfl rfl rfl (zBg _ _) ?_
   first | refine zp rfl rfl rfl rfl rfl ?_ | refine zAy rfl rfl rfl rfl ?_ | refine zDJ rfl rfl rfl rfl rfl rfl rfl chand ?_
   rw [b2]
   refine zI U U (zi U U) ?_
   refine zI U U (zG U) ?_
   refine zt U U U U (zK U U U U U U) ?_
   refine zt U U U U (zD U U U U) ?_
   refine zt U U U U (zBh U U) ?_
   refine zt U U U U (zG U) ?_
   refine zp U U U U U ?_
   refine zp U U U U U ?_
   refine zp U U U U U ?_
   refine zt U U U U (zi U U) ?_
   refine zI U U (zi U U) ?_
   refine zI U U (zG U) ?_
   refine zt U U U U (zK U U U U U U) ?_
   refine zt U U U U (zD U U U U) ?_
   refine zt U U U U (zCR U U) ?_
   rw [decide_eq_false q0]
   refine zI U U (zi U U) ?_
   refine zI U U (zG U) ?_
   refine zt U U U U (zK U U U U U U) ?_
   refine zt U U U U (zD U U U U) ?_
   refine zt U U U U (zCa U U) ?_
   rw [decide_eq_true q1]
   refine zI U U (zi U U) ?_
   refine zw ?_
   refine zW (by kernel_rfl) ?_
   refine rn5 ?_
   refine zN hR U ?_
   rw [bad (.inr (.inr (.inr (.inr q1))))]; rfl
  refine ze (by kernel_rfl) ?_
  refine zBW (fuel := 0) [0, 1, 2, 3, 4, 5, 6, 7, 8, 9, 10, 11, 12, 13, 14, 15, 16, 17, 18, 19, 20, 21, 22, 23, 24, 25, 26, 27, 28, 29, 30, 31, 32] [(2, .rp (.box (ruC r)) 0 0), (3, .rp (.box (poC ⟨cells, ha, hb, 0, quiet⟩)) 0 0), (5, iN r.pcs.length), (6, .fn 79 []), (7, z8 (ha ++ hb))] ⟨U, U, U, U, U, trivial⟩ (by kernel_rfl) (by decide) U U ?_
  refine zI U U (zK U U U U U U) ?_
  refine zI U U (zD U U U U) ?_
  refine zI U U (zG U) ?_
  refine zI U U (zG U) ?_
  refine zI U U (zDF U U (by omega)) ?_
  refine zBS U U U U U (zBg _ _) ?_
  refine zBS U U U U U ccell ?_
  rw [b1]
  refine zI U U (zG U) ?_
  refine zt U U U U (zG U) ?_
  refine zt U U U U (zG U) ?_
  first | refine zp rfl rfl rfl rfl rfl ?_ | refine zAy rfl rfl rfl rfl ?_ | refine zDJ rfl rfl rfl rfl rfl rfl rfl (zBg _ _) ?_
  first | refine zp rfl rfl rfl rfl rfl ?_ | refine zAy rfl rfl rfl rfl ?_ | refine zDJ rfl rfl rfl rfl rfl rfl rfl chand ?_
  rw [b2]
  refine zI U U (zi U U) ?_
  refine zI U U (zG U) ?_
  refine zt U U U U (zK U U U U U U) ?_
  refine zt U U U U (zD U U U U) ?_
  refine zt U U U U (zBh U U) ?_
  refine zt U U U U (zG U) ?_
  refine zp U U U U U ?_
  refine zp U U U U U ?_
  refine zp U U U U U ?_
  refine zt U U U U (zi U U) ?_
  refine zI U U (zi U U) ?_
  refine zI U U (zG U) ?_
  refine zt U U U U (zK U U U U U U) ?_
  refine zt U U U U (zD U U U U) ?_
  refine zt U U U U (zCR U U) ?_
  rw [decide_eq_false q0]
  refine zI U U (zi U U) ?_
  refine zI U U (zG U) ?_
  refine zt U U U U (zK U U U U U U) ?_
  refine zt U U U U (zD U U U U) ?_
  refine zt U U U U (zCa U U) ?_
  rw [decide_eq_false q1]
  refine zI U U (zi U U) ?_
  refine zw ?_
  refine zW (by kernel_rfl) ?_
  refine rn4 ?_
  refine zN hR U ?_
  rw [good (fun q => q.elim (fun q => by rw [b1] at q; cases q) (fun q => q.elim (fun q => by rw [b2] at q; cases q) (fun q => q.elim (fun q => absurd q (by omega)) (fun q => q.elim q0 q1))))]; rfl
 by_cases t1 : turn = 1
 ·subst t1
  by_cases q0 : quiet < 0
  ·refine ze (by kernel_rfl) ?_
   refine zBW (fuel := 0) [0, 1, 2, 3, 4, 5, 6, 7, 8, 9, 10, 11, 12, 13, 14, 15, 16, 17, 18, 19, 20, 21, 22, 23, 24, 25, 26, 27, 28, 29, 30, 31, 32] [(2, .rp (.box (ruC r)) 0 0), (3, .rp (.box (poC ⟨cells, ha, hb, 1, quiet⟩)) 0 0), (5, iN r.pcs.length), (6, .fn 79 []), (7, z8 (ha ++ hb))] ⟨U, U, U, U, U, trivial⟩ (by kernel_rfl) (by decide) U U ?_
   refine zI U U (zK U U U U U U) ?_
   refine zI U U (zD U U U U) ?_
   refine zI U U (zG U) ?_
   refine zI U U (zG U) ?_
   refine zI U U (zDF U U (by omega)) ?_
   refine zBS U U U U U (zBg _ _) ?_
   refine zBS U U U U U ccell ?_
   rw [b1]
   refine zI U U (zG U) ?_
   refine zt U U U U (zG U) ?_
   refine zt U U U U (zG U) ?_
   first | refine zp rfl rfl rfl rfl rfl ?_ | refine zAy rfl rfl rfl rfl ?_ | refine zDJ rfl rfl rfl rfl rfl rfl rfl (zBg _ _) ?_
   first | refine zp rfl rfl rfl rfl rfl ?_ | refine zAy rfl rfl rfl rfl ?_ | refine zDJ rfl rfl rfl rfl rfl rfl rfl chand ?_
   rw [b2]
   refine zI U U (zi U U) ?_
   refine zI U U (zG U) ?_
   refine zt U U U U (zK U U U U U U) ?_
   refine zt U U U U (zD U U U U) ?_
   refine zt U U U U (zBh U U) ?_
   refine zt U U U U (zG U) ?_
   refine zt U U U U (zK U U U U U U) ?_
   refine zt U U U U (zD U U U U) ?_
   refine zt U U U U (zBh U U) ?_
   refine zt U U U U (zi U U) ?_
   refine zI U U (zi U U) ?_
   refine zI U U (zG U) ?_
   refine zt U U U U (zK U U U U U U) ?_
   refine zt U U U U (zD U U U U) ?_
   refine zt U U U U (zCR U U) ?_
   rw [decide_eq_true q0]
   refine zI U U (zi U U) ?_
   refine zI U U (zG U) ?_
   refine zp U U U U U ?_
   refine zp U U U U U ?_
   refine zp U U U U U ?_
   refine zI U U (zi U U) ?_
   refine zw ?_
   refine zW (by kernel_rfl) ?_
   refine rn5 ?_
   refine zN hR U ?_
   rw [bad (.inr (.inr (.inr (.inl q0))))]; rfl
  by_cases q1 : 200 < quiet
  ·refine ze (by kernel_rfl) ?_
   refine zBW (fuel := 0) [0, 1, 2, 3, 4, 5, 6, 7, 8, 9, 10, 11, 12, 13, 14, 15, 16, 17, 18, 19, 20, 21, 22, 23, 24, 25, 26, 27, 28, 29, 30, 31, 32] [(2, .rp (.box (ruC r)) 0 0), (3, .rp (.box (poC ⟨cells, ha, hb, 1, quiet⟩)) 0 0), (5, iN r.pcs.length), (6, .fn 79 []), (7, z8 (ha ++ hb))] ⟨U, U, U, U, U, trivial⟩ (by kernel_rfl) (by decide) U U ?_
   refine zI U U (zK U U U U U U) ?_
   refine zI U U (zD U U U U) ?_
   refine zI U U (zG U) ?_
   refine zI U U (zG U) ?_
   refine zI U U (zDF U U (by omega)) ?_
   refine zBS U U U U U (zBg _ _) ?_
   refine zBS U U U U U ccell ?_
   rw [b1]
   refine zI U U (zG U) ?_
   refine zt U U U U (zG U) ?_
   refine zt U U U U (zG U) ?_
   first | refine zp rfl rfl rfl rfl rfl ?_ | refine zAy rfl rfl rfl rfl ?_ | refine zDJ rfl rfl rfl rfl rfl rfl rfl (zBg _ _) ?_
   first | refine zp rfl rfl rfl rfl rfl ?_ | refine zAy rfl rfl rfl rfl ?_ | refine zDJ rfl rfl rfl rfl rfl rfl rfl chand ?_
   rw [b2]
   refine zI U U (zi U U) ?_
   refine zI U U (zG U) ?_
   refine zt U U U U (zK U U U U U U) ?_
   refine zt U U U U (zD U U U U) ?_
   refine zt U U U U (zBh U U) ?_
   refine zt U U U U (zG U) ?_
   refine zt U U U U (zK U U U U U U) ?_
   refine zt U U U U (zD U U U U) ?_
   refine zt U U U U (zBh U U) ?_
   refine zt U U U U (zi U U) ?_
   refine zI U U (zi U U) ?_
   refine zI U U (zG U) ?_
   refine zt U U U U (zK U U U U U U) ?_
   refine zt U U U U (zD U U U U) ?_
   refine zt U U U U (zCR U U) ?_
   rw [decide_eq_false q0]
   refine zI U U (zi U U) ?_
   refine zI U U (zG U) ?_
   refine zt U U U U (zK U U U U U U) ?_
   refine zt U U U U (zD U U U U) ?_
   refine zt U U U U (zCa U U) ?_
   rw [decide_eq_true q1]
   refine zI U U (zi U U) ?_
   refine zw ?_
   refine zW (by kernel_rfl) ?_
   refine rn5 ?_
   refine zN hR U ?_
   rw [bad (.inr (.inr (.inr (.inr q1))))]; rfl
  refine ze (by kernel_rfl) ?_
  refine zBW (fuel := 0) [0, 1, 2, 3, 4, 5, 6, 7, 8, 9, 10, 11, 12, 13, 14, 15, 16, 17, 18, 19, 20, 21, 22, 23, 24, 25, 26, 27, 28, 29, 30, 31, 32] [(2, .rp (.box (ruC r)) 0 0), (3, .rp (.box (poC ⟨cells, ha, hb, 1, quiet⟩)) 0 0), (5, iN r.pcs.length), (6, .fn 79 []), (7, z8 (ha ++ hb))] ⟨U, U, U, U, U, trivial⟩ (by kernel_rfl) (by decide) U U ?_
  refine zI U U (zK U U U U U U) ?_
  refine zI U U (zD U U U U) ?_
  refine zI U U (zG U) ?_
  refine zI U U (zG U) ?_
  refine zI U U (zDF U U (by omega)) ?_
  refine zBS U U U U U (zBg _ _) ?_
  refine zBS U U U U U ccell ?_
  rw [b1]
  refine zI U U (zG U) ?_
  refine zt U U U U (zG U) ?_
  refine zt U U U U (zG U) ?_
  first | refine zp rfl rfl rfl rfl rfl ?_ | refine zAy rfl rfl rfl rfl ?_ | refine zDJ rfl rfl rfl rfl rfl rfl rfl (zBg _ _) ?_
  first | refine zp rfl rfl rfl rfl rfl ?_ | refine zAy rfl rfl rfl rfl ?_ | refine zDJ rfl rfl rfl rfl rfl rfl rfl chand ?_
  rw [b2]
  refine zI U U (zi U U) ?_
  refine zI U U (zG U) ?_
  refine zt U U U U (zK U U U U U U) ?_
  refine zt U U U U (zD U U U U) ?_
  refine zt U U U U (zBh U U) ?_
  refine zt U U U U (zG U) ?_
  refine zt U U U U (zK U U U U U U) ?_
  refine zt U U U U (zD U U U U) ?_
  refine zt U U U U (zBh U U) ?_
  refine zt U U U U (zi U U) ?_
  refine zI U U (zi U U) ?_
  refine zI U U (zG U) ?_
  refine zt U U U U (zK U U U U U U) ?_
  refine zt U U U U (zD U U U U) ?_
  refine zt U U U U (zCR U U) ?_
  rw [decide_eq_false q0]
  refine zI U U (zi U U) ?_
  refine zI U U (zG U) ?_
  refine zt U U U U (zK U U U U U U) ?_
  refine zt U U U U (zD U U U U) ?_
  refine zt U U U U (zCa U U) ?_
  rw [decide_eq_false q1]
  refine zI U U (zi U U) ?_
  refine zw ?_
  refine zW (by kernel_rfl) ?_
  refine rn4 ?_
  refine zN hR U ?_
  rw [good (fun q => q.elim (fun q => by rw [b1] at q; cases q) (fun q => q.elim (fun q => by rw [b2] at q; cases q) (fun q => q.elim (fun q => absurd q (by omega)) (fun q => q.elim q0 q1))))]; rfl
 refine ze (by kernel_rfl) ?_
 refine zBW (fuel := 0) [0, 1, 2, 3, 4, 5, 6, 7, 8, 9, 10, 11, 12, 13, 14, 15, 16, 17, 18, 19, 20, 21, 22, 23, 24, 25, 26, 27, 28, 29, 30, 31, 32] [(2, .rp (.box (ruC r)) 0 0), (3, .rp (.box (poC ⟨cells, ha, hb, turn, quiet⟩)) 0 0), (5, iN r.pcs.length), (6, .fn 79 []), (7, z8 (ha ++ hb))] ⟨U, U, U, U, U, trivial⟩ (by kernel_rfl) (by decide) U U ?_
 refine zI U U (zK U U U U U U) ?_
 refine zI U U (zD U U U U) ?_
 refine zI U U (zG U) ?_
 refine zI U U (zG U) ?_
 refine zI U U (zDF U U (by omega)) ?_
 refine zBS U U U U U (zBg _ _) ?_
 refine zBS U U U U U ccell ?_
 rw [b1]
 refine zI U U (zG U) ?_
 refine zt U U U U (zG U) ?_
 refine zt U U U U (zG U) ?_
 first | refine zp rfl rfl rfl rfl rfl ?_ | refine zAy rfl rfl rfl rfl ?_ | refine zDJ rfl rfl rfl rfl rfl rfl rfl (zBg _ _) ?_
 first | refine zp rfl rfl rfl rfl rfl ?_ | refine zAy rfl rfl rfl rfl ?_ | refine zDJ rfl rfl rfl rfl rfl rfl rfl chand ?_
 rw [b2]
 refine zI U U (zi U U) ?_
 refine zI U U (zG U) ?_
 refine zt U U U U (zK U U U U U U) ?_
 refine zt U U U U (zD U U U U) ?_
 refine zt U U U U (zBh U U) ?_
 rw [decide_eq_true (show ¬ turn = 0 from t0)]
 refine zt U U U U (zG U) ?_
 refine zt U U U U (zK U U U U U U) ?_
 refine zt U U U U (zD U U U U) ?_
 refine zt U U U U (zBh U U) ?_
 rw [decide_eq_true (show ¬ turn = 1 from t1)]
 refine zt U U U U (zi U U) ?_
 refine zI U U (zi U U) ?_
 refine zI U U (zG U) ?_
 refine zp U U U U U ?_
 refine zp U U U U U ?_
 refine zp U U U U U ?_
 refine zI U U (zi U U) ?_
 refine zI U U (zG U) ?_
 refine zp U U U U U ?_
 refine zp U U U U U ?_
 refine zp U U U U U ?_
 refine zI U U (zi U U) ?_
 refine zw ?_
 refine zW (by kernel_rfl) ?_
 refine rn5 ?_
 refine zN hR U ?_
 rw [bad (.inr (.inr (.inl ⟨t0, t1⟩)))]; rfl
/-- place.Check -/
theorem zCG (r : Go.Ax.Gm.Rules) (hr : Lens r) (p : Pos) (hp : LenP p) : zl Tryz.prog 21 [ruA r, poA p] (.int .i64 (zBC r p)) := by
 refine zd.value0 (zL (P := Tryz.prog) (fn := Tryz.f21) U U (by kernel_rfl) U (fun c hR hfix => ?_)) (fix := fun _ => False) (fun _ h => h) U U
 refine zY ?_
 repeat (first | refine zA (zM rfl) ?_ | refine zC ?_ | refine zB ?_ | refine zJ rfl ?_ | refine zAO rfl rfl ?_)
 refine zCp 2 3 [] U U U U trivial ⟨U, U, trivial⟩ U hfix ?_
 refine rn6 ?_
 refine zQ U U U (zIh r hr) ?_
 refine rn3 ?_
 refine zF U (fun h => ?_) (fun h => ?_)
 ·refine rn2 ?_
  refine zN hR U ?_
  unfold zBC; rw [if_pos h]; rfl
 refine rn6 ?_
 refine zQ U U U (sound_ok r (zAm (Classical.not_not.1 h)) p hp) ?_
 refine rn0 ?_
 refine zN hR U ?_
 unfold zBC; rw [if_neg h]; rfl
structure Small (r : Go.Ax.Gm.Rules) : Prop where
 pcs : r.pcs.length ≤ 6
 ways : ∀ p ∈ r.pcs, p.ways.length ≤ 16
 start : r.start.length ≤ 64
 ends : r.ends.length ≤ 6
theorem zHQ {r : Go.Ax.Gm.Rules} (hv : ValidR r) : Small r := by
 refine ⟨hv.n6, fun p hp => ?_, ?_, hv.e6⟩
 ·obtain ⟨i, hi, rfl⟩ := List.mem_iff_getElem.1 hp
  have := (zEJ (hv.pc i hi)).2.2.2.2.1
  rwa [zCq pc0 hi] at this
 ·have := hv.st
  have a := Int.mul_le_mul hv.w8 hv.h8 (by have := hv.h1; omega) (by decide)
  omega
def ruZ : List AV := [.str [], .int .i64 0, .int .i64 0, .nil, .nil, .bool false, .bool false, .nil, .int .i64 0, .int .i64 0, .int .i64 0]
def ruP (r : Go.Ax.Gm.Rules) (x : AV) : List AV := [.str r.name, .int .i64 r.w, .int .i64 r.h, x, z8 r.start, .bool r.falls, .bool r.keeps, .ro (zEv r.ends) 0 r.ends.length, .int .i64 r.blocked, .int .i64 r.quiet, .int .i64 r.rep]
theorem zOK {n : Nat} (l : List Go.Ax.Gm.Pc) : zAz n (zAj l) := fun i j _ hj => by
 have hj : j < 4 := hj
 show zCe n ((pcC (l.getD i pc0)).getD j .any) = true
 match j, hj with
 | 0, _ => rfl
 | 1, _ => rfl
 | 2, _ => rfl
 | 3, _ => rfl
theorem zDr {n : Nat} {l : List AV} (h : zB4 n l = true) : zAz n (.box l) := fun i j _ hj => zJ1 (c := .box l) h i j hj
abbrev hpR (r : Go.Ax.Gm.Rules) (k : Nat) : zP := [some ⟨26, .box (ruC r)⟩, some ⟨26, .box ruZ⟩, some ⟨26, .box (ruP r (.sl 3 0 k))⟩, some ⟨94, zAj (r.pcs.take k)⟩]
/-- rules.Copy -/
theorem zIn (r : Go.Ax.Gm.Rules) (hr : Small r) : zl Tryz.prog 27 [ruA r] (ruA r) := by
 refine zd.value0 (zL (P := Tryz.prog) (fn := Tryz.f27) U U (by kernel_rfl) U (fun c hR hfix => ?_)) (fix := fun _ => False) (fun _ h => h) U U
 have hpl := hr.pcs
 refine rn6 ?_
 refine zZ (ruC r) U U U U U U U ?_
 refine rn9 ?_
 refine zAK [some ⟨26, .box (ruC r)⟩, some ⟨26, .box ruZ⟩, some ⟨26, .box (ruP r .nil)⟩] U ?_
 refine zDM 2 ⟨94, zAj []⟩ (.box (ruP r (.sl 3 0 0))) U U U U (fun i j hi hj => ?_) ?_
 ·obtain rfl : i = 0 := Nat.lt_one_iff.1 hi
  have hj : j < 11 := hj
  match j, hj with
  | 0, _ => exact .inl rfl
  | 1, _ => exact .inl rfl
  | 2, _ => exact .inl rfl
  | 3, _ => exact .inr ⟨rfl, rfl⟩
  | 4, _ => exact .inl rfl
  | 5, _ => exact .inl rfl
  | 6, _ => exact .inl rfl
  | 7, _ => exact .inl rfl
  | 8, _ => exact .inl rfl
  | 9, _ => exact .inl rfl
  | 10, _ => exact .inl rfl
 refine zAA (ι := Nat) (fun k => [(1, .ptr 0 0 0), (2, .ptr 1 0 0), (3, .ptr 2 0 0), (9, .ro (zAj r.pcs) 0 r.pcs.length), (10, iN r.pcs.length), (11, iN k)]) (fun k => hpR r k)
  (fun k => k ≤ r.pcs.length) (fun k => r.pcs.length - k) 0 ⟨⟨rfl, rfl, rfl, rfl, rfl, rfl, trivial⟩, rfl, Nat.zero_le _⟩ ?_
 intro k hk
 refine rn4 ?_
 refine zF U (fun h2 => ?_) (fun h2 => ?_)
 ·have hk' : k < r.pcs.length := by omega
  generalize hp : r.pcs.getD k pc0 = p
  have hpw := hr.ways p (by rw [← hp]; exact zAR pc0 hk')
  have htk : r.pcs.take (k + 1) = r.pcs.take k ++ [p] := by rw [zAE _ pc0 k hk', hp]
  have htl : (r.pcs.take k).length = k := by rw [List.length_take]; omega
  refine zGo ?_
  repeat (refine zAI rfl rfl rfl ?_)
  refine zZ (pcC p) U U U U U (by rw [← hp]; rfl) U ?_
  refine rn5 ?_
  refine zQ U U U (cloneW p.ways (by omega)) ?_
  repeat (first | refine zC ?_ | refine zB ?_ | refine zJ rfl ?_ | refine zA (zU rfl rfl rfl rfl rfl) ?_ | refine zA (zO rfl rfl rfl rfl rfl rfl) ?_ | refine zA (qpp rfl rfl rfl rfl rfl rfl rfl) ?_ | refine zAJ rfl rfl rfl rfl rfl rfl rfl Nat.zero_lt_one ?_ | refine zAN rfl rfl rfl rfl rfl rfl rfl rfl rfl rfl rfl ?_)
  refine zBN [p] U U U U U U U U htl U U U U (by show 0 + 1 ≤ 1; omega) (fun k' j hk' hj => ?_) (by show (k + 1) * 48 ≤ _ ∧ _; omega) zMv (by rw [hfix]; exact fun h => h) ?_
  ·obtain rfl : k' = 0 := Nat.lt_one_iff.1 hk'
   match j, hj with
   | 0, _ => rfl
   | 1, _ => rfl
   | 2, _ => rfl
   | 3, _ => rfl
  rw [← htk]
  repeat (first | refine zC ?_ | refine zAY ?_ | refine zA (zO rfl rfl rfl rfl rfl rfl) ?_ | refine zAJ rfl rfl rfl rfl rfl rfl rfl Nat.zero_lt_one ?_)
  refine zB ?_
  refine zB2 (hpR r (k + 1)) [some ⟨94, .box (pcC p)⟩] [(1, .ptr 0 0 0), (2, .ptr 1 0 0), (3, .ptr 2 0 0), (9, .ro (zAj r.pcs) 0 r.pcs.length), (10, iN r.pcs.length), (11, iN k)] U ⟨U, U, U, U, U, U, trivial⟩ (fun h hh => by rw [hfix] at hh; exact hh.elim) (zBY (zDr U) (zBY (zDr U) (zBY (zDr U) (zBY (zOK _) zBZ)))) U ?_
  refine rn3 ?_
  exact zR ⟨k + 1, by omega, by omega, ⟨U, U, U, U, U, U, trivial⟩, U⟩
 ·have hk' : k = r.pcs.length := by omega
  subst hk'
  have htl : hpR r r.pcs.length = [some ⟨26, .box (ruC r)⟩, some ⟨26, .box ruZ⟩, some ⟨26, .box (ruP r (.sl 3 0 r.pcs.length))⟩, some ⟨94, zAj r.pcs⟩] := by show [_, _, _, some (AObj.mk _ (zAj (r.pcs.take r.pcs.length)))] = _; rw [List.take_length]
  rw [htl]
  refine rn5 ?_
  refine ze (by kernel_rfl) ?_
  refine zh (fuel := 3) [0, 1, 2, 3, 4, 5, 6] [(1, .ptr 0 0 0), (2, .ptr 1 0 0), (3, .ptr 2 0 0)] ⟨U, U, U, trivial⟩ (by kernel_rfl) (by decide) U U ?_
  refine zI U U (zO U U U U U U) ?_
  refine zI U U (zU U U U U U) ?_
  refine zBS U U U U U (zIi r.start (by have := hr.start; omega)) ?_
  refine zI U U (zO U U U U U U) ?_
  refine zI U U (zU U U U U U) ?_
  refine zBS U U U U U (cloneE r.ends (by have := hr.ends; omega)) ?_
  refine zI U U (zO U U U U U U) ?_
  refine zw ?_
  refine zH (is := [7]) (by kernel_rfl) (by simp) U ⟨fun o ho => ?_, trivial⟩
  all_goals (cases ho)
  refine rn9 ?_
  refine zS 8 U (by kernel_rfl) (by kernel_rfl) (by kernel_rfl) U (zO U U U U U U) U ?_
  refine zH (is := [9]) (by kernel_rfl) (by simp) U ⟨fun o ho => ?_, trivial⟩
  all_goals (cases ho)
  refine rn9 ?_
  refine zW (by kernel_rfl) ?_
  refine rn6 ?_
  refine zZ (ruP r (.sl 3 0 r.pcs.length)) U U U U U U U ?_
  refine rn7 ?_
  refine zBD [none, none, none, some ⟨94, zAj r.pcs⟩] [none, some ⟨26, .box (ruC r)⟩, none, none] [(2, .ptr 1 0 0)] ?_ (zCh (zCh (zCh (zCA (zAc zOL) zCi)))) U ?_ ⟨⟨.ptr 1 0 0, U, .inl U⟩, trivial⟩ ?_
  ·intro h o ho
   match h, ho with
   | 0, ho => simp at ho
   | 1, ho => simp at ho
   | 2, ho => simp at ho
   | 3, ho => exact ho
   | _ + 4, ho => simp at ho
  ·intro h o ho
   match h, ho with
   | 0, ho => simp at ho
   | 1, ho =>
    cases ho
    refine ⟨fun o h => by simp at h, ⟨26, .box (ruP r (.sl 3 0 r.pcs.length))⟩, U, U, U, U, fun i j hi hj => ?_⟩
    obtain rfl : i = 0 := Nat.lt_one_iff.1 hi
    have hj : j < 11 := hj
    match j, hj with
    | 0, _ => exact .inl rfl
    | 1, _ => exact .inl rfl
    | 2, _ => exact .inl rfl
    | 3, _ => exact .inr (.inr ⟨rfl, fun o ho => by cases ho; show 0 + r.pcs.length ≤ r.pcs.length; omega⟩)
    | 4, _ => exact .inl rfl
    | 5, _ => exact .inl rfl
    | 6, _ => exact .inl rfl
    | 7, _ => exact .inl rfl
    | 8, _ => exact .inl rfl
    | 9, _ => exact .inl rfl
    | 10, _ => exact .inl rfl
   | 2, ho => simp at ho
   | 3, ho => simp at ho
   | _ + 4, ho => simp at ho
  repeat (refine z6 ?_)
  exact zN hR U U
structure SmallP (p : Pos) : Prop where
 c : p.cells.length ≤ 64
 h0 : p.h0.length ≤ 6
 h1 : p.h1.length ≤ 6
theorem SmallP.len {p : Pos} (h : SmallP p) : LenP p := ⟨by have := h.c; omega, by have := h.h0; omega, by have := h.h1; omega⟩
theorem zA5 {r : Go.Ax.Gm.Rules} (hv : ValidR r) {p : Pos} (h : Sound r p) : SmallP p := by
 have a := Int.mul_le_mul hv.w8 hv.h8 (by have := hv.h1; omega) (by decide)
 have b := hv.n6
 have c1 := h.cl
 have c2 := h.l0
 have c3 := h.l1
 exact ⟨by omega, by omega, by omega⟩
/-- place.Copy -/
theorem zG2 (p : Pos) (hp : SmallP p) : zl Tryz.prog 20 [poA p] (poA p) := by
 refine zd.value0 (zL (P := Tryz.prog) (fn := Tryz.f20) U U (by kernel_rfl) U (fun c hR hfix => ?_)) (fix := fun _ => False) (fun _ h => h) U U
 obtain ⟨h1, h2, h3⟩ := hp
 refine rn6 ?_
 refine zQ U U U (zIi p.cells (by omega)) ?_
 refine rn8 ?_
 refine ze (by kernel_rfl) ?_
 refine zh (fuel := 2) [0, 1, 2, 3, 4, 5, 6, 7, 8] [(1, .ptr 0 0 0), (2, .ptr 1 0 0)] ⟨U, U, trivial⟩ (by kernel_rfl) (by decide) U U ?_
 refine zI U U (zO U U U U U U) ?_
 refine zI U U (zAk U U U U (by first | (simp only [Nat.zero_add, Int.toNat_natCast]; exact U) | exact U) (by omega)) ?_
 refine zI U U (zU U U U U U) ?_
 refine zBS U U U U U (zIi p.h0 (by omega)) ?_
 refine zI U U (zO U U U U U U) ?_
 refine zI U U (zAk U U U U (by first | (simp only [Nat.zero_add, Int.toNat_natCast]; exact U) | exact U) (by omega)) ?_
 refine zI U U (zU U U U U U) ?_
 refine zBS U U U U U (zIi p.h1 (by omega)) ?_
 refine zI U U (zDE U U U U U U) ?_
 refine zw ?_
 refine zS 9 U (by kernel_rfl) (by kernel_rfl) (by kernel_rfl) U (zO U U U U U U) U ?_
 refine zH (is := [10]) (by kernel_rfl) (by simp) U ⟨fun o ho => ?_, trivial⟩
 all_goals (cases ho)
 refine zGy (c' := .box (poC p)) (i := 0) (j := 1) U U U U U (by show 1 + 2 ≤ 5; omega) Nat.zero_lt_one U U (fun i' j' hi' hj' => ?_) ?_
 ·obtain rfl : i' = 0 := Nat.lt_one_iff.1 hi'
  have hj' : j' < 5 := hj'
  match j', hj' with
  | 0, _ => rfl
  | 1, _ => rfl
  | 2, _ => rfl
  | 3, _ => rfl
  | 4, _ => rfl
 refine rn1 ?_
 refine zW (by kernel_rfl) ?_
 refine rn6 ?_
 refine zZ (poC p) U U U U U U U ?_
 refine rn0 ?_
 exact zN hR U U
theorem zEH (a : Mv) (j k : Nat) (hj : j < 3) : ((mvC a).getD j .any).forget k = (mvC a).getD j .any := by
 match j, hj with
 | 0, _ => rfl
 | 1, _ => rfl
 | 2, _ => rfl
theorem zCW (a : Mv) (j : Nat) (hj : j < 3) : noRef ((mvC a).getD j .any) = true := by
 match j, hj with
 | 0, _ => rfl
 | 1, _ => rfl
 | 2, _ => rfl
theorem zKB {w s : Nat} (hw : 0 < w) {p : Pos} {k : Nat} : k < s / w ↔ (k + 1) * w ≤ s := by rw [← Nat.le_div_iff_mul_le hw]; omega
/-- moves.filled -/
theorem zN2 (r : Go.Ax.Gm.Rules) (hw : 1 ≤ r.w ∧ r.w ≤ 8) (p : Pos) (hp : SmallP p) (s : Nat) (hs : s < p.cells.length) : zl Tryz.prog 82 [ruA r, poA p, .int .i64 s] (.bool (zG6 r.w.toNat s p)) := by
 refine zd.value0 (zL (P := Tryz.prog) (fn := Tryz.f82) U U (by kernel_rfl) U (fun c hR hfix => ?_)) (fix := fun _ => False) (fun _ h => h) U U
 have hc := hp.c
 obtain ⟨W, hW⟩ : ∃ W : Nat, r.w = (W : Int) := ⟨r.w.toNat, by omega⟩
 have hWt : r.w.toNat = W := by omega
 have hW0 : 0 < W := by omega
 rw [hWt] at hR
 refine zY ?_
 repeat (first | refine zA (zM rfl) ?_ | refine zC ?_ | refine zB ?_ | refine zJ rfl ?_ | refine zAO rfl rfl ?_)
 refine zCp 3 4 [(2, iN s)] U U U U ⟨U, trivial⟩ ⟨U, U, U, trivial⟩ U hfix ?_
 repeat (first | refine zA (zG rfl) ?_ | refine zA (zM rfl) ?_ | refine zC ?_ | refine zB ?_ | refine zY ?_ | refine zJ rfl ?_ | refine zAX ?_ | refine zA (zA1 rfl rfl (by omega)) ?_ | refine zA (zD rfl rfl rfl rfl) ?_ | refine zA (zK rfl rfl rfl rfl rfl rfl) ?_)
 refine zAA (ι := Nat) (fun k => [(3, .rp (.box (ruC r)) 0 0), (4, .rp (.box (poC p)) 0 0), (2, .int .i64 ((s : Int) - ((k + 1) * W : Nat)))]) (fun _ => [])
  (fun k => k ≤ s / W ∧ (List.range k).all (fun k => decide (zAM p (s - (k + 1) * W) ≠ 0)) = true) (fun k => s / W - k) 0 ⟨⟨rfl, rfl, ?_, trivial⟩, rfl, Nat.zero_le _, rfl⟩ ?_
 ·show some (AV.int .i64 _) = _
  congr 2; rw [hW]; omega
 intro k ⟨hk, hall⟩
 have hmul : (k + 1) * W = k * W + W := Nat.succ_mul k W
 have hkW : k * W ≤ s := Nat.le_trans (Nat.mul_le_mul_right W hk) (Nat.div_mul_le_self s W)
 refine rn7 ?_
 refine zF U (fun h => ?_) (fun h => ?_)
 ·have hle : (k + 1) * W ≤ s := by omega
  have hlt : k < s / W := (zKB hW0 (p := p)).2 hle
  have hall' : (List.range (k + 1)).all (fun k => decide (zAM p (s - (k + 1) * W) ≠ 0)) = decide (zAM p (s - (k + 1) * W) ≠ 0) := by rw [List.range_succ, List.all_append, hall]; simp
  have hn : ((s : Int) - ((k + 1) * W : Nat)).toNat = s - (k + 1) * W := by omega
  repeat (first | refine zA (zG rfl) ?_ | refine zA (zBs rfl rfl rfl) ?_ | refine zC ?_ | refine zB ?_ | refine zY ?_ | refine zJ rfl ?_ | refine zAX ?_ | refine zAP ?_ | refine zA (zBp rfl rfl) ?_ | refine zA (zn rfl rfl rfl rfl (by first | (simp only [Nat.zero_add, Int.toNat_natCast, Int.toNat_zero]; exact rfl) | exact rfl) (by omega)) ?_ | refine zA (zD rfl rfl rfl rfl) ?_ | refine zA (zK rfl rfl rfl rfl rfl rfl) ?_)
  refine zF U (fun h2 => ?_) (fun h2 => ?_)
  ·rw [hn] at h2
   refine rn6 ?_
   refine zN hR U ?_
   have : zG6 W s p = false := by
    unfold zG6
    refine Bool.eq_false_iff.2 (fun q => ?_)
    have := List.all_eq_true.1 q k (List.mem_range.2 hlt)
    rw [decide_eq_true_eq] at this
    exact this h2
   rw [this]; rfl
  ·rw [hn] at h2
   repeat (first | refine zA (zG rfl) ?_ | refine zA (zM rfl) ?_ | refine zC ?_ | refine zB ?_ | refine zJ rfl ?_ | refine zAY ?_ | refine zAP ?_ | refine zA (zA1 rfl rfl (by omega)) ?_ | refine zA (zD rfl rfl rfl rfl) ?_ | refine zA (zK rfl rfl rfl rfl rfl rfl) ?_)
   refine zR ⟨k + 1, ⟨by omega, by rw [hall']; exact decide_eq_true h2⟩, by omega, ⟨U, U, ?_, trivial⟩, U⟩
   show some (AV.int .i64 _) = _
   congr 2; rw [hW, Nat.succ_mul (k + 1) W]; omega
 ·have hk' : k = s / W := by
   rcases Nat.lt_or_ge k (s / W) with q | q
   ·have := (zKB hW0 (p := p)).1 q; omega
   ·omega
  refine rn5 ?_
  refine zN hR U ?_
  unfold zG6
  rw [← hk', hall]; rfl
def zBk (r : Go.Ax.Gm.Rules) (p : Pos) (k : Nat) : List Mv := (List.range k).flatMap (fun s => if zFx r p s = true then zJC (zBx p p.turn) s else [])
def zDk (l : List Int) (s k : Nat) : List Mv := ((List.range k).filter (fun k : Nat => decide (0 < l.getD k 0))).map (fun k : Nat => ⟨-1, (s : Int), (k : Int)⟩)
theorem zMz (l : List Int) (s k : Nat) : zDk l s (k + 1) = if 0 < l.getD k 0 then zDk l s k ++ [⟨-1, (s : Int), (k : Int)⟩] else zDk l s k := by
 unfold zDk
 rw [List.range_succ, List.filter_append, List.map_append]
 split
 ·rename_i h; rw [List.filter_cons_of_pos (by exact decide_eq_true h)]; rfl
 ·rename_i h; rw [List.filter_cons_of_neg (by rw [decide_eq_false h]; exact Bool.false_ne_true)]; simp
theorem zKS (l : List Int) (s k : Nat) : (zDk l s k).length ≤ k := by
 unfold zDk
 rw [List.length_map]
 exact Nat.le_trans (List.length_filter_le ..) (by rw [List.length_range]; exact Nat.le_refl _)
theorem zIA (r : Go.Ax.Gm.Rules) (p : Pos) (k : Nat) : zBk r p (k + 1) = zBk r p k ++ (if zFx r p k = true then zJC (zBx p p.turn) k else []) := by
 unfold zBk
 rw [List.range_succ, List.flatMap_append]; simp
theorem zGk (r : Go.Ax.Gm.Rules) (p : Pos) (hl : (zBx p p.turn).length ≤ 6) : ∀ k, (zBk r p k).length ≤ 6 * k
 | 0 => Nat.le_refl _
 | k + 1 => by
  have ih := zGk r p hl k
  rw [zIA, List.length_append]
  have : (if zFx r p k = true then zJC (zBx p p.turn) k else []).length ≤ 6 := by
   split
   ·exact Nat.le_trans (zKS (zBx p p.turn) k _) hl
   ·exact Nat.zero_le _
  omega
/-- moves.puts -/
theorem puts_ok (r : Go.Ax.Gm.Rules) (hw : 1 ≤ r.w ∧ r.w ≤ 8) (p : Pos) (hp : SmallP p) (ht : p.turn = 0 ∨ p.turn = 1) : zHy Tryz.prog 44 [ruA r, poA p] (fun N => .sl N 0 (zFy r p).length) ⟨85, zAv (zFy r p)⟩ := by
 refine zd.fresh (K := fun v H => v = .sl 0 0 (zFy r p).length ∧ H = [some ⟨85, zAv (zFy r p)⟩]) (zL (P := Tryz.prog) (fn := Tryz.f44) U U (by kernel_rfl) U (fun c hR hfix => ?_)) (fix := fun _ => False) (fun _ h => h) U (fun H => ⟨U, by simp [zGf, inB, ruC, poC]⟩) ?_
 ·have hc := hp.c
  have hh6 : (zBx p p.turn).length ≤ 6 := by unfold zBx; have := hp.h0; have := hp.h1; split <;> omega
  generalize hL : zBx p p.turn = L at hh6
  obtain ⟨W, hW⟩ : ∃ W : Nat, r.w = (W : Int) := ⟨r.w.toNat, by omega⟩
  have hWt : r.w.toNat = W := by omega
  refine zY ?_
  repeat (first | refine zA (zM rfl) ?_ | refine zC ?_ | refine zB ?_ | refine zJ rfl ?_ | refine zAO rfl rfl ?_)
  refine zCp 2 3 [(4, .nil)] U U U U ⟨U, trivial⟩ ⟨U, U, U, trivial⟩ U hfix ?_
  refine zBz ?_
  refine zCF 5 ⟨85, zAv []⟩ U U ?_
  refine zAA (ι := Nat) (fun k => [(2, .rp (.box (ruC r)) 0 0), (3, .rp (.box (poC p)) 0 0), (5, .sl 0 0 (zBk r p k).length), (11, z8 p.cells), (12, iN p.cells.length), (13, iN k)]) (fun k => [some ⟨85, zAv (zBk r p k)⟩])
   (fun k => k ≤ p.cells.length) (fun k => p.cells.length - k) 0 ⟨⟨rfl, rfl, rfl, rfl, rfl, rfl, trivial⟩, rfl, Nat.zero_le _⟩ ?_
  intro k hk
  refine rn4 ?_
  refine zF U (fun h => ?_) (fun h => ?_)
  ·have hk' : k < p.cells.length := by omega
   have hsucc := zIA r p k
   have hlen := zGk r p (by rw [hL]; exact hh6) k
   rw [hL] at hsucc
   have no : zFx r p k = false → zBk r p (k + 1) = zBk r p k := fun q => by rw [hsucc, q]; simp
   have yes : zFx r p k = true → zBk r p (k + 1) = zBk r p k ++ zDk L k L.length := fun q => by rw [hsucc, q]; rfl
   refine rn6 ?_
   apply zAL (H := [some ⟨85, zAv (zBk r p k)⟩]) [(2, .rp (.box (ruC r)) 0 0), (3, .rp (.box (poC p)) 0 0), (5, .sl 0 0 (zBk r p k).length), (11, z8 p.cells), (12, iN p.cells.length), (13, iN k), (6, iN k), (36, .bool (!(zFx r p k)))]
   ·intro fin
    refine zj U U (fun g1 => ?_) (fun g1 => ?_)
    ·repeat (first | refine zC ?_ | refine zB ?_ | refine zAu rfl rfl ?_ | refine zAZ rfl rfl rfl ?_ | refine zA (zi rfl rfl) ?_)
     have g1 : ¬ zAM p k = 0 := g1
     exact fin _ ⟨U, U, U, U, U, U, U, by unfold zFx; rw [decide_eq_false g1]; rfl, trivial⟩
    have g1 : zAM p k = 0 := Classical.not_not.1 g1
    refine zBG ?_
    refine zA2 U U (fun g2 => ?_) (fun g2 => ?_)
    ·repeat (first | refine zA (zG rfl) ?_ | refine zx rfl rfl ?_ | refine zA (zEZ rfl rfl) ?_ | refine zA (zi rfl rfl) ?_ | refine zA (zD rfl rfl rfl rfl) ?_ | refine zA (zK rfl rfl rfl rfl rfl rfl) ?_)
     refine zj U U (fun g3 => ?_) (fun g3 => ?_)
     ·refine zGo ?_
      refine zQ U U U (zN2 r hw p hp k hk') ?_
      repeat (first | refine zC ?_ | refine zB ?_ | refine zx rfl rfl ?_ | refine zA (zDl rfl) ?_ | refine zA (zi rfl rfl) ?_)
      exact fin _ ⟨U, U, U, U, U, U, U, by unfold zFx; rw [decide_eq_true g1, g2, decide_eq_true (show r.w.toNat ≤ k by omega), Bool.true_and, Bool.true_and, Bool.true_and, Bool.not_not]; rfl, trivial⟩
     ·refine zBG ?_
      exact fin _ ⟨U, U, U, U, U, U, U, by unfold zFx; rw [decide_eq_true g1, g2, decide_eq_false (show ¬ r.w.toNat ≤ k by omega)]; rfl, trivial⟩
    ·refine zBG ?_
     exact fin _ ⟨U, U, U, U, U, U, U, by unfold zFx; rw [decide_eq_true g1, g2]; rfl, trivial⟩
   refine zAQ U (fun g => ?_) (fun g => ?_)
   ·rw [Bool.not_eq_true'] at g
    refine rn5 ?_
    refine zR ⟨k + 1, by omega, by omega, ⟨U, U, ?_, U, U, U, trivial⟩, ?_⟩
    ·rw [no g]; rfl
    ·rw [no g]
   rw [Bool.not_eq_false'] at g
   refine rn20 ?_
   apply zAL (H := [some ⟨85, zAv (zBk r p k)⟩]) [(2, .rp (.box (ruC r)) 0 0), (3, .rp (.box (poC p)) 0 0), (5, .sl 0 0 (zBk r p k).length), (11, z8 p.cells), (12, iN p.cells.length), (13, iN k), (6, iN k), (41, z8 L), (42, iN L.length), (43, .int .i64 ((0 : Nat) : Int))]
   ·intro fin
    rcases ht with ht | ht
    ·have e : L = p.h0 := by rw [← hL]; unfold zBx; rw [if_pos ht]
     refine zJ U ?_
     refine zBG ?_
     rw [ht]
     repeat (first | refine zA (zG rfl) ?_ | refine zC ?_ | refine zB ?_ | refine zA (zBK rfl rfl rfl) ?_ | refine zA (zD rfl rfl rfl rfl) ?_ | refine zA (zB1 rfl rfl rfl rfl (by first | (simp only [Nat.zero_add, Int.toNat_natCast]; exact rfl) | exact rfl) (by omega)) ?_)
     exact fin _ ⟨U, U, U, U, U, U, U, by rw [e]; rfl, by rw [e]; rfl, U, trivial⟩
    ·have e : L = p.h1 := by rw [← hL]; unfold zBx; rw [if_neg (by omega)]
     refine zJ U ?_
     refine zBG ?_
     rw [ht]
     repeat (first | refine zA (zG rfl) ?_ | refine zC ?_ | refine zB ?_ | refine zA (zBK rfl rfl rfl) ?_ | refine zA (zD rfl rfl rfl rfl) ?_ | refine zA (zB1 rfl rfl rfl rfl (by first | (simp only [Nat.zero_add, Int.toNat_natCast]; exact rfl) | exact rfl) (by omega)) ?_)
     exact fin _ ⟨U, U, U, U, U, U, U, by rw [e]; rfl, by rw [e]; rfl, U, trivial⟩
   repeat (refine zAX ?_)
   refine zAA (ι := Nat) (fun j => [(2, .rp (.box (ruC r)) 0 0), (3, .rp (.box (poC p)) 0 0), (5, .sl 0 0 (zBk r p k ++ zDk L k j).length), (11, z8 p.cells), (12, iN p.cells.length), (13, iN k), (6, iN k), (41, z8 L), (42, iN L.length), (43, iN j)]) (fun j => [some ⟨85, zAv (zBk r p k ++ zDk L k j)⟩])
    (fun j => j ≤ L.length) (fun j => L.length - j) 0 ⟨⟨rfl, rfl, ?_, rfl, rfl, rfl, rfl, rfl, rfl, rfl, trivial⟩, ?_, Nat.zero_le _⟩ ?_
   ·rw [show zDk L k 0 = [] from rfl, List.append_nil]; rfl
   ·rw [show zDk L k 0 = [] from rfl, List.append_nil]
   intro j hj
   have hjl := zKS L k j
   have hal : (zBk r p k ++ zDk L k j).length = (zBk r p k).length + (zDk L k j).length := List.length_append
   refine rn4 ?_
   refine zF U (fun q => ?_) (fun q => ?_)
   ·have hj' : j < L.length := by omega
    have hps := zMz L k j
    refine rn6 ?_
    refine zF U (fun q2 => ?_) (fun q2 => ?_)
    ·have q2 : 0 < L.getD j 0 := q2
     rw [if_pos q2] at hps
     have hnl : (zBk r p k ++ zDk L k (j + 1)).length = (zBk r p k ++ zDk L k j).length + 1 := by rw [hps, ← List.append_assoc, List.length_append (bs := [_])]; rfl
     refine rn8 ?_
     refine zBN [⟨-1, (k : Int), (j : Int)⟩] U U U U U U U U U U U U U (by show 0 + 1 ≤ 1; omega) (fun k' j' hk' hj' => ?_) (by show ((zBk r p k ++ zDk L k j).length + 1) * 24 ≤ _ ∧ _; omega) zEH (by rw [hfix]; exact fun h => h) ?_
     ·obtain rfl : k' = 0 := Nat.lt_one_iff.1 hk'
      match j', hj' with
      | 0, _ => rfl
      | 1, _ => rfl
      | 2, _ => rfl
     refine rn5 ?_
     refine zR ⟨j + 1, by omega, by omega, ⟨U, U, ?_, U, U, U, U, U, U, U, trivial⟩, ?_⟩
     ·rw [hnl]; rfl
     ·rw [hps, ← List.append_assoc]; rfl
    ·have q2 : ¬ 0 < L.getD j 0 := q2
     rw [if_neg q2] at hps
     refine rn5 ?_
     refine zR ⟨j + 1, by omega, by omega, ⟨U, U, ?_, U, U, U, U, U, U, U, trivial⟩, ?_⟩
     ·rw [hps]; rfl
     ·rw [hps]
   ·have hj' : j = L.length := by omega
    subst hj'
    refine rn5 ?_
    refine zR ⟨k + 1, by omega, by omega, ⟨U, U, ?_, U, U, U, trivial⟩, ?_⟩
    ·rw [yes g]; rfl
    ·rw [yes g]
  ·have hk' : k = p.cells.length := by omega
   subst hk'
   refine rn5 ?_
   exact zN hR U ⟨U, U⟩
 ·rintro v H ⟨rfl, rfl⟩
  refine ⟨?_, fun h o ho => zEN (zAc zCW) h o ho, 0, U, fun n => rfl⟩
  intro o ho; simp at ho; subst ho; show 0 + (zFy r p).length ≤ (zFy r p).length; omega
def zFv (turn c : Int) : Bool := decide (0 < c) && decide ((c - 1).tmod 2 ≠ turn)
theorem hitB_eq (take turn c : Int) : hitB take turn c = ((decide (take = 0) && decide (c = 0)) || ((decide (take = 1) && (decide (c = 0) || zFv turn c)) || (decide (take = 2) && zFv turn c))) := rfl
theorem zMV (r : Go.Ax.Gm.Rules) (p : Pos) (take dx dy : Int) : ∀ (n : Nat) (x y : Int), (zFa r p take dx dy n x y).length ≤ n
 | 0, _, _ => Nat.le_refl _
 | n + 1, x, y => by
  have ih := zMV r p take dx dy n (x + dx) (y + dy)
  rw [zFa]
  split
  ·exact Nat.zero_le _
  ·rw [List.length_append]
   have a : (if hitB take p.turn (zAM p ((y + dy) * r.w + (x + dx)).toNat) = true then [(y + dy) * r.w + (x + dx)] else []).length ≤ 1 := by split <;> simp
   have b : (if zAM p ((y + dy) * r.w + (x + dx)).toNat ≠ 0 then [] else zFa r p take dx dy n (x + dx) (y + dy)).length ≤ n := by split; exact Nat.zero_le _; exact ih
   omega
theorem zIg {r : Go.Ax.Gm.Rules} (hv : ValidR r) {p : Pos} (S : Sound r p) (s : Nat) : 0 ≤ zAM p s ∧ zAM p s ≤ 12 := by
 have := zFE S s
 have := hv.n6
 omega
/-- moves.way -/
theorem way_ok (r : Go.Ax.Gm.Rules) (hv : ValidR r) (p : Pos) (S : Sound r p) (s : Nat) (hs : s < p.cells.length) (w : Go.Ax.Gm.Way) (hwb : zEQ w = true) :
 zl Tryz.prog 45 [ruA r, poA p, .int .i64 s, .agg (zF5 w)] (z8 (zHZ r p s w)) := by
 refine zd.value (K := fun v H => v = .sl 0 0 (zHZ r p s w).length ∧ H = [some ⟨3, .ints .i64 (zHZ r p s w)⟩]) (zL (P := Tryz.prog) (fn := Tryz.f45) U U (by kernel_rfl) U (fun c hR hfix => ?_)) (fix := fun _ => False) (fun _ h => h) U ?_
 ·have hc := (zA5 hv S).c
  have hcl := S.cl
  have hw : 1 ≤ r.w ∧ r.w ≤ 8 := ⟨hv.w1, hv.w8⟩
  have hh : 1 ≤ r.h ∧ r.h ≤ 8 := ⟨hv.h1, hv.h8⟩
  have htn : 0 ≤ p.turn ∧ p.turn ≤ 1 := by have := S.tn; omega
  unfold zEQ at hwb
  simp only [Bool.and_eq_true, Bool.not_eq_true'] at hwb
  obtain ⟨b1, b2, _, b4, b5⟩ := hwb
  have b1 := Go.Ax.Gm.within_iff.1 b1
  have b2 := Go.Ax.Gm.within_iff.1 b2
  have b4 := Go.Ax.Gm.within_iff.1 b4
  have b5 := Go.Ax.Gm.within_iff.1 b5
  have hsx : 0 ≤ (s : Int) / r.w ∧ (s : Int) / r.w < r.h ∧ 0 ≤ (s : Int) % r.w ∧ (s : Int) % r.w < r.w := by
   refine ⟨Int.ediv_nonneg (by omega) (by omega), Int.ediv_lt_of_lt_mul (by omega) ?_, Int.emod_nonneg _ (by omega), Int.emod_lt_of_pos _ (by omega)⟩
   rw [Int.mul_comm, ← hcl]; omega
  generalize hD : dyOf p w = D
  have hD7 : -7 ≤ D ∧ D ≤ 7 := by
   rw [← hD]
   unfold dyOf
   by_cases q : p.turn = 1
   ·rw [if_pos q]; omega
   ·rw [if_neg q]; exact b2
  have hM : zHZ r p s w = zFa r p w.take w.dx D w.most.toNat ((s : Int) % r.w) ((s : Int) / r.w) := by
   unfold zHZ; rw [hD, Int.tdiv_eq_ediv_of_nonneg (by omega), Int.tmod_eq_emod_of_nonneg (by omega)]
  rw [hM] at hR
  generalize hW : zFa r p w.take w.dx D w.most.toNat ((s : Int) % r.w) ((s : Int) / r.w) = WL at hR
  refine zY ?_
  repeat (first | refine zA (zM rfl) ?_ | refine zC ?_ | refine zB ?_ | refine zJ rfl ?_ | refine zAO rfl rfl ?_)
  refine zGZ [(4, .rp (.box (ruC r)) 0 0), (5, .rp (.box (poC p)) 0 0), (7, .rp (.box (zF5 w)) 0 0), (2, iN s), (8, .nil)] (zCA (zu rfl) (zCA (zu rfl) (zCA (zu rfl) zCi))) ⟨⟨.ptr 0 0 0, rfl, .inr (.inr ⟨rfl, fun o ho => by cases ho; exact Nat.zero_lt_one⟩)⟩, ⟨.ptr 1 0 0, rfl, .inr (.inr ⟨rfl, fun o ho => by cases ho; exact Nat.zero_lt_one⟩)⟩, ⟨.ptr 2 0 0, rfl, .inr (.inr ⟨rfl, fun o ho => by cases ho; exact Nat.zero_lt_one⟩)⟩, ⟨_, rfl, .inl rfl⟩, ⟨_, rfl, .inl rfl⟩, trivial⟩ ⟨rfl, rfl, rfl, rfl, rfl, trivial⟩ rfl hfix ?_
  refine zBz ?_
  apply zAL (H := []) [(4, .rp (.box (ruC r)) 0 0), (5, .rp (.box (poC p)) 0 0), (7, .rp (.box (zF5 w)) 0 0), (2, iN s), (9, .nil), (10, .int .i64 D)]
  ·intro fin
   refine zF U (fun t1 => ?_) (fun t1 => ?_)
   ·repeat (first | refine zA (zG rfl) ?_ | refine zJ rfl ?_)
    refine zA (q_neg U (by omega)) ?_
    refine zE6 ?_
    exact fin _ ⟨U, U, U, U, U, by rw [← hD]; unfold dyOf; rw [if_pos t1]; rfl, trivial⟩
   ·refine zE6 ?_
    exact fin _ ⟨U, U, U, U, U, by rw [← hD]; unfold dyOf; rw [if_neg t1]; rfl, trivial⟩
  repeat (refine zY ?_)
  refine ze (by kernel_rfl) ?_
  refine zh (fuel := 0) [0, 1, 2, 3, 4, 5, 6, 7, 8, 9] [(4, .rp (.box (ruC r)) 0 0), (5, .rp (.box (poC p)) 0 0), (7, .rp (.box (zF5 w)) 0 0), (2, iN s), (9, .nil), (10, .int .i64 D)] ⟨U, U, U, U, U, U, trivial⟩ (by kernel_rfl) (by decide) U U ?_
  refine zI U U (zG U) ?_
  refine zI U U (zK U U U U U U) ?_
  refine zI U U (zD U U U U) ?_
  refine zI U U (zJF U U (by omega)) ?_
  refine zI U U (zG U) ?_
  refine zI U U (zK U U U U U U) ?_
  refine zI U U (zD U U U U) ?_
  refine zI U U (zIB U U (by omega)) ?_
  refine zI U U (zM U) ?_
  refine zI U U (zM U) ?_
  refine zw ?_
  refine zW (by kernel_rfl) ?_
  refine zBz ?_
  refine zCF 9 ⟨3, .ints .i64 []⟩ U U ?_
  refine zAA (ι := Nat × Int × Int × List Int) (fun z => [(4, .rp (.box (ruC r)) 0 0), (5, .rp (.box (poC p)) 0 0), (7, .rp (.box (zF5 w)) 0 0), (9, .sl 0 0 z.2.2.2.length), (10, .int .i64 D), (11, .int .i64 z.2.1), (12, .int .i64 z.2.2.1), (31, .int .i64 w.most), (32, iN z.1)]) (fun z => [some ⟨3, .ints .i64 z.2.2.2⟩])
   (fun z => z.1 ≤ w.most.toNat ∧ 0 ≤ z.2.1 ∧ z.2.1 < r.w ∧ 0 ≤ z.2.2.1 ∧ z.2.2.1 < r.h ∧ WL = z.2.2.2 ++ zFa r p w.take w.dx D (w.most.toNat - z.1) z.2.1 z.2.2.1 ∧ z.2.2.2.length ≤ z.1) (fun z => w.most.toNat - z.1) (0, (s : Int) % r.w, (s : Int) / r.w, []) ⟨⟨rfl, rfl, rfl, rfl, rfl, rfl, rfl, rfl, rfl, trivial⟩, rfl, Nat.zero_le _, hsx.2.2.1, hsx.2.2.2, hsx.1, hsx.2.1, hW.symm, Nat.zero_le _⟩ ?_
  rintro ⟨k, x, y, out⟩ ⟨hk, hx0, hx1, hy0, hy1, hWL, hol⟩
  simp only at hk hx0 hx1 hy0 hy1 hWL hol
  change Ax _ _ _ _ [(4, .rp (.box (ruC r)) 0 0), (5, .rp (.box (poC p)) 0 0), (7, .rp (.box (zF5 w)) 0 0), (9, .sl 0 0 out.length), (10, .int .i64 D), (11, .int .i64 x), (12, .int .i64 y), (31, .int .i64 w.most), (32, iN k)] [some ⟨3, .ints .i64 out⟩]
  refine rn4 ?_
  refine zF U (fun q => ?_) (fun q => ?_)
  ·have hk' : k < w.most.toNat := by
    have q : (k : Int) < w.most := q
    omega
   obtain ⟨n, hn⟩ : ∃ n, w.most.toNat - k = n + 1 := ⟨w.most.toNat - k - 1, by omega⟩
   have hn2 : w.most.toNat - (k + 1) = n := by omega
   rw [hn, zFa] at hWL
   repeat (first | refine zA (zG rfl) ?_ | refine zA (zM rfl) ?_ | refine zC ?_ | refine zB ?_ | refine zY ?_ | refine zJ rfl ?_ | refine zAX ?_ | refine zAP ?_ | refine zA (zCR rfl rfl) ?_ | refine zA (zA4 rfl rfl (by omega)) ?_ | refine zA (zD rfl rfl rfl rfl) ?_ | refine zA (zK rfl rfl rfl rfl rfl rfl) ?_)
   apply zAL (H := [some ⟨3, .ints .i64 out⟩]) [(4, .rp (.box (ruC r)) 0 0), (5, .rp (.box (poC p)) 0 0), (7, .rp (.box (zF5 w)) 0 0), (9, .sl 0 0 out.length), (10, .int .i64 D), (11, .int .i64 (x + w.dx)), (12, .int .i64 (y + D)), (31, .int .i64 w.most), (32, iN k), (58, .bool (zFu r (x + w.dx) (y + D)))]
   ·intro fin
    refine zj U U (fun f1 => ?_) (fun f1 => ?_)
    ·refine zBG ?_
     exact fin _ ⟨U, U, U, U, U, U, U, U, U, by unfold zFu; rw [decide_eq_true (show x + w.dx < 0 from f1)]; rfl, trivial⟩
    repeat (first | refine zA (zG rfl) ?_ | refine zx rfl rfl ?_ | refine zA (zEZ rfl rfl) ?_ | refine zA (zi rfl rfl) ?_ | refine zA (zD rfl rfl rfl rfl) ?_ | refine zA (zK rfl rfl rfl rfl rfl rfl) ?_)
    refine zj U U (fun f2 => ?_) (fun f2 => ?_)
    ·refine zBG ?_
     exact fin _ ⟨U, U, U, U, U, U, U, U, U, by unfold zFu; rw [decide_eq_false (show ¬ x + w.dx < 0 from f1), decide_eq_true (show r.w ≤ x + w.dx from f2)]; rfl, trivial⟩
    repeat (first | refine zA (zG rfl) ?_ | refine zx rfl rfl ?_ | refine zA (zCR rfl rfl) ?_ | refine zA (zi rfl rfl) ?_)
    refine zj U U (fun f3 => ?_) (fun f3 => ?_)
    ·refine zBG ?_
     exact fin _ ⟨U, U, U, U, U, U, U, U, U, by unfold zFu; rw [decide_eq_false (show ¬ x + w.dx < 0 from f1), decide_eq_false (show ¬ r.w ≤ x + w.dx from f2), decide_eq_true (show y + D < 0 from f3)]; rfl, trivial⟩
    repeat (first | refine zA (zG rfl) ?_ | refine zC ?_ | refine zB ?_ | refine zx rfl rfl ?_ | refine zA (zEZ rfl rfl) ?_ | refine zA (zi rfl rfl) ?_ | refine zA (zD rfl rfl rfl rfl) ?_ | refine zA (zK rfl rfl rfl rfl rfl rfl) ?_)
    exact fin _ ⟨U, U, U, U, U, U, U, U, U, by unfold zFu; rw [decide_eq_false (show ¬ x + w.dx < 0 from f1), decide_eq_false (show ¬ r.w ≤ x + w.dx from f2), decide_eq_false (show ¬ y + D < 0 from f3)]; rfl, trivial⟩
   refine zAQ U (fun g => ?_) (fun g => ?_)
   ·rw [if_pos g, List.append_nil] at hWL
    refine rn14 ?_
    exact zN hR U ⟨by rw [hWL]; rfl, by rw [hWL]⟩
   rw [if_neg (by rw [g]; exact Bool.false_ne_true)] at hWL
   have hsq := sq_lt g
   have hoff : 0 ≤ x + w.dx ∧ x + w.dx < r.w ∧ 0 ≤ y + D ∧ y + D < r.h := by
    unfold zFu at g
    simp only [Bool.or_eq_false_iff, decide_eq_false_iff_not] at g
    omega
   have hYw : 0 ≤ (y + D) * r.w ∧ (y + D) * r.w ≤ 64 := ⟨Int.mul_nonneg (by omega) (by omega), by
    have a := Int.mul_le_mul (show y + D ≤ 8 by omega) hw.2 (by omega) (by decide)
    exact Int.le_trans a (by decide)⟩
   have hC12 := zIg hv S ((y + D) * r.w + (x + w.dx)).toNat
   refine zBz ?_
   refine zA (zDF U U (by omega)) ?_
   repeat (first | refine zA (zG rfl) ?_ | refine zA (zM rfl) ?_ | refine zA (zBs rfl rfl rfl) ?_ | refine zC ?_ | refine zB ?_ | refine zA (zA4 rfl rfl (by omega)) ?_ | refine zA (zn rfl rfl rfl rfl (by first | (simp only [Nat.zero_add, Int.toNat_natCast, Int.toNat_zero]; exact rfl) | exact rfl) (by omega)) ?_)
   obtain ⟨C, hC⟩ : ∃ C, zAM p ((y + D) * r.w + (x + w.dx)).toNat = C := ⟨_, rfl⟩
   rw [hC] at hWL hC12
   refine zBu 13 (.int .i64 C) U (AEq.of_eq (by rw [← hC]; rfl)) ?_
   refine rn6 ?_
   apply zAL (H := [some ⟨3, .ints .i64 out⟩]) [(4, .rp (.box (ruC r)) 0 0), (5, .rp (.box (poC p)) 0 0), (7, .rp (.box (zF5 w)) 0 0), (9, .sl 0 0 out.length), (10, .int .i64 D), (11, .int .i64 (x + w.dx)), (12, .int .i64 (y + D)), (31, .int .i64 w.most), (32, iN k), (13, .int .i64 C), (14, .bool (zFv p.turn C))]
   ·intro fin
    refine zj U U (fun e1 => ?_) (fun e1 => ?_)
    ·repeat (first | refine zA (zG rfl) ?_ | refine zA (zM rfl) ?_ | refine zC ?_ | refine zB ?_ | refine zx rfl rfl ?_ | refine zA (zBh rfl rfl) ?_ | refine zA (zi rfl rfl) ?_ | refine zA (zA1 rfl rfl (by omega)) ?_ | refine zA (zJF rfl rfl (by omega)) ?_ | refine zA (zD rfl rfl rfl rfl) ?_ | refine zA (zK rfl rfl rfl rfl rfl rfl) ?_)
     exact fin _ ⟨U, U, U, U, U, U, U, U, U, U, congrArg (fun b => some (AV.bool b)) (show decide (¬ (C - 1) % 2 = p.turn) = zFv p.turn C by unfold zFv; rw [decide_eq_true (show 0 < C from e1), Int.tmod_eq_emod_of_nonneg (by have e1 : 0 < C := e1; omega), Bool.true_and]), trivial⟩
    ·refine zE6 ?_
     exact fin _ ⟨U, U, U, U, U, U, U, U, U, U, congrArg (fun b => some (AV.bool b)) (show false = zFv p.turn C by unfold zFv; rw [decide_eq_false (show ¬ 0 < C from e1)]; rfl), trivial⟩
   have hHit := hitB_eq w.take p.turn C
   generalize zFv p.turn C = oth at hHit
   generalize hitB w.take p.turn C = hit at hWL hHit
   refine zBz ?_
   apply zAL (H := [some ⟨3, .ints .i64 out⟩]) [(4, .rp (.box (ruC r)) 0 0), (5, .rp (.box (poC p)) 0 0), (7, .rp (.box (zF5 w)) 0 0), (9, .sl 0 0 out.length), (10, .int .i64 D), (11, .int .i64 (x + w.dx)), (12, .int .i64 (y + D)), (31, .int .i64 w.most), (32, iN k), (13, .int .i64 C), (14, .bool oth), (105, .bool hit)]
   ·intro fin
    refine zj U U (fun a1 => ?_) (fun a1 => ?_)
    ·have a1 : w.take = 0 := a1
     refine zBG ?_
     refine zj U U (fun a2 => ?_) (fun a2 => ?_)
     ·have a2 : C = 0 := a2
      repeat (first | refine zA (zG rfl) ?_ | refine zC ?_ | refine zB ?_ | refine zAu rfl rfl ?_ | refine zAZ rfl rfl rfl ?_ | refine zA (zi rfl rfl) ?_)
      exact fin _ ⟨U, U, U, U, U, U, U, U, U, U, U, congrArg (fun b => some (AV.bool b)) (show true = hit by rw [hHit]; simp [a1, a2]), trivial⟩
     have a2 : ¬ C = 0 := a2
     refine zBG ?_
     refine zj U U (fun a3 => ?_) (fun a3 => ?_)
     ·exact absurd (show w.take = 1 from a3) (by omega)
     repeat (first | refine zA (zG rfl) ?_ | refine zx rfl rfl ?_ | refine zAu rfl rfl ?_ | refine zAZ rfl rfl rfl ?_ | refine zA (zBp rfl rfl) ?_ | refine zA (zi rfl rfl) ?_ | refine zA (zD rfl rfl rfl rfl) ?_ | refine zA (zK rfl rfl rfl rfl rfl rfl) ?_)
     refine zj U U (fun a4 => ?_) (fun a4 => ?_)
     ·exact absurd (show w.take = 2 from a4) (by omega)
     refine zBG ?_
     exact fin _ ⟨U, U, U, U, U, U, U, U, U, U, U, congrArg (fun b => some (AV.bool b)) (show false = hit by rw [hHit]; simp [a1, a2]), trivial⟩
    have a1 : ¬ w.take = 0 := a1
    refine zBG ?_
    refine zj U U (fun a3 => ?_) (fun a3 => ?_)
    ·have a3 : w.take = 1 := a3
     refine zBG ?_
     refine zj U U (fun a5 => ?_) (fun a5 => ?_)
     ·have a5 : C = 0 := a5
      repeat (first | refine zA (zG rfl) ?_ | refine zC ?_ | refine zB ?_ | refine zx rfl rfl ?_ | refine zAu rfl rfl ?_ | refine zAZ rfl rfl rfl ?_ | refine zA (zi rfl rfl) ?_)
      exact fin _ ⟨U, U, U, U, U, U, U, U, U, U, U, congrArg (fun b => some (AV.bool b)) (show true = hit by rw [hHit]; simp [a3, a5]), trivial⟩
     have a5 : ¬ C = 0 := a5
     refine rn2 ?_
     refine zA2 U U (fun a6 => ?_) (fun a6 => ?_)
     ·repeat (first | refine zC ?_ | refine zB ?_ | refine zAu rfl rfl ?_ | refine zAZ rfl rfl rfl ?_ | refine zA (zi rfl rfl) ?_)
      exact fin _ ⟨U, U, U, U, U, U, U, U, U, U, U, congrArg (fun b => some (AV.bool b)) (show true = hit by rw [hHit]; simp [a3, a5, a6]), trivial⟩
     refine zBG ?_
     refine zj U U (fun a4 => ?_) (fun a4 => ?_)
     ·exact absurd (show w.take = 2 from a4) (by omega)
     refine zBG ?_
     exact fin _ ⟨U, U, U, U, U, U, U, U, U, U, U, congrArg (fun b => some (AV.bool b)) (show false = hit by rw [hHit]; simp [a3, a5, a6]), trivial⟩
    have a3 : ¬ w.take = 1 := a3
    repeat (first | refine zA (zG rfl) ?_ | refine zx rfl rfl ?_ | refine zAu rfl rfl ?_ | refine zAZ rfl rfl rfl ?_ | refine zA (zBp rfl rfl) ?_ | refine zA (zi rfl rfl) ?_ | refine zA (zD rfl rfl rfl rfl) ?_ | refine zA (zK rfl rfl rfl rfl rfl rfl) ?_)
    refine zj U U (fun a4 => ?_) (fun a4 => ?_)
    ·have a4 : w.take = 2 := a4
     refine rn2 ?_
     exact fin _ ⟨U, U, U, U, U, U, U, U, U, U, U, congrArg (fun b => some (AV.bool b)) (show oth = hit by rw [hHit]; simp [a1, a3, a4]), trivial⟩
    have a4 : ¬ w.take = 2 := a4
    refine zBG ?_
    exact fin _ ⟨U, U, U, U, U, U, U, U, U, U, U, congrArg (fun b => some (AV.bool b)) (show false = hit by rw [hHit]; simp [a1, a3, a4]), trivial⟩
   have hidx : (y + D) * r.w + (x + w.dx) ≤ 64 := by omega
   obtain ⟨O, hO⟩ : ∃ O, (if hit = true then out ++ [(y + D) * r.w + (x + w.dx)] else out) = O := ⟨_, rfl⟩
   have hOl : O.length ≤ k + 1 := by
    rw [← hO]; split
    ·rw [List.length_append]; simp; exact hol
    ·omega
   have hWL : WL = O ++ (if C ≠ 0 then [] else zFa r p w.take w.dx D n (x + w.dx) (y + D)) := by
    rw [hWL, ← hO]
    cases hit with
    | true => simp
    | false => simp
   apply zAL (H := [some ⟨3, .ints .i64 O⟩]) [(4, .rp (.box (ruC r)) 0 0), (5, .rp (.box (poC p)) 0 0), (7, .rp (.box (zF5 w)) 0 0), (9, .sl 0 0 O.length), (10, .int .i64 D), (11, .int .i64 (x + w.dx)), (12, .int .i64 (y + D)), (31, .int .i64 w.most), (32, iN k), (13, .int .i64 C)]
   ·intro fin
    refine zAQ U (fun g1 => ?_) (fun g1 => ?_)
    ·rw [if_pos g1] at hO
     refine zBz ?_
     refine zA (zDF U U (by omega)) ?_
     refine rn3 ?_
     refine zAt U U U U U U U U U U U U (by show 0 + 1 ≤ 1; omega) U (by show (out.length + 1) * 8 ≤ _ ∧ _; omega) (fun i j _ _ => rfl) (by rw [hfix]; exact fun h => h) ?_
     refine zE6 ?_
     refine zAK [some ⟨3, .ints .i64 O⟩] (by rw [← hO]; rfl) ?_
     exact fin _ ⟨U, U, U, by rw [← hO, List.length_append]; rfl, U, U, U, U, U, U, trivial⟩
    ·rw [if_neg (by rw [g1]; exact Bool.false_ne_true)] at hO
     subst hO
     refine zE6 ?_
     exact fin _ ⟨U, U, U, U, U, U, U, U, U, U, trivial⟩
   refine rn3 ?_
   refine zF U (fun g2 => ?_) (fun g2 => ?_)
   ·rw [if_pos g2, List.append_nil] at hWL
    refine rn14 ?_
    exact zN hR U ⟨by rw [hWL]; rfl, by rw [hWL]⟩
   ·rw [if_neg g2] at hWL
    refine rn5 ?_
    exact zR ⟨(k + 1, x + w.dx, y + D, O), ⟨by show k + 1 ≤ _; omega, hoff.1, hoff.2.1, hoff.2.2.1, hoff.2.2.2, by rw [hWL, hn2], hOl⟩, by show w.most.toNat - (k + 1) < w.most.toNat - k; omega, ⟨U, U, U, U, U, U, U, U, U, trivial⟩, U⟩
  ·have hk' : k = w.most.toNat := by
    have q : ¬ (k : Int) < w.most := q
    omega
   subst hk'
   rw [Nat.sub_self, zFa, List.append_nil] at hWL
   refine rn5 ?_
   exact zN hR U ⟨by rw [hWL]; rfl, by rw [hWL]⟩
 ·rintro v H ⟨rfl, rfl⟩
  refine ⟨U, ?_, fun h o ho => zEN zAb h o ho⟩
  intro o ho; simp at ho; subst ho; show 0 + (zHZ r p s w).length ≤ (zHZ r p s w).length; omega
end Go.Proofs.YtkhdfimdkjjimaaGreatDoor
namespace Go.Proofs
open Go.Shelf
def Tryz.sortMv_ren : Go.Shelf.Ren := ⟨fun | 6 => 47 | 15 => 84 | 14 => 83 | 28 => 108 | 29 => 109 | 20 => 100 | 21 => 101 | 22 => 102 | 23 => 103 | 24 => 104 | 25 => 105 | 26 => 106 | 27 => 107 | 46 => 115 | 47 => 116 | 48 => 117 | 49 => 118 | 50 => 119 | 57 => 121 | n => n, fun | 22 => 41 | 24 => 85 | 25 => 110 | 3 => 3 | 39 => 66 | 0 => 0 | 53 => 166 | 55 => 168 | 4 => 4 | 46 => 160 | 45 => 159 | 50 => 125 | 5 => 5 | 9 => 9 | 66 => 175 | 70 => 179 | 76 => 182 | 77 => 183 | n => n, fun | n => n⟩
theorem Tryz.sortMv : Go.Proofs.SlLaysF0.n6 Tryz.prog Tryz.sortMv_ren := {
 mixed := by kernel_rfl
 f6 := ⟨Tryz.f47.name, by decide, Tryz.func47.trans (congrArg some (by kernel_rfl))⟩
 f14 := ⟨Tryz.f83.name, by decide, Tryz.func83.trans (congrArg some (by kernel_rfl))⟩
 f15 := Tryz.func84.trans (congrArg some (by kernel_rfl))
 f20 := ⟨Tryz.f100.name, by decide, Tryz.func100.trans (congrArg some (by kernel_rfl))⟩
 f21 := ⟨Tryz.f101.name, by decide, Tryz.func101.trans (congrArg some (by kernel_rfl))⟩
 f22 := ⟨Tryz.f102.name, by decide, Tryz.func102.trans (congrArg some (by kernel_rfl))⟩
 f23 := ⟨Tryz.f103.name, by decide, Tryz.func103.trans (congrArg some (by kernel_rfl))⟩
 f24 := ⟨Tryz.f104.name, by decide, Tryz.func104.trans (congrArg some (by kernel_rfl))⟩
 f25 := ⟨Tryz.f105.name, by decide, Tryz.func105.trans (congrArg some (by kernel_rfl))⟩
 f26 := ⟨Tryz.f106.name, by decide, Tryz.func106.trans (congrArg some (by kernel_rfl))⟩
 f27 := ⟨Tryz.f107.name, by decide, Tryz.func107.trans (congrArg some (by kernel_rfl))⟩
 f28 := Tryz.func108.trans (congrArg some (by kernel_rfl))
 f29 := Tryz.func109.trans (congrArg some (by kernel_rfl))
 f46 := ⟨Tryz.f115.name, by decide, Tryz.func115.trans (congrArg some (by kernel_rfl))⟩
 f47 := Tryz.func116.trans (congrArg some (by kernel_rfl))
 f48 := Tryz.func117.trans (congrArg some (by kernel_rfl))
 f49 := ⟨Tryz.f118.name, by decide, Tryz.func118.trans (congrArg some (by kernel_rfl))⟩
 f50 := ⟨Tryz.f119.name, by decide, Tryz.func119.trans (congrArg some (by kernel_rfl))⟩
 f57 := ⟨Tryz.f121.name, by decide, Tryz.func121.trans (congrArg some (by kernel_rfl))⟩
 t0 := Tryz.underlying0
 a0 := Tryz.isAgg0
 z0 := Tryz.sizeOf0
 v0 := Tryz.zeroValue0
 t3 := Tryz.underlying3
 a3 := Tryz.isAgg3
 z3 := Tryz.sizeOf3
 v3 := Tryz.zeroValue3
 t4 := Tryz.underlying4
 a4 := Tryz.isAgg4
 z4 := Tryz.sizeOf4
 v4 := Tryz.zeroValue4
 t5 := Tryz.underlying5
 a5 := Tryz.isAgg5
 z5 := Tryz.sizeOf5
 v5 := Tryz.zeroValue5
 t9 := Tryz.underlying9
 a9 := Tryz.isAgg9
 z9 := Tryz.sizeOf9
 v9 := Tryz.zeroValue9
 t22 := Tryz.underlying41
 a22 := Tryz.isAgg41
 z22 := Tryz.sizeOf41
 v22 := Tryz.zeroValue41
 t25 := Tryz.underlying110
 a25 := Tryz.isAgg110
 z25 := Tryz.sizeOf110
 v25 := Tryz.zeroValue110
 t39 := Tryz.underlying66
 a39 := Tryz.isAgg66
 z39 := Tryz.sizeOf66
 v39 := Tryz.zeroValue66
 t45 := Tryz.underlying159
 a45 := Tryz.isAgg159
 z45 := Tryz.sizeOf159
 v45 := Tryz.zeroValue159
 t46 := Tryz.underlying160
 a46 := Tryz.isAgg160
 z46 := Tryz.sizeOf160
 v46 := Tryz.zeroValue160
 t50 := Tryz.underlying125
 a50 := Tryz.isAgg125
 z50 := Tryz.sizeOf125
 v50 := Tryz.zeroValue125
 t53 := Tryz.underlying166
 a53 := Tryz.isAgg166
 z53 := Tryz.sizeOf166
 v53 := Tryz.zeroValue166
 t55 := Tryz.underlying168
 a55 := Tryz.isAgg168
 z55 := Tryz.sizeOf168
 v55 := Tryz.zeroValue168
 t66 := Tryz.underlying175
 a66 := Tryz.isAgg175
 z66 := Tryz.sizeOf175
 v66 := Tryz.zeroValue175
 t70 := Tryz.underlying179
 a70 := Tryz.isAgg179
 z70 := Tryz.sizeOf179
 v70 := Tryz.zeroValue179
 t76 := Tryz.underlying182
 a76 := Tryz.isAgg182
 z76 := Tryz.sizeOf182
 v76 := Tryz.zeroValue182
 t77 := Tryz.underlying183
 a77 := Tryz.isAgg183
 z77 := Tryz.sizeOf183
 v77 := Tryz.zeroValue183 }
end Go.Proofs
namespace Go.Proofs.YtkhdfimdkjjimaaGreatDoor
open Go.Ax Go.Ax.Gm Go.RowKit Go.Ax.Idx Go.Ax.Cd
attribute [local irreducible] Ax zCT QOp zd
/-- slices.SortFunc of moves -/
theorem zOd {H : zP} {h : Nat} {l : List Mv} (hl : l.length < 4611686018427387904) (hh : H[h]? = some (some ⟨85, zAv l⟩)) :
 zd Tryz.prog 47 [.sl h 0 l.length, .fn 48 []] H (fun x => x < H.length) (fun r H' => r = .tup [] ∧ H' = H.set h (some ⟨85, zAv (l.mergeSort leM)⟩)) :=
 zOe Tryz.sortMv Tryz.isAgg85 Tryz.sizeOf85 (enters_of Tryz.func48 (by kernel_rfl) rfl) ⟨Tryz.f47, Tryz.func47, by kernel_rfl, rfl⟩
  (fun x y W => rClosure x.fr x.to x.pc y.fr y.to y.pc W) hl hh
theorem zKE {a b : List Mv} {i : Nat} (h : a.length ≤ i) : (a ++ b).getD i mv0 = b.getD (i - a.length) mv0 := by rw [zBc, if_neg (by omega)]
theorem zFH (l : List Mv) (n i : Nat) : (l.drop n).getD i mv0 = l.getD (n + i) mv0 := by simp [List.getD]
theorem zKW (A l : List Mv) (v : Mv) (i : Nat) : ((A ++ [v]) ++ l.drop (A.length + 1)).getD i mv0 = if i = A.length then v else (A ++ l.drop A.length).getD i mv0 := by
 rw [zBc, zBc, zBc, zFH, zFH, List.length_append, List.length_singleton]
 rcases Nat.lt_trichotomy i A.length with h | h | h
 ·rw [if_pos (by omega), if_pos h, if_neg (by omega), if_pos h]
 ·subst h
  rw [if_pos (by omega), if_neg (by omega), if_pos rfl, Nat.sub_self]; rfl
 ·rw [if_neg (by omega), if_neg (by omega), if_neg (by omega)]
  congr 1; omega
theorem zK9 (n i : Nat) : (List.replicate n mv0).getD i mv0 = mv0 := by
 simp only [List.getD, List.getElem?_replicate]
 split <;> rfl
theorem eqMv (a b : Mv) : (decide (a.fr = b.fr) && (decide (a.to = b.to) && (decide (a.pc = b.pc) && true))) = decide (b = a) := by
 obtain ⟨x, y, z⟩ := a
 obtain ⟨x', y', z'⟩ := b
 rw [Bool.eq_iff_iff]
 simp only [Bool.and_eq_true, decide_eq_true_eq, Mv.mk.injEq, and_true]
 constructor
 ·rintro ⟨h1, h2, h3⟩; exact ⟨h1.symm, h2.symm, h3.symm⟩
 ·rintro ⟨h1, h2, h3⟩; exact ⟨h1.symm, h2.symm, h3.symm⟩
/-- slices.Compact of moves -/
theorem zMd (l : List Mv) (hl : l.length ≤ 1000000) :
 zd Tryz.prog 51 [.sl 0 0 l.length] [some ⟨85, zAv l⟩] (fun h => h < 1) (fun r H => r = .sl 0 0 (zz l).length ∧ H = [some ⟨85, zAv (zz l ++ List.replicate (l.length - (zz l).length) mv0)⟩]) := by
 refine zL (P := Tryz.prog) (fn := Tryz.f51) U U (by kernel_rfl) U (fun c hR hfix => ?_)
 have whole : zz l = l → ([some ⟨85, zAv l⟩] : zP) = [some ⟨85, zAv (zz l ++ List.replicate (l.length - (zz l).length) mv0)⟩] := fun e => by rw [e, Nat.sub_self]; simp
 refine rn4 ?_
 refine zF U (fun h => ?_) (fun h => ?_)
 ·have e : zz l = l := by
   match l, h with
   | [], _ => rfl
   | [_], _ => rfl
   | _ :: _ :: r, h => simp at h; omega
  refine rn2 ?_
  exact zN hR U ⟨by rw [e]; rfl, whole e⟩
 have hl2 : 2 ≤ l.length := by omega
 refine rn1 ?_
 refine zAA (ι := Nat) (fun k => [(0, .sl 0 0 l.length), (3, iN k)]) (fun _ => [some ⟨85, zAv l⟩])
  (fun k => 1 ≤ k ∧ k ≤ l.length ∧ zz (l.take k) = l.take k) (fun k => l.length - k) 1 ⟨⟨rfl, rfl, trivial⟩, rfl, Nat.le_refl _, by omega, ?_⟩ ?_
 ·match l, hl2 with
  | a :: r, _ => rfl
 intro k ⟨hk1, hk, hpre⟩
 refine rn4 ?_
 refine zF U (fun q => ?_) (fun q => ?_)
 ·have hk' : k < l.length := by omega
  have hct := zG1 (l := l) (i := k) (by omega) hk'
  have ek : ((k : Int) - 1).toNat = k - 1 := by omega
  have hb1 : ((k : Int) - 1).toNat < l.length := by omega
  have hb2 : ((k : Int) - 1).toNat < (zAv l).len := hb1
  refine rn1 ?_
  refine ze (by kernel_rfl) ?_
  refine zh (fuel := 0) [0, 1, 2, 3, 4, 5, 6, 7, 8, 9] [(0, .sl 0 0 l.length), (3, iN k)] ⟨U, U, trivial⟩ (by kernel_rfl) (by decide) U U ?_
  refine zI U U (zG U) ?_
  refine zI U U (zG U) ?_
  refine zI U U (zo U U U U U (by first | (simp only [Nat.zero_add, Int.toNat_natCast, Int.toNat_zero]; exact U) | exact U) (by omega)) ?_
  refine zI U U (qpp U U U U U U U) ?_
  refine zI U U (zG U) ?_
  refine zI U U (zG U) ?_
  refine zI U U (zA1 U U (by omega)) ?_
  refine zI U U (zo U U U U U (by first | (simp only [Nat.zero_add, Int.toNat_natCast, Int.toNat_zero]; exact U) | exact U) (by omega)) ?_
  refine zI U U (qpp U U U U U U U) ?_
  refine zI U U (zGn U U U (by kernel_rfl) (by kernel_rfl) (by kernel_rfl) U) ?_
  refine zw ?_
  refine zW (by kernel_rfl) ?_
  repeat (refine zB ?_)
  refine zBu 25 (.bool (decide (l.getD (k - 1) mv0 = l.getD k mv0))) U (AEq.of_eq (by rw [← eqMv (l.getD k mv0) (l.getD (k - 1) mv0), ← ek])) ?_
  refine zF U (fun d => ?_) (fun d => ?_)
  ·rw [if_pos d] at hct
   have hpl : (l.take k).length = k := by rw [List.length_take]; omega
   repeat (first | refine zA (zG rfl) ?_ | refine zA (zM rfl) ?_ | refine zC ?_ | refine zB ?_ | refine zY ?_ | refine zJ rfl ?_ | refine zA (zGl rfl rfl rfl rfl rfl rfl rfl rfl (by omega)) ?_)
   refine zBu 4 (.sl 0 k (l.length - k)) U (AEq.of_eq (by congr 1 <;> omega)) ?_
   repeat (refine zAX ?_)
   refine zAA (ι := Nat) (fun j => [(0, .sl 0 0 l.length), (3, .int .i64 ((zz (l.take (k + j))).length : Nat)), (4, .sl 0 k (l.length - k)), (5, iN j)]) (fun j => [some ⟨85, zAv (zz (l.take (k + j)) ++ l.drop (zz (l.take (k + j))).length)⟩])
    (fun j => 1 ≤ j ∧ k + j ≤ l.length ∧ (zz (l.take (k + j))).length < k + j) (fun j => l.length - j) 1 ⟨⟨rfl, ?_, rfl, rfl, trivial⟩, ?_, Nat.le_refl _, by omega, ?_⟩ ?_
   ·rw [hct, hpre, hpl]; rfl
   ·rw [hct, hpre, hpl, List.take_append_drop]
   ·rw [hct, hpre, hpl]; omega
   intro j ⟨hj1, hjl, hjc⟩
   have hct2 : k + j < l.length → zz (l.take (k + (j + 1))) = if l.getD (k + j - 1) mv0 = l.getD (k + j) mv0 then zz (l.take (k + j)) else zz (l.take (k + j)) ++ [l.getD (k + j) mv0] := fun q => zG1 (i := k + j) (by omega) q
   generalize hA : zz (l.take (k + j)) = A at hjc hct2
   have hXl : (A ++ l.drop A.length).length = l.length := by rw [List.length_append, List.length_drop]; omega
   have hXg : ∀ i, A.length ≤ i → (A ++ l.drop A.length).getD i mv0 = l.getD i mv0 := fun i q => by rw [zKE q, zFH]; congr 1; omega
   generalize hX : A ++ l.drop A.length = X at hXl hXg
   refine rn4 ?_
   refine zF U (fun q2 => ?_) (fun q2 => ?_)
   ·have q2 : k + j < l.length := by
     have q2 : (j : Int) < ((l.length - k : Nat) : Int) := q2
     omega
    have hct2 := hct2 q2
    have ej : k + ((j : Int) - 1).toNat = k + j - 1 := by omega
    have hc1 : k + j < X.length := by omega
    have hc2 : k + j < (zAv X).len := hc1
    have hc3 : k + ((j : Int) - 1).toNat < X.length := by omega
    have hc4 : k + ((j : Int) - 1).toNat < (zAv X).len := hc3
    refine rn1 ?_
    refine ze (by kernel_rfl) ?_
    refine zh (fuel := 0) [0, 1, 2, 3, 4, 5, 6, 7, 8, 9] [(0, .sl 0 0 l.length), (3, iN A.length), (4, .sl 0 k (l.length - k)), (5, iN j)] ⟨U, U, U, U, trivial⟩ (by kernel_rfl) (by decide) U U ?_
    refine zI U U (zG U) ?_
    refine zI U U (zG U) ?_
    refine zI U U (zo U U U U U (by first | (simp only [Nat.zero_add, Int.toNat_natCast, Int.toNat_zero]; exact U) | exact U) (by omega)) ?_
    refine zI U U (qpp U U U U U U U) ?_
    refine zI U U (zG U) ?_
    refine zI U U (zG U) ?_
    refine zI U U (zA1 U U (by omega)) ?_
    refine zI U U (zo U U U U U (by first | (simp only [Nat.zero_add, Int.toNat_natCast, Int.toNat_zero]; exact U) | exact U) (by omega)) ?_
    refine zI U U (qpp U U U U U U U) ?_
    refine zI U U (zMK U U U (by kernel_rfl) (by kernel_rfl) (by kernel_rfl) U) ?_
    refine zw ?_
    refine zW (by kernel_rfl) ?_
    repeat (refine zB ?_)
    refine zBu 44 (.bool (decide (¬ l.getD (k + j - 1) mv0 = l.getD (k + j) mv0))) U (AEq.of_eq ?_) ?_
    ·rw [decide_not, ← eqMv (l.getD (k + j) mv0) (l.getD (k + j - 1) mv0), ← hXg (k + j) (by omega), ← hXg (k + j - 1) (by omega), ← ej]
    refine zF U (fun d2 => ?_) (fun d2 => ?_)
    ·rw [if_neg d2] at hct2
     have hAk : A.length < l.length := by omega
     have hAX : A.length < X.length := by omega
     have hAX2 : A.length < (zAv X).len := hAX
     have hnl : (A ++ [l.getD (k + j) mv0]).length = A.length + 1 := by rw [List.length_append]; rfl
     refine rn6 ?_
     refine zDT (c' := zAv ((A ++ [l.getD (k + j) mv0]) ++ l.drop (A.length + 1))) U U U U U hAX ?_ U (fun i' j' hi' hj' => ?_) ?_
     ·show ((A ++ [l.getD (k + j) mv0]) ++ l.drop (A.length + 1)).length = X.length
      rw [List.length_append, hnl, List.length_drop]; omega
     ·have hj' : j' < 3 := hj'
      show (mvC (((A ++ [l.getD (k + j) mv0]) ++ l.drop (A.length + 1)).getD i' mv0)).getD j' .any = _
      rw [zKW, hX]
      by_cases e : i' = A.length
      ·rw [if_pos e, if_pos e, ← hXg (k + j) (by omega)]
       match j', hj' with
       | 0, _ => rfl
       | 1, _ => rfl
       | 2, _ => rfl
      ·rw [if_neg e, if_neg e]; rfl
     refine rn5 ?_
     refine zR ⟨j + 1, ⟨by omega, by omega, by rw [hct2, hnl]; omega⟩, by omega, ⟨U, ?_, U, U, trivial⟩, ?_⟩
     ·show some (AV.int .i64 _) = some (AV.int .i64 _)
      congr 2; rw [hct2, hnl]; omega
     ·rw [hct2, hnl]; rfl
    ·rw [if_pos (Classical.not_not.1 d2)] at hct2
     refine rn5 ?_
     exact zR ⟨j + 1, ⟨by omega, by omega, by rw [hct2]; omega⟩, by omega, ⟨U, by rw [hct2]; rfl, U, U, trivial⟩, by rw [hct2, hX]⟩
   ·have hj' : k + j = l.length := by
     have q2 : ¬ (j : Int) < ((l.length - k : Nat) : Int) := q2
     omega
    rw [hj', List.take_length] at hA
    have hAk : A.length < l.length := by omega
    have hlen : zz l = A := hA
    have hA0 : 0 < A.length := by rw [← hlen]; exact List.length_pos_iff.2 (zIm (fun e => by rw [e] at hl2; simp at hl2))
    refine rn17 ?_
    refine zBI 56 (.sl 0 A.length (l.length - A.length)) U (AEq.of_eq (by congr 1 <;> omega)) ?_
    refine zJy (zs := [.int .i64 0, .int .i64 0, .int .i64 0]) (s := 3) (c' := zAv (A ++ List.replicate (l.length - A.length) mv0)) U U U U U U U (fun j' hj' w S σ => ?_) U (by omega) U (by show A.length + (l.length - A.length) ≤ X.length; omega) ?_ U (fun i' j' hi' hj' => ?_) ?_
    ·match j', hj' with
     | 0, _ => exact .int _ _ _
     | 1, _ => exact .int _ _ _
     | 2, _ => exact .int _ _ _
    ·show (A ++ List.replicate (l.length - A.length) mv0).length = X.length
     rw [List.length_append, List.length_replicate]; omega
    ·have hj' : j' < 3 := hj'
     have hi' : i' < X.length := hi'
     show (mvC ((A ++ List.replicate (l.length - A.length) mv0).getD i' mv0)).getD j' .any = _
     by_cases e : i' < A.length
     ·rw [if_neg (by omega), zBc, if_pos e]
      show _ = (mvC (X.getD i' mv0)).getD j' .any
      rw [← hX, zBc, if_pos e]
     ·rw [if_pos (by omega), zBc, if_neg e, zK9]
      match j', hj' with
      | 0, _ => rfl
      | 1, _ => rfl
      | 2, _ => rfl
    repeat (first | refine zA (zG rfl) ?_ | refine zA (zM rfl) ?_ | refine zC ?_ | refine zB ?_ | refine zY ?_ | refine zJ rfl ?_ | refine z6 ?_ | refine zA9 ?_ | refine zD5 ?_ | refine zFD ?_ | refine zA (zGl rfl rfl rfl rfl rfl rfl rfl rfl (by omega)) ?_)
    refine zN hR U ⟨?_, ?_⟩
    ·rw [hlen]; show AV.sl 0 (0 + 0) _ = _
     congr 1
    ·rw [hlen]; rfl
  ·rw [if_neg d, hpre] at hct
   refine rn5 ?_
   exact zR ⟨k + 1, ⟨by omega, by omega, by rw [hct, zAE l mv0 k hk']⟩, by omega, ⟨U, U, trivial⟩, U⟩
 ·have hk' : k = l.length := by omega
  subst hk'
  rw [List.take_length] at hpre
  refine rn5 ?_
  exact zN hR U ⟨by rw [hpre]; rfl, whole hpre⟩
end Go.Proofs.YtkhdfimdkjjimaaGreatDoor
namespace Go.Proofs
open Go.Shelf
def Tryz.lays283_ren : Go.Shelf.Ren := ⟨fun | 283 => 122 | n => n, fun | 3 => 3 | 9 => 9 | 4 => 4 | n => n, fun | n => n⟩
theorem Tryz.lays283 : Go.Proofs.Lays.n283 Tryz.prog Tryz.lays283_ren := {
 mixed := by kernel_rfl
 f283 := Tryz.func122.trans (congrArg some (by kernel_rfl))
 t3 := Tryz.underlying3
 a3 := Tryz.isAgg3
 z3 := Tryz.sizeOf3
 v3 := Tryz.zeroValue3
 t4 := Tryz.underlying4
 a4 := Tryz.isAgg4
 z4 := Tryz.sizeOf4
 v4 := Tryz.zeroValue4
 t9 := Tryz.underlying9
 a9 := Tryz.isAgg9
 z9 := Tryz.sizeOf9
 v9 := Tryz.zeroValue9 }
open Go.Lib in
/-- internal/strconv.small: "small returns the string for an i with 0 <= i < nSmalls.": i's decimal numeral. The world is as it was. (LAID: no walk: one application.) -/
theorem Tryz.internal_strconv_small (i : Nat) (h : i < 100) (w : World) :
 Calls Tryz.prog 122 #[.int .i64 i] w fun e w' => e = .returned (.string ⟨(Lib.decDigits i).toArray⟩) ∧ w' = w := Any.internal_strconv_small Tryz.lays283 i h w
def Tryz.laysM284_ren : Go.Shelf.Ren := ⟨fun | 284 => 123 | 129 => 109 | 317 => 126 | 318 => 127 | n => n, fun | 53 => 168 | 3 => 3 | 212 => 191 | 0 => 0 | 4 => 4 | 46 => 66 | 5 => 5 | 9 => 9 | n => n, fun | 17 => 0 | n => n⟩
theorem Tryz.laysM284 : Go.Proofs.LaysM.n284 Tryz.prog Tryz.laysM284_ren := {
 mixed := by kernel_rfl
 f129 := Tryz.func109.trans (congrArg some (by kernel_rfl))
 f284 := Tryz.func123.trans (congrArg some (by kernel_rfl))
 f317 := Tryz.func126.trans (congrArg some (by kernel_rfl))
 f318 := Tryz.func127.trans (congrArg some (by kernel_rfl))
 t0 := Tryz.underlying0
 a0 := Tryz.isAgg0
 z0 := Tryz.sizeOf0
 v0 := Tryz.zeroValue0
 t3 := Tryz.underlying3
 a3 := Tryz.isAgg3
 z3 := Tryz.sizeOf3
 v3 := Tryz.zeroValue3
 t4 := Tryz.underlying4
 a4 := Tryz.isAgg4
 z4 := Tryz.sizeOf4
 v4 := Tryz.zeroValue4
 t5 := Tryz.underlying5
 a5 := Tryz.isAgg5
 z5 := Tryz.sizeOf5
 v5 := Tryz.zeroValue5
 t9 := Tryz.underlying9
 a9 := Tryz.isAgg9
 z9 := Tryz.sizeOf9
 v9 := Tryz.zeroValue9
 t46 := Tryz.underlying66
 a46 := Tryz.isAgg66
 z46 := Tryz.sizeOf66
 v46 := Tryz.zeroValue66
 t53 := Tryz.underlying168
 a53 := Tryz.isAgg168
 z53 := Tryz.sizeOf168
 v53 := Tryz.zeroValue168
 t212 := Tryz.underlying191
 a212 := Tryz.isAgg191
 z212 := Tryz.sizeOf191
 v212 := Tryz.zeroValue191
 g17 := by kernel_rfl
 i0 := by kernel_rfl
 i3 := by kernel_rfl
 i4 := by kernel_rfl
 i5 := by kernel_rfl
 i9 := by kernel_rfl
 i46 := by kernel_rfl
 i53 := by kernel_rfl
 i212 := by kernel_rfl
 m17 := by kernel_rfl }
open Go.Lib in
/-- internal/strconv.numDigits, at a d that is not 0: THE NUMBER OF d's DECIMAL DIGITS. The world is as it was. (LAID: no walk: one application.) -/
theorem Tryz.internal_strconv_numDigits (u : Nat) (h1 : 1 ≤ u) (h2 : u < 18446744073709551616) (w : World) (htab : Lib.TabIs Tryz.prog w "internal/strconv.uint64pow10" .u64 Lib.pow10Tab) :
 Calls Tryz.prog 123 #[.int .u64 u] w fun e w' => e = .returned (.int .i64 (Lib.nDigits u)) ∧ w' = w := Any.internal_strconv_numDigits Tryz.laysM284 u h1 h2 w htab
def Tryz.lays285_ren : Go.Shelf.Ren := ⟨fun | 285 => 124 | n => n, fun | 37 => 148 | 53 => 168 | 3 => 3 | 4 => 4 | 51 => 166 | 9 => 9 | 5 => 5 | 0 => 0 | n => n, fun | n => n⟩
theorem Tryz.lays285 : Go.Proofs.Lays.n285 Tryz.prog Tryz.lays285_ren := {
 mixed := by kernel_rfl
 f285 := Tryz.func124.trans (congrArg some (by kernel_rfl))
 t0 := Tryz.underlying0
 a0 := Tryz.isAgg0
 z0 := Tryz.sizeOf0
 v0 := Tryz.zeroValue0
 t3 := Tryz.underlying3
 a3 := Tryz.isAgg3
 z3 := Tryz.sizeOf3
 v3 := Tryz.zeroValue3
 t4 := Tryz.underlying4
 a4 := Tryz.isAgg4
 z4 := Tryz.sizeOf4
 v4 := Tryz.zeroValue4
 t5 := Tryz.underlying5
 a5 := Tryz.isAgg5
 z5 := Tryz.sizeOf5
 v5 := Tryz.zeroValue5
 t9 := Tryz.underlying9
 a9 := Tryz.isAgg9
 z9 := Tryz.sizeOf9
 v9 := Tryz.zeroValue9
 t37 := Tryz.underlying148
 a37 := Tryz.isAgg148
 z37 := Tryz.sizeOf148
 v37 := Tryz.zeroValue148
 t51 := Tryz.underlying166
 a51 := Tryz.isAgg166
 z51 := Tryz.sizeOf166
 v51 := Tryz.zeroValue166
 t53 := Tryz.underlying168
 a53 := Tryz.isAgg168
 z53 := Tryz.sizeOf168
 v53 := Tryz.zeroValue168 }
end Go.Proofs
namespace Go.Proofs.YtkhdfimdkjjimaaGreatDoor
open Go.Ax Go.Ax.Gm Go.RowKit Go.Ax.Idx Go.Ax.Cd
attribute [local irreducible] Ax zCT QOp zd
theorem valsO {w : World} {S : Nat → Prop} {σ : Nat → Option Blk} {a : AV} {vals : Array Value} (h : VRs w S σ [a] vals) : ∃ x, vals = #[x] ∧ VR w S σ a x := by
 obtain ⟨h1, h2⟩ := h
 have q := h2 0 (by simp)
 have hl : vals.toList.length = 1 := by simpa using h1
 match hq : vals.toList, hl with
 | [x], _ =>
  have e : vals = #[x] := by rw [← Array.toArray_toList (xs := vals), hq]
  subst e
  exact ⟨x, U, by simpa using q⟩
theorem smallD (u : Nat) (h : u < 100) : zl Tryz.prog 122 [.int .i64 u] (.str (Lib.decDigits u)) := by
 refine zl.of_below ⟨Tryz.f122, U, by kernel_rfl, U⟩ U U (fun w S vals hG hS hv => ?_)
 obtain ⟨x, rfl, a⟩ := valsO hv
 have hx : x = .int .i64 (u : Nat) := by cases a; rfl
 subst hx
 refine (Tryz.internal_strconv_small u h w).mono ?_
 rintro e w' ⟨rfl, rfl⟩
 exact ⟨_, U, Below.refl _ _, .str _ _⟩
theorem numDig (u : Nat) (h1 : 1 ≤ u) (h2 : u < 18446744073709551616) : zl Tryz.prog 123 [.int .u64 u] (.int .i64 (Lib.nDigits u)) := by
 refine zl.of_below ⟨Tryz.f123, U, by kernel_rfl, U⟩ U U (fun w S vals hG hS hv => ?_)
 obtain ⟨x, rfl, a⟩ := valsO hv
 have hx : x = .int .u64 (u : Nat) := by cases a; rfl
 subst hx
 have hp : pinG w := hG
 refine (Tryz.internal_strconv_numDigits u h1 h2 w hp.2.1).mono ?_
 rintro e w' ⟨rfl, rfl⟩
 exact ⟨_, U, Below.refl _ _, .int _ _ _⟩
theorem fmt_ok {H : zP} {h : Nat} {ty : TypeId} {s : List UInt8} {u : Nat} (hu64 : u < 18446744073709551616) (hn : Lib.nDigits u ≤ s.length) (hh : H[h]? = some (some ⟨ty, .ints .u8 (zAB s)⟩)) :
 zd Tryz.prog 124 [.sl h 0 (Lib.nDigits u), .int .u64 u] H (fun x => x < H.length) (fun r H' => r = .tup [] ∧ H' = H.set h (some ⟨ty, .ints .u8 (zAB (Lib.decDigits u ++ s.drop (Lib.nDigits u)))⟩)) :=
 fmt_call Tryz.lays285 ⟨Tryz.f124, Tryz.func124, by kernel_rfl, rfl⟩ hu64 hn hh
theorem zBa (s : List UInt8) : (zAB s).length = s.length := List.length_map _
theorem zD6 (s t : List UInt8) : zAB (s ++ t) = zAB s ++ zAB t := List.map_append
theorem zLZ (s t : List UInt8) (n : Nat) (h : n = s.length) : ((zAB (s ++ t)).drop 0).take n = zAB s := by
 rw [List.drop_zero, zD6, List.take_append_of_le_length (by rw [zBa, h]; exact Nat.le_refl _), List.take_of_length_le (by rw [zBa, h]; exact Nat.le_refl _)]
/-- internal/strconv.AppendUint on an own row -/
theorem appU_ok (s : List UInt8) (u : Nat) (hu : u < 18446744073709551616) (hl : s.length ≤ 1000000) :
 zd Tryz.prog 120 [.sl 0 0 s.length, .int .u64 u, .int .i64 10] [some ⟨5, .ints .u8 (zAB s)⟩] (fun _ => False) (fun r H => r = .sl 0 0 (s ++ Lib.decDigits u).length ∧ ∃ T, H = some ⟨5, .ints .u8 (zAB (s ++ Lib.decDigits u))⟩ :: T) := by
 refine zL (P := Tryz.prog) (fn := Tryz.f120) U U (by kernel_rfl) U (fun c hR hfix => ?_)
 refine rn5 ?_
 have hd20 := Lib.nDigits_le20 u hu
 have hdl := Lib.decDigits_length u
 refine zF U (fun q => ?_) (fun q => ?_)
 ·refine rn0 ?_
  refine zA (zMG U U U (by omega)) ?_
  skip
  refine zQ U U U (smallD u (by omega)) ?_
  skip
  refine zJi (o := ⟨5, .ints .u8 (zAB s)⟩) (h := 0) (n := s.length) (s := Lib.decDigits u) (c' := .ints .u8 (zAB (s ++ Lib.decDigits u))) U U U U U U U U U (zBa s) U U U U ?_ (fun i j hi hj => ?_) (fun d j hd hj => ?_) (by show (s.length + (Lib.decDigits u).length) * 1 ≤ _ ∧ _; omega) (fun _ _ _ _ => rfl) (by rw [hfix]; exact fun h => h) ?_
  ·show (zAB (s ++ Lib.decDigits u)).length = (zAB s).length + (Lib.decDigits u).length
   rw [zBa, zBa, List.length_append]
  ·show AV.int .u8 ((zAB (s ++ Lib.decDigits u)).getD i 0) = AV.int .u8 ((zAB s).getD i 0)
   have hi' : i < (zAB s).length := hi
   rw [zD6]
   simp [List.getD, List.getElem?_append, hi']
  ·show AV.int .u8 ((zAB (s ++ Lib.decDigits u)).getD ((zAB s).length + d) 0) = _
   rw [zD7, zBa, zBc, if_neg (by omega), Nat.add_sub_cancel_left]
  refine rn2 ?_
  exact zN hR U ⟨by rw [List.length_append]; rfl, [], U⟩
 ·refine zE6 ?_
  have hbl := zBa s
  refine zMa (n := 24) U U U (by kernel_rfl) (by unfold maxLen; omega) (by rw [hfix]; exact fun _ h => h) (fun c' b hσ hR' hfix' => ?_)
  refine rn0 ?_
  refine zQ U U U (numDig u (by omega) hu) ?_
  refine rn0 ?_
  refine zA (zIC (n := 24) U U U U (by omega) hσ (by rw [hfix'])) ?_
  repeat (refine zA (zG rfl) ?_)
  refine zBR U U U (fmt_ok (s := List.replicate 24 0) (h := 1) hu (by rw [List.length_replicate]; omega) U) (fun _ h => h) (fun _ h => h) ?_
  rintro r H ⟨rfl, rfl⟩
  refine rn0 ?_
  refine zA (zIC (n := 24) U U U U (by omega) hσ (by rw [hfix'])) ?_
  skip
  refine zAt (h := 0) (n := s.length) (o := ⟨5, .ints .u8 (zAB s)⟩) (i := 0) (m := Lib.nDigits u) (cx := .ints .u8 (zAB (Lib.decDigits u ++ (List.replicate 24 0).drop (Lib.nDigits u)))) rfl rfl rfl rfl rfl rfl rfl rfl rfl hbl rfl rfl (by show 0 + Lib.nDigits u ≤ (zAB _).length; rw [zBa, List.length_append]; omega) rfl (by show (s.length + Lib.nDigits u) * 1 ≤ _ ∧ _; omega) (fun _ _ _ _ => rfl) (by rw [hfix']; exact fun e => by cases e) ?_
  rw [zLZ _ _ _ hdl.symm]
  refine rn6 ?_
  refine zN (hR'.trans hR) U ⟨by rw [List.length_append, hdl]; rfl, ?_⟩
  rw [← zD6 s (Lib.decDigits u)]
  exact ⟨_, U⟩
/-- strconv.AppendInt on an own row -/
theorem appI_ok (s : List UInt8) (u : Nat) (hu : u < 9223372036854775808) (hl : s.length ≤ 1000000) :
 zd Tryz.prog 90 [.sl 0 0 s.length, .int .i64 u, .int .i64 10] [some ⟨5, .ints .u8 (zAB s)⟩] (fun _ => False) (fun r H => r = .sl 0 0 (s ++ Lib.decDigits u).length ∧ H = [some ⟨5, .ints .u8 (zAB (s ++ Lib.decDigits u))⟩]) := by
 have hI : zd Tryz.prog 111 [.sl 0 0 s.length, .int .i64 u, .int .i64 10] [some ⟨5, .ints .u8 (zAB s)⟩] (fun _ => False) (fun r H => r = .sl 0 0 (s ++ Lib.decDigits u).length ∧ ∃ T, H = some ⟨5, .ints .u8 (zAB (s ++ Lib.decDigits u))⟩ :: T) := by
  refine zL (P := Tryz.prog) (fn := Tryz.f111) U U (by kernel_rfl) U (fun c hR hfix => ?_)
  refine rn0 ?_
  refine zA (q_uconv (k' := .u64) (M := 18446744073709551616) (m := u) U U U uk64 (by omega)) ?_
  refine rn4 ?_
  refine zFe 0 rfl rfl rfl (appU_ok s u (by omega) hl) (fun h q1 q2 => absurd q1 (by intro q1; exact q2 (Nat.lt_one_iff.1 q1))) (fun h q => q.elim) (by rw [hfix]; exact fun h => h) ?_
  rintro r H ⟨rfl, T, rfl⟩
  refine ⟨Nat.succ_le_succ (Nat.zero_le _), ?_⟩
  refine rn0 ?_
  exact zN hR U ⟨U, T, U⟩
 refine zL (P := Tryz.prog) (fn := Tryz.f90) U U (by kernel_rfl) U (fun c hR hfix => ?_)
 refine rn0 ?_
 refine zFe 0 rfl rfl rfl (zd.cutR (K' := fun r H => r = .sl 0 0 (s ++ Lib.decDigits u).length ∧ H = [some ⟨5, .ints .u8 (zAB (s ++ Lib.decDigits u))⟩]) hI ?_) (fun h q1 q2 => absurd q1 (by intro q1; exact q2 (Nat.lt_one_iff.1 q1))) (fun h q => q.elim) (by rw [hfix]; exact fun h => h) ?_
 ·rintro r H ⟨rfl, T, rfl⟩
  exact ⟨[_], T, U, fun h q => q.elim, zBY (fun _ _ _ _ => rfl) zBZ, U, U, U⟩
 rintro r H ⟨rfl, rfl⟩
 refine ⟨Nat.le_refl _, ?_⟩
 refine rn0 ?_
 exact zN hR U ⟨U, U⟩
theorem byte_nat {c : Int} (h : 0 ≤ c ∧ c < 256) : ((Go.Ax.Gm.byteOf c).toNat : Int) = c := by
 unfold Go.Ax.Gm.byteOf
 rw [UInt8.toNat_ofNat', Nat.mod_eq_of_lt (by omega)]; omega
theorem q_byte {ind : Bool} {P : Program} {fn : Func} {c : Ctx} {fr : Fr} {H : zP} {d : Option Nat} {ty : TypeId} {pos : String} {after : Array Edge} {g : Option (Nat × Bool)} {x : Operand} {src dst : TypeId} {u : TypeDesc} {m : Int} (hs : P.underlying src = some u) (hd : P.underlying dst = some (.int .u8)) (hx : ev fr x = some (.int .i64 m)) (h : 0 ≤ m ∧ m < 256) :
 QOp ind P fn c fr H ⟨d, .convert src dst x, ty, pos, after, g⟩ (.int .u8 ((Go.Ax.Gm.byteOf m).toNat : Nat)) :=
 (zJD hs hd hx).res (by rw [byte_nat h]; exact congrArg _ (by have := uk8.in (m := m.toNat) (by omega); rwa [show ((m.toNat : Nat) : Int) = m by omega] at this))
/-- retro.key -/
theorem key_ok (p : Pos) (S : SmallP p) (ht : p.turn = 0 ∨ p.turn = 1) (hc : ∀ c ∈ p.cells, 0 ≤ c ∧ c < 256) (h0 : ∀ c ∈ p.h0, 0 ≤ c ∧ c ≤ 1000) (h1 : ∀ c ∈ p.h1, 0 ≤ c ∧ c ≤ 1000) : zl Tryz.prog 62 [poA p] (.str (keyT p)) := by
 refine zd.value0 (zL (P := Tryz.prog) (fn := Tryz.f62) U U (by kernel_rfl) U (fun c hR hfix => ?_)) (fix := fun _ => False) (fun _ h => h) U U
 refine zY ?_
 repeat (first | refine zA (zM rfl) ?_ | refine zC ?_ | refine zB ?_ | refine zJ rfl ?_ | refine zAO rfl rfl ?_)
 refine zBi 1 [] U ⟨U, trivial⟩ trivial U hfix ?_
 refine zBz ?_
 refine zA (q_byte U U U (by omega)) ?_
 refine zCj U U U U U U U U U U ?_
 refine zBz ?_
 have hcl := S.c
 refine zAA (ι := Nat) (fun k => [(1, .rp (.box (poC p)) 0 0), (13, z8 p.cells), (14, .int .i64 (p.cells.length : Nat)), (15, .int .i64 (k : Nat)), (3, .sl 0 0 (Go.Ax.Gm.byteOf p.turn :: (p.cells.take k).map Go.Ax.Gm.byteOf).length)]) (fun k => [some ⟨5, .ints .u8 (zAB (Go.Ax.Gm.byteOf p.turn :: (p.cells.take k).map Go.Ax.Gm.byteOf))⟩])
  (fun k => k ≤ p.cells.length) (fun k => p.cells.length - k) 0 ⟨⟨rfl, rfl, rfl, rfl, rfl, trivial⟩, rfl, Nat.zero_le _⟩ ?_
 intro k hk
 refine rn4 ?_
 refine zF U (fun q => ?_) (fun q => ?_)
 ·have hk' : k < p.cells.length := by omega
  have htk : (p.cells.take (k + 1)).map Go.Ax.Gm.byteOf = (p.cells.take k).map Go.Ax.Gm.byteOf ++ [Go.Ax.Gm.byteOf (p.cells.getD k 0)] := by
   rw [List.take_succ_eq_append_getElem hk', List.map_append]; simp [List.getD, hk']
  have hX : (Go.Ax.Gm.byteOf p.turn :: (p.cells.take k).map Go.Ax.Gm.byteOf).length = k + 1 := by rw [List.length_cons, List.length_map, List.length_take]; omega
  have hv : 0 ≤ p.cells.getD k 0 ∧ p.cells.getD k 0 < 256 := hc _ (by rw [List.getD, List.getElem?_eq_getElem hk']; exact List.getElem_mem hk')
  have hXX : Go.Ax.Gm.byteOf p.turn :: (p.cells.take (k + 1)).map Go.Ax.Gm.byteOf = (Go.Ax.Gm.byteOf p.turn :: (p.cells.take k).map Go.Ax.Gm.byteOf) ++ [Go.Ax.Gm.byteOf (p.cells.getD k 0)] := by rw [htk]; rfl
  generalize Go.Ax.Gm.byteOf p.turn :: (p.cells.take k).map Go.Ax.Gm.byteOf = X at hX hXX
  have hbl := zBa X
  refine rn6 ?_
  refine zA (q_byte U U U hv) ?_
  repeat (refine zAN rfl rfl rfl rfl rfl rfl rfl rfl rfl rfl rfl ?_)
  refine zAt (h := 0) (n := X.length) (o := ⟨5, .ints .u8 (zAB X)⟩) (i := 0) (m := 1) (cx := .ints .u8 [((Go.Ax.Gm.byteOf (p.cells.getD k 0)).toNat : Nat)]) U U U U U U U U U hbl U U (Nat.le_refl _) U (by show (X.length + 1) * 1 ≤ _ ∧ _; omega) (fun _ _ _ _ => rfl) (by rw [hfix]; exact fun h => h) ?_
  refine rn5 ?_
  refine zR ⟨k + 1, by omega, by omega, ⟨U, U, U, U, ?_, trivial⟩, ?_⟩
  ·rw [hXX, List.length_append]; rfl
  ·rw [hXX, zD6]; rfl
 ·have hk' : k = p.cells.length := by omega
  subst hk'
  rw [List.take_length]
  have hX : (Go.Ax.Gm.byteOf p.turn :: p.cells.map Go.Ax.Gm.byteOf).length ≤ 65 := by rw [List.length_cons, List.length_map]; omega
  have hkey : keyT p = (Go.Ax.Gm.byteOf p.turn :: p.cells.map Go.Ax.Gm.byteOf) ++ zCC (p.h0 ++ p.h1) := rfl
  rw [hkey] at hR
  generalize Go.Ax.Gm.byteOf p.turn :: p.cells.map Go.Ax.Gm.byteOf = X at hX hR
  repeat (first | refine zB ?_ | refine zY ?_ | refine zJ rfl ?_ | refine zCU ?_ | refine zAr ?_ | refine zAq ?_ | refine zAw ?_ | refine zA (zD rfl rfl rfl rfl) ?_ | refine zA (zK rfl rfl rfl rfl rfl rfl) ?_ | refine zA (zB1 rfl rfl rfl rfl (by first | (simp only [Nat.zero_add, Int.toNat_natCast]; exact rfl) | exact rfl) (by omega)) ?_ | refine zAN rfl rfl rfl rfl rfl rfl rfl rfl rfl rfl rfl ?_)
  refine zBI 31 (.ro (zJK [p.h0, p.h1]) 0 2) U (AEq.ro U (fun d j hd hj => ?_)) ?_
  ·obtain rfl : j = 0 := Nat.lt_one_iff.1 hj
   match d, hd with
   | 0, _ => rfl
   | 1, _ => rfl
  have s0 := S.h0
  have s1 := S.h1
  refine zQ U U U (zNS p.h0 p.h1 (by omega)) ?_
  have hNl : (p.h0 ++ p.h1).length ≤ 12 := by rw [List.length_append]; omega
  have hNb : ∀ x ∈ p.h0 ++ p.h1, 0 ≤ x ∧ x ≤ 1000 := fun x hx => (List.mem_append.1 hx).elim (h0 x) (h1 x)
  generalize p.h0 ++ p.h1 = N at *
  refine rn3 ?_
  refine zAA (ι := Nat) (fun k => [(32, z8 N), (33, .int .i64 (N.length : Nat)), (34, .int .i64 (k : Nat)), (3, .sl 0 0 (X ++ zCC (N.take k)).length)]) (fun k => [some ⟨5, .ints .u8 (zAB (X ++ zCC (N.take k)))⟩])
   (fun k => k ≤ N.length ∧ (X ++ zCC (N.take k)).length ≤ 65 + 21 * k) (fun k => N.length - k) 0 ⟨⟨rfl, rfl, rfl, ?_, trivial⟩, ?_, Nat.zero_le _, ?_⟩ ?_
  ·rw [List.take_zero, show zCC [] = [] from rfl, List.append_nil]; rfl
  ·rw [List.take_zero, show zCC [] = [] from rfl, List.append_nil]
  ·rw [List.take_zero, show zCC [] = [] from rfl, List.append_nil]; omega
  intro k ⟨hk, hXl⟩
  refine rn4 ?_
  refine zF U (fun q => ?_) (fun q => ?_)
  ·have hk' : k < N.length := by omega
   have htk : zCC (N.take (k + 1)) = zCC (N.take k) ++ (Lib.itoa (N.getD k 0) ++ [32]) := by
    unfold zCC
    rw [List.take_succ_eq_append_getElem hk', List.map_append, List.flatten_append]; simp [List.getD, hk']
   obtain ⟨u, hu⟩ := Int.eq_ofNat_of_zero_le (hNb (N.getD k 0) (by rw [List.getD, List.getElem?_eq_getElem hk']; exact List.getElem_mem hk')).1
   have hu2 := (hNb (N.getD k 0) (by rw [List.getD, List.getElem?_eq_getElem hk']; exact List.getElem_mem hk')).2
   have hXX : X ++ zCC (N.take (k + 1)) = (X ++ zCC (N.take k)) ++ Lib.decDigits u ++ [32] := by rw [htk, hu, Go.Ax.Tb.itoa_nat]; simp
   have hd20 := Lib.nDigits_le20 u (by omega)
   have hdl := Lib.decDigits_length u
   generalize X ++ zCC (N.take k) = Y at hXl hXX
   refine rn6 ?_
   refine zBI 39 (.int .i64 (u : Nat)) U (AEq.of_eq (by rw [hu])) ?_
   refine zFe 0 rfl rfl rfl (appI_ok Y u (by omega) (by omega)) (fun h q1 q2 => absurd q1 (by intro q1; exact q2 (Nat.lt_one_iff.1 q1))) (fun h q => q.elim) (by rw [hfix]; exact fun h => h) ?_
   rintro r H ⟨rfl, rfl⟩
   refine ⟨Nat.le_refl _, ?_⟩
   repeat (refine zAN rfl rfl rfl rfl rfl rfl rfl rfl rfl rfl rfl ?_)
   refine zAt (h := 0) (n := (Y ++ Lib.decDigits u).length) (o := ⟨5, .ints .u8 (zAB (Y ++ Lib.decDigits u))⟩) (i := 0) (m := 1) (cx := .ints .u8 [32]) U U U U U U U U U (zBa _) U U (Nat.le_refl _) U (by show ((Y ++ Lib.decDigits u).length + 1) * 1 ≤ _ ∧ _; rw [List.length_append]; omega) (fun _ _ _ _ => rfl) (by rw [hfix]; exact fun h => h) ?_
   refine rn5 ?_
   refine zR ⟨k + 1, ⟨by omega, ?_⟩, by omega, ⟨U, U, U, ?_, trivial⟩, ?_⟩
   ·rw [hXX, List.length_append, List.length_append, List.length_singleton]; omega
   ·rw [hXX, show (Y ++ Lib.decDigits u ++ ([32] : List UInt8)).length = (Y ++ Lib.decDigits u).length + 1 by rw [List.length_append]; rfl]; rfl
   ·rw [hXX, zD6 (Y ++ Lib.decDigits u) [32]]; rfl
  ·have hk' : k = N.length := by omega
   subst hk'
   rw [List.take_length]
   refine rn5 ?_
   refine zA (q_strof (X ++ zCC N) U U U U U (by show 0 + (X ++ zCC N).length ≤ (zAB _).length; rw [zBa]; omega) U U (fun j hj => by show AV.int .u8 ((zAB (X ++ zCC N)).getD (0 + j) 0) = _; rw [zD7, Nat.zero_add])) ?_
   refine rn0 ?_
   exact zN hR U U
theorem zE2 {n : Nat} (l : List Mv) : zAz n (zAv l) := fun i j _ hj => by
 have hj : j < 3 := hj
 show zCe n ((mvC (l.getD i mv0)).getD j .any) = true
 match j, hj with
 | 0, _ => rfl
 | 1, _ => rfl
 | 2, _ => rfl
def zCS (r : Go.Ax.Gm.Rules) (p : Pos) (k : Nat) : List Mv := zFy r p ++ (List.range k).flatMap (zC9 r p)
theorem zM4 (r : Go.Ax.Gm.Rules) (p : Pos) (k : Nat) : zCS r p (k + 1) = zCS r p k ++ zC9 r p k := by
 unfold zCS
 rw [List.range_succ, List.flatMap_append, ← List.append_assoc]; simp
theorem zHv {r : Go.Ax.Gm.Rules} {p : Pos} {s k : Nat} {w : Go.Ax.Gm.Way} (h : zEQ w = true) : (zDK r p s k w).length ≤ 7 := by
 unfold zDK zHZ
 rw [List.length_map]
 have := zMV r p w.take w.dx (dyOf p w) w.most.toNat ((s : Int).tmod r.w) ((s : Int).tdiv r.w)
 unfold zEQ at h
 simp only [Bool.and_eq_true] at h
 have b4 := Go.Ax.Gm.within_iff.1 h.2.2.2.1
 omega
theorem zG7 {α β : Type} (f : α → List β) (m : Nat) : ∀ (l : List α), (∀ a ∈ l, (f a).length ≤ m) → (l.flatMap f).length ≤ m * l.length
 | [], _ => Nat.le_refl _
 | a :: l, h => by
  rw [List.flatMap_cons, List.length_append, List.length_cons, Nat.mul_succ]
  have h1 := h a (List.mem_cons_self ..)
  have h2 := zG7 f m l (fun b hb => h b (List.mem_cons_of_mem _ hb))
  omega
theorem zNl {r : Go.Ax.Gm.Rules} (hv : ValidR r) {i : Nat} (hi : i < r.pcs.length) : (r.pcs.getD i pc0).ways.length ≤ 16 ∧ ∀ w ∈ (r.pcs.getD i pc0).ways, zEQ w = true := (zEJ (hv.pc i hi)).2.2.2.2
theorem zHr {r : Go.Ax.Gm.Rules} (hv : ValidR r) {p : Pos} (S : Sound r p) (k : Nat) : (zCS r p k).length ≤ 384 + 112 * k := by
 unfold zCS
 rw [List.length_append]
 have h1 : (zFy r p).length ≤ 384 := by
  have := zGk r p (by have := zIt S p.turn; have := hv.n6; omega) p.cells.length
  have hc := (zA5 hv S).c
  have e : zFy r p = zBk r p p.cells.length := rfl
  rw [e]; omega
 have h2 := zG7 (zC9 r p) 112 (List.range k) (fun s _ => by
  unfold zC9
  split
  ·rename_i ho
   unfold ownC at ho
   rw [Bool.and_eq_true, decide_eq_true_eq] at ho
   have hc := zFE S s
   have hk := zGF ho.1 hc.1 hc.2
   obtain ⟨h16, hw⟩ := zNl hv hk
   have := zG7 (zDK r p s (zAe (zAM p s))) 7 _ (fun w hm => zHv (hw w hm))
   omega
  ·exact Nat.zero_le _)
 rw [List.length_range] at h2
 omega
/-- moves.List: the list is the caller's -/
theorem zL0 (r : Go.Ax.Gm.Rules) (hv : ValidR r) (p : Pos) (S : Sound r p) : zd Tryz.prog 22 [ruA r, poA p] [] (fun _ => False) (fun v H => v = .sl 0 0 (zr r p).length ∧ H = [some ⟨85, zAv (zr r p)⟩]) := by
 refine zL (P := Tryz.prog) (fn := Tryz.f22) U U (by kernel_rfl) U (fun c hR hfix => ?_)
 ·have hc := (zA5 hv S).c
  have hw : 1 ≤ r.w ∧ r.w ≤ 8 := ⟨hv.w1, hv.w8⟩
  have hh : 1 ≤ r.h ∧ r.h ≤ 8 := ⟨hv.h1, hv.h8⟩
  refine zY ?_
  repeat (first | refine zA (zM rfl) ?_ | refine zC ?_ | refine zB ?_ | refine zJ rfl ?_ | refine zAO rfl rfl ?_)
  refine zCp 2 3 [(4, .nil)] U U U U ⟨U, trivial⟩ ⟨U, U, U, trivial⟩ U hfix ?_
  refine rn6 ?_
  refine zD4 U U U (puts_ok r hw p (zA5 hv S) S.tn) ?_
  refine zBz ?_
  refine zAA (ι := Nat) (fun k => [(2, .rp (.box (ruC r)) 0 0), (3, .rp (.box (poC p)) 0 0), (5, .sl 0 0 (zCS r p k).length), (19, z8 p.cells), (20, iN p.cells.length), (21, iN k)]) (fun k => [some ⟨85, zAv (zCS r p k)⟩])
   (fun k => k ≤ p.cells.length) (fun k => p.cells.length - k) 0 ⟨⟨rfl, rfl, ?_, rfl, rfl, rfl, trivial⟩, ?_, Nat.zero_le _⟩ ?_
  ·unfold zCS; rw [List.range_zero, List.flatMap_nil, List.append_nil]; rfl
  ·unfold zCS; rw [List.range_zero, List.flatMap_nil, List.append_nil]; rfl
  intro k hk
  refine rn4 ?_
  refine zF U (fun q => ?_) (fun q => ?_)
  ·have hk' : k < p.cells.length := by omega
   have hC12 := zIg hv S k
   have hsucc := zM4 r p k
   have hNl := zHr hv S k
   have htn : 0 ≤ p.turn ∧ p.turn ≤ 1 := by have := S.tn; omega
   repeat (first | refine zA (zG rfl) ?_ | refine zA (zM rfl) ?_ | refine zA (zBs rfl rfl rfl) ?_ | refine zC ?_ | refine zB ?_ | refine zY ?_ | refine zJ rfl ?_ | refine zAX ?_ | refine zAP ?_ | refine zA (zn rfl rfl rfl rfl (by first | (simp only [Nat.zero_add, Int.toNat_natCast, Int.toNat_zero]; exact rfl) | exact rfl) (by omega)) ?_)
   obtain ⟨C, hC⟩ : ∃ C, zAM p k = C := ⟨_, rfl⟩
   have hown : ownC p k = (decide (C ≠ 0) && decide ((C - 1).tmod 2 = p.turn)) := by rw [← hC]; rfl
   have hKlt : C ≠ 0 → zAe C < r.pcs.length := fun q => zGF q (by have := hC12.1; rw [hC] at this; exact this) (by have := (zFE S k).2; rw [hC] at this; exact this)
   rw [hC] at hC12
   refine zBI 7 (.int .i64 C) U (AEq.of_eq (by rw [← hC]; rfl)) ?_
   refine zBI 26 (.int .i64 C) U (AEq.of_eq (by rw [← hC]; rfl)) ?_
   refine rn4 ?_
   apply zAL (H := [some ⟨85, zAv (zCS r p k)⟩]) [(2, .rp (.box (ruC r)) 0 0), (3, .rp (.box (poC p)) 0 0), (5, .sl 0 0 (zCS r p k).length), (19, z8 p.cells), (20, iN p.cells.length), (21, iN k), (6, iN k), (7, .int .i64 C), (35, .bool (!(ownC p k)))]
   ·intro fin
    refine zj U U (fun f1 => ?_) (fun f1 => ?_)
    ·refine zBG ?_
     exact fin _ ⟨U, U, U, U, U, U, U, U, congrArg (fun b => some (AV.bool b)) (show true = !(ownC p k) by rw [hown, decide_eq_false (show ¬ C ≠ 0 from fun q => q f1)]; rfl), trivial⟩
    ·have f1 : ¬ C = 0 := f1
     repeat (first | refine zA (zG rfl) ?_ | refine zC ?_ | refine zB ?_ | refine zx rfl rfl ?_ | refine zA (zBh rfl rfl) ?_ | refine zA (zi rfl rfl) ?_ | refine zA (zA1 rfl rfl (by omega)) ?_ | refine zA (zJF rfl rfl (by omega)) ?_ | refine zA (zD rfl rfl rfl rfl) ?_ | refine zA (zK rfl rfl rfl rfl rfl rfl) ?_)
     exact fin _ ⟨U, U, U, U, U, U, U, U, congrArg (fun b => some (AV.bool b)) (show decide (¬ (C - 1) % 2 = p.turn) = !(ownC p k) by rw [hown, decide_eq_true f1, Int.tmod_eq_emod_of_nonneg (by omega), Bool.true_and, decide_not]), trivial⟩
   refine zAQ U (fun g => ?_) (fun g => ?_)
   ·rw [Bool.not_eq_true'] at g
    have e : zCS r p (k + 1) = zCS r p k := by rw [hsucc]; unfold zC9; rw [if_neg (by rw [g]; exact Bool.false_ne_true), List.append_nil]
    refine rn5 ?_
    exact zR ⟨k + 1, by omega, by omega, by rw [e]; exact ⟨U, U, U, U, U, U, trivial⟩, by rw [e]⟩
   rw [Bool.not_eq_false'] at g
   have hC0 : C ≠ 0 := by
    rw [hown, Bool.and_eq_true, decide_eq_true_eq] at g
    exact g.1
   have hK := hKlt hC0
   have hgo : zC9 r p k = (r.pcs.getD (zAe C) pc0).ways.flatMap (zDK r p k (zAe C)) := by unfold zC9; rw [if_pos g, hC]
   have hKC : (C - 1) / 2 = ((zAe C : Nat) : Int) := by unfold zAe; rw [Int.tdiv_eq_ediv_of_nonneg (by omega)]; omega
   obtain ⟨hw16, hwo⟩ := zNl hv hK
   have hpr := zEJ (hv.pc _ hK)
   generalize zAe C = K at hK hgo hKC hw16 hwo hpr
   generalize hpc : r.pcs.getD K pc0 = pc at hgo hw16 hwo hpr
   obtain ⟨ws, hws⟩ : ∃ ws, pc.ways = ws := ⟨_, rfl⟩
   rw [hws] at hgo hw16 hwo
   repeat (first | refine zA (zG rfl) ?_ | refine zA (zM rfl) ?_ | refine zC ?_ | refine zB ?_ | refine zY ?_ | refine zJ rfl ?_ | refine zAP ?_ | refine zA (zA1 rfl rfl (by omega)) ?_ | refine zA (zIB rfl rfl (by omega)) ?_)
   refine zBI 8 (iN K) U (AEq.of_eq (by rw [hKC])) ?_
   refine zBz ?_
   refine zAA (ι := Nat) (fun j => [(2, .rp (.box (ruC r)) 0 0), (3, .rp (.box (poC p)) 0 0), (5, .sl 0 0 (zCS r p k ++ (ws.take j).flatMap (zDK r p k K)).length), (19, z8 p.cells), (20, iN p.cells.length), (21, iN k), (6, iN k), (8, iN K), (44, .ro (zE9 ws) 0 ws.length), (45, iN ws.length), (46, iN j)]) (fun j => [some ⟨85, zAv (zCS r p k ++ (ws.take j).flatMap (zDK r p k K))⟩])
    (fun j => j ≤ ws.length) (fun j => ws.length - j) 0 ⟨⟨rfl, rfl, ?_, rfl, rfl, rfl, rfl, rfl, ?_, ?_, rfl, trivial⟩, ?_, Nat.zero_le _⟩ ?_
   ·rw [List.take_zero, List.flatMap_nil, List.append_nil]; rfl
   ·rw [← hws, ← hpc]; rfl
   ·rw [← hws, ← hpc]; rfl
   ·rw [List.take_zero, List.flatMap_nil, List.append_nil]
   intro j hj
   have hMl : (zCS r p k ++ (ws.take j).flatMap (zDK r p k K)).length ≤ 384 + 112 * k + 7 * j := by
    rw [List.length_append]
    have := zG7 (zDK r p k K) 7 (ws.take j) (fun w hm => zHv (hwo w (List.mem_of_mem_take hm)))
    rw [List.length_take] at this
    have : min j ws.length ≤ j := Nat.min_le_left _ _
    omega
   have hMs : ∀ w, ws.getD j way0 = w → j < ws.length → zCS r p k ++ (ws.take (j + 1)).flatMap (zDK r p k K) = (zCS r p k ++ (ws.take j).flatMap (zDK r p k K)) ++ zDK r p k K w := fun w hw1 q => by
    rw [zAE ws way0 j q, List.flatMap_append, hw1, List.append_assoc]; simp
   generalize hM : zCS r p k ++ (ws.take j).flatMap (zDK r p k K) = M at hMl hMs
   refine rn4 ?_
   refine zF U (fun q2 => ?_) (fun q2 => ?_)
   ·have hj' : j < ws.length := by omega
    generalize hwj : ws.getD j way0 = w
    have hwm : zEQ w = true := hwo w (by rw [← hwj]; exact zAR way0 hj')
    have hMs := hMs w hwj hj'
    refine zGo ?_
    repeat (refine zAI rfl rfl rfl ?_)
    refine zZ (zF5 w) U U U U U (by rw [← hwj]; rfl) U ?_
    refine zBG ?_
    refine ax_fzL [some ⟨85, zAv M⟩] 10 [(2, .rp (.box (ruC r)) 0 0), (3, .rp (.box (poC p)) 0 0), (5, .sl 0 0 M.length), (19, z8 p.cells), (20, iN p.cells.length), (21, iN k), (6, iN k), (8, iN K), (44, .ro (zE9 ws) 0 ws.length), (45, iN ws.length), (46, iN j)] U U ⟨U, U, U, U, U, U, U, U, U, U, U, trivial⟩ ⟨U, U, U, U, U, U, U, U, U, U, U, U, trivial⟩ (zBY (zE2 _) zBZ) U hfix ?_
    refine rn6 ?_
    refine zQ U U U (way_ok r hv p S k hk' w hwm) ?_
    have hTl : (zDK r p k K w).length = (zHZ r p k w).length := List.length_map ..
    have hT7 := zHv (r := r) (p := p) (s := k) (k := K) hwm
    have hTd : zDK r p k K w = (zHZ r p k w).map (goM r p k K pc.promote) := by unfold zDK; rw [hpc]
    generalize hTT : zHZ r p k w = T at hTl hTd
    have hTb : ∀ t ∈ T, 0 ≤ t ∧ t < 1000 := fun t ht => by
     rw [← hTT] at ht
     have := zKx ht
     have hcl := S.cl
     omega
    refine rn3 ?_
    refine zAA (ι := Nat) (fun i => [(2, .rp (.box (ruC r)) 0 0), (3, .rp (.box (poC p)) 0 0), (5, .sl 0 0 (M ++ (T.take i).map (goM r p k K pc.promote)).length), (19, z8 p.cells), (20, iN p.cells.length), (21, iN k), (6, iN k), (8, iN K), (44, .ro (zE9 ws) 0 ws.length), (45, iN ws.length), (46, iN j), (54, z8 T), (55, iN T.length), (56, iN i)]) (fun i => [some ⟨85, zAv (M ++ (T.take i).map (goM r p k K pc.promote))⟩])
     (fun i => i ≤ T.length) (fun i => T.length - i) 0 ⟨⟨rfl, rfl, ?_, rfl, rfl, rfl, rfl, rfl, rfl, rfl, rfl, rfl, rfl, rfl, trivial⟩, ?_, Nat.zero_le _⟩ ?_
    ·rw [List.take_zero, List.map_nil, List.append_nil]; rfl
    ·rw [List.take_zero, List.map_nil, List.append_nil]
    intro i hi
    have hNs : ∀ t, T.getD i 0 = t → i < T.length → M ++ (T.take (i + 1)).map (goM r p k K pc.promote) = (M ++ (T.take i).map (goM r p k K pc.promote)) ++ [goM r p k K pc.promote t] := fun t ht q => by
     rw [zAE T 0 i q, List.map_append, ht, List.append_assoc]; rfl
    have hNl : (M ++ (T.take i).map (goM r p k K pc.promote)).length ≤ 384 + 112 * k + 7 * j + i := by
     rw [List.length_append, List.length_map, List.length_take]
     have : min i T.length ≤ i := Nat.min_le_left _ _
     omega
    generalize hN : M ++ (T.take i).map (goM r p k K pc.promote) = N at hNl hNs
    refine rn4 ?_
    refine zF U (fun q3 => ?_) (fun q3 => ?_)
    ·have hi' : i < T.length := by omega
     obtain ⟨t, ht⟩ : ∃ t, T.getD i 0 = t := ⟨_, rfl⟩
     have htb := hTb t (by rw [← ht]; exact zAR 0 hi')
     have hNs := hNs t ht hi'
     have hnl : (N ++ [goM r p k K pc.promote t]).length = N.length + 1 := by rw [List.length_append]; rfl
     refine rn6 ?_
     refine zBI 12 (.int .i64 t) U (AEq.of_eq (by rw [← ht])) ?_
     refine zBI 61 (.int .i64 t) U (AEq.of_eq (by rw [← ht])) ?_
     refine rn8 ?_
     refine zZ [iN k, .int .i64 t, iN K] U U U U U U U ?_
     repeat (first | refine zA (zG rfl) ?_ | refine zA (zM rfl) ?_ | refine zC ?_ | refine zB ?_ | refine zY ?_ | refine zJ rfl ?_ | refine zA (zBF rfl rfl rfl rfl) ?_ | refine zA (zCa rfl rfl) ?_ | refine zA (zn rfl rfl rfl rfl (by first | (simp only [Nat.zero_add, Int.toNat_natCast, Int.toNat_zero]; exact rfl) | exact rfl) (by omega)) ?_ | refine zA (zD rfl rfl rfl rfl) ?_ | refine zA (zK rfl rfl rfl rfl rfl rfl) ?_)
     apply zAL (H := [some ⟨85, zAv N⟩, some ⟨85, .box (mvC (goM r p k K pc.promote t))⟩]) [(2, .rp (.box (ruC r)) 0 0), (3, .rp (.box (poC p)) 0 0), (5, .sl 0 0 N.length), (19, z8 p.cells), (20, iN p.cells.length), (21, iN k), (6, iN k), (8, iN K), (44, .ro (zE9 ws) 0 ws.length), (45, iN ws.length), (46, iN j), (54, z8 T), (55, iN T.length), (56, iN i), (13, .ptr 1 0 0)]
     ·intro fin
      have keep : ¬ (0 < pc.promote ∧ zFq r p.turn t = true) → goM r p k K pc.promote t = ⟨k, t, K⟩ := fun q => by unfold goM; rw [if_neg q]
      refine zj U U (fun n1 => ?_) (fun n1 => ?_)
      ·have n1 : 0 < (r.pcs.getD K pc0).promote := n1
       rw [hpc] at n1
       repeat (first | refine zA (zG rfl) ?_ | refine zx rfl rfl ?_ | refine zA (zD rfl rfl rfl rfl) ?_ | refine zA (zK rfl rfl rfl rfl rfl rfl) ?_ | refine zA (zm rfl rfl rfl rfl rfl rfl) ?_)
       refine zQ U U U (zKG r hw hh p.turn t htb) ?_
       refine rn2 ?_
       refine zAQ U (fun n2 => ?_) (fun n2 => ?_)
       ·have e : goM r p k K pc.promote t = ⟨k, t, pc.promote - 1⟩ := by unfold goM; rw [if_pos ⟨n1, n2⟩]
        have hn6 := hv.n6
        have hb6 : -9223372036854775808 ≤ (r.pcs.getD K pc0).promote - 1 ∧ (r.pcs.getD K pc0).promote - 1 ≤ 9223372036854775807 := by rw [hpc]; omega
        skip
        refine zJ U ?_
        repeat (first | refine zA (zG rfl) ?_ | refine zC ?_ | refine zB ?_ | refine zA (zA1 rfl rfl (by omega)) ?_ | refine zA (zO rfl rfl rfl rfl rfl rfl) ?_ | refine zAJ rfl rfl rfl rfl rfl rfl rfl Nat.zero_lt_one ?_)
        refine zAK [some ⟨85, zAv N⟩, some ⟨85, .box (mvC (goM r p k K pc.promote t))⟩] (by rw [e, ← hpc]; rfl) ?_
        exact fin _ ⟨U, U, U, U, U, U, U, U, U, U, U, U, U, U, U, trivial⟩
       ·have e := keep (fun q => by rw [n2] at q; exact Bool.false_ne_true q.2)
        refine zE6 ?_
        refine zAK [some ⟨85, zAv N⟩, some ⟨85, .box (mvC (goM r p k K pc.promote t))⟩] (by rw [e]; rfl) ?_
        exact fin _ ⟨U, U, U, U, U, U, U, U, U, U, U, U, U, U, U, trivial⟩
      ·have n1 : ¬ 0 < (r.pcs.getD K pc0).promote := n1
       rw [hpc] at n1
       have e := keep (fun q => n1 q.1)
       refine zE6 ?_
       refine zAK [some ⟨85, zAv N⟩, some ⟨85, .box (mvC (goM r p k K pc.promote t))⟩] (by rw [e]; rfl) ?_
       exact fin _ ⟨U, U, U, U, U, U, U, U, U, U, U, U, U, U, U, trivial⟩
     generalize hgm : goM r p k K pc.promote t = gm at hNs hnl
     refine rn6 ?_
     refine zBN [gm] U U U U U U U U U U U U U (by show 0 + 1 ≤ 1; omega) (fun k' j' hk' hj' => ?_) (by show (N.length + 1) * 24 ≤ _ ∧ _; omega) zEH (by rw [hfix]; exact fun h => h) ?_
     ·obtain rfl : k' = 0 := Nat.lt_one_iff.1 hk'
      match j', hj' with
      | 0, _ => rfl
      | 1, _ => rfl
      | 2, _ => rfl
     refine rn10 ?_
     refine zB ?_
     refine zB2 [some ⟨85, zAv (N ++ [gm])⟩] [some ⟨85, .box (mvC gm)⟩] [(2, .rp (.box (ruC r)) 0 0), (3, .rp (.box (poC p)) 0 0), (5, .sl 0 0 (N ++ [gm]).length), (19, z8 p.cells), (20, iN p.cells.length), (21, iN k), (6, iN k), (8, iN K), (44, .ro (zE9 ws) 0 ws.length), (45, iN ws.length), (46, iN j), (54, z8 T), (55, iN T.length), (56, iN i)] U ⟨U, U, by rw [hnl]; rfl, U, U, U, U, U, U, U, U, U, U, U, trivial⟩ (fun h hh => by rw [hfix] at hh; exact hh.elim) (zBY (zE2 _) zBZ) U ?_
     refine rn3 ?_
     exact zR ⟨i + 1, by omega, by omega, by rw [hNs]; exact ⟨U, U, U, U, U, U, U, U, U, U, U, U, U, U, trivial⟩, by rw [hNs]⟩
    ·have hi' : i = T.length := by omega
     subst hi'
     rw [List.take_length, ← hTd] at hN
     rw [← hMs] at hN
     refine rn5 ?_
     exact zR ⟨j + 1, by omega, by omega, by rw [hN]; exact ⟨U, U, U, U, U, U, U, U, U, U, U, trivial⟩, by rw [hN]⟩
   ·have hj' : j = ws.length := by omega
    subst hj'
    rw [List.take_length] at hM
    have e : zCS r p (k + 1) = M := by rw [hsucc, hgo, hM]
    refine rn5 ?_
    exact zR ⟨k + 1, by omega, by omega, by rw [e]; exact ⟨U, U, U, U, U, U, trivial⟩, by rw [e]⟩
  ·have hk' : k = p.cells.length := by omega
   subst hk'
   have hNl := zHr hv S p.cells.length
   have hraw : rawM r p = zCS r p p.cells.length := rfl
   have hlist : zr r p = zz ((zCS r p p.cells.length).mergeSort leM) := rfl
   generalize zCS r p p.cells.length = R at hNl hlist
   have hsl : (R.mergeSort leM).length = R.length := List.length_mergeSort ..
   have csort := zOd (H := [some ⟨85, zAv R⟩]) (h := 0) (l := R) (by omega) rfl
   have ccomp := zMd (R.mergeSort leM) (by omega)
   rw [hsl, ← hlist] at ccomp
   refine rn5 ?_
   refine zBR U U U csort (fun _ h => h) (fun _ h => h) ?_
   rintro r' H' ⟨rfl, rfl⟩
   refine rn0 ?_
   refine zBR U U U ccomp (fun _ h => h) (fun _ h => h) ?_
   rintro r' H' ⟨rfl, rfl⟩
   refine rn7 ?_
   refine zLW 0 (zAv (zr r p)) U ⟨?_, U, fun i j hi hj => ?_⟩ ?_
   ·show (zr r p).length ≤ (zr r p ++ List.replicate (R.length - (zr r p).length) mv0).length
    rw [List.length_append]; omega
   ·show (mvC ((zr r p).getD i mv0)).getD j .any = (mvC ((zr r p ++ List.replicate (R.length - (zr r p).length) mv0).getD i mv0)).getD j .any
    have hi : i < (zr r p).length := hi
    rw [zBc, if_pos hi]
   repeat (refine z6 ?_)
   exact zN hR U ⟨U, U⟩
/-- moves.List -/
theorem list_ok (r : Go.Ax.Gm.Rules) (hv : ValidR r) (p : Pos) (S : Sound r p) : zl Tryz.prog 22 [ruA r, poA p] (zBP (zr r p)) := by
 refine zd.value (K := (fun v H => v = .sl 0 0 (zr r p).length ∧ H = [some ⟨85, zAv (zr r p)⟩])) (zL0 r hv p S) (fix := fun _ => False) (fun _ h => h) U ?_
 rintro v H ⟨rfl, rfl⟩
 refine ⟨U, ?_, fun h o ho => zEN (zAc zCW) h o ho⟩
 intro o ho; simp at ho; subst ho; show 0 + (zr r p).length ≤ (zr r p).length; omega
theorem listF_ok (r : Go.Ax.Gm.Rules) (hv : ValidR r) (p : Pos) (S : Sound r p) : zHy Tryz.prog 22 [ruA r, poA p] (fun N => .sl N 0 (zr r p).length) ⟨85, zAv (zr r p)⟩ := by
 refine zd.fresh (K := (fun v H => v = .sl 0 0 (zr r p).length ∧ H = [some ⟨85, zAv (zr r p)⟩])) (zL0 r hv p S) (fix := fun _ => False) (fun _ h => h) U (fun H => ⟨U, by simp [zGf, inB, ruC, poC]⟩) ?_
 rintro v H ⟨rfl, rfl⟩
 refine ⟨?_, fun h o ho => zEN (zAc zCW) h o ho, 0, U, fun n => rfl⟩
 intro o ho; simp at ho; subst ho; show 0 + (zr r p).length ≤ (zr r p).length; omega
/-- ends.line$1 -/
theorem own_ok (r : Go.Ax.Gm.Rules) (hv : ValidR r) (p : Pos) (S : Sound r p) (player x y : Int) : zl Tryz.prog 113 [.int .i64 x, .int .i64 y, .rp (.box (ruC r)) 0 0, .rp (.box (poC p)) 0 0, .rp (.box [.int .i64 player]) 0 0] (.bool (zHE r p player x y)) := by
 refine zd.value0 (zL (P := Tryz.prog) (fn := Tryz.f113) U U (by kernel_rfl) U (fun c hR hfix => ?_)) (fix := fun _ => False) (fun _ h => h) U U
 have hc := (zA5 hv S).c
 have hcl := S.cl
 have hw : 1 ≤ r.w ∧ r.w ≤ 8 := ⟨hv.w1, hv.w8⟩
 have hh : 1 ≤ r.h ∧ r.h ≤ 8 := ⟨hv.h1, hv.h8⟩
 refine rn4 ?_
 apply zAL (H := []) [(0, .int .i64 x), (1, .int .i64 y), (2, .rp (.box (ruC r)) 0 0), (3, .rp (.box (poC p)) 0 0), (4, .rp (.box [.int .i64 player]) 0 0), (26, .bool (zFu r x y))]
 ·intro fin
  refine zj U U (fun f1 => ?_) (fun f1 => ?_)
  ·refine zBG ?_
   exact fin _ ⟨U, U, U, U, U, by unfold zFu; rw [decide_eq_true (show x < 0 from f1)]; rfl, trivial⟩
  repeat (first | refine zA (zG rfl) ?_ | refine zx rfl rfl ?_ | refine zA (zEZ rfl rfl) ?_ | refine zA (zi rfl rfl) ?_ | refine zA (zD rfl rfl rfl rfl) ?_ | refine zA (zK rfl rfl rfl rfl rfl rfl) ?_)
  refine zj U U (fun f2 => ?_) (fun f2 => ?_)
  ·refine zBG ?_
   exact fin _ ⟨U, U, U, U, U, by unfold zFu; rw [decide_eq_false (show ¬ x < 0 from f1), decide_eq_true (show r.w ≤ x from f2)]; rfl, trivial⟩
  repeat (first | refine zA (zG rfl) ?_ | refine zx rfl rfl ?_ | refine zA (zCR rfl rfl) ?_ | refine zA (zi rfl rfl) ?_)
  refine zj U U (fun f3 => ?_) (fun f3 => ?_)
  ·refine zBG ?_
   exact fin _ ⟨U, U, U, U, U, by unfold zFu; rw [decide_eq_false (show ¬ x < 0 from f1), decide_eq_false (show ¬ r.w ≤ x from f2), decide_eq_true (show y < 0 from f3)]; rfl, trivial⟩
  repeat (first | refine zA (zG rfl) ?_ | refine zC ?_ | refine zB ?_ | refine zx rfl rfl ?_ | refine zA (zEZ rfl rfl) ?_ | refine zA (zi rfl rfl) ?_ | refine zA (zD rfl rfl rfl rfl) ?_ | refine zA (zK rfl rfl rfl rfl rfl rfl) ?_)
  exact fin _ ⟨U, U, U, U, U, by unfold zFu; rw [decide_eq_false (show ¬ x < 0 from f1), decide_eq_false (show ¬ r.w ≤ x from f2), decide_eq_false (show ¬ y < 0 from f3)]; rfl, trivial⟩
 refine zAQ U (fun g => ?_) (fun g => ?_)
 ·refine rn2 ?_
  refine zN hR U ?_
  unfold zHE; rw [g]; rfl
 have hsq := sq_lt g
 have hoff : 0 ≤ x ∧ x < r.w ∧ 0 ≤ y ∧ y < r.h := by
  unfold zFu at g
  simp only [Bool.or_eq_false_iff, decide_eq_false_iff_not] at g
  omega
 have hYw : 0 ≤ y * r.w ∧ y * r.w ≤ 64 := ⟨Int.mul_nonneg (by omega) (by omega), by
  have a := Int.mul_le_mul (show y ≤ 8 by omega) hw.2 (by omega) (by decide)
  exact Int.le_trans a (by decide)⟩
 have hC12 := zIg hv S (y * r.w + x).toNat
 refine zBz ?_
 refine zA (zDF U U (by omega)) ?_
 repeat (first | refine zA (zG rfl) ?_ | refine zA (zM rfl) ?_ | refine zA (zBs rfl rfl rfl) ?_ | refine zC ?_ | refine zB ?_ | refine zA (zA4 rfl rfl (by omega)) ?_ | refine zA (zn rfl rfl rfl rfl (by first | (simp only [Nat.zero_add, Int.toNat_natCast, Int.toNat_zero]; exact rfl) | exact rfl) (by omega)) ?_)
 obtain ⟨C, hC⟩ : ∃ C, zAM p (y * r.w + x).toNat = C := ⟨_, rfl⟩
 rw [hC] at hC12
 refine zBu 8 (.int .i64 C) U (AEq.of_eq (by rw [← hC]; rfl)) ?_
 refine rn6 ?_
 refine zj U U (fun e1 => ?_) (fun e1 => ?_)
 ·repeat (first | refine zA (zG rfl) ?_ | refine zA (zM rfl) ?_ | refine zC ?_ | refine zB ?_ | refine zx rfl rfl ?_ | refine z6 ?_ | refine zA (zBp rfl rfl) ?_ | refine zA (zi rfl rfl) ?_ | refine zA (zA1 rfl rfl (by omega)) ?_ | refine zA (zJF rfl rfl (by omega)) ?_ | refine zA (zD rfl rfl rfl rfl) ?_)
  refine zN hR U ?_
  have e1 : 0 < C := e1
  unfold zHE; rw [g, hC, decide_eq_true e1, Int.tmod_eq_emod_of_nonneg (by omega)]; rfl
 ·refine rn6 ?_
  refine zN hR U ?_
  have e1 : ¬ 0 < C := e1
  unfold zHE; rw [g, hC, decide_eq_false e1]; rfl
/-- ends.wins -/
theorem zIY (n : Int) (h : 0 ≤ n ∧ n ≤ 1) : zl Tryz.prog 73 [.int .i64 n] (.int .i64 (1 + n)) := by
 refine zd.value0 (zL (P := Tryz.prog) (fn := Tryz.f73) U U (by kernel_rfl) U (fun c hR hfix => ?_)) (fix := fun _ => False) (fun _ h => h) U U
 refine rn3 ?_
 exact zN hR U U
end Go.Proofs.YtkhdfimdkjjimaaGreatDoor
