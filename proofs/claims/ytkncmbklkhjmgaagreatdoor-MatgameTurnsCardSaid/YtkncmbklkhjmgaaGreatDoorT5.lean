import Derived.Lib.LaidTab
import Derived.Lib.ItoaNum
import Derived.Stop.LaidErr
import Derived.Test.YtkncmbklkhjmgaaGreatDoorProg
import Derived.Shelf.Strconv.Itoa3
import Derived.Shelf.Strconv.ErrVarAll
import Derived.Shelf.Pu.ParseUintPublic10
import Derived.Shelf.Bits.Mul64
import Derived.Shelf.Strings.OnBuilder
import Derived.Test.YtkncmbklkhjmgaaGreatDoorT4
set_option linter.unusedVariables false
set_option linter.unusedSimpArgs false
set_option maxRecDepth 100000
set_option maxHeartbeats 4000000
namespace Go.Ax.Sx
open Go.Ax.Dt Go.Ax.Rt Go.Ax.Bg
def optZ : Option Nat → Int
 | none => -1
 | some b => (b : Int)
section
variable {T : Tab} {β : List Nat} {c e k b : Nat}
theorem zO8 (h : at2 T k c ≤ 0) : zBb T β c e (k + 1) = zBb T β c e k := by
 rw [zBb]
 cases zBb T β c e k with
 | none => show (if _ then _ else _) = _; rw [if_pos h]
 | some b => show (if _ then _ else _) = _; rw [if_pos h]
theorem zNa (h : ¬ at2 T k c ≤ 0) (hl : zBb T β c e k = none) : zBb T β c e (k + 1) = some k := by
 rw [zBb, hl]
 show (if _ then _ else _) = _
 rw [if_neg h]
theorem zO7 (h : ¬ at2 T k c ≤ 0) (hl : zBb T β c e k = some b) : zBb T β c e (k + 1) = if zHr T β c e k b then some k else some b := by
 rw [zBb, hl]
 show (if _ then _ else _) = _
 rw [if_neg h]
end
theorem zNm (o : Option Nat) : (optZ o < 0) = (o = none) := by
 apply propext
 cases o with
 | none => exact ⟨fun _ => rfl, fun _ => by show (-1 : Int) < 0; omega⟩
 | some b => exact ⟨fun h => absurd h (by show ¬ (b : Int) < 0; omega), fun h => by cases h⟩
section
variable {m N w : Nat} {s : St}
theorem zLk {k : Nat} (h : zBz m N w (zAc m N w s k) = none) : ∀ j, zAc m N w s (k + j) = zAc m N w s k
 | 0 => rfl
 | j + 1 => by
  have e := zLk h j
  show (zBz m N w (zAc m N w s (k + j))).getD (zAc m N w s (k + j)) = _
  rw [e, h]; rfl
theorem iter_end {k K : Nat} (h : zBz m N w (zAc m N w s k) = none) (hk : k ≤ K) : zAc m N w s K = zAc m N w s k := by
 obtain ⟨j, rfl⟩ : ∃ j, K = k + j := ⟨K - k, by omega⟩
 exact zLk h j
theorem zRF {k : Nat} {s' : St} (h : zBz m N w (zAc m N w s k) = some s') : zAc m N w s (k + 1) = s' := by
 show (zBz m N w (zAc m N w s k)).getD _ = _
 rw [h]; rfl
/-- the column of a direction without an end, or -1 -/
def resZ (m w : Nat) (s : St) : Int := if zCG m w s = w then -1 else (zCG m w s : Int)
theorem zRo (h : zCG m w s = w) : zBz m N w s = none := by
 unfold zBz; unfold zCG at h; rw [if_pos h]
theorem zRn (h : zCG m w s ≠ w) (hl : zBb s.rows s.basis (zCG m w s) N m = none) : zBz m N w s = none := by
 unfold zBz; unfold zCG at h hl; rw [if_neg h, hl]
theorem step_go (h : zCG m w s ≠ w) {r : Nat} (hl : zBb s.rows s.basis (zCG m w s) N m = some r) : zBz m N w s = some (piv s r (zCG m w s)) := by
 unfold zBz; unfold zCG at h hl ⊢; rw [if_neg h, hl]
end
/-- from column c on -/
theorem zOu {T : Tab} {m f c : Nat} (h : at2 T m c < 0) : zCR T m f c = c := by
 cases f with
 | zero => rfl
 | succ f => rw [zCR, if_pos h]
theorem enter_go {T : Tab} {m f c : Nat} (h : ¬ at2 T m c < 0) : zCR T m (f + 1) c = zCR T m f (c + 1) := by rw [zCR, if_neg h]
theorem nz_stop {T : Tab} {i f c : Nat} (h : at2 T i c ≠ 0) : nzN T i f c = c := by
 cases f with
 | zero => rfl
 | succ f => rw [nzN, if_pos h]
theorem nz_go {T : Tab} {i f c : Nat} (h : ¬ at2 T i c ≠ 0) : nzN T i (f + 1) c = nzN T i f (c + 1) := by rw [nzN, if_neg h]
/-- a table without its last rows -/
def cutS (m : Nat) (s : St) : St := ⟨s.rows.take m, s.den, s.basis⟩
theorem zEG {T : Tab} {m i : Nat} (hi : i < m) (j : Nat) : at2 (T.take m) i j = at2 T i j := by
 unfold at2
 simp only [List.getD, List.getElem?_take, if_pos hi]
theorem zME {T : Tab} {m i : Nat} (hi : i < m) : (T.take m).getD i [] = T.getD i [] := by
 simp only [List.getD, List.getElem?_take, if_pos hi]
theorem zQ4 {T : Tab} {m r c : Nat} {d : Int} (hr : r < m) (hm : m ≤ T.length) : zEa (T.take m) r c d = (zEa T r c d).take m := by
 rw [zKK, zKK, zEi, zEi, ← List.map_take, List.take_range, List.length_take, Nat.min_eq_left hm]
 refine List.map_congr_left (fun i hi => ?_)
 have hi : i < m := by simpa using hi
 unfold zCQ
 rw [zME hr, zME hi, zEG hr, zEG hi]
theorem piv_cut {s : St} {m r c : Nat} (hr : r < m) (hm : m ≤ s.rows.length) : piv (cutS m s) r c = cutS m (piv s r c) := by
 unfold piv cutS zEn
 simp only [zEG hr, zQ4 hr hm]
 split
 ·rw [List.map_take]
 ·rfl
theorem nz_cut {T : Tab} {m i : Nat} (hi : i < m) : ∀ f c, nzN (T.take m) i f c = nzN T i f c
 | 0, c => rfl
 | f + 1, c => by rw [nzN, nzN, zEG hi, nz_cut hi f (c + 1)]
theorem zQ2 {s : St} {m w k : Nat} (hk : k < m) (hm : m ≤ s.rows.length) : zB1 w (cutS m s) k = cutS m (zB1 w s k) := by
 unfold zB1
 rw [show (cutS m s).basis = s.basis from rfl, show (cutS m s).rows = s.rows.take m from rfl, nz_cut hk]
 split
 ·rfl
 ·split
  ·rfl
  ·exact piv_cut hk hm
theorem zHN {s : St} {w : Nat} : ∀ k, (zBS w s k).rows.length = s.rows.length
 | 0 => rfl
 | k + 1 => by
  rw [zBS]
  unfold zB1
  split
  ·exact zHN k
  ·split
   ·exact zHN k
   ·show (zEn _ _ _ _).length = _
    rw [zKa]; exact zHN k
theorem zHu {s : St} {m w : Nat} (hm : m ≤ s.rows.length) : ∀ k, k ≤ m → zBS w (cutS m s) k = cutS m (zBS w s k)
 | 0, _ => rfl
 | k + 1, hk => by
  rw [zBS, zBS, zHu hm k (by omega)]
  exact zQ2 (by omega) (by rw [zHN]; exact hm)
/-- the costs of the first phase, after i rows -/
def zC6 (w N : Nat) (s : St) (i : Nat) : List Int := (List.range (N + 1)).map (fun j => -(zw (fun q => if w ≤ s.basis.getD q 0 then at2 s.rows q j else 0) i))
def zBZ (w a N : Nat) (s : St) (m k : Nat) : List Int := (List.range (N + 1)).map (fun j => if w ≤ j ∧ j < w + k then 0 else (zC6 w N s m).getD j 0)
def zDC (k : Nat → Int) (N : Nat) (s : St) (i : Nat) : List Int := (List.range (N + 1)).map (fun j => s.den * k j - zw (fun q => k (s.basis.getD q 0) * at2 s.rows q j) i)
theorem zHI (w N : Nat) (s : St) (i : Nat) : (zC6 w N s i).length = N + 1 := by simp [zC6]
theorem zHK (k : Nat → Int) (N : Nat) (s : St) (i : Nat) : (zDC k N s i).length = N + 1 := by simp [zDC]
theorem zFr {w N : Nat} {s : St} {i j : Nat} (hj : j < N + 1) : (zC6 w N s i).getD j 0 = -(zw (fun q => if w ≤ s.basis.getD q 0 then at2 s.rows q j else 0) i) := zBA hj
theorem zHJ {k : Nat → Int} {N : Nat} {s : St} {i j : Nat} (hj : j < N + 1) : (zDC k N s i).getD j 0 = s.den * k j - zw (fun q => k (s.basis.getD q 0) * at2 s.rows q j) i := zBA hj
theorem zOf {w N : Nat} {s : St} {i : Nat} (h : ¬ w ≤ s.basis.getD i 0) : zC6 w N s (i + 1) = zC6 w N s i := by
 unfold zC6
 refine List.map_congr_left (fun j _ => ?_)
 show -(zw _ i + (if w ≤ s.basis.getD i 0 then at2 s.rows i j else 0)) = _
 rw [if_neg h]; omega
theorem zOe {w N : Nat} {s : St} {i j : Nat} (h : w ≤ s.basis.getD i 0) (hj : j < N + 1) : (zC6 w N s (i + 1)).getD j 0 = (zC6 w N s i).getD j 0 - at2 s.rows i j := by
 rw [zFr hj, zFr hj]
 show -(zw _ i + (if w ≤ s.basis.getD i 0 then at2 s.rows i j else 0)) = _
 rw [if_pos h]; omega
theorem zOi {k : Nat → Int} {N : Nat} {s : St} {i : Nat} (h : k (s.basis.getD i 0) = 0) : zDC k N s (i + 1) = zDC k N s i := by
 unfold zDC
 refine List.map_congr_left (fun j _ => ?_)
 show _ - (zw _ i + k (s.basis.getD i 0) * at2 s.rows i j) = _
 rw [h, Int.zero_mul]; omega
theorem zOh {k : Nat → Int} {N : Nat} {s : St} {i j : Nat} (hj : j < N + 1) : (zDC k N s (i + 1)).getD j 0 = (zDC k N s i).getD j 0 + -(k (s.basis.getD i 0)) * at2 s.rows i j := by
 rw [zHJ hj, zHJ hj]
 show _ - (zw _ i + k (s.basis.getD i 0) * at2 s.rows i j) = _
 rw [Int.neg_mul]; omega
theorem zC3 {l l' : List Int} {n : Nat} (h1 : l.length = n) (h2 : l'.length = n) (h : ∀ j, j < n → l.getD j 0 = l'.getD j 0) : l = l' := by
 apply List.ext_getElem (by omega)
 intro j g1 g2
 have := h j (by omega)
 rw [zDz 0 g1, zDz 0 g2] at this
 exact this
theorem zOg (w N : Nat) (s : St) : zC6 w N s 0 = List.replicate (N + 1) 0 := by
 refine zC3 (zHI ..) (by simp) (fun j hj => ?_)
 rw [zFr hj]
 show -(0 : Int) = _
 simp [List.getD, hj]
/-- a row changed from its beginning on -/
theorem chg_to {l l' : List Int} {n : Nat} (h1 : l.length = n) (h2 : l'.length = n) : chg (fun j => l'.getD j 0) 0 l n = l' := by
 rw [← h1, zEi]
 refine zC3 (n := n) (by simp [h1]) h2 (fun j hj => ?_)
 exact zBA (by omega)
theorem zKy {B : Nat} : ∀ {n : Nat} {f : Nat → Int}, (∀ i, i < n → (f i).natAbs ≤ B) → (zw f n).natAbs ≤ n * B
 | 0, f, _ => by rw [Nat.zero_mul]; exact Nat.le_refl 0
 | n + 1, f, h => by
  have h1 := zKy (n := n) (f := f) (fun i hi => h i (by omega))
  have h2 := h n (Nat.lt_succ_self n)
  show (zw f n + f n).natAbs ≤ _
  have h3 := Int.natAbs_add_le (zw f n) (f n)
  rw [Nat.succ_mul]; omega
theorem art_row (p : Prog) {k : Nat} (hk : k < p.a) : ∃ i, i < p.m ∧ p.neg i = true ∧ zBe p.B i = k := by
 have key : ∀ n, k < zBe p.B n → ∃ i, i < n ∧ p.neg i = true ∧ zBe p.B i = k := by
  intro n
  induction n with
  | zero => intro h; exact absurd h (Nat.not_lt_zero k)
  | succ n ih =>
   intro h
   by_cases hn : (p.B.getD n 0).num < 0
   ·rw [zM6 hn] at h
    by_cases e : zBe p.B n = k
    ·exact ⟨n, by omega, by simpa using hn, e⟩
    ·obtain ⟨i, h1, h2⟩ := ih (by omega)
     exact ⟨i, by omega, h2⟩
   ·have e : zBe p.B (n + 1) = zBe p.B n := by
     show (zAW _ _).length = _
     rw [zAW, if_neg hn]
    rw [e] at h
    obtain ⟨i, h1, h2⟩ := ih h
    exact ⟨i, by omega, h2⟩
 exact key _ hk
/-- The costs of the first phase. -/
theorem zOb (p : Prog) (i : Nat) (hi : i = p.a) : zBZ (p.n + p.m) p.a p.N (zAO p) p.m i = zHL (zCy p) p.m p.N (zAO p) := by
 subst hi
 have hN : p.N = p.n + p.m + p.a := rfl
 have hinv := zEz p
 have hd : (zAO p).den = 1 := rfl
 unfold zBZ zHL
 refine List.map_congr_left (fun j hj => ?_)
 have hj : j < p.N + 1 := by simpa using hj
 rw [zFr hj, hd, Int.one_mul]
 have hk : ∀ q, q < p.m → (if p.n + p.m ≤ (zAO p).basis.getD q 0 then at2 (zAO p).rows q j else 0) = zCy p ((zAO p).basis.getD q 0) * at2 (zAO p).rows q j := by
  intro q hq
  have := hinv.bc q hq
  unfold zCy
  by_cases h : p.n + p.m ≤ (zAO p).basis.getD q 0
  ·rw [if_pos h, if_pos ⟨h, this⟩, Int.one_mul]
  ·rw [if_neg h, if_neg (fun e => h e.1), Int.zero_mul]
 rw [zp hk]
 by_cases h : p.n + p.m ≤ j ∧ j < p.n + p.m + p.a
 ·rw [if_pos h]
  obtain ⟨k, rfl⟩ : ∃ k, j = p.n + p.m + k := ⟨j - (p.n + p.m), by omega⟩
  have hka : k < p.a := by omega
  have h1 : zCy p (p.n + p.m + k) = 1 := by unfold zCy; rw [if_pos (by omega)]
  rw [h1]
  -- the row of this artificial unknown
  obtain ⟨i, hi, hneg, hik⟩ := art_row p hka
  have hb : (zAO p).basis.getD i 0 = p.n + p.m + k := by
   show (zBd p).getD i 0 = _
   rw [zGY p hi, if_pos hneg, hik]
  have hu : ∀ q, q < p.m → at2 (zAO p).rows q (p.n + p.m + k) = if q = i then 1 else 0 := by
   intro q hq
   have := hinv.unit q i (by omega) hi
   rw [hb, hd] at this
   exact this
  rw [zEP i hi (fun q hq hne => by rw [hu q hq, if_neg hne, Int.mul_zero]), hu i hi, if_pos rfl, hb, h1]; rfl
 ·rw [if_neg h]
  have : zCy p j = 0 := by unfold zCy; rw [if_neg (by omega)]
  rw [this]; omega
theorem zN8 (T : Tab) (L L' : List Int) : zBI (T ++ [L]) T.length L' = T ++ [L'] := by
 unfold zBI
 rw [List.take_left]
theorem ph1_rows (p : Prog) : (ph1 p).rows = zBB p ++ [zHL (zCy p) p.m p.N (zAO p)] := by
 show zBI (zBB p ++ [_]) p.m _ = _
 rw [← zCY p]
 exact zN8 _ _ _
theorem zJU (p : Prog) : cutS p.m (zAO p) = ⟨zBB p, 1, zBd p⟩ := by
 show (⟨(zBB p ++ [_]).take p.m, 1, zBd p⟩ : St) = _
 rw [← zCY p, List.take_left]
theorem mid_cut0 (p : Prog) (K : Nat) (h : p.a = 0) : cutS p.m (mid p K) = ⟨zBB p, 1, zBd p⟩ := by
 unfold mid
 rw [if_pos h]; exact zJU p
theorem zNd (p : Prog) (hp : p.Ok) (K : Nat) (h : p.a ≠ 0) : cutS p.m (mid p K) = zBS (p.n + p.m) (cutS p.m (zCD p K)) p.m := by
 unfold mid
 rw [if_neg h]
 refine (zHu ?_ p.m (Nat.le_refl _)).symm
 rw [(zEv p hp K).1.n]; exact Nat.le_succ _
theorem ph2_rows (p : Prog) (K : Nat) : (ph2 p K).rows = (cutS p.m (mid p K)).rows ++ [zDC (zBV p) p.N (mid p K) p.m] := rfl
theorem zQz {k : Nat → Int} {N m i : Nat} {s : St} (hi : i ≤ m) : zDC k N (cutS m s) i = zDC k N s i := by
 unfold zDC
 refine List.map_congr_left (fun j _ => ?_)
 show s.den * k j - zw (fun q => k (s.basis.getD q 0) * at2 (s.rows.take m) q j) i = _
 congr 1
 refine zp (fun q hq => ?_)
 rw [zEG (by omega)]
theorem zDy (w a N : Nat) (s : St) (m k : Nat) : (zBZ w a N s m k).length = N + 1 := by simp [zBZ]
theorem zHt {w a N : Nat} {s : St} {m k j : Nat} (hj : j < N + 1) : (zBZ w a N s m k).getD j 0 = if w ≤ j ∧ j < w + k then 0 else (zC6 w N s m).getD j 0 := zBA hj
theorem zNH (w a N : Nat) (s : St) (m : Nat) : zBZ w a N s m 0 = zC6 w N s m := by
 refine zC3 (zDy ..) (zHI ..) (fun j hj => ?_)
 rw [zHt hj, if_neg (by omega)]
theorem zOd {w a N : Nat} {s : St} {m k : Nat} (hk : w + k < N + 1) : (zBZ w a N s m k).set (w + k) 0 = zBZ w a N s m (k + 1) := by
 refine zC3 (by rw [List.length_set]; exact zDy ..) (zDy ..) (fun j hj => ?_)
 rw [Go.Ax.Dt.getD_set, zHt hj, zHt hj, zDy]
 by_cases h1 : j = w + k
 ·rw [if_pos ⟨h1, hk⟩, if_pos (by omega)]
 ·rw [if_neg (fun q => h1 q.1)]
  by_cases h2 : w ≤ j ∧ j < w + k
  ·rw [if_pos h2, if_pos (by omega)]
  ·rw [if_neg h2, if_neg (by omega)]
theorem zQw {w N E : Nat} {s : St} {i j : Nat} (hi : i ≤ 100) (h : ∀ q, q < i → (at2 s.rows q j).natAbs ≤ 10 ^ E) (hj : j < N + 1) : ((zC6 w N s i).getD j 0).natAbs ≤ 10 ^ (E + 2) := by
 rw [zFr hj, Int.natAbs_neg]
 have h1 := zKy (B := 10 ^ E) (n := i) (f := fun q => if w ≤ s.basis.getD q 0 then at2 s.rows q j else 0) (fun q hq => by
  show (if w ≤ s.basis.getD q 0 then at2 s.rows q j else 0).natAbs ≤ _
  split
  ·exact h q hq
  ·exact Nat.zero_le _)
 refine Nat.le_trans h1 ?_
 rw [Nat.pow_add, Nat.mul_comm]
 exact Nat.mul_le_mul_left _ hi
theorem zQx {w N m i : Nat} {s : St} (hi : i ≤ m) : zC6 w N (cutS m s) i = zC6 w N s i := by
 unfold zC6
 refine List.map_congr_left (fun j _ => ?_)
 congr 1
 refine zp (fun q hq => ?_)
 show (if w ≤ s.basis.getD q 0 then at2 (s.rows.take m) q j else 0) = _
 rw [zEG (by omega)]
theorem zOc {w a N m k : Nat} {s : St} : zBZ w a N (cutS m s) m k = zBZ w a N s m k := by
 unfold zBZ
 rw [zQx (Nat.le_refl _)]
def zEM (n N : Nat) (W : List Int) : List Int := (List.range (N + 1)).map (fun j => if j < n then W.getD j 0 else 0)
def zEY (n m a : Nat) (W : List Int) (i : Nat) : List Int := (List.range (n + m + a + 1)).map (zIN n m a W i)
theorem zHX (n N : Nat) (W : List Int) : (zEM n N W).length = N + 1 := by simp [zEM]
theorem zDV (n m a : Nat) (W : List Int) (i : Nat) : (zEY n m a W i).length = n + m + a + 1 := by simp [zEY]
theorem zPF {N : Nat} {W : List Int} : zEM 0 N W = List.replicate (N + 1) 0 := by
 refine zC3 (zHX ..) (by simp) (fun j hj => ?_)
 rw [show (zEM 0 N W).getD j 0 = 0 from (zBA hj).trans (if_neg (Nat.not_lt_zero j))]
 simp [List.getD, hj]
theorem out_base {n m a i : Nat} {W : List Int} (hi : i < m) : ((zEM n (n + m + a) W).set (n + i) 1).set (n + m + a) (W.getD n 0) = zEY n m a W i := by
 refine zC3 (n := n + m + a + 1) (by rw [List.length_set, List.length_set]; exact zHX ..) (zDV ..) (fun j hj => ?_)
 rw [Go.Ax.Dt.getD_set, Go.Ax.Dt.getD_set, List.length_set, zHX, show (zEY n m a W i).getD j 0 = zIN n m a W i j from zBA hj, show (zEM n (n + m + a) W).getD j 0 = (if j < n then W.getD j 0 else 0) from zBA hj]
 unfold zIN
 by_cases h1 : j = n + m + a
 ·rw [if_pos ⟨h1, by omega⟩, if_neg (by omega), if_neg (by omega), if_pos h1]
 ·rw [if_neg (fun q => h1 q.1)]
  by_cases h2 : j = n + i
  ·rw [if_pos ⟨h2, by omega⟩, if_neg (by omega), if_pos h2]
  ·rw [if_neg (fun q => h2 q.1)]
   by_cases h3 : j < n
   ·rw [if_pos h3, if_pos h3]
   ·rw [if_neg h3, if_neg h3, if_neg h2, if_neg h1]
theorem neg_base {n m a i : Nat} {W : List Int} : chg (fun j => -((zEY n m a W i).getD j 0)) 0 (zEY n m a W i) (n + m + a + 1) = (zEY n m a W i).map (fun x => -x) := by
 have e := zEi (fun j => -((zEY n m a W i).getD j 0)) 0 (zEY n m a W i)
 rw [zDV] at e
 rw [e]
 refine zC3 (n := n + m + a + 1) (by simp) (by rw [List.length_map]; exact zDV ..) (fun j hj => ?_)
 rw [show ((List.range (n + m + a + 1)).map (fun j => -((zEY n m a W i).getD j 0))).getD j 0 = -((zEY n m a W i).getD j 0) from zBA hj, zCK _ _ 0 _ _ (by rw [zDV]; exact hj)]
theorem row_neg {n m a i k : Nat} {W : List Int} (hk : k < a) : ((zEY n m a W i).map (fun x => -x)).set (n + m + k) 1 = zDJ n m a W i true k := by
 refine zC3 (n := n + m + a + 1) (by rw [List.length_set, List.length_map]; exact zDV ..) (by simp [zDJ]) (fun j hj => ?_)
 rw [Go.Ax.Dt.getD_set, List.length_map, zDV, show (zDJ n m a W i true k).getD j 0 = zHC n m a W i true k j from zBA hj]
 unfold zHC
 rw [if_pos rfl]
 by_cases h : j = n + m + k
 ·rw [if_pos ⟨h, by omega⟩, if_pos h]
 ·rw [if_neg (fun q => h q.1), if_neg h, zCK _ _ 0 _ _ (by rw [zDV]; exact hj)]
  exact congrArg (fun x : Int => -x) (zBA hj)
theorem row_pos {n m a i k : Nat} {W : List Int} : zEY n m a W i = zDJ n m a W i false k := rfl
theorem zK2 {α : Type} (l : List α) (d : α) {i : Nat} (hi : i < l.length) : l.take (i + 1) = l.take i ++ [l.getD i d] := by
 rw [List.take_add_one, zDz d hi]
 simp [hi]
end Go.Ax.Sx
namespace Go.Ax
variable [Pins]
open Go.RowKit
theorem zQ.cutR {P : Program} {f : FuncId} {args : List AV} {H : zN} {fix : Nat → Prop} {K K' : AV → zN → Prop} (hc : zQ P f args H fix K)
 (hK : ∀ r H', K r H' → ∃ H0 H1, H' = H0 ++ H1 ∧ (∀ h, fix h → h < H0.length) ∧ (∀ (h : Nat) (o : AObj), H0[h]? = some (some o) → zAz H0.length o.c) ∧ zCB H0.length r = true ∧ K' r H0) : zQ P f args H fix K' := by
 refine ⟨hc.1, fun w σ S vals h0 h1 h2 h3 => Calls.mono (hc.2 w σ S vals h0 h1 h2 h3) fun e w' he => ?_⟩
 obtain ⟨v, r, σ', S', H', g1, g2, g3, g4, g5⟩ := he
 obtain ⟨H0, H1, rfl, hf, hbH, hbr, hk⟩ := hK _ _ g5
 have hs : ∀ h, h < H0.length → cutσ H0.length σ' h = σ' h := fun h hl => if_pos hl
 have hget : ∀ {h : Nat} {o : AObj}, H0[h]? = some (some o) → h < H0.length ∧ (H0 ++ H1)[h]? = some (some o) := by
  intro h o ho
  have hl : h < H0.length := (List.getElem?_eq_some_iff.1 ho).1
  exact ⟨hl, by rw [List.getElem?_append_left hl]; exact ho⟩
 refine ⟨v, r, cutσ H0.length σ', S', H0, g1, ⟨fun h o ho => ?_, fun h h' o o' b s C s' C' q1 q2 e1 e2 => ?_, g2.small, fun h hl => if_neg (by omega)⟩, g3.cutv hbr _ hs, ⟨g4.os, g4.output, g4.tape, g4.size, g4.block, g4.S1, g4.S2, fun h hh => by rw [hs h (hf h hh)]; exact g4.fixed h hh, hf, fun h o b s C q e => ?_⟩, hk⟩
 ·obtain ⟨hl, ho'⟩ := hget ho
  rw [hs h hl]
  rcases g2.live h o ho' with g | ⟨b, C, cur, k1, k2, k3, k4, k5, k6, k7⟩
  ·exact .inl g
  ·refine .inr ⟨b, C, cur, k1, k2.cutv (fun ks vs hc => (hbH h o ho).mp hc) hs, k3, k4, k5, k6, fun i j hi hj => ?_⟩
   obtain ⟨v, m1, m2, m3⟩ := k7 i j hi hj
   exact ⟨v, m1, m2.cutv ((hbH h o ho).row i j hi hj) _ hs, m3⟩
 ·obtain ⟨hl, ho⟩ := hget q1
  obtain ⟨hl', ho'⟩ := hget q2
  rw [hs h hl] at e1
  rw [hs h' hl'] at e2
  exact g2.dist h h' o o' b s C s' C' ho ho' e1 e2
 ·obtain ⟨hl, ho⟩ := hget q
  rw [hs h hl] at e
  exact g4.own h o b s C ho e
/-- The result lies in a cell that is known by a fact. -/
theorem zGD {P : Program} {fr : Fr} {H : zN} {t h : Nat} {ty oty : TypeId} {l : List AV} {fs : Array Field} {i : TypeInfo} (hl : look t fr = some (.ptr h 0 0)) (hh : H[h]? = some (some ⟨oty, .box l⟩)) (hu : P.underlying ty = some (.struct fs)) (hi : P.info? ty = some i) (hsz : Nat.beq i.size l.length = true) :
 zGm P fr H [.cell t ty] = some [.agg l] := by
 have _p := ‹Pins›
 simp only [zGm, zM4, hl, hh, hu, hi, hsz]
 rfl
/-- A call that reads the own memory and leaves it as it is. -/
theorem px_c {P : Program} {fn : Func} {c : Ctx} {H : zN} {all : Array Oper} {K0 : Fr} {i : Nat} {r : List Nat} {st : Steps} {G : Steps → Prop} {d : Nat} {g : Operand} {args : List Operand} {ats : Array TypeId} {ty : TypeId} {pos : String} {after : Array Edge} {f : FuncId} {caps ags ags' : List AV} {v : AV} {K : Fr} (hi : all[i]? = some ⟨some d, .call { callee := .value g, args := args.toArray, argTypes := ats }, ty, pos, after, none⟩)
 (hK : zFy st K0 ⟨some d, .call { callee := .value g, args := args.toArray, argTypes := ats }, ty, pos, after, none⟩ = K) (hg : ev K g = some (.fn f caps)) (ha : evs K args = some ags) (has : ags ++ caps = ags') (hcall : zQ P f ags' H (fun h => h < H.length) (fun r' H' => r' = v ∧ H' = H))
 (h : zEF P fn c H all K0 r ((i, d, v) :: st) G) : zEF P fn c H all K0 (i :: r) st G :=
 zJ3 hi (hK ▸ fun k fr hk h2 => zCc (zIY hk hg) (zJG hk ha) has hcall (fun _ h => h) (fun _ h => h) (fun r H' e => by obtain ⟨rfl, rfl⟩ := e; exact h2)) h
end Go.Ax
namespace Go.Ax
variable [Pins]
open Go.RowKit
def mvσ (σ : Nat → Option Blk) (h1 h2 : Nat) : Nat → Option Blk := fun h => if h = h1 then σ h2 else σ h
def mvH (H : zN) (h1 h2 : Nat) (o : AObj) : zN := ((zl h1 H).set h1 (some ⟨o.ty, o.c.forget h1⟩)).set h2 none
theorem zIi {H : zN} {h1 h2 : Nat} {o : AObj} (hne : h1 ≠ h2) (h1H : h1 < H.length) {h : Nat} {o' : AObj} (hh : (mvH H h1 h2 o)[h]? = some (some o')) :
 (h = h1 ∧ o' = ⟨o.ty, o.c.forget h1⟩) ∨ (h ≠ h1 ∧ h ≠ h2 ∧ ∃ o0 : AObj, H[h]? = some (some o0) ∧ o' = ⟨o0.ty, o0.c.forget h1⟩) := by
 unfold mvH at hh
 by_cases e2 : h = h2
 ·exfalso
  subst e2
  rw [List.getElem?_set] at hh
  rw [if_pos rfl] at hh
  split at hh <;> cases hh
 rw [List.getElem?_set_ne (fun q => e2 q.symm)] at hh
 by_cases e1 : h = h1
 ·subst e1
  rw [List.getElem?_set_self (by rw [zA0]; exact h1H)] at hh
  cases hh
  exact .inl ⟨Z, Z⟩
 ·rw [List.getElem?_set_ne (fun q => e1 q.symm), zFQ] at hh
  cases hx : H[h]? with
  | none => rw [hx] at hh; cases hh
  | some x =>
   rw [hx] at hh
   cases x with
   | none => cases hh
   | some o0 => cases hh; exact .inr ⟨e1, e2, o0, rfl, rfl⟩
theorem Rep.move {c : Ctx} {w : World} {a : Act} {σ : Nat → Option Blk} {S : Nat → Prop} {n : Nat} {fr : Fr} {H : zN} (hr : Rep c w a σ S n fr H) (h1 h2 t len : Nat) {o : AObj} (hne : h1 ≠ h2) (h1H : h1 < H.length) (h2o : H[h2]? = some (some o))
 (hf1 : ¬ c.fix h1) (hl : look t fr = some (.sl h2 0 len)) : Rep c w a (mvσ σ h1 h2) S n ((t, .sl h1 0 len) :: zB7 h1 fr) (mvH H h1 h2 o) := by
 have hv : ∀ {x v}, VR w S σ x v → VR w S (mvσ σ h1 h2) (x.forget h1) v := fun h => h.forget _ (fun h' q => if_neg q)
 have s1 : mvσ σ h1 h2 h1 = σ h2 := if_pos rfl
 have s2 : ∀ h, h ≠ h1 → mvσ σ h1 h2 h = σ h := fun h q => if_neg q
 have hlen : (mvH H h1 h2 o).length = H.length := by unfold mvH; rw [List.length_set, List.length_set, zA0]
 have key : ∀ (h : Nat) (o0 : AObj), H[h]? = some (some o0) → ((σ h = some .nowhere ∧ (o0.c.forget h1).len = 0) ∨
  ∃ b C cur, σ h = some (.at b (o0.c.forget h1).sz C) ∧ Lays w S (mvσ σ h1 h2) ⟨o0.ty, o0.c.forget h1⟩ b cur C ∧ cur.size = C * (o0.c.forget h1).sz ∧ C ≤ maxLen + 1 ∧ (o0.c.forget h1).len ≤ C ∧ ¬ S b ∧
  ∀ i j, i < (o0.c.forget h1).len → j < (o0.c.forget h1).sz → ∃ v, cur[i * (o0.c.forget h1).sz + j]? = some v ∧ VR w S (mvσ σ h1 h2) ((o0.c.forget h1).at i j) v ∧ v.oneCell' = true) := by
  intro h o0 ho0
  rw [Cells.forget_len, Cells.forget_sz]
  rcases hr.hr.live h o0 ho0 with g | ⟨b, C, cur, g1, g2, g3, g4, g5, g6, g7⟩
  ·exact .inl g
  ·refine .inr ⟨b, C, cur, g1, g2.forget Z hv, g3, g4, g5, g6, fun i j hi hj => ?_⟩
   obtain ⟨v, k1, k2, k3⟩ := g7 i j hi hj
   exact ⟨v, k1, by rw [Cells.forget_at _ _ _ _ hj]; exact hv k2, k3⟩
 refine ⟨⟨fun h o' ho => ?_, fun h h' o1 o1' b s C s' C' q1 q2 e1 e2 => ?_, hr.hr.small, fun h hl' => ?_⟩, ⟨hr.kp.os, hr.kp.output, hr.kp.tape, hr.kp.size, hr.kp.block, hr.kp.S1, hr.kp.S2, fun h hh => ?_, fun h hh => ?_, fun h o' b s C q e => ?_⟩, hr.defers, hr.size, fun t' v hl' => ?_⟩
 ·rcases zIi hne h1H ho with ⟨rfl, rfl⟩ | ⟨g1, g2, o0, g3, rfl⟩
  ·rw [s1]; exact key h2 o h2o
  ·rw [s2 h g1]; exact key h o0 g3
 ·rcases zIi hne h1H q1 with ⟨rfl, rfl⟩ | ⟨g1, g2, o0, g3, rfl⟩
  ·rcases zIi hne h1H q2 with ⟨rfl, rfl⟩ | ⟨k1, k2, o0', k3, rfl⟩
   ·rfl
   ·rw [s1] at e1
    rw [s2 h' k1] at e2
    exact absurd (hr.hr.dist h2 h' o o0' b s C s' C' h2o k3 e1 e2) (fun q => k2 q.symm)
  ·rcases zIi hne h1H q2 with ⟨rfl, rfl⟩ | ⟨k1, k2, o0', k3, rfl⟩
   ·rw [s1] at e2
    rw [s2 h g1] at e1
    exact absurd (hr.hr.dist h h2 o0 o b s C s' C' g3 h2o e1 e2) g2
   ·rw [s2 h g1] at e1
    rw [s2 h' k1] at e2
    exact hr.hr.dist h h' o0 o0' b s C s' C' g3 k3 e1 e2
 ·rw [hlen] at hl'
  rw [s2 h (by omega)]; exact hr.hr.dom h hl'
 ·rw [s2 h (fun q => hf1 (q ▸ hh))]; exact hr.kp.fixed h hh
 ·rw [hlen]; exact hr.kp.fixlt h hh
 ·rcases zIi hne h1H q with ⟨rfl, rfl⟩ | ⟨g1, g2, o0, g3, rfl⟩
  ·rw [s1] at e; exact hr.kp.own h2 o b s C h2o e
  ·rw [s2 h g1] at e; exact hr.kp.own h o0 b s C g3 e
 ·have hsl := hr.slots t _ hl
  simp only [look] at hl'
  cases hb : Nat.beq t' t with
  | true =>
   rw [hb] at hl'
   have et := Nat.eq_of_beq_eq_true hb
   subst et
   cases hl'
   refine ⟨hsl.1, ?_⟩
   have h2 := hsl.2
   generalize a.tmps.getD t' undef = x at h2
   cases h2 with
   | sl _ _ _ _ b s C cap e1 e2 e3 => exact .sl _ _ _ _ _ _ _ _ (by rw [s1]; exact e1) e2 e3
   | sl0 _ _ e => exact .sl0 _ _ (by rw [s1]; exact e)
  | false =>
   rw [hb] at hl'
   have hl' : look t' (zB7 h1 fr) = some v := hl'
   rw [zDl] at hl'
   cases hx : look t' fr with
   | none => rw [hx] at hl'; cases hl'
   | some v0 =>
    rw [hx] at hl'
    cases hl'
    have hs := hr.slots t' v0 hx
    exact ⟨hs.1, hv hs.2⟩
section
variable {P : Program} {fn : Func} {c : Ctx} {fr : Fr} {H : zN} {k : List It}
theorem zPm {x : Code} (h1 h2 t len : Nat) {o : AObj} (hne : h1 ≠ h2) (h1H : h1 < H.length) (h2o : H[h2]? = some (some o)) (hf1 : ¬ c.fix h1) (hl : look t fr = some (.sl h2 0 len))
 (hk : Ax P fn c (.code x k) ((t, .sl h1 0 len) :: zB7 h1 fr) (mvH H h1 h2 o)) : Ax P fn c (.code x k) fr H :=
 fun w a σ S hr => hk w a _ S (hr.move h1 h2 t len hne h1H h2o hf1 hl)
end
theorem zFg {fr K : Fr} (h : zCE fr K) : ∀ {xs : List (Nat × Operand)} {l : List (Nat × AV)}, zCq K xs = some l → zCq fr xs = some l
 | [], l, he => he
 | (n, x) :: r, l, he => by
  simp only [zCq] at he ⊢
  split at he
  ·rename_i v hv
   split at he
   ·rename_i q hq
    rw [zIY h hv, zFg h hq]
    exact he
   ·cases he
  ·cases he
/-- a slice of plain values is built without a look at the memory -/
theorem px_b {P : Program} {fn : Func} {c : Ctx} {H : zN} {all : Array Oper} {K0 : Fr} {i : Nat} {r : List Nat} {st : Go.Ax.Steps} {G : Go.Ax.Steps → Prop} {d : Nat} {t e : TypeId} {n : Nat} {parts : List (Nat × Operand)} {ty : TypeId} {pos : String} {after : Array Edge} {it : TypeInfo} {z : Value} {zs L : List AV} {l : List (Nat × AV)} {cl : Cells} {K : Fr}
 (hi : all[i]? = some ⟨some d, .buildSlice t n parts.toArray, ty, pos, after, none⟩) (hK : zFy st K0 ⟨some d, .buildSlice t n parts.toArray, ty, pos, after, none⟩ = K)
 (ht : P.underlying t = some (.slice e)) (hinf : P.info? e = some it) (hz : it.zero = some z) (hzs : zav z = some zs) (hsz : it.size = zs.length) (hpos : Nat.blt 0 zs.length = true) (hsmall : Nat.ble (n * zs.length) 16777216 = true)
 (hl : zCq K parts = some l) (hf : zFu (fun i => some (i * zs.length, zs.length)) (zDP zs n) l = some L) (hcl : zBt n zs.length L = cl) (hn : noRef.noRefs L = true)
 (h : zEF P fn c H all K0 r ((i, d, .ro cl 0 n) :: st) G) : zEF P fn c H all K0 (i :: r) st G :=
 zJ3 hi (hK ▸ fun k fr hk h2 => zf ht hinf hz hzs hsz hpos hsmall (zFg hk hl) hf hcl hn h2) h
end Go.Ax
namespace Go.Ax
variable [Pins]
open Go.RowKit
section
variable {P : Program} {fn : Func} {c : Ctx} {fr : Fr} {H : zN} {k : List It}
theorem zJq {w : World} {size : Nat} {a : Option Addr} {m cap : Nat} : (Builtin.firstCells size 0 (.slice a m cap)).run P w = .ok #[] w := by
 have _p := ‹Pins›
 cases a with
 | none => rfl
 | some a =>
  show (loadCells a (0 * size)).run P w = _
  rw [Nat.zero_mul]; rfl
theorem ax_copy0 {all : Array Oper} {d : Nat} {t tx e : TypeId} {x y : Operand} {ty : TypeId} {pos : String} {after : Array Edge} {rest : List Oper} {inf : TypeInfo} {h i n : Nat} {h2 i2 : Nat}
 (ht : P.underlying t = some (.slice e)) (hi : P.info? e = some inf) (hx : ev fr x = some (.sl h i n)) (hy : ev fr y = some (.sl h2 i2 0))
 (hk : Ax P fn c (.ops false all rest k) ((d, .int .i64 0) :: fr) H) : Ax P fn c (.ops false all (⟨some d, .call { callee := .builtin .copy, args := #[x, y], argTypes := #[t, tx] }, ty, pos, after, none⟩ :: rest) k) fr H := by
 refine ax_w (fun w a σ S hr => ?_) hk
 have h1 := hr.evAt hx
 have h2 := hr.evAt hy
 have hexec : ∀ r w', (Builtin.copy_ #[t, tx] ty #[a.eval x, a.eval y]).run P w = .ok r w' → (execOp a.eval ⟨some d, .call { callee := .builtin .copy, args := #[x, y], argTypes := #[t, tx] }, ty, pos, after, none⟩).run P w = .ok (.value r) w' := by
  intro r w' h
  simp [execOp, resolve, invoke, builtin, h]
 generalize hzx : a.eval x = vx at h1 hexec
 generalize hzy : a.eval y = vy at h2 hexec
 have key : ∀ (ax ay : Option Addr) (lx cx cy : Nat), (Builtin.copy_ #[t, tx] ty #[.slice ax lx cx, .slice ay 0 cy]).run P w = .ok (.int .i64 (0 : Nat)) w := by
  intro ax ay lx cx cy
  have hf := zJq (P := P) (w := w) (size := inf.size) (a := ay) (m := 0) (cap := cy)
  have hm : Nat.min 0 lx = 0 := Nat.zero_min lx
  cases ax with
  | none => simp [Builtin.copy_, run_underlying ht, sizeOf, typeInfo, hi, Builtin.lenOf, hm, hf, goInt]
  | some ad => simp [Builtin.copy_, run_underlying ht, sizeOf, typeInfo, hi, Builtin.lenOf, hm, hf, goInt, storeCells]
 cases h1 with
 | sl0 _ _ hσ =>
  cases h2 with
  | sl0 _ _ hσ2 => exact ⟨_, _, σ, S, hexec _ _ (key _ _ _ _ _), hr, .int _ _ _⟩
  | sl _ _ _ _ b s C cap hσ2 hlen hcap => exact ⟨_, _, σ, S, hexec _ _ (key _ _ _ _ _), hr, .int _ _ _⟩
 | sl _ _ _ _ b s C cap hσ hlen hcap =>
  cases h2 with
  | sl0 _ _ hσ2 => exact ⟨_, _, σ, S, hexec _ _ (key _ _ _ _ _), hr, .int _ _ _⟩
  | sl _ _ _ _ b s C cap hσ2 hlen hcap => exact ⟨_, _, σ, S, hexec _ _ (key _ _ _ _ _), hr, .int _ _ _⟩
end
end Go.Ax
namespace Go.Ax.Sx
open Go.Ax.Dt Go.Ax.Rt Go.Ax.Bg
theorem last0 (p : Prog) (s : St) : chg (fun q => -((zAk p.C).getD q 0) * s.den) 0 (List.replicate (p.N + 1) 0) p.n = zDC (zBV p) p.N s 0 := by
 have hw := zFo p
 refine zC3 (n := p.N + 1) (by rw [zCp]; simp) (zHK ..) (fun j hj => ?_)
 rw [zC1 _ _ _ (by simpa using hj), zHJ hj]
 show _ = s.den * zBV p j - 0
 unfold zBV
 by_cases h : j < p.n
 ·rw [if_pos h, if_pos h, Int.sub_zero, Int.mul_comm]
 ·rw [if_neg h, if_neg h, Int.mul_zero, Int.sub_zero]
  simp [List.getD, hj]
theorem zPv {p : Prog} {k : Nat} (hk : p.Dig k) (j : Nat) : (zBV p j).natAbs ≤ 10 ^ p.E k := by
 unfold zBV
 split
 ·rename_i h
  rw [Int.natAbs_neg]; exact zJa hk h
 ·exact Nat.zero_le _
theorem zQy {p : Prog} {k E : Nat} {s : St} {i j : Nat} (hk : p.Dig k) (hi : i ≤ 98) (h : ∀ q, q < i → (at2 s.rows q j).natAbs ≤ 10 ^ E) (hd : s.den.natAbs ≤ 10 ^ E) (hj : j < p.N + 1) : ((zDC (zBV p) p.N s i).getD j 0).natAbs ≤ 10 ^ (p.E k + E + 2) := by
 rw [zHJ hj]
 have h1 := zKy (B := 10 ^ (p.E k + E)) (n := i) (f := fun q => zBV p (s.basis.getD q 0) * at2 s.rows q j) (fun q hq => by
  show (zBV p (s.basis.getD q 0) * at2 s.rows q j).natAbs ≤ _
  rw [Int.natAbs_mul, Nat.pow_add]
  exact Nat.mul_le_mul (zPv hk _) (h q hq))
 have h2 : (s.den * zBV p j).natAbs ≤ 10 ^ (p.E k + E) := by
  rw [Int.natAbs_mul, Nat.pow_add, Nat.mul_comm]
  exact Nat.mul_le_mul (zPv hk _) hd
 have h3 := Int.natAbs_sub_le (s.den * zBV p j) (zw (fun q => zBV p (s.basis.getD q 0) * at2 s.rows q j) i)
 have h4 : i * 10 ^ (p.E k + E) ≤ 98 * 10 ^ (p.E k + E) := Nat.mul_le_mul_right _ hi
 rw [Nat.pow_add]
 generalize 10 ^ (p.E k + E) = B at *
 omega
theorem zQv {p : Prog} {j : Nat} (h : ¬ (j < p.n ∧ (zAk p.C).getD j 0 ≠ 0)) : zBV p j = 0 := by
 unfold zBV
 split
 ·rename_i h1
  have : (zAk p.C).getD j 0 = 0 := Decidable.byContradiction (fun q => h ⟨h1, q⟩)
  rw [this]; rfl
 ·rfl
theorem cosK_neg {p : Prog} {j : Nat} (h : j < p.n) : -(zBV p j) = (zAk p.C).getD j 0 := by
 unfold zBV
 rw [if_pos h, Int.neg_neg]
theorem yL_as (p : Prog) (s : St) (d : Int) : yL p s d = (List.range p.m).map (fun i => ((List.range p.m).map (fun i => Rat.divInt (at2 s.rows p.m (p.n + i)) d)).getD i 0 * (((((List.range p.m).map p.fac).getD i 0 : Nat)) : Rat)) := by
 unfold yL
 refine List.map_congr_left (fun i hi => ?_)
 have hi : i < p.m := by simpa using hi
 rw [show ((List.range p.m).map (fun i => Rat.divInt (at2 s.rows p.m (p.n + i)) d)).getD i 0 = Rat.divInt (at2 s.rows p.m (p.n + i)) d from zD3 hi, show ((List.range p.m).map p.fac).getD i 0 = p.fac i from zD3 hi]
theorem zRg {p : Prog} {K L : Nat} (h : 0 < p.a ∧ at2 (zCD p K).rows p.m p.N < 0) : zDc p K L = ⟨1, [], yL p (zCD p K) (zCD p K).den, [], 0⟩ := by unfold zDc; rw [if_pos h]
theorem zRf {p : Prog} {K L : Nat} (h : ¬ (0 < p.a ∧ at2 (zCD p K).rows p.m p.N < 0)) (h2 : zCG p.m (p.n + p.m) (zDd p K L) < p.n + p.m) : zDc p K L = ⟨2, zBk p (zDd p K L), [], zHg p (zDd p K L) (zCG p.m (p.n + p.m) (zDd p K L)), 0⟩ := by unfold zDc; rw [if_neg h, if_pos h2]
theorem zRe {p : Prog} {K L : Nat} (h : ¬ (0 < p.a ∧ at2 (zCD p K).rows p.m p.N < 0)) (h2 : ¬ zCG p.m (p.n + p.m) (zDd p K L) < p.n + p.m) : zDc p K L = ⟨0, zBk p (zDd p K L), yL p (zDd p K L) ((zDd p K L).den * (p.fc : Nat)), [], Rat.divInt (at2 (zDd p K L).rows p.m p.N) ((zDd p K L).den * (p.fc : Nat))⟩ := by unfold zDc; rw [if_neg h, if_neg h2]
theorem col_le (p : Prog) (s : St) : zCG p.m (p.n + p.m) s ≤ p.n + p.m := Nat.le_trans (zE6 s.rows p.m (p.n + p.m) 0).2.1 (by omega)
end Go.Ax.Sx
namespace Go.Ax
variable [Pins]
open Go.RowKit
section
variable {ind : Bool} {P : Program} {fn : Func} {c : Ctx} {fr : Fr} {H : zN} {k : List It}
variable {d : Option Nat} {ty : TypeId} {pos : String} {after : Array Edge} {g : Option (Nat × Bool)}
theorem zNw {x x1 x2 x3 : Operand} {t e : TypeId} {cl : Cells} {i n : Nat} {k1 k2 k3 : IntKind} {l h m : Int} (ht : P.underlying t = some (.slice e)) (hs : (P.info? e).map (·.size) = some cl.sz) (hx : ev fr x = some (.ro cl i n)) (h1 : ev fr x1 = some (.int k1 l)) (h2 : ev fr x2 = some (.int k2 h)) (h3 : ev fr x3 = some (.int k3 m)) (hb : 0 ≤ l ∧ l ≤ h ∧ h ≤ m ∧ m ≤ n) :
 QOp ind P fn c fr H ⟨d, .slice t x (some x1) (some x2) (some x3), ty, pos, after, g⟩ (.ro cl (i + l.toNat) (h - l).toNat) := by
 intro w a σ S hr
 have hxv := hr.evAt hx
 have e1 := hr.evInt h1
 have e2 := hr.evInt h2
 have e3 := hr.evInt h3
 generalize hz : a.eval x = z at hxv
 have hsub : h.toNat - l.toNat = (h - l).toNat := by omega
 have hbs : ∀ (w' : World) (len cap : Nat), m ≤ cap → (Instr.sliceBounds true len cap (some (a.eval x1)) (some (a.eval x2)) (some (a.eval x3))).run P w' = .ok (l.toNat, h.toNat, m.toNat) w' := by
  intro w' len cap hc
  simp only [Instr.sliceBounds, Sem.run_bind, Sem.run_pure, Result.andThen_ok, zBv (P := P) e3 (show 0 ≤ m ∧ m ≤ cap by omega), zBv (P := P) (w := w') (y := m.toNat) e2 (show 0 ≤ h ∧ h ≤ ((m.toNat : Nat) : Int) by omega), zBv (P := P) (w := w') (y := h.toNat) e1 (show 0 ≤ l ∧ l ≤ ((h.toNat : Nat) : Int) by omega)]
 cases hxv with
 | ro0 _ _ _ ad cap =>
  have hm : m = 0 := by omega
  have hn : h = 0 := by omega
  have hl : l = 0 := by omega
  subst hm hn hl
  refine ⟨.slice ad 0 0, .ro0 _ _ _ _ _, fun w' _ => ?_⟩
  have hb' := hbs w' 0 cap (by omega)
  cases hq : P.info? e with
  | none => simp [hq] at hs
  | some inf => simp [execOp, hz, Instr.sliceAt, Instr.slice, run_underlying ht, hb', sizeOf, typeInfo, hq]
 | ro _ _ _ _ b o cap val hS hlen hc hv h1' =>
  have hget : ∀ w', (execOp a.eval ⟨d, .slice t x (some x1) (some x2) (some x3), ty, pos, after, g⟩).run P w' = .ok (.value (.slice (if m.toNat = l.toNat then some ⟨b, o, none⟩ else some ⟨b, o + l.toNat * cl.sz, none⟩) (h - l).toNat (m.toNat - l.toNat))) w' := by
   intro w'
   have hb' := hbs w' n cap (by omega)
   cases hq : P.info? e with
   | none => simp [hq] at hs
   | some inf =>
    have hsz : inf.size = cl.sz := by simpa [hq] using hs
    simp [execOp, hz, Instr.sliceAt, Instr.slice, run_underlying ht, hb', sizeOf, typeInfo, hq, hsub, hsz, Addr.add_lit]
  refine ⟨_, ?_, fun w' _ => hget w'⟩
  by_cases h0 : (h - l).toNat = 0
  ·rw [h0]; exact .ro0 _ _ _ _ _
  ·have hne : ¬ m.toNat = l.toNat := by omega
   rw [if_neg hne]
   refine .ro _ _ _ _ _ _ _ (fun d j => val (l.toNat + d) j) hS (by omega) (fun d j hd hj => ?_) (fun d j hd hj => ?_) (fun d j hd hj => ?_)
   ·have := hc (l.toNat + d) j (by omega) hj
    rw [Nat.add_mul, ← Nat.add_assoc] at this
    exact this
   ·have := hv (l.toNat + d) j (by omega) hj
    rw [← Nat.add_assoc] at this
    exact this
   ·exact h1' (l.toNat + d) j (by omega) hj
end
end Go.Ax
namespace Go.Ax
variable [Pins]
open Go.RowKit
section
variable {ind : Bool} {P : Program} {fn : Func} {c : Ctx} {fr : Fr} {H : zN} {k : List It}
variable {d : Option Nat} {ty : TypeId} {pos : String} {after : Array Edge} {g : Option (Nat × Bool)}
end
theorem AEq_agg {l l' : List AV} (h : AEqs l l') : AEq (.agg l) (.agg l') := by
 intro w S σ v hv
 have hl := h.length
 cases hv with
 | agg _ _ vs h1 h2 h3 => exact .agg _ _ _ (h1.trans hl) (fun i hi => h.get i (by omega) _ _ _ _ (h2 i (by omega))) (fun i hi => h3 i (by omega))
end Go.Ax
namespace Go.Ax
variable [Pins]
open Go.RowKit
theorem px_gb {P : Program} {fn : Func} {c : Ctx} {H : zN} {all : Array Oper} {K0 : Fr} {i : Nat} {r : List Nat} {st : Go.Ax.Steps} {G : Go.Ax.Steps → Prop} {d : Nat} {t e : TypeId} {n : Nat} {parts : List (Nat × Operand)} {ty : TypeId} {pos : String} {after : Array Edge} {it : TypeInfo} {z : Value} {zs L : List AV} {l : List (Nat × AV)} {cl : Cells} {K : Fr} {j u : Nat} {p : Bool}
 (hi : all[i]? = some ⟨some d, .buildSlice t n parts.toArray, ty, pos, after, some (j, p)⟩) (hK : zFy st K0 ⟨some d, .buildSlice t n parts.toArray, ty, pos, after, some (j, p)⟩ = K) (hy : zEe all j = some u) (hb : look u K = some (.bool p))
 (ht : P.underlying t = some (.slice e)) (hinf : P.info? e = some it) (hz : it.zero = some z) (hzs : zav z = some zs) (hsz : it.size = zs.length) (hpos : Nat.blt 0 zs.length = true) (hsmall : Nat.ble (n * zs.length) 16777216 = true)
 (hl : zCq K parts = some l) (hf : zFu (fun i => some (i * zs.length, zs.length)) (zDP zs n) l = some L) (hcl : zBt n zs.length L = cl) (hn : noRef.noRefs L = true)
 (h : zEF P fn c H all K0 r ((i, d, .ro cl 0 n) :: st) G) : zEF P fn c H all K0 (i :: r) st G :=
 ⟨_, _, _, hi, rfl, hK ▸ zJN hy hb (fun k fr hk h2 => zf ht hinf hz hzs hsz hpos hsmall (zFg hk hl) hf hcl hn h2), h⟩
end Go.Ax
namespace Go.Proofs.YtkncmbklkhjmgaaGreatDoor
open Go.Ax
/-- What the walks of this seat know of the listed variables. -/
def pinG (w : World) : Prop := True
 ∧ Lib.TabIs Tryz.prog w "internal/strconv.uint64pow10" .u64 Lib.pow10Tab
 ∧ (∃ tp p, w.var? Tryz.prog "strconv.ErrSyntax" = some #[.iface tp p]) ∧ (∃ tp p, w.var? Tryz.prog "strconv.ErrRange" = some #[.iface tp p])
 ∧ True
instance : Pins := ⟨fun w _ => pinG w⟩
theorem zJZ {n : String} {w w' : World} (h : ∀ b, b < w.heap.size → w'.heap[b]? = w.heap[b]?) {cs : Array Value} (hv : w.var? Tryz.prog n = some cs) : w'.var? Tryz.prog n = some cs := by
 unfold World.var? at hv ⊢
 cases hg : Tryz.prog.globalNamed n with
 | none => simp [hg] at hv
 | some g =>
  simp only [hg, Option.bind_some] at hv ⊢
  have hlt : g < w.heap.size := by
   rcases Nat.lt_or_ge g w.heap.size with q | q
   ·exact q
   ·have : w.heap[g]? = none := by simp [q]
    simp [this] at hv
  rw [h g hlt]; exact hv
theorem pin_up {W : World} {S : Nat → Prop} (h : pinG W) : zE0 W S (fun _ => none) [] := by
 intro w' S' _ _ hb
 have hb' : ∀ b, b < W.heap.size → w'.heap[b]? = W.heap[b]? := fun b hl => hb b hl (by rintro ⟨h, o, s, C, h1, _⟩; simp at h1)
 show pinG w'
 unfold pinG at h ⊢
 obtain ⟨_, h⟩ := h
 obtain ⟨h1, h⟩ := h
 obtain ⟨⟨t1, p1, e1⟩, ⟨t2, p2, e2⟩, h⟩ := h
 refine ⟨trivial, ?_⟩
 refine ⟨zJZ hb' h1, ?_⟩
 refine ⟨⟨t1, p1, zJZ hb' e1⟩, ⟨t2, p2, zJZ hb' e2⟩, ?_⟩
 trivial
end Go.Proofs.YtkncmbklkhjmgaaGreatDoor
namespace Go.Proofs.YtkncmbklkhjmgaaGreatDoor
open Go.Ax Go.Ax.Bg Go.RowKit
attribute [local irreducible] Ax zBn QOp zQ
theorem norm_raw (l : List Int) (hl : Lim l) (hlen : l.length ≤ 1000000000) : zU Tryz.prog 223 [.ro (.ints .u32 l) 0 l.length] (.ro (.ints .u32 l) 0 (zS (ze l)).length) := by
 refine zQ.value0 (zE (P := Tryz.prog) (fn := Tryz.f223) Z Z (by kernel_rfl) Z (fun c hR hfix => ?_)) (fix := fun _ => False) (fun _ h => h) Z Z
 refine rn1 ?_
 refine zZ (ι := Nat) (fun k => [(0, .ro (.ints .u32 l) 0 k)]) (fun _ => []) (fun k => k ≤ l.length ∧ ∀ i, k ≤ i → i < l.length → l.getD i 0 = 0) (fun k => k) l.length ⟨⟨Z, trivial⟩, Z, Nat.le_refl _, fun i h1 h2 => by omega⟩ ?_
 rintro k ⟨hk, hz⟩
 have fin : (k = 0 ∨ l.getD (k - 1) 0 ≠ 0) → (zS (ze l)).length = k := fun h => by
  rw [← zRL hl hk hz h, List.length_take, Nat.min_eq_left hk]
 refine rn6 ?_
 refine zAi Z Z (fun h0 => ?_) (fun h0 => ?_)
 ·have hk1 : 0 < k := by omega
  have e1 : ((k : Int) - 1).toNat = k - 1 := by omega
  refine zF6 ?_
  refine zA Z (fun h1 => ?_) (fun h1 => ?_)
  ·rw [e1] at h1
   refine rn19 ?_
   refine zJ ⟨k - 1, ⟨by omega, fun i h2 h3 => ?_⟩, by omega, ⟨?_, trivial⟩, Z⟩
   ·by_cases h4 : i = k - 1
    ·subst h4; exact h1
    ·exact hz i (by omega) h3
   ·show some (AV.ro (.ints .u32 l) (0 + 0) _) = _
    congr 2
    omega
  ·rw [e1] at h1
   refine rn5 ?_
   exact zL hR Z (by rw [fin (.inr h1)]; rfl)
 ·refine rn6 ?_
  exact zL hR Z (by rw [fin (.inl (by omega))]; rfl)
theorem zEC (l : List Int) (hl : Lim l) (hlen : l.length ≤ 1000000000) : zU Tryz.prog 223 [zGP l] (zh (ze l)) := by
 refine zU.res (norm_raw l hl hlen) ?_
 exact AEq.lim (zRt hl) (zAe (zAt hl))
theorem zHB (m : Nat) (hm : m < 18446744073709551616) : zU Tryz.prog 227 [.int .u64 (m : Nat)] (zh m) := by
 have hc := zEC [((m % 4294967296 : Nat) : Int), ((m / 2 ^ 32 % 4294967296 : Nat) : Int)] (by
  rw [Lim.cons]; exact ⟨zEB m, Lim.one (zEB _)⟩) (by simp)
 have hv : ze [((m % 4294967296 : Nat) : Int), ((m / 2 ^ 32 % 4294967296 : Nat) : Int)] = m := by
  simp only [ze, Int.toNat_natCast]
  unfold B
  omega
 rw [hv] at hc
 refine zQ.value0 (zE (P := Tryz.prog) (fn := Tryz.f227) Z Z (by kernel_rfl) Z (fun c hR hfix => ?_)) (fix := fun _ => False) (fun _ h => h) Z Z
 refine rn0 ?_
 refine zG (zGT (m := m) Z Z Z zFI) ?_
 repeat (refine zG (zK rfl) ?_)
 refine zG (zGU (m := m) (s := 32) Z Z Z) ?_
 refine zG (zGT Z Z Z zFI) ?_
 repeat (refine zf rfl rfl rfl rfl rfl rfl rfl rfl rfl rfl rfl ?_)
 refine zB Z Z Z hc ?_
 refine rn0 ?_
 exact zL hR Z Z
theorem zMi {a b c : Nat} (ha : a < 4294967296) (hb : b < 4294967296) (hc : c < 4294967296) : a * b < 18446744073709551616 ∧ c + a * b < 18446744073709551616 := by
 have : a * b ≤ 4294967295 * 4294967295 := Nat.mul_le_mul (by omega) (by omega)
 omega
theorem zRJ (n : List Int) (x y : Nat) (hn : Lim n) (hlen : n.length ≤ 100000000) (hx : x < 4294967296) (hy : y < 4294967296) :
 zU Tryz.prog 162 [zGP n, .int .u32 (x : Nat), .int .u32 (y : Nat)] (zh (ze n * x + y)) := by
 refine zQ.value0 (zE (P := Tryz.prog) (fn := Tryz.f162) Z Z (by kernel_rfl) Z (fun c hR hfix => ?_)) (fix := fun _ => False) (fun _ h => h) Z Z
 refine rn3 ?_
 refine zCz Z Z Z Z Z Z Z Z (by show (0 : Int) ≤ 0 ∧ _ ≤ _ ∧ (4 : Int) * _ ≤ _ ∧ _; omega) ?_
 refine rn0 ?_
 refine zG (zAT (m := y) Z Z Z zBW (by omega)) ?_
 refine zMP 0 (.ints .u32 []) Z ⟨Nat.zero_le _, Z, fun i j hi _ => absurd hi (Nat.not_lt_zero _)⟩ ?_
 refine rn3 ?_
 refine zZ (ι := Nat × List Int × Nat) (fun p => [(0, zGP n), (1, .int .u32 (x : Nat)), (7, .sl 0 0 p.1), (8, .int .u64 (p.2.2 : Nat)), (17, zGP n), (18, iN n.length), (19, iN p.1)]) (fun p => [some ⟨223, .ints .u32 p.2.1⟩])
  (fun p => p.1 ≤ n.length ∧ p.2.1.length = p.1 ∧ Lim p.2.1 ∧ p.2.2 < 4294967296 ∧ ze p.2.1 + B ^ p.1 * p.2.2 = ze (n.take p.1) * x + y) (fun p => n.length - p.1) (0, [], y) ⟨⟨rfl, rfl, rfl, rfl, rfl, rfl, rfl, trivial⟩, rfl, Nat.zero_le _, rfl, Lim.nil, hy, by simp [ze]⟩ ?_
 rintro ⟨i, out, cr⟩ ⟨h1, h2, h3, h4, h5⟩
 simp only at *
 refine rn4 ?_
 refine zA Z (fun h6 => ?_) (fun h6 => ?_)
 ·have hil : i < n.length := by omega
  obtain ⟨d, hd, hdB⟩ := hn.nat i
  have hb := zMi (a := d) (b := x) (c := cr) hdB hx h4
  have hq : (cr + d * x) / 4294967296 < 4294967296 := by omega
  refine rn6 ?_
  refine zD 24 (.int .u32 (d : Nat)) Z (AEq.of_eq (by rw [hd])) ?_
  refine zG (zAT (m := d) Z Z Z zBW (by omega)) ?_
  repeat (refine zG (zK rfl) ?_)
  refine zG (zAT (m := x) Z Z Z zBW (by omega)) ?_
  refine zG (zJP Z Z zBW hb.1) ?_
  refine zG (zFk Z Z zBW hb.2) ?_
  refine rn0 ?_
  refine zG (zGT Z Z Z zFI) ?_
  repeat (refine zf rfl rfl rfl rfl rfl rfl rfl rfl rfl rfl rfl ?_)
  refine zo Z Z Z Z Z Z Z Z Z h2 Z Z (Nat.le_refl 1) Z (by show (i + 1) * 4 ≤ _ ∧ _; omega) (fun i j _ _ => rfl) (by rw [hfix]; exact fun h => h) ?_
  refine rn0 ?_
  refine zG (zGU (s := 32) Z Z Z) ?_
  refine rn5 ?_
  refine zJ ⟨(i + 1, out ++ [(((cr + d * x) % 4294967296 : Nat) : Int)], (cr + d * x) / 4294967296), ⟨by simp only; omega, by simp [h2], Lim.append.2 ⟨h3, Lim.one (zEB _)⟩, hq, ?_⟩, by simp only; omega, ⟨Z, Z, Z, Z, Z, Z, Z, trivial⟩, Z⟩
  have := zIA h2 h5 (c := cr + d * x) (d := d * x) rfl
  rw [zx n i, hd, Int.toNat_natCast, Nat.add_mul, Nat.mul_assoc]
  simp only at this ⊢
  rw [this]
  omega
 ·have hie : i = n.length := by omega
  subst hie
  rw [List.take_length] at h5
  refine rn5 ?_
  refine zG (zGT (m := cr) Z Z Z zFI) ?_
  repeat (refine zf rfl rfl rfl rfl rfl rfl rfl rfl rfl rfl rfl ?_)
  refine zo Z Z Z Z Z Z Z Z Z h2 Z Z (Nat.le_refl 1) Z (by show (n.length + 1) * 4 ≤ _ ∧ _; omega) (fun i j _ _ => rfl) (by rw [hfix]; exact fun h => h) ?_
  have hl : Lim (out ++ [((cr % 4294967296 : Nat) : Int)]) := Lim.append.2 ⟨h3, Lim.one (zEB _)⟩
  have hc := zEC _ hl (by simp; omega)
  have hv : ze (out ++ [((cr % 4294967296 : Nat) : Int)]) = ze n * x + y := by
   rw [zD6, h2, Int.toNat_natCast, Nat.mod_eq_of_lt h4]; exact h5
  rw [hv] at hc
  refine zDN 0 42 (n.length + 1) [] Z zAs Z (by show _ ≤ (out ++ [((cr % 4294967296 : Nat) : Int)]).length; simp; omega) trivial ?_
  refine zB Z Z (by show [AV.ro _ 0 (n.length + 1)] ++ [] = [zGP (out ++ [((cr % 4294967296 : Nat) : Int)])]; simp only [zGP, List.length_append, h2]; rfl) hc ?_
  refine rn0 ?_
  exact zL hR Z Z
theorem isNaNi (n : Int) : zU Tryz.prog 286 [.int .i64 n] (.bool false) := by
 refine zQ.value0 (zE (P := Tryz.prog) (fn := Tryz.f286) Z Z (by kernel_rfl) Z (fun c hR hfix => ?_)) (fix := fun _ => False) (fun _ h => h) Z Z
 refine rn3 ?_
 refine zL hR Z ?_
 simp [zBw]
theorem isNaNu (n : Int) : zU Tryz.prog 287 [.int .u32 n] (.bool false) := by
 refine zQ.value0 (zE (P := Tryz.prog) (fn := Tryz.f287) Z Z (by kernel_rfl) Z (fun c hR hfix => ?_)) (fix := fun _ => False) (fun _ h => h) Z Z
 refine rn3 ?_
 refine zL hR Z ?_
 simp [zBw]
theorem cmpi (x y : Int) : zU Tryz.prog 272 [.int .i64 x, .int .i64 y] (.int .i64 (zEH x y)) := by
 refine zQ.value0 (zE (P := Tryz.prog) (fn := Tryz.f272) Z Z (by kernel_rfl) Z (fun c hR hfix => ?_)) (fix := fun _ => False) (fun _ h => h) Z Z
 refine rn0 ?_
 refine zB Z Z Z (isNaNi x) ?_
 refine rn0 ?_
 refine zB Z Z Z (isNaNi y) ?_
 refine rn4 ?_
 refine zA Z (fun h => ?_) (fun h => ?_)
 ·refine rn2 ?_
  refine zL hR Z ?_
  unfold zEH; rw [if_pos h]; rfl
 ·refine rn6 ?_
  refine zA Z (fun h2 => ?_) (fun h2 => ?_)
  ·refine rn2 ?_
   refine zL hR Z ?_
   unfold zEH; rw [if_neg h, if_pos h2]; rfl
  ·refine rn1 ?_
   refine zL hR Z ?_
   unfold zEH; rw [if_neg h, if_neg h2]; rfl
theorem cmpu (x y : Int) : zU Tryz.prog 273 [.int .u32 x, .int .u32 y] (.int .i64 (zEH x y)) := by
 refine zQ.value0 (zE (P := Tryz.prog) (fn := Tryz.f273) Z Z (by kernel_rfl) Z (fun c hR hfix => ?_)) (fix := fun _ => False) (fun _ h => h) Z Z
 refine rn0 ?_
 refine zB Z Z Z (isNaNu x) ?_
 refine rn0 ?_
 refine zB Z Z Z (isNaNu y) ?_
 refine rn4 ?_
 refine zA Z (fun h => ?_) (fun h => ?_)
 ·refine rn2 ?_
  refine zL hR Z ?_
  unfold zEH; rw [if_pos h]; rfl
 ·refine rn6 ?_
  refine zA Z (fun h2 => ?_) (fun h2 => ?_)
  ·refine rn2 ?_
   refine zL hR Z ?_
   unfold zEH; rw [if_neg h, if_pos h2]; rfl
  ·refine rn1 ?_
   refine zL hR Z ?_
   unfold zEH; rw [if_neg h, if_neg h2]; rfl
theorem zMT (a b : Nat) (ha : (zS a).length ≤ 1000000000) (hb : (zS b).length ≤ 1000000000) : zU Tryz.prog 224 [zh a, zh b] (.int .i64 (zEH a b)) := by
 have c1 := cmpi (zS a).length (zS b).length
 refine zQ.value0 (zE (P := Tryz.prog) (fn := Tryz.f224) Z Z (by kernel_rfl) Z (fun c hR hfix => ?_)) (fix := fun _ => False) (fun _ h => h) Z Z
 have la := zAR a
 have lb := zAR b
 have e1 := cmp_len a b
 have e2 : ∀ i, i < (zS a).length → (zS a).length = (zS b).length → (∀ j, i < j → j < (zS a).length → (zS a).getD j 0 = (zS b).getD j 0) → (zS a).getD i 0 ≠ (zS b).getD i 0 → zEH a b = zEH ((zS a).getD i 0) ((zS b).getD i 0) := fun i hi hl hj hne => cmp_limb la lb hl hi hj hne
 have e3 : (zS a).length = (zS b).length → (∀ j, j < (zS a).length → (zS a).getD j 0 = (zS b).getD j 0) → zEH a b = 0 := cmp_same
 unfold zh
 generalize zS a = x at *
 generalize zS b = y at *
 generalize zEH (a : Int) (b : Int) = r at *
 refine rn3 ?_
 refine zA Z (fun h0 => ?_) (fun h0 => ?_)
 ·refine rn3 ?_
  refine zB Z Z Z c1 ?_
  refine rn2 ?_
  refine zL hR Z ?_
  rw [e1 (by omega)]; rfl
 ·have hl : x.length = y.length := by omega
  refine rn7 ?_
  refine zZ (ι := Nat) (fun k => [(0, .ro (.ints .u32 x) 0 x.length), (1, .ro (.ints .u32 y) 0 y.length), (5, .int .i64 ((k : Int) - 1))]) (fun _ => []) (fun k => k ≤ x.length ∧ ∀ j, k ≤ j → j < x.length → x.getD j 0 = y.getD j 0) (fun k => k) x.length ⟨⟨Z, Z, Z, trivial⟩, Z, Nat.le_refl _, fun j h1 h2 => by omega⟩ ?_
  rintro k ⟨hk, hz⟩
  refine rn7 ?_
  refine zA Z (fun h1 => ?_) (fun h1 => ?_)
  ·have ek : ((k : Int) - 1).toNat = k - 1 := by omega
   refine rn1 ?_
   refine zDw (by kernel_rfl) (by kernel_rfl) Z ?_
   refine rn6 ?_
   refine zA Z (fun h2 => ?_) (fun h2 => ?_)
   ·rw [ek] at h2
    have c2 := cmpu (x.getD (k - 1) 0) (y.getD (k - 1) 0)
    repeat (refine z7 ?_)
    refine zi (by kernel_rfl) ?_
    refine zV 0 Z (by kernel_rfl) (by kernel_rfl) (by kernel_rfl) Z (zK Z) Z ?_
    refine zV 1 Z (by kernel_rfl) (by kernel_rfl) (by kernel_rfl) Z (zK Z) Z ?_
    refine zV 2 Z (by kernel_rfl) (by kernel_rfl) (by kernel_rfl) Z (zAE Z Z Z Z (by first | (simp only [Nat.zero_add, Int.toNat_natCast, Int.toNat_zero]; exact Z) | exact Z) (by omega)) Z ?_
    refine zV 4 Z (by kernel_rfl) (by kernel_rfl) (by kernel_rfl) Z (zK Z) Z ?_
    refine zV 5 Z (by kernel_rfl) (by kernel_rfl) (by kernel_rfl) Z (zK Z) Z ?_
    refine zV 6 Z (by kernel_rfl) (by kernel_rfl) (by kernel_rfl) Z (zAE Z Z Z Z (by first | (simp only [Nat.zero_add, Int.toNat_natCast, Int.toNat_zero]; exact Z) | exact Z) (by omega)) Z ?_
    apply zDU [(35, .int .u32 (x.getD ((k : Int) - 1).toNat 0)), (39, .int .u32 (y.getD ((k : Int) - 1).toNat 0))]
    ·intro fin
     refine zF (is := [3, 7]) (by kernel_rfl) (by simp) Z ⟨fun o ho => ?_, fun o ho => ?_, trivial⟩
     all_goals (cases ho)
     ·refine rn6 ?_
      refine zF (is := [7]) (by kernel_rfl) (by simp) Z ⟨fun o ho => ?_, trivial⟩
      all_goals (cases ho)
      refine rn6 ?_
      exact fin _ ⟨Z, Z, trivial⟩
     ·refine rn6 ?_
      refine zF (is := [3]) (by kernel_rfl) (by simp) Z ⟨fun o ho => ?_, trivial⟩
      all_goals (cases ho)
      refine rn6 ?_
      exact fin _ ⟨Z, Z, trivial⟩
    refine zF (is := [8]) (by kernel_rfl) (by simp) Z ⟨fun o ho => ?_, trivial⟩
    all_goals (cases ho)
    skip
    refine zB Z Z Z (by rw [ek]; exact c2) ?_
    refine rn1 ?_
    refine zV 9 Z (by kernel_rfl) (by kernel_rfl) (by kernel_rfl) Z (zm Z) Z ?_
    refine zW (by kernel_rfl) ?_
    refine rn6 ?_
    refine zL hR Z ?_
    rw [e2 (k - 1) (by omega) hl (fun j h3 h4 => hz j (by omega) h4) h2]; rfl
   ·rw [ek] at h2
    refine rn7 ?_
    refine zJ ⟨k - 1, ⟨by omega, fun j h3 h4 => ?_⟩, by omega, ⟨Z, Z, ?_, trivial⟩, Z⟩
    ·by_cases h5 : j = k - 1
     ·subst h5; exact Classical.not_not.1 h2
     ·exact hz j (by omega) h4
    ·show some (AV.int .i64 _) = _
     congr 2
     omega
  ·refine rn5 ?_
   refine zL hR Z ?_
   rw [e3 hl (fun j h3 => hz j (by omega) h3)]; rfl
theorem zDZ {out : List Int} {m : Nat} (h : out.length = m) : [AV.ro (.ints .u32 out) 0 m] ++ [] = [zGP out] := by
 subst h; rfl
theorem add_ok (a b : Nat) (ha : (zS a).length ≤ 100000000) (hb : (zS b).length ≤ 100000000) : zU Tryz.prog 246 [zh a, zh b] (zh (a + b)) := by
 refine zQ.value0 (zE (P := Tryz.prog) (fn := Tryz.f246) Z Z (by kernel_rfl) Z (fun c hR hfix => ?_)) (fix := fun _ => False) (fun _ h => h) Z Z
 obtain ⟨p, q, hpq, hlen, hL⟩ : ∃ p q : Nat, p + q = a + b ∧ (zS q).length ≤ (zS p).length ∧ (((zS a).length < (zS b).length ∧ p = b ∧ q = a) ∨ (¬ (zS a).length < (zS b).length ∧ p = a ∧ q = b)) := by
  rcases Nat.lt_or_ge (zS a).length (zS b).length with h | h
  ·exact ⟨b, a, by omega, by omega, .inl ⟨h, Z, Z⟩⟩
  ·exact ⟨a, b, Z, h, .inr ⟨by omega, Z, Z⟩⟩
 have hpl : (zS p).length ≤ 100000000 := by rcases hL with ⟨_, rfl, rfl⟩ | ⟨_, rfl, rfl⟩ <;> assumption
 apply zAK (H := []) [(0, zh p), (1, zh q)]
 ·intro fin
  unfold zh at fin ⊢
  refine rn4 ?_
  refine zA Z (fun h0 => ?_) (fun h0 => ?_)
  ·have : p = b ∧ q = a := by
    rcases hL with h | h
    ·exact h.2
    ·exact absurd (by omega) h.1
   obtain ⟨rfl, rfl⟩ := this
   skip
   refine zg Z ?_
   refine zBc ?_
   exact fin _ ⟨Z, Z, trivial⟩
  ·have : p = a ∧ q = b := by
    rcases hL with h | h
    ·exact absurd (by omega) h0
    ·exact h.2
   obtain ⟨rfl, rfl⟩ := this
   refine zBc ?_
   exact fin _ ⟨Z, Z, trivial⟩
 have hx := zAR p
 have hy := zAR q
 have hv : ze (zS p) + ze (zS q) = a + b := by rw [z6, z6, hpq]
 unfold zh
 rw [← hv] at hR
 generalize zS p = x at *
 generalize zS q = y at *
 refine rn3 ?_
 refine zCz Z Z Z Z Z Z Z Z (by show (0 : Int) ≤ 0 ∧ _ ≤ _ ∧ (4 : Int) * _ ≤ _ ∧ _; omega) ?_
 refine rn3 ?_
 refine zIM 0 (.ints .u32 []) Z ⟨Nat.zero_le _, Z, fun i j hi _ => absurd hi (Nat.not_lt_zero _)⟩ ?_
 refine zZ (ι := Nat × List Int × Nat) (fun p => [(1, .ro (.ints .u32 y) 0 y.length), (5, .sl 0 0 p.1), (6, .int .u64 (p.2.2 : Nat)), (20, .ro (.ints .u32 x) 0 x.length), (21, iN x.length), (22, iN p.1)]) (fun p => [some ⟨223, .ints .u32 p.2.1⟩])
  (fun p => p.1 ≤ x.length ∧ p.2.1.length = p.1 ∧ Lim p.2.1 ∧ p.2.2 < 4294967296 ∧ ze p.2.1 + B ^ p.1 * p.2.2 = ze (x.take p.1) + ze (y.take p.1)) (fun p => x.length - p.1) (0, [], 0) ⟨⟨rfl, rfl, rfl, rfl, rfl, rfl, trivial⟩, rfl, Nat.zero_le _, rfl, Lim.nil, by decide, by simp [ze]⟩ ?_
 rintro ⟨i, out, cr⟩ ⟨h1, h2, h3, h4, h5⟩
 simp only at *
 refine rn4 ?_
 refine zA Z (fun h6 => ?_) (fun h6 => ?_)
 ·have hil : i < x.length := by omega
  obtain ⟨d, hd, hdB⟩ := hx.nat i
  obtain ⟨e, he, heB⟩ := hy.nat i
  refine rn6 ?_
  refine zD 28 (.int .u32 (d : Nat)) Z (AEq.of_eq (by rw [hd])) ?_
  refine zG (zAT (m := d) Z Z Z zBW (by omega)) ?_
  refine zG (zFk Z Z zBW (by omega)) ?_
  refine rn4 ?_
  apply zAK (H := [some ⟨223, .ints .u32 out⟩]) [(1, .ro (.ints .u32 y) 0 y.length), (5, .sl 0 0 i), (6, .int .u64 (cr + d + e : Nat)), (20, .ro (.ints .u32 x) 0 x.length), (21, iN x.length), (22, iN i)]
  ·intro fin
   refine zA Z (fun h7 => ?_) (fun h7 => ?_)
   ·refine rn6 ?_
    refine zD 39 (.int .u32 (e : Nat)) Z (AEq.of_eq (by rw [he])) ?_
    refine zG (zAT (m := e) Z Z Z zBW (by omega)) ?_
    refine zG (zFk Z Z zBW (by omega)) ?_
    refine zBc ?_
    exact fin _ ⟨Z, Z, Z, Z, Z, Z, trivial⟩
   ·have he0 : e = 0 := by
     have : y.getD i 0 = 0 := by simp [List.getD, List.getElem?_eq_none (show y.length ≤ i by omega)]
     omega
    subst he0
    refine zBc ?_
    exact fin _ ⟨Z, Z, Z, Z, Z, Z, trivial⟩
  refine rn0 ?_
  refine zG (zGT Z Z Z zFI) ?_
  repeat (refine zf rfl rfl rfl rfl rfl rfl rfl rfl rfl rfl rfl ?_)
  refine zo Z Z Z Z Z Z Z Z Z h2 Z Z (Nat.le_refl 1) Z (by show (i + 1) * 4 ≤ _ ∧ _; omega) (fun i j _ _ => rfl) (by rw [hfix]; exact fun h => h) ?_
  refine rn0 ?_
  refine zG (zGU (s := 32) Z Z Z) ?_
  refine rn5 ?_
  exact zJ ⟨(i + 1, out ++ [(((cr + d + e) % 4294967296 : Nat) : Int)], (cr + d + e) / 4294967296), ⟨by simp only; omega, by simp [h2], Lim.append.2 ⟨h3, Lim.one (zEB _)⟩, by simp only; omega, zM2 h2 h5 hd he⟩, by simp only; omega, ⟨Z, Z, Z, Z, Z, Z, trivial⟩, Z⟩
 ·have hie : i = x.length := by omega
  subst hie
  rw [List.take_length, List.take_of_length_le hlen] at h5
  refine rn5 ?_
  refine zG (zGT (m := cr) Z Z Z zFI) ?_
  repeat (refine zf rfl rfl rfl rfl rfl rfl rfl rfl rfl rfl rfl ?_)
  refine zo Z Z Z Z Z Z Z Z Z h2 Z Z (Nat.le_refl 1) Z (by show (x.length + 1) * 4 ≤ _ ∧ _; omega) (fun i j _ _ => rfl) (by rw [hfix]; exact fun h => h) ?_
  have hl : Lim (out ++ [((cr % 4294967296 : Nat) : Int)]) := Lim.append.2 ⟨h3, Lim.one (zEB _)⟩
  have hc := zEC _ hl (by simp; omega)
  have hv : ze (out ++ [((cr % 4294967296 : Nat) : Int)]) = ze x + ze y := by
   rw [zD6, h2, Int.toNat_natCast, Nat.mod_eq_of_lt h4]; exact h5
  rw [hv] at hc
  refine zDN 0 54 (x.length + 1) [] Z zAs Z (by show _ ≤ (out ++ [((cr % 4294967296 : Nat) : Int)]).length; simp; omega) trivial ?_
  refine zB Z Z (zDZ (by simp [h2])) hc ?_
  refine rn0 ?_
  exact zL hR Z Z
theorem sub_ok (a b : Nat) (hab : b ≤ a) (ha : (zS a).length ≤ 100000000) : zU Tryz.prog 247 [zh a, zh b] (zh (a - b)) := by
 refine zQ.value0 (zE (P := Tryz.prog) (fn := Tryz.f247) Z Z (by kernel_rfl) Z (fun c hR hfix => ?_)) (fix := fun _ => False) (fun _ h => h) Z Z
 have hx := zAR a
 have hy := zAR b
 have hlen : (zS b).length ≤ (zS a).length := zAe (by have := zAt hx; rw [z6] at this; omega)
 have hva : ze (zS a) = a := z6 a
 have hvb : ze (zS b) = b := z6 b
 have haB : a < B ^ (zS a).length := by have := zAt hx; rwa [z6] at this
 unfold zh
 generalize zS a = x at *
 generalize zS b = y at *
 refine rn3 ?_
 refine zCz Z Z Z Z Z Z Z Z (by show (0 : Int) ≤ 0 ∧ _ ≤ _ ∧ (4 : Int) * _ ≤ _ ∧ _; omega) ?_
 refine rn3 ?_
 refine zIM 0 (.ints .u32 []) Z ⟨Nat.zero_le _, Z, fun i j hi _ => absurd hi (Nat.not_lt_zero _)⟩ ?_
 refine zZ (ι := Nat × List Int × Nat) (fun p => [(1, .ro (.ints .u32 y) 0 y.length), (5, .sl 0 0 p.1), (6, iN p.2.2), (13, .ro (.ints .u32 x) 0 x.length), (14, iN x.length), (15, iN p.1)]) (fun p => [some ⟨223, .ints .u32 p.2.1⟩])
  (fun p => p.1 ≤ x.length ∧ p.2.1.length = p.1 ∧ Lim p.2.1 ∧ p.2.2 ≤ 1 ∧ ze p.2.1 + ze (y.take p.1) = ze (x.take p.1) + B ^ p.1 * p.2.2) (fun p => x.length - p.1) (0, [], 0) ⟨⟨rfl, rfl, rfl, rfl, rfl, rfl, trivial⟩, rfl, Nat.zero_le _, rfl, Lim.nil, by decide, by simp [ze]⟩ ?_
 rintro ⟨i, out, br⟩ ⟨h1, h2, h3, h4, h5⟩
 simp only at *
 refine rn4 ?_
 refine zA Z (fun h6 => ?_) (fun h6 => ?_)
 ·have hil : i < x.length := by omega
  obtain ⟨d, hd, hdB⟩ := hx.nat i
  obtain ⟨e, he, heB⟩ := hy.nat i
  refine rn6 ?_
  refine zD 20 (.int .u32 (d : Nat)) Z (AEq.of_eq (by rw [hd])) ?_
  refine zG (zF2 (m := d) Z Z Z (by omega)) ?_
  refine rn7 ?_
  apply zAK (H := [some ⟨223, .ints .u32 out⟩]) [(1, .ro (.ints .u32 y) 0 y.length), (5, .sl 0 0 i), (9, .int .i64 ((d : Int) - (br : Int) - (e : Int))), (13, .ro (.ints .u32 x) 0 x.length), (14, iN x.length), (15, iN i)]
  ·intro fin
   refine zA Z (fun h7 => ?_) (fun h7 => ?_)
   ·refine rn6 ?_
    refine zD 32 (.int .u32 (e : Nat)) Z (AEq.of_eq (by rw [he])) ?_
    refine zG (zF2 (m := e) Z Z Z (by omega)) ?_
    refine zBc ?_
    exact fin _ ⟨Z, Z, Z, Z, Z, Z, trivial⟩
   ·have he0 : e = 0 := by
     have : y.getD i 0 = 0 := by simp [List.getD, List.getElem?_eq_none (show y.length ≤ i by omega)]
     omega
    subst he0
    refine zBc ?_
    exact fin _ ⟨Z, Z, by show some (AV.int .i64 ((d : Int) - (br : Int))) = _; simp, Z, Z, Z, trivial⟩
  obtain ⟨yv, br', hyv, hbr, hyB⟩ : ∃ yv br' : Nat, yv + br + e = d + 4294967296 * br' ∧ br' ≤ 1 ∧ yv < 4294967296 := by
   rcases Nat.lt_or_ge d (br + e) with q | q
   ·exact ⟨d + 4294967296 - br - e, 1, by omega, by omega, by omega⟩
   ·exact ⟨d - br - e, 0, by omega, by omega, by omega⟩
  refine rn4 ?_
  apply zAK (H := [some ⟨223, .ints .u32 out⟩]) [(1, .ro (.ints .u32 y) 0 y.length), (5, .sl 0 0 i), (6, iN br'), (9, iN yv), (13, .ro (.ints .u32 x) 0 x.length), (14, iN x.length), (15, iN i)]
  ·intro fin
   refine zA Z (fun h7 => ?_) (fun h7 => ?_)
   ·have : br' = 1 := by omega
    skip
    refine zg Z ?_
    refine zBc ?_
    subst this
    exact fin _ ⟨Z, Z, Z, by show some (AV.int .i64 ((d : Int) - (br : Int) - (e : Int) + 4294967296)) = _; congr 2; omega, Z, Z, Z, trivial⟩
   ·have : br' = 0 := by omega
    subst this
    refine zBc ?_
    exact fin _ ⟨Z, Z, Z, by show some (AV.int .i64 ((d : Int) - (br : Int) - (e : Int))) = _; congr 2; omega, Z, Z, Z, trivial⟩
  refine rn0 ?_
  refine zG (zAT (m := yv) Z Z Z zFI hyB) ?_
  repeat (refine zf rfl rfl rfl rfl rfl rfl rfl rfl rfl rfl rfl ?_)
  refine zo Z Z Z Z Z Z Z Z Z h2 Z Z (Nat.le_refl 1) Z (by show (i + 1) * 4 ≤ _ ∧ _; omega) (fun i j _ _ => rfl) (by rw [hfix]; exact fun h => h) ?_
  refine rn5 ?_
  exact zJ ⟨(i + 1, out ++ [(yv : Int)], br'), ⟨by simp only; omega, by simp [h2], Lim.append.2 ⟨h3, Lim.one (by omega)⟩, hbr, zRp h2 h5 hd he hyv⟩, by simp only; omega, ⟨Z, Z, Z, Z, Z, Z, trivial⟩, Z⟩
 ·have hie : i = x.length := by omega
  subst hie
  rw [List.take_length, List.take_of_length_le hlen, hva, hvb] at h5
  have hc := zEC _ h3 (by omega)
  have hv : ze out = a - b := by
   have hob := zAt h3
   rw [h2] at hob
   have : br = 0 ∨ br = 1 := by omega
   rcases this with rfl | rfl
   ·rw [Nat.mul_zero] at h5; omega
   ·rw [Nat.mul_one] at h5; omega
  rw [hv] at hc
  refine rn5 ?_
  refine zDN 0 45 x.length [] Z zAs Z (by show _ ≤ out.length; omega) trivial ?_
  refine zB Z Z (zDZ h2) hc ?_
  refine rn0 ?_
  exact zL hR Z Z
theorem zJh (n : List Int) (x : Nat) (hn : Lim n) (hlen : n.length ≤ 100000000) (hx : 0 < x ∧ x < 4294967296) :
 zU Tryz.prog 226 [zGP n, .int .u32 (x : Nat)] (.tup [zh (ze n / x), .int .u32 (ze n % x : Nat)]) := by
 refine zQ.value0 (zE (P := Tryz.prog) (fn := Tryz.f226) Z Z (by kernel_rfl) Z (fun c hR hfix => ?_)) (fix := fun _ => False) (fun _ h => h) Z Z
 unfold zGP
 refine rn3 ?_
 refine zCz Z Z Z Z Z Z Z Z (by show (0 : Int) ≤ _ ∧ _ ≤ _ ∧ (4 : Int) * _ ≤ _ ∧ _; omega) ?_
 refine rn7 ?_
 refine zZ (ι := Nat × List Int × Nat) (fun p => [(0, .ro (.ints .u32 n) 0 n.length), (1, .int .u32 (x : Nat)), (6, .sl 0 0 n.length), (7, .int .u64 (p.2.2 : Nat)), (8, .int .i64 ((p.1 : Int) - 1))]) (fun p => [some ⟨223, .ints .u32 p.2.1⟩])
  (fun p => p.1 ≤ n.length ∧ p.2.1.length = n.length ∧ Lim p.2.1 ∧ p.2.2 < x ∧ ze (n.drop p.1) = x * ze (p.2.1.drop p.1) + p.2.2) (fun p => p.1) (n.length, List.replicate n.length 0, 0) ⟨⟨rfl, rfl, rfl, rfl, rfl, trivial⟩, rfl, Nat.le_refl _, by simp, Lim.zeros _, hx.1, by simp [ze]⟩ ?_
 rintro ⟨i, out, rs⟩ ⟨h1, h2, h3, h4, h5⟩
 simp only at *
 refine rn7 ?_
 refine zA Z (fun h6 => ?_) (fun h6 => ?_)
 ·obtain ⟨j, rfl⟩ : ∃ j, i = j + 1 := ⟨i - 1, by omega⟩
  obtain ⟨d, hd, hdB⟩ := hn.nat j
  have ej : (((j + 1 : Nat) : Int) - 1) = (j : Nat) := by omega
  have ejt : (((j + 1 : Nat) : Int) - 1).toNat = j := by omega
  have htop : rs * 4294967296 + d < x * 4294967296 := by
   have : (rs + 1) * 4294967296 ≤ x * 4294967296 := Nat.mul_le_mul_right _ h4
   omega
  have hq : (rs * 4294967296 + d) / x < 4294967296 := Nat.div_lt_of_lt_mul htop
  have hm : (rs * 4294967296 + d) % x < x := Nat.mod_lt _ hx.1
  have hdm := Nat.div_add_mod (rs * 4294967296 + d) x
  generalize hqe : (rs * 4294967296 + d) / x = q at *
  generalize hme : (rs * 4294967296 + d) % x = r at *
  refine rn1 ?_
  refine zG (zKj (m := rs) (s := 32) Z Z (by decide) zBW (zJT (by omega))) ?_
  refine rn6 ?_
  refine zD 24 (.int .u32 (d : Nat)) Z (AEq.of_eq (by rw [ejt, hd])) ?_
  refine zG (zAT (m := d) Z Z Z zBW (by omega)) ?_
  refine zG (QOp.res (zNy Z Z zBW Z (zJT (by omega)) (by omega)) (by rw [zPC hdB])) ?_
  refine rn0 ?_
  refine zG (zAT (m := x) Z Z Z zBW (by omega)) ?_
  refine zG (QOp.res (q_uquo Z Z zBW (by omega) hx.1) (by rw [hqe])) ?_
  refine zG (zAT (m := q) Z Z Z zFI hq) ?_
  refine zD 28 (iN j) Z (AEq.of_eq (by rw [ej])) ?_
  refine rn7 ?_
  refine zG (zAT (m := x) Z Z Z zBW (by omega)) ?_
  refine zG (QOp.res (q_urem Z Z hx.1) (by rw [hme])) ?_
  refine rn7 ?_
  refine zJ ⟨(j, out.set j (q : Int), r), ⟨by simp only; omega, by simp [h2], h3.set (by omega), hm, ?_⟩, by simp only; omega, ⟨Z, Z, Z, Z, ?_, trivial⟩, Z⟩
  rotate_left
  ·show some (AV.int .i64 _) = _
   congr 2
   omega
  simp only
  rw [zMX (by omega), zLB, hd, Int.toNat_natCast, h5]
  simp only [ze, Int.toNat_natCast]
  have e1 : x * (q + B * ze (out.drop (j + 1))) = x * q + B * (x * ze (out.drop (j + 1))) := by rw [Nat.mul_add, Nat.mul_left_comm]
  rw [e1, Nat.mul_add]
  generalize x * ze (out.drop (j + 1)) = w at *
  generalize x * q = w2 at *
  show d + (4294967296 * w + 4294967296 * rs) = w2 + 4294967296 * w + r
  omega
 ·have hie : i = 0 := by omega
  subst hie
  rw [List.drop_zero, List.drop_zero] at h5
  have hv : ze out = ze n / x ∧ rs = ze n % x := by
   rw [h5, Nat.mul_comm]
   constructor
   ·rw [Nat.add_comm, Nat.add_mul_div_right _ _ hx.1, Nat.div_eq_of_lt h4, Nat.zero_add]
   ·rw [Nat.add_comm, Nat.add_mul_mod_self_right, Nat.mod_eq_of_lt h4]
  have hc := zEC _ h3 (by omega)
  rw [hv.1] at hc
  obtain ⟨_, hv2⟩ := hv
  refine rn5 ?_
  refine zDN 0 39 n.length [(7, .int .u64 (rs : Nat))] Z zAs Z (by show _ ≤ out.length; omega) ⟨Z, trivial⟩ ?_
  refine zB Z Z (zDZ h2) hc ?_
  repeat (refine zG (zK rfl) ?_)
  refine zG (zAT (m := rs) Z Z Z zFI (by omega)) ?_
  refine rn0 ?_
  refine zL hR Z ?_
  rw [hv2]; rfl
theorem zMj (a b : Nat) (ha : (zS a).length ≤ 100000000) (hb : (zS b).length ≤ 100000000) : zU Tryz.prog 202 [zh a, zh b] (zh (a * b)) := by
 refine zQ.value0 (zE (P := Tryz.prog) (fn := Tryz.f202) Z Z (by kernel_rfl) Z (fun c hR hfix => ?_)) (fix := fun _ => False) (fun _ h => h) Z Z
 have hx := zAR a
 have hy := zAR b
 have hv : ze (zS a) * ze (zS b) = a * b := by rw [z6, z6]
 unfold zh
 rw [← hv] at hR
 generalize zS a = x at *
 generalize zS b = y at *
 refine rn3 ?_
 refine zCz Z Z Z Z Z Z Z Z (by show (0 : Int) ≤ _ ∧ _ ≤ _ ∧ (4 : Int) * _ ≤ _ ∧ _; omega) ?_
 rw [show ((x.length : Int) + (y.length : Int)).toNat = x.length + y.length by omega]
 refine rn3 ?_
 refine zZ (ι := Nat × List Int) (fun p => [(1, .ro (.ints .u32 y) 0 y.length), (5, .sl 0 0 (x.length + y.length)), (17, .ro (.ints .u32 x) 0 x.length), (18, .int .i64 (x.length : Nat)), (19, .int .i64 (p.1 : Nat))]) (fun p => [some ⟨223, .ints .u32 p.2⟩])
  (fun p => p.1 ≤ x.length ∧ p.2.length = x.length + y.length ∧ Lim p.2 ∧ ze p.2 = ze (x.take p.1) * ze y ∧ ∀ q, p.1 + y.length ≤ q → p.2.getD q 0 = 0) (fun p => x.length - p.1) (0, List.replicate (x.length + y.length) 0) ⟨⟨rfl, rfl, rfl, rfl, rfl, trivial⟩, rfl, Nat.zero_le _, by simp, Lim.zeros _, by simp [ze, zIF], fun q _ => zOT _ _⟩ ?_
 rintro ⟨i, out⟩ ⟨h1, h2, h3, h4, h5⟩
 simp only at *
 refine rn4 ?_
 refine zA Z (fun h6 => ?_) (fun h6 => ?_)
 ·have hil : i < x.length := by omega
  obtain ⟨d, hd, hdB⟩ := hx.nat i
  refine rn6 ?_
  refine z8 7 (.int .u32 (d : Nat)) Z (AEq.of_eq (by rw [hd])) ?_
  refine zZ (ι := Nat × List Int × Nat) (fun p => [(1, .ro (.ints .u32 y) 0 y.length), (5, .sl 0 0 (x.length + y.length)), (6, .int .i64 (i : Nat)), (7, .int .u32 (d : Nat)), (8, .int .u64 (p.2.2 : Nat)), (17, .ro (.ints .u32 x) 0 x.length), (18, .int .i64 (x.length : Nat)), (19, .int .i64 (i : Nat)), (24, .ro (.ints .u32 y) 0 y.length), (25, .int .i64 (y.length : Nat)), (26, .int .i64 (p.1 : Nat))]) (fun p => [some ⟨223, .ints .u32 p.2.1⟩])
   (fun p => p.1 ≤ y.length ∧ p.2.1.length = x.length + y.length ∧ Lim p.2.1 ∧ p.2.2 < 4294967296 ∧ ze p.2.1 + B ^ (i + p.1) * p.2.2 = ze (x.take i) * ze y + B ^ i * (d * ze (y.take p.1)) ∧ ∀ q, i + y.length ≤ q → p.2.1.getD q 0 = 0) (fun p => y.length - p.1) (0, out, 0) ⟨⟨rfl, rfl, rfl, rfl, rfl, rfl, rfl, rfl, rfl, rfl, rfl, trivial⟩, rfl, Nat.zero_le _, h2, h3, Nat.zero_lt_succ _, by simp [ze, h4], h5⟩ ?_
  rintro ⟨j, o2, cr⟩ ⟨k1, k2, k3, k4, k5, k6⟩
  simp only at *
  refine rn4 ?_
  refine zA Z (fun k7 => ?_) (fun k7 => ?_)
  ·have hjl : j < y.length := by omega
   obtain ⟨e, he, heB⟩ := hy.nat j
   obtain ⟨f, hf, hfB⟩ := k3.nat (i + j)
   have hb1 : d * e ≤ 4294967295 * 4294967295 := Nat.mul_le_mul (by omega) (by omega)
   refine rn6 ?_
   refine zG (zAT (m := d) Z Z Z zBW (by omega)) ?_
   repeat (refine zG (zK rfl) ?_)
   refine zD 34 (.int .u32 (e : Nat)) Z (AEq.of_eq (by rw [he])) ?_
   refine zG (zAT (m := e) Z Z Z zBW (by omega)) ?_
   refine zG (zJP Z Z zBW (by omega)) ?_
   refine rn3 ?_
   refine zD 40 (.int .i64 (i + j : Nat)) Z (AEq.of_eq (by rw [Int.natCast_add])) ?_
   refine rn7 ?_
   refine zD 42 (.int .u32 (f : Nat)) Z (AEq.of_eq (by rw [hf])) ?_
   refine zG (zAT (m := f) Z Z Z zBW (by omega)) ?_
   refine zG (zFk Z Z zBW (by omega)) ?_
   refine zG (zFk Z Z zBW (by omega)) ?_
   refine rn3 ?_
   refine zG (zGT Z Z Z zFI) ?_
   refine zD 49 (.int .i64 (i + j : Nat)) Z (AEq.of_eq (by rw [Int.natCast_add])) ?_
   refine rn7 ?_
   refine zG (zGU (s := 32) Z Z Z) ?_
   refine rn5 ?_
   refine zJ ⟨(j + 1, o2.set (i + j) (((cr + (d * e + f)) % 4294967296 : Nat) : Int), (cr + (d * e + f)) / 4294967296), ⟨by simp only; omega, by simp [k2], k3.set (zEB _), by simp only; omega, ?_, fun q hq => ?_⟩, by simp only; omega, ⟨Z, Z, Z, Z, Z, Z, Z, Z, Z, Z, Z, trivial⟩, Z⟩
   ·have := mul_step (cr := cr) (a := d) (b := e) (p := i + j) (by omega) k5 hf
    simp only
    rw [show i + (j + 1) = i + j + 1 from rfl, this, zx y j, he, Int.toNat_natCast, Nat.add_assoc]
    congr 1
    rw [Nat.mul_add, Nat.mul_add, Nat.pow_add]
    congr 1
    ac_rfl
   ·simp only
    rw [zDk (by omega)]; exact k6 q hq
  ·have hje : j = y.length := by omega
   subst hje
   rw [List.take_length] at k5
   have hz := k6 (i + y.length) (Nat.le_refl _)
   have hset := zLC (x := (cr : Int)) (show i + y.length < o2.length by omega)
   rw [hz, Int.toNat_natCast] at hset
   refine rn5 ?_
   refine zG (zAT (m := cr) Z Z Z zFI k4) ?_
   refine zD 60 (.int .i64 (i + y.length : Nat)) Z (AEq.of_eq (by rw [Int.natCast_add])) ?_
   refine rn7 ?_
   refine zJ ⟨(i + 1, o2.set (i + y.length) (cr : Int)), ⟨by simp only; omega, by simp [k2], k3.set (by omega), ?_, fun q hq => ?_⟩, by simp only; omega, ⟨Z, Z, Z, Z, Z, trivial⟩, Z⟩
   ·simp only
    rw [zx x i, hd, Int.toNat_natCast, Nat.add_mul, Nat.mul_assoc, ← k5]
    have : (0 : Int).toNat = 0 := rfl
    rw [this] at hset
    omega
   ·simp only at hq ⊢
    rw [zDk (by omega)]; exact k6 q (by omega)
 ·have hie : i = x.length := by omega
  subst hie
  rw [List.take_length] at h4
  have hc := zEC _ h3 (by omega)
  rw [h4] at hc
  refine rn5 ?_
  refine zDN 0 65 (x.length + y.length) [] Z zAs Z (by show _ ≤ out.length; omega) trivial ?_
  refine zB Z Z (zDZ h2) hc ?_
  refine rn0 ?_
  exact zL hR Z Z
/-- shift: limbs of one's own. -/
theorem zOF (n : List Int) (s : Nat) (hn : Lim n) (hlen : n.length ≤ 100000000) (hs : s < 32) :
 FCall Tryz.prog 228 [zGP n, .int .i64 (s : Nat)] (fun h => .sl h 0 (n.length + 1)) ⟨223, .ints .u32 (zB5 (n.length + 1) (ze n * 2 ^ s))⟩ := by
 refine zQ.fresh (K := fun r H => r = .sl 0 0 (n.length + 1) ∧ H = [some ⟨223, .ints .u32 (zB5 (n.length + 1) (ze n * 2 ^ s))⟩]) (zE (P := Tryz.prog) (fn := Tryz.f228) Z Z (by kernel_rfl) Z (fun c hR hfix => ?_)) (fix := fun _ => False) (fun _ h => h) Z (fun H => ⟨Z, trivial, trivial, trivial⟩) ?_
 ·have hp : 2 ^ s ≤ 2147483648 := by
   have := Nat.pow_le_pow_right (show 0 < 2 by decide) (show s ≤ 31 by omega)
   exact Nat.le_trans this (by decide)
  have hp1 : 0 < 2 ^ s := Nat.pow_pos (by decide)
  unfold zGP
  refine rn3 ?_
  refine zCz Z Z Z Z Z Z Z Z (by show (0 : Int) ≤ 0 ∧ _ ≤ _ ∧ (4 : Int) * _ ≤ _ ∧ _; omega) ?_
  refine rn3 ?_
  refine zIM 0 (.ints .u32 []) Z ⟨Nat.zero_le _, Z, fun i j hi _ => absurd hi (Nat.not_lt_zero _)⟩ ?_
  refine zZ (ι := Nat × List Int × Nat) (fun p => [(1, .int .i64 (s : Nat)), (5, .sl 0 0 p.1), (6, .int .u64 (p.2.2 : Nat)), (13, .ro (.ints .u32 n) 0 n.length), (14, .int .i64 (n.length : Nat)), (15, .int .i64 (p.1 : Nat))]) (fun p => [some ⟨223, .ints .u32 p.2.1⟩])
   (fun p => p.1 ≤ n.length ∧ p.2.1.length = p.1 ∧ Lim p.2.1 ∧ p.2.2 < 2 ^ s ∧ ze p.2.1 + B ^ p.1 * p.2.2 = ze (n.take p.1) * 2 ^ s) (fun p => n.length - p.1) (0, [], 0) ⟨⟨rfl, rfl, rfl, rfl, rfl, rfl, trivial⟩, rfl, Nat.zero_le _, rfl, Lim.nil, hp1, by simp [ze]⟩ ?_
  rintro ⟨i, out, cr⟩ ⟨h1, h2, h3, h4, h5⟩
  simp only at *
  refine rn4 ?_
  refine zA Z (fun h6 => ?_) (fun h6 => ?_)
  ·have hil : i < n.length := by omega
   obtain ⟨d, hd, hdB⟩ := hn.nat i
   have hor : cr ||| d * 2 ^ s = cr + d * 2 ^ s := by
    have := Nat.two_pow_add_eq_or_of_lt h4 d
    rw [Nat.or_comm, Nat.mul_comm d, ← this, Nat.add_comm]
   have hdm : d * 2 ^ s ≤ 4294967295 * 2147483648 := Nat.mul_le_mul (by omega) hp
   have hq : (cr + d * 2 ^ s) / 4294967296 < 2 ^ s := by
    refine Nat.div_lt_of_lt_mul ?_
    have : (d + 1) * 2 ^ s ≤ 4294967296 * 2 ^ s := Nat.mul_le_mul_right _ (by omega)
    rw [Nat.add_mul] at this
    omega
   refine rn6 ?_
   refine zD 20 (.int .u32 (d : Nat)) Z (AEq.of_eq (by rw [hd])) ?_
   refine zG (zAT (m := d) Z Z Z zBW (by omega)) ?_
   repeat (refine zG (zK rfl) ?_)
   refine zG (zKj (m := d) (s := s) Z Z (by show s ≤ 64; omega) zBW (by omega)) ?_
   refine zG (QOp.res (zNy Z Z zBW Z (by omega) (by omega)) (by rw [hor])) ?_
   refine rn0 ?_
   refine zG (zGT Z Z Z zFI) ?_
   repeat (refine zf rfl rfl rfl rfl rfl rfl rfl rfl rfl rfl rfl ?_)
   refine zo Z Z Z Z Z Z Z Z Z h2 Z Z (Nat.le_refl 1) Z (by show (i + 1) * 4 ≤ _ ∧ _; omega) (fun i j _ _ => rfl) (by rw [hfix]; exact fun h => h) ?_
   refine rn0 ?_
   refine zG (zGU (s := 32) Z Z Z) ?_
   refine rn5 ?_
   refine zJ ⟨(i + 1, out ++ [(((cr + d * 2 ^ s) % 4294967296 : Nat) : Int)], (cr + d * 2 ^ s) / 4294967296), ⟨by simp only; omega, by simp [h2], Lim.append.2 ⟨h3, Lim.one (zEB _)⟩, hq, ?_⟩, by simp only; omega, ⟨Z, Z, Z, Z, Z, Z, trivial⟩, Z⟩
   have := zIA h2 h5 (c := cr + d * 2 ^ s) (d := d * 2 ^ s) rfl
   simp only at this ⊢
   rw [this, zx n i, hd, Int.toNat_natCast, Nat.add_mul, Nat.mul_assoc]
  ·have hie : i = n.length := by omega
   subst hie
   rw [List.take_length] at h5
   refine rn5 ?_
   refine zG (zAT (m := cr) Z Z Z zFI (by omega)) ?_
   repeat (refine zf rfl rfl rfl rfl rfl rfl rfl rfl rfl rfl rfl ?_)
   refine zo Z Z Z Z Z Z Z Z Z h2 Z Z (Nat.le_refl 1) Z (by show (n.length + 1) * 4 ≤ _ ∧ _; omega) (fun i j _ _ => rfl) (by rw [hfix]; exact fun h => h) ?_
   have hl : Lim (out ++ [(cr : Int)]) := Lim.append.2 ⟨h3, Lim.one (by omega)⟩
   have hv : ze (out ++ [(cr : Int)]) = ze n * 2 ^ s := by
    rw [zD6, h2, Int.toNat_natCast]; exact h5
   have hfx := zHQ hl (k := n.length + 1) (by simp [h2]) hv
   refine rn0 ?_
   refine zL hR Z ⟨Z, ?_⟩
   show ([some ⟨223, .ints .u32 (out ++ [(cr : Int)])⟩] : zN) = _
   rw [hfx]
 ·rintro r H ⟨rfl, rfl⟩
  refine ⟨fun o ho => by simp at ho; subst ho; show 0 + (n.length + 1) ≤ (zB5 _ _).length; rw [zB6]; omega, zKl zAs, 0, rfl, fun k => rfl⟩
theorem digit_ok (A U C V : List Int) (j s : Nat) (Hr : zN) (hj : A.length = j) (hs : 2 ≤ s) (hl : U.length = s + 1) (hlv : V.length = s) (hU : Lim U) (hV : Lim V) (htop : 2147483648 ≤ V.getD (s - 1) 0) (hlt : ze U < 4294967296 * ze V)
 (hsz : (A ++ (U ++ C)).length ≤ 1000000000) :
 zQ Tryz.prog 229 [.sl 0 j (s + 1), zGP V] (some ⟨223, .ints .u32 (A ++ (U ++ C))⟩ :: Hr) (fun h => h < Hr.length + 1)
  (fun r H => r = .int .u32 (ze U / ze V : Nat) ∧ H = some ⟨223, .ints .u32 (A ++ (zB5 (s + 1) (ze U % ze V) ++ C))⟩ :: Hr) := by
 refine zE (P := Tryz.prog) (fn := Tryz.f229) Z Z (by kernel_rfl) Z (fun c hR hfix => ?_)
 have hsd := hlv
 obtain ⟨u0, h0, b0⟩ := hU.nat s
 obtain ⟨u1, h1, b1⟩ := hU.nat (s - 1)
 obtain ⟨u2, h2, b2⟩ := hU.nat (s - 2)
 obtain ⟨v1, k1, c1⟩ := hV.nat (s - 1)
 obtain ⟨v2, k2, c2⟩ := hV.nat (s - 2)
 have htop' : 2147483648 ≤ v1 := by omega
 have hest := fun g => est (g := g) hs hl hsd hU hV h0 h1 h2 k1 k2 htop' hlt
 have g0 := zG0 (C := C) hj (show s < U.length by omega)
 have g1 := zG0 (C := C) hj (show s - 1 < U.length by omega)
 have g2 := zG0 (C := C) hj (show s - 2 < U.length by omega)
 rw [h0] at g0; rw [h1] at g1; rw [h2] at g2
 have hlen : (A ++ (U ++ C)).length = j + (s + 1) + C.length := by simp [hj, hl]; omega
 have hv0 : 0 < ze V := by
  have := zx V (s - 1)
  rw [show s - 1 + 1 = V.length by omega, List.take_length, k1, Int.toNat_natCast] at this
  have h3 : B ^ (s - 1) * 1 ≤ B ^ (s - 1) * v1 := Nat.mul_le_mul_left _ (by omega)
  have := bpos (s - 1)
  omega
 unfold zGP
 rw [hsd]
 refine rn3 ?_
 refine zDw (by kernel_rfl) (by kernel_rfl) Z ?_
 refine rn7 ?_
 refine zD 20 (.int .u32 (u0 : Nat)) Z (AEq.of_eq (by rw [g0])) ?_
 refine zG (zAT (m := u0) Z Z Z zBW (by omega)) ?_
 refine zG (zKj (m := u0) (s := 32) Z Z (by decide) zBW (zJT b0)) ?_
 refine rn8 ?_
 refine zD 25 (.int .i64 (s - 1 : Nat)) Z (AEq.of_eq (by congr 1; omega)) ?_
 refine rn7 ?_
 refine zD 27 (.int .u32 (u1 : Nat)) Z (AEq.of_eq (by rw [g1])) ?_
 refine zG (zAT (m := u1) Z Z Z zBW (by omega)) ?_
 refine zG (QOp.res (zNy Z Z zBW Z (zJT b0) (by omega)) (by rw [zPC b1])) ?_
 have htb : u0 * 4294967296 + u1 < 18446744073709551616 := by omega
 obtain ⟨top, htp⟩ : ∃ top, u0 * 4294967296 + u1 = top := ⟨_, rfl⟩
 rw [htp] at hest htb ⊢
 refine rn7 ?_
 refine zD 33 (.int .i64 (s - 1 : Nat)) Z (AEq.of_eq (by congr 1; omega)) ?_
 refine rn6 ?_
 refine zD 35 (.int .u32 (v1 : Nat)) Z (AEq.of_eq (by rw [k1])) ?_
 refine zG (zAT (m := v1) Z Z Z zBW (by omega)) ?_
 refine zG (q_uquo Z Z zBW htb (by omega)) ?_
 obtain ⟨gs, hgs, hg1, hg2⟩ : ∃ gs : Nat, (if ((4294967295 : Int) < ((top / v1 : Nat) : Int)) then (4294967295 : Int) else ((top / v1 : Nat) : Int)) = (gs : Int) ∧ gs ≤ 4294967295 ∧ (gs = 4294967295 ∨ gs = top / v1) ∧ gs ≤ top / v1 := by
  generalize top / v1 = z
  by_cases hz : (4294967295 : Int) < (z : Int)
  ·exact ⟨4294967295, by rw [if_pos hz]; rfl, by omega, by omega, by omega⟩
  ·exact ⟨z, by rw [if_neg hz], by omega, by omega, by omega⟩
 obtain ⟨hg2, hg3⟩ := hg2
 have hgm : gs * v1 ≤ top := Nat.le_trans (Nat.mul_le_mul_right _ hg3) (Nat.div_mul_le_self top v1)
 have hb0 := zMi (a := gs) (b := v1) (c := 0) (by omega) c1 (by decide)
 refine zG (q_min Z Z) ?_
 refine zD 38 (.int .u64 (gs : Nat)) Z (AEq.of_eq (by rw [← hgs])) ?_
 refine rn7 ?_
 refine zD 43 (.int .i64 (s - 1 : Nat)) Z (AEq.of_eq (by congr 1; omega)) ?_
 refine rn6 ?_
 refine zD 45 (.int .u32 (v1 : Nat)) Z (AEq.of_eq (by rw [k1])) ?_
 refine zG (zAT (m := v1) Z Z Z zBW (by omega)) ?_
 refine zG (zJP Z Z zBW hb0.1) ?_
 refine zG (zPO Z Z zBW htb hgm) ?_
 refine rn1 ?_
 refine zZ (ι := Nat × Nat) (fun p => [(0, .sl 0 j (s + 1)), (1, .ro (.ints .u32 V) 0 s), (5, .int .i64 (s : Nat)), (7, .int .u64 (p.1 : Nat)), (8, .int .u64 (p.2 : Nat))]) (fun _ => some ⟨223, .ints .u32 (A ++ (U ++ C))⟩ :: Hr)
  (fun p => p.1 ≤ 4294967295 ∧ p.2 + p.1 * v1 = top ∧ ∀ g', g' ≤ 4294967295 → g' * (v1 * 4294967296 + v2) ≤ top * 4294967296 + u2 → g' ≤ p.1) (fun p => p.1) (gs, top - gs * v1) ⟨⟨rfl, rfl, rfl, rfl, rfl, trivial⟩, rfl, hg1, by simp only; omega, fun g' q1 q2 => ?_⟩ ?_
 ·have := guess_ge (by omega) b2 q2
  rcases hg2 with h | h
  ·show g' ≤ gs; omega
  ·show g' ≤ gs; rw [h]; exact this
 rintro ⟨g, r⟩ ⟨i1, i2, i3⟩
 simp only at *
 have htest := zO1 (B := 4294967296) (u2 := u2) (v2 := v2) i2 (by omega) c2
 have hbg := zMi (a := g) (b := v2) (c := 0) (by omega) c2 (by decide)
 apply zAK (H := some ⟨223, .ints .u32 (A ++ (U ++ C))⟩ :: Hr) [(0, .sl 0 j (s + 1)), (1, .ro (.ints .u32 V) 0 s), (5, .int .i64 (s : Nat)), (7, .int .u64 (g : Nat)), (8, .int .u64 (r : Nat)), (70, .bool (decide (r < 4294967296 ∧ r * 4294967296 + u2 < g * v2)))]
 ·intro fin
  repeat (refine z7 ?_)
  refine zDw (by kernel_rfl) (by kernel_rfl) Z ?_
  repeat (first | refine zG (zK rfl) ?_ | refine zG (zEd rfl rfl) ?_)
  refine zAi Z Z (fun q0 => ?_) (fun q0 => ?_)
  ·have q0' : r < 4294967296 := by omega
   refine rn8 ?_
   refine zD 55 (.int .i64 (s - 2 : Nat)) Z (AEq.of_eq (by congr 1; omega)) ?_
   refine rn6 ?_
   refine zD 57 (.int .u32 (v2 : Nat)) Z (AEq.of_eq (by rw [k2])) ?_
   refine zG (zAT (m := v2) Z Z Z zBW (by omega)) ?_
   refine zBK Z Z ?_
   refine zG (zJP Z Z zBW hbg.1) ?_
   refine rn2 ?_
   refine zG (zKj (m := r) (s := 32) Z Z (by decide) zBW (zJT q0')) ?_
   refine rn8 ?_
   refine zD 64 (.int .i64 (s - 2 : Nat)) Z (AEq.of_eq (by congr 1; omega)) ?_
   refine zDt ?_
   refine zD 66 (.int .u32 (u2 : Nat)) Z (AEq.of_eq (by rw [g2])) ?_
   refine zG (zAT (m := u2) Z Z Z zBW (by omega)) ?_
   refine zBK Z Z ?_
   refine zG (QOp.res (zNy Z Z zBW Z (zJT q0') (by omega)) (by rw [zPC b2])) ?_
   refine zF6 ?_
   refine fin _ ⟨Z, Z, Z, Z, Z, ?_, trivial⟩
   show some (AV.bool (decide (((r * 4294967296 + u2 : Nat) : Int) < ((g * v2 : Nat) : Int)))) = _
   congr 2
   rw [decide_eq_decide]
   constructor
   ·intro h; exact ⟨q0', by omega⟩
   ·intro h; exact Int.ofNat_lt.2 h.2
  ·refine zF6 ?_
   refine fin _ ⟨Z, Z, Z, Z, Z, ?_, trivial⟩
   show some (AV.bool false) = _
   rw [decide_eq_false]
   intro h
   exact q0 (by omega)
 refine zA Z (fun q0 => ?_) (fun q0 => ?_)
 ·have q1 := htest.1 q0
  have hg0 : 0 < g := by
   rcases Nat.eq_zero_or_pos g with z | z
   ·subst z; rw [Nat.zero_mul] at q1; omega
   ·exact z
  obtain ⟨g, rfl⟩ : ∃ m, g = m + 1 := ⟨g - 1, by omega⟩
  rw [Nat.add_mul, Nat.one_mul] at i2
  refine rn1 ?_
  refine zG (zPO (m := g + 1) (n := 1) Z Z zBW (by omega) (by omega)) ?_
  refine rn7 ?_
  refine zD 74 (.int .i64 (s - 1 : Nat)) Z (AEq.of_eq (by congr 1; omega)) ?_
  refine rn6 ?_
  refine zD 76 (.int .u32 (v1 : Nat)) Z (AEq.of_eq (by rw [k1])) ?_
  refine zG (zAT (m := v1) Z Z Z zBW (by omega)) ?_
  refine zG (zFk Z Z zBW (by omega)) ?_
  refine rn0 ?_
  refine zJ ⟨(g, r + v1), ⟨by simp only; omega, by simp only; omega, fun g' z1 z2 => ?_⟩, by simp only; omega, ⟨Z, Z, Z, Z, Z, trivial⟩, Z⟩
  have z3 := i3 g' z1 z2
  show g' ≤ g
  rcases Nat.lt_or_ge g g' with z | z
  ·exfalso
   have : g' = g + 1 := by omega
   subst this
   omega
  ·exact z
 ·have q1 : g * (v1 * 4294967296 + v2) ≤ top * 4294967296 + u2 := by
   rcases Nat.lt_or_ge (top * 4294967296 + u2) (g * (v1 * 4294967296 + v2)) with z | z
   ·exact absurd (htest.2 z) q0
   ·exact z
  obtain ⟨e1, e2⟩ := hest g i1 q1 i3
  clear hest htest i3 q0
  have hmB : ze U % ze V < B ^ (s + 1) := Nat.lt_of_le_of_lt (Nat.mod_le _ _) (by have := zAt hU; rwa [hl] at this)
  have hdone := fun (w b : Nat) (hw : w < B ^ (s + 1)) => zOm (u := ze U) (v := ze V) (g := g) (w := w) (n := s + 1) (b := b) hw (by have := zAt hV; rw [hsd] at this; exact Nat.lt_of_lt_of_le this (Nat.pow_le_pow_right (by decide) (by omega))) (by have := zAt hU; rwa [hl] at this)
  generalize ze U / ze V = q at *
  generalize hme : ze U % ze V = m at *
  refine rn5 ?_
  have hAl : ∀ W : List Int, W.length = s + 1 → ∀ i, i < s + 1 → i + j < (A ++ (W ++ C)).length := fun W hW i hi => by simp [hj, hW]; omega
  refine zZ (ι := Nat × List Int × Nat × Nat) (fun p => [(0, .sl 0 j (s + 1)), (1, .ro (.ints .u32 V) 0 s), (5, .int .i64 (s : Nat)), (7, .int .u64 (g : Nat)), (9, .int .u64 (p.2.2.1 : Nat)), (10, .int .i64 (p.2.2.2 : Nat)), (82, .int .i64 (s + 1 : Nat)), (83, .int .i64 (p.1 : Nat))]) (fun p => some ⟨223, .ints .u32 (A ++ (p.2.1 ++ C))⟩ :: Hr)
   (fun p => p.1 ≤ s + 1 ∧ p.2.1.length = s + 1 ∧ Lim p.2.1 ∧ (∀ x, p.1 ≤ x → p.2.1.getD x 0 = U.getD x 0) ∧ p.2.2.1 < 4294967296 ∧ p.2.2.2 ≤ 1 ∧ (p.1 = s + 1 → p.2.2.1 = 0) ∧ ze (p.2.1.take p.1) + g * ze (V.take p.1) = ze (U.take p.1) + B ^ p.1 * (p.2.2.1 + p.2.2.2)) (fun p => s + 1 - p.1) (0, U, 0, 0)
   ⟨⟨rfl, rfl, rfl, rfl, rfl, rfl, rfl, rfl, trivial⟩, rfl, Nat.zero_le _, hl, hU, fun _ _ => rfl, Nat.zero_lt_succ _, Nat.zero_le _, fun _ => rfl, by simp [ze]⟩ ?_
  rintro ⟨i, Uc, cr, br⟩ ⟨w1, w2, w3, w4, w5, w6, w7, w8⟩
  simp only at *
  refine rn4 ?_
  refine zA Z (fun w9 => ?_) (fun w9 => ?_)
  ·have his : i < s + 1 := by omega
   obtain ⟨ui, hui, hub⟩ := hU.nat i
   obtain ⟨vi, hvi, hvb⟩ := hV.nat i
   have hmb := zMi (a := g) (b := vi) (c := cr) (by omega) hvb w5
   have hsl := hAl Uc w2 i his
   have hcur := zG0 (C := C) hj (show i < Uc.length by omega)
   rw [w4 i (Nat.le_refl _), hui] at hcur
   have hlm : (cr + g * vi) % 4294967296 < 4294967296 := Nat.mod_lt _ (by decide)
   have hdb : (cr + g * vi) / 4294967296 < 4294967296 := by omega
   obtain ⟨yv, b', y1, y2, y3, y4, y5⟩ := zQq hub hlm w6
   have hstep := zOn (g := g) (cr := cr) (yv := yv) (b' := b') (show i < Uc.length by omega) w8 hui hvi y1
   have hlast : i + 1 = s + 1 → (cr + g * vi) / 4294967296 = 0 := fun h => by
    have : V.getD i 0 = 0 := by simp [List.getD, List.getElem?_eq_none (show V.length ≤ i by omega)]
    have : vi = 0 := by omega
    subst this
    rw [Nat.mul_zero, Nat.add_zero]
    exact Nat.div_eq_of_lt w5
   refine rn4 ?_
   apply zAK (H := some ⟨223, .ints .u32 (A ++ (Uc ++ C))⟩ :: Hr) [(0, .sl 0 j (s + 1)), (1, .ro (.ints .u32 V) 0 s), (5, .int .i64 (s : Nat)), (7, .int .u64 (g : Nat)), (9, .int .u64 (cr + g * vi : Nat)), (10, .int .i64 (br : Nat)), (11, .int .i64 (i : Nat)), (82, .int .i64 (s + 1 : Nat)), (83, .int .i64 (i : Nat))]
   ·intro fin
    refine zA Z (fun q0 => ?_) (fun q0 => ?_)
    ·refine rn6 ?_
     refine zD 94 (.int .u32 (vi : Nat)) Z (AEq.of_eq (by rw [hvi])) ?_
     refine zG (zAT (m := vi) Z Z Z zBW (by omega)) ?_
     refine zG (zJP Z Z zBW hmb.1) ?_
     refine zG (zFk Z Z zBW hmb.2) ?_
     refine zBc ?_
     exact fin _ ⟨Z, Z, Z, Z, Z, Z, Z, Z, Z, trivial⟩
    ·have hv0 : vi = 0 := by
      have : V.getD i 0 = 0 := by simp [List.getD, List.getElem?_eq_none (show V.length ≤ i by omega)]
      omega
     subst hv0
     refine zBc ?_
     exact fin _ ⟨Z, Z, Z, Z, Z, Z, Z, Z, Z, trivial⟩
   refine rn7 ?_
   refine zD 101 (.int .u32 (ui : Nat)) Z (AEq.of_eq (by rw [hcur])) ?_
   refine zG (zF2 (m := ui) Z Z Z (by omega)) ?_
   repeat (refine zG (zK rfl) ?_)
   refine zG (QOp.res (q_uand (n := 4294967295) Z Z zBW Z hmb.2 (by decide)) (by rw [and_low])) ?_
   obtain ⟨lo, hlo⟩ : ∃ lo, (cr + g * vi) % 4294967296 = lo := ⟨_, rfl⟩
   rw [hlo] at hlm y1 y4 y5 ⊢
   refine zG (zF2 (m := lo) Z Z Z (by omega)) ?_
   refine rn7 ?_
   refine zG (zGU (s := 32) Z Z Z) ?_
   refine rn4 ?_
   apply zAK (H := some ⟨223, .ints .u32 (A ++ (Uc ++ C))⟩ :: Hr) [(0, .sl 0 j (s + 1)), (1, .ro (.ints .u32 V) 0 s), (5, .int .i64 (s : Nat)), (7, .int .u64 (g : Nat)), (9, .int .u64 ((cr + g * vi) / 4294967296 : Nat)), (10, .int .i64 (b' : Nat)), (11, .int .i64 (i : Nat)), (12, .int .i64 (yv : Nat)), (82, .int .i64 (s + 1 : Nat)), (83, .int .i64 (i : Nat))]
   ·intro fin
    refine zA Z (fun q0 => ?_) (fun q0 => ?_)
    ·obtain ⟨z1, z2⟩ := y4 q0
     subst z1
     skip
     refine zg Z ?_
     refine zBc ?_
     exact fin _ ⟨Z, Z, Z, Z, Z, Z, Z, by rw [z2]; rfl, Z, Z, trivial⟩
    ·obtain ⟨z1, z2⟩ := y5 q0
     subst z1
     refine zBc ?_
     exact fin _ ⟨Z, Z, Z, Z, Z, Z, Z, by rw [z2]; rfl, Z, Z, trivial⟩
   refine rn0 ?_
   refine zG (zAT (m := yv) Z Z Z zFI y3) ?_
   have hset := zQb (x := (yv : Int)) (C := C) hj (show i < Uc.length by omega)
   refine rn7 ?_
   refine zJ ⟨(i + 1, Uc.set i (yv : Int), (cr + g * vi) / 4294967296, b'), ⟨by simp only; omega, by simp [w2], w3.set (by omega), fun x hx => ?_, hdb, y2, hlast, hstep⟩, by simp only; omega, ⟨Z, Z, Z, Z, Z, Z, Z, Z, trivial⟩, ?_⟩
   ·simp only at hx ⊢
    rw [zDk (by omega)]; exact w4 x (by omega)
   ·show some (⟨_, .ints .u32 ((A ++ (Uc ++ C)).set (j + i) (yv : Int))⟩ : AObj) :: Hr = _
    rw [hset]
  ·have hie : i = s + 1 := by omega
   subst hie
   have hcr := w7 rfl
   subst hcr
   rw [List.take_of_length_le (by omega), List.take_of_length_le (by omega), List.take_of_length_le (by omega), Nat.zero_add] at w8
   have hUcb := zAt w3
   rw [w2] at hUcb
   obtain ⟨d0, d1⟩ := hdone (ze Uc) br hUcb w6 w8 e1 e2 hv0
   refine rn5 ?_
   refine zA Z (fun q0 => ?_) (fun q0 => ?_)
   ·obtain ⟨z1, z2⟩ := d0 (by omega)
    subst z1
    have hfx := zHQ w3 w2 z2
    refine rn0 ?_
    refine zG (zAT (m := g) Z Z Z zFI (by omega)) ?_
    refine rn2 ?_
    refine zL hR Z ⟨Z, ?_⟩
    rw [hfx]
   ·obtain ⟨z1, z2⟩ := d1 (by omega)
    refine rn3 ?_
    refine zZ (ι := Nat × List Int × Nat) (fun p => [(0, .sl 0 j (s + 1)), (1, .ro (.ints .u32 V) 0 s), (5, .int .i64 (s : Nat)), (7, .int .u64 (g : Nat)), (13, .int .u64 (p.2.2 : Nat)), (126, .int .i64 (s + 1 : Nat)), (127, .int .i64 (p.1 : Nat))]) (fun p => some ⟨223, .ints .u32 (A ++ (p.2.1 ++ C))⟩ :: Hr)
     (fun p => p.1 ≤ s + 1 ∧ p.2.1.length = s + 1 ∧ Lim p.2.1 ∧ (∀ x, p.1 ≤ x → p.2.1.getD x 0 = Uc.getD x 0) ∧ p.2.2 < 4294967296 ∧ ze (p.2.1.take p.1) + B ^ p.1 * p.2.2 = ze (Uc.take p.1) + ze (V.take p.1)) (fun p => s + 1 - p.1) (0, Uc, 0)
     ⟨⟨rfl, rfl, rfl, rfl, rfl, rfl, rfl, trivial⟩, rfl, Nat.zero_le _, w2, w3, fun _ _ => rfl, Nat.zero_lt_succ _, by simp [ze]⟩ ?_
    rintro ⟨i, Ud, sm⟩ ⟨x1, x2, x3, x4, x5, x6⟩
    simp only at *
    refine rn4 ?_
    refine zA Z (fun x9 => ?_) (fun x9 => ?_)
    ·have his : i < s + 1 := by omega
     obtain ⟨ui, hui, hub⟩ := w3.nat i
     obtain ⟨vi, hvi, hvb⟩ := hV.nat i
     have hcur := zG0 (C := C) hj (show i < Ud.length by omega)
     rw [x4 i (Nat.le_refl _), hui] at hcur
     have hsl := hAl Ud x2 i his
     have hstep := zQo (sm := sm) (show i < Ud.length by omega) x6 hui hvi
     refine rn7 ?_
     refine zD 134 (.int .u32 (ui : Nat)) Z (AEq.of_eq (by rw [hcur])) ?_
     refine zG (zAT (m := ui) Z Z Z zBW (by omega)) ?_
     refine zG (zFk Z Z zBW (by omega)) ?_
     refine rn4 ?_
     apply zAK (H := some ⟨223, .ints .u32 (A ++ (Ud ++ C))⟩ :: Hr) [(0, .sl 0 j (s + 1)), (1, .ro (.ints .u32 V) 0 s), (5, .int .i64 (s : Nat)), (7, .int .u64 (g : Nat)), (13, .int .u64 (sm + ui + vi : Nat)), (14, .int .i64 (i : Nat)), (126, .int .i64 (s + 1 : Nat)), (127, .int .i64 (i : Nat))]
     ·intro fin
      refine zA Z (fun q1 => ?_) (fun q1 => ?_)
      ·refine rn6 ?_
       refine zD 144 (.int .u32 (vi : Nat)) Z (AEq.of_eq (by rw [hvi])) ?_
       refine zG (zAT (m := vi) Z Z Z zBW (by omega)) ?_
       refine zG (zFk Z Z zBW (by omega)) ?_
       refine zBc ?_
       exact fin _ ⟨Z, Z, Z, Z, Z, Z, Z, Z, trivial⟩
      ·have hv0 : vi = 0 := by
        have : V.getD i 0 = 0 := by simp [List.getD, List.getElem?_eq_none (show V.length ≤ i by omega)]
        omega
       subst hv0
       refine zBc ?_
       exact fin _ ⟨Z, Z, Z, Z, Z, Z, Z, Z, trivial⟩
     refine rn0 ?_
     refine zG (zGT Z Z Z zFI) ?_
     have hset := zQb (x := (((sm + ui + vi) % 4294967296 : Nat) : Int)) (C := C) hj (show i < Ud.length by omega)
     refine rn7 ?_
     refine zG (zGU (s := 32) Z Z Z) ?_
     refine rn5 ?_
     refine zJ ⟨(i + 1, Ud.set i (((sm + ui + vi) % 4294967296 : Nat) : Int), (sm + ui + vi) / 4294967296), ⟨by simp only; omega, by simp [x2], x3.set (zEB _), fun x hx => ?_, by simp only; omega, hstep⟩, by simp only; omega, ⟨Z, Z, Z, Z, Z, Z, Z, trivial⟩, ?_⟩
     ·simp only at hx ⊢
      rw [zDk (by omega)]; exact x4 x (by omega)
     ·show some (⟨_, .ints .u32 ((A ++ (Ud ++ C)).set (j + i) (((sm + ui + vi) % 4294967296 : Nat) : Int))⟩ : AObj) :: Hr = _
      rw [hset]
    ·have hie : i = s + 1 := by omega
     subst hie
     rw [List.take_of_length_le (by omega), List.take_of_length_le (by omega), List.take_of_length_le (by omega), z2] at x6
     have hUdb := zAt x3
     rw [x2] at hUdb
     have hv : ze Ud = m := by
      rcases Nat.lt_trichotomy sm 1 with z | z | z
      ·have : sm = 0 := by omega
       subst this
       omega
      ·subst z; omega
      ·have : B ^ (s + 1) * 2 ≤ B ^ (s + 1) * sm := Nat.mul_le_mul_left _ z
       omega
     have hfx := zHQ x3 x2 hv
     refine rn5 ?_
     refine zG (zPO (m := g) (n := 1) Z Z zBW (by omega) (by omega)) ?_
     refine zG (zAT (m := g - 1) Z Z Z zFI (by omega)) ?_
     refine rn0 ?_
     refine zL hR Z ⟨?_, ?_⟩
     ·rw [show g - 1 = q by omega]; rfl
     ·rw [hfx]
theorem clone_ok (n : Nat) (h : (zS n).length ≤ 1000000) : zU Tryz.prog 225 [zh n] (zh n) := by
 unfold zh
 generalize zS n = l at *
 refine zQ.value (K := fun r H => r = .sl 0 0 l.length ∧ H = [some ⟨223, .ints .u32 l⟩]) (zE (P := Tryz.prog) (fn := Tryz.f225) Z Z (by kernel_rfl) Z (fun c hR hfix => ?_)) (fix := fun _ => False) (fun _ h => h) Z ?_
 ·refine rn0 ?_
  refine zM9 Z Z Z (fun b hb => ?_)
  refine rn0 ?_
  refine zEg Z (fun h => ?_) (fun h => ?_)
  ·have := hb h
   have hn : l = [] := List.length_eq_zero_iff.mp this
   subst hn
   refine rn7 ?_
   refine zAb 2 ⟨223, .ints .u32 []⟩ Z Z ?_
   refine rn2 ?_
   exact zL hR Z ⟨Z, Z⟩
  ·refine rn1 ?_
   refine zCj Z Z Z Z Z Z Z Z Z Z ?_
   refine zu [some ⟨223, .ints .u32 []⟩] (zP.eqv ⟨Z, Z, fun i j hi => absurd hi (Nat.not_lt_zero _)⟩ zP.nil) ?_
   repeat (refine zG (zK rfl) ?_)
   refine zo Z Z Z Z Z Z Z Z Z Z Z Z (by show 0 + l.length ≤ l.length; omega) Z (by show (0 + l.length) * 4 ≤ _ ∧ _; omega) (fun i j _ _ => rfl) (by rw [hfix]; exact fun h => h) ?_
   refine rn0 ?_
   refine zL hR Z ⟨?_, ?_⟩
   ·show AV.sl 0 0 (0 + l.length) = _; rw [Nat.zero_add]
   ·show ([some ⟨223, .ints .u32 ([] ++ List.take l.length (List.drop 0 l))⟩] : zN) = _
    simp
 ·rintro r H ⟨rfl, rfl⟩
  exact ⟨rfl, fun o ho => by simp at ho; subst ho; exact Nat.le_of_eq (by simp [Cells.len]), zKl zAs⟩
theorem div_less (n m : Nat) (h : n < m) (hn : (zS n).length ≤ 1000000) (hm : (zS m).length ≤ 1000000) : zU Tryz.prog 163 [zh n, zh m] (.tup [.nil, zh n]) := by
 have hc := zMT n m (by omega) (by omega)
 rw [zIR (Int.ofNat_lt.2 h)] at hc
 have hcl := clone_ok n hn
 refine zQ.value0 (zE (P := Tryz.prog) (fn := Tryz.f163) Z Z (by kernel_rfl) Z (fun c hR hfix => ?_)) (fix := fun _ => False) (fun _ h => h) Z Z
 refine rn0 ?_
 refine zB Z Z Z hc ?_
 refine rn5 ?_
 refine zB Z Z Z hcl ?_
 refine rn2 ?_
 exact zL hR Z Z
theorem zPs {n m : Nat} (h : m ≤ n) : ¬ zEH n m < 0 := by
 rcases Nat.lt_or_ge m n with q | q
 ·rw [zIQ (Int.ofNat_lt.2 q)]; decide
 ·rw [zPp (by omega)]; decide
theorem div_one (n m : Nat) (h : m ≤ n) (hn : (zS n).length ≤ 1000000) (hm : (zS m).length = 1) : zU Tryz.prog 163 [zh n, zh m] (.tup [zh (n / m), zh (n % m)]) := by
 have hc := zMT n m (by omega) (by omega)
 have hcn := zPs h
 obtain ⟨t, low, ht, htb, htp, hv, hlow⟩ := zHF (Nat.le_refl 1) hm
 have hmt : m = t := by
  simp at hv hlow
  subst hlow
  rw [hv]; simp
 subst hmt
 have hds := zJh (zS n) m (zAR n) (by omega) ⟨htp, htb⟩
 rw [z6] at hds
 have hr : n % m < 4294967296 := Nat.lt_trans (Nat.mod_lt _ htp) htb
 have hsm := zHB (n % m) (by omega)
 refine zQ.value0 (zE (P := Tryz.prog) (fn := Tryz.f163) Z Z (by kernel_rfl) Z (fun c hR hfix => ?_)) (fix := fun _ => False) (fun _ h => h) Z Z
 refine rn0 ?_
 refine zB Z Z Z hc ?_
 refine rn4 ?_
 refine zA Z (fun q => absurd q hcn) (fun q => ?_)
 unfold zh
 refine rn4 ?_
 rw [hm]
 refine rn6 ?_
 refine zD 31 (.int .u32 (m : Nat)) Z (AEq.of_eq (by congr 1)) ?_
 refine zB Z Z Z hds ?_
 refine rn2 ?_
 refine zG (zAT (m := n % m) Z Z Z zBW (by omega)) ?_
 refine zB Z Z Z hsm ?_
 refine rn2 ?_
 exact zL hR Z Z
theorem div_many (n m : Nat) (h : m ≤ n) (hn : (zS n).length ≤ 1000000) (hm2 : 2 ≤ (zS m).length) : zU Tryz.prog 163 [zh n, zh m] (.tup [zh (n / m), zh (n % m)]) := by
 have hlm : (zS m).length ≤ (zS n).length := zAe (by have := zAt (zAR n); rw [z6] at this; omega)
 have hc := zMT n m (by omega) (by omega)
 have hcn := zPs h
 have hm0 : 0 < m := by
  rcases Nat.eq_zero_or_pos m with q | q
  ·subst q; rw [zBq] at hm2; simp at hm2
  ·exact q
 have hnB : n < B ^ (zS n).length := by have := zAt (zAR n); rwa [z6] at this
 obtain ⟨s, hs⟩ : ∃ s, (zS m).length = s := ⟨_, rfl⟩
 obtain ⟨ln, hln⟩ : ∃ ln, (zS n).length = ln := ⟨_, rfl⟩
 rw [hs] at hm2 hlm
 rw [hln] at hn hnB hlm
 obtain ⟨t, low, ht, htb, htp, hv, hlow⟩ := zHF (show 1 ≤ s by omega) hs
 refine zQ.value0 (zE (P := Tryz.prog) (fn := Tryz.f163) Z Z (by kernel_rfl) Z (fun c hR hfix => ?_)) (fix := fun _ => False) (fun _ h => h) Z Z
 refine rn0 ?_
 refine zB Z Z Z hc ?_
 refine rn4 ?_
 refine zA Z (fun q => absurd q hcn) (fun q => ?_)
 have en : zh n = .ro (.ints .u32 (zS n)) 0 ln := by unfold zh; rw [hln]
 have em : zh m = .ro (.ints .u32 (zS m)) 0 s := by unfold zh; rw [hs]
 rw [en, em]
 refine rn4 ?_
 refine zA Z (fun q => absurd q (by omega)) (fun q => ?_)
 refine rn1 ?_
 refine zZ (ι := Nat) (fun k => [(0, .ro (.ints .u32 (zS n)) 0 ln), (1, .ro (.ints .u32 (zS m)) 0 s), (8, iN k)]) (fun _ => []) (fun k => k ≤ 31 ∧ t * 2 ^ k < 4294967296) (fun k => 32 - k) 0 ⟨⟨Z, Z, Z, trivial⟩, Z, by omega, by rw [Nat.pow_zero, Nat.mul_one]; exact htb⟩ ?_
 rintro k ⟨hk1, hk2⟩
 refine rn7 ?_
 refine zD 42 (iN (s - 1)) Z (AEq.of_eq (by congr 1; omega)) ?_
 refine rn6 ?_
 refine zD 44 (.int .u32 (t : Nat)) Z (AEq.of_eq (by rw [ht])) ?_
 skip
 refine zG (zKj (m := t) (s := k) Z Z (by show k ≤ 32; omega) zFI hk2) ?_
 refine zG (zGU (s := 31) Z Z Z) ?_
 refine rn4 ?_
 refine zA Z (fun q1 => ?_) (fun q1 => ?_)
 ·have hmore := k_more htp hk2 hk1 (by omega)
  refine rn5 ?_
  exact zJ ⟨k + 1, ⟨hmore.2, hmore.1⟩, by omega, ⟨Z, Z, Z, trivial⟩, Z⟩
 have hstop := k_stop (t := t) (k := k) (by omega)
 obtain ⟨hnl, hnt⟩ := norm_top (show 1 ≤ s by omega) hs ht hstop hk2 hk1
 have hsn := zOF (zS n) k (zAR n) (by omega) (by omega)
 have hsm := zOF (zS m) k (zAR m) (by omega) (by omega)
 rw [z6, hln] at hsn
 rw [z6, hs] at hsm
 have hvB : m * 2 ^ k < B ^ s := by have := zAt (zAR (m * 2 ^ k)); rwa [z6, hnl] at this
 have hvB1 : m * 2 ^ k < B ^ (s + 1) := Nat.lt_of_lt_of_le hvB (Nat.pow_le_pow_right (by decide) (by omega))
 have hnorm := zEC (zB5 (s + 1) (m * 2 ^ k)) (zFw _ _) (by rw [zB6]; omega)
 rw [zIb _ _ hvB1] at hnorm
 have hstart := zRY hnB hk1 (show 1 ≤ s by omega) hlm (top_ge (show 1 ≤ s by omega) hnl hnt)
 have hv0 : 0 < m * 2 ^ k := Nat.mul_pos hm0 (Nat.pow_pos (by decide))
 have ev : zh (m * 2 ^ k) = .ro (.ints .u32 (zS (m * 2 ^ k))) 0 s := by unfold zh; rw [hnl]
 have hdig := fun (A U C : List Int) (j : Nat) (Hr : zN) (hj : A.length = j) (hl : U.length = s + 1) (hU : Lim U) => digit_ok A U C (zS (m * 2 ^ k)) j s Hr hj hm2 hl hnl hU (zAR _) hnt
 rw [z6] at hdig
 have hend := fun Q W => quo_end (n := n) (m := m) (k := k) (W := W) (Q := Q) hm0
 obtain ⟨v, hve⟩ : ∃ v, m * 2 ^ k = v := ⟨_, rfl⟩
 rw [hve] at hsm hvB hvB1 hnorm hstart hv0 ev hdig hend hnl
 refine rn5 ?_
 have c1 : [AV.ro (.ints .u32 (zS n)) 0 ln, iN k] ++ [] = [zGP (zS n), iN k] := by unfold zGP; rw [hln]; rfl
 have c2 : [AV.ro (.ints .u32 (zS m)) 0 s, iN k] ++ [] = [zGP (zS m), iN k] := by unfold zGP; rw [hs]; rfl
 refine zE1 Z Z c1 hsn ?_
 repeat (refine zG (zK rfl) ?_)
 refine zE1 Z Z c2 hsm ?_
 refine zDN 1 56 (s + 1) [(0, .ro (.ints .u32 (zS n)) 0 ln), (8, iN k), (53, .sl 0 0 (ln + 1))] Z zAs Z (by show _ ≤ (zB5 _ _).length; rw [zB6]; omega) ⟨Z, Z, Z, trivial⟩ ?_
 refine zB Z Z (zDZ (zB6 _ _)) hnorm ?_
 rw [ev]
 refine rn7 ?_
 refine zCz Z Z Z Z Z Z Z Z (by show (0 : Int) ≤ _ ∧ _ ≤ _ ∧ (4 : Int) * _ ≤ _ ∧ _; omega) ?_
 obtain ⟨J, hJ⟩ : ∃ J, J + s = ln + 1 := ⟨ln + 1 - s, by omega⟩
 rw [show (((ln + 1 : Nat) : Int) - (s : Nat)).toNat = J by omega]
 rw [show ln + 1 - s = J by omega] at hstart
 refine rn7 ?_
 refine zZ (ι := Nat × Nat × List Int) (fun p => [(8, iN k), (9, .sl 0 0 (ln + 1)), (10, .ro (.ints .u32 (zS v)) 0 s), (11, iN s), (12, .sl 2 0 J), (13, .int .i64 ((p.1 : Int) - 1))]) (fun p => [some ⟨223, .ints .u32 (zB5 (ln + 1) p.2.1)⟩, none, some ⟨223, .ints .u32 p.2.2⟩])
  (fun p => p.1 ≤ J ∧ p.2.1 < v * B ^ p.1 ∧ p.2.2.length = J ∧ Lim p.2.2 ∧ (∀ x, x < p.1 → p.2.2.getD x 0 = 0) ∧ ze p.2.2 * v + p.2.1 = n * 2 ^ k) (fun p => p.1) (J, n * 2 ^ k, List.replicate J 0)
  ⟨⟨rfl, rfl, rfl, rfl, rfl, ?_, trivial⟩, rfl, Nat.le_refl _, hstart, by simp, Lim.zeros _, fun x _ => zOT _ _, by simp [zIF]⟩ ?_
 ·show some (AV.int .i64 _) = _
  congr 2
  omega
 rintro ⟨j1, W, Q⟩ ⟨w1, w2, w3, w4, w5, w6⟩
 simp only at *
 refine rn7 ?_
 refine zA Z (fun q2 => ?_) (fun q2 => ?_)
 ·obtain ⟨j, rfl⟩ : ∃ j, j1 = j + 1 := ⟨j1 - 1, by omega⟩
  obtain ⟨p1, p2, p3, W', p4, p5, p6⟩ := quo_step (N := ln + 1) hv0 hvB w2 (show j + (s + 1) ≤ ln + 1 by omega)
  have hd := hdig (zB5 j W) (zB5 (s + 1) (W / B ^ j)) (zB5 (ln + 1 - (j + (s + 1))) (W / B ^ j / B ^ (s + 1))) j [none, some ⟨223, .ints .u32 Q⟩] (zB6 _ _) (zB6 _ _) (zFw _ _) (by rw [p2]; exact p3) (by rw [← p1, zB6]; omega)
  rw [p2, p4, ← p1] at hd
  have hq : W / B ^ j / v < 4294967296 := Nat.div_lt_of_lt_mul (by rw [Nat.mul_comm]; exact p3)
  obtain ⟨dg, hdg⟩ : ∃ dg, W / B ^ j / v = dg := ⟨_, rfl⟩
  rw [hdg] at hd hq p6
  refine rn17 ?_
  refine zD 82 (.sl 0 j (s + 1)) Z (AEq.of_eq (by congr 1 <;> omega)) ?_
  skip
  have c3 : [AV.sl 0 j (s + 1), .ro (.ints .u32 (zS v)) 0 s] ++ [] = [.sl 0 j (s + 1), zGP (zS v)] := by unfold zGP; rw [hnl]; rfl
  refine zCc Z Z c3 hd (fun h hh => hh) (fun h hh => hh) ?_
  rintro r H ⟨rfl, rfl⟩
  refine zD 75 (iN j) Z (AEq.of_eq (by congr 1; omega)) ?_
  refine rn7 ?_
  have hz := w5 j (by omega)
  have hset := zLC (x := (dg : Int)) (show j < Q.length by omega)
  rw [hz, Int.toNat_natCast] at hset
  have z0 : (0 : Int).toNat = 0 := rfl
  rw [z0, Nat.mul_zero, Nat.add_zero] at hset
  refine zJ ⟨(j, W', Q.set j (dg : Int)), ⟨by simp only; omega, p5, by simp [w3], w4.set (by omega), fun x hx => ?_, ?_⟩, by simp only; omega, ⟨Z, Z, Z, Z, Z, ?_, trivial⟩, Z⟩
  ·simp only at hx ⊢
   rw [zDk (by omega)]; exact w5 x (by omega)
  ·simp only
   rw [hset, Nat.add_mul, Nat.mul_assoc, Nat.mul_comm dg v]
   omega
  ·show some (AV.int .i64 _) = _
   congr 2
   omega
 ·have hj0 : j1 = 0 := by omega
  subst hj0
  rw [Nat.pow_zero, Nat.mul_one] at w2
  have he := hend (ze Q) W
  obtain ⟨hq, hW⟩ := he w6 w2
  clear he hend
  have hWB : W < B ^ s := Nat.lt_trans w2 hvB
  have htk : (zB5 (ln + 1) W).take s = zB5 s W := by
   rw [show ln + 1 = s + J by omega, zFv, List.take_left' (zB6 _ _)]
  have hn1 := zEC (zB5 s W) (zFw _ _) (by rw [zB6]; omega)
  rw [zIb _ _ hWB] at hn1
  refine rn5 ?_
  refine zG (zFV Z Z Z Z Z Z Z Z ⟨Z, by omega, by omega⟩) ?_
  refine zD 88 (.sl 0 0 s) Z (AEq.of_eq (by rw [Int.toNat_natCast])) ?_
  refine zDN 0 88 s [(8, iN k), (12, .sl 2 0 J)] Z zAs Z (by show _ ≤ (zB5 _ _).length; rw [zB6]; omega) ⟨Z, Z, trivial⟩ ?_
  refine zD 88 (.ro (.ints .u32 (zB5 s W)) 0 s) Z (AEq.trans AEq.take (AEq.of_eq (by rw [htk]))) ?_
  refine zB Z Z (zDZ (zB6 _ _)) hn1 ?_
  have hlW := zAR W
  have hWv := z6 W
  have hlWl : (zS W).length ≤ s := zAe hWB
  unfold zh
  obtain ⟨r, hr⟩ : ∃ r, zS W = r := ⟨_, rfl⟩
  rw [hr] at hlW hWv hlWl ⊢
  refine rn3 ?_
  refine zCz Z Z Z Z Z Z Z Z (by show (0 : Int) ≤ _ ∧ _ ≤ _ ∧ (4 : Int) * _ ≤ _ ∧ _; omega) ?_
  refine rn3 ?_
  have hd0 : ∃ d0 : Nat, r.getD 0 0 = (d0 : Int) ∧ d0 < 4294967296 := hlW.nat 0
  obtain ⟨d0, hd0, hd0b⟩ := hd0
  refine zZ (ι := Nat × List Int) (fun p => [(8, iN k), (12, .sl 2 0 J), (14, .ro (.ints .u32 r) 0 r.length), (15, .sl 3 0 r.length), (93, .ro (.ints .u32 r) 0 r.length), (94, iN r.length), (95, iN p.1)]) (fun p => [none, none, some ⟨223, .ints .u32 Q⟩, some ⟨223, .ints .u32 p.2⟩])
   (fun p => p.1 ≤ r.length ∧ p.2.length = r.length ∧ Lim p.2 ∧ ze (p.2.take p.1) * 2 ^ k + d0 % 2 ^ k = ze (r.take p.1) + (r.getD p.1 0).toNat % 2 ^ k * B ^ p.1) (fun p => r.length - p.1) (0, List.replicate r.length 0)
   ⟨⟨rfl, rfl, rfl, rfl, rfl, rfl, rfl, trivial⟩, rfl, Nat.zero_le _, by simp, Lim.zeros _, by simp [ze]; rw [show r[0]?.getD 0 = (d0 : Int) from hd0]; simp⟩ ?_
  rintro ⟨i, O⟩ ⟨x1, x2, x3, x4⟩
  simp only at *
  refine rn4 ?_
  refine zA Z (fun x5 => ?_) (fun x5 => ?_)
  ·have hil : i < r.length := by omega
   obtain ⟨d, hd, hdb⟩ := hlW.nat i
   obtain ⟨e, he, heb⟩ := hlW.nat (i + 1)
   have hbl := zQn (e := e) hdb hk1
   have hbm := back_lim (e := e) hdb hk1
   have hdk : d / 2 ^ k < 4294967296 := Nat.lt_of_le_of_lt (Nat.div_le_self _ _) hdb
   rw [hd, Int.toNat_natCast] at x4
   have hstep := back_val (e := e) (out := O.take i) (i := i) hk1 (by simp; omega) hd x4
   refine rn6 ?_
   refine zD 102 (.int .u32 (d : Nat)) Z (AEq.of_eq (by rw [hd])) ?_
   skip
   refine zG (zGU (m := d) (s := k) Z Z (by rw [Nat.ble_eq]; show k ≤ 32; omega)) ?_
   refine rn7 ?_
   apply zAK (H := [none, none, some ⟨223, .ints .u32 Q⟩, some ⟨223, .ints .u32 (O.set i ((d / 2 ^ k + e % 2 ^ k * 2 ^ (32 - k) : Nat) : Int))⟩]) [(8, iN k), (12, .sl 2 0 J), (14, .ro (.ints .u32 r) 0 r.length), (15, .sl 3 0 r.length), (93, .ro (.ints .u32 r) 0 r.length), (94, iN r.length), (95, iN i)]
   ·intro fin
    have noFin : (i + 1 = r.length ∨ k = 0) → e % 2 ^ k * 2 ^ (32 - k) = 0 := by
     rintro (h | h)
     ·have : r.getD (i + 1) 0 = 0 := by simp [List.getD, List.getElem?_eq_none (show r.length ≤ i + 1 by omega)]
      have : e = 0 := by omega
      subst this; simp
     ·subst h; rw [Nat.pow_zero, Nat.mod_one]; try simp
    refine zAi Z Z (fun y1 => ?_) (fun y1 => ?_)
    ·refine rn6 ?_
     refine zA Z (fun y2 => ?_) (fun y2 => ?_)
     ·skip
      refine zi (by kernel_rfl) ?_
      refine zV 0 Z (by kernel_rfl) (by kernel_rfl) (by kernel_rfl) Z (zK Z) Z ?_
      refine zV 1 Z (by kernel_rfl) (by kernel_rfl) (by kernel_rfl) Z (zK Z) Z ?_
      refine zV 2 Z (by kernel_rfl) (by kernel_rfl) (by kernel_rfl) Z (zBR Z Z Z Z Z (by first | (simp only [Nat.zero_add, Int.toNat_natCast, Int.toNat_zero]; exact Z) | exact Z) (by omega)) Z ?_
      refine zV 4 Z (by kernel_rfl) (by kernel_rfl) (by kernel_rfl) Z (zK Z) Z ?_
      refine zV 5 Z (by kernel_rfl) (by kernel_rfl) (by kernel_rfl) Z (zK Z) Z ?_
      refine zV 6 Z (by kernel_rfl) (by kernel_rfl) (by kernel_rfl) Z (zCF Z Z (by omega)) Z ?_
      refine zV 7 Z (by kernel_rfl) (by kernel_rfl) (by kernel_rfl) Z (zAE Z Z Z Z (by first | (simp only [Nat.zero_add, Int.toNat_natCast, Int.toNat_zero]; exact Z) | exact Z) (by omega)) Z ?_
      refine zV 9 Z (by kernel_rfl) (by kernel_rfl) (by kernel_rfl) Z (zK Z) Z ?_
      refine zV 10 Z (by kernel_rfl) (by kernel_rfl) (by kernel_rfl) Z (zFD Z Z (by omega)) Z ?_
      apply zDU [(8, iN k), (12, .sl 2 0 J), (14, .ro (.ints .u32 r) 0 r.length), (15, .sl 3 0 r.length), (93, .ro (.ints .u32 r) 0 r.length), (94, iN r.length), (95, iN i), (118, .int .u32 (d / 2 ^ k : Nat)), (126, .int .u32 (e * 2 ^ (32 - k) % 4294967296 : Nat)), (115, .sl 3 0 r.length), (116, iN i)]
      ·intro fin2
       have hsl : (O.set i ((d / 2 ^ k : Nat) : Int)).getD i 0 = ((d / 2 ^ k : Nat) : Int) := by simp [List.getD, show i < O.length by omega]
       have hil2 : i < (O.set i ((d / 2 ^ k : Nat) : Int)).length := by simp; omega
       refine zF (is := [3, 8]) (by kernel_rfl) (by simp) Z ⟨fun o ho => ?_, fun o ho => ?_, trivial⟩
       all_goals (cases ho)
       ·refine rn7 ?_
        refine zF (is := [8]) (by kernel_rfl) (by simp) Z ⟨fun o ho => ?_, trivial⟩
        all_goals (cases ho)
        refine rn6 ?_
        refine zDT 123 (.int .u32 (e : Nat)) Z (AEq.of_eq (by rw [show ((i : Int) + 1).toNat = i + 1 by omega, he])) ?_
        refine zDT 125 (iN (32 - k)) Z (AEq.of_eq (by congr 1; omega)) ?_
        refine zV 11 Z (by kernel_rfl) (by kernel_rfl) (by kernel_rfl) Z (zQR (m := e) (s := 32 - k) Z Z (by show 32 - k ≤ 32; omega) zFI) Z ?_
        refine fin2 _ ⟨Z, Z, Z, Z, Z, Z, Z, ?_, Z, Z, Z, trivial⟩
        show some (AV.int .u32 ((O.set i ((d / 2 ^ k : Nat) : Int)).getD i 0)) = _
        rw [hsl]
       ·refine rn6 ?_
        refine zDT 123 (.int .u32 (e : Nat)) Z (AEq.of_eq (by rw [show ((i : Int) + 1).toNat = i + 1 by omega, he])) ?_
        refine zDT 125 (iN (32 - k)) Z (AEq.of_eq (by congr 1; omega)) ?_
        refine zV 11 Z (by kernel_rfl) (by kernel_rfl) (by kernel_rfl) Z (zQR (m := e) (s := 32 - k) Z Z (by show 32 - k ≤ 32; omega) zFI) Z ?_
        refine zF (is := [3]) (by kernel_rfl) (by simp) Z ⟨fun o ho => ?_, trivial⟩
        all_goals (cases ho)
        refine rn7 ?_
        refine fin2 _ ⟨Z, Z, Z, Z, Z, Z, Z, ?_, Z, Z, Z, trivial⟩
        show some (AV.int .u32 ((O.set i ((d / 2 ^ k : Nat) : Int)).getD i 0)) = _
        rw [hsl]
      refine zV 12 Z (by kernel_rfl) (by kernel_rfl) (by kernel_rfl) Z (QOp.res (zNy Z Z zFI Z hdk (Nat.mod_lt _ (by decide))) (by rw [hbl])) Z ?_
      have hil2 : i < (O.set i ((d / 2 ^ k : Nat) : Int)).length := by simp; omega
      refine zV 13 Z (by kernel_rfl) (by kernel_rfl) (by kernel_rfl) Z (zBR Z Z Z Z Z (by first | (simp only [Nat.zero_add, Int.toNat_natCast, Int.toNat_zero]; exact Z) | exact Z) (by omega)) Z ?_
      refine zF (is := [14]) (by kernel_rfl) (by simp) Z ⟨fun o ho => ?_, trivial⟩
      all_goals (cases ho)
      refine rn7 ?_
      refine zW (by kernel_rfl) ?_
      refine zBc ?_
      refine zAj _ (by show [none, none, _, some (⟨_, .ints .u32 ((O.set i _).set i _)⟩ : AObj)] = _; rw [List.set_set]) ?_
      exact fin _ ⟨Z, Z, Z, Z, Z, Z, Z, trivial⟩
     ·have hz := noFin (.inr (by omega))
      rw [hz, Nat.add_zero] at fin
      refine zBc ?_
      exact fin _ ⟨Z, Z, Z, Z, Z, Z, Z, trivial⟩
    ·have hz := noFin (.inl (by omega))
     rw [hz, Nat.add_zero] at fin
     refine zBc ?_
     exact fin _ ⟨Z, Z, Z, Z, Z, Z, Z, trivial⟩
   refine rn3 ?_
   refine zJ ⟨(i + 1, O.set i ((d / 2 ^ k + e % 2 ^ k * 2 ^ (32 - k) : Nat) : Int)), ⟨by simp only; omega, by simp [x2], x3.set (by omega), ?_⟩, by simp only; omega, ⟨Z, Z, Z, Z, Z, Z, Z, trivial⟩, Z⟩
   simp only
   rw [zFm (by omega), he, Int.toNat_natCast]
   exact hstep
  ·have hie : i = r.length := by omega
   subst hie
   have hz : r.getD r.length 0 = 0 := by simp [List.getD]
   have z0 : (0 : Int).toNat = 0 := rfl
   rw [hz, z0, Nat.zero_mod, Nat.zero_mul, Nat.add_zero, List.take_of_length_le (by omega), List.take_length, hWv, hW] at x4
   have hpk : 0 < 2 ^ k := Nat.pow_pos (by decide)
   have hOv : ze O = n % m := by
    have h1 : d0 % 2 ^ k < 2 ^ k := Nat.mod_lt _ hpk
    have h2 : (ze O * 2 ^ k + d0 % 2 ^ k) / 2 ^ k = ze O := by rw [Nat.add_comm, Nat.add_mul_div_right _ _ hpk, Nat.div_eq_of_lt h1, Nat.zero_add]
    rw [x4, Nat.mul_div_cancel _ hpk] at h2
    exact h2.symm
   have nq := zEC Q w4 (by omega)
   have no := zEC O x3 (by omega)
   rw [hq] at nq
   rw [hOv] at no
   refine rn5 ?_
   refine zDN 2 130 J [(15, .sl 3 0 r.length)] Z zAs Z (by show _ ≤ Q.length; omega) ⟨Z, trivial⟩ ?_
   refine zB Z Z (zDZ w3) nq ?_
   repeat (refine zG (zK rfl) ?_)
   refine zDN 3 132 r.length [(131, zh (n / m))] Z zAs Z (by show _ ≤ O.length; omega) ⟨Z, trivial⟩ ?_
   refine zB Z Z (zDZ x2) no ?_
   refine rn0 ?_
   exact zL hR Z Z
theorem zJD (n m : Nat) (hm : 0 < m) (hn : (zS n).length ≤ 1000000) (hml : (zS m).length ≤ 1000000) : zU Tryz.prog 163 [zh n, zh m] (.tup [zh (n / m), zh (n % m)]) := by
 rcases Nat.lt_or_ge n m with h | h
 ·rw [Nat.div_eq_of_lt h, Nat.mod_eq_of_lt h]
  exact zU.res (div_less n m h hn hml) (AEq.tup2 AEq.natNil)
 ·have h1 : (zS m).length ≠ 0 := by
   have := zCU.2 (show m ≠ 0 by omega)
   omega
  rcases Nat.lt_or_ge (zS m).length 2 with q | q
  ·exact div_one n m h hn (by omega)
  ·exact div_many n m h hn q
theorem zO0 (n m : Nat) (hn : (zS n).length ≤ 1000000) (hm : (zS m).length ≤ 1000000) : zU Tryz.prog 81 [zh n, zh m] (zh (Nat.gcd n m)) := by
 refine zQ.value0 (zE (P := Tryz.prog) (fn := Tryz.f81) Z Z (by kernel_rfl) Z (fun c hR hfix => ?_)) (fix := fun _ => False) (fun _ h => h) Z Z
 refine rn1 ?_
 refine zZ (ι := Nat × Nat) (fun p => [(0, zh p.1), (1, zh p.2)]) (fun _ => []) (fun p => (zS p.1).length ≤ 1000000 ∧ (zS p.2).length ≤ 1000000 ∧ Nat.gcd p.1 p.2 = Nat.gcd n m) (fun p => p.2) (n, m) ⟨⟨Z, Z, trivial⟩, Z, hn, hm, Z⟩ ?_
 rintro ⟨a, b⟩ ⟨h1, h2, h3⟩
 simp only at *
 have hd := fun h => zJD a b h h1 h2
 have hpos : 0 < (zS b).length ↔ b ≠ 0 := zCU
 have en : zh b = .ro (.ints .u32 (zS b)) 0 (zS b).length := rfl
 rw [en] at hd ⊢
 refine rn6 ?_
 refine zA Z (fun h4 => ?_) (fun h4 => ?_)
 ·have hb : b ≠ 0 := hpos.1 (by omega)
  refine rn1 ?_
  refine zB Z Z Z (hd (by omega)) ?_
  refine rn5 ?_
  refine zJ ⟨(b, a % b), ⟨h2, zFi (Nat.mod_lt a (by omega)) h2, ?_⟩, Nat.mod_lt a (by omega), ⟨Z, Z, trivial⟩, Z⟩
  show Nat.gcd b (a % b) = Nat.gcd n m
  rw [← h3, Nat.gcd_comm a b, Nat.gcd_rec b a, Nat.gcd_comm]
 ·have hb : b = 0 := by
   rcases Nat.eq_zero_or_pos b with q | q
   ·exact q
   ·have := hpos.2 (by omega); omega
  rw [hb, Nat.gcd_zero_right] at h3
  refine rn5 ?_
  refine zL hR Z ?_
  rw [← h3]; rfl
theorem one_ok (n : Nat) : zU Tryz.prog 82 [zh n] (.bool (decide (n = 1))) := by
 refine zQ.value0 (zE (P := Tryz.prog) (fn := Tryz.f82) Z Z (by kernel_rfl) Z (fun c hR hfix => ?_)) (fix := fun _ => False) (fun _ h => h) Z Z
 have h1 : n = 1 ↔ (zS n).length = 1 ∧ (zS n).getD 0 0 = 1 := zRM
 unfold zh
 refine rn4 ?_
 refine zAi Z Z (fun h2 => ?_) (fun h2 => ?_)
 ·refine rn6 ?_
  refine zL hR Z ?_
  show AV.bool (decide ((zS n).getD _ 0 = 1)) = _
  congr 1
  rw [decide_eq_decide, h1]
  exact ⟨fun h => ⟨by omega, h⟩, fun h => h.2⟩
 ·refine rn6 ?_
  refine zL hR Z ?_
  show AV.bool false = _
  rw [decide_eq_false]
  intro h
  exact h2 (by have := (h1.1 h).1; omega)
theorem zPQ (l : List (List UInt8)) (hl : l.length ≤ 1000000000) :
 zQ Tryz.prog 256 [.sl 0 0 l.length] [some ⟨9, .strs l⟩] (fun h => h < 1) (fun _ H => H = [some ⟨9, .strs l.reverse⟩]) := by
 refine zE (P := Tryz.prog) (fn := Tryz.f256) Z Z (by kernel_rfl) Z (fun c hR hfix => ?_)
 refine rn7 ?_
 refine zZ (ι := Nat) (fun k => [(0, .sl 0 0 l.length), (2, iN k), (3, .int .i64 ((l.length : Int) - 1 - k))]) (fun k => [some ⟨9, .strs (zGj l k)⟩]) (fun k => 2 * k ≤ l.length + 1) (fun k => l.length + 1 - k) 0 ⟨⟨Z, Z, ?_, trivial⟩, by rw [zRc], by omega⟩ ?_
 ·show some (AV.int .i64 _) = _
  congr 2; omega
 rintro k hk
 have hrl := zDp l k
 refine rn4 ?_
 refine zA Z (fun h1 => ?_) (fun h1 => ?_)
 ·have hk2 : k + 1 + k < l.length := by omega
  have e1 : ((l.length : Int) - 1 - (k : Nat)).toNat = l.length - 1 - k := by omega
  refine rn1 ?_
  refine zi (by kernel_rfl) ?_
  refine zV 0 Z (by kernel_rfl) (by kernel_rfl) (by kernel_rfl) Z (zK Z) Z ?_
  refine zV 1 Z (by kernel_rfl) (by kernel_rfl) (by kernel_rfl) Z (zK Z) Z ?_
  refine zV 2 Z (by kernel_rfl) (by kernel_rfl) (by kernel_rfl) Z (zK Z) Z ?_
  refine zV 3 Z (by kernel_rfl) (by kernel_rfl) (by kernel_rfl) Z (zK Z) Z ?_
  refine zV 4 Z (by kernel_rfl) (by kernel_rfl) (by kernel_rfl) Z (zK Z) Z ?_
  refine zV 5 Z (by kernel_rfl) (by kernel_rfl) (by kernel_rfl) Z (zK Z) Z ?_
  refine zV 6 Z (by kernel_rfl) (by kernel_rfl) (by kernel_rfl) Z (zBR Z Z Z Z Z (by first | (simp only [Nat.zero_add, Int.toNat_natCast, Int.toNat_zero]; exact Z) | exact Z) (by omega)) Z ?_
  refine zV 8 Z (by kernel_rfl) (by kernel_rfl) (by kernel_rfl) Z (zK Z) Z ?_
  refine zV 9 Z (by kernel_rfl) (by kernel_rfl) (by kernel_rfl) Z (zK Z) Z ?_
  refine zV 10 Z (by kernel_rfl) (by kernel_rfl) (by kernel_rfl) Z (zBR Z Z Z Z Z (by first | (simp only [Nat.zero_add, Int.toNat_natCast, Int.toNat_zero]; exact Z) | exact Z) (by omega)) Z ?_
  refine zDT 20 (.ptr 0 (l.length - 1 - k) 0) Z (AEq.of_eq (by rw [e1])) ?_
  have b1 : l.length - 1 - k < (zGj l k).length := by omega
  have b2 : k < (zGj l k).length := by omega
  apply zDU [(0, .sl 0 0 l.length), (2, iN k), (3, .int .i64 ((l.length : Int) - 1 - k)), (14, .sl 0 0 l.length), (15, iN k), (16, .sl 0 0 l.length), (17, .int .i64 ((l.length : Int) - 1 - k)), (21, .str ((zGj l k).getD (l.length - 1 - k) [])), (25, .str ((zGj l k).getD k []))]
  ·intro fin
   refine zF (is := [7, 11]) (by kernel_rfl) (by simp) Z ⟨fun o ho => ?_, fun o ho => ?_, trivial⟩
   all_goals (cases ho)
   ·refine zDt ?_
    refine zF (is := [11]) (by kernel_rfl) (by simp) Z ⟨fun o ho => ?_, trivial⟩
    all_goals (cases ho)
    refine zDt ?_
    exact fin _ ⟨Z, Z, Z, Z, Z, Z, Z, Z, Z, trivial⟩
   ·refine zDt ?_
    refine zF (is := [7]) (by kernel_rfl) (by simp) Z ⟨fun o ho => ?_, trivial⟩
    all_goals (cases ho)
    refine zDt ?_
    exact fin _ ⟨Z, Z, Z, Z, Z, Z, Z, Z, Z, trivial⟩
  refine zV 12 Z (by kernel_rfl) (by kernel_rfl) (by kernel_rfl) Z (zBR Z Z Z Z Z (by first | (simp only [Nat.zero_add, Int.toNat_natCast, Int.toNat_zero]; exact Z) | exact Z) (by omega)) Z ?_
  refine zF (is := [13]) (by kernel_rfl) (by simp) Z ⟨fun o ho => ?_, trivial⟩
  all_goals (cases ho)
  refine rn7 ?_
  refine zV 14 Z (by kernel_rfl) (by kernel_rfl) (by kernel_rfl) Z (zBR Z Z Z Z Z (by first | (simp only [Nat.zero_add, Int.toNat_natCast, Int.toNat_zero]; exact Z) | exact Z) (by omega)) Z ?_
  refine zDT 27 (.ptr 0 (l.length - 1 - k) 0) Z (AEq.of_eq (by rw [e1])) ?_
  have b3 : l.length - 1 - k < ((zGj l k).set k ((zGj l k).getD (l.length - 1 - k) [])).length := by simp; omega
  refine zF (is := [15]) (by kernel_rfl) (by simp) Z ⟨fun o ho => ?_, trivial⟩
  all_goals (cases ho)
  refine rn7 ?_
  refine zW (by kernel_rfl) ?_
  refine rn7 ?_
  refine zJ ⟨k + 1, by omega, by omega, ⟨Z, Z, ?_, trivial⟩, ?_⟩
  ·show some (AV.int .i64 _) = _
   congr 2; omega
  ·show ([some ⟨_, .strs (((zGj l k).set k _).set (l.length - 1 - k) _)⟩] : zN) = _
   rw [zRb l hk2]
 ·refine rn5 ?_
  refine ax_end hR Z ?_
  rw [zRa l (by omega)]
end Go.Proofs.YtkncmbklkhjmgaaGreatDoor
namespace Go.Proofs
open Go.Shelf
def Tryz.lays156_ren : Go.Shelf.Ren := ⟨fun | 156 => 257 | 165 => 279 | 166 => 104 | 169 => 107 | 240 => 182 | 241 => 293 | 276 => 237 | 277 => 301 | n => n, fun | 31 => 154 | 9 => 9 | 3 => 3 | 4 => 4 | 0 => 0 | 20 => 20 | 72 => 161 | 76 => 164 | 70 => 158 | 37 => 159 | 75 => 163 | 127 => 250 | 164 => 303 | 5 => 5 | 80 => 167 | n => n, fun | n => n⟩
theorem Tryz.lays156 : Go.Proofs.Lays.n156 Tryz.prog Tryz.lays156_ren := {
 mixed := by kernel_rfl
 f156 := Tryz.func257.trans (congrArg some (by kernel_rfl))
 f165 := Tryz.func279.trans (congrArg some (by kernel_rfl))
 f166 := Tryz.func104.trans (congrArg some (by kernel_rfl))
 f169 := Tryz.func107.trans (congrArg some (by kernel_rfl))
 f240 := Tryz.func182.trans (congrArg some (by kernel_rfl))
 f241 := Tryz.func293.trans (congrArg some (by kernel_rfl))
 f276 := Tryz.func237.trans (congrArg some (by kernel_rfl))
 f277 := Tryz.func301.trans (congrArg some (by kernel_rfl))
 t0 := Tryz.underlying0
 a0 := Tryz.isAgg0
 z0 := Tryz.sizeOf0
 v0 := Tryz.zeroValue0
 t3 := Tryz.underlying3
 a3 := Tryz.isAgg3
 z3 := Tryz.sizeOf3
 v3 := Tryz.zeroValue3
 t4 := Tryz.underlying4
 a4 := Tryz.isAgg4
 z4 := Tryz.sizeOf4
 v4 := Tryz.zeroValue4
 t9 := Tryz.underlying9
 a9 := Tryz.isAgg9
 z9 := Tryz.sizeOf9
 v9 := Tryz.zeroValue9
 t20 := Tryz.underlying20
 a20 := Tryz.isAgg20
 z20 := Tryz.sizeOf20
 v20 := Tryz.zeroValue20
 t31 := Tryz.underlying154
 a31 := Tryz.isAgg154
 z31 := Tryz.sizeOf154
 v31 := Tryz.zeroValue154
 t37 := Tryz.underlying159
 a37 := Tryz.isAgg159
 z37 := Tryz.sizeOf159
 v37 := Tryz.zeroValue159
 t70 := Tryz.underlying158
 a70 := Tryz.isAgg158
 z70 := Tryz.sizeOf158
 v70 := Tryz.zeroValue158
 t72 := Tryz.underlying161
 a72 := Tryz.isAgg161
 z72 := Tryz.sizeOf161
 v72 := Tryz.zeroValue161
 t75 := Tryz.underlying163
 a75 := Tryz.isAgg163
 z75 := Tryz.sizeOf163
 v75 := Tryz.zeroValue163
 t76 := Tryz.underlying164
 a76 := Tryz.isAgg164
 z76 := Tryz.sizeOf164
 v76 := Tryz.zeroValue164
 t127 := Tryz.underlying250
 a127 := Tryz.isAgg250
 z127 := Tryz.sizeOf250
 v127 := Tryz.zeroValue250
 t164 := Tryz.underlying303
 a164 := Tryz.isAgg303
 z164 := Tryz.sizeOf303
 v164 := Tryz.zeroValue303 }
theorem Tryz.Builder_Extra_156 : Builder.Extra Tryz.prog Tryz.lays156_ren := {
 sizeBuilder := by kernel_rfl
 liesBuilder := by kernel_rfl
 t5 := Tryz.underlying5
 a5 := Tryz.isAgg5
 z5 := Tryz.sizeOf5
 v5 := Tryz.zeroValue5
 infoByte := by kernel_rfl
 cellsByte := by kernel_rfl
 sizeByte := by kernel_rfl
 neB5 := by decide }
open Go.RowKit in
/-- No element: the empty string; the world is as it was. (Whatever the slice's address and capacity: a nil slice too.) (LAID: no walk: one application.) -/
theorem Tryz.strings_Join_none (a : Option Addr) (c : Nat) (sep : ByteArray) (w : World) :
 Calls Tryz.prog 257 #[.slice a 0 c, .string sep] w fun e w' => e = .returned (.string ⟨#[]⟩) ∧ w' = w := Any.strings_Join_none Tryz.lays156 Tryz.Builder_Extra_156 a c sep w
open Go.RowKit in
/-- strings.Join: "Join concatenates the elements of its first argument to create a single string. The separator string sep is placed between elements in the resulting string.": HOWEVER MANY ELEMENTS. Below the heap's end the world is as it was. (LAID: no walk: one application.) -/
theorem Tryz.strings_Join (bk o c : Nat) (xs : List ByteArray) (sep : ByteArray) (w : World) (hcells : ∀ (j : Nat) x, xs[j]? = some x → w.cell? ⟨bk, o + j, none⟩ = some (.string x)) (hbk : bk < w.heap.size) (hN : xs.length ≤ 140737488355328) (hcap : xs.length ≤ c) (hlen : (Lib.join (xs.map (·.data.toList)) sep.data.toList).length ≤ 140737488355328) :
 Calls Tryz.prog 257 #[.slice (some ⟨bk, o, none⟩) xs.length c, .string sep] w fun e w' => e = .returned (.string ⟨(Lib.join (xs.map (·.data.toList)) sep.data.toList).toArray⟩) ∧ Below w.heap.size w w' := Any.strings_Join Tryz.lays156 Tryz.Builder_Extra_156 bk o c xs sep w hcells hbk hN hcap hlen
def Tryz.laysM171_ren : Go.Shelf.Ren := ⟨fun | 171 => 183 | 243 => 238 | 246 => 275 | 283 => 289 | 284 => 290 | 285 => 291 | 286 => 292 | 129 => 297 | 317 => 296 | 318 => 298 | 319 => 299 | 320 => 300 | 337 => 302 | 338 => 303 | n => n, fun | 3 => 3 | 9 => 9 | 2 => 2 | 4 => 4 | 171 => 342 | 0 => 0 | 53 => 228 | 37 => 159 | 5 => 5 | 173 => 345 | 212 => 356 | 51 => 223 | 20 => 20 | 213 => 357 | 46 => 292 | 232 => 361 | 233 => 362 | n => n, fun | 17 => 5 | 18 => 6 | 19 => 7 | n => n⟩
theorem Tryz.laysM171 : Go.Proofs.LaysM.n171 Tryz.prog Tryz.laysM171_ren := {
 mixed := by kernel_rfl
 f129 := Tryz.func297.trans (congrArg some (by kernel_rfl))
 f171 := Tryz.func183.trans (congrArg some (by kernel_rfl))
 f243 := Tryz.func238.trans (congrArg some (by kernel_rfl))
 f246 := Tryz.func275.trans (congrArg some (by kernel_rfl))
 f283 := Tryz.func289.trans (congrArg some (by kernel_rfl))
 f284 := Tryz.func290.trans (congrArg some (by kernel_rfl))
 f285 := Tryz.func291.trans (congrArg some (by kernel_rfl))
 f286 := Tryz.func292.trans (congrArg some (by kernel_rfl))
 f317 := Tryz.func296.trans (congrArg some (by kernel_rfl))
 f318 := Tryz.func298.trans (congrArg some (by kernel_rfl))
 f319 := Tryz.func299.trans (congrArg some (by kernel_rfl))
 f320 := Tryz.func300.trans (congrArg some (by kernel_rfl))
 f337 := Tryz.func302.trans (congrArg some (by kernel_rfl))
 f338 := Tryz.func303.trans (congrArg some (by kernel_rfl))
 t0 := Tryz.underlying0
 a0 := Tryz.isAgg0
 z0 := Tryz.sizeOf0
 v0 := Tryz.zeroValue0
 t2 := Tryz.underlying2
 a2 := Tryz.isAgg2
 z2 := Tryz.sizeOf2
 v2 := Tryz.zeroValue2
 t3 := Tryz.underlying3
 a3 := Tryz.isAgg3
 z3 := Tryz.sizeOf3
 v3 := Tryz.zeroValue3
 t4 := Tryz.underlying4
 a4 := Tryz.isAgg4
 z4 := Tryz.sizeOf4
 v4 := Tryz.zeroValue4
 t5 := Tryz.underlying5
 a5 := Tryz.isAgg5
 z5 := Tryz.sizeOf5
 v5 := Tryz.zeroValue5
 t9 := Tryz.underlying9
 a9 := Tryz.isAgg9
 z9 := Tryz.sizeOf9
 v9 := Tryz.zeroValue9
 t20 := Tryz.underlying20
 a20 := Tryz.isAgg20
 z20 := Tryz.sizeOf20
 v20 := Tryz.zeroValue20
 t37 := Tryz.underlying159
 a37 := Tryz.isAgg159
 z37 := Tryz.sizeOf159
 v37 := Tryz.zeroValue159
 t46 := Tryz.underlying292
 a46 := Tryz.isAgg292
 z46 := Tryz.sizeOf292
 v46 := Tryz.zeroValue292
 t51 := Tryz.underlying223
 a51 := Tryz.isAgg223
 z51 := Tryz.sizeOf223
 v51 := Tryz.zeroValue223
 t53 := Tryz.underlying228
 a53 := Tryz.isAgg228
 z53 := Tryz.sizeOf228
 v53 := Tryz.zeroValue228
 t171 := Tryz.underlying342
 a171 := Tryz.isAgg342
 z171 := Tryz.sizeOf342
 v171 := Tryz.zeroValue342
 t173 := Tryz.underlying345
 a173 := Tryz.isAgg345
 z173 := Tryz.sizeOf345
 v173 := Tryz.zeroValue345
 t212 := Tryz.underlying356
 a212 := Tryz.isAgg356
 z212 := Tryz.sizeOf356
 v212 := Tryz.zeroValue356
 t213 := Tryz.underlying357
 a213 := Tryz.isAgg357
 z213 := Tryz.sizeOf357
 t232 := Tryz.underlying361
 a232 := Tryz.isAgg361
 z232 := Tryz.sizeOf361
 v232 := Tryz.zeroValue361
 t233 := Tryz.underlying362
 a233 := Tryz.isAgg362
 z233 := Tryz.sizeOf362
 v233 := Tryz.zeroValue362
 g17 := by kernel_rfl
 g18 := by kernel_rfl
 g19 := by kernel_rfl
 i0 := by kernel_rfl
 i2 := by kernel_rfl
 i3 := by kernel_rfl
 i4 := by kernel_rfl
 i5 := by kernel_rfl
 i9 := by kernel_rfl
 i20 := by kernel_rfl
 i37 := by kernel_rfl
 i46 := by kernel_rfl
 i51 := by kernel_rfl
 i53 := by kernel_rfl
 i171 := by kernel_rfl
 i173 := by kernel_rfl
 i212 := by kernel_rfl
 i232 := by kernel_rfl
 i233 := by kernel_rfl
 m17 := by kernel_rfl
 m18 := by kernel_rfl
 m19 := by kernel_rfl }
open Go.RowKit Go.Sort Go.Lib in
/-- strconv.Itoa: "Itoa is equivalent to FormatInt(int64(i), 10).": i's DECIMAL NUMERAL ('Lib.itoa': a '-' where i is negative, then the digits), FOR EVERY int. The world behind the call: the world before it, new blocks behind the heap (the library's 'var a [24]byte'), draws. (LAID: no walk: one application.) -/
theorem Tryz.strconv_Itoa (n : Int) (h0 : -9223372036854775808 ≤ n) (h1 : n ≤ 9223372036854775807) (w : World) (htab : Lib.TabIs Tryz.prog w "internal/strconv.uint64pow10" .u64 Lib.pow10Tab) :
 Calls Tryz.prog 183 #[.int .i64 n] w fun e w' => e = .returned (.string ⟨(Lib.itoa n).toArray⟩) ∧ ∃ k os, w' = grow (w.drewN k) os := Any.strconv_Itoa Tryz.laysM171 n h0 h1 w htab
def Tryz.laysPu14_ren : Go.Shelf.Ren := ⟨fun | 14 => 161 | 16 => 221 | 17 => 222 | 19 => 266 | 20 => 267 | 21 => 268 | 22 => 269 | 23 => 270 | 24 => 271 | 25 => 235 | 27 => 183 | 26 => 285 | 28 => 238 | 29 => 275 | 30 => 289 | 31 => 290 | 32 => 291 | 33 => 292 | 35 => 297 | 34 => 296 | 36 => 298 | 37 => 299 | 38 => 300 | 39 => 302 | 40 => 303 | n => n, fun | 9 => 9 | 3 => 3 | 22 => 228 | 24 => 163 | 25 => 229 | 4 => 4 | 34 => 321 | 5 => 5 | 36 => 292 | 37 => 159 | 0 => 0 | 39 => 323 | 21 => 21 | 44 => 337 | 47 => 250 | 50 => 354 | 48 => 352 | 2 => 2 | 52 => 342 | 55 => 345 | 59 => 356 | 60 => 223 | 20 => 20 | 61 => 357 | 65 => 361 | 66 => 362 | 67 => 167 | n => n, fun | 0 => 1 | 1 => 2 | 2 => 5 | 3 => 6 | 4 => 7 | n => n⟩
theorem Tryz.laysPu14 : Go.Proofs.LaysPu.n14 Tryz.prog Tryz.laysPu14_ren := {
 mixed := by kernel_rfl
 f14 := Tryz.func161.trans (congrArg some (by kernel_rfl))
 f16 := Tryz.func221.trans (congrArg some (by kernel_rfl))
 f17 := Tryz.func222.trans (congrArg some (by kernel_rfl))
 f19 := Tryz.func266.trans (congrArg some (by kernel_rfl))
 f20 := Tryz.func267.trans (congrArg some (by kernel_rfl))
 f21 := Tryz.func268.trans (congrArg some (by kernel_rfl))
 f22 := Tryz.func269.trans (congrArg some (by kernel_rfl))
 f23 := Tryz.func270.trans (congrArg some (by kernel_rfl))
 f24 := Tryz.func271.trans (congrArg some (by kernel_rfl))
 f25 := Tryz.func235.trans (congrArg some (by kernel_rfl))
 f26 := Tryz.func285.trans (congrArg some (by kernel_rfl))
 f27 := Tryz.func183.trans (congrArg some (by kernel_rfl))
 f28 := Tryz.func238.trans (congrArg some (by kernel_rfl))
 f29 := Tryz.func275.trans (congrArg some (by kernel_rfl))
 f30 := Tryz.func289.trans (congrArg some (by kernel_rfl))
 f31 := Tryz.func290.trans (congrArg some (by kernel_rfl))
 f32 := Tryz.func291.trans (congrArg some (by kernel_rfl))
 f33 := Tryz.func292.trans (congrArg some (by kernel_rfl))
 f34 := Tryz.func296.trans (congrArg some (by kernel_rfl))
 f35 := Tryz.func297.trans (congrArg some (by kernel_rfl))
 f36 := Tryz.func298.trans (congrArg some (by kernel_rfl))
 f37 := Tryz.func299.trans (congrArg some (by kernel_rfl))
 f38 := Tryz.func300.trans (congrArg some (by kernel_rfl))
 f39 := Tryz.func302.trans (congrArg some (by kernel_rfl))
 f40 := Tryz.func303.trans (congrArg some (by kernel_rfl))
 t0 := Tryz.underlying0
 a0 := Tryz.isAgg0
 z0 := Tryz.sizeOf0
 v0 := Tryz.zeroValue0
 i0 := by kernel_rfl
 t2 := Tryz.underlying2
 a2 := Tryz.isAgg2
 z2 := Tryz.sizeOf2
 v2 := Tryz.zeroValue2
 i2 := by kernel_rfl
 t3 := Tryz.underlying3
 a3 := Tryz.isAgg3
 z3 := Tryz.sizeOf3
 v3 := Tryz.zeroValue3
 i3 := by kernel_rfl
 t4 := Tryz.underlying4
 a4 := Tryz.isAgg4
 z4 := Tryz.sizeOf4
 v4 := Tryz.zeroValue4
 i4 := by kernel_rfl
 t5 := Tryz.underlying5
 a5 := Tryz.isAgg5
 z5 := Tryz.sizeOf5
 v5 := Tryz.zeroValue5
 i5 := by kernel_rfl
 t9 := Tryz.underlying9
 a9 := Tryz.isAgg9
 z9 := Tryz.sizeOf9
 v9 := Tryz.zeroValue9
 i9 := by kernel_rfl
 t20 := Tryz.underlying20
 a20 := Tryz.isAgg20
 z20 := Tryz.sizeOf20
 v20 := Tryz.zeroValue20
 i20 := by kernel_rfl
 t21 := Tryz.underlying21
 a21 := Tryz.isAgg21
 z21 := Tryz.sizeOf21
 v21 := Tryz.zeroValue21
 i21 := by kernel_rfl
 t22 := Tryz.underlying228
 a22 := Tryz.isAgg228
 z22 := Tryz.sizeOf228
 v22 := Tryz.zeroValue228
 i22 := by kernel_rfl
 t24 := Tryz.underlying163
 a24 := Tryz.isAgg163
 z24 := Tryz.sizeOf163
 v24 := Tryz.zeroValue163
 i24 := by kernel_rfl
 t25 := Tryz.underlying229
 a25 := Tryz.isAgg229
 z25 := Tryz.sizeOf229
 v25 := Tryz.zeroValue229
 i25 := by kernel_rfl
 t34 := Tryz.underlying321
 a34 := Tryz.isAgg321
 z34 := Tryz.sizeOf321
 v34 := Tryz.zeroValue321
 i34 := by kernel_rfl
 c34 := by kernel_rfl
 t36 := Tryz.underlying292
 a36 := Tryz.isAgg292
 z36 := Tryz.sizeOf292
 v36 := Tryz.zeroValue292
 i36 := by kernel_rfl
 t37 := Tryz.underlying159
 a37 := Tryz.isAgg159
 z37 := Tryz.sizeOf159
 v37 := Tryz.zeroValue159
 i37 := by kernel_rfl
 t39 := Tryz.underlying323
 a39 := Tryz.isAgg323
 z39 := Tryz.sizeOf323
 v39 := Tryz.zeroValue323
 i39 := by kernel_rfl
 t44 := Tryz.underlying337
 a44 := Tryz.isAgg337
 z44 := Tryz.sizeOf337
 v44 := Tryz.zeroValue337
 i44 := by kernel_rfl
 t47 := Tryz.underlying250
 a47 := Tryz.isAgg250
 z47 := Tryz.sizeOf250
 v47 := Tryz.zeroValue250
 i47 := by kernel_rfl
 t48 := Tryz.underlying352
 a48 := Tryz.isAgg352
 z48 := Tryz.sizeOf352
 v48 := Tryz.zeroValue352
 i48 := by kernel_rfl
 t50 := Tryz.underlying354
 a50 := Tryz.isAgg354
 z50 := Tryz.sizeOf354
 v50 := Tryz.zeroValue354
 i50 := by kernel_rfl
 t52 := Tryz.underlying342
 a52 := Tryz.isAgg342
 z52 := Tryz.sizeOf342
 v52 := Tryz.zeroValue342
 i52 := by kernel_rfl
 t55 := Tryz.underlying345
 a55 := Tryz.isAgg345
 z55 := Tryz.sizeOf345
 v55 := Tryz.zeroValue345
 i55 := by kernel_rfl
 t59 := Tryz.underlying356
 a59 := Tryz.isAgg356
 z59 := Tryz.sizeOf356
 v59 := Tryz.zeroValue356
 i59 := by kernel_rfl
 t60 := Tryz.underlying223
 a60 := Tryz.isAgg223
 z60 := Tryz.sizeOf223
 v60 := Tryz.zeroValue223
 i60 := by kernel_rfl
 t61 := Tryz.underlying357
 a61 := Tryz.isAgg357
 z61 := Tryz.sizeOf357
 t65 := Tryz.underlying361
 a65 := Tryz.isAgg361
 z65 := Tryz.sizeOf361
 v65 := Tryz.zeroValue361
 i65 := by kernel_rfl
 t66 := Tryz.underlying362
 a66 := Tryz.isAgg362
 z66 := Tryz.sizeOf362
 v66 := Tryz.zeroValue362
 i66 := by kernel_rfl
 t67 := Tryz.underlying167
 a67 := Tryz.isAgg167
 z67 := Tryz.sizeOf167
 v67 := Tryz.zeroValue167
 i67 := by kernel_rfl
 g0 := by kernel_rfl
 m0 := by kernel_rfl
 g1 := by kernel_rfl
 m1 := by kernel_rfl
 g2 := by kernel_rfl
 m2 := by kernel_rfl
 g3 := by kernel_rfl
 m3 := by kernel_rfl
 g4 := by kernel_rfl
 m4 := by kernel_rfl }
open Go.RowKit in
/-- strconv.ParseUint(s, 10, 32), AT EVERY STRING THAT SPELLS A uint32 ('Lib.parseUintB 32 s.data.toList = .ok u'): u, AND NO ERROR. (LAID: no walk: one application.) -/
theorem Tryz.strconv_ParseUint_10_at32_ok (s : ByteArray) (hmax : s.size ≤ 9223372036854775806) (u : Nat) (h : Lib.parseUintB 32 s.data.toList = .ok u) (w : World) :
 Calls Tryz.prog 161 #[.string s, .int .i64 10, .int .i64 32] w fun e w' => e = .returned (.tuple #[.int .u64 u, .nilIface]) ∧ (w' = w ∨ w' = Lib.bytesWorld w 5 s) := Any.strconv_ParseUint_10_at32_ok Tryz.laysPu14 s hmax u h w
def Tryz.lays212_ren : Go.Shelf.Ren := ⟨fun | 212 => 251 | 263 => 277 | 264 => 278 | n => n, fun | 46 => 292 | 51 => 223 | 146 => 329 | 53 => 228 | 148 => 331 | n => n, fun | n => n⟩
theorem Tryz.lays212 : Go.Proofs.Lays.n212 Tryz.prog Tryz.lays212_ren := {
 mixed := by kernel_rfl
 f212 := Tryz.func251.trans (congrArg some (by kernel_rfl))
 f263 := Tryz.func277.trans (congrArg some (by kernel_rfl))
 f264 := Tryz.func278.trans (congrArg some (by kernel_rfl))
 t46 := Tryz.underlying292
 a46 := Tryz.isAgg292
 z46 := Tryz.sizeOf292
 v46 := Tryz.zeroValue292
 t51 := Tryz.underlying223
 a51 := Tryz.isAgg223
 z51 := Tryz.sizeOf223
 v51 := Tryz.zeroValue223
 t53 := Tryz.underlying228
 a53 := Tryz.isAgg228
 z53 := Tryz.sizeOf228
 v53 := Tryz.zeroValue228
 t146 := Tryz.underlying329
 a146 := Tryz.isAgg329
 z146 := Tryz.sizeOf329
 v146 := Tryz.zeroValue329
 t148 := Tryz.underlying331
 a148 := Tryz.isAgg331
 z148 := Tryz.sizeOf331
 v148 := Tryz.zeroValue331 }
open Go.RowKit Go.Lib in
/-- math/bits.Mul: "Mul returns the full-width product of x and y": on a machine of 64 bits: Mul64's. (LAID: no walk: one application.) -/
theorem Tryz.bits_Mul (x y : Nat) (hx : x < 18446744073709551616) (hy : y < 18446744073709551616) (w : World) :
 Calls Tryz.prog 251 #[.int .u64 x, .int .u64 y] w fun e w' => e = .returned (.tuple #[.int .u64 ((x * y / 18446744073709551616 : Nat) : Int), .int .u64 ((x * y % 18446744073709551616 : Nat) : Int)]) ∧ w' = w := Any.bits_Mul Tryz.lays212 x y hx hy w
end Go.Proofs
namespace Go.Proofs.YtkncmbklkhjmgaaGreatDoor
open Go.Ax Go.Ax.Bg Go.RowKit
theorem zNB (w : World) (q : Nat) (os : Array Obj) : Below w.heap.size w (Go.Sort.grow (w.drewN q) os) := by
 refine ⟨Z, Z, Z, ?_, fun k hk => ?_⟩
 ·show w.heap.size ≤ (w.heap ++ os).size
  simp
 ·show (w.heap ++ os)[k]? = w.heap[k]?
  rw [Array.getElem?_append_left hk]
theorem vals1 {w : World} {S : Nat → Prop} {σ : Nat → Option Blk} {a : AV} {vals : Array Value} (hv : VRs w S σ [a] vals) : ∃ x, vals = #[x] ∧ VR w S σ a x := by
 obtain ⟨h1, h2⟩ := hv
 have q := h2 0 (by simp)
 have hl : vals.toList.length = 1 := by simpa using h1
 match hq : vals.toList, hl with
 | [x], _ =>
  have e : vals = #[x] := by rw [← Array.toArray_toList (xs := vals), hq]
  subst e
  exact ⟨x, Z, by simpa using q⟩
theorem vals2 {w : World} {S : Nat → Prop} {σ : Nat → Option Blk} {a b : AV} {vals : Array Value} (hv : VRs w S σ [a, b] vals) : ∃ x y, vals = #[x, y] ∧ VR w S σ a x ∧ VR w S σ b y := by
 obtain ⟨h1, h2⟩ := hv
 have q := h2 0 (by simp)
 have q1 := h2 1 (by simp)
 have hl : vals.toList.length = 2 := by simpa using h1
 match hq : vals.toList, hl with
 | [x, y], _ =>
  have e : vals = #[x, y] := by rw [← Array.toArray_toList (xs := vals), hq]
  subst e
  exact ⟨x, y, Z, by simpa using q, by simpa using q1⟩
theorem vals3 {w : World} {S : Nat → Prop} {σ : Nat → Option Blk} {a b c : AV} {vals : Array Value} (hv : VRs w S σ [a, b, c] vals) : ∃ x y z, vals = #[x, y, z] ∧ VR w S σ a x ∧ VR w S σ b y ∧ VR w S σ c z := by
 obtain ⟨h1, h2⟩ := hv
 have q := h2 0 (by simp)
 have q1 := h2 1 (by simp)
 have q2 := h2 2 (by simp)
 have hl : vals.toList.length = 3 := by simpa using h1
 match hq : vals.toList, hl with
 | [x, y, z], _ =>
  have e : vals = #[x, y, z] := by rw [← Array.toArray_toList (xs := vals), hq]
  subst e
  exact ⟨x, y, z, Z, by simpa using q, by simpa using q1, by simpa using q2⟩
theorem itoa (n : Int) (h : -9223372036854775808 ≤ n ∧ n ≤ 9223372036854775807) : zU Tryz.prog 183 [.int .i64 n] (.str (Lib.itoa n)) := by
 refine zU.of_below ⟨Tryz.f183, Z, by kernel_rfl, Z⟩ Z Z (fun w S vals hG hS hv => ?_)
 obtain ⟨x, rfl, a⟩ := vals1 hv
 have hx : x = .int .i64 n := by cases a; rfl
 subst hx
 have hp : pinG w := hG
 refine (Tryz.strconv_Itoa n h.1 h.2 w hp.2.1).mono ?_
 rintro e w' ⟨rfl, k, os, rfl⟩
 exact ⟨_, Z, zNB w k os, .str _ _⟩
theorem itoaN (n : Nat) (h : n ≤ 9223372036854775807) : zU Tryz.prog 183 [iN n] (.str (Lib.decDigits n)) := by
 have := itoa n ⟨by omega, by omega⟩
 rwa [Go.Ax.Tb.itoa_nat] at this
theorem mulB (a b : Nat) (ha : a < 18446744073709551616) (hb : b < 18446744073709551616) : zU Tryz.prog 251 [.int .u64 (a : Nat), .int .u64 (b : Nat)] (.tup [.int .u64 (a * b / 18446744073709551616 : Nat), .int .u64 (a * b % 18446744073709551616 : Nat)]) := by
 refine zU.of_below ⟨Tryz.f251, Z, by kernel_rfl, Z⟩ Z Z (fun w S vals hG hS hv => ?_)
 obtain ⟨x, y, rfl, p, q⟩ := vals2 hv
 have hx : x = .int .u64 (a : Nat) := by cases p; rfl
 have hy : y = .int .u64 (b : Nat) := by cases q; rfl
 subst hx hy
 refine (Tryz.bits_Mul a b ha hb w).mono ?_
 rintro e w' ⟨rfl, rfl⟩
 refine ⟨_, Z, Below.refl _ _, .tup _ _ _ Z (fun i hi => ?_)⟩
 match i, hi with
 | 0, _ => exact .int _ _ _
 | 1, _ => exact .int _ _ _
theorem parse32 (s : List UInt8) (u : Nat) (hl : s.length ≤ 1000) (h : Lib.parseUintB 32 s = .ok u) : zU Tryz.prog 161 [.str s, .int .i64 10, .int .i64 32] (.tup [.int .u64 (u : Nat), .nilif]) := by
 refine zU.of_below ⟨Tryz.f161, Z, by kernel_rfl, Z⟩ Z Z (fun w S vals hG hS hv => ?_)
 obtain ⟨x, y, z, rfl, p, q, r⟩ := vals3 hv
 have hx : x = zJs s := by cases p; rfl
 have hy : y = .int .i64 10 := by cases q; rfl
 have hz : z = .int .i64 32 := by cases r; rfl
 subst hx hy hz
 have hd : (⟨s.toArray⟩ : ByteArray).data.toList = s := by simp
 have hsz : (⟨s.toArray⟩ : ByteArray).size = s.length := by simp [ByteArray.size]
 refine (Tryz.strconv_ParseUint_10_at32_ok ⟨s.toArray⟩ (by rw [hsz]; omega) u (by rw [hd]; exact h) w).mono ?_
 rintro e w' ⟨rfl, hw⟩
 refine ⟨_, Z, ?_, .tup _ _ _ Z (fun i hi => ?_)⟩
 ·rcases hw with rfl | rfl
  ·exact Below.refl _ _
  ·exact Lib.bytesWorld_below _ _ _
 ·match i, hi with
  | 0, _ => exact .int _ _ _
  | 1, _ => exact .nilif _
theorem join (ls : List (List UInt8)) (sep : List UInt8) (hN : ls.length ≤ 140737488355328) (hj : (Lib.join ls sep).length ≤ 140737488355328) : zU Tryz.prog 257 [.ro (.strs ls) 0 ls.length, .str sep] (.str (Lib.join ls sep)) := by
 refine zU.of_below ⟨Tryz.f257, Z, by kernel_rfl, Z⟩ Z Z (fun w S vals hG hS hv => ?_)
 obtain ⟨x, y, rfl, a, b⟩ := vals2 hv
 have hy : y = zJs sep := by cases b; rfl
 subst hy
 have hsep : (⟨sep.toArray⟩ : ByteArray).data.toList = sep := by simp
 have hbyte : ∀ l : List UInt8, (⟨l.toArray⟩ : ByteArray).data.toList = l := fun l => by simp
 generalize hn : ls.length = n at a
 cases a with
 | ro0 _ _ _ ad cap =>
  have : ls = [] := List.length_eq_zero_iff.mp hn
  subst this
  refine (Tryz.strings_Join_none ad cap ⟨sep.toArray⟩ w).mono ?_
  rintro e w' ⟨rfl, rfl⟩
  exact ⟨_, Z, Below.refl _ _, .str _ []⟩
 | ro _ _ _ _ bk o cap val hSb hlen hc hvv h1' =>
  subst hn
  have hxs : (ls.map (fun l => (⟨l.toArray⟩ : ByteArray))).length = ls.length := by simp
  have c := Tryz.strings_Join bk o cap (ls.map (fun l => (⟨l.toArray⟩ : ByteArray))) ⟨sep.toArray⟩ w (fun j x hx => ?_) (hS _ hSb) (by simpa using hN) (by simpa using hlen) ?_
  ·rw [hxs] at c
   refine c.mono ?_
   rintro e w' ⟨rfl, hb⟩
   have e2 : ((ls.map (fun l => (⟨l.toArray⟩ : ByteArray))).map (fun x => x.data.toList)) = ls := by rw [List.map_map]; exact (List.map_congr_left (fun x _ => rfl)).trans (List.map_id _)
   rw [e2, hsep]
   exact ⟨_, Z, hb, .str _ _⟩
  ·simp only [List.getElem?_map, Option.map_eq_some_iff] at hx
   obtain ⟨l, hl, rfl⟩ := hx
   have hlt : j < ls.length := (List.getElem?_eq_some_iff.1 hl).1
   have q := hc j 0 hlt (by simp [Cells.sz])
   have v := hvv j 0 hlt (by simp [Cells.sz])
   simp only [Cells.sz, Nat.mul_one, Nat.add_zero] at q
   simp only [Cells.at, Nat.zero_add, List.getD, hl, Option.getD_some] at v
   rw [q]
   generalize val j 0 = z at v
   cases v; rfl
  ·have e2 : ((ls.map (fun l => (⟨l.toArray⟩ : ByteArray))).map (fun x => x.data.toList)) = ls := by rw [List.map_map]; exact (List.map_congr_left (fun x _ => rfl)).trans (List.map_id _)
   rw [e2, hsep]; exact hj
end Go.Proofs.YtkncmbklkhjmgaaGreatDoor
namespace Go.Proofs.YtkncmbklkhjmgaaGreatDoor
open Go.Ax Go.Ax.Bg Go.RowKit
attribute [local irreducible] Ax zBn QOp zQ
def zIl (s p : List UInt8) : Bool := decide (p.length ≤ s.length ∧ s.take p.length = p)
theorem zQQ (s p : List UInt8) (hs : s.length ≤ 9223372036854775807) (hp : p.length ≤ 9223372036854775807) : zU Tryz.prog 212 [.str s, .str p] (.bool (zIl s p)) := by
 refine zQ.value0 (zE (P := Tryz.prog) (fn := Tryz.f212) Z Z (by kernel_rfl) Z (fun c hR hfix => ?_)) (fix := fun _ => False) (fun _ h => h) Z Z
 refine rn8 ?_
 refine zAi Z Z (fun h0 => ?_) (fun h0 => ?_)
 ·refine zF6 ?_
  refine zL hR Z ?_
  show AV.bool (decide ((List.drop _ s).take _ = p)) = _
  unfold zIl
  congr 1
  rw [decide_eq_decide]
  simp only [Int.toNat_zero, List.drop_zero, Int.toNat_natCast, Nat.sub_zero]
  exact ⟨fun h => ⟨by omega, h⟩, fun h => h.2⟩
 ·refine rn6 ?_
  refine zL hR Z ?_
  show AV.bool false = _
  unfold zIl
  rw [decide_eq_false]
  exact fun h => h0 (by omega)
theorem zJ2 (s p : List UInt8) (hs : s.length ≤ 9223372036854775807) (hp : p.length ≤ 9223372036854775807) : zU Tryz.prog 254 [.str s, .str p] (.bool (zIl s p)) := by
 have hc := zQQ s p hs hp
 refine zQ.value0 (zE (P := Tryz.prog) (fn := Tryz.f254) Z Z (by kernel_rfl) Z (fun c hR hfix => ?_)) (fix := fun _ => False) (fun _ h => h) Z Z
 generalize zIl s p = b at *
 refine rn0 ?_
 refine zB Z Z Z hc ?_
 refine rn0 ?_
 exact zL hR Z Z
/-- strings.Repeat("0", n), n small. -/
theorem repeat0 (n : Nat) (hn : n ≤ 60) : zU Tryz.prog 255 [.str [48], iN n] (.str (List.replicate n 48)) := by
 refine zQ.value0 (zE (P := Tryz.prog) (fn := Tryz.f255) Z Z (by kernel_rfl) Z (fun c hR hfix => ?_)) (fix := fun _ => False) (fun _ h => h) Z Z
 refine rn4 ?_
 refine zA Z (fun h0 => ?_) (fun h0 => ?_)
 ·have : n = 0 := by omega
  subst this
  refine rn6 ?_
  exact zL hR Z Z
 refine rn4 ?_
 refine zA Z (fun h1 => ?_) (fun h1 => ?_)
 ·have : n = 1 := by omega
  subst this
  refine rn6 ?_
  exact zL hR Z Z
 refine rn6 ?_
 have hm := mulB 1 n (by omega) (by omega)
 rw [Nat.one_mul, Nat.div_eq_of_lt (by omega), Nat.mod_eq_of_lt (by omega)] at hm
 have p1 : zU Tryz.prog 254 [.str (List.replicate 128 32), .str [48]] (.bool false) := zJ2 _ _ (by decide) (by decide)
 have p2 : zU Tryz.prog 254 [.str (List.replicate 128 45), .str [48]] (.bool false) := zJ2 _ _ (by decide) (by decide)
 have p3 : zU Tryz.prog 254 [.str (List.replicate 64 48), .str [48]] (.bool true) := zJ2 _ _ (by decide) (by decide)
 refine zG (zAT (m := 1) Z Z Z zBW (by decide)) ?_
 repeat (refine zG (zK rfl) ?_)
 refine zG (zAT (m := n) Z Z Z zBW (by omega)) ?_
 refine zB Z Z Z hm ?_
 refine rn6 ?_
 refine zA Z (fun h => absurd h (by omega)) (fun h => ?_)
 refine rn1 ?_
 refine zG (zF2 (m := n) Z Z Z (by omega)) ?_
 refine rn12 ?_
 refine zAi Z Z (fun h3 => ?_) (fun h3 => absurd (show (n : Int) ≤ 128 by omega) h3)
 refine rn2 ?_
 refine zB Z Z Z p1 ?_
 refine rn8 ?_
 refine zAi Z Z (fun h4 => ?_) (fun h4 => absurd (show (n : Int) ≤ 128 by omega) h4)
 refine rn2 ?_
 refine zB Z Z Z p2 ?_
 refine rn8 ?_
 refine zAi Z Z (fun h5 => ?_) (fun h5 => absurd (show (n : Int) ≤ 64 by omega) h5)
 refine rn2 ?_
 refine zB Z Z Z p3 ?_
 refine rn5 ?_
 refine zG (zD2 Z Z Z Z Z Z (by show (0 : Int) ≤ 0 ∧ (0 : Int) ≤ (n : Nat) ∧ ((n : Nat) : Int) ≤ ((64 : Nat) : Int); omega)) ?_
 refine rn6 ?_
 refine zL hR Z ?_
 show AV.str ((List.drop 0 (List.replicate 64 48)).take (n - 0)) = _
 rw [List.drop_zero, Nat.sub_zero, List.take_replicate, Nat.min_eq_left (by omega)]
/-- strings.asciiSet: the digits. -/
def zEX (k : Nat) : List AV := (List.range 256).map fun j => AV.bool (decide (48 ≤ j ∧ j < 48 + k))
theorem zCi (k : Nat) : (zEX k).length = 256 := by unfold zEX; simp
theorem zJ6 (k j : Nat) (hj : j < 256) : (zEX k)[j]? = some (AV.bool (decide (48 ≤ j ∧ j < 48 + k))) := by
 unfold zEX
 rw [List.getElem?_map, List.getElem?_range hj]; rfl
theorem setL_set (k : Nat) (hk : k < 10) : (zEX k).set (48 + k) (.bool true) = zEX (k + 1) := by
 apply List.ext_getElem?
 intro i
 rcases Nat.lt_or_ge i 256 with hi | hi
 ·rw [zJ6 (k + 1) i hi]
  by_cases h : i = 48 + k
  ·subst h
   rw [List.getElem?_set_self (by rw [zCi]; exact hi)]
   congr 2
   exact (decide_eq_true (by omega)).symm
  ·rw [List.getElem?_set_ne (Ne.symm h), zJ6 k i hi]
   congr 2
   rw [decide_eq_decide]; omega
 ·rw [List.getElem?_eq_none (by rw [List.length_set, zCi]; exact hi), List.getElem?_eq_none (by rw [zCi]; exact hi)]
def digS : List UInt8 := [48, 49, 50, 51, 52, 53, 54, 55, 56, 57]
theorem zP1 (k : Nat) (hk : k < 10) : (digS.getD k 0).toNat = 48 + k := by
 have : k = 0 ∨ k = 1 ∨ k = 2 ∨ k = 3 ∨ k = 4 ∨ k = 5 ∨ k = 6 ∨ k = 7 ∨ k = 8 ∨ k = 9 := by omega
 rcases this with rfl | rfl | rfl | rfl | rfl | rfl | rfl | rfl | rfl | rfl <;> rfl
theorem box_all (l : List AV) : (List.range (Cells.box l).sz).map ((Cells.box l).at 0) = l := by
 apply List.ext_getElem?
 intro i
 rcases Nat.lt_or_ge i l.length with h | h
 ·rw [List.getElem?_map, List.getElem?_range (by exact h)]
  show some (l.getD i .any) = _
  rw [List.getD, List.getElem?_eq_getElem h]; rfl
 ·rw [List.getElem?_eq_none (by simpa [Cells.sz] using h), List.getElem?_eq_none h]
theorem set_ok : zU Tryz.prog 216 [.str digS] (.tup [.agg (zEX 10), .bool true]) := by
 refine zQ.value0 (zE (P := Tryz.prog) (fn := Tryz.f216) Z Z (by kernel_rfl) Z (fun c hR hfix => ?_)) (fix := fun _ => False) (fun _ h => h) Z (by kernel_rfl)
 refine rn4 ?_
 refine zAj [some ⟨286, .box (zEX 0)⟩] (by kernel_rfl) ?_
 refine zZ (ι := Nat) (fun k => [(0, .str digS), (2, .ptr 0 0 0), (4, iN k)]) (fun k => [some ⟨286, .box (zEX k)⟩]) (fun k => k ≤ 10) (fun k => 10 - k) 0 ⟨⟨Z, Z, Z, trivial⟩, Z, by omega⟩ ?_
 rintro k hk
 have hdl : digS.length = 10 := rfl
 refine rn6 ?_
 refine zA Z (fun h1 => ?_) (fun h1 => ?_)
 ·have hk2 : k < 10 := by omega
  refine rn12 ?_
  refine zA Z (fun h2 => absurd h2 (by rw [Int.toNat_natCast, zP1 k hk2]; omega)) (fun h2 => ?_)
  refine rn1 ?_
  refine zD 18 (.int .u8 (48 + k : Nat)) Z (AEq.of_eq (by rw [Int.toNat_natCast, zP1 k hk2])) ?_
  refine zG (zIn (m := ((48 + k : Nat) : Int)) (jx := 48 + k) Z Z Z Z (by rw [Int.toNat_natCast, Nat.zero_add]) (by omega)) ?_
  refine zBg Z Z Z Z Z (by rw [show (Cells.box (zEX k)).sz = 256 from zCi k]; exact Nat.ble_eq.symm ▸ (by omega : 48 + k + 1 ≤ 256)) Z Nat.zero_lt_one ?_
  refine rn5 ?_
  refine zJ ⟨k + 1, by omega, by omega, ⟨Z, Z, Z, trivial⟩, ?_⟩
  show ([some ⟨_, .box ((zEX k).set (48 + k) (.bool true))⟩] : zN) = _
  rw [setL_set k hk2]
 ·have hke : k = 10 := by omega
  subst hke
  refine rn5 ?_
  refine zG (zHm (ob := ⟨286, .box (zEX 10)⟩) Z Z Z (zCi 10).symm Z Z (box_all _) Nat.zero_lt_one) ?_
  refine zz (c' := .box (zEX 10)) Z Z (by rw [show (Cells.box (zEX 10)).sz = 256 from zCi 10]; rfl) Z (by rw [show (Cells.box (zEX 10)).sz = 256 from zCi 10]; exact zCi 10) Nat.zero_lt_one Z Z (fun i' j' hi' hj' => ?_) ?_
  ·rw [if_pos (Nat.lt_one_iff.1 hi')]; rfl
  refine rn0 ?_
  exact zL hR Z Z
theorem zJg (ch : UInt8) : zU Tryz.prog 262 [.rp (.box (zEX 10)) 0 0, .int .u8 (ch.toNat : Nat)] (.bool (dg ch)) := by
 have hlt := ch.toNat_lt
 have hat := zJ6 10 ch.toNat (by simpa using hlt)
 refine zQ.value0 (zE (P := Tryz.prog) (fn := Tryz.f262) Z Z (by kernel_rfl) Z (fun c hR hfix => ?_)) (fix := fun _ => False) (fun _ h => h) Z Z
 refine rn15 ?_
 refine zG (zNt (m := ((ch.toNat : Nat) : Int)) (jx := ch.toNat) Z Z Z Z (by rw [Int.toNat_natCast, Nat.zero_add]) (by omega)) ?_
 refine zG (zD1 Z Z Z hat) ?_
 refine rn0 ?_
 exact zL hR Z Z
theorem right_ok (s : List UInt8) (hs : s.length ≤ 9223372036854775807) : zU Tryz.prog 218 [.str s, .rp (.box (zEX 10)) 0 0] (.str (trR s)) := by
 refine zQ.value0 (zE (P := Tryz.prog) (fn := Tryz.f218) Z Z (by kernel_rfl) Z (fun c hR hfix => ?_)) (fix := fun _ => False) (fun _ h => h) Z Z
 refine rn1 ?_
 refine zZ (ι := Nat) (fun k => [(0, .str (s.take k)), (1, .rp (.box (zEX 10)) 0 0)]) (fun _ => []) (fun k => k ≤ s.length ∧ (s.drop k).all dg = true) (fun k => k) s.length ⟨⟨by rw [List.take_length]; rfl, Z, trivial⟩, Z, Nat.le_refl _, by simp⟩ ?_
 rintro k ⟨hk, hd⟩
 have hlen : (s.take k).length = k := by simp; omega
 have hof := trR_of hk hd
 refine rn6 ?_
 refine zA Z (fun h1 => ?_) (fun h1 => ?_)
 ·have hk1 : 0 < k := by omega
  have hg : (s.take k).getD (k - 1) 0 = s.getD (k - 1) 0 := by
   simp only [List.getD, List.getElem?_take, show k - 1 < k by omega, if_true]
  have e1 : ((k : Int) - 1).toNat = k - 1 := by omega
  have hc := zJg (s.getD (k - 1) 0)
  refine rn19 ?_
  refine zD 13 (.int .u8 ((s.getD (k - 1) 0).toNat : Nat)) Z (AEq.of_eq (by rw [hlen, e1, hg])) ?_
  refine zB Z Z Z hc ?_
  refine rn5 ?_
  refine zEg Z (fun h2 => ?_) (fun h2 => ?_)
  ·have h3 : dg (s.getD (k - 1) 0) = false := by simpa using h2
   refine rn14 ?_
   refine zL hR Z ?_
   rw [hof (.inr h3)]; rfl
  ·have h3 : dg (s.getD (k - 1) 0) = true := by simpa using h2
   refine rn8 ?_
   refine zG (zD2 Z Z Z Z Z Z (by omega)) ?_
   refine rn5 ?_
   refine zJ ⟨k - 1, ⟨by omega, ?_⟩, by omega, ⟨?_, Z, trivial⟩, Z⟩
   ·rw [zCl s 0 (k - 1) (by omega), show k - 1 + 1 = k by omega, List.all_cons, h3, hd]; rfl
   ·show some (AV.str ((List.drop 0 (s.take k)).take ((((s.take k).length : Int) - 1).toNat - 0))) = _
    rw [List.drop_zero, hlen, e1, Nat.sub_zero, List.take_take, Nat.min_eq_left (by omega)]
 ·have hk0 : k = 0 := by omega
  subst hk0
  refine rn5 ?_
  refine zL hR Z ?_
  rw [hof (.inl rfl)]; rfl
theorem left_ok (s : List UInt8) (hs : s.length ≤ 9223372036854775807) : zU Tryz.prog 217 [.str s, .rp (.box (zEX 10)) 0 0] (.str (trL s)) := by
 refine zQ.value0 (zE (P := Tryz.prog) (fn := Tryz.f217) Z Z (by kernel_rfl) Z (fun c hR hfix => ?_)) (fix := fun _ => False) (fun _ h => h) Z Z
 refine rn1 ?_
 refine zZ (ι := Nat) (fun k => [(0, .str (s.drop k)), (1, .rp (.box (zEX 10)) 0 0)]) (fun _ => []) (fun k => k ≤ s.length ∧ (s.take k).all dg = true) (fun k => s.length - k) 0 ⟨⟨by rw [List.drop_zero]; rfl, Z, trivial⟩, Z, Nat.zero_le _, by simp⟩ ?_
 rintro k ⟨hk, hd⟩
 have hlen : (s.drop k).length = s.length - k := by simp
 have hof := trL_of hd
 refine rn6 ?_
 refine zA Z (fun h1 => ?_) (fun h1 => ?_)
 ·have hk1 : k < s.length := by omega
  have hg : (s.drop k).getD 0 0 = s.getD k 0 := by simp [List.getD]
  have hc := zJg (s.getD k 0)
  refine rn12 ?_
  refine zD 10 (.int .u8 ((s.getD k 0).toNat : Nat)) Z (AEq.of_eq (by rw [Int.toNat_zero, hg])) ?_
  refine zB Z Z Z hc ?_
  refine rn5 ?_
  refine zEg Z (fun h2 => ?_) (fun h2 => ?_)
  ·have h3 : dg (s.getD k 0) = false := by simpa using h2
   refine rn14 ?_
   refine zL hR Z ?_
   rw [hof (.inr h3)]; rfl
  ·have h3 : dg (s.getD k 0) = true := by simpa using h2
   refine rn1 ?_
   refine zG (zD2 Z Z Z Z Z Z (by omega)) ?_
   refine rn5 ?_
   refine zJ ⟨k + 1, ⟨by omega, ?_⟩, by omega, ⟨?_, Z, trivial⟩, Z⟩
   ·rw [zBN s 0 k hk1, List.all_append, hd]; simp only [List.all_cons, List.all_nil, h3, Bool.and_true]
   ·show some (AV.str ((List.drop 1 (s.drop k)).take ((s.drop k).length - 1))) = _
    rw [List.drop_drop, List.take_of_length_le (by simp; omega)]
 ·have hk0 : s.length ≤ k := by omega
  refine rn5 ?_
  refine zL hR Z ?_
  rw [hof (.inl hk0)]; rfl
theorem trim_ok (s : List UInt8) (hs : s.length ≤ 9223372036854775807) : zU Tryz.prog 160 [.str s, .str digS] (.str (trL (trR s))) := by
 have h1 := set_ok
 have h2 := right_ok s hs
 have hle : (trR s).length ≤ s.length := by
  unfold trR
  rw [List.length_reverse]
  have := (List.dropWhile_sublist (p := dg) (l := s.reverse)).length_le
  simpa using this
 have h3 := left_ok (trR s) (by omega)
 refine zQ.value0 (zE (P := Tryz.prog) (fn := Tryz.f160) Z Z (by kernel_rfl) Z (fun c hR hfix => ?_)) (fix := fun _ => False) (fun _ h => h) Z Z
 have hl := zCi 10
 refine rn6 ?_
 by_cases h0 : s = []
 ·subst h0
  refine rn6 ?_
  exact zL hR Z Z
 rw [show decide (s = _) = false from decide_eq_false h0]
 refine rn6 ?_
 refine zB Z Z Z h1 ?_
 refine rn4 ?_
 refine zz (c' := .box (zEX 10)) Z Z Z Z (zCi 10) Nat.zero_lt_one Z (zCi 10) (fun i' j' hi' hj' => ?_) ?_
 ·rw [if_pos (Nat.lt_one_iff.1 hi')]; rfl
 refine rn5 ?_
 have hrl : ∀ (h : Nat) (o : AObj), ([some ⟨286, .box (zEX 10)⟩] : zN)[h]? = some (some o) → zAd o.c := zKl (fun i j hi hj => by
  show noRef ((zEX 10).getD j .any) = true
  rw [List.getD, zJ6 10 j (by have : j < (zEX 10).length := hj; rwa [zCi] at this)]; rfl)
 refine zO [some ⟨286, .box (zEX 10)⟩] Z ?_
 refine zIK rfl rfl rfl rfl h2 hrl ⟨trivial, fun o ho => by simp at ho; subst ho; exact Nat.zero_lt_one, trivial⟩ rfl rfl rfl ?_
 skip
 refine zIK rfl rfl rfl rfl h3 hrl ⟨trivial, fun o ho => by simp at ho; subst ho; exact Nat.zero_lt_one, trivial⟩ rfl rfl rfl ?_
 refine rn2 ?_
 exact zL hR Z Z
end Go.Proofs.YtkncmbklkhjmgaaGreatDoor
namespace Go.Proofs.YtkncmbklkhjmgaaGreatDoor
open Go.Ax Go.Ax.Bg Go.RowKit
open Go.Ax.Tb (zBm zEI zB4 zCk)
attribute [local irreducible] Ax zBn QOp zQ
theorem zQO {i : Nat} (h : i ≤ 9) : 10 ^ i ≤ 1000000000 := by
 have := Nat.pow_le_pow_right (show 0 < 10 by decide) h
 exact Nat.le_trans this (by decide)
theorem zJ4 (S : List UInt8) (hd : ∀ c ∈ S, zBm c) (hl : S.length ≤ 1000000) : zU Tryz.prog 80 [.str S] (zh (zA7 0 S)) := by
 refine zQ.value0 (zE (P := Tryz.prog) (fn := Tryz.f80) Z Z (by kernel_rfl) Z (fun c hR hfix => ?_)) (fix := fun _ => False) (fun _ h => h) Z Z
 refine rn0 ?_
 refine z8 3 (zh 0) Z AEq.natNil ?_
 refine zAA ?_
 refine zZ (ι := Nat × List UInt8) (fun p => [(0, .str p.2), (3, zh p.1)]) (fun _ => []) (fun p => p.2.length ≤ S.length ∧ (∀ c ∈ p.2, zBm c) ∧ zA7 p.1 p.2 = zA7 0 S ∧ p.1 < 10 ^ (S.length - p.2.length)) (fun p => p.2.length) (0, S) ⟨⟨Z, Z, trivial⟩, Z, Nat.le_refl _, hd, Z, by simp⟩ ?_
 rintro ⟨v, s⟩ ⟨h1, h2, h3, h4⟩
 simp only at *
 refine rn6 ?_
 refine zA Z (fun h5 => ?_) (fun h5 => ?_)
 ·have hs0 : s ≠ [] := by rintro rfl; simp at h5
  obtain ⟨k, hk, hk1, hk9, hks⟩ : ∃ k : Nat, (if (9 : Int) < (s.length : Nat) then (9 : Int) else (s.length : Nat)) = (k : Int) ∧ 1 ≤ k ∧ k ≤ 9 ∧ k ≤ s.length := by
   have : 0 < s.length := List.length_pos_iff.2 hs0
   by_cases hz : (9 : Int) < (s.length : Nat)
   ·exact ⟨9, by rw [if_pos hz]; rfl, by omega, by omega, by omega⟩
   ·exact ⟨s.length, by rw [if_neg hz], by omega, by omega, Nat.le_refl _⟩
  have ht0 : s.take k ≠ [] := by
   intro e
   have := congrArg List.length e
   rw [List.length_take, Nat.min_eq_left hks] at this
   simp at this; omega
  have htl : (s.take k).length = k := by rw [List.length_take, Nat.min_eq_left hks]
  obtain ⟨hp, hplt⟩ := zFB ht0 (fun c hc => h2 c (List.mem_of_mem_take hc)) (by omega)
  have hp32 := parse32 (s.take k) _ (by omega) hp
  have hdv : zA7 (v * 10 ^ k + zA7 0 (s.take k)) (s.drop k) = zA7 0 S := by
   rw [← h3]
   conv => rhs; rw [← List.take_append_drop k s]
   rw [zGv, zGu (s.take k) v, htl]
  have hxlt := zJw (l := s.take k) (fun c hc => h2 c (List.mem_of_mem_take hc))
  rw [htl] at hxlt
  have hvn : v * 10 ^ k + zA7 0 (s.take k) < 10 ^ (S.length - (s.drop k).length) := by
   rw [List.length_drop, show S.length - (s.length - k) = (S.length - s.length) + k by omega, Nat.pow_add]
   have : (v + 1) * 10 ^ k ≤ 10 ^ (S.length - s.length) * 10 ^ k := Nat.mul_le_mul_right _ h4
   rw [Nat.add_mul] at this
   omega
  obtain ⟨x, hx⟩ : ∃ x, zA7 0 (s.take k) = x := ⟨_, rfl⟩
  rw [hx] at hplt hp32 hdv hvn
  have hvl : (zS v).length ≤ S.length - s.length := zAe (Nat.lt_of_lt_of_le h4 (Nat.pow_le_pow_left (by decide) _))
  have hma := zRJ (zS v) (10 ^ k) x (zAR v) (by omega) (by have := zQO hk9; omega) (by omega)
  rw [z6] at hma
  refine rn12 ?_
  rw [hk]
  refine zD 17 (.str (s.take k)) Z (AEq.of_eq (by
   show AV.str ((List.drop 0 s).take (k - 0)) = _
   rw [List.drop_zero, Nat.sub_zero])) ?_
  refine zB Z Z Z hp32 ?_
  refine rn2 ?_
  refine zZ (ι := Nat) (fun i => [(0, .str s), (3, zh v), (4, iN k), (5, .int .u64 (x : Nat)), (7, .int .u32 (10 ^ i : Nat)), (21, iN k), (22, iN i)]) (fun _ => []) (fun i => i ≤ k) (fun i => k - i) 0 ⟨⟨Z, Z, Z, Z, Z, Z, Z, trivial⟩, Z, Nat.zero_le _⟩ ?_
  rintro i hi
  refine rn4 ?_
  refine zA Z (fun h6 => ?_) (fun h6 => ?_)
  ·have hpw := zQO (show i + 1 ≤ 9 by omega)
   rw [Nat.pow_succ] at hpw
   refine rn1 ?_
   refine zG (zJP (m := 10 ^ i) (n := 10) Z Z zFI (by omega)) ?_
   refine rn5 ?_
   exact zJ ⟨i + 1, by omega, by omega, ⟨Z, Z, Z, Z, Z, Z, Z, trivial⟩, Z⟩
  ·have hie : i = k := by omega
   subst hie
   refine rn5 ?_
   refine zG (zAT (m := x) Z Z Z zFI (by omega)) ?_
   refine zB Z Z Z hma ?_
   refine rn12 ?_
   refine zJ ⟨(v * 10 ^ i + x, s.drop i), ⟨by simp only [List.length_drop]; omega, fun c hc => h2 c (List.mem_of_mem_drop hc), hdv, hvn⟩, by simp only [List.length_drop]; omega, ⟨?_, Z, trivial⟩, Z⟩
   show some (AV.str ((List.drop i s).take (s.length - i))) = _
   rw [List.take_of_length_le (by simp)]
 ·have hs0 : s = [] := by
   rcases s with _ | ⟨x, r⟩
   ·rfl
   ·exact absurd (by simp) h5
  subst hs0
  refine rn5 ?_
  refine zL hR Z ?_
  rw [← h3]; rfl
theorem zRu : zU Tryz.prog 210 [zh 0] (.str (Lib.decDigits 0)) := by
 refine zQ.value0 (zE (P := Tryz.prog) (fn := Tryz.f210) Z Z (by kernel_rfl) Z (fun c hR hfix => ?_)) (fix := fun _ => False) (fun _ h => h) Z Z
 have en : zh 0 = .ro (.ints .u32 []) 0 0 := by unfold zh; rw [zBq]; rfl
 rw [en]
 refine rn5 ?_
 refine zL hR Z ?_
 rw [Lib.decDigits_one (by decide)]; rfl
theorem zDh {n L : Nat} (h : (zS n).length ≤ L) (hL : 1 ≤ L) : (Lib.decDigits n).length ≤ 10 * L := by
 have h1 := zAt (zAR n)
 rw [z6] at h1
 have h2 : B ^ (zS n).length ≤ B ^ L := Nat.pow_le_pow_right (by decide) h
 have h3 : B ^ L ≤ (10 ^ 10) ^ L := Nat.pow_le_pow_left (by decide) L
 rw [← Nat.pow_mul] at h3
 exact zDE (by omega) (by omega)
theorem zJ9 (n : Nat) (h : (zS n).length ≤ 1000000) : zU Tryz.prog 210 [zh n] (.str (Lib.decDigits n)) := by
 rcases Nat.eq_zero_or_pos n with h0 | h0
 ·subst h0; exact zRu
 have hdl := zDh h (by decide)
 have hn0 : 0 < (zS n).length := zCU.2 (by omega)
 refine zQ.value0 (zE (P := Tryz.prog) (fn := Tryz.f210) Z Z (by kernel_rfl) Z (fun c hR hfix => ?_)) (fix := fun _ => False) (fun _ h => h) Z Z
 unfold zh
 refine rn4 ?_
 refine zA Z (fun q => absurd q (by omega)) (fun q => ?_)
 refine rn8 ?_
 refine zAb 3 ⟨9, .strs []⟩ Z Z ?_
 refine zAA ?_
 refine zZ (ι := Nat × List (List UInt8)) (fun p => [(0, zh p.1), (3, .sl 0 0 p.2.length)]) (fun p => [some ⟨9, .strs p.2⟩]) (fun p => (zS p.1).length ≤ 1000000 ∧ p.2.length ≤ p.2.reverse.flatten.length ∧ (if p.1 = 0 then Lib.decDigits n = p.2.reverse.flatten else Lib.decDigits n = Lib.decDigits p.1 ++ p.2.reverse.flatten)) (fun p => p.1) (n, [])
  ⟨⟨rfl, rfl, trivial⟩, rfl, h, by simp, by rw [if_neg (by simp only; omega)]; simp⟩ ?_
 rintro ⟨m, ps⟩ ⟨h1, h2, h3⟩
 simp only at *
 have hpos : 0 < (zS m).length ↔ m ≠ 0 := zCU
 have hds := zJh (zS m) 1000000000 (zAR m) (by omega) (by decide)
 rw [z6] at hds
 have hflen : ps.reverse.flatten.length ≤ 10000000 := by
  have e : ps.reverse.flatten.length ≤ (Lib.decDigits n).length := by
   split at h3
   ·rw [h3]; exact Nat.le_refl _
   ·rw [h3, List.length_append]; omega
  omega
 have en : zh m = .ro (.ints .u32 (zS m)) 0 (zS m).length := rfl
 rw [en]
 refine rn6 ?_
 refine zA Z (fun h4 => ?_) (fun h4 => ?_)
 ·have hm0 : m ≠ 0 := hpos.1 (by omega)
  rw [if_neg hm0] at h3
  have hr : m % 1000000000 < 1000000000 := Nat.mod_lt _ (by decide)
  have hlt : m / 1000000000 < m := Nat.div_lt_self (by omega) (by decide)
  have hit := itoaN (m % 1000000000) (by omega)
  have hpos2 : 0 < (zS (m / 1000000000)).length ↔ m / 1000000000 ≠ 0 := zCU
  have hlen2 := zFi hlt h1
  have hrl : (Lib.decDigits (m % 1000000000)).length ≤ 9 := zDE (by decide) (by have e9 : (10 : Nat) ^ 9 = 1000000000 := by decide
                                                                                rw [e9]; exact hr)
  have hrp := repeat0 (9 - (Lib.decDigits (m % 1000000000)).length) (by omega)
  obtain ⟨t, ht0, htl, htp, htn⟩ : ∃ t : List UInt8, t ≠ [] ∧ t.length ≤ 9 ∧ (m / 1000000000 ≠ 0 → t = List.replicate (9 - (Lib.decDigits (m % 1000000000)).length) 48 ++ Lib.decDigits (m % 1000000000)) ∧ (m / 1000000000 = 0 → t = Lib.decDigits (m % 1000000000)) := by
   by_cases z : m / 1000000000 = 0
   ·exact ⟨_, zCk _, hrl, fun h => absurd z h, fun _ => rfl⟩
   ·refine ⟨_, ?_, ?_, fun _ => rfl, fun h => absurd h z⟩
    ·simp [zCk]
    ·simp; omega
  have hsplit : m / 1000000000 ≠ 0 → Lib.decDigits m = Lib.decDigits (m / 1000000000) ++ t := fun z => by
   have e9 : (10 : Nat) ^ 9 = 1000000000 := by decide
   have hs := zMV (n := m) (k := 9) (by decide) (by rw [e9]; omega)
   rw [e9] at hs
   rw [hs, htp z]; rfl
  have hone : m / 1000000000 = 0 → Lib.decDigits m = t := fun z => by
   rw [htn z]
   congr 1
   have := Nat.div_add_mod m 1000000000
   omega
  have hnew : (if m / 1000000000 = 0 then Lib.decDigits n = (ps ++ [t]).reverse.flatten else Lib.decDigits n = Lib.decDigits (m / 1000000000) ++ (ps ++ [t]).reverse.flatten) := by
   rw [List.reverse_append, List.reverse_singleton, List.singleton_append, List.flatten_cons]
   split
   ·rename_i z; rw [h3, hone z]
   ·rename_i z; rw [h3, hsplit z, List.append_assoc]
  obtain ⟨r, hrr⟩ : ∃ r, m % 1000000000 = r := ⟨_, rfl⟩
  obtain ⟨d, hdd⟩ : ∃ d, m / 1000000000 = d := ⟨_, rfl⟩
  simp only [hrr, hdd] at *
  refine rn1 ?_
  refine zB Z Z Z hds ?_
  refine rn2 ?_
  refine zG (zF2 (m := r) Z Z Z (by omega)) ?_
  refine zB Z Z Z hit ?_
  have en2 : zh d = .ro (.ints .u32 (zS d)) 0 (zS d).length := rfl
  rw [en2]
  refine rn6 ?_
  apply zAK (H := [some ⟨9, .strs ps⟩]) [(0, zh d), (3, .sl 0 0 ps.length), (5, .str t)]
  ·intro fin
   refine zA Z (fun q2 => ?_) (fun q2 => ?_)
   ·have hd0 : d ≠ 0 := hpos2.1 (by omega)
    refine rn8 ?_
    refine zD 25 (iN (9 - (Lib.decDigits r).length)) Z (AEq.of_eq (by congr 1; omega)) ?_
    refine zB Z Z Z hrp ?_
    repeat (refine zG (zK rfl) ?_)
    refine zG (zFC Z Z (by simp; omega)) ?_
    refine zBc ?_
    exact fin _ ⟨Z, Z, by rw [htp hd0]; rfl, trivial⟩
   ·have hd0 : d = 0 := by
     rcases Nat.eq_zero_or_pos d with z | z
     ·exact z
     ·exact absurd (by have := hpos2.2 (by omega); omega) q2
    refine zBc ?_
    exact fin _ ⟨Z, Z, by rw [htn hd0]; rfl, trivial⟩
  refine rn3 ?_
  refine zo Z Z Z Z Z Z Z Z Z Z Z Z (Nat.le_refl 1) Z (by show (ps.length + 1) * 16 ≤ _ ∧ _; omega) (fun i j _ _ => rfl) (by rw [hfix]; exact fun h => h) ?_
  refine rn5 ?_
  refine zJ ⟨(d, ps ++ [t]), ⟨hlen2, ?_, hnew⟩, hlt, ⟨Z, ?_, trivial⟩, Z⟩
  ·simp only [List.reverse_append, List.reverse_singleton, List.singleton_append, List.flatten_cons, List.length_append, List.length_singleton]
   have := List.length_pos_iff.2 ht0
   omega
  ·show some (AV.sl 0 0 (ps.length + 1)) = _
   simp
 ·have hm0 : m = 0 := by
   rcases Nat.eq_zero_or_pos m with q | q
   ·exact q
   ·exact absurd (by have := hpos.2 (by omega); omega) h4
  rw [if_pos hm0] at h3
  have hrv := zPQ ps (by omega)
  have hjl : (Lib.join ps.reverse []).length ≤ 140737488355328 := by rw [zLl]; omega
  have hjn := join ps.reverse [] (by rw [List.length_reverse]; omega) hjl
  rw [zLl, ← h3, List.length_reverse] at hjn
  refine rn5 ?_
  refine zCc (fix := fun h => h < 1) Z Z Z hrv (fun h hh => hh) (fun h hh => hh) ?_
  rintro r H rfl
  refine rn0 ?_
  refine zDN 0 35 ps.length [] Z zIr Z (by show _ ≤ ps.reverse.length; simp) trivial ?_
  refine zB Z Z Z hjn ?_
  refine rn0 ?_
  exact zL hR Z Z
end Go.Proofs.YtkncmbklkhjmgaaGreatDoor
namespace Go.Proofs.YtkncmbklkhjmgaaGreatDoor
open Go.Ax Go.Ax.Idx Go.Ax.Cd
attribute [local irreducible] Ax zBn QOp zQ
theorem indexI (l : List Int) (v : Int) (hlen : l.length ≤ 9223372036854775807) :
 zU Tryz.prog 242 [.ro (.ints .i64 l) 0 l.length, .int .i64 v] (.int .i64 (idxF (eqp v) l)) := by
 refine zQ.value0 (zE (P := Tryz.prog) (fn := Tryz.f242) Z Z (by kernel_rfl) Z (fun c hR hfix => ?_)) (fix := fun _ => False) (fun _ h => h) Z Z
 refine rn3 ?_
 refine zZ (ι := Nat) (fun k => [(0, .ro (.ints .i64 l) 0 l.length), (1, .int .i64 v), (7, iN l.length), (8, iN k)]) (fun _ => [])
  (fun k => k ≤ l.length ∧ (l.take k).any (eqp v) = false) (fun k => l.length - k) 0 ⟨⟨rfl, rfl, rfl, rfl, trivial⟩, rfl, Nat.zero_le _, rfl⟩ ?_
 intro k ⟨hk, hany⟩
 refine rn4 ?_
 refine zA Z (fun h => ?_) (fun h => ?_)
 ·have hk' : k < l.length := by omega
  have hanys := zC9 (eqp v) l 0 k hk'
  refine rn6 ?_
  refine zA Z (fun h2 => ?_) (fun h2 => ?_)
  ·refine rn6 ?_
   refine zL hR Z ?_
   have := idxF_take (eqp v) l k hany hk
   rw [zCl l 0 k hk'] at this
   have h3 : eqp v (l.getD k 0) = true := by simpa [eqp] using h2
   simp only [idxF, h3, if_true] at this
   rw [this]; simp [zBw]
  ·refine rn5 ?_
   have h3 : eqp v (l.getD k 0) = false := by simpa [eqp] using h2
   refine zJ ⟨k + 1, ⟨by omega, by rw [hanys, hany, h3]; rfl⟩, by omega, ⟨Z, Z, Z, Z, trivial⟩, Z⟩
 ·have hk' : k = l.length := by omega
  subst hk'
  refine rn5 ?_
  refine zL hR Z ?_
  have := idxF_take (eqp v) l l.length hany hk
  rw [List.drop_length] at this
  rw [this]; rfl
theorem equalI (a b : List Int) (hlen : a.length ≤ 9223372036854775807) (hlb : b.length ≤ 9223372036854775807) : zU Tryz.prog 56 [.ro (.ints .i64 a) 0 a.length, .ro (.ints .i64 b) 0 b.length] (.bool (decide (a = b))) := by
 refine zQ.value0 (zE (P := Tryz.prog) (fn := Tryz.f56) Z Z (by kernel_rfl) Z (fun c hR hfix => ?_)) (fix := fun _ => False) (fun _ h => h) Z Z
 refine rn3 ?_
 refine zA Z (fun h => ?_) (fun h => ?_)
 ·refine rn2 ?_
  refine zL hR Z ?_
  have : ¬ a = b := by rintro rfl; exact h rfl
  simp [zBw, this]
 have hab : a.length = b.length := by omega
 refine rn3 ?_
 refine zZ (ι := Nat) (fun k => [(0, .ro (.ints .i64 a) 0 a.length), (1, .ro (.ints .i64 b) 0 b.length), (12, iN a.length), (13, iN k)]) (fun _ => [])
  (fun k => k ≤ a.length ∧ a.take k = b.take k) (fun k => a.length - k) 0 ⟨⟨rfl, rfl, rfl, rfl, trivial⟩, rfl, Nat.zero_le _, rfl⟩ ?_
 intro k ⟨hk, heq⟩
 refine rn4 ?_
 refine zA Z (fun h2 => ?_) (fun h2 => ?_)
 ·have hk' : k < a.length := by omega
  have ha := zBN a 0 k hk'
  have hb := zBN b 0 k (by omega)
  refine rn1 ?_
  refine zDw (by kernel_rfl) (by kernel_rfl) Z ?_
  refine rn6 ?_
  refine zA Z (fun h3 => ?_) (fun h3 => ?_)
  ·refine rn6 ?_
   refine zL hR Z ?_
   have : ¬ a = b := by rintro rfl; exact h3 rfl
   simp [zBw, this]
  ·refine rn5 ?_
   have h4 : a.getD k 0 = b.getD k 0 := by omega
   exact zJ ⟨k + 1, ⟨by omega, by rw [ha, hb, heq, h4]⟩, by omega, ⟨Z, Z, Z, Z, trivial⟩, Z⟩
 ·have hk' : k = a.length := by omega
  subst hk'
  rw [List.take_length, hab, List.take_length] at heq
  refine rn5 ?_
  refine zL hR Z ?_
  simp [zBw, heq]
theorem zO3 (l : List Int) (g : FuncId) (caps : List AV) (p : Int → Bool) (hc : noRef.noRefs caps = true) (hlen : l.length ≤ 9223372036854775807) (hp : ∀ x ∈ l, zU Tryz.prog g ([.int .i64 x] ++ caps) (.bool (p x))) :
 zU Tryz.prog 156 [.ro (.ints .i64 l) 0 l.length, .fn g caps] (.int .i64 (idxF p l)) := by
 refine zQ.value0 (zE (P := Tryz.prog) (fn := Tryz.f156) Z Z (by kernel_rfl) Z (fun c hR hfix => ?_)) (fix := fun _ => False) (fun _ h => h) (by simp [noRef.noRefs, noRef, hc]) Z
 refine rn3 ?_
 refine zZ (ι := Nat) (fun k => [(0, .ro (.ints .i64 l) 0 l.length), (1, .fn g caps), (7, iN l.length), (8, iN k)]) (fun _ => [])
  (fun k => k ≤ l.length ∧ (l.take k).any p = false) (fun k => l.length - k) 0 ⟨⟨rfl, rfl, rfl, rfl, trivial⟩, rfl, Nat.zero_le _, rfl⟩ ?_
 intro k ⟨hk, hany⟩
 refine rn4 ?_
 refine zA Z (fun h => ?_) (fun h => ?_)
 ·have hk' : k < l.length := by omega
  have hanys := zC9 p l 0 k hk'
  refine rn6 ?_
  refine zB Z Z Z (hp _ (zAN 0 hk')) ?_
  refine rn0 ?_
  refine zEg Z (fun h2 => ?_) (fun h2 => ?_)
  ·refine rn6 ?_
   refine zL hR Z ?_
   have := idxF_take p l k hany hk
   rw [zCl l 0 k hk'] at this
   simp only [idxF, h2, if_true] at this
   rw [this]; simp [zBw]
  ·refine rn5 ?_
   refine zJ ⟨k + 1, ⟨by omega, by rw [hanys, hany, h2]; rfl⟩, by omega, ⟨Z, Z, Z, Z, trivial⟩, Z⟩
 ·have hk' : k = l.length := by omega
  subst hk'
  refine rn5 ?_
  refine zL hR Z ?_
  have := idxF_take p l l.length hany hk
  rw [List.drop_length] at this
  rw [this]; rfl
theorem zQs (l : List Int) (g : FuncId) (caps : List AV) (p : Int → Bool) (hc : noRef.noRefs caps = true) (hlen : l.length ≤ 9223372036854775807) (hp : ∀ x ∈ l, zU Tryz.prog g ([.int .i64 x] ++ caps) (.bool (p x))) :
 zU Tryz.prog 74 [.ro (.ints .i64 l) 0 l.length, .fn g caps] (.bool (l.any p)) := by
 refine zQ.value0 (zE (P := Tryz.prog) (fn := Tryz.f74) Z Z (by kernel_rfl) Z (fun c hR hfix => ?_)) (fix := fun _ => False) (fun _ h => h) (by simp [noRef.noRefs, noRef, hc]) Z
 refine rn0 ?_
 refine zB Z Z Z (zO3 l g caps p hc hlen hp) ?_
 refine rn8 ?_
 refine zL hR Z ?_
 simp only [zBw, zIe]
def notOk (e : Int) : Bool := decide (e ≠ 0)
theorem fine1 (n : Int) : zU Tryz.prog 75 [.int .i64 n] (.bool (notOk n)) := by
 refine zQ.value0 (zE (P := Tryz.prog) (fn := Tryz.f75) Z Z (by kernel_rfl) Z (fun c hR hfix => ?_)) (fix := fun _ => False) (fun _ h => h) Z Z
 refine rn3 ?_
 refine zL hR Z ?_
 simp [zBw, notOk]
theorem fineI (l : List Int) (hlen : l.length ≤ 1000) : zU Tryz.prog 25 [.ro (.ints .i64 l) 0 l.length] (.bool (!(l.any notOk))) := by
 refine zQ.value0 (zE (P := Tryz.prog) (fn := Tryz.f25) Z Z (by kernel_rfl) Z (fun c hR hfix => ?_)) (fix := fun _ => False) (fun _ h => h) Z Z
 refine rn0 ?_
 refine zB Z Z Z (zQs l 75 [] notOk Z (by omega) (fun x _ => fine1 x)) ?_
 refine rn5 ?_
 exact zL hR Z Z
end Go.Proofs.YtkncmbklkhjmgaaGreatDoor
namespace Go.Proofs.YtkncmbklkhjmgaaGreatDoor
open Go.Ax Go.Ax.Bg Go.RowKit
open Go.Ax.Tb (zBm zEI zB4 zCk)
attribute [local irreducible] Ax zBn QOp zQ
theorem zLY (s : List UInt8) (hs : s.length ≤ 9223372036854775807) : zU Tryz.prog 79 [.str s] (.bool (zFc s)) := by
 have ht := trim_ok s hs
 have hn := trR_nil (s := s)
 have hc : zFc s = (decide (s ≠ []) && s.all dg && (decide (s.getD 0 0 ≠ 48) || decide (s.length = 1))) := rfl
 refine zQ.value0 (zE (P := Tryz.prog) (fn := Tryz.f79) Z Z (by kernel_rfl) Z (fun c hR hfix => ?_)) (fix := fun _ => False) (fun _ h => h) Z Z
 generalize trL (trR s) = u at *
 generalize zFc s = b at *
 by_cases h0 : s = []
 ·subst h0
  refine rn16 ?_
  refine zL hR Z ?_
  rw [hc]; rfl
 have hlen : 0 < s.length := List.length_pos_iff.2 h0
 refine rn8 ?_
 refine zAi Z Z (fun h1 => ?_) (fun h1 => absurd h0 h1)
 refine rn2 ?_
 refine zB Z Z Z ht ?_
 refine rn6 ?_
 refine zAi Z Z (fun h2 => ?_) (fun h2 => ?_)
 ·have ha : s.all dg = true := hn.1 h2
  rw [decide_eq_true h0, ha, Bool.true_and, Bool.true_and] at hc
  refine rn19 ?_
  refine zAi Z Z (fun h3 => ?_) (fun h3 => ?_)
  ·have h4 : decide (s.getD 0 0 ≠ 48) = true := decide_eq_true (fun e => h3 (by simp only [Int.toNat_zero]; rw [e]; rfl))
   rw [h4, Bool.true_or] at hc
   refine rn6 ?_
   refine zL hR Z ?_
   rw [hc]; rfl
  ·have h5 : s.getD 0 0 = 48 := by
    simp only [Int.toNat_zero] at h3
    apply UInt8.toNat_inj.1
    have : ((s.getD 0 0).toNat : Int) = 48 := by omega
    show (s.getD 0 0).toNat = 48
    omega
   have h4 : decide (s.getD 0 0 ≠ 48) = false := decide_eq_false (fun e => e h5)
   rw [h4, Bool.false_or] at hc
   refine rn6 ?_
   refine zL hR Z ?_
   rw [hc]
   show AV.bool (decide ((s.length : Int) = 1)) = _
   congr 1
   rw [decide_eq_decide]; omega
 ·have ha : s.all dg = false := by
   cases hq : s.all dg with
   | false => rfl
   | true => exact absurd (hn.2 hq) h2
  rw [ha, Bool.and_false, Bool.false_and] at hc
  refine rn14 ?_
  refine zL hR Z ?_
  rw [hc]; rfl
def zEN (p : List UInt8 × Int) : AV := .tup [.str p.1, .int .i64 p.2]
theorem zIg {a b k : Nat} (ha : (zS a).length ≤ k) (hb : (zS b).length ≤ k) : (zS (a * b)).length ≤ k + k := by
 have h1 := zAt (zAR a)
 have h2 := zAt (zAR b)
 rw [z6] at h1 h2
 refine zAe ?_
 rw [Nat.pow_add]
 refine Nat.mul_lt_mul'' (Nat.lt_of_lt_of_le h1 (Nat.pow_le_pow_right (by decide) ha)) (Nat.lt_of_lt_of_le h2 (Nat.pow_le_pow_right (by decide) hb))
theorem len_add {a b k : Nat} (ha : (zS a).length ≤ k) (hb : (zS b).length ≤ k) : (zS (a + b)).length ≤ k + 1 := by
 have h1 := zAt (zAR a)
 have h2 := zAt (zAR b)
 rw [z6] at h1 h2
 refine zAe ?_
 have h3 : B ^ (zS a).length ≤ B ^ k := Nat.pow_le_pow_right (by decide) ha
 have h4 : B ^ (zS b).length ≤ B ^ k := Nat.pow_le_pow_right (by decide) hb
 rw [Nat.pow_succ]
 have : B ^ k * 2 ≤ B ^ k * B := Nat.mul_le_mul_left _ (by decide)
 omega
end Go.Proofs.YtkncmbklkhjmgaaGreatDoor
namespace Go.Proofs.YtkncmbklkhjmgaaGreatDoor
open Go.Ax Go.Ax.Bg Go.Ax.Rt Go.RowKit
attribute [local irreducible] Ax zBn QOp zQ zBX
def zA1 (x : Int) : AV := .agg [.bool (decide (x < 0)), zh x.natAbs]
theorem zFS (b : Bool) (n : Nat) : zU Tryz.prog 153 [.bool b, zh n] (zA1 (zEo b n)) := by
 have hp : 0 < (zS n).length ↔ n ≠ 0 := zCU
 have hr : zA1 (zEo b n) = .agg [.bool (b && decide (n ≠ 0)), zh n] := by unfold zA1; rw [zFE, zKq]
 rw [hr]
 refine zQ.value0 (zE (P := Tryz.prog) (fn := Tryz.f153) Z Z (by kernel_rfl) Z (fun c hR hfix => ?_)) (fix := fun _ => False) (fun _ h => h) Z Z
 unfold zh at hR ⊢
 cases b
 ·refine rn14 ?_
  refine sa1 (c' := .box [.bool false, .ro (.ints .u32 (zS n)) 0 (zS n).length]) Z Z Z Z Z Z Z ?_
  refine rn0 ?_
  exact zL hR Z Z
 ·refine rn14 ?_
  have e : decide (0 < ((zS n).length : Int)) = decide (n ≠ 0) := by rw [decide_eq_decide, ← hp]; omega
  refine zz (c' := .box [.bool (decide (n ≠ 0)), .ro (.ints .u32 (zS n)) 0 (zS n).length]) Z Z Z Z Z Nat.zero_lt_one Z Z (fun i' j' hi' hj' => ?_) ?_
  ·rw [if_pos (Nat.lt_one_iff.1 hi'), ← e]; rfl
  refine rn0 ?_
  exact zL hR Z Z
theorem mul_sgn (x y : Int) : zEo (!(decide (x < 0) == decide (y < 0))) (x.natAbs * y.natAbs) = x * y := by
 have h : (x * y).natAbs = x.natAbs * y.natAbs := Int.natAbs_mul x y
 unfold zEo
 rcases Int.lt_trichotomy x 0 with hx | hx | hx <;> rcases Int.lt_trichotomy y 0 with hy | hy | hy
 ·have := Int.mul_pos_of_neg_of_neg hx hy
  simp only [hx, hy]; simp; omega
 ·subst hy; simp
 ·have := Int.mul_neg_of_neg_of_pos hx hy
  simp only [hx, show ¬ y < 0 by omega]; simp; omega
 ·subst hx; simp
 ·subst hx; simp
 ·subst hx; simp
 ·have := Int.mul_neg_of_pos_of_neg hx hy
  simp only [hy, show ¬ x < 0 by omega]; simp; omega
 ·subst hy; simp
 ·have := Int.mul_pos hx hy
  simp only [show ¬ x < 0 by omega, show ¬ y < 0 by omega]; simp; omega
theorem zCS (x y : Int) (hx : (zS x.natAbs).length ≤ 1000000) (hy : (zS y.natAbs).length ≤ 1000000) : zU Tryz.prog 154 [zA1 x, zA1 y] (zA1 (x * y)) := by
 have h1 := zMj x.natAbs y.natAbs (by omega) (by omega)
 have h2 := zFS (!(decide (x < 0) == decide (y < 0))) (x.natAbs * y.natAbs)
 rw [mul_sgn] at h2
 refine zQ.value0 (zE (P := Tryz.prog) (fn := Tryz.f154) Z Z (by kernel_rfl) Z (fun c hR hfix => ?_)) (fix := fun _ => False) (fun _ h => h) Z Z
 refine rn6 ?_
 refine zi (by kernel_rfl) ?_
 refine zq (fuel := 1) [0, 1, 2, 3, 4, 5, 6, 7, 8, 9, 10] [(2, .ptr 0 0 0), (3, .ptr 1 0 0), (4, .ptr 2 0 0)] ⟨Z, Z, Z, trivial⟩ (by kernel_rfl) (by decide) Z Z ?_
 refine zM Z Z (zH Z Z Z Z Z Z) ?_
 refine zM Z Z (zX Z Z Z Z Z) ?_
 refine zM Z Z (zH Z Z Z Z Z Z) ?_
 refine zM Z Z (zX Z Z Z Z Z) ?_
 refine zM Z Z (zJO Z Z Z) ?_
 refine zM Z Z (zH Z Z Z Z Z Z) ?_
 refine zM Z Z (zX Z Z Z Z Z) ?_
 refine zM Z Z (zH Z Z Z Z Z Z) ?_
 refine zM Z Z (zX Z Z Z Z Z) ?_
 refine zA8 Z Z Z Z Z h1 ?_
 refine zA8 Z Z Z Z Z h2 ?_
 refine zAC ?_
 refine zF (is := [11]) (by kernel_rfl) (by simp) Z ⟨fun o ho => ?_, trivial⟩
 all_goals (cases ho)
 skip
 unfold zA1 zh
 refine sa1 (c' := .box [.bool (decide (x * y < 0)), .ro (.ints .u32 (zS (x * y).natAbs)) 0 (zS (x * y).natAbs).length]) Z Z Z Z Z Z Z ?_
 refine rn1 ?_
 refine zW (by kernel_rfl) ?_
 refine rn0 ?_
 exact zL hR Z Z
theorem opp_sgn (x : Int) : zEo (!decide (x < 0)) x.natAbs = -x := by
 unfold zEo
 by_cases h : x < 0
 ·simp [h]; omega
 ·simp [h]; omega
theorem zGL (x : Int) : zU Tryz.prog 164 [zA1 x] (zA1 (-x)) := by
 have h2 := zFS (!decide (x < 0)) x.natAbs
 rw [opp_sgn] at h2
 refine zQ.value0 (zE (P := Tryz.prog) (fn := Tryz.f164) Z Z (by kernel_rfl) Z (fun c hR hfix => ?_)) (fix := fun _ => False) (fun _ h => h) Z Z
 refine rn6 ?_
 refine zB Z Z Z h2 ?_
 skip
 unfold zA1
 refine sa1 (c' := .box [.bool (decide (-x < 0)), zh (-x).natAbs]) Z Z Z Z Z Z Z ?_
 refine rn0 ?_
 exact zL hR Z Z
theorem zEK (x : Int) : zU Tryz.prog 157 [zA1 x] (.int .i64 (sgn x)) := by
 have hp : 0 < (zS x.natAbs).length ↔ x.natAbs ≠ 0 := zCU
 unfold sgn
 refine zQ.value0 (zE (P := Tryz.prog) (fn := Tryz.f157) Z Z (by kernel_rfl) Z (fun c hR hfix => ?_)) (fix := fun _ => False) (fun _ h => h) Z Z
 unfold zA1 zh
 rcases Int.lt_trichotomy x 0 with h | h | h
 ·have e : decide (x < 0) = true := decide_eq_true h
  rw [e]
  rw [if_pos h] at hR
  refine rn6 ?_
  refine zA Z (fun h0 => absurd h0 (by omega)) (fun h0 => ?_)
  refine rn6 ?_
  exact zL hR Z Z
 ·subst h
  rw [if_neg (by omega), if_pos rfl] at hR
  have e0 : zS (0 : Int).natAbs = [] := zBq
  rw [e0]
  refine rn6 ?_
  exact zL hR Z Z
 ·have e : decide (x < 0) = false := decide_eq_false (by omega)
  rw [e]
  rw [if_neg (by omega), if_neg (by omega)] at hR
  refine rn6 ?_
  refine zA Z (fun h0 => absurd h0 (by omega)) (fun h0 => ?_)
  refine rn5 ?_
  exact zL hR Z Z
theorem add_sgn1 (x y : Int) (h : decide (x < 0) = decide (y < 0)) : zEo (decide (x < 0)) (x.natAbs + y.natAbs) = x + y := by
 unfold zEo
 rw [decide_eq_decide] at h
 by_cases h1 : x < 0
 ·simp [h1]; omega
 ·simp [h1]; omega
theorem add_sgn2 (x y : Int) (h : ¬ decide (x < 0) = decide (y < 0)) (h2 : y.natAbs ≤ x.natAbs) : zEo (decide (x < 0)) (x.natAbs - y.natAbs) = x + y := by
 unfold zEo
 rw [decide_eq_decide] at h
 by_cases h1 : x < 0
 ·simp [h1]; omega
 ·simp [h1]; omega
theorem add_sgn3 (x y : Int) (h : ¬ decide (x < 0) = decide (y < 0)) (h2 : ¬ y.natAbs ≤ x.natAbs) : zEo (decide (y < 0)) (y.natAbs - x.natAbs) = x + y := by
 unfold zEo
 rw [decide_eq_decide] at h
 by_cases h1 : y < 0
 ·simp [h1]; omega
 ·simp [h1]; omega
theorem zPq {x y : Int} : 0 ≤ zEH x y ↔ y ≤ x := by
 unfold zEH
 split
 ·omega
 ·split <;> omega
theorem zMc (x y : Int) (hx : (zS x.natAbs).length ≤ 1000000) (hy : (zS y.natAbs).length ≤ 1000000) : zU Tryz.prog 197 [zA1 x, zA1 y] (zA1 (x + y)) := by
 by_cases h : decide (x < 0) = decide (y < 0)
 ·have h1 := add_ok x.natAbs y.natAbs (by omega) (by omega)
  have h2 := zFS (decide (x < 0)) (x.natAbs + y.natAbs)
  rw [add_sgn1 x y h] at h2
  refine zQ.value0 (zE (P := Tryz.prog) (fn := Tryz.f197) Z Z (by kernel_rfl) Z (fun c hR hfix => ?_)) (fix := fun _ => False) (fun _ h => h) Z Z
  unfold zA1 at hR ⊢
  repeat (first | refine zR ?_ | refine zI ?_ | refine z7 ?_ | refine zg rfl ?_ | refine zG (zX rfl rfl rfl rfl rfl) ?_ | refine zG (zH rfl rfl rfl rfl rfl rfl) ?_ | refine zG (zKe rfl rfl rfl) ?_ | refine zGF rfl rfl ?_ | refine zBD rfl rfl rfl ?_)
  refine z8 9 (.bool true) Z (AEq.of_eq (by rw [h]; simp)) ?_
  refine rn5 ?_
  refine zi (by kernel_rfl) ?_
  refine zq (fuel := 1) [0, 1, 2, 3, 4, 5, 6, 7] [(2, .ptr 0 0 0), (3, .ptr 1 0 0), (4, .ptr 2 0 0)] ⟨Z, Z, Z, trivial⟩ (by kernel_rfl) (by decide) Z Z ?_
  refine zM Z Z (zH Z Z Z Z Z Z) ?_
  refine zM Z Z (zX Z Z Z Z Z) ?_
  refine zM Z Z (zH Z Z Z Z Z Z) ?_
  refine zM Z Z (zX Z Z Z Z Z) ?_
  refine zM Z Z (zH Z Z Z Z Z Z) ?_
  refine zM Z Z (zX Z Z Z Z Z) ?_
  refine zA8 Z Z Z Z Z h1 ?_
  refine zA8 Z Z Z Z Z h2 ?_
  refine zAC ?_
  refine zF (is := [8]) (by kernel_rfl) (by simp) Z ⟨fun o ho => ?_, trivial⟩
  all_goals (cases ho)
  skip
  unfold zA1
  refine sa1 (c' := .box [.bool (decide (x + y < 0)), zh (x + y).natAbs]) Z Z Z Z Z Z Z ?_
  refine rn1 ?_
  refine zW (by kernel_rfl) ?_
  refine rn2 ?_
  exact zL hR Z Z
 ·have h0 := zMT x.natAbs y.natAbs (by omega) (by omega)
  by_cases hc : y.natAbs ≤ x.natAbs
  ·have h1 := sub_ok x.natAbs y.natAbs hc (by omega)
   have h2 := zFS (decide (x < 0)) (x.natAbs - y.natAbs)
   rw [add_sgn2 x y h hc] at h2
   refine zQ.value0 (zE (P := Tryz.prog) (fn := Tryz.f197) Z Z (by kernel_rfl) Z (fun c hR hfix => ?_)) (fix := fun _ => False) (fun _ h => h) Z Z
   unfold zA1 at hR ⊢
   repeat (first | refine zR ?_ | refine zI ?_ | refine z7 ?_ | refine zg rfl ?_ | refine zG (zX rfl rfl rfl rfl rfl) ?_ | refine zG (zH rfl rfl rfl rfl rfl rfl) ?_ | refine zG (zKe rfl rfl rfl) ?_ | refine zGF rfl rfl ?_ | refine zBD rfl rfl rfl ?_)
   refine z8 9 (.bool false) Z (AEq.of_eq (by rw [beq_eq_false_iff_ne.2 h])) ?_
   refine rn5 ?_
   refine zB Z Z Z h0 ?_
   refine rn7 ?_
   refine zA Z (fun h5 => ?_) (fun h5 => absurd (zPq.2 (Int.ofNat_le.2 hc)) h5)
   repeat (refine z7 ?_)
   refine zi (by kernel_rfl) ?_
   refine zq (fuel := 1) [0, 1, 2, 3, 4, 5, 6, 7] [(2, .ptr 0 0 0), (3, .ptr 1 0 0), (4, .ptr 2 0 0)] ⟨Z, Z, Z, trivial⟩ (by kernel_rfl) (by decide) Z Z ?_
   refine zM Z Z (zH Z Z Z Z Z Z) ?_
   refine zM Z Z (zX Z Z Z Z Z) ?_
   refine zM Z Z (zH Z Z Z Z Z Z) ?_
   refine zM Z Z (zX Z Z Z Z Z) ?_
   refine zM Z Z (zH Z Z Z Z Z Z) ?_
   refine zM Z Z (zX Z Z Z Z Z) ?_
   refine zA8 Z Z Z Z Z h1 ?_
   refine zA8 Z Z Z Z Z h2 ?_
   refine zAC ?_
   refine zF (is := [8]) (by kernel_rfl) (by simp) Z ⟨fun o ho => ?_, trivial⟩
   all_goals (cases ho)
   skip
   unfold zA1
   refine sa1 (c' := .box [.bool (decide (x + y < 0)), zh (x + y).natAbs]) Z Z Z Z Z Z Z ?_
   refine rn1 ?_
   refine zW (by kernel_rfl) ?_
   refine rn2 ?_
   exact zL hR Z Z
  ·have h1 := sub_ok y.natAbs x.natAbs (by omega) (by omega)
   have h2 := zFS (decide (y < 0)) (y.natAbs - x.natAbs)
   rw [add_sgn3 x y h hc] at h2
   refine zQ.value0 (zE (P := Tryz.prog) (fn := Tryz.f197) Z Z (by kernel_rfl) Z (fun c hR hfix => ?_)) (fix := fun _ => False) (fun _ h => h) Z Z
   unfold zA1 at hR ⊢
   repeat (first | refine zR ?_ | refine zI ?_ | refine z7 ?_ | refine zg rfl ?_ | refine zG (zX rfl rfl rfl rfl rfl) ?_ | refine zG (zH rfl rfl rfl rfl rfl rfl) ?_ | refine zG (zKe rfl rfl rfl) ?_ | refine zGF rfl rfl ?_ | refine zBD rfl rfl rfl ?_)
   refine z8 9 (.bool false) Z (AEq.of_eq (by rw [beq_eq_false_iff_ne.2 h])) ?_
   refine rn5 ?_
   refine zB Z Z Z h0 ?_
   refine rn7 ?_
   refine zA Z (fun h5 => absurd (Int.ofNat_le.1 (zPq.1 h5)) hc) (fun h5 => ?_)
   refine rn1 ?_
   refine zi (by kernel_rfl) ?_
   refine zq (fuel := 1) [0, 1, 2, 3, 4, 5, 6, 7] [(2, .ptr 0 0 0), (3, .ptr 1 0 0), (4, .ptr 2 0 0)] ⟨Z, Z, Z, trivial⟩ (by kernel_rfl) (by decide) Z Z ?_
   refine zM Z Z (zH Z Z Z Z Z Z) ?_
   refine zM Z Z (zX Z Z Z Z Z) ?_
   refine zM Z Z (zH Z Z Z Z Z Z) ?_
   refine zM Z Z (zX Z Z Z Z Z) ?_
   refine zM Z Z (zH Z Z Z Z Z Z) ?_
   refine zM Z Z (zX Z Z Z Z Z) ?_
   refine zA8 Z Z Z Z Z h1 ?_
   refine zA8 Z Z Z Z Z h2 ?_
   refine zAC ?_
   refine zF (is := [8]) (by kernel_rfl) (by simp) Z ⟨fun o ho => ?_, trivial⟩
   all_goals (cases ho)
   skip
   unfold zA1
   refine sa1 (c' := .box [.bool (decide (x + y < 0)), zh (x + y).natAbs]) Z Z Z Z Z Z Z ?_
   refine rn1 ?_
   refine zW (by kernel_rfl) ?_
   refine rn0 ?_
   exact zL hR Z Z
theorem len_neg {x : Int} {k : Nat} (h : (zS x.natAbs).length ≤ k) : (zS (-x).natAbs).length ≤ k := by rw [Int.natAbs_neg]; exact h
theorem zMf (x y : Int) (hx : (zS x.natAbs).length ≤ 1000000) (hy : (zS y.natAbs).length ≤ 1000000) : zU Tryz.prog 211 [zA1 x, zA1 y] (zA1 (x - y)) := by
 have h1 := zGL y
 have h2 := zMc x (-y) hx (len_neg hy)
 rw [show x + -y = x - y from rfl] at h2
 refine zQ.value0 (zE (P := Tryz.prog) (fn := Tryz.f211) Z Z (by kernel_rfl) Z (fun c hR hfix => ?_)) (fix := fun _ => False) (fun _ h => h) Z Z
 refine rn6 ?_
 refine zi (by kernel_rfl) ?_
 refine zq (fuel := 1) [0, 1, 2, 3] [(2, .ptr 0 0 0), (3, .ptr 1 0 0), (4, .ptr 2 0 0)] ⟨Z, Z, Z, trivial⟩ (by kernel_rfl) (by decide) Z Z ?_
 refine zM Z Z (qpp Z Z Z Z Z Z Z) ?_
 refine zM Z Z (qpp Z Z Z Z Z Z Z) ?_
 refine zA8 Z Z Z Z Z h1 ?_
 refine zA8 Z Z Z Z Z h2 ?_
 refine zAC ?_
 refine zF (is := [4]) (by kernel_rfl) (by simp) Z ⟨fun o ho => ?_, trivial⟩
 all_goals (cases ho)
 skip
 unfold zA1
 refine sa1 (c' := .box [.bool (decide (x - y < 0)), zh (x - y).natAbs]) Z Z Z Z Z Z Z ?_
 refine rn1 ?_
 refine zW (by kernel_rfl) ?_
 refine rn0 ?_
 exact zL hR Z Z
theorem zQB (x y : Int) (hx : (zS x.natAbs).length ≤ 1000000) (hy : (zS y.natAbs).length ≤ 1000000) : zU Tryz.prog 155 [zA1 x, zA1 y] (.int .i64 (sgn (x - y))) := by
 have h1 := zMf x y hx hy
 have h2 := zEK (x - y)
 refine zQ.value0 (zE (P := Tryz.prog) (fn := Tryz.f155) Z Z (by kernel_rfl) Z (fun c hR hfix => ?_)) (fix := fun _ => False) (fun _ h => h) Z Z
 refine rn6 ?_
 refine zB Z Z Z h1 ?_
 skip
 refine zB Z Z Z h2 ?_
 refine rn0 ?_
 exact zL hR Z Z
theorem zLF (n : Int) (h : -9223372036854775808 ≤ n ∧ n < 9223372036854775808) : zU Tryz.prog 167 [.int .i64 n] (zA1 n) := by
 refine zQ.value0 (zE (P := Tryz.prog) (fn := Tryz.f167) Z Z (by kernel_rfl) Z (fun c hR hfix => ?_)) (fix := fun _ => False) (fun _ h => h) Z Z
 rcases Int.lt_or_le n 0 with hn | hn
 ·have h1 := zHB n.natAbs (by omega)
  refine rn4 ?_
  refine zA Z (fun _ => ?_) (fun h0 => absurd hn h0)
  refine rn3 ?_
  refine zG (q_neg Z (by omega)) ?_
  refine zD 7 (.int .i64 ((n.natAbs - 1 : Nat) : Int)) Z (AEq.of_eq (congrArg _ (by omega))) ?_
  refine zG (zAT (m := n.natAbs - 1) Z Z Z zBW (by omega)) ?_
  refine zG (zFk (m := n.natAbs - 1) (n := 1) Z Z zBW (by omega)) ?_
  refine zD 9 (.int .u64 ((n.natAbs : Nat) : Int)) Z (AEq.of_eq (congrArg _ (by omega))) ?_
  skip
  refine zB Z Z Z h1 ?_
  repeat (refine zG (zBH rfl rfl rfl rfl rfl rfl) ?_)
  refine sa1 (c' := .box [.bool true, zh n.natAbs]) Z Z Z Z Z Z Z ?_
  refine rn2 ?_
  refine zL hR Z ?_
  unfold zA1
  rw [show decide (n < 0) = true from decide_eq_true hn]
  rfl
 ·have h1 := zHB n.natAbs (by omega)
  refine rn4 ?_
  refine zA Z (fun h0 => absurd h0 (by omega)) (fun h0 => ?_)
  refine rn1 ?_
  refine zD 12 (.int .i64 ((n.natAbs : Nat) : Int)) Z (AEq.of_eq (congrArg _ (by omega))) ?_
  refine zG (zAT (m := n.natAbs) Z Z Z zBW (by omega)) ?_
  skip
  refine zB Z Z Z h1 ?_
  repeat (refine zG (zBH rfl rfl rfl rfl rfl rfl) ?_)
  refine sa1 (c' := .box [.bool false, zh n.natAbs]) Z Z Z Z Z Z Z ?_
  refine rn0 ?_
  refine zL hR Z ?_
  unfold zA1
  rw [show decide (n < 0) = false from decide_eq_false (by omega)]
  rfl
def qA (q : Rat) : AV := .agg [.bool (decide (q.num < 0)), zh q.num.natAbs, zh q.den]
theorem zIf (n : Nat) : zA1 (n : Int) = .agg [.bool false, zh n] := by
 unfold zA1
 rw [show decide ((n : Int) < 0) = false from decide_eq_false (by omega), Int.natAbs_natCast]
theorem bne_iff {x y z : Int} (h : z < 0 ↔ x ≠ 0 ∧ ((x < 0 ∧ ¬ y < 0) ∨ (¬ x < 0 ∧ y < 0))) (hz : x = 0 → z = 0) : zEo (!(decide (x < 0) == decide (y < 0))) z.natAbs = z := by
 unfold zEo
 by_cases h1 : x < 0 <;> by_cases h2 : y < 0
 ·simp [h1, h2]; have : ¬ z < 0 := fun q => by have := h.1 q; omega
  omega
 ·simp [h1, h2]; have : z < 0 := h.2 (by omega)
  omega
 ·simp [h1, h2]
  rcases Int.lt_or_le z 0 with q | q
  ·omega
  ·have : x = 0 := by
    rcases Int.lt_trichotomy x 0 with w | w | w
    ·exact absurd w h1
    ·exact w
    ·exact absurd (h.2 ⟨by omega, .inr ⟨h1, h2⟩⟩) (by omega)
   have := hz this
   omega
 ·simp [h1, h2]; have : ¬ z < 0 := fun q => by have := h.1 q; omega
  omega
theorem gcd_len {a b k : Nat} (ha : (zS a).length ≤ k) (hb : (zS b).length ≤ k) : (zS (Nat.gcd a b)).length ≤ k := by
 rcases Nat.eq_zero_or_pos a with h | h
 ·subst h; rw [Nat.gcd_zero_left]; exact hb
 ·exact zFT (Nat.gcd_le_left b h) ha
theorem zHR (n d : Int) (hd : d ≠ 0) (hn : (zS n.natAbs).length ≤ 1000000) (hdl : (zS d.natAbs).length ≤ 1000000) : zU Tryz.prog 166 [zA1 n, zA1 d] (qA (Rat.divInt n d)) := by
 obtain ⟨e1, e2, e3⟩ := zGJ n d hd
 have hg := zO0 n.natAbs d.natAbs hn hdl
 have hgl := gcd_len hn hdl
 have hgp : 0 < Nat.gcd n.natAbs d.natAbs := Nat.gcd_pos_of_pos_right _ (by omega)
 have h1 := zJD n.natAbs _ hgp hn hgl
 have h2 := zJD d.natAbs _ hgp hdl hgl
 have h3 := zFS (!(decide (n < 0) == decide (d < 0))) (Rat.divInt n d).num.natAbs
 rw [bne_iff e3 (fun h0 => by rw [h0, Rat.zero_divInt]; rfl)] at h3
 rw [← e1] at h1
 rw [← e2] at h2
 refine zQ.value0 (zE (P := Tryz.prog) (fn := Tryz.f166) Z Z (by kernel_rfl) Z (fun c hR hfix => ?_)) (fix := fun _ => False) (fun _ h => h) Z Z
 refine rn6 ?_
 refine zB Z Z Z hg ?_
 refine rn5 ?_
 refine zB Z Z Z h1 ?_
 refine rn5 ?_
 refine zB Z Z Z h2 ?_
 repeat (first | refine zG (zK rfl) ?_ | refine zG (zm rfl) ?_ | refine zR ?_ | refine zI ?_ | refine z7 ?_ | refine zg rfl ?_ | refine zG (zX rfl rfl rfl rfl rfl) ?_ | refine zG (zBr rfl rfl) ?_ | refine zG (zH rfl rfl rfl rfl rfl rfl) ?_ | refine zG (zJO rfl rfl rfl) ?_)
 refine zB Z Z Z h3 ?_
 refine rn8 ?_
 refine sa1 (c' := .box [.bool (decide ((Rat.divInt n d).num < 0)), zh (Rat.divInt n d).num.natAbs, zh (Rat.divInt n d).den]) Z Z Z Z Z Z Z ?_
 refine rn0 ?_
 exact zL hR Z Z
def Sz (k : Nat) (q : Rat) : Prop := (zS q.num.natAbs).length ≤ k ∧ (zS q.den).length ≤ k
theorem zDF {x y : Int} {k : Nat} (hx : (zS x.natAbs).length ≤ k) (hy : (zS y.natAbs).length ≤ k) : (zS (x * y).natAbs).length ≤ k + k := by
 rw [Int.natAbs_mul]; exact zIg hx hy
theorem zNW {x y : Int} {k : Nat} (hx : (zS x.natAbs).length ≤ k) (hy : (zS y.natAbs).length ≤ k) : (zS (x + y).natAbs).length ≤ k + 1 :=
 zFT (Int.natAbs_add_le x y) (len_add hx hy)
theorem den_ne (q : Rat) : (q.den : Int) ≠ 0 := by have := q.den_nz; omega
theorem zIq (p q : Rat) (hp : Sz 100000 p) (hq : Sz 100000 q) : zU Tryz.prog 148 [qA p, qA q] (qA (p + q)) := by
 have l1 : (zS (q.den : Int).natAbs).length ≤ 100000 := hq.2
 have l2 : (zS (p.den : Int).natAbs).length ≤ 100000 := hp.2
 have h1 := zCS p.num q.den (by have := hp.1; omega) (by omega)
 have h2 := zCS q.num p.den (by have := hq.1; omega) (by omega)
 have m1 := zDF hp.1 l1
 have m2 := zDF hq.1 l2
 have h3 := zMc (p.num * q.den) (q.num * p.den) (by omega) (by omega)
 have h4 := zMj p.den q.den (by have := hp.2; omega) (by have := hq.2; omega)
 have m3 := zNW m1 m2
 have m4 := zIg hp.2 hq.2
 have h5 := zHR (p.num * q.den + q.num * p.den) ((p.den * q.den : Nat) : Int) (by have := Nat.mul_ne_zero p.den_nz q.den_nz; omega) (by omega) (by rw [Int.natAbs_natCast]; omega)
 rw [zIf, zKC] at h5
 rw [zIf] at h1 h2
 refine zQ.value0 (zE (P := Tryz.prog) (fn := Tryz.f148) Z Z (by kernel_rfl) Z (fun c hR hfix => ?_)) (fix := fun _ => False) (fun _ h => h) Z Z
 refine rn6 ?_
 refine zi (by kernel_rfl) ?_
 refine zq (fuel := 1) [0, 1, 2, 3, 4, 5, 6, 7, 8, 9, 10, 11, 12, 13, 14, 15, 16, 17, 18, 19] [(2, .ptr 0 0 0), (3, .ptr 1 0 0), (4, .ptr 2 0 0)] ⟨Z, Z, Z, trivial⟩ (by kernel_rfl) (by decide) Z Z ?_
 refine zM Z Z (zH Z Z Z Z Z Z) ?_
 refine zM Z Z (qpp Z Z Z Z Z Z Z) ?_
 refine zM Z Z (zH Z Z Z Z Z Z) ?_
 refine zM Z Z (zX Z Z Z Z Z) ?_
 refine zM Z Z (zBH Z Z Z Z Z Z) ?_
 refine zA8 Z Z Z Z Z h1 ?_
 refine zM Z Z (zH Z Z Z Z Z Z) ?_
 refine zM Z Z (qpp Z Z Z Z Z Z Z) ?_
 refine zM Z Z (zH Z Z Z Z Z Z) ?_
 refine zM Z Z (zX Z Z Z Z Z) ?_
 refine zM Z Z (zBH Z Z Z Z Z Z) ?_
 refine zA8 Z Z Z Z Z h2 ?_
 refine zA8 Z Z Z Z Z h3 ?_
 refine zM Z Z (zH Z Z Z Z Z Z) ?_
 refine zM Z Z (zX Z Z Z Z Z) ?_
 refine zM Z Z (zH Z Z Z Z Z Z) ?_
 refine zM Z Z (zX Z Z Z Z Z) ?_
 refine zA8 Z Z Z Z Z h4 ?_
 refine zM Z Z (zBH Z Z Z Z Z Z) ?_
 refine zA8 Z Z Z Z Z h5 ?_
 refine zAC ?_
 refine zF (is := [20]) (by kernel_rfl) (by simp) Z ⟨fun o ho => ?_, trivial⟩
 all_goals (cases ho)
 skip
 unfold qA
 refine sa1 (c' := .box [.bool (decide ((p + q).num < 0)), zh (p + q).num.natAbs, zh (p + q).den]) Z Z Z Z Z Z Z ?_
 refine rn1 ?_
 refine zW (by kernel_rfl) ?_
 refine rn0 ?_
 exact zL hR Z Z
theorem zMs (p q : Rat) (hp : Sz 100000 p) (hq : Sz 100000 q) : zU Tryz.prog 127 [qA p, qA q] (qA (p * q)) := by
 have h1 := zCS p.num q.num (by have := hp.1; omega) (by have := hq.1; omega)
 have m1 := zDF hp.1 hq.1
 have h4 := zMj p.den q.den (by have := hp.2; omega) (by have := hq.2; omega)
 have m4 := zIg hp.2 hq.2
 have h5 := zHR (p.num * q.num) ((p.den * q.den : Nat) : Int) (by have := Nat.mul_ne_zero p.den_nz q.den_nz; omega) (by omega) (by rw [Int.natAbs_natCast]; omega)
 rw [zIf, zKU] at h5
 refine zQ.value0 (zE (P := Tryz.prog) (fn := Tryz.f127) Z Z (by kernel_rfl) Z (fun c hR hfix => ?_)) (fix := fun _ => False) (fun _ h => h) Z Z
 refine rn6 ?_
 refine zi (by kernel_rfl) ?_
 refine zq (fuel := 1) [0, 1, 2, 3, 4, 5, 6, 7, 8, 9, 10, 11] [(2, .ptr 0 0 0), (3, .ptr 1 0 0), (4, .ptr 2 0 0)] ⟨Z, Z, Z, trivial⟩ (by kernel_rfl) (by decide) Z Z ?_
 refine zM Z Z (zH Z Z Z Z Z Z) ?_
 refine zM Z Z (qpp Z Z Z Z Z Z Z) ?_
 refine zM Z Z (zH Z Z Z Z Z Z) ?_
 refine zM Z Z (qpp Z Z Z Z Z Z Z) ?_
 refine zA8 Z Z Z Z Z h1 ?_
 refine zM Z Z (zH Z Z Z Z Z Z) ?_
 refine zM Z Z (zX Z Z Z Z Z) ?_
 refine zM Z Z (zH Z Z Z Z Z Z) ?_
 refine zM Z Z (zX Z Z Z Z Z) ?_
 refine zA8 Z Z Z Z Z h4 ?_
 refine zM Z Z (zBH Z Z Z Z Z Z) ?_
 refine zA8 Z Z Z Z Z h5 ?_
 refine zAC ?_
 refine zF (is := [12]) (by kernel_rfl) (by simp) Z ⟨fun o ho => ?_, trivial⟩
 all_goals (cases ho)
 skip
 unfold qA
 refine sa1 (c' := .box [.bool (decide ((p * q).num < 0)), zh (p * q).num.natAbs, zh (p * q).den]) Z Z Z Z Z Z Z ?_
 refine rn1 ?_
 refine zW (by kernel_rfl) ?_
 refine rn0 ?_
 exact zL hR Z Z
theorem zMr (p q : Rat) (hp : Sz 100000 p) (hq : Sz 100000 q) (h0 : q ≠ 0) : zU Tryz.prog 149 [qA p, qA q] (qA (p / q)) := by
 have l1 : (zS (q.den : Int).natAbs).length ≤ 100000 := hq.2
 have l2 : (zS (p.den : Int).natAbs).length ≤ 100000 := hp.2
 have h1 := zCS p.num q.den (by have := hp.1; omega) (by omega)
 have h2 := zCS q.num p.den (by have := hq.1; omega) (by omega)
 have m1 := zDF hp.1 l1
 have m2 := zDF hq.1 l2
 have hn : q.num ≠ 0 := fun h => h0 (Rat.num_eq_zero.1 h)
 have h5 := zHR (p.num * q.den) (q.num * p.den) (Int.mul_ne_zero hn (den_ne p)) (by omega) (by omega)
 rw [zNN p q h0] at h5
 rw [zIf] at h1 h2
 refine zQ.value0 (zE (P := Tryz.prog) (fn := Tryz.f149) Z Z (by kernel_rfl) Z (fun c hR hfix => ?_)) (fix := fun _ => False) (fun _ h => h) Z Z
 refine rn6 ?_
 refine zi (by kernel_rfl) ?_
 refine zq (fuel := 1) [0, 1, 2, 3, 4, 5, 6, 7, 8, 9, 10, 11, 12] [(2, .ptr 0 0 0), (3, .ptr 1 0 0), (4, .ptr 2 0 0)] ⟨Z, Z, Z, trivial⟩ (by kernel_rfl) (by decide) Z Z ?_
 refine zM Z Z (zH Z Z Z Z Z Z) ?_
 refine zM Z Z (qpp Z Z Z Z Z Z Z) ?_
 refine zM Z Z (zH Z Z Z Z Z Z) ?_
 refine zM Z Z (zX Z Z Z Z Z) ?_
 refine zM Z Z (zBH Z Z Z Z Z Z) ?_
 refine zA8 Z Z Z Z Z h1 ?_
 refine zM Z Z (zH Z Z Z Z Z Z) ?_
 refine zM Z Z (qpp Z Z Z Z Z Z Z) ?_
 refine zM Z Z (zH Z Z Z Z Z Z) ?_
 refine zM Z Z (zX Z Z Z Z Z) ?_
 refine zM Z Z (zBH Z Z Z Z Z Z) ?_
 refine zA8 Z Z Z Z Z h2 ?_
 refine zA8 Z Z Z Z Z h5 ?_
 refine zAC ?_
 refine zF (is := [13]) (by kernel_rfl) (by simp) Z ⟨fun o ho => ?_, trivial⟩
 all_goals (cases ho)
 skip
 unfold qA
 refine sa1 (c' := .box [.bool (decide ((p / q).num < 0)), zh (p / q).num.natAbs, zh (p / q).den]) Z Z Z Z Z Z Z ?_
 refine rn1 ?_
 refine zW (by kernel_rfl) ?_
 refine rn0 ?_
 exact zL hR Z Z
theorem zGV (p q : Rat) (hp : Sz 100000 p) (hq : Sz 100000 q) : zU Tryz.prog 71 [qA p, qA q] (.int .i64 (zC7 p q)) := by
 have l1 : (zS (q.den : Int).natAbs).length ≤ 100000 := hq.2
 have l2 : (zS (p.den : Int).natAbs).length ≤ 100000 := hp.2
 have h1 := zCS p.num q.den (by have := hp.1; omega) (by omega)
 have h2 := zCS q.num p.den (by have := hq.1; omega) (by omega)
 have m1 := zDF hp.1 l1
 have m2 := zDF hq.1 l2
 have h5 := zQB (p.num * q.den) (q.num * p.den) (by omega) (by omega)
 rw [sgn_cmp p q] at h5
 rw [zIf] at h1 h2
 refine zQ.value0 (zE (P := Tryz.prog) (fn := Tryz.f71) Z Z (by kernel_rfl) Z (fun c hR hfix => ?_)) (fix := fun _ => False) (fun _ h => h) Z Z
 refine rn6 ?_
 refine zi (by kernel_rfl) ?_
 refine zq (fuel := 0) [0, 1, 2, 3, 4, 5, 6, 7, 8, 9, 10, 11, 12, 13] [(2, .ptr 0 0 0), (3, .ptr 1 0 0)] ⟨Z, Z, trivial⟩ (by kernel_rfl) (by decide) Z Z ?_
 refine zM Z Z (zH Z Z Z Z Z Z) ?_
 refine zM Z Z (qpp Z Z Z Z Z Z Z) ?_
 refine zM Z Z (zH Z Z Z Z Z Z) ?_
 refine zM Z Z (zX Z Z Z Z Z) ?_
 refine zM Z Z (zBH Z Z Z Z Z Z) ?_
 refine zA8 Z Z Z Z Z h1 ?_
 refine zM Z Z (zH Z Z Z Z Z Z) ?_
 refine zM Z Z (qpp Z Z Z Z Z Z Z) ?_
 refine zM Z Z (zH Z Z Z Z Z Z) ?_
 refine zM Z Z (zX Z Z Z Z Z) ?_
 refine zM Z Z (zBH Z Z Z Z Z Z) ?_
 refine zA8 Z Z Z Z Z h2 ?_
 refine zA8 Z Z Z Z Z h5 ?_
 refine zM Z Z (zm Z) ?_
 refine zAC ?_
 refine zW (by kernel_rfl) ?_
 refine rn0 ?_
 exact zL hR Z Z
theorem zKk (p : Rat) : zU Tryz.prog 76 [qA p] (.int .i64 (sgn p.num)) := by
 have h1 := zEK p.num
 refine zQ.value0 (zE (P := Tryz.prog) (fn := Tryz.f76) Z Z (by kernel_rfl) Z (fun c hR hfix => ?_)) (fix := fun _ => False) (fun _ h => h) Z Z
 refine rn6 ?_
 refine zB Z Z Z h1 ?_
 refine rn0 ?_
 exact zL hR Z Z
theorem zQS (p : Rat) : zU Tryz.prog 85 [qA p] (qA (-p)) := by
 have h1 := zGL p.num
 refine zQ.value0 (zE (P := Tryz.prog) (fn := Tryz.f85) Z Z (by kernel_rfl) Z (fun c hR hfix => ?_)) (fix := fun _ => False) (fun _ h => h) Z Z
 refine rn6 ?_
 refine zi (by kernel_rfl) ?_
 refine zq (fuel := 1) [0, 1, 2, 3, 4, 5] [(1, .ptr 0 0 0), (2, .ptr 1 0 0)] ⟨Z, Z, trivial⟩ (by kernel_rfl) (by decide) Z Z ?_
 refine zM Z Z (zH Z Z Z Z Z Z) ?_
 refine zM Z Z (qpp Z Z Z Z Z Z Z) ?_
 refine zA8 Z Z Z Z Z h1 ?_
 refine zM Z Z (zH Z Z Z Z Z Z) ?_
 refine zM Z Z (zX Z Z Z Z Z) ?_
 refine zM Z Z (zBH Z Z Z Z Z Z) ?_
 refine zAC ?_
 refine zF (is := [6]) (by kernel_rfl) (by simp) Z ⟨fun o ho => ?_, trivial⟩
 all_goals (cases ho)
 skip
 refine sa1 (c' := .box [.bool (decide ((-p).num < 0)), zh (-p).num.natAbs, zh (-p).den]) Z Z Z Z Z Z Z ?_
 refine rn1 ?_
 refine zW (by kernel_rfl) ?_
 refine rn0 ?_
 exact zL hR Z Z
theorem sz_neg {k : Nat} {q : Rat} (h : Sz k q) : Sz k (-q) := by
 refine ⟨?_, h.2⟩
 show (zS (-q.num).natAbs).length ≤ k
 rw [Int.natAbs_neg]; exact h.1
theorem zQT (p q : Rat) (hp : Sz 100000 p) (hq : Sz 100000 q) : zU Tryz.prog 147 [qA p, qA q] (qA (p - q)) := by
 have h1 := zQS q
 have h2 := zIq p (-q) hp (sz_neg hq)
 rw [← Rat.sub_eq_add_neg] at h2
 refine zQ.value0 (zE (P := Tryz.prog) (fn := Tryz.f147) Z Z (by kernel_rfl) Z (fun c hR hfix => ?_)) (fix := fun _ => False) (fun _ h => h) Z Z
 refine rn6 ?_
 refine zi (by kernel_rfl) ?_
 refine zq (fuel := 1) [0, 1, 2, 3] [(2, .ptr 0 0 0), (3, .ptr 1 0 0), (4, .ptr 2 0 0)] ⟨Z, Z, Z, trivial⟩ (by kernel_rfl) (by decide) Z Z ?_
 refine zM Z Z (qpp Z Z Z Z Z Z Z) ?_
 refine zM Z Z (qpp Z Z Z Z Z Z Z) ?_
 refine zA8 Z Z Z Z Z h1 ?_
 refine zA8 Z Z Z Z Z h2 ?_
 refine zAC ?_
 refine zF (is := [4]) (by kernel_rfl) (by simp) Z ⟨fun o ho => ?_, trivial⟩
 all_goals (cases ho)
 skip
 unfold qA
 refine sa1 (c' := .box [.bool (decide ((p - q).num < 0)), zh (p - q).num.natAbs, zh (p - q).den]) Z Z Z Z Z Z Z ?_
 refine rn1 ?_
 refine zW (by kernel_rfl) ?_
 refine rn0 ?_
 exact zL hR Z Z
end Go.Proofs.YtkncmbklkhjmgaaGreatDoor
namespace Go.Proofs.YtkncmbklkhjmgaaGreatDoor
open Go.Ax Go.Ax.Bg Go.Ax.Rt Go.RowKit
attribute [local irreducible] Ax zBn QOp zQ zBX
open Go.Ax.Tb (zDD zKG)
theorem zNe : zh 1 = .ro (.ints .u32 [1]) 0 1 := by unfold zh; rw [zG1]; rfl
theorem qA_int (z : Int) : qA (z : Rat) = .agg [.bool (decide (z < 0)), zh z.natAbs, zh 1] := rfl
theorem qof_ok (n : Int) (h : -9223372036854775808 ≤ n ∧ n < 9223372036854775808) : zU Tryz.prog 140 [.int .i64 n] (qA (n : Rat)) := by
 have h1 := zLF n h
 refine zQ.value0 (zE (P := Tryz.prog) (fn := Tryz.f140) Z Z (by kernel_rfl) Z (fun c hR hfix => ?_)) (fix := fun _ => False) (fun _ h => h) Z Z
 refine rn4 ?_
 refine zB Z Z Z h1 ?_
 unfold zA1
 refine rn8 ?_
 refine sa1 (c' := .box [.bool (decide (n < 0)), zh n.natAbs, .ro (.ints .u32 [1]) 0 1]) Z Z Z Z Z Z Z ?_
 refine rn0 ?_
 refine zL hR Z ?_
 rw [qA_int, zNe]
 rfl
theorem zO2 (s : List UInt8) (b : Int) : zU Tryz.prog 258 [.str s, .int .u8 b] (.int .i64 (Lib.indexByte s b.toNat.toUInt8)) := by
 refine zQ.value0 (zE (P := Tryz.prog) (fn := Tryz.f258) Z Z (by kernel_rfl) Z (fun c hR hfix => ?_)) (fix := fun _ => False) (fun _ h => h) Z Z
 refine rn0 ?_
 refine zG (zNu Z Z Z Z (by kernel_rfl) (by kernel_rfl) (by kernel_rfl) (by kernel_rfl)) ?_
 refine rn0 ?_
 exact zL hR Z Z
theorem indexI1 (s : List UInt8) (b : UInt8) : zU Tryz.prog 213 [.str s, .str [b]] (.int .i64 (Lib.indexByte s b)) := by
 refine zQ.value0 (zE (P := Tryz.prog) (fn := Tryz.f213) Z Z (by kernel_rfl) Z (fun c hR hfix => ?_)) (fix := fun _ => False) (fun _ h => h) Z Z
 refine rn6 ?_
 refine zA Z (fun h => ?_) (fun h => ?_)
 ·refine rn6 ?_
  refine zL hR Z ?_
  subst h
  simp [zBw, Lib.indexByte]
 refine rn12 ?_
 refine zB Z Z Z (zO2 s b.toNat) ?_
 refine rn6 ?_
 refine zL hR Z ?_
 simp [zBw]
theorem zMd (l : List UInt8) (b : UInt8) : Lib.indexByte l b < l.length := by
 induction l with
 | nil => simp [Lib.indexByte]
 | cons c r ih =>
  rw [Lib.indexByte]
  simp only [List.length_cons]
  split
  ·omega
  ·split
   ·omega
   ·omega
theorem cutI (s : List UInt8) (b : UInt8) (h : s.length ≤ 9223372036854775807) : zU Tryz.prog 159 [.str s, .str [b]] (.tup [.str (zDD b s).1, .str (zDD b s).2.1, .bool (zDD b s).2.2]) := by
 have hc := zKG b s
 have hlt := zMd s b
 have hge := Lib.indexByte_ge s b
 have ci := indexI1 s b
 refine zQ.value0 (zE (P := Tryz.prog) (fn := Tryz.f159) Z Z (by kernel_rfl) Z (fun c hR hfix => ?_)) (fix := fun _ => False) (fun _ h => h) Z Z
 generalize Lib.indexByte s b = i at *
 refine rn0 ?_
 refine zB Z Z Z ci ?_
 refine rn7 ?_
 refine zA Z (fun h0 => ?_) (fun h0 => ?_)
 ·rw [if_pos h0] at hc
  rw [hc] at hR
  have hb1 : ([b] : List UInt8).length = 1 := rfl
  have hi1 : (i + 1).toNat = i.toNat + 1 := by omega
  repeat (refine z7 ?_)
  refine zDw (by kernel_rfl) (by kernel_rfl) Z ?_
  refine rn16 ?_
  refine zL hR Z ?_
  simp [zBw, hi1]
  exact List.take_of_length_le (by simp)
 ·rw [if_neg h0] at hc
  rw [hc] at hR
  refine rn1 ?_
  exact zL hR Z Z
theorem cutS (s : List UInt8) (b : UInt8) (h : s.length ≤ 9223372036854775807) : zU Tryz.prog 78 [.str s, .str [b]] (.tup [.str (zDD b s).1, .str (zDD b s).2.1, .bool (zDD b s).2.2]) := by
 have ci := cutI s b h
 refine zQ.value0 (zE (P := Tryz.prog) (fn := Tryz.f78) Z Z (by kernel_rfl) Z (fun c hR hfix => ?_)) (fix := fun _ => False) (fun _ h => h) Z Z
 generalize zDD b s = q at *
 refine rn0 ?_
 refine zB Z Z Z ci ?_
 refine rn2 ?_
 exact zL hR Z Z
theorem cutP1 (s p : List UInt8) (hs : s.length ≤ 9223372036854775807) (hp : p.length ≤ 9223372036854775807) : zU Tryz.prog 158 [.str s, .str p] (.tup [.str (if zIl s p then s.drop p.length else s), .bool (zIl s p)]) := by
 have h1 := zQQ s p hs hp
 refine zQ.value0 (zE (P := Tryz.prog) (fn := Tryz.f158) Z Z (by kernel_rfl) Z (fun c hR hfix => ?_)) (fix := fun _ => False) (fun _ h => h) Z Z
 by_cases h : zIl s p = true
 ·have hle : p.length ≤ s.length := by unfold zIl at h; exact (of_decide_eq_true h).1
  rw [h] at h1 hR
  refine rn0 ?_
  refine zB Z Z Z h1 ?_
  refine rn16 ?_
  refine zL hR Z ?_
  simp only [zBw, Int.toNat_natCast]
  rw [List.take_of_length_le (by simp)]
  rfl
 ·rw [Bool.not_eq_true] at h
  rw [h] at h1 hR
  refine rn0 ?_
  refine zB Z Z Z h1 ?_
  refine rn5 ?_
  exact zL hR Z Z
theorem cutP (s p : List UInt8) (hs : s.length ≤ 9223372036854775807) (hp : p.length ≤ 9223372036854775807) : zU Tryz.prog 77 [.str s, .str p] (.tup [.str (if zIl s p then s.drop p.length else s), .bool (zIl s p)]) := by
 have h1 := cutP1 s p hs hp
 refine zQ.value0 (zE (P := Tryz.prog) (fn := Tryz.f77) Z Z (by kernel_rfl) Z (fun c hR hfix => ?_)) (fix := fun _ => False) (fun _ h => h) Z Z
 generalize zIl s p = b at *
 refine rn0 ?_
 refine zB Z Z Z h1 ?_
 refine rn2 ?_
 exact zL hR Z Z
end Go.Proofs.YtkncmbklkhjmgaaGreatDoor
namespace Go.Proofs.YtkncmbklkhjmgaaGreatDoor
open Go.Ax Go.Ax.Bg Go.Ax.Rt Go.RowKit
attribute [local irreducible] Ax zBn QOp zQ zBX
open Go.Ax.Tb (zDD zKG zNJ)
theorem zQP (s : List UInt8) : zIl s [45] = zDb s := by
 unfold zIl zDb
 cases s with
 | nil => rfl
 | cons c r => simp
theorem zND (s : List UInt8) : (zEZ s).length ≤ s.length := by
 unfold zEZ; split
 ·simp
 ·exact Nat.le_refl _
theorem zRR (s : List UInt8) : (zEV s).length ≤ s.length ∧ (zEU s).length ≤ s.length := by
 have h := zNJ 47 (zEZ s)
 have h2 := zND s
 unfold zEV zEU
 omega
theorem cutNeg (s : List UInt8) (hs : s.length ≤ 9223372036854775807) : zU Tryz.prog 77 [.str s, .str [45]] (.tup [.str (zEZ s), .bool (zDb s)]) := by
 have h := cutP s [45] hs (by decide)
 rw [zQP] at h
 exact h
theorem cutBar (s : List UInt8) (hs : s.length ≤ 9223372036854775807) : zU Tryz.prog 78 [.str (zEZ s), .str [47]] (.tup [.str (zEV s), .str (zEU s), .bool (zGh s)]) :=
 cutS (zEZ s) 47 (Nat.le_trans (zND s) hs)
theorem zFB (s : List UInt8) (hs : s.length ≤ 9223372036854775807) (h : zCf s = 0) : zU Tryz.prog 70 [.str s] (qA (zv s)) := by
 have hp := zF5 h
 have h1 := cutNeg s (by omega)
 have h2 := cutBar s hs
 have h3 := zJ4 (zEV s) hp.cn.2.1 (by have := hp.ln; omega)
 have h4 := zFS (zDb s) (zA7 0 (zEV s))
 rw [← hp.num] at h4
 unfold qA
 rw [hp.den]
 cases e : zGh s
 ·rw [e] at h2
  rw [zHM e, zNe]
  refine zQ.value0 (zE (P := Tryz.prog) (fn := Tryz.f70) Z Z (by kernel_rfl) Z (fun c hR hfix => ?_)) (fix := fun _ => False) (fun _ h => h) Z Z
  refine rn4 ?_
  refine zB Z Z Z h1 ?_
  refine rn2 ?_
  refine zB Z Z Z h2 ?_
  refine rn2 ?_
  refine zB Z Z Z h3 ?_
  skip
  refine zB Z Z Z h4 ?_
  unfold zA1
  refine rn8 ?_
  refine sa1 (c' := .box [.bool (decide ((zv s).num < 0)), zh (zv s).num.natAbs, .ro (.ints .u32 [1]) 0 1]) Z Z Z Z Z Z Z ?_
  refine rn6 ?_
  refine sa1 (c' := .box [.bool (decide ((zv s).num < 0)), zh (zv s).num.natAbs, .ro (.ints .u32 [1]) 0 1]) Z Z Z Z Z Z Z ?_
  refine rn0 ?_
  exact zL hR Z Z
 ·rw [e] at h2
  rw [zFt e]
  have h5 := zJ4 (zEU s) (hp.cd e).1.2.1 (by have := hp.ld; omega)
  refine zQ.value0 (zE (P := Tryz.prog) (fn := Tryz.f70) Z Z (by kernel_rfl) Z (fun c hR hfix => ?_)) (fix := fun _ => False) (fun _ h => h) Z Z
  refine rn4 ?_
  refine zB Z Z Z h1 ?_
  refine rn2 ?_
  refine zB Z Z Z h2 ?_
  refine rn2 ?_
  refine zB Z Z Z h3 ?_
  skip
  refine zB Z Z Z h4 ?_
  unfold zA1
  refine rn8 ?_
  refine sa1 (c' := .box [.bool (decide ((zv s).num < 0)), zh (zv s).num.natAbs, .ro (.ints .u32 [1]) 0 1]) Z Z Z Z Z Z Z ?_
  refine rn5 ?_
  refine zB Z Z Z h5 ?_
  refine rn9 ?_
  refine sa1 (c' := .box [.bool (decide ((zv s).num < 0)), zh (zv s).num.natAbs, zh (zA7 0 (zEU s))]) Z Z Z Z Z Z Z ?_
  refine rn0 ?_
  exact zL hR Z Z
theorem qtext_ok (q : Rat) (hq : Sz 100000 q) : zU Tryz.prog 152 [qA q] (.str (zt q)) := by
 have h1 := zJ9 q.num.natAbs (by have := hq.1; omega)
 have h2 := one_ok q.den
 have h3 := zJ9 q.den (by have := hq.2; omega)
 unfold zt
 have l1 := zDh hq.1 (by decide)
 have l2 := zDh hq.2 (by decide)
 refine zQ.value0 (zE (P := Tryz.prog) (fn := Tryz.f152) Z Z (by kernel_rfl) Z (fun c hR hfix => ?_)) (fix := fun _ => False) (fun _ h => h) Z Z
 by_cases hn : q.num < 0 <;> by_cases hd : q.den = 1
 ·rw [if_pos hn, if_pos hd] at hR
  rw [decide_eq_true hd] at h2
  unfold qA
  rw [decide_eq_true hn]
  refine rn6 ?_
  refine zB Z Z Z h1 ?_
  refine rn5 ?_
  refine zG (zFC Z Z (by show ([45] : List UInt8).length + _ ≤ _; simp only [List.length_cons, List.length_nil, List.length_append]; omega)) ?_
  refine rn5 ?_
  refine zB Z Z Z h2 ?_
  refine rn5 ?_
  refine zL hR Z ?_
  simp [zBw]
 ·rw [if_pos hn, if_neg hd] at hR
  rw [decide_eq_false hd] at h2
  unfold qA
  rw [decide_eq_true hn]
  refine rn6 ?_
  refine zB Z Z Z h1 ?_
  refine rn5 ?_
  refine zG (zFC Z Z (by show ([45] : List UInt8).length + _ ≤ _; simp only [List.length_cons, List.length_nil, List.length_append]; omega)) ?_
  refine rn5 ?_
  refine zB Z Z Z h2 ?_
  refine rn5 ?_
  refine zB Z Z Z h3 ?_
  skip
  refine zG (zFC Z Z (by show ([47] : List UInt8).length + _ ≤ _; simp only [List.length_cons, List.length_nil, List.length_append]; omega)) ?_
  refine zG (zFC (b := 47 :: Lib.decDigits q.den) Z Z (by simp only [List.length_cons, List.length_nil, List.length_append]; omega)) ?_
  refine rn0 ?_
  refine zL hR Z ?_
  simp [zBw]
 ·rw [if_neg hn, if_pos hd] at hR
  rw [decide_eq_true hd] at h2
  unfold qA
  rw [decide_eq_false hn]
  refine rn6 ?_
  refine zB Z Z Z h1 ?_
  refine rn5 ?_
  refine zB Z Z Z h2 ?_
  refine rn5 ?_
  refine zL hR Z ?_
  simp [zBw]
 ·rw [if_neg hn, if_neg hd] at hR
  rw [decide_eq_false hd] at h2
  unfold qA
  rw [decide_eq_false hn]
  refine rn6 ?_
  refine zB Z Z Z h1 ?_
  refine rn5 ?_
  refine zB Z Z Z h2 ?_
  refine rn5 ?_
  refine zB Z Z Z h3 ?_
  skip
  refine zG (zFC Z Z (by show ([47] : List UInt8).length + _ ≤ _; simp only [List.length_cons, List.length_nil, List.length_append]; omega)) ?_
  refine zG (zFC (b := 47 :: Lib.decDigits q.den) Z Z (by simp only [List.length_cons, List.length_nil, List.length_append]; omega)) ?_
  refine rn0 ?_
  refine zL hR Z ?_
  simp [zBw]
end Go.Proofs.YtkncmbklkhjmgaaGreatDoor
namespace Go.Proofs.YtkncmbklkhjmgaaGreatDoor
open Go.Ax Go.Ax.Bg Go.Ax.Rt Go.RowKit
attribute [local irreducible] Ax zBn QOp zQ zBX
theorem zPo {n k m : Nat} (h : k < (zS n).length) (hm : m ≤ 9 * k) : m < (Lib.decDigits n).length := by
 rcases Nat.lt_or_ge m (Lib.decDigits n).length with q | q
 ·exact q
 exfalso
 have h1 := zEr n
 have h2 : 10 ^ (Lib.decDigits n).length ≤ 10 ^ (9 * k) := Nat.pow_le_pow_right (by decide) (by omega)
 have h3 : 10 ^ (9 * k) ≤ B ^ k := by rw [Nat.pow_mul]; exact Nat.pow_le_pow_left (by decide) k
 have h4 : ¬ n < B ^ k := fun h5 => by have := zAe h5; omega
 omega
theorem zMa (q : Rat) (hq : Sz 100000 q) : zU Tryz.prog 151 [qA q, .int .i64 2000] (.bool (zBp q)) := by
 have h1 := zJ9 q.num.natAbs (by have := hq.1; omega)
 have h3 := zJ9 q.den (by have := hq.2; omega)
 have l1 := zDh hq.1 (by decide)
 have l2 := zDh hq.2 (by decide)
 have g1 := hq.1
 have g2 := hq.2
 have b1 := @zPo q.num.natAbs 224 2000
 have b2 := @zPo q.den 224 2000
 unfold zBp
 refine zQ.value0 (zE (P := Tryz.prog) (fn := Tryz.f151) Z Z (by kernel_rfl) Z (fun c hR hfix => ?_)) (fix := fun _ => False) (fun _ h => h) Z Z
 unfold qA
 unfold zh at h1 h3 ⊢
 refine rn15 ?_
 refine zA Z (fun h0 => ?_) (fun h0 => ?_)
 ·refine rn2 ?_
  refine zL hR Z ?_
  have h5 : 224 < (zS q.num.natAbs).length ∨ 224 < (zS q.den).length := by
   split at h0 <;> omega
  have h6 : ¬ ((Lib.decDigits q.num.natAbs).length ≤ 2000 ∧ (Lib.decDigits q.den).length ≤ 2000) := by
   rcases h5 with h5 | h5
   ·have := b1 h5 (by decide); omega
   ·have := b2 h5 (by decide); omega
  rw [← Bool.decide_and, decide_eq_false h6]
  rfl
 ·refine rn5 ?_
  refine zB Z Z Z h1 ?_
  refine rn8 ?_
  refine zAi Z Z (fun h5 => ?_) (fun h5 => ?_)
  ·refine rn5 ?_
   refine zB Z Z Z h3 ?_
   refine rn8 ?_
   refine zL hR Z ?_
   rw [show decide ((Lib.decDigits q.num.natAbs).length ≤ 2000) = true from decide_eq_true (by omega), Bool.true_and]
   show AV.bool _ = AV.bool _
   rw [show decide (((Lib.decDigits q.den).length : Int) ≤ 2000) = decide ((Lib.decDigits q.den).length ≤ 2000) from by rw [decide_eq_decide]; omega]
  ·refine rn6 ?_
   refine zL hR Z ?_
   rw [show decide ((Lib.decDigits q.num.natAbs).length ≤ 2000) = false from decide_eq_false (by omega), Bool.false_and]
   rfl
theorem zMo (q : Rat) (hq : Sz 100000 q) (h : zBp q = true) : zU Tryz.prog 69 [qA q] (.tup [.str (zt q), .int .i64 0]) := by
 have h1 := zMa q hq
 have h2 := qtext_ok q hq
 rw [h] at h1
 refine zQ.value0 (zE (P := Tryz.prog) (fn := Tryz.f69) Z Z (by kernel_rfl) Z (fun c hR hfix => ?_)) (fix := fun _ => False) (fun _ h => h) Z Z
 refine rn6 ?_
 refine zB Z Z Z h1 ?_
 refine rn6 ?_
 refine zB Z Z Z h2 ?_
 refine rn0 ?_
 exact zL hR Z Z
theorem out_no (q : Rat) (hq : Sz 100000 q) (h : zBp q = false) : zU Tryz.prog 69 [qA q] (.tup [.str [], .int .i64 2]) := by
 have h1 := zMa q hq
 rw [h] at h1
 refine zQ.value0 (zE (P := Tryz.prog) (fn := Tryz.f69) Z Z (by kernel_rfl) Z (fun c hR hfix => ?_)) (fix := fun _ => False) (fun _ h => h) Z Z
 refine rn6 ?_
 refine zB Z Z Z h1 ?_
 refine rn5 ?_
 exact zL hR Z Z
theorem zPG (q : Rat) (hq : Sz 100000 q) : zU Tryz.prog 69 [qA q] (zEN (zH0 q)) := by
 unfold zH0
 cases h : zBp q
 ·exact out_no q hq h
 ·exact zMo q hq h
theorem zJQ (s : List UInt8) (hs : s.length ≤ 9223372036854775807) : zU Tryz.prog 27 [.str s] (.int .i64 (zCf s)) := by
 have h1 := cutNeg s (by omega)
 have h2 := cutBar s hs
 obtain ⟨ln, ld⟩ := zRR s
 have h3 := zLY (zEV s) (by omega)
 have h4 := zLY (zEU s) (by omega)
 have cn := @zDx (zEV s)
 have cd := @zDx (zEU s)
 unfold zCf
 generalize zEV s = n at *
 generalize zEU s = d at *
 generalize zGh s = ok at *
 generalize zDb s = ng at *
 generalize zEZ s = b at *
 generalize zFc n = p at *
 generalize zFc d = q at *
 refine zQ.value0 (zE (P := Tryz.prog) (fn := Tryz.f27) Z Z (by kernel_rfl) Z (fun c hR hfix => ?_)) (fix := fun _ => False) (fun _ h => h) Z Z
 refine rn0 ?_
 refine zB Z Z Z h1 ?_
 refine rn2 ?_
 refine zB Z Z Z h2 ?_
 refine zBc ?_
 by_cases hsyn : p = false ∨ (ok = true ∧ q = false) ∨ (ng = true ∧ n = [48])
 ·rw [if_pos hsyn] at hR
  cases p
  ·refine rn0 ?_
   refine zB Z Z Z h3 ?_
   refine rn16 ?_
   exact zL hR Z Z
  ·cases ok
   ·obtain ⟨hng, hn⟩ : ng = true ∧ n = [48] := by simpa using hsyn
    subst hng
    subst hn
    refine rn0 ?_
    refine zB Z Z Z h3 ?_
    refine rn6 ?_
    exact zL hR Z Z
   ·cases q
    ·refine rn0 ?_
     refine zB Z Z Z h3 ?_
     refine rn5 ?_
     refine zB Z Z Z h4 ?_
     refine rn16 ?_
     exact zL hR Z Z
    ·obtain ⟨hng, hn⟩ : ng = true ∧ n = [48] := by simpa using hsyn
     subst hng
     subst hn
     refine rn0 ?_
     refine zB Z Z Z h3 ?_
     refine rn5 ?_
     refine zB Z Z Z h4 ?_
     refine rn6 ?_
     exact zL hR Z Z
 rw [if_neg hsyn] at hR
 apply zAK (H := []) [(5, .str n), (6, .str d), (7, .bool ok)]
 ·intro fin
  cases p
  ·exact absurd (.inl Z) hsyn
  cases ok
  ·cases ng
   ·refine rn0 ?_
    refine zB Z Z Z h3 ?_
    refine zBc ?_
    exact fin _ ⟨Z, Z, Z, trivial⟩
   ·refine rn0 ?_
    refine zB Z Z Z h3 ?_
    refine zBc ?_
    refine zA Z (fun h0 => absurd (.inr (.inr ⟨Z, h0⟩)) hsyn) (fun h0 => ?_)
    refine zBc ?_
    exact fin _ ⟨Z, Z, Z, trivial⟩
  ·cases q
   ·exact absurd (.inr (.inl ⟨Z, Z⟩)) hsyn
   cases ng
   ·refine rn0 ?_
    refine zB Z Z Z h3 ?_
    refine rn5 ?_
    refine zB Z Z Z h4 ?_
    refine zBc ?_
    exact fin _ ⟨Z, Z, Z, trivial⟩
   ·refine rn0 ?_
    refine zB Z Z Z h3 ?_
    refine rn5 ?_
    refine zB Z Z Z h4 ?_
    refine zBc ?_
    refine zA Z (fun h0 => absurd (.inr (.inr ⟨Z, h0⟩)) hsyn) (fun h0 => ?_)
    refine zBc ?_
    exact fin _ ⟨Z, Z, Z, trivial⟩
 by_cases hl : 2000 < n.length ∨ 2000 < d.length
 ·rw [if_pos hl] at hR
  refine rn6 ?_
  refine zAi Z Z (fun h5 => ?_) (fun h5 => ?_)
  ·refine rn6 ?_
   exact zL hR Z Z
  ·refine rn6 ?_
   refine zA Z (fun h0 => ?_) (fun h0 => absurd hl (by omega))
   refine rn2 ?_
   exact zL hR Z Z
 rw [if_neg hl] at hR
 refine rn6 ?_
 refine zAi Z Z (fun h5 => absurd hl (by omega)) (fun h5 => ?_)
 refine rn6 ?_
 refine zA Z (fun h0 => absurd hl (by omega)) (fun h0 => ?_)
 cases ok
 ·rw [if_neg (fun h => Bool.false_ne_true h.1)] at hR
  refine rn14 ?_
  exact zL hR Z Z
 have hp : p = true := by cases p; exact absurd (.inl rfl) hsyn; rfl
 have hq : q = true := by cases q; exact absurd (.inr (.inl ⟨rfl, rfl⟩)) hsyn; rfl
 have c1 := cn.1 hp
 have c2 := cd.1 hq
 have h6 := zJ4 n c1.2.1 (by omega)
 have h7 := zJ4 d c2.2.1 (by omega)
 have v1 : (zS (zA7 0 n)).length ≤ 2000 := zKA c1 (by omega)
 have v2 : (zS (zA7 0 d)).length ≤ 2000 := zKA c2 (by omega)
 have h8 := zO0 (zA7 0 n) (zA7 0 d) (by omega) (by omega)
 have h9 := one_ok (Nat.gcd (zA7 0 n) (zA7 0 d))
 refine rn6 ?_
 refine zAi Z Z (fun h10 => ?_) (fun h10 => ?_)
 ·rw [if_pos ⟨rfl, .inl h10⟩] at hR
  refine rn6 ?_
  exact zL hR Z Z
 ·refine rn6 ?_
  refine zAi Z Z (fun h11 => ?_) (fun h11 => ?_)
  ·rw [if_pos ⟨rfl, .inr (.inl h11)⟩] at hR
   refine rn6 ?_
   exact zL hR Z Z
  ·by_cases hg : Nat.gcd (zA7 0 n) (zA7 0 d) = 1
   ·rw [decide_eq_true hg] at h9
    rw [if_neg (fun h => by rcases h.2 with e | e | e; exact h10 e; exact h11 e; exact e hg)] at hR
    refine rn2 ?_
    refine zB Z Z Z h6 ?_
    refine rn2 ?_
    refine zB Z Z Z h7 ?_
    repeat (refine zBK rfl rfl ?_)
    refine zB Z Z Z h8 ?_
    repeat (refine zBK rfl rfl ?_)
    refine zB Z Z Z h9 ?_
    refine rn5 ?_
    exact zL hR Z Z
   ·rw [decide_eq_false hg] at h9
    rw [if_pos ⟨rfl, .inr (.inr hg)⟩] at hR
    refine rn2 ?_
    refine zB Z Z Z h6 ?_
    refine rn2 ?_
    refine zB Z Z Z h7 ?_
    repeat (refine zBK rfl rfl ?_)
    refine zB Z Z Z h8 ?_
    repeat (refine zBK rfl rfl ?_)
    refine zB Z Z Z h9 ?_
    refine rn5 ?_
    exact zL hR Z Z
theorem zEs {α : Type} {l : List α} {d : α} {k : Nat} (h : k < l.length) : l.drop k = l.getD k d :: l.drop (k + 1) := by
 rw [List.drop_eq_getElem_cons h]; simp [List.getD, h]
theorem zGs (l : List (List UInt8)) (hlen : l.length ≤ 9223372036854775807) (hs : ∀ s ∈ l, s.length ≤ 9223372036854775807) : zU Tryz.prog 73 [.ro (.strs l) 0 l.length] (.int .i64 (zDv l)) := by
 refine zQ.value0 (zE (P := Tryz.prog) (fn := Tryz.f73) Z Z (by kernel_rfl) Z (fun c hR hfix => ?_)) (fix := fun _ => False) (fun _ h => h) Z Z
 refine rn3 ?_
 refine zZ (ι := Nat) (fun k => [(0, .ro (.strs l) 0 l.length), (6, .ro (.strs l) 0 l.length), (7, iN l.length), (8, iN k)]) (fun _ => [])
  (fun k => k ≤ l.length ∧ zDv l = zDv (l.drop k)) (fun k => l.length - k) 0 ⟨⟨rfl, rfl, rfl, rfl, trivial⟩, rfl, Nat.zero_le _, by rw [List.drop_zero]⟩ ?_
 intro k ⟨hk, hE⟩
 refine rn4 ?_
 refine zA Z (fun h => ?_) (fun h => ?_)
 ·have hk' : k < l.length := by omega
  have hd := zEs (d := []) hk'
  have hc := zJQ (l.getD k []) (hs _ (zAN [] hk'))
  rw [hd, zDv] at hE
  refine rn9 ?_
  refine zB Z Z Z hc ?_
  refine rn3 ?_
  refine zA Z (fun h2 => ?_) (fun h2 => ?_)
  ·rw [if_neg h2] at hE
   refine rn6 ?_
   refine zL hR Z ?_
   rw [hE]; rfl
  ·rw [if_pos (Classical.not_not.1 h2)] at hE
   refine rn5 ?_
   refine zJ ⟨k + 1, ⟨by omega, hE⟩, by omega, ⟨Z, Z, Z, Z, trivial⟩, Z⟩
 ·have hk' : k = l.length := by omega
  subst hk'
  rw [List.drop_length] at hE
  refine rn5 ?_
  refine zL hR Z ?_
  rw [hE]; rfl
theorem sz_v {s : List UInt8} (h : zCf s = 0) : Sz 2000 (zv s) := by
 have hp := zF5 h
 refine ⟨?_, ?_⟩
 ·rw [hp.num, zFE]; exact zKA hp.cn hp.ln
 ·rw [hp.den]
  cases e : zGh s
  ·rw [zHM e, zG1]; decide
  ·rw [zFt e]; exact zKA (hp.cd e).1 hp.ld
theorem Sz.mono {j k : Nat} {q : Rat} (h : Sz j q) (hk : j ≤ k) : Sz k q := ⟨Nat.le_trans h.1 hk, Nat.le_trans h.2 hk⟩
theorem zQf {n d : Int} {k : Nat} (hd : d ≠ 0) (h1 : (zS n.natAbs).length ≤ k) (h2 : (zS d.natAbs).length ≤ k) : Sz k (Rat.divInt n d) := by
 obtain ⟨e1, e2, _⟩ := zGJ n d hd
 refine ⟨?_, ?_⟩
 ·rw [e1]; exact zFT (Nat.div_le_self _ _) h1
 ·rw [e2]; exact zFT (Nat.div_le_self _ _) h2
theorem zPY {p q : Rat} {k : Nat} (hp : Sz k p) (hq : Sz k q) : Sz (k + k + 1) (p + q) := by
 have l1 : (zS (q.den : Int).natAbs).length ≤ k := hq.2
 have l2 : (zS (p.den : Int).natAbs).length ≤ k := hp.2
 rw [← zKC]
 refine zQf (by have := Nat.mul_ne_zero p.den_nz q.den_nz; omega) (zNW (zDF hp.1 l1) (zDF hq.1 l2)) ?_
 rw [Int.natAbs_natCast]
 have := zIg hp.2 hq.2
 omega
theorem sz_mul {p q : Rat} {k : Nat} (hp : Sz k p) (hq : Sz k q) : Sz (k + k + 1) (p * q) := by
 rw [← zKU]
 refine zQf (by have := Nat.mul_ne_zero p.den_nz q.den_nz; omega) (by have := zDF hp.1 hq.1; omega) ?_
 rw [Int.natAbs_natCast]
 have := zIg hp.2 hq.2
 omega
theorem zQZ (a b : List UInt8) (ha : a.length ≤ 9223372036854775807) (hb : b.length ≤ 9223372036854775807) (g : FuncId) (F : Rat → Rat → Rat) (hF : zDv [a, b] = 0 → zU Tryz.prog g [qA (zv a), qA (zv b)] (qA (F (zv a) (zv b))) ∧ Sz 100000 (F (zv a) (zv b))) : zU Tryz.prog 126 [.str a, .str b, .fn g []] (zEN (zI0 F a b)) := by
 have h1 := zGs [a, b] (by show 2 ≤ _; decide) (by intro s hs; simp at hs; rcases hs with rfl | rfl <;> assumption)
 unfold zI0
 by_cases hE : zDv [a, b] = 0
 ·obtain ⟨h2, hz⟩ := hF hE
  rw [if_pos hE]
  rw [hE] at h1
  have ea := zCb hE a (by simp)
  have eb := zCb hE b (by simp)
  have h3 := zFB a ha ea
  have h4 := zFB b hb eb
  have h5 := zPG _ hz
  refine zQ.value0 (zE (P := Tryz.prog) (fn := Tryz.f126) Z Z (by kernel_rfl) Z (fun c hR hfix => ?_)) (fix := fun _ => False) (fun _ h => h) Z Z
  generalize zH0 (F (zv a) (zv b)) = r at *
  unfold zEN at *
  refine rn3 ?_
  refine zB Z Z Z h1 ?_
  refine rn4 ?_
  refine zB Z Z Z h3 ?_
  repeat (refine zG (zK rfl) ?_)
  refine zB Z Z Z h4 ?_
  skip
  refine zB Z Z Z h2 ?_
  skip
  refine zB Z Z Z h5 ?_
  refine rn2 ?_
  exact zL hR Z Z
 ·rw [if_neg hE]
  generalize zDv [a, b] = e at *
  refine zQ.value0 (zE (P := Tryz.prog) (fn := Tryz.f126) Z Z (by kernel_rfl) Z (fun c hR hfix => ?_)) (fix := fun _ => False) (fun _ h => h) Z Z
  refine rn3 ?_
  refine zB Z Z Z h1 ?_
  refine rn3 ?_
  refine zA Z (fun h2 => ?_) (fun h2 => absurd hE h2)
  refine rn2 ?_
  exact zL hR Z Z
theorem rone_ok (a : List UInt8) (ha : a.length ≤ 9223372036854775807) (g : FuncId) (F : Rat → Rat) (hF : zCf a = 0 → zU Tryz.prog g [qA (zv a)] (qA (F (zv a))) ∧ Sz 100000 (F (zv a))) : zU Tryz.prog 84 [.str a, .fn g []] (zEN (oneR F a)) := by
 have h1 := zJQ a ha
 unfold oneR
 by_cases hE : zCf a = 0
 ·obtain ⟨h2, hz⟩ := hF hE
  rw [if_pos hE]
  have h3 := zFB a ha hE
  rw [hE] at h1
  have h5 := zPG _ hz
  refine zQ.value0 (zE (P := Tryz.prog) (fn := Tryz.f84) Z Z (by kernel_rfl) Z (fun c hR hfix => ?_)) (fix := fun _ => False) (fun _ h => h) Z Z
  generalize zH0 (F (zv a)) = r at *
  unfold zEN at *
  refine rn0 ?_
  refine zB Z Z Z h1 ?_
  refine rn4 ?_
  refine zB Z Z Z h3 ?_
  skip
  refine zB Z Z Z h2 ?_
  skip
  refine zB Z Z Z h5 ?_
  refine rn2 ?_
  exact zL hR Z Z
 ·rw [if_neg hE]
  generalize zCf a = e at *
  refine zQ.value0 (zE (P := Tryz.prog) (fn := Tryz.f84) Z Z (by kernel_rfl) Z (fun c hR hfix => ?_)) (fix := fun _ => False) (fun _ h => h) Z Z
  refine rn0 ?_
  refine zB Z Z Z h1 ?_
  refine rn3 ?_
  refine zA Z (fun h2 => ?_) (fun h2 => absurd hE h2)
  refine rn2 ?_
  exact zL hR Z Z
theorem radd_ok (a b : List UInt8) (ha : a.length ≤ 9223372036854775807) (hb : b.length ≤ 9223372036854775807) : zU Tryz.prog 83 [.str a, .str b] (zEN (zI0 (fun x y => x + y) a b)) := by
 have h1 := zQZ a b ha hb 148 (fun x y => x + y) (fun hE => by
  have za := sz_v (zCb hE a (by simp))
  have zb := sz_v (zCb hE b (by simp))
  exact ⟨zIq _ _ (za.mono (by decide)) (zb.mono (by decide)), (zPY za zb).mono (by decide)⟩)
 refine zQ.value0 (zE (P := Tryz.prog) (fn := Tryz.f83) Z Z (by kernel_rfl) Z (fun c hR hfix => ?_)) (fix := fun _ => False) (fun _ h => h) Z Z
 generalize zI0 (fun x y => x + y) a b = r at *
 unfold zEN at *
 refine rn0 ?_
 refine zB Z Z Z h1 ?_
 refine rn2 ?_
 exact zL hR Z Z
theorem rmul_ok (a b : List UInt8) (ha : a.length ≤ 9223372036854775807) (hb : b.length ≤ 9223372036854775807) : zU Tryz.prog 43 [.str a, .str b] (zEN (zI0 (fun x y => x * y) a b)) := by
 have h1 := zQZ a b ha hb 127 (fun x y => x * y) (fun hE => by
  have za := sz_v (zCb hE a (by simp))
  have zb := sz_v (zCb hE b (by simp))
  exact ⟨zMs _ _ (za.mono (by decide)) (zb.mono (by decide)), (sz_mul za zb).mono (by decide)⟩)
 refine zQ.value0 (zE (P := Tryz.prog) (fn := Tryz.f43) Z Z (by kernel_rfl) Z (fun c hR hfix => ?_)) (fix := fun _ => False) (fun _ h => h) Z Z
 generalize zI0 (fun x y => x * y) a b = r at *
 unfold zEN at *
 refine rn0 ?_
 refine zB Z Z Z h1 ?_
 refine rn2 ?_
 exact zL hR Z Z
theorem rneg_ok (a : List UInt8) (ha : a.length ≤ 9223372036854775807) : zU Tryz.prog 30 [.str a] (zEN (oneR (fun x => -x) a)) := by
 have h1 := rone_ok a ha 85 (fun x => -x) (fun hE => by
  have za := sz_v hE
  exact ⟨zQS _, (sz_neg za).mono (by decide)⟩)
 refine zQ.value0 (zE (P := Tryz.prog) (fn := Tryz.f30) Z Z (by kernel_rfl) Z (fun c hR hfix => ?_)) (fix := fun _ => False) (fun _ h => h) Z Z
 generalize oneR (fun x => -x) a = r at *
 unfold zEN at *
 refine rn0 ?_
 refine zB Z Z Z h1 ?_
 refine rn2 ?_
 exact zL hR Z Z
section
variable {α : Type}
theorem zN2 (d : α) (n : Nat) (e : α → List AV) (ls : List α) (s : α) (cx : Cells) (h0 : ∀ j, j < n → cx.at 0 j = (e s).getD j .any) (i j : Nat) (hi : i < ls.length + 1) (hj : j < n) :
 (bif Nat.blt i ls.length then (rowE d n e ls).at i j else cx.at (0 + (i - ls.length)) j) = (rowE d n e (ls ++ [s])).at i j := by
 rcases Nat.lt_or_ge i ls.length with h | h
 ·have e1 : Nat.blt i ls.length = true := by rw [Nat.blt_eq]; exact h
  rw [e1]
  simp only [rowE, Cells.at, cond_true, List.getD, List.getElem?_append_left h]
 ·have hie : i = ls.length := by omega
  have e1 : Nat.blt i ls.length = false := by rw [← Bool.not_eq_true, Nat.blt_eq]; omega
  subst hie
  rw [e1]
  simp only [cond_false, Nat.sub_self, Nat.zero_add]
  rw [h0 j hj]
  simp [rowE, Cells.at, List.getD]
theorem zAQ (d : α) (n : Nat) (e : α → List AV) (ls : List α) (s : α) (cx : Cells) (h0 : ∀ j, j < n → cx.at 0 j = (e s).getD j .any) :
 CEq (.fn (ls.length + 1) n (fun i j => bif Nat.blt i ls.length then (rowE d n e ls).at i j else cx.at (0 + (i - ls.length)) j)) (rowE d n e (ls ++ [s])) := by
 refine ⟨by simp [rowE, Cells.len], Z, fun i j hi hj => ?_⟩
 exact (zN2 d n e ls s cx h0 i j hi hj).symm
theorem zAH (d : α) (n : Nat) (e : α → List AV) (hn : ∀ a j h, j < n → ((e a).getD j .any).forget h = (e a).getD j .any) (ls : List α) (s : α) (cx : Cells) (h0 : ∀ j, j < n → cx.at 0 j = (e s).getD j .any) (h i j : Nat) (hi : i < ls.length + 1) (hj : j < n) :
 (bif Nat.blt i ls.length then (rowE d n e ls).at i j else cx.at (0 + (i - ls.length)) j).forget h = (bif Nat.blt i ls.length then (rowE d n e ls).at i j else cx.at (0 + (i - ls.length)) j) := by
 rw [zN2 d n e ls s cx h0 i j hi hj]; exact hn _ _ _ hj
theorem zCC {β : Type} (f : α → β) (l : List α) (d : α) (k : Nat) (hk : k < l.length) : (l.take (k + 1)).map f = (l.take k).map f ++ [f (l.getD k d)] := by
 rw [List.take_succ_eq_append_getElem hk, List.map_append]; simp [List.getD, hk]
end
def zT (q : Rat) : List AV := [.bool (decide (q.num < 0)), zh q.num.natAbs, zh q.den]
abbrev qsC (l : List Rat) : Cells := rowE 0 3 zT l
theorem zAf (q : Rat) (j h : Nat) (hj : j < 3) : ((zT q).getD j .any).forget h = (zT q).getD j .any := by
 match j, hj with
 | 0, _ => rfl
 | 1, _ => rfl
 | 2, _ => rfl
theorem zAv (l : List Rat) : zAd (qsC l) := by
 intro i j _ hj
 show noRef ((zT (l.getD i 0)).getD j .any) = true
 have hj : j < 3 := hj
 match j, hj with
 | 0, _ => rfl
 | 1, _ => rfl
 | 2, _ => rfl
theorem zCh (q : Rat) (j : Nat) (hj : j < 3) : (zBt 1 3 [.bool (decide (q.num < 0)), zh q.num.natAbs, zh q.den]).at 0 j = (zT q).getD j .any := by
 match j, hj with
 | 0, _ => rfl
 | 1, _ => rfl
 | 2, _ => rfl
theorem in_ok (l : List (List UInt8)) (hlen : l.length ≤ 1000000) (hs : ∀ s ∈ l, s.length ≤ 9223372036854775807 ∧ zCf s = 0) : zU Tryz.prog 67 [.ro (.strs l) 0 l.length] (.ro (qsC (l.map zv)) 0 l.length) := by
 refine zQ.value0 (zE (P := Tryz.prog) (fn := Tryz.f67) Z Z (by kernel_rfl) Z (fun c hR hfix => ?_)) (fix := fun _ => False) (fun _ h => h) Z Z
 refine rn8 ?_
 refine zAb 3 ⟨104, qsC []⟩ Z Z ?_
 repeat (refine zAA ?_)
 refine zZ (ι := Nat) (fun k => [(0, .ro (.strs l) 0 l.length), (3, .sl 0 0 k), (6, .ro (.strs l) 0 l.length), (7, iN l.length), (8, iN k)]) (fun k => [some ⟨104, qsC ((l.take k).map zv)⟩])
  (fun k => k ≤ l.length) (fun k => l.length - k) 0 ⟨⟨rfl, rfl, rfl, rfl, rfl, trivial⟩, rfl, Nat.zero_le _⟩ ?_
 intro k hk
 refine rn4 ?_
 refine zA Z (fun h => ?_) (fun h => ?_)
 ·have hk' : k < l.length := by omega
  obtain ⟨b1, b2⟩ := hs _ (zAN [] hk')
  have hc := zFB (l.getD k []) b1 b2
  have htk := zCC zv l [] k hk'
  have hml : ((l.take k).map zv).length = k := by rw [List.length_map, List.length_take]; omega
  generalize (l.take k).map zv = qs at *
  refine rn9 ?_
  refine zB Z Z Z hc ?_
  unfold qA
  repeat (refine zf rfl rfl rfl rfl rfl rfl rfl rfl rfl rfl rfl ?_)
  refine zo Z Z Z Z Z Z Z Z Z hml Z Z (by show 0 + 1 ≤ 1; omega) Z (by show (k + 1) * 56 ≤ _ ∧ _; omega) ?_ (by rw [hfix]; exact fun h => h) ?_
  ·intro i' j hi hj
   exact zAH 0 3 zT zAf qs (zv (l.getD k [])) _ (zCh _) 0 i' j hi hj
  refine zDt ?_
  refine zI ?_
  refine zBL [some ⟨104, qsC ((l.take (k + 1)).map zv)⟩] ?_ ?_
  ·rw [htk]
   exact zP.eqv (zAQ 0 3 zT qs (zv (l.getD k [])) _ (zCh _)) zP.nil
  refine rn3 ?_
  exact zJ ⟨k + 1, by omega, by omega, ⟨Z, Z, Z, Z, Z, trivial⟩, Z⟩
 ·have hk' : k = l.length := by omega
  subst hk'
  rw [List.take_length]
  refine zF6 ?_
  refine zAL 0 3 l.length [] Z (zAv _) Z (by show _ ≤ (l.map zv).length; rw [List.length_map]; exact Nat.le_refl _) trivial ?_
  refine rn0 ?_
  exact zL hR Z Z
end Go.Proofs.YtkncmbklkhjmgaaGreatDoor
namespace Go.Proofs.YtkncmbklkhjmgaaGreatDoor
open Go.Ax Go.Ax.Bg Go.Ax.Rt Go.RowKit
attribute [local irreducible] Ax zBn QOp zQ zBX
open Go.Ax.Idx Go.Ax.Cd
theorem zO5 (l : List (List UInt8)) (g : FuncId) (caps : List AV) (p : List UInt8 → Bool) (hc : noRef.noRefs caps = true) (hlen : l.length ≤ 9223372036854775807) (hp : ∀ x ∈ l, zU Tryz.prog g ([.str x] ++ caps) (.bool (p x))) :
 zU Tryz.prog 189 [.ro (.strs l) 0 l.length, .fn g caps] (.int .i64 (idxF p l)) := by
 refine zQ.value0 (zE (P := Tryz.prog) (fn := Tryz.f189) Z Z (by kernel_rfl) Z (fun c hR hfix => ?_)) (fix := fun _ => False) (fun _ h => h) (by simp [noRef.noRefs, noRef, hc]) Z
 refine rn3 ?_
 refine zZ (ι := Nat) (fun k => [(0, .ro (.strs l) 0 l.length), (1, .fn g caps), (7, iN l.length), (8, iN k)]) (fun _ => [])
  (fun k => k ≤ l.length ∧ (l.take k).any p = false) (fun k => l.length - k) 0 ⟨⟨rfl, rfl, rfl, rfl, trivial⟩, rfl, Nat.zero_le _, rfl⟩ ?_
 intro k ⟨hk, hany⟩
 refine rn4 ?_
 refine zA Z (fun h => ?_) (fun h => ?_)
 ·have hk' : k < l.length := by omega
  have hanys := zC9 p l [] k hk'
  refine rn9 ?_
  refine zB Z Z Z (hp _ (zAN [] hk')) ?_
  refine rn0 ?_
  refine zEg Z (fun h2 => ?_) (fun h2 => ?_)
  ·refine rn6 ?_
   refine zL hR Z ?_
   have := idxF_take p l k hany hk
   rw [zCl l [] k hk'] at this
   simp only [idxF, h2, if_true] at this
   rw [this]; simp [zBw]
  ·refine rn5 ?_
   refine zJ ⟨k + 1, ⟨by omega, by rw [hanys, hany, h2]; rfl⟩, by omega, ⟨Z, Z, Z, Z, trivial⟩, Z⟩
 ·have hk' : k = l.length := by omega
  subst hk'
  refine rn5 ?_
  refine zL hR Z ?_
  have := idxF_take p l l.length hany hk
  rw [List.drop_length] at this
  rw [this]; rfl
theorem zQu (l : List (List UInt8)) (g : FuncId) (caps : List AV) (p : List UInt8 → Bool) (hc : noRef.noRefs caps = true) (hlen : l.length ≤ 9223372036854775807) (hp : ∀ x ∈ l, zU Tryz.prog g ([.str x] ++ caps) (.bool (p x))) :
 zU Tryz.prog 116 [.ro (.strs l) 0 l.length, .fn g caps] (.bool (l.any p)) := by
 refine zQ.value0 (zE (P := Tryz.prog) (fn := Tryz.f116) Z Z (by kernel_rfl) Z (fun c hR hfix => ?_)) (fix := fun _ => False) (fun _ h => h) (by simp [noRef.noRefs, noRef, hc]) Z
 refine rn0 ?_
 refine zB Z Z Z (zO5 l g caps p hc hlen hp) ?_
 refine rn8 ?_
 refine zL hR Z ?_
 simp only [zBw, zIe]
theorem ratNeg1 (s : List UInt8) (hs : s.length ≤ 9223372036854775807) : zU Tryz.prog 253 [.str s] (.bool (zDb s)) := by
 have h1 := zJ2 s [45] hs (by decide)
 rw [zQP] at h1
 refine zQ.value0 (zE (P := Tryz.prog) (fn := Tryz.f253) Z Z (by kernel_rfl) Z (fun c hR hfix => ?_)) (fix := fun _ => False) (fun _ h => h) Z Z
 refine rn0 ?_
 refine zB Z Z Z h1 ?_
 refine rn0 ?_
 exact zL hR Z Z
theorem zPD (l : List Rat) (hlen : l.length ≤ 1000000) (hs : ∀ q ∈ l, Sz 100000 q) (hall : l.all zBp = true) : zU Tryz.prog 63 [.ro (qsC l) 0 l.length] (.tup [.ro (.strs (l.map zt)) 0 l.length, .int .i64 0]) := by
 refine zQ.value0 (zE (P := Tryz.prog) (fn := Tryz.f63) Z Z (by kernel_rfl) Z (fun c hR hfix => ?_)) (fix := fun _ => False) (fun _ h => h) Z Z
 refine rn8 ?_
 refine zAb 4 ⟨26, .strs []⟩ Z Z ?_
 repeat (refine zAA ?_)
 refine zZ (ι := Nat) (fun k => [(0, .ro (qsC l) 0 l.length), (4, .sl 0 0 k), (9, .ro (qsC l) 0 l.length), (10, iN l.length), (11, iN k)]) (fun k => [some ⟨26, .strs ((l.take k).map zt)⟩])
  (fun k => k ≤ l.length ∧ (l.drop k).all zBp = true) (fun k => l.length - k) 0 ⟨⟨rfl, rfl, rfl, rfl, rfl, trivial⟩, rfl, Nat.zero_le _, hall⟩ ?_
 rintro k ⟨hk, hA⟩
 refine rn4 ?_
 refine zA Z (fun h => ?_) (fun h => ?_)
 ·have hk' : k < l.length := by omega
  have hz := hs _ (zAN 0 hk')
  have hd := zEs (d := (0 : Rat)) hk'
  rw [hd, List.all_cons] at hA
  have htk := zCC zt l 0 k hk'
  have hml : ((l.take k).map zt).length = k := by rw [List.length_map, List.length_take]; omega
  generalize hX : (l.take k).map zt = ts at *
  refine rn6 ?_
  refine zD 14 (.agg (zT (l.getD k 0))) Z (AEq.of_eq Z) ?_
  generalize l.getD k 0 = q at *
  refine sa1 (c' := .box (zT q)) Z Z Z Z Z Z Z ?_
  rw [Bool.and_eq_true] at hA
  have hc := zMo q hz hA.1
  refine rn6 ?_
  refine zB Z Z Z hc ?_
  refine rn4 ?_
  refine zo Z Z Z Z Z Z Z Z Z hml Z Z (by show 0 + 1 ≤ 1; omega) Z (by show (k + 1) * 16 ≤ _ ∧ _; omega) (fun i j _ _ => rfl) (by rw [hfix]; exact fun h => h) ?_
  refine zDt ?_
  refine zI ?_
  refine zBL ([some ⟨26, .strs ((l.take (k + 1)).map zt)⟩] ++ [none]) ?_ ?_
  ·rw [htk]
   exact zP.eqv (CEq.refl _) (zP.drop zP.nil)
  refine zD9 (H1 := [some ⟨26, .strs ((l.take (k + 1)).map zt)⟩]) Z (by rw [hfix]; exact fun h => h) ?_
  refine rn3 ?_
  exact zJ ⟨k + 1, ⟨by omega, hA.2⟩, by omega, ⟨Z, Z, Z, Z, Z, trivial⟩, Z⟩
 ·have hk' : k = l.length := by omega
  subst hk'
  rw [List.take_length]
  refine zF6 ?_
  refine zAL 0 4 l.length [] Z (fun _ _ _ _ => rfl) Z (by show _ ≤ (l.map zt).length; rw [List.length_map]; exact Nat.le_refl _) trivial ?_
  refine rn0 ?_
  exact zL hR Z Z
theorem zRN (l : List Rat) (hlen : l.length ≤ 1000000) (hs : ∀ q ∈ l, Sz 100000 q) (hall : l.all zBp = false) : zU Tryz.prog 63 [.ro (qsC l) 0 l.length] (.tup [.nil, .int .i64 2]) := by
 refine zQ.value0 (zE (P := Tryz.prog) (fn := Tryz.f63) Z Z (by kernel_rfl) Z (fun c hR hfix => ?_)) (fix := fun _ => False) (fun _ h => h) Z Z
 refine rn8 ?_
 refine zAb 4 ⟨26, .strs []⟩ Z Z ?_
 repeat (refine zAA ?_)
 refine zZ (ι := Nat) (fun k => [(0, .ro (qsC l) 0 l.length), (4, .sl 0 0 k), (9, .ro (qsC l) 0 l.length), (10, iN l.length), (11, iN k)]) (fun k => [some ⟨26, .strs ((l.take k).map zt)⟩])
  (fun k => k ≤ l.length ∧ (l.drop k).all zBp = false) (fun k => l.length - k) 0 ⟨⟨rfl, rfl, rfl, rfl, rfl, trivial⟩, rfl, Nat.zero_le _, hall⟩ ?_
 rintro k ⟨hk, hA⟩
 refine rn4 ?_
 refine zA Z (fun h => ?_) (fun h => ?_)
 ·have hk' : k < l.length := by omega
  have hz := hs _ (zAN 0 hk')
  have hd := zEs (d := (0 : Rat)) hk'
  rw [hd, List.all_cons] at hA
  have htk := zCC zt l 0 k hk'
  have hml : ((l.take k).map zt).length = k := by rw [List.length_map, List.length_take]; omega
  generalize hX : (l.take k).map zt = ts at *
  refine rn6 ?_
  refine zD 14 (.agg (zT (l.getD k 0))) Z (AEq.of_eq Z) ?_
  generalize l.getD k 0 = q at *
  refine sa1 (c' := .box (zT q)) Z Z Z Z Z Z Z ?_
  cases hf : zBp q
  ·have hc := out_no q hz hf
   refine rn6 ?_
   refine zB Z Z Z hc ?_
   refine rn6 ?_
   exact zL hR Z Z
  ·have hc := zMo q hz hf
   rw [hf, Bool.true_and] at hA
   refine rn6 ?_
   refine zB Z Z Z hc ?_
   refine rn4 ?_
   refine zo Z Z Z Z Z Z Z Z Z hml Z Z (by show 0 + 1 ≤ 1; omega) Z (by show (k + 1) * 16 ≤ _ ∧ _; omega) (fun i j _ _ => rfl) (by rw [hfix]; exact fun h => h) ?_
   refine zDt ?_
   refine zI ?_
   refine zBL ([some ⟨26, .strs ((l.take (k + 1)).map zt)⟩] ++ [none]) ?_ ?_
   ·rw [htk]
    exact zP.eqv (CEq.refl _) (zP.drop zP.nil)
   refine zD9 (H1 := [some ⟨26, .strs ((l.take (k + 1)).map zt)⟩]) Z (by rw [hfix]; exact fun h => h) ?_
   refine rn3 ?_
   exact zJ ⟨k + 1, ⟨by omega, hA⟩, by omega, ⟨Z, Z, Z, Z, Z, trivial⟩, Z⟩
 ·have hk' : k = l.length := by omega
  subst hk'
  rw [List.drop_length] at hA
  exact absurd hA (by decide)
end Go.Proofs.YtkncmbklkhjmgaaGreatDoor
